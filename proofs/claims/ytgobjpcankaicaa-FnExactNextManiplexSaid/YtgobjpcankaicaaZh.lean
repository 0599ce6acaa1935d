/-
  The texts Srt, C3, C4, C5, C6, C7, D6, K3, K4, Rc2, K5, Iso, Cmp, Ls2, Rpl, C8, C9, C11, Del in one. Conditions: as each part states them.
-/
import Derived.Test.YtgobjpcankaicaaLay
import Derived.Shelf.SortM.Plain
import Derived.Test.YtgobjpcankaicaaZe
import Derived.Test.YtgobjpcankaicaaInst
import Derived.Test.YtgobjpcankaicaaZc
import Derived.Test.YtgobjpcankaicaaZb
import Derived.Test.YtgobjpcankaicaaZd
import Derived.Test.YtgobjpcankaicaaZg
/-
  The library's sort of a list of one's own. Conditions: the list has an element.
-/
namespace Go.Proofs.Ytgobjpcankaicaa.Vc
open Go.RowKit Go.Sort

theorem heap_srt {w : World} {g n off : Nat} {os : Array Obj} {cur : Array Value} {e : TypeId} {fr : Nat × Nat} (d : Array Int) (hb : w.heap[g]? = some (.cells cur e fr)) :
    (Go.Sort.grow (putRow (Value.int .i64) (Sort.ahead w n) g off d) os).heap[g]? = some (.cells (putCells (Value.int .i64) off d cur) e fr) := by
  have hg : g < w.heap.size := (Array.getElem?_eq_some_iff.1 hb).1
  rw [heap_grow_old _ _ (by simpa using hg)]
  simp [putRow, mapBlock, Sort.ahead, Array.getElem?_modify, hb, onCells]
theorem grownBy_srt {w : World} {g n off : Nat} {os : Array Obj} (d : Array Int) : GrB w (Go.Sort.grow (putRow (Value.int .i64) (Sort.ahead w n) g off d) os) (some g) := by
  refine ⟨⟨rfl, rfl, rfl, by simp, fun k hk hne => ?_⟩, Nat.le_add_right _ _⟩
  rw [heap_grow_old _ _ (by simpa using hk)]
  have : g ≠ k := fun e => hne (by rw [e])
  simp [putRow, mapBlock, Sort.ahead, Array.getElem?_modify, this]

theorem sort_c {w0 w : World} {ks : List Ck} (i : Nat) {t : TypeId} {A : Option Addr} {n c : Nat} {xs : List Int} (hS : St w0 w ks) (hk : ks[i]? = some (CkI t A n c xs)) (h0 : 0 < n) (hn : n ≤ 1000000000) :
    Ret Try.prog 147 [.slice A n c] w (fun v w' => v = .tuple #[] ∧ St w0 w' (ks.set i (CkI t A n c (srt xs)))) := by
  obtain ⟨h1, h2, h3, h4⟩ := hS.getC hk (isM_I _)
  have hl : xs.length = n := hS.lenI i hk
  have h2 : n ≤ c := h2
  rcases h4 with ⟨_, hc0⟩ | ⟨g, o, cur, hA, hg, hh, hs, hc⟩
  · have hc0 : c = 0 := hc0
    omega
  have hA : A = some ⟨g, o, none⟩ := hA
  have hs : o + c ≤ cur.size := hs
  have hc : ∀ j, j < n → cur[o + j]? = (xs.map (Value.int .i64))[j]? := hc
  subst hA
  subst hl
  have hH : Holds (Value.int .i64) w g o xs.toArray := fun j hj => by
    have hj' : j < xs.length := by simpa using hj
    refine ⟨?_, by simp [World.frozen?, hh]⟩
    simp only [World.cell?, hh]
    simp only [Option.isSome_none, Bool.false_eq_true, if_false]
    rw [hc j hj']
    simp [hj']
  have hlt : g < w.heap.size := (Array.getElem?_eq_some_iff.1 hh).1
  have key := AnyM.slices_Sort_int lsort g o c xs w hH hlt (by omega)
  refine Calls.mono key fun x w' ⟨hx, m, os, hw⟩ => ⟨_, hx, rfl, ?_⟩
  subst hw
  have hsl : (srt xs).length = xs.length := (srt_perm xs).length_eq
  refine hS.turn hk rfl rfl (grownBy_srt _) (.ofC (isM_I _) ⟨by simp [hsl], h2, h3, .inr ⟨g, o, _, rfl, hg, heap_srt _ hh, by simp only [putCells, Array.size_mapIdx]; exact hs, fun j hj => ?_⟩⟩)
  have hj : j < xs.length := hj
  show (putCells (Value.int .i64) o (srt xs).toArray cur)[o + j]? = ((srt xs).map (Value.int .i64))[j]?
  have hlt2 : o + j < cur.size := by have : xs.length ≤ c := h2; omega
  simp [putCells, hlt2, hsl, hj]
end Go.Proofs.Ytgobjpcankaicaa.Vc
/-
  The walks of the program's permutations that words do, and of their cycles. Conditions: as each states them.
-/
namespace Go.Proofs.Ytgobjpcankaicaa.Vc
open Go.RowKit

theorem isGraphed_c (A : Option Addr) (n c : Nat) (rs : List SlV) (xss : List (List Int)) (w : World) (hR : RowsI w A n rs xss) (hn : n ≤ c) (hc : c ≤ 9223372036854775807) :
    Ret Try.prog 99 [.agg #[.slice A n c]] w (fun v w' => v = .bool (decide (Grph xss)) ∧ St w w' []) := by
  have hl := hR.len
  refine Ret.of_cd Try.func99 rfl Try.ntmps99 rfl (post1 rfl) ?_
  refine Cd.seq ?_
  refine Cd.region ?_
  -- stop: BOX 24 t0=m -> 1
  refine Ops.box1 (St.refl w) rfl rfl ?_
  intro Ab w1 hS
  refine Ops.mv_bool rfl rfl rfl ?_
  refine Ops.nil ?_
  refine thenQ_n ?_
  refine Cd.seq ?_
  refine Cd.region ?_
  -- stop: FIELDADDR 24 t1=m 0 -> 3
  refine Ops.fld (hS.rd 0 rfl) rfl rfl rfl rfl inferInstance ?_
  refine Ops.ldf_s (hS.rd 0 rfl) rfl rfl rfl rfl rfl ?_
  refine Ops.len rfl rfl ?_
  refine Ops.gtr rfl rfl rfl ?_
  refine Ops.mv_bool rfl rfl rfl ?_
  -- stop: guard 7
  refine Ops.split_p 7 rfl (fun h => ?_) (fun h => ?_)
  · refine Ops.rung rfl rfl rfl ?_
    -- stop: LOAD 24 t1=m -> 8
    refine Ops.ld_agg 0 (hS.rd 0 rfl) rfl rfl rfl ?_
    refine Ops.rung rfl rfl rfl ?_
    -- stop: CALL impl.isManiplex(t8) -> 9
    refine Ops.call (isManiplex_c A n c rs xss _ (hS.oldRows hR) hn hc) rfl rfl rfl ?_
    rintro _ w2 ⟨rfl, hst⟩
    have hS := hS.later hst.below
    refine Ops.pick_t rfl rfl rfl ?_
    refine Ops.mv_bool rfl rfl rfl ?_
    refine Ops.nil ?_
    refine thenQ_n ?_
    refine Cd.ret ?_
    refine ret1_b rfl ?_
    -- stop: end
    exact ⟨by have : 2 ≤ n := by omega
              simp [Grph, hl, this], hS.none⟩
  · refine Ops.skipg rfl rfl rfl rfl rfl ?_
    refine Ops.skipg rfl rfl rfl rfl rfl ?_
    refine Ops.pick_f rfl rfl rfl ?_
    refine Ops.mv_bool rfl rfl rfl ?_
    refine Ops.nil ?_
    refine thenQ_n ?_
    refine Cd.ret ?_
    refine ret1_b rfl ?_
    -- stop: end
    exact ⟨by have : ¬ 2 ≤ n := by omega
              simp [Grph, hl, this], hS.none⟩

def idL (n : Nat) : List Int := (List.range n).map fun x : Nat => (x : Int)
theorem idL_set {n k : Nat} {l : List Int} (hk : k < n) (hl : l.length = n) (h : ∀ j, j < k → l[j]? = some (j : Int)) : ∀ j, j < k + 1 → (l.set k (k : Int))[j]? = some (j : Int) := fun j hj => by
  rw [List.getElem?_set]
  by_cases e : k = j
  · subst e; rw [if_pos rfl, if_pos (by omega)]
  · rw [if_neg e]; exact h j (by omega)
def thenL (p q : List Int) : List Int := p.map fun x => gi q x
end Go.Proofs.Ytgobjpcankaicaa.Vc
/-
  The walks of the program's lengths of a word. Conditions: as each states them.
-/
namespace Go.Proofs.Ytgobjpcankaicaa.Vc
open Go.RowKit

theorem runW_inj {F : Nat} {xss : List (List Int)} (hs : Sys F xss) (hi : Inj F xss) : ∀ (ws : List Int) (x y : Int), (∀ i ∈ ws, 0 ≤ i ∧ i < xss.length) → 0 ≤ x → x < F → 0 ≤ y → y < F → runW xss x ws = runW xss y ws → x = y
  | [], _, _, _, _, _, _, _, h => h
  | i :: ws, x, y, hw, h0, h1, h2, h3, h => by
    have hm := hw i (by simp)
    have gx := (hs _ (gl_in hm.1 hm.2)).2 x h0 h1
    have gy := (hs _ (gl_in hm.1 hm.2)).2 y h2 h3
    exact hi _ (gl_in hm.1 hm.2) x y h0 h1 h2 h3 (runW_inj hs hi ws _ _ (fun j hj => hw j (by simp [hj])) gx.1 gx.2 gy.1 gy.2 h)
theorem does_len (xss : List (List Int)) (F : Nat) (ws : List Int) : (doesL xss F ws).length = F := by simp [doesL]
theorem does_perm {F : Nat} {xss : List (List Int)} (hs : Sys F xss) (hi : Inj F xss) (hF : F ≤ 400) {ws : List Int} (hw : ∀ i ∈ ws, 0 ≤ i ∧ i < xss.length) : IsPerm (doesL xss F ws) := by
  refine ⟨by rw [does_len]; exact hF, fun x hx => ?_, ?_⟩
  · rw [does_len]
    obtain ⟨y, hy, rfl⟩ := List.mem_map.1 hx
    exact runW_lt hs ws _ hw (by omega) (by have := List.mem_range.1 hy; omega)
  · unfold doesL
    rw [List.Nodup, List.pairwise_map]
    refine (List.nodup_range (n := F)).imp_of_mem fun {a b} ha hb hab h => hab ?_
    have ha := List.mem_range.1 ha
    have hb := List.mem_range.1 hb
    have := runW_inj hs hi ws (a : Int) (b : Int) hw (by omega) (by omega) (by omega) (by omega) h
    omega
theorem does_nil (xss : List (List Int)) (F : Nat) : doesL xss F [] = idL F := rfl
theorem does_step {xss : List (List Int)} {F : Nat} {ws : List Int} {k : Nat} (hk : k < ws.length) : thenL (doesL xss F (ws.take k)) (gl xss (gi ws k)) = doesL xss F (ws.take (k + 1)) := by
  unfold thenL doesL
  rw [List.map_map]
  refine List.map_congr_left fun x _ => ?_
  rw [runW_take hk]; rfl

end Go.Proofs.Ytgobjpcankaicaa.Vc
/-
  The walks of the lengths of cycles, and of the Petrie word's lengths on both sides. Conditions: as each states them.
-/
namespace Go.Proofs.Ytgobjpcankaicaa.Vc
open Go.RowKit

theorem cyAll_pos {p : List Int} {n : Nat} (hn : 0 < n) : 0 < (cyAll p n).length := by
  rw [cyAll_eq, cycs_step hn]
  have h : ¬ gb (List.replicate n false) ((0 : Nat) : Int) = true := by simp [gb, List.getD_eq_getElem?_getD, List.getElem?_replicate, hn]
  rw [goC_step (by simpa using hn) h]
  simp

theorem idL_get {n k : Nat} (h : k < n) : gi (idL n) (k : Int) = (k : Int) := by simp [gi, idL, List.getD_eq_getElem?_getD, h]
/-- the lengths of a word of a maniplex -/
def wordL (xss : List (List Int)) (ws : List Int) : List Int := srt (lenAll (doesL xss (gl xss 0).length ws) (gl xss 0).length)
theorem wordL_len (xss : List (List Int)) (ws : List Int) : (wordL xss ws).length = (lenAll (doesL xss (gl xss 0).length ws) (gl xss 0).length).length := (srt_perm _).length_eq
theorem wordL_le {xss : List (List Int)} (ws : List Int) (h : Mani xss) : (wordL xss ws).length ≤ 400 := by
  rw [wordL_len]
  have := lenAll_le (doesL xss (gl xss 0).length ws) (gl xss 0).length
  have := h.2.1
  omega

/-- the answer: a list of numbers in memory of its own, and a code -/
def AnsR (L : List Int) (K : Int) (w : World) (v : Value) (w' : World) : Prop := ∃ A' c', v = .tuple #[.slice A' L.length c', .int .i64 K] ∧ St w w' [CkI 2 A' L.length c' L]
theorem AnsR.none {w w' : World} {ks : List Ck} {K : Int} (h : St w w' ks) : AnsR [] K w (.tuple #[.slice Option.none 0 0, .int .i64 K]) w' := ⟨Option.none, 0, rfl, h.none.nil _⟩
theorem AnsR.word {w w' : World} {ks : List Ck} {A : Option Addr} {c : Nat} {xss : List (List Int)} {ws : List Int} (h : St w w' (CkI 2 A (lenAll (doesL xss (gl xss 0).length ws) (gl xss 0).length).length c (srt (lenAll (doesL xss (gl xss 0).length ws) (gl xss 0).length)) :: ks)) :
    AnsR (wordL xss ws) 0 w (.tuple #[.slice A (lenAll (doesL xss (gl xss 0).length ws) (gl xss 0).length).length c, .int .i64 0]) w' :=
  ⟨A, c, by rw [wordL_len], by rw [wordL_len]; exact h.sub (List.Sublist.cons_cons _ (List.nil_sublist _))⟩

def petrieL (xss : List (List Int)) : List Int := if Grph xss then wordL xss (idL xss.length) else []
def petrieK (xss : List (List Int)) : Int := if Grph xss then 0 else 1

end Go.Proofs.Ytgobjpcankaicaa.Vc
/-
  The walks of the laws' marks, which tell memory apart. Conditions: as each states them.
-/
namespace Go.Proofs.Ytgobjpcankaicaa.Vc
open Go.RowKit

theorem set_id {α : Type} {l : List α} {i : Nat} {x : α} (h : l[i]? = some x) : l.set i x = l := by
  apply List.ext_getElem?
  intro j
  rw [List.getElem?_set]
  split
  · rename_i e; subst e
    rw [if_pos (List.getElem?_eq_some_iff.1 h).1, h]
  · rfl
theorem Rd.one {w : World} {A : Option Addr} {n : Nat} {f : Nat → Value} (h : Rd w A (n + 1) f) : Rd w A 1 (fun _ => f 0) := fun j hj => by
  obtain rfl : j = 0 := by omega
  exact h 0 (by omega)

theorem small_of {n : Nat} {rs : List SlV} (hl : rs.length = n) (h : 0 ≤ szSS (lens rs) 1048576) : n ≤ 1048576 ∧ ∀ i, i < n → (rs.getD i slNil).n ≤ 1048576 := by
  have h1 := szSS_fits (by omega) h
  refine ⟨by have := h1.2.1; simp [lens] at this; omega, fun i hi => ?_⟩
  have := h1.2.2 (rs.getD i slNil).n (by
    simp only [lens, List.mem_map]
    exact ⟨rs[i]'(by omega), List.getElem_mem _, by simp [List.getD_eq_getElem?_getD, List.getElem?_eq_getElem (show i < rs.length by omega)]⟩)
  omega

/-- the marks from k on -/
def marks (k : Int) (n : Nat) : List Int := (List.range n).map fun j : Nat => k + (j : Int)
theorem marks_len (k : Int) (n : Nat) : (marks k n).length = n := by simp [marks]
theorem marks_get {k : Int} {n j : Nat} (h : j < n) : gi (marks k n) (j : Int) = k + j := by simp [gi, marks, List.getD_eq_getElem?_getD, h]

theorem markInt64S_c {w0 w : World} {ks : List Ck} (i : Nat) {t : TypeId} {A : Option Addr} {n c : Nat} {xs : List Int} (k : Int) (hS : St w0 w ks) (hk : ks[i]? = some (CkI t A n c xs)) (hk0 : 0 ≤ k ∧ k + n ≤ 4611686018427387904) :
    Ret Try.prog 26 [.slice A n c, .int .i64 k] w (fun v w' => v = .int .i64 (k + n) ∧ St w0 w' (ks.set i (CkI t A n c (marks k n)))) := by
  have hil : i < ks.length := (List.getElem?_eq_some_iff.1 hk).1
  have hxl : xs.length = n := hS.lenI i hk
  have get : ∀ l, (ks.set i (CkI t A n c l))[i]? = some (CkI t A n c l) := fun l => by simp [hil]
  have hS0 : St w0 w (ks.set i (CkI t A n c xs)) := by rwa [set_id hk]
  refine Ret.of_cd Try.func26 rfl Try.ntmps26 rfl (post1 rfl) ?_
  refine Cd.seq ?_
  refine Cd.region ?_
  refine Ops.mv_int rfl rfl rfl ?_
  refine Ops.nil ?_
  refine thenQ_n ?_
  refine Cd.seq ?_
  refine Cd.seq ?_
  refine Cd.region ?_
  refine Ops.mv_int rfl rfl rfl ?_
  refine Ops.nil ?_
  refine thenQ_n ?_
  refine Cd.block ?_
  -- stop: loop
  refine Cd.loop (α := Nat × List Int) (fun z => [(0, .slice A n c), (1, .int .i64 (k + (z.1 : Int))), (5, .int .i64 (z.1 : Int))]) (fun z w' => St w0 w' (ks.set i (CkI t A n c z.2)) ∧ z.1 ≤ n ∧ z.2.length = n ∧ ∀ j, j < z.1 → z.2[j]? = some (k + (j : Int))) (fun z => n - z.1) (0, xs) ⟨rfl, by show Value.int .i64 _ = .int .i64 _; simp, rfl, trivial⟩ ⟨hS0, Nat.zero_le _, hxl, fun j hj => by omega⟩ ?_
  rintro ⟨m, l⟩ e w1 ⟨hS1, hm, hll, hK⟩
  dsimp only at hS1 hm hll hK ⊢
  refine Cd.seq ?_
  refine Cd.seq ?_
  refine Cd.region ?_
  refine Ops.mv_int rfl rfl rfl ?_
  refine Ops.mv_sl rfl rfl rfl ?_
  refine Ops.len rfl rfl ?_
  refine Ops.lss rfl rfl rfl ?_
  refine Ops.nil ?_
  refine thenQ_n ?_
  -- stop: cond
  refine Cd.cond_p _ rfl (fun h1 => ?_) (fun h1 => ?_)
  · refine Cd.skip ?_
    refine thenQ_n ?_
    refine Cd.seq ?_
    refine Cd.block ?_
    refine Cd.seq ?_
    refine Cd.region ?_
    refine Ops.mv_sl rfl rfl rfl ?_
    refine Ops.mv_int rfl rfl rfl ?_
    refine Ops.mv_int rfl rfl rfl ?_
    -- stop: INDEXADDR 33 t12 t13 -> 15
    refine Ops.idx (hS1.rdI i (get l)).2 rfl rfl rfl (by omega) (by omega) ?_
    refine Ops.st_int i hS1 (get l) rfl rfl (by omega) ?_
    intro w2 hS2
    rw [List.set_set] at hS2
    refine Ops.nil ?_
    refine thenQ_n ?_
    refine Cd.region ?_
    refine Ops.mv_int rfl rfl rfl ?_
    refine Ops.add rfl rfl rfl (by omega) ?_
    refine Ops.mv_int rfl rfl rfl ?_
    refine Ops.nil ?_
    refine blockQ_n ?_
    refine thenQ_n ?_
    refine Cd.region ?_
    refine Ops.mv_int rfl rfl rfl ?_
    refine Ops.add rfl rfl rfl (by omega) ?_
    refine Ops.mv_int rfl rfl rfl ?_
    refine Ops.nil ?_
    refine thenQ_n ?_
    -- stop: round
    refine ⟨(m + 1, l.set m (k + m)), by show n - (m + 1) < n - m; omega, ⟨rfl, by show Value.int .i64 _ = .int .i64 _; congr 1; show _ = k + ((m + 1 : Nat) : Int); omega, rfl, trivial⟩, hS2, by show m + 1 ≤ n; omega, by show (l.set m _).length = n; rw [List.length_set]; exact hll, fun j hj => ?_⟩
    show (l.set m (k + m))[j]? = _
    rw [List.getElem?_set]
    by_cases ej : m = j
    · subst ej; rw [if_pos rfl, if_pos (by omega)]
    · rw [if_neg ej]; exact hK j (by have : j < m + 1 := hj; omega)
  · refine Cd.exit ?_
    refine thenQ_x ?_
    refine thenQ_x ?_
    refine blockQ_x ?_
    refine thenQ_n ?_
    refine Cd.seq ?_
    refine Cd.region ?_
    refine Ops.mv_int rfl rfl rfl ?_
    refine Ops.mv_int rfl rfl rfl ?_
    refine Ops.nil ?_
    refine thenQ_n ?_
    refine Cd.ret ?_
    refine ret1_i rfl ?_
    -- stop: end
    have hmn : m = n := by omega
    subst hmn
    have he : l = marks k m := by
      apply List.ext_getElem?
      intro j
      by_cases hj : j < m
      · rw [hK j hj]; simp [marks, hj]
      · rw [List.getElem?_eq_none (by omega), List.getElem?_eq_none (by rw [marks_len]; omega)]
    subst he
    exact ⟨rfl, hS1⟩

theorem heldInt64S_c (A : Option Addr) (n c : Nat) (k : Int) (w : World) (hR : RdI w A n (marks k n)) (hk0 : 0 ≤ k ∧ k + n ≤ 4611686018427387904) :
    Ret Try.prog 27 [.slice A n c, .int .i64 k] w (fun v w' => v = .int .i64 (k + n) ∧ w' = w) := by
  refine Ret.of_cd Try.func27 rfl Try.ntmps27 rfl (post1 rfl) ?_
  refine Cd.seq ?_
  refine Cd.region ?_
  refine Ops.mv_int rfl rfl rfl ?_
  refine Ops.nil ?_
  refine thenQ_n ?_
  refine Cd.seq ?_
  refine Cd.seq ?_
  refine Cd.region ?_
  refine Ops.mv_int rfl rfl rfl ?_
  refine Ops.nil ?_
  refine thenQ_n ?_
  refine Cd.block ?_
  -- stop: loop
  refine Cd.loop (α := Nat) (fun z => [(0, .slice A n c), (1, .int .i64 (k + (z : Int))), (5, .int .i64 (z : Int))]) (fun z w' => w' = w ∧ z ≤ n) (fun z => n - z) 0 ⟨rfl, by show Value.int .i64 _ = .int .i64 _; simp, rfl, trivial⟩ ⟨rfl, Nat.zero_le _⟩ ?_
  rintro m e w ⟨rfl, hm⟩
  refine Cd.seq ?_
  refine Cd.seq ?_
  refine Cd.region ?_
  refine Ops.mv_int rfl rfl rfl ?_
  refine Ops.mv_sl rfl rfl rfl ?_
  refine Ops.len rfl rfl ?_
  refine Ops.lss rfl rfl rfl ?_
  refine Ops.nil ?_
  refine thenQ_n ?_
  -- stop: cond
  refine Cd.cond_p _ rfl (fun h1 => ?_) (fun h1 => ?_)
  · have hg := marks_get (k := k) (n := n) (j := m) (by omega)
    refine Cd.skip ?_
    refine thenQ_n ?_
    refine Cd.seq ?_
    refine Cd.block ?_
    refine Cd.seq ?_
    refine Cd.seq ?_
    refine Cd.region ?_
    refine Ops.mv_sl rfl rfl rfl ?_
    refine Ops.mv_int rfl rfl rfl ?_
    -- stop: INDEXADDR 33 t12 t13 -> 14
    refine Ops.idx hR.2 rfl rfl rfl (by omega) (by omega) ?_
    refine Ops.ld_int hR rfl (by omega) rfl rfl ?_
    rw [hg]
    refine Ops.mv_int rfl rfl rfl ?_
    refine Ops.neq rfl rfl rfl ?_
    refine Ops.nil ?_
    refine thenQ_n ?_
    -- stop: cond
    refine Cd.cond_pf rfl (fun h => h rfl) ?_
    refine Cd.skip ?_
    refine thenQ_n ?_
    refine Cd.region ?_
    refine Ops.mv_int rfl rfl rfl ?_
    refine Ops.add rfl rfl rfl (by omega) ?_
    refine Ops.mv_int rfl rfl rfl ?_
    refine Ops.nil ?_
    refine blockQ_n ?_
    refine thenQ_n ?_
    refine Cd.region ?_
    refine Ops.mv_int rfl rfl rfl ?_
    refine Ops.add rfl rfl rfl (by omega) ?_
    refine Ops.mv_int rfl rfl rfl ?_
    refine Ops.nil ?_
    refine thenQ_n ?_
    -- stop: round
    exact ⟨m + 1, by show n - (m + 1) < n - m; omega, ⟨rfl, by show Value.int .i64 _ = .int .i64 _; congr 1; show _ = k + ((m + 1 : Nat) : Int); omega, rfl, trivial⟩, rfl, by show m + 1 ≤ n; omega⟩
  · refine Cd.exit ?_
    refine thenQ_x ?_
    refine thenQ_x ?_
    refine blockQ_x ?_
    refine thenQ_n ?_
    refine Cd.seq ?_
    refine Cd.region ?_
    refine Ops.mv_int rfl rfl rfl ?_
    refine Ops.mv_int rfl rfl rfl ?_
    refine Ops.nil ?_
    refine thenQ_n ?_
    refine Cd.ret ?_
    refine ret1_i rfl ?_
    -- stop: end
    have hmn : m = n := by omega
    subst hmn
    exact ⟨rfl, rfl⟩

theorem markInt64SS_c {w0 w : World} {pre post : List Ck} {t1 t2 : TypeId} {A : Option Addr} {n c : Nat} {rs : List SlV} {xss : List (List Int)} (k : Int) (hS : St w0 w (pre ++ (mat t1 t2 A n c rs xss ++ post))) (hrl : rs.length = n) (hxl : xss.length = n) (hn : n ≤ 1048576) (hr : ∀ i, i < n → (rs.getD i slNil).n ≤ 1048576) (hk0 : 0 ≤ k ∧ k ≤ 1048576) :
    Ret Try.prog 63 [.slice A n c, .int .i64 k] w (fun v w' => ∃ (K : Int) (xss' : List (List Int)), v = .int .i64 K ∧ (0 ≤ K ∧ K ≤ 2199023255552) ∧ xss'.length = n ∧ St w0 w' (pre ++ (mat t1 t2 A n c rs xss' ++ post))) := by
  refine Ret.of_cd Try.func63 rfl Try.ntmps63 rfl (post1 rfl) ?_
  refine Cd.seq ?_
  refine Cd.region ?_
  refine Ops.mv_int rfl rfl rfl ?_
  refine Ops.nil ?_
  refine thenQ_n ?_
  refine Cd.seq ?_
  refine Cd.seq ?_
  refine Cd.region ?_
  refine Ops.mv_int rfl rfl rfl ?_
  refine Ops.nil ?_
  refine thenQ_n ?_
  refine Cd.block ?_
  -- stop: loop
  refine Cd.loop (α := Nat × Int × List (List Int)) (fun z => [(0, .slice A n c), (1, .int .i64 z.2.1), (5, .int .i64 (z.1 : Int))]) (fun z w' => St w0 w' (pre ++ (mat t1 t2 A n c rs z.2.2 ++ post)) ∧ z.1 ≤ n ∧ z.2.2.length = n ∧ 0 ≤ z.2.1 ∧ z.2.1 ≤ 1048576 + (z.1 : Int) * 1048576) (fun z => n - z.1) (0, k, xss) ⟨rfl, rfl, rfl, trivial⟩ ⟨hS, Nat.zero_le _, hxl, hk0.1, by simp; exact hk0.2⟩ ?_
  rintro ⟨i, K, ys⟩ e w1 ⟨hS1, hi, hyl, hK0, hK1⟩
  dsimp only at hS1 hi hyl hK0 hK1 ⊢
  have hM := (hS1.sub (List.sublist_append_right _ _)).rowsI hyl
  refine Cd.seq ?_
  refine Cd.seq ?_
  refine Cd.region ?_
  refine Ops.mv_int rfl rfl rfl ?_
  refine Ops.mv_sl rfl rfl rfl ?_
  refine Ops.len rfl rfl ?_
  refine Ops.lss rfl rfl rfl ?_
  refine Ops.nil ?_
  refine thenQ_n ?_
  -- stop: cond
  refine Cd.cond_p _ rfl (fun h1 => ?_) (fun h1 => ?_)
  · have hi' : i < n := by omega
    have hri := hr i hi'
    have hget := mat_get (t1 := t1) (t2 := t2) (A := A) (n := n) (c := c) (rs := rs) (xss := ys) (pre := pre) (ks := post) (i := i) (by omega) (by omega)
    have hset := fun l => mat_set (t1 := t1) (t2 := t2) (A := A) (n := n) (c := c) (rs := rs) (xss := ys) (pre := pre) (ks := post) (i := i) (xs := l) (by omega) (by omega)
    refine Cd.skip ?_
    refine thenQ_n ?_
    refine Cd.seq ?_
    refine Cd.block ?_
    refine Cd.region ?_
    refine Ops.mv_sl rfl rfl rfl ?_
    refine Ops.mv_int rfl rfl rfl ?_
    -- stop: INDEXADDR 22 t12 t13 -> 14
    refine Ops.idx hM.top.2 rfl rfl rfl (by omega) h1 ?_
    refine Ops.ld_sl hM.top rfl (by omega) rfl rfl ?_
    refine Ops.mv_int rfl rfl rfl ?_
    -- stop: CALL laws.markInt64S(t15, t16) -> 17
    refine Ops.call (markInt64S_c (pre.length + 1 + i) K hS1 hget ⟨hK0, by omega⟩) rfl rfl rfl ?_
    rintro _ w2 ⟨rfl, hS2⟩
    rw [hset] at hS2
    refine Ops.mv_int rfl rfl rfl ?_
    refine Ops.nil ?_
    refine blockQ_n ?_
    refine thenQ_n ?_
    refine Cd.region ?_
    refine Ops.mv_int rfl rfl rfl ?_
    refine Ops.add rfl rfl rfl (by omega) ?_
    refine Ops.mv_int rfl rfl rfl ?_
    refine Ops.nil ?_
    refine thenQ_n ?_
    -- stop: round
    exact ⟨(i + 1, K + ((rs.getD i slNil).n : Int), ys.set i (marks K (rs.getD i slNil).n)), by show n - (i + 1) < n - i; omega, ⟨rfl, rfl, rfl, trivial⟩, hS2, by show i + 1 ≤ n; omega, by show (ys.set i _).length = n; rw [List.length_set]; exact hyl, by show 0 ≤ K + _; omega, by show K + _ ≤ 1048576 + ((i + 1 : Nat) : Int) * 1048576; omega⟩
  · refine Cd.exit ?_
    refine thenQ_x ?_
    refine thenQ_x ?_
    refine blockQ_x ?_
    refine thenQ_n ?_
    refine Cd.seq ?_
    refine Cd.region ?_
    refine Ops.mv_int rfl rfl rfl ?_
    refine Ops.mv_int rfl rfl rfl ?_
    refine Ops.nil ?_
    refine thenQ_n ?_
    refine Cd.ret ?_
    refine ret1_i rfl ?_
    -- stop: end
    exact ⟨K, ys, rfl, ⟨hK0, by omega⟩, hyl, hS1⟩

theorem markManiplex_c {w0 w : World} {pre post : List Ck} {t1 t2 : TypeId} {A : Option Addr} {n c : Nat} {rs : List SlV} {xss : List (List Int)} (k : Int) (hS : St w0 w (pre ++ (mat t1 t2 A n c rs xss ++ post))) (hrl : rs.length = n) (hxl : xss.length = n) (hn : n ≤ 1048576) (hr : ∀ i, i < n → (rs.getD i slNil).n ≤ 1048576) (hk0 : 0 ≤ k ∧ k ≤ 1048576) :
    Ret Try.prog 25 [.agg #[.slice A n c], .int .i64 k] w (fun v w' => ∃ (K : Int) (xss' : List (List Int)), v = .int .i64 K ∧ (0 ≤ K ∧ K ≤ 2199023255552) ∧ xss'.length = n ∧ St w0 w' (pre ++ (mat t1 t2 A n c rs xss' ++ post))) := by
  refine Ret.of_cd Try.func25 rfl Try.ntmps25 rfl (post1 rfl) ?_
  refine Cd.seq ?_
  refine Cd.region ?_
  -- stop: BOX 24 t0=a -> 2
  refine Ops.box1 hS rfl rfl ?_
  intro Ab w1 hS1
  refine Ops.mv_int rfl rfl rfl ?_
  refine Ops.nil ?_
  refine thenQ_n ?_
  refine Cd.seq ?_
  refine Cd.region ?_
  -- stop: FIELDADDR 24 t2=a 0 -> 5
  refine Ops.fld (hS1.rd 0 rfl) rfl rfl rfl rfl inferInstance ?_
  refine Ops.ldf_s (hS1.rd 0 rfl) rfl rfl rfl rfl rfl ?_
  refine Ops.mv_int rfl rfl rfl ?_
  -- stop: CALL laws.markInt64SS(t6, t7) -> 8
  refine Ops.call (markInt64SS_c (pre := Bx 24 1 Ab [.slice A n c] :: pre) (post := post) (rs := rs) k hS1 hrl hxl hn hr hk0) rfl rfl rfl ?_
  rintro _ w2 ⟨K, ys, rfl, hK, hyl, hS2⟩
  refine Ops.mv_int rfl rfl rfl ?_
  refine Ops.nil ?_
  refine thenQ_n ?_
  refine Cd.seq ?_
  refine Cd.region ?_
  refine Ops.mv_int rfl rfl rfl ?_
  refine Ops.mv_int rfl rfl rfl ?_
  refine Ops.nil ?_
  refine thenQ_n ?_
  refine Cd.ret ?_
  refine ret1_i rfl ?_
  -- stop: end
  exact ⟨K, ys, rfl, hK, hyl, St.tail hS2⟩
end Go.Proofs.Ytgobjpcankaicaa.Vc
/-
  The walk of the law FnExactPetrieCycles: it returns true. Conditions: as it states them.
-/
namespace Go.Proofs.Ytgobjpcankaicaa.Vc
open Go.RowKit

theorem St.matNil {w0 w : World} {t1 t2 : TypeId} {A : Option Addr} {n c : Nat} {rs : List SlV} {xss : List (List Int)} {pre : List Ck} (h : St w0 w (pre ++ mat t1 t2 A n c rs xss)) : St w0 w (pre ++ (mat t1 t2 A n c rs xss ++ [])) := by rwa [List.append_nil]

end Go.Proofs.Ytgobjpcankaicaa.Vc
/-
  The laws' marks over lists of lists, told exactly. Conditions: as each states them.
-/
namespace Go.Proofs.Ytgobjpcankaicaa.Vc
open Go.RowKit

def tot (xss : List (List Int)) : Int := ((xss.map List.length).sum : Nat)
theorem tot_snoc (xs : List (List Int)) (x : List Int) : tot (xs ++ [x]) = tot xs + x.length := by simp [tot]
theorem tot_le {b : Nat} : ∀ (xs : List (List Int)), (∀ x ∈ xs, x.length ≤ b) → 0 ≤ tot xs ∧ tot xs ≤ (xs.length * b : Nat)
  | [], _ => by simp [tot]
  | x :: xs, h => by
    have h1 := tot_le xs (fun y hy => h y (by simp [hy]))
    have h2 := h x (by simp)
    have e : tot (x :: xs) = x.length + tot xs := by simp [tot]
    rw [e, List.length_cons, Nat.succ_mul]
    omega
def mkSS (k : Int) : List (List Int) → List (List Int)
  | [] => []
  | x :: xs => marks k x.length :: mkSS (k + x.length) xs
theorem mkSS_len : ∀ (xs : List (List Int)) (k : Int), (mkSS k xs).length = xs.length
  | [], _ => rfl
  | _ :: xs, k => by simp [mkSS, mkSS_len xs]
theorem mkSS_snoc (x : List Int) : ∀ (xs : List (List Int)) (k : Int), mkSS k (xs ++ [x]) = mkSS k xs ++ [marks (k + tot xs) x.length]
  | [], k => by simp [mkSS, tot]
  | y :: xs, k => by
    have e : tot (y :: xs) = y.length + tot xs := by simp [tot]
    simp only [List.cons_append, mkSS]
    rw [mkSS_snoc x xs, e, Int.add_assoc]
theorem mkSS_get {xs : List (List Int)} {k : Int} {i : Nat} (hi : i < xs.length) : (mkSS k xs)[i]? = some (marks (k + tot (xs.take i)) xs[i].length) := by
  have h1 : xs = (xs.take i ++ [xs[i]]) ++ xs.drop (i + 1) := by rw [← List.take_succ_eq_append_getElem hi, List.take_append_drop]
  have gen : ∀ (a b : List (List Int)) (k : Int), ∃ r, mkSS k (a ++ b) = mkSS k a ++ r := by
    intro a
    induction a with
    | nil => intro b k; exact ⟨_, rfl⟩
    | cons y a ih =>
      intro b k
      obtain ⟨r, hr⟩ := ih b (k + y.length)
      exact ⟨r, by simp only [List.cons_append, mkSS]; rw [hr]⟩
  obtain ⟨r, hr⟩ := gen (xs.take i ++ [xs[i]]) (xs.drop (i + 1)) k
  rw [← h1, mkSS_snoc] at hr
  have h2 : (mkSS k (xs.take i)).length = i := by rw [mkSS_len]; simp; omega
  rw [hr, List.append_assoc, List.getElem?_append_right (by omega), h2]
  simp
def mixM (k : Int) (xs : List (List Int)) (i : Nat) : List (List Int) := mkSS k (xs.take i) ++ xs.drop i
theorem mixM_len (k : Int) (xs : List (List Int)) (i : Nat) : (mixM k xs i).length = xs.length := by simp [mixM, mkSS_len]; omega
theorem mixM_get {k : Int} {xs : List (List Int)} {i : Nat} (h : i < xs.length) : (mixM k xs i).getD i [] = xs[i] := by
  have h2 : (mkSS k (xs.take i)).length = i := by rw [mkSS_len]; simp; omega
  rw [mixM, List.getD_eq_getElem?_getD, List.getElem?_append_right (by omega), h2]
  simp [h]
theorem mixM_step {k : Int} {xs : List (List Int)} {i : Nat} (h : i < xs.length) : (mixM k xs i).set i (marks (k + tot (xs.take i)) xs[i].length) = mixM k xs (i + 1) := by
  have h2 : (mkSS k (xs.take i)).length = i := by rw [mkSS_len]; simp; omega
  unfold mixM
  rw [List.set_append_right _ _ (by omega), h2, Nat.sub_self, List.take_succ_eq_append_getElem h, mkSS_snoc, List.append_assoc, List.drop_eq_getElem_cons h]
  rfl

theorem markSS_c {w0 w : World} {pre post : List Ck} {t1 t2 : TypeId} {A : Option Addr} {n c : Nat} {rs : List SlV} {xss : List (List Int)} (k : Int) (hS : St w0 w (pre ++ (mat t1 t2 A n c rs xss ++ post))) (hrl : rs.length = n) (hxl : xss.length = n) (hn : n ≤ 1000) (hr : ∀ x ∈ xss, x.length ≤ 1000) (hk0 : 0 ≤ k ∧ k ≤ 1000000000000000) :
    Ret Try.prog 63 [.slice A n c, .int .i64 k] w (fun v w' => v = .int .i64 (k + tot xss) ∧ St w0 w' (pre ++ (mat t1 t2 A n c rs (mkSS k xss) ++ post))) := by
  refine Ret.of_cd Try.func63 rfl Try.ntmps63 rfl (post1 rfl) ?_
  refine Cd.seq ?_
  refine Cd.region ?_
  refine Ops.mv_int rfl rfl rfl ?_
  refine Ops.nil ?_
  refine thenQ_n ?_
  refine Cd.seq ?_
  refine Cd.seq ?_
  refine Cd.region ?_
  refine Ops.mv_int rfl rfl rfl ?_
  refine Ops.nil ?_
  refine thenQ_n ?_
  refine Cd.block ?_
  -- stop: loop
  refine Cd.loop (α := Nat) (fun i => [(0, .slice A n c), (1, .int .i64 (k + tot (xss.take i))), (5, .int .i64 (i : Int))]) (fun i w' => St w0 w' (pre ++ (mat t1 t2 A n c rs (mixM k xss i) ++ post)) ∧ i ≤ n) (fun i => n - i) 0 ⟨rfl, by show Value.int .i64 _ = .int .i64 _; simp [tot], rfl, trivial⟩ ⟨by simpa [mixM, mkSS] using hS, Nat.zero_le _⟩ ?_
  rintro i e w1 ⟨hS1, hi⟩
  have hyl := mixM_len k xss i
  have hM := (hS1.sub (List.sublist_append_right _ _)).rowsI (by omega)
  have htb := tot_le (b := 1000) (xss.take i) (fun x hx => hr x (List.mem_of_mem_take hx))
  have htl : (xss.take i).length ≤ 1000 := by simp; omega
  have htm : (xss.take i).length * 1000 ≤ 1000 * 1000 := Nat.mul_le_mul_right 1000 htl
  refine Cd.seq ?_
  refine Cd.seq ?_
  refine Cd.region ?_
  refine Ops.mv_int rfl rfl rfl ?_
  refine Ops.mv_sl rfl rfl rfl ?_
  refine Ops.len rfl rfl ?_
  refine Ops.lss rfl rfl rfl ?_
  refine Ops.nil ?_
  refine thenQ_n ?_
  -- stop: cond
  refine Cd.cond_p _ rfl (fun h1 => ?_) (fun h1 => ?_)
  · have hi' : i < xss.length := by omega
    have hget := mat_get (t1 := t1) (t2 := t2) (A := A) (n := n) (c := c) (rs := rs) (xss := mixM k xss i) (pre := pre) (ks := post) (i := i) (by omega) (by omega)
    have hset := fun l => mat_set (t1 := t1) (t2 := t2) (A := A) (n := n) (c := c) (rs := rs) (xss := mixM k xss i) (pre := pre) (ks := post) (i := i) (xs := l) (by omega) (by omega)
    rw [mixM_get hi'] at hget
    have hln := hS1.lenI _ hget
    have hxi := hr xss[i] (List.getElem_mem hi')
    have hst := mixM_step (k := k) hi'
    have htot : tot (xss.take (i + 1)) = tot (xss.take i) + xss[i].length := by rw [List.take_succ_eq_append_getElem hi', tot_snoc]
    refine Cd.skip ?_
    refine thenQ_n ?_
    refine Cd.seq ?_
    refine Cd.block ?_
    refine Cd.region ?_
    refine Ops.mv_sl rfl rfl rfl ?_
    refine Ops.mv_int rfl rfl rfl ?_
    -- stop: INDEXADDR 22 t12 t13 -> 14
    refine Ops.idx hM.top.2 rfl rfl rfl (by omega) h1 ?_
    refine Ops.ld_sl hM.top rfl (by omega) rfl rfl ?_
    refine Ops.mv_int rfl rfl rfl ?_
    -- stop: CALL laws.markInt64S(t15, t16) -> 17
    refine Ops.call (markInt64S_c (pre.length + 1 + i) (k + tot (xss.take i)) hS1 hget ⟨by omega, by omega⟩) rfl rfl rfl ?_
    rintro _ w2 ⟨rfl, hS2⟩
    rw [hset, ← hln, hst] at hS2
    refine Ops.mv_int rfl rfl rfl ?_
    refine Ops.nil ?_
    refine blockQ_n ?_
    refine thenQ_n ?_
    refine Cd.region ?_
    refine Ops.mv_int rfl rfl rfl ?_
    refine Ops.add rfl rfl rfl (by omega) ?_
    refine Ops.mv_int rfl rfl rfl ?_
    refine Ops.nil ?_
    refine thenQ_n ?_
    -- stop: round
    exact ⟨i + 1, by show n - (i + 1) < n - i; omega, ⟨rfl, by show Value.int .i64 _ = .int .i64 _; rw [htot, ← Int.add_assoc, hln], rfl, trivial⟩, hS2, by omega⟩
  · refine Cd.exit ?_
    refine thenQ_x ?_
    refine thenQ_x ?_
    refine blockQ_x ?_
    refine thenQ_n ?_
    refine Cd.seq ?_
    refine Cd.region ?_
    refine Ops.mv_int rfl rfl rfl ?_
    refine Ops.mv_int rfl rfl rfl ?_
    refine Ops.nil ?_
    refine thenQ_n ?_
    refine Cd.ret ?_
    refine ret1_i rfl ?_
    -- stop: end
    have hin : i = n := by omega
    subst hin
    have e1 : xss.take i = xss := List.take_of_length_le (by omega)
    have e2 : mixM k xss i = mkSS k xss := by rw [mixM, e1, List.drop_of_length_le (by omega), List.append_nil]
    rw [e1]
    rw [e2] at hS1
    exact ⟨rfl, hS1⟩

theorem heldSS_c (A : Option Addr) (n c : Nat) (rs : List SlV) (xss : List (List Int)) (k : Int) (w : World) (hR : RowsI w A n rs (mkSS k xss)) (hn : n ≤ 1000) (hr : ∀ x ∈ xss, x.length ≤ 1000) (hk0 : 0 ≤ k ∧ k ≤ 1000000000000000) :
    Ret Try.prog 73 [.slice A n c, .int .i64 k] w (fun v w' => v = .int .i64 (k + tot xss) ∧ w' = w) := by
  have hxl : xss.length = n := by rw [← mkSS_len xss k]; exact hR.len
  refine Ret.of_cd Try.func73 rfl Try.ntmps73 rfl (post1 rfl) ?_
  refine Cd.seq ?_
  refine Cd.region ?_
  refine Ops.mv_int rfl rfl rfl ?_
  refine Ops.nil ?_
  refine thenQ_n ?_
  refine Cd.seq ?_
  refine Cd.seq ?_
  refine Cd.region ?_
  refine Ops.mv_int rfl rfl rfl ?_
  refine Ops.nil ?_
  refine thenQ_n ?_
  refine Cd.block ?_
  -- stop: loop
  refine Cd.loop (α := Nat) (fun i => [(0, .slice A n c), (1, .int .i64 (k + tot (xss.take i))), (5, .int .i64 (i : Int))]) (fun i w' => w' = w ∧ i ≤ n) (fun i => n - i) 0 ⟨rfl, by show Value.int .i64 _ = .int .i64 _; simp [tot], rfl, trivial⟩ ⟨rfl, Nat.zero_le _⟩ ?_
  rintro i e w ⟨rfl, hi⟩
  have htb := tot_le (b := 1000) (xss.take i) (fun x hx => hr x (List.mem_of_mem_take hx))
  have htl : (xss.take i).length ≤ 1000 := by simp; omega
  have htm : (xss.take i).length * 1000 ≤ 1000 * 1000 := Nat.mul_le_mul_right 1000 htl
  refine Cd.seq ?_
  refine Cd.seq ?_
  refine Cd.region ?_
  refine Ops.mv_int rfl rfl rfl ?_
  refine Ops.mv_sl rfl rfl rfl ?_
  refine Ops.len rfl rfl ?_
  refine Ops.lss rfl rfl rfl ?_
  refine Ops.nil ?_
  refine thenQ_n ?_
  -- stop: cond
  refine Cd.cond_p _ rfl (fun h1 => ?_) (fun h1 => ?_)
  · have hi' : i < xss.length := by omega
    have hxi := hr xss[i] (List.getElem_mem hi')
    have htot : tot (xss.take (i + 1)) = tot (xss.take i) + xss[i].length := by rw [List.take_succ_eq_append_getElem hi', tot_snoc]
    have hrow := hR.at_ (i := (i : Int)) (by omega) h1
    have hg : gl (mkSS k xss) (i : Int) = marks (k + tot (xss.take i)) xss[i].length := by
      simp only [gl, Int.toNat_natCast, List.getD_eq_getElem?_getD, mkSS_get hi', Option.getD_some]
    rw [hg] at hrow
    have hln := hrow.1
    rw [marks_len] at hln
    rw [hln] at hrow
    refine Cd.skip ?_
    refine thenQ_n ?_
    refine Cd.seq ?_
    refine Cd.block ?_
    refine Cd.seq ?_
    refine Cd.region ?_
    refine Ops.mv_sl rfl rfl rfl ?_
    refine Ops.mv_int rfl rfl rfl ?_
    -- stop: INDEXADDR 22 t12 t13 -> 14
    refine Ops.idx hR.top.2 rfl rfl rfl (by omega) h1 ?_
    refine Ops.ld_sl hR.top rfl (by omega) rfl rfl ?_
    refine Ops.mv_int rfl rfl rfl ?_
    -- stop: CALL laws.heldInt64S(t15, t16) -> 17
    refine Ops.call (heldInt64S_c (rg rs (i : Int)).a (rg rs (i : Int)).n (rg rs (i : Int)).c (k + tot (xss.take i)) _ hrow ⟨by omega, by omega⟩) rfl rfl rfl ?_
    rintro _ w ⟨rfl, rfl⟩
    refine Ops.mv_int rfl rfl rfl ?_
    refine Ops.nil ?_
    refine thenQ_n ?_
    refine Cd.seq ?_
    refine Cd.region ?_
    refine Ops.mv_int rfl rfl rfl ?_
    refine Ops.lss rfl rfl rfl ?_
    refine Ops.nil ?_
    refine thenQ_n ?_
    -- stop: cond
    refine Cd.cond_pf rfl (by omega) ?_
    refine Cd.skip ?_
    refine blockQ_n ?_
    refine thenQ_n ?_
    refine Cd.region ?_
    refine Ops.mv_int rfl rfl rfl ?_
    refine Ops.add rfl rfl rfl (by omega) ?_
    refine Ops.mv_int rfl rfl rfl ?_
    refine Ops.nil ?_
    refine thenQ_n ?_
    -- stop: round
    exact ⟨i + 1, by show n - (i + 1) < n - i; omega, ⟨rfl, by show Value.int .i64 _ = .int .i64 _; rw [htot, ← Int.add_assoc, hln], rfl, trivial⟩, rfl, by omega⟩
  · refine Cd.exit ?_
    refine thenQ_x ?_
    refine thenQ_x ?_
    refine blockQ_x ?_
    refine thenQ_n ?_
    refine Cd.seq ?_
    refine Cd.region ?_
    refine Ops.mv_int rfl rfl rfl ?_
    refine Ops.mv_int rfl rfl rfl ?_
    refine Ops.nil ?_
    refine thenQ_n ?_
    refine Cd.ret ?_
    refine ret1_i rfl ?_
    -- stop: end
    have hin : i = n := by omega
    subst hin
    rw [List.take_of_length_le (by omega)]
    exact ⟨rfl, rfl⟩
end Go.Proofs.Ytgobjpcankaicaa.Vc
/-
  Lists of maniplexes compared, marked and found marked; and the answers of CountManiplexes, AllManiplexes and ManiplexAt on both sides. Conditions: as each states them.
-/
namespace Go.Proofs.Ytgobjpcankaicaa.Vc
open Go.RowKit

/-- a list of matrices, read -/
structure MsR (w : World) (A : Option Addr) (ms : List MatV) : Prop where
  top : RdR w A ms.length (ms.map (·.top))
  row : ∀ m ∈ ms, RowsI w m.top.a m.top.n m.rs m.xss
theorem MsR.later {w w' : World} {A : Option Addr} {ms : List MatV} (h : MsR w A ms) (hb : Below w.heap.size w w') : MsR w' A ms := ⟨h.top.later hb, fun m hm => (h.row m hm).later hb⟩
theorem St.msR {w0 w : World} {A : Option Addr} {c : Nat} {ms : List MatV} {ks : List Ck} (h : St w0 w ks) (hok : ∀ m ∈ ms, m.ok) (hs : (CkR 24 A ms.length c (ms.map (·.top)) :: matsCk 33 2 ms).Sublist ks) : MsR w A ms :=
  ⟨(h.sub hs).rdR 0 rfl, fun m hm => h.matAt (c := m.top.c) (t1 := 33) (t2 := 2) (((MatV.sub_ hm).trans (List.sublist_cons_self _ _)).trans hs) (hok m hm)⟩
theorem MsR.at_ {w : World} {A : Option Addr} {ms : List MatV} (h : MsR w A ms) {i : Nat} (hi : i < ms.length) : RowsI w (rg (ms.map (·.top)) (i : Int)).a (rg (ms.map (·.top)) (i : Int)).n (ms[i]).rs (ms[i]).xss := by
  rw [top_at hi]; exact h.row _ (List.getElem_mem hi)

theorem eqManiplexS_c (A : Option Addr) (c : Nat) (ms : List MatV) (A' : Option Addr) (c' : Nat) (ns : List MatV) (w : World) (hR : MsR w A ms) (hR' : MsR w A' ns) (hn : ms.length ≤ 9223372036854775807) (hcap : ∀ m ∈ ms, m.top.n ≤ 9223372036854775807) :
    Ret Try.prog 39 [.slice A ms.length c, .slice A' ns.length c'] w (fun v w' => v = .bool (decide (ms.map (·.xss) = ns.map (·.xss))) ∧ St w w' []) := by
  refine Ret.of_cd Try.func39 rfl Try.ntmps39 rfl (post1 rfl) ?_
  refine Cd.seq ?_
  refine Cd.region ?_
  refine Ops.mv_bool rfl rfl rfl ?_
  refine Ops.nil ?_
  refine thenQ_n ?_
  refine Cd.seq ?_
  refine Cd.seq ?_
  refine Cd.region ?_
  refine Ops.mv_sl rfl rfl rfl ?_
  refine Ops.len rfl rfl ?_
  refine Ops.mv_sl rfl rfl rfl ?_
  refine Ops.len rfl rfl ?_
  refine Ops.neq rfl rfl rfl ?_
  refine Ops.nil ?_
  refine thenQ_n ?_
  -- stop: cond
  refine Cd.cond_p _ rfl (fun h => ?_) (fun h => ?_)
  · refine Cd.seq ?_
    refine Cd.region ?_
    refine Ops.mv_bool rfl rfl rfl ?_
    refine Ops.nil ?_
    refine thenQ_n ?_
    refine Cd.ret ?_
    refine thenQ_r ?_
    refine ret1_b rfl ?_
    -- stop: end
    exact ⟨by rw [decide_eq_false (fun e : ms.map (·.xss) = ns.map (·.xss) => h (by have := congrArg List.length e; simp at this; rw [this]))], St.refl _⟩
  refine Cd.skip ?_
  refine thenQ_n ?_
  refine Cd.seq ?_
  refine Cd.seq ?_
  refine Cd.region ?_
  refine Ops.mv_int rfl rfl rfl ?_
  refine Ops.nil ?_
  refine thenQ_n ?_
  refine Cd.block ?_
  -- stop: loop
  refine Cd.loop (α := Nat) (fun k => [(0, .slice A ms.length c), (1, .slice A' ns.length c'), (5, .int .i64 (k : Int))]) (fun k w' => St w w' [] ∧ k ≤ ms.length ∧ (ms.map (·.xss)).take k = (ns.map (·.xss)).take k) (fun k => ms.length - k) 0 ⟨rfl, rfl, rfl, trivial⟩ ⟨St.refl w, Nat.zero_le _, rfl⟩ ?_
  rintro k e w2 ⟨hS2, hk, hI⟩
  have hle : ms.length = ns.length := by omega
  refine Cd.seq ?_
  refine Cd.seq ?_
  refine Cd.region ?_
  refine Ops.mv_int rfl rfl rfl ?_
  refine Ops.mv_sl rfl rfl rfl ?_
  refine Ops.len rfl rfl ?_
  refine Ops.lss rfl rfl rfl ?_
  refine Ops.nil ?_
  refine thenQ_n ?_
  -- stop: cond
  refine Cd.cond_p _ rfl (fun h1 => ?_) (fun h1 => ?_)
  · have hA := hR.later hS2.below
    have hB := hR'.later hS2.below
    have hk1 : k < ms.length := by omega
    have hk2 : k < ns.length := by omega
    have ha := hA.at_ hk1
    have hb' := hB.at_ hk2
    have hc := hcap _ (List.getElem_mem hk1)
    have ht := top_at hk1
    rw [← ht] at hc
    refine Cd.skip ?_
    refine thenQ_n ?_
    refine Cd.seq ?_
    refine Cd.block ?_
    refine Cd.seq ?_
    -- stop: draw
    refine Cd.draw [.ex (.slice (A) (ms.length) (c)), .ex (.int .i64 ((k : Int))), .ex (.pointer (ptrAt (A) ((k : Int)).toNat)), .ex (.agg #[.slice (rg (ms.map (·.top)) ((k : Int))).a (rg (ms.map (·.top)) ((k : Int))).n (rg (ms.map (·.top)) ((k : Int))).c]), .ex (.slice (A') (ns.length) (c')), .ex (.int .i64 ((k : Int))), .ex (.pointer (ptrAt (A') ((k : Int)).toNat)), .ex (.agg #[.slice (rg (ns.map (·.top)) ((k : Int))).a (rg (ns.map (·.top)) ((k : Int))).n (rg (ns.map (·.top)) ((k : Int))).c]), .ex (.bool (decide (ms[k].xss = ns[k].xss))), .ex (.bool (decide (¬ (ms[k].xss = ns[k].xss))))] (by kernel_rfl) (by kernel_rfl) rfl (List.forall_mem_cons.2 ⟨Yd.lasts_ex _, (List.forall_mem_cons.2 ⟨Yd.lasts_ex _, (List.forall_mem_cons.2 ⟨Yd.lasts_ex _, (List.forall_mem_cons.2 ⟨Yd.lasts_ex _, (List.forall_mem_cons.2 ⟨Yd.lasts_ex _, (List.forall_mem_cons.2 ⟨Yd.lasts_ex _, (List.forall_mem_cons.2 ⟨Yd.lasts_ex _, (List.forall_mem_cons.2 ⟨Yd.lasts_ex _, (List.forall_mem_cons.2 ⟨Yd.lasts_ex _, (List.forall_mem_cons.2 ⟨Yd.lasts_ex _, (fun _ h => by cases h)⟩)⟩)⟩)⟩)⟩)⟩)⟩)⟩)⟩)⟩) ⟨?_, ?_, ?_, ?_, ?_, ?_, ?_, ?_, ?_, ?_, trivial⟩ ?_
    · intro e1 w1 hb hp hun
      refine Ops.mv_sl rfl rfl rfl ?_
      refine Ops.nil ?_
      exact After.dn (Below.refl _ _) (by exact rfl)
    · intro e1 w1 hb hp hun
      refine Ops.mv_int rfl rfl rfl ?_
      refine Ops.nil ?_
      exact After.dn (Below.refl _ _) (by exact rfl)
    · intro e1 w1 hb hp hun
      refine Ops.idx (hA.top.later hb).2 rfl rfl rfl (by omega) (by omega) ?_
      refine Ops.nil ?_
      exact After.dn (Below.refl _ _) (by exact rfl)
    · intro e1 w1 hb hp hun
      refine Ops.ld_ag (hA.top.later hb) rfl (by omega) rfl ?_
      refine Ops.nil ?_
      exact After.dn (Below.refl _ _) (by exact rfl)
    · intro e1 w1 hb hp hun
      refine Ops.mv_sl rfl rfl rfl ?_
      refine Ops.nil ?_
      exact After.dn (Below.refl _ _) (by exact rfl)
    · intro e1 w1 hb hp hun
      refine Ops.mv_int rfl rfl rfl ?_
      refine Ops.nil ?_
      exact After.dn (Below.refl _ _) (by exact rfl)
    · intro e1 w1 hb hp hun
      refine Ops.idx (hB.top.later hb).2 rfl rfl rfl (by omega) (by omega) ?_
      refine Ops.nil ?_
      exact After.dn (Below.refl _ _) (by exact rfl)
    · intro e1 w1 hb hp hun
      refine Ops.ld_ag (hB.top.later hb) rfl (by omega) rfl ?_
      refine Ops.nil ?_
      exact After.dn (Below.refl _ _) (by exact rfl)
    · intro e1 w1 hb hp hun
      refine Ops.call (eqManiplex_c _ _ _ _ _ _ _ _ _ _ _ (ha.later hb) (hb'.later hb) hc) rfl rfl rfl ?_
      rintro _ w2 ⟨rfl, hst⟩
      refine Ops.nil ?_
      exact After.dn hst.below (by exact rfl)
    · intro e1 w1 hb hp hun
      refine Ops.not_p rfl rfl ?_
      refine Ops.nil ?_
      exact After.dn (Below.refl _ _) (by exact rfl)
    intro u w3 hb3 _
    have hS3 := hS2.later hb3
    refine thenQ_n ?_
    -- stop: cond
    refine Cd.cond_p _ rfl (fun h3 => ?_) (fun h3 => ?_)
    · refine Cd.seq ?_
      refine Cd.region ?_
      refine Ops.mv_bool rfl rfl rfl ?_
      refine Ops.nil ?_
      refine thenQ_n ?_
      refine Cd.ret ?_
      refine blockQ_r ?_
      refine thenQ_r ?_
      refine thenQ_r ?_
      refine blockQ_r ?_
      refine thenQ_r ?_
      refine ret1_b rfl ?_
      -- stop: end
      refine ⟨by rw [decide_eq_false (fun e : ms.map (·.xss) = ns.map (·.xss) => h3 (by
        have := congrArg (fun l => l[k]?) e
        simpa [hk1, hk2] using this))], hS3⟩
    · refine Cd.skip ?_
      refine blockQ_n ?_
      refine thenQ_n ?_
      refine Cd.region ?_
      refine Ops.mv_int rfl rfl rfl ?_
      refine Ops.add rfl rfl rfl (by omega) ?_
      refine Ops.mv_int rfl rfl rfl ?_
      refine Ops.nil ?_
      refine thenQ_n ?_
      -- stop: round
      refine ⟨k + 1, by omega, ⟨rfl, rfl, rfl, trivial⟩, hS3, by omega, ?_⟩
      rw [List.take_succ_eq_append_getElem (by rw [List.length_map]; exact hk1), List.take_succ_eq_append_getElem (by rw [List.length_map]; exact hk2), hI, List.getElem_map, List.getElem_map, Classical.not_not.1 h3]
  · refine Cd.exit ?_
    refine thenQ_x ?_
    refine thenQ_x ?_
    refine blockQ_x ?_
    refine thenQ_n ?_
    refine Cd.seq ?_
    refine Cd.region ?_
    refine Ops.mv_bool rfl rfl rfl ?_
    refine Ops.nil ?_
    refine thenQ_n ?_
    refine Cd.ret ?_
    refine ret1_b rfl ?_
    -- stop: end
    refine ⟨?_, hS2⟩
    rw [List.take_of_length_le (by rw [List.length_map]; omega), List.take_of_length_le (by rw [List.length_map]; omega)] at hI
    rw [decide_eq_true hI]

/-! marks -/
def totM (ms : List MatV) : Int := ((ms.map fun m => (m.xss.map List.length).sum).sum : Nat)
theorem totM_snoc (ms : List MatV) (m : MatV) : totM (ms ++ [m]) = totM ms + tot m.xss := by simp [totM, tot]
theorem totM_cons (ms : List MatV) (m : MatV) : totM (m :: ms) = tot m.xss + totM ms := by simp [totM, tot]
theorem totM_le {b : Nat} : ∀ (ms : List MatV), (∀ m ∈ ms, tot m.xss ≤ b) → 0 ≤ totM ms ∧ totM ms ≤ (ms.length * b : Nat)
  | [], _ => by simp [totM]
  | m :: ms, h => by
    have h1 := totM_le ms (fun y hy => h y (by simp [hy]))
    have h2 := h m (by simp)
    have h3 : 0 ≤ tot m.xss := by unfold tot; omega
    rw [totM_cons, List.length_cons, Nat.succ_mul]
    omega
def mkV (k : Int) : List MatV → List MatV
  | [] => []
  | m :: ms => { m with xss := mkSS k m.xss } :: mkV (k + tot m.xss) ms
theorem mkV_len : ∀ (ms : List MatV) (k : Int), (mkV k ms).length = ms.length
  | [], _ => rfl
  | _ :: ms, k => by simp [mkV, mkV_len ms]
theorem mkV_top : ∀ (ms : List MatV) (k : Int), (mkV k ms).map (·.top) = ms.map (·.top)
  | [], _ => rfl
  | _ :: ms, k => by simp [mkV, mkV_top ms]
theorem mkV_snoc (m : MatV) : ∀ (ms : List MatV) (k : Int), mkV k (ms ++ [m]) = mkV k ms ++ [{ m with xss := mkSS (k + totM ms) m.xss }]
  | [], k => by simp [mkV, totM]
  | y :: ms, k => by
    simp only [List.cons_append, mkV]
    rw [mkV_snoc m ms, totM_cons, Int.add_assoc]
theorem mkV_append : ∀ (a b : List MatV) (k : Int), mkV k (a ++ b) = mkV k a ++ mkV (k + totM a) b
  | [], b, k => by simp [mkV, totM]
  | y :: a, b, k => by
    simp only [List.cons_append, mkV]
    rw [mkV_append a b, totM_cons, Int.add_assoc]
theorem mkV_at {ms : List MatV} {k : Int} {i : Nat} (hi : i < ms.length) : (mkV k ms)[i]? = some { ms[i] with xss := mkSS (k + totM (ms.take i)) ms[i].xss } := by
  have h1 : ms = ms.take i ++ (ms[i] :: ms.drop (i + 1)) := by rw [← List.drop_eq_getElem_cons hi, List.take_append_drop]
  have h2 : (mkV k (ms.take i)).length = i := by rw [mkV_len]; simp; omega
  conv => lhs; rw [h1, mkV_append]
  rw [List.getElem?_append_right (by omega), h2, Nat.sub_self]
  rfl
theorem mkV_ok {ms : List MatV} {k : Int} (h : ∀ m ∈ ms, m.ok) : ∀ m ∈ mkV k ms, m.ok := by
  induction ms generalizing k with
  | nil => intro m hm; exact nomatch hm
  | cons a ms ih =>
    intro m hm
    rcases List.mem_cons.1 hm with rfl | hm
    · show (mkSS k a.xss).length = a.top.n
      rw [mkSS_len]; exact h a (by simp)
    · exact ih (fun m hm => h m (by simp [hm])) m hm

/-- small matrices -/
def SmV (m : MatV) : Prop := m.rs.length = m.top.n ∧ m.xss.length = m.top.n ∧ m.top.n ≤ 4 ∧ ∀ x ∈ m.xss, x.length ≤ 12
theorem SmV.tot {m : MatV} (h : SmV m) : 0 ≤ Vc.tot m.xss ∧ Vc.tot m.xss ≤ (48 : Nat) := by
  have h1 := tot_le (b := 12) m.xss h.2.2.2
  have h2 := h.2.1
  have h3 := h.2.2.1
  omega

theorem markManiplexS_c {w0 w : World} {A : Option Addr} {c : Nat} {ms : List MatV} {ks : List Ck} (k : Int) (hS : St w0 w (CkR 24 A ms.length c (ms.map (·.top)) :: (matsCk 33 2 ms ++ ks))) (hsm : ∀ m ∈ ms, SmV m) (hn : ms.length ≤ 4000000000000) (hk0 : 0 ≤ k ∧ k ≤ 1048576) :
    Ret Try.prog 40 [.slice A ms.length c, .int .i64 k] w (fun v w' => v = .int .i64 (k + totM ms) ∧ St w0 w' (CkR 24 A ms.length c (ms.map (·.top)) :: (matsCk 33 2 (mkV k ms) ++ ks))) := by
  refine Ret.of_cd Try.func40 rfl Try.ntmps40 rfl (post1 rfl) ?_
  refine Cd.seq ?_
  refine Cd.region ?_
  refine Ops.mv_int rfl rfl rfl ?_
  refine Ops.nil ?_
  refine thenQ_n ?_
  refine Cd.seq ?_
  refine Cd.seq ?_
  refine Cd.region ?_
  refine Ops.mv_int rfl rfl rfl ?_
  refine Ops.nil ?_
  refine thenQ_n ?_
  refine Cd.block ?_
  -- stop: loop
  refine Cd.loop (α := Nat) (fun i => [(0, .slice A ms.length c), (1, .int .i64 (k + totM (ms.take i))), (5, .int .i64 (i : Int))]) (fun i w' => St w0 w' (CkR 24 A ms.length c (ms.map (·.top)) :: (matsCk 33 2 (mkV k (ms.take i) ++ ms.drop i) ++ ks)) ∧ i ≤ ms.length) (fun i => ms.length - i) 0 ⟨rfl, by show Value.int .i64 _ = .int .i64 _; simp [totM], rfl, trivial⟩ ⟨by simpa [mkV] using hS, Nat.zero_le _⟩ ?_
  rintro i e w1 ⟨hS1, hi⟩
  have htb := totM_le (b := 48) (ms.take i) (fun m hm => (hsm m (List.mem_of_mem_take hm)).tot.2)
  have htl : (ms.take i).length ≤ 4000000000000 := by simp; omega
  refine Cd.seq ?_
  refine Cd.seq ?_
  refine Cd.region ?_
  refine Ops.mv_int rfl rfl rfl ?_
  refine Ops.mv_sl rfl rfl rfl ?_
  refine Ops.len rfl rfl ?_
  refine Ops.lss rfl rfl rfl ?_
  refine Ops.nil ?_
  refine thenQ_n ?_
  -- stop: cond
  refine Cd.cond_p _ rfl (fun h1 => ?_) (fun h1 => ?_)
  · have hi' : i < ms.length := by omega
    have hm := hsm _ (List.getElem_mem hi')
    have htt := hm.tot
    have hti := top_at hi'
    have hT := hS1.rdR 0 rfl
    have hvl : ((ms.map (·.top)).getD (i + 0) slNil).v = .slice ms[i].top.a ms[i].top.n ms[i].top.c := by rw [← hti]; rfl
    have hrb := hT.2.behind (o := i) (m := 1) (by omega)
    have hsn : totM (ms.take (i + 1)) = totM (ms.take i) + tot ms[i].xss := by rw [List.take_succ_eq_append_getElem hi', totM_snoc]
    have hst : mkV k (ms.take (i + 1)) ++ ms.drop (i + 1) = mkV k (ms.take i) ++ ({ ms[i] with xss := mkSS (k + totM (ms.take i)) ms[i].xss } :: ms.drop (i + 1)) := by
      rw [List.take_succ_eq_append_getElem hi', mkV_snoc, List.append_assoc]; rfl
    have hS1' : St w0 w1 ((CkR 24 A ms.length c (ms.map (·.top)) :: matsCk 33 2 (mkV k (ms.take i))) ++ (mat 33 2 ms[i].top.a ms[i].top.n ms[i].top.c ms[i].rs ms[i].xss ++ (matsCk 33 2 (ms.drop (i + 1)) ++ ks))) := by
      rw [List.drop_eq_getElem_cons hi', matsCk_append, show matsCk 33 2 (ms[i] :: ms.drop (i + 1)) = mat 33 2 ms[i].top.a ms[i].top.n ms[i].top.c ms[i].rs ms[i].xss ++ matsCk 33 2 (ms.drop (i + 1)) from rfl] at hS1
      simpa only [List.append_assoc, List.cons_append] using hS1
    refine Cd.skip ?_
    refine thenQ_n ?_
    refine Cd.seq ?_
    refine Cd.block ?_
    refine Cd.region ?_
    refine Ops.mv_sl rfl rfl rfl ?_
    refine Ops.mv_int rfl rfl rfl ?_
    -- stop: INDEXADDR 51 t12 t13 -> 14
    refine Ops.idx hT.2 rfl rfl rfl (by omega) h1 ?_
    refine Ops.fld hrb rfl rfl rfl rfl inferInstance ?_
    refine Ops.ldf_s (A1 := ms[i].top.a) (n1 := ms[i].top.n) (c1 := ms[i].top.c) (j := 0) hrb rfl rfl hvl rfl rfl ?_
    refine Ops.mv_int rfl rfl rfl ?_
    -- stop: CALL laws.markInt64SS(t16, t17) -> 18
    refine Ops.call (markSS_c (k + totM (ms.take i)) hS1' hm.1 hm.2.1 (by have := hm.2.2.1; omega) (fun x hx => by have := hm.2.2.2 x hx; omega) (by omega)) rfl rfl rfl ?_
    rintro _ w2 ⟨rfl, hS2⟩
    refine Ops.mv_int rfl rfl rfl ?_
    refine Ops.nil ?_
    refine blockQ_n ?_
    refine thenQ_n ?_
    refine Cd.region ?_
    refine Ops.mv_int rfl rfl rfl ?_
    refine Ops.add rfl rfl rfl (by omega) ?_
    refine Ops.mv_int rfl rfl rfl ?_
    refine Ops.nil ?_
    refine thenQ_n ?_
    -- stop: round
    refine ⟨i + 1, by show ms.length - (i + 1) < ms.length - i; omega, ⟨rfl, by show Value.int .i64 _ = .int .i64 _; rw [hsn, Int.add_assoc], rfl, trivial⟩, ?_, hi'⟩
    rw [hst, matsCk_append, show matsCk 33 2 ({ ms[i] with xss := mkSS (k + totM (ms.take i)) ms[i].xss } :: ms.drop (i + 1)) = mat 33 2 ms[i].top.a ms[i].top.n ms[i].top.c ms[i].rs (mkSS (k + totM (ms.take i)) ms[i].xss) ++ matsCk 33 2 (ms.drop (i + 1)) from rfl]
    simpa only [List.append_assoc, List.cons_append] using hS2
  · refine Cd.exit ?_
    refine thenQ_x ?_
    refine thenQ_x ?_
    refine blockQ_x ?_
    refine thenQ_n ?_
    refine Cd.seq ?_
    refine Cd.region ?_
    refine Ops.mv_int rfl rfl rfl ?_
    refine Ops.mv_int rfl rfl rfl ?_
    refine Ops.nil ?_
    refine thenQ_n ?_
    refine Cd.ret ?_
    refine ret1_i rfl ?_
    -- stop: end
    have hin : i = ms.length := by omega
    subst hin
    rw [List.take_length, List.drop_length, List.append_nil] at *
    exact ⟨rfl, hS1⟩

theorem heldManiplexS_c (A : Option Addr) (c : Nat) (ms : List MatV) (k : Int) (w : World) (hR : MsR w A (mkV k ms)) (hsm : ∀ m ∈ ms, SmV m) (hn : ms.length ≤ 4000000000000) (hk0 : 0 ≤ k ∧ k ≤ 1048576) :
    Ret Try.prog 41 [.slice A ms.length c, .int .i64 k] w (fun v w' => v = .int .i64 (k + totM ms) ∧ w' = w) := by
  have hT := hR.top
  rw [mkV_len, mkV_top] at hT
  refine Ret.of_cd Try.func41 rfl Try.ntmps41 rfl (post1 rfl) ?_
  refine Cd.seq ?_
  refine Cd.region ?_
  refine Ops.mv_int rfl rfl rfl ?_
  refine Ops.nil ?_
  refine thenQ_n ?_
  refine Cd.seq ?_
  refine Cd.seq ?_
  refine Cd.region ?_
  refine Ops.mv_int rfl rfl rfl ?_
  refine Ops.nil ?_
  refine thenQ_n ?_
  refine Cd.block ?_
  -- stop: loop
  refine Cd.loop (α := Nat) (fun i => [(0, .slice A ms.length c), (1, .int .i64 (k + totM (ms.take i))), (5, .int .i64 (i : Int))]) (fun i w' => w' = w ∧ i ≤ ms.length) (fun i => ms.length - i) 0 ⟨rfl, by show Value.int .i64 _ = .int .i64 _; simp [totM], rfl, trivial⟩ ⟨rfl, Nat.zero_le _⟩ ?_
  rintro i e w ⟨rfl, hi⟩
  have htb := totM_le (b := 48) (ms.take i) (fun m hm => (hsm m (List.mem_of_mem_take hm)).tot.2)
  have htl : (ms.take i).length ≤ 4000000000000 := by simp; omega
  refine Cd.seq ?_
  refine Cd.seq ?_
  refine Cd.region ?_
  refine Ops.mv_int rfl rfl rfl ?_
  refine Ops.mv_sl rfl rfl rfl ?_
  refine Ops.len rfl rfl ?_
  refine Ops.lss rfl rfl rfl ?_
  refine Ops.nil ?_
  refine thenQ_n ?_
  -- stop: cond
  refine Cd.cond_p _ rfl (fun h1 => ?_) (fun h1 => ?_)
  · have hi' : i < ms.length := by omega
    have hm := hsm _ (List.getElem_mem hi')
    have htt := hm.tot
    have hti := top_at hi'
    have hvl : ((ms.map (·.top)).getD (i + 0) slNil).v = .slice ms[i].top.a ms[i].top.n ms[i].top.c := by rw [← hti]; rfl
    have hrb := hT.2.behind (o := i) (m := 1) (by omega)
    have hsn : totM (ms.take (i + 1)) = totM (ms.take i) + tot ms[i].xss := by rw [List.take_succ_eq_append_getElem hi', totM_snoc]
    have hrow := hR.row _ (List.mem_of_getElem? (mkV_at (k := k) hi'))
    refine Cd.skip ?_
    refine thenQ_n ?_
    refine Cd.seq ?_
    refine Cd.block ?_
    refine Cd.seq ?_
    refine Cd.region ?_
    refine Ops.mv_sl rfl rfl rfl ?_
    refine Ops.mv_int rfl rfl rfl ?_
    -- stop: INDEXADDR 51 t12 t13 -> 14
    refine Ops.idx hT.2 rfl rfl rfl (by omega) h1 ?_
    refine Ops.fld hrb rfl rfl rfl rfl inferInstance ?_
    refine Ops.ldf_s (A1 := ms[i].top.a) (n1 := ms[i].top.n) (c1 := ms[i].top.c) (j := 0) hrb rfl rfl hvl rfl rfl ?_
    refine Ops.mv_int rfl rfl rfl ?_
    -- stop: CALL laws.heldInt64SS(t16, t17) -> 18
    refine Ops.call (heldSS_c _ _ _ _ ms[i].xss (k + totM (ms.take i)) _ hrow (show ms[i].top.n ≤ 1000 by have := hm.2.2.1; omega) (fun x hx => by have := hm.2.2.2 x hx; omega) (by omega)) rfl rfl rfl ?_
    rintro _ w ⟨rfl, rfl⟩
    refine Ops.mv_int rfl rfl rfl ?_
    refine Ops.nil ?_
    refine thenQ_n ?_
    refine Cd.seq ?_
    refine Cd.region ?_
    refine Ops.mv_int rfl rfl rfl ?_
    refine Ops.lss rfl rfl rfl ?_
    refine Ops.nil ?_
    refine thenQ_n ?_
    -- stop: cond
    refine Cd.cond_pf rfl (by omega) ?_
    refine Cd.skip ?_
    refine blockQ_n ?_
    refine thenQ_n ?_
    refine Cd.region ?_
    refine Ops.mv_int rfl rfl rfl ?_
    refine Ops.add rfl rfl rfl (by omega) ?_
    refine Ops.mv_int rfl rfl rfl ?_
    refine Ops.nil ?_
    refine thenQ_n ?_
    -- stop: round
    exact ⟨i + 1, by show ms.length - (i + 1) < ms.length - i; omega, ⟨rfl, by show Value.int .i64 _ = .int .i64 _; rw [hsn, Int.add_assoc], rfl, trivial⟩, rfl, hi'⟩
  · refine Cd.exit ?_
    refine thenQ_x ?_
    refine thenQ_x ?_
    refine blockQ_x ?_
    refine thenQ_n ?_
    refine Cd.seq ?_
    refine Cd.region ?_
    refine Ops.mv_int rfl rfl rfl ?_
    refine Ops.mv_int rfl rfl rfl ?_
    refine Ops.nil ?_
    refine thenQ_n ?_
    refine Cd.ret ?_
    refine ret1_i rfl ?_
    -- stop: end
    have hin : i = ms.length := by omega
    subst hin
    rw [List.take_length]
    exact ⟨rfl, rfl⟩
end Go.Proofs.Ytgobjpcankaicaa.Vc
/-
  CountManiplexes and AllManiplexes on both sides, and the walks of their laws. Conditions: none.
-/
namespace Go.Proofs.Ytgobjpcankaicaa.Vc
open Go.RowKit

/-- an answer: a list of maniplexes, and a code -/
def AnsM (L : List Mx) (K : Int) (w : World) (v : Value) (w' : World) : Prop := ∃ A c, ∃ ms : List MatV, v = .tuple #[.slice A ms.length c, .int .i64 K] ∧ ms.map (·.xss) = L ∧ (∀ m ∈ ms, m.ok) ∧
      St w w' (CkR 24 A ms.length c (ms.map (·.top)) :: matsCk 33 2 ms)
theorem AnsM.none {w w' : World} {ks : List Ck} {K : Int} (h : St w w' ks) : AnsM [] K w (.tuple #[.slice Option.none 0 0, .int .i64 K]) w' := ⟨Option.none, 0, [], rfl, rfl, fun m hm => (nomatch hm), h.none.nil _⟩
theorem lst_small {rank flags : Int} {L : Mx} (h : L ∈ lstI rank flags) : Small rank flags ∧ L.length = rank.toNat ∧ (∀ x ∈ L, x.length = flags.toNat) ∧ L.length ≤ 4 ∧ ∀ x ∈ L, x.length ≤ 12 := by
  unfold lstI at h
  split at h
  · rename_i hs
    have h1 := hs.1
    have h2 := hs.2
    have hL := (forms_mani (by omega) (by omega) (listL_mem.1 h).1).2.shp
    exact ⟨hs, hL.1, hL.2, by rw [hL.1]; omega, fun x hx => by rw [hL.2 x hx]; omega⟩
  · cases h
theorem lst_len (rank flags : Int) : (lstI rank flags).length ≤ 4000000000000 := by
  unfold lstI
  split
  · rename_i hs
    have h1 := hs.1
    have h2 := hs.2
    rw [listL_len]
    exact Nat.le_trans (ownL_le _ _) (forms_small (n := rank.toNat) (F := flags.toNat) (by omega) (by omega) _)
  · exact Nat.zero_le _
theorem St.rsLen {w0 w : World} {ks : List Ck} {m : MatV} (h : St w0 w ks) (hs : (m.cks 33 2).Sublist ks) : m.rs.length = m.top.n := by
  have := ((h.own (CkR 33 m.top.a m.top.n m.top.c m.rs) (hs.subset (by simp [MatV.cks, mat]))).toC (isM_R _)).1
  simpa using this
theorem St.smV {w0 w : World} {ks : List Ck} {ms : List MatV} {rank flags : Int} (h : St w0 w ks) (hs : (matsCk 33 2 ms).Sublist ks) (hL : ms.map (·.xss) = lstI rank flags) (hok : ∀ m ∈ ms, m.ok) : ∀ m ∈ ms, SmV m := fun m hm => by
  have hl := lst_small (by rw [← hL]; exact List.mem_map_of_mem (f := (·.xss)) hm)
  have ho := hok m hm
  unfold MatV.ok at ho
  exact ⟨h.rsLen ((MatV.sub_ hm).trans hs), ho, by rw [← ho]; exact hl.2.2.2.1, hl.2.2.2.2⟩

/-! counts -/
def cnK (rank flags : Int) : Int := ((lstI rank flags).length : Nat)
theorem specCountManiplexes_c (rank flags : Int) (w : World) : Ret Try.prog 30 [.int .i64 rank, .int .i64 flags] w (fun v w' => v = .tuple #[.int .i64 (cnK rank flags), .int .i64 (lstK rank flags)] ∧ St w w' []) := by
  refine Ret.of_cd Try.func30 rfl Try.ntmps30 rfl (post2 rfl) ?_
  refine Cd.seq ?_
  refine Cd.region ?_
  refine Ops.mv_int rfl rfl rfl ?_
  refine Ops.mv_int rfl rfl rfl ?_
  refine Ops.nil ?_
  refine thenQ_n ?_
  refine Cd.seq ?_
  refine Cd.seq ?_
  refine Cd.region ?_
  refine Ops.mv_int rfl rfl rfl ?_
  refine Ops.mv_int rfl rfl rfl ?_
  -- stop: CALL spec.l19Code(t9, t10) -> 11
  refine Ops.call (l19Code_c rank flags _) rfl rfl rfl ?_
  rintro _ w ⟨rfl, rfl⟩
  refine Ops.mv_int rfl rfl rfl ?_
  refine Ops.nil ?_
  refine thenQ_n ?_
  refine Cd.seq ?_
  refine Cd.region ?_
  refine Ops.mv_int rfl rfl rfl ?_
  refine Ops.neq rfl rfl rfl ?_
  refine Ops.nil ?_
  refine thenQ_n ?_
  -- stop: cond
  refine Cd.cond_p _ rfl (fun h => ?_) (fun h => ?_)
  · have hs : ¬ Small rank flags := fun hs => h (by rw [if_pos hs])
    refine Cd.seq ?_
    refine Cd.region ?_
    refine Ops.mv_int rfl rfl rfl ?_
    refine Ops.mv_int rfl rfl rfl ?_
    refine Ops.mv_int rfl rfl rfl ?_
    refine Ops.nil ?_
    refine thenQ_n ?_
    refine Cd.ret ?_
    refine thenQ_r ?_
    refine ret2_ii rfl rfl ?_
    -- stop: end
    rw [if_neg hs]
    exact ⟨by rw [cnK, lstK, lstI, if_neg hs, if_neg hs]; rfl, St.refl _⟩
  · have hs : Small rank flags := Classical.byContradiction fun hs => h (by rw [if_neg hs]; decide)
    obtain ⟨n, rfl⟩ : ∃ n : Nat, rank = n := ⟨rank.toNat, by have := hs.1; omega⟩
    obtain ⟨F, rfl⟩ : ∃ F : Nat, flags = F := ⟨flags.toNat, by have := hs.2; omega⟩
    have hs1 := hs.1
    have hs2 := hs.2
    refine Cd.skip ?_
    refine thenQ_n ?_
    refine Cd.seq ?_
    refine Cd.region ?_
    refine Ops.mv_int rfl rfl rfl ?_
    refine Ops.mv_int rfl rfl rfl ?_
    -- stop: CALL spec.l19List(t16, t17) -> 18
    refine Ops.call (l19List_c n F (by omega) (by omega) _) rfl rfl rfl ?_
    rintro _ w2 ⟨A, c, A2, c2, ms, rfl, hL, hok, hS⟩
    refine Ops.mv_tup rfl rfl rfl ?_
    refine Ops.extract rfl rfl rfl ?_
    refine Ops.extract rfl rfl rfl ?_
    refine Ops.mv_sl rfl rfl rfl ?_
    refine Ops.mv_sl rfl rfl rfl ?_
    refine Ops.nil ?_
    refine thenQ_n ?_
    refine Cd.seq ?_
    refine Cd.region ?_
    refine Ops.mv_sl rfl rfl rfl ?_
    refine Ops.len rfl rfl ?_
    refine Ops.mv_int rfl rfl rfl ?_
    refine Ops.mv_int rfl rfl rfl ?_
    refine Ops.nil ?_
    refine thenQ_n ?_
    refine Cd.ret ?_
    refine ret2_ii rfl rfl ?_
    -- stop: end
    refine ⟨?_, hS.none⟩
    rw [cnK, lstK, lstI, if_pos hs, if_pos hs, Int.toNat_natCast, Int.toNat_natCast, ← hL, List.length_map]
theorem implCountManiplexes_c (rank flags : Int) (w : World) : Ret Try.prog 31 [.int .i64 rank, .int .i64 flags] w (fun v w' => v = .tuple #[.int .i64 (cnK rank flags), .int .i64 (lstK rank flags)] ∧ St w w' []) := by
  refine Ret.of_cd Try.func31 rfl Try.ntmps31 rfl (post2 rfl) ?_
  refine Cd.seq ?_
  refine Cd.region ?_
  refine Ops.mv_int rfl rfl rfl ?_
  refine Ops.mv_int rfl rfl rfl ?_
  refine Ops.nil ?_
  refine thenQ_n ?_
  refine Cd.seq ?_
  refine Cd.region ?_
  refine Ops.mv_int rfl rfl rfl ?_
  refine Ops.mv_int rfl rfl rfl ?_
  -- stop: CALL impl.allManiplexes(t9, t10) -> 11
  refine Ops.call (allManiplexes_c rank flags _) rfl rfl rfl ?_
  rintro _ w2 ⟨A, c, ms, rfl, hL, hok, hS⟩
  refine Ops.mv_tup rfl rfl rfl ?_
  refine Ops.extract rfl rfl rfl ?_
  refine Ops.extract rfl rfl rfl ?_
  refine Ops.mv_sl rfl rfl rfl ?_
  refine Ops.mv_int rfl rfl rfl ?_
  refine Ops.nil ?_
  refine thenQ_n ?_
  refine Cd.seq ?_
  refine Cd.region ?_
  refine Ops.mv_sl rfl rfl rfl ?_
  -- stop: CALL impl.Maniplex](t14) -> 15
  refine Ops.call (sizeM_c _ _ _ _) rfl rfl rfl ?_
  rintro _ w2 ⟨rfl, rfl⟩
  refine Ops.mv_int rfl rfl rfl ?_
  refine Ops.mv_int rfl rfl rfl ?_
  refine Ops.mv_int rfl rfl rfl ?_
  refine Ops.nil ?_
  refine thenQ_n ?_
  refine Cd.ret ?_
  refine ret2_ii rfl rfl ?_
  -- stop: end
  exact ⟨by rw [cnK, ← hL, List.length_map], hS.none⟩
theorem FnExactCountManiplexes_c (rank flags : Int) (w : World) : Ret Try.prog 6 [.int .i64 rank, .int .i64 flags] w (fun v w' => v = .bool true ∧ St w w' []) := by
  refine Ret.of_cd Try.func6 rfl Try.ntmps6 rfl (post1 rfl) ?_
  refine Cd.seq ?_
  refine Cd.region ?_
  refine Ops.mv_bool rfl rfl rfl ?_
  refine Ops.nil ?_
  refine thenQ_n ?_
  refine Cd.seq ?_
  refine Cd.region ?_
  refine Ops.mv_int rfl rfl rfl ?_
  refine Ops.mv_int rfl rfl rfl ?_
  -- stop: CALL spec.CountManiplexes(t10, t11) -> 12
  refine Ops.call (specCountManiplexes_c rank flags _) rfl rfl rfl ?_
  rintro _ w1 ⟨rfl, hS1⟩
  refine Ops.mv_tup rfl rfl rfl ?_
  refine Ops.extract rfl rfl rfl ?_
  refine Ops.extract rfl rfl rfl ?_
  refine Ops.mv_int rfl rfl rfl ?_
  refine Ops.mv_int rfl rfl rfl ?_
  refine Ops.nil ?_
  refine thenQ_n ?_
  refine Cd.seq ?_
  refine Cd.region ?_
  refine Ops.mv_int rfl rfl rfl ?_
  refine Ops.mv_int rfl rfl rfl ?_
  -- stop: CALL impl.CountManiplexes(t16, t17) -> 18
  refine Ops.call (implCountManiplexes_c rank flags _) rfl rfl rfl ?_
  rintro _ w2 ⟨rfl, hS2⟩
  refine Ops.mv_tup rfl rfl rfl ?_
  refine Ops.extract rfl rfl rfl ?_
  refine Ops.extract rfl rfl rfl ?_
  refine Ops.mv_int rfl rfl rfl ?_
  refine Ops.mv_int rfl rfl rfl ?_
  refine Ops.nil ?_
  refine thenQ_n ?_
  refine Cd.seq ?_
  refine Cd.seq ?_
  refine Cd.region ?_
  refine Ops.mv_int rfl rfl rfl ?_
  refine Ops.mv_int rfl rfl rfl ?_
  refine Ops.neq rfl rfl rfl ?_
  refine Ops.mv_bool rfl rfl rfl ?_
  -- stop: guard 24
  refine Ops.split_p 24 rfl (fun h => absurd rfl h) (fun h => ?_) --f
  refine Ops.rung rfl rfl rfl ?_
  refine Ops.mv_int rfl rfl rfl ?_
  refine Ops.rung rfl rfl rfl ?_
  refine Ops.mv_int rfl rfl rfl ?_
  refine Ops.rung rfl rfl rfl ?_
  refine Ops.neq rfl rfl rfl ?_
  refine Ops.pick_f rfl rfl rfl ?_
  refine Ops.nil ?_
  refine thenQ_n ?_
  -- stop: cond
  refine Cd.cond_pf rfl (fun h => h rfl) ?_
  refine Cd.skip ?_
  refine thenQ_n ?_
  refine Cd.seq ?_
  refine Cd.region ?_
  refine Ops.mv_bool rfl rfl rfl ?_
  refine Ops.nil ?_
  refine thenQ_n ?_
  refine Cd.ret ?_
  refine ret1_b rfl ?_
  -- stop: end
  exact ⟨rfl, (hS1.later hS2.below).none⟩

/-! the lists -/
theorem specAllManiplexes_c (rank flags : Int) (w : World) : Ret Try.prog 37 [.int .i64 rank, .int .i64 flags] w (AnsM (lstI rank flags) (lstK rank flags) w) := by
  refine Ret.of_cd Try.func37 rfl Try.ntmps37 rfl (post2 rfl) ?_
  refine Cd.seq ?_
  refine Cd.region ?_
  refine Ops.mv_sl rfl rfl rfl ?_
  refine Ops.mv_int rfl rfl rfl ?_
  refine Ops.nil ?_
  refine thenQ_n ?_
  refine Cd.seq ?_
  refine Cd.seq ?_
  refine Cd.region ?_
  refine Ops.mv_int rfl rfl rfl ?_
  refine Ops.mv_int rfl rfl rfl ?_
  -- stop: CALL spec.l19Code(t9, t10) -> 11
  refine Ops.call (l19Code_c rank flags _) rfl rfl rfl ?_
  rintro _ w ⟨rfl, rfl⟩
  refine Ops.mv_int rfl rfl rfl ?_
  refine Ops.nil ?_
  refine thenQ_n ?_
  refine Cd.seq ?_
  refine Cd.region ?_
  refine Ops.mv_int rfl rfl rfl ?_
  refine Ops.neq rfl rfl rfl ?_
  refine Ops.nil ?_
  refine thenQ_n ?_
  -- stop: cond
  refine Cd.cond_p _ rfl (fun h => ?_) (fun h => ?_)
  · have hs : ¬ Small rank flags := fun hs => h (by rw [if_pos hs])
    refine Cd.seq ?_
    refine Cd.region ?_
    refine Ops.mv_int rfl rfl rfl ?_
    refine Ops.mv_sl rfl rfl rfl ?_
    refine Ops.mv_int rfl rfl rfl ?_
    refine Ops.nil ?_
    refine thenQ_n ?_
    refine Cd.ret ?_
    refine thenQ_r ?_
    refine ret2_si rfl rfl ?_
    -- stop: end
    rw [if_neg hs, lstK, lstI, if_neg hs, if_neg hs]
    exact AnsM.none (St.refl _)
  · have hs : Small rank flags := Classical.byContradiction fun hs => h (by rw [if_neg hs]; decide)
    obtain ⟨n, rfl⟩ : ∃ n : Nat, rank = n := ⟨rank.toNat, by have := hs.1; omega⟩
    obtain ⟨F, rfl⟩ : ∃ F : Nat, flags = F := ⟨flags.toNat, by have := hs.2; omega⟩
    have hs1 := hs.1
    have hs2 := hs.2
    refine Cd.skip ?_
    refine thenQ_n ?_
    refine Cd.seq ?_
    refine Cd.region ?_
    refine Ops.mv_int rfl rfl rfl ?_
    refine Ops.mv_int rfl rfl rfl ?_
    -- stop: CALL spec.l19List(t16, t17) -> 18
    refine Ops.call (l19List_c n F (by omega) (by omega) _) rfl rfl rfl ?_
    rintro _ w2 ⟨A, c, A2, c2, ms, rfl, hL, hok, hS⟩
    refine Ops.mv_tup rfl rfl rfl ?_
    refine Ops.extract rfl rfl rfl ?_
    refine Ops.extract rfl rfl rfl ?_
    refine Ops.mv_sl rfl rfl rfl ?_
    refine Ops.mv_sl rfl rfl rfl ?_
    refine Ops.nil ?_
    refine thenQ_n ?_
    refine Cd.seq ?_
    refine Cd.region ?_
    refine Ops.mv_sl rfl rfl rfl ?_
    refine Ops.mv_sl rfl rfl rfl ?_
    refine Ops.mv_int rfl rfl rfl ?_
    refine Ops.nil ?_
    refine thenQ_n ?_
    refine Cd.ret ?_
    refine ret2_si rfl rfl ?_
    -- stop: end
    rw [lstK, lstI, if_pos hs, if_pos hs, Int.toNat_natCast, Int.toNat_natCast]
    exact ⟨A, c, ms, rfl, hL, hok, hS.sub (List.Sublist.cons_cons _ (List.sublist_cons_self _ _))⟩
theorem implAllManiplexes_c (rank flags : Int) (w : World) : Ret Try.prog 38 [.int .i64 rank, .int .i64 flags] w (AnsM (lstI rank flags) (lstK rank flags) w) := by
  refine Ret.of_cd Try.func38 rfl Try.ntmps38 rfl (post2 rfl) ?_
  refine Cd.seq ?_
  refine Cd.region ?_
  refine Ops.mv_sl rfl rfl rfl ?_
  refine Ops.mv_int rfl rfl rfl ?_
  refine Ops.nil ?_
  refine thenQ_n ?_
  refine Cd.seq ?_
  refine Cd.region ?_
  refine Ops.mv_int rfl rfl rfl ?_
  refine Ops.mv_int rfl rfl rfl ?_
  -- stop: CALL impl.allManiplexes(t6, t7) -> 8
  refine Ops.call (allManiplexes_c rank flags _) rfl rfl rfl ?_
  rintro _ w2 ⟨A, c, ms, rfl, hL, hok, hS⟩
  refine Ops.extract rfl rfl rfl ?_
  refine Ops.extract rfl rfl rfl ?_
  refine Ops.mv_sl rfl rfl rfl ?_
  refine Ops.mv_int rfl rfl rfl ?_
  refine Ops.nil ?_
  refine thenQ_n ?_
  refine Cd.ret ?_
  refine ret2_si rfl rfl ?_
  -- stop: end
  exact ⟨A, c, ms, rfl, hL, hok, hS⟩
theorem FnExactAllManiplexes_c (rank flags : Int) (w : World) : Ret Try.prog 9 [.int .i64 rank, .int .i64 flags] w (fun v w' => v = .bool true ∧ St w w' []) := by
  have hlen := lst_len rank flags
  refine Ret.of_cd Try.func9 rfl Try.ntmps9 rfl (post1 rfl) ?_
  refine Cd.seq ?_
  refine Cd.region ?_
  refine Ops.mv_bool rfl rfl rfl ?_
  refine Ops.nil ?_
  refine thenQ_n ?_
  refine Cd.seq ?_
  refine Cd.region ?_
  refine Ops.mv_int rfl rfl rfl ?_
  refine Ops.mv_int rfl rfl rfl ?_
  -- stop: CALL spec.AllManiplexes(t14, t15) -> 16
  refine Ops.call (specAllManiplexes_c rank flags _) rfl rfl rfl ?_
  rintro _ w1 ⟨A0, c0, ms0, rfl, hL0, hok0, hS1⟩
  have hl0 : ms0.length = (lstI rank flags).length := by rw [← hL0, List.length_map]
  have hsm0 := hS1.smV (List.sublist_cons_self _ _) hL0 hok0
  refine Ops.mv_tup rfl rfl rfl ?_
  refine Ops.extract rfl rfl rfl ?_
  refine Ops.extract rfl rfl rfl ?_
  refine Ops.mv_sl rfl rfl rfl ?_
  refine Ops.mv_int rfl rfl rfl ?_
  refine Ops.nil ?_
  refine thenQ_n ?_
  refine Cd.seq ?_
  refine Cd.region ?_
  refine Ops.mv_int rfl rfl rfl ?_
  refine Ops.mv_int rfl rfl rfl ?_
  -- stop: CALL impl.AllManiplexes(t20, t21) -> 22
  refine Ops.call (implAllManiplexes_c rank flags _) rfl rfl rfl ?_
  rintro _ w2 ⟨A1, c1, ms1, rfl, hL1, hok1, hS2⟩
  have hl1 : ms1.length = (lstI rank flags).length := by rw [← hL1, List.length_map]
  have hsm1 := hS2.smV (List.sublist_cons_self _ _) hL1 hok1
  have hcap1 : ∀ m ∈ ms1, m.top.n ≤ 9223372036854775807 := fun m hm => by have := (hsm1 m hm).2.2.1; omega
  have hS2 := hS1.call hS2
  have hR0 := hS2.msR hok0 (List.sublist_append_right _ _)
  have hR1 := hS2.msR hok1 (List.sublist_append_left _ _)
  refine Ops.mv_tup rfl rfl rfl ?_
  refine Ops.extract rfl rfl rfl ?_
  refine Ops.extract rfl rfl rfl ?_
  refine Ops.mv_sl rfl rfl rfl ?_
  refine Ops.mv_int rfl rfl rfl ?_
  refine Ops.nil ?_
  refine thenQ_n ?_
  refine Cd.seq ?_
  refine Cd.seq ?_
  refine Cd.region ?_
  refine Ops.mv_sl rfl rfl rfl ?_
  refine Ops.mv_sl rfl rfl rfl ?_
  -- stop: CALL laws.eqManiplexS(t25, t26) -> 27
  refine Ops.call (eqManiplexS_c A1 c1 ms1 A0 c0 ms0 _ hR1 hR0 (by omega) hcap1) rfl rfl rfl ?_
  rintro _ w3 ⟨rfl, hst3⟩
  have hS3 := hS2.later hst3.below
  have e10 : ms1.map (·.xss) = ms0.map (·.xss) := by rw [hL0, hL1]
  first | refine Ops.not_p rfl rfl ?_ | refine Ops.not rfl rfl ?_
  refine Ops.mv_bool rfl rfl rfl ?_
  -- stop: guard 29
  refine Ops.split_p 29 rfl (fun h => absurd e10 h) (fun h => ?_) --f
  refine Ops.rung rfl rfl rfl ?_
  refine Ops.mv_int rfl rfl rfl ?_
  refine Ops.rung rfl rfl rfl ?_
  refine Ops.mv_int rfl rfl rfl ?_
  refine Ops.rung rfl rfl rfl ?_
  refine Ops.neq rfl rfl rfl ?_
  refine Ops.pick_f rfl rfl rfl ?_
  refine Ops.nil ?_
  refine thenQ_n ?_
  -- stop: cond
  refine Cd.cond_pf rfl (fun h => h rfl) ?_
  refine Cd.skip ?_
  refine thenQ_n ?_
  refine Cd.seq ?_
  refine Cd.region ?_
  refine Ops.mv_int rfl rfl rfl ?_
  refine Ops.nil ?_
  refine thenQ_n ?_
  refine Cd.seq ?_
  refine Cd.region ?_
  refine Ops.mv_sl rfl rfl rfl ?_
  refine Ops.mv_int rfl rfl rfl ?_
  -- stop: CALL laws.markManiplexS(t34, t35) -> 36
  refine Ops.call (markManiplexS_c 1 hS3 hsm1 (by omega) (by omega)) rfl rfl rfl ?_
  rintro _ w4 ⟨rfl, hS4⟩
  have hR4 : MsR w4 A1 (mkV 1 ms1) := hS4.msR (c := c1) (mkV_ok hok1) (by rw [mkV_len, mkV_top]; exact List.sublist_append_left _ _)
  have htb := totM_le (b := 48) ms1 (fun m hm => (hsm1 m hm).tot.2)
  refine Ops.mv_int rfl rfl rfl ?_
  refine Ops.nil ?_
  refine thenQ_n ?_
  refine Cd.seq ?_
  refine Cd.region ?_
  refine Ops.mv_int rfl rfl rfl ?_
  refine Ops.nil ?_
  refine thenQ_n ?_
  refine Cd.seq ?_
  refine Cd.region ?_
  refine Ops.mv_sl rfl rfl rfl ?_
  refine Ops.mv_int rfl rfl rfl ?_
  -- stop: CALL laws.heldManiplexS(t37, t38) -> 39
  refine Ops.call (heldManiplexS_c A1 c1 ms1 1 _ hR4 hsm1 (by omega) (by omega)) rfl rfl rfl ?_
  rintro _ w4 ⟨rfl, rfl⟩
  refine Ops.mv_int rfl rfl rfl ?_
  refine Ops.nil ?_
  refine thenQ_n ?_
  refine Cd.seq ?_
  refine Cd.seq ?_
  refine Cd.region ?_
  refine Ops.mv_int rfl rfl rfl ?_
  refine Ops.lss rfl rfl rfl ?_
  refine Ops.nil ?_
  refine thenQ_n ?_
  -- stop: cond
  refine Cd.cond_pf rfl (by omega) ?_
  refine Cd.skip ?_
  refine thenQ_n ?_
  refine Cd.seq ?_
  refine Cd.seq ?_
  refine Cd.region ?_
  refine Ops.mv_int rfl rfl rfl ?_
  refine Ops.mv_int rfl rfl rfl ?_
  refine Ops.neq rfl rfl rfl ?_
  refine Ops.nil ?_
  refine thenQ_n ?_
  -- stop: cond
  refine Cd.cond_pf rfl (fun h => h rfl) ?_
  refine Cd.skip ?_
  refine thenQ_n ?_
  refine Cd.seq ?_
  refine Cd.region ?_
  refine Ops.mv_int rfl rfl rfl ?_
  refine Ops.mv_int rfl rfl rfl ?_
  -- stop: CALL impl.AllManiplexes(t46, t47) -> 48
  refine Ops.call (implAllManiplexes_c rank flags _) rfl rfl rfl ?_
  rintro _ w5 ⟨A2, c2, ms2, rfl, hL2, hok2, hS5⟩
  have hl2 : ms2.length = (lstI rank flags).length := by rw [← hL2, List.length_map]
  have hsm2 := hS5.smV (List.sublist_cons_self _ _) hL2 hok2
  have hcap2 : ∀ m ∈ ms2, m.top.n ≤ 9223372036854775807 := fun m hm => by have := (hsm2 m hm).2.2.1; omega
  have hR0' := (hS4.msR hok0 (List.sublist_append_right (CkR 24 A1 ms1.length c1 (ms1.map (·.top)) :: matsCk 33 2 (mkV 1 ms1)) _)).later hS5.below
  have hR2 := hS5.msR hok2 (List.Sublist.refl _)
  refine Ops.mv_tup rfl rfl rfl ?_
  refine Ops.extract rfl rfl rfl ?_
  refine Ops.extract rfl rfl rfl ?_
  refine Ops.mv_sl rfl rfl rfl ?_
  refine Ops.mv_int rfl rfl rfl ?_
  refine Ops.nil ?_
  refine thenQ_n ?_
  refine Cd.seq ?_
  refine Cd.seq ?_
  refine Cd.region ?_
  refine Ops.mv_sl rfl rfl rfl ?_
  refine Ops.mv_sl rfl rfl rfl ?_
  -- stop: CALL laws.eqManiplexS(t51, t52) -> 53
  refine Ops.call (eqManiplexS_c A2 c2 ms2 A0 c0 ms0 _ hR2 hR0' (by omega) hcap2) rfl rfl rfl ?_
  rintro _ w6 ⟨rfl, hst6⟩
  have e20 : ms2.map (·.xss) = ms0.map (·.xss) := by rw [hL0, hL2]
  first | refine Ops.not_p rfl rfl ?_ | refine Ops.not rfl rfl ?_
  refine Ops.mv_bool rfl rfl rfl ?_
  -- stop: guard 55
  refine Ops.split_p 55 rfl (fun h => absurd e20 h) (fun h => ?_) --f
  refine Ops.rung rfl rfl rfl ?_
  refine Ops.mv_int rfl rfl rfl ?_
  refine Ops.rung rfl rfl rfl ?_
  refine Ops.mv_int rfl rfl rfl ?_
  refine Ops.rung rfl rfl rfl ?_
  refine Ops.neq rfl rfl rfl ?_
  refine Ops.pick_f rfl rfl rfl ?_
  refine Ops.nil ?_
  refine thenQ_n ?_
  -- stop: cond
  refine Cd.cond_pf rfl (fun h => h rfl) ?_
  refine Cd.skip ?_
  refine thenQ_n ?_
  refine Cd.seq ?_
  refine Cd.region ?_
  refine Ops.mv_int rfl rfl rfl ?_
  refine Ops.nil ?_
  refine thenQ_n ?_
  refine Cd.seq ?_
  refine Cd.region ?_
  refine Ops.mv_sl rfl rfl rfl ?_
  refine Ops.mv_int rfl rfl rfl ?_
  -- stop: CALL laws.heldManiplexS(t60, t61) -> 62
  refine Ops.call (heldManiplexS_c A1 c1 ms1 1 _ ((hR4.later hS5.below).later hst6.below) hsm1 (by omega) (by omega)) rfl rfl rfl ?_
  rintro _ w6 ⟨rfl, rfl⟩
  refine Ops.mv_int rfl rfl rfl ?_
  refine Ops.nil ?_
  refine thenQ_n ?_
  refine Cd.seq ?_
  refine Cd.seq ?_
  refine Cd.region ?_
  refine Ops.mv_int rfl rfl rfl ?_
  refine Ops.lss rfl rfl rfl ?_
  refine Ops.nil ?_
  refine thenQ_n ?_
  -- stop: cond
  refine Cd.cond_pf rfl (by omega) ?_
  refine Cd.skip ?_
  refine thenQ_n ?_
  refine Cd.seq ?_
  refine Cd.seq ?_
  refine Cd.region ?_
  refine Ops.mv_int rfl rfl rfl ?_
  refine Ops.mv_int rfl rfl rfl ?_
  refine Ops.neq rfl rfl rfl ?_
  refine Ops.nil ?_
  refine thenQ_n ?_
  -- stop: cond
  refine Cd.cond_pf rfl (fun h => h rfl) ?_
  refine Cd.skip ?_
  refine thenQ_n ?_
  refine Cd.seq ?_
  refine Cd.region ?_
  refine Ops.mv_bool rfl rfl rfl ?_
  refine Ops.nil ?_
  refine thenQ_n ?_
  refine Cd.ret ?_
  refine ret1_b rfl ?_
  -- stop: end
  exact ⟨rfl, ((hS4.later hS5.below).later hst6.below).none⟩
end Go.Proofs.Ytgobjpcankaicaa.Vc
/-
  A call with two results of which the first lies in memory; a struct of one slice built of nothing. Conditions: as each rule names them.
-/
namespace Go.Proofs.Ytgobjpcankaicaa.Vc
open Go.RowKit
section
variable {P : Program} {N : Nat} {ops : Array Oper} {K : Env → World → Prop} {rest : List Oper} {e : Env} {w0 w w' : World} {ks : List Ck} {d : Nat} {ty : TypeId} {pos : String} {af : Array Edge}
def retc2 (a n u : Nat) (R : Value → World → Prop) : Post
  | .normal, e, w => ∃ A f, e a = .pointer A ∧ Rd w A n f ∧ R (.tuple #[.agg ((List.range n).map f).toArray, e u]) w
  | .ret, e, w => ∃ A f, e a = .pointer A ∧ Rd w A n f ∧ R (.tuple #[.agg ((List.range n).map f).toArray, e u]) w
  | _, _, _ => False
theorem retc2_r {a n u : Nat} {R : Value → World → Prop} {A : Option Addr} {f : Nat → Value} {v : Value} (h : e a = .pointer A) (hR : Rd w A n f) (hv : e u = v) (h2 : R (.tuple #[.agg ((List.range n).map f).toArray, v]) w) : retc2 a n u R .ret e w := ⟨A, f, h, hR, by rw [hv]; exact h2⟩
theorem postc2 {fn : Func} {R : Value → World → Prop} {a t n b u : Nat} {fs : Array Field} {z : Value} [Und P t (.struct fs)] [Inf P t z n b] (hr : fn.results = #[.cell a t, .tmp u]) (hn' : Nat.blt 0 n = true) : ∀ x a1 e w, Rep N a1 e → retc2 a n u R x e w → bodyPost P fn (fun x w' => ∃ v, x = .returned v ∧ R v w') x a1 w := by
  intro x a1 e w he q
  have hn : 0 < n := by simpa [Nat.blt_eq] using hn'
  have hg := he.get a
  have hh := he.get u
  have key : ∀ (A : Option Addr) (f : Nat → Value), e a = .pointer A → Rd w A n f → (results fn a1.tmps).run P w = .ok (.tuple #[.agg ((List.range n).map f).toArray, e u]) w := by
    intro A f hA hR
    obtain ⟨q, rfl, hl⟩ := run_loadAgg (P := P) (t := t) hn hR
    rw [Array.getD_eq_getD_getElem?] at hg hh
    simp [results, hr, hg, hh, hA, asAddr, hl]
  cases x <;> first
    | exact q.elim
    | (obtain ⟨A, f, hA, hR, h2⟩ := q
       exact ⟨he.defers, _, key A f hA hR, _, rfl, h2⟩)
end
end Go.Proofs.Ytgobjpcankaicaa.Vc
/-
  ManiplexAt on both sides, and the walk of its law. Conditions: none.
-/
namespace Go.Proofs.Ytgobjpcankaicaa.Vc
open Go.RowKit

/-- an answer: a maniplex, or none, and a code -/
def AnsX (L : Mx) (K : Int) (w : World) (v : Value) (w' : World) : Prop := ∃ A c, ∃ rs : List SlV, v = .tuple #[.agg #[.slice A L.length c], .int .i64 K] ∧ rs.length = L.length ∧ St w w' (mat 33 2 A L.length c rs L)
theorem AnsX.none {w w' : World} {ks : List Ck} {K : Int} (h : St w w' ks) : AnsX [] K w (.tuple #[.agg #[.slice Option.none 0 0], .int .i64 K]) w' := ⟨Option.none, 0, [], rfl, rfl, h.none.nil _⟩

/-! marks on one maniplex, exact -/
theorem markMx_c {w0 w : World} {pre post : List Ck} {t1 t2 : TypeId} {A : Option Addr} {n c : Nat} {rs : List SlV} {xss : List (List Int)} (k : Int) (hS : St w0 w (pre ++ (mat t1 t2 A n c rs xss ++ post))) (hrl : rs.length = n) (hxl : xss.length = n) (hn : n ≤ 1000) (hr : ∀ x ∈ xss, x.length ≤ 1000) (hk0 : 0 ≤ k ∧ k ≤ 1000000000000000) :
    Ret Try.prog 25 [.agg #[.slice A n c], .int .i64 k] w (fun v w' => v = .int .i64 (k + tot xss) ∧ St w0 w' (pre ++ (mat t1 t2 A n c rs (mkSS k xss) ++ post))) := by
  refine Ret.of_cd Try.func25 rfl Try.ntmps25 rfl (post1 rfl) ?_
  refine Cd.seq ?_
  refine Cd.region ?_
  -- stop: BOX 24 t0=a -> 2
  refine Ops.box1 hS rfl rfl ?_
  intro Ab w1 hS1
  refine Ops.mv_int rfl rfl rfl ?_
  refine Ops.nil ?_
  refine thenQ_n ?_
  refine Cd.seq ?_
  refine Cd.region ?_
  -- stop: FIELDADDR 24 t2=a 0 -> 5
  refine Ops.fld (hS1.rd 0 rfl) rfl rfl rfl rfl inferInstance ?_
  refine Ops.ldf_s (hS1.rd 0 rfl) rfl rfl rfl rfl rfl ?_
  refine Ops.mv_int rfl rfl rfl ?_
  -- stop: CALL laws.markInt64SS(t6, t7) -> 8
  refine Ops.call (markSS_c (pre := Bx 24 1 Ab [.slice A n c] :: pre) (post := post) (rs := rs) k hS1 hrl hxl hn hr hk0) rfl rfl rfl ?_
  rintro _ w2 ⟨rfl, hS2⟩
  refine Ops.mv_int rfl rfl rfl ?_
  refine Ops.nil ?_
  refine thenQ_n ?_
  refine Cd.seq ?_
  refine Cd.region ?_
  refine Ops.mv_int rfl rfl rfl ?_
  refine Ops.mv_int rfl rfl rfl ?_
  refine Ops.nil ?_
  refine thenQ_n ?_
  refine Cd.ret ?_
  refine ret1_i rfl ?_
  -- stop: end
  exact ⟨rfl, St.tail hS2⟩
theorem heldMx_c (A : Option Addr) (n c : Nat) (rs : List SlV) (xss : List (List Int)) (k : Int) (w : World) (hR : RowsI w A n rs (mkSS k xss)) (hn : n ≤ 1000) (hr : ∀ x ∈ xss, x.length ≤ 1000) (hk0 : 0 ≤ k ∧ k ≤ 1000000000000000) :
    Ret Try.prog 36 [.agg #[.slice A n c], .int .i64 k] w (fun v w' => v = .int .i64 (k + tot xss) ∧ St w w' []) := by
  have hl := hR.len
  rw [mkSS_len] at hl
  have htb := tot_le (b := 1000) xss hr
  refine Ret.of_cd Try.func36 rfl Try.ntmps36 rfl (post1 rfl) ?_
  refine Cd.seq ?_
  refine Cd.region ?_
  -- stop: BOX 24 t0=a -> 2
  refine Ops.box1 (St.refl w) rfl rfl ?_
  intro Ab w1 hS1
  refine Ops.mv_int rfl rfl rfl ?_
  refine Ops.nil ?_
  refine thenQ_n ?_
  refine Cd.seq ?_
  refine Cd.region ?_
  -- stop: FIELDADDR 24 t2=a 0 -> 5
  refine Ops.fld (hS1.rd 0 rfl) rfl rfl rfl rfl inferInstance ?_
  refine Ops.ldf_s (hS1.rd 0 rfl) rfl rfl rfl rfl rfl ?_
  refine Ops.mv_int rfl rfl rfl ?_
  -- stop: CALL laws.heldInt64SS(t6, t7) -> 8
  refine Ops.call (heldSS_c A n c rs xss k _ (hS1.oldRows hR) hn hr hk0) rfl rfl rfl ?_
  rintro _ w2 ⟨rfl, rfl⟩
  refine Ops.mv_int rfl rfl rfl ?_
  refine Ops.nil ?_
  refine thenQ_n ?_
  refine Cd.seq ?_
  refine Cd.seq ?_
  refine Cd.region ?_
  refine Ops.mv_int rfl rfl rfl ?_
  refine Ops.lss rfl rfl rfl ?_
  refine Ops.nil ?_
  refine thenQ_n ?_
  -- stop: cond
  refine Cd.cond_pf rfl (by omega) ?_
  refine Cd.skip ?_
  refine thenQ_n ?_
  refine Cd.seq ?_
  refine Cd.region ?_
  refine Ops.mv_int rfl rfl rfl ?_
  refine Ops.mv_int rfl rfl rfl ?_
  refine Ops.nil ?_
  refine thenQ_n ?_
  refine Cd.ret ?_
  refine ret1_i rfl ?_
  -- stop: end
  exact ⟨rfl, hS1.none⟩

/-! the answers -/
def atK (rank flags i : Int) : Int := if ¬ Small rank flags ∨ i < 0 then 2 else if ((lstI rank flags).length : Int) ≤ i then 4 else 0
def atL (rank flags i : Int) : Mx := if i < 0 then [] else (lstI rank flags).getD i.toNat []
theorem atL_small {rank flags i : Int} : (atL rank flags i).length ≤ 4 ∧ ∀ x ∈ atL rank flags i, x.length ≤ 12 := by
  unfold atL
  split
  · exact ⟨Nat.zero_le _, fun x hx => nomatch hx⟩
  · rw [List.getD_eq_getElem?_getD]
    cases h : (lstI rank flags)[i.toNat]? with
    | none => exact ⟨Nat.zero_le _, fun x hx => nomatch hx⟩
    | some L => exact (lst_small (List.mem_of_getElem? h)).2.2.2
theorem at_bad {rank flags i : Int} (h : ¬ Small rank flags ∨ i < 0) : atL rank flags i = [] ∧ atK rank flags i = 2 := by
  unfold atL atK
  refine ⟨?_, if_pos h⟩
  split
  · rfl
  · rename_i hi
    have hs : ¬ Small rank flags := h.resolve_right hi
    rw [lstI, if_neg hs]
    rfl
theorem at_off {rank flags i : Int} (hs : Small rank flags) (h0 : 0 ≤ i) (h : ((lstI rank flags).length : Int) ≤ i) : atL rank flags i = [] ∧ atK rank flags i = 4 := by
  unfold atL atK
  rw [if_neg (by omega), if_neg (fun h => h.elim (fun h => h hs) (by omega)), if_pos h]
  refine ⟨?_, rfl⟩
  rw [List.getD_eq_getElem?_getD, List.getElem?_eq_none (by omega)]
  rfl
theorem at_in {rank flags i : Int} {ms : List MatV} (hs : Small rank flags) (h0 : 0 ≤ i) (h : i.toNat < ms.length) (hL : ms.map (·.xss) = lstI rank flags) : atL rank flags i = ms[i.toNat].xss ∧ atK rank flags i = 0 := by
  have hl : ms.length = (lstI rank flags).length := by rw [← hL, List.length_map]
  unfold atL atK
  rw [if_neg (by omega), if_neg (fun h => h.elim (fun h => h hs) (by omega)), if_neg (by omega)]
  refine ⟨?_, rfl⟩
  rw [← hL, List.getD_eq_getElem?_getD, List.getElem?_map, List.getElem?_eq_getElem h]
  rfl

theorem specManiplexAt_c (rank flags i : Int) (w : World) : Ret Try.prog 34 [.int .i64 rank, .int .i64 flags, .int .i64 i] w (AnsX (atL rank flags i) (atK rank flags i) w) := by
  refine Ret.of_cd Try.func34 rfl Try.ntmps34 rfl (postc2 rfl rfl) ?_
  refine Cd.seq ?_
  refine Cd.region ?_
  -- stop: ALLOC 24 -> 6
  refine Ops.new1 (St.refl w) rfl ?_
  intro A6 w1 hS1
  refine Ops.mv_int rfl rfl rfl ?_
  refine Ops.nil ?_
  refine thenQ_n ?_
  refine Cd.seq ?_
  refine Cd.seq ?_
  refine Cd.region ?_
  refine Ops.mv_int rfl rfl rfl ?_
  refine Ops.mv_int rfl rfl rfl ?_
  -- stop: CALL spec.l19Code(t11, t12) -> 13
  refine Ops.call (l19Code_c rank flags _) rfl rfl rfl ?_
  rintro _ w1 ⟨rfl, rfl⟩
  refine Ops.mv_int rfl rfl rfl ?_
  refine Ops.nil ?_
  refine thenQ_n ?_
  refine Cd.seq ?_
  refine Cd.region ?_
  refine Ops.mv_int rfl rfl rfl ?_
  refine Ops.neq rfl rfl rfl ?_
  refine Ops.mv_bool rfl rfl rfl ?_
  -- stop: guard 16
  refine Ops.split_p 16 rfl (fun h => ?_) (fun h => ?_)
  · have hs : ¬ Small rank flags := fun hs => h (by rw [if_pos hs])
    refine Ops.skipg rfl rfl rfl rfl rfl ?_
    refine Ops.skipg rfl rfl rfl rfl rfl ?_
    refine Ops.pick_t rfl rfl rfl ?_
    refine Ops.nil ?_
    refine thenQ_n ?_
    -- stop: cond
    refine Cd.cond_t rfl ?_
    refine Cd.seq ?_
    refine Cd.region ?_
    -- stop: BUILD 24 [] -> 20
    refine Ops.bld0 (by exact inferInstance) rfl ?_
    refine Ops.st_agg 1 0 hS1 rfl rfl rfl rfl rfl rfl rfl ?_
    intro w2 hS2
    refine Ops.mv_int rfl rfl rfl ?_
    refine Ops.nil ?_
    refine thenQ_n ?_
    refine Cd.ret ?_
    refine thenQ_r ?_
    skip
    -- stop: end
    refine retc2_r rfl (hS2.rd 0 rfl) rfl ?_
    rw [(at_bad (.inl hs)).1, (at_bad (i := i) (.inl hs)).2]
    exact AnsX.none hS2
  · have hs : Small rank flags := Classical.byContradiction fun hs => h (by rw [if_neg hs]; decide)
    refine Ops.rung rfl rfl rfl ?_
    refine Ops.mv_int rfl rfl rfl ?_
    refine Ops.rung rfl rfl rfl ?_
    refine Ops.lss rfl rfl rfl ?_
    refine Ops.pick_f rfl rfl rfl ?_
    refine Ops.nil ?_
    refine thenQ_n ?_
    -- stop: cond
    refine Cd.cond_p _ rfl (fun h2 => ?_) (fun h2 => ?_)
    · refine Cd.seq ?_
      refine Cd.region ?_
      -- stop: BUILD 24 [] -> 20
      refine Ops.bld0 (by exact inferInstance) rfl ?_
      refine Ops.st_agg 1 0 hS1 rfl rfl rfl rfl rfl rfl rfl ?_
      intro w2 hS2
      refine Ops.mv_int rfl rfl rfl ?_
      refine Ops.nil ?_
      refine thenQ_n ?_
      refine Cd.ret ?_
      refine thenQ_r ?_
      skip
      -- stop: end
      refine retc2_r rfl (hS2.rd 0 rfl) rfl ?_
      rw [(at_bad (.inr h2)).1, (at_bad (.inr h2)).2]
      exact AnsX.none hS2
    · have hi0 : 0 ≤ i := by omega
      obtain ⟨n, rfl⟩ : ∃ n : Nat, rank = n := ⟨rank.toNat, by have := hs.1; omega⟩
      obtain ⟨F, rfl⟩ : ∃ F : Nat, flags = F := ⟨flags.toNat, by have := hs.2; omega⟩
      have hs1 := hs.1
      have hs2 := hs.2
      refine Cd.skip ?_
      refine thenQ_n ?_
      refine Cd.seq ?_
      refine Cd.region ?_
      refine Ops.mv_int rfl rfl rfl ?_
      refine Ops.mv_int rfl rfl rfl ?_
      -- stop: CALL spec.l19List(t22, t23) -> 24
      refine Ops.call (l19List_c n F (by omega) (by omega) _) rfl rfl rfl ?_
      rintro _ w2 ⟨A, c, A2, c2, ms, rfl, hL, hok, hS⟩
      have hL : ms.map (·.xss) = lstI (n : Int) (F : Int) := by rw [lstI, if_pos hs, Int.toNat_natCast, Int.toNat_natCast]; exact hL
      have hl : ms.length = (lstI (n : Int) (F : Int)).length := by rw [← hL, List.length_map]
      have hS2 := (hS1.call hS).perm List.perm_append_comm
      refine Ops.mv_tup rfl rfl rfl ?_
      refine Ops.extract rfl rfl rfl ?_
      refine Ops.extract rfl rfl rfl ?_
      refine Ops.mv_sl rfl rfl rfl ?_
      refine Ops.mv_sl rfl rfl rfl ?_
      refine Ops.nil ?_
      refine thenQ_n ?_
      refine Cd.seq ?_
      refine Cd.seq ?_
      refine Cd.region ?_
      refine Ops.mv_int rfl rfl rfl ?_
      refine Ops.mv_sl rfl rfl rfl ?_
      refine Ops.len rfl rfl ?_
      refine Ops.geq rfl rfl rfl ?_
      refine Ops.nil ?_
      refine thenQ_n ?_
      -- stop: cond
      refine Cd.cond_p _ rfl (fun h3 => ?_) (fun h3 => ?_)
      · refine Cd.seq ?_
        refine Cd.region ?_
        -- stop: BUILD 24 [] -> 31
        refine Ops.bld0 (by exact inferInstance) rfl ?_
        refine Ops.st_agg 1 0 hS2 rfl rfl rfl rfl rfl rfl rfl ?_
        intro w3 hS3
        refine Ops.mv_int rfl rfl rfl ?_
        refine Ops.nil ?_
        refine thenQ_n ?_
        refine Cd.ret ?_
        refine thenQ_r ?_
        skip
        -- stop: end
        refine retc2_r rfl (hS3.rd 0 rfl) rfl ?_
        rw [(at_off hs hi0 (by omega)).1, (at_off hs hi0 (by omega)).2]
        exact AnsX.none hS3
      · have hlt : i.toNat < ms.length := by omega
        have hR := hS2.rdR 1 rfl
        refine Cd.skip ?_
        refine thenQ_n ?_
        refine Cd.seq ?_
        refine Cd.region ?_
        refine Ops.mv_sl rfl rfl rfl ?_
        refine Ops.mv_int rfl rfl rfl ?_
        -- stop: INDEXADDR 51 t32 t33 -> 34
        refine Ops.idx hR.2 rfl rfl rfl hi0 (by omega) ?_
        refine Ops.ld_ag hR rfl hlt rfl ?_
        refine Ops.st_agg 1 0 hS2 rfl rfl rfl rfl rfl rfl rfl ?_
        intro w3 hS3
        refine Ops.mv_int rfl rfl rfl ?_
        refine Ops.nil ?_
        refine thenQ_n ?_
        refine Cd.ret ?_
        skip
        -- stop: end
        refine retc2_r rfl (hS3.rd 0 rfl) rfl ?_
        have ht : rg (ms.map (·.top)) i = ms[i.toNat].top := by
          have := top_at hlt
          rwa [Int.toNat_of_nonneg hi0] at this
        have ho := hok _ (List.getElem_mem hlt)
        have hsub : (ms[i.toNat].cks 33 2).Sublist (Bx 24 1 A6 [.slice (rg (ms.map (·.top)) i).a (rg (ms.map (·.top)) i).n (rg (ms.map (·.top)) i).c] :: CkR 24 A ms.length c (ms.map (·.top)) :: CkI 2 A2 ms.length c2 (ms.map (orbI F)) :: matsCk 33 2 ms) := (((MatV.sub_ (List.getElem_mem hlt)).trans (List.sublist_cons_self _ _)).trans (List.sublist_cons_self _ _)).trans (List.sublist_cons_self _ _)
        have hrl := hS3.rsLen hsub
        have hX := hS3.sub hsub
        rw [(at_in hs hi0 hlt hL).1, (at_in hs hi0 hlt hL).2]
        unfold MatV.ok at ho
        refine ⟨ms[i.toNat].top.a, ms[i.toNat].top.c, ms[i.toNat].rs, ?_, by rw [hrl, ho], ?_⟩
        · rw [ho, ← ht]; rfl
        · rw [ho]; exact hX
theorem implManiplexAt_c (rank flags i : Int) (w : World) : Ret Try.prog 35 [.int .i64 rank, .int .i64 flags, .int .i64 i] w (AnsX (atL rank flags i) (atK rank flags i) w) := by
  refine Ret.of_cd Try.func35 rfl Try.ntmps35 rfl (postc2 rfl rfl) ?_
  refine Cd.seq ?_
  refine Cd.region ?_
  -- stop: ALLOC 24 -> 6
  refine Ops.new1 (St.refl w) rfl ?_
  intro A6 w1 hS1
  refine Ops.mv_int rfl rfl rfl ?_
  refine Ops.nil ?_
  refine thenQ_n ?_
  refine Cd.seq ?_
  refine Cd.seq ?_
  refine Cd.region ?_
  refine Ops.mv_int rfl rfl rfl ?_
  refine Ops.mv_int rfl rfl rfl ?_
  -- stop: CALL impl.isSmall(t10, t11) -> 12
  refine Ops.call (isSmall_c rank flags _) rfl rfl rfl ?_
  rintro _ w1 ⟨rfl, rfl⟩
  first | refine Ops.not_p rfl rfl ?_ | refine Ops.not rfl rfl ?_
  refine Ops.mv_bool rfl rfl rfl ?_
  -- stop: guard 14
  refine Ops.split_p 14 rfl (fun h => ?_) (fun h => ?_)
  · have hs : ¬ Small rank flags := h
    refine Ops.skipg rfl rfl rfl rfl rfl ?_
    refine Ops.skipg rfl rfl rfl rfl rfl ?_
    refine Ops.pick_t rfl rfl rfl ?_
    refine Ops.nil ?_
    refine thenQ_n ?_
    -- stop: cond
    refine Cd.cond_t rfl ?_
    refine Cd.seq ?_
    refine Cd.region ?_
    -- stop: BUILD 24 [] -> 18
    refine Ops.bld0 (by exact inferInstance) rfl ?_
    refine Ops.st_agg 1 0 hS1 rfl rfl rfl rfl rfl rfl rfl ?_
    intro w2 hS2
    refine Ops.mv_int rfl rfl rfl ?_
    refine Ops.nil ?_
    refine thenQ_n ?_
    refine Cd.ret ?_
    refine thenQ_r ?_
    skip
    -- stop: end
    refine retc2_r rfl (hS2.rd 0 rfl) rfl ?_
    rw [(at_bad (.inl hs)).1, (at_bad (i := i) (.inl hs)).2]
    exact AnsX.none hS2
  · have hs : Small rank flags := Classical.not_not.1 h
    refine Ops.rung rfl rfl rfl ?_
    refine Ops.mv_int rfl rfl rfl ?_
    refine Ops.rung rfl rfl rfl ?_
    refine Ops.lss rfl rfl rfl ?_
    refine Ops.pick_f rfl rfl rfl ?_
    refine Ops.nil ?_
    refine thenQ_n ?_
    -- stop: cond
    refine Cd.cond_p _ rfl (fun h2 => ?_) (fun h2 => ?_)
    · refine Cd.seq ?_
      refine Cd.region ?_
      -- stop: BUILD 24 [] -> 18
      refine Ops.bld0 (by exact inferInstance) rfl ?_
      refine Ops.st_agg 1 0 hS1 rfl rfl rfl rfl rfl rfl rfl ?_
      intro w2 hS2
      refine Ops.mv_int rfl rfl rfl ?_
      refine Ops.nil ?_
      refine thenQ_n ?_
      refine Cd.ret ?_
      refine thenQ_r ?_
      skip
      -- stop: end
      refine retc2_r rfl (hS2.rd 0 rfl) rfl ?_
      rw [(at_bad (.inr h2)).1, (at_bad (.inr h2)).2]
      exact AnsX.none hS2
    · have hi0 : 0 ≤ i := by omega
      refine Cd.skip ?_
      refine thenQ_n ?_
      refine Cd.seq ?_
      refine Cd.region ?_
      refine Ops.mv_int rfl rfl rfl ?_
      refine Ops.mv_int rfl rfl rfl ?_
      -- stop: CALL impl.allManiplexes(t20, t21) -> 22
      refine Ops.call (allManiplexes_c rank flags _) rfl rfl rfl ?_
      rintro _ w2 ⟨A, c, ms, rfl, hL, hok, hS⟩
      have hl : ms.length = (lstI rank flags).length := by rw [← hL, List.length_map]
      have hS2 := (hS1.call hS).perm List.perm_append_comm
      refine Ops.mv_tup rfl rfl rfl ?_
      refine Ops.extract rfl rfl rfl ?_
      refine Ops.extract rfl rfl rfl ?_
      refine Ops.mv_sl rfl rfl rfl ?_
      refine Ops.mv_int rfl rfl rfl ?_
      refine Ops.nil ?_
      refine thenQ_n ?_
      refine Cd.seq ?_
      refine Cd.seq ?_
      refine Cd.region ?_
      refine Ops.mv_int rfl rfl rfl ?_
      refine Ops.mv_sl rfl rfl rfl ?_
      -- stop: CALL impl.Maniplex](t26) -> 27
      refine Ops.call (sizeM_c _ _ _ _) rfl rfl rfl ?_
      rintro _ w2 ⟨rfl, rfl⟩
      refine Ops.geq rfl rfl rfl ?_
      refine Ops.nil ?_
      refine thenQ_n ?_
      -- stop: cond
      refine Cd.cond_p _ rfl (fun h3 => ?_) (fun h3 => ?_)
      · refine Cd.seq ?_
        refine Cd.region ?_
        -- stop: BUILD 24 [] -> 29
        refine Ops.bld0 (by exact inferInstance) rfl ?_
        refine Ops.st_agg 1 0 hS2 rfl rfl rfl rfl rfl rfl rfl ?_
        intro w3 hS3
        refine Ops.mv_int rfl rfl rfl ?_
        refine Ops.nil ?_
        refine thenQ_n ?_
        refine Cd.ret ?_
        refine thenQ_r ?_
        skip
        -- stop: end
        refine retc2_r rfl (hS3.rd 0 rfl) rfl ?_
        rw [(at_off hs hi0 (by omega)).1, (at_off hs hi0 (by omega)).2]
        exact AnsX.none hS3
      · have hlt : i.toNat < ms.length := by omega
        have hR := hS2.rdR 1 rfl
        refine Cd.skip ?_
        refine thenQ_n ?_
        refine Cd.seq ?_
        refine Cd.region ?_
        refine Ops.mv_sl rfl rfl rfl ?_
        refine Ops.mv_int rfl rfl rfl ?_
        -- stop: INDEXADDR 51 t30 t31 -> 32
        refine Ops.idx hR.2 rfl rfl rfl hi0 (by omega) ?_
        refine Ops.ld_ag hR rfl hlt rfl ?_
        refine Ops.st_agg 1 0 hS2 rfl rfl rfl rfl rfl rfl rfl ?_
        intro w3 hS3
        refine Ops.mv_int rfl rfl rfl ?_
        refine Ops.nil ?_
        refine thenQ_n ?_
        refine Cd.ret ?_
        skip
        -- stop: end
        refine retc2_r rfl (hS3.rd 0 rfl) rfl ?_
        have ht : rg (ms.map (·.top)) i = ms[i.toNat].top := by
          have := top_at hlt
          rwa [Int.toNat_of_nonneg hi0] at this
        have ho := hok _ (List.getElem_mem hlt)
        have hsub : (ms[i.toNat].cks 33 2).Sublist (Bx 24 1 A6 [.slice (rg (ms.map (·.top)) i).a (rg (ms.map (·.top)) i).n (rg (ms.map (·.top)) i).c] :: CkR 24 A ms.length c (ms.map (·.top)) :: matsCk 33 2 ms) := ((MatV.sub_ (List.getElem_mem hlt)).trans (List.sublist_cons_self _ _)).trans (List.sublist_cons_self _ _)
        have hrl := hS3.rsLen hsub
        have hX := hS3.sub hsub
        rw [(at_in hs hi0 hlt hL).1, (at_in hs hi0 hlt hL).2]
        unfold MatV.ok at ho
        refine ⟨ms[i.toNat].top.a, ms[i.toNat].top.c, ms[i.toNat].rs, ?_, by rw [hrl, ho], ?_⟩
        · rw [ho, ← ht]; rfl
        · rw [ho]; exact hX

theorem FnExactManiplexAt_c (rank flags i : Int) (w : World) : Ret Try.prog 8 [.int .i64 rank, .int .i64 flags, .int .i64 i] w (fun v w' => v = .bool true ∧ St w w' []) := by
  have hsm := atL_small (rank := rank) (flags := flags) (i := i)
  have hS_ := specManiplexAt_c rank flags i
  have hI_ := implManiplexAt_c rank flags i
  generalize atL rank flags i = L at *
  generalize atK rank flags i = K at *
  have htb := tot_le (b := 1000) L (fun x hx => by have := hsm.2 x hx; omega)
  refine Ret.of_cd Try.func8 rfl Try.ntmps8 rfl (post1 rfl) ?_
  refine Cd.seq ?_
  refine Cd.region ?_
  refine Ops.mv_bool rfl rfl rfl ?_
  refine Ops.nil ?_
  refine thenQ_n ?_
  refine Cd.seq ?_
  refine Cd.region ?_
  refine Ops.mv_int rfl rfl rfl ?_
  refine Ops.mv_int rfl rfl rfl ?_
  refine Ops.mv_int rfl rfl rfl ?_
  -- stop: CALL spec.ManiplexAt(t16, t17, t18) -> 19
  refine Ops.call (hS_ _) rfl rfl rfl ?_
  rintro _ w1 ⟨A0, c0, rs0, rfl, hr0, hS1⟩
  refine Ops.mv_tup rfl rfl rfl ?_
  refine Ops.extract rfl rfl rfl ?_
  refine Ops.extract rfl rfl rfl ?_
  -- stop: ALLOC 24 -> 7
  refine Ops.new1 hS1 rfl ?_
  intro A7 w2 hS2
  refine Ops.st_agg 1 0 hS2 rfl rfl rfl rfl rfl rfl rfl ?_
  intro w3 hS3
  refine Ops.mv_int rfl rfl rfl ?_
  refine Ops.nil ?_
  refine thenQ_n ?_
  refine Cd.seq ?_
  refine Cd.region ?_
  refine Ops.mv_int rfl rfl rfl ?_
  refine Ops.mv_int rfl rfl rfl ?_
  refine Ops.mv_int rfl rfl rfl ?_
  -- stop: CALL impl.ManiplexAt(t23, t24, t25) -> 26
  refine Ops.call (hI_ _) rfl rfl rfl ?_
  rintro _ w4 ⟨A1, c1, rs1, rfl, hr1, hS4⟩
  have hS4 := hS3.call hS4
  refine Ops.mv_tup rfl rfl rfl ?_
  refine Ops.extract rfl rfl rfl ?_
  refine Ops.extract rfl rfl rfl ?_
  -- stop: ALLOC 24 -> 9
  refine Ops.new1 hS4 rfl ?_
  intro A9 w5 hS5
  refine Ops.st_agg 1 0 hS5 rfl rfl rfl rfl rfl rfl rfl ?_
  intro w6 hS6
  have hS6 := (hS6.perm (List.Perm.cons _ List.perm_middle) : St w w6 ([Bx 24 1 A9 [.slice A1 L.length c1], Bx 24 1 A7 [.slice A0 L.length c0]] ++ (mat 33 2 A1 L.length c1 rs1 L ++ mat 33 2 A0 L.length c0 rs0 L)))
  generalize hb9 : Bx 24 1 A9 [.slice A1 L.length c1] = b9 at *
  generalize hb7 : Bx 24 1 A7 [.slice A0 L.length c0] = b7 at *
  have r9 : ∀ {w' : World} {ks : List Ck}, St w w' (b9 :: ks) → Rd w' A9 1 (fun j => [Value.slice A1 L.length c1].getD j undef) := fun h => by subst hb9; exact h.rd 0 rfl
  have r7 : ∀ {w' : World} {ks : List Ck}, St w w' (b9 :: b7 :: ks) → Rd w' A7 1 (fun j => [Value.slice A0 L.length c0].getD j undef) := fun h => by subst hb7; exact h.rd 1 rfl
  have m1 : ∀ {w' : World} {X : Mx}, X.length = L.length → St w w' ([b9, b7] ++ (mat 33 2 A1 L.length c1 rs1 X ++ mat 33 2 A0 L.length c0 rs0 L)) → RowsI w' A1 L.length rs1 X := fun hX h => h.matAt ((List.sublist_append_left _ _).trans (List.sublist_append_right _ _)) hX
  have m0 : ∀ {w' : World} {X : Mx}, St w w' ([b9, b7] ++ (mat 33 2 A1 L.length c1 rs1 X ++ mat 33 2 A0 L.length c0 rs0 L)) → RowsI w' A0 L.length rs0 L := fun h => h.matAt (c := c0) ((List.sublist_append_right _ _).trans (List.sublist_append_right _ _)) rfl
  refine Ops.mv_int rfl rfl rfl ?_
  refine Ops.nil ?_
  refine thenQ_n ?_
  refine Cd.seq ?_
  refine Cd.seq ?_
  refine Cd.region ?_
  -- stop: LOAD 24 t9 -> 29
  refine Ops.ld_agg 0 (r9 hS6) rfl rfl rfl ?_
  refine Ops.ld_agg 0 (r7 hS6) rfl rfl rfl ?_
  skip
  -- stop: CALL laws.eqManiplex(t29, t30) -> 31
  refine Ops.call (eqManiplex_c A1 _ c1 rs1 L A0 _ c0 rs0 L _ (m1 rfl hS6) (m0 hS6) (by omega)) rfl rfl rfl ?_
  rintro _ w7 ⟨rfl, hst7⟩
  have hS7 := hS6.later hst7.below
  first | refine Ops.not_p rfl rfl ?_ | refine Ops.not rfl rfl ?_
  refine Ops.mv_bool rfl rfl rfl ?_
  -- stop: guard 33
  refine Ops.split_p 33 rfl (fun h => absurd rfl h) (fun _ => ?_) --f
  refine Ops.rung rfl rfl rfl ?_
  refine Ops.mv_int rfl rfl rfl ?_
  refine Ops.rung rfl rfl rfl ?_
  refine Ops.mv_int rfl rfl rfl ?_
  refine Ops.rung rfl rfl rfl ?_
  refine Ops.neq rfl rfl rfl ?_
  refine Ops.pick_f rfl rfl rfl ?_
  refine Ops.nil ?_
  refine thenQ_n ?_
  -- stop: cond
  refine Cd.cond_pf rfl (fun h => h rfl) ?_
  refine Cd.skip ?_
  refine thenQ_n ?_
  refine Cd.seq ?_
  refine Cd.region ?_
  refine Ops.mv_int rfl rfl rfl ?_
  refine Ops.nil ?_
  refine thenQ_n ?_
  refine Cd.seq ?_
  refine Cd.region ?_
  -- stop: LOAD 24 t9 -> 38
  refine Ops.ld_agg 0 (r9 hS7) rfl rfl rfl ?_
  refine Ops.mv_int rfl rfl rfl ?_
  -- stop: CALL laws.markManiplex(t38, t39) -> 40
  refine Ops.call (markMx_c (rs := rs1) (pre := [b9, b7]) (post := mat 33 2 A0 L.length c0 rs0 L) 1 hS7 hr1 rfl (by omega) (fun x hx => by have := hsm.2 x hx; omega) (by omega)) rfl rfl rfl ?_
  rintro _ w8 ⟨rfl, hS8⟩
  refine Ops.mv_int rfl rfl rfl ?_
  refine Ops.nil ?_
  refine thenQ_n ?_
  refine Cd.seq ?_
  refine Cd.region ?_
  refine Ops.mv_int rfl rfl rfl ?_
  refine Ops.nil ?_
  refine thenQ_n ?_
  refine Cd.seq ?_
  refine Cd.region ?_
  -- stop: LOAD 24 t9 -> 41
  refine Ops.ld_agg 0 (r9 hS8) rfl rfl rfl ?_
  refine Ops.mv_int rfl rfl rfl ?_
  -- stop: CALL laws.heldManiplex(t41, t42) -> 43
  refine Ops.call (heldMx_c A1 _ c1 rs1 L 1 _ (m1 (mkSS_len _ _) hS8) (by omega) (fun x hx => by have := hsm.2 x hx; omega) (by omega)) rfl rfl rfl ?_
  rintro _ w9 ⟨rfl, hst9⟩
  have hS9 := hS8.later hst9.below
  refine Ops.mv_int rfl rfl rfl ?_
  refine Ops.nil ?_
  refine thenQ_n ?_
  refine Cd.seq ?_
  refine Cd.seq ?_
  refine Cd.region ?_
  refine Ops.mv_int rfl rfl rfl ?_
  refine Ops.lss rfl rfl rfl ?_
  refine Ops.nil ?_
  refine thenQ_n ?_
  -- stop: cond
  refine Cd.cond_pf rfl (by omega) ?_
  refine Cd.skip ?_
  refine thenQ_n ?_
  refine Cd.seq ?_
  refine Cd.seq ?_
  refine Cd.region ?_
  refine Ops.mv_int rfl rfl rfl ?_
  refine Ops.mv_int rfl rfl rfl ?_
  refine Ops.neq rfl rfl rfl ?_
  refine Ops.nil ?_
  refine thenQ_n ?_
  -- stop: cond
  refine Cd.cond_pf rfl (fun h => h rfl) ?_
  refine Cd.skip ?_
  refine thenQ_n ?_
  refine Cd.seq ?_
  refine Cd.region ?_
  refine Ops.mv_int rfl rfl rfl ?_
  refine Ops.mv_int rfl rfl rfl ?_
  refine Ops.mv_int rfl rfl rfl ?_
  -- stop: CALL impl.ManiplexAt(t50, t51, t52) -> 53
  refine Ops.call (hI_ _) rfl rfl rfl ?_
  rintro _ w10 ⟨A2, c2, rs2, rfl, hr2, hS10⟩
  have hS10 := hS9.call hS10
  refine Ops.mv_tup rfl rfl rfl ?_
  refine Ops.extract rfl rfl rfl ?_
  refine Ops.extract rfl rfl rfl ?_
  -- stop: ALLOC 24 -> 13
  refine Ops.new1 hS10 rfl ?_
  intro A13 w11 hS11
  refine Ops.st_agg 1 0 hS11 rfl rfl rfl rfl rfl rfl rfl ?_
  intro w12 hS12
  have hS12 : St w w12 (Bx 24 1 A13 [.slice A2 L.length c2] :: (mat 33 2 A2 L.length c2 rs2 L ++ ([b9, b7] ++ (mat 33 2 A1 L.length c1 rs1 (mkSS 1 L) ++ mat 33 2 A0 L.length c0 rs0 L)))) := hS12
  have t12 := fun {w' : World} (h : St w w' (Bx 24 1 A13 [.slice A2 L.length c2] :: (mat 33 2 A2 L.length c2 rs2 L ++ ([b9, b7] ++ (mat 33 2 A1 L.length c1 rs1 (mkSS 1 L) ++ mat 33 2 A0 L.length c0 rs0 L))))) => h.sub ((List.sublist_append_right _ _).trans (List.sublist_cons_self _ _))
  have m2 : RowsI w12 A2 L.length rs2 L := hS12.matAt (c := c2) ((List.sublist_append_left _ _).trans (List.sublist_cons_self _ _)) rfl
  refine Ops.mv_int rfl rfl rfl ?_
  refine Ops.nil ?_
  refine thenQ_n ?_
  refine Cd.seq ?_
  refine Cd.seq ?_
  refine Cd.region ?_
  -- stop: LOAD 24 t13 -> 56
  refine Ops.ld_agg 0 (hS12.rd 0 rfl) rfl rfl rfl ?_
  refine Ops.ld_agg 0 (r7 (t12 hS12)) rfl rfl rfl ?_
  skip
  -- stop: CALL laws.eqManiplex(t56, t57) -> 58
  refine Ops.call (eqManiplex_c A2 _ c2 rs2 L A0 _ c0 rs0 L _ m2 (m0 (t12 hS12)) (by omega)) rfl rfl rfl ?_
  rintro _ w13 ⟨rfl, hst13⟩
  have hS13 := hS12.later hst13.below
  first | refine Ops.not_p rfl rfl ?_ | refine Ops.not rfl rfl ?_
  refine Ops.mv_bool rfl rfl rfl ?_
  -- stop: guard 60
  refine Ops.split_p 60 rfl (fun h => absurd rfl h) (fun _ => ?_) --f
  refine Ops.rung rfl rfl rfl ?_
  refine Ops.mv_int rfl rfl rfl ?_
  refine Ops.rung rfl rfl rfl ?_
  refine Ops.mv_int rfl rfl rfl ?_
  refine Ops.rung rfl rfl rfl ?_
  refine Ops.neq rfl rfl rfl ?_
  refine Ops.pick_f rfl rfl rfl ?_
  refine Ops.nil ?_
  refine thenQ_n ?_
  -- stop: cond
  refine Cd.cond_pf rfl (fun h => h rfl) ?_
  refine Cd.skip ?_
  refine thenQ_n ?_
  refine Cd.seq ?_
  refine Cd.region ?_
  refine Ops.mv_int rfl rfl rfl ?_
  refine Ops.nil ?_
  refine thenQ_n ?_
  refine Cd.seq ?_
  refine Cd.region ?_
  -- stop: LOAD 24 t9 -> 65
  refine Ops.ld_agg 0 (r9 (t12 hS13)) rfl rfl rfl ?_
  refine Ops.mv_int rfl rfl rfl ?_
  -- stop: CALL laws.heldManiplex(t65, t66) -> 67
  refine Ops.call (heldMx_c A1 _ c1 rs1 L 1 _ (m1 (mkSS_len _ _) (t12 hS13)) (by omega) (fun x hx => by have := hsm.2 x hx; omega) (by omega)) rfl rfl rfl ?_
  rintro _ w14 ⟨rfl, hst14⟩
  have hS14 := hS13.later hst14.below
  refine Ops.mv_int rfl rfl rfl ?_
  refine Ops.nil ?_
  refine thenQ_n ?_
  refine Cd.seq ?_
  refine Cd.seq ?_
  refine Cd.region ?_
  refine Ops.mv_int rfl rfl rfl ?_
  refine Ops.lss rfl rfl rfl ?_
  refine Ops.nil ?_
  refine thenQ_n ?_
  -- stop: cond
  refine Cd.cond_pf rfl (by omega) ?_
  refine Cd.skip ?_
  refine thenQ_n ?_
  refine Cd.seq ?_
  refine Cd.seq ?_
  refine Cd.region ?_
  refine Ops.mv_int rfl rfl rfl ?_
  refine Ops.mv_int rfl rfl rfl ?_
  refine Ops.neq rfl rfl rfl ?_
  refine Ops.nil ?_
  refine thenQ_n ?_
  -- stop: cond
  refine Cd.cond_pf rfl (fun h => h rfl) ?_
  refine Cd.skip ?_
  refine thenQ_n ?_
  refine Cd.seq ?_
  refine Cd.region ?_
  refine Ops.mv_bool rfl rfl rfl ?_
  refine Ops.nil ?_
  refine thenQ_n ?_
  refine Cd.ret ?_
  refine ret1_b rfl ?_
  -- stop: end
  exact ⟨rfl, hS14.none⟩
end Go.Proofs.Ytgobjpcankaicaa.Vc
/-
  Plain mathematics: numbering anew keeps what a search finds; the form of a form; every maniplex in the numbers of its own search is a rooted form. Conditions: as each states them. No program in sight.
-/
namespace Go.Proofs.Ytgobjpcankaicaa.Vc

theorem gl_succ (p : List Int) (ps : List (List Int)) (j : Nat) : gl (p :: ps) ((j + 1 : Nat) : Int) = gl ps (j : Int) := by
  simp only [gl, Int.toNat_natCast, List.getD_cons_succ]
theorem gi_map {φ : Int → Int} {l : List Int} {k : Nat} (h : k < l.length) : gi (l.map φ) (k : Int) = φ (gi l (k : Int)) := by
  rw [gi_mem (by simpa using h), gi_mem h, List.getElem_map]

/-- numbering anew -/
structure Ism (N : Nat) (xss yss : List (List Int)) (φ : Int → Int) : Prop where
  len : yss.length = xss.length
  rng : ∀ x : Int, 0 ≤ x → x < N → 0 ≤ φ x ∧ φ x < N
  inj : ∀ x y : Int, 0 ≤ x → x < N → 0 ≤ y → y < N → φ x = φ y → x = y
  com : ∀ (i : Nat) (x : Int), i < xss.length → 0 ≤ x → x < N → gi (gl yss i) (φ x) = φ (gi (gl xss i) x)

section
variable {N : Nat} {xss yss : List (List Int)} {φ : Int → Int}
theorem push_map (hinj : ∀ x y : Int, 0 ≤ x → x < N → 0 ≤ y → y < N → φ x = φ y → x = y) {out : List Int} (ho : ∀ x ∈ out, 0 ≤ x ∧ x < (N : Int)) {y : Int} (h0 : 0 ≤ y) (h1 : y < N) : push1 (out.map φ) (φ y) = (push1 out y).map φ := by
  unfold push1
  by_cases h : y ∈ out
  · rw [if_pos h, if_pos (List.mem_map_of_mem h)]
  · rw [if_neg h, if_neg (fun hm => by
      obtain ⟨z, hz, e⟩ := List.mem_map.1 hm
      exact h (hinj z y (ho z hz).1 (ho z hz).2 h0 h1 e ▸ hz)), List.map_append]
    rfl
theorem fold_map (hinj : ∀ x y : Int, 0 ≤ x → x < N → 0 ≤ y → y < N → φ x = φ y → x = y) {x : Int} : ∀ (ps qs : List (List Int)) (out : List Int), qs.length = ps.length → (∀ z ∈ out, 0 ≤ z ∧ z < (N : Int)) → (∀ j : Nat, j < ps.length → (0 ≤ gi (gl ps j) x ∧ gi (gl ps j) x < N) ∧ gi (gl qs j) (φ x) = φ (gi (gl ps j) x)) → qs.foldl (fun o p => push1 o (gi p (φ x))) (out.map φ) = (ps.foldl (fun o p => push1 o (gi p x)) out).map φ
  | [], [], _, _, _, _ => rfl
  | p :: ps, q :: qs, out, hl, ho, h => by
    have h0 : (0 ≤ gi p x ∧ gi p x < N) ∧ gi q (φ x) = φ (gi p x) := h 0 (by simp)
    simp only [List.foldl_cons]
    rw [h0.2, push_map hinj ho h0.1.1 h0.1.2]
    exact fold_map hinj ps qs _ (by simpa using hl) (fun z hz => by
      rcases push1_mem.1 hz with hz | rfl
      · exact ho z hz
      · exact h0.1) (fun j hj => by
      have := h (j + 1) (by simpa using hj)
      rw [gl_succ, gl_succ] at this
      exact this)
  | [], _ :: _, _, hl, _, _ => by simp at hl
  | _ :: _, [], _, hl, _, _ => by simp at hl
theorem bfs_map (h : Ism N xss yss φ) (hs : Sys N xss) {pt : Int} : ∀ (f i : Nat) (out : List Int), Good N xss pt out → bfs yss f i (out.map φ) = (bfs xss f i out).map φ
  | 0, _, _, _ => rfl
  | f + 1, i, out, hg => by
    simp only [bfs, List.length_map]
    by_cases hi : i < out.length
    · rw [if_pos hi, if_pos hi, gi_map hi]
      have hx := gi_in hi
      have hr := hg.range _ hx
      have e : expand yss (φ (gi out i)) (out.map φ) = (expand xss (gi out i) out).map φ := fold_map h.inj xss yss out h.len hg.range (fun j hj => ⟨(hs (gl xss j) (by rw [gl_mem hj]; exact List.getElem_mem _)).2 _ hr.1 hr.2, h.com j _ hj hr.1 hr.2⟩)
      rw [e]
      exact bfs_map h hs f (i + 1) _ (foldl_push hs xss out (fun p hp => hp) hg hx).1
    · rw [if_neg hi, if_neg hi]
theorem orbit_map (h : Ism N xss yss φ) (hs : Sys N xss) {pt : Int} (h0 : 0 ≤ pt) (h1 : pt < N) : orbit N yss (φ pt) = (orbit N xss pt).map φ := bfs_map h hs (N + 1) 0 [pt] (good_one h0 h1)

theorem form_map (h : Ism N xss yss φ) (hM : Mani xss) (hN : N = (gl xss 0).length) {pt : Int} (h0 : 0 ≤ pt) (h1 : pt < N) : formL N yss (φ pt) = formL N xss pt := by
  have hs := hM.2.2.1.sys
  have hP := hM.prm h0 (by rw [← hN]; exact h1)
  rw [← hN] at hs hP
  have ho := orbit_map h hs h0 h1
  have hP' : Prm N ((orbit N xss pt).map φ) := by
    refine ⟨by rw [List.length_map]; exact hP.len, ?_, fun x hx => ?_⟩
    · rw [List.nodup_iff_pairwise_ne, List.pairwise_map]
      exact List.Pairwise.imp_of_mem (fun ha hb hab e => hab (h.inj _ _ (hP.range _ ha).1 (hP.range _ ha).2 (hP.range _ hb).1 (hP.range _ hb).2 e)) (List.nodup_iff_pairwise_ne.1 hP.nodup)
    · obtain ⟨y, hy, rfl⟩ := List.mem_map.1 hx
      exact h.rng y (hP.range y hy).1 (hP.range y hy).2
  have hb : ∀ z : Int, 0 ≤ z → z < N → gi (backI N ((orbit N xss pt).map φ)) (φ z) = gi (backI N (orbit N xss pt)) z := fun z h0 h1 => by
    obtain ⟨k, hk, e1, e2⟩ := hP.backR h0 h1
    have := hP'.back hk
    rw [gi_map (by rw [hP.len]; exact hk), e1] at this
    rw [this, e2]
  unfold formL
  rw [ho]
  apply List.ext_getElem
  · simp [h.len]
  · intro i h2 h3
    simp only [List.length_map] at h2 h3
    simp only [List.getElem_map]
    unfold rowF
    rw [List.map_map]
    apply List.map_congr_left
    intro x hx
    have hx := hP.range x hx
    have hr := (hs (gl xss i) (by rw [gl_mem h3]; exact List.getElem_mem _)).2 x hx.1 hx.2
    have hc := h.com i x h3 hx.1 hx.2
    rw [gl_mem h2, gl_mem h3] at hc
    rw [gl_mem h3] at hr
    show gi _ (gi yss[i] (φ x)) = _
    rw [hc, hb _ hr.1 hr.2]

/-! a maniplex and its forms -/
variable {f : Int}
theorem form_ism (hM : Mani xss) (hN : N = (gl xss 0).length) (h0 : 0 ≤ f) (h1 : f < N) : Ism N xss (formL N xss f) (gi (backI N (orbit N xss f))) := by
  have hs := hM.2.2.1.sys
  have hP := hM.prm h0 (by rw [← hN]; exact h1)
  rw [← hN] at hs hP
  refine ⟨formL_len _ _ _, fun x hx hx' => ?_, fun x y hx hx' hy hy' e => ?_, fun i x hi hx hx' => ?_⟩
  · obtain ⟨k, hk, _, e⟩ := hP.backR hx hx'
    omega
  · obtain ⟨k, hk, e1, e2⟩ := hP.backR hx hx'
    obtain ⟨j, hj, e3, e4⟩ := hP.backR hy hy'
    have : (k : Int) = j := by omega
    rw [← e1, ← e3, this]
  · obtain ⟨k, hk, e1, e2⟩ := hP.backR hx hx'
    rw [e2, gl_mem (by rw [formL_len]; exact hi)]
    simp only [formL, List.getElem_map]
    rw [gi_mem (by rw [rowF_len, hP.len]; exact hk)]
    simp only [rowF, List.getElem_map]
    rw [← gi_mem (by rw [hP.len]; exact hk), e1, gl_mem hi]
theorem form_pt (hM : Mani xss) (hN : N = (gl xss 0).length) (h0 : 0 ≤ f) (h1 : f < N) : gi (orbit N xss f) 0 = f ∧ gi (backI N (orbit N xss f)) f = 0 := by
  have hs := hM.2.2.1.sys
  have hP := hM.prm h0 (by rw [← hN]; exact h1)
  rw [← hN] at hs hP
  have e := gi_prefix (orbit_spec hs h0 h1).2.1 (i := 0) (by simp)
  have e : gi (orbit N xss f) 0 = f := e
  refine ⟨e, ?_⟩
  have := hP.back (k := 0) (by omega)
  have this : gi (backI N (orbit N xss f)) (gi (orbit N xss f) 0) = 0 := this
  rwa [e] at this
theorem form_orbit (hM : Mani xss) (hN : N = (gl xss 0).length) (h0 : 0 ≤ f) (h1 : f < N) : orbit N (formL N xss f) 0 = seqI N := by
  have hs := hM.2.2.1.sys
  have hP := hM.prm h0 (by rw [← hN]; exact h1)
  rw [← hN] at hs hP
  have h := orbit_map (form_ism hM hN h0 h1) hs h0 h1
  rw [(form_pt hM hN h0 h1).2] at h
  rw [h]
  apply List.ext_getElem
  · rw [List.length_map, hP.len, seqI_len]
  · intro i h2 h3
    rw [seqI_len] at h3
    rw [List.getElem_map, ← gi_mem (by rw [hP.len]; exact h3), hP.back h3]
    simp [seqI]
theorem form_form (hM : Mani xss) (hN : N = (gl xss 0).length) (h0 : 0 ≤ f) (h1 : f < N) {g : Int} (h2 : 0 ≤ g) (h3 : g < N) : ∃ k : Nat, k < N ∧ (k : Int) = gi (orbit N xss f) g ∧ formL N (formL N xss f) g = formL N xss (k : Int) := by
  have hP := hM.prm h0 (by rw [← hN]; exact h1)
  rw [← hN] at hP
  obtain ⟨q, rfl⟩ : ∃ q : Nat, g = q := ⟨g.toNat, by omega⟩
  have hr := hP.rng (k := q) (by omega)
  have h := form_map (form_ism hM hN h0 h1) hM hN hr.1 hr.2
  rw [hP.back (by omega)] at h
  refine ⟨(gi (orbit N xss f) q).toNat, by omega, by omega, ?_⟩
  rw [h, Int.toNat_of_nonneg hr.1]
end
end Go.Proofs.Ytgobjpcankaicaa.Vc
/-
  Plain mathematics: the tree of partial moves grows every maniplex that has the numbers of its own search, so the least form of a maniplex is in the list. Conditions: as each states them. No program in sight.
-/
namespace Go.Proofs.Ytgobjpcankaicaa.Vc

section
variable {n F : Nat} {L : List (List Int)}
theorem fold_prefix (x : Int) : ∀ (ps : List (List Int)) (out : List Int), out <+: ps.foldl (fun o p => push1 o (gi p x)) out
  | [], _ => List.prefix_rfl
  | p :: ps, out => (push1_prefix out (gi p x)).trans (fold_prefix x ps _)
theorem bfs_prefix (xss : List (List Int)) : ∀ (k i : Nat) (out : List Int), out <+: bfs xss k i out
  | 0, _, _ => List.prefix_rfl
  | k + 1, i, out => by
    simp only [bfs]
    split
    · exact (fold_prefix _ xss out).trans (bfs_prefix xss k (i + 1) _)
    · exact List.prefix_rfl
theorem seqI_prefix {m : Nat} {l : List Int} (h : l <+: seqI m) : l = seqI l.length ∧ l.length ≤ m := by
  have hl := h.length_le
  rw [seqI_len] at hl
  refine ⟨?_, hl⟩
  apply List.ext_getElem
  · rw [seqI_len]
  · intro i h1 h2
    have := gi_prefix h h1
    rw [seqI_get (by omega)] at this
    rw [← gi_mem h1, ← this]
    simp [seqI]
theorem push_seq' {m : Nat} {v : Int} (h0 : 0 ≤ v) (h : push1 (seqI m) v <+: seqI F) : v ≤ m ∧ push1 (seqI m) v = seqI (max m (v.toNat + 1)) := by
  have hv : v ≤ m := by
    unfold push1 at h
    by_cases hm : v ∈ seqI m
    · have := (seqI_mem.1 hm).2; omega
    · rw [if_neg hm] at h
      have h1 := (seqI_prefix h).1
      rw [List.length_append, seqI_len, List.length_singleton, seqI_succ] at h1
      have := List.append_cancel_left h1
      simp at this
      omega
  exact ⟨hv, push_seq h0 hv⟩
theorem expand_rg (hl : L.length = n) (hn : 0 < n) (hs : Sys F L) {f : Nat} (hf : f < F) (hfm : f < mtL L n (f * n)) (hp : expand L (f : Int) (seqI (mtL L n (f * n))) <+: seqI F) :
    expand L (f : Int) (seqI (mtL L n (f * n))) = seqI (mtL L n ((f + 1) * n)) ∧ ∀ a, f * n ≤ a → a < (f + 1) * n → RG L n a := by
  have e1 : (f + 1) * n = f * n + n := by rw [Nat.succ_mul]
  have key : ∀ j, j ≤ n → (L.take j).foldl (fun o p => push1 o (gi p f)) (seqI (mtL L n (f * n))) = seqI (mtL L n (f * n + j)) ∧ f < mtL L n (f * n + j) ∧ ∀ a, f * n ≤ a → a < f * n + j → RG L n a := by
    intro j
    induction j with
    | zero => intro _; exact ⟨rfl, hfm, fun a h1 h2 => by omega⟩
    | succ j ih =>
      intro hj
      obtain ⟨ih1, ih2, ih3⟩ := ih (by omega)
      have hj' : j < L.length := by omega
      have ha1 : (f * n + j) % n = j := by rw [Nat.mul_comm, Nat.mul_add_mod]; exact Nat.mod_eq_of_lt (by omega)
      have ha2 : (f * n + j) / n = f := by rw [Nat.mul_comm, Nat.mul_add_div hn]; rw [Nat.div_eq_of_lt (by omega)]; omega
      have hc : cell L j (f : Int) = gi (L[j]) f := by
        unfold cell
        rw [show gl L (j : Int) = L[j] by simp [gl, List.getD_eq_getElem?_getD, List.getElem?_eq_getElem hj']]
      have h0 := ((hs L[j] (List.getElem_mem _)).2 f (by omega) (by omega)).1
      have e2 : (L.take (j + 1)).foldl (fun o p => push1 o (gi p f)) (seqI (mtL L n (f * n))) = push1 (seqI (mtL L n (f * n + j))) (gi L[j] f) := by
        rw [List.take_succ_eq_append_getElem hj', List.foldl_append, ih1]
        rfl
      have hpre : (L.take (j + 1)).foldl (fun o p => push1 o (gi p f)) (seqI (mtL L n (f * n))) <+: seqI F := by
        refine List.IsPrefix.trans ?_ hp
        have e3 : expand L (f : Int) (seqI (mtL L n (f * n))) = (L.drop (j + 1)).foldl (fun o p => push1 o (gi p f)) ((L.take (j + 1)).foldl (fun o p => push1 o (gi p f)) (seqI (mtL L n (f * n)))) := by
          rw [← List.foldl_append, List.take_append_drop]
          rfl
        rw [e3]
        exact fold_prefix _ _ _
      rw [e2] at hpre
      have h3 := push_seq' h0 hpre
      have em : mtL L n (f * n + (j + 1)) = max (mtL L n (f * n + j)) ((gi L[j] f).toNat + 1) := by
        show max (mtL L n (f * n + j)) ((cell L ((f * n + j) % n) ((f * n + j) / n : Nat)).toNat + 1) = _
        rw [ha1, ha2, hc]
      refine ⟨by rw [e2, h3.2, em], by rw [em]; omega, fun a h1 h2 => ?_⟩
      by_cases e : a = f * n + j
      · subst e
        unfold RG
        rw [ha1, ha2, hc]
        exact ⟨h0, h3.1, ih2⟩
      · exact ih3 a h1 (by omega)
  have := key n (Nat.le_refl _)
  rw [List.take_of_length_le (by omega)] at this
  rw [e1]
  exact ⟨this.1, this.2.2⟩
theorem seq_rg (hl : L.length = n) (hn : 0 < n) (hs : Sys F L) : ∀ (k i : Nat), bfs L k i (seqI (mtL L n (i * n))) = seqI F → i ≤ mtL L n (i * n) → F < k + i → (∀ a, a < i * n → RG L n a) → mtL L n (F * n) = F ∧ ∀ a, a < F * n → RG L n a
  | 0, i, h, hi, hk, hR => by
    have h1 := (seqI_prefix (m := F) (l := seqI (mtL L n (i * n))) (by have := bfs_prefix L 0 i (seqI (mtL L n (i * n))); rwa [h] at this)).2
    rw [seqI_len] at h1
    omega
  | k + 1, i, h, hi, hk, hR => by
    have h1 := (seqI_prefix (m := F) (l := seqI (mtL L n (i * n))) (by have := bfs_prefix L (k + 1) i (seqI (mtL L n (i * n))); rwa [h] at this)).2
    rw [seqI_len] at h1
    simp only [bfs] at h
    rw [seqI_len] at h
    by_cases hlt : i < mtL L n (i * n)
    · rw [if_pos hlt, seqI_get hlt] at h
      have hp := bfs_prefix L k (i + 1) (expand L (i : Int) (seqI (mtL L n (i * n))))
      rw [h] at hp
      obtain ⟨e, hE⟩ := expand_rg hl hn hs (by omega) hlt hp
      rw [e] at h hp
      refine seq_rg hl hn hs k (i + 1) h ?_ (by omega) (fun a ha => ?_)
      · have h2 := (hE (i * n + (n - 1)) (by omega) (by rw [Nat.succ_mul]; omega))
        have h3 : mtL L n ((i + 1) * n) ≥ mtL L n (i * n) := by
          have : seqI (mtL L n (i * n)) <+: seqI (mtL L n ((i + 1) * n)) := by rw [← e]; exact fold_prefix _ L _
          have := this.length_le
          rwa [seqI_len, seqI_len] at this
        omega
      · by_cases h4 : a < i * n
        · exact hR a h4
        · exact hE a (by omega) ha
    · rw [if_neg hlt] at h
      have h2 := congrArg List.length h
      rw [seqI_len, seqI_len] at h2
      have : i = F := by omega
      subst this
      exact ⟨h2, hR⟩

theorem Reach.con (hI : Shp n F L) (hs : Sys F L) (hF : 0 < F) {x : Int} (h : Reach L 0 x) : (0 ≤ x ∧ x < F) ∧ Con n L x := by
  induction h with
  | refl => exact ⟨⟨by omega, by omega⟩, .zero⟩
  | @step y p _ hp ih =>
    obtain ⟨i, hi, rfl⟩ := List.mem_iff_getElem.1 hp
    have hr := (hs _ hp).2 y ih.1.1 ih.1.2
    have e : gi L[i] y = cell L i y := by
      unfold cell
      rw [gl_mem hi]
    rw [e] at hr ⊢
    exact ⟨hr, .step ih.2 (by rw [← hI.1]; exact hi) ih.1.1 hr.1⟩

theorem cells_eq {M L : List (List Int)} (hM : Shp n F M) (hL : Shp n F L) (h : ∀ (i f : Nat), i < n → f < F → cell M i f = cell L i f) : M = L := by
  apply List.ext_getElem
  · rw [hM.1, hL.1]
  · intro i h1 h2
    apply List.ext_getElem
    · rw [hM.2 _ (List.getElem_mem _), hL.2 _ (List.getElem_mem _)]
    · intro j h3 h4
      have hj := hM.2 _ (List.getElem_mem h1)
      have := h i j (by rw [← hM.1]; exact h1) (by omega)
      unfold cell at this
      rw [gl_mem h1, gl_mem h2, gi_mem h3, gi_mem h4] at this
      exact this

/-- all that goes on with what is known is grown -/
theorem grow_all (hL : Inv n F L F (F * n)) (hm : mtL L n (F * n) = F) (hR : ∀ a, a < F * n → RG L n a) : ∀ (k at_ met : Nat) (M : List (List Int)), Inv n F M met at_ → Ext n F M L → mtL L n at_ = met → F * n < k + at_ → L ∈ grow n F (fun _ _ _ => true) (fun _ => true) k at_ met M
  | 0, at_, met, M, h, hE, hmt, hk => by
    have := h.le
    have := Nat.mul_le_mul_right n h.metF
    omega
  | k + 1, at_, met, M, h, hE, hmt, hk => by
    have hle := h.le
    have hmF := h.metF
    have hmn := Nat.mul_le_mul_right n hmF
    have hn := h.n0
    simp only [grow]
    by_cases ha : at_ = met * n
    · have h1 : at_ = F * n := by
        apply Classical.byContradiction
        intro hne
        have := (hR at_ (by omega)).2.2
        rw [hmt, ha, Nat.mul_div_cancel _ hn] at this
        omega
      rw [h1, hm] at hmt
      subst hmt
      rw [if_pos ha, if_pos ⟨rfl, trivial⟩]
      have : M = L := cells_eq h.shp hL.shp (fun i f hi hf => by
        have hlt : f * n + i < at_ := by
          have : (f + 1) * n ≤ F * n := Nat.mul_le_mul_right n (by omega)
          rw [Nat.succ_mul] at this
          omega
        have hkn := h.known _ hlt
        rw [Nat.add_comm, Nat.add_mul_mod_self_right, Nat.mod_eq_of_lt hi, Nat.add_mul_div_right _ _ hn, Nat.div_eq_of_lt hi, Nat.zero_add] at hkn
        exact (hE i f hi (by omega) (by omega) hkn).symm)
      rw [this]
      simp
    · rw [if_neg ha]
      have hp := h.pos ha
      have hat : at_ < F * n := by omega
      have hRa := hR at_ hat
      rw [RG, hmt] at hRa
      have hstep : mtL L n (at_ + 1) = max met ((cell L (at_ % n) (at_ / n : Nat)).toNat + 1) := by rw [← hmt]; rfl
      by_cases hc : 0 ≤ cell M (at_ % n) (at_ / n : Nat)
      · rw [if_pos hc]
        have e := hE (at_ % n) (at_ / n : Nat) hp.1 (Int.natCast_nonneg _) (Int.ofNat_lt.2 (by omega)) hc
        have hcell := h.cells (at_ % n) (at_ / n : Nat) hp.1 (Int.natCast_nonneg _) (Int.ofNat_lt.2 (by omega))
        refine grow_all hL hm hR k _ _ _ (h.next ha hc) hE ?_ (by omega)
        rw [hstep, e]
        omega
      · rw [if_neg hc, List.mem_flatMap]
        have hLc := hL.inv hp.1 (f := ((at_ / n : Nat) : Int)) (Int.natCast_nonneg _) (Int.ofNat_lt.2 (by omega))
        generalize hg : (cell L (at_ % n) (at_ / n : Nat)).toNat = g at *
        have hgc : cell L (at_ % n) (at_ / n : Nat) = (g : Int) := by omega
        rw [hgc] at hLc hRa
        have hMg : ¬ 0 ≤ cell M (at_ % n) (g : Nat) := fun h0 => by
          have e := hE (at_ % n) (g : Nat) hp.1 (Int.natCast_nonneg _) hLc.2.1 h0
          have hcg := h.cells (at_ % n) (g : Nat) hp.1 (Int.natCast_nonneg _) hLc.2.1
          rw [← e, hLc.2.2.1] at hcg
          rcases hcg with hcg | hcg
          · omega
          · rw [hcg.2.2.2.1] at hc
            omega
        have hgt : at_ / n < g := by
          apply Classical.byContradiction
          intro hng
          have hne : g ≠ at_ / n := fun e => hLc.2.2.2 (by omega)
          have hlt : g * n + at_ % n < at_ := by
            have h1 : (g + 1) * n ≤ (at_ / n) * n := Nat.mul_le_mul_right n (by omega)
            rw [Nat.succ_mul] at h1
            have h2 := Nat.div_add_mod at_ n
            rw [Nat.mul_comm] at h2
            have := hp.1
            omega
          have hkn := h.known _ hlt
          rw [Nat.add_comm, Nat.add_mul_mod_self_right, Nat.mod_mod, Nat.add_mul_div_right _ _ hn, Nat.div_eq_of_lt hp.1, Nat.zero_add] at hkn
          exact hMg hkn
        refine ⟨g, List.mem_range'_1.2 ⟨by omega, by omega⟩, ?_⟩
        rw [if_neg hMg, if_pos trivial]
        have hg1 : g ≤ met := by omega
        have hg2 : g < F := by omega
        refine grow_all hL hm hR k _ _ _ (h.put ha hc hgt hg1 hg2 hMg) (fun i x hi hx hxF hcx => ?_) (by rw [hstep]) (by omega)
        rw [cell_put h.shp hp.1 (by omega) hg2 hx] at hcx ⊢
        split
        · rename_i e
          obtain ⟨rfl, rfl⟩ := e
          exact hLc.2.2.1
        · rename_i e1
          rw [if_neg e1] at hcx
          split
          · rename_i e
            obtain ⟨rfl, rfl⟩ := e
            exact hgc
          · rename_i e2
            rw [if_neg e2] at hcx
            exact hE i x hi hx hxF hcx
end

section
variable {N : Nat} {xss : List (List Int)} {f : Int}
theorem form_inv (hM : Mani xss) (hN : N = (gl xss 0).length) (h0 : 0 ≤ f) (h1 : f < N) : Inv xss.length N (formL N xss f) N (N * xss.length) ∧ Mani (formL N xss f) := by
  have hP := hM.prm h0 (by rw [← hN]; exact h1)
  have hs := hM.2.2.1.sys
  rw [← hN] at hP hs
  have hI := form_ism hM hN h0 h1
  have hN2 := hM.2.1
  have hn := hM.1
  have hN40 : 2 ≤ N ∧ N ≤ 400 := by omega
  have hshp : Shp xss.length N (formL N xss f) := ⟨formL_len _ _ _, fun p hp => by
    obtain ⟨mv, _, rfl⟩ := List.mem_map.1 hp
    rw [rowF_len, hP.len]⟩
  have hc : ∀ (i : Nat) (k : Nat), i < xss.length → k < N → cell (formL N xss f) i (k : Int) = gi (backI N (orbit N xss f)) (gi (gl xss i) (gi (orbit N xss f) k)) := fun i k hi hk => by
    have hr := hP.rng hk
    have := hI.com i _ hi hr.1 hr.2
    rw [hP.back hk] at this
    exact this
  have hin : ∀ (i : Nat) (x : Int), i < xss.length → 0 ≤ x → x < N → 0 ≤ gi (gl xss i) x ∧ gi (gl xss i) x < N := fun i x hi hx hx' => (hs (gl xss i) (by rw [gl_mem hi]; exact List.getElem_mem _)).2 x hx hx'
  have hfree : ∀ (i : Nat) (x : Int), i < xss.length → 0 ≤ x → x < N → gi (gl xss i) x ≠ x ∧ gi (gl xss i) (gi (gl xss i) x) = x := fun i x hi hx hx' => by
    have h := (hM.2.2.1.at_ hi)
    have := h.2.2 x.toNat (by omega)
    rw [Int.toNat_of_nonneg hx] at this
    exact this
  -- cells by the numbers of the orbit
  have hcell : ∀ (i : Nat) (k : Nat), i < xss.length → k < N → ∃ j : Nat, j < N ∧ cell (formL N xss f) i (k : Int) = j ∧ gi (orbit N xss f) j = gi (gl xss i) (gi (orbit N xss f) k) := fun i k hi hk => by
    have hr := hP.rng hk
    have hq := hin i _ hi hr.1 hr.2
    obtain ⟨j, hj, e1, e2⟩ := hP.backR hq.1 hq.2
    exact ⟨j, hj, by rw [hc i k hi hk, e2], e1⟩
  have hInv : Inv xss.length N (formL N xss f) N (N * xss.length) := by
    refine ⟨hshp, by omega, by omega, Nat.le_refl _, fun i x hi hx hx' => .inr ?_, fun a ha => ?_, fun x hx => ?_, Nat.le_refl _⟩
    · obtain ⟨k, rfl⟩ : ∃ k : Nat, x = k := ⟨x.toNat, by omega⟩
      have hk : k < N := by omega
      obtain ⟨j, hj, e1, e2⟩ := hcell i k hi hk
      obtain ⟨l, hl, e3, e4⟩ := hcell i j hi hj
      have hr := hP.rng hk
      have hf := hfree i _ hi hr.1 hr.2
      rw [e2, hf.2] at e4
      have el := hP.inj hl hk e4
      rw [e1, e3, el]
      refine ⟨by omega, by omega, hx', rfl, fun e => ?_⟩
      have : j = k := by omega
      rw [this] at e2
      exact hf.1 e2.symm
    · have ha2 : a / xss.length < N := Nat.div_lt_of_lt_mul (by rw [Nat.mul_comm]; exact ha)
      obtain ⟨j, hj, e1, _⟩ := hcell (a % xss.length) (a / xss.length) (Nat.mod_lt _ (by omega)) ha2
      rw [e1]
      omega
    · have hsF : Sys N (formL N xss f) := fun p hp => by
        refine ⟨hshp.2 p hp, fun x hx hx' => ?_⟩
        obtain ⟨i, hi, rfl⟩ := List.mem_iff_getElem.1 hp
        rw [formL_len] at hi
        obtain ⟨k, rfl⟩ : ∃ k : Nat, x = k := ⟨x.toNat, by omega⟩
        obtain ⟨j, hj, e1, _⟩ := hcell i k hi (by omega)
        unfold cell at e1
        rw [gl_mem (by rw [formL_len]; exact hi)] at e1
        omega
      have ho := form_orbit hM hN h0 h1
      have := (orbit_spec hsF (pt := 0) (by omega) (by omega)).2.2 (x : Int)
      rw [ho] at this
      exact (Reach.con hshp hsF (by omega) (this.1 (seqI_mem.2 ⟨by omega, by omega⟩))).2
  refine ⟨hInv, hInv.mani hn.2 hN40 (fun e he i hi k hk hik => ?_)⟩
  rw [formL_len] at hi hk
  have hr := hP.rng he
  obtain ⟨j1, hj1, a1, b1⟩ := hcell i e hi he
  obtain ⟨j2, hj2, a2, b2⟩ := hcell k e hk he
  obtain ⟨j3, hj3, a3, b3⟩ := hcell k j1 hk hj1
  obtain ⟨j4, hj4, a4, b4⟩ := hcell i j2 hi hj2
  obtain ⟨q, hq⟩ : ∃ q : Nat, gi (orbit N xss f) e = q := ⟨(gi (orbit N xss f) e).toNat, by omega⟩
  have hcm := hM.2.2.2.1 i hi k hk hik q (by omega)
  unfold Comm at hcm
  rw [← hq] at hcm
  refine ⟨fun _ e1 => ?_, fun _ _ => ?_⟩
  · rw [a1, a2] at e1
    have : j1 = j2 := by omega
    rw [this] at b1
    exact hcm.2 (by rw [← b1, ← b2])
  · unfold kn
    rw [a1, a2, if_neg (by omega), if_neg (by omega), a3, a4]
    have : gi (orbit N xss f) (j3 : Int) = gi (orbit N xss f) (j4 : Int) := by rw [b3, b4, b1, b2]; exact hcm.1
    rw [hP.inj hj3 hj4 this]
theorem form_mem (hM : Mani xss) (hN : N = (gl xss 0).length) (h0 : 0 ≤ f) (h1 : f < N) : formL N xss f ∈ formsL xss.length N := by
  obtain ⟨hI, hV⟩ := form_inv hM hN h0 h1
  have hn := hI.n0
  have hN0 : 0 < N := by omega
  have hs : Sys N (formL N xss f) := by
    have := hV.2.2.1.sys
    have e : (gl (formL N xss f) 0).length = N := hI.shp.row (i := 0) hn
    rwa [e] at this
  have ho := form_orbit hM hN h0 h1
  have hR := seq_rg (L := formL N xss f) (n := xss.length) (F := N) (formL_len _ _ _) hn hs (N + 1) 0 (by rw [Nat.zero_mul]; exact ho) (Nat.zero_le _) (by omega) (fun a ha => by omega)
  refine List.mem_filter.2 ⟨grow_all hI hR.1 hR.2 _ _ _ _ (Inv.blank hn hN0) (fun i x hi hx hxF hc => ?_) rfl (by omega), decide_eq_true hV⟩
  exfalso
  have := cell_blank (n := xss.length) (F := N) hi hx hxF
  omega

theorem least_is (hM : Mani xss) (hN : N = (gl xss 0).length) : ∃ f : Nat, f < N ∧ leastL N xss = formL N xss f := leastTo_is (by have := hM.2.1; omega) N (Nat.le_refl _)
/-- the least form is in the list -/
theorem least_mem (hM : Mani xss) (hN : N = (gl xss 0).length) : leastL N xss ∈ listL xss.length N := by
  obtain ⟨f, hf, e⟩ := least_is hM hN
  rw [listL_mem]
  refine ⟨by rw [e]; exact form_mem hM hN (by omega) (by omega), fun g hg => ?_⟩
  obtain ⟨k, hk, _, e2⟩ := form_form hM hN (f := (f : Int)) (by omega) (by omega) (g := (g : Int)) (by omega) (by omega)
  have := (leastTo_le (N := N) (xss := xss) N).2 k hk
  rw [e, e2, ← e]
  exact this
end
end Go.Proofs.Ytgobjpcankaicaa.Vc
/-
  The walks of the reference's least form. Conditions: as each states them.
-/
namespace Go.Proofs.Ytgobjpcankaicaa.Vc
open Go.RowKit

theorem l01Less2_c (A : Option Addr) (n c : Nat) (rs : List SlV) (xss : List (List Int)) (A' : Option Addr) (c' : Nat) (rs' : List SlV) (yss : List (List Int)) (w : World) (hX : RowsI w A n rs xss) (hY : RowsI w A' n rs' yss) (hn : n ≤ 9223372036854775807) :
    Ret Try.prog 161 [.slice A n c, .slice A' n c'] w (fun v w' => v = .bool (decide (lexCC xss yss < 0)) ∧ St w w' []) := by
  have hxl := hX.len
  have hyl := hY.len
  refine Ret.of_cd Try.func161 rfl Try.ntmps161 rfl (post1 rfl) ?_
  refine Cd.seq ?_
  refine Cd.region ?_
  refine Ops.mv_bool rfl rfl rfl ?_
  refine Ops.nil ?_
  refine thenQ_n ?_
  refine Cd.seq ?_
  refine Cd.seq ?_
  refine Cd.region ?_
  refine Ops.mv_int rfl rfl rfl ?_
  refine Ops.nil ?_
  refine thenQ_n ?_
  refine Cd.block ?_
  -- stop: loop
  refine Cd.loop (α := Nat) (fun k => [(0, .slice A n c), (1, .slice A' n c'), (5, .int .i64 (k : Int))]) (fun k w' => St w w' [] ∧ k ≤ n ∧ lexCC xss yss = lexCC (xss.drop k) (yss.drop k)) (fun k => n - k) 0 ⟨rfl, rfl, rfl, trivial⟩ ⟨St.refl w, Nat.zero_le _, rfl⟩ ?_
  rintro k e w3 ⟨hS3, hk, hK⟩
  refine Cd.seq ?_
  refine Cd.seq ?_
  refine Cd.region ?_
  refine Ops.mv_int rfl rfl rfl ?_
  refine Ops.mv_sl rfl rfl rfl ?_
  refine Ops.len rfl rfl ?_
  refine Ops.lss rfl rfl rfl ?_
  refine Ops.mv_bool rfl rfl rfl ?_
  -- stop: guard 10
  refine Ops.split_p 10 rfl (fun h1 => ?_) (fun h1 => ?_)
  · rw [lexCC_step (by omega) (by omega)] at hK
    have hX3 := hS3.oldRows hX
    have hY3 := hS3.oldRows hY
    have hAt := hX3.top
    have hBt := hY3.top
    have ha := hX3.at_ (i := (k : Int)) (by omega) h1
    have hb' := hY3.at_ (i := (k : Int)) (by omega) (by omega)
    have hc := hX3.cap_ (i := (k : Int)) (by omega) h1
    refine Ops.rung rfl rfl rfl ?_
    refine Ops.mv_int rfl rfl rfl ?_
    refine Ops.rung rfl rfl rfl ?_
    refine Ops.mv_sl rfl rfl rfl ?_
    refine Ops.rung rfl rfl rfl ?_
    refine Ops.len rfl rfl ?_
    refine Ops.rung rfl rfl rfl ?_
    refine Ops.lss rfl rfl rfl ?_
    refine Ops.pick_t rfl rfl rfl ?_
    refine Ops.nil ?_
    refine thenQ_n ?_
    -- stop: cond
    refine Cd.cond_p _ rfl (fun _ => ?_) (fun h2 => ?_)
    · refine Cd.skip ?_
      refine thenQ_n ?_
      refine Cd.seq ?_
      refine Cd.block ?_
      refine Cd.seq ?_
      -- stop: draw
      refine Cd.draw [.ex (.slice (A) (n) (c)), .ex (.int .i64 ((k : Int))), .ex (.pointer (ptrAt (A) ((k : Int)).toNat)), .ex (.slice ((rg (rs) ((k : Int))).a) ((rg (rs) ((k : Int))).n) ((rg (rs) ((k : Int))).c)), .ex (.slice (A') (n) (c')), .ex (.int .i64 ((k : Int))), .ex (.pointer (ptrAt (A') ((k : Int)).toNat)), .ex (.slice ((rg (rs') ((k : Int))).a) ((rg (rs') ((k : Int))).n) ((rg (rs') ((k : Int))).c)), .ex (.bool (decide (gl xss k = gl yss k))), .ex (.bool (decide (¬ (gl xss k = gl yss k))))] (by kernel_rfl) (by kernel_rfl) rfl (List.forall_mem_cons.2 ⟨Yd.lasts_ex _, (List.forall_mem_cons.2 ⟨Yd.lasts_ex _, (List.forall_mem_cons.2 ⟨Yd.lasts_ex _, (List.forall_mem_cons.2 ⟨Yd.lasts_ex _, (List.forall_mem_cons.2 ⟨Yd.lasts_ex _, (List.forall_mem_cons.2 ⟨Yd.lasts_ex _, (List.forall_mem_cons.2 ⟨Yd.lasts_ex _, (List.forall_mem_cons.2 ⟨Yd.lasts_ex _, (List.forall_mem_cons.2 ⟨Yd.lasts_ex _, (List.forall_mem_cons.2 ⟨Yd.lasts_ex _, (fun _ h => by cases h)⟩)⟩)⟩)⟩)⟩)⟩)⟩)⟩)⟩)⟩) ⟨?_, ?_, ?_, ?_, ?_, ?_, ?_, ?_, ?_, ?_, trivial⟩ ?_
      · intro e1 w1 hb hp hun
        refine Ops.mv_sl rfl rfl rfl ?_
        refine Ops.nil ?_
        exact After.dn (Below.refl _ _) (by exact rfl)
      · intro e1 w1 hb hp hun
        refine Ops.mv_int rfl rfl rfl ?_
        refine Ops.nil ?_
        exact After.dn (Below.refl _ _) (by exact rfl)
      · intro e1 w1 hb hp hun
        refine Ops.idx (hAt.later hb).2 rfl rfl rfl (by omega) (by omega) ?_
        refine Ops.nil ?_
        exact After.dn (Below.refl _ _) (by exact rfl)
      · intro e1 w1 hb hp hun
        refine Ops.ld_sl (hAt.later hb) rfl (by omega) rfl rfl ?_
        refine Ops.nil ?_
        exact After.dn (Below.refl _ _) (by exact rfl)
      · intro e1 w1 hb hp hun
        refine Ops.mv_sl rfl rfl rfl ?_
        refine Ops.nil ?_
        exact After.dn (Below.refl _ _) (by exact rfl)
      · intro e1 w1 hb hp hun
        refine Ops.mv_int rfl rfl rfl ?_
        refine Ops.nil ?_
        exact After.dn (Below.refl _ _) (by exact rfl)
      · intro e1 w1 hb hp hun
        refine Ops.idx (hBt.later hb).2 rfl rfl rfl (by omega) (by omega) ?_
        refine Ops.nil ?_
        exact After.dn (Below.refl _ _) (by exact rfl)
      · intro e1 w1 hb hp hun
        refine Ops.ld_sl (hBt.later hb) rfl (by omega) rfl rfl ?_
        refine Ops.nil ?_
        exact After.dn (Below.refl _ _) (by exact rfl)
      · intro e1 w1 hb hp hun
        refine Ops.call (l01Same_c _ _ _ _ _ _ _ _ _ (ha.later hb) (hb'.later hb) (by omega)) rfl rfl rfl ?_
        rintro _ w2 ⟨rfl, hst⟩
        refine Ops.nil ?_
        exact After.dn hst.below (by exact rfl)
      · intro e1 w1 hb hp hun
        refine Ops.not_p rfl rfl ?_
        refine Ops.nil ?_
        exact After.dn (Below.refl _ _) (by exact rfl)
      intro u w4 hb4 _
      have hS4 := hS3.later hb4
      have hX4 := hS4.oldRows hX
      have hY4 := hS4.oldRows hY
      have hAt4 := hX4.top
      have hBt4 := hY4.top
      have ha4 := hX4.at_ (i := (k : Int)) (by omega) h1
      have hb4' := hY4.at_ (i := (k : Int)) (by omega) (by omega)
      refine thenQ_n ?_
      -- stop: cond
      refine Cd.cond_p _ rfl (fun h3 => ?_) (fun h3 => ?_)
      · rw [if_neg (fun h => h3 (lexC_zero.1 h))] at hK
        refine Cd.seq ?_
        -- stop: draw
        refine Cd.draw [.ex (.slice (A) (n) (c)), .ex (.int .i64 ((k : Int))), .ex (.pointer (ptrAt (A) ((k : Int)).toNat)), .ex (.slice ((rg (rs) ((k : Int))).a) ((rg (rs) ((k : Int))).n) ((rg (rs) ((k : Int))).c)), .ex (.slice (A') (n) (c')), .ex (.int .i64 ((k : Int))), .ex (.pointer (ptrAt (A') ((k : Int)).toNat)), .ex (.slice ((rg (rs') ((k : Int))).a) ((rg (rs') ((k : Int))).n) ((rg (rs') ((k : Int))).c)), .ex (.bool (decide (lexC (gl xss k) (gl yss k) < 0))), .ex (.bool (decide (lexC (gl xss k) (gl yss k) < 0)))] (by kernel_rfl) (by kernel_rfl) rfl (List.forall_mem_cons.2 ⟨Yd.lasts_ex _, (List.forall_mem_cons.2 ⟨Yd.lasts_ex _, (List.forall_mem_cons.2 ⟨Yd.lasts_ex _, (List.forall_mem_cons.2 ⟨Yd.lasts_ex _, (List.forall_mem_cons.2 ⟨Yd.lasts_ex _, (List.forall_mem_cons.2 ⟨Yd.lasts_ex _, (List.forall_mem_cons.2 ⟨Yd.lasts_ex _, (List.forall_mem_cons.2 ⟨Yd.lasts_ex _, (List.forall_mem_cons.2 ⟨Yd.lasts_ex _, (List.forall_mem_cons.2 ⟨Yd.lasts_ex _, (fun _ h => by cases h)⟩)⟩)⟩)⟩)⟩)⟩)⟩)⟩)⟩)⟩) ⟨?_, ?_, ?_, ?_, ?_, ?_, ?_, ?_, ?_, ?_, trivial⟩ ?_
        · intro e1 w1 hb hp hun
          refine Ops.mv_sl rfl rfl rfl ?_
          refine Ops.nil ?_
          exact After.dn (Below.refl _ _) (by exact rfl)
        · intro e1 w1 hb hp hun
          refine Ops.mv_int rfl rfl rfl ?_
          refine Ops.nil ?_
          exact After.dn (Below.refl _ _) (by exact rfl)
        · intro e1 w1 hb hp hun
          refine Ops.idx (hAt4.later hb).2 rfl rfl rfl (by omega) (by omega) ?_
          refine Ops.nil ?_
          exact After.dn (Below.refl _ _) (by exact rfl)
        · intro e1 w1 hb hp hun
          refine Ops.ld_sl (hAt4.later hb) rfl (by omega) rfl rfl ?_
          refine Ops.nil ?_
          exact After.dn (Below.refl _ _) (by exact rfl)
        · intro e1 w1 hb hp hun
          refine Ops.mv_sl rfl rfl rfl ?_
          refine Ops.nil ?_
          exact After.dn (Below.refl _ _) (by exact rfl)
        · intro e1 w1 hb hp hun
          refine Ops.mv_int rfl rfl rfl ?_
          refine Ops.nil ?_
          exact After.dn (Below.refl _ _) (by exact rfl)
        · intro e1 w1 hb hp hun
          refine Ops.idx (hBt4.later hb).2 rfl rfl rfl (by omega) (by omega) ?_
          refine Ops.nil ?_
          exact After.dn (Below.refl _ _) (by exact rfl)
        · intro e1 w1 hb hp hun
          refine Ops.ld_sl (hBt4.later hb) rfl (by omega) rfl rfl ?_
          refine Ops.nil ?_
          exact After.dn (Below.refl _ _) (by exact rfl)
        · intro e1 w1 hb hp hun
          refine Ops.call (l01Less_c _ _ _ _ _ _ _ _ _ (ha4.later hb) (hb4'.later hb) (by omega)) rfl rfl rfl ?_
          rintro _ w2 ⟨rfl, hst⟩
          refine Ops.nil ?_
          exact After.dn hst.below (by exact rfl)
        · intro e1 w1 hb hp hun
          refine Ops.mv_bool rfl rfl rfl ?_
          refine Ops.nil ?_
          exact After.dn (Below.refl _ _) (by exact rfl)
        intro u2 w5 hb5 _
        have hS5 := hS4.later hb5
        refine thenQ_n ?_
        refine Cd.ret ?_
        refine blockQ_r ?_
        refine thenQ_r ?_
        refine thenQ_r ?_
        refine blockQ_r ?_
        refine thenQ_r ?_
        refine ret1_b rfl ?_
        -- stop: end
        exact ⟨congrArg Value.bool (decide_eq_decide.2 (by rw [hK])), hS5⟩
      · rw [if_pos (lexC_zero.2 (Classical.not_not.1 h3))] at hK
        refine Cd.skip ?_
        refine blockQ_n ?_
        refine thenQ_n ?_
        refine Cd.region ?_
        refine Ops.mv_int rfl rfl rfl ?_
        refine Ops.add rfl rfl rfl (by omega) ?_
        refine Ops.mv_int rfl rfl rfl ?_
        refine Ops.nil ?_
        refine thenQ_n ?_
        -- stop: round
        exact ⟨k + 1, by show n - (k + 1) < n - k; omega, ⟨rfl, rfl, rfl, trivial⟩, hS4, by omega, hK⟩
    · exact absurd h1 h2 --x
  · rw [lexCC_endL (by omega), if_neg (by omega)] at hK
    refine Ops.skipg rfl rfl rfl rfl rfl ?_
    refine Ops.skipg rfl rfl rfl rfl rfl ?_
    refine Ops.skipg rfl rfl rfl rfl rfl ?_
    refine Ops.skipg rfl rfl rfl rfl rfl ?_
    refine Ops.pick_f rfl rfl rfl ?_
    refine Ops.nil ?_
    refine thenQ_n ?_
    -- stop: cond
    refine Cd.cond_f rfl ?_
    refine Cd.exit ?_
    refine thenQ_x ?_
    refine thenQ_x ?_
    refine blockQ_x ?_
    refine thenQ_n ?_
    refine Cd.seq ?_
    refine Cd.region ?_
    refine Ops.mv_sl rfl rfl rfl ?_
    refine Ops.len rfl rfl ?_
    refine Ops.mv_sl rfl rfl rfl ?_
    refine Ops.len rfl rfl ?_
    refine Ops.lss rfl rfl rfl ?_
    refine Ops.mv_bool rfl rfl rfl ?_
    refine Ops.nil ?_
    refine thenQ_n ?_
    refine Cd.ret ?_
    refine ret1_b rfl ?_
    -- stop: end
    exact ⟨congrArg Value.bool (by rw [hK]; simp), hS3⟩

theorem l02Least_c (A : Option Addr) (n c : Nat) (rs : List SlV) (xss : List (List Int)) (N : Nat) (w : World) (hR : RowsI w A n rs xss) (hM : Mani xss) (hN : N = (gl xss 0).length) :
    Ret Try.prog 120 [.agg #[.slice A n c]] w (fun v w' => ∃ A' c' rs', v = .agg #[.slice A' n c'] ∧ rs'.length = n ∧ St w w' (mat 33 2 A' n c' rs' (leastL N xss))) := by
  have h5 := hM.1
  have h40 := hM.2.1
  have hxl := hR.len
  have hll : ∀ k, (leastTo N xss k).length = n := fun k => by
    induction k with
    | zero => rw [leastTo, formL_len, hxl]
    | succ k ih =>
      rw [leastTo]
      split
      · rw [formL_len, hxl]
      · exact ih
  have hfl : ∀ f : Int, (formL N xss f).length = n := fun f => by rw [formL_len, hxl]
  have h1st : leastTo N xss 1 = formL N xss 0 := by
    show (if lexCC (formL N xss ((0 : Nat) : Int)) (leastTo N xss 0) < 0 then formL N xss ((0 : Nat) : Int) else leastTo N xss 0) = _
    split <;> rfl
  refine Ret.of_cd Try.func120 rfl Try.ntmps120 rfl (postc rfl rfl) ?_
  refine Cd.seq ?_
  refine Cd.region ?_
  -- stop: BOX 24 t0=m -> 1
  refine Ops.box1 (St.refl w) rfl rfl ?_
  intro Ab w1 hS1
  refine Ops.new1 hS1 rfl ?_
  intro Ac w2 hS2
  refine Ops.nil ?_
  refine thenQ_n ?_
  refine Cd.seq ?_
  refine Cd.region ?_
  -- stop: LOAD 24 t1=m -> 6
  refine Ops.ld_agg 0 (hS2.rd 1 rfl) rfl rfl rfl ?_
  refine Ops.call (l02Form_c A n c rs xss N 0 _ (hS2.oldRows hR) hM hN (by omega) (by omega)) rfl rfl rfl ?_
  rintro _ w3 ⟨A4, c4, rs4, rfl, hl4, hst⟩
  have hS3 := (hS2.call hst).perm List.perm_append_comm
  refine Ops.new1 hS3 rfl ?_
  intro Ad w4 hS4
  refine Ops.st_agg 1 0 hS4 rfl rfl rfl rfl rfl rfl rfl ?_
  intro w5 hS5
  have hS5 : St w w5 (Bx 24 1 Ad [.slice A4 n c4] :: Bx 24 1 Ac [.slice none 0 0] :: Bx 24 1 Ab [.slice A n c] :: mat 33 2 A4 n c4 rs4 (leastTo N xss 1)) := by rw [h1st]; exact hS5
  refine Ops.nil ?_
  refine thenQ_n ?_
  refine Cd.seq ?_
  refine Cd.seq ?_
  refine Cd.region ?_
  refine Ops.mv_int rfl rfl rfl ?_
  refine Ops.nil ?_
  refine thenQ_n ?_
  refine Cd.block ?_
  -- stop: loop
  refine Cd.loop (α := Nat × Option Addr × Nat × List SlV) (fun s => [(1, .pointer Ab), (2, .pointer Ac), (3, .pointer Ad), (4, .int .i64 (s.1 : Int))]) (fun s w' => St w w' (Bx 24 1 Ad [.slice s.2.1 n s.2.2.1] :: Bx 24 1 Ac [.slice none 0 0] :: Bx 24 1 Ab [.slice A n c] :: mat 33 2 s.2.1 n s.2.2.1 s.2.2.2 (leastTo N xss s.1)) ∧ s.1 ≤ N ∧ s.2.2.2.length = n) (fun s => N - s.1) (1, A4, c4, rs4) ⟨rfl, rfl, rfl, rfl, trivial⟩ ⟨hS5, by show 1 ≤ N; omega, hl4⟩ ?_
  rintro ⟨k, A6, c6, rs6⟩ e w6 ⟨hS6, hk, hl6⟩
  dsimp only at hS6 hk hl6 ⊢
  refine Cd.seq ?_
  refine Cd.seq ?_
  refine Cd.region ?_
  refine Ops.mv_int rfl rfl rfl ?_
  -- stop: LOAD 24 t1=m -> 9
  refine Ops.ld_agg 0 (hS6.rd 2 rfl) rfl rfl rfl ?_
  refine Ops.call (l02Flags_c A n c rs xss _ (hS6.oldRows hR) (by omega)) rfl rfl rfl ?_
  rintro _ w61 ⟨rfl, hst61⟩
  have hS6 := hS6.later hst61.below
  refine Ops.lss rfl rfl rfl ?_
  refine Ops.nil ?_
  refine thenQ_n ?_
  -- stop: cond
  refine Cd.cond_p _ rfl (fun h1 => ?_) (fun h1 => ?_)
  · refine Cd.skip ?_
    refine thenQ_n ?_
    refine Cd.seq ?_
    refine Cd.block ?_
    refine Cd.seq ?_
    refine Cd.region ?_
    -- stop: LOAD 24 t1=m -> 14
    refine Ops.ld_agg 0 (hS6.rd 2 rfl) rfl rfl rfl ?_
    refine Ops.mv_int rfl rfl rfl ?_
    -- stop: CALL spec.l02Form(t14, t15) -> 16
    refine Ops.call (l02Form_c A n c rs xss N (k : Int) _ (hS6.oldRows hR) hM hN (by omega) (by omega)) rfl rfl rfl ?_
    rintro _ w7 ⟨A7, c7, rs7, rfl, hl7, hst7⟩
    have hS7 := (hS6.call hst7).perm List.perm_append_comm
    refine Ops.new1 hS7 rfl ?_
    intro A8 w8 hS8
    refine Ops.st_agg 1 0 hS8 rfl rfl rfl rfl rfl rfl rfl ?_
    intro w9 hS9
    have hS9 : St w w9 (Bx 24 1 A8 [.slice A7 n c7] :: Bx 24 1 Ad [.slice A6 n c6] :: Bx 24 1 Ac [.slice none 0 0] :: Bx 24 1 Ab [.slice A n c] :: (mat 33 2 A6 n c6 rs6 (leastTo N xss k) ++ mat 33 2 A7 n c7 rs7 (formL N xss k))) := hS9
    have hr6 : RowsI w9 A6 n rs6 (leastTo N xss k) := hS9.matAt ((List.sublist_append_left _ _).trans (List.sublist_append_right [_, _, _, _] _)) (hll k)
    have hr7 : RowsI w9 A7 n rs7 (formL N xss k) := hS9.matAt (((((List.sublist_append_right _ _).cons _).cons _).cons _).cons _) (hfl k)
    refine Ops.nil ?_
    refine thenQ_n ?_
    refine Cd.seq ?_
    refine Cd.region ?_
    -- stop: FIELDADDR 24 t5=next 0 -> 17
    refine Ops.fld (hS9.rd 0 rfl) rfl rfl rfl rfl inferInstance ?_
    refine Ops.ldf_s (hS9.rd 0 rfl) rfl rfl rfl rfl rfl ?_
    refine Ops.fld (hS9.rd 1 rfl) rfl rfl rfl rfl inferInstance ?_
    refine Ops.ldf_s (hS9.rd 1 rfl) rfl rfl rfl rfl rfl ?_
    refine Ops.call (l01Less2_c A7 n c7 rs7 _ A6 c6 rs6 _ _ hr7 hr6 (by omega)) rfl rfl rfl ?_
    rintro _ w10 ⟨rfl, hst10⟩
    have hS10 := hS9.later hst10.below
    refine Ops.nil ?_
    refine thenQ_n ?_
    -- stop: cond
    refine Cd.cond_p _ rfl (fun h2 => ?_) (fun h2 => ?_)
    · have hle : leastTo N xss (k + 1) = formL N xss k := by rw [leastTo, if_pos h2]
      refine Cd.region ?_
      -- stop: LOAD 24 t5=next -> 22
      refine Ops.ld_agg 0 (hS10.rd 0 rfl) rfl rfl rfl ?_
      refine Ops.st_agg 1 1 hS10 rfl rfl rfl rfl rfl rfl rfl ?_
      intro w11 hS11
      refine Ops.nil ?_
      refine blockQ_n ?_
      refine thenQ_n ?_
      refine Cd.region ?_
      refine Ops.mv_int rfl rfl rfl ?_
      refine Ops.add rfl rfl rfl (by omega) ?_
      refine Ops.mv_int rfl rfl rfl ?_
      refine Ops.nil ?_
      refine thenQ_n ?_
      -- stop: round
      refine ⟨(k + 1, A7, c7, rs7), by show N - (k + 1) < N - k; omega, ⟨rfl, rfl, rfl, rfl, trivial⟩, ?_, by show k + 1 ≤ N; omega, hl7⟩
      show St w w11 (Bx _ 1 Ad [.slice A7 n c7] :: _ :: _ :: mat _ _ A7 n c7 rs7 (leastTo N xss (k + 1)))
      rw [hle]
      exact hS11.sub (((List.Sublist.cons_cons _ (List.Sublist.cons_cons _ (List.Sublist.cons_cons _ (List.sublist_append_right _ _)))).cons _))
    · have hle : leastTo N xss (k + 1) = leastTo N xss k := by rw [leastTo, if_neg h2]
      refine Cd.skip ?_
      refine blockQ_n ?_
      refine thenQ_n ?_
      refine Cd.region ?_
      refine Ops.mv_int rfl rfl rfl ?_
      refine Ops.add rfl rfl rfl (by omega) ?_
      refine Ops.mv_int rfl rfl rfl ?_
      refine Ops.nil ?_
      refine thenQ_n ?_
      -- stop: round
      refine ⟨(k + 1, A6, c6, rs6), by show N - (k + 1) < N - k; omega, ⟨rfl, rfl, rfl, rfl, trivial⟩, ?_, by show k + 1 ≤ N; omega, hl6⟩
      show St w w10 (Bx _ 1 Ad [.slice A6 n c6] :: _ :: _ :: mat _ _ A6 n c6 rs6 (leastTo N xss (k + 1)))
      rw [hle]
      exact hS10.sub (((List.Sublist.cons_cons _ (List.Sublist.cons_cons _ (List.Sublist.cons_cons _ (List.sublist_append_left _ _)))).cons _))
  · have hkN : k = N := by omega
    rw [hkN] at hS6
    refine Cd.exit ?_
    refine thenQ_x ?_
    refine thenQ_x ?_
    refine blockQ_x ?_
    refine thenQ_n ?_
    refine Cd.seq ?_
    refine Cd.region ?_
    -- stop: LOAD 24 t3=best -> 23
    refine Ops.ld_agg 0 (hS6.rd 0 rfl) rfl rfl rfl ?_
    refine Ops.st_agg 1 1 hS6 rfl rfl rfl rfl rfl rfl rfl ?_
    intro w7 hS7
    refine Ops.nil ?_
    refine thenQ_n ?_
    refine Cd.ret ?_
    skip
    -- stop: end
    refine retc_r rfl (hS7.rd 1 rfl) ?_
    exact ⟨A6, c6, rs6, rfl, hl6, hS7.sub (((List.sublist_cons_self _ _).trans (List.sublist_cons_self _ _)).trans (List.sublist_cons_self _ _))⟩
end Go.Proofs.Ytgobjpcankaicaa.Vc
/-
  The walk of slices.Repeat at a list of some numbers. Conditions: as it states them.
-/
namespace Go.Proofs.Ytgobjpcankaicaa.Vc
open Go.RowKit

/-- n copies of a list, one behind the other -/
def pow (xs : List Int) (n : Nat) : List Int := (List.replicate n xs).flatten
theorem pow_len (xs : List Int) (n : Nat) : (pow xs n).length = xs.length * n := by simp [pow, Nat.mul_comm]
theorem pow_succ (xs : List Int) (n : Nat) : pow xs (n + 1) = pow xs n ++ xs := by simp [pow, List.replicate_succ']
theorem pow_succ' (xs : List Int) (n : Nat) : pow xs (n + 1) = xs ++ pow xs n := by simp [pow, List.replicate_succ]
theorem pow_get {xs : List Int} (h : 0 < xs.length) : ∀ (n j : Nat), j < xs.length * n → (pow xs n)[j]? = xs[j % xs.length]?
  | 0, j, hj => by simp at hj
  | n + 1, j, hj => by
    rw [pow_succ']
    by_cases hx : j < xs.length
    · rw [List.getElem?_append_left hx, Nat.mod_eq_of_lt hx]
    · rw [List.getElem?_append_right (by omega), pow_get h n _ (by rw [Nat.mul_succ] at hj; omega), ← Nat.mod_eq_sub_mod (by omega)]
theorem pow_shift {xs : List Int} (h : 0 < xs.length) {n m j : Nat} (hm : xs.length ∣ m) (hj : m + j < xs.length * n) : (pow xs n)[m + j]? = (pow xs n)[j]? := by
  rw [pow_get h n _ hj, pow_get h n _ (by omega)]
  obtain ⟨q, rfl⟩ := hm
  rw [Nat.add_comm, Nat.add_mul_mod_self_left]

/-- what a part of the copies looks like -/
def part (T : List Int) (m : Nat) : List Int := T.take m ++ List.replicate (T.length - m) 0
theorem part_len {T : List Int} {m : Nat} (h : m ≤ T.length) : (part T m).length = T.length := by simp [part]; omega
theorem part_get {T : List Int} {m j : Nat} (h : m ≤ T.length) (hj : j < T.length) : (part T m)[j]? = if j < m then T[j]? else some 0 := by
  unfold part
  by_cases hjm : j < m
  · rw [List.getElem?_append_left (by simp; omega), List.getElem?_take, if_pos hjm, if_pos hjm]
  · rw [List.getElem?_append_right (by simp; omega), if_neg hjm, List.getElem?_replicate, if_pos (by simp; omega)]
theorem part_copy {T : List Int} {m q : Nat} (hm : m ≤ T.length) (hq : q ≤ T.length - m) (hs : ∀ j, j < q → T[m + j]? = T[j]?) :
    ((part T m).map (Value.int .i64)).take m ++ (List.range q).map (fun j => Value.int .i64 (T.getD j 0)) ++ ((part T m).map (Value.int .i64)).drop (m + q) = (part T (m + q)).map (Value.int .i64) := by
  apply List.ext_getElem?
  intro j
  have hl := part_len hm
  have hl2 := part_len (T := T) (m := m + q) (by omega)
  by_cases h1 : j < m
  · rw [List.append_assoc, List.getElem?_append_left (by simp; omega), List.getElem?_take, if_pos h1, List.getElem?_map, List.getElem?_map, part_get hm (by omega), part_get (by omega) (by omega), if_pos h1, if_pos (by omega)]
  · by_cases h2 : j < m + q
    · obtain ⟨i, rfl⟩ : ∃ i, j = m + i := ⟨j - m, by omega⟩
      rw [List.append_assoc, List.getElem?_append_right (by simp; omega), List.getElem?_append_left (by simp; omega), List.getElem?_map, List.getElem?_map, part_get (by omega) (by omega), if_pos h2, hs i (by omega)]
      simp only [List.length_take, List.length_map, hl, show min m T.length = m by omega, Nat.add_sub_cancel_left]
      rw [List.getElem?_range (by omega)]
      simp [List.getD_eq_getElem?_getD, List.getElem?_eq_getElem (show i < T.length by omega)]
    · rw [List.getElem?_append_right (by simp; omega), List.getElem?_drop]
      simp only [List.length_append, List.length_take, List.length_map, List.length_range, hl, show min m T.length = m by omega]
      rw [show m + q + (j - (m + q)) = j by omega, List.getElem?_map, List.getElem?_map]
      by_cases h3 : j < T.length
      · rw [part_get hm h3, part_get (by omega) h3, if_neg h1, if_neg h2]
      · rw [List.getElem?_eq_none (by omega), List.getElem?_eq_none (by omega)]
theorem part_all (T : List Int) : part T T.length = T := by simp [part]

theorem RepeatL_c (A : Option Addr) (a c : Nat) (xs : List Int) (n : Nat) (w : World) (hR : RdI w A a xs) (ha : 0 < a ∧ a ≤ 1000) (hn : n ≤ 1000) :
    Ret Try.prog 106 [.slice A a c, .int .i64 (n : Int)] w (fun v w' => ∃ A', v = .slice A' (a * n) (a * n) ∧ St w w' [CkI 2 A' (a * n) (a * n) (pow xs n)]) := by
  have hxl := hR.1
  have hMn : ((a : Int) * (n : Int)) = ((a * n : Nat) : Int) := rfl
  have hN0 : a * n ≤ 1000000 := Nat.mul_le_mul ha.2 hn
  have hTl : (pow xs n).length = a * n := by rw [pow_len, hxl]
  have hz : n = 0 → a * n = 0 := fun h => by subst h; rfl
  have hnz : 0 < n → a ≤ a * n := fun h => Nat.le_mul_of_pos_right a h
  have hdv : a ∣ a * n := Nat.dvd_mul_right a n
  have hsh : ∀ m j, a ∣ m → m + j < a * n → (pow xs n)[m + j]? = (pow xs n)[j]? := fun m j hm hj => pow_shift (by omega) (by rw [hxl]; exact hm) (by rw [hxl]; exact hj)
  have hpre : ∀ j, j < min a (a * n) → xs[j]? = (pow xs n)[j]? := fun j hj => by rw [pow_get (by omega) n j (by rw [hxl]; omega), Nat.mod_eq_of_lt (by omega)]
  refine Ret.of_cd Try.func106 rfl Try.ntmps106 rfl (post1 rfl) ?_
  refine Cd.seq ?_
  refine Cd.region ?_
  refine Ops.mv_sl rfl rfl rfl ?_
  refine Ops.nil ?_
  refine thenQ_n ?_
  refine Cd.seq ?_
  refine Cd.seq ?_
  refine Cd.region ?_
  refine Ops.mv_int rfl rfl rfl ?_
  refine Ops.lss rfl rfl rfl ?_
  refine Ops.nil ?_
  refine thenQ_n ?_
  -- stop: cond
  refine Cd.cond_pf rfl (by omega) ?_
  refine Cd.skip ?_
  refine thenQ_n ?_
  refine Cd.seq ?_
  refine Cd.region ?_
  refine Ops.mv_sl rfl rfl rfl ?_
  refine Ops.len rfl rfl ?_
  -- stop: CONVERT 3 112 t14 -> 15
  refine Ops.convK (i := (a : Int)) rfl rfl (wrap_u64_in _ (by omega)) ?_
  refine Ops.mv_int rfl rfl rfl ?_
  -- stop: CONVERT 3 112 t16 -> 17
  refine Ops.convK (i := (n : Int)) rfl rfl (wrap_u64_in _ (by omega)) ?_
  refine Ops.call (Mul_c a n _ (by omega) (by omega)) rfl rfl rfl ?_
  rintro _ w ⟨rfl, rfl⟩
  rw [hMn]
  generalize hT : pow xs n = T at *
  generalize hNe : a * n = N at *
  subst hTl
  refine Ops.mv_tup rfl rfl rfl ?_
  refine Ops.extract rfl rfl rfl ?_
  refine Ops.extract rfl rfl rfl ?_
  refine Ops.mv_int rfl rfl rfl ?_
  refine Ops.mv_int rfl rfl rfl ?_
  refine Ops.nil ?_
  refine thenQ_n ?_
  refine Cd.seq ?_
  refine Cd.seq ?_
  refine Cd.region ?_
  refine Ops.mv_int rfl rfl rfl ?_
  refine Ops.gtr rfl rfl rfl ?_
  refine Ops.mv_bool rfl rfl rfl ?_
  -- stop: guard 23
  refine Ops.split_p 23 rfl (fun h => absurd h (by decide)) (fun _ => ?_) --f
  refine Ops.rung rfl rfl rfl ?_
  refine Ops.mv_int rfl rfl rfl ?_
  refine Ops.rung rfl rfl rfl ?_
  refine Ops.gtr rfl rfl rfl ?_
  refine Ops.pick_f rfl rfl rfl ?_
  refine Ops.nil ?_
  refine thenQ_n ?_
  -- stop: cond
  refine Cd.cond_pf rfl (by omega) ?_
  refine Cd.skip ?_
  refine thenQ_n ?_
  refine Cd.seq ?_
  refine Cd.region ?_
  refine Ops.mv_int rfl rfl rfl ?_
  -- stop: CONVERT 112 3 t28 -> 29
  refine Ops.convK (i := (T.length : Int)) rfl rfl (IntWalk.i64_in _ (by omega)) ?_
  refine Ops.mkI T.length (St.refl w) rfl rfl (by omega) ?_
  intro A1 w1 hS1
  refine Ops.mv_sl rfl rfl rfl ?_
  refine Ops.nil ?_
  refine thenQ_n ?_
  refine Cd.seq ?_
  refine Cd.region ?_
  refine Ops.mv_sl rfl rfl rfl ?_
  refine Ops.mv_sl rfl rfl rfl ?_
  -- stop: BUILTIN copy(t31, t32) -> 33
  refine Ops.cp 0 0 (min a T.length) hS1 rfl (hS1.oldI hR).2 (Nat.zero_le _) (by rw [cutAt_zero]; rfl) rfl (fun _ _ => rfl) rfl rfl ?_
  intro w2 hS2
  refine Ops.mv_int rfl rfl rfl ?_
  refine Ops.nil ?_
  refine thenQ_n ?_
  refine Cd.seq ?_
  refine Cd.block ?_
  -- stop: loop
  have h3 : St w w2 [CkI 2 A1 T.length T.length (part T (min a T.length))] := by
    have e := part_copy (T := T) (m := 0) (q := min a T.length) (Nat.zero_le _) (by omega) (fun j hj => by rw [Nat.zero_add])
    have e0 : part T 0 = List.replicate T.length 0 := by simp [part]
    have e1 : (List.range (min a T.length)).map (fun j => Value.int .i64 (xs.getD j 0)) = (List.range (min a T.length)).map (fun j => Value.int .i64 (T.getD j 0)) := by
      refine List.map_congr_left fun j hj => ?_
      rw [List.getD_eq_getElem?_getD, List.getD_eq_getElem?_getD, hpre j (List.mem_range.1 hj)]
    rw [e0, Nat.zero_add] at e
    have e2 : ([CkI 2 A1 T.length T.length (List.replicate T.length 0)].set 0 { CkI 2 A1 T.length T.length (List.replicate T.length 0) with vs := (CkI 2 A1 T.length T.length (List.replicate T.length 0)).vs.take 0 ++ (List.range (min a T.length)).map (fun j => Value.int .i64 (xs.getD j 0)) ++ (CkI 2 A1 T.length T.length (List.replicate T.length 0)).vs.drop (0 + min a T.length) }) = [CkI 2 A1 T.length T.length (part T (min a T.length))] := by
      rw [e1, Nat.zero_add]
      show [(⟨A1, T.length, T.length, _, _⟩ : Ck)] = [⟨A1, T.length, T.length, _, _⟩]
      rw [← e]
    rw [← e2]; exact hS2
  refine Cd.loop (α := Nat) (fun m => [(7, .slice A1 T.length T.length), (8, .int .i64 (m : Int))]) (fun m w' => St w w' [CkI 2 A1 T.length T.length (part T m)] ∧ m ≤ T.length ∧ a ∣ m ∧ (0 < T.length → 0 < m)) (fun m => T.length - m) (min a T.length) ⟨rfl, rfl, trivial⟩ ⟨h3, by omega, ?_, by omega⟩ ?_
  · by_cases h0 : a ≤ T.length
    · rw [Nat.min_eq_left h0]; exact Nat.dvd_refl a
    · rw [Nat.min_eq_right (by omega)]; exact hdv
  rintro m e w3 ⟨hS3, hm, hdm, hm0⟩
  refine Cd.seq ?_
  refine Cd.seq ?_
  refine Cd.region ?_
  refine Ops.mv_int rfl rfl rfl ?_
  refine Ops.mv_sl rfl rfl rfl ?_
  refine Ops.len rfl rfl ?_
  refine Ops.lss rfl rfl rfl ?_
  refine Ops.nil ?_
  refine thenQ_n ?_
  -- stop: cond
  refine Cd.cond_p _ rfl (fun h4 => ?_) (fun h4 => ?_)
  · refine Cd.skip ?_
    refine thenQ_n ?_
    refine Cd.block ?_
    -- stop: draw
    have hlen := part_len hm
    have hR2 : ∀ {w1 : World}, Below w3.heap.size w3 w1 → Rd w1 A1 m (fun j => .int .i64 (T.getD j 0)) := fun hb j hj => by
      have h5 := (hS3.later hb).rd 0 rfl j (by show j < T.length; omega)
      have h6 : ((part T m).map (Value.int .i64)).getD j undef = .int .i64 (T.getD j 0) := by
        rw [List.getD_eq_getElem?_getD, List.getElem?_map, part_get hm (by omega), if_pos hj]
        simp [List.getD_eq_getElem?_getD, List.getElem?_eq_getElem (show j < T.length by omega)]
      obtain ⟨p, hp, hc⟩ := h5
      exact ⟨p, hp, hc.trans (congrArg some h6)⟩
    have hR3 := part_copy (T := T) (m := m) (q := min m (T.length - m)) hm (by omega) (fun j hj => hsh m j hdm (by omega))
    refine Cd.drawM 7 (fun v w' => v = .int .i64 ((min m (T.length - m) : Nat) : Int) ∧ St w w' [CkI 2 A1 T.length T.length (part T (m + min m (T.length - m)))]) [.ex (.int .i64 ((m : Int))), .ex (.slice (A1) (T.length) (T.length)), .ex (.int .i64 ((m : Int))), .ex (.slice (cutAt A1 T.length m) (T.length - m) (T.length - m)), .ex (.slice (A1) (T.length) (T.length)), .ex (.int .i64 ((m : Int))), .ex (.slice (A1) (m) (T.length)), .pr (fun v w' => v = .int .i64 ((min m (T.length - m) : Nat) : Int) ∧ St w w' [CkI 2 A1 T.length T.length (part T (m + min m (T.length - m)))]), .ex (.int .i64 ((m : Int) + ((min m (T.length - m) : Nat) : Int))), .ex (.int .i64 ((m : Int) + ((min m (T.length - m) : Nat) : Int)))] (by kernel_rfl) (by kernel_rfl) rfl rfl (by kernel_rfl) (List.forall_mem_cons.2 ⟨Yd.lasts_ex _, (List.forall_mem_cons.2 ⟨Yd.lasts_ex _, (List.forall_mem_cons.2 ⟨Yd.lasts_ex _, (List.forall_mem_cons.2 ⟨Yd.lasts_ex _, (List.forall_mem_cons.2 ⟨Yd.lasts_ex _, (List.forall_mem_cons.2 ⟨Yd.lasts_ex _, (List.forall_mem_cons.2 ⟨Yd.lasts_ex _, (List.forall_mem_cons.2 ⟨Yd.lasts_pr (fun v w w' h hb => ⟨h.1, h.2.later hb⟩), (List.forall_mem_cons.2 ⟨Yd.lasts_ex _, (List.forall_mem_cons.2 ⟨Yd.lasts_ex _, (fun _ h => by cases h)⟩)⟩)⟩)⟩)⟩)⟩)⟩)⟩)⟩)⟩) ⟨?_, ?_, ?_, ?_, ?_, ?_, ?_, ?_, ?_, ?_, trivial⟩ ?_
    · intro e1 w1 hph hp hun
      show Ops _ _ _ _ _ _ _
      refine Ops.mv_int rfl (by exact hun 9 _ rfl (by kernel_rfl)) rfl ?_
      refine Ops.nil ?_
      exact After.dn (Below.refl _ _) (by exact rfl)
    · intro e1 w1 hph hp hun
      show Ops _ _ _ _ _ _ _
      refine Ops.mv_sl rfl rfl rfl ?_
      refine Ops.nil ?_
      exact After.dn (Below.refl _ _) (by exact rfl)
    · intro e1 w1 hph hp hun
      show Ops _ _ _ _ _ _ _
      refine Ops.mv_int rfl (by exact hun 9 _ rfl (by kernel_rfl)) rfl ?_
      refine Ops.nil ?_
      exact After.dn (Below.refl _ _) (by exact rfl)
    · intro e1 w1 hph hp hun
      show Ops _ _ _ _ _ _ _
      refine Ops.cut_l rfl rfl rfl (by omega) ?_
      refine Ops.nil ?_
      exact After.dn (Below.refl _ _) (by exact rfl)
    · intro e1 w1 hph hp hun
      show Ops _ _ _ _ _ _ _
      refine Ops.mv_sl rfl rfl rfl ?_
      refine Ops.nil ?_
      exact After.dn (Below.refl _ _) (by exact rfl)
    · intro e1 w1 hph hp hun
      show Ops _ _ _ _ _ _ _
      refine Ops.mv_int rfl (by exact hun 9 _ rfl (by kernel_rfl)) rfl ?_
      refine Ops.nil ?_
      exact After.dn (Below.refl _ _) (by exact rfl)
    · intro e1 w1 hph hp hun
      show Ops _ _ _ _ _ _ _
      refine Ops.cut_h rfl rfl rfl (by omega) ?_
      refine Ops.nil ?_
      exact After.dn (Below.refl _ _) (by exact rfl)
    · intro e1 w1 hph hp hun
      refine fun hb => ?_
      refine Ops.cp 0 m (min m (T.length - m)) (hS3.later hb) rfl (f := fun j => .int .i64 (T.getD j 0)) (hR2 hb) (by omega) rfl rfl (fun _ _ => rfl) rfl rfl ?_
      intro w5 hS5
      refine Ops.nil ?_
      exact AfterM.dn ⟨rfl, by show St w w5 [⟨A1, T.length, T.length, _, (part T (m + min m (T.length - m))).map (Value.int .i64)⟩]; rw [← hR3]; exact hS5⟩ --exact After
    · intro e1 w1 hph hp hun
      show Ops _ _ _ _ _ _ _
      have h45 : e1 45 = .int .i64 _ := (hp 7 (by decide) rfl _ _ rfl rfl).1
      refine Ops.add rfl (by exact h45) rfl (by omega) ?_
      refine Ops.nil ?_
      exact After.dn (Below.refl _ _) (by exact rfl)
    · intro e1 w1 hph hp hun
      show Ops _ _ _ _ _ _ _
      refine Ops.mv_int rfl rfl rfl ?_
      refine Ops.nil ?_
      exact After.dn (Below.refl _ _) (by exact rfl)
    intro u w5 hu
    have hS5 := (hu 7 _ rfl).2
    refine blockQ_n ?_
    refine thenQ_n ?_
    -- stop: round
    refine ⟨m + min m (T.length - m), by have := hm0 (by omega); omega, ⟨rfl, by show Value.int .i64 _ = Value.int .i64 _; congr 1, trivial⟩, hS5, by omega, ?_, by omega⟩
    by_cases h0 : m ≤ T.length - m
    · rw [Nat.min_eq_left h0]; exact Nat.dvd_add hdm hdm
    · rw [Nat.min_eq_right (by omega), show m + (T.length - m) = T.length by omega]; exact hdv
  · refine Cd.exit ?_
    refine thenQ_x ?_
    refine thenQ_x ?_
    refine blockQ_x ?_
    refine thenQ_n ?_
    refine Cd.seq ?_
    refine Cd.region ?_
    refine Ops.mv_sl rfl rfl rfl ?_
    refine Ops.mv_sl rfl rfl rfl ?_
    refine Ops.nil ?_
    refine thenQ_n ?_
    refine Cd.ret ?_
    refine ret1_s rfl ?_
    -- stop: end
    have : m = T.length := by omega
    subst this
    rw [part_all] at hS3
    exact ⟨A1, rfl, hS3⟩
end Go.Proofs.Ytgobjpcankaicaa.Vc
/-
  The walks of holes and zigzags on both sides. Conditions: as each states them.
-/
namespace Go.Proofs.Ytgobjpcankaicaa.Vc
open Go.RowKit

/-- the code of holes and zigzags -/
def holeK (xss : List (List Int)) (j : Int) : Int := if ¬ Grph xss then 1 else if ¬ (1 ≤ j ∧ j ≤ 16) then 2 else if ¬ xss.length = 3 then 5 else 0
theorem holeK_zero {xss : List (List Int)} {j : Int} (h : holeK xss j = 0) : Grph xss ∧ (1 ≤ j ∧ j ≤ 16) ∧ xss.length = 3 := by
  unfold holeK at h
  split at h
  · cases h
  · rename_i h1
    split at h
    · cases h
    · rename_i h2
      split at h
      · cases h
      · rename_i h3
        exact ⟨Classical.not_not.1 h1, Classical.not_not.1 h2, Classical.not_not.1 h3⟩

theorem l11Power_c (A : Option Addr) (a c : Nat) (xs : List Int) (n : Nat) (w : World) (hR : RdI w A a xs) (ha : a ≤ 1000) (hn : n ≤ 1000) :
    Ret Try.prog 178 [.slice A a c, .int .i64 (n : Int)] w (fun v w' => ∃ A' c', v = .slice A' (a * n) c' ∧ St w w' [CkI 2 A' (a * n) c' (pow xs n)]) := by
  have hxl := hR.1
  refine Ret.of_cd Try.func178 rfl Try.ntmps178 rfl (post1 rfl) ?_
  refine Cd.seq ?_
  refine Cd.region ?_
  refine Ops.mv_sl rfl rfl rfl ?_
  refine Ops.nil ?_
  refine thenQ_n ?_
  refine Cd.seq ?_
  refine Cd.region ?_
  -- stop: BUILDSLICE 33 0 [] -> 6
  refine Ops.bs0 (St.refl w) rfl ?_
  intro A5 w1 hS1
  have hS1 : St w w1 [CkI 2 A5 (a * 0) 0 (pow xs 0)] := hS1
  refine Ops.mv_sl rfl rfl rfl ?_
  refine Ops.nil ?_
  refine thenQ_n ?_
  refine Cd.seq ?_
  refine Cd.block ?_
  -- stop: loop
  refine Cd.loop (α := Nat × Option Addr × Nat) (fun z => [(0, .slice A a c), (1, .int .i64 ((n : Int) - (z.1 : Int))), (5, .slice z.2.1 (a * z.1) z.2.2)]) (fun z w' => St w w' [CkI 2 z.2.1 (a * z.1) z.2.2 (pow xs z.1)] ∧ z.1 ≤ n) (fun z => n - z.1) (0, A5, 0) ⟨rfl, by show Value.int .i64 _ = .int .i64 _; simp, rfl, trivial⟩ ⟨hS1, Nat.zero_le _⟩ ?_
  rintro ⟨k, A6, c6⟩ e w2 ⟨hS2, hk⟩
  dsimp only at hS2 hk ⊢
  have hb2 : a * k ≤ 1000000 := Nat.mul_le_mul ha (show k ≤ 1000 by omega)
  refine Cd.seq ?_
  refine Cd.seq ?_
  refine Cd.region ?_
  refine Ops.mv_int rfl rfl rfl ?_
  refine Ops.gtr rfl rfl rfl ?_
  refine Ops.nil ?_
  refine thenQ_n ?_
  -- stop: cond
  refine Cd.cond_p _ rfl (fun h1 => ?_) (fun h1 => ?_)
  · refine Cd.skip ?_
    refine thenQ_n ?_
    refine Cd.seq ?_
    refine Cd.block ?_
    refine Cd.region ?_
    refine Ops.mv_sl rfl rfl rfl ?_
    refine Ops.mv_sl rfl rfl rfl ?_
    -- stop: BUILTIN append(t11, t12) -> 13
    refine Ops.appI 0 hS2 rfl (hS2.oldI hR) rfl rfl rfl (by omega) (by omega) rfl ?_
    intro A7 c7 w3 hS3
    refine Ops.mv_sl rfl rfl rfl ?_
    refine Ops.nil ?_
    refine blockQ_n ?_
    refine thenQ_n ?_
    refine Cd.region ?_
    refine Ops.mv_int rfl rfl rfl ?_
    refine Ops.sub rfl rfl rfl (by omega) ?_
    refine Ops.mv_int rfl rfl rfl ?_
    refine Ops.nil ?_
    refine thenQ_n ?_
    -- stop: round
    have e1 : a * (k + 1) = a * k + a := Nat.mul_succ a k
    refine ⟨(k + 1, A7, c7), by show n - (k + 1) < n - k; omega, ⟨rfl, by show Value.int .i64 _ = .int .i64 _; congr 1; show _ = (n : Int) - ((k + 1 : Nat) : Int); omega, by show Value.slice _ _ _ = .slice _ _ _; rw [e1], trivial⟩, ?_, by show k + 1 ≤ n; omega⟩
    show St w w3 [CkI _ A7 (a * (k + 1)) c7 (pow xs (k + 1))]
    rw [e1, pow_succ]
    exact hS3
  · refine Cd.exit ?_
    refine thenQ_x ?_
    refine thenQ_x ?_
    refine blockQ_x ?_
    refine thenQ_n ?_
    refine Cd.seq ?_
    refine Cd.region ?_
    refine Ops.mv_sl rfl rfl rfl ?_
    refine Ops.mv_sl rfl rfl rfl ?_
    refine Ops.nil ?_
    refine thenQ_n ?_
    refine Cd.ret ?_
    refine ret1_s rfl ?_
    -- stop: end
    have hkn : k = n := by omega
    subst hkn
    exact ⟨A6, c6, rfl, hS2⟩

def zigW (n : Nat) : List Int := [0] ++ pow [1, 2] n
def holeW (n : Nat) : List Int := zigW n ++ [1]
theorem zigW_len (n : Nat) : (zigW n).length = 1 + 2 * n := by simp [zigW, pow_len]; omega
theorem holeW_len (n : Nat) : (holeW n).length = 1 + 2 * n + 1 := by rw [holeW, List.length_append, zigW_len]; rfl
theorem zigW_in (n : Nat) : ∀ i ∈ zigW n, 0 ≤ i ∧ i < 3 := fun i hi => by
  simp only [zigW, pow, List.mem_append, List.mem_singleton, List.mem_flatten, List.mem_replicate] at hi
  rcases hi with rfl | ⟨l, ⟨_, rfl⟩, hi⟩
  · omega
  · simp at hi; omega
theorem holeW_in (n : Nat) : ∀ i ∈ holeW n, 0 ≤ i ∧ i < 3 := fun i hi => by
  rcases List.mem_append.1 hi with h | h
  · exact zigW_in n i h
  · simp at h; omega
theorem in_gi {ws : List Int} {a b : Int} (h : ∀ i ∈ ws, a ≤ i ∧ i < b) : ∀ k : Nat, k < ws.length → a ≤ gi ws k ∧ gi ws k < b := fun k hk => by
  rw [gi_mem hk]; exact h _ (List.getElem_mem _)

end Go.Proofs.Ytgobjpcankaicaa.Vc
/-
  The walks of the lengths of holes and zigzags on both sides. Conditions: as each states them.
-/
namespace Go.Proofs.Ytgobjpcankaicaa.Vc
open Go.RowKit

def holeL (xss : List (List Int)) (j : Int) : List Int := if holeK xss j = 0 then wordL xss (holeW (j - 1).toNat) else []
def zigL (xss : List (List Int)) (j : Int) : List Int := if holeK xss j = 0 then wordL xss (zigW j.toNat) else []

end Go.Proofs.Ytgobjpcankaicaa.Vc
/-
  The walks of the lengths of a word on both sides. Conditions: as each states them.
-/
namespace Go.Proofs.Ytgobjpcankaicaa.Vc
open Go.RowKit
section
variable {P : Program} {N : Nat} {ops : Array Oper} {K : Env → World → Prop} {rest : List Oper} {e : Env} {w : World} {d : Nat} {ty : TypeId} {pos : String} {af : Array Edge}
theorem Ops.fn2 {F : FuncId} {x y : Operand} {v1 v2 : Value} (hx : ev e x = v1) (hy : ev e y = v2) (hb : Nat.blt d N = true) (hK : Ops P N ops K rest (upd e d (.func (.func F) #[] #[v1, v2])) w) :
    Ops P N ops K (⟨some d, .makeFunc (.func F) #[] #[x, y], ty, pos, af, none⟩ :: rest) e w :=
  .val (by simp [execOp, Instr.makeFunc, hx, hy]) hb hK
end

def allIn (lo hi : Int) (xs : List Int) : Prop := ∀ x ∈ xs, lo ≤ x ∧ x ≤ hi
instance (lo hi : Int) (xs : List Int) : Decidable (allIn lo hi xs) := by unfold allIn; exact inferInstance

theorem areWithin1_c (x lo hi : Int) (P1 P2 : Option Addr) (w : World) (h1 : Rd w P1 1 (fun _ => .int .i64 lo)) (h2 : Rd w P2 1 (fun _ => .int .i64 hi)) :
    Ret Try.prog 150 [.int .i64 x, .pointer P1, .pointer P2] w (fun v w' => v = .bool (decide (¬ (lo ≤ x ∧ x ≤ hi))) ∧ w' = w) := by
  refine Ret.of_cd Try.func150 rfl Try.ntmps150 rfl (post1 rfl) ?_
  refine Cd.seq ?_
  refine Cd.region ?_
  refine Ops.mv_bool rfl rfl rfl ?_
  refine Ops.nil ?_
  refine thenQ_n ?_
  refine Cd.seq ?_
  refine Cd.region ?_
  refine Ops.mv_int rfl rfl rfl ?_
  -- stop: LOAD 2 t1 -> 6
  refine Ops.ld h1 (by exact congrArg Value.pointer (ptrAt_zero P1).symm) (by decide) rfl rfl rfl ?_
  refine Ops.ld h2 (by exact congrArg Value.pointer (ptrAt_zero P2).symm) (by decide) rfl rfl rfl ?_
  refine Ops.call (within_c _ _ _ _) rfl rfl rfl ?_
  rintro _ w ⟨rfl, rfl⟩
  first | refine Ops.not_p rfl rfl ?_ | refine Ops.not rfl rfl ?_
  refine Ops.mv_bool rfl rfl rfl ?_
  refine Ops.nil ?_
  refine thenQ_n ?_
  refine Cd.ret ?_
  refine ret1_b rfl ?_
  -- stop: end
  exact ⟨rfl, rfl⟩

theorem IndexFunc_c (A : Option Addr) (n c : Nat) (xs : List Int) (lo hi : Int) (P1 P2 : Option Addr) (w : World) (hR : RdI w A n xs) (hn : n ≤ 9223372036854775807) (h1 : Rd w P1 1 (fun _ => .int .i64 lo)) (h2 : Rd w P2 1 (fun _ => .int .i64 hi)) :
    Ret Try.prog 188 [.slice A n c, .func (.func 150) #[] #[.pointer P1, .pointer P2]] w (fun v w' => (∃ i : Int, v = .int .i64 i ∧ (0 ≤ i ↔ ¬ allIn lo hi xs)) ∧ w' = w) := by
  have hxl := hR.1
  refine Ret.of_cd Try.func188 rfl Try.ntmps188 rfl (post1 rfl) ?_
  refine Cd.seq ?_
  refine Cd.region ?_
  refine Ops.mv_int rfl rfl rfl ?_
  refine Ops.nil ?_
  refine thenQ_n ?_
  refine Cd.seq ?_
  refine Cd.seq ?_
  refine Cd.region ?_
  refine Ops.mv_sl rfl rfl rfl ?_
  refine Ops.len rfl rfl ?_
  refine Ops.mv_int rfl rfl rfl ?_
  refine Ops.nil ?_
  refine thenQ_n ?_
  refine Cd.block ?_
  -- stop: loop
  refine Cd.loop (α := Nat) (fun k => [(0, .slice A n c), (1, .func (.func 150) #[] #[.pointer P1, .pointer P2]), (7, .int .i64 (n : Int)), (8, .int .i64 (k : Int))]) (fun k w' => w' = w ∧ k ≤ n ∧ ∀ j, j < k → lo ≤ gi xs (j : Nat) ∧ gi xs (j : Nat) ≤ hi) (fun k => n - k) 0 ⟨rfl, rfl, rfl, rfl, trivial⟩ ⟨rfl, Nat.zero_le _, fun j hj => by omega⟩ ?_
  rintro k e w ⟨rfl, hk, hK⟩
  refine Cd.seq ?_
  refine Cd.region ?_
  refine Ops.lss rfl rfl rfl ?_
  refine Ops.nil ?_
  refine thenQ_n ?_
  refine Cd.seq ?_
  -- stop: cond
  refine Cd.cond_p _ rfl (fun h3 => ?_) (fun h3 => ?_)
  · refine Cd.skip ?_
    refine thenQ_n ?_
    refine Cd.seq ?_
    refine Cd.block ?_
    refine Cd.seq ?_
    refine Cd.region ?_
    refine Ops.mv_int rfl rfl rfl ?_
    refine Ops.mv_int rfl rfl rfl ?_
    refine Ops.nil ?_
    refine thenQ_n ?_
    refine Cd.seq ?_
    refine Cd.region ?_
    refine Ops.mv_fn rfl rfl rfl ?_
    refine Ops.mv_sl rfl rfl rfl ?_
    refine Ops.mv_int rfl rfl rfl ?_
    -- stop: INDEXADDR 33 t12 t13 -> 14
    refine Ops.idx hR.2 rfl rfl rfl (by omega) (by omega) ?_
    refine Ops.ld_int hR rfl (by omega) rfl rfl ?_
    refine Ops.call (areWithin1_c _ lo hi P1 P2 _ h1 h2) rfl rfl rfl ?_
    rintro _ w ⟨rfl, rfl⟩
    refine Ops.nil ?_
    refine thenQ_n ?_
    -- stop: cond
    refine Cd.cond_p _ rfl (fun h4 => ?_) (fun h4 => ?_)
    · refine Cd.seq ?_
      refine Cd.region ?_
      refine Ops.mv_int rfl rfl rfl ?_
      refine Ops.mv_int rfl rfl rfl ?_
      refine Ops.nil ?_
      refine thenQ_n ?_
      refine Cd.ret ?_
      refine blockQ_r ?_
      refine thenQ_r ?_
      refine thenQ_r ?_
      refine blockQ_r ?_
      refine thenQ_r ?_
      refine ret1_i rfl ?_
      -- stop: end
      exact ⟨⟨(k : Int), rfl, ⟨fun _ ha => h4 (by rw [gi_mem (by omega)]; exact ha _ (List.getElem_mem _)), fun _ => by omega⟩⟩, rfl⟩
    · refine Cd.skip ?_
      refine blockQ_n ?_
      refine thenQ_n ?_
      refine Cd.region ?_
      refine Ops.add rfl rfl rfl (by omega) ?_
      refine Ops.mv_int rfl rfl rfl ?_
      refine Ops.nil ?_
      refine thenQ_n ?_
      -- stop: round
      refine ⟨k + 1, by show n - (k + 1) < n - k; omega, ⟨rfl, rfl, rfl, rfl, trivial⟩, rfl, by omega, fun j hj => ?_⟩
      by_cases ej : j = k
      · subst ej; exact Classical.not_not.1 h4
      · exact hK j (by omega)
  · refine Cd.exit ?_
    refine thenQ_x ?_
    refine thenQ_x ?_
    refine blockQ_x ?_
    refine thenQ_n ?_
    refine Cd.seq ?_
    refine Cd.region ?_
    refine Ops.mv_int rfl rfl rfl ?_
    refine Ops.nil ?_
    refine thenQ_n ?_
    refine Cd.ret ?_
    refine ret1_i rfl ?_
    -- stop: end
    refine ⟨⟨-1, rfl, ⟨fun h => absurd h (by decide), fun h => absurd (fun x hx => ?_) h⟩⟩, rfl⟩
    obtain ⟨j, hj, rfl⟩ := List.mem_iff_getElem.1 hx
    have := hK j (by omega)
    rwa [gi_mem hj] at this

theorem ContainsFunc_c (A : Option Addr) (n c : Nat) (xs : List Int) (lo hi : Int) (P1 P2 : Option Addr) (w : World) (hR : RdI w A n xs) (hn : n ≤ 9223372036854775807) (h1 : Rd w P1 1 (fun _ => .int .i64 lo)) (h2 : Rd w P2 1 (fun _ => .int .i64 hi)) :
    Ret Try.prog 149 [.slice A n c, .func (.func 150) #[] #[.pointer P1, .pointer P2]] w (fun v w' => v = .bool (decide (¬ allIn lo hi xs)) ∧ w' = w) := by
  refine Ret.of_cd Try.func149 rfl Try.ntmps149 rfl (post1 rfl) ?_
  refine Cd.seq ?_
  refine Cd.region ?_
  refine Ops.mv_bool rfl rfl rfl ?_
  refine Ops.nil ?_
  refine thenQ_n ?_
  refine Cd.seq ?_
  refine Cd.region ?_
  refine Ops.mv_sl rfl rfl rfl ?_
  refine Ops.mv_fn rfl rfl rfl ?_
  -- stop: CALL slices.IndexFunc[[]int64,int64](t5, t6) -> 7
  refine Ops.call (IndexFunc_c A n c xs lo hi P1 P2 _ hR hn h1 h2) rfl rfl rfl ?_
  rintro _ w ⟨⟨i, rfl, hi'⟩, rfl⟩
  refine Ops.geq rfl rfl rfl ?_
  refine Ops.mv_bool rfl rfl rfl ?_
  refine Ops.nil ?_
  refine thenQ_n ?_
  refine Cd.ret ?_
  refine ret1_b rfl ?_
  -- stop: end
  exact ⟨congrArg Value.bool (decide_eq_decide.2 hi'), rfl⟩

theorem areWithin_c (A : Option Addr) (n c : Nat) (xs : List Int) (lo hi : Int) (w : World) (hR : RdI w A n xs) (hn : n ≤ 9223372036854775807) :
    Ret Try.prog 101 [.slice A n c, .int .i64 lo, .int .i64 hi] w (fun v w' => v = .bool (decide (allIn lo hi xs)) ∧ St w w' []) := by
  refine Ret.of_cd Try.func101 rfl Try.ntmps101 rfl (post1 rfl) ?_
  refine Cd.seq ?_
  refine Cd.region ?_
  -- stop: BOX 2 t1=low -> 4
  refine Ops.box (v := .int .i64 lo) (St.refl w) rfl rfl (by show (1 : Nat) ≤ maxLen; simp [maxLen]) ?_
  intro P1 w1 hS1
  have hS1 : St w w1 [Bx 2 1 P1 [.int .i64 lo]] := hS1
  refine Ops.box (v := .int .i64 hi) hS1 rfl rfl (by show (1 : Nat) ≤ maxLen; simp [maxLen]) ?_
  intro P2 w2 hS2
  have hS2 : St w w2 [Bx 2 1 P2 [.int .i64 hi], Bx 2 1 P1 [.int .i64 lo]] := hS2
  refine Ops.mv_bool rfl rfl rfl ?_
  refine Ops.nil ?_
  refine thenQ_n ?_
  refine Cd.seq ?_
  refine Cd.region ?_
  refine Ops.mv_sl rfl rfl rfl ?_
  -- stop: MAKEFUNC impl.areWithin$1 [] [t4=low, t5=high] -> 8
  refine Ops.fn2 rfl rfl rfl ?_
  skip
  -- stop: CALL slices.ContainsFunc[[]int64,int64](t7, t8) -> 9
  refine Ops.call (ContainsFunc_c A n c xs lo hi P1 P2 _ (hS2.oldI hR) hn (Rd.one (hS2.rd 1 rfl)) (Rd.one (hS2.rd 0 rfl))) rfl rfl rfl ?_
  rintro _ w2 ⟨rfl, rfl⟩
  first | refine Ops.not_p rfl rfl ?_ | refine Ops.not rfl rfl ?_
  refine Ops.mv_bool rfl rfl rfl ?_
  refine Ops.nil ?_
  refine thenQ_n ?_
  refine Cd.ret ?_
  refine ret1_b rfl ?_
  -- stop: end
  exact ⟨by simp, hS2.none⟩

/-- a word of n moves -/
def IsW (n : Nat) (ws : List Int) : Prop := allIn 0 ((n : Int) - 1) ws ∧ ws.length ≤ 64
instance (n : Nat) (ws : List Int) : Decidable (IsW n ws) := by unfold IsW; exact inferInstance

def lowK (xss : List (List Int)) (ws : List Int) : Int := if ¬ Grph xss then 1 else if ¬ IsW xss.length ws then 2 else 0
def lowL (xss : List (List Int)) (ws : List Int) : List Int := if Grph xss ∧ IsW xss.length ws then wordL xss ws else []

end Go.Proofs.Ytgobjpcankaicaa.Vc
/-
  The library's IndexFunc and DeleteFunc over a row of structs of one slice, walked for any predicate; the rule of 'clear'. Conditions: the predicate's contract.
-/
namespace Go.Proofs.Ytgobjpcankaicaa.Vc
open Go.RowKit
section
variable {P : Program} {N : Nat} {ops : Array Oper} {K : Env → World → Prop} {rest : List Oper} {e : Env} {w0 w : World} {ks : List Ck} {d : Nat} {ty : TypeId} {pos : String} {af : Array Edge}
theorem setL_take : ∀ (cs vs : List Value) (o m : Nat), m ≤ o → (setL vs o cs).take m = vs.take m
  | [], _, _, _, _ => rfl
  | c :: r, vs, o, m, h => by
    show (setL (vs.set o c) (o + 1) r).take m = _
    rw [setL_take r _ _ _ (by omega), List.take_set_of_le h]
theorem isM_setL : ∀ {vs : List Value} (o : Nat) (cs : List Value), isM vs = false → (∀ u ∈ cs, u.oneCell' = true) → isM (setL vs o cs) = false
  | _, _, [], h, _ => h
  | vs, o, c :: r, h, hc => isM_setL (o + 1) r (isM_set o h (hc c (by simp))) fun u hu => hc u (by simp [hu])
/-- the places behind some are cleared, and given up -/
theorem Ops.clr {t el : TypeId} {z z0 : Value} {b : Nat} [Und P t (.slice el)] [Inf P el z 1 b] {x : Operand} (i l : Nat) {k : Ck} {n' c' : Nat} (hS : St w0 w ks) (hk : ks[i]? = some k) (hl : l < k.n) (hn' : n' = k.n - l) (hx : ev e x = .slice (cutAt k.A k.c l) n' c') (hz : z.cells = #[z0]) (h1 : z0.oneCell' = true)
    (hK : ∀ w', St w0 w' (ks.set i { k with n := l, vs := k.vs.take l }) → Ops P N ops K rest e w') (hM : isM k.vs = false := by first | rfl | exact isM_I _ | exact isM_B _ | exact isM_R _) :
    Ops P N ops K (⟨none, .call ⟨.builtin .clear, #[x], #[t]⟩, ty, pos, af, none⟩ :: rest) e w := by
  obtain ⟨inf, hi, hz0, hs, hby⟩ := Inf.get P el
  obtain ⟨hvl, hnc, hcm, -⟩ := hS.getC hk hM
  have hlt := (List.getElem?_eq_some_iff.1 hk).1
  obtain ⟨p, hp, _⟩ := (hS.rd i hk) l hl
  have hcut : cutAt k.A k.c l = some p := by unfold cutAt; rw [if_neg (by omega)]; exact hp
  obtain ⟨w', hrun, hS'⟩ := run_store_list (P := P) (k := k) i (List.replicate (k.n - l) z0) ks k.vs w l p hS hk hp (by simp; omega) (fun u hu => by rw [List.eq_of_mem_replicate hu]; exact h1) l p hp (by omega) (by omega)
  have hS2 := hS'.shrink i (k := { k with vs := setL k.vs l (List.replicate (k.n - l) z0) }) (by rw [List.getElem?_set]; simp [hlt]) l (by show l ≤ k.n; omega) (isM_setL _ _ hM (fun u hu => by rw [List.eq_of_mem_replicate hu]; exact h1))
  rw [List.set_set] at hS2
  have e1 : ({ ({ k with vs := setL k.vs l (List.replicate (k.n - l) z0) } : Ck) with n := l, vs := ({ k with vs := setL k.vs l (List.replicate (k.n - l) z0) } : Ck).vs.take l } : Ck) = { k with n := l, vs := k.vs.take l } := by
    show ({ k with n := l, vs := (setL k.vs l (List.replicate (k.n - l) z0)).take l } : Ck) = _
    rw [setL_take _ _ _ _ (Nat.le_refl _)]
  rw [e1] at hS2
  have hzc : (Builtin.zeroCells z.cells (k.n - l)).toList = List.replicate (k.n - l) z0 := by
    rw [hz]
    simp [Builtin.zeroCells]
    apply List.ext_getElem
    · simp
    · intro i h1 h2
      simp [Nat.mod_one]
  rw [Nat.sub_self] at hrun
  have hm : k.n - l = (k.n - l - 1) + 1 := by omega
  generalize k.n - l - 1 = m at hm
  have hv : ∀ w, (zeroValue el).run P w = .ok z w := fun w => by simp [zeroValue, typeInfo, hi, hz0]
  rw [hn', hcut, hm] at hx
  rw [hm] at hzc hrun
  refine .val0 (v := .tuple #[]) (w' := w') ?_ (hK _ hS2)
  simp [execOp, resolve, invoke, builtin, hx, Builtin.clear_, run_underlying (Und.out (P := P) (t := t)), hv, hzc, hrun]
end

/-- the first place at which a predicate holds -/
theorem indexM0_c (A : Option Addr) (n c : Nat) (ss : List SlV) (G : FuncId) [hF : Fnc Try.prog G] (pd : Nat → Bool) (w : World) (hR : RdR w A n ss) (hn : n ≤ 4000000000000)
    (hcall : ∀ (w' : World) (j : Nat), Below w.heap.size w w' → j < n → Ret Try.prog G [.agg #[(rg ss (j : Int)).v]] w' (fun v w'' => v = .bool (pd j) ∧ St w' w'' [])) :
    Ret Try.prog 118 [.slice A n c, .func (.func G) #[] #[]] w (fun v w' => (∃ i : Int, v = .int .i64 i ∧ ((i = -1 ∧ ∀ j, j < n → pd j = false) ∨ ∃ k : Nat, k < n ∧ i = k ∧ pd k = true ∧ ∀ j, j < k → pd j = false)) ∧ St w w' []) := by
  refine Ret.of_cd Try.func118 rfl Try.ntmps118 rfl (post1 rfl) ?_
  refine Cd.seq ?_
  refine Cd.region ?_
  refine Ops.mv_int rfl rfl rfl ?_
  refine Ops.nil ?_
  refine thenQ_n ?_
  refine Cd.seq ?_
  refine Cd.seq ?_
  refine Cd.region ?_
  refine Ops.mv_sl rfl rfl rfl ?_
  refine Ops.len rfl rfl ?_
  refine Ops.mv_int rfl rfl rfl ?_
  refine Ops.nil ?_
  refine thenQ_n ?_
  refine Cd.block ?_
  -- stop: loop
  refine Cd.loop (α := Nat) (fun k => [(0, .slice A n c), (1, .func (.func G) #[] #[]), (7, .int .i64 (n : Int)), (8, .int .i64 (k : Int))]) (fun k w' => St w w' [] ∧ k ≤ n ∧ ∀ j, j < k → pd j = false) (fun k => n - k) 0 ⟨rfl, rfl, rfl, rfl, trivial⟩ ⟨St.refl w, Nat.zero_le _, fun j hj => by omega⟩ ?_
  rintro k e w1 ⟨hS, hk, hK⟩
  refine Cd.seq ?_
  refine Cd.region ?_
  refine Ops.lss rfl rfl rfl ?_
  refine Ops.nil ?_
  refine thenQ_n ?_
  refine Cd.seq ?_
  -- stop: cond
  refine Cd.cond_p _ rfl (fun h3 => ?_) (fun h3 => ?_)
  · have hk' : k < n := by omega
    have hR1 := hR.later hS.below
    refine Cd.skip ?_
    refine thenQ_n ?_
    refine Cd.seq ?_
    refine Cd.block ?_
    refine Cd.seq ?_
    refine Cd.region ?_
    refine Ops.mv_int rfl rfl rfl ?_
    refine Ops.mv_int rfl rfl rfl ?_
    refine Ops.nil ?_
    refine thenQ_n ?_
    refine Cd.seq ?_
    refine Cd.region ?_
    refine Ops.mv_fn rfl rfl rfl ?_
    refine Ops.mv_sl rfl rfl rfl ?_
    refine Ops.mv_int rfl rfl rfl ?_
    -- stop: INDEXADDR 51 t12 t13 -> 14
    refine Ops.idx hR1.2 rfl rfl rfl (by omega) (by omega) ?_
    refine Ops.ld_ag hR1 rfl (by omega) rfl ?_
    refine Ops.call (hcall w1 k hS.below hk') rfl rfl rfl ?_
    rintro _ w2 ⟨rfl, hst⟩
    have hS2 := hS.later hst.below
    rw [show pd k = decide (pd k = true) by simp]
    refine Ops.nil ?_
    refine thenQ_n ?_
    -- stop: cond
    refine Cd.cond_p _ rfl (fun h4 => ?_) (fun h4 => ?_)
    · refine Cd.seq ?_
      refine Cd.region ?_
      refine Ops.mv_int rfl rfl rfl ?_
      refine Ops.mv_int rfl rfl rfl ?_
      refine Ops.nil ?_
      refine thenQ_n ?_
      refine Cd.ret ?_
      refine blockQ_r ?_
      refine thenQ_r ?_
      refine thenQ_r ?_
      refine blockQ_r ?_
      refine thenQ_r ?_
      refine ret1_i rfl ?_
      -- stop: end
      exact ⟨⟨(k : Int), rfl, .inr ⟨k, hk', rfl, h4, hK⟩⟩, hS2⟩
    · refine Cd.skip ?_
      refine blockQ_n ?_
      refine thenQ_n ?_
      refine Cd.region ?_
      refine Ops.add rfl rfl rfl (by omega) ?_
      refine Ops.mv_int rfl rfl rfl ?_
      refine Ops.nil ?_
      refine thenQ_n ?_
      -- stop: round
      refine ⟨k + 1, by show n - (k + 1) < n - k; omega, ⟨rfl, rfl, rfl, rfl, trivial⟩, hS2, by omega, fun j hj => ?_⟩
      by_cases ej : j = k
      · subst ej; simpa using h4
      · exact hK j (by omega)
  · refine Cd.exit ?_
    refine thenQ_x ?_
    refine thenQ_x ?_
    refine blockQ_x ?_
    refine thenQ_n ?_
    refine Cd.seq ?_
    refine Cd.region ?_
    refine Ops.mv_int rfl rfl rfl ?_
    refine Ops.nil ?_
    refine thenQ_n ?_
    refine Cd.ret ?_
    refine ret1_i rfl ?_
    -- stop: end
    exact ⟨⟨-1, rfl, .inl ⟨rfl, fun j hj => hK j (by omega)⟩⟩, hS⟩

def keptI (pd : Nat → Bool) (j : Nat) : List Nat := (List.range j).filter fun x => !pd x
theorem keptI_succ (pd : Nat → Bool) (j : Nat) : keptI pd (j + 1) = if pd j = true then keptI pd j else keptI pd j ++ [j] := by
  unfold keptI
  rw [List.range_succ, List.filter_append]
  by_cases h : pd j = true
  · rw [if_pos h]; simp [h]
  · rw [if_neg h]; simp [h]
theorem keptI_all {pd : Nat → Bool} : ∀ {j : Nat}, (∀ x, x < j → pd x = false) → keptI pd j = List.range j := fun {j} h => by
  unfold keptI
  rw [List.filter_eq_self]
  intro x hx
  rw [h x (List.mem_range.1 hx)]; rfl
theorem sv_range {ss : List SlV} {n : Nat} (h : ss.length = n) : (List.range n).map (fun j => ss.getD j slNil) = ss := by
  subst h
  apply List.ext_getElem
  · simp
  · intro i h1 h2
    simp [List.getD_eq_getElem?_getD, h2]

/-- what a predicate holds at is struck -/
theorem deleteM_c {w0 w : World} {ks : List Ck} (i : Nat) {t : TypeId} {A : Option Addr} {n c : Nat} {ss : List SlV} (hS : St w0 w ks) (hk : ks[i]? = some (CkR t A n c ss)) (hn : n ≤ 4000000000000) (G : FuncId) [hF : Fnc Try.prog G] (pd : Nat → Bool)
    (hcall : ∀ (w' : World) (q : List Nat), q.length = n → St w0 w' (ks.set i (CkR t A n c (q.map fun j => ss.getD j slNil))) → ∀ a, a < n → Ret Try.prog G [.agg #[(ss.getD a slNil).v]] w' (fun v w'' => v = .bool (pd a) ∧ St w' w'' [])) :
    Ret Try.prog 74 [.slice A n c, .func (.func G) #[] #[]] w (fun v w' => v = .slice A (keptI pd n).length c ∧ St w0 w' (ks.set i (CkR t A (keptI pd n).length c ((keptI pd n).map fun j => ss.getD j slNil)))) := by
  have hil : i < ks.length := (List.getElem?_eq_some_iff.1 hk).1
  obtain ⟨h1, h2, h3, -⟩ := hS.getC hk (isM_R _)
  have hsl : ss.length = n := by have : (ss.map SlV.v).length = n := h1; simpa using this
  have h2 : n ≤ c := h2
  have h3 : c ≤ maxLen := h3
  have hid : ks.set i (CkR t A n c ((List.range n).map fun j => ss.getD j slNil)) = ks := by rw [sv_range hsl, set_id hk]
  have hR := hS.rdR i hk
  have hSi : ∀ {w' : World}, St w0 w' ks → St w0 w' (ks.set i (CkR t A n c ((List.range n).map fun j => ss.getD j slNil))) := fun h => by rw [hid]; exact h
  have get : ∀ l, (ks.set i l)[i]? = some l := fun l => by simp [hil]
  have hrg : ∀ (q : List Nat) (j : Nat) (x : Nat), q[j]? = some x → rg (q.map fun j => ss.getD j slNil) (j : Int) = ss.getD x slNil := fun q j x h => by
    simp [rg, List.getD_eq_getElem?_getD, h]
  refine Ret.of_cd Try.func74 rfl Try.ntmps74 rfl (post1 rfl) ?_
  refine Cd.seq ?_
  refine Cd.region ?_
  refine Ops.mv_sl rfl rfl rfl ?_
  refine Ops.nil ?_
  refine thenQ_n ?_
  refine Cd.seq ?_
  refine Cd.region ?_
  refine Ops.mv_sl rfl rfl rfl ?_
  refine Ops.mv_fn rfl rfl rfl ?_
  -- stop: CALL impl.Maniplex](t8, t9) -> 10
  refine Ops.call (indexM0_c A n c ss G pd _ hR hn (fun w' j hb hj => hcall w' (List.range n) (by simp) (hSi (hS.later hb)) j hj)) rfl rfl rfl ?_
  rintro _ w1 ⟨⟨i0, rfl, hi0⟩, hst1⟩
  have hS1 := hS.later hst1.below
  refine Ops.mv_int rfl rfl rfl ?_
  refine Ops.nil ?_
  refine thenQ_n ?_
  refine Cd.seq ?_
  refine Cd.seq ?_
  refine Cd.region ?_
  refine Ops.mv_int rfl rfl rfl ?_
  refine Ops.eql rfl rfl rfl ?_
  refine Ops.nil ?_
  refine thenQ_n ?_
  -- stop: cond
  refine Cd.cond_p _ rfl (fun h5 => ?_) (fun h5 => ?_)
  · have hall : ∀ j, j < n → pd j = false := by
      rcases hi0 with ⟨_, h⟩ | ⟨k, _, e, _⟩
      · exact h
      · omega
    refine Cd.seq ?_
    refine Cd.region ?_
    refine Ops.mv_sl rfl rfl rfl ?_
    refine Ops.mv_sl rfl rfl rfl ?_
    refine Ops.nil ?_
    refine thenQ_n ?_
    refine Cd.ret ?_
    refine thenQ_r ?_
    refine ret1_s rfl ?_
    -- stop: end
    rw [keptI_all hall, List.length_range, hid]
    exact ⟨rfl, hS1⟩
  · obtain ⟨k0, hk0, rfl, hpk, hpl⟩ := hi0.resolve_left (fun h => h5 h.1)
    refine Cd.skip ?_
    refine thenQ_n ?_
    refine Cd.seq ?_
    refine Cd.seq ?_
    refine Cd.region ?_
    refine Ops.mv_int rfl rfl rfl ?_
    refine Ops.add rfl rfl rfl (by omega) ?_
    refine Ops.mv_int rfl rfl rfl ?_
    refine Ops.nil ?_
    refine thenQ_n ?_
    refine Cd.block ?_
    -- stop: loop
    refine Cd.loop (α := Nat × Nat × List Nat) (fun z => [(0, .slice A n c), (1, .func (.func G) #[] #[]), (5, .int .i64 (z.1 : Int)), (6, .int .i64 (z.2.1 : Int))])
      (fun z w' => St w0 w' (ks.set i (CkR t A n c (z.2.2.map fun j => ss.getD j slNil))) ∧ z.2.2.length = n ∧ z.1 < z.2.1 ∧ z.2.1 ≤ n ∧ z.1 = (keptI pd z.2.1).length ∧ z.2.2.take z.1 = keptI pd z.2.1 ∧ ∀ m, z.2.1 ≤ m → m < n → z.2.2[m]? = some m)
      (fun z => n - z.2.1) (k0, k0 + 1, List.range n) ⟨rfl, rfl, rfl, by show Value.int .i64 _ = .int .i64 _; congr 1, trivial⟩ ⟨hSi hS1, by simp, Nat.lt_succ_self _, hk0, by
        show k0 = (keptI pd (k0 + 1)).length
        rw [keptI_succ, if_pos hpk, keptI_all hpl, List.length_range], by
        show (List.range n).take k0 = keptI pd (k0 + 1)
        rw [keptI_succ, if_pos hpk, keptI_all hpl, List.take_range, Nat.min_eq_left (by omega)], fun m hm hm' => by simp [hm']⟩ ?_
    rintro ⟨a, j, q⟩ e w2 ⟨hS2, hql, haj, hjn, hal, hqt, hqr⟩
    dsimp only at hS2 hql haj hjn hal hqt hqr ⊢
    refine Cd.seq ?_
    refine Cd.seq ?_
    refine Cd.region ?_
    refine Ops.mv_int rfl rfl rfl ?_
    refine Ops.mv_sl rfl rfl rfl ?_
    refine Ops.len rfl rfl ?_
    refine Ops.lss rfl rfl rfl ?_
    refine Ops.nil ?_
    refine thenQ_n ?_
    -- stop: cond
    refine Cd.cond_p _ rfl (fun h6 => ?_) (fun h6 => ?_)
    · have hj' : j < n := by omega
      have hR2 := hS2.rdR i (get _)
      have hqj := hqr j (Nat.le_refl _) hj'
      refine Cd.skip ?_
      refine thenQ_n ?_
      refine Cd.seq ?_
      refine Cd.block ?_
      refine Cd.seq ?_
      refine Cd.region ?_
      refine Ops.mv_sl rfl rfl rfl ?_
      refine Ops.mv_int rfl rfl rfl ?_
      -- stop: INDEXADDR 51 t22 t23 -> 24
      refine Ops.idx hR2.2 rfl rfl rfl (by omega) (by omega) ?_
      refine Ops.ld_ag hR2 rfl (by omega) rfl ?_
      rw [hrg q j j hqj]
      refine Ops.new1 hS2 rfl ?_
      intro A7 w3 hS3
      refine Ops.st_agg 1 0 hS3 rfl rfl rfl rfl rfl rfl rfl ?_
      intro w4 hS4
      have hS4 : St w0 w4 (Bx 24 1 A7 [.slice (ss.getD j slNil).a (ss.getD j slNil).n (ss.getD j slNil).c] :: ks.set i (CkR t A n c (q.map fun j => ss.getD j slNil))) := hS4
      refine Ops.nil ?_
      refine thenQ_n ?_
      refine Cd.seq ?_
      refine Cd.region ?_
      refine Ops.mv_fn rfl rfl rfl ?_
      -- stop: LOAD 24 t7=v -> 27
      refine Ops.ld_agg 0 (hS4.rd 0 rfl) rfl rfl rfl ?_
      refine Ops.call (hcall w4 q hql hS4.tail j hj') rfl rfl rfl ?_
      rintro _ w5 ⟨rfl, hst5⟩
      have hS5 := hS4.later hst5.below
      rw [show pd j = decide (pd j = true) by simp]
      first | refine Ops.not_p rfl rfl ?_ | refine Ops.not rfl rfl ?_
      refine Ops.nil ?_
      refine thenQ_n ?_
      -- stop: cond
      refine Cd.cond_p _ rfl (fun h7 => ?_) (fun h7 => ?_)
      · have hpj : ¬ pd j = true := h7
        refine Cd.seq ?_
        refine Cd.region ?_
        refine Ops.mv_sl rfl rfl rfl ?_
        refine Ops.mv_int rfl rfl rfl ?_
        -- stop: LOAD 24 t7=v -> 32
        refine Ops.ld_agg 0 (hS5.rd 0 rfl) rfl rfl rfl ?_
        refine Ops.idx (hS5.tail.rdR i (get _)).2 rfl rfl rfl (by omega) (by omega) ?_
        refine Ops.st_aggf (o := a) 1 (i + 1) hS5 (by show (ks.set i _)[i]? = _; exact get _) rfl rfl rfl rfl rfl (by rw [Nat.ble_eq]; show a + 1 ≤ n; omega) ?_
        intro w6 hS6
        have hS6 := hS6.tail
        refine Ops.nil ?_
        refine thenQ_n ?_
        refine Cd.region ?_
        refine Ops.mv_int rfl rfl rfl ?_
        refine Ops.add rfl rfl rfl (by omega) ?_
        refine Ops.mv_int rfl rfl rfl ?_
        refine Ops.nil ?_
        refine blockQ_n ?_
        refine thenQ_n ?_
        refine Cd.region ?_
        refine Ops.mv_int rfl rfl rfl ?_
        refine Ops.add rfl rfl rfl (by omega) ?_
        refine Ops.mv_int rfl rfl rfl ?_
        refine Ops.nil ?_
        refine thenQ_n ?_
        -- stop: round
        refine ⟨(a + 1, j + 1, q.set a j), by show n - (j + 1) < n - j; omega, ⟨rfl, rfl, rfl, rfl, trivial⟩, ?_, by show (q.set a j).length = n; rw [List.length_set]; exact hql, by show a + 1 < j + 1; omega, hj', by show a + 1 = (keptI pd (j + 1)).length; rw [keptI_succ, if_neg hpj, List.length_append, ← hal]; rfl, ?_, fun m hm hm' => ?_⟩
        · show St w0 w6 (ks.set i (CkR t A n c ((q.set a j).map fun j => ss.getD j slNil)))
          have e9 : (ks.set i (CkR t A n c (q.map fun j => ss.getD j slNil))).set i { CkR t A n c (q.map fun j => ss.getD j slNil) with vs := setL (CkR t A n c (q.map fun j => ss.getD j slNil)).vs a [.slice (ss.getD j slNil).a (ss.getD j slNil).n (ss.getD j slNil).c] } = ks.set i (CkR t A n c ((q.set a j).map fun j => ss.getD j slNil)) := by
            rw [List.set_set]
            congr 1
            show ({ CkR t A n c (q.map fun j => ss.getD j slNil) with vs := ((q.map fun j => ss.getD j slNil).map SlV.v).set a (ss.getD j slNil).v } : Ck) = _
            simp [CkR, List.map_set]
          rw [← e9]
          exact hS6
        · show (q.set a j).take (a + 1) = keptI pd (j + 1)
          rw [keptI_succ, if_neg hpj, ← hqt, List.take_succ_eq_append_getElem (by rw [List.length_set]; omega), List.take_set_of_le (Nat.le_refl _), List.getElem_set_self]
        · show (q.set a j)[m]? = some m
          have hm : j + 1 ≤ m := hm
          rw [List.getElem?_set, if_neg (by omega)]
          exact hqr m (by omega) hm'
      · have hpj : pd j = true := Classical.not_not.1 h7
        refine Cd.skip ?_
        refine blockQ_n ?_
        refine thenQ_n ?_
        refine Cd.region ?_
        refine Ops.mv_int rfl rfl rfl ?_
        refine Ops.add rfl rfl rfl (by omega) ?_
        refine Ops.mv_int rfl rfl rfl ?_
        refine Ops.nil ?_
        refine thenQ_n ?_
        -- stop: round
        exact ⟨(a, j + 1, q), by show n - (j + 1) < n - j; omega, ⟨rfl, rfl, rfl, rfl, trivial⟩, hS5.tail, hql, by show a < j + 1; omega, hj', by show a = (keptI pd (j + 1)).length; rw [keptI_succ, if_pos hpj]; exact hal, by show q.take a = keptI pd (j + 1); rw [keptI_succ, if_pos hpj]; exact hqt, fun m hm hm' => hqr m (by have hm : j + 1 ≤ m := hm; omega) hm'⟩
    · have hje : j = n := by omega
      subst hje
      refine Cd.exit ?_
      refine thenQ_x ?_
      refine thenQ_x ?_
      refine blockQ_x ?_
      refine thenQ_n ?_
      refine Cd.seq ?_
      refine Cd.region ?_
      refine Ops.mv_sl rfl rfl rfl ?_
      refine Ops.mv_int rfl rfl rfl ?_
      -- stop: SLICE 51 t36 some t37 none none -> 38
      refine Ops.cut_l (A := A) (n := j) (c := c) (l := (a : Int)) rfl rfl rfl (by omega) ?_
      skip
      -- stop: BUILTIN clear(t38) -> None
      refine Ops.clr i a hS2 (get _) (show a < j by omega) (by show j - _ = j - a; omega) rfl rfl rfl ?_
      intro w3 hS3
      rw [List.set_set] at hS3
      refine Ops.nil ?_
      refine thenQ_n ?_
      refine Cd.seq ?_
      refine Cd.region ?_
      refine Ops.mv_sl rfl rfl rfl ?_
      refine Ops.mv_int rfl rfl rfl ?_
      -- stop: SLICE 51 t39 none some t40 none -> 41
      refine Ops.cut_h (A := A) (n := j) (c := c) (h := (a : Int)) rfl rfl rfl (by omega) ?_
      refine Ops.mv_sl rfl rfl rfl ?_
      refine Ops.nil ?_
      refine thenQ_n ?_
      refine Cd.ret ?_
      refine ret1_s rfl ?_
      -- stop: end
      rw [← hal]
      refine ⟨rfl, ?_⟩
      rw [← hqt]
      have e9 : ({ CkR t A j c (q.map fun j => ss.getD j slNil) with n := a, vs := (CkR t A j c (q.map fun j => ss.getD j slNil)).vs.take a } : Ck) = CkR t A a c ((q.take a).map fun j => ss.getD j slNil) := by simp [CkR, List.map_take]
      rw [← e9]
      exact hS3
end Go.Proofs.Ytgobjpcankaicaa.Vc
