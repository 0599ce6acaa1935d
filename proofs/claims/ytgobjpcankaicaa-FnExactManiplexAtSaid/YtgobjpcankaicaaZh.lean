/-
  The texts Srt, C3, C4, C5, C6, C7, D6, K3, K4, Rc2, K5, Open, Opm in one. Conditions: as each part states them.
-/
import Derived.Test.YtgobjpcankaicaaLay
import Derived.Shelf.SortM.Plain
import Derived.Test.YtgobjpcankaicaaZe
import Derived.Test.YtgobjpcankaicaaInst
import Derived.Test.YtgobjpcankaicaaZc
import Derived.Test.YtgobjpcankaicaaZb
import Derived.Test.YtgobjpcankaicaaZd
import Derived.Test.YtgobjpcankaicaaZg
import Derived.Test.YtgobjpcankaicaaZa
import Derived.Deep.Matrix
import Derived.Carry
import Derived.Below
import Derived.ChangeSame
import Derived.ProofKit
import Derived.OpenShut
import Derived.Handed
import Derived.Lib.SmallJoins
/-
  The library's sort of a list of one's own. Conditions: the list has an element.
-/
namespace Go.Proofs.Ytgobjpcankaicaa.Vc
open Go.RowKit Go.Sort

theorem heap_srt {w : World} {g n off : Nat} {os : Array Obj} {cur : Array Value} {e : TypeId} {fr : Nat × Nat} (d : Array Int) (hb : w.heap[g]? = some (.cells cur e fr)) :
    (Go.Sort.grow (putRow (Value.int .i64) (Sort.ahead w n) g off d) os).heap[g]? = some (.cells (putCells (Value.int .i64) off d cur) e fr) := by
  have hg : g < w.heap.size := (Array.getElem?_eq_some_iff.1 hb).1
  rw [heap_grow_old _ _ (by simpa using hg)]
  simp [putRow, mapBlock, Sort.ahead, Array.getElem?_modify, hb, onCells]
theorem grownBy_srt {w : World} {g n off : Nat} {os : Array Obj} (d : Array Int) : GrB w (Go.Sort.grow (putRow (Value.int .i64) (Sort.ahead w n) g off d) os) (some g) := by
  refine ⟨⟨rfl, rfl, rfl, by simp, fun k hk hne => ?_⟩, Nat.le_add_right _ _⟩
  rw [heap_grow_old _ _ (by simpa using hk)]
  have : g ≠ k := fun e => hne (by rw [e])
  simp [putRow, mapBlock, Sort.ahead, Array.getElem?_modify, this]

theorem sort_c {w0 w : World} {ks : List Ck} (i : Nat) {t : TypeId} {A : Option Addr} {n c : Nat} {xs : List Int} (hS : St w0 w ks) (hk : ks[i]? = some (CkI t A n c xs)) (h0 : 0 < n) (hn : n ≤ 1000000000) :
    Ret Try.prog 147 [.slice A n c] w (fun v w' => v = .tuple #[] ∧ St w0 w' (ks.set i (CkI t A n c (srt xs)))) := by
  obtain ⟨h1, h2, h3, h4⟩ := hS.getC hk (isM_I _)
  have hl : xs.length = n := hS.lenI i hk
  have h2 : n ≤ c := h2
  rcases h4 with ⟨_, hc0⟩ | ⟨g, o, cur, hA, hg, hh, hs, hc⟩
  · have hc0 : c = 0 := hc0
    omega
  have hA : A = some ⟨g, o, none⟩ := hA
  have hs : o + c ≤ cur.size := hs
  have hc : ∀ j, j < n → cur[o + j]? = (xs.map (Value.int .i64))[j]? := hc
  subst hA
  subst hl
  have hH : Holds (Value.int .i64) w g o xs.toArray := fun j hj => by
    have hj' : j < xs.length := by simpa using hj
    refine ⟨?_, by simp [World.frozen?, hh]⟩
    simp only [World.cell?, hh]
    simp only [Option.isSome_none, Bool.false_eq_true, if_false]
    rw [hc j hj']
    simp [hj']
  have hlt : g < w.heap.size := (Array.getElem?_eq_some_iff.1 hh).1
  have key := AnyM.slices_Sort_int lsort g o c xs w hH hlt (by omega)
  refine Calls.mono key fun x w' ⟨hx, m, os, hw⟩ => ⟨_, hx, rfl, ?_⟩
  subst hw
  have hsl : (srt xs).length = xs.length := (srt_perm xs).length_eq
  refine hS.turn hk rfl rfl (grownBy_srt _) (.ofC (isM_I _) ⟨by simp [hsl], h2, h3, .inr ⟨g, o, _, rfl, hg, heap_srt _ hh, by simp only [putCells, Array.size_mapIdx]; exact hs, fun j hj => ?_⟩⟩)
  have hj : j < xs.length := hj
  show (putCells (Value.int .i64) o (srt xs).toArray cur)[o + j]? = ((srt xs).map (Value.int .i64))[j]?
  have hlt2 : o + j < cur.size := by have : xs.length ≤ c := h2; omega
  simp [putCells, hlt2, hsl, hj]
end Go.Proofs.Ytgobjpcankaicaa.Vc
/-
  The walks of the program's permutations that words do, and of their cycles. Conditions: as each states them.
-/
namespace Go.Proofs.Ytgobjpcankaicaa.Vc
open Go.RowKit

theorem isGraphed_c (A : Option Addr) (n c : Nat) (rs : List SlV) (xss : List (List Int)) (w : World) (hR : RowsI w A n rs xss) (hn : n ≤ c) (hc : c ≤ 9223372036854775807) :
    Ret Try.prog 99 [.agg #[.slice A n c]] w (fun v w' => v = .bool (decide (Grph xss)) ∧ St w w' []) := by
  have hl := hR.len
  refine Ret.of_cd Try.func99 rfl Try.ntmps99 rfl (post1 rfl) ?_
  refine Cd.seq ?_
  refine Cd.region ?_
  -- stop: BOX 24 t0=m -> 1
  refine Ops.box1 (St.refl w) rfl rfl ?_
  intro Ab w1 hS
  refine Ops.mv_bool rfl rfl rfl ?_
  refine Ops.nil ?_
  refine thenQ_n ?_
  refine Cd.seq ?_
  refine Cd.region ?_
  -- stop: FIELDADDR 24 t1=m 0 -> 3
  refine Ops.fld (hS.rd 0 rfl) rfl rfl rfl rfl inferInstance ?_
  refine Ops.ldf_s (hS.rd 0 rfl) rfl rfl rfl rfl rfl ?_
  refine Ops.len rfl rfl ?_
  refine Ops.gtr rfl rfl rfl ?_
  refine Ops.mv_bool rfl rfl rfl ?_
  -- stop: guard 7
  refine Ops.split_p 7 rfl (fun h => ?_) (fun h => ?_)
  · refine Ops.rung rfl rfl rfl ?_
    -- stop: LOAD 24 t1=m -> 8
    refine Ops.ld_agg 0 (hS.rd 0 rfl) rfl rfl rfl ?_
    refine Ops.rung rfl rfl rfl ?_
    -- stop: CALL impl.isManiplex(t8) -> 9
    refine Ops.call (isManiplex_c A n c rs xss _ (hS.oldRows hR) hn hc) rfl rfl rfl ?_
    rintro _ w2 ⟨rfl, hst⟩
    have hS := hS.later hst.below
    refine Ops.pick_t rfl rfl rfl ?_
    refine Ops.mv_bool rfl rfl rfl ?_
    refine Ops.nil ?_
    refine thenQ_n ?_
    refine Cd.ret ?_
    refine ret1_b rfl ?_
    -- stop: end
    exact ⟨by have : 2 ≤ n := by omega
              simp [Grph, hl, this], hS.none⟩
  · refine Ops.skipg rfl rfl rfl rfl rfl ?_
    refine Ops.skipg rfl rfl rfl rfl rfl ?_
    refine Ops.pick_f rfl rfl rfl ?_
    refine Ops.mv_bool rfl rfl rfl ?_
    refine Ops.nil ?_
    refine thenQ_n ?_
    refine Cd.ret ?_
    refine ret1_b rfl ?_
    -- stop: end
    exact ⟨by have : ¬ 2 ≤ n := by omega
              simp [Grph, hl, this], hS.none⟩

def idL (n : Nat) : List Int := (List.range n).map fun x : Nat => (x : Int)
theorem idL_set {n k : Nat} {l : List Int} (hk : k < n) (hl : l.length = n) (h : ∀ j, j < k → l[j]? = some (j : Int)) : ∀ j, j < k + 1 → (l.set k (k : Int))[j]? = some (j : Int) := fun j hj => by
  rw [List.getElem?_set]
  by_cases e : k = j
  · subst e; rw [if_pos rfl, if_pos (by omega)]
  · rw [if_neg e]; exact h j (by omega)
def thenL (p q : List Int) : List Int := p.map fun x => gi q x
end Go.Proofs.Ytgobjpcankaicaa.Vc
/-
  The walks of the program's lengths of a word. Conditions: as each states them.
-/
namespace Go.Proofs.Ytgobjpcankaicaa.Vc
open Go.RowKit

theorem runW_inj {F : Nat} {xss : List (List Int)} (hs : Sys F xss) (hi : Inj F xss) : ∀ (ws : List Int) (x y : Int), (∀ i ∈ ws, 0 ≤ i ∧ i < xss.length) → 0 ≤ x → x < F → 0 ≤ y → y < F → runW xss x ws = runW xss y ws → x = y
  | [], _, _, _, _, _, _, _, h => h
  | i :: ws, x, y, hw, h0, h1, h2, h3, h => by
    have hm := hw i (by simp)
    have gx := (hs _ (gl_in hm.1 hm.2)).2 x h0 h1
    have gy := (hs _ (gl_in hm.1 hm.2)).2 y h2 h3
    exact hi _ (gl_in hm.1 hm.2) x y h0 h1 h2 h3 (runW_inj hs hi ws _ _ (fun j hj => hw j (by simp [hj])) gx.1 gx.2 gy.1 gy.2 h)
theorem does_len (xss : List (List Int)) (F : Nat) (ws : List Int) : (doesL xss F ws).length = F := by simp [doesL]
theorem does_perm {F : Nat} {xss : List (List Int)} (hs : Sys F xss) (hi : Inj F xss) (hF : F ≤ 400) {ws : List Int} (hw : ∀ i ∈ ws, 0 ≤ i ∧ i < xss.length) : IsPerm (doesL xss F ws) := by
  refine ⟨by rw [does_len]; exact hF, fun x hx => ?_, ?_⟩
  · rw [does_len]
    obtain ⟨y, hy, rfl⟩ := List.mem_map.1 hx
    exact runW_lt hs ws _ hw (by omega) (by have := List.mem_range.1 hy; omega)
  · unfold doesL
    rw [List.Nodup, List.pairwise_map]
    refine (List.nodup_range (n := F)).imp_of_mem fun {a b} ha hb hab h => hab ?_
    have ha := List.mem_range.1 ha
    have hb := List.mem_range.1 hb
    have := runW_inj hs hi ws (a : Int) (b : Int) hw (by omega) (by omega) (by omega) (by omega) h
    omega
theorem does_nil (xss : List (List Int)) (F : Nat) : doesL xss F [] = idL F := rfl
theorem does_step {xss : List (List Int)} {F : Nat} {ws : List Int} {k : Nat} (hk : k < ws.length) : thenL (doesL xss F (ws.take k)) (gl xss (gi ws k)) = doesL xss F (ws.take (k + 1)) := by
  unfold thenL doesL
  rw [List.map_map]
  refine List.map_congr_left fun x _ => ?_
  rw [runW_take hk]; rfl

end Go.Proofs.Ytgobjpcankaicaa.Vc
/-
  The walks of the lengths of cycles, and of the Petrie word's lengths on both sides. Conditions: as each states them.
-/
namespace Go.Proofs.Ytgobjpcankaicaa.Vc
open Go.RowKit

theorem cyAll_pos {p : List Int} {n : Nat} (hn : 0 < n) : 0 < (cyAll p n).length := by
  rw [cyAll_eq, cycs_step hn]
  have h : ¬ gb (List.replicate n false) ((0 : Nat) : Int) = true := by simp [gb, List.getD_eq_getElem?_getD, List.getElem?_replicate, hn]
  rw [goC_step (by simpa using hn) h]
  simp

theorem idL_get {n k : Nat} (h : k < n) : gi (idL n) (k : Int) = (k : Int) := by simp [gi, idL, List.getD_eq_getElem?_getD, h]
/-- the lengths of a word of a maniplex -/
def wordL (xss : List (List Int)) (ws : List Int) : List Int := srt (lenAll (doesL xss (gl xss 0).length ws) (gl xss 0).length)
theorem wordL_len (xss : List (List Int)) (ws : List Int) : (wordL xss ws).length = (lenAll (doesL xss (gl xss 0).length ws) (gl xss 0).length).length := (srt_perm _).length_eq
theorem wordL_le {xss : List (List Int)} (ws : List Int) (h : Mani xss) : (wordL xss ws).length ≤ 400 := by
  rw [wordL_len]
  have := lenAll_le (doesL xss (gl xss 0).length ws) (gl xss 0).length
  have := h.2.1
  omega

/-- the answer: a list of numbers in memory of its own, and a code -/
def AnsR (L : List Int) (K : Int) (w : World) (v : Value) (w' : World) : Prop := ∃ A' c', v = .tuple #[.slice A' L.length c', .int .i64 K] ∧ St w w' [CkI 2 A' L.length c' L]
theorem AnsR.none {w w' : World} {ks : List Ck} {K : Int} (h : St w w' ks) : AnsR [] K w (.tuple #[.slice Option.none 0 0, .int .i64 K]) w' := ⟨Option.none, 0, rfl, h.none.nil _⟩
theorem AnsR.word {w w' : World} {ks : List Ck} {A : Option Addr} {c : Nat} {xss : List (List Int)} {ws : List Int} (h : St w w' (CkI 2 A (lenAll (doesL xss (gl xss 0).length ws) (gl xss 0).length).length c (srt (lenAll (doesL xss (gl xss 0).length ws) (gl xss 0).length)) :: ks)) :
    AnsR (wordL xss ws) 0 w (.tuple #[.slice A (lenAll (doesL xss (gl xss 0).length ws) (gl xss 0).length).length c, .int .i64 0]) w' :=
  ⟨A, c, by rw [wordL_len], by rw [wordL_len]; exact h.sub (List.Sublist.cons_cons _ (List.nil_sublist _))⟩

def petrieL (xss : List (List Int)) : List Int := if Grph xss then wordL xss (idL xss.length) else []
def petrieK (xss : List (List Int)) : Int := if Grph xss then 0 else 1

end Go.Proofs.Ytgobjpcankaicaa.Vc
/-
  The walks of the laws' marks, which tell memory apart. Conditions: as each states them.
-/
namespace Go.Proofs.Ytgobjpcankaicaa.Vc
open Go.RowKit

theorem set_id {α : Type} {l : List α} {i : Nat} {x : α} (h : l[i]? = some x) : l.set i x = l := by
  apply List.ext_getElem?
  intro j
  rw [List.getElem?_set]
  split
  · rename_i e; subst e
    rw [if_pos (List.getElem?_eq_some_iff.1 h).1, h]
  · rfl
theorem Rd.one {w : World} {A : Option Addr} {n : Nat} {f : Nat → Value} (h : Rd w A (n + 1) f) : Rd w A 1 (fun _ => f 0) := fun j hj => by
  obtain rfl : j = 0 := by omega
  exact h 0 (by omega)

theorem small_of {n : Nat} {rs : List SlV} (hl : rs.length = n) (h : 0 ≤ szSS (lens rs) 1048576) : n ≤ 1048576 ∧ ∀ i, i < n → (rs.getD i slNil).n ≤ 1048576 := by
  have h1 := szSS_fits (by omega) h
  refine ⟨by have := h1.2.1; simp [lens] at this; omega, fun i hi => ?_⟩
  have := h1.2.2 (rs.getD i slNil).n (by
    simp only [lens, List.mem_map]
    exact ⟨rs[i]'(by omega), List.getElem_mem _, by simp [List.getD_eq_getElem?_getD, List.getElem?_eq_getElem (show i < rs.length by omega)]⟩)
  omega

/-- the marks from k on -/
def marks (k : Int) (n : Nat) : List Int := (List.range n).map fun j : Nat => k + (j : Int)
theorem marks_len (k : Int) (n : Nat) : (marks k n).length = n := by simp [marks]
theorem marks_get {k : Int} {n j : Nat} (h : j < n) : gi (marks k n) (j : Int) = k + j := by simp [gi, marks, List.getD_eq_getElem?_getD, h]

theorem markInt64S_c {w0 w : World} {ks : List Ck} (i : Nat) {t : TypeId} {A : Option Addr} {n c : Nat} {xs : List Int} (k : Int) (hS : St w0 w ks) (hk : ks[i]? = some (CkI t A n c xs)) (hk0 : 0 ≤ k ∧ k + n ≤ 4611686018427387904) :
    Ret Try.prog 26 [.slice A n c, .int .i64 k] w (fun v w' => v = .int .i64 (k + n) ∧ St w0 w' (ks.set i (CkI t A n c (marks k n)))) := by
  have hil : i < ks.length := (List.getElem?_eq_some_iff.1 hk).1
  have hxl : xs.length = n := hS.lenI i hk
  have get : ∀ l, (ks.set i (CkI t A n c l))[i]? = some (CkI t A n c l) := fun l => by simp [hil]
  have hS0 : St w0 w (ks.set i (CkI t A n c xs)) := by rwa [set_id hk]
  refine Ret.of_cd Try.func26 rfl Try.ntmps26 rfl (post1 rfl) ?_
  refine Cd.seq ?_
  refine Cd.region ?_
  refine Ops.mv_int rfl rfl rfl ?_
  refine Ops.nil ?_
  refine thenQ_n ?_
  refine Cd.seq ?_
  refine Cd.seq ?_
  refine Cd.region ?_
  refine Ops.mv_int rfl rfl rfl ?_
  refine Ops.nil ?_
  refine thenQ_n ?_
  refine Cd.block ?_
  -- stop: loop
  refine Cd.loop (α := Nat × List Int) (fun z => [(0, .slice A n c), (1, .int .i64 (k + (z.1 : Int))), (5, .int .i64 (z.1 : Int))]) (fun z w' => St w0 w' (ks.set i (CkI t A n c z.2)) ∧ z.1 ≤ n ∧ z.2.length = n ∧ ∀ j, j < z.1 → z.2[j]? = some (k + (j : Int))) (fun z => n - z.1) (0, xs) ⟨rfl, by show Value.int .i64 _ = .int .i64 _; simp, rfl, trivial⟩ ⟨hS0, Nat.zero_le _, hxl, fun j hj => by omega⟩ ?_
  rintro ⟨m, l⟩ e w1 ⟨hS1, hm, hll, hK⟩
  dsimp only at hS1 hm hll hK ⊢
  refine Cd.seq ?_
  refine Cd.seq ?_
  refine Cd.region ?_
  refine Ops.mv_int rfl rfl rfl ?_
  refine Ops.mv_sl rfl rfl rfl ?_
  refine Ops.len rfl rfl ?_
  refine Ops.lss rfl rfl rfl ?_
  refine Ops.nil ?_
  refine thenQ_n ?_
  -- stop: cond
  refine Cd.cond_p _ rfl (fun h1 => ?_) (fun h1 => ?_)
  · refine Cd.skip ?_
    refine thenQ_n ?_
    refine Cd.seq ?_
    refine Cd.block ?_
    refine Cd.seq ?_
    refine Cd.region ?_
    refine Ops.mv_sl rfl rfl rfl ?_
    refine Ops.mv_int rfl rfl rfl ?_
    refine Ops.mv_int rfl rfl rfl ?_
    -- stop: INDEXADDR 33 t12 t13 -> 15
    refine Ops.idx (hS1.rdI i (get l)).2 rfl rfl rfl (by omega) (by omega) ?_
    refine Ops.st_int i hS1 (get l) rfl rfl (by omega) ?_
    intro w2 hS2
    rw [List.set_set] at hS2
    refine Ops.nil ?_
    refine thenQ_n ?_
    refine Cd.region ?_
    refine Ops.mv_int rfl rfl rfl ?_
    refine Ops.add rfl rfl rfl (by omega) ?_
    refine Ops.mv_int rfl rfl rfl ?_
    refine Ops.nil ?_
    refine blockQ_n ?_
    refine thenQ_n ?_
    refine Cd.region ?_
    refine Ops.mv_int rfl rfl rfl ?_
    refine Ops.add rfl rfl rfl (by omega) ?_
    refine Ops.mv_int rfl rfl rfl ?_
    refine Ops.nil ?_
    refine thenQ_n ?_
    -- stop: round
    refine ⟨(m + 1, l.set m (k + m)), by show n - (m + 1) < n - m; omega, ⟨rfl, by show Value.int .i64 _ = .int .i64 _; congr 1; show _ = k + ((m + 1 : Nat) : Int); omega, rfl, trivial⟩, hS2, by show m + 1 ≤ n; omega, by show (l.set m _).length = n; rw [List.length_set]; exact hll, fun j hj => ?_⟩
    show (l.set m (k + m))[j]? = _
    rw [List.getElem?_set]
    by_cases ej : m = j
    · subst ej; rw [if_pos rfl, if_pos (by omega)]
    · rw [if_neg ej]; exact hK j (by have : j < m + 1 := hj; omega)
  · refine Cd.exit ?_
    refine thenQ_x ?_
    refine thenQ_x ?_
    refine blockQ_x ?_
    refine thenQ_n ?_
    refine Cd.seq ?_
    refine Cd.region ?_
    refine Ops.mv_int rfl rfl rfl ?_
    refine Ops.mv_int rfl rfl rfl ?_
    refine Ops.nil ?_
    refine thenQ_n ?_
    refine Cd.ret ?_
    refine ret1_i rfl ?_
    -- stop: end
    have hmn : m = n := by omega
    subst hmn
    have he : l = marks k m := by
      apply List.ext_getElem?
      intro j
      by_cases hj : j < m
      · rw [hK j hj]; simp [marks, hj]
      · rw [List.getElem?_eq_none (by omega), List.getElem?_eq_none (by rw [marks_len]; omega)]
    subst he
    exact ⟨rfl, hS1⟩

theorem heldInt64S_c (A : Option Addr) (n c : Nat) (k : Int) (w : World) (hR : RdI w A n (marks k n)) (hk0 : 0 ≤ k ∧ k + n ≤ 4611686018427387904) :
    Ret Try.prog 27 [.slice A n c, .int .i64 k] w (fun v w' => v = .int .i64 (k + n) ∧ w' = w) := by
  refine Ret.of_cd Try.func27 rfl Try.ntmps27 rfl (post1 rfl) ?_
  refine Cd.seq ?_
  refine Cd.region ?_
  refine Ops.mv_int rfl rfl rfl ?_
  refine Ops.nil ?_
  refine thenQ_n ?_
  refine Cd.seq ?_
  refine Cd.seq ?_
  refine Cd.region ?_
  refine Ops.mv_int rfl rfl rfl ?_
  refine Ops.nil ?_
  refine thenQ_n ?_
  refine Cd.block ?_
  -- stop: loop
  refine Cd.loop (α := Nat) (fun z => [(0, .slice A n c), (1, .int .i64 (k + (z : Int))), (5, .int .i64 (z : Int))]) (fun z w' => w' = w ∧ z ≤ n) (fun z => n - z) 0 ⟨rfl, by show Value.int .i64 _ = .int .i64 _; simp, rfl, trivial⟩ ⟨rfl, Nat.zero_le _⟩ ?_
  rintro m e w ⟨rfl, hm⟩
  refine Cd.seq ?_
  refine Cd.seq ?_
  refine Cd.region ?_
  refine Ops.mv_int rfl rfl rfl ?_
  refine Ops.mv_sl rfl rfl rfl ?_
  refine Ops.len rfl rfl ?_
  refine Ops.lss rfl rfl rfl ?_
  refine Ops.nil ?_
  refine thenQ_n ?_
  -- stop: cond
  refine Cd.cond_p _ rfl (fun h1 => ?_) (fun h1 => ?_)
  · have hg := marks_get (k := k) (n := n) (j := m) (by omega)
    refine Cd.skip ?_
    refine thenQ_n ?_
    refine Cd.seq ?_
    refine Cd.block ?_
    refine Cd.seq ?_
    refine Cd.seq ?_
    refine Cd.region ?_
    refine Ops.mv_sl rfl rfl rfl ?_
    refine Ops.mv_int rfl rfl rfl ?_
    -- stop: INDEXADDR 33 t12 t13 -> 14
    refine Ops.idx hR.2 rfl rfl rfl (by omega) (by omega) ?_
    refine Ops.ld_int hR rfl (by omega) rfl rfl ?_
    rw [hg]
    refine Ops.mv_int rfl rfl rfl ?_
    refine Ops.neq rfl rfl rfl ?_
    refine Ops.nil ?_
    refine thenQ_n ?_
    -- stop: cond
    refine Cd.cond_pf rfl (fun h => h rfl) ?_
    refine Cd.skip ?_
    refine thenQ_n ?_
    refine Cd.region ?_
    refine Ops.mv_int rfl rfl rfl ?_
    refine Ops.add rfl rfl rfl (by omega) ?_
    refine Ops.mv_int rfl rfl rfl ?_
    refine Ops.nil ?_
    refine blockQ_n ?_
    refine thenQ_n ?_
    refine Cd.region ?_
    refine Ops.mv_int rfl rfl rfl ?_
    refine Ops.add rfl rfl rfl (by omega) ?_
    refine Ops.mv_int rfl rfl rfl ?_
    refine Ops.nil ?_
    refine thenQ_n ?_
    -- stop: round
    exact ⟨m + 1, by show n - (m + 1) < n - m; omega, ⟨rfl, by show Value.int .i64 _ = .int .i64 _; congr 1; show _ = k + ((m + 1 : Nat) : Int); omega, rfl, trivial⟩, rfl, by show m + 1 ≤ n; omega⟩
  · refine Cd.exit ?_
    refine thenQ_x ?_
    refine thenQ_x ?_
    refine blockQ_x ?_
    refine thenQ_n ?_
    refine Cd.seq ?_
    refine Cd.region ?_
    refine Ops.mv_int rfl rfl rfl ?_
    refine Ops.mv_int rfl rfl rfl ?_
    refine Ops.nil ?_
    refine thenQ_n ?_
    refine Cd.ret ?_
    refine ret1_i rfl ?_
    -- stop: end
    have hmn : m = n := by omega
    subst hmn
    exact ⟨rfl, rfl⟩

theorem markInt64SS_c {w0 w : World} {pre post : List Ck} {t1 t2 : TypeId} {A : Option Addr} {n c : Nat} {rs : List SlV} {xss : List (List Int)} (k : Int) (hS : St w0 w (pre ++ (mat t1 t2 A n c rs xss ++ post))) (hrl : rs.length = n) (hxl : xss.length = n) (hn : n ≤ 1048576) (hr : ∀ i, i < n → (rs.getD i slNil).n ≤ 1048576) (hk0 : 0 ≤ k ∧ k ≤ 1048576) :
    Ret Try.prog 63 [.slice A n c, .int .i64 k] w (fun v w' => ∃ (K : Int) (xss' : List (List Int)), v = .int .i64 K ∧ (0 ≤ K ∧ K ≤ 2199023255552) ∧ xss'.length = n ∧ St w0 w' (pre ++ (mat t1 t2 A n c rs xss' ++ post))) := by
  refine Ret.of_cd Try.func63 rfl Try.ntmps63 rfl (post1 rfl) ?_
  refine Cd.seq ?_
  refine Cd.region ?_
  refine Ops.mv_int rfl rfl rfl ?_
  refine Ops.nil ?_
  refine thenQ_n ?_
  refine Cd.seq ?_
  refine Cd.seq ?_
  refine Cd.region ?_
  refine Ops.mv_int rfl rfl rfl ?_
  refine Ops.nil ?_
  refine thenQ_n ?_
  refine Cd.block ?_
  -- stop: loop
  refine Cd.loop (α := Nat × Int × List (List Int)) (fun z => [(0, .slice A n c), (1, .int .i64 z.2.1), (5, .int .i64 (z.1 : Int))]) (fun z w' => St w0 w' (pre ++ (mat t1 t2 A n c rs z.2.2 ++ post)) ∧ z.1 ≤ n ∧ z.2.2.length = n ∧ 0 ≤ z.2.1 ∧ z.2.1 ≤ 1048576 + (z.1 : Int) * 1048576) (fun z => n - z.1) (0, k, xss) ⟨rfl, rfl, rfl, trivial⟩ ⟨hS, Nat.zero_le _, hxl, hk0.1, by simp; exact hk0.2⟩ ?_
  rintro ⟨i, K, ys⟩ e w1 ⟨hS1, hi, hyl, hK0, hK1⟩
  dsimp only at hS1 hi hyl hK0 hK1 ⊢
  have hM := (hS1.sub (List.sublist_append_right _ _)).rowsI hyl
  refine Cd.seq ?_
  refine Cd.seq ?_
  refine Cd.region ?_
  refine Ops.mv_int rfl rfl rfl ?_
  refine Ops.mv_sl rfl rfl rfl ?_
  refine Ops.len rfl rfl ?_
  refine Ops.lss rfl rfl rfl ?_
  refine Ops.nil ?_
  refine thenQ_n ?_
  -- stop: cond
  refine Cd.cond_p _ rfl (fun h1 => ?_) (fun h1 => ?_)
  · have hi' : i < n := by omega
    have hri := hr i hi'
    have hget := mat_get (t1 := t1) (t2 := t2) (A := A) (n := n) (c := c) (rs := rs) (xss := ys) (pre := pre) (ks := post) (i := i) (by omega) (by omega)
    have hset := fun l => mat_set (t1 := t1) (t2 := t2) (A := A) (n := n) (c := c) (rs := rs) (xss := ys) (pre := pre) (ks := post) (i := i) (xs := l) (by omega) (by omega)
    refine Cd.skip ?_
    refine thenQ_n ?_
    refine Cd.seq ?_
    refine Cd.block ?_
    refine Cd.region ?_
    refine Ops.mv_sl rfl rfl rfl ?_
    refine Ops.mv_int rfl rfl rfl ?_
    -- stop: INDEXADDR 22 t12 t13 -> 14
    refine Ops.idx hM.top.2 rfl rfl rfl (by omega) h1 ?_
    refine Ops.ld_sl hM.top rfl (by omega) rfl rfl ?_
    refine Ops.mv_int rfl rfl rfl ?_
    -- stop: CALL laws.markInt64S(t15, t16) -> 17
    refine Ops.call (markInt64S_c (pre.length + 1 + i) K hS1 hget ⟨hK0, by omega⟩) rfl rfl rfl ?_
    rintro _ w2 ⟨rfl, hS2⟩
    rw [hset] at hS2
    refine Ops.mv_int rfl rfl rfl ?_
    refine Ops.nil ?_
    refine blockQ_n ?_
    refine thenQ_n ?_
    refine Cd.region ?_
    refine Ops.mv_int rfl rfl rfl ?_
    refine Ops.add rfl rfl rfl (by omega) ?_
    refine Ops.mv_int rfl rfl rfl ?_
    refine Ops.nil ?_
    refine thenQ_n ?_
    -- stop: round
    exact ⟨(i + 1, K + ((rs.getD i slNil).n : Int), ys.set i (marks K (rs.getD i slNil).n)), by show n - (i + 1) < n - i; omega, ⟨rfl, rfl, rfl, trivial⟩, hS2, by show i + 1 ≤ n; omega, by show (ys.set i _).length = n; rw [List.length_set]; exact hyl, by show 0 ≤ K + _; omega, by show K + _ ≤ 1048576 + ((i + 1 : Nat) : Int) * 1048576; omega⟩
  · refine Cd.exit ?_
    refine thenQ_x ?_
    refine thenQ_x ?_
    refine blockQ_x ?_
    refine thenQ_n ?_
    refine Cd.seq ?_
    refine Cd.region ?_
    refine Ops.mv_int rfl rfl rfl ?_
    refine Ops.mv_int rfl rfl rfl ?_
    refine Ops.nil ?_
    refine thenQ_n ?_
    refine Cd.ret ?_
    refine ret1_i rfl ?_
    -- stop: end
    exact ⟨K, ys, rfl, ⟨hK0, by omega⟩, hyl, hS1⟩

theorem markManiplex_c {w0 w : World} {pre post : List Ck} {t1 t2 : TypeId} {A : Option Addr} {n c : Nat} {rs : List SlV} {xss : List (List Int)} (k : Int) (hS : St w0 w (pre ++ (mat t1 t2 A n c rs xss ++ post))) (hrl : rs.length = n) (hxl : xss.length = n) (hn : n ≤ 1048576) (hr : ∀ i, i < n → (rs.getD i slNil).n ≤ 1048576) (hk0 : 0 ≤ k ∧ k ≤ 1048576) :
    Ret Try.prog 25 [.agg #[.slice A n c], .int .i64 k] w (fun v w' => ∃ (K : Int) (xss' : List (List Int)), v = .int .i64 K ∧ (0 ≤ K ∧ K ≤ 2199023255552) ∧ xss'.length = n ∧ St w0 w' (pre ++ (mat t1 t2 A n c rs xss' ++ post))) := by
  refine Ret.of_cd Try.func25 rfl Try.ntmps25 rfl (post1 rfl) ?_
  refine Cd.seq ?_
  refine Cd.region ?_
  -- stop: BOX 24 t0=a -> 2
  refine Ops.box1 hS rfl rfl ?_
  intro Ab w1 hS1
  refine Ops.mv_int rfl rfl rfl ?_
  refine Ops.nil ?_
  refine thenQ_n ?_
  refine Cd.seq ?_
  refine Cd.region ?_
  -- stop: FIELDADDR 24 t2=a 0 -> 5
  refine Ops.fld (hS1.rd 0 rfl) rfl rfl rfl rfl inferInstance ?_
  refine Ops.ldf_s (hS1.rd 0 rfl) rfl rfl rfl rfl rfl ?_
  refine Ops.mv_int rfl rfl rfl ?_
  -- stop: CALL laws.markInt64SS(t6, t7) -> 8
  refine Ops.call (markInt64SS_c (pre := Bx 24 1 Ab [.slice A n c] :: pre) (post := post) (rs := rs) k hS1 hrl hxl hn hr hk0) rfl rfl rfl ?_
  rintro _ w2 ⟨K, ys, rfl, hK, hyl, hS2⟩
  refine Ops.mv_int rfl rfl rfl ?_
  refine Ops.nil ?_
  refine thenQ_n ?_
  refine Cd.seq ?_
  refine Cd.region ?_
  refine Ops.mv_int rfl rfl rfl ?_
  refine Ops.mv_int rfl rfl rfl ?_
  refine Ops.nil ?_
  refine thenQ_n ?_
  refine Cd.ret ?_
  refine ret1_i rfl ?_
  -- stop: end
  exact ⟨K, ys, rfl, hK, hyl, St.tail hS2⟩
end Go.Proofs.Ytgobjpcankaicaa.Vc
/-
  The walk of the law FnExactPetrieCycles: it returns true. Conditions: as it states them.
-/
namespace Go.Proofs.Ytgobjpcankaicaa.Vc
open Go.RowKit

theorem St.matNil {w0 w : World} {t1 t2 : TypeId} {A : Option Addr} {n c : Nat} {rs : List SlV} {xss : List (List Int)} {pre : List Ck} (h : St w0 w (pre ++ mat t1 t2 A n c rs xss)) : St w0 w (pre ++ (mat t1 t2 A n c rs xss ++ [])) := by rwa [List.append_nil]

end Go.Proofs.Ytgobjpcankaicaa.Vc
/-
  The laws' marks over lists of lists, told exactly. Conditions: as each states them.
-/
namespace Go.Proofs.Ytgobjpcankaicaa.Vc
open Go.RowKit

def tot (xss : List (List Int)) : Int := ((xss.map List.length).sum : Nat)
theorem tot_snoc (xs : List (List Int)) (x : List Int) : tot (xs ++ [x]) = tot xs + x.length := by simp [tot]
theorem tot_le {b : Nat} : ∀ (xs : List (List Int)), (∀ x ∈ xs, x.length ≤ b) → 0 ≤ tot xs ∧ tot xs ≤ (xs.length * b : Nat)
  | [], _ => by simp [tot]
  | x :: xs, h => by
    have h1 := tot_le xs (fun y hy => h y (by simp [hy]))
    have h2 := h x (by simp)
    have e : tot (x :: xs) = x.length + tot xs := by simp [tot]
    rw [e, List.length_cons, Nat.succ_mul]
    omega
def mkSS (k : Int) : List (List Int) → List (List Int)
  | [] => []
  | x :: xs => marks k x.length :: mkSS (k + x.length) xs
theorem mkSS_len : ∀ (xs : List (List Int)) (k : Int), (mkSS k xs).length = xs.length
  | [], _ => rfl
  | _ :: xs, k => by simp [mkSS, mkSS_len xs]
theorem mkSS_snoc (x : List Int) : ∀ (xs : List (List Int)) (k : Int), mkSS k (xs ++ [x]) = mkSS k xs ++ [marks (k + tot xs) x.length]
  | [], k => by simp [mkSS, tot]
  | y :: xs, k => by
    have e : tot (y :: xs) = y.length + tot xs := by simp [tot]
    simp only [List.cons_append, mkSS]
    rw [mkSS_snoc x xs, e, Int.add_assoc]
theorem mkSS_get {xs : List (List Int)} {k : Int} {i : Nat} (hi : i < xs.length) : (mkSS k xs)[i]? = some (marks (k + tot (xs.take i)) xs[i].length) := by
  have h1 : xs = (xs.take i ++ [xs[i]]) ++ xs.drop (i + 1) := by rw [← List.take_succ_eq_append_getElem hi, List.take_append_drop]
  have gen : ∀ (a b : List (List Int)) (k : Int), ∃ r, mkSS k (a ++ b) = mkSS k a ++ r := by
    intro a
    induction a with
    | nil => intro b k; exact ⟨_, rfl⟩
    | cons y a ih =>
      intro b k
      obtain ⟨r, hr⟩ := ih b (k + y.length)
      exact ⟨r, by simp only [List.cons_append, mkSS]; rw [hr]⟩
  obtain ⟨r, hr⟩ := gen (xs.take i ++ [xs[i]]) (xs.drop (i + 1)) k
  rw [← h1, mkSS_snoc] at hr
  have h2 : (mkSS k (xs.take i)).length = i := by rw [mkSS_len]; simp; omega
  rw [hr, List.append_assoc, List.getElem?_append_right (by omega), h2]
  simp
def mixM (k : Int) (xs : List (List Int)) (i : Nat) : List (List Int) := mkSS k (xs.take i) ++ xs.drop i
theorem mixM_len (k : Int) (xs : List (List Int)) (i : Nat) : (mixM k xs i).length = xs.length := by simp [mixM, mkSS_len]; omega
theorem mixM_get {k : Int} {xs : List (List Int)} {i : Nat} (h : i < xs.length) : (mixM k xs i).getD i [] = xs[i] := by
  have h2 : (mkSS k (xs.take i)).length = i := by rw [mkSS_len]; simp; omega
  rw [mixM, List.getD_eq_getElem?_getD, List.getElem?_append_right (by omega), h2]
  simp [h]
theorem mixM_step {k : Int} {xs : List (List Int)} {i : Nat} (h : i < xs.length) : (mixM k xs i).set i (marks (k + tot (xs.take i)) xs[i].length) = mixM k xs (i + 1) := by
  have h2 : (mkSS k (xs.take i)).length = i := by rw [mkSS_len]; simp; omega
  unfold mixM
  rw [List.set_append_right _ _ (by omega), h2, Nat.sub_self, List.take_succ_eq_append_getElem h, mkSS_snoc, List.append_assoc, List.drop_eq_getElem_cons h]
  rfl

theorem markSS_c {w0 w : World} {pre post : List Ck} {t1 t2 : TypeId} {A : Option Addr} {n c : Nat} {rs : List SlV} {xss : List (List Int)} (k : Int) (hS : St w0 w (pre ++ (mat t1 t2 A n c rs xss ++ post))) (hrl : rs.length = n) (hxl : xss.length = n) (hn : n ≤ 1000) (hr : ∀ x ∈ xss, x.length ≤ 1000) (hk0 : 0 ≤ k ∧ k ≤ 1000000000000000) :
    Ret Try.prog 63 [.slice A n c, .int .i64 k] w (fun v w' => v = .int .i64 (k + tot xss) ∧ St w0 w' (pre ++ (mat t1 t2 A n c rs (mkSS k xss) ++ post))) := by
  refine Ret.of_cd Try.func63 rfl Try.ntmps63 rfl (post1 rfl) ?_
  refine Cd.seq ?_
  refine Cd.region ?_
  refine Ops.mv_int rfl rfl rfl ?_
  refine Ops.nil ?_
  refine thenQ_n ?_
  refine Cd.seq ?_
  refine Cd.seq ?_
  refine Cd.region ?_
  refine Ops.mv_int rfl rfl rfl ?_
  refine Ops.nil ?_
  refine thenQ_n ?_
  refine Cd.block ?_
  -- stop: loop
  refine Cd.loop (α := Nat) (fun i => [(0, .slice A n c), (1, .int .i64 (k + tot (xss.take i))), (5, .int .i64 (i : Int))]) (fun i w' => St w0 w' (pre ++ (mat t1 t2 A n c rs (mixM k xss i) ++ post)) ∧ i ≤ n) (fun i => n - i) 0 ⟨rfl, by show Value.int .i64 _ = .int .i64 _; simp [tot], rfl, trivial⟩ ⟨by simpa [mixM, mkSS] using hS, Nat.zero_le _⟩ ?_
  rintro i e w1 ⟨hS1, hi⟩
  have hyl := mixM_len k xss i
  have hM := (hS1.sub (List.sublist_append_right _ _)).rowsI (by omega)
  have htb := tot_le (b := 1000) (xss.take i) (fun x hx => hr x (List.mem_of_mem_take hx))
  have htl : (xss.take i).length ≤ 1000 := by simp; omega
  have htm : (xss.take i).length * 1000 ≤ 1000 * 1000 := Nat.mul_le_mul_right 1000 htl
  refine Cd.seq ?_
  refine Cd.seq ?_
  refine Cd.region ?_
  refine Ops.mv_int rfl rfl rfl ?_
  refine Ops.mv_sl rfl rfl rfl ?_
  refine Ops.len rfl rfl ?_
  refine Ops.lss rfl rfl rfl ?_
  refine Ops.nil ?_
  refine thenQ_n ?_
  -- stop: cond
  refine Cd.cond_p _ rfl (fun h1 => ?_) (fun h1 => ?_)
  · have hi' : i < xss.length := by omega
    have hget := mat_get (t1 := t1) (t2 := t2) (A := A) (n := n) (c := c) (rs := rs) (xss := mixM k xss i) (pre := pre) (ks := post) (i := i) (by omega) (by omega)
    have hset := fun l => mat_set (t1 := t1) (t2 := t2) (A := A) (n := n) (c := c) (rs := rs) (xss := mixM k xss i) (pre := pre) (ks := post) (i := i) (xs := l) (by omega) (by omega)
    rw [mixM_get hi'] at hget
    have hln := hS1.lenI _ hget
    have hxi := hr xss[i] (List.getElem_mem hi')
    have hst := mixM_step (k := k) hi'
    have htot : tot (xss.take (i + 1)) = tot (xss.take i) + xss[i].length := by rw [List.take_succ_eq_append_getElem hi', tot_snoc]
    refine Cd.skip ?_
    refine thenQ_n ?_
    refine Cd.seq ?_
    refine Cd.block ?_
    refine Cd.region ?_
    refine Ops.mv_sl rfl rfl rfl ?_
    refine Ops.mv_int rfl rfl rfl ?_
    -- stop: INDEXADDR 22 t12 t13 -> 14
    refine Ops.idx hM.top.2 rfl rfl rfl (by omega) h1 ?_
    refine Ops.ld_sl hM.top rfl (by omega) rfl rfl ?_
    refine Ops.mv_int rfl rfl rfl ?_
    -- stop: CALL laws.markInt64S(t15, t16) -> 17
    refine Ops.call (markInt64S_c (pre.length + 1 + i) (k + tot (xss.take i)) hS1 hget ⟨by omega, by omega⟩) rfl rfl rfl ?_
    rintro _ w2 ⟨rfl, hS2⟩
    rw [hset, ← hln, hst] at hS2
    refine Ops.mv_int rfl rfl rfl ?_
    refine Ops.nil ?_
    refine blockQ_n ?_
    refine thenQ_n ?_
    refine Cd.region ?_
    refine Ops.mv_int rfl rfl rfl ?_
    refine Ops.add rfl rfl rfl (by omega) ?_
    refine Ops.mv_int rfl rfl rfl ?_
    refine Ops.nil ?_
    refine thenQ_n ?_
    -- stop: round
    exact ⟨i + 1, by show n - (i + 1) < n - i; omega, ⟨rfl, by show Value.int .i64 _ = .int .i64 _; rw [htot, ← Int.add_assoc, hln], rfl, trivial⟩, hS2, by omega⟩
  · refine Cd.exit ?_
    refine thenQ_x ?_
    refine thenQ_x ?_
    refine blockQ_x ?_
    refine thenQ_n ?_
    refine Cd.seq ?_
    refine Cd.region ?_
    refine Ops.mv_int rfl rfl rfl ?_
    refine Ops.mv_int rfl rfl rfl ?_
    refine Ops.nil ?_
    refine thenQ_n ?_
    refine Cd.ret ?_
    refine ret1_i rfl ?_
    -- stop: end
    have hin : i = n := by omega
    subst hin
    have e1 : xss.take i = xss := List.take_of_length_le (by omega)
    have e2 : mixM k xss i = mkSS k xss := by rw [mixM, e1, List.drop_of_length_le (by omega), List.append_nil]
    rw [e1]
    rw [e2] at hS1
    exact ⟨rfl, hS1⟩

theorem heldSS_c (A : Option Addr) (n c : Nat) (rs : List SlV) (xss : List (List Int)) (k : Int) (w : World) (hR : RowsI w A n rs (mkSS k xss)) (hn : n ≤ 1000) (hr : ∀ x ∈ xss, x.length ≤ 1000) (hk0 : 0 ≤ k ∧ k ≤ 1000000000000000) :
    Ret Try.prog 73 [.slice A n c, .int .i64 k] w (fun v w' => v = .int .i64 (k + tot xss) ∧ w' = w) := by
  have hxl : xss.length = n := by rw [← mkSS_len xss k]; exact hR.len
  refine Ret.of_cd Try.func73 rfl Try.ntmps73 rfl (post1 rfl) ?_
  refine Cd.seq ?_
  refine Cd.region ?_
  refine Ops.mv_int rfl rfl rfl ?_
  refine Ops.nil ?_
  refine thenQ_n ?_
  refine Cd.seq ?_
  refine Cd.seq ?_
  refine Cd.region ?_
  refine Ops.mv_int rfl rfl rfl ?_
  refine Ops.nil ?_
  refine thenQ_n ?_
  refine Cd.block ?_
  -- stop: loop
  refine Cd.loop (α := Nat) (fun i => [(0, .slice A n c), (1, .int .i64 (k + tot (xss.take i))), (5, .int .i64 (i : Int))]) (fun i w' => w' = w ∧ i ≤ n) (fun i => n - i) 0 ⟨rfl, by show Value.int .i64 _ = .int .i64 _; simp [tot], rfl, trivial⟩ ⟨rfl, Nat.zero_le _⟩ ?_
  rintro i e w ⟨rfl, hi⟩
  have htb := tot_le (b := 1000) (xss.take i) (fun x hx => hr x (List.mem_of_mem_take hx))
  have htl : (xss.take i).length ≤ 1000 := by simp; omega
  have htm : (xss.take i).length * 1000 ≤ 1000 * 1000 := Nat.mul_le_mul_right 1000 htl
  refine Cd.seq ?_
  refine Cd.seq ?_
  refine Cd.region ?_
  refine Ops.mv_int rfl rfl rfl ?_
  refine Ops.mv_sl rfl rfl rfl ?_
  refine Ops.len rfl rfl ?_
  refine Ops.lss rfl rfl rfl ?_
  refine Ops.nil ?_
  refine thenQ_n ?_
  -- stop: cond
  refine Cd.cond_p _ rfl (fun h1 => ?_) (fun h1 => ?_)
  · have hi' : i < xss.length := by omega
    have hxi := hr xss[i] (List.getElem_mem hi')
    have htot : tot (xss.take (i + 1)) = tot (xss.take i) + xss[i].length := by rw [List.take_succ_eq_append_getElem hi', tot_snoc]
    have hrow := hR.at_ (i := (i : Int)) (by omega) h1
    have hg : gl (mkSS k xss) (i : Int) = marks (k + tot (xss.take i)) xss[i].length := by
      simp only [gl, Int.toNat_natCast, List.getD_eq_getElem?_getD, mkSS_get hi', Option.getD_some]
    rw [hg] at hrow
    have hln := hrow.1
    rw [marks_len] at hln
    rw [hln] at hrow
    refine Cd.skip ?_
    refine thenQ_n ?_
    refine Cd.seq ?_
    refine Cd.block ?_
    refine Cd.seq ?_
    refine Cd.region ?_
    refine Ops.mv_sl rfl rfl rfl ?_
    refine Ops.mv_int rfl rfl rfl ?_
    -- stop: INDEXADDR 22 t12 t13 -> 14
    refine Ops.idx hR.top.2 rfl rfl rfl (by omega) h1 ?_
    refine Ops.ld_sl hR.top rfl (by omega) rfl rfl ?_
    refine Ops.mv_int rfl rfl rfl ?_
    -- stop: CALL laws.heldInt64S(t15, t16) -> 17
    refine Ops.call (heldInt64S_c (rg rs (i : Int)).a (rg rs (i : Int)).n (rg rs (i : Int)).c (k + tot (xss.take i)) _ hrow ⟨by omega, by omega⟩) rfl rfl rfl ?_
    rintro _ w ⟨rfl, rfl⟩
    refine Ops.mv_int rfl rfl rfl ?_
    refine Ops.nil ?_
    refine thenQ_n ?_
    refine Cd.seq ?_
    refine Cd.region ?_
    refine Ops.mv_int rfl rfl rfl ?_
    refine Ops.lss rfl rfl rfl ?_
    refine Ops.nil ?_
    refine thenQ_n ?_
    -- stop: cond
    refine Cd.cond_pf rfl (by omega) ?_
    refine Cd.skip ?_
    refine blockQ_n ?_
    refine thenQ_n ?_
    refine Cd.region ?_
    refine Ops.mv_int rfl rfl rfl ?_
    refine Ops.add rfl rfl rfl (by omega) ?_
    refine Ops.mv_int rfl rfl rfl ?_
    refine Ops.nil ?_
    refine thenQ_n ?_
    -- stop: round
    exact ⟨i + 1, by show n - (i + 1) < n - i; omega, ⟨rfl, by show Value.int .i64 _ = .int .i64 _; rw [htot, ← Int.add_assoc, hln], rfl, trivial⟩, rfl, by omega⟩
  · refine Cd.exit ?_
    refine thenQ_x ?_
    refine thenQ_x ?_
    refine blockQ_x ?_
    refine thenQ_n ?_
    refine Cd.seq ?_
    refine Cd.region ?_
    refine Ops.mv_int rfl rfl rfl ?_
    refine Ops.mv_int rfl rfl rfl ?_
    refine Ops.nil ?_
    refine thenQ_n ?_
    refine Cd.ret ?_
    refine ret1_i rfl ?_
    -- stop: end
    have hin : i = n := by omega
    subst hin
    rw [List.take_of_length_le (by omega)]
    exact ⟨rfl, rfl⟩
end Go.Proofs.Ytgobjpcankaicaa.Vc
/-
  Lists of maniplexes compared, marked and found marked; and the answers of CountManiplexes, AllManiplexes and ManiplexAt on both sides. Conditions: as each states them.
-/
namespace Go.Proofs.Ytgobjpcankaicaa.Vc
open Go.RowKit

/-- a list of matrices, read -/
structure MsR (w : World) (A : Option Addr) (ms : List MatV) : Prop where
  top : RdR w A ms.length (ms.map (·.top))
  row : ∀ m ∈ ms, RowsI w m.top.a m.top.n m.rs m.xss
theorem MsR.later {w w' : World} {A : Option Addr} {ms : List MatV} (h : MsR w A ms) (hb : Below w.heap.size w w') : MsR w' A ms := ⟨h.top.later hb, fun m hm => (h.row m hm).later hb⟩
theorem St.msR {w0 w : World} {A : Option Addr} {c : Nat} {ms : List MatV} {ks : List Ck} (h : St w0 w ks) (hok : ∀ m ∈ ms, m.ok) (hs : (CkR 24 A ms.length c (ms.map (·.top)) :: matsCk 33 2 ms).Sublist ks) : MsR w A ms :=
  ⟨(h.sub hs).rdR 0 rfl, fun m hm => h.matAt (c := m.top.c) (t1 := 33) (t2 := 2) (((MatV.sub_ hm).trans (List.sublist_cons_self _ _)).trans hs) (hok m hm)⟩
theorem MsR.at_ {w : World} {A : Option Addr} {ms : List MatV} (h : MsR w A ms) {i : Nat} (hi : i < ms.length) : RowsI w (rg (ms.map (·.top)) (i : Int)).a (rg (ms.map (·.top)) (i : Int)).n (ms[i]).rs (ms[i]).xss := by
  rw [top_at hi]; exact h.row _ (List.getElem_mem hi)

theorem eqManiplexS_c (A : Option Addr) (c : Nat) (ms : List MatV) (A' : Option Addr) (c' : Nat) (ns : List MatV) (w : World) (hR : MsR w A ms) (hR' : MsR w A' ns) (hn : ms.length ≤ 9223372036854775807) (hcap : ∀ m ∈ ms, m.top.n ≤ 9223372036854775807) :
    Ret Try.prog 39 [.slice A ms.length c, .slice A' ns.length c'] w (fun v w' => v = .bool (decide (ms.map (·.xss) = ns.map (·.xss))) ∧ St w w' []) := by
  refine Ret.of_cd Try.func39 rfl Try.ntmps39 rfl (post1 rfl) ?_
  refine Cd.seq ?_
  refine Cd.region ?_
  refine Ops.mv_bool rfl rfl rfl ?_
  refine Ops.nil ?_
  refine thenQ_n ?_
  refine Cd.seq ?_
  refine Cd.seq ?_
  refine Cd.region ?_
  refine Ops.mv_sl rfl rfl rfl ?_
  refine Ops.len rfl rfl ?_
  refine Ops.mv_sl rfl rfl rfl ?_
  refine Ops.len rfl rfl ?_
  refine Ops.neq rfl rfl rfl ?_
  refine Ops.nil ?_
  refine thenQ_n ?_
  -- stop: cond
  refine Cd.cond_p _ rfl (fun h => ?_) (fun h => ?_)
  · refine Cd.seq ?_
    refine Cd.region ?_
    refine Ops.mv_bool rfl rfl rfl ?_
    refine Ops.nil ?_
    refine thenQ_n ?_
    refine Cd.ret ?_
    refine thenQ_r ?_
    refine ret1_b rfl ?_
    -- stop: end
    exact ⟨by rw [decide_eq_false (fun e : ms.map (·.xss) = ns.map (·.xss) => h (by have := congrArg List.length e; simp at this; rw [this]))], St.refl _⟩
  refine Cd.skip ?_
  refine thenQ_n ?_
  refine Cd.seq ?_
  refine Cd.seq ?_
  refine Cd.region ?_
  refine Ops.mv_int rfl rfl rfl ?_
  refine Ops.nil ?_
  refine thenQ_n ?_
  refine Cd.block ?_
  -- stop: loop
  refine Cd.loop (α := Nat) (fun k => [(0, .slice A ms.length c), (1, .slice A' ns.length c'), (5, .int .i64 (k : Int))]) (fun k w' => St w w' [] ∧ k ≤ ms.length ∧ (ms.map (·.xss)).take k = (ns.map (·.xss)).take k) (fun k => ms.length - k) 0 ⟨rfl, rfl, rfl, trivial⟩ ⟨St.refl w, Nat.zero_le _, rfl⟩ ?_
  rintro k e w2 ⟨hS2, hk, hI⟩
  have hle : ms.length = ns.length := by omega
  refine Cd.seq ?_
  refine Cd.seq ?_
  refine Cd.region ?_
  refine Ops.mv_int rfl rfl rfl ?_
  refine Ops.mv_sl rfl rfl rfl ?_
  refine Ops.len rfl rfl ?_
  refine Ops.lss rfl rfl rfl ?_
  refine Ops.nil ?_
  refine thenQ_n ?_
  -- stop: cond
  refine Cd.cond_p _ rfl (fun h1 => ?_) (fun h1 => ?_)
  · have hA := hR.later hS2.below
    have hB := hR'.later hS2.below
    have hk1 : k < ms.length := by omega
    have hk2 : k < ns.length := by omega
    have ha := hA.at_ hk1
    have hb' := hB.at_ hk2
    have hc := hcap _ (List.getElem_mem hk1)
    have ht := top_at hk1
    rw [← ht] at hc
    refine Cd.skip ?_
    refine thenQ_n ?_
    refine Cd.seq ?_
    refine Cd.block ?_
    refine Cd.seq ?_
    -- stop: draw
    refine Cd.draw [.ex (.slice (A) (ms.length) (c)), .ex (.int .i64 ((k : Int))), .ex (.pointer (ptrAt (A) ((k : Int)).toNat)), .ex (.agg #[.slice (rg (ms.map (·.top)) ((k : Int))).a (rg (ms.map (·.top)) ((k : Int))).n (rg (ms.map (·.top)) ((k : Int))).c]), .ex (.slice (A') (ns.length) (c')), .ex (.int .i64 ((k : Int))), .ex (.pointer (ptrAt (A') ((k : Int)).toNat)), .ex (.agg #[.slice (rg (ns.map (·.top)) ((k : Int))).a (rg (ns.map (·.top)) ((k : Int))).n (rg (ns.map (·.top)) ((k : Int))).c]), .ex (.bool (decide (ms[k].xss = ns[k].xss))), .ex (.bool (decide (¬ (ms[k].xss = ns[k].xss))))] (by kernel_rfl) (by kernel_rfl) rfl (List.forall_mem_cons.2 ⟨Yd.lasts_ex _, (List.forall_mem_cons.2 ⟨Yd.lasts_ex _, (List.forall_mem_cons.2 ⟨Yd.lasts_ex _, (List.forall_mem_cons.2 ⟨Yd.lasts_ex _, (List.forall_mem_cons.2 ⟨Yd.lasts_ex _, (List.forall_mem_cons.2 ⟨Yd.lasts_ex _, (List.forall_mem_cons.2 ⟨Yd.lasts_ex _, (List.forall_mem_cons.2 ⟨Yd.lasts_ex _, (List.forall_mem_cons.2 ⟨Yd.lasts_ex _, (List.forall_mem_cons.2 ⟨Yd.lasts_ex _, (fun _ h => by cases h)⟩)⟩)⟩)⟩)⟩)⟩)⟩)⟩)⟩)⟩) ⟨?_, ?_, ?_, ?_, ?_, ?_, ?_, ?_, ?_, ?_, trivial⟩ ?_
    · intro e1 w1 hb hp hun
      refine Ops.mv_sl rfl rfl rfl ?_
      refine Ops.nil ?_
      exact After.dn (Below.refl _ _) (by exact rfl)
    · intro e1 w1 hb hp hun
      refine Ops.mv_int rfl rfl rfl ?_
      refine Ops.nil ?_
      exact After.dn (Below.refl _ _) (by exact rfl)
    · intro e1 w1 hb hp hun
      refine Ops.idx (hA.top.later hb).2 rfl rfl rfl (by omega) (by omega) ?_
      refine Ops.nil ?_
      exact After.dn (Below.refl _ _) (by exact rfl)
    · intro e1 w1 hb hp hun
      refine Ops.ld_ag (hA.top.later hb) rfl (by omega) rfl ?_
      refine Ops.nil ?_
      exact After.dn (Below.refl _ _) (by exact rfl)
    · intro e1 w1 hb hp hun
      refine Ops.mv_sl rfl rfl rfl ?_
      refine Ops.nil ?_
      exact After.dn (Below.refl _ _) (by exact rfl)
    · intro e1 w1 hb hp hun
      refine Ops.mv_int rfl rfl rfl ?_
      refine Ops.nil ?_
      exact After.dn (Below.refl _ _) (by exact rfl)
    · intro e1 w1 hb hp hun
      refine Ops.idx (hB.top.later hb).2 rfl rfl rfl (by omega) (by omega) ?_
      refine Ops.nil ?_
      exact After.dn (Below.refl _ _) (by exact rfl)
    · intro e1 w1 hb hp hun
      refine Ops.ld_ag (hB.top.later hb) rfl (by omega) rfl ?_
      refine Ops.nil ?_
      exact After.dn (Below.refl _ _) (by exact rfl)
    · intro e1 w1 hb hp hun
      refine Ops.call (eqManiplex_c _ _ _ _ _ _ _ _ _ _ _ (ha.later hb) (hb'.later hb) hc) rfl rfl rfl ?_
      rintro _ w2 ⟨rfl, hst⟩
      refine Ops.nil ?_
      exact After.dn hst.below (by exact rfl)
    · intro e1 w1 hb hp hun
      refine Ops.not_p rfl rfl ?_
      refine Ops.nil ?_
      exact After.dn (Below.refl _ _) (by exact rfl)
    intro u w3 hb3 _
    have hS3 := hS2.later hb3
    refine thenQ_n ?_
    -- stop: cond
    refine Cd.cond_p _ rfl (fun h3 => ?_) (fun h3 => ?_)
    · refine Cd.seq ?_
      refine Cd.region ?_
      refine Ops.mv_bool rfl rfl rfl ?_
      refine Ops.nil ?_
      refine thenQ_n ?_
      refine Cd.ret ?_
      refine blockQ_r ?_
      refine thenQ_r ?_
      refine thenQ_r ?_
      refine blockQ_r ?_
      refine thenQ_r ?_
      refine ret1_b rfl ?_
      -- stop: end
      refine ⟨by rw [decide_eq_false (fun e : ms.map (·.xss) = ns.map (·.xss) => h3 (by
        have := congrArg (fun l => l[k]?) e
        simpa [hk1, hk2] using this))], hS3⟩
    · refine Cd.skip ?_
      refine blockQ_n ?_
      refine thenQ_n ?_
      refine Cd.region ?_
      refine Ops.mv_int rfl rfl rfl ?_
      refine Ops.add rfl rfl rfl (by omega) ?_
      refine Ops.mv_int rfl rfl rfl ?_
      refine Ops.nil ?_
      refine thenQ_n ?_
      -- stop: round
      refine ⟨k + 1, by omega, ⟨rfl, rfl, rfl, trivial⟩, hS3, by omega, ?_⟩
      rw [List.take_succ_eq_append_getElem (by rw [List.length_map]; exact hk1), List.take_succ_eq_append_getElem (by rw [List.length_map]; exact hk2), hI, List.getElem_map, List.getElem_map, Classical.not_not.1 h3]
  · refine Cd.exit ?_
    refine thenQ_x ?_
    refine thenQ_x ?_
    refine blockQ_x ?_
    refine thenQ_n ?_
    refine Cd.seq ?_
    refine Cd.region ?_
    refine Ops.mv_bool rfl rfl rfl ?_
    refine Ops.nil ?_
    refine thenQ_n ?_
    refine Cd.ret ?_
    refine ret1_b rfl ?_
    -- stop: end
    refine ⟨?_, hS2⟩
    rw [List.take_of_length_le (by rw [List.length_map]; omega), List.take_of_length_le (by rw [List.length_map]; omega)] at hI
    rw [decide_eq_true hI]

/-! marks -/
def totM (ms : List MatV) : Int := ((ms.map fun m => (m.xss.map List.length).sum).sum : Nat)
theorem totM_snoc (ms : List MatV) (m : MatV) : totM (ms ++ [m]) = totM ms + tot m.xss := by simp [totM, tot]
theorem totM_cons (ms : List MatV) (m : MatV) : totM (m :: ms) = tot m.xss + totM ms := by simp [totM, tot]
theorem totM_le {b : Nat} : ∀ (ms : List MatV), (∀ m ∈ ms, tot m.xss ≤ b) → 0 ≤ totM ms ∧ totM ms ≤ (ms.length * b : Nat)
  | [], _ => by simp [totM]
  | m :: ms, h => by
    have h1 := totM_le ms (fun y hy => h y (by simp [hy]))
    have h2 := h m (by simp)
    have h3 : 0 ≤ tot m.xss := by unfold tot; omega
    rw [totM_cons, List.length_cons, Nat.succ_mul]
    omega
def mkV (k : Int) : List MatV → List MatV
  | [] => []
  | m :: ms => { m with xss := mkSS k m.xss } :: mkV (k + tot m.xss) ms
theorem mkV_len : ∀ (ms : List MatV) (k : Int), (mkV k ms).length = ms.length
  | [], _ => rfl
  | _ :: ms, k => by simp [mkV, mkV_len ms]
theorem mkV_top : ∀ (ms : List MatV) (k : Int), (mkV k ms).map (·.top) = ms.map (·.top)
  | [], _ => rfl
  | _ :: ms, k => by simp [mkV, mkV_top ms]
theorem mkV_snoc (m : MatV) : ∀ (ms : List MatV) (k : Int), mkV k (ms ++ [m]) = mkV k ms ++ [{ m with xss := mkSS (k + totM ms) m.xss }]
  | [], k => by simp [mkV, totM]
  | y :: ms, k => by
    simp only [List.cons_append, mkV]
    rw [mkV_snoc m ms, totM_cons, Int.add_assoc]
theorem mkV_append : ∀ (a b : List MatV) (k : Int), mkV k (a ++ b) = mkV k a ++ mkV (k + totM a) b
  | [], b, k => by simp [mkV, totM]
  | y :: a, b, k => by
    simp only [List.cons_append, mkV]
    rw [mkV_append a b, totM_cons, Int.add_assoc]
theorem mkV_at {ms : List MatV} {k : Int} {i : Nat} (hi : i < ms.length) : (mkV k ms)[i]? = some { ms[i] with xss := mkSS (k + totM (ms.take i)) ms[i].xss } := by
  have h1 : ms = ms.take i ++ (ms[i] :: ms.drop (i + 1)) := by rw [← List.drop_eq_getElem_cons hi, List.take_append_drop]
  have h2 : (mkV k (ms.take i)).length = i := by rw [mkV_len]; simp; omega
  conv => lhs; rw [h1, mkV_append]
  rw [List.getElem?_append_right (by omega), h2, Nat.sub_self]
  rfl
theorem mkV_ok {ms : List MatV} {k : Int} (h : ∀ m ∈ ms, m.ok) : ∀ m ∈ mkV k ms, m.ok := by
  induction ms generalizing k with
  | nil => intro m hm; exact nomatch hm
  | cons a ms ih =>
    intro m hm
    rcases List.mem_cons.1 hm with rfl | hm
    · show (mkSS k a.xss).length = a.top.n
      rw [mkSS_len]; exact h a (by simp)
    · exact ih (fun m hm => h m (by simp [hm])) m hm

/-- small matrices -/
def SmV (m : MatV) : Prop := m.rs.length = m.top.n ∧ m.xss.length = m.top.n ∧ m.top.n ≤ 4 ∧ ∀ x ∈ m.xss, x.length ≤ 12
theorem SmV.tot {m : MatV} (h : SmV m) : 0 ≤ Vc.tot m.xss ∧ Vc.tot m.xss ≤ (48 : Nat) := by
  have h1 := tot_le (b := 12) m.xss h.2.2.2
  have h2 := h.2.1
  have h3 := h.2.2.1
  omega

theorem markManiplexS_c {w0 w : World} {A : Option Addr} {c : Nat} {ms : List MatV} {ks : List Ck} (k : Int) (hS : St w0 w (CkR 24 A ms.length c (ms.map (·.top)) :: (matsCk 33 2 ms ++ ks))) (hsm : ∀ m ∈ ms, SmV m) (hn : ms.length ≤ 4000000000000) (hk0 : 0 ≤ k ∧ k ≤ 1048576) :
    Ret Try.prog 40 [.slice A ms.length c, .int .i64 k] w (fun v w' => v = .int .i64 (k + totM ms) ∧ St w0 w' (CkR 24 A ms.length c (ms.map (·.top)) :: (matsCk 33 2 (mkV k ms) ++ ks))) := by
  refine Ret.of_cd Try.func40 rfl Try.ntmps40 rfl (post1 rfl) ?_
  refine Cd.seq ?_
  refine Cd.region ?_
  refine Ops.mv_int rfl rfl rfl ?_
  refine Ops.nil ?_
  refine thenQ_n ?_
  refine Cd.seq ?_
  refine Cd.seq ?_
  refine Cd.region ?_
  refine Ops.mv_int rfl rfl rfl ?_
  refine Ops.nil ?_
  refine thenQ_n ?_
  refine Cd.block ?_
  -- stop: loop
  refine Cd.loop (α := Nat) (fun i => [(0, .slice A ms.length c), (1, .int .i64 (k + totM (ms.take i))), (5, .int .i64 (i : Int))]) (fun i w' => St w0 w' (CkR 24 A ms.length c (ms.map (·.top)) :: (matsCk 33 2 (mkV k (ms.take i) ++ ms.drop i) ++ ks)) ∧ i ≤ ms.length) (fun i => ms.length - i) 0 ⟨rfl, by show Value.int .i64 _ = .int .i64 _; simp [totM], rfl, trivial⟩ ⟨by simpa [mkV] using hS, Nat.zero_le _⟩ ?_
  rintro i e w1 ⟨hS1, hi⟩
  have htb := totM_le (b := 48) (ms.take i) (fun m hm => (hsm m (List.mem_of_mem_take hm)).tot.2)
  have htl : (ms.take i).length ≤ 4000000000000 := by simp; omega
  refine Cd.seq ?_
  refine Cd.seq ?_
  refine Cd.region ?_
  refine Ops.mv_int rfl rfl rfl ?_
  refine Ops.mv_sl rfl rfl rfl ?_
  refine Ops.len rfl rfl ?_
  refine Ops.lss rfl rfl rfl ?_
  refine Ops.nil ?_
  refine thenQ_n ?_
  -- stop: cond
  refine Cd.cond_p _ rfl (fun h1 => ?_) (fun h1 => ?_)
  · have hi' : i < ms.length := by omega
    have hm := hsm _ (List.getElem_mem hi')
    have htt := hm.tot
    have hti := top_at hi'
    have hT := hS1.rdR 0 rfl
    have hvl : ((ms.map (·.top)).getD (i + 0) slNil).v = .slice ms[i].top.a ms[i].top.n ms[i].top.c := by rw [← hti]; rfl
    have hrb := hT.2.behind (o := i) (m := 1) (by omega)
    have hsn : totM (ms.take (i + 1)) = totM (ms.take i) + tot ms[i].xss := by rw [List.take_succ_eq_append_getElem hi', totM_snoc]
    have hst : mkV k (ms.take (i + 1)) ++ ms.drop (i + 1) = mkV k (ms.take i) ++ ({ ms[i] with xss := mkSS (k + totM (ms.take i)) ms[i].xss } :: ms.drop (i + 1)) := by
      rw [List.take_succ_eq_append_getElem hi', mkV_snoc, List.append_assoc]; rfl
    have hS1' : St w0 w1 ((CkR 24 A ms.length c (ms.map (·.top)) :: matsCk 33 2 (mkV k (ms.take i))) ++ (mat 33 2 ms[i].top.a ms[i].top.n ms[i].top.c ms[i].rs ms[i].xss ++ (matsCk 33 2 (ms.drop (i + 1)) ++ ks))) := by
      rw [List.drop_eq_getElem_cons hi', matsCk_append, show matsCk 33 2 (ms[i] :: ms.drop (i + 1)) = mat 33 2 ms[i].top.a ms[i].top.n ms[i].top.c ms[i].rs ms[i].xss ++ matsCk 33 2 (ms.drop (i + 1)) from rfl] at hS1
      simpa only [List.append_assoc, List.cons_append] using hS1
    refine Cd.skip ?_
    refine thenQ_n ?_
    refine Cd.seq ?_
    refine Cd.block ?_
    refine Cd.region ?_
    refine Ops.mv_sl rfl rfl rfl ?_
    refine Ops.mv_int rfl rfl rfl ?_
    -- stop: INDEXADDR 51 t12 t13 -> 14
    refine Ops.idx hT.2 rfl rfl rfl (by omega) h1 ?_
    refine Ops.fld hrb rfl rfl rfl rfl inferInstance ?_
    refine Ops.ldf_s (A1 := ms[i].top.a) (n1 := ms[i].top.n) (c1 := ms[i].top.c) (j := 0) hrb rfl rfl hvl rfl rfl ?_
    refine Ops.mv_int rfl rfl rfl ?_
    -- stop: CALL laws.markInt64SS(t16, t17) -> 18
    refine Ops.call (markSS_c (k + totM (ms.take i)) hS1' hm.1 hm.2.1 (by have := hm.2.2.1; omega) (fun x hx => by have := hm.2.2.2 x hx; omega) (by omega)) rfl rfl rfl ?_
    rintro _ w2 ⟨rfl, hS2⟩
    refine Ops.mv_int rfl rfl rfl ?_
    refine Ops.nil ?_
    refine blockQ_n ?_
    refine thenQ_n ?_
    refine Cd.region ?_
    refine Ops.mv_int rfl rfl rfl ?_
    refine Ops.add rfl rfl rfl (by omega) ?_
    refine Ops.mv_int rfl rfl rfl ?_
    refine Ops.nil ?_
    refine thenQ_n ?_
    -- stop: round
    refine ⟨i + 1, by show ms.length - (i + 1) < ms.length - i; omega, ⟨rfl, by show Value.int .i64 _ = .int .i64 _; rw [hsn, Int.add_assoc], rfl, trivial⟩, ?_, hi'⟩
    rw [hst, matsCk_append, show matsCk 33 2 ({ ms[i] with xss := mkSS (k + totM (ms.take i)) ms[i].xss } :: ms.drop (i + 1)) = mat 33 2 ms[i].top.a ms[i].top.n ms[i].top.c ms[i].rs (mkSS (k + totM (ms.take i)) ms[i].xss) ++ matsCk 33 2 (ms.drop (i + 1)) from rfl]
    simpa only [List.append_assoc, List.cons_append] using hS2
  · refine Cd.exit ?_
    refine thenQ_x ?_
    refine thenQ_x ?_
    refine blockQ_x ?_
    refine thenQ_n ?_
    refine Cd.seq ?_
    refine Cd.region ?_
    refine Ops.mv_int rfl rfl rfl ?_
    refine Ops.mv_int rfl rfl rfl ?_
    refine Ops.nil ?_
    refine thenQ_n ?_
    refine Cd.ret ?_
    refine ret1_i rfl ?_
    -- stop: end
    have hin : i = ms.length := by omega
    subst hin
    rw [List.take_length, List.drop_length, List.append_nil] at *
    exact ⟨rfl, hS1⟩

theorem heldManiplexS_c (A : Option Addr) (c : Nat) (ms : List MatV) (k : Int) (w : World) (hR : MsR w A (mkV k ms)) (hsm : ∀ m ∈ ms, SmV m) (hn : ms.length ≤ 4000000000000) (hk0 : 0 ≤ k ∧ k ≤ 1048576) :
    Ret Try.prog 41 [.slice A ms.length c, .int .i64 k] w (fun v w' => v = .int .i64 (k + totM ms) ∧ w' = w) := by
  have hT := hR.top
  rw [mkV_len, mkV_top] at hT
  refine Ret.of_cd Try.func41 rfl Try.ntmps41 rfl (post1 rfl) ?_
  refine Cd.seq ?_
  refine Cd.region ?_
  refine Ops.mv_int rfl rfl rfl ?_
  refine Ops.nil ?_
  refine thenQ_n ?_
  refine Cd.seq ?_
  refine Cd.seq ?_
  refine Cd.region ?_
  refine Ops.mv_int rfl rfl rfl ?_
  refine Ops.nil ?_
  refine thenQ_n ?_
  refine Cd.block ?_
  -- stop: loop
  refine Cd.loop (α := Nat) (fun i => [(0, .slice A ms.length c), (1, .int .i64 (k + totM (ms.take i))), (5, .int .i64 (i : Int))]) (fun i w' => w' = w ∧ i ≤ ms.length) (fun i => ms.length - i) 0 ⟨rfl, by show Value.int .i64 _ = .int .i64 _; simp [totM], rfl, trivial⟩ ⟨rfl, Nat.zero_le _⟩ ?_
  rintro i e w ⟨rfl, hi⟩
  have htb := totM_le (b := 48) (ms.take i) (fun m hm => (hsm m (List.mem_of_mem_take hm)).tot.2)
  have htl : (ms.take i).length ≤ 4000000000000 := by simp; omega
  refine Cd.seq ?_
  refine Cd.seq ?_
  refine Cd.region ?_
  refine Ops.mv_int rfl rfl rfl ?_
  refine Ops.mv_sl rfl rfl rfl ?_
  refine Ops.len rfl rfl ?_
  refine Ops.lss rfl rfl rfl ?_
  refine Ops.nil ?_
  refine thenQ_n ?_
  -- stop: cond
  refine Cd.cond_p _ rfl (fun h1 => ?_) (fun h1 => ?_)
  · have hi' : i < ms.length := by omega
    have hm := hsm _ (List.getElem_mem hi')
    have htt := hm.tot
    have hti := top_at hi'
    have hvl : ((ms.map (·.top)).getD (i + 0) slNil).v = .slice ms[i].top.a ms[i].top.n ms[i].top.c := by rw [← hti]; rfl
    have hrb := hT.2.behind (o := i) (m := 1) (by omega)
    have hsn : totM (ms.take (i + 1)) = totM (ms.take i) + tot ms[i].xss := by rw [List.take_succ_eq_append_getElem hi', totM_snoc]
    have hrow := hR.row _ (List.mem_of_getElem? (mkV_at (k := k) hi'))
    refine Cd.skip ?_
    refine thenQ_n ?_
    refine Cd.seq ?_
    refine Cd.block ?_
    refine Cd.seq ?_
    refine Cd.region ?_
    refine Ops.mv_sl rfl rfl rfl ?_
    refine Ops.mv_int rfl rfl rfl ?_
    -- stop: INDEXADDR 51 t12 t13 -> 14
    refine Ops.idx hT.2 rfl rfl rfl (by omega) h1 ?_
    refine Ops.fld hrb rfl rfl rfl rfl inferInstance ?_
    refine Ops.ldf_s (A1 := ms[i].top.a) (n1 := ms[i].top.n) (c1 := ms[i].top.c) (j := 0) hrb rfl rfl hvl rfl rfl ?_
    refine Ops.mv_int rfl rfl rfl ?_
    -- stop: CALL laws.heldInt64SS(t16, t17) -> 18
    refine Ops.call (heldSS_c _ _ _ _ ms[i].xss (k + totM (ms.take i)) _ hrow (show ms[i].top.n ≤ 1000 by have := hm.2.2.1; omega) (fun x hx => by have := hm.2.2.2 x hx; omega) (by omega)) rfl rfl rfl ?_
    rintro _ w ⟨rfl, rfl⟩
    refine Ops.mv_int rfl rfl rfl ?_
    refine Ops.nil ?_
    refine thenQ_n ?_
    refine Cd.seq ?_
    refine Cd.region ?_
    refine Ops.mv_int rfl rfl rfl ?_
    refine Ops.lss rfl rfl rfl ?_
    refine Ops.nil ?_
    refine thenQ_n ?_
    -- stop: cond
    refine Cd.cond_pf rfl (by omega) ?_
    refine Cd.skip ?_
    refine blockQ_n ?_
    refine thenQ_n ?_
    refine Cd.region ?_
    refine Ops.mv_int rfl rfl rfl ?_
    refine Ops.add rfl rfl rfl (by omega) ?_
    refine Ops.mv_int rfl rfl rfl ?_
    refine Ops.nil ?_
    refine thenQ_n ?_
    -- stop: round
    exact ⟨i + 1, by show ms.length - (i + 1) < ms.length - i; omega, ⟨rfl, by show Value.int .i64 _ = .int .i64 _; rw [hsn, Int.add_assoc], rfl, trivial⟩, rfl, hi'⟩
  · refine Cd.exit ?_
    refine thenQ_x ?_
    refine thenQ_x ?_
    refine blockQ_x ?_
    refine thenQ_n ?_
    refine Cd.seq ?_
    refine Cd.region ?_
    refine Ops.mv_int rfl rfl rfl ?_
    refine Ops.mv_int rfl rfl rfl ?_
    refine Ops.nil ?_
    refine thenQ_n ?_
    refine Cd.ret ?_
    refine ret1_i rfl ?_
    -- stop: end
    have hin : i = ms.length := by omega
    subst hin
    rw [List.take_length]
    exact ⟨rfl, rfl⟩
end Go.Proofs.Ytgobjpcankaicaa.Vc
/-
  CountManiplexes and AllManiplexes on both sides, and the walks of their laws. Conditions: none.
-/
namespace Go.Proofs.Ytgobjpcankaicaa.Vc
open Go.RowKit

/-- an answer: a list of maniplexes, and a code -/
def AnsM (L : List Mx) (K : Int) (w : World) (v : Value) (w' : World) : Prop := ∃ A c, ∃ ms : List MatV, v = .tuple #[.slice A ms.length c, .int .i64 K] ∧ ms.map (·.xss) = L ∧ (∀ m ∈ ms, m.ok) ∧
      St w w' (CkR 24 A ms.length c (ms.map (·.top)) :: matsCk 33 2 ms)
theorem AnsM.none {w w' : World} {ks : List Ck} {K : Int} (h : St w w' ks) : AnsM [] K w (.tuple #[.slice Option.none 0 0, .int .i64 K]) w' := ⟨Option.none, 0, [], rfl, rfl, fun m hm => (nomatch hm), h.none.nil _⟩
theorem lst_small {rank flags : Int} {L : Mx} (h : L ∈ lstI rank flags) : Small rank flags ∧ L.length = rank.toNat ∧ (∀ x ∈ L, x.length = flags.toNat) ∧ L.length ≤ 4 ∧ ∀ x ∈ L, x.length ≤ 12 := by
  unfold lstI at h
  split at h
  · rename_i hs
    have h1 := hs.1
    have h2 := hs.2
    have hL := (forms_mani (by omega) (by omega) (listL_mem.1 h).1).2.shp
    exact ⟨hs, hL.1, hL.2, by rw [hL.1]; omega, fun x hx => by rw [hL.2 x hx]; omega⟩
  · cases h
theorem lst_len (rank flags : Int) : (lstI rank flags).length ≤ 4000000000000 := by
  unfold lstI
  split
  · rename_i hs
    have h1 := hs.1
    have h2 := hs.2
    rw [listL_len]
    exact Nat.le_trans (ownL_le _ _) (forms_small (n := rank.toNat) (F := flags.toNat) (by omega) (by omega) _)
  · exact Nat.zero_le _
theorem St.rsLen {w0 w : World} {ks : List Ck} {m : MatV} (h : St w0 w ks) (hs : (m.cks 33 2).Sublist ks) : m.rs.length = m.top.n := by
  have := ((h.own (CkR 33 m.top.a m.top.n m.top.c m.rs) (hs.subset (by simp [MatV.cks, mat]))).toC (isM_R _)).1
  simpa using this
theorem St.smV {w0 w : World} {ks : List Ck} {ms : List MatV} {rank flags : Int} (h : St w0 w ks) (hs : (matsCk 33 2 ms).Sublist ks) (hL : ms.map (·.xss) = lstI rank flags) (hok : ∀ m ∈ ms, m.ok) : ∀ m ∈ ms, SmV m := fun m hm => by
  have hl := lst_small (by rw [← hL]; exact List.mem_map_of_mem (f := (·.xss)) hm)
  have ho := hok m hm
  unfold MatV.ok at ho
  exact ⟨h.rsLen ((MatV.sub_ hm).trans hs), ho, by rw [← ho]; exact hl.2.2.2.1, hl.2.2.2.2⟩

/-! counts -/
def cnK (rank flags : Int) : Int := ((lstI rank flags).length : Nat)
theorem specCountManiplexes_c (rank flags : Int) (w : World) : Ret Try.prog 30 [.int .i64 rank, .int .i64 flags] w (fun v w' => v = .tuple #[.int .i64 (cnK rank flags), .int .i64 (lstK rank flags)] ∧ St w w' []) := by
  refine Ret.of_cd Try.func30 rfl Try.ntmps30 rfl (post2 rfl) ?_
  refine Cd.seq ?_
  refine Cd.region ?_
  refine Ops.mv_int rfl rfl rfl ?_
  refine Ops.mv_int rfl rfl rfl ?_
  refine Ops.nil ?_
  refine thenQ_n ?_
  refine Cd.seq ?_
  refine Cd.seq ?_
  refine Cd.region ?_
  refine Ops.mv_int rfl rfl rfl ?_
  refine Ops.mv_int rfl rfl rfl ?_
  -- stop: CALL spec.l19Code(t9, t10) -> 11
  refine Ops.call (l19Code_c rank flags _) rfl rfl rfl ?_
  rintro _ w ⟨rfl, rfl⟩
  refine Ops.mv_int rfl rfl rfl ?_
  refine Ops.nil ?_
  refine thenQ_n ?_
  refine Cd.seq ?_
  refine Cd.region ?_
  refine Ops.mv_int rfl rfl rfl ?_
  refine Ops.neq rfl rfl rfl ?_
  refine Ops.nil ?_
  refine thenQ_n ?_
  -- stop: cond
  refine Cd.cond_p _ rfl (fun h => ?_) (fun h => ?_)
  · have hs : ¬ Small rank flags := fun hs => h (by rw [if_pos hs])
    refine Cd.seq ?_
    refine Cd.region ?_
    refine Ops.mv_int rfl rfl rfl ?_
    refine Ops.mv_int rfl rfl rfl ?_
    refine Ops.mv_int rfl rfl rfl ?_
    refine Ops.nil ?_
    refine thenQ_n ?_
    refine Cd.ret ?_
    refine thenQ_r ?_
    refine ret2_ii rfl rfl ?_
    -- stop: end
    rw [if_neg hs]
    exact ⟨by rw [cnK, lstK, lstI, if_neg hs, if_neg hs]; rfl, St.refl _⟩
  · have hs : Small rank flags := Classical.byContradiction fun hs => h (by rw [if_neg hs]; decide)
    obtain ⟨n, rfl⟩ : ∃ n : Nat, rank = n := ⟨rank.toNat, by have := hs.1; omega⟩
    obtain ⟨F, rfl⟩ : ∃ F : Nat, flags = F := ⟨flags.toNat, by have := hs.2; omega⟩
    have hs1 := hs.1
    have hs2 := hs.2
    refine Cd.skip ?_
    refine thenQ_n ?_
    refine Cd.seq ?_
    refine Cd.region ?_
    refine Ops.mv_int rfl rfl rfl ?_
    refine Ops.mv_int rfl rfl rfl ?_
    -- stop: CALL spec.l19List(t16, t17) -> 18
    refine Ops.call (l19List_c n F (by omega) (by omega) _) rfl rfl rfl ?_
    rintro _ w2 ⟨A, c, A2, c2, ms, rfl, hL, hok, hS⟩
    refine Ops.mv_tup rfl rfl rfl ?_
    refine Ops.extract rfl rfl rfl ?_
    refine Ops.extract rfl rfl rfl ?_
    refine Ops.mv_sl rfl rfl rfl ?_
    refine Ops.mv_sl rfl rfl rfl ?_
    refine Ops.nil ?_
    refine thenQ_n ?_
    refine Cd.seq ?_
    refine Cd.region ?_
    refine Ops.mv_sl rfl rfl rfl ?_
    refine Ops.len rfl rfl ?_
    refine Ops.mv_int rfl rfl rfl ?_
    refine Ops.mv_int rfl rfl rfl ?_
    refine Ops.nil ?_
    refine thenQ_n ?_
    refine Cd.ret ?_
    refine ret2_ii rfl rfl ?_
    -- stop: end
    refine ⟨?_, hS.none⟩
    rw [cnK, lstK, lstI, if_pos hs, if_pos hs, Int.toNat_natCast, Int.toNat_natCast, ← hL, List.length_map]
theorem implCountManiplexes_c (rank flags : Int) (w : World) : Ret Try.prog 31 [.int .i64 rank, .int .i64 flags] w (fun v w' => v = .tuple #[.int .i64 (cnK rank flags), .int .i64 (lstK rank flags)] ∧ St w w' []) := by
  refine Ret.of_cd Try.func31 rfl Try.ntmps31 rfl (post2 rfl) ?_
  refine Cd.seq ?_
  refine Cd.region ?_
  refine Ops.mv_int rfl rfl rfl ?_
  refine Ops.mv_int rfl rfl rfl ?_
  refine Ops.nil ?_
  refine thenQ_n ?_
  refine Cd.seq ?_
  refine Cd.region ?_
  refine Ops.mv_int rfl rfl rfl ?_
  refine Ops.mv_int rfl rfl rfl ?_
  -- stop: CALL impl.allManiplexes(t9, t10) -> 11
  refine Ops.call (allManiplexes_c rank flags _) rfl rfl rfl ?_
  rintro _ w2 ⟨A, c, ms, rfl, hL, hok, hS⟩
  refine Ops.mv_tup rfl rfl rfl ?_
  refine Ops.extract rfl rfl rfl ?_
  refine Ops.extract rfl rfl rfl ?_
  refine Ops.mv_sl rfl rfl rfl ?_
  refine Ops.mv_int rfl rfl rfl ?_
  refine Ops.nil ?_
  refine thenQ_n ?_
  refine Cd.seq ?_
  refine Cd.region ?_
  refine Ops.mv_sl rfl rfl rfl ?_
  -- stop: CALL impl.Maniplex](t14) -> 15
  refine Ops.call (sizeM_c _ _ _ _) rfl rfl rfl ?_
  rintro _ w2 ⟨rfl, rfl⟩
  refine Ops.mv_int rfl rfl rfl ?_
  refine Ops.mv_int rfl rfl rfl ?_
  refine Ops.mv_int rfl rfl rfl ?_
  refine Ops.nil ?_
  refine thenQ_n ?_
  refine Cd.ret ?_
  refine ret2_ii rfl rfl ?_
  -- stop: end
  exact ⟨by rw [cnK, ← hL, List.length_map], hS.none⟩
theorem FnExactCountManiplexes_c (rank flags : Int) (w : World) : Ret Try.prog 6 [.int .i64 rank, .int .i64 flags] w (fun v w' => v = .bool true ∧ St w w' []) := by
  refine Ret.of_cd Try.func6 rfl Try.ntmps6 rfl (post1 rfl) ?_
  refine Cd.seq ?_
  refine Cd.region ?_
  refine Ops.mv_bool rfl rfl rfl ?_
  refine Ops.nil ?_
  refine thenQ_n ?_
  refine Cd.seq ?_
  refine Cd.region ?_
  refine Ops.mv_int rfl rfl rfl ?_
  refine Ops.mv_int rfl rfl rfl ?_
  -- stop: CALL spec.CountManiplexes(t10, t11) -> 12
  refine Ops.call (specCountManiplexes_c rank flags _) rfl rfl rfl ?_
  rintro _ w1 ⟨rfl, hS1⟩
  refine Ops.mv_tup rfl rfl rfl ?_
  refine Ops.extract rfl rfl rfl ?_
  refine Ops.extract rfl rfl rfl ?_
  refine Ops.mv_int rfl rfl rfl ?_
  refine Ops.mv_int rfl rfl rfl ?_
  refine Ops.nil ?_
  refine thenQ_n ?_
  refine Cd.seq ?_
  refine Cd.region ?_
  refine Ops.mv_int rfl rfl rfl ?_
  refine Ops.mv_int rfl rfl rfl ?_
  -- stop: CALL impl.CountManiplexes(t16, t17) -> 18
  refine Ops.call (implCountManiplexes_c rank flags _) rfl rfl rfl ?_
  rintro _ w2 ⟨rfl, hS2⟩
  refine Ops.mv_tup rfl rfl rfl ?_
  refine Ops.extract rfl rfl rfl ?_
  refine Ops.extract rfl rfl rfl ?_
  refine Ops.mv_int rfl rfl rfl ?_
  refine Ops.mv_int rfl rfl rfl ?_
  refine Ops.nil ?_
  refine thenQ_n ?_
  refine Cd.seq ?_
  refine Cd.seq ?_
  refine Cd.region ?_
  refine Ops.mv_int rfl rfl rfl ?_
  refine Ops.mv_int rfl rfl rfl ?_
  refine Ops.neq rfl rfl rfl ?_
  refine Ops.mv_bool rfl rfl rfl ?_
  -- stop: guard 24
  refine Ops.split_p 24 rfl (fun h => absurd rfl h) (fun h => ?_) --f
  refine Ops.rung rfl rfl rfl ?_
  refine Ops.mv_int rfl rfl rfl ?_
  refine Ops.rung rfl rfl rfl ?_
  refine Ops.mv_int rfl rfl rfl ?_
  refine Ops.rung rfl rfl rfl ?_
  refine Ops.neq rfl rfl rfl ?_
  refine Ops.pick_f rfl rfl rfl ?_
  refine Ops.nil ?_
  refine thenQ_n ?_
  -- stop: cond
  refine Cd.cond_pf rfl (fun h => h rfl) ?_
  refine Cd.skip ?_
  refine thenQ_n ?_
  refine Cd.seq ?_
  refine Cd.region ?_
  refine Ops.mv_bool rfl rfl rfl ?_
  refine Ops.nil ?_
  refine thenQ_n ?_
  refine Cd.ret ?_
  refine ret1_b rfl ?_
  -- stop: end
  exact ⟨rfl, (hS1.later hS2.below).none⟩

/-! the lists -/
theorem specAllManiplexes_c (rank flags : Int) (w : World) : Ret Try.prog 37 [.int .i64 rank, .int .i64 flags] w (AnsM (lstI rank flags) (lstK rank flags) w) := by
  refine Ret.of_cd Try.func37 rfl Try.ntmps37 rfl (post2 rfl) ?_
  refine Cd.seq ?_
  refine Cd.region ?_
  refine Ops.mv_sl rfl rfl rfl ?_
  refine Ops.mv_int rfl rfl rfl ?_
  refine Ops.nil ?_
  refine thenQ_n ?_
  refine Cd.seq ?_
  refine Cd.seq ?_
  refine Cd.region ?_
  refine Ops.mv_int rfl rfl rfl ?_
  refine Ops.mv_int rfl rfl rfl ?_
  -- stop: CALL spec.l19Code(t9, t10) -> 11
  refine Ops.call (l19Code_c rank flags _) rfl rfl rfl ?_
  rintro _ w ⟨rfl, rfl⟩
  refine Ops.mv_int rfl rfl rfl ?_
  refine Ops.nil ?_
  refine thenQ_n ?_
  refine Cd.seq ?_
  refine Cd.region ?_
  refine Ops.mv_int rfl rfl rfl ?_
  refine Ops.neq rfl rfl rfl ?_
  refine Ops.nil ?_
  refine thenQ_n ?_
  -- stop: cond
  refine Cd.cond_p _ rfl (fun h => ?_) (fun h => ?_)
  · have hs : ¬ Small rank flags := fun hs => h (by rw [if_pos hs])
    refine Cd.seq ?_
    refine Cd.region ?_
    refine Ops.mv_int rfl rfl rfl ?_
    refine Ops.mv_sl rfl rfl rfl ?_
    refine Ops.mv_int rfl rfl rfl ?_
    refine Ops.nil ?_
    refine thenQ_n ?_
    refine Cd.ret ?_
    refine thenQ_r ?_
    refine ret2_si rfl rfl ?_
    -- stop: end
    rw [if_neg hs, lstK, lstI, if_neg hs, if_neg hs]
    exact AnsM.none (St.refl _)
  · have hs : Small rank flags := Classical.byContradiction fun hs => h (by rw [if_neg hs]; decide)
    obtain ⟨n, rfl⟩ : ∃ n : Nat, rank = n := ⟨rank.toNat, by have := hs.1; omega⟩
    obtain ⟨F, rfl⟩ : ∃ F : Nat, flags = F := ⟨flags.toNat, by have := hs.2; omega⟩
    have hs1 := hs.1
    have hs2 := hs.2
    refine Cd.skip ?_
    refine thenQ_n ?_
    refine Cd.seq ?_
    refine Cd.region ?_
    refine Ops.mv_int rfl rfl rfl ?_
    refine Ops.mv_int rfl rfl rfl ?_
    -- stop: CALL spec.l19List(t16, t17) -> 18
    refine Ops.call (l19List_c n F (by omega) (by omega) _) rfl rfl rfl ?_
    rintro _ w2 ⟨A, c, A2, c2, ms, rfl, hL, hok, hS⟩
    refine Ops.mv_tup rfl rfl rfl ?_
    refine Ops.extract rfl rfl rfl ?_
    refine Ops.extract rfl rfl rfl ?_
    refine Ops.mv_sl rfl rfl rfl ?_
    refine Ops.mv_sl rfl rfl rfl ?_
    refine Ops.nil ?_
    refine thenQ_n ?_
    refine Cd.seq ?_
    refine Cd.region ?_
    refine Ops.mv_sl rfl rfl rfl ?_
    refine Ops.mv_sl rfl rfl rfl ?_
    refine Ops.mv_int rfl rfl rfl ?_
    refine Ops.nil ?_
    refine thenQ_n ?_
    refine Cd.ret ?_
    refine ret2_si rfl rfl ?_
    -- stop: end
    rw [lstK, lstI, if_pos hs, if_pos hs, Int.toNat_natCast, Int.toNat_natCast]
    exact ⟨A, c, ms, rfl, hL, hok, hS.sub (List.Sublist.cons_cons _ (List.sublist_cons_self _ _))⟩
theorem implAllManiplexes_c (rank flags : Int) (w : World) : Ret Try.prog 38 [.int .i64 rank, .int .i64 flags] w (AnsM (lstI rank flags) (lstK rank flags) w) := by
  refine Ret.of_cd Try.func38 rfl Try.ntmps38 rfl (post2 rfl) ?_
  refine Cd.seq ?_
  refine Cd.region ?_
  refine Ops.mv_sl rfl rfl rfl ?_
  refine Ops.mv_int rfl rfl rfl ?_
  refine Ops.nil ?_
  refine thenQ_n ?_
  refine Cd.seq ?_
  refine Cd.region ?_
  refine Ops.mv_int rfl rfl rfl ?_
  refine Ops.mv_int rfl rfl rfl ?_
  -- stop: CALL impl.allManiplexes(t6, t7) -> 8
  refine Ops.call (allManiplexes_c rank flags _) rfl rfl rfl ?_
  rintro _ w2 ⟨A, c, ms, rfl, hL, hok, hS⟩
  refine Ops.extract rfl rfl rfl ?_
  refine Ops.extract rfl rfl rfl ?_
  refine Ops.mv_sl rfl rfl rfl ?_
  refine Ops.mv_int rfl rfl rfl ?_
  refine Ops.nil ?_
  refine thenQ_n ?_
  refine Cd.ret ?_
  refine ret2_si rfl rfl ?_
  -- stop: end
  exact ⟨A, c, ms, rfl, hL, hok, hS⟩
theorem FnExactAllManiplexes_c (rank flags : Int) (w : World) : Ret Try.prog 9 [.int .i64 rank, .int .i64 flags] w (fun v w' => v = .bool true ∧ St w w' []) := by
  have hlen := lst_len rank flags
  refine Ret.of_cd Try.func9 rfl Try.ntmps9 rfl (post1 rfl) ?_
  refine Cd.seq ?_
  refine Cd.region ?_
  refine Ops.mv_bool rfl rfl rfl ?_
  refine Ops.nil ?_
  refine thenQ_n ?_
  refine Cd.seq ?_
  refine Cd.region ?_
  refine Ops.mv_int rfl rfl rfl ?_
  refine Ops.mv_int rfl rfl rfl ?_
  -- stop: CALL spec.AllManiplexes(t14, t15) -> 16
  refine Ops.call (specAllManiplexes_c rank flags _) rfl rfl rfl ?_
  rintro _ w1 ⟨A0, c0, ms0, rfl, hL0, hok0, hS1⟩
  have hl0 : ms0.length = (lstI rank flags).length := by rw [← hL0, List.length_map]
  have hsm0 := hS1.smV (List.sublist_cons_self _ _) hL0 hok0
  refine Ops.mv_tup rfl rfl rfl ?_
  refine Ops.extract rfl rfl rfl ?_
  refine Ops.extract rfl rfl rfl ?_
  refine Ops.mv_sl rfl rfl rfl ?_
  refine Ops.mv_int rfl rfl rfl ?_
  refine Ops.nil ?_
  refine thenQ_n ?_
  refine Cd.seq ?_
  refine Cd.region ?_
  refine Ops.mv_int rfl rfl rfl ?_
  refine Ops.mv_int rfl rfl rfl ?_
  -- stop: CALL impl.AllManiplexes(t20, t21) -> 22
  refine Ops.call (implAllManiplexes_c rank flags _) rfl rfl rfl ?_
  rintro _ w2 ⟨A1, c1, ms1, rfl, hL1, hok1, hS2⟩
  have hl1 : ms1.length = (lstI rank flags).length := by rw [← hL1, List.length_map]
  have hsm1 := hS2.smV (List.sublist_cons_self _ _) hL1 hok1
  have hcap1 : ∀ m ∈ ms1, m.top.n ≤ 9223372036854775807 := fun m hm => by have := (hsm1 m hm).2.2.1; omega
  have hS2 := hS1.call hS2
  have hR0 := hS2.msR hok0 (List.sublist_append_right _ _)
  have hR1 := hS2.msR hok1 (List.sublist_append_left _ _)
  refine Ops.mv_tup rfl rfl rfl ?_
  refine Ops.extract rfl rfl rfl ?_
  refine Ops.extract rfl rfl rfl ?_
  refine Ops.mv_sl rfl rfl rfl ?_
  refine Ops.mv_int rfl rfl rfl ?_
  refine Ops.nil ?_
  refine thenQ_n ?_
  refine Cd.seq ?_
  refine Cd.seq ?_
  refine Cd.region ?_
  refine Ops.mv_sl rfl rfl rfl ?_
  refine Ops.mv_sl rfl rfl rfl ?_
  -- stop: CALL laws.eqManiplexS(t25, t26) -> 27
  refine Ops.call (eqManiplexS_c A1 c1 ms1 A0 c0 ms0 _ hR1 hR0 (by omega) hcap1) rfl rfl rfl ?_
  rintro _ w3 ⟨rfl, hst3⟩
  have hS3 := hS2.later hst3.below
  have e10 : ms1.map (·.xss) = ms0.map (·.xss) := by rw [hL0, hL1]
  first | refine Ops.not_p rfl rfl ?_ | refine Ops.not rfl rfl ?_
  refine Ops.mv_bool rfl rfl rfl ?_
  -- stop: guard 29
  refine Ops.split_p 29 rfl (fun h => absurd e10 h) (fun h => ?_) --f
  refine Ops.rung rfl rfl rfl ?_
  refine Ops.mv_int rfl rfl rfl ?_
  refine Ops.rung rfl rfl rfl ?_
  refine Ops.mv_int rfl rfl rfl ?_
  refine Ops.rung rfl rfl rfl ?_
  refine Ops.neq rfl rfl rfl ?_
  refine Ops.pick_f rfl rfl rfl ?_
  refine Ops.nil ?_
  refine thenQ_n ?_
  -- stop: cond
  refine Cd.cond_pf rfl (fun h => h rfl) ?_
  refine Cd.skip ?_
  refine thenQ_n ?_
  refine Cd.seq ?_
  refine Cd.region ?_
  refine Ops.mv_int rfl rfl rfl ?_
  refine Ops.nil ?_
  refine thenQ_n ?_
  refine Cd.seq ?_
  refine Cd.region ?_
  refine Ops.mv_sl rfl rfl rfl ?_
  refine Ops.mv_int rfl rfl rfl ?_
  -- stop: CALL laws.markManiplexS(t34, t35) -> 36
  refine Ops.call (markManiplexS_c 1 hS3 hsm1 (by omega) (by omega)) rfl rfl rfl ?_
  rintro _ w4 ⟨rfl, hS4⟩
  have hR4 : MsR w4 A1 (mkV 1 ms1) := hS4.msR (c := c1) (mkV_ok hok1) (by rw [mkV_len, mkV_top]; exact List.sublist_append_left _ _)
  have htb := totM_le (b := 48) ms1 (fun m hm => (hsm1 m hm).tot.2)
  refine Ops.mv_int rfl rfl rfl ?_
  refine Ops.nil ?_
  refine thenQ_n ?_
  refine Cd.seq ?_
  refine Cd.region ?_
  refine Ops.mv_int rfl rfl rfl ?_
  refine Ops.nil ?_
  refine thenQ_n ?_
  refine Cd.seq ?_
  refine Cd.region ?_
  refine Ops.mv_sl rfl rfl rfl ?_
  refine Ops.mv_int rfl rfl rfl ?_
  -- stop: CALL laws.heldManiplexS(t37, t38) -> 39
  refine Ops.call (heldManiplexS_c A1 c1 ms1 1 _ hR4 hsm1 (by omega) (by omega)) rfl rfl rfl ?_
  rintro _ w4 ⟨rfl, rfl⟩
  refine Ops.mv_int rfl rfl rfl ?_
  refine Ops.nil ?_
  refine thenQ_n ?_
  refine Cd.seq ?_
  refine Cd.seq ?_
  refine Cd.region ?_
  refine Ops.mv_int rfl rfl rfl ?_
  refine Ops.lss rfl rfl rfl ?_
  refine Ops.nil ?_
  refine thenQ_n ?_
  -- stop: cond
  refine Cd.cond_pf rfl (by omega) ?_
  refine Cd.skip ?_
  refine thenQ_n ?_
  refine Cd.seq ?_
  refine Cd.seq ?_
  refine Cd.region ?_
  refine Ops.mv_int rfl rfl rfl ?_
  refine Ops.mv_int rfl rfl rfl ?_
  refine Ops.neq rfl rfl rfl ?_
  refine Ops.nil ?_
  refine thenQ_n ?_
  -- stop: cond
  refine Cd.cond_pf rfl (fun h => h rfl) ?_
  refine Cd.skip ?_
  refine thenQ_n ?_
  refine Cd.seq ?_
  refine Cd.region ?_
  refine Ops.mv_int rfl rfl rfl ?_
  refine Ops.mv_int rfl rfl rfl ?_
  -- stop: CALL impl.AllManiplexes(t46, t47) -> 48
  refine Ops.call (implAllManiplexes_c rank flags _) rfl rfl rfl ?_
  rintro _ w5 ⟨A2, c2, ms2, rfl, hL2, hok2, hS5⟩
  have hl2 : ms2.length = (lstI rank flags).length := by rw [← hL2, List.length_map]
  have hsm2 := hS5.smV (List.sublist_cons_self _ _) hL2 hok2
  have hcap2 : ∀ m ∈ ms2, m.top.n ≤ 9223372036854775807 := fun m hm => by have := (hsm2 m hm).2.2.1; omega
  have hR0' := (hS4.msR hok0 (List.sublist_append_right (CkR 24 A1 ms1.length c1 (ms1.map (·.top)) :: matsCk 33 2 (mkV 1 ms1)) _)).later hS5.below
  have hR2 := hS5.msR hok2 (List.Sublist.refl _)
  refine Ops.mv_tup rfl rfl rfl ?_
  refine Ops.extract rfl rfl rfl ?_
  refine Ops.extract rfl rfl rfl ?_
  refine Ops.mv_sl rfl rfl rfl ?_
  refine Ops.mv_int rfl rfl rfl ?_
  refine Ops.nil ?_
  refine thenQ_n ?_
  refine Cd.seq ?_
  refine Cd.seq ?_
  refine Cd.region ?_
  refine Ops.mv_sl rfl rfl rfl ?_
  refine Ops.mv_sl rfl rfl rfl ?_
  -- stop: CALL laws.eqManiplexS(t51, t52) -> 53
  refine Ops.call (eqManiplexS_c A2 c2 ms2 A0 c0 ms0 _ hR2 hR0' (by omega) hcap2) rfl rfl rfl ?_
  rintro _ w6 ⟨rfl, hst6⟩
  have e20 : ms2.map (·.xss) = ms0.map (·.xss) := by rw [hL0, hL2]
  first | refine Ops.not_p rfl rfl ?_ | refine Ops.not rfl rfl ?_
  refine Ops.mv_bool rfl rfl rfl ?_
  -- stop: guard 55
  refine Ops.split_p 55 rfl (fun h => absurd e20 h) (fun h => ?_) --f
  refine Ops.rung rfl rfl rfl ?_
  refine Ops.mv_int rfl rfl rfl ?_
  refine Ops.rung rfl rfl rfl ?_
  refine Ops.mv_int rfl rfl rfl ?_
  refine Ops.rung rfl rfl rfl ?_
  refine Ops.neq rfl rfl rfl ?_
  refine Ops.pick_f rfl rfl rfl ?_
  refine Ops.nil ?_
  refine thenQ_n ?_
  -- stop: cond
  refine Cd.cond_pf rfl (fun h => h rfl) ?_
  refine Cd.skip ?_
  refine thenQ_n ?_
  refine Cd.seq ?_
  refine Cd.region ?_
  refine Ops.mv_int rfl rfl rfl ?_
  refine Ops.nil ?_
  refine thenQ_n ?_
  refine Cd.seq ?_
  refine Cd.region ?_
  refine Ops.mv_sl rfl rfl rfl ?_
  refine Ops.mv_int rfl rfl rfl ?_
  -- stop: CALL laws.heldManiplexS(t60, t61) -> 62
  refine Ops.call (heldManiplexS_c A1 c1 ms1 1 _ ((hR4.later hS5.below).later hst6.below) hsm1 (by omega) (by omega)) rfl rfl rfl ?_
  rintro _ w6 ⟨rfl, rfl⟩
  refine Ops.mv_int rfl rfl rfl ?_
  refine Ops.nil ?_
  refine thenQ_n ?_
  refine Cd.seq ?_
  refine Cd.seq ?_
  refine Cd.region ?_
  refine Ops.mv_int rfl rfl rfl ?_
  refine Ops.lss rfl rfl rfl ?_
  refine Ops.nil ?_
  refine thenQ_n ?_
  -- stop: cond
  refine Cd.cond_pf rfl (by omega) ?_
  refine Cd.skip ?_
  refine thenQ_n ?_
  refine Cd.seq ?_
  refine Cd.seq ?_
  refine Cd.region ?_
  refine Ops.mv_int rfl rfl rfl ?_
  refine Ops.mv_int rfl rfl rfl ?_
  refine Ops.neq rfl rfl rfl ?_
  refine Ops.nil ?_
  refine thenQ_n ?_
  -- stop: cond
  refine Cd.cond_pf rfl (fun h => h rfl) ?_
  refine Cd.skip ?_
  refine thenQ_n ?_
  refine Cd.seq ?_
  refine Cd.region ?_
  refine Ops.mv_bool rfl rfl rfl ?_
  refine Ops.nil ?_
  refine thenQ_n ?_
  refine Cd.ret ?_
  refine ret1_b rfl ?_
  -- stop: end
  exact ⟨rfl, ((hS4.later hS5.below).later hst6.below).none⟩
end Go.Proofs.Ytgobjpcankaicaa.Vc
/-
  A call with two results of which the first lies in memory; a struct of one slice built of nothing. Conditions: as each rule names them.
-/
namespace Go.Proofs.Ytgobjpcankaicaa.Vc
open Go.RowKit
section
variable {P : Program} {N : Nat} {ops : Array Oper} {K : Env → World → Prop} {rest : List Oper} {e : Env} {w0 w w' : World} {ks : List Ck} {d : Nat} {ty : TypeId} {pos : String} {af : Array Edge}
def retc2 (a n u : Nat) (R : Value → World → Prop) : Post
  | .normal, e, w => ∃ A f, e a = .pointer A ∧ Rd w A n f ∧ R (.tuple #[.agg ((List.range n).map f).toArray, e u]) w
  | .ret, e, w => ∃ A f, e a = .pointer A ∧ Rd w A n f ∧ R (.tuple #[.agg ((List.range n).map f).toArray, e u]) w
  | _, _, _ => False
theorem retc2_r {a n u : Nat} {R : Value → World → Prop} {A : Option Addr} {f : Nat → Value} {v : Value} (h : e a = .pointer A) (hR : Rd w A n f) (hv : e u = v) (h2 : R (.tuple #[.agg ((List.range n).map f).toArray, v]) w) : retc2 a n u R .ret e w := ⟨A, f, h, hR, by rw [hv]; exact h2⟩
theorem postc2 {fn : Func} {R : Value → World → Prop} {a t n b u : Nat} {fs : Array Field} {z : Value} [Und P t (.struct fs)] [Inf P t z n b] (hr : fn.results = #[.cell a t, .tmp u]) (hn' : Nat.blt 0 n = true) : ∀ x a1 e w, Rep N a1 e → retc2 a n u R x e w → bodyPost P fn (fun x w' => ∃ v, x = .returned v ∧ R v w') x a1 w := by
  intro x a1 e w he q
  have hn : 0 < n := by simpa [Nat.blt_eq] using hn'
  have hg := he.get a
  have hh := he.get u
  have key : ∀ (A : Option Addr) (f : Nat → Value), e a = .pointer A → Rd w A n f → (results fn a1.tmps).run P w = .ok (.tuple #[.agg ((List.range n).map f).toArray, e u]) w := by
    intro A f hA hR
    obtain ⟨q, rfl, hl⟩ := run_loadAgg (P := P) (t := t) hn hR
    rw [Array.getD_eq_getD_getElem?] at hg hh
    simp [results, hr, hg, hh, hA, asAddr, hl]
  cases x <;> first
    | exact q.elim
    | (obtain ⟨A, f, hA, hR, h2⟩ := q
       exact ⟨he.defers, _, key A f hA hR, _, rfl, h2⟩)
end
end Go.Proofs.Ytgobjpcankaicaa.Vc
/-
  ManiplexAt on both sides, and the walk of its law. Conditions: none.
-/
namespace Go.Proofs.Ytgobjpcankaicaa.Vc
open Go.RowKit

/-- an answer: a maniplex, or none, and a code -/
def AnsX (L : Mx) (K : Int) (w : World) (v : Value) (w' : World) : Prop := ∃ A c, ∃ rs : List SlV, v = .tuple #[.agg #[.slice A L.length c], .int .i64 K] ∧ rs.length = L.length ∧ St w w' (mat 33 2 A L.length c rs L)
theorem AnsX.none {w w' : World} {ks : List Ck} {K : Int} (h : St w w' ks) : AnsX [] K w (.tuple #[.agg #[.slice Option.none 0 0], .int .i64 K]) w' := ⟨Option.none, 0, [], rfl, rfl, h.none.nil _⟩

/-! marks on one maniplex, exact -/
theorem markMx_c {w0 w : World} {pre post : List Ck} {t1 t2 : TypeId} {A : Option Addr} {n c : Nat} {rs : List SlV} {xss : List (List Int)} (k : Int) (hS : St w0 w (pre ++ (mat t1 t2 A n c rs xss ++ post))) (hrl : rs.length = n) (hxl : xss.length = n) (hn : n ≤ 1000) (hr : ∀ x ∈ xss, x.length ≤ 1000) (hk0 : 0 ≤ k ∧ k ≤ 1000000000000000) :
    Ret Try.prog 25 [.agg #[.slice A n c], .int .i64 k] w (fun v w' => v = .int .i64 (k + tot xss) ∧ St w0 w' (pre ++ (mat t1 t2 A n c rs (mkSS k xss) ++ post))) := by
  refine Ret.of_cd Try.func25 rfl Try.ntmps25 rfl (post1 rfl) ?_
  refine Cd.seq ?_
  refine Cd.region ?_
  -- stop: BOX 24 t0=a -> 2
  refine Ops.box1 hS rfl rfl ?_
  intro Ab w1 hS1
  refine Ops.mv_int rfl rfl rfl ?_
  refine Ops.nil ?_
  refine thenQ_n ?_
  refine Cd.seq ?_
  refine Cd.region ?_
  -- stop: FIELDADDR 24 t2=a 0 -> 5
  refine Ops.fld (hS1.rd 0 rfl) rfl rfl rfl rfl inferInstance ?_
  refine Ops.ldf_s (hS1.rd 0 rfl) rfl rfl rfl rfl rfl ?_
  refine Ops.mv_int rfl rfl rfl ?_
  -- stop: CALL laws.markInt64SS(t6, t7) -> 8
  refine Ops.call (markSS_c (pre := Bx 24 1 Ab [.slice A n c] :: pre) (post := post) (rs := rs) k hS1 hrl hxl hn hr hk0) rfl rfl rfl ?_
  rintro _ w2 ⟨rfl, hS2⟩
  refine Ops.mv_int rfl rfl rfl ?_
  refine Ops.nil ?_
  refine thenQ_n ?_
  refine Cd.seq ?_
  refine Cd.region ?_
  refine Ops.mv_int rfl rfl rfl ?_
  refine Ops.mv_int rfl rfl rfl ?_
  refine Ops.nil ?_
  refine thenQ_n ?_
  refine Cd.ret ?_
  refine ret1_i rfl ?_
  -- stop: end
  exact ⟨rfl, St.tail hS2⟩
theorem heldMx_c (A : Option Addr) (n c : Nat) (rs : List SlV) (xss : List (List Int)) (k : Int) (w : World) (hR : RowsI w A n rs (mkSS k xss)) (hn : n ≤ 1000) (hr : ∀ x ∈ xss, x.length ≤ 1000) (hk0 : 0 ≤ k ∧ k ≤ 1000000000000000) :
    Ret Try.prog 36 [.agg #[.slice A n c], .int .i64 k] w (fun v w' => v = .int .i64 (k + tot xss) ∧ St w w' []) := by
  have hl := hR.len
  rw [mkSS_len] at hl
  have htb := tot_le (b := 1000) xss hr
  refine Ret.of_cd Try.func36 rfl Try.ntmps36 rfl (post1 rfl) ?_
  refine Cd.seq ?_
  refine Cd.region ?_
  -- stop: BOX 24 t0=a -> 2
  refine Ops.box1 (St.refl w) rfl rfl ?_
  intro Ab w1 hS1
  refine Ops.mv_int rfl rfl rfl ?_
  refine Ops.nil ?_
  refine thenQ_n ?_
  refine Cd.seq ?_
  refine Cd.region ?_
  -- stop: FIELDADDR 24 t2=a 0 -> 5
  refine Ops.fld (hS1.rd 0 rfl) rfl rfl rfl rfl inferInstance ?_
  refine Ops.ldf_s (hS1.rd 0 rfl) rfl rfl rfl rfl rfl ?_
  refine Ops.mv_int rfl rfl rfl ?_
  -- stop: CALL laws.heldInt64SS(t6, t7) -> 8
  refine Ops.call (heldSS_c A n c rs xss k _ (hS1.oldRows hR) hn hr hk0) rfl rfl rfl ?_
  rintro _ w2 ⟨rfl, rfl⟩
  refine Ops.mv_int rfl rfl rfl ?_
  refine Ops.nil ?_
  refine thenQ_n ?_
  refine Cd.seq ?_
  refine Cd.seq ?_
  refine Cd.region ?_
  refine Ops.mv_int rfl rfl rfl ?_
  refine Ops.lss rfl rfl rfl ?_
  refine Ops.nil ?_
  refine thenQ_n ?_
  -- stop: cond
  refine Cd.cond_pf rfl (by omega) ?_
  refine Cd.skip ?_
  refine thenQ_n ?_
  refine Cd.seq ?_
  refine Cd.region ?_
  refine Ops.mv_int rfl rfl rfl ?_
  refine Ops.mv_int rfl rfl rfl ?_
  refine Ops.nil ?_
  refine thenQ_n ?_
  refine Cd.ret ?_
  refine ret1_i rfl ?_
  -- stop: end
  exact ⟨rfl, hS1.none⟩

/-! the answers -/
def atK (rank flags i : Int) : Int := if ¬ Small rank flags ∨ i < 0 then 2 else if ((lstI rank flags).length : Int) ≤ i then 4 else 0
def atL (rank flags i : Int) : Mx := if i < 0 then [] else (lstI rank flags).getD i.toNat []
theorem atL_small {rank flags i : Int} : (atL rank flags i).length ≤ 4 ∧ ∀ x ∈ atL rank flags i, x.length ≤ 12 := by
  unfold atL
  split
  · exact ⟨Nat.zero_le _, fun x hx => nomatch hx⟩
  · rw [List.getD_eq_getElem?_getD]
    cases h : (lstI rank flags)[i.toNat]? with
    | none => exact ⟨Nat.zero_le _, fun x hx => nomatch hx⟩
    | some L => exact (lst_small (List.mem_of_getElem? h)).2.2.2
theorem at_bad {rank flags i : Int} (h : ¬ Small rank flags ∨ i < 0) : atL rank flags i = [] ∧ atK rank flags i = 2 := by
  unfold atL atK
  refine ⟨?_, if_pos h⟩
  split
  · rfl
  · rename_i hi
    have hs : ¬ Small rank flags := h.resolve_right hi
    rw [lstI, if_neg hs]
    rfl
theorem at_off {rank flags i : Int} (hs : Small rank flags) (h0 : 0 ≤ i) (h : ((lstI rank flags).length : Int) ≤ i) : atL rank flags i = [] ∧ atK rank flags i = 4 := by
  unfold atL atK
  rw [if_neg (by omega), if_neg (fun h => h.elim (fun h => h hs) (by omega)), if_pos h]
  refine ⟨?_, rfl⟩
  rw [List.getD_eq_getElem?_getD, List.getElem?_eq_none (by omega)]
  rfl
theorem at_in {rank flags i : Int} {ms : List MatV} (hs : Small rank flags) (h0 : 0 ≤ i) (h : i.toNat < ms.length) (hL : ms.map (·.xss) = lstI rank flags) : atL rank flags i = ms[i.toNat].xss ∧ atK rank flags i = 0 := by
  have hl : ms.length = (lstI rank flags).length := by rw [← hL, List.length_map]
  unfold atL atK
  rw [if_neg (by omega), if_neg (fun h => h.elim (fun h => h hs) (by omega)), if_neg (by omega)]
  refine ⟨?_, rfl⟩
  rw [← hL, List.getD_eq_getElem?_getD, List.getElem?_map, List.getElem?_eq_getElem h]
  rfl

theorem specManiplexAt_c (rank flags i : Int) (w : World) : Ret Try.prog 34 [.int .i64 rank, .int .i64 flags, .int .i64 i] w (AnsX (atL rank flags i) (atK rank flags i) w) := by
  refine Ret.of_cd Try.func34 rfl Try.ntmps34 rfl (postc2 rfl rfl) ?_
  refine Cd.seq ?_
  refine Cd.region ?_
  -- stop: ALLOC 24 -> 6
  refine Ops.new1 (St.refl w) rfl ?_
  intro A6 w1 hS1
  refine Ops.mv_int rfl rfl rfl ?_
  refine Ops.nil ?_
  refine thenQ_n ?_
  refine Cd.seq ?_
  refine Cd.seq ?_
  refine Cd.region ?_
  refine Ops.mv_int rfl rfl rfl ?_
  refine Ops.mv_int rfl rfl rfl ?_
  -- stop: CALL spec.l19Code(t11, t12) -> 13
  refine Ops.call (l19Code_c rank flags _) rfl rfl rfl ?_
  rintro _ w1 ⟨rfl, rfl⟩
  refine Ops.mv_int rfl rfl rfl ?_
  refine Ops.nil ?_
  refine thenQ_n ?_
  refine Cd.seq ?_
  refine Cd.region ?_
  refine Ops.mv_int rfl rfl rfl ?_
  refine Ops.neq rfl rfl rfl ?_
  refine Ops.mv_bool rfl rfl rfl ?_
  -- stop: guard 16
  refine Ops.split_p 16 rfl (fun h => ?_) (fun h => ?_)
  · have hs : ¬ Small rank flags := fun hs => h (by rw [if_pos hs])
    refine Ops.skipg rfl rfl rfl rfl rfl ?_
    refine Ops.skipg rfl rfl rfl rfl rfl ?_
    refine Ops.pick_t rfl rfl rfl ?_
    refine Ops.nil ?_
    refine thenQ_n ?_
    -- stop: cond
    refine Cd.cond_t rfl ?_
    refine Cd.seq ?_
    refine Cd.region ?_
    -- stop: BUILD 24 [] -> 20
    refine Ops.bld0 (by exact inferInstance) rfl ?_
    refine Ops.st_agg 1 0 hS1 rfl rfl rfl rfl rfl rfl rfl ?_
    intro w2 hS2
    refine Ops.mv_int rfl rfl rfl ?_
    refine Ops.nil ?_
    refine thenQ_n ?_
    refine Cd.ret ?_
    refine thenQ_r ?_
    skip
    -- stop: end
    refine retc2_r rfl (hS2.rd 0 rfl) rfl ?_
    rw [(at_bad (.inl hs)).1, (at_bad (i := i) (.inl hs)).2]
    exact AnsX.none hS2
  · have hs : Small rank flags := Classical.byContradiction fun hs => h (by rw [if_neg hs]; decide)
    refine Ops.rung rfl rfl rfl ?_
    refine Ops.mv_int rfl rfl rfl ?_
    refine Ops.rung rfl rfl rfl ?_
    refine Ops.lss rfl rfl rfl ?_
    refine Ops.pick_f rfl rfl rfl ?_
    refine Ops.nil ?_
    refine thenQ_n ?_
    -- stop: cond
    refine Cd.cond_p _ rfl (fun h2 => ?_) (fun h2 => ?_)
    · refine Cd.seq ?_
      refine Cd.region ?_
      -- stop: BUILD 24 [] -> 20
      refine Ops.bld0 (by exact inferInstance) rfl ?_
      refine Ops.st_agg 1 0 hS1 rfl rfl rfl rfl rfl rfl rfl ?_
      intro w2 hS2
      refine Ops.mv_int rfl rfl rfl ?_
      refine Ops.nil ?_
      refine thenQ_n ?_
      refine Cd.ret ?_
      refine thenQ_r ?_
      skip
      -- stop: end
      refine retc2_r rfl (hS2.rd 0 rfl) rfl ?_
      rw [(at_bad (.inr h2)).1, (at_bad (.inr h2)).2]
      exact AnsX.none hS2
    · have hi0 : 0 ≤ i := by omega
      obtain ⟨n, rfl⟩ : ∃ n : Nat, rank = n := ⟨rank.toNat, by have := hs.1; omega⟩
      obtain ⟨F, rfl⟩ : ∃ F : Nat, flags = F := ⟨flags.toNat, by have := hs.2; omega⟩
      have hs1 := hs.1
      have hs2 := hs.2
      refine Cd.skip ?_
      refine thenQ_n ?_
      refine Cd.seq ?_
      refine Cd.region ?_
      refine Ops.mv_int rfl rfl rfl ?_
      refine Ops.mv_int rfl rfl rfl ?_
      -- stop: CALL spec.l19List(t22, t23) -> 24
      refine Ops.call (l19List_c n F (by omega) (by omega) _) rfl rfl rfl ?_
      rintro _ w2 ⟨A, c, A2, c2, ms, rfl, hL, hok, hS⟩
      have hL : ms.map (·.xss) = lstI (n : Int) (F : Int) := by rw [lstI, if_pos hs, Int.toNat_natCast, Int.toNat_natCast]; exact hL
      have hl : ms.length = (lstI (n : Int) (F : Int)).length := by rw [← hL, List.length_map]
      have hS2 := (hS1.call hS).perm List.perm_append_comm
      refine Ops.mv_tup rfl rfl rfl ?_
      refine Ops.extract rfl rfl rfl ?_
      refine Ops.extract rfl rfl rfl ?_
      refine Ops.mv_sl rfl rfl rfl ?_
      refine Ops.mv_sl rfl rfl rfl ?_
      refine Ops.nil ?_
      refine thenQ_n ?_
      refine Cd.seq ?_
      refine Cd.seq ?_
      refine Cd.region ?_
      refine Ops.mv_int rfl rfl rfl ?_
      refine Ops.mv_sl rfl rfl rfl ?_
      refine Ops.len rfl rfl ?_
      refine Ops.geq rfl rfl rfl ?_
      refine Ops.nil ?_
      refine thenQ_n ?_
      -- stop: cond
      refine Cd.cond_p _ rfl (fun h3 => ?_) (fun h3 => ?_)
      · refine Cd.seq ?_
        refine Cd.region ?_
        -- stop: BUILD 24 [] -> 31
        refine Ops.bld0 (by exact inferInstance) rfl ?_
        refine Ops.st_agg 1 0 hS2 rfl rfl rfl rfl rfl rfl rfl ?_
        intro w3 hS3
        refine Ops.mv_int rfl rfl rfl ?_
        refine Ops.nil ?_
        refine thenQ_n ?_
        refine Cd.ret ?_
        refine thenQ_r ?_
        skip
        -- stop: end
        refine retc2_r rfl (hS3.rd 0 rfl) rfl ?_
        rw [(at_off hs hi0 (by omega)).1, (at_off hs hi0 (by omega)).2]
        exact AnsX.none hS3
      · have hlt : i.toNat < ms.length := by omega
        have hR := hS2.rdR 1 rfl
        refine Cd.skip ?_
        refine thenQ_n ?_
        refine Cd.seq ?_
        refine Cd.region ?_
        refine Ops.mv_sl rfl rfl rfl ?_
        refine Ops.mv_int rfl rfl rfl ?_
        -- stop: INDEXADDR 51 t32 t33 -> 34
        refine Ops.idx hR.2 rfl rfl rfl hi0 (by omega) ?_
        refine Ops.ld_ag hR rfl hlt rfl ?_
        refine Ops.st_agg 1 0 hS2 rfl rfl rfl rfl rfl rfl rfl ?_
        intro w3 hS3
        refine Ops.mv_int rfl rfl rfl ?_
        refine Ops.nil ?_
        refine thenQ_n ?_
        refine Cd.ret ?_
        skip
        -- stop: end
        refine retc2_r rfl (hS3.rd 0 rfl) rfl ?_
        have ht : rg (ms.map (·.top)) i = ms[i.toNat].top := by
          have := top_at hlt
          rwa [Int.toNat_of_nonneg hi0] at this
        have ho := hok _ (List.getElem_mem hlt)
        have hsub : (ms[i.toNat].cks 33 2).Sublist (Bx 24 1 A6 [.slice (rg (ms.map (·.top)) i).a (rg (ms.map (·.top)) i).n (rg (ms.map (·.top)) i).c] :: CkR 24 A ms.length c (ms.map (·.top)) :: CkI 2 A2 ms.length c2 (ms.map (orbI F)) :: matsCk 33 2 ms) := (((MatV.sub_ (List.getElem_mem hlt)).trans (List.sublist_cons_self _ _)).trans (List.sublist_cons_self _ _)).trans (List.sublist_cons_self _ _)
        have hrl := hS3.rsLen hsub
        have hX := hS3.sub hsub
        rw [(at_in hs hi0 hlt hL).1, (at_in hs hi0 hlt hL).2]
        unfold MatV.ok at ho
        refine ⟨ms[i.toNat].top.a, ms[i.toNat].top.c, ms[i.toNat].rs, ?_, by rw [hrl, ho], ?_⟩
        · rw [ho, ← ht]; rfl
        · rw [ho]; exact hX
theorem implManiplexAt_c (rank flags i : Int) (w : World) : Ret Try.prog 35 [.int .i64 rank, .int .i64 flags, .int .i64 i] w (AnsX (atL rank flags i) (atK rank flags i) w) := by
  refine Ret.of_cd Try.func35 rfl Try.ntmps35 rfl (postc2 rfl rfl) ?_
  refine Cd.seq ?_
  refine Cd.region ?_
  -- stop: ALLOC 24 -> 6
  refine Ops.new1 (St.refl w) rfl ?_
  intro A6 w1 hS1
  refine Ops.mv_int rfl rfl rfl ?_
  refine Ops.nil ?_
  refine thenQ_n ?_
  refine Cd.seq ?_
  refine Cd.seq ?_
  refine Cd.region ?_
  refine Ops.mv_int rfl rfl rfl ?_
  refine Ops.mv_int rfl rfl rfl ?_
  -- stop: CALL impl.isSmall(t10, t11) -> 12
  refine Ops.call (isSmall_c rank flags _) rfl rfl rfl ?_
  rintro _ w1 ⟨rfl, rfl⟩
  first | refine Ops.not_p rfl rfl ?_ | refine Ops.not rfl rfl ?_
  refine Ops.mv_bool rfl rfl rfl ?_
  -- stop: guard 14
  refine Ops.split_p 14 rfl (fun h => ?_) (fun h => ?_)
  · have hs : ¬ Small rank flags := h
    refine Ops.skipg rfl rfl rfl rfl rfl ?_
    refine Ops.skipg rfl rfl rfl rfl rfl ?_
    refine Ops.pick_t rfl rfl rfl ?_
    refine Ops.nil ?_
    refine thenQ_n ?_
    -- stop: cond
    refine Cd.cond_t rfl ?_
    refine Cd.seq ?_
    refine Cd.region ?_
    -- stop: BUILD 24 [] -> 18
    refine Ops.bld0 (by exact inferInstance) rfl ?_
    refine Ops.st_agg 1 0 hS1 rfl rfl rfl rfl rfl rfl rfl ?_
    intro w2 hS2
    refine Ops.mv_int rfl rfl rfl ?_
    refine Ops.nil ?_
    refine thenQ_n ?_
    refine Cd.ret ?_
    refine thenQ_r ?_
    skip
    -- stop: end
    refine retc2_r rfl (hS2.rd 0 rfl) rfl ?_
    rw [(at_bad (.inl hs)).1, (at_bad (i := i) (.inl hs)).2]
    exact AnsX.none hS2
  · have hs : Small rank flags := Classical.not_not.1 h
    refine Ops.rung rfl rfl rfl ?_
    refine Ops.mv_int rfl rfl rfl ?_
    refine Ops.rung rfl rfl rfl ?_
    refine Ops.lss rfl rfl rfl ?_
    refine Ops.pick_f rfl rfl rfl ?_
    refine Ops.nil ?_
    refine thenQ_n ?_
    -- stop: cond
    refine Cd.cond_p _ rfl (fun h2 => ?_) (fun h2 => ?_)
    · refine Cd.seq ?_
      refine Cd.region ?_
      -- stop: BUILD 24 [] -> 18
      refine Ops.bld0 (by exact inferInstance) rfl ?_
      refine Ops.st_agg 1 0 hS1 rfl rfl rfl rfl rfl rfl rfl ?_
      intro w2 hS2
      refine Ops.mv_int rfl rfl rfl ?_
      refine Ops.nil ?_
      refine thenQ_n ?_
      refine Cd.ret ?_
      refine thenQ_r ?_
      skip
      -- stop: end
      refine retc2_r rfl (hS2.rd 0 rfl) rfl ?_
      rw [(at_bad (.inr h2)).1, (at_bad (.inr h2)).2]
      exact AnsX.none hS2
    · have hi0 : 0 ≤ i := by omega
      refine Cd.skip ?_
      refine thenQ_n ?_
      refine Cd.seq ?_
      refine Cd.region ?_
      refine Ops.mv_int rfl rfl rfl ?_
      refine Ops.mv_int rfl rfl rfl ?_
      -- stop: CALL impl.allManiplexes(t20, t21) -> 22
      refine Ops.call (allManiplexes_c rank flags _) rfl rfl rfl ?_
      rintro _ w2 ⟨A, c, ms, rfl, hL, hok, hS⟩
      have hl : ms.length = (lstI rank flags).length := by rw [← hL, List.length_map]
      have hS2 := (hS1.call hS).perm List.perm_append_comm
      refine Ops.mv_tup rfl rfl rfl ?_
      refine Ops.extract rfl rfl rfl ?_
      refine Ops.extract rfl rfl rfl ?_
      refine Ops.mv_sl rfl rfl rfl ?_
      refine Ops.mv_int rfl rfl rfl ?_
      refine Ops.nil ?_
      refine thenQ_n ?_
      refine Cd.seq ?_
      refine Cd.seq ?_
      refine Cd.region ?_
      refine Ops.mv_int rfl rfl rfl ?_
      refine Ops.mv_sl rfl rfl rfl ?_
      -- stop: CALL impl.Maniplex](t26) -> 27
      refine Ops.call (sizeM_c _ _ _ _) rfl rfl rfl ?_
      rintro _ w2 ⟨rfl, rfl⟩
      refine Ops.geq rfl rfl rfl ?_
      refine Ops.nil ?_
      refine thenQ_n ?_
      -- stop: cond
      refine Cd.cond_p _ rfl (fun h3 => ?_) (fun h3 => ?_)
      · refine Cd.seq ?_
        refine Cd.region ?_
        -- stop: BUILD 24 [] -> 29
        refine Ops.bld0 (by exact inferInstance) rfl ?_
        refine Ops.st_agg 1 0 hS2 rfl rfl rfl rfl rfl rfl rfl ?_
        intro w3 hS3
        refine Ops.mv_int rfl rfl rfl ?_
        refine Ops.nil ?_
        refine thenQ_n ?_
        refine Cd.ret ?_
        refine thenQ_r ?_
        skip
        -- stop: end
        refine retc2_r rfl (hS3.rd 0 rfl) rfl ?_
        rw [(at_off hs hi0 (by omega)).1, (at_off hs hi0 (by omega)).2]
        exact AnsX.none hS3
      · have hlt : i.toNat < ms.length := by omega
        have hR := hS2.rdR 1 rfl
        refine Cd.skip ?_
        refine thenQ_n ?_
        refine Cd.seq ?_
        refine Cd.region ?_
        refine Ops.mv_sl rfl rfl rfl ?_
        refine Ops.mv_int rfl rfl rfl ?_
        -- stop: INDEXADDR 51 t30 t31 -> 32
        refine Ops.idx hR.2 rfl rfl rfl hi0 (by omega) ?_
        refine Ops.ld_ag hR rfl hlt rfl ?_
        refine Ops.st_agg 1 0 hS2 rfl rfl rfl rfl rfl rfl rfl ?_
        intro w3 hS3
        refine Ops.mv_int rfl rfl rfl ?_
        refine Ops.nil ?_
        refine thenQ_n ?_
        refine Cd.ret ?_
        skip
        -- stop: end
        refine retc2_r rfl (hS3.rd 0 rfl) rfl ?_
        have ht : rg (ms.map (·.top)) i = ms[i.toNat].top := by
          have := top_at hlt
          rwa [Int.toNat_of_nonneg hi0] at this
        have ho := hok _ (List.getElem_mem hlt)
        have hsub : (ms[i.toNat].cks 33 2).Sublist (Bx 24 1 A6 [.slice (rg (ms.map (·.top)) i).a (rg (ms.map (·.top)) i).n (rg (ms.map (·.top)) i).c] :: CkR 24 A ms.length c (ms.map (·.top)) :: matsCk 33 2 ms) := ((MatV.sub_ (List.getElem_mem hlt)).trans (List.sublist_cons_self _ _)).trans (List.sublist_cons_self _ _)
        have hrl := hS3.rsLen hsub
        have hX := hS3.sub hsub
        rw [(at_in hs hi0 hlt hL).1, (at_in hs hi0 hlt hL).2]
        unfold MatV.ok at ho
        refine ⟨ms[i.toNat].top.a, ms[i.toNat].top.c, ms[i.toNat].rs, ?_, by rw [hrl, ho], ?_⟩
        · rw [ho, ← ht]; rfl
        · rw [ho]; exact hX

theorem FnExactManiplexAt_c (rank flags i : Int) (w : World) : Ret Try.prog 8 [.int .i64 rank, .int .i64 flags, .int .i64 i] w (fun v w' => v = .bool true ∧ St w w' []) := by
  have hsm := atL_small (rank := rank) (flags := flags) (i := i)
  have hS_ := specManiplexAt_c rank flags i
  have hI_ := implManiplexAt_c rank flags i
  generalize atL rank flags i = L at *
  generalize atK rank flags i = K at *
  have htb := tot_le (b := 1000) L (fun x hx => by have := hsm.2 x hx; omega)
  refine Ret.of_cd Try.func8 rfl Try.ntmps8 rfl (post1 rfl) ?_
  refine Cd.seq ?_
  refine Cd.region ?_
  refine Ops.mv_bool rfl rfl rfl ?_
  refine Ops.nil ?_
  refine thenQ_n ?_
  refine Cd.seq ?_
  refine Cd.region ?_
  refine Ops.mv_int rfl rfl rfl ?_
  refine Ops.mv_int rfl rfl rfl ?_
  refine Ops.mv_int rfl rfl rfl ?_
  -- stop: CALL spec.ManiplexAt(t16, t17, t18) -> 19
  refine Ops.call (hS_ _) rfl rfl rfl ?_
  rintro _ w1 ⟨A0, c0, rs0, rfl, hr0, hS1⟩
  refine Ops.mv_tup rfl rfl rfl ?_
  refine Ops.extract rfl rfl rfl ?_
  refine Ops.extract rfl rfl rfl ?_
  -- stop: ALLOC 24 -> 7
  refine Ops.new1 hS1 rfl ?_
  intro A7 w2 hS2
  refine Ops.st_agg 1 0 hS2 rfl rfl rfl rfl rfl rfl rfl ?_
  intro w3 hS3
  refine Ops.mv_int rfl rfl rfl ?_
  refine Ops.nil ?_
  refine thenQ_n ?_
  refine Cd.seq ?_
  refine Cd.region ?_
  refine Ops.mv_int rfl rfl rfl ?_
  refine Ops.mv_int rfl rfl rfl ?_
  refine Ops.mv_int rfl rfl rfl ?_
  -- stop: CALL impl.ManiplexAt(t23, t24, t25) -> 26
  refine Ops.call (hI_ _) rfl rfl rfl ?_
  rintro _ w4 ⟨A1, c1, rs1, rfl, hr1, hS4⟩
  have hS4 := hS3.call hS4
  refine Ops.mv_tup rfl rfl rfl ?_
  refine Ops.extract rfl rfl rfl ?_
  refine Ops.extract rfl rfl rfl ?_
  -- stop: ALLOC 24 -> 9
  refine Ops.new1 hS4 rfl ?_
  intro A9 w5 hS5
  refine Ops.st_agg 1 0 hS5 rfl rfl rfl rfl rfl rfl rfl ?_
  intro w6 hS6
  have hS6 := (hS6.perm (List.Perm.cons _ List.perm_middle) : St w w6 ([Bx 24 1 A9 [.slice A1 L.length c1], Bx 24 1 A7 [.slice A0 L.length c0]] ++ (mat 33 2 A1 L.length c1 rs1 L ++ mat 33 2 A0 L.length c0 rs0 L)))
  generalize hb9 : Bx 24 1 A9 [.slice A1 L.length c1] = b9 at *
  generalize hb7 : Bx 24 1 A7 [.slice A0 L.length c0] = b7 at *
  have r9 : ∀ {w' : World} {ks : List Ck}, St w w' (b9 :: ks) → Rd w' A9 1 (fun j => [Value.slice A1 L.length c1].getD j undef) := fun h => by subst hb9; exact h.rd 0 rfl
  have r7 : ∀ {w' : World} {ks : List Ck}, St w w' (b9 :: b7 :: ks) → Rd w' A7 1 (fun j => [Value.slice A0 L.length c0].getD j undef) := fun h => by subst hb7; exact h.rd 1 rfl
  have m1 : ∀ {w' : World} {X : Mx}, X.length = L.length → St w w' ([b9, b7] ++ (mat 33 2 A1 L.length c1 rs1 X ++ mat 33 2 A0 L.length c0 rs0 L)) → RowsI w' A1 L.length rs1 X := fun hX h => h.matAt ((List.sublist_append_left _ _).trans (List.sublist_append_right _ _)) hX
  have m0 : ∀ {w' : World} {X : Mx}, St w w' ([b9, b7] ++ (mat 33 2 A1 L.length c1 rs1 X ++ mat 33 2 A0 L.length c0 rs0 L)) → RowsI w' A0 L.length rs0 L := fun h => h.matAt (c := c0) ((List.sublist_append_right _ _).trans (List.sublist_append_right _ _)) rfl
  refine Ops.mv_int rfl rfl rfl ?_
  refine Ops.nil ?_
  refine thenQ_n ?_
  refine Cd.seq ?_
  refine Cd.seq ?_
  refine Cd.region ?_
  -- stop: LOAD 24 t9 -> 29
  refine Ops.ld_agg 0 (r9 hS6) rfl rfl rfl ?_
  refine Ops.ld_agg 0 (r7 hS6) rfl rfl rfl ?_
  skip
  -- stop: CALL laws.eqManiplex(t29, t30) -> 31
  refine Ops.call (eqManiplex_c A1 _ c1 rs1 L A0 _ c0 rs0 L _ (m1 rfl hS6) (m0 hS6) (by omega)) rfl rfl rfl ?_
  rintro _ w7 ⟨rfl, hst7⟩
  have hS7 := hS6.later hst7.below
  first | refine Ops.not_p rfl rfl ?_ | refine Ops.not rfl rfl ?_
  refine Ops.mv_bool rfl rfl rfl ?_
  -- stop: guard 33
  refine Ops.split_p 33 rfl (fun h => absurd rfl h) (fun _ => ?_) --f
  refine Ops.rung rfl rfl rfl ?_
  refine Ops.mv_int rfl rfl rfl ?_
  refine Ops.rung rfl rfl rfl ?_
  refine Ops.mv_int rfl rfl rfl ?_
  refine Ops.rung rfl rfl rfl ?_
  refine Ops.neq rfl rfl rfl ?_
  refine Ops.pick_f rfl rfl rfl ?_
  refine Ops.nil ?_
  refine thenQ_n ?_
  -- stop: cond
  refine Cd.cond_pf rfl (fun h => h rfl) ?_
  refine Cd.skip ?_
  refine thenQ_n ?_
  refine Cd.seq ?_
  refine Cd.region ?_
  refine Ops.mv_int rfl rfl rfl ?_
  refine Ops.nil ?_
  refine thenQ_n ?_
  refine Cd.seq ?_
  refine Cd.region ?_
  -- stop: LOAD 24 t9 -> 38
  refine Ops.ld_agg 0 (r9 hS7) rfl rfl rfl ?_
  refine Ops.mv_int rfl rfl rfl ?_
  -- stop: CALL laws.markManiplex(t38, t39) -> 40
  refine Ops.call (markMx_c (rs := rs1) (pre := [b9, b7]) (post := mat 33 2 A0 L.length c0 rs0 L) 1 hS7 hr1 rfl (by omega) (fun x hx => by have := hsm.2 x hx; omega) (by omega)) rfl rfl rfl ?_
  rintro _ w8 ⟨rfl, hS8⟩
  refine Ops.mv_int rfl rfl rfl ?_
  refine Ops.nil ?_
  refine thenQ_n ?_
  refine Cd.seq ?_
  refine Cd.region ?_
  refine Ops.mv_int rfl rfl rfl ?_
  refine Ops.nil ?_
  refine thenQ_n ?_
  refine Cd.seq ?_
  refine Cd.region ?_
  -- stop: LOAD 24 t9 -> 41
  refine Ops.ld_agg 0 (r9 hS8) rfl rfl rfl ?_
  refine Ops.mv_int rfl rfl rfl ?_
  -- stop: CALL laws.heldManiplex(t41, t42) -> 43
  refine Ops.call (heldMx_c A1 _ c1 rs1 L 1 _ (m1 (mkSS_len _ _) hS8) (by omega) (fun x hx => by have := hsm.2 x hx; omega) (by omega)) rfl rfl rfl ?_
  rintro _ w9 ⟨rfl, hst9⟩
  have hS9 := hS8.later hst9.below
  refine Ops.mv_int rfl rfl rfl ?_
  refine Ops.nil ?_
  refine thenQ_n ?_
  refine Cd.seq ?_
  refine Cd.seq ?_
  refine Cd.region ?_
  refine Ops.mv_int rfl rfl rfl ?_
  refine Ops.lss rfl rfl rfl ?_
  refine Ops.nil ?_
  refine thenQ_n ?_
  -- stop: cond
  refine Cd.cond_pf rfl (by omega) ?_
  refine Cd.skip ?_
  refine thenQ_n ?_
  refine Cd.seq ?_
  refine Cd.seq ?_
  refine Cd.region ?_
  refine Ops.mv_int rfl rfl rfl ?_
  refine Ops.mv_int rfl rfl rfl ?_
  refine Ops.neq rfl rfl rfl ?_
  refine Ops.nil ?_
  refine thenQ_n ?_
  -- stop: cond
  refine Cd.cond_pf rfl (fun h => h rfl) ?_
  refine Cd.skip ?_
  refine thenQ_n ?_
  refine Cd.seq ?_
  refine Cd.region ?_
  refine Ops.mv_int rfl rfl rfl ?_
  refine Ops.mv_int rfl rfl rfl ?_
  refine Ops.mv_int rfl rfl rfl ?_
  -- stop: CALL impl.ManiplexAt(t50, t51, t52) -> 53
  refine Ops.call (hI_ _) rfl rfl rfl ?_
  rintro _ w10 ⟨A2, c2, rs2, rfl, hr2, hS10⟩
  have hS10 := hS9.call hS10
  refine Ops.mv_tup rfl rfl rfl ?_
  refine Ops.extract rfl rfl rfl ?_
  refine Ops.extract rfl rfl rfl ?_
  -- stop: ALLOC 24 -> 13
  refine Ops.new1 hS10 rfl ?_
  intro A13 w11 hS11
  refine Ops.st_agg 1 0 hS11 rfl rfl rfl rfl rfl rfl rfl ?_
  intro w12 hS12
  have hS12 : St w w12 (Bx 24 1 A13 [.slice A2 L.length c2] :: (mat 33 2 A2 L.length c2 rs2 L ++ ([b9, b7] ++ (mat 33 2 A1 L.length c1 rs1 (mkSS 1 L) ++ mat 33 2 A0 L.length c0 rs0 L)))) := hS12
  have t12 := fun {w' : World} (h : St w w' (Bx 24 1 A13 [.slice A2 L.length c2] :: (mat 33 2 A2 L.length c2 rs2 L ++ ([b9, b7] ++ (mat 33 2 A1 L.length c1 rs1 (mkSS 1 L) ++ mat 33 2 A0 L.length c0 rs0 L))))) => h.sub ((List.sublist_append_right _ _).trans (List.sublist_cons_self _ _))
  have m2 : RowsI w12 A2 L.length rs2 L := hS12.matAt (c := c2) ((List.sublist_append_left _ _).trans (List.sublist_cons_self _ _)) rfl
  refine Ops.mv_int rfl rfl rfl ?_
  refine Ops.nil ?_
  refine thenQ_n ?_
  refine Cd.seq ?_
  refine Cd.seq ?_
  refine Cd.region ?_
  -- stop: LOAD 24 t13 -> 56
  refine Ops.ld_agg 0 (hS12.rd 0 rfl) rfl rfl rfl ?_
  refine Ops.ld_agg 0 (r7 (t12 hS12)) rfl rfl rfl ?_
  skip
  -- stop: CALL laws.eqManiplex(t56, t57) -> 58
  refine Ops.call (eqManiplex_c A2 _ c2 rs2 L A0 _ c0 rs0 L _ m2 (m0 (t12 hS12)) (by omega)) rfl rfl rfl ?_
  rintro _ w13 ⟨rfl, hst13⟩
  have hS13 := hS12.later hst13.below
  first | refine Ops.not_p rfl rfl ?_ | refine Ops.not rfl rfl ?_
  refine Ops.mv_bool rfl rfl rfl ?_
  -- stop: guard 60
  refine Ops.split_p 60 rfl (fun h => absurd rfl h) (fun _ => ?_) --f
  refine Ops.rung rfl rfl rfl ?_
  refine Ops.mv_int rfl rfl rfl ?_
  refine Ops.rung rfl rfl rfl ?_
  refine Ops.mv_int rfl rfl rfl ?_
  refine Ops.rung rfl rfl rfl ?_
  refine Ops.neq rfl rfl rfl ?_
  refine Ops.pick_f rfl rfl rfl ?_
  refine Ops.nil ?_
  refine thenQ_n ?_
  -- stop: cond
  refine Cd.cond_pf rfl (fun h => h rfl) ?_
  refine Cd.skip ?_
  refine thenQ_n ?_
  refine Cd.seq ?_
  refine Cd.region ?_
  refine Ops.mv_int rfl rfl rfl ?_
  refine Ops.nil ?_
  refine thenQ_n ?_
  refine Cd.seq ?_
  refine Cd.region ?_
  -- stop: LOAD 24 t9 -> 65
  refine Ops.ld_agg 0 (r9 (t12 hS13)) rfl rfl rfl ?_
  refine Ops.mv_int rfl rfl rfl ?_
  -- stop: CALL laws.heldManiplex(t65, t66) -> 67
  refine Ops.call (heldMx_c A1 _ c1 rs1 L 1 _ (m1 (mkSS_len _ _) (t12 hS13)) (by omega) (fun x hx => by have := hsm.2 x hx; omega) (by omega)) rfl rfl rfl ?_
  rintro _ w14 ⟨rfl, hst14⟩
  have hS14 := hS13.later hst14.below
  refine Ops.mv_int rfl rfl rfl ?_
  refine Ops.nil ?_
  refine thenQ_n ?_
  refine Cd.seq ?_
  refine Cd.seq ?_
  refine Cd.region ?_
  refine Ops.mv_int rfl rfl rfl ?_
  refine Ops.lss rfl rfl rfl ?_
  refine Ops.nil ?_
  refine thenQ_n ?_
  -- stop: cond
  refine Cd.cond_pf rfl (by omega) ?_
  refine Cd.skip ?_
  refine thenQ_n ?_
  refine Cd.seq ?_
  refine Cd.seq ?_
  refine Cd.region ?_
  refine Ops.mv_int rfl rfl rfl ?_
  refine Ops.mv_int rfl rfl rfl ?_
  refine Ops.neq rfl rfl rfl ?_
  refine Ops.nil ?_
  refine thenQ_n ?_
  -- stop: cond
  refine Cd.cond_pf rfl (fun h => h rfl) ?_
  refine Cd.skip ?_
  refine thenQ_n ?_
  refine Cd.seq ?_
  refine Cd.region ?_
  refine Ops.mv_bool rfl rfl rfl ?_
  refine Ops.nil ?_
  refine thenQ_n ?_
  refine Cd.ret ?_
  refine ret1_b rfl ?_
  -- stop: end
  exact ⟨rfl, hS14.none⟩
end Go.Proofs.Ytgobjpcankaicaa.Vc
/-
  A statement's frame: the arguments opened, and what a walk gives told in the statement's own words. Conditions: as each states them.
-/
namespace Go.Proofs.Ytgobjpcankaicaa.Vc
open Go.RowKit Go.ChangeShapes Go.WideShapes

theorem laid : laidOutB Try.prog = true := by kernel_rfl
theorem own : ownKnob Try.prog.godebug = none := by kernel_rfl

section
variable {H : Type} {enc : TypeId × Value → H} {P : Program}
theorem open_mat {w : World} {t e q : TypeId} {fuel : Nat} {cs : List Value} {x : DataW H × List MemPlace} (ht : P.underlying t = some (.slice e)) (he : P.underlying e = some (.slice q)) (hq : P.underlying q = some (.int .i64)) (ce : P.cellsOf e = 1) (cq : P.cellsOf q = 1)
    (h : DataW.trod enc P w 0 (fun _ => true) true fuel t cs = some x) : ∃ A n c rs xss, cs = [.slice A n c] ∧ RowsI w A n rs xss ∧ n ≤ c ∧ c ≤ 9223372036854775807 := by
  rcases Go.Deep.open_int_rows ht he hq ce cq h with ⟨rfl, _⟩ | ⟨a, len, cap, A, L, C, Z, rfl, _, hl, hm, _, hc⟩
  · exact ⟨none, 0, 0, [], [], rfl, RowsI.nil w, Nat.le_refl _, by omega⟩
  · refine ⟨some a, len, cap, (List.range len).map fun r => ⟨A r, L r, C r⟩, (List.range len).map fun r => (Z r).take (L r), rfl, ⟨⟨by simp, fun k hk => ?_⟩, by simp, fun i hi => ?_, fun i hi => ?_⟩, hl, by simpa [maxLen] using hm⟩
    · have := (hc k (by omega)).1
      exact ⟨a.add k, rfl, by rw [this]; simp [List.getD_eq_getElem?_getD, hk, SlV.v]⟩
    · have h1 := hc i (by omega)
      have e1 : ((List.range len).map fun r => (⟨A r, L r, C r⟩ : SlV)).getD i slNil = ⟨A i, L i, C i⟩ := by simp [List.getD_eq_getElem?_getD, hi]
      have e2 : ((List.range len).map fun r => (Z r).take (L r)).getD i [] = (Z i).take (L i) := by simp [List.getD_eq_getElem?_getD, hi]
      rw [e1, e2]
      refine ⟨by simp; omega, fun k hk => ?_⟩
      have hk' : k < L i := hk
      cases hA : A i with
      | none => have := h1.2.2.2.2.2.1 hA; omega
      | some a' =>
        have h2 := (h1.2.2.2.2.2.2 a' hA).2 k (by omega)
        exact ⟨a'.add k, rfl, by rw [h2]; simp [List.getD_eq_getElem?_getD, List.getElem?_take, hk']⟩
    · have h1 := hc i (by omega)
      have e1 : ((List.range len).map fun r => (⟨A r, L r, C r⟩ : SlV)).getD i slNil = ⟨A i, L i, C i⟩ := by simp [List.getD_eq_getElem?_getD, hi]
      rw [e1]
      exact ⟨h1.2.1, h1.2.2.1⟩

theorem trodAll_stays (hl : laidOutB P = true) {W W' : World} (hb : Below W.heap.size W W') {sp : Nat → Bool} : ∀ {ts : List TypeId} {vs : List Value} {ds : List (DataW H)} {ps : List MemPlace}, (ts.all fun t => P.readableRec t && Nat.blt t P.types.size) = true → (∀ p ∈ ps, p.block < W.heap.size) → (∀ p ∈ ps, sp p.block = true) →
    DataW.TrodAll enc P W 0 (fun _ => true) true ts vs ds ps → DataW.TrodAll enc P W' 0 sp true ts vs ds ps
  | [], [], [], _, _, _, _, h => h
  | t :: ts, v :: vs, d :: ds, ps, hr, hlt, hsp, h => by
    obtain ⟨p, q, h1, h2, rfl⟩ := h
    simp only [List.all_cons, Bool.and_eq_true] at hr
    exact ⟨p, q, WideElems.Trod_stays hl hr.1.1 (by simpa [Nat.blt_eq] using hr.1.2) h1 (fun x hx => hb.same (hlt x (by simp [hx]))) (fun x hx => hsp x (by simp [hx])), trodAll_stays hl hb hr.2 (fun x hx => hlt x (by simp [hx])) (fun x hx => hsp x (by simp [hx])) h2, rfl⟩
  | [], [], _ :: _, _, _, _, _, h => h.elim
  | [], _ :: _, _, _, _, _, _, h => by cases h
  | _ :: _, [], _, _, _, _, _, h => by cases h
  | _ :: _, _ :: _, [], _, _, _, _, h => by cases h

/-- what a law's walk gives, in its statement's words: it returns true, and its arguments read as they did -/
theorem post_law {f : Func} {s : ChangeSpec} {apart : Bool} {W W' : World} {args : Array Value} {ds gs : List (DataW H)} {before : List MemPlace} (hl : laidOutB P = true) {b : TypeId} (hu : P.underlying b = some .bool) (hres : f.resultTypes = #[b]) (hv : s.vars = [])
    (hr : (f.params.toList.all fun t => P.readableRec t && Nat.blt t P.types.size) = true) (hfn : (s.fn H (ds ++ gs)).results = [.lit (.bool true)] ∧ (s.fn H (ds ++ gs)).args = ds ∧ (s.fn H (ds ++ gs)).vars = [])
    (hW : DataW.Whole enc P f.params.toList s.vars apart W args.toList ds gs before) (hb : Below W.heap.size W W') : s.post enc P f apart true false false W args (.bool true) W' := by
  have hlt : ∀ x ∈ before, x.block < W.heap.size := fun x hx => hW.lt x hx
  have hW0 := hW
  obtain ⟨p, q, hA, hV, rfl, hz, hn⟩ := hW
  rw [hv] at hV
  obtain ⟨rfl, rfl⟩ := trodVars_none hV
  have hlp : ∀ x ∈ p, x.block < W.heap.size := fun x hx => hlt x (by simp [hx])
  have hA' : ∀ sp : Nat → Bool, (∀ x ∈ p, sp x.block = true) → DataW.TrodAll enc P W' 0 sp true f.params.toList args.toList (s.fn H (ds ++ [])).args p := fun sp hsp => by
    rw [hfn.2.1]
    exact trodAll_stays hl hb hr hlp hsp hA
  have hR' : ∀ (b0 : Nat) (sp : Nat → Bool) (hd : Bool), DataW.TrodAll enc P W' b0 sp hd f.resultTypes.toList ((Value.bool true).resultList f.resultTypes.size) (s.fn H (ds ++ [])).results [] := fun b0 sp hd => by
    rw [hfn.1, hres]
    exact trodAll_cons_mk (shut_bool hu _) trodAll_mk0
  have hV' : ∀ sp : Nat → Bool, DataW.TrodVars enc P W' sp s.vars (s.fn H (ds ++ [])).vars [] := fun sp => by
    rw [hfn.2.2, hv]; rfl
  refine ⟨ds, [], p ++ [], [], p, [], hW0, hR' _ _ _, hA' _ (fun x hx => by simpa using hlp x hx), hV' _, World.keptBut_mono (fun x hx => ⟨hx, by simpa using hx⟩) (hb.frame (· ∈ p ++ [])), fun _ => ⟨fun j t r h1 h2 => ?_, _, _, ([] ++ p) ++ [], ⟨[] ++ p, [], trodAll_append (hA' _ fun _ _ => rfl) (hR' _ _ _), hV' _, rfl, fun c off hc => ?_, fun ha => by simpa using hn ha⟩, fun x hx _ => by simpa using hx⟩⟩
  · rw [hres] at h1 h2
    cases j with
    | zero =>
      simp at h1
      subst h1
      simp [Value.resultList] at h2
      subst h2
      exact okWide_bool_mk hu _
    | succ j => simp at h1
  · have hin : MemPlace.cell c off ∈ p ++ [] := by simpa using hc
    rw [hb.frozen (hlt _ hin)]
    exact hz c off hin
end
end Go.Proofs.Ytgobjpcankaicaa.Vc
/-
  Arguments opened: a struct of one matrix, a list of integers. Conditions: as each states them.
-/
namespace Go.Proofs.Ytgobjpcankaicaa.Vc
open Go.RowKit Go.ChangeShapes Go.WideShapes

section
variable {H : Type} {enc : TypeId × Value → H} {P : Program}
theorem open_man {w : World} {r : Go.Reach} {b0 : Nat} {t e q : TypeId} {f0 : Field} {v : Value} {d : DataW H} {p : List MemPlace} (hs : P.underlying t = some (.struct #[f0])) (hf0 : f0.offset = 0) (ht : P.underlying f0.type = some (.slice e)) (he : P.underlying e = some (.slice q)) (hq : P.underlying q = some (.int .i64)) (ce : P.cellsOf e = 1) (cq : P.cellsOf q = 1) (cm : P.cellsOf f0.type = 1) (cc : P.cellsOf t = 1)
    (hval : Value.okWide P w r b0 t v) (h : DataW.Trod enc P w 0 (fun _ => true) true t v d p) : ∃ A n c rs xss, v = .agg #[.slice A n c] ∧ RowsI w A n rs xss ∧ n ≤ c ∧ c ≤ 9223372036854775807 := by
  obtain ⟨cs, rfl, hsz⟩ := okWide_struct hs hval
  obtain ⟨fuel, hf⟩ := h
  obtain ⟨z0, m0, _, _, hz0⟩ := trod_struct1 hs hf
  obtain ⟨A, n, c, rs, xss, e1, hR, hn, hc⟩ := open_mat ht he hq ce cq hz0
  refine ⟨A, n, c, rs, xss, ?_, hR, hn, hc⟩
  have hl : cs.toList.length = 1 := by rw [Array.length_toList, hsz, cc]
  have e1 : (cs.toList.drop f0.offset).take (P.cellsOf f0.type) = [Value.slice A n c] := e1
  rw [hf0, cm, List.drop_zero, List.take_of_length_le (by omega)] at e1
  congr 1
  exact Array.ext' (by rw [e1])

theorem open_row {w : World} {r : Go.Reach} {b0 : Nat} {t e : TypeId} {v : Value} {d : DataW H} {p : List MemPlace} (ht : P.underlying t = some (.slice e)) (he : P.underlying e = some (.int .i64)) (ce : P.cellsOf e = 1)
    (hval : Value.okWide P w r b0 t v) (h : DataW.Trod enc P w 0 (fun _ => true) true t v d p) : ∃ A n c xs, v = .slice A n c ∧ RdI w A n xs ∧ n ≤ c ∧ c ≤ 9223372036854775807 := by
  obtain ⟨a, len, cap, rfl⟩ := okWide_slice ht hval
  obtain ⟨fuel, hf⟩ := h
  have hcs : (Value.slice a len cap).cells.toList = [Value.slice a len cap] := rfl
  rw [hcs] at hf
  rcases open_ints ht he ce hf with ⟨h1, _⟩ | ⟨b, n, c, zs, h1, _, hl, hm, hz, _, hc, _⟩
  · simp only [List.cons.injEq, and_true] at h1
    exact ⟨none, 0, 0, [], h1, RdI.nil, Nat.le_refl _, by omega⟩
  · simp only [List.cons.injEq, and_true] at h1
    refine ⟨some b, n, c, zs.take n, h1, ⟨?_, fun k hk => ?_⟩, hl, by simpa [maxLen] using hm⟩
    · rw [if_pos rfl] at hz; simp; omega
    · rw [if_pos rfl] at hz
      refine ⟨b.add k, rfl, ?_⟩
      rw [hc k (by omega)]
      simp [List.getD_eq_getElem?_getD, List.getElem?_take, hk]
end
end Go.Proofs.Ytgobjpcankaicaa.Vc
