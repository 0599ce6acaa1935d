/-
  The texts Srf, K2, C7, D6, K3, K4, K5, Iso, Cmp, Ls2, Rpl, C8, C9, C11, Del, K6, Aut, Q1, Q2, Q3, Q4, Two, Cen, D1 in one. Conditions: as each part states them.
-/
import Derived.Test.YtjpkmpihmilgoaaGreatLayc
import Derived.Shelf.SlSortCmp.NoneTotal
import Derived.Test.YtjpkmpihmilgoaaGreatZb
import Derived.Test.YtjpkmpihmilgoaaGreatZe
import Derived.Test.YtjpkmpihmilgoaaGreatZf
import Derived.Test.YtjpkmpihmilgoaaGreatZa
import Derived.Test.YtjpkmpihmilgoaaGreatZc
/-
  The library's sort by a function, of a row of one's own whose elements are structs of one slice. Conditions: the function's contract, and that it is a strict weak order.
-/
namespace Go.Proofs.YtjpkmpihmilgoaaGreat.Vc
open Go.RowKit Go.Sort

theorem heap_grw {α : Type} [Inhabited α] {enc : α → Value} {w : World} {g n off : Nat} {os : Array Obj} {cur : Array Value} {e : TypeId} {fr : Nat × Nat} (d : Array α) (hb : w.heap[g]? = some (.cells cur e fr)) :
    (Go.Sort.grow (putRow enc (Sort.ahead w n) g off d) os).heap[g]? = some (.cells (putCells enc off d cur) e fr) := by
  have hg : g < w.heap.size := (Array.getElem?_eq_some_iff.1 hb).1
  rw [heap_grow_old _ _ (by simpa using hg)]
  simp [putRow, mapBlock, Sort.ahead, Array.getElem?_modify, hb, onCells]
theorem grb_grw {α : Type} [Inhabited α] {enc : α → Value} {w : World} {g n off : Nat} {os : Array Obj} (d : Array α) : GrB w (Go.Sort.grow (putRow enc (Sort.ahead w n) g off d) os) (some g) := by
  refine ⟨⟨rfl, rfl, rfl, by simp, fun k hk hne => ?_⟩, Nat.le_add_right _ _⟩
  rw [heap_grow_old _ _ (by simpa using hk)]
  have : g ≠ k := fun e => hne (by rw [e])
  simp [putRow, mapBlock, Sort.ahead, Array.getElem?_modify, this]

/-- the place at a number -/
def sv (ss : List SlV) (j : Nat) : SlV := ss.getD j slNil
def encA (ss : List SlV) (n : Nat) (j : Fin n) : List Value := [(sv ss j).v]
theorem flat_at {n : Nat} [Inhabited (Fin n)] (ss : List SlV) (dk : Array (Fin n)) {j : Nat} (hj : j < dk.size) : (flatK (encA ss n) 1 dk)[j]! = (sv ss dk[j]!).v := by
  rw [get_flatK _ _ _ _ (by omega)]
  simp [encA, Nat.mod_one]
/-- the sort's world in one's own words -/
theorem St.srtW {w0 w : World} {ks : List Ck} {i : Nat} {t : TypeId} {g o n c : Nat} {ss : List SlV} {cur : Array Value} [Inhabited (Fin n)] (hS : St w0 w ks) (hk : ks[i]? = some (CkR t (some ⟨g, o, Option.none⟩) n c ss))
    (hh : w.heap[g]? = some (.cells cur t (0, 0))) (hg : w0.heap.size ≤ g) (hs : o + c ≤ cur.size) (m : Nat) (dk : Array (Fin n)) (hd : dk.size = n) (os : Array Obj) :
    St w0 (sortWorldK (encA ss n) 1 w g o m dk os) (ks.set i (CkR t (some ⟨g, o, Option.none⟩) n c (dk.toList.map fun j : Fin n => sv ss j.val))) := by
  have hnc : n ≤ c := (hS.cap i hk).1
  have hc9 : c ≤ maxLen := (hS.cap i hk).2
  refine hS.turn hk rfl rfl (grb_grw _) (.ofC (isM_R _) ⟨by simp [hd], hnc, hc9, .inr ⟨g, o, _, rfl, hg, heap_grw _ hh, by simp only [putCells, Array.size_mapIdx]; exact hs, fun j hj => ?_⟩⟩)
  have hj : j < n := hj
  have hlt2 : o + j < cur.size := by omega
  show (putCells id o (flatK (encA ss n) 1 dk) cur)[o + j]? = ((dk.toList.map fun j : Fin n => sv ss j.val).map SlV.v)[j]?
  have e := flat_at ss dk (j := j) (by omega)
  rw [getElem!_pos _ _ (by simp [hd]; exact hj), getElem!_pos dk j (by omega)] at e
  simp [putCells, hlt2, hj, hd, e]

theorem sortF_c {w0 w : World} {ks : List Ck} (i : Nat) {t : TypeId} {A : Option Addr} {n c : Nat} {ss : List SlV} (hS : St w0 w ks) (hk : ks[i]? = some (CkR t A n c ss)) (hn : n ≤ 4000000000000) (G : FuncId) [hF : Fnc Tryz.prog G] (cf : Nat → Nat → Int)
    (hswo : ∀ a b c, a < n → b < n → c < n → ¬ cf a a < 0 ∧ (cf a b < 0 → cf b c < 0 → cf a c < 0) ∧ (¬ cf a b < 0 → ¬ cf b c < 0 → ¬ cf a c < 0))
    (hcmp : ∀ (w' : World) (q : List Nat), q.length = n → (∀ j ∈ q, j < n) → St w0 w' (ks.set i (CkR t A n c (q.map (sv ss)))) → ∀ a b, a < n → b < n → Ret Tryz.prog G [.agg #[(sv ss a).v], .agg #[(sv ss b).v]] w' (fun v w'' => v = .int .i64 (cf a b) ∧ St w' w'' [])) :
    Ret Tryz.prog 53 [.slice A n c, .func (.func G) #[] #[]] w (fun v w' => v = .tuple #[] ∧ ∃ q : List Nat, q.Perm (List.range n) ∧ q.Pairwise (fun a b => ¬ cf b a < 0) ∧ St w0 w' (ks.set i (CkR t A n c (q.map (sv ss))))) := by
  obtain ⟨h1, h2, h3, h4⟩ := hS.getC hk (isM_R _)
  have hl : ss.length = n := by have : (ss.map SlV.v).length = n := h1; simpa using this
  have h2 : n ≤ c := h2
  by_cases h0 : n = 0
  · subst h0
    have key := AnyF.slices_SortFunc_none lsf A c (.func (.func G) #[] #[]) w
    refine Calls.mono key fun x w' ⟨hx, hw⟩ => ⟨_, hx, rfl, [], List.Perm.refl _, List.Pairwise.nil, ?_⟩
    subst hw
    have e : ss = [] := List.eq_nil_of_length_eq_zero hl
    subst e
    rw [show (List.map (sv []) [] : List SlV) = [] from rfl]
    have := (List.getElem?_eq_some_iff.1 hk)
    rw [show ks.set i (CkR t A 0 c []) = ks from by
      apply List.ext_getElem?
      intro j
      rw [List.getElem?_set]
      split
      · rename_i e; subst e; rw [hk]; simp [this.1]
      · rfl]
    exact hS
  have h0 : 0 < n := by omega
  rcases h4 with ⟨_, hc0⟩ | ⟨g, o, cur, hA, hg, hh, hs, hc⟩
  · have hc0 : c = 0 := hc0
    omega
  have hA : A = some ⟨g, o, none⟩ := hA
  have hs : o + c ≤ cur.size := hs
  have hc : ∀ j, j < n → cur[o + j]? = (ss.map SlV.v)[j]? := hc
  subst hA
  haveI : Inhabited (Fin n) := ⟨⟨0, h0⟩⟩
  have hlt : g < w.heap.size := (Array.getElem?_eq_some_iff.1 hh).1
  have hd0 : (Array.ofFn (fun j : Fin n => j)).size = n := by simp
  have hH : HoldsK (encA ss n) 1 w g o (Array.ofFn fun j : Fin n => j) := fun j hj => by
    have hj' : j < n := by simpa using hj
    refine ⟨?_, by simp [World.frozen?, hh]⟩
    rw [flat_at ss _ (by simpa using hj')]
    simp only [World.cell?, hh]
    simp only [Option.isSome_none, Bool.false_eq_true, if_false]
    rw [hc j hj']
    simp [hj', hl, sv, List.getD_eq_getElem?_getD]
  obtain ⟨fn, hf1, hf2, hf3⟩ := hF.out
  obtain ⟨bd, hf4⟩ : ∃ c, fn.body = some c := by
    cases h : fn.body with
    | none => rw [h] at hf3; cases hf3
    | some c => exact ⟨c, rfl⟩
  have eg : ∀ args w, (callFunc G args).run Tryz.prog w = .ok (.enter G args) w := enters_of hf1 hf2 hf4
  have hC : CmpLays Tryz.prog G #[] (encA ss n) 1 (fun a b : Fin n => cf a b) g o (Array.ofFn fun j : Fin n => j).size w := fun m os dk hdk a b => by
    have hdn : dk.size = n := by rw [hdk, hd0]
    have hW := hS.srtW hk hh hg hs m dk hdn os
    have h5 := hcmp _ (dk.toList.map fun j => j.val) (by simp [hdn]) (fun j hj => by obtain ⟨x, _, rfl⟩ := List.mem_map.1 hj; exact x.2) (by rw [List.map_map]; exact hW) a b a.2 b.2
    refine Calls.mono h5 fun x w' ⟨v, hx, hv, hst⟩ => ?_
    subst hv
    exact ⟨hx, hst.below.grow trivial⟩
  have hO : SWO (ltOf fun a b : Fin n => cf a b) := {
    irrefl := fun a => by simpa [ltOf] using (hswo a a a a.2 a.2 a.2).1
    trans := fun a b c h h' => by simp only [ltOf, decide_eq_true_iff] at *; exact (hswo a b c a.2 b.2 c.2).2.1 h h'
    ntrans := fun a b c h h' => by simp only [ltOf, decide_eq_false_iff_not] at *; exact (hswo a b c a.2 b.2 c.2).2.2 h h' }
  have key := AnyQ.slices_SortFunc lsf 1 (fun w => by kernel_rfl) (fun w => by kernel_rfl) (encA ss n) (fun _ => rfl) (fun x v hv => by simp [encA] at hv; subst hv; rfl) (fun a b : Fin n => cf a b) hO G #[] g o c (Array.ofFn fun j : Fin n => j) w eg hC hH hlt (by rw [hd0]; omega)
  rw [hd0] at key
  refine Calls.mono key fun x w' ⟨hx, d', m, os, hp, hso, hw⟩ => ⟨_, hx, rfl, d'.toList.map (fun j => j.val), ?_, ?_, ?_⟩
  · obtain ⟨hz, _, hperm⟩ := hp
    rw [hd0] at hz
    have e1 : d'.extract 0 n = d' := by have := Array.extract_size (xs := d'); rwa [hz] at this
    have e2 : (Array.ofFn fun j : Fin n => j).extract 0 n = Array.ofFn fun j : Fin n => j := by
      have := Array.extract_size (xs := Array.ofFn fun j : Fin n => j)
      rwa [hd0] at this
    rw [e1, e2] at hperm
    have h6 := hperm.map (fun j : Fin n => j.val)
    have e3 : (Array.ofFn fun j : Fin n => j).toList.map (fun j : Fin n => j.val) = List.range n := by
      apply List.ext_getElem
      · simp
      · intro j h1 h2
        simp
    rw [e3] at h6
    exact h6
  · have hz := hp.1
    rw [hd0] at hz
    rw [List.pairwise_map, List.pairwise_iff_getElem]
    intro a b ha hb hab
    have ha' : a < d'.size := by simpa using ha
    have hb' : b < d'.size := by simpa using hb
    have h7 := hso a b (Nat.zero_le _) hab (by omega)
    simp only [ltOf, decide_eq_false_iff_not, getElem!_pos d' a ha', getElem!_pos d' b hb'] at h7
    simpa using h7
  · subst hw
    have hz := hp.1
    rw [hd0] at hz
    rw [List.map_map]
    exact hS.srtW hk hh hg hs m d' hz os
end Go.Proofs.YtjpkmpihmilgoaaGreat.Vc
/-
  The program's list of a rank and a number of flags. Conditions: none.
-/
namespace Go.Proofs.YtjpkmpihmilgoaaGreat.Vc
open Go.RowKit

def matNo : MatV := ⟨slNil, [], []⟩
def mv (ms : List MatV) (j : Nat) : MatV := ms.getD j matNo
theorem mv_at {ms : List MatV} {j : Nat} (hj : j < ms.length) : mv ms j = ms[j] := by simp [mv, List.getD_eq_getElem?_getD, List.getElem?_eq_getElem hj]
theorem mv_mem {ms : List MatV} {j : Nat} (hj : j < ms.length) : mv ms j ∈ ms := by rw [mv_at hj]; exact List.getElem_mem _
theorem sv_top (ms : List MatV) (j : Nat) : sv (ms.map (·.top)) j = (mv ms j).top := by
  simp only [sv, mv, List.getD_eq_getElem?_getD, List.getElem?_map]
  cases ms[j]? <;> rfl
theorem mv_range (ms : List MatV) : (List.range ms.length).map (mv ms) = ms := by
  apply List.ext_getElem
  · simp
  · intro j h1 h2
    simp [mv_at h2]

/-- the sort of a row of matrices, by the order of maniplexes -/
theorem sortM_c {w0 w : World} {A : Option Addr} {c : Nat} {ms : List MatV} {ks : List Ck} (hok : ∀ m ∈ ms, m.ok) (hsm : ∀ m ∈ ms, m.top.n ≤ 9223372036854775807) (hn : ms.length ≤ 4000000000000) (hS : St w0 w (CkR 32 A ms.length c (ms.map (·.top)) :: (ks ++ matsCk 34 2 ms))) :
    Ret Tryz.prog 53 [.slice A ms.length c, .func (.func 92) #[] #[]] w (fun v w' => v = .tuple #[] ∧ ∃ ms' : List MatV, ms'.Perm ms ∧ (ms'.map (·.xss)).Pairwise leM ∧
      St w0 w' (CkR 32 A ms'.length c (ms'.map (·.top)) :: (ks ++ matsCk 34 2 ms'))) := by
  refine Ret.mono (sortF_c 0 hS rfl hn 92 (fun a b => lexCC (mv ms a).xss (mv ms b).xss) (fun a b c _ _ _ => ⟨?_, fun h h' => lexCC_trans h h', fun h h' => leM_trans (a := (mv ms c).xss) (b := (mv ms b).xss) h' h⟩) (fun w' q hq hqn hW a b ha hb => ?_)) ?_
  · rw [lexCC_zero.2 rfl]; omega
  · have hr : ∀ j, j < ms.length → RowsI w' (mv ms j).top.a (mv ms j).top.n (mv ms j).rs (mv ms j).xss := fun j hj => by
      have hm := mv_mem hj
      exact hW.matAt (c := (mv ms j).top.c) (t1 := 34) (t2 := 2) (((MatV.sub_ hm).trans (List.sublist_append_right _ _)).trans (List.sublist_cons_self _ _)) (hok _ hm)
    rw [sv_top, sv_top]
    exact compareManiplexes_c _ _ _ _ _ _ _ _ _ _ _ (hr a ha) (hr b hb) (hsm _ (mv_mem ha))
  · rintro v w' ⟨hv, q, hp, hs, hW⟩
    have hp2 : (q.map (mv ms)).Perm ms := by have := hp.map (mv ms); rwa [mv_range] at this
    refine ⟨hv, q.map (mv ms), hp2, ?_, ?_⟩
    · rw [List.map_map, List.pairwise_map]
      exact hs
    · have e1 : q.map (sv (ms.map (·.top))) = (q.map (mv ms)).map (·.top) := by
        rw [List.map_map]
        exact List.map_congr_left fun j _ => sv_top ms j
      rw [e1] at hW
      have hW : St w0 w' (CkR 32 A ms.length c ((q.map (mv ms)).map (·.top)) :: (ks ++ matsCk 34 2 ms)) := hW
      rw [hp2.length_eq]
      exact hW.perm (List.Perm.cons _ (List.Perm.append_left _ (matsCk_perm hp2.symm)))

theorem leastTo_len (N : Nat) (xss : Mx) : ∀ k, (leastTo N xss k).length = xss.length
  | 0 => by rw [leastTo, formL_len]
  | k + 1 => by
    rw [leastTo]
    split
    · rw [formL_len]
    · exact leastTo_len N xss k
theorem leastL_len (N : Nat) (xss : Mx) : (leastL N xss).length = xss.length := leastTo_len N xss N
def lstI (rank flags : Int) : List Mx := if Small rank flags then listL rank.toNat flags.toNat else []
def lstK (rank flags : Int) : Int := if Small rank flags then 0 else 2

theorem allManiplexes_c (rank flags : Int) (w : World) :
    Ret Tryz.prog 45 [.int .i64 rank, .int .i64 flags] w (fun v w' => ∃ A c, ∃ ms : List MatV, v = .tuple #[.slice A ms.length c, .int .i64 (lstK rank flags)] ∧ ms.map (·.xss) = lstI rank flags ∧ (∀ m ∈ ms, m.ok) ∧
      St w w' (CkR 32 A ms.length c (ms.map (·.top)) :: matsCk 34 2 ms)) := by
  refine Ret.of_cd Tryz.func45 rfl Tryz.ntmps45 rfl (post2 rfl) ?_
  refine Cd.seq ?_
  refine Cd.region ?_
  refine Ops.mv_sl rfl rfl rfl ?_
  refine Ops.mv_int rfl rfl rfl ?_
  refine Ops.nil ?_
  refine thenQ_n ?_
  refine Cd.seq ?_
  refine Cd.seq ?_
  refine Cd.region ?_
  refine Ops.mv_int rfl rfl rfl ?_
  refine Ops.mv_int rfl rfl rfl ?_
  refine Ops.call (isSmall_c rank flags _) rfl rfl rfl ?_
  rintro _ w ⟨rfl, rfl⟩
  first | refine Ops.not_p rfl rfl ?_ | refine Ops.not rfl rfl ?_
  refine Ops.nil ?_
  refine thenQ_n ?_
  refine Cd.cond_p _ rfl (fun h => ?_) (fun h => ?_)
  · have hs : ¬ Small rank flags := h
    refine Cd.seq ?_
    refine Cd.region ?_
    refine Ops.mv_sl rfl rfl rfl ?_
    refine Ops.mv_int rfl rfl rfl ?_
    refine Ops.nil ?_
    refine thenQ_n ?_
    refine Cd.ret ?_
    refine thenQ_r ?_
    refine ret2_si rfl rfl ?_
    exact ⟨none, 0, [], by rw [lstK, if_neg hs]; rfl, by rw [lstI, if_neg hs]; rfl, fun m hm => (nomatch hm), (St.refl _).nil _⟩
  have hs : Small rank flags := Classical.not_not.1 h
  obtain ⟨n, rfl⟩ : ∃ n : Nat, rank = n := ⟨rank.toNat, by have := hs.1; omega⟩
  obtain ⟨F, rfl⟩ : ∃ F : Nat, flags = F := ⟨flags.toNat, by have := hs.2; omega⟩
  have hs1 := hs.1
  have hs2 := hs.2
  have hn : 1 ≤ n ∧ n ≤ 4 := by omega
  have hF : 2 ≤ F ∧ F ≤ 12 := by omega
  have eL : lstI n F = listL n F := by rw [lstI, if_pos hs]; rfl
  have eK : lstK n F = 0 := by rw [lstK, if_pos hs]
  refine Cd.skip ?_
  refine thenQ_n ?_
  refine Cd.seq ?_
  refine Cd.region ?_
  refine Ops.mv_sl rfl rfl rfl ?_
  refine Ops.nil ?_
  refine thenQ_n ?_
  refine Cd.seq ?_
  refine Cd.seq ?_
  refine Cd.region ?_
  refine Ops.mv_int rfl rfl rfl ?_
  refine Ops.mv_int rfl rfl rfl ?_
  refine Ops.call (rootedForms_c n F hn hF _) rfl rfl rfl ?_
  rintro _ w1 ⟨A6, c6, all, rfl, hok, hall, hst⟩
  have hsm := forms_small hn hF (F * n + 1)
  rw [← hall, List.length_map] at hsm
  have hman : ∀ m ∈ all, Mani m.xss ∧ Inv n F m.xss F (F * n) := fun m hm => forms_mani (by omega) (by omega) (by rw [formsL, ← hall]; exact List.mem_map_of_mem hm)
  have hown : ∀ m ∈ all, (leastL F m.xss = m.xss ↔ Own1 F m.xss) := fun m hm => own_least (n := n) (by omega) (by omega) (by rw [formsL, ← hall]; exact List.mem_map_of_mem hm)
  have hlen : ∀ m ∈ all, m.xss.length = n := fun m hm => (hman m hm).2.shp.1
  have htn : ∀ m ∈ all, m.top.n = n := fun m hm => by rw [← hok m hm]; exact hlen m hm
  have hgF : ∀ m ∈ all, F = (gl m.xss 0).length := fun m hm => ((hman m hm).2.shp.row (i := 0) (by omega)).symm
  have hRR := hst.rdR 0 rfl
  have hmr : ∀ m ∈ all, RowsI w1 m.top.a n m.rs m.xss := fun m hm => by
    have := hst.matAt (c := m.top.c) (t1 := 34) (t2 := 2) ((MatV.sub_ hm).trans (List.sublist_cons_self _ _)) (hok m hm)
    rw [htn m hm] at this
    exact this
  have hS1 := (St.refl w1).nil 32
  refine Ops.len rfl rfl ?_
  refine Ops.mv_int rfl rfl rfl ?_
  refine Ops.nil ?_
  refine thenQ_n ?_
  refine Cd.block ?_
  refine Cd.loop (α := Nat × (Option Addr × Nat)) (fun s => [(6, .slice s.2.1 (selV F (all.take s.1)).length s.2.2), (15, .slice A6 all.length c6), (16, .int .i64 (all.length : Int)), (17, .int .i64 (s.1 : Int))])
    (fun s w' => St w1 w' [CkR 32 s.2.1 (selV F (all.take s.1)).length s.2.2 ((selV F (all.take s.1)).map (·.top))] ∧ s.1 ≤ all.length) (fun s => all.length - s.1)
    (0, (none, 0)) ⟨rfl, rfl, rfl, rfl, trivial⟩ ⟨hS1, Nat.zero_le _⟩ ?_
  rintro ⟨i, ⟨B6, c7⟩⟩ e w4 ⟨hS4, hi⟩
  dsimp only at hS4 hi ⊢
  have houts : (selV F (all.take i)).length ≤ i := by
    have h2 := List.length_filter_le (fun m : MatV => decide (Own1 F m.xss)) (all.take i)
    have h3 : (selV F (all.take i)).length ≤ (all.take i).length := h2
    rw [List.length_take] at h3
    omega
  refine Cd.seq ?_
  refine Cd.region ?_
  refine Ops.lss rfl rfl rfl ?_
  refine Ops.nil ?_
  refine thenQ_n ?_
  refine Cd.seq ?_
  refine Cd.cond_p _ rfl (fun h1 => ?_) (fun h1 => ?_)
  · have hi' : i < all.length := by omega
    have hm := List.getElem_mem hi'
    have hti := top_at hi'
    have hRR4 := hRR.later hS4.below
    have hX := (hmr _ hm).later hS4.below
    have hsn := selV_snoc (F := F) hi'
    have hXm := (hman _ hm).1
    have hXF := hgF _ hm
    have hXo := hown _ hm
    refine Cd.skip ?_
    refine thenQ_n ?_
    refine Cd.seq ?_
    refine Cd.block ?_
    refine Cd.seq ?_
    refine Cd.region ?_
    refine Ops.idx hRR4.2 rfl rfl rfl (by omega) (by omega) ?_
    refine Ops.ld_ag hRR4 rfl (by omega) rfl ?_
    rw [hti, htn _ hm]
    generalize hXe : all[i] = X at *
    have hXt : (⟨X.top.a, n, X.top.c⟩ : SlV) = X.top := by rw [← htn _ hm]
    refine Ops.new1 hS4 rfl ?_
    intro A8 w5 hS5
    refine Ops.st_agg 1 0 hS5 rfl rfl rfl rfl rfl rfl rfl ?_
    intro w6 hS6
    have hS6 : St w1 w6 [Bx 32 1 A8 [.slice X.top.a n X.top.c], CkR 32 B6 (selV F (all.take i)).length c7 ((selV F (all.take i)).map (·.top))] := hS6
    have hB6 := hS6.rd 0 rfl
    have hX6 := (hmr _ hm).later hS6.below
    refine Ops.nil ?_
    refine thenQ_n ?_
    refine Cd.seq ?_
    refine Cd.draw [.ex (.agg #[.slice (X.top.a) (n) (X.top.c)]), .pr (fun v w' => ∃ A9 c9 rs9, v = .agg #[.slice A9 n c9] ∧ RowsI w' A9 n rs9 (leastL F X.xss)), .ex (.agg #[.slice (X.top.a) (n) (X.top.c)]), .ex (.bool (decide (leastL F X.xss = X.xss)))] (by kernel_rfl) (by kernel_rfl) rfl (List.forall_mem_cons.2 ⟨Yd.lasts_ex _, (List.forall_mem_cons.2 ⟨Yd.lasts_pr (fun v w w' h hb => by obtain ⟨A9, c9, rs9, hv, hT⟩ := h; exact ⟨A9, c9, rs9, hv, hT.later hb⟩), (List.forall_mem_cons.2 ⟨Yd.lasts_ex _, (List.forall_mem_cons.2 ⟨Yd.lasts_ex _, (fun _ h => by cases h)⟩)⟩)⟩)⟩) ⟨?_, ?_, ?_, ?_, trivial⟩ ?_
    · intro e1 w1 hb hp hun
      refine Ops.ld_agg 0 (hB6.below hb) rfl rfl rfl ?_
      refine Ops.nil ?_
      exact After.dn (Below.refl _ _) (by exact rfl)
    · intro e1 w1 hb hp hun
      refine Ops.call (leastForm_c X.top.a n X.top.c X.rs X.xss F _ (hX6.later hb) hXm hXF) rfl rfl rfl ?_
      rintro _ w9 ⟨A9, c9, rs9, rfl, hl9, hst9⟩
      refine Ops.nil ?_
      exact After.dn hst9.below ⟨A9, c9, rs9, rfl, hst9.matAt (List.Sublist.refl _) (by rw [leastL_len]; exact hlen _ hm)⟩
    · intro e1 w1 hb hp hun
      refine Ops.ld_agg 0 (hB6.below hb) rfl rfl rfl ?_
      refine Ops.nil ?_
      exact After.dn (Below.refl _ _) (by exact rfl)
    · intro e1 w1 hb hp hun
      obtain ⟨A9, c9, rs9, h22, hT⟩ := (hp 1 (by decide) rfl _ _ rfl rfl)
      refine Ops.call (sameManiplex_c A9 n c9 rs9 _ X.top.a n X.top.c X.rs X.xss _ hT (hX6.later hb) (by omega)) rfl (by exact congrArg (fun v => [v, Value.agg #[.slice X.top.a n X.top.c]]) h22) rfl ?_
      rintro _ w9 ⟨rfl, hst9⟩
      refine Ops.nil ?_
      exact After.dn hst9.below rfl
    intro uu w7 hb7 _
    have hS7 := hS6.later hb7
    refine thenQ_n ?_
    refine Cd.cond_p _ rfl (fun h2 => ?_) (fun h2 => ?_)
    · rw [if_pos (hXo.1 h2)] at hsn
      have e1 : (selV F (all.take i) ++ [X]).length = (selV F (all.take i)).length + 1 := by simp
      refine Cd.region ?_
      refine Ops.mv_sl rfl rfl rfl ?_
      refine Ops.ld_agg 0 (hS7.rd 0 rfl) rfl rfl rfl ?_
      refine Ops.bs1A hS7 rfl rfl rfl ?_
      intro A10 w8 hS8
      rw [hXt] at hS8
      refine Ops.appR 2 hS8 rfl (hS8.rdR 0 rfl) rfl rfl rfl (by omega) (by omega) rfl ?_
      intro A11 c11 w9 hS9
      have hS9 : St w1 w9 [CkR 32 A10 1 1 [X.top], Bx 32 1 A8 [.slice X.top.a n X.top.c], CkR 32 A11 ((selV F (all.take i)).length + 1) c11 ((selV F (all.take i)).map (·.top) ++ [X.top])] := hS9
      refine Ops.mv_sl rfl rfl rfl ?_
      refine Ops.nil ?_
      refine blockQ_n ?_
      refine thenQ_n ?_
      refine Cd.region ?_
      refine Ops.add rfl rfl rfl (by omega) ?_
      refine Ops.mv_int rfl rfl rfl ?_
      refine Ops.nil ?_
      refine thenQ_n ?_
      refine ⟨(i + 1, (A11, c11)), by show all.length - (i + 1) < all.length - i; omega, ⟨by show Value.slice _ _ _ = .slice _ (selV F (all.take (i + 1))).length _; rw [hsn, e1], rfl, rfl, rfl, trivial⟩, ?_, hi'⟩
      show St w1 w9 [CkR _ A11 (selV F (all.take (i + 1))).length c11 ((selV F (all.take (i + 1))).map (·.top))]
      rw [hsn, e1, List.map_append]
      exact hS9.tail.tail
    · rw [if_neg (fun h => h2 (hXo.2 h))] at hsn
      refine Cd.skip ?_
      refine blockQ_n ?_
      refine thenQ_n ?_
      refine Cd.region ?_
      refine Ops.add rfl rfl rfl (by omega) ?_
      refine Ops.mv_int rfl rfl rfl ?_
      refine Ops.nil ?_
      refine thenQ_n ?_
      refine ⟨(i + 1, (B6, c7)), by show all.length - (i + 1) < all.length - i; omega, ⟨by show Value.slice _ _ _ = .slice _ (selV F (all.take (i + 1))).length _; rw [hsn], rfl, rfl, rfl, trivial⟩, ?_, hi'⟩
      show St w1 w7 [CkR _ B6 (selV F (all.take (i + 1))).length c7 ((selV F (all.take (i + 1))).map (·.top))]
      rw [hsn]
      exact hS7.tail
  · have hin : i = all.length := by omega
    subst hin
    rw [List.take_length] at *
    have hsub : ∀ m ∈ selV F all, m ∈ all := fun m hm => (List.mem_filter.1 hm).1
    have hj : St w w4 (CkR 32 B6 (selV F all).length c7 ((selV F all).map (·.top)) :: ([] ++ matsCk 34 2 (selV F all))) := by
      refine (hst.call hS4).sub ?_
      refine List.Sublist.cons_cons _ ((matsCk_sub List.filter_sublist).trans (List.sublist_cons_self _ _))
    have hfx : (selV F all).map (·.xss) = ownL n F := by
      rw [ownL, formsL, ← hall, selV, List.filter_map]
      rfl
    refine Cd.exit ?_
    refine thenQ_x ?_
    refine thenQ_x ?_
    refine blockQ_x ?_
    refine thenQ_n ?_
    refine Cd.seq ?_
    refine Cd.region ?_
    refine Ops.mv_sl rfl rfl rfl ?_
    refine Ops.call (sortM_c (fun m hm => hok m (hsub m hm)) (fun m hm => by rw [htn m (hsub m hm)]; omega) (by omega) hj) rfl rfl rfl ?_
    rintro _ w5 ⟨rfl, ms', hp, hso, hS5⟩
    refine Ops.nil ?_
    refine thenQ_n ?_
    refine Cd.seq ?_
    refine Cd.region ?_
    refine Ops.mv_sl rfl rfl rfl ?_
    refine Ops.mv_sl rfl rfl rfl ?_
    refine Ops.mv_int rfl rfl rfl ?_
    refine Ops.nil ?_
    refine thenQ_n ?_
    refine Cd.ret ?_
    refine ret2_si rfl rfl ?_
    have e2 : ms'.map (·.xss) = listL n F := ordM_one (by rw [← hfx]; exact hp.map _) hso
    exact ⟨B6, c7, ms', by rw [eK, hp.length_eq], by rw [eL]; exact e2, fun m hm => hok m (hsub m (hp.mem_iff.1 hm)), hS5⟩
end Go.Proofs.YtjpkmpihmilgoaaGreat.Vc
/-
  The walk of the law FnExactPetrieCycles: it returns true. Conditions: as it states them.
-/
namespace Go.Proofs.YtjpkmpihmilgoaaGreat.Vc
open Go.RowKit

end Go.Proofs.YtjpkmpihmilgoaaGreat.Vc
/-
  The laws' marks over lists of lists, told exactly. Conditions: as each states them.
-/
namespace Go.Proofs.YtjpkmpihmilgoaaGreat.Vc
open Go.RowKit

def tot (xss : List (List Int)) : Int := ((xss.map List.length).sum : Nat)
def mkSS (k : Int) : List (List Int) → List (List Int)
  | [] => []
  | x :: xs => marks k x.length :: mkSS (k + x.length) xs
def mixM (k : Int) (xs : List (List Int)) (i : Nat) : List (List Int) := mkSS k (xs.take i) ++ xs.drop i
end Go.Proofs.YtjpkmpihmilgoaaGreat.Vc
/-
  Lists of maniplexes compared, marked and found marked; and the answers of CountManiplexes, AllManiplexes and ManiplexAt on both sides. Conditions: as each states them.
-/
namespace Go.Proofs.YtjpkmpihmilgoaaGreat.Vc
open Go.RowKit

/-- a list of matrices, read -/
structure MsR (w : World) (A : Option Addr) (ms : List MatV) : Prop where
  top : RdR w A ms.length (ms.map (·.top))
  row : ∀ m ∈ ms, RowsI w m.top.a m.top.n m.rs m.xss
theorem MsR.later {w w' : World} {A : Option Addr} {ms : List MatV} (h : MsR w A ms) (hb : Below w.heap.size w w') : MsR w' A ms := ⟨h.top.later hb, fun m hm => (h.row m hm).later hb⟩
theorem St.msR {w0 w : World} {A : Option Addr} {c : Nat} {ms : List MatV} {ks : List Ck} (h : St w0 w ks) (hok : ∀ m ∈ ms, m.ok) (hs : (CkR 32 A ms.length c (ms.map (·.top)) :: matsCk 34 2 ms).Sublist ks) : MsR w A ms :=
  ⟨(h.sub hs).rdR 0 rfl, fun m hm => h.matAt (c := m.top.c) (t1 := 34) (t2 := 2) (((MatV.sub_ hm).trans (List.sublist_cons_self _ _)).trans hs) (hok m hm)⟩
theorem MsR.at_ {w : World} {A : Option Addr} {ms : List MatV} (h : MsR w A ms) {i : Nat} (hi : i < ms.length) : RowsI w (rg (ms.map (·.top)) (i : Int)).a (rg (ms.map (·.top)) (i : Int)).n (ms[i]).rs (ms[i]).xss := by
  rw [top_at hi]; exact h.row _ (List.getElem_mem hi)

/-! marks -/
def totM (ms : List MatV) : Int := ((ms.map fun m => (m.xss.map List.length).sum).sum : Nat)
theorem totM_cons (ms : List MatV) (m : MatV) : totM (m :: ms) = tot m.xss + totM ms := by simp [totM, tot]
def mkV (k : Int) : List MatV → List MatV
  | [] => []
  | m :: ms => { m with xss := mkSS k m.xss } :: mkV (k + tot m.xss) ms
/-- small matrices -/
def SmV (m : MatV) : Prop := m.rs.length = m.top.n ∧ m.xss.length = m.top.n ∧ m.top.n ≤ 4 ∧ ∀ x ∈ m.xss, x.length ≤ 12
end Go.Proofs.YtjpkmpihmilgoaaGreat.Vc
/-
  CountManiplexes and AllManiplexes on both sides, and the walks of their laws. Conditions: none.
-/
namespace Go.Proofs.YtjpkmpihmilgoaaGreat.Vc
open Go.RowKit

/-- an answer: a list of maniplexes, and a code -/
def AnsM (L : List Mx) (K : Int) (w : World) (v : Value) (w' : World) : Prop := ∃ A c, ∃ ms : List MatV, v = .tuple #[.slice A ms.length c, .int .i64 K] ∧ ms.map (·.xss) = L ∧ (∀ m ∈ ms, m.ok) ∧
      St w w' (CkR 32 A ms.length c (ms.map (·.top)) :: matsCk 34 2 ms)
theorem AnsM.none {w w' : World} {ks : List Ck} {K : Int} (h : St w w' ks) : AnsM [] K w (.tuple #[.slice Option.none 0 0, .int .i64 K]) w' := ⟨Option.none, 0, [], rfl, rfl, fun m hm => (nomatch hm), h.none.nil _⟩
theorem lst_small {rank flags : Int} {L : Mx} (h : L ∈ lstI rank flags) : Small rank flags ∧ L.length = rank.toNat ∧ (∀ x ∈ L, x.length = flags.toNat) ∧ L.length ≤ 4 ∧ ∀ x ∈ L, x.length ≤ 12 := by
  unfold lstI at h
  split at h
  · rename_i hs
    have h1 := hs.1
    have h2 := hs.2
    have hL := (forms_mani (by omega) (by omega) (listL_mem.1 h).1).2.shp
    exact ⟨hs, hL.1, hL.2, by rw [hL.1]; omega, fun x hx => by rw [hL.2 x hx]; omega⟩
  · cases h
theorem lst_len (rank flags : Int) : (lstI rank flags).length ≤ 4000000000000 := by
  unfold lstI
  split
  · rename_i hs
    have h1 := hs.1
    have h2 := hs.2
    rw [listL_len]
    exact Nat.le_trans (ownL_le _ _) (forms_small (n := rank.toNat) (F := flags.toNat) (by omega) (by omega) _)
  · exact Nat.zero_le _
theorem St.rsLen {w0 w : World} {ks : List Ck} {m : MatV} (h : St w0 w ks) (hs : (m.cks 34 2).Sublist ks) : m.rs.length = m.top.n := by
  have := ((h.own (CkR 34 m.top.a m.top.n m.top.c m.rs) (hs.subset (by simp [MatV.cks, mat]))).toC (isM_R _)).1
  simpa using this
theorem St.smV {w0 w : World} {ks : List Ck} {ms : List MatV} {rank flags : Int} (h : St w0 w ks) (hs : (matsCk 34 2 ms).Sublist ks) (hL : ms.map (·.xss) = lstI rank flags) (hok : ∀ m ∈ ms, m.ok) : ∀ m ∈ ms, SmV m := fun m hm => by
  have hl := lst_small (by rw [← hL]; exact List.mem_map_of_mem (f := (·.xss)) hm)
  have ho := hok m hm
  unfold MatV.ok at ho
  exact ⟨h.rsLen ((MatV.sub_ hm).trans hs), ho, by rw [← ho]; exact hl.2.2.2.1, hl.2.2.2.2⟩

/-! counts -/
def cnK (rank flags : Int) : Int := ((lstI rank flags).length : Nat)
theorem implCountManiplexes_c (rank flags : Int) (w : World) : Ret Tryz.prog 11 [.int .i64 rank, .int .i64 flags] w (fun v w' => v = .tuple #[.int .i64 (cnK rank flags), .int .i64 (lstK rank flags)] ∧ St w w' []) := by
  refine Ret.of_cd Tryz.func11 rfl Tryz.ntmps11 rfl (post2 rfl) ?_
  refine Cd.seq ?_
  refine Cd.region ?_
  refine Ops.mv_int rfl rfl rfl ?_
  refine Ops.mv_int rfl rfl rfl ?_
  refine Ops.nil ?_
  refine thenQ_n ?_
  refine Cd.seq ?_
  refine Cd.region ?_
  refine Ops.mv_int rfl rfl rfl ?_
  refine Ops.mv_int rfl rfl rfl ?_
  refine Ops.call (allManiplexes_c rank flags _) rfl rfl rfl ?_
  rintro _ w2 ⟨A, c, ms, rfl, hL, hok, hS⟩
  refine Ops.mv_tup rfl rfl rfl ?_
  refine Ops.extract rfl rfl rfl ?_
  refine Ops.extract rfl rfl rfl ?_
  refine Ops.mv_sl rfl rfl rfl ?_
  refine Ops.mv_int rfl rfl rfl ?_
  refine Ops.nil ?_
  refine thenQ_n ?_
  refine Cd.seq ?_
  refine Cd.region ?_
  refine Ops.mv_sl rfl rfl rfl ?_
  refine Ops.call (sizeM_c _ _ _ _) rfl rfl rfl ?_
  rintro _ w2 ⟨rfl, rfl⟩
  refine Ops.mv_int rfl rfl rfl ?_
  refine Ops.mv_int rfl rfl rfl ?_
  refine Ops.mv_int rfl rfl rfl ?_
  refine Ops.nil ?_
  refine thenQ_n ?_
  refine Cd.ret ?_
  refine ret2_ii rfl rfl ?_
  exact ⟨by rw [cnK, ← hL, List.length_map], hS.none⟩
/-! the lists -/
theorem specAllManiplexes_c (rank flags : Int) (w : World) : Ret Tryz.prog 9 [.int .i64 rank, .int .i64 flags] w (AnsM (lstI rank flags) (lstK rank flags) w) := by
  refine Ret.of_cd Tryz.func9 rfl Tryz.ntmps9 rfl (post2 rfl) ?_
  refine Cd.seq ?_
  refine Cd.region ?_
  refine Ops.mv_sl rfl rfl rfl ?_
  refine Ops.mv_int rfl rfl rfl ?_
  refine Ops.nil ?_
  refine thenQ_n ?_
  refine Cd.seq ?_
  refine Cd.seq ?_
  refine Cd.region ?_
  refine Ops.mv_int rfl rfl rfl ?_
  refine Ops.mv_int rfl rfl rfl ?_
  refine Ops.call (l19Code_c rank flags _) rfl rfl rfl ?_
  rintro _ w ⟨rfl, rfl⟩
  refine Ops.mv_int rfl rfl rfl ?_
  refine Ops.nil ?_
  refine thenQ_n ?_
  refine Cd.seq ?_
  refine Cd.region ?_
  refine Ops.mv_int rfl rfl rfl ?_
  refine Ops.neq rfl rfl rfl ?_
  refine Ops.nil ?_
  refine thenQ_n ?_
  refine Cd.cond_p _ rfl (fun h => ?_) (fun h => ?_)
  · have hs : ¬ Small rank flags := fun hs => h (by rw [if_pos hs])
    refine Cd.seq ?_
    refine Cd.region ?_
    refine Ops.mv_int rfl rfl rfl ?_
    refine Ops.mv_sl rfl rfl rfl ?_
    refine Ops.mv_int rfl rfl rfl ?_
    refine Ops.nil ?_
    refine thenQ_n ?_
    refine Cd.ret ?_
    refine thenQ_r ?_
    refine ret2_si rfl rfl ?_
    rw [if_neg hs, lstK, lstI, if_neg hs, if_neg hs]
    exact AnsM.none (St.refl _)
  · have hs : Small rank flags := Classical.byContradiction fun hs => h (by rw [if_neg hs]; decide)
    obtain ⟨n, rfl⟩ : ∃ n : Nat, rank = n := ⟨rank.toNat, by have := hs.1; omega⟩
    obtain ⟨F, rfl⟩ : ∃ F : Nat, flags = F := ⟨flags.toNat, by have := hs.2; omega⟩
    have hs1 := hs.1
    have hs2 := hs.2
    refine Cd.skip ?_
    refine thenQ_n ?_
    refine Cd.seq ?_
    refine Cd.region ?_
    refine Ops.mv_int rfl rfl rfl ?_
    refine Ops.mv_int rfl rfl rfl ?_
    refine Ops.call (l19List_c n F (by omega) (by omega) _) rfl rfl rfl ?_
    rintro _ w2 ⟨A, c, A2, c2, ms, rfl, hL, hok, hS⟩
    refine Ops.mv_tup rfl rfl rfl ?_
    refine Ops.extract rfl rfl rfl ?_
    refine Ops.extract rfl rfl rfl ?_
    refine Ops.mv_sl rfl rfl rfl ?_
    refine Ops.mv_sl rfl rfl rfl ?_
    refine Ops.nil ?_
    refine thenQ_n ?_
    refine Cd.seq ?_
    refine Cd.region ?_
    refine Ops.mv_sl rfl rfl rfl ?_
    refine Ops.mv_sl rfl rfl rfl ?_
    refine Ops.mv_int rfl rfl rfl ?_
    refine Ops.nil ?_
    refine thenQ_n ?_
    refine Cd.ret ?_
    refine ret2_si rfl rfl ?_
    rw [lstK, lstI, if_pos hs, if_pos hs, Int.toNat_natCast, Int.toNat_natCast]
    exact ⟨A, c, ms, rfl, hL, hok, hS.sub (List.Sublist.cons_cons _ (List.sublist_cons_self _ _))⟩
theorem implAllManiplexes_c (rank flags : Int) (w : World) : Ret Tryz.prog 8 [.int .i64 rank, .int .i64 flags] w (AnsM (lstI rank flags) (lstK rank flags) w) := by
  refine Ret.of_cd Tryz.func8 rfl Tryz.ntmps8 rfl (post2 rfl) ?_
  refine Cd.seq ?_
  refine Cd.region ?_
  refine Ops.mv_sl rfl rfl rfl ?_
  refine Ops.mv_int rfl rfl rfl ?_
  refine Ops.nil ?_
  refine thenQ_n ?_
  refine Cd.seq ?_
  refine Cd.region ?_
  refine Ops.mv_int rfl rfl rfl ?_
  refine Ops.mv_int rfl rfl rfl ?_
  refine Ops.call (allManiplexes_c rank flags _) rfl rfl rfl ?_
  rintro _ w2 ⟨A, c, ms, rfl, hL, hok, hS⟩
  refine Ops.extract rfl rfl rfl ?_
  refine Ops.extract rfl rfl rfl ?_
  refine Ops.mv_sl rfl rfl rfl ?_
  refine Ops.mv_int rfl rfl rfl ?_
  refine Ops.nil ?_
  refine thenQ_n ?_
  refine Cd.ret ?_
  refine ret2_si rfl rfl ?_
  exact ⟨A, c, ms, rfl, hL, hok, hS⟩
end Go.Proofs.YtjpkmpihmilgoaaGreat.Vc
/-
  ManiplexAt on both sides, and the walk of its law. Conditions: none.
-/
namespace Go.Proofs.YtjpkmpihmilgoaaGreat.Vc
open Go.RowKit

/-- an answer: a maniplex, or none, and a code -/
def AnsX (L : Mx) (K : Int) (w : World) (v : Value) (w' : World) : Prop := ∃ A c, ∃ rs : List SlV, v = .tuple #[.agg #[.slice A L.length c], .int .i64 K] ∧ rs.length = L.length ∧ St w w' (mat 34 2 A L.length c rs L)
theorem AnsX.none {w w' : World} {ks : List Ck} {K : Int} (h : St w w' ks) : AnsX [] K w (.tuple #[.agg #[.slice Option.none 0 0], .int .i64 K]) w' := ⟨Option.none, 0, [], rfl, rfl, h.none.nil _⟩

/-! marks on one maniplex, exact -/
/-! the answers -/
def atK (rank flags i : Int) : Int := if ¬ Small rank flags ∨ i < 0 then 2 else if ((lstI rank flags).length : Int) ≤ i then 4 else 0
def atL (rank flags i : Int) : Mx := if i < 0 then [] else (lstI rank flags).getD i.toNat []
theorem at_bad {rank flags i : Int} (h : ¬ Small rank flags ∨ i < 0) : atL rank flags i = [] ∧ atK rank flags i = 2 := by
  unfold atL atK
  refine ⟨?_, if_pos h⟩
  split
  · rfl
  · rename_i hi
    have hs : ¬ Small rank flags := h.resolve_right hi
    rw [lstI, if_neg hs]
    rfl
theorem at_off {rank flags i : Int} (hs : Small rank flags) (h0 : 0 ≤ i) (h : ((lstI rank flags).length : Int) ≤ i) : atL rank flags i = [] ∧ atK rank flags i = 4 := by
  unfold atL atK
  rw [if_neg (by omega), if_neg (fun h => h.elim (fun h => h hs) (by omega)), if_pos h]
  refine ⟨?_, rfl⟩
  rw [List.getD_eq_getElem?_getD, List.getElem?_eq_none (by omega)]
  rfl
theorem at_in {rank flags i : Int} {ms : List MatV} (hs : Small rank flags) (h0 : 0 ≤ i) (h : i.toNat < ms.length) (hL : ms.map (·.xss) = lstI rank flags) : atL rank flags i = ms[i.toNat].xss ∧ atK rank flags i = 0 := by
  have hl : ms.length = (lstI rank flags).length := by rw [← hL, List.length_map]
  unfold atL atK
  rw [if_neg (by omega), if_neg (fun h => h.elim (fun h => h hs) (by omega)), if_neg (by omega)]
  refine ⟨?_, rfl⟩
  rw [← hL, List.getD_eq_getElem?_getD, List.getElem?_map, List.getElem?_eq_getElem h]
  rfl

theorem implManiplexAt_c (rank flags i : Int) (w : World) : Ret Tryz.prog 22 [.int .i64 rank, .int .i64 flags, .int .i64 i] w (AnsX (atL rank flags i) (atK rank flags i) w) := by
  refine Ret.of_cd Tryz.func22 rfl Tryz.ntmps22 rfl (postc2 rfl rfl) ?_
  refine Cd.seq ?_
  refine Cd.region ?_
  refine Ops.new1 (St.refl w) rfl ?_
  intro A6 w1 hS1
  refine Ops.mv_int rfl rfl rfl ?_
  refine Ops.nil ?_
  refine thenQ_n ?_
  refine Cd.seq ?_
  refine Cd.seq ?_
  refine Cd.region ?_
  refine Ops.mv_int rfl rfl rfl ?_
  refine Ops.mv_int rfl rfl rfl ?_
  refine Ops.call (isSmall_c rank flags _) rfl rfl rfl ?_
  rintro _ w1 ⟨rfl, rfl⟩
  first | refine Ops.not_p rfl rfl ?_ | refine Ops.not rfl rfl ?_
  refine Ops.mv_bool rfl rfl rfl ?_
  refine Ops.split_p 14 rfl (fun h => ?_) (fun h => ?_)
  · have hs : ¬ Small rank flags := h
    refine Ops.skipg rfl rfl rfl rfl rfl ?_
    refine Ops.skipg rfl rfl rfl rfl rfl ?_
    refine Ops.pick_t rfl rfl rfl ?_
    refine Ops.nil ?_
    refine thenQ_n ?_
    refine Cd.cond_t rfl ?_
    refine Cd.seq ?_
    refine Cd.region ?_
    refine Ops.bld0 (by exact inferInstance) rfl ?_
    refine Ops.st_agg 1 0 hS1 rfl rfl rfl rfl rfl rfl rfl ?_
    intro w2 hS2
    refine Ops.mv_int rfl rfl rfl ?_
    refine Ops.nil ?_
    refine thenQ_n ?_
    refine Cd.ret ?_
    refine thenQ_r ?_
    skip
    refine retc2_r rfl (hS2.rd 0 rfl) rfl ?_
    rw [(at_bad (.inl hs)).1, (at_bad (i := i) (.inl hs)).2]
    exact AnsX.none hS2
  · have hs : Small rank flags := Classical.not_not.1 h
    refine Ops.rung rfl rfl rfl ?_
    refine Ops.mv_int rfl rfl rfl ?_
    refine Ops.rung rfl rfl rfl ?_
    refine Ops.lss rfl rfl rfl ?_
    refine Ops.pick_f rfl rfl rfl ?_
    refine Ops.nil ?_
    refine thenQ_n ?_
    refine Cd.cond_p _ rfl (fun h2 => ?_) (fun h2 => ?_)
    · refine Cd.seq ?_
      refine Cd.region ?_
      refine Ops.bld0 (by exact inferInstance) rfl ?_
      refine Ops.st_agg 1 0 hS1 rfl rfl rfl rfl rfl rfl rfl ?_
      intro w2 hS2
      refine Ops.mv_int rfl rfl rfl ?_
      refine Ops.nil ?_
      refine thenQ_n ?_
      refine Cd.ret ?_
      refine thenQ_r ?_
      skip
      refine retc2_r rfl (hS2.rd 0 rfl) rfl ?_
      rw [(at_bad (.inr h2)).1, (at_bad (.inr h2)).2]
      exact AnsX.none hS2
    · have hi0 : 0 ≤ i := by omega
      refine Cd.skip ?_
      refine thenQ_n ?_
      refine Cd.seq ?_
      refine Cd.region ?_
      refine Ops.mv_int rfl rfl rfl ?_
      refine Ops.mv_int rfl rfl rfl ?_
      refine Ops.call (allManiplexes_c rank flags _) rfl rfl rfl ?_
      rintro _ w2 ⟨A, c, ms, rfl, hL, hok, hS⟩
      have hl : ms.length = (lstI rank flags).length := by rw [← hL, List.length_map]
      have hS2 := (hS1.call hS).perm List.perm_append_comm
      refine Ops.mv_tup rfl rfl rfl ?_
      refine Ops.extract rfl rfl rfl ?_
      refine Ops.extract rfl rfl rfl ?_
      refine Ops.mv_sl rfl rfl rfl ?_
      refine Ops.mv_int rfl rfl rfl ?_
      refine Ops.nil ?_
      refine thenQ_n ?_
      refine Cd.seq ?_
      refine Cd.seq ?_
      refine Cd.region ?_
      refine Ops.mv_int rfl rfl rfl ?_
      refine Ops.mv_sl rfl rfl rfl ?_
      refine Ops.call (sizeM_c _ _ _ _) rfl rfl rfl ?_
      rintro _ w2 ⟨rfl, rfl⟩
      refine Ops.geq rfl rfl rfl ?_
      refine Ops.nil ?_
      refine thenQ_n ?_
      refine Cd.cond_p _ rfl (fun h3 => ?_) (fun h3 => ?_)
      · refine Cd.seq ?_
        refine Cd.region ?_
        refine Ops.bld0 (by exact inferInstance) rfl ?_
        refine Ops.st_agg 1 0 hS2 rfl rfl rfl rfl rfl rfl rfl ?_
        intro w3 hS3
        refine Ops.mv_int rfl rfl rfl ?_
        refine Ops.nil ?_
        refine thenQ_n ?_
        refine Cd.ret ?_
        refine thenQ_r ?_
        skip
        refine retc2_r rfl (hS3.rd 0 rfl) rfl ?_
        rw [(at_off hs hi0 (by omega)).1, (at_off hs hi0 (by omega)).2]
        exact AnsX.none hS3
      · have hlt : i.toNat < ms.length := by omega
        have hR := hS2.rdR 1 rfl
        refine Cd.skip ?_
        refine thenQ_n ?_
        refine Cd.seq ?_
        refine Cd.region ?_
        refine Ops.mv_sl rfl rfl rfl ?_
        refine Ops.mv_int rfl rfl rfl ?_
        refine Ops.idx hR.2 rfl rfl rfl hi0 (by omega) ?_
        refine Ops.ld_ag hR rfl hlt rfl ?_
        refine Ops.st_agg 1 0 hS2 rfl rfl rfl rfl rfl rfl rfl ?_
        intro w3 hS3
        refine Ops.mv_int rfl rfl rfl ?_
        refine Ops.nil ?_
        refine thenQ_n ?_
        refine Cd.ret ?_
        skip
        refine retc2_r rfl (hS3.rd 0 rfl) rfl ?_
        have ht : rg (ms.map (·.top)) i = ms[i.toNat].top := by
          have := top_at hlt
          rwa [Int.toNat_of_nonneg hi0] at this
        have ho := hok _ (List.getElem_mem hlt)
        have hsub : (ms[i.toNat].cks 34 2).Sublist (Bx 32 1 A6 [.slice (rg (ms.map (·.top)) i).a (rg (ms.map (·.top)) i).n (rg (ms.map (·.top)) i).c] :: CkR 32 A ms.length c (ms.map (·.top)) :: matsCk 34 2 ms) := ((MatV.sub_ (List.getElem_mem hlt)).trans (List.sublist_cons_self _ _)).trans (List.sublist_cons_self _ _)
        have hrl := hS3.rsLen hsub
        have hX := hS3.sub hsub
        rw [(at_in hs hi0 hlt hL).1, (at_in hs hi0 hlt hL).2]
        unfold MatV.ok at ho
        refine ⟨ms[i.toNat].top.a, ms[i.toNat].top.c, ms[i.toNat].rs, ?_, by rw [hrl, ho], ?_⟩
        · rw [ho, ← ht]; rfl
        · rw [ho]; exact hX

end Go.Proofs.YtjpkmpihmilgoaaGreat.Vc
/-
  Plain mathematics: numbering anew keeps what a search finds; the form of a form; every maniplex in the numbers of its own search is a rooted form. Conditions: as each states them. No program in sight.
-/
namespace Go.Proofs.YtjpkmpihmilgoaaGreat.Vc

theorem gl_succ (p : List Int) (ps : List (List Int)) (j : Nat) : gl (p :: ps) ((j + 1 : Nat) : Int) = gl ps (j : Int) := by
  simp only [gl, Int.toNat_natCast, List.getD_cons_succ]
theorem gi_map {φ : Int → Int} {l : List Int} {k : Nat} (h : k < l.length) : gi (l.map φ) (k : Int) = φ (gi l (k : Int)) := by
  rw [gi_mem (by simpa using h), gi_mem h, List.getElem_map]

/-- numbering anew -/
structure Ism (N : Nat) (xss yss : List (List Int)) (φ : Int → Int) : Prop where
  len : yss.length = xss.length
  rng : ∀ x : Int, 0 ≤ x → x < N → 0 ≤ φ x ∧ φ x < N
  inj : ∀ x y : Int, 0 ≤ x → x < N → 0 ≤ y → y < N → φ x = φ y → x = y
  com : ∀ (i : Nat) (x : Int), i < xss.length → 0 ≤ x → x < N → gi (gl yss i) (φ x) = φ (gi (gl xss i) x)

section
variable {N : Nat} {xss yss : List (List Int)} {φ : Int → Int}
theorem push_map (hinj : ∀ x y : Int, 0 ≤ x → x < N → 0 ≤ y → y < N → φ x = φ y → x = y) {out : List Int} (ho : ∀ x ∈ out, 0 ≤ x ∧ x < (N : Int)) {y : Int} (h0 : 0 ≤ y) (h1 : y < N) : push1 (out.map φ) (φ y) = (push1 out y).map φ := by
  unfold push1
  by_cases h : y ∈ out
  · rw [if_pos h, if_pos (List.mem_map_of_mem h)]
  · rw [if_neg h, if_neg (fun hm => by
      obtain ⟨z, hz, e⟩ := List.mem_map.1 hm
      exact h (hinj z y (ho z hz).1 (ho z hz).2 h0 h1 e ▸ hz)), List.map_append]
    rfl
theorem fold_map (hinj : ∀ x y : Int, 0 ≤ x → x < N → 0 ≤ y → y < N → φ x = φ y → x = y) {x : Int} : ∀ (ps qs : List (List Int)) (out : List Int), qs.length = ps.length → (∀ z ∈ out, 0 ≤ z ∧ z < (N : Int)) → (∀ j : Nat, j < ps.length → (0 ≤ gi (gl ps j) x ∧ gi (gl ps j) x < N) ∧ gi (gl qs j) (φ x) = φ (gi (gl ps j) x)) → qs.foldl (fun o p => push1 o (gi p (φ x))) (out.map φ) = (ps.foldl (fun o p => push1 o (gi p x)) out).map φ
  | [], [], _, _, _, _ => rfl
  | p :: ps, q :: qs, out, hl, ho, h => by
    have h0 : (0 ≤ gi p x ∧ gi p x < N) ∧ gi q (φ x) = φ (gi p x) := h 0 (by simp)
    simp only [List.foldl_cons]
    rw [h0.2, push_map hinj ho h0.1.1 h0.1.2]
    exact fold_map hinj ps qs _ (by simpa using hl) (fun z hz => by
      rcases push1_mem.1 hz with hz | rfl
      · exact ho z hz
      · exact h0.1) (fun j hj => by
      have := h (j + 1) (by simpa using hj)
      rw [gl_succ, gl_succ] at this
      exact this)
  | [], _ :: _, _, hl, _, _ => by simp at hl
  | _ :: _, [], _, hl, _, _ => by simp at hl
theorem bfs_map (h : Ism N xss yss φ) (hs : Sys N xss) {pt : Int} : ∀ (f i : Nat) (out : List Int), Good N xss pt out → bfs yss f i (out.map φ) = (bfs xss f i out).map φ
  | 0, _, _, _ => rfl
  | f + 1, i, out, hg => by
    simp only [bfs, List.length_map]
    by_cases hi : i < out.length
    · rw [if_pos hi, if_pos hi, gi_map hi]
      have hx := gi_in hi
      have hr := hg.range _ hx
      have e : expand yss (φ (gi out i)) (out.map φ) = (expand xss (gi out i) out).map φ := fold_map h.inj xss yss out h.len hg.range (fun j hj => ⟨(hs (gl xss j) (by rw [gl_mem hj]; exact List.getElem_mem _)).2 _ hr.1 hr.2, h.com j _ hj hr.1 hr.2⟩)
      rw [e]
      exact bfs_map h hs f (i + 1) _ (foldl_push hs xss out (fun p hp => hp) hg hx).1
    · rw [if_neg hi, if_neg hi]
theorem orbit_map (h : Ism N xss yss φ) (hs : Sys N xss) {pt : Int} (h0 : 0 ≤ pt) (h1 : pt < N) : orbit N yss (φ pt) = (orbit N xss pt).map φ := bfs_map h hs (N + 1) 0 [pt] (good_one h0 h1)

theorem form_map (h : Ism N xss yss φ) (hM : Mani xss) (hN : N = (gl xss 0).length) {pt : Int} (h0 : 0 ≤ pt) (h1 : pt < N) : formL N yss (φ pt) = formL N xss pt := by
  have hs := hM.2.2.1.sys
  have hP := hM.prm h0 (by rw [← hN]; exact h1)
  rw [← hN] at hs hP
  have ho := orbit_map h hs h0 h1
  have hP' : Prm N ((orbit N xss pt).map φ) := by
    refine ⟨by rw [List.length_map]; exact hP.len, ?_, fun x hx => ?_⟩
    · rw [List.nodup_iff_pairwise_ne, List.pairwise_map]
      exact List.Pairwise.imp_of_mem (fun ha hb hab e => hab (h.inj _ _ (hP.range _ ha).1 (hP.range _ ha).2 (hP.range _ hb).1 (hP.range _ hb).2 e)) (List.nodup_iff_pairwise_ne.1 hP.nodup)
    · obtain ⟨y, hy, rfl⟩ := List.mem_map.1 hx
      exact h.rng y (hP.range y hy).1 (hP.range y hy).2
  have hb : ∀ z : Int, 0 ≤ z → z < N → gi (backI N ((orbit N xss pt).map φ)) (φ z) = gi (backI N (orbit N xss pt)) z := fun z h0 h1 => by
    obtain ⟨k, hk, e1, e2⟩ := hP.backR h0 h1
    have := hP'.back hk
    rw [gi_map (by rw [hP.len]; exact hk), e1] at this
    rw [this, e2]
  unfold formL
  rw [ho]
  apply List.ext_getElem
  · simp [h.len]
  · intro i h2 h3
    simp only [List.length_map] at h2 h3
    simp only [List.getElem_map]
    unfold rowF
    rw [List.map_map]
    apply List.map_congr_left
    intro x hx
    have hx := hP.range x hx
    have hr := (hs (gl xss i) (by rw [gl_mem h3]; exact List.getElem_mem _)).2 x hx.1 hx.2
    have hc := h.com i x h3 hx.1 hx.2
    rw [gl_mem h2, gl_mem h3] at hc
    rw [gl_mem h3] at hr
    show gi _ (gi yss[i] (φ x)) = _
    rw [hc, hb _ hr.1 hr.2]

/-! a maniplex and its forms -/
variable {f : Int}
theorem form_ism (hM : Mani xss) (hN : N = (gl xss 0).length) (h0 : 0 ≤ f) (h1 : f < N) : Ism N xss (formL N xss f) (gi (backI N (orbit N xss f))) := by
  have hs := hM.2.2.1.sys
  have hP := hM.prm h0 (by rw [← hN]; exact h1)
  rw [← hN] at hs hP
  refine ⟨formL_len _ _ _, fun x hx hx' => ?_, fun x y hx hx' hy hy' e => ?_, fun i x hi hx hx' => ?_⟩
  · obtain ⟨k, hk, _, e⟩ := hP.backR hx hx'
    omega
  · obtain ⟨k, hk, e1, e2⟩ := hP.backR hx hx'
    obtain ⟨j, hj, e3, e4⟩ := hP.backR hy hy'
    have : (k : Int) = j := by omega
    rw [← e1, ← e3, this]
  · obtain ⟨k, hk, e1, e2⟩ := hP.backR hx hx'
    rw [e2, gl_mem (by rw [formL_len]; exact hi)]
    simp only [formL, List.getElem_map]
    rw [gi_mem (by rw [rowF_len, hP.len]; exact hk)]
    simp only [rowF, List.getElem_map]
    rw [← gi_mem (by rw [hP.len]; exact hk), e1, gl_mem hi]
theorem form_pt (hM : Mani xss) (hN : N = (gl xss 0).length) (h0 : 0 ≤ f) (h1 : f < N) : gi (orbit N xss f) 0 = f ∧ gi (backI N (orbit N xss f)) f = 0 := by
  have hs := hM.2.2.1.sys
  have hP := hM.prm h0 (by rw [← hN]; exact h1)
  rw [← hN] at hs hP
  have e := gi_prefix (orbit_spec hs h0 h1).2.1 (i := 0) (by simp)
  have e : gi (orbit N xss f) 0 = f := e
  refine ⟨e, ?_⟩
  have := hP.back (k := 0) (by omega)
  have this : gi (backI N (orbit N xss f)) (gi (orbit N xss f) 0) = 0 := this
  rwa [e] at this
theorem form_orbit (hM : Mani xss) (hN : N = (gl xss 0).length) (h0 : 0 ≤ f) (h1 : f < N) : orbit N (formL N xss f) 0 = seqI N := by
  have hs := hM.2.2.1.sys
  have hP := hM.prm h0 (by rw [← hN]; exact h1)
  rw [← hN] at hs hP
  have h := orbit_map (form_ism hM hN h0 h1) hs h0 h1
  rw [(form_pt hM hN h0 h1).2] at h
  rw [h]
  apply List.ext_getElem
  · rw [List.length_map, hP.len, seqI_len]
  · intro i h2 h3
    rw [seqI_len] at h3
    rw [List.getElem_map, ← gi_mem (by rw [hP.len]; exact h3), hP.back h3]
    simp [seqI]
theorem form_form (hM : Mani xss) (hN : N = (gl xss 0).length) (h0 : 0 ≤ f) (h1 : f < N) {g : Int} (h2 : 0 ≤ g) (h3 : g < N) : ∃ k : Nat, k < N ∧ (k : Int) = gi (orbit N xss f) g ∧ formL N (formL N xss f) g = formL N xss (k : Int) := by
  have hP := hM.prm h0 (by rw [← hN]; exact h1)
  rw [← hN] at hP
  obtain ⟨q, rfl⟩ : ∃ q : Nat, g = q := ⟨g.toNat, by omega⟩
  have hr := hP.rng (k := q) (by omega)
  have h := form_map (form_ism hM hN h0 h1) hM hN hr.1 hr.2
  rw [hP.back (by omega)] at h
  refine ⟨(gi (orbit N xss f) q).toNat, by omega, by omega, ?_⟩
  rw [h, Int.toNat_of_nonneg hr.1]
end
end Go.Proofs.YtjpkmpihmilgoaaGreat.Vc
/-
  Plain mathematics: the tree of partial moves grows every maniplex that has the numbers of its own search, so the least form of a maniplex is in the list. Conditions: as each states them. No program in sight.
-/
namespace Go.Proofs.YtjpkmpihmilgoaaGreat.Vc

section
variable {n F : Nat} {L : List (List Int)}
theorem fold_prefix (x : Int) : ∀ (ps : List (List Int)) (out : List Int), out <+: ps.foldl (fun o p => push1 o (gi p x)) out
  | [], _ => List.prefix_rfl
  | p :: ps, out => (push1_prefix out (gi p x)).trans (fold_prefix x ps _)
theorem bfs_prefix (xss : List (List Int)) : ∀ (k i : Nat) (out : List Int), out <+: bfs xss k i out
  | 0, _, _ => List.prefix_rfl
  | k + 1, i, out => by
    simp only [bfs]
    split
    · exact (fold_prefix _ xss out).trans (bfs_prefix xss k (i + 1) _)
    · exact List.prefix_rfl
theorem seqI_prefix {m : Nat} {l : List Int} (h : l <+: seqI m) : l = seqI l.length ∧ l.length ≤ m := by
  have hl := h.length_le
  rw [seqI_len] at hl
  refine ⟨?_, hl⟩
  apply List.ext_getElem
  · rw [seqI_len]
  · intro i h1 h2
    have := gi_prefix h h1
    rw [seqI_get (by omega)] at this
    rw [← gi_mem h1, ← this]
    simp [seqI]
theorem push_seq' {m : Nat} {v : Int} (h0 : 0 ≤ v) (h : push1 (seqI m) v <+: seqI F) : v ≤ m ∧ push1 (seqI m) v = seqI (max m (v.toNat + 1)) := by
  have hv : v ≤ m := by
    unfold push1 at h
    by_cases hm : v ∈ seqI m
    · have := (seqI_mem.1 hm).2; omega
    · rw [if_neg hm] at h
      have h1 := (seqI_prefix h).1
      rw [List.length_append, seqI_len, List.length_singleton, seqI_succ] at h1
      have := List.append_cancel_left h1
      simp at this
      omega
  exact ⟨hv, push_seq h0 hv⟩
theorem expand_rg (hl : L.length = n) (hn : 0 < n) (hs : Sys F L) {f : Nat} (hf : f < F) (hfm : f < mtL L n (f * n)) (hp : expand L (f : Int) (seqI (mtL L n (f * n))) <+: seqI F) :
    expand L (f : Int) (seqI (mtL L n (f * n))) = seqI (mtL L n ((f + 1) * n)) ∧ ∀ a, f * n ≤ a → a < (f + 1) * n → RG L n a := by
  have e1 : (f + 1) * n = f * n + n := by rw [Nat.succ_mul]
  have key : ∀ j, j ≤ n → (L.take j).foldl (fun o p => push1 o (gi p f)) (seqI (mtL L n (f * n))) = seqI (mtL L n (f * n + j)) ∧ f < mtL L n (f * n + j) ∧ ∀ a, f * n ≤ a → a < f * n + j → RG L n a := by
    intro j
    induction j with
    | zero => intro _; exact ⟨rfl, hfm, fun a h1 h2 => by omega⟩
    | succ j ih =>
      intro hj
      obtain ⟨ih1, ih2, ih3⟩ := ih (by omega)
      have hj' : j < L.length := by omega
      have ha1 : (f * n + j) % n = j := by rw [Nat.mul_comm, Nat.mul_add_mod]; exact Nat.mod_eq_of_lt (by omega)
      have ha2 : (f * n + j) / n = f := by rw [Nat.mul_comm, Nat.mul_add_div hn]; rw [Nat.div_eq_of_lt (by omega)]; omega
      have hc : cell L j (f : Int) = gi (L[j]) f := by
        unfold cell
        rw [show gl L (j : Int) = L[j] by simp [gl, List.getD_eq_getElem?_getD, List.getElem?_eq_getElem hj']]
      have h0 := ((hs L[j] (List.getElem_mem _)).2 f (by omega) (by omega)).1
      have e2 : (L.take (j + 1)).foldl (fun o p => push1 o (gi p f)) (seqI (mtL L n (f * n))) = push1 (seqI (mtL L n (f * n + j))) (gi L[j] f) := by
        rw [List.take_succ_eq_append_getElem hj', List.foldl_append, ih1]
        rfl
      have hpre : (L.take (j + 1)).foldl (fun o p => push1 o (gi p f)) (seqI (mtL L n (f * n))) <+: seqI F := by
        refine List.IsPrefix.trans ?_ hp
        have e3 : expand L (f : Int) (seqI (mtL L n (f * n))) = (L.drop (j + 1)).foldl (fun o p => push1 o (gi p f)) ((L.take (j + 1)).foldl (fun o p => push1 o (gi p f)) (seqI (mtL L n (f * n)))) := by
          rw [← List.foldl_append, List.take_append_drop]
          rfl
        rw [e3]
        exact fold_prefix _ _ _
      rw [e2] at hpre
      have h3 := push_seq' h0 hpre
      have em : mtL L n (f * n + (j + 1)) = max (mtL L n (f * n + j)) ((gi L[j] f).toNat + 1) := by
        show max (mtL L n (f * n + j)) ((cell L ((f * n + j) % n) ((f * n + j) / n : Nat)).toNat + 1) = _
        rw [ha1, ha2, hc]
      refine ⟨by rw [e2, h3.2, em], by rw [em]; omega, fun a h1 h2 => ?_⟩
      by_cases e : a = f * n + j
      · subst e
        unfold RG
        rw [ha1, ha2, hc]
        exact ⟨h0, h3.1, ih2⟩
      · exact ih3 a h1 (by omega)
  have := key n (Nat.le_refl _)
  rw [List.take_of_length_le (by omega)] at this
  rw [e1]
  exact ⟨this.1, this.2.2⟩
theorem seq_rg (hl : L.length = n) (hn : 0 < n) (hs : Sys F L) : ∀ (k i : Nat), bfs L k i (seqI (mtL L n (i * n))) = seqI F → i ≤ mtL L n (i * n) → F < k + i → (∀ a, a < i * n → RG L n a) → mtL L n (F * n) = F ∧ ∀ a, a < F * n → RG L n a
  | 0, i, h, hi, hk, hR => by
    have h1 := (seqI_prefix (m := F) (l := seqI (mtL L n (i * n))) (by have := bfs_prefix L 0 i (seqI (mtL L n (i * n))); rwa [h] at this)).2
    rw [seqI_len] at h1
    omega
  | k + 1, i, h, hi, hk, hR => by
    have h1 := (seqI_prefix (m := F) (l := seqI (mtL L n (i * n))) (by have := bfs_prefix L (k + 1) i (seqI (mtL L n (i * n))); rwa [h] at this)).2
    rw [seqI_len] at h1
    simp only [bfs] at h
    rw [seqI_len] at h
    by_cases hlt : i < mtL L n (i * n)
    · rw [if_pos hlt, seqI_get hlt] at h
      have hp := bfs_prefix L k (i + 1) (expand L (i : Int) (seqI (mtL L n (i * n))))
      rw [h] at hp
      obtain ⟨e, hE⟩ := expand_rg hl hn hs (by omega) hlt hp
      rw [e] at h hp
      refine seq_rg hl hn hs k (i + 1) h ?_ (by omega) (fun a ha => ?_)
      · have h2 := (hE (i * n + (n - 1)) (by omega) (by rw [Nat.succ_mul]; omega))
        have h3 : mtL L n ((i + 1) * n) ≥ mtL L n (i * n) := by
          have : seqI (mtL L n (i * n)) <+: seqI (mtL L n ((i + 1) * n)) := by rw [← e]; exact fold_prefix _ L _
          have := this.length_le
          rwa [seqI_len, seqI_len] at this
        omega
      · by_cases h4 : a < i * n
        · exact hR a h4
        · exact hE a (by omega) ha
    · rw [if_neg hlt] at h
      have h2 := congrArg List.length h
      rw [seqI_len, seqI_len] at h2
      have : i = F := by omega
      subst this
      exact ⟨h2, hR⟩

theorem Reach.con (hI : Shp n F L) (hs : Sys F L) (hF : 0 < F) {x : Int} (h : Reach L 0 x) : (0 ≤ x ∧ x < F) ∧ Con n L x := by
  induction h with
  | refl => exact ⟨⟨by omega, by omega⟩, .zero⟩
  | @step y p _ hp ih =>
    obtain ⟨i, hi, rfl⟩ := List.mem_iff_getElem.1 hp
    have hr := (hs _ hp).2 y ih.1.1 ih.1.2
    have e : gi L[i] y = cell L i y := by
      unfold cell
      rw [gl_mem hi]
    rw [e] at hr ⊢
    exact ⟨hr, .step ih.2 (by rw [← hI.1]; exact hi) ih.1.1 hr.1⟩

theorem cells_eq {M L : List (List Int)} (hM : Shp n F M) (hL : Shp n F L) (h : ∀ (i f : Nat), i < n → f < F → cell M i f = cell L i f) : M = L := by
  apply List.ext_getElem
  · rw [hM.1, hL.1]
  · intro i h1 h2
    apply List.ext_getElem
    · rw [hM.2 _ (List.getElem_mem _), hL.2 _ (List.getElem_mem _)]
    · intro j h3 h4
      have hj := hM.2 _ (List.getElem_mem h1)
      have := h i j (by rw [← hM.1]; exact h1) (by omega)
      unfold cell at this
      rw [gl_mem h1, gl_mem h2, gi_mem h3, gi_mem h4] at this
      exact this

/-- all that goes on with what is known is grown -/
theorem grow_all (hL : Inv n F L F (F * n)) (hm : mtL L n (F * n) = F) (hR : ∀ a, a < F * n → RG L n a) : ∀ (k at_ met : Nat) (M : List (List Int)), Inv n F M met at_ → Ext n F M L → mtL L n at_ = met → F * n < k + at_ → L ∈ grow n F (fun _ _ _ => true) (fun _ => true) k at_ met M
  | 0, at_, met, M, h, hE, hmt, hk => by
    have := h.le
    have := Nat.mul_le_mul_right n h.metF
    omega
  | k + 1, at_, met, M, h, hE, hmt, hk => by
    have hle := h.le
    have hmF := h.metF
    have hmn := Nat.mul_le_mul_right n hmF
    have hn := h.n0
    simp only [grow]
    by_cases ha : at_ = met * n
    · have h1 : at_ = F * n := by
        apply Classical.byContradiction
        intro hne
        have := (hR at_ (by omega)).2.2
        rw [hmt, ha, Nat.mul_div_cancel _ hn] at this
        omega
      rw [h1, hm] at hmt
      subst hmt
      rw [if_pos ha, if_pos ⟨rfl, trivial⟩]
      have : M = L := cells_eq h.shp hL.shp (fun i f hi hf => by
        have hlt : f * n + i < at_ := by
          have : (f + 1) * n ≤ F * n := Nat.mul_le_mul_right n (by omega)
          rw [Nat.succ_mul] at this
          omega
        have hkn := h.known _ hlt
        rw [Nat.add_comm, Nat.add_mul_mod_self_right, Nat.mod_eq_of_lt hi, Nat.add_mul_div_right _ _ hn, Nat.div_eq_of_lt hi, Nat.zero_add] at hkn
        exact (hE i f hi (by omega) (by omega) hkn).symm)
      rw [this]
      simp
    · rw [if_neg ha]
      have hp := h.pos ha
      have hat : at_ < F * n := by omega
      have hRa := hR at_ hat
      rw [RG, hmt] at hRa
      have hstep : mtL L n (at_ + 1) = max met ((cell L (at_ % n) (at_ / n : Nat)).toNat + 1) := by rw [← hmt]; rfl
      by_cases hc : 0 ≤ cell M (at_ % n) (at_ / n : Nat)
      · rw [if_pos hc]
        have e := hE (at_ % n) (at_ / n : Nat) hp.1 (Int.natCast_nonneg _) (Int.ofNat_lt.2 (by omega)) hc
        have hcell := h.cells (at_ % n) (at_ / n : Nat) hp.1 (Int.natCast_nonneg _) (Int.ofNat_lt.2 (by omega))
        refine grow_all hL hm hR k _ _ _ (h.next ha hc) hE ?_ (by omega)
        rw [hstep, e]
        omega
      · rw [if_neg hc, List.mem_flatMap]
        have hLc := hL.inv hp.1 (f := ((at_ / n : Nat) : Int)) (Int.natCast_nonneg _) (Int.ofNat_lt.2 (by omega))
        generalize hg : (cell L (at_ % n) (at_ / n : Nat)).toNat = g at *
        have hgc : cell L (at_ % n) (at_ / n : Nat) = (g : Int) := by omega
        rw [hgc] at hLc hRa
        have hMg : ¬ 0 ≤ cell M (at_ % n) (g : Nat) := fun h0 => by
          have e := hE (at_ % n) (g : Nat) hp.1 (Int.natCast_nonneg _) hLc.2.1 h0
          have hcg := h.cells (at_ % n) (g : Nat) hp.1 (Int.natCast_nonneg _) hLc.2.1
          rw [← e, hLc.2.2.1] at hcg
          rcases hcg with hcg | hcg
          · omega
          · rw [hcg.2.2.2.1] at hc
            omega
        have hgt : at_ / n < g := by
          apply Classical.byContradiction
          intro hng
          have hne : g ≠ at_ / n := fun e => hLc.2.2.2 (by omega)
          have hlt : g * n + at_ % n < at_ := by
            have h1 : (g + 1) * n ≤ (at_ / n) * n := Nat.mul_le_mul_right n (by omega)
            rw [Nat.succ_mul] at h1
            have h2 := Nat.div_add_mod at_ n
            rw [Nat.mul_comm] at h2
            have := hp.1
            omega
          have hkn := h.known _ hlt
          rw [Nat.add_comm, Nat.add_mul_mod_self_right, Nat.mod_mod, Nat.add_mul_div_right _ _ hn, Nat.div_eq_of_lt hp.1, Nat.zero_add] at hkn
          exact hMg hkn
        refine ⟨g, List.mem_range'_1.2 ⟨by omega, by omega⟩, ?_⟩
        rw [if_neg hMg, if_pos trivial]
        have hg1 : g ≤ met := by omega
        have hg2 : g < F := by omega
        refine grow_all hL hm hR k _ _ _ (h.put ha hc hgt hg1 hg2 hMg) (fun i x hi hx hxF hcx => ?_) (by rw [hstep]) (by omega)
        rw [cell_put h.shp hp.1 (by omega) hg2 hx] at hcx ⊢
        split
        · rename_i e
          obtain ⟨rfl, rfl⟩ := e
          exact hLc.2.2.1
        · rename_i e1
          rw [if_neg e1] at hcx
          split
          · rename_i e
            obtain ⟨rfl, rfl⟩ := e
            exact hgc
          · rename_i e2
            rw [if_neg e2] at hcx
            exact hE i x hi hx hxF hcx
end

section
variable {N : Nat} {xss : List (List Int)} {f : Int}
theorem form_inv (hM : Mani xss) (hN : N = (gl xss 0).length) (h0 : 0 ≤ f) (h1 : f < N) : Inv xss.length N (formL N xss f) N (N * xss.length) ∧ Mani (formL N xss f) := by
  have hP := hM.prm h0 (by rw [← hN]; exact h1)
  have hs := hM.2.2.1.sys
  rw [← hN] at hP hs
  have hI := form_ism hM hN h0 h1
  have hN2 := hM.2.1
  have hn := hM.1
  have hN40 : 2 ≤ N ∧ N ≤ 400 := by omega
  have hshp : Shp xss.length N (formL N xss f) := ⟨formL_len _ _ _, fun p hp => by
    obtain ⟨mv, _, rfl⟩ := List.mem_map.1 hp
    rw [rowF_len, hP.len]⟩
  have hc : ∀ (i : Nat) (k : Nat), i < xss.length → k < N → cell (formL N xss f) i (k : Int) = gi (backI N (orbit N xss f)) (gi (gl xss i) (gi (orbit N xss f) k)) := fun i k hi hk => by
    have hr := hP.rng hk
    have := hI.com i _ hi hr.1 hr.2
    rw [hP.back hk] at this
    exact this
  have hin : ∀ (i : Nat) (x : Int), i < xss.length → 0 ≤ x → x < N → 0 ≤ gi (gl xss i) x ∧ gi (gl xss i) x < N := fun i x hi hx hx' => (hs (gl xss i) (by rw [gl_mem hi]; exact List.getElem_mem _)).2 x hx hx'
  have hfree : ∀ (i : Nat) (x : Int), i < xss.length → 0 ≤ x → x < N → gi (gl xss i) x ≠ x ∧ gi (gl xss i) (gi (gl xss i) x) = x := fun i x hi hx hx' => by
    have h := (hM.2.2.1.at_ hi)
    have := h.2.2 x.toNat (by omega)
    rw [Int.toNat_of_nonneg hx] at this
    exact this
  -- cells by the numbers of the orbit
  have hcell : ∀ (i : Nat) (k : Nat), i < xss.length → k < N → ∃ j : Nat, j < N ∧ cell (formL N xss f) i (k : Int) = j ∧ gi (orbit N xss f) j = gi (gl xss i) (gi (orbit N xss f) k) := fun i k hi hk => by
    have hr := hP.rng hk
    have hq := hin i _ hi hr.1 hr.2
    obtain ⟨j, hj, e1, e2⟩ := hP.backR hq.1 hq.2
    exact ⟨j, hj, by rw [hc i k hi hk, e2], e1⟩
  have hInv : Inv xss.length N (formL N xss f) N (N * xss.length) := by
    refine ⟨hshp, by omega, by omega, Nat.le_refl _, fun i x hi hx hx' => .inr ?_, fun a ha => ?_, fun x hx => ?_, Nat.le_refl _⟩
    · obtain ⟨k, rfl⟩ : ∃ k : Nat, x = k := ⟨x.toNat, by omega⟩
      have hk : k < N := by omega
      obtain ⟨j, hj, e1, e2⟩ := hcell i k hi hk
      obtain ⟨l, hl, e3, e4⟩ := hcell i j hi hj
      have hr := hP.rng hk
      have hf := hfree i _ hi hr.1 hr.2
      rw [e2, hf.2] at e4
      have el := hP.inj hl hk e4
      rw [e1, e3, el]
      refine ⟨by omega, by omega, hx', rfl, fun e => ?_⟩
      have : j = k := by omega
      rw [this] at e2
      exact hf.1 e2.symm
    · have ha2 : a / xss.length < N := Nat.div_lt_of_lt_mul (by rw [Nat.mul_comm]; exact ha)
      obtain ⟨j, hj, e1, _⟩ := hcell (a % xss.length) (a / xss.length) (Nat.mod_lt _ (by omega)) ha2
      rw [e1]
      omega
    · have hsF : Sys N (formL N xss f) := fun p hp => by
        refine ⟨hshp.2 p hp, fun x hx hx' => ?_⟩
        obtain ⟨i, hi, rfl⟩ := List.mem_iff_getElem.1 hp
        rw [formL_len] at hi
        obtain ⟨k, rfl⟩ : ∃ k : Nat, x = k := ⟨x.toNat, by omega⟩
        obtain ⟨j, hj, e1, _⟩ := hcell i k hi (by omega)
        unfold cell at e1
        rw [gl_mem (by rw [formL_len]; exact hi)] at e1
        omega
      have ho := form_orbit hM hN h0 h1
      have := (orbit_spec hsF (pt := 0) (by omega) (by omega)).2.2 (x : Int)
      rw [ho] at this
      exact (Reach.con hshp hsF (by omega) (this.1 (seqI_mem.2 ⟨by omega, by omega⟩))).2
  refine ⟨hInv, hInv.mani hn.2 hN40 (fun e he i hi k hk hik => ?_)⟩
  rw [formL_len] at hi hk
  have hr := hP.rng he
  obtain ⟨j1, hj1, a1, b1⟩ := hcell i e hi he
  obtain ⟨j2, hj2, a2, b2⟩ := hcell k e hk he
  obtain ⟨j3, hj3, a3, b3⟩ := hcell k j1 hk hj1
  obtain ⟨j4, hj4, a4, b4⟩ := hcell i j2 hi hj2
  obtain ⟨q, hq⟩ : ∃ q : Nat, gi (orbit N xss f) e = q := ⟨(gi (orbit N xss f) e).toNat, by omega⟩
  have hcm := hM.2.2.2.1 i hi k hk hik q (by omega)
  unfold Comm at hcm
  rw [← hq] at hcm
  refine ⟨fun _ e1 => ?_, fun _ _ => ?_⟩
  · rw [a1, a2] at e1
    have : j1 = j2 := by omega
    rw [this] at b1
    exact hcm.2 (by rw [← b1, ← b2])
  · unfold kn
    rw [a1, a2, if_neg (by omega), if_neg (by omega), a3, a4]
    have : gi (orbit N xss f) (j3 : Int) = gi (orbit N xss f) (j4 : Int) := by rw [b3, b4, b1, b2]; exact hcm.1
    rw [hP.inj hj3 hj4 this]
theorem form_mem (hM : Mani xss) (hN : N = (gl xss 0).length) (h0 : 0 ≤ f) (h1 : f < N) : formL N xss f ∈ formsL xss.length N := by
  obtain ⟨hI, hV⟩ := form_inv hM hN h0 h1
  have hn := hI.n0
  have hN0 : 0 < N := by omega
  have hs : Sys N (formL N xss f) := by
    have := hV.2.2.1.sys
    have e : (gl (formL N xss f) 0).length = N := hI.shp.row (i := 0) hn
    rwa [e] at this
  have ho := form_orbit hM hN h0 h1
  have hR := seq_rg (L := formL N xss f) (n := xss.length) (F := N) (formL_len _ _ _) hn hs (N + 1) 0 (by rw [Nat.zero_mul]; exact ho) (Nat.zero_le _) (by omega) (fun a ha => by omega)
  refine List.mem_filter.2 ⟨grow_all hI hR.1 hR.2 _ _ _ _ (Inv.blank hn hN0) (fun i x hi hx hxF hc => ?_) rfl (by omega), decide_eq_true hV⟩
  exfalso
  have := cell_blank (n := xss.length) (F := N) hi hx hxF
  omega

theorem least_is (hM : Mani xss) (hN : N = (gl xss 0).length) : ∃ f : Nat, f < N ∧ leastL N xss = formL N xss f := leastTo_is (by have := hM.2.1; omega) N (Nat.le_refl _)
/-- the least form is in the list -/
theorem least_mem (hM : Mani xss) (hN : N = (gl xss 0).length) : leastL N xss ∈ listL xss.length N := by
  obtain ⟨f, hf, e⟩ := least_is hM hN
  rw [listL_mem]
  refine ⟨by rw [e]; exact form_mem hM hN (by omega) (by omega), fun g hg => ?_⟩
  obtain ⟨k, hk, _, e2⟩ := form_form hM hN (f := (f : Int)) (by omega) (by omega) (g := (g : Int)) (by omega) (by omega)
  have := (leastTo_le (N := N) (xss := xss) N).2 k hk
  rw [e, e2, ← e]
  exact this
end
end Go.Proofs.YtjpkmpihmilgoaaGreat.Vc
/-
  The walks of the reference's least form. Conditions: as each states them.
-/
namespace Go.Proofs.YtjpkmpihmilgoaaGreat.Vc
open Go.RowKit

end Go.Proofs.YtjpkmpihmilgoaaGreat.Vc
/-
  The walk of slices.Repeat at a list of some numbers. Conditions: as it states them.
-/
namespace Go.Proofs.YtjpkmpihmilgoaaGreat.Vc
open Go.RowKit

/-- n copies of a list, one behind the other -/
def pow (xs : List Int) (n : Nat) : List Int := (List.replicate n xs).flatten
theorem pow_succ' (xs : List Int) (n : Nat) : pow xs (n + 1) = xs ++ pow xs n := by simp [pow, List.replicate_succ]
/-- what a part of the copies looks like -/
def part (T : List Int) (m : Nat) : List Int := T.take m ++ List.replicate (T.length - m) 0
end Go.Proofs.YtjpkmpihmilgoaaGreat.Vc
/-
  The walks of holes and zigzags on both sides. Conditions: as each states them.
-/
namespace Go.Proofs.YtjpkmpihmilgoaaGreat.Vc
open Go.RowKit

/-- the code of holes and zigzags -/
def holeK (xss : List (List Int)) (j : Int) : Int := if ¬ Grph xss then 1 else if ¬ (1 ≤ j ∧ j ≤ 16) then 2 else if ¬ xss.length = 3 then 5 else 0
def zigW (n : Nat) : List Int := [0] ++ pow [1, 2] n
def holeW (n : Nat) : List Int := zigW n ++ [1]
end Go.Proofs.YtjpkmpihmilgoaaGreat.Vc
/-
  The walks of the lengths of holes and zigzags on both sides. Conditions: as each states them.
-/
namespace Go.Proofs.YtjpkmpihmilgoaaGreat.Vc
open Go.RowKit

def holeL (xss : List (List Int)) (j : Int) : List Int := if holeK xss j = 0 then wordL xss (holeW (j - 1).toNat) else []
def zigL (xss : List (List Int)) (j : Int) : List Int := if holeK xss j = 0 then wordL xss (zigW j.toNat) else []

end Go.Proofs.YtjpkmpihmilgoaaGreat.Vc
/-
  The walks of the lengths of a word on both sides. Conditions: as each states them.
-/
namespace Go.Proofs.YtjpkmpihmilgoaaGreat.Vc
open Go.RowKit
section
variable {P : Program} {N : Nat} {ops : Array Oper} {K : Env → World → Prop} {rest : List Oper} {e : Env} {w : World} {d : Nat} {ty : TypeId} {pos : String} {af : Array Edge}
end

def allIn (lo hi : Int) (xs : List Int) : Prop := ∀ x ∈ xs, lo ≤ x ∧ x ≤ hi
instance (lo hi : Int) (xs : List Int) : Decidable (allIn lo hi xs) := by unfold allIn; exact inferInstance

/-- a word of n moves -/
def IsW (n : Nat) (ws : List Int) : Prop := allIn 0 ((n : Int) - 1) ws ∧ ws.length ≤ 64
instance (n : Nat) (ws : List Int) : Decidable (IsW n ws) := by unfold IsW; exact inferInstance

def lowK (xss : List (List Int)) (ws : List Int) : Int := if ¬ Grph xss then 1 else if ¬ IsW xss.length ws then 2 else 0
def lowL (xss : List (List Int)) (ws : List Int) : List Int := if Grph xss ∧ IsW xss.length ws then wordL xss ws else []

end Go.Proofs.YtjpkmpihmilgoaaGreat.Vc
/-
  The library's IndexFunc and DeleteFunc over a row of structs of one slice, walked for any predicate; the rule of 'clear'. Conditions: the predicate's contract.
-/
namespace Go.Proofs.YtjpkmpihmilgoaaGreat.Vc
open Go.RowKit
section
variable {P : Program} {N : Nat} {ops : Array Oper} {K : Env → World → Prop} {rest : List Oper} {e : Env} {w0 w : World} {ks : List Ck} {d : Nat} {ty : TypeId} {pos : String} {af : Array Edge}
theorem setL_take : ∀ (cs vs : List Value) (o m : Nat), m ≤ o → (setL vs o cs).take m = vs.take m
  | [], _, _, _, _ => rfl
  | c :: r, vs, o, m, h => by
    show (setL (vs.set o c) (o + 1) r).take m = _
    rw [setL_take r _ _ _ (by omega), List.take_set_of_le h]
theorem isM_setL : ∀ {vs : List Value} (o : Nat) (cs : List Value), isM vs = false → (∀ u ∈ cs, u.oneCell' = true) → isM (setL vs o cs) = false
  | _, _, [], h, _ => h
  | vs, o, c :: r, h, hc => isM_setL (o + 1) r (isM_set o h (hc c (by simp))) fun u hu => hc u (by simp [hu])
/-- the places behind some are cleared, and given up -/
theorem Ops.clr {t el : TypeId} {z z0 : Value} {b : Nat} [Und P t (.slice el)] [Inf P el z 1 b] {x : Operand} (i l : Nat) {k : Ck} {n' c' : Nat} (hS : St w0 w ks) (hk : ks[i]? = some k) (hl : l < k.n) (hn' : n' = k.n - l) (hx : ev e x = .slice (cutAt k.A k.c l) n' c') (hz : z.cells = #[z0]) (h1 : z0.oneCell' = true)
    (hK : ∀ w', St w0 w' (ks.set i { k with n := l, vs := k.vs.take l }) → Ops P N ops K rest e w') (hM : isM k.vs = false := by first | rfl | exact isM_I _ | exact isM_B _ | exact isM_R _) :
    Ops P N ops K (⟨none, .call ⟨.builtin .clear, #[x], #[t]⟩, ty, pos, af, none⟩ :: rest) e w := by
  obtain ⟨inf, hi, hz0, hs, hby⟩ := Inf.get P el
  obtain ⟨hvl, hnc, hcm, -⟩ := hS.getC hk hM
  have hlt := (List.getElem?_eq_some_iff.1 hk).1
  obtain ⟨p, hp, _⟩ := (hS.rd i hk) l hl
  have hcut : cutAt k.A k.c l = some p := by unfold cutAt; rw [if_neg (by omega)]; exact hp
  obtain ⟨w', hrun, hS'⟩ := run_store_list (P := P) (k := k) i (List.replicate (k.n - l) z0) ks k.vs w l p hS hk hp (by simp; omega) (fun u hu => by rw [List.eq_of_mem_replicate hu]; exact h1) l p hp (by omega) (by omega)
  have hS2 := hS'.shrink i (k := { k with vs := setL k.vs l (List.replicate (k.n - l) z0) }) (by rw [List.getElem?_set]; simp [hlt]) l (by show l ≤ k.n; omega) (isM_setL _ _ hM (fun u hu => by rw [List.eq_of_mem_replicate hu]; exact h1))
  rw [List.set_set] at hS2
  have e1 : ({ ({ k with vs := setL k.vs l (List.replicate (k.n - l) z0) } : Ck) with n := l, vs := ({ k with vs := setL k.vs l (List.replicate (k.n - l) z0) } : Ck).vs.take l } : Ck) = { k with n := l, vs := k.vs.take l } := by
    show ({ k with n := l, vs := (setL k.vs l (List.replicate (k.n - l) z0)).take l } : Ck) = _
    rw [setL_take _ _ _ _ (Nat.le_refl _)]
  rw [e1] at hS2
  have hzc : (Builtin.zeroCells z.cells (k.n - l)).toList = List.replicate (k.n - l) z0 := by
    rw [hz]
    simp [Builtin.zeroCells]
    apply List.ext_getElem
    · simp
    · intro i h1 h2
      simp [Nat.mod_one]
  rw [Nat.sub_self] at hrun
  have hm : k.n - l = (k.n - l - 1) + 1 := by omega
  generalize k.n - l - 1 = m at hm
  have hv : ∀ w, (zeroValue el).run P w = .ok z w := fun w => by simp [zeroValue, typeInfo, hi, hz0]
  rw [hn', hcut, hm] at hx
  rw [hm] at hzc hrun
  refine .val0 (v := .tuple #[]) (w' := w') ?_ (hK _ hS2)
  simp [execOp, resolve, invoke, builtin, hx, Builtin.clear_, run_underlying (Und.out (P := P) (t := t)), hv, hzc, hrun]
end

/-- the first place at which a predicate holds -/
theorem indexM0_c (A : Option Addr) (n c : Nat) (ss : List SlV) (G : FuncId) [hF : Fnc Tryz.prog G] (pd : Nat → Bool) (w : World) (hR : RdR w A n ss) (hn : n ≤ 4000000000000)
    (hcall : ∀ (w' : World) (j : Nat), Below w.heap.size w w' → j < n → Ret Tryz.prog G [.agg #[(rg ss (j : Int)).v]] w' (fun v w'' => v = .bool (pd j) ∧ St w' w'' [])) :
    Ret Tryz.prog 107 [.slice A n c, .func (.func G) #[] #[]] w (fun v w' => (∃ i : Int, v = .int .i64 i ∧ ((i = -1 ∧ ∀ j, j < n → pd j = false) ∨ ∃ k : Nat, k < n ∧ i = k ∧ pd k = true ∧ ∀ j, j < k → pd j = false)) ∧ St w w' []) := by
  refine Ret.of_cd Tryz.func107 rfl Tryz.ntmps107 rfl (post1 rfl) ?_
  refine Cd.seq ?_
  refine Cd.region ?_
  refine Ops.mv_int rfl rfl rfl ?_
  refine Ops.nil ?_
  refine thenQ_n ?_
  refine Cd.seq ?_
  refine Cd.seq ?_
  refine Cd.region ?_
  refine Ops.mv_sl rfl rfl rfl ?_
  refine Ops.len rfl rfl ?_
  refine Ops.mv_int rfl rfl rfl ?_
  refine Ops.nil ?_
  refine thenQ_n ?_
  refine Cd.block ?_
  refine Cd.loop (α := Nat) (fun k => [(0, .slice A n c), (1, .func (.func G) #[] #[]), (7, .int .i64 (n : Int)), (8, .int .i64 (k : Int))]) (fun k w' => St w w' [] ∧ k ≤ n ∧ ∀ j, j < k → pd j = false) (fun k => n - k) 0 ⟨rfl, rfl, rfl, rfl, trivial⟩ ⟨St.refl w, Nat.zero_le _, fun j hj => by omega⟩ ?_
  rintro k e w1 ⟨hS, hk, hK⟩
  refine Cd.seq ?_
  refine Cd.region ?_
  refine Ops.lss rfl rfl rfl ?_
  refine Ops.nil ?_
  refine thenQ_n ?_
  refine Cd.seq ?_
  refine Cd.cond_p _ rfl (fun h3 => ?_) (fun h3 => ?_)
  · have hk' : k < n := by omega
    have hR1 := hR.later hS.below
    refine Cd.skip ?_
    refine thenQ_n ?_
    refine Cd.seq ?_
    refine Cd.block ?_
    refine Cd.seq ?_
    refine Cd.region ?_
    refine Ops.mv_int rfl rfl rfl ?_
    refine Ops.mv_int rfl rfl rfl ?_
    refine Ops.nil ?_
    refine thenQ_n ?_
    refine Cd.seq ?_
    refine Cd.region ?_
    refine Ops.mv_fn rfl rfl rfl ?_
    refine Ops.mv_sl rfl rfl rfl ?_
    refine Ops.mv_int rfl rfl rfl ?_
    refine Ops.idx hR1.2 rfl rfl rfl (by omega) (by omega) ?_
    refine Ops.ld_ag hR1 rfl (by omega) rfl ?_
    refine Ops.call (hcall w1 k hS.below hk') rfl rfl rfl ?_
    rintro _ w2 ⟨rfl, hst⟩
    have hS2 := hS.later hst.below
    rw [show pd k = decide (pd k = true) by simp]
    refine Ops.nil ?_
    refine thenQ_n ?_
    refine Cd.cond_p _ rfl (fun h4 => ?_) (fun h4 => ?_)
    · refine Cd.seq ?_
      refine Cd.region ?_
      refine Ops.mv_int rfl rfl rfl ?_
      refine Ops.mv_int rfl rfl rfl ?_
      refine Ops.nil ?_
      refine thenQ_n ?_
      refine Cd.ret ?_
      refine blockQ_r ?_
      refine thenQ_r ?_
      refine thenQ_r ?_
      refine blockQ_r ?_
      refine thenQ_r ?_
      refine ret1_i rfl ?_
      exact ⟨⟨(k : Int), rfl, .inr ⟨k, hk', rfl, h4, hK⟩⟩, hS2⟩
    · refine Cd.skip ?_
      refine blockQ_n ?_
      refine thenQ_n ?_
      refine Cd.region ?_
      refine Ops.add rfl rfl rfl (by omega) ?_
      refine Ops.mv_int rfl rfl rfl ?_
      refine Ops.nil ?_
      refine thenQ_n ?_
      refine ⟨k + 1, by show n - (k + 1) < n - k; omega, ⟨rfl, rfl, rfl, rfl, trivial⟩, hS2, by omega, fun j hj => ?_⟩
      by_cases ej : j = k
      · subst ej; simpa using h4
      · exact hK j (by omega)
  · refine Cd.exit ?_
    refine thenQ_x ?_
    refine thenQ_x ?_
    refine blockQ_x ?_
    refine thenQ_n ?_
    refine Cd.seq ?_
    refine Cd.region ?_
    refine Ops.mv_int rfl rfl rfl ?_
    refine Ops.nil ?_
    refine thenQ_n ?_
    refine Cd.ret ?_
    refine ret1_i rfl ?_
    exact ⟨⟨-1, rfl, .inl ⟨rfl, fun j hj => hK j (by omega)⟩⟩, hS⟩

def keptI (pd : Nat → Bool) (j : Nat) : List Nat := (List.range j).filter fun x => !pd x
theorem keptI_succ (pd : Nat → Bool) (j : Nat) : keptI pd (j + 1) = if pd j = true then keptI pd j else keptI pd j ++ [j] := by
  unfold keptI
  rw [List.range_succ, List.filter_append]
  by_cases h : pd j = true
  · rw [if_pos h]; simp [h]
  · rw [if_neg h]; simp [h]
theorem keptI_all {pd : Nat → Bool} : ∀ {j : Nat}, (∀ x, x < j → pd x = false) → keptI pd j = List.range j := fun {j} h => by
  unfold keptI
  rw [List.filter_eq_self]
  intro x hx
  rw [h x (List.mem_range.1 hx)]; rfl
theorem sv_range {ss : List SlV} {n : Nat} (h : ss.length = n) : (List.range n).map (fun j => ss.getD j slNil) = ss := by
  subst h
  apply List.ext_getElem
  · simp
  · intro i h1 h2
    simp [List.getD_eq_getElem?_getD, h2]

/-- what a predicate holds at is struck -/
theorem deleteM_c {w0 w : World} {ks : List Ck} (i : Nat) {t : TypeId} {A : Option Addr} {n c : Nat} {ss : List SlV} (hS : St w0 w ks) (hk : ks[i]? = some (CkR t A n c ss)) (hn : n ≤ 4000000000000) (G : FuncId) [hF : Fnc Tryz.prog G] (pd : Nat → Bool)
    (hcall : ∀ (w' : World) (q : List Nat), q.length = n → St w0 w' (ks.set i (CkR t A n c (q.map fun j => ss.getD j slNil))) → ∀ a, a < n → Ret Tryz.prog G [.agg #[(ss.getD a slNil).v]] w' (fun v w'' => v = .bool (pd a) ∧ St w' w'' [])) :
    Ret Tryz.prog 58 [.slice A n c, .func (.func G) #[] #[]] w (fun v w' => v = .slice A (keptI pd n).length c ∧ St w0 w' (ks.set i (CkR t A (keptI pd n).length c ((keptI pd n).map fun j => ss.getD j slNil)))) := by
  have hil : i < ks.length := (List.getElem?_eq_some_iff.1 hk).1
  obtain ⟨h1, h2, h3, -⟩ := hS.getC hk (isM_R _)
  have hsl : ss.length = n := by have : (ss.map SlV.v).length = n := h1; simpa using this
  have h2 : n ≤ c := h2
  have h3 : c ≤ maxLen := h3
  have hid : ks.set i (CkR t A n c ((List.range n).map fun j => ss.getD j slNil)) = ks := by rw [sv_range hsl, set_id hk]
  have hR := hS.rdR i hk
  have hSi : ∀ {w' : World}, St w0 w' ks → St w0 w' (ks.set i (CkR t A n c ((List.range n).map fun j => ss.getD j slNil))) := fun h => by rw [hid]; exact h
  have get : ∀ l, (ks.set i l)[i]? = some l := fun l => by simp [hil]
  have hrg : ∀ (q : List Nat) (j : Nat) (x : Nat), q[j]? = some x → rg (q.map fun j => ss.getD j slNil) (j : Int) = ss.getD x slNil := fun q j x h => by
    simp [rg, List.getD_eq_getElem?_getD, h]
  refine Ret.of_cd Tryz.func58 rfl Tryz.ntmps58 rfl (post1 rfl) ?_
  refine Cd.seq ?_
  refine Cd.region ?_
  refine Ops.mv_sl rfl rfl rfl ?_
  refine Ops.nil ?_
  refine thenQ_n ?_
  refine Cd.seq ?_
  refine Cd.region ?_
  refine Ops.mv_sl rfl rfl rfl ?_
  refine Ops.mv_fn rfl rfl rfl ?_
  refine Ops.call (indexM0_c A n c ss G pd _ hR hn (fun w' j hb hj => hcall w' (List.range n) (by simp) (hSi (hS.later hb)) j hj)) rfl rfl rfl ?_
  rintro _ w1 ⟨⟨i0, rfl, hi0⟩, hst1⟩
  have hS1 := hS.later hst1.below
  refine Ops.mv_int rfl rfl rfl ?_
  refine Ops.nil ?_
  refine thenQ_n ?_
  refine Cd.seq ?_
  refine Cd.seq ?_
  refine Cd.region ?_
  refine Ops.mv_int rfl rfl rfl ?_
  refine Ops.eql rfl rfl rfl ?_
  refine Ops.nil ?_
  refine thenQ_n ?_
  refine Cd.cond_p _ rfl (fun h5 => ?_) (fun h5 => ?_)
  · have hall : ∀ j, j < n → pd j = false := by
      rcases hi0 with ⟨_, h⟩ | ⟨k, _, e, _⟩
      · exact h
      · omega
    refine Cd.seq ?_
    refine Cd.region ?_
    refine Ops.mv_sl rfl rfl rfl ?_
    refine Ops.mv_sl rfl rfl rfl ?_
    refine Ops.nil ?_
    refine thenQ_n ?_
    refine Cd.ret ?_
    refine thenQ_r ?_
    refine ret1_s rfl ?_
    rw [keptI_all hall, List.length_range, hid]
    exact ⟨rfl, hS1⟩
  · obtain ⟨k0, hk0, rfl, hpk, hpl⟩ := hi0.resolve_left (fun h => h5 h.1)
    refine Cd.skip ?_
    refine thenQ_n ?_
    refine Cd.seq ?_
    refine Cd.seq ?_
    refine Cd.region ?_
    refine Ops.mv_int rfl rfl rfl ?_
    refine Ops.add rfl rfl rfl (by omega) ?_
    refine Ops.mv_int rfl rfl rfl ?_
    refine Ops.nil ?_
    refine thenQ_n ?_
    refine Cd.block ?_
    refine Cd.loop (α := Nat × Nat × List Nat) (fun z => [(0, .slice A n c), (1, .func (.func G) #[] #[]), (5, .int .i64 (z.1 : Int)), (6, .int .i64 (z.2.1 : Int))])
      (fun z w' => St w0 w' (ks.set i (CkR t A n c (z.2.2.map fun j => ss.getD j slNil))) ∧ z.2.2.length = n ∧ z.1 < z.2.1 ∧ z.2.1 ≤ n ∧ z.1 = (keptI pd z.2.1).length ∧ z.2.2.take z.1 = keptI pd z.2.1 ∧ ∀ m, z.2.1 ≤ m → m < n → z.2.2[m]? = some m)
      (fun z => n - z.2.1) (k0, k0 + 1, List.range n) ⟨rfl, rfl, rfl, by show Value.int .i64 _ = .int .i64 _; congr 1, trivial⟩ ⟨hSi hS1, by simp, Nat.lt_succ_self _, hk0, by
        show k0 = (keptI pd (k0 + 1)).length
        rw [keptI_succ, if_pos hpk, keptI_all hpl, List.length_range], by
        show (List.range n).take k0 = keptI pd (k0 + 1)
        rw [keptI_succ, if_pos hpk, keptI_all hpl, List.take_range, Nat.min_eq_left (by omega)], fun m hm hm' => by simp [hm']⟩ ?_
    rintro ⟨a, j, q⟩ e w2 ⟨hS2, hql, haj, hjn, hal, hqt, hqr⟩
    dsimp only at hS2 hql haj hjn hal hqt hqr ⊢
    refine Cd.seq ?_
    refine Cd.seq ?_
    refine Cd.region ?_
    refine Ops.mv_int rfl rfl rfl ?_
    refine Ops.mv_sl rfl rfl rfl ?_
    refine Ops.len rfl rfl ?_
    refine Ops.lss rfl rfl rfl ?_
    refine Ops.nil ?_
    refine thenQ_n ?_
    refine Cd.cond_p _ rfl (fun h6 => ?_) (fun h6 => ?_)
    · have hj' : j < n := by omega
      have hR2 := hS2.rdR i (get _)
      have hqj := hqr j (Nat.le_refl _) hj'
      refine Cd.skip ?_
      refine thenQ_n ?_
      refine Cd.seq ?_
      refine Cd.block ?_
      refine Cd.seq ?_
      refine Cd.region ?_
      refine Ops.mv_sl rfl rfl rfl ?_
      refine Ops.mv_int rfl rfl rfl ?_
      refine Ops.idx hR2.2 rfl rfl rfl (by omega) (by omega) ?_
      refine Ops.ld_ag hR2 rfl (by omega) rfl ?_
      rw [hrg q j j hqj]
      refine Ops.new1 hS2 rfl ?_
      intro A7 w3 hS3
      refine Ops.st_agg 1 0 hS3 rfl rfl rfl rfl rfl rfl rfl ?_
      intro w4 hS4
      have hS4 : St w0 w4 (Bx 32 1 A7 [.slice (ss.getD j slNil).a (ss.getD j slNil).n (ss.getD j slNil).c] :: ks.set i (CkR t A n c (q.map fun j => ss.getD j slNil))) := hS4
      refine Ops.nil ?_
      refine thenQ_n ?_
      refine Cd.seq ?_
      refine Cd.region ?_
      refine Ops.mv_fn rfl rfl rfl ?_
      refine Ops.ld_agg 0 (hS4.rd 0 rfl) rfl rfl rfl ?_
      refine Ops.call (hcall w4 q hql hS4.tail j hj') rfl rfl rfl ?_
      rintro _ w5 ⟨rfl, hst5⟩
      have hS5 := hS4.later hst5.below
      rw [show pd j = decide (pd j = true) by simp]
      first | refine Ops.not_p rfl rfl ?_ | refine Ops.not rfl rfl ?_
      refine Ops.nil ?_
      refine thenQ_n ?_
      refine Cd.cond_p _ rfl (fun h7 => ?_) (fun h7 => ?_)
      · have hpj : ¬ pd j = true := h7
        refine Cd.seq ?_
        refine Cd.region ?_
        refine Ops.mv_sl rfl rfl rfl ?_
        refine Ops.mv_int rfl rfl rfl ?_
        refine Ops.ld_agg 0 (hS5.rd 0 rfl) rfl rfl rfl ?_
        refine Ops.idx (hS5.tail.rdR i (get _)).2 rfl rfl rfl (by omega) (by omega) ?_
        refine Ops.st_aggf (o := a) 1 (i + 1) hS5 (by show (ks.set i _)[i]? = _; exact get _) rfl rfl rfl rfl rfl (by rw [Nat.ble_eq]; show a + 1 ≤ n; omega) ?_
        intro w6 hS6
        have hS6 := hS6.tail
        refine Ops.nil ?_
        refine thenQ_n ?_
        refine Cd.region ?_
        refine Ops.mv_int rfl rfl rfl ?_
        refine Ops.add rfl rfl rfl (by omega) ?_
        refine Ops.mv_int rfl rfl rfl ?_
        refine Ops.nil ?_
        refine blockQ_n ?_
        refine thenQ_n ?_
        refine Cd.region ?_
        refine Ops.mv_int rfl rfl rfl ?_
        refine Ops.add rfl rfl rfl (by omega) ?_
        refine Ops.mv_int rfl rfl rfl ?_
        refine Ops.nil ?_
        refine thenQ_n ?_
        refine ⟨(a + 1, j + 1, q.set a j), by show n - (j + 1) < n - j; omega, ⟨rfl, rfl, rfl, rfl, trivial⟩, ?_, by show (q.set a j).length = n; rw [List.length_set]; exact hql, by show a + 1 < j + 1; omega, hj', by show a + 1 = (keptI pd (j + 1)).length; rw [keptI_succ, if_neg hpj, List.length_append, ← hal]; rfl, ?_, fun m hm hm' => ?_⟩
        · show St w0 w6 (ks.set i (CkR t A n c ((q.set a j).map fun j => ss.getD j slNil)))
          have e9 : (ks.set i (CkR t A n c (q.map fun j => ss.getD j slNil))).set i { CkR t A n c (q.map fun j => ss.getD j slNil) with vs := setL (CkR t A n c (q.map fun j => ss.getD j slNil)).vs a [.slice (ss.getD j slNil).a (ss.getD j slNil).n (ss.getD j slNil).c] } = ks.set i (CkR t A n c ((q.set a j).map fun j => ss.getD j slNil)) := by
            rw [List.set_set]
            congr 1
            show ({ CkR t A n c (q.map fun j => ss.getD j slNil) with vs := ((q.map fun j => ss.getD j slNil).map SlV.v).set a (ss.getD j slNil).v } : Ck) = _
            simp [CkR, List.map_set]
          rw [← e9]
          exact hS6
        · show (q.set a j).take (a + 1) = keptI pd (j + 1)
          rw [keptI_succ, if_neg hpj, ← hqt, List.take_succ_eq_append_getElem (by rw [List.length_set]; omega), List.take_set_of_le (Nat.le_refl _), List.getElem_set_self]
        · show (q.set a j)[m]? = some m
          have hm : j + 1 ≤ m := hm
          rw [List.getElem?_set, if_neg (by omega)]
          exact hqr m (by omega) hm'
      · have hpj : pd j = true := Classical.not_not.1 h7
        refine Cd.skip ?_
        refine blockQ_n ?_
        refine thenQ_n ?_
        refine Cd.region ?_
        refine Ops.mv_int rfl rfl rfl ?_
        refine Ops.add rfl rfl rfl (by omega) ?_
        refine Ops.mv_int rfl rfl rfl ?_
        refine Ops.nil ?_
        refine thenQ_n ?_
        exact ⟨(a, j + 1, q), by show n - (j + 1) < n - j; omega, ⟨rfl, rfl, rfl, rfl, trivial⟩, hS5.tail, hql, by show a < j + 1; omega, hj', by show a = (keptI pd (j + 1)).length; rw [keptI_succ, if_pos hpj]; exact hal, by show q.take a = keptI pd (j + 1); rw [keptI_succ, if_pos hpj]; exact hqt, fun m hm hm' => hqr m (by have hm : j + 1 ≤ m := hm; omega) hm'⟩
    · have hje : j = n := by omega
      subst hje
      refine Cd.exit ?_
      refine thenQ_x ?_
      refine thenQ_x ?_
      refine blockQ_x ?_
      refine thenQ_n ?_
      refine Cd.seq ?_
      refine Cd.region ?_
      refine Ops.mv_sl rfl rfl rfl ?_
      refine Ops.mv_int rfl rfl rfl ?_
      refine Ops.cut_l (A := A) (n := j) (c := c) (l := (a : Int)) rfl rfl rfl (by omega) ?_
      skip
      refine Ops.clr i a hS2 (get _) (show a < j by omega) (by show j - _ = j - a; omega) rfl rfl rfl ?_
      intro w3 hS3
      rw [List.set_set] at hS3
      refine Ops.nil ?_
      refine thenQ_n ?_
      refine Cd.seq ?_
      refine Cd.region ?_
      refine Ops.mv_sl rfl rfl rfl ?_
      refine Ops.mv_int rfl rfl rfl ?_
      refine Ops.cut_h (A := A) (n := j) (c := c) (h := (a : Int)) rfl rfl rfl (by omega) ?_
      refine Ops.mv_sl rfl rfl rfl ?_
      refine Ops.nil ?_
      refine thenQ_n ?_
      refine Cd.ret ?_
      refine ret1_s rfl ?_
      rw [← hal]
      refine ⟨rfl, ?_⟩
      rw [← hqt]
      have e9 : ({ CkR t A j c (q.map fun j => ss.getD j slNil) with n := a, vs := (CkR t A j c (q.map fun j => ss.getD j slNil)).vs.take a } : Ck) = CkR t A a c ((q.take a).map fun j => ss.getD j slNil) := by simp [CkR, List.map_take]
      rw [← e9]
      exact hS3
end Go.Proofs.YtjpkmpihmilgoaaGreat.Vc
/-
  PlaceOf on both sides, and the walk of its law. Conditions: as each states them.
-/
namespace Go.Proofs.YtjpkmpihmilgoaaGreat.Vc
open Go.RowKit
section
variable {P : Program} {N : Nat} {ops : Array Oper} {K : Env → World → Prop} {rest : List Oper} {e : Env} {w0 w : World} {ks : List Ck} {d : Nat} {ty : TypeId} {pos : String} {af : Array Edge}
theorem ret3_sii {R : Value → World → Prop} {t u s : Nat} {k' : IntKind} {j : Int} {A : Option Addr} {n c : Nat} {k : IntKind} {i : Int} (h : e t = .slice A n c) (h2 : e u = .int k' j) (h3 : e s = .int k i) (hR : R (.tuple #[.slice A n c, .int k' j, .int k i]) w) : ret3 t u s R .ret e w := by show R (.tuple #[e t, e u, e s]) w; rw [h, h2, h3]; exact hR
end

/-- the first place at which a predicate with one free variable holds -/
theorem indexM1_c (A : Option Addr) (n c : Nat) (ss : List SlV) (G : FuncId) [hF : Fnc Tryz.prog G] (cv : Value) (pd : Nat → Bool) (w : World) (hR : RdR w A n ss) (hn : n ≤ 4000000000000)
    (hcall : ∀ (w' : World) (j : Nat), Below w.heap.size w w' → j < n → Ret Tryz.prog G [.agg #[(rg ss (j : Int)).v], cv] w' (fun v w'' => v = .bool (pd j) ∧ St w' w'' [])) :
    Ret Tryz.prog 107 [.slice A n c, .func (.func G) #[] #[cv]] w (fun v w' => (∃ i : Int, v = .int .i64 i ∧ ((i = -1 ∧ ∀ j, j < n → pd j = false) ∨ ∃ k : Nat, k < n ∧ i = k ∧ pd k = true ∧ ∀ j, j < k → pd j = false)) ∧ St w w' []) := by
  refine Ret.of_cd Tryz.func107 rfl Tryz.ntmps107 rfl (post1 rfl) ?_
  refine Cd.seq ?_
  refine Cd.region ?_
  refine Ops.mv_int rfl rfl rfl ?_
  refine Ops.nil ?_
  refine thenQ_n ?_
  refine Cd.seq ?_
  refine Cd.seq ?_
  refine Cd.region ?_
  refine Ops.mv_sl rfl rfl rfl ?_
  refine Ops.len rfl rfl ?_
  refine Ops.mv_int rfl rfl rfl ?_
  refine Ops.nil ?_
  refine thenQ_n ?_
  refine Cd.block ?_
  refine Cd.loop (α := Nat) (fun k => [(0, .slice A n c), (1, .func (.func G) #[] #[cv]), (7, .int .i64 (n : Int)), (8, .int .i64 (k : Int))]) (fun k w' => St w w' [] ∧ k ≤ n ∧ ∀ j, j < k → pd j = false) (fun k => n - k) 0 ⟨rfl, rfl, rfl, rfl, trivial⟩ ⟨St.refl w, Nat.zero_le _, fun j hj => by omega⟩ ?_
  rintro k e w1 ⟨hS, hk, hK⟩
  refine Cd.seq ?_
  refine Cd.region ?_
  refine Ops.lss rfl rfl rfl ?_
  refine Ops.nil ?_
  refine thenQ_n ?_
  refine Cd.seq ?_
  refine Cd.cond_p _ rfl (fun h3 => ?_) (fun h3 => ?_)
  · have hk' : k < n := by omega
    have hR1 := hR.later hS.below
    refine Cd.skip ?_
    refine thenQ_n ?_
    refine Cd.seq ?_
    refine Cd.block ?_
    refine Cd.seq ?_
    refine Cd.region ?_
    refine Ops.mv_int rfl rfl rfl ?_
    refine Ops.mv_int rfl rfl rfl ?_
    refine Ops.nil ?_
    refine thenQ_n ?_
    refine Cd.seq ?_
    refine Cd.region ?_
    refine Ops.mv_fn rfl rfl rfl ?_
    refine Ops.mv_sl rfl rfl rfl ?_
    refine Ops.mv_int rfl rfl rfl ?_
    refine Ops.idx hR1.2 rfl rfl rfl (by omega) (by omega) ?_
    refine Ops.ld_ag hR1 rfl (by omega) rfl ?_
    refine Ops.call (hcall w1 k hS.below hk') rfl rfl rfl ?_
    rintro _ w2 ⟨rfl, hst⟩
    have hS2 := hS.later hst.below
    rw [show pd k = decide (pd k = true) by simp]
    refine Ops.nil ?_
    refine thenQ_n ?_
    refine Cd.cond_p _ rfl (fun h4 => ?_) (fun h4 => ?_)
    · refine Cd.seq ?_
      refine Cd.region ?_
      refine Ops.mv_int rfl rfl rfl ?_
      refine Ops.mv_int rfl rfl rfl ?_
      refine Ops.nil ?_
      refine thenQ_n ?_
      refine Cd.ret ?_
      refine blockQ_r ?_
      refine thenQ_r ?_
      refine thenQ_r ?_
      refine blockQ_r ?_
      refine thenQ_r ?_
      refine ret1_i rfl ?_
      exact ⟨⟨(k : Int), rfl, .inr ⟨k, hk', rfl, h4, hK⟩⟩, hS2⟩
    · refine Cd.skip ?_
      refine blockQ_n ?_
      refine thenQ_n ?_
      refine Cd.region ?_
      refine Ops.add rfl rfl rfl (by omega) ?_
      refine Ops.mv_int rfl rfl rfl ?_
      refine Ops.nil ?_
      refine thenQ_n ?_
      refine ⟨k + 1, by show n - (k + 1) < n - k; omega, ⟨rfl, rfl, rfl, rfl, trivial⟩, hS2, by omega, fun j hj => ?_⟩
      by_cases ej : j = k
      · subst ej; simpa using h4
      · exact hK j (by omega)
  · refine Cd.exit ?_
    refine thenQ_x ?_
    refine thenQ_x ?_
    refine blockQ_x ?_
    refine thenQ_n ?_
    refine Cd.seq ?_
    refine Cd.region ?_
    refine Ops.mv_int rfl rfl rfl ?_
    refine Ops.nil ?_
    refine thenQ_n ?_
    refine Cd.ret ?_
    refine ret1_i rfl ?_
    exact ⟨⟨-1, rfl, .inl ⟨rfl, fun j hj => hK j (by omega)⟩⟩, hS⟩

/-! places -/
def fsti (x : Mx) : List Mx → Nat
  | [] => 0
  | y :: l => if y = x then 0 else fsti x l + 1
theorem fsti_eq {x : Mx} : ∀ {l : List Mx} {k : Nat}, l[k]? = some x → (∀ j, j < k → l[j]? ≠ some x) → fsti x l = k
  | y :: l, 0, h, _ => by
    simp only [fsti]
    rw [if_pos (by simpa using h)]
  | y :: l, k + 1, h, hn => by
    have h0 := hn 0 (by omega)
    simp only [fsti]
    rw [if_neg (fun e => h0 (by simp [e]))]
    rw [fsti_eq (l := l) (k := k) (by simpa using h) (fun j hj => by have := hn (j + 1) (by omega); simpa using this)]
def Plc (xss : Mx) : Prop := Mani xss ∧ xss.length ≤ 4 ∧ (gl xss 0).length ≤ 12
instance (xss : Mx) : Decidable (Plc xss) := by unfold Plc; exact inferInstance
theorem Plc.small {xss : Mx} (h : Plc xss) : Small (xss.length : Nat) ((gl xss 0).length : Nat) := by
  have h1 := h.1.1
  have h2 := h.1.2.1
  have h3 := h.2
  unfold Small
  omega
def plL (xss : Mx) : List Mx := if Plc xss then listL xss.length (gl xss 0).length else []
def plI (xss : Mx) : Nat := fsti (leastL (gl xss 0).length xss) (plL xss)
def plK (xss : Mx) : Int := if ¬ Mani xss then 1 else if Plc xss then 0 else 3
theorem Plc.lstI {xss : Mx} (h : Plc xss) : Vc.lstI (xss.length : Nat) ((gl xss 0).length : Nat) = plL xss := by
  rw [Vc.lstI, if_pos h.small, plL, if_pos h, Int.toNat_natCast, Int.toNat_natCast]
theorem Plc.mem {xss : Mx} (h : Plc xss) : leastL (gl xss 0).length xss ∈ plL xss := by
  rw [plL, if_pos h]
  exact least_mem h.1 rfl
theorem Plc.k0 {xss : Mx} (h : Plc xss) : plK xss = 0 := by rw [plK, if_neg (fun hn => hn h.1), if_pos h]
/-- the list of a place, with its memory -/
def PlcS (xss : Mx) (w : World) (A : Option Addr) (c : Nat) (ms : List MatV) (w' : World) : Prop := ms.map (·.xss) = plL xss ∧ (∀ m ∈ ms, m.ok) ∧ St w w' (CkR 32 A ms.length c (ms.map (·.top)) :: matsCk 34 2 ms)
theorem PlcS.none {xss : Mx} {w w' : World} {ks : List Ck} (h : ¬ Plc xss) (hS : St w w' ks) : PlcS xss w Option.none 0 [] w' := ⟨by rw [plL, if_neg h]; rfl, fun m hm => (nomatch hm), hS.none.nil _⟩
theorem plI_bad {xss : Mx} (h : ¬ Plc xss) : plI xss = 0 := by rw [plI, plL, if_neg h]; rfl

theorem placeOf1_c (A : Option Addr) (n c : Nat) (rs : List SlV) (xss : Mx) (Pf B : Option Addr) (n' cB : Nat) (rsB : List SlV) (yss : Mx) (w : World) (hX : RowsI w A n rs xss) (hB : Rd w Pf 1 (fun _ => .slice B n' cB)) (hY : RowsI w B n' rsB yss) (hn : n ≤ 9223372036854775807) :
    Ret Tryz.prog 111 [.agg #[.slice A n c], .pointer Pf] w (fun v w' => v = .bool (decide (xss = yss)) ∧ St w w' []) := by
  refine Ret.of_cd Tryz.func111 rfl Tryz.ntmps111 rfl (post1 rfl) ?_
  refine Cd.seq ?_
  refine Cd.region ?_
  refine Ops.box1 (St.refl w) rfl rfl ?_
  intro Ab w1 hS1
  refine Ops.mv_bool rfl rfl rfl ?_
  refine Ops.nil ?_
  refine thenQ_n ?_
  refine Cd.seq ?_
  refine Cd.region ?_
  refine Ops.ld_agg 0 (hS1.rd 0 rfl) rfl rfl rfl ?_
  refine Ops.ld_agg 0 (hB.below hS1.below) rfl rfl rfl ?_
  refine Ops.call (sameManiplex_c A n c rs xss B n' cB rsB yss _ (hS1.oldRows hX) (hS1.oldRows hY) hn) rfl rfl rfl ?_
  rintro _ w2 ⟨rfl, hst⟩
  refine Ops.mv_bool rfl rfl rfl ?_
  refine Ops.nil ?_
  refine thenQ_n ?_
  refine Cd.ret ?_
  refine ret1_b rfl ?_
  exact ⟨rfl, (hS1.later hst.below).none⟩

theorem placeOf_c (A : Option Addr) (n c : Nat) (rs : List SlV) (xss : Mx) (w : World) (hR : RowsI w A n rs xss) (hnc : n ≤ c) (hc : c ≤ 9223372036854775807) :
    Ret Tryz.prog 62 [.agg #[.slice A n c]] w (fun v w' => ∃ A5 c5 ms, v = .tuple #[.slice A5 ms.length c5, .int .i64 (plI xss : Nat), .int .i64 (plK xss)] ∧ PlcS xss w A5 c5 ms w') := by
  have hxl := hR.len
  have r0 : 0 < n → (rg rs 0).n = (gl xss 0).length := fun h => (hR.rowLen (by omega) (by omega)).symm
  refine Ret.of_cd Tryz.func62 rfl Tryz.ntmps62 rfl (post3 rfl) ?_
  refine Cd.seq ?_
  refine Cd.region ?_
  refine Ops.box1 (St.refl w) rfl rfl ?_
  intro Ab w1 hS1
  refine Ops.mv_sl rfl rfl rfl ?_
  refine Ops.mv_int rfl rfl rfl ?_
  refine Ops.mv_int rfl rfl rfl ?_
  refine Ops.nil ?_
  refine thenQ_n ?_
  refine Cd.seq ?_
  refine Cd.block ?_
  refine Cd.seq ?_
  refine Cd.region ?_
  refine Ops.ld_agg 0 (hS1.rd 0 rfl) rfl rfl rfl ?_
  refine Ops.call (isManiplex_c A n c rs xss _ (hS1.oldRows hR) hnc hc) rfl rfl rfl ?_
  rintro _ w2 ⟨rfl, hst2⟩
  have hS2 := hS1.later hst2.below
  first | refine Ops.not_p rfl rfl ?_ | refine Ops.not rfl rfl ?_
  refine Ops.mv_bool rfl rfl rfl ?_
  refine Ops.nil ?_
  refine thenQ_n ?_
  refine Cd.cond_p _ rfl (fun h1 => ?_) (fun h1 => ?_)
  · have hp : ¬ Plc xss := fun h => h1 h.1
    refine Cd.seq ?_
    refine Cd.region ?_
    refine Ops.mv_sl rfl rfl rfl ?_
    refine Ops.mv_int rfl rfl rfl ?_
    refine Ops.mv_int rfl rfl rfl ?_
    refine Ops.nil ?_
    refine thenQ_n ?_
    refine Cd.ret ?_
    refine blockQ_r ?_
    refine thenQ_r ?_
    refine ret3_sii rfl rfl rfl ?_
    exact ⟨none, 0, [], by rw [plI_bad hp, plK, if_pos h1]; rfl, PlcS.none hp hS2⟩
  have hM : Mani xss := Classical.not_not.1 h1
  have hM1 := hM.1
  have hM2 := hM.2.1
  have r0 := r0 (by omega)
  refine Cd.seq ?_
  refine Cd.region ?_
  refine Ops.call (rank_c Ab A n c _ _ (hS2.rd 0 rfl) rfl) rfl rfl rfl ?_
  rintro _ w2 ⟨rfl, rfl⟩
  refine Ops.call (flags_c Ab A n c rs xss _ _ (hS2.rd 0 rfl) rfl (hS2.oldRows hR) (by omega)) rfl rfl rfl ?_
  rintro _ w2 ⟨rfl, rfl⟩
  rw [r0, ← hxl]
  refine Ops.call (isSmall_c (xss.length : Nat) ((gl xss 0).length : Nat) _) rfl rfl rfl ?_
  rintro _ w2 ⟨rfl, rfl⟩
  first | refine Ops.not_p rfl rfl ?_ | refine Ops.not rfl rfl ?_
  refine Ops.mv_bool rfl rfl rfl ?_
  refine Ops.nil ?_
  refine thenQ_n ?_
  refine Cd.cond_p _ rfl (fun h2 => ?_) (fun h2 => ?_)
  · have hp : ¬ Plc xss := fun h => h2 h.small
    refine Cd.seq ?_
    refine Cd.region ?_
    refine Ops.mv_sl rfl rfl rfl ?_
    refine Ops.mv_int rfl rfl rfl ?_
    refine Ops.mv_int rfl rfl rfl ?_
    refine Ops.nil ?_
    refine thenQ_n ?_
    refine Cd.ret ?_
    refine blockQ_r ?_
    refine thenQ_r ?_
    refine ret3_sii rfl rfl rfl ?_
    exact ⟨none, 0, [], by rw [plI_bad hp, plK, if_neg (fun h => h hM), if_neg hp]; rfl, PlcS.none hp hS2⟩
  have hsm := Classical.not_not.1 h2
  have hPl : Plc xss := ⟨hM, by have := hsm.1; omega, by have := hsm.2; omega⟩
  refine Cd.skip ?_
  refine blockQ_n ?_
  refine thenQ_n ?_
  refine Cd.seq ?_
  refine Cd.region ?_
  refine Ops.call (rank_c Ab A xss.length c _ _ (hS2.rd 0 rfl) (by rw [hxl]; rfl)) rfl rfl rfl ?_
  rintro _ w2 ⟨rfl, rfl⟩
  refine Ops.call (flags_c Ab A n c rs xss _ _ (hS2.rd 0 rfl) rfl (hS2.oldRows hR) (by omega)) rfl rfl rfl ?_
  rintro _ w2 ⟨rfl, rfl⟩
  rw [r0]
  refine Ops.call (allManiplexes_c (xss.length : Nat) ((gl xss 0).length : Nat) _) rfl rfl rfl ?_
  rintro _ w3 ⟨A5, c5, ms, rfl, hL, hok, hst3⟩
  have hml : ms.length = (plL xss).length := by rw [← hPl.lstI, ← hL, List.length_map]
  have hlim : ms.length ≤ 4000000000000 := by rw [hml, ← hPl.lstI]; exact lst_len _ _
  rw [hPl.lstI] at hL
  have hsm4 : ∀ m ∈ ms, m.xss.length ≤ 4 := fun m hm => (lst_small (rank := (xss.length : Nat)) (flags := ((gl xss 0).length : Nat)) (by rw [hPl.lstI, ← hL]; exact List.mem_map_of_mem (f := (·.xss)) hm)).2.2.2.1
  have hll : (leastL (gl xss 0).length xss).length = n := by rw [leastL_len, hxl]
  have hS3 := (hS2.call hst3).perm List.perm_append_comm
  refine Ops.mv_tup rfl rfl rfl ?_
  refine Ops.extract rfl rfl rfl ?_
  refine Ops.extract rfl rfl rfl ?_
  refine Ops.mv_sl rfl rfl rfl ?_
  refine Ops.mv_int rfl rfl rfl ?_
  refine Ops.nil ?_
  refine thenQ_n ?_
  refine Cd.seq ?_
  refine Cd.region ?_
  refine Ops.ld_agg 0 (hS3.rd 0 rfl) rfl rfl rfl ?_
  refine Ops.call (leastForm_c A n c rs xss _ _ (hS3.oldRows hR) hM rfl) rfl rfl rfl ?_
  rintro _ w4 ⟨B, cB, rsB, rfl, hlB, hst4⟩
  have hS4 := hS3.call hst4
  refine Ops.new1 hS4 rfl ?_
  intro A7 w5 hS5
  refine Ops.st_agg 1 0 hS5 rfl rfl rfl rfl rfl rfl rfl ?_
  intro w6 hS6
  have hS6 : St w w6 (Bx 32 1 A7 [.slice B n cB] :: (mat 34 2 B n cB rsB (leastL (gl xss 0).length xss) ++ (Bx 32 1 Ab [.slice A n c] :: CkR 32 A5 ms.length c5 (ms.map (·.top)) :: matsCk 34 2 ms))) := hS6
  have hMs := hS6.msR (A := A5) (c := c5) hok (((List.sublist_cons_self _ _).trans (List.sublist_append_right _ _)).trans (List.sublist_cons_self _ _))
  have hL6 : RowsI w6 B n rsB (leastL (gl xss 0).length xss) := hS6.matAt (c := cB) (t1 := 34) (t2 := 2) ((List.sublist_append_left _ _).trans (List.sublist_cons_self _ _)) hll
  have hB7 : Rd w6 A7 1 (fun _ => .slice B n cB) := Rd.first (hS6.rd 0 rfl)
  refine Ops.nil ?_
  refine thenQ_n ?_
  refine Cd.seq ?_
  refine Cd.region ?_
  refine Ops.mv_sl rfl rfl rfl ?_
  refine Ops.mv_sl rfl rfl rfl ?_
  refine Ops.fn1 rfl rfl ?_
  refine Ops.call (indexM1_c A5 ms.length c5 (ms.map (·.top)) 111 (.pointer A7) (fun j => decide ((plL xss)[j]? = some (leastL (gl xss 0).length xss))) _ hMs.top hlim (fun w' j hb hj => ?_)) rfl rfl rfl ?_
  · have ha := hMs.at_ hj
    have hcap : (rg (ms.map (·.top)) (j : Int)).n ≤ 9223372036854775807 := by
      have h1 := ha.len
      have h2 := hsm4 _ (List.getElem_mem hj)
      omega
    refine (placeOf1_c _ _ _ _ ms[j].xss A7 B n cB rsB (leastL (gl xss 0).length xss) w' (ha.later hb) (hB7.below hb) (hL6.later hb) hcap).mono ?_
    rintro v w'' ⟨rfl, hst⟩
    refine ⟨?_, hst⟩
    have hpi : (plL xss)[j]? = some ms[j].xss := by rw [← hL, List.getElem?_map, List.getElem?_eq_getElem hj]; rfl
    congr 1
    rw [decide_eq_decide, hpi]
    exact ⟨fun h => by rw [h], fun h => Option.some.inj h⟩
  rintro _ w7 ⟨⟨i, rfl, hi⟩, hst7⟩
  have hS7 := hS6.later hst7.below
  have hi : i = (plI xss : Nat) := by
    rcases hi with ⟨_, hno⟩ | ⟨k, hk, rfl, hpk, hno⟩
    · exfalso
      obtain ⟨j, hj, e⟩ := List.mem_iff_getElem.1 hPl.mem
      exact of_decide_eq_false (hno j (by omega)) (by rw [List.getElem?_eq_getElem hj, e])
    · rw [show plI xss = k from fsti_eq (of_decide_eq_true hpk) (fun j hj => of_decide_eq_false (hno j hj))]
  subst hi
  refine Ops.mv_sl rfl rfl rfl ?_
  refine Ops.mv_int rfl rfl rfl ?_
  refine Ops.mv_int rfl rfl rfl ?_
  refine Ops.nil ?_
  refine thenQ_n ?_
  refine Cd.ret ?_
  refine ret3_sii rfl rfl rfl ?_
  exact ⟨A5, c5, ms, by rw [hPl.k0], hL, hok, hS7.sub (((List.sublist_cons_self _ _).trans (List.sublist_append_right _ _)).trans (List.sublist_cons_self _ _))⟩

theorem implPlaceOf_c (A : Option Addr) (n c : Nat) (rs : List SlV) (xss : Mx) (w : World) (hR : RowsI w A n rs xss) (hnc : n ≤ c) (hc : c ≤ 9223372036854775807) :
    Ret Tryz.prog 23 [.agg #[.slice A n c]] w (fun v w' => v = .tuple #[.int .i64 (plI xss : Nat), .int .i64 (plK xss)] ∧ St w w' []) := by
  refine Ret.of_cd Tryz.func23 rfl Tryz.ntmps23 rfl (post2 rfl) ?_
  refine Cd.seq ?_
  refine Cd.region ?_
  refine Ops.box1 (St.refl w) rfl rfl ?_
  intro Ab w1 hS1
  refine Ops.mv_int rfl rfl rfl ?_
  refine Ops.mv_int rfl rfl rfl ?_
  refine Ops.nil ?_
  refine thenQ_n ?_
  refine Cd.seq ?_
  refine Cd.region ?_
  refine Ops.ld_agg 0 (hS1.rd 0 rfl) rfl rfl rfl ?_
  refine Ops.call (placeOf_c A n c rs xss _ (hS1.oldRows hR) hnc hc) rfl rfl rfl ?_
  rintro _ w2 ⟨A5, c5, ms, rfl, _, _, hst⟩
  refine Ops.mv_tup rfl rfl rfl ?_
  refine Ops.extract rfl rfl rfl ?_
  refine Ops.extract rfl rfl rfl ?_
  refine Ops.extract rfl rfl rfl ?_
  refine Ops.mv_sl rfl rfl rfl ?_
  refine Ops.mv_int rfl rfl rfl ?_
  refine Ops.mv_int rfl rfl rfl ?_
  refine Ops.nil ?_
  refine thenQ_n ?_
  refine Cd.seq ?_
  refine Cd.region ?_
  refine Ops.mv_int rfl rfl rfl ?_
  refine Ops.mv_int rfl rfl rfl ?_
  refine Ops.mv_int rfl rfl rfl ?_
  refine Ops.mv_int rfl rfl rfl ?_
  refine Ops.nil ?_
  refine thenQ_n ?_
  refine Cd.ret ?_
  refine ret2_ii rfl rfl ?_
  exact ⟨rfl, (hS1.call hst).none⟩

end Go.Proofs.YtjpkmpihmilgoaaGreat.Vc
/-
  Plain mathematics: two flags of a maniplex have the same form exactly if a covering of the maniplex by itself leads one to the other; a search finds such a covering; orbits of flags are as many as forms. Conditions: as each states them. No program in sight.
-/
namespace Go.Proofs.YtjpkmpihmilgoaaGreat.Vc

/-- a covering of a maniplex by itself -/
structure Cov (N : Nat) (xss : List (List Int)) (p : List Int) : Prop where
  len : p.length = N
  rng : ∀ x : Int, 0 ≤ x → x < N → 0 ≤ gi p x ∧ gi p x < N
  com : ∀ (m : Nat) (x : Int), m < xss.length → 0 ≤ x → x < N → gi p (gi (gl xss m) x) = gi (gl xss m) (gi p x)

section
variable {N : Nat} {xss : List (List Int)} {p q : List Int}
theorem Cov.onto (h : Cov N xss p) (hM : Mani xss) (hN : N = (gl xss 0).length) {z : Int} (h0 : 0 ≤ z) (h1 : z < N) : ∃ x : Int, (0 ≤ x ∧ x < N) ∧ gi p x = z := by
  have hs := hM.2.2.1.sys
  have hN2 := hM.2.1
  rw [← hN] at hs
  have hb := h.rng 0 (by omega) (by omega)
  have hr := hM.any (f := gi p 0) (g := z) hb.1 (by omega) h0 (by omega)
  have key : ∀ y, Reach xss (gi p 0) y → ∃ x : Int, (0 ≤ x ∧ x < N) ∧ gi p x = y := by
    intro y hy
    induction hy with
    | refl => exact ⟨0, ⟨by omega, by omega⟩, rfl⟩
    | step _ hm ih =>
      obtain ⟨x, hx, rfl⟩ := ih
      obtain ⟨i, hi, rfl⟩ := List.mem_iff_getElem.1 hm
      have hq := (hs _ hm).2 x hx.1 hx.2
      have hc := h.com i x hi hx.1 hx.2
      rw [gl_mem hi] at hc
      exact ⟨_, hq, hc⟩
  exact key z hr
theorem Cov.inj (h : Cov N xss p) (hM : Mani xss) (hN : N = (gl xss 0).length) : ∀ x y : Int, 0 ≤ x → x < N → 0 ≤ y → y < N → gi p x = gi p y → x = y := by
  intro x y hx hx' hy hy' e
  apply Classical.byContradiction
  intro hne
  obtain ⟨i, rfl⟩ : ∃ i : Nat, x = i := ⟨x.toNat, by omega⟩
  obtain ⟨j, rfl⟩ : ∃ j : Nat, y = j := ⟨y.toNat, by omega⟩
  have hl := h.len
  have hsub := sub_len (seqI N) (p.eraseIdx j) (by
    unfold seqI
    rw [List.nodup_iff_pairwise_ne, List.pairwise_map]
    exact (List.nodup_iff_pairwise_ne.1 List.nodup_range).imp (fun h e => h (by omega))) (fun z hz => by
    have hz := seqI_mem.1 hz
    obtain ⟨u, hu, rfl⟩ := h.onto hM hN hz.1 hz.2
    obtain ⟨k, rfl⟩ : ∃ k : Nat, u = k := ⟨u.toNat, by omega⟩
    rw [List.mem_eraseIdx_iff_getElem]
    by_cases hk : k = j
    · subst hk
      exact ⟨i, by omega, by omega, by rw [← e, gi_mem (by omega)]⟩
    · exact ⟨k, by omega, hk, by rw [gi_mem (by omega)]⟩)
  rw [seqI_len, List.length_eraseIdx, if_pos (by omega)] at hsub
  omega
theorem Cov.ism (h : Cov N xss p) (hM : Mani xss) (hN : N = (gl xss 0).length) : Ism N xss xss (gi p) := ⟨rfl, h.rng, h.inj hM hN, fun i x hi hx hx' => (h.com i x hi hx hx').symm⟩
theorem Cov.form (h : Cov N xss p) (hM : Mani xss) (hN : N = (gl xss 0).length) {x : Int} (h0 : 0 ≤ x) (h1 : x < N) : formL N xss (gi p x) = formL N xss x := form_map (h.ism hM hN) hM hN h0 h1
theorem Cov.one (h : Cov N xss p) (h' : Cov N xss q) (hM : Mani xss) (hN : N = (gl xss 0).length) (e : gi p 0 = gi q 0) : p = q := by
  have hs := hM.2.2.1.sys
  have hN2 := hM.2.1
  rw [← hN] at hs
  have key : ∀ y, Reach xss 0 y → (0 ≤ y ∧ y < N) ∧ gi p y = gi q y := by
    intro y hy
    induction hy with
    | refl => exact ⟨⟨by omega, by omega⟩, e⟩
    | step _ hm ih =>
      obtain ⟨hx, e⟩ := ih
      obtain ⟨i, hi, rfl⟩ := List.mem_iff_getElem.1 hm
      have h1 := h.com i _ hi hx.1 hx.2
      have h2 := h'.com i _ hi hx.1 hx.2
      rw [gl_mem hi] at h1 h2
      exact ⟨(hs _ hm).2 _ hx.1 hx.2, by rw [h1, h2, e]⟩
  apply List.ext_getElem
  · rw [h.len, h'.len]
  · intro i h1 h2
    have := (key i (hM.all (by omega) (by have := h.len; omega))).2
    rwa [gi_mem h1, gi_mem h2] at this
/-- the same form: a covering leads from one flag to the other -/
theorem form_cov (hM : Mani xss) (hN : N = (gl xss 0).length) {f g : Int} (h0 : 0 ≤ f) (h1 : f < N) (h2 : 0 ≤ g) (h3 : g < N) (e : formL N xss f = formL N xss g) : ∃ p, Cov N xss p ∧ gi p f = g := by
  have hs := hM.2.2.1.sys
  have hPf := hM.prm h0 (by rw [← hN]; exact h1)
  have hPg := hM.prm h2 (by rw [← hN]; exact h3)
  rw [← hN] at hs hPf hPg
  have hIf := form_ism hM hN h0 h1
  have hIg := form_ism hM hN h2 h3
  have hget : ∀ x : Int, 0 ≤ x → x < N → gi ((List.range N).map fun x : Nat => gi (orbit N xss g) (gi (backI N (orbit N xss f)) (x : Int))) x = gi (orbit N xss g) (gi (backI N (orbit N xss f)) x) := fun x hx hx' => by
    obtain ⟨k, rfl⟩ : ∃ k : Nat, x = k := ⟨x.toNat, by omega⟩
    rw [gi_mem (by simp; omega)]
    simp
  have hr : ∀ x : Int, 0 ≤ x → x < N → 0 ≤ gi (orbit N xss g) (gi (backI N (orbit N xss f)) x) ∧ gi (orbit N xss g) (gi (backI N (orbit N xss f)) x) < N := fun x hx hx' => by
    obtain ⟨k, hk, _, e2⟩ := hPf.backR hx hx'
    rw [e2]
    exact hPg.rng hk
  have hb : ∀ x : Int, 0 ≤ x → x < N → gi (backI N (orbit N xss g)) (gi (orbit N xss g) (gi (backI N (orbit N xss f)) x)) = gi (backI N (orbit N xss f)) x := fun x hx hx' => by
    obtain ⟨k, hk, _, e2⟩ := hPf.backR hx hx'
    rw [e2, hPg.back hk]
  refine ⟨(List.range N).map fun x : Nat => gi (orbit N xss g) (gi (backI N (orbit N xss f)) (x : Int)), ⟨by simp, fun x hx hx' => by rw [hget x hx hx']; exact hr x hx hx', fun m x hm hx hx' => ?_⟩, ?_⟩
  · have hin : ∀ x : Int, 0 ≤ x → x < N → 0 ≤ gi (gl xss m) x ∧ gi (gl xss m) x < N := (hs (gl xss m) (by rw [gl_mem hm]; exact List.getElem_mem _)).2
    have hx1 := hin x hx hx'
    have hy := hr x hx hx'
    have hy1 := hin _ hy.1 hy.2
    have hz := hr _ hx1.1 hx1.2
    rw [hget x hx hx', hget _ hx1.1 hx1.2]
    apply hIg.inj _ _ hz.1 hz.2 hy1.1 hy1.2
    rw [hb _ hx1.1 hx1.2, ← hIf.com m x hm hx hx', ← hIg.com m _ hm hy.1 hy.2, hb x hx hx', e]
  · rw [hget f h0 h1, (form_pt hM hN h0 h1).2]
    exact (form_pt hM hN h2 h3).1

/-- all coverings -/
structure AllCov (N : Nat) (xss ps : List (List Int)) : Prop where
  cov : ∀ p ∈ ps, Cov N xss p
  all : ∀ p, Cov N xss p → p ∈ ps
variable {ps : List (List Int)}
theorem AllCov.sys (h : AllCov N xss ps) : Sys N ps := fun p hp => ⟨(h.cov p hp).len, (h.cov p hp).rng⟩
theorem AllCov.inj (h : AllCov N xss ps) (hM : Mani xss) (hN : N = (gl xss 0).length) : Inj N ps := fun p hp => (h.cov p hp).inj hM hN
theorem AllCov.reach (h : AllCov N xss ps) (hM : Mani xss) (hN : N = (gl xss 0).length) {f g : Int} (h0 : 0 ≤ f) (h1 : f < N) (h2 : 0 ≤ g) (h3 : g < N) : Reach ps f g ↔ formL N xss f = formL N xss g := by
  constructor
  · intro hr
    have key : ∀ y, Reach ps f y → (0 ≤ y ∧ y < N) ∧ formL N xss f = formL N xss y := by
      intro y hy
      induction hy with
      | refl => exact ⟨⟨h0, h1⟩, rfl⟩
      | step _ hm ih =>
        obtain ⟨hx, e⟩ := ih
        have hc := h.cov _ hm
        exact ⟨hc.rng _ hx.1 hx.2, by rw [e, hc.form hM hN hx.1 hx.2]⟩
    exact (key g hr).2
  · intro e
    obtain ⟨p, hp, rfl⟩ := form_cov hM hN h0 h1 h2 h3 e
    exact .step .refl (h.all p hp)
theorem fset_mem {m : List (List Int)} : ∀ k, m ∈ fset N xss k ↔ ∃ j : Nat, j < k ∧ m = formL N xss (j : Int)
  | 0 => by simp [fset]
  | k + 1 => by
    have ih := fset_mem (m := m) k
    simp only [fset]
    split
    · rename_i hk
      rw [ih]
      constructor
      · rintro ⟨j, hj, e⟩; exact ⟨j, by omega, e⟩
      · rintro ⟨j, hj, e⟩
        by_cases e2 : j = k
        · subst e2
          rw [← e] at hk
          exact ih.1 hk
        · exact ⟨j, by omega, e⟩
    · rw [List.mem_append, ih]
      constructor
      · rintro (⟨j, hj, e⟩ | h)
        · exact ⟨j, by omega, e⟩
        · exact ⟨k, by omega, by simpa using h⟩
      · rintro ⟨j, hj, e⟩
        by_cases e2 : j = k
        · subst e2; exact .inr (by simp [e])
        · exact .inl ⟨j, by omega, e⟩
/-- as many orbits as forms -/
theorem AllCov.orbits (h : AllCov N xss ps) (hM : Mani xss) (hN : N = (gl xss 0).length) : ∀ k, k ≤ N → (lab N ps k).2 = ((fset N xss k).length : Nat)
  | 0, _ => rfl
  | k + 1, hk => by
    have ih := h.orbits hM hN k (by omega)
    have hm := lab_mem h.sys k (by omega) (k : Int) (by omega) (by omega)
    have hiff : 0 ≤ gi (lab N ps k).1 (k : Int) ↔ formL N xss (k : Int) ∈ fset N xss k := by
      rw [hm, fset_mem]
      constructor
      · rintro ⟨j, hj, hr⟩
        exact ⟨j, hj, ((h.reach hM hN (by omega) (by omega) (by omega) (by omega)).1 hr).symm⟩
      · rintro ⟨j, hj, e⟩
        exact ⟨j, hj, (h.reach hM hN (by omega) (by omega) (by omega) (by omega)).2 e.symm⟩
    by_cases hc : 0 ≤ gi (lab N ps k).1 (k : Int)
    · rw [lab_pos hc, ih]
      simp only [fset]
      rw [if_pos (hiff.1 hc)]
    · rw [lab_neg hc]
      simp only [fset]
      rw [if_neg (fun hm => hc (hiff.2 hm)), List.length_append, List.length_singleton]
      omega
end

/-! the search for a covering -/
structure CI (N : Nat) (xss : List (List Int)) (b : Int) (i k : Nat) (L Q : List Int) : Prop where
  len : L.length = N
  val : ∀ x : Int, 0 ≤ x → x < N → (gi L x = -1 ∧ x ∉ Q) ∨ ((0 ≤ gi L x ∧ gi L x < N) ∧ x ∈ Q)
  nod : Q.Nodup
  rng : ∀ x ∈ Q, 0 ≤ x ∧ x < (N : Int)
  q0 : (0 : Int) ∈ Q
  l0 : gi L 0 = b
  le : i ≤ Q.length
  done : ∀ j, j < i → ∀ m, m < xss.length → gi L (gi (gl xss m) (gi Q (j : Int))) = gi (gl xss m) (gi L (gi Q (j : Int)))
  part : ∀ m, m < k → gi L (gi (gl xss m) (gi Q (i : Int))) = gi (gl xss m) (gi L (gi Q (i : Int)))
  uniq : ∀ q, Cov N xss q → gi q 0 = b → ∀ x ∈ Q, gi L x = gi q x

section
variable {N : Nat} {xss : List (List Int)} {b : Int} {i k : Nat} {L Q : List Int}
theorem CI.init (h0 : 0 < N) (hb0 : 0 ≤ b) (hb1 : b < N) : CI N xss b 0 0 ((List.replicate N (-1)).set 0 b) [0] := by
  have hg : ∀ x : Int, 0 ≤ x → x < N → gi ((List.replicate N (-1)).set 0 b) x = if (0 : Int) = x then b else -1 := fun x hx hx' => by
    have := gi_set (S := List.replicate N (-1)) (x := 0) (y := x) (b := b) (by omega) (by simp; omega) hx
    rw [show Int.toNat 0 = 0 from rfl] at this
    rw [this, gi_rep hx hx']
  refine ⟨by simp, fun x hx hx' => ?_, by simp, fun x hx => by simp at hx; omega, by simp, by rw [hg 0 (by omega) (by omega), if_pos rfl], Nat.zero_le _, fun j hj => by omega, fun m hm => by omega, fun q _ e x hx => ?_⟩
  · rw [hg x hx hx']
    by_cases e : (0 : Int) = x
    · rw [if_pos e]; exact .inr ⟨⟨hb0, hb1⟩, by simp [← e]⟩
    · rw [if_neg e]; exact .inl ⟨rfl, by simp; omega⟩
  · simp at hx
    subst hx
    rw [hg 0 (by omega) (by omega), if_pos rfl, e]
theorem CI.at_ (h : CI N xss b i k L Q) (hs : Sys N xss) (hi : i < Q.length) (hk : k < xss.length) : (0 ≤ gi Q (i : Int) ∧ gi Q (i : Int) < N) ∧ (0 ≤ gi L (gi Q (i : Int)) ∧ gi L (gi Q (i : Int)) < N) ∧ (0 ≤ gi (gl xss k) (gi Q (i : Int)) ∧ gi (gl xss k) (gi Q (i : Int)) < N) ∧ (0 ≤ gi (gl xss k) (gi L (gi Q (i : Int))) ∧ gi (gl xss k) (gi L (gi Q (i : Int))) < N) := by
  have hm := gi_in hi
  have hr := h.rng _ hm
  have hv : 0 ≤ gi L (gi Q (i : Int)) ∧ gi L (gi Q (i : Int)) < N := by
    rcases h.val _ hr.1 hr.2 with h1 | h1
    · exact absurd hm h1.2
    · exact h1.1
  have hin := (hs (gl xss k) (by rw [gl_mem hk]; exact List.getElem_mem _)).2
  exact ⟨hr, hv, hin _ hr.1 hr.2, hin _ hv.1 hv.2⟩
theorem CI.same (h : CI N xss b i k L Q) (e : gi L (gi (gl xss k) (gi Q (i : Int))) = gi (gl xss k) (gi L (gi Q (i : Int)))) : CI N xss b i (k + 1) L Q :=
  ⟨h.len, h.val, h.nod, h.rng, h.q0, h.l0, h.le, h.done, fun m hm => by
    by_cases e2 : m = k
    · subst e2; exact e
    · exact h.part m (by omega), h.uniq⟩
theorem CI.set (h : CI N xss b i k L Q) (hs : Sys N xss) (hi : i < Q.length) (hk : k < xss.length) (hneg : gi L (gi (gl xss k) (gi Q (i : Int))) < 0) :
    CI N xss b i (k + 1) (L.set (gi (gl xss k) (gi Q (i : Int))).toNat (gi (gl xss k) (gi L (gi Q (i : Int))))) (Q ++ [gi (gl xss k) (gi Q (i : Int))]) := by
  obtain ⟨hr, hv, hg, ht⟩ := h.at_ hs hi hk
  have hlen := h.len
  generalize hge : gi (gl xss k) (gi Q (i : Int)) = g at *
  have hset : ∀ x : Int, 0 ≤ x → gi (L.set g.toNat (gi (gl xss k) (gi L (gi Q (i : Int))))) x = if g = x then gi (gl xss k) (gi L (gi Q (i : Int))) else gi L x := fun x hx => gi_set hg.1 (by omega) hx
  have hgQ : g ∉ Q := fun hm => by
    rcases h.val g hg.1 hg.2 with h1 | h1
    · exact h1.2 hm
    · omega
  have hkeep : ∀ x ∈ Q, gi (L.set g.toNat (gi (gl xss k) (gi L (gi Q (i : Int))))) x = gi L x := fun x hx => by
    rw [hset x (h.rng x hx).1, if_neg (fun e => hgQ (by rw [e]; exact hx))]
  have hpos : ∀ x : Int, 0 ≤ x → x < N → 0 ≤ gi L x → gi (L.set g.toNat (gi (gl xss k) (gi L (gi Q (i : Int))))) x = gi L x := fun x hx hx' h0 => by
    rcases h.val x hx hx' with h1 | h1
    · omega
    · exact hkeep x h1.2
  have hQ : ∀ j : Nat, j < Q.length → gi (Q ++ [g]) (j : Int) = gi Q (j : Int) := fun j hj => gi_prefix (List.prefix_append _ _) hj
  have hin : ∀ (m : Nat) (x : Int), m < xss.length → 0 ≤ x → x < N → 0 ≤ gi (gl xss m) x ∧ gi (gl xss m) x < N := fun m x hm hx hx' => (hs (gl xss m) (by rw [gl_mem hm]; exact List.getElem_mem _)).2 x hx hx'
  have hval : ∀ x ∈ Q, 0 ≤ gi L x ∧ gi L x < N := fun x hx => by
    have hxr := h.rng x hx
    rcases h.val x hxr.1 hxr.2 with h1 | h1
    · exact absurd hx h1.2
    · exact h1.1
  have keep : ∀ (j m : Nat), j < Q.length → m < xss.length → gi L (gi (gl xss m) (gi Q (j : Int))) = gi (gl xss m) (gi L (gi Q (j : Int))) → gi (L.set g.toNat (gi (gl xss k) (gi L (gi Q (i : Int))))) (gi (gl xss m) (gi (Q ++ [g]) (j : Int))) = gi (gl xss m) (gi (L.set g.toNat (gi (gl xss k) (gi L (gi Q (i : Int))))) (gi (Q ++ [g]) (j : Int))) := fun j m hj hm e => by
    have hjm := gi_in hj
    have hjr := h.rng _ hjm
    have hjv := hval _ hjm
    have h1 := hin m _ hm hjr.1 hjr.2
    have h2 := hin m _ hm hjv.1 hjv.2
    rw [hQ j hj, hkeep _ hjm, hpos _ h1.1 h1.2 (by omega), e]
  refine ⟨by rw [List.length_set]; exact h.len, fun x hx hx' => ?_, ?_, fun x hx => ?_, List.mem_append_left _ h.q0, ?_, by rw [List.length_append]; omega, fun j hj m hm => keep j m (by omega) hm (h.done j hj m hm), fun m hm => ?_, fun q hq eq x hx => ?_⟩
  · rw [hset x hx]
    by_cases e : g = x
    · rw [if_pos e]; exact .inr ⟨ht, by simp [e]⟩
    · rw [if_neg e]
      rcases h.val x hx hx' with h1 | h1
      · exact .inl ⟨h1.1, by simp [h1.2]; omega⟩
      · exact .inr ⟨h1.1, List.mem_append_left _ h1.2⟩
  · rw [List.nodup_append]
    exact ⟨h.nod, by simp, fun a ha c hc e => by simp at hc; subst hc; subst e; exact hgQ ha⟩
  · rcases List.mem_append.1 hx with hx | hx
    · exact h.rng x hx
    · simp at hx; subst hx; exact hg
  · rw [hkeep 0 h.q0]; exact h.l0
  · by_cases e : m = k
    · subst e
      rw [hQ i hi, hkeep _ (gi_in hi), hge, hset g hg.1, if_pos rfl]
    · by_cases hmx : m < xss.length
      · exact keep i m hi hmx (h.part m (by omega))
      · omega
  · rcases List.mem_append.1 hx with hx | hx
    · rw [hkeep x hx]; exact h.uniq q hq eq x hx
    · simp at hx
      subst hx
      have h1 := hq.com k _ hk hr.1 hr.2
      rw [hset _ hg.1, if_pos rfl, h.uniq q hq eq _ (gi_in hi), ← h1, hge]
theorem CI.none (h : CI N xss b i k L Q) (hs : Sys N xss) (hi : i < Q.length) (hk : k < xss.length) (h0 : ¬ gi L (gi (gl xss k) (gi Q (i : Int))) < 0) (hne : gi L (gi (gl xss k) (gi Q (i : Int))) ≠ gi (gl xss k) (gi L (gi Q (i : Int)))) : ∀ q, Cov N xss q → gi q 0 = b → False := fun q hq eq => by
  obtain ⟨hr, hv, hg, ht⟩ := h.at_ hs hi hk
  rcases h.val _ hg.1 hg.2 with h1 | h1
  · omega
  · have e1 := h.uniq q hq eq _ h1.2
    have e2 := h.uniq q hq eq _ (gi_in hi)
    have e3 := hq.com k _ hk hr.1 hr.2
    rw [← e1, ← e2] at e3
    exact hne e3
theorem CI.next (h : CI N xss b i xss.length L Q) (hi : i < Q.length) : CI N xss b (i + 1) 0 L Q :=
  ⟨h.len, h.val, h.nod, h.rng, h.q0, h.l0, hi, fun j hj m hm => by
    by_cases e : j = i
    · subst e; exact h.part m hm
    · exact h.done j (by omega) m hm, fun m hm => by omega, h.uniq⟩
theorem CI.end_ (h : CI N xss b i 0 L Q) (hM : Mani xss) (hN : N = (gl xss 0).length) (hi : Q.length ≤ i) : Cov N xss L ∧ gi L 0 = b := by
  have hs := hM.2.2.1.sys
  have hN2 := hM.2.1
  rw [← hN] at hs
  have hin : ∀ (m : Nat) (x : Int), m < xss.length → 0 ≤ x → x < N → 0 ≤ gi (gl xss m) x ∧ gi (gl xss m) x < N := fun m x hm hx hx' => (hs (gl xss m) (by rw [gl_mem hm]; exact List.getElem_mem _)).2 x hx hx'
  have hcl : ∀ x ∈ Q, ∀ m, m < xss.length → gi L (gi (gl xss m) x) = gi (gl xss m) (gi L x) := fun x hx m hm => by
    obtain ⟨j, hj, rfl⟩ := List.mem_iff_getElem.1 hx
    have := h.done j (by omega) m hm
    rwa [gi_mem hj] at this
  have hval : ∀ x ∈ Q, 0 ≤ gi L x ∧ gi L x < N := fun x hx => by
    have hxr := h.rng x hx
    rcases h.val x hxr.1 hxr.2 with h1 | h1
    · exact absurd hx h1.2
    · exact h1.1
  have hall : ∀ y, Reach xss 0 y → y ∈ Q := by
    intro y hy
    induction hy with
    | refl => exact h.q0
    | step _ hm ih =>
      obtain ⟨m, hmx, rfl⟩ := List.mem_iff_getElem.1 hm
      have hr := h.rng _ ih
      have hv := hval _ ih
      have e := hcl _ ih m hmx
      have h1 := hin m _ hmx hr.1 hr.2
      have h2 := hin m _ hmx hv.1 hv.2
      rw [gl_mem hmx] at e h1 h2
      rcases h.val _ h1.1 h1.2 with h3 | h3
      · omega
      · exact h3.2
  have hQ : ∀ x : Int, 0 ≤ x → x < N → x ∈ Q := fun x hx hx' => hall x (hM.all hx (by omega))
  exact ⟨⟨h.len, fun x hx hx' => hval x (hQ x hx hx'), fun m x hm hx hx' => hcl x (hQ x hx hx') m hm⟩, h.l0⟩
end
end Go.Proofs.YtjpkmpihmilgoaaGreat.Vc
/-
  The walk of the search for a covering of a maniplex by itself. Conditions: as it states them.
-/
namespace Go.Proofs.YtjpkmpihmilgoaaGreat.Vc
open Go.RowKit

theorem St.isSome {w0 w : World} {ks : List Ck} {i : Nat} {t : TypeId} {A : Option Addr} {n c : Nat} {xs : List Int} (h : St w0 w ks) (hk : ks[i]? = some (CkI t A n c xs)) (hn : 0 < n) : ∃ a, A = some a := by
  obtain ⟨h1, h2, h3, h4⟩ := h.getC hk (isM_I _)
  rcases h4 with ⟨hA, hc0⟩ | ⟨g, o, cur, hA, _⟩
  · have e1 : c = 0 := hc0
    have e2 : n ≤ c := h2
    omega
  · exact ⟨_, hA⟩

theorem coveringTo_c (A : Option Addr) (n c : Nat) (rs : List SlV) (xss : List (List Int)) (N : Nat) (b : Int) (w : World) (hR : RowsI w A n rs xss) (hM : Mani xss) (hN : N = (gl xss 0).length) (h0 : 0 ≤ b) (h1 : b < N) :
    Ret Tryz.prog 140 [.agg #[.slice A n c], .agg #[.slice A n c], .int .i64 b] w (fun v w' => (∃ a c' L, v = .slice (some a) N c' ∧ Cov N xss L ∧ gi L 0 = b ∧ St w w' [CkI 2 (some a) N c' L]) ∨ (v = .slice none 0 0 ∧ (∀ q, Cov N xss q → gi q 0 = b → False) ∧ St w w' [])) := by
  have hn := hM.1
  have hN2 := hM.2.1
  have hxl := hR.len
  have hs := hM.2.2.1.sys
  rw [← hN] at hs
  have hrn : ∀ k : Int, 0 ≤ k → k < n → (rg rs k).n = N := fun k hk hk' => by
    have h1 := hR.rowLen hk hk'
    have h2 := (hM.2.2.1.at_ (k := k.toNat) (by omega)).1
    rw [Int.toNat_of_nonneg hk] at h2
    omega
  have hr0 := hrn 0 (by omega) (by omega)
  refine Ret.of_cd Tryz.func140 rfl Tryz.ntmps140 rfl (post1 rfl) ?_
  refine Cd.seq ?_
  refine Cd.region ?_
  refine Ops.box1 (St.refl w) rfl rfl ?_
  intro Ab w1 hS1
  refine Ops.box1 hS1 rfl rfl ?_
  intro Ac w2 hS2
  refine Ops.mv_sl rfl rfl rfl ?_
  refine Ops.nil ?_
  refine thenQ_n ?_
  refine Cd.seq ?_
  refine Cd.seq ?_
  refine Cd.region ?_
  refine Ops.call (rank_c Ab A n c _ _ (hS2.rd 1 rfl) rfl) rfl rfl rfl ?_
  rintro _ w2 ⟨rfl, rfl⟩
  refine Ops.call (rank_c Ac A n c _ _ (hS2.rd 0 rfl) rfl) rfl rfl rfl ?_
  rintro _ w2 ⟨rfl, rfl⟩
  refine Ops.neq rfl rfl rfl ?_
  refine Ops.nil ?_
  refine thenQ_n ?_
  refine Cd.cond_pf rfl (fun h => h rfl) ?_
  refine Cd.skip ?_
  refine thenQ_n ?_
  refine Cd.seq ?_
  refine Cd.region ?_
  refine Ops.bs1I hS2 rfl rfl rfl ?_
  intro A1 w3 hS3
  refine Ops.call (flags_c Ab A n c rs xss _ _ (hS3.rd 2 rfl) rfl (hS3.oldRows hR) (by omega)) rfl rfl rfl ?_
  rintro _ w3 ⟨rfl, rfl⟩
  rw [hr0]
  skip
  refine Ops.call (Repeat_c A1 1 (-1) N _ (hS3.rdI 0 rfl) (by omega)) rfl rfl rfl ?_
  rintro _ w4 ⟨A5, rfl, hst⟩
  have hS4 : St w w4 [CkI 2 A5 N N (List.replicate N (-1)), Bx 32 1 Ac [.slice A n c], Bx 32 1 Ab [.slice A n c]] := (hS3.call hst).sub (List.Sublist.cons_cons _ (List.sublist_cons_self _ _))
  refine Ops.mv_sl rfl rfl rfl ?_
  refine Ops.nil ?_
  refine thenQ_n ?_
  refine Cd.seq ?_
  refine Cd.region ?_
  refine Ops.mv_sl rfl rfl rfl ?_
  refine Ops.mv_int rfl rfl rfl ?_
  refine Ops.idx (hS4.rdI 0 rfl).2 rfl rfl rfl (by omega) (by omega) ?_
  refine Ops.st_int 0 hS4 rfl rfl rfl (by omega) ?_
  intro w5 hS5
  refine Ops.nil ?_
  refine thenQ_n ?_
  refine Cd.seq ?_
  refine Cd.seq ?_
  refine Cd.region ?_
  refine Ops.bs1I hS5 rfl rfl rfl ?_
  intro A6 w6 hS6
  have hS6 : St w w6 [CkI 2 A6 ([(0 : Int)].length - 0) 1 ([(0 : Int)].drop 0), CkI 2 A5 N N ((List.replicate N (-1)).set 0 b), Bx 32 1 Ac [.slice A n c], Bx 32 1 Ab [.slice A n c]] := hS6
  refine Ops.mv_sl rfl rfl rfl ?_
  refine Ops.nil ?_
  refine thenQ_n ?_
  refine Cd.block ?_
  refine Cd.loop (α := Nat × Option Addr × Nat × List Int × List Int) (fun z => [(3, .pointer Ab), (4, .pointer Ac), (7, .slice A5 N N), (8, .slice z.2.1 (z.2.2.2.2.length - z.1) z.2.2.1)])
    (fun z w' => St w w' [CkI 2 z.2.1 (z.2.2.2.2.length - z.1) z.2.2.1 (z.2.2.2.2.drop z.1), CkI 2 A5 N N z.2.2.2.1, Bx 32 1 Ac [.slice A n c], Bx 32 1 Ab [.slice A n c]] ∧ CI N xss b z.1 0 z.2.2.2.1 z.2.2.2.2)
    (fun z => N + 1 - z.1) (0, A6, 1, (List.replicate N (-1)).set 0 b, [0]) ⟨rfl, rfl, rfl, rfl, trivial⟩ ⟨hS6, CI.init (by omega) h0 h1⟩ ?_
  rintro ⟨i, A10, c10, L, Q⟩ e w7 ⟨hS7, hC⟩
  dsimp only at hS7 hC ⊢
  have hql : Q.length ≤ N := nodup_le_int hC.nod hC.rng
  have hle := hC.le
  refine Cd.seq ?_
  refine Cd.seq ?_
  refine Cd.region ?_
  refine Ops.mv_sl rfl rfl rfl ?_
  refine Ops.len rfl rfl ?_
  refine Ops.gtr rfl rfl rfl ?_
  refine Ops.nil ?_
  refine thenQ_n ?_
  refine Cd.cond_p _ rfl (fun h3 => ?_) (fun h3 => ?_)
  · have hi' : i < Q.length := by omega
    have hQ := hS7.rdI 0 rfl
    refine Cd.skip ?_
    refine thenQ_n ?_
    refine Cd.seq ?_
    refine Cd.block ?_
    refine Cd.seq ?_
    refine Cd.region ?_
    refine Ops.mv_sl rfl rfl rfl ?_
    refine Ops.idx hQ.2 rfl rfl rfl (by omega) (by omega) ?_
    refine Ops.ld_int hQ rfl (by omega) rfl rfl ?_
    rw [gi_drop]
    refine Ops.mv_int rfl rfl rfl ?_
    refine Ops.nil ?_
    refine thenQ_n ?_
    refine Cd.seq ?_
    refine Cd.region ?_
    refine Ops.fld (hS7.rd 3 rfl) rfl rfl rfl rfl inferInstance ?_
    refine Ops.ldf_s (hS7.rd 3 rfl) rfl rfl rfl rfl rfl ?_
    refine Ops.len rfl rfl ?_
    refine Ops.mv_int rfl rfl rfl ?_
    refine Ops.nil ?_
    refine thenQ_n ?_
    refine Cd.block ?_
    refine Cd.loop (α := Nat × Option Addr × Nat × List Int × List Int) (fun z => [(3, .pointer Ab), (4, .pointer Ac), (7, .slice A5 N N), (8, .slice z.2.1 (z.2.2.2.2.length - i) z.2.2.1), (9, .int .i64 (gi Q (i : Int))), (33, .slice A n c), (34, .int .i64 (n : Int)), (35, .int .i64 (z.1 : Int))])
      (fun z w' => St w w' [CkI 2 z.2.1 (z.2.2.2.2.length - i) z.2.2.1 (z.2.2.2.2.drop i), CkI 2 A5 N N z.2.2.2.1, Bx 32 1 Ac [.slice A n c], Bx 32 1 Ab [.slice A n c]] ∧ CI N xss b i z.1 z.2.2.2.1 z.2.2.2.2 ∧ z.1 ≤ n ∧ Q <+: z.2.2.2.2)
      (fun z => n - z.1) (0, A10, c10, L, Q) ⟨rfl, rfl, rfl, rfl, rfl, rfl, rfl, rfl, trivial⟩ ⟨hS7, hC, Nat.zero_le _, List.prefix_rfl⟩ ?_
    rintro ⟨k, A11, c11, L', Q'⟩ e w8 ⟨hS8, hC8, hk, hpre⟩
    dsimp only at hS8 hC8 hk hpre ⊢
    have hpl := hpre.length_le
    have hql8 : Q'.length ≤ N := nodup_le_int hC8.nod hC8.rng
    have hui : gi Q' (i : Int) = gi Q (i : Int) := gi_prefix hpre hi'
    have hR8 := hS8.oldRows hR
    refine Cd.seq ?_
    refine Cd.region ?_
    refine Ops.lss rfl rfl rfl ?_
    refine Ops.nil ?_
    refine thenQ_n ?_
    refine Cd.seq ?_
    refine Cd.cond_p _ rfl (fun h4 => ?_) (fun h4 => ?_)
    · have hk' : k < xss.length := by omega
      have hi8 : i < Q'.length := by omega
      obtain ⟨a1, a2, a3, a4⟩ := hC8.at_ hs hi8 hk'
      rw [hui] at a1 a2 a3 a4
      have hrow := hR8.at_ (i := (k : Int)) (by omega) (by omega)
      have hrk := hrn (k : Int) (by omega) (by omega)
      have hLL := hS8.rdI 1 rfl
      refine Cd.skip ?_
      refine thenQ_n ?_
      refine Cd.seq ?_
      refine Cd.block ?_
      refine Cd.seq ?_
      refine Cd.region ?_
      refine Ops.mv_int rfl rfl rfl ?_
      refine Ops.idx hR8.top.2 rfl rfl rfl (by omega) h4 ?_
      refine Ops.ld_sl hR8.top rfl (by omega) rfl rfl ?_
      refine Ops.mv_int rfl rfl rfl ?_
      refine Ops.mv_sl rfl rfl rfl ?_
      refine Ops.nil ?_
      refine thenQ_n ?_
      refine Cd.seq ?_
      refine Cd.draw [.ex (.slice ((rg rs k).a) ((rg rs k).n) ((rg rs k).c)), .ex (.int .i64 ((gi Q (i : Int)))), .ex (.pointer (ptrAt ((rg rs k).a) ((gi Q (i : Int))).toNat)), .ex (.int .i64 (gi (gl xss k) ((gi Q (i : Int))))), .ex (.pointer (ptrAt (Ac) 0)), .ex (.slice (A) (n) (c)), .ex (.int .i64 ((k : Int))), .ex (.pointer (ptrAt (A) ((k : Int)).toNat)), .ex (.slice ((rg (rs) ((k : Int))).a) ((rg (rs) ((k : Int))).n) ((rg (rs) ((k : Int))).c)), .ex (.slice (A5) (N) (N)), .ex (.int .i64 ((gi Q (i : Int)))), .ex (.pointer (ptrAt (A5) ((gi Q (i : Int))).toNat)), .ex (.int .i64 (gi (L') ((gi Q (i : Int))))), .ex (.pointer (ptrAt ((rg (rs) ((k : Int))).a) (gi (L') ((gi Q (i : Int)))).toNat)), .ex (.int .i64 (gi (gl xss k) (gi (L') ((gi Q (i : Int)))))), .ex (.int .i64 (gi (gl xss k) ((gi Q (i : Int))))), .ex (.int .i64 (gi (gl xss k) (gi (L') ((gi Q (i : Int))))))] (by kernel_rfl) (by kernel_rfl) rfl (List.forall_mem_cons.2 ⟨Yd.lasts_ex _, (List.forall_mem_cons.2 ⟨Yd.lasts_ex _, (List.forall_mem_cons.2 ⟨Yd.lasts_ex _, (List.forall_mem_cons.2 ⟨Yd.lasts_ex _, (List.forall_mem_cons.2 ⟨Yd.lasts_ex _, (List.forall_mem_cons.2 ⟨Yd.lasts_ex _, (List.forall_mem_cons.2 ⟨Yd.lasts_ex _, (List.forall_mem_cons.2 ⟨Yd.lasts_ex _, (List.forall_mem_cons.2 ⟨Yd.lasts_ex _, (List.forall_mem_cons.2 ⟨Yd.lasts_ex _, (List.forall_mem_cons.2 ⟨Yd.lasts_ex _, (List.forall_mem_cons.2 ⟨Yd.lasts_ex _, (List.forall_mem_cons.2 ⟨Yd.lasts_ex _, (List.forall_mem_cons.2 ⟨Yd.lasts_ex _, (List.forall_mem_cons.2 ⟨Yd.lasts_ex _, (List.forall_mem_cons.2 ⟨Yd.lasts_ex _, (List.forall_mem_cons.2 ⟨Yd.lasts_ex _, (fun _ h => by cases h)⟩)⟩)⟩)⟩)⟩)⟩)⟩)⟩)⟩)⟩)⟩)⟩)⟩)⟩)⟩)⟩)⟩) ⟨?_, ?_, ?_, ?_, ?_, ?_, ?_, ?_, ?_, ?_, ?_, ?_, ?_, ?_, ?_, ?_, ?_, trivial⟩ ?_
      · intro e1 w1 hb hp hun
        refine Ops.mv_sl rfl rfl rfl ?_
        refine Ops.nil ?_
        exact After.dn (Below.refl _ _) (by exact rfl)
      · intro e1 w1 hb hp hun
        refine Ops.mv_int rfl rfl rfl ?_
        refine Ops.nil ?_
        exact After.dn (Below.refl _ _) (by exact rfl)
      · intro e1 w1 hb hp hun
        refine Ops.idx (hrow.later hb).2 rfl rfl rfl (by omega) (by omega) ?_
        refine Ops.nil ?_
        exact After.dn (Below.refl _ _) (by exact rfl)
      · intro e1 w1 hb hp hun
        refine Ops.ld_int (hrow.later hb) rfl (by omega) rfl rfl ?_
        refine Ops.nil ?_
        exact After.dn (Below.refl _ _) (by exact rfl)
      · intro e1 w1 hb hp hun
        refine Ops.fld ((hS8.rd 2 rfl).below hb) rfl rfl rfl rfl inferInstance ?_
        refine Ops.nil ?_
        exact After.dn (Below.refl _ _) (by exact rfl)
      · intro e1 w1 hb hp hun
        refine Ops.ldf_s ((hS8.rd 2 rfl).below hb) rfl rfl rfl rfl rfl ?_
        refine Ops.nil ?_
        exact After.dn (Below.refl _ _) (by exact rfl)
      · intro e1 w1 hb hp hun
        refine Ops.mv_int rfl rfl rfl ?_
        refine Ops.nil ?_
        exact After.dn (Below.refl _ _) (by exact rfl)
      · intro e1 w1 hb hp hun
        refine Ops.idx (hR8.top.later hb).2 rfl rfl rfl (by omega) (by omega) ?_
        refine Ops.nil ?_
        exact After.dn (Below.refl _ _) (by exact rfl)
      · intro e1 w1 hb hp hun
        refine Ops.ld_sl (hR8.top.later hb) rfl (by omega) rfl rfl ?_
        refine Ops.nil ?_
        exact After.dn (Below.refl _ _) (by exact rfl)
      · intro e1 w1 hb hp hun
        refine Ops.mv_sl rfl rfl rfl ?_
        refine Ops.nil ?_
        exact After.dn (Below.refl _ _) (by exact rfl)
      · intro e1 w1 hb hp hun
        refine Ops.mv_int rfl rfl rfl ?_
        refine Ops.nil ?_
        exact After.dn (Below.refl _ _) (by exact rfl)
      · intro e1 w1 hb hp hun
        refine Ops.idx (hLL.later hb).2 rfl rfl rfl (by omega) (by omega) ?_
        refine Ops.nil ?_
        exact After.dn (Below.refl _ _) (by exact rfl)
      · intro e1 w1 hb hp hun
        refine Ops.ld_int (hLL.later hb) rfl (by omega) rfl rfl ?_
        refine Ops.nil ?_
        exact After.dn (Below.refl _ _) (by exact rfl)
      · intro e1 w1 hb hp hun
        refine Ops.idx (hrow.later hb).2 rfl rfl rfl (by omega) (by omega) ?_
        refine Ops.nil ?_
        exact After.dn (Below.refl _ _) (by exact rfl)
      · intro e1 w1 hb hp hun
        refine Ops.ld_int (hrow.later hb) rfl (by omega) rfl rfl ?_
        refine Ops.nil ?_
        exact After.dn (Below.refl _ _) (by exact rfl)
      · intro e1 w1 hb hp hun
        refine Ops.mv_int rfl rfl rfl ?_
        refine Ops.nil ?_
        exact After.dn (Below.refl _ _) (by exact rfl)
      · intro e1 w1 hb hp hun
        refine Ops.mv_int rfl rfl rfl ?_
        refine Ops.nil ?_
        exact After.dn (Below.refl _ _) (by exact rfl)
      intro u w9 hb9 _
      have hS9 := hS8.later hb9
      have hL9 := hS9.rdI 1 rfl
      refine thenQ_n ?_
      refine Cd.block ?_
      refine Cd.seq ?_
      refine Cd.region ?_
      refine Ops.mv_sl rfl rfl rfl ?_
      refine Ops.mv_int rfl rfl rfl ?_
      refine Ops.idx hL9.2 rfl rfl rfl a3.1 a3.2 ?_
      refine Ops.ld_int hL9 rfl (by omega) rfl rfl ?_
      refine Ops.lss rfl rfl rfl ?_
      refine Ops.mv_bool rfl rfl rfl ?_
      refine Ops.nil ?_
      refine thenQ_n ?_
      refine Cd.cond_p _ rfl (fun h5 => ?_) (fun h5 => ?_)
      · have hnew := hC8.set hs hi8 hk' (by rw [hui]; exact h5)
        rw [hui] at hnew
        refine Cd.seq ?_
        refine Cd.region ?_
        refine Ops.mv_sl rfl rfl rfl ?_
        refine Ops.mv_int rfl rfl rfl ?_
        refine Ops.mv_int rfl rfl rfl ?_
        refine Ops.idx hL9.2 rfl rfl rfl a3.1 a3.2 ?_
        refine Ops.st_int 1 hS9 rfl rfl rfl (by omega) ?_
        intro w10 hS10
        refine Ops.nil ?_
        refine thenQ_n ?_
        refine Cd.region ?_
        refine Ops.mv_sl rfl rfl rfl ?_
        refine Ops.mv_int rfl rfl rfl ?_
        refine Ops.bs1I hS10 rfl rfl rfl ?_
        intro A12 w11 hS11
        refine Ops.appI 1 hS11 rfl (hS11.rdI 0 rfl) rfl rfl rfl (by omega) (by omega) rfl ?_
        intro A13 c13 w12 hS12
        refine Ops.mv_sl rfl rfl rfl ?_
        refine Ops.nil ?_
        refine blockQ_n ?_
        refine blockQ_n ?_
        refine thenQ_n ?_
        refine Cd.region ?_
        refine Ops.add rfl rfl rfl (by omega) ?_
        refine Ops.mv_int rfl rfl rfl ?_
        refine Ops.nil ?_
        refine thenQ_n ?_
        have e2 : (Q' ++ [gi (gl xss k) (gi Q (i : Int))]).length - i = Q'.length - i + 1 := by simp; omega
        have e3 : (Q' ++ [gi (gl xss k) (gi Q (i : Int))]).drop i = Q'.drop i ++ [gi (gl xss k) (gi Q (i : Int))] := List.drop_append_of_le_length (by omega)
        refine ⟨(k + 1, A13, c13, L'.set (gi (gl xss k) (gi Q (i : Int))).toNat (gi (gl xss k) (gi L' (gi Q (i : Int)))), Q' ++ [gi (gl xss k) (gi Q (i : Int))]), by show n - (k + 1) < n - k; omega, ⟨rfl, rfl, rfl, by show Value.slice _ _ _ = .slice _ ((Q' ++ [gi (gl xss k) (gi Q (i : Int))]).length - i) _; rw [e2], rfl, rfl, rfl, rfl, trivial⟩, ?_, hnew, by show k + 1 ≤ n; omega, hpre.trans (List.prefix_append _ _)⟩
        show St w w12 [CkI _ A13 ((Q' ++ [gi (gl xss k) (gi Q (i : Int))]).length - i) c13 ((Q' ++ [gi (gl xss k) (gi Q (i : Int))]).drop i), _, _, _]
        rw [e2, e3]
        exact hS12.tail
      · refine Cd.seq ?_
        refine Cd.region ?_
        refine Ops.mv_sl rfl rfl rfl ?_
        refine Ops.mv_int rfl rfl rfl ?_
        refine Ops.idx hL9.2 rfl rfl rfl a3.1 a3.2 ?_
        refine Ops.ld_int hL9 rfl (by omega) rfl rfl ?_
        refine Ops.mv_int rfl rfl rfl ?_
        refine Ops.neq rfl rfl rfl ?_
        refine Ops.mv_bool rfl rfl rfl ?_
        refine Ops.nil ?_
        refine thenQ_n ?_
        refine Cd.cond_p _ rfl (fun h6 => ?_) (fun h6 => ?_)
        · refine Cd.seq ?_
          refine Cd.region ?_
          refine Ops.mv_sl rfl rfl rfl ?_
          refine Ops.nil ?_
          refine thenQ_n ?_
          refine Cd.ret ?_
          refine blockQ_r ?_
          refine blockQ_r ?_
          refine thenQ_r ?_
          refine thenQ_r ?_
          refine blockQ_r ?_
          refine blockQ_r ?_
          refine thenQ_r ?_
          refine thenQ_r ?_
          refine blockQ_r ?_
          refine thenQ_r ?_
          refine ret1_s rfl ?_
          exact .inr ⟨rfl, hC8.none hs hi8 hk' (by rw [hui]; exact h5) (by rw [hui]; exact h6), hS9.none⟩
        · refine Cd.skip ?_
          refine blockQ_n ?_
          refine blockQ_n ?_
          refine thenQ_n ?_
          refine Cd.region ?_
          refine Ops.add rfl rfl rfl (by omega) ?_
          refine Ops.mv_int rfl rfl rfl ?_
          refine Ops.nil ?_
          refine thenQ_n ?_
          exact ⟨(k + 1, A11, c11, L', Q'), by show n - (k + 1) < n - k; omega, ⟨rfl, rfl, rfl, rfl, rfl, rfl, rfl, rfl, trivial⟩, hS9, hC8.same (by rw [hui]; exact Classical.not_not.1 h6), by show k + 1 ≤ n; omega, hpre⟩
    · refine Cd.exit ?_
      refine thenQ_x ?_
      refine thenQ_x ?_
      refine blockQ_x ?_
      refine blockQ_n ?_
      refine thenQ_n ?_
      refine Cd.region ?_
      refine Ops.mv_sl rfl rfl rfl ?_
      have hke : k = xss.length := by omega
      rw [hke] at hC8
      refine Ops.cut_l rfl rfl rfl (by omega) ?_
      have hS9 := hS8.cutl (i := 0) rfl (show 1 ≤ Q'.length - i by omega)
      have e2 : Q'.length - i - 1 = Q'.length - (i + 1) := by omega
      have e3 : (Q'.drop i).drop 1 = Q'.drop (i + 1) := by rw [List.drop_drop]
      refine Ops.mv_sl rfl rfl rfl ?_
      refine Ops.nil ?_
      refine thenQ_n ?_
      refine ⟨(i + 1, cutAt A11 c11 1, c11 - 1, L', Q'), by show N + 1 - (i + 1) < N + 1 - i; omega, ⟨rfl, rfl, rfl, by show Value.slice _ _ _ = .slice _ _ _; rw [← e2]; rfl, trivial⟩, ?_, hC8.next (by omega)⟩
      show St w w8 [CkI _ (cutAt A11 c11 1) (Q'.length - (i + 1)) (c11 - 1) (Q'.drop (i + 1)), _, _, _]
      rw [← e2, ← e3]
      exact hS9
  · refine Cd.exit ?_
    refine thenQ_x ?_
    refine thenQ_x ?_
    refine blockQ_x ?_
    refine thenQ_n ?_
    refine Cd.seq ?_
    refine Cd.region ?_
    refine Ops.mv_sl rfl rfl rfl ?_
    refine Ops.mv_sl rfl rfl rfl ?_
    refine Ops.nil ?_
    refine thenQ_n ?_
    refine Cd.ret ?_
    refine ret1_s rfl ?_
    have hE := hC.end_ hM hN (by omega)
    obtain ⟨a, ha⟩ := hS7.isSome (i := 1) rfl (by omega)
    subst ha
    exact .inl ⟨a, N, L, rfl, hE.1, hE.2, hS7.tail.sub (List.Sublist.cons_cons _ (List.nil_sublist _))⟩
end Go.Proofs.YtjpkmpihmilgoaaGreat.Vc
/-
  The walks of all coverings of a maniplex by itself and of its orbits of flags. Conditions: as each states them.
-/
namespace Go.Proofs.YtjpkmpihmilgoaaGreat.Vc
open Go.RowKit

theorem isNone_ne {A : Option Addr} : (!A.isNone) = decide (A ≠ none) := by cases A <;> simp

theorem coveringsOf_c (A : Option Addr) (n c : Nat) (rs : List SlV) (xss : List (List Int)) (N : Nat) (w : World) (hR : RowsI w A n rs xss) (hM : Mani xss) (hN : N = (gl xss 0).length) :
    Ret Tryz.prog 102 [.agg #[.slice A n c], .agg #[.slice A n c]] w (fun v w' => ∃ A' c', ∃ rs' : List SlV, ∃ ps : List (List Int), v = .slice A' ps.length c' ∧ rs'.length = ps.length ∧ ps.length ≤ N ∧ AllCov N xss ps ∧ St w w' (mat 34 2 A' ps.length c' rs' ps)) := by
  have hn := hM.1
  have hN2 := hM.2.1
  have hxl := hR.len
  have hr0 : (rg rs 0).n = N := by rw [hN]; exact (hR.rowLen (by omega) (by omega)).symm
  refine Ret.of_cd Tryz.func102 rfl Tryz.ntmps102 rfl (post1 rfl) ?_
  refine Cd.seq ?_
  refine Cd.region ?_
  refine Ops.box1 (St.refl w) rfl rfl ?_
  intro Ab w1 hS1
  refine Ops.box1 hS1 rfl rfl ?_
  intro Ac w2 hS2
  refine Ops.mv_sl rfl rfl rfl ?_
  refine Ops.nil ?_
  refine thenQ_n ?_
  refine Cd.seq ?_
  refine Cd.region ?_
  refine Ops.mv_sl rfl rfl rfl ?_
  refine Ops.nil ?_
  refine thenQ_n ?_
  refine Cd.seq ?_
  refine Cd.seq ?_
  refine Cd.region ?_
  refine Ops.call (flags_c Ac A n c rs xss _ _ (hS2.rd 0 rfl) rfl (hS2.oldRows hR) (by omega)) rfl rfl rfl ?_
  rintro _ w2 ⟨rfl, rfl⟩
  rw [hr0]
  have hS3 := (hS2.nil 34).perm (List.perm_append_comm (l₁ := [_]) (l₂ := [_, _]))
  refine Ops.mv_int rfl rfl rfl ?_
  refine Ops.nil ?_
  refine thenQ_n ?_
  refine Cd.block ?_
  refine Cd.loop (α := Nat × Option Addr × Nat × List SlV × List (List Int)) (fun z => [(2, .pointer Ab), (3, .pointer Ac), (5, .slice z.2.1 z.2.2.2.2.length z.2.2.1), (8, .int .i64 (N : Int)), (9, .int .i64 (z.1 : Int))])
    (fun z w' => St w w' (Bx 32 1 Ac [.slice A n c] :: Bx 32 1 Ab [.slice A n c] :: mat 34 2 z.2.1 z.2.2.2.2.length z.2.2.1 z.2.2.2.1 z.2.2.2.2) ∧ z.1 ≤ N ∧ z.2.2.2.1.length = z.2.2.2.2.length ∧ z.2.2.2.2.length ≤ z.1 ∧ (∀ p ∈ z.2.2.2.2, Cov N xss p) ∧ ∀ p, Cov N xss p → gi p 0 < z.1 → p ∈ z.2.2.2.2)
    (fun z => N - z.1) (0, none, 0, [], []) ⟨rfl, rfl, rfl, rfl, rfl, trivial⟩ ⟨hS3, Nat.zero_le _, rfl, Nat.le_refl _, (by intro p hp; cases hp), (by intro p hp h; have := (hp.rng 0 (by omega) (by omega)).1; have h : gi p 0 < ((0 : Nat) : Int) := h; omega)⟩ ?_
  rintro ⟨f, A3, c3, rs', ps⟩ e w3 ⟨hS3, hf, hrl, hpl, hcov, hall⟩
  dsimp only at hS3 hf hrl hpl hcov hall ⊢
  refine Cd.seq ?_
  refine Cd.region ?_
  refine Ops.lss rfl rfl rfl ?_
  refine Ops.nil ?_
  refine thenQ_n ?_
  refine Cd.seq ?_
  refine Cd.cond_p _ rfl (fun h1 => ?_) (fun h1 => ?_)
  · refine Cd.skip ?_
    refine thenQ_n ?_
    refine Cd.seq ?_
    refine Cd.block ?_
    refine Cd.seq ?_
    refine Cd.region ?_
    refine Ops.mv_int rfl rfl rfl ?_
    refine Ops.mv_int rfl rfl rfl ?_
    refine Ops.nil ?_
    refine thenQ_n ?_
    refine Cd.seq ?_
    refine Cd.region ?_
    refine Ops.ld_agg 0 (hS3.rd 1 rfl) rfl rfl rfl ?_
    refine Ops.ld_agg 0 (hS3.rd 0 rfl) rfl rfl rfl ?_
    refine Ops.mv_int rfl rfl rfl ?_
    refine Ops.call (coveringTo_c A n c rs xss N (f : Int) _ (hS3.oldRows hR) hM hN (by omega) (by omega)) rfl rfl rfl ?_
    intro v w4 hv
    obtain ⟨A4, n4, c4, rfl, hw⟩ : ∃ A4 n4 c4, v = .slice A4 n4 c4 ∧ ((A4 ≠ none ∧ N = n4 ∧ ∃ L, Cov N xss L ∧ gi L 0 = f ∧ St w3 w4 [CkI 2 A4 N c4 L]) ∨ (¬ A4 ≠ none ∧ (∀ q, Cov N xss q → gi q 0 = f → False) ∧ St w3 w4 [])) := by
      rcases hv with ⟨a, c', L, rfl, h1, h2, h3⟩ | ⟨rfl, h1, h2⟩
      · exact ⟨_, _, _, rfl, .inl ⟨by simp, rfl, L, h1, h2, h3⟩⟩
      · exact ⟨_, _, _, rfl, .inr ⟨by simp, h1, h2⟩⟩
    refine Ops.mv_sl rfl rfl rfl ?_
    refine Ops.nil ?_
    refine thenQ_n ?_
    refine Cd.seq ?_
    refine Cd.region ?_
    refine Ops.mv_sl rfl rfl rfl ?_
    refine Ops.neqNil rfl rfl rfl ?_
    rw [isNone_ne]
    refine Ops.nil ?_
    refine thenQ_n ?_
    refine Cd.cond_p _ rfl (fun h2 => ?_) (fun h2 => ?_)
    · obtain ⟨_, rfl, L, hL, hL0, hst⟩ := hw.resolve_right (fun h => h.1 h2)
      have hS4 := hS3.call hst
      refine Cd.region ?_
      refine Ops.mv_sl rfl rfl rfl ?_
      refine Ops.mv_sl rfl rfl rfl ?_
      refine Ops.bs1R hS4 rfl rfl rfl ?_
      intro A7 w5 hS5
      refine Ops.appR 4 hS5 rfl (hS5.rdR 0 rfl) rfl rfl rfl (by omega) (by omega) rfl ?_
      intro A8 c8 w6 hS6
      have hS6 : St w w6 (CkI 2 A4 N c4 L :: Bx 32 1 Ac [.slice A n c] :: Bx 32 1 Ab [.slice A n c] :: CkR 34 A8 (ps.length + 1) c8 (rs' ++ [⟨A4, N, c4⟩]) :: rowsCk 2 rs' ps) := hS6.tail
      have hdl : (ps ++ [L]).length = ps.length + 1 := by simp
      refine Ops.mv_sl rfl rfl rfl ?_
      refine Ops.nil ?_
      refine blockQ_n ?_
      refine thenQ_n ?_
      refine Cd.region ?_
      refine Ops.add rfl rfl rfl (by omega) ?_
      refine Ops.mv_int rfl rfl rfl ?_
      refine Ops.nil ?_
      refine thenQ_n ?_
      refine ⟨(f + 1, A8, c8, rs' ++ [⟨A4, N, c4⟩], ps ++ [L]), by show N - (f + 1) < N - f; omega, ⟨rfl, rfl, by show Value.slice _ _ _ = .slice _ _ _; rw [hdl], rfl, rfl, trivial⟩, ?_, by show f + 1 ≤ N; omega, by simp [hrl], by show (ps ++ [L]).length ≤ f + 1; omega, fun p hp => ?_, fun p hp hlt => ?_⟩
      · show St w w6 (_ :: _ :: CkR 34 A8 (ps ++ [L]).length c8 (rs' ++ [⟨A4, N, c4⟩]) :: rowsCk 2 (rs' ++ [⟨A4, N, c4⟩]) (ps ++ [L]))
        rw [hdl, rowsCk_append hrl]
        exact hS6.perm (List.perm_append_comm (l₁ := [_]) (l₂ := _ :: _ :: _ :: rowsCk 2 rs' ps))
      · rcases List.mem_append.1 hp with hp | hp
        · exact hcov p hp
        · simp at hp; subst hp; exact hL
      · by_cases e : gi p 0 = f
        · rw [hp.one hL hM hN (by rw [e, hL0])]
          simp
        · have hlt : gi p 0 < ((f + 1 : Nat) : Int) := hlt
          exact List.mem_append_left _ (hall p hp (by omega))
    · obtain ⟨_, hno, hst⟩ := hw.resolve_left (fun h => h2 h.1)
      have hS4 := hS3.later hst.below
      refine Cd.skip ?_
      refine blockQ_n ?_
      refine thenQ_n ?_
      refine Cd.region ?_
      refine Ops.add rfl rfl rfl (by omega) ?_
      refine Ops.mv_int rfl rfl rfl ?_
      refine Ops.nil ?_
      refine thenQ_n ?_
      exact ⟨(f + 1, A3, c3, rs', ps), by show N - (f + 1) < N - f; omega, ⟨rfl, rfl, rfl, rfl, rfl, trivial⟩, hS4, by show f + 1 ≤ N; omega, hrl, by show ps.length ≤ f + 1; omega, hcov, fun p hp hlt => by
        have hlt : gi p 0 < ((f + 1 : Nat) : Int) := hlt
        by_cases e : gi p 0 = f
        · exact (hno p hp e).elim
        · exact hall p hp (by omega)⟩
  · refine Cd.exit ?_
    refine thenQ_x ?_
    refine thenQ_x ?_
    refine blockQ_x ?_
    refine thenQ_n ?_
    refine Cd.seq ?_
    refine Cd.region ?_
    refine Ops.mv_sl rfl rfl rfl ?_
    refine Ops.mv_sl rfl rfl rfl ?_
    refine Ops.nil ?_
    refine thenQ_n ?_
    refine Cd.ret ?_
    refine ret1_s rfl ?_
    exact ⟨A3, c3, rs', ps, rfl, hrl, by omega, ⟨hcov, fun p hp => hall p hp (by have := (hp.rng 0 (by omega) (by omega)).2; omega)⟩, hS3.tail.tail⟩

theorem flagOrbits_c (A0 A : Option Addr) (n c : Nat) (rs : List SlV) (xss : List (List Int)) (N : Nat) (w : World) (hB : Rd w A0 1 (fun _ => .slice A n c)) (hR : RowsI w A n rs xss) (hM : Mani xss) (hN : N = (gl xss 0).length) :
    Ret Tryz.prog 52 [.pointer A0] w (fun v w' => ∃ A', v = .tuple #[.slice A' N N, .int .i64 (((fset N xss N).length : Nat) : Int)] ∧ St w w' []) := by
  have hn := hM.1
  have hN2 := hM.2.1
  have hxl := hR.len
  have hr0 : (rg rs 0).n = N := by rw [hN]; exact (hR.rowLen (by omega) (by omega)).symm
  refine Ret.of_cd Tryz.func52 rfl Tryz.ntmps52 rfl (post2 rfl) ?_
  refine Cd.seq ?_
  refine Cd.region ?_
  refine Ops.mv_sl rfl rfl rfl ?_
  refine Ops.mv_int rfl rfl rfl ?_
  refine Ops.nil ?_
  refine thenQ_n ?_
  refine Cd.seq ?_
  refine Cd.draw [.ex (.pointer (A0)), .ex (.int .i64 (((rg rs 0).n : Int))), .ex (.pointer (A0)), .ex (.pointer (A0)), .ex (.agg #[.slice (A) (n) (c)]), .ex (.pointer (A0)), .ex (.pointer (A0)), .ex (.agg #[.slice (A) (n) (c)]), .pr (fun v w' => ∃ A' c', ∃ rs' : List SlV, ∃ ps : List (List Int), v = .slice A' ps.length c' ∧ ps.length ≤ N ∧ AllCov N xss ps ∧ RowsI w' A' ps.length rs' ps), .pr (fun v _ => ∃ A', v = .tuple #[.slice A' N N, .int .i64 (((fset N xss N).length : Nat) : Int)]), .pr (fun v _ => ∃ A', v = .slice A' N N), .ex (.int .i64 (((fset N xss N).length : Nat) : Int)), .pr (fun v _ => ∃ A', v = .slice A' N N), .ex (.int .i64 (((fset N xss N).length : Nat) : Int))] (by kernel_rfl) (by kernel_rfl) rfl (List.forall_mem_cons.2 ⟨Yd.lasts_ex _, (List.forall_mem_cons.2 ⟨Yd.lasts_ex _, (List.forall_mem_cons.2 ⟨Yd.lasts_ex _, (List.forall_mem_cons.2 ⟨Yd.lasts_ex _, (List.forall_mem_cons.2 ⟨Yd.lasts_ex _, (List.forall_mem_cons.2 ⟨Yd.lasts_ex _, (List.forall_mem_cons.2 ⟨Yd.lasts_ex _, (List.forall_mem_cons.2 ⟨Yd.lasts_ex _, (List.forall_mem_cons.2 ⟨Yd.lasts_pr (fun v w w' h hb => by obtain ⟨A', c', rs', ps, hv, hpl, hall, hr⟩ := h; exact ⟨A', c', rs', ps, hv, hpl, hall, hr.later hb⟩), (List.forall_mem_cons.2 ⟨Yd.lasts_pr (fun _ _ _ h _ => h), (List.forall_mem_cons.2 ⟨Yd.lasts_pr (fun _ _ _ h _ => h), (List.forall_mem_cons.2 ⟨Yd.lasts_ex _, (List.forall_mem_cons.2 ⟨Yd.lasts_pr (fun _ _ _ h _ => h), (List.forall_mem_cons.2 ⟨Yd.lasts_ex _, (fun _ h => by cases h)⟩)⟩)⟩)⟩)⟩)⟩)⟩)⟩)⟩)⟩)⟩)⟩)⟩)⟩) ⟨?_, ?_, ?_, ?_, ?_, ?_, ?_, ?_, ?_, ?_, ?_, ?_, ?_, ?_, trivial⟩ ?_
  · intro e1 w1 hb hp hun
    refine Ops.mv_ptr rfl rfl rfl ?_
    refine Ops.nil ?_
    exact After.dn (Below.refl _ _) (by exact rfl)
  · intro e1 w1 hb hp hun
    refine Ops.call (flags_c _ _ _ _ _ _ _ _ (hB.below hb) rfl (hR.later hb) (by omega)) rfl rfl rfl ?_
    rintro _ w2 ⟨rfl, hst⟩
    subst hst
    refine Ops.nil ?_
    exact After.dn (Below.refl _ _) (by exact rfl)
  · intro e1 w1 hb hp hun
    refine Ops.mv_ptr rfl rfl rfl ?_
    refine Ops.nil ?_
    exact After.dn (Below.refl _ _) (by exact rfl)
  · intro e1 w1 hb hp hun
    refine Ops.nilp (hB.below hb) (Nat.succ_pos _) rfl rfl ?_
    refine Ops.nil ?_
    exact After.dn (Below.refl _ _) (by exact rfl)
  · intro e1 w1 hb hp hun
    refine Ops.ld_agg 0 (hB.below hb) rfl rfl rfl ?_
    refine Ops.nil ?_
    exact After.dn (Below.refl _ _) (by exact rfl)
  · intro e1 w1 hb hp hun
    refine Ops.mv_ptr rfl rfl rfl ?_
    refine Ops.nil ?_
    exact After.dn (Below.refl _ _) (by exact rfl)
  · intro e1 w1 hb hp hun
    refine Ops.nilp (hB.below hb) (Nat.succ_pos _) rfl rfl ?_
    refine Ops.nil ?_
    exact After.dn (Below.refl _ _) (by exact rfl)
  · intro e1 w1 hb hp hun
    refine Ops.ld_agg 0 (hB.below hb) rfl rfl rfl ?_
    refine Ops.nil ?_
    exact After.dn (Below.refl _ _) (by exact rfl)
  · intro e1 w1 hb hp hun
    refine Ops.call (coveringsOf_c A n c rs xss N _ (hR.later hb) hM hN) rfl rfl rfl ?_
    rintro _ w2 ⟨A', c', rs', ps, rfl, hrl, hpl, hall, hst⟩
    refine Ops.nil ?_
    exact After.dn hst.below ⟨A', c', rs', ps, rfl, hpl, hall, hst.rowsI1 rfl⟩
  · intro e1 w1 hb hp hun
    obtain ⟨A', c', rs', ps, h12, hpl, hall, hr⟩ := (hp 8 (by decide) rfl _ _ rfl rfl)
    refine Ops.call (orbitLabels_c A' ps.length c' rs' ps N _ hr (by omega) hall.sys (hall.inj hM hN) (by omega)) rfl (by rw [hr0]; exact congrArg (fun v => [Value.int .i64 (N : Int), v]) h12) rfl ?_
    rintro _ w2 ⟨A2, rfl, hst⟩
    refine Ops.nil ?_
    exact After.dn hst.below ⟨A2, by rw [hall.orbits hM hN N (Nat.le_refl _)]⟩
  · intro e1 w1 hb hp hun
    obtain ⟨A', h13⟩ := (hp 9 (by decide) rfl _ _ rfl rfl)
    refine Ops.extract (by exact h13) rfl rfl ?_
    refine Ops.nil ?_
    exact After.dn (Below.refl _ _) ⟨A', rfl⟩
  · intro e1 w1 hb hp hun
    obtain ⟨A', h13⟩ := (hp 9 (by decide) rfl _ _ rfl rfl)
    refine Ops.extract (by exact h13) rfl rfl ?_
    refine Ops.nil ?_
    exact After.dn (Below.refl _ _) (by exact rfl)
  · intro e1 w1 hb hp hun
    obtain ⟨A', h14⟩ := (hp 10 (by decide) rfl _ _ rfl rfl)
    refine Ops.mv_sl rfl (by exact h14) rfl ?_
    refine Ops.nil ?_
    exact After.dn (Below.refl _ _) ⟨A', rfl⟩
  · intro e1 w1 hb hp hun
    refine Ops.mv_int rfl rfl rfl ?_
    refine Ops.nil ?_
    exact After.dn (Below.refl _ _) (by exact rfl)
  intro u w6 hb6 hu
  have hS6 := (St.refl w).later hb6
  obtain ⟨A', h2⟩ := hu 12 _ rfl
  rw [pin2 u h2 h2]
  refine thenQ_n ?_
  refine Cd.ret ?_
  refine ret2_si rfl rfl ?_
  exact ⟨A', rfl, hS6⟩
end Go.Proofs.YtjpkmpihmilgoaaGreat.Vc
/-
  OrbitCounts on both sides, and the walk of its law. Conditions: none.
-/
namespace Go.Proofs.YtjpkmpihmilgoaaGreat.Vc
open Go.RowKit

/-! plain: how many have so many orbits -/
def bump (acc : List Int) (k : Nat) : List Int := acc.set ((k : Int) - 1).toNat (gi acc ((k : Int) - 1) + 1)
def cntL (F : Nat) (ls : List Mx) : List Int := ls.foldl (fun acc m => bump acc (orbN F m)) (List.replicate F 0)
theorem cntL_snoc (F : Nat) (ls : List Mx) (m : Mx) : cntL F (ls ++ [m]) = bump (cntL F ls) (orbN F m) := by simp [cntL, List.foldl_append]
theorem orb_bd {F : Nat} {m : Mx} (hF : 0 < F) (ho : Own1 F m) : 1 ≤ orbN F m ∧ orbN F m ≤ F := by
  have h1 := fset_le F m F
  have h2 : formL F m ((0 : Nat) : Int) ∈ fset F m F := (fset_mem F).2 ⟨0, hF, rfl⟩
  have h3 := List.length_pos_of_mem h2
  rw [orbN, if_pos ho]
  omega
theorem cntL_bd {F : Nat} (hF : 0 < F) : ∀ (r : List Mx), (∀ m ∈ r, Own1 F m) → (cntL F r.reverse).length = F ∧ ∀ x : Int, 0 ≤ x → x < F → 0 ≤ gi (cntL F r.reverse) x ∧ gi (cntL F r.reverse) x ≤ (r.length : Nat)
  | [], _ => ⟨by simp [cntL], fun x h0 h1 => by
    show 0 ≤ gi (List.replicate F 0) x ∧ gi (List.replicate F 0) x ≤ _
    rw [gi_rep h0 h1]
    exact ⟨Int.le_refl _, Int.natCast_nonneg _⟩⟩
  | m :: r, h => by
    obtain ⟨ih1, ih2⟩ := cntL_bd hF r (fun x hx => h x (List.mem_cons_of_mem _ hx))
    have hb := orb_bd hF (h m List.mem_cons_self)
    rw [List.reverse_cons, cntL_snoc]
    unfold bump
    refine ⟨by rw [List.length_set]; exact ih1, fun x h0 h1 => ?_⟩
    rw [gi_set (by omega) (by omega) h0, List.length_cons]
    have h3 := ih2 ((orbN F m : Int) - 1) (by omega) (by omega)
    have h4 := ih2 x h0 h1
    split <;> omega
theorem cntL_bd' {F : Nat} (hF : 0 < F) (ls : List Mx) (h : ∀ m ∈ ls, Own1 F m) : (cntL F ls).length = F ∧ ∀ x : Int, 0 ≤ x → x < F → 0 ≤ gi (cntL F ls) x ∧ gi (cntL F ls) x ≤ (ls.length : Nat) := by
  have := cntL_bd hF ls.reverse (fun m hm => h m (List.mem_reverse.1 hm))
  rwa [List.reverse_reverse, List.length_reverse] at this
def ocL (rank flags : Int) : List Int := if Small rank flags then cntL flags.toNat (lstI rank flags) else []
theorem ocL_small (rank flags : Int) : (ocL rank flags).length ≤ 12 := by
  unfold ocL
  split
  · rename_i hs
    have hs2 := hs.2
    rw [(cntL_bd' (by omega) _ (fun m hm => by
      rw [lstI, if_pos hs] at hm
      exact (listL_mem.1 hm).2)).1]
    omega
  · exact Nat.zero_le _
/-- what is known of an element of the list -/
theorem lst_elem {n F : Nat} {ms : List MatV} (hn : 0 < n) (hF : 0 < F) (hL : ms.map (·.xss) = listL n F) {i : Nat} (hi : i < ms.length) : Mani ms[i].xss ∧ F = (gl ms[i].xss 0).length ∧ Own1 F ms[i].xss := by
  have hm : ms[i].xss ∈ listL n F := by rw [← hL]; exact List.mem_map_of_mem (List.getElem_mem hi)
  obtain ⟨h1, h2⟩ := listL_mem.1 hm
  obtain ⟨h3, h4⟩ := forms_mani hn hF h1
  exact ⟨h3, (h4.shp.row (i := 0) hn).symm, h2⟩
theorem cnt_take {F : Nat} {ms : List MatV} {i : Nat} (hi : i < ms.length) : cntL F ((ms.map (·.xss)).take (i + 1)) = bump (cntL F ((ms.map (·.xss)).take i)) (orbN F ms[i].xss) := by
  rw [List.take_succ_eq_append_getElem (by rw [List.length_map]; exact hi), cntL_snoc, List.getElem_map]

theorem implOrbitCounts_c (rank flags : Int) (w : World) : Ret Tryz.prog 13 [.int .i64 rank, .int .i64 flags] w (AnsR (ocL rank flags) (lstK rank flags) w) := by
  have hlst := lst_len rank flags
  refine Ret.of_cd Tryz.func13 rfl Tryz.ntmps13 rfl (post2 rfl) ?_
  refine Cd.seq ?_
  refine Cd.region ?_
  refine Ops.mv_sl rfl rfl rfl ?_
  refine Ops.mv_int rfl rfl rfl ?_
  refine Ops.nil ?_
  refine thenQ_n ?_
  refine Cd.seq ?_
  refine Cd.region ?_
  refine Ops.mv_int rfl rfl rfl ?_
  refine Ops.mv_int rfl rfl rfl ?_
  refine Ops.call (allManiplexes_c rank flags _) rfl rfl rfl ?_
  rintro _ w2 ⟨A, c, ms, rfl, hL, hok, hS⟩
  refine Ops.mv_tup rfl rfl rfl ?_
  refine Ops.extract rfl rfl rfl ?_
  refine Ops.extract rfl rfl rfl ?_
  refine Ops.mv_sl rfl rfl rfl ?_
  refine Ops.mv_int rfl rfl rfl ?_
  refine Ops.nil ?_
  refine thenQ_n ?_
  refine Cd.seq ?_
  refine Cd.seq ?_
  refine Cd.region ?_
  refine Ops.mv_int rfl rfl rfl ?_
  refine Ops.neq rfl rfl rfl ?_
  refine Ops.nil ?_
  refine thenQ_n ?_
  refine Cd.cond_p _ rfl (fun h => ?_) (fun h => ?_)
  · have hs : ¬ Small rank flags := fun hs => h (by rw [lstK, if_pos hs])
    refine Cd.seq ?_
    refine Cd.region ?_
    refine Ops.mv_int rfl rfl rfl ?_
    refine Ops.mv_sl rfl rfl rfl ?_
    refine Ops.mv_int rfl rfl rfl ?_
    refine Ops.nil ?_
    refine thenQ_n ?_
    refine Cd.ret ?_
    refine thenQ_r ?_
    refine ret2_si rfl rfl ?_
    rw [ocL, if_neg hs]
    exact AnsR.none hS
  · have hs : Small rank flags := Classical.byContradiction fun hs => h (by rw [lstK, if_neg hs]; decide)
    obtain ⟨n, rfl⟩ : ∃ n : Nat, rank = n := ⟨rank.toNat, by have := hs.1; omega⟩
    obtain ⟨F, rfl⟩ : ∃ F : Nat, flags = F := ⟨flags.toNat, by have := hs.2; omega⟩
    have hs1 := hs.1
    have hs2 := hs.2
    have hlI : lstI (n : Int) (F : Int) = listL n F := by rw [lstI, if_pos hs, Int.toNat_natCast, Int.toNat_natCast]
    have hml : ms.length = (lstI (n : Int) (F : Int)).length := by rw [← hL, List.length_map]
    rw [hlI] at hL
    refine Cd.skip ?_
    refine thenQ_n ?_
    refine Cd.seq ?_
    refine Cd.region ?_
    refine Ops.mv_int rfl rfl rfl ?_
    refine Ops.mkI F hS rfl rfl (by omega) ?_
    intro A9 w3 hS3
    refine Ops.mv_sl rfl rfl rfl ?_
    refine Ops.nil ?_
    refine thenQ_n ?_
    refine Cd.seq ?_
    refine Cd.seq ?_
    refine Cd.region ?_
    refine Ops.mv_sl rfl rfl rfl ?_
    refine Ops.len rfl rfl ?_
    refine Ops.mv_int rfl rfl rfl ?_
    refine Ops.nil ?_
    refine thenQ_n ?_
    refine Cd.block ?_
    refine Cd.loop (α := Nat) (fun i => [(8, .slice A9 F F), (24, .slice A ms.length c), (25, .int .i64 (ms.length : Int)), (26, .int .i64 (i : Int))]) (fun i w' => St w w' (CkI 2 A9 F F (cntL F ((ms.map (·.xss)).take i)) :: CkR 32 A ms.length c (ms.map (·.top)) :: matsCk 34 2 ms) ∧ i ≤ ms.length) (fun i => ms.length - i) 0 ⟨rfl, rfl, rfl, rfl, trivial⟩ ⟨hS3, Nat.zero_le _⟩ ?_
    rintro i e w4 ⟨hS4, hi⟩
    refine Cd.seq ?_
    refine Cd.region ?_
    refine Ops.lss rfl rfl rfl ?_
    refine Ops.nil ?_
    refine thenQ_n ?_
    refine Cd.seq ?_
    refine Cd.cond_p _ rfl (fun h1 => ?_) (fun h1 => ?_)
    · have hi' : i < ms.length := by omega
      obtain ⟨hM, hN, hO⟩ := lst_elem (by omega) (by omega) hL hi'
      have hb := orb_bd (by omega) hO
      have hcb := cntL_bd' (F := F) (by omega) ((ms.map (·.xss)).take i) (fun m hm => by
        have := List.mem_of_mem_take hm
        rw [hL] at this
        exact (listL_mem.1 this).2)
      have hcv := hcb.2 ((orbN F ms[i].xss : Int) - 1) (by omega) (by omega)
      have htl : ((ms.map (·.xss)).take i).length ≤ 4000000000000 := by simp; omega
      have hR := hS4.rdR 1 rfl
      have ht := top_at hi'
      refine Cd.skip ?_
      refine thenQ_n ?_
      refine Cd.seq ?_
      refine Cd.block ?_
      refine Cd.seq ?_
      refine Cd.region ?_
      refine Ops.idx hR.2 rfl rfl rfl (by omega) h1 ?_
      refine Ops.ld_ag hR rfl (by omega) rfl ?_
      rw [ht]
      refine Ops.new1 hS4 rfl ?_
      intro A10 w5 hS5
      refine Ops.st_agg 1 0 hS5 rfl rfl rfl rfl rfl rfl rfl ?_
      intro w6 hS6
      have hS6 : St w w6 (Bx 32 1 A10 [.slice ms[i].top.a ms[i].top.n ms[i].top.c] :: CkI 2 A9 F F (cntL F ((ms.map (·.xss)).take i)) :: CkR 32 A ms.length c (ms.map (·.top)) :: matsCk 34 2 ms) := hS6
      have hsub : (ms[i].cks 34 2).Sublist (Bx 32 1 A10 [.slice ms[i].top.a ms[i].top.n ms[i].top.c] :: CkI 2 A9 F F (cntL F ((ms.map (·.xss)).take i)) :: CkR 32 A ms.length c (ms.map (·.top)) :: matsCk 34 2 ms) := (((MatV.sub_ (List.getElem_mem hi')).trans (List.sublist_cons_self _ _)).trans (List.sublist_cons_self _ _)).trans (List.sublist_cons_self _ _)
      have hRm := hS6.matAt (c := ms[i].top.c) (t1 := 34) (t2 := 2) hsub (hok _ (List.getElem_mem hi'))
      refine Ops.nil ?_
      refine thenQ_n ?_
      refine Cd.seq ?_
      refine Cd.region ?_
      refine Ops.call (flagOrbits_c A10 ms[i].top.a ms[i].top.n ms[i].top.c ms[i].rs ms[i].xss F _ (Rd.first (hS6.rd 0 rfl)) hRm hM hN) rfl rfl rfl ?_
      rintro _ w7 ⟨A11, rfl, hst7⟩
      rw [show (fset F ms[i].xss F).length = orbN F ms[i].xss by rw [orbN, if_pos hO]]
      have hS7 := (hS6.later hst7.below).tail
      have hC := hS7.rdI 0 rfl
      refine Ops.mv_tup rfl rfl rfl ?_
      refine Ops.extract rfl rfl rfl ?_
      refine Ops.extract rfl rfl rfl ?_
      refine Ops.mv_sl rfl rfl rfl ?_
      refine Ops.mv_int rfl rfl rfl ?_
      refine Ops.nil ?_
      refine thenQ_n ?_
      refine Cd.region ?_
      refine Ops.mv_sl rfl rfl rfl ?_
      refine Ops.mv_int rfl rfl rfl ?_
      refine Ops.sub rfl rfl rfl (by omega) ?_
      refine Ops.idx hC.2 rfl rfl rfl (by omega) (by omega) ?_
      refine Ops.ld_int hC rfl (by omega) rfl rfl ?_
      refine Ops.add rfl rfl rfl (by omega) ?_
      refine Ops.idx hC.2 rfl rfl rfl (by omega) (by omega) ?_
      refine Ops.st_int 0 hS7 rfl rfl rfl (by omega) ?_
      intro w8 hS8
      refine Ops.nil ?_
      refine blockQ_n ?_
      refine thenQ_n ?_
      refine Cd.region ?_
      refine Ops.add rfl rfl rfl (by omega) ?_
      refine Ops.mv_int rfl rfl rfl ?_
      refine Ops.nil ?_
      refine thenQ_n ?_
      refine ⟨i + 1, by omega, ⟨rfl, rfl, rfl, rfl, trivial⟩, ?_, by omega⟩
      rw [cnt_take hi']
      exact hS8
    · refine Cd.exit ?_
      refine thenQ_x ?_
      refine thenQ_x ?_
      refine blockQ_x ?_
      refine thenQ_n ?_
      refine Cd.seq ?_
      refine Cd.region ?_
      refine Ops.mv_sl rfl rfl rfl ?_
      refine Ops.mv_sl rfl rfl rfl ?_
      refine Ops.mv_int rfl rfl rfl ?_
      refine Ops.nil ?_
      refine thenQ_n ?_
      refine Cd.ret ?_
      refine ret2_si rfl rfl ?_
      have hie : i = ms.length := by omega
      have hl12 := (cntL_bd' (F := F) (by omega) (lstI (n : Int) (F : Int)) (fun m hm => by rw [hlI] at hm; exact (listL_mem.1 hm).2)).1
      rw [hie, List.take_of_length_le (by simp), hL, ← hlI] at hS4
      have e1 : ocL (n : Int) (F : Int) = cntL F (lstI (n : Int) (F : Int)) := by rw [ocL, if_pos hs, Int.toNat_natCast]
      have e2 : lstK (n : Int) (F : Int) = 0 := by rw [lstK, if_pos hs]
      rw [e1, e2]
      refine ⟨A9, F, by rw [hl12], ?_⟩
      rw [hl12]
      exact hS4.sub (List.Sublist.cons_cons _ (List.nil_sublist _))

end Go.Proofs.YtjpkmpihmilgoaaGreat.Vc
/-
  RegularManiplexes on both sides, and the walk of its law. Conditions: none.
-/
namespace Go.Proofs.YtjpkmpihmilgoaaGreat.Vc
open Go.RowKit

def regL (rank flags : Int) : List Mx := (lstI rank flags).filter fun L => decide (orbN flags.toNat L = 1)
theorem regL_mem {rank flags : Int} {L : Mx} (h : L ∈ regL rank flags) : L ∈ lstI rank flags := (List.mem_filter.1 h).1
theorem regL_len (rank flags : Int) : (regL rank flags).length ≤ 4000000000000 := Nat.le_trans (List.length_filter_le _ _) (lst_len rank flags)
def regV (F : Nat) (ms : List MatV) : List MatV := ms.filter fun m => decide (orbN F m.xss = 1)
theorem regV_xss (F : Nat) (ms : List MatV) : (regV F ms).map (·.xss) = (ms.map (·.xss)).filter fun L => decide (orbN F L = 1) := by
  unfold regV
  rw [List.filter_map]
  rfl
theorem regV_snoc {F : Nat} {ms : List MatV} {i : Nat} (hi : i < ms.length) : regV F (ms.take (i + 1)) = if orbN F (ms[i]).xss = 1 then regV F (ms.take i) ++ [ms[i]] else regV F (ms.take i) := by
  unfold regV
  rw [List.take_succ_eq_append_getElem hi, List.filter_append]
  by_cases h : orbN F (ms[i]).xss = 1
  · rw [if_pos h]; simp [h]
  · rw [if_neg h]; simp [h]
theorem regular1_c (A : Option Addr) (n c : Nat) (rs : List SlV) (xss : List (List Int)) (N : Nat) (w : World) (hR : RowsI w A n rs xss) (hM : Mani xss) (hN : N = (gl xss 0).length) :
    Ret Tryz.prog 59 [.agg #[.slice A n c]] w (fun v w' => v = .bool (decide (((fset N xss N).length : Int) > 1)) ∧ St w w' []) := by
  refine Ret.of_cd Tryz.func59 rfl Tryz.ntmps59 rfl (post1 rfl) ?_
  refine Cd.seq ?_
  refine Cd.region ?_
  refine Ops.box1 (St.refl w) rfl rfl ?_
  intro Ab w1 hS1
  refine Ops.mv_bool rfl rfl rfl ?_
  refine Ops.nil ?_
  refine thenQ_n ?_
  refine Cd.seq ?_
  refine Cd.region ?_
  refine Ops.call (flagOrbits_c Ab A n c rs xss N _ (Rd.first (hS1.rd 0 rfl)) (hS1.oldRows hR) hM hN) rfl rfl rfl ?_
  rintro _ w2 ⟨A2, rfl, hst⟩
  refine Ops.mv_tup rfl rfl rfl ?_
  refine Ops.extract rfl rfl rfl ?_
  refine Ops.extract rfl rfl rfl ?_
  refine Ops.mv_sl rfl rfl rfl ?_
  refine Ops.mv_int rfl rfl rfl ?_
  refine Ops.nil ?_
  refine thenQ_n ?_
  refine Cd.seq ?_
  refine Cd.region ?_
  refine Ops.mv_int rfl rfl rfl ?_
  refine Ops.gtr rfl rfl rfl ?_
  refine Ops.mv_bool rfl rfl rfl ?_
  refine Ops.nil ?_
  refine thenQ_n ?_
  refine Cd.ret ?_
  refine ret1_b rfl ?_
  exact ⟨rfl, (hS1.later hst.below).none⟩
theorem keptI_map {pd : Nat → Bool} {F : Nat} {ms : List MatV} (h : ∀ (j : Nat) (hj : j < ms.length), pd j = decide (¬ orbN F ms[j].xss = 1)) : ∀ k, k ≤ ms.length → (keptI pd k).map (fun j => (ms.map (·.top)).getD j slNil) = (regV F (ms.take k)).map (·.top)
  | 0, _ => rfl
  | k + 1, hk => by
    have ih := keptI_map h k (by omega)
    have hk' : k < ms.length := by omega
    have hp := h k hk'
    rw [keptI_succ, regV_snoc hk']
    by_cases ho : orbN F ms[k].xss = 1
    · rw [if_pos ho, if_neg (by rw [hp]; simp [ho]), List.map_append, List.map_append, ih]
      simp [List.getD_eq_getElem?_getD, List.getElem?_eq_getElem hk']
    · rw [if_neg ho, if_pos (by rw [hp]; simp [ho]), ih]
theorem implRegularManiplexes_c (rank flags : Int) (w : World) : Ret Tryz.prog 15 [.int .i64 rank, .int .i64 flags] w (AnsM (regL rank flags) (lstK rank flags) w) := by
  have hlst := lst_len rank flags
  refine Ret.of_cd Tryz.func15 rfl Tryz.ntmps15 rfl (post2 rfl) ?_
  refine Cd.seq ?_
  refine Cd.region ?_
  refine Ops.mv_sl rfl rfl rfl ?_
  refine Ops.mv_int rfl rfl rfl ?_
  refine Ops.nil ?_
  refine thenQ_n ?_
  refine Cd.seq ?_
  refine Cd.region ?_
  refine Ops.mv_int rfl rfl rfl ?_
  refine Ops.mv_int rfl rfl rfl ?_
  refine Ops.call (allManiplexes_c rank flags _) rfl rfl rfl ?_
  rintro _ w2 ⟨A, c, ms, rfl, hL, hok, hS⟩
  have hml : ms.length = (lstI rank flags).length := by rw [← hL, List.length_map]
  have hel : ∀ (j : Nat) (hj : j < ms.length), Mani ms[j].xss ∧ flags.toNat = (gl ms[j].xss 0).length ∧ Own1 flags.toNat ms[j].xss ∧ 0 < flags.toNat := fun j hj => by
    have hs : Small rank flags := Classical.byContradiction fun hs => by
      rw [lstI, if_neg hs] at hml
      have hml : ms.length = 0 := hml
      omega
    have h1 := hs.1
    have h2 := hs.2
    have := lst_elem (n := rank.toNat) (F := flags.toNat) (by omega) (by omega) (by rw [hL, lstI, if_pos hs]) hj
    exact ⟨this.1, this.2.1, this.2.2, by omega⟩
  refine Ops.mv_tup rfl rfl rfl ?_
  refine Ops.extract rfl rfl rfl ?_
  refine Ops.extract rfl rfl rfl ?_
  refine Ops.mv_sl rfl rfl rfl ?_
  refine Ops.mv_int rfl rfl rfl ?_
  refine Ops.nil ?_
  refine thenQ_n ?_
  refine Cd.seq ?_
  refine Cd.region ?_
  refine Ops.mv_sl rfl rfl rfl ?_
  refine Ops.call (deleteM_c 0 hS rfl (by omega) 59 (fun j => if hj : j < ms.length then decide (¬ orbN flags.toNat ms[j].xss = 1) else false) (fun w' q hq hSq a ha => ?_)) rfl rfl rfl ?_
  · obtain ⟨hM, hN, hO, hF⟩ := hel a ha
    have hb := orb_bd hF hO
    have hSq : St w w' (CkR 32 A ms.length c (q.map fun j => (ms.map (·.top)).getD j slNil) :: matsCk 34 2 ms) := hSq
    have hRm := hSq.matAt (c := ms[a].top.c) (t1 := 34) (t2 := 2) ((MatV.sub_ (List.getElem_mem ha)).trans (List.sublist_cons_self _ _)) (hok _ (List.getElem_mem ha))
    have e1 : (ms.map (·.top)).getD a slNil = ms[a].top := by simp [List.getD_eq_getElem?_getD, List.getElem?_eq_getElem ha]
    have e2 : (fset flags.toNat ms[a].xss flags.toNat).length = orbN flags.toNat ms[a].xss := by rw [orbN, if_pos hO]
    have hc := regular1_c ms[a].top.a ms[a].top.n ms[a].top.c ms[a].rs ms[a].xss flags.toNat w' hRm hM hN
    rw [e2] at hc
    rw [e1]
    refine hc.mono ?_
    rintro v w'' ⟨rfl, hst⟩
    refine ⟨?_, hst⟩
    rw [dif_pos ha]
    congr 1
    rw [decide_eq_decide]
    omega
  rintro _ w3 ⟨rfl, hS3⟩
  have hkm := keptI_map (pd := fun j => if hj : j < ms.length then decide (¬ orbN flags.toNat ms[j].xss = 1) else false) (F := flags.toNat) (fun j hj => by rw [dif_pos hj]) ms.length (Nat.le_refl _)
  have hkl := congrArg List.length hkm
  rw [List.length_map, List.length_map, List.take_of_length_le (Nat.le_refl _)] at hkl
  rw [List.take_of_length_le (Nat.le_refl _)] at hkm
  rw [hkm, hkl] at hS3
  rw [hkl]
  have hS3 : St w w3 (CkR 32 A (regV flags.toNat ms).length c ((regV flags.toNat ms).map (·.top)) :: matsCk 34 2 ms) := hS3
  refine Ops.mv_int rfl rfl rfl ?_
  refine Ops.mv_sl rfl rfl rfl ?_
  refine Ops.mv_int rfl rfl rfl ?_
  refine Ops.nil ?_
  refine thenQ_n ?_
  refine Cd.ret ?_
  refine ret2_si rfl rfl ?_
  exact ⟨A, c, regV flags.toNat ms, rfl, by rw [regV_xss, hL]; rfl, fun m hm => hok m (List.mem_filter.1 hm).1, hS3.sub (List.Sublist.cons_cons _ (matsCk_sub List.filter_sublist))⟩

end Go.Proofs.YtjpkmpihmilgoaaGreat.Vc
/-
  Rows of structs of two cells, a slice and a number: the rules of the operations on them. Conditions: as each rule names them.
-/
namespace Go.Proofs.YtjpkmpihmilgoaaGreat.Vc
open Go.RowKit

structure CV where
  s : SlV
  v : Int
def flatC : List CV → List Value
  | [] => []
  | x :: r => x.s.v :: .int .i64 x.v :: flatC r
theorem flatC_len : ∀ l : List CV, (flatC l).length = 2 * l.length
  | [] => rfl
  | x :: r => by
    simp only [flatC, List.length_cons]
    rw [flatC_len r]
    omega
theorem flatC_app : ∀ a b : List CV, flatC (a ++ b) = flatC a ++ flatC b
  | [], _ => rfl
  | x :: r, b => by
    simp only [List.cons_append, flatC]
    rw [flatC_app r b]
theorem flatC_get : ∀ {l : List CV} {i : Nat} (h : i < l.length), (flatC l)[2 * i]? = some l[i].s.v ∧ (flatC l)[2 * i + 1]? = some (.int .i64 l[i].v)
  | x :: r, 0, _ => ⟨rfl, rfl⟩
  | x :: r, i + 1, h => by
    have := flatC_get (l := r) (i := i) (by simpa using h)
    simp only [flatC, List.getElem_cons_succ]
    rw [show 2 * (i + 1) = 2 * i + 1 + 1 by omega]
    simpa using this
theorem flatC_set : ∀ {l : List CV} {i : Nat} (h : i < l.length) (v : Int), (flatC l).set (2 * i + 1) (.int .i64 v) = flatC (l.set i ⟨l[i].s, v⟩)
  | x :: r, 0, _, v => rfl
  | x :: r, i + 1, h, v => by
    have := flatC_set (l := r) (i := i) (by simpa using h) v
    rw [show 2 * (i + 1) + 1 = (2 * i + 1) + 1 + 1 by omega]
    simp only [flatC, List.set_cons_succ, List.getElem_cons_succ]
    rw [this]
theorem isM_C (l : List CV) : isM (flatC l) = false := by cases l <;> rfl
/-- a row of such structs of one's own: k of them, room for q -/
def CkC (t : TypeId) (A : Option Addr) (k q : Nat) (cs : List CV) : Ck := ⟨A, 2 * k, min (2 * q) maxLen, t, flatC cs⟩
/-- .. that can be read -/
def RdC (w : World) (A : Option Addr) (k : Nat) (cs : List CV) : Prop := cs.length = k ∧ Rd w A (2 * k) (fun j => (flatC cs).getD j undef)
theorem RdC.below {w w' : World} {A : Option Addr} {k : Nat} {cs : List CV} (h : RdC w A k cs) (hb : Below w.heap.size w w') : RdC w' A k cs := ⟨h.1, Rd.below h.2 hb⟩
/-- the address behind some -/
def cutC (A : Option Addr) (q l : Nat) : Option Addr := if q = l then A else ptrAt A (l * 2)
section
variable {w0 w : World} {ks : List Ck} {i : Nat} {t : TypeId} {A : Option Addr} {k q : Nat} {cs : List CV}
theorem St.rdC (h : St w0 w ks) (i : Nat) (hk : ks[i]? = some (CkC t A k q cs)) : RdC w A k cs := by
  have h1 : (flatC cs).length = 2 * k := (h.getC hk (isM_C _)).1
  rw [flatC_len] at h1
  exact ⟨by omega, h.rd i hk⟩
theorem St.capC (h : St w0 w ks) (i : Nat) (hk : ks[i]? = some (CkC t A k q cs)) : k ≤ q ∧ 2 * k ≤ maxLen := by
  have h1 : 2 * k ≤ min (2 * q) maxLen := (h.get hk).cap.1
  omega
theorem RdC.at_ (h : RdC w A k cs) {j : Nat} (hj : j < k) : Rd w (ptrAt A (j * 2)) 2 (fun m => [(cs[j]'(by rw [h.1]; exact hj)).s.v, .int .i64 (cs[j]'(by rw [h.1]; exact hj)).v].getD m undef) := by
  have hl : j < cs.length := by rw [h.1]; exact hj
  have := (h.2.behind (o := j * 2) (m := 2) (by omega))
  refine this.congr fun m hm => ?_
  have hg := flatC_get hl
  rcases (show m = 0 ∨ m = 1 by omega) with rfl | rfl
  · rw [show j * 2 + 0 = 2 * j by omega, List.getD_eq_getElem?_getD, hg.1]; rfl
  · rw [show j * 2 + 1 = 2 * j + 1 by omega, List.getD_eq_getElem?_getD, hg.2]; rfl
/-- a new block, of which a part is held -/
theorem St.allocP (h : St w0 w ks) (cs : List Value) (e : TypeId) (n c : Nat) (hn : n ≤ c) (hc : c ≤ cs.length) (hm : c ≤ maxLen) (hM : isM cs = false) : St w0 (w.alloc (.cells cs.toArray e)) (⟨some ⟨w.heap.size, 0, Option.none⟩, n, c, e, cs.take n⟩ :: ks) := by
  have hb : Below w.heap.size w (w.alloc (.cells cs.toArray e)) := (Below.refl _ _).alloc (Nat.le_refl _) _
  have h1 := h.later hb
  refine ⟨h1.below, fun k hk => ?_, ?_⟩
  · rcases List.mem_cons.1 hk with rfl | hk
    · refine .ofC (isM_take n hM) ⟨by simp; omega, hn, hm, .inr ⟨_, 0, cs.toArray, rfl, h.below.size, heap_alloc_new w _, by simp; omega, fun j hj => ?_⟩⟩
      have hj : j < n := hj
      simp [List.getElem?_take, hj]
    · exact h1.own k hk
  · simp only [List.filterMap_cons, Ck.blk, Option.map_some, List.nodup_cons]
    refine ⟨fun hin => ?_, h.apart⟩
    obtain ⟨k', hk', hkb⟩ := List.mem_filterMap.1 hin
    have := ((h.own k' hk').lt hkb).2
    omega
theorem perm_set {α : Type} : ∀ (l : List α) (i : Nat) (x y : α), l[i]? = some y → (x :: l).Perm (y :: l.set i x)
  | [], i, x, y, h => by simp at h
  | u :: l, 0, x, y, h => by simp at h; subst h; exact List.Perm.swap _ _ _
  | u :: l, i + 1, x, y, h => by
    simp only [List.getElem?_cons_succ] at h
    simp only [List.set_cons_succ]
    exact (List.Perm.swap _ _ _).trans (((perm_set l i x y h).cons u).trans (List.Perm.swap _ _ _))
theorem zero2 {z z0 z1 : Value} (hz : z.cells = #[z0, z1]) (m : Nat) : (Builtin.zeroCells z.cells m).toList.length = 2 * m := by
  rw [hz]
  simp [Builtin.zeroCells]
  omega
end
section
variable {P : Program} {N : Nat} {ops : Array Oper} {K : Env → World → Prop} {rest : List Oper} {e : Env} {w0 w w' : World} {ks : List Ck} {d : Nat} {ty : TypeId} {pos : String} {af : Array Edge}
theorem Ops.idx2 {t el : TypeId} {z : Value} {b : Nat} [Und P t (.slice el)] [Inf P el z 2 b] {x ix : Operand} {A : Option Addr} {n c : Nat} {k : IntKind} {i : Int} {cs : List CV} (hR : RdC w A n cs)
    (hx : ev e x = .slice A n c) (hy : ev e ix = .int k i) (hb : Nat.blt d N = true) (h0 : 0 ≤ i) (h1 : i < (n : Int)) (hK : Ops P N ops K rest (upd e d (.pointer (ptrAt A (i.toNat * 2)))) w) :
    Ops P N ops K (⟨some d, .indexAddr t x ix, ty, pos, af, none⟩ :: rest) e w := by
  obtain ⟨p, hp, _⟩ := hR.2 i.toNat (by omega)
  obtain ⟨q, rfl⟩ : ∃ q, A = some q := by cases A with | none => simp [ptrAt] at hp | some q => exact ⟨q, rfl⟩
  obtain ⟨inf, hi, _, hs, _⟩ := Inf.get P el
  refine .val (w' := w) ?_ hb hK
  simp [execOp, Instr.indexAt, hx, hy, asIntOf, run_underlying (Und.out (P := P) (t := t)), h0, h1, sizeOf, typeInfo, hi, hs, ptrAt]
theorem Ops.bs1_2 {t el : TypeId} {z z0 z1 : Value} {b : Nat} [Und P t (.slice el)] [Inf P el z 2 b] {x0 : Operand} {A0 : Option Addr} {n0 c0 : Nat} {v0 : Int} (hS : St w0 w ks) (h0 : ev e x0 = .agg #[.slice A0 n0 c0, .int .i64 v0]) (hz : z.cells = #[z0, z1]) (hb : Nat.blt d N = true)
    (hK : ∀ A w', St w0 w' (CkC el A 1 1 [⟨⟨A0, n0, c0⟩, v0⟩] :: ks) → Ops P N ops K rest (upd e d (.slice A 1 1)) w') : Ops P N ops K (⟨some d, .buildSlice t 1 #[(0, x0)], ty, pos, af, none⟩ :: rest) e w := by
  obtain ⟨inf, hi, hz0, hs, hby⟩ := Inf.get P el
  refine .val (w' := w.alloc (.cells #[.slice A0 n0 c0, .int .i64 v0] el)) ?_ hb (hK _ _ (hS.alloc [.slice A0 n0 c0, .int .i64 v0] el (by simp [maxLen]) rfl))
  simp [execOp, Instr.buildSlice, run_underlying (Und.out (P := P) (t := t)), sizeOf, typeInfo, zeroValue, hi, hs, hz0, hz, Instr.fill, newRow, h0, arr_range, List.range_succ, Value.cells]
theorem Ops.bld2c {t : TypeId} {f0 f1 : Field} {z0 z1 y0 y1 : Value} {b b0 b1 : Nat} [Und P t (.struct #[f0, f1])] [Inf P t (.agg #[z0, z1]) 2 b] {x0 x1 : Operand} {v0 v1 : Value} (hI0 : Inf P f0.type y0 1 b0) (hI1 : Inf P f1.type y1 1 b1) (ho : f0.offset = 0) (ho1 : f1.offset = 1) (h0 : ev e x0 = v0) (h1 : ev e x1 = v1) (c0 : v0.oneCell' = true) (c1 : v1.oneCell' = true) (hb : Nat.blt d N = true)
    (hK : Ops P N ops K rest (upd e d (.agg #[v0, v1])) w) : Ops P N ops K (⟨some d, .build t #[(0, x0), (1, x1)], ty, pos, af, none⟩ :: rest) e w := by
  obtain ⟨inf, hi, hz0, hs, hby⟩ := Inf.get P t
  obtain ⟨inf0, hi0, hz00, hs0, hby0⟩ := hI0.get P f0.type
  obtain ⟨inf1, hi1, hz01, hs1, hby1⟩ := hI1.get P f1.type
  have e0 : v0.cells = #[v0] := by cases v0 <;> simp [Value.oneCell'] at c0 <;> rfl
  have e1 : v1.cells = #[v1] := by cases v1 <;> simp [Value.oneCell'] at c1 <;> rfl
  have ez : (Value.agg #[z0, z1]).cells = #[z0, z1] := rfl
  refine .val (w' := w) ?_ hb hK
  simp [execOp, Instr.build, run_underlying (Und.out (P := P) (t := t)), sizeOf, typeInfo, zeroValue, hi, hz0, hi0, hs0, hi1, hs1, ho, ho1, h0, h1, e0, e1, ez, Instr.fill]

theorem run_append2_st {t el : TypeId} {z z0 z1 : Value} {b : Nat} [hU : Und P t (.slice el)] [Inf P el z 2 b] (hz : z.cells = #[z0, z1]) {A : Option Addr} {n c : Nat} {cs : List CV} (i : Nat) (hS : St w0 w ks) (hk : ks[i]? = some (CkC el A n c cs)) {A' : Option Addr} {m c' : Nat} {ds : List CV} (hR : RdC w A' m ds)
    (h63 : 2 * (n + m) ≤ maxLen) (hbytes : (n + m) * b ≤ 140737488355328) (ty : TypeId) :
    ∃ A2 c2 w', (Builtin.append_ #[t, t] ty #[.slice A n c, .slice A' m c']).run P w = .ok (.slice A2 (n + m) c2) w' ∧ St w0 w' (ks.set i (CkC el A2 (n + m) c2 (cs ++ ds))) := by
  obtain ⟨inf, hi, hz0, hs, hby⟩ := Inf.get P el
  have hown := hS.getC hk (isM_C _)
  have hcap := hS.capC i hk
  have hcl := (hS.rdC i hk).1
  obtain ⟨hl, hnc, hcm, h4⟩ := hown
  have hilt := (List.getElem?_eq_some_iff.1 hk).1
  by_cases hm : m = 0
  · subst hm
    have hd0 : ds = [] := List.eq_nil_of_length_eq_zero hR.1
    subst hd0
    refine ⟨A, c, w, ?_, ?_⟩
    · cases A' with
      | none => cases A <;> simp [Builtin.append_, run_underlying hU.out, sizeOf, typeInfo, hi, Builtin.lenOf, Builtin.firstCells, hcap.1, storeCells]
      | some a =>
        cases A <;> simp [Builtin.append_, run_underlying hU.out, sizeOf, typeInfo, hi, Builtin.lenOf, Builtin.firstCells, hcap.1, storeCells, loadCells, loadCellsFrom]
    · rw [List.append_nil, Nat.add_zero]
      have : ks.set i (CkC el A n c cs) = ks := by
        apply List.ext_getElem?
        intro j
        rw [List.getElem?_set]
        split
        · rename_i e; subst e; rw [hk]
          try simp [hilt]
        · rfl
      rw [this]; exact hS
  · obtain ⟨a, rfl⟩ : ∃ a, A' = some a := by
      obtain ⟨p, hp, _⟩ := hR.2 0 (by omega)
      cases A' with | none => simp [ptrAt] at hp | some q => exact ⟨q, rfl⟩
    have hnl : (flatC ds).length = m * 2 := by rw [flatC_len, hR.1]; omega
    have hnews : ∀ j v, (flatC ds)[j]? = some v → w.cell? (a.add j) = some v := by
      intro j v hj
      have hjm : j < 2 * m := by have := (List.getElem?_eq_some_iff.1 hj).1; omega
      obtain ⟨p, hp, hc⟩ := hR.2 j hjm
      simp only [ptrAt, Option.map_some, Option.some.injEq] at hp
      rw [hp, hc]
      show some ((flatC ds).getD j undef) = some v
      rw [List.getD_eq_getElem?_getD, hj]
      rfl
    have h1' : ∀ u ∈ flatC ds, u.oneCell' = true := by
      intro u hu
      obtain ⟨j, hj, rfl⟩ := List.mem_iff_getElem.1 hu
      have gen : ∀ (l : List CV), ∀ u ∈ flatC l, u.oneCell' = true := by
        intro l
        induction l with
        | nil => intro u h; cases h
        | cons x l ih =>
          intro u h
          simp only [flatC, List.mem_cons] at h
          rcases h with rfl | rfl | h
          · rfl
          · rfl
          · exact ih u h
      exact gen ds _ (List.getElem_mem hj)
    have hcsl : (flatC cs).length = 2 * n := by rw [flatC_len, hcl]
    -- a new row in the old one's stead
    have fresh : ∀ (xs : List Value) (c2 : Nat), n + m ≤ c2 → xs.length = 2 * c2 → xs.take (2 * (n + m)) = flatC cs ++ flatC ds → isM xs = false →
        St w0 (w.drew.alloc (.cells xs.toArray el)) (ks.set i (CkC el (some ⟨w.heap.size, 0, none⟩) (n + m) c2 (cs ++ ds))) := by
      intro xs c2 h5 h7 h8 h9
      have hA := hS.drew.allocP xs el (2 * (n + m)) (min (2 * c2) maxLen) (by omega) (by omega) (by omega) h9
      rw [h8, ← flatC_app] at hA
      exact (hA.perm (perm_set ks i _ _ hk)).tail
    have h63' : ((n + m : Nat) : Int) ≤ 9223372036854775807 := by simp only [maxLen] at h63; omega
    have h63n : n + m ≤ maxLen := by omega
    rcases h4 with ⟨hA, h0⟩ | ⟨g, o, cur, hA, hg, hh, hsz, hc⟩
    · have hA : A = none := hA
      subst hA
      have h0 : min (2 * c) maxLen = 0 := h0
      have hc0 : c = 0 := by simp only [maxLen] at h0; omega
      have hn0 : n = 0 := by omega
      subst hc0 hn0
      have hvs : cs = [] := List.eq_nil_of_length_eq_zero hcl
      subst hvs
      have hr := run_append_nil (P := P) w t ty el inf z hU.out hi hz0 a m c' (flatC ds) (by rw [hnl, hs]) hnews (by omega) (by omega) (by rw [hby]; rw [Nat.zero_add] at hbytes; omega)
      have hge := grownCap_ge w m 0 el
      have hzl := zero2 hz (grownCap w m 0 el - m)
      refine ⟨some ⟨w.heap.size, 0, none⟩, grownCap w m 0 el, _, ?_, fresh (flatC ds ++ (Builtin.zeroCells z.cells (grownCap w m 0 el - m)).toList) (grownCap w m 0 el) (by omega) (by rw [List.length_append, hzl, hnl]; omega) (by
        rw [List.take_append_of_le_length (by omega), List.take_of_length_le (by omega)]
        rfl) (isM_appN (isM_C _) (by intro hn; rw [hn] at hnl; simp at hnl; omega))⟩
      rw [Nat.zero_add, hr]
      congr 3
      apply Array.ext'
      simp
    · have hA : A = some ⟨g, o, none⟩ := hA
      have hh : w.heap[g]? = some (.cells cur el (0, 0)) := hh
      have hsz : o + min (2 * c) maxLen ≤ cur.size := hsz
      have hc : ∀ j, j < 2 * n → cur[o + j]? = (flatC cs)[j]? := hc
      by_cases hroom : n + m ≤ c
      · have hf := run_firstCells_some (P := P) w inf.size m a m c' (flatC ds) (by rw [hnl, hs]) hnews
        have hst := run_storeCells_at P g (o + 2 * n) el (flatC ds) 0 cur w hh (by rw [hnl]; omega) h1'
        simp only [Nat.add_zero] at hst
        refine ⟨some ⟨g, o, none⟩, c, w.setRow g (cur.toList.take (o + 2 * n) ++ flatC ds ++ cur.toList.drop (o + 2 * n + (flatC ds).length)).toArray, ?_, hS.turn (k := CkC el A n c cs) (k' := CkC el (some ⟨g, o, none⟩) (n + m) c (cs ++ ds)) (g := g) hk (by simp [Ck.blk, CkC, hA]) (by simp [Ck.blk, CkC]) ?_ ?_⟩
        · rw [hA]
          rw [hs] at hf
          simp [Builtin.append_, run_underlying hU.out, sizeOf, typeInfo, hi, hs, Builtin.lenOf, hroom, Addr.add_lit, hf]
          rw [show n * 2 = 2 * n by omega]
          simp [hst]
        · exact ⟨⟨rfl, rfl, rfl, by simp, fun x _ hx => setRow_other w g x _ (fun e => hx (by rw [e]))⟩, Nat.le_refl _⟩
        · refine .ofC (isM_C _) ⟨by show (flatC (cs ++ ds)).length = 2 * (n + m); rw [flatC_len, List.length_append, hcl, hR.1], by show 2 * (n + m) ≤ min (2 * c) maxLen; omega, hcm, .inr ⟨g, o, _, rfl, hg, setRow_heap w g cur _ el _ hh, ?_, fun j hj => ?_⟩⟩
          · show o + min (2 * c) maxLen ≤ _
            simp
            omega
          · have hj' : j < 2 * (n + m) := hj
            show ((cur.toList.take (o + 2 * n) ++ flatC ds ++ cur.toList.drop (o + 2 * n + (flatC ds).length)).toArray)[o + j]? = (flatC (cs ++ ds))[j]?
            rw [flatC_app]
            have hcl2 : cur.toList.length = cur.size := by simp
            rw [List.getElem?_toArray]
            by_cases hjn : j < 2 * n
            · rw [List.append_assoc, List.getElem?_append_left (by simp; omega), List.getElem?_take, if_pos (by omega), List.getElem?_append_left (by omega)]
              rw [Array.getElem?_toList]
              exact hc j hjn
            · rw [List.append_assoc, List.getElem?_append_right (by simp; omega), List.getElem?_append_left (by simp; omega), List.getElem?_append_right (by omega)]
              congr 1
              simp
              omega
      · have holds : ∀ j v, (flatC cs)[j]? = some v → w.cell? ((⟨g, o, none⟩ : Addr).add j) = some v := by
          intro j v hj
          have hjn : j < 2 * n := by have := (List.getElem?_eq_some_iff.1 hj).1; omega
          rw [add_none]
          simp only [World.cell?, hh]
          simpa [hc j hjn] using hj
        have hr := run_append_grow (P := P) w t ty el inf z hU.out hi hz0 ⟨g, o, none⟩ n c (flatC cs) (by rw [hcsl, hs]; omega) holds a m c' (flatC ds) (by rw [hnl, hs]) hnews (by omega) h63' (growslice_fits (by omega) (by rw [hby]; exact hbytes))
        have hge := grownCap_ge w (n + m) c el
        have hzl := zero2 hz (grownCap w (n + m) c el - (n + m))
        refine ⟨some ⟨w.heap.size, 0, none⟩, grownCap w (n + m) c el, _, ?_, fresh (flatC cs ++ flatC ds ++ (Builtin.zeroCells z.cells (grownCap w (n + m) c el - (n + m))).toList) (grownCap w (n + m) c el) (by omega) (by rw [List.length_append, List.length_append, hzl, hnl, hcsl]; omega) (by
          rw [List.take_append_of_le_length (by rw [List.length_append]; omega), List.take_of_length_le (by rw [List.length_append]; omega)]) (isM_appN (isM_app (isM_C _) (isM_C _)) (by intro hn; have := congrArg List.length hn; rw [List.length_append, hnl] at this; simp at this; omega))⟩
        rw [hA, hr]
        congr 3
        apply Array.ext'
        simp
theorem Ops.app2 {t el : TypeId} {z z0 z1 : Value} {b : Nat} [hU : Und P t (.slice el)] [Inf P el z 2 b] {x y : Operand} (i : Nat) {A : Option Addr} {n c : Nat} {cs : List CV} {A' : Option Addr} {m c' : Nat} {ds : List CV} (hS : St w0 w ks) (hk : ks[i]? = some (CkC el A n c cs)) (hR : RdC w A' m ds) (hx : ev e x = .slice A n c) (hy : ev e y = .slice A' m c') (hz : z.cells = #[z0, z1])
    (h63 : n + m ≤ 4611686018427387903) (hbytes : (n + m) * b ≤ 140737488355328) (hb : Nat.blt d N = true)
    (hK : ∀ A2 c2 w', St w0 w' (ks.set i (CkC el A2 (n + m) c2 (cs ++ ds))) → Ops P N ops K rest (upd e d (.slice A2 (n + m) c2)) w') :
    Ops P N ops K (⟨some d, .call ⟨.builtin .append, #[x, y], #[t, t]⟩, ty, pos, af, none⟩ :: rest) e w := by
  obtain ⟨A2, c2, w', hr, hS'⟩ := run_append2_st (P := P) (t := t) hz i hS hk hR (by simp only [maxLen]; omega) hbytes ty (c' := c')
  refine .val (w' := w') ?_ hb (hK _ _ _ hS')
  simp [execOp, resolve, invoke, builtin, hx, hy, hr]
end
end Go.Proofs.YtjpkmpihmilgoaaGreat.Vc
/-
  Plain mathematics of a census: what lists there are, in ascending order, and how often; put in one by one, or grouped from a sorted list. Conditions: as each states them. No program in sight.
-/
namespace Go.Proofs.YtjpkmpihmilgoaaGreat.Vc

abbrev Cs := List (List Int × Int)
def insP : Cs → List Int → Cs
  | [], x => [(x, 1)]
  | (y, n) :: R, x => if lexC y x < 0 then (y, n) :: insP R x else if y = x then (y, n + 1) :: R else (x, 1) :: (y, n) :: R
def SrtK (R : Cs) : Prop := R.Pairwise fun a b => lexC a.1 b.1 < 0
/-- what stands in a census after one more -/
def UpdM (R : Cs) (x y : List Int) (n : Int) : Prop := (y ≠ x ∧ (y, n) ∈ R) ∨ (y = x ∧ ((∃ m, (x, m) ∈ R ∧ n = m + 1) ∨ ((∀ m, (x, m) ∉ R) ∧ n = 1)))
theorem lexC_ne {a b : List Int} (h : lexC a b < 0) : a ≠ b := fun e => by
  rw [lexC_zero.2 e] at h
  omega
theorem lexC_tri {a b : List Int} (h : ¬ lexC a b < 0) (h' : a ≠ b) : lexC b a < 0 := by
  have h1 := lexC_swap a b
  have h2 : lexC a b ≠ 0 := fun e => h' (lexC_zero.1 e)
  omega
theorem insP_mem : ∀ {R : Cs}, SrtK R → ∀ (x y : List Int) (n : Int), (y, n) ∈ insP R x ↔ UpdM R x y n
  | [], _, x, y, n => by
    unfold UpdM
    simp [insP]
  | (z, k) :: R, h, x, y, n => by
    obtain ⟨h1, h2⟩ := List.pairwise_cons.1 h
    have ih := insP_mem h2 x y n
    simp only [insP]
    by_cases hz : lexC z x < 0
    · have hne := lexC_ne hz
      rw [if_pos hz, List.mem_cons, ih]
      unfold UpdM
      have e1 : ∀ m, (x, m) ∈ (z, k) :: R ↔ (x, m) ∈ R := fun m => by
        rw [List.mem_cons]
        exact ⟨fun h => h.elim (fun e => absurd (Prod.mk.inj e).1.symm hne) id, .inr⟩
      simp only [e1]
      by_cases hy : y = x
      · subst hy
        have e2 : ¬ (y, n) = (z, k) := fun e => hne (Prod.mk.inj e).1.symm
        simp [e2]
      · simp [hy]
    · rw [if_neg hz]
      by_cases e : z = x
      · subst e
        rw [if_pos rfl, List.mem_cons]
        have hno : ∀ m, (z, m) ∉ R := fun m hm => lexC_ne (h1 _ hm) rfl
        unfold UpdM
        by_cases hy : y = z
        · subst hy
          constructor
          · rintro (e | hm)
            · exact .inr ⟨rfl, .inl ⟨k, by simp, (Prod.mk.inj e).2⟩⟩
            · exact absurd hm (hno n)
          · rintro (⟨h3, _⟩ | ⟨_, ⟨m, hm, hn⟩ | ⟨hn, _⟩⟩)
            · exact absurd rfl h3
            · rcases List.mem_cons.1 hm with e | hm
              · left
                rw [hn, (Prod.mk.inj e).2]
              · exact absurd hm (hno m)
            · exact absurd List.mem_cons_self (hn k)
        · have e2 : ∀ j, ¬ (y, n) = (z, j) := fun j e => hy (Prod.mk.inj e).1
          simp [hy]
      · rw [if_neg e, List.mem_cons]
        have hzx := lexC_tri hz e
        have hno : ∀ m, (x, m) ∉ (z, k) :: R := fun m hm => by
          rcases List.mem_cons.1 hm with e2 | hm
          · exact e (Prod.mk.inj e2).1.symm
          · exact lexC_ne (lexC_trans hzx (h1 _ hm)) rfl
        unfold UpdM
        by_cases hy : y = x
        · subst hy
          constructor
          · rintro (e2 | hm)
            · exact .inr ⟨rfl, .inr ⟨hno, (Prod.mk.inj e2).2⟩⟩
            · exact absurd hm (hno n)
          · rintro (⟨h3, _⟩ | ⟨_, ⟨m, hm, _⟩ | ⟨_, hn⟩⟩)
            · exact absurd rfl h3
            · exact absurd hm (hno m)
            · exact .inl (by rw [hn])
        · constructor
          · rintro (e2 | hm)
            · exact absurd (Prod.mk.inj e2).1 hy
            · exact .inl ⟨hy, hm⟩
          · rintro (⟨_, hm⟩ | ⟨h3, _⟩)
            · exact .inr hm
            · exact absurd h3 hy
theorem insP_srt : ∀ {R : Cs}, SrtK R → ∀ x : List Int, SrtK (insP R x)
  | [], _, x => by simp [insP, SrtK]
  | (z, k) :: R, h, x => by
    obtain ⟨h1, h2⟩ := List.pairwise_cons.1 h
    have ih := insP_srt h2 x
    simp only [insP]
    by_cases hz : lexC z x < 0
    · rw [if_pos hz]
      refine List.pairwise_cons.2 ⟨fun ⟨y, n⟩ hy => ?_, ih⟩
      rcases (insP_mem h2 x y n).1 hy with ⟨_, hm⟩ | ⟨e, _⟩
      · exact h1 _ hm
      · subst e; exact hz
    · rw [if_neg hz]
      by_cases e : z = x
      · rw [if_pos e]
        exact List.pairwise_cons.2 ⟨h1, h2⟩
      · rw [if_neg e]
        have hzx := lexC_tri hz e
        refine List.pairwise_cons.2 ⟨fun y hy => ?_, h⟩
        rcases List.mem_cons.1 hy with rfl | hy
        · exact hzx
        · exact lexC_trans hzx (h1 y hy)

/-- the census of a list -/
def CenOf (R : Cs) (l : List (List Int)) : Prop := SrtK R ∧ ∀ (y : List Int) (n : Int), (y, n) ∈ R ↔ (y ∈ l ∧ n = (l.count y : Nat))
theorem CenOf.nil : CenOf [] [] := ⟨List.Pairwise.nil, fun y n => by simp⟩
theorem CenOf.step {R R' : Cs} {l : List (List Int)} {x : List Int} (h : CenOf R l) (hs : SrtK R') (hm : ∀ y n, (y, n) ∈ R' ↔ UpdM R x y n) : CenOf R' (l ++ [x]) := by
  refine ⟨hs, fun y n => ?_⟩
  rw [hm]
  unfold UpdM
  simp only [h.2]
  rw [List.count_append, List.mem_append, List.mem_singleton]
  by_cases hy : y = x
  · subst hy
    rw [show List.count y [y] = 1 by simp]
    by_cases hl : y ∈ l
    · constructor
      · rintro (⟨h3, _⟩ | ⟨_, ⟨m, ⟨_, h4⟩, h5⟩ | ⟨h4, _⟩⟩)
        · exact absurd rfl h3
        · exact ⟨.inr rfl, by omega⟩
        · exact absurd ⟨hl, rfl⟩ (h4 (l.count y : Nat))
      · rintro ⟨_, h4⟩
        exact .inr ⟨rfl, .inl ⟨(l.count y : Nat), ⟨hl, rfl⟩, by omega⟩⟩
    · have h0 : l.count y = 0 := List.count_eq_zero.2 hl
      constructor
      · rintro (⟨h3, _⟩ | ⟨_, ⟨m, ⟨h4, _⟩, _⟩ | ⟨_, h5⟩⟩)
        · exact absurd rfl h3
        · exact absurd h4 hl
        · exact ⟨.inr rfl, by omega⟩
      · rintro ⟨_, h4⟩
        exact .inr ⟨rfl, .inr ⟨fun m hm => hl hm.1, by omega⟩⟩
  · have e1 : List.count y [x] = 0 := List.count_eq_zero.2 (by simpa using hy)
    rw [e1, Nat.add_zero]
    constructor
    · rintro (⟨_, h3⟩ | ⟨h3, _⟩)
      · exact ⟨.inl h3.1, h3.2⟩
      · exact absurd h3 hy
    · rintro ⟨h3 | h3, h4⟩
      · exact .inl ⟨hy, h3, h4⟩
      · exact absurd h3 hy
theorem CenOf.perm {R : Cs} {l l' : List (List Int)} (h : CenOf R l) (hp : l.Perm l') : CenOf R l' := ⟨h.1, fun y n => by rw [h.2, hp.mem_iff, hp.count_eq]⟩
theorem CenOf.one {R R' : Cs} {l : List (List Int)} (h : CenOf R l) (h' : CenOf R' l) : R = R' := by
  have nd : ∀ {R : Cs}, SrtK R → R.Nodup := fun {R} h => by
    have h1 : R.Pairwise fun a b => lexC a.1 b.1 < 0 := h
    exact List.nodup_iff_pairwise_ne.2 (h1.imp (S := fun a b => a ≠ b) fun h e => lexC_ne h (congrArg Prod.fst e))
  have hp : R.Perm R' := (List.perm_ext_iff_of_nodup (nd h.1) (nd h'.1)).2 fun ⟨y, n⟩ => by rw [h.2, h'.2]
  exact hp.eq_of_pairwise (fun a b _ _ h1 h2 => by have := lexC_swap a.1 b.1; omega) h.1 h'.1

/-! put in one by one -/
def csS (l : List (List Int)) : Cs := l.foldl insP []
theorem csS_snoc (l : List (List Int)) (x : List Int) : csS (l ++ [x]) = insP (csS l) x := by simp [csS, List.foldl_append]
theorem csS_of : ∀ r : List (List Int), CenOf (csS r.reverse) r.reverse
  | [] => CenOf.nil
  | x :: r => by
    have ih := csS_of r
    rw [List.reverse_cons, csS_snoc]
    exact ih.step (insP_srt ih.1 x) (insP_mem ih.1 x)
theorem csS_cen (l : List (List Int)) : CenOf (csS l) l := by
  have := csS_of l.reverse
  rwa [List.reverse_reverse] at this
/-- the first place that is not ahead -/
def atP (x : List Int) : Cs → Nat
  | [] => 0
  | (y, _) :: R => if lexC y x < 0 then atP x R + 1 else 0
/-! grouped -/
/-- one more, behind all or the last again -/
theorem CenOf.last {R : Cs} {l : List (List Int)} {x : List Int} {n : Int} (h : CenOf (R ++ [(x, n)]) l) : CenOf (R ++ [(x, n + 1)]) (l ++ [x]) := by
  have hp := List.pairwise_append.1 h.1
  have hno : ∀ m, (x, m) ∉ R := fun m hm => lexC_ne (hp.2.2 (x, m) hm (x, n) (by simp)) rfl
  refine h.step (List.pairwise_append.2 ⟨hp.1, by simp, fun a ha b hb => ?_⟩) fun y m => ?_
  · simp only [List.mem_singleton] at hb
    subst hb
    exact hp.2.2 a ha (x, n) (by simp)
  · unfold UpdM
    by_cases hy : y = x
    · subst hy
      constructor
      · intro hm
        rcases List.mem_append.1 hm with hm | hm
        · exact absurd hm (hno m)
        · simp at hm
          exact .inr ⟨rfl, .inl ⟨n, by simp, hm⟩⟩
      · rintro (⟨h3, _⟩ | ⟨_, ⟨k, hk, h4⟩ | ⟨h4, _⟩⟩)
        · exact absurd rfl h3
        · rcases List.mem_append.1 hk with hk | hk
          · exact absurd hk (hno k)
          · simp at hk
            rw [h4, hk]
            simp
        · exact absurd (List.mem_append_right _ (by simp)) (h4 n)
    · simp [hy]
theorem CenOf.more {R : Cs} {l : List (List Int)} {x : List Int} (h : CenOf R l) (hx : ∀ y ∈ R, lexC y.1 x < 0) : CenOf (R ++ [(x, 1)]) (l ++ [x]) := by
  have hno : ∀ m, (x, m) ∉ R := fun m hm => lexC_ne (hx (x, m) hm) rfl
  refine h.step (List.pairwise_append.2 ⟨h.1, by simp, fun a ha b hb => ?_⟩) fun y m => ?_
  · simp only [List.mem_singleton] at hb
    subst hb
    exact hx a ha
  · unfold UpdM
    by_cases hy : y = x
    · subst hy
      constructor
      · intro hm
        rcases List.mem_append.1 hm with hm | hm
        · exact absurd hm (hno m)
        · simp at hm
          exact .inr ⟨rfl, .inr ⟨hno, hm⟩⟩
      · rintro (⟨h3, _⟩ | ⟨_, ⟨k, hk, _⟩ | ⟨_, h5⟩⟩)
        · exact absurd rfl h3
        · exact absurd hk (hno k)
        · rw [h5]
          simp
    · simp [hy]
end Go.Proofs.YtjpkmpihmilgoaaGreat.Vc
/-
  Faces: their numbers and lists, and the reference's walks of them. Conditions: as each states them.
-/
namespace Go.Proofs.YtjpkmpihmilgoaaGreat.Vc
open Go.RowKit

/-! labels: each lies below the count, and each below the count occurs -/
/-- one more than the greatest -/
def grt (xs : List Int) : Int := xs.foldl (fun o x => if o ≤ x then x + 1 else o) 0
theorem grt_snoc (xs : List Int) (x : Int) : grt (xs ++ [x]) = if grt xs ≤ x then x + 1 else grt xs := by
  unfold grt
  rw [List.foldl_append]
  rfl
/-! faces -/
def facesL (xss : List (List Int)) (i : Nat) : List Int := (lab (gl xss 0).length (xss.eraseIdx i) (gl xss 0).length).1
def facesN (xss : List (List Int)) (i : Nat) : Int := (lab (gl xss 0).length (xss.eraseIdx i) (gl xss 0).length).2
theorem Sys.erase {N : Nat} {xss : List (List Int)} (h : Sys N xss) (i : Nat) : Sys N (xss.eraseIdx i) := fun p hp => h p (List.mem_of_mem_eraseIdx hp)
theorem Inj.erase {N : Nat} {xss : List (List Int)} (h : Inj N xss) (i : Nat) : Inj N (xss.eraseIdx i) := fun p hp => h p (List.mem_of_mem_eraseIdx hp)
theorem facesN_le (xss : List (List Int)) (i : Nat) : 0 ≤ facesN xss i ∧ facesN xss i ≤ (gl xss 0).length := lab_count _ _ _
theorem RowsI.erase {w : World} {A : Option Addr} {n : Nat} {rs : List SlV} {xss : List (List Int)} (h : RowsI w A n rs xss) {i : Nat} (hi : i < n) {A' : Option Addr} (hT : RdR w A' (n - 1) (rs.eraseIdx i)) : RowsI w A' (n - 1) (rs.eraseIdx i) (xss.eraseIdx i) := by
  have hl := h.len
  have hrl := h.top.1
  have er : ∀ j, j < n - 1 → (rs.eraseIdx i).getD j slNil = rs.getD (if j < i then j else j + 1) slNil := fun j hj => by
    simp only [List.getD_eq_getElem?_getD, List.getElem?_eraseIdx]; split <;> rfl
  have ex : ∀ j, j < n - 1 → (xss.eraseIdx i).getD j [] = xss.getD (if j < i then j else j + 1) [] := fun j hj => by
    simp only [List.getD_eq_getElem?_getD, List.getElem?_eraseIdx]; split <;> rfl
  refine ⟨hT, by rw [List.length_eraseIdx, if_pos (by omega), hl], fun j hj => ?_, fun j hj => ?_⟩
  · rw [er j hj, ex j hj]
    exact h.row _ (by split <;> omega)
  · rw [er j hj]
    exact h.cap _ (by split <;> omega)

end Go.Proofs.YtjpkmpihmilgoaaGreat.Vc
