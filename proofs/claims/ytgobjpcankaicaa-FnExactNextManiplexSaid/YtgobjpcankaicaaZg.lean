/-
  The texts Srf, K2 in one. Conditions: as each part states them.
-/
import Derived.Test.YtgobjpcankaicaaLayc
import Derived.Shelf.SlSortCmp.NoneTotal
import Derived.Test.YtgobjpcankaicaaZd
import Derived.Test.YtgobjpcankaicaaZe
import Derived.Test.YtgobjpcankaicaaZf
/-
  The library's sort by a function, of a row of one's own whose elements are structs of one slice. Conditions: the function's contract, and that it is a strict weak order.
-/
namespace Go.Proofs.Ytgobjpcankaicaa.Vc
open Go.RowKit Go.Sort

theorem heap_grw {α : Type} [Inhabited α] {enc : α → Value} {w : World} {g n off : Nat} {os : Array Obj} {cur : Array Value} {e : TypeId} {fr : Nat × Nat} (d : Array α) (hb : w.heap[g]? = some (.cells cur e fr)) :
    (Go.Sort.grow (putRow enc (Sort.ahead w n) g off d) os).heap[g]? = some (.cells (putCells enc off d cur) e fr) := by
  have hg : g < w.heap.size := (Array.getElem?_eq_some_iff.1 hb).1
  rw [heap_grow_old _ _ (by simpa using hg)]
  simp [putRow, mapBlock, Sort.ahead, Array.getElem?_modify, hb, onCells]
theorem grb_grw {α : Type} [Inhabited α] {enc : α → Value} {w : World} {g n off : Nat} {os : Array Obj} (d : Array α) : GrB w (Go.Sort.grow (putRow enc (Sort.ahead w n) g off d) os) (some g) := by
  refine ⟨⟨rfl, rfl, rfl, by simp, fun k hk hne => ?_⟩, Nat.le_add_right _ _⟩
  rw [heap_grow_old _ _ (by simpa using hk)]
  have : g ≠ k := fun e => hne (by rw [e])
  simp [putRow, mapBlock, Sort.ahead, Array.getElem?_modify, this]

/-- the place at a number -/
def sv (ss : List SlV) (j : Nat) : SlV := ss.getD j slNil
def encA (ss : List SlV) (n : Nat) (j : Fin n) : List Value := [(sv ss j).v]
theorem flat_at {n : Nat} [Inhabited (Fin n)] (ss : List SlV) (dk : Array (Fin n)) {j : Nat} (hj : j < dk.size) : (flatK (encA ss n) 1 dk)[j]! = (sv ss dk[j]!).v := by
  rw [get_flatK _ _ _ _ (by omega)]
  simp [encA, Nat.mod_one]
/-- the sort's world in one's own words -/
theorem St.srtW {w0 w : World} {ks : List Ck} {i : Nat} {t : TypeId} {g o n c : Nat} {ss : List SlV} {cur : Array Value} [Inhabited (Fin n)] (hS : St w0 w ks) (hk : ks[i]? = some (CkR t (some ⟨g, o, Option.none⟩) n c ss))
    (hh : w.heap[g]? = some (.cells cur t (0, 0))) (hg : w0.heap.size ≤ g) (hs : o + c ≤ cur.size) (m : Nat) (dk : Array (Fin n)) (hd : dk.size = n) (os : Array Obj) :
    St w0 (sortWorldK (encA ss n) 1 w g o m dk os) (ks.set i (CkR t (some ⟨g, o, Option.none⟩) n c (dk.toList.map fun j : Fin n => sv ss j.val))) := by
  have hnc : n ≤ c := (hS.cap i hk).1
  have hc9 : c ≤ maxLen := (hS.cap i hk).2
  refine hS.turn hk rfl rfl (grb_grw _) (.ofC (isM_R _) ⟨by simp [hd], hnc, hc9, .inr ⟨g, o, _, rfl, hg, heap_grw _ hh, by simp only [putCells, Array.size_mapIdx]; exact hs, fun j hj => ?_⟩⟩)
  have hj : j < n := hj
  have hlt2 : o + j < cur.size := by omega
  show (putCells id o (flatK (encA ss n) 1 dk) cur)[o + j]? = ((dk.toList.map fun j : Fin n => sv ss j.val).map SlV.v)[j]?
  have e := flat_at ss dk (j := j) (by omega)
  rw [getElem!_pos _ _ (by simp [hd]; exact hj), getElem!_pos dk j (by omega)] at e
  simp [putCells, hlt2, hj, hd, e]

theorem sortF_c {w0 w : World} {ks : List Ck} (i : Nat) {t : TypeId} {A : Option Addr} {n c : Nat} {ss : List SlV} (hS : St w0 w ks) (hk : ks[i]? = some (CkR t A n c ss)) (hn : n ≤ 4000000000000) (G : FuncId) [hF : Fnc Try.prog G] (cf : Nat → Nat → Int)
    (hswo : ∀ a b c, a < n → b < n → c < n → ¬ cf a a < 0 ∧ (cf a b < 0 → cf b c < 0 → cf a c < 0) ∧ (¬ cf a b < 0 → ¬ cf b c < 0 → ¬ cf a c < 0))
    (hcmp : ∀ (w' : World) (q : List Nat), q.length = n → (∀ j ∈ q, j < n) → St w0 w' (ks.set i (CkR t A n c (q.map (sv ss)))) → ∀ a b, a < n → b < n → Ret Try.prog G [.agg #[(sv ss a).v], .agg #[(sv ss b).v]] w' (fun v w'' => v = .int .i64 (cf a b) ∧ St w' w'' [])) :
    Ret Try.prog 81 [.slice A n c, .func (.func G) #[] #[]] w (fun v w' => v = .tuple #[] ∧ ∃ q : List Nat, q.Perm (List.range n) ∧ q.Pairwise (fun a b => ¬ cf b a < 0) ∧ St w0 w' (ks.set i (CkR t A n c (q.map (sv ss))))) := by
  obtain ⟨h1, h2, h3, h4⟩ := hS.getC hk (isM_R _)
  have hl : ss.length = n := by have : (ss.map SlV.v).length = n := h1; simpa using this
  have h2 : n ≤ c := h2
  by_cases h0 : n = 0
  · subst h0
    have key := AnyF.slices_SortFunc_none lsf A c (.func (.func G) #[] #[]) w
    refine Calls.mono key fun x w' ⟨hx, hw⟩ => ⟨_, hx, rfl, [], List.Perm.refl _, List.Pairwise.nil, ?_⟩
    subst hw
    have e : ss = [] := List.eq_nil_of_length_eq_zero hl
    subst e
    rw [show (List.map (sv []) [] : List SlV) = [] from rfl]
    have := (List.getElem?_eq_some_iff.1 hk)
    rw [show ks.set i (CkR t A 0 c []) = ks from by
      apply List.ext_getElem?
      intro j
      rw [List.getElem?_set]
      split
      · rename_i e; subst e; rw [hk]; simp [this.1]
      · rfl]
    exact hS
  have h0 : 0 < n := by omega
  rcases h4 with ⟨_, hc0⟩ | ⟨g, o, cur, hA, hg, hh, hs, hc⟩
  · have hc0 : c = 0 := hc0
    omega
  have hA : A = some ⟨g, o, none⟩ := hA
  have hs : o + c ≤ cur.size := hs
  have hc : ∀ j, j < n → cur[o + j]? = (ss.map SlV.v)[j]? := hc
  subst hA
  haveI : Inhabited (Fin n) := ⟨⟨0, h0⟩⟩
  have hlt : g < w.heap.size := (Array.getElem?_eq_some_iff.1 hh).1
  have hd0 : (Array.ofFn (fun j : Fin n => j)).size = n := by simp
  have hH : HoldsK (encA ss n) 1 w g o (Array.ofFn fun j : Fin n => j) := fun j hj => by
    have hj' : j < n := by simpa using hj
    refine ⟨?_, by simp [World.frozen?, hh]⟩
    rw [flat_at ss _ (by simpa using hj')]
    simp only [World.cell?, hh]
    simp only [Option.isSome_none, Bool.false_eq_true, if_false]
    rw [hc j hj']
    simp [hj', hl, sv, List.getD_eq_getElem?_getD]
  obtain ⟨fn, hf1, hf2, hf3⟩ := hF.out
  obtain ⟨bd, hf4⟩ : ∃ c, fn.body = some c := by
    cases h : fn.body with
    | none => rw [h] at hf3; cases hf3
    | some c => exact ⟨c, rfl⟩
  have eg : ∀ args w, (callFunc G args).run Try.prog w = .ok (.enter G args) w := enters_of hf1 hf2 hf4
  have hC : CmpLays Try.prog G #[] (encA ss n) 1 (fun a b : Fin n => cf a b) g o (Array.ofFn fun j : Fin n => j).size w := fun m os dk hdk a b => by
    have hdn : dk.size = n := by rw [hdk, hd0]
    have hW := hS.srtW hk hh hg hs m dk hdn os
    have h5 := hcmp _ (dk.toList.map fun j => j.val) (by simp [hdn]) (fun j hj => by obtain ⟨x, _, rfl⟩ := List.mem_map.1 hj; exact x.2) (by rw [List.map_map]; exact hW) a b a.2 b.2
    refine Calls.mono h5 fun x w' ⟨v, hx, hv, hst⟩ => ?_
    subst hv
    exact ⟨hx, hst.below.grow⟩
  have hO : SWO (ltOf fun a b : Fin n => cf a b) := {
    irrefl := fun a => by simpa [ltOf] using (hswo a a a a.2 a.2 a.2).1
    trans := fun a b c h h' => by simp only [ltOf, decide_eq_true_iff] at *; exact (hswo a b c a.2 b.2 c.2).2.1 h h'
    ntrans := fun a b c h h' => by simp only [ltOf, decide_eq_false_iff_not] at *; exact (hswo a b c a.2 b.2 c.2).2.2 h h' }
  have key := AnyQ.slices_SortFunc lsf 1 (fun w => by kernel_rfl) (fun w => by kernel_rfl) (encA ss n) (fun _ => rfl) (fun x v hv => by simp [encA] at hv; subst hv; rfl) (fun a b : Fin n => cf a b) hO G #[] g o c (Array.ofFn fun j : Fin n => j) w eg hC hH hlt (by rw [hd0]; omega)
  rw [hd0] at key
  refine Calls.mono key fun x w' ⟨hx, d', m, os, hp, hso, hw⟩ => ⟨_, hx, rfl, d'.toList.map (fun j => j.val), ?_, ?_, ?_⟩
  · obtain ⟨hz, _, hperm⟩ := hp
    rw [hd0] at hz
    have e1 : d'.extract 0 n = d' := by have := Array.extract_size (xs := d'); rwa [hz] at this
    have e2 : (Array.ofFn fun j : Fin n => j).extract 0 n = Array.ofFn fun j : Fin n => j := by
      have := Array.extract_size (xs := Array.ofFn fun j : Fin n => j)
      rwa [hd0] at this
    rw [e1, e2] at hperm
    have h6 := hperm.map (fun j : Fin n => j.val)
    have e3 : (Array.ofFn fun j : Fin n => j).toList.map (fun j : Fin n => j.val) = List.range n := by
      apply List.ext_getElem
      · simp
      · intro j h1 h2
        simp
    rw [e3] at h6
    exact h6
  · have hz := hp.1
    rw [hd0] at hz
    rw [List.pairwise_map, List.pairwise_iff_getElem]
    intro a b ha hb hab
    have ha' : a < d'.size := by simpa using ha
    have hb' : b < d'.size := by simpa using hb
    have h7 := hso a b (Nat.zero_le _) hab (by omega)
    simp only [ltOf, decide_eq_false_iff_not, getElem!_pos d' a ha', getElem!_pos d' b hb'] at h7
    simpa using h7
  · subst hw
    have hz := hp.1
    rw [hd0] at hz
    rw [List.map_map]
    exact hS.srtW hk hh hg hs m d' hz os
end Go.Proofs.Ytgobjpcankaicaa.Vc
/-
  The program's list of a rank and a number of flags. Conditions: none.
-/
namespace Go.Proofs.Ytgobjpcankaicaa.Vc
open Go.RowKit

def matNo : MatV := ⟨slNil, [], []⟩
def mv (ms : List MatV) (j : Nat) : MatV := ms.getD j matNo
theorem mv_at {ms : List MatV} {j : Nat} (hj : j < ms.length) : mv ms j = ms[j] := by simp [mv, List.getD_eq_getElem?_getD, List.getElem?_eq_getElem hj]
theorem mv_mem {ms : List MatV} {j : Nat} (hj : j < ms.length) : mv ms j ∈ ms := by rw [mv_at hj]; exact List.getElem_mem _
theorem sv_top (ms : List MatV) (j : Nat) : sv (ms.map (·.top)) j = (mv ms j).top := by
  simp only [sv, mv, List.getD_eq_getElem?_getD, List.getElem?_map]
  cases ms[j]? <;> rfl
theorem mv_range (ms : List MatV) : (List.range ms.length).map (mv ms) = ms := by
  apply List.ext_getElem
  · simp
  · intro j h1 h2
    simp [mv_at h2]

/-- the sort of a row of matrices, by the order of maniplexes -/
theorem sortM_c {w0 w : World} {A : Option Addr} {c : Nat} {ms : List MatV} {ks : List Ck} (hok : ∀ m ∈ ms, m.ok) (hsm : ∀ m ∈ ms, m.top.n ≤ 9223372036854775807) (hn : ms.length ≤ 4000000000000) (hS : St w0 w (CkR 24 A ms.length c (ms.map (·.top)) :: (ks ++ matsCk 33 2 ms))) :
    Ret Try.prog 81 [.slice A ms.length c, .func (.func 113) #[] #[]] w (fun v w' => v = .tuple #[] ∧ ∃ ms' : List MatV, ms'.Perm ms ∧ (ms'.map (·.xss)).Pairwise leM ∧
      St w0 w' (CkR 24 A ms'.length c (ms'.map (·.top)) :: (ks ++ matsCk 33 2 ms'))) := by
  refine Ret.mono (sortF_c 0 hS rfl hn 113 (fun a b => lexCC (mv ms a).xss (mv ms b).xss) (fun a b c _ _ _ => ⟨?_, fun h h' => lexCC_trans h h', fun h h' => leM_trans (a := (mv ms c).xss) (b := (mv ms b).xss) h' h⟩) (fun w' q hq hqn hW a b ha hb => ?_)) ?_
  · rw [lexCC_zero.2 rfl]; omega
  · have hr : ∀ j, j < ms.length → RowsI w' (mv ms j).top.a (mv ms j).top.n (mv ms j).rs (mv ms j).xss := fun j hj => by
      have hm := mv_mem hj
      exact hW.matAt (c := (mv ms j).top.c) (t1 := 33) (t2 := 2) (((MatV.sub_ hm).trans (List.sublist_append_right _ _)).trans (List.sublist_cons_self _ _)) (hok _ hm)
    rw [sv_top, sv_top]
    exact compareManiplexes_c _ _ _ _ _ _ _ _ _ _ _ (hr a ha) (hr b hb) (hsm _ (mv_mem ha))
  · rintro v w' ⟨hv, q, hp, hs, hW⟩
    have hp2 : (q.map (mv ms)).Perm ms := by have := hp.map (mv ms); rwa [mv_range] at this
    refine ⟨hv, q.map (mv ms), hp2, ?_, ?_⟩
    · rw [List.map_map, List.pairwise_map]
      exact hs
    · have e1 : q.map (sv (ms.map (·.top))) = (q.map (mv ms)).map (·.top) := by
        rw [List.map_map]
        exact List.map_congr_left fun j _ => sv_top ms j
      rw [e1] at hW
      have hW : St w0 w' (CkR 24 A ms.length c ((q.map (mv ms)).map (·.top)) :: (ks ++ matsCk 33 2 ms)) := hW
      rw [hp2.length_eq]
      exact hW.perm (List.Perm.cons _ (List.Perm.append_left _ (matsCk_perm hp2.symm)))

theorem leastTo_len (N : Nat) (xss : Mx) : ∀ k, (leastTo N xss k).length = xss.length
  | 0 => by rw [leastTo, formL_len]
  | k + 1 => by
    rw [leastTo]
    split
    · rw [formL_len]
    · exact leastTo_len N xss k
theorem leastL_len (N : Nat) (xss : Mx) : (leastL N xss).length = xss.length := leastTo_len N xss N
def lstI (rank flags : Int) : List Mx := if Small rank flags then listL rank.toNat flags.toNat else []
def lstK (rank flags : Int) : Int := if Small rank flags then 0 else 2

theorem allManiplexes_c (rank flags : Int) (w : World) :
    Ret Try.prog 69 [.int .i64 rank, .int .i64 flags] w (fun v w' => ∃ A c, ∃ ms : List MatV, v = .tuple #[.slice A ms.length c, .int .i64 (lstK rank flags)] ∧ ms.map (·.xss) = lstI rank flags ∧ (∀ m ∈ ms, m.ok) ∧
      St w w' (CkR 24 A ms.length c (ms.map (·.top)) :: matsCk 33 2 ms)) := by
  refine Ret.of_cd Try.func69 rfl Try.ntmps69 rfl (post2 rfl) ?_
  refine Cd.seq ?_
  refine Cd.region ?_
  refine Ops.mv_sl rfl rfl rfl ?_
  refine Ops.mv_int rfl rfl rfl ?_
  refine Ops.nil ?_
  refine thenQ_n ?_
  refine Cd.seq ?_
  refine Cd.seq ?_
  refine Cd.region ?_
  refine Ops.mv_int rfl rfl rfl ?_
  refine Ops.mv_int rfl rfl rfl ?_
  -- stop: CALL impl.isSmall(t9, t10) -> 11
  refine Ops.call (isSmall_c rank flags _) rfl rfl rfl ?_
  rintro _ w ⟨rfl, rfl⟩
  first | refine Ops.not_p rfl rfl ?_ | refine Ops.not rfl rfl ?_
  refine Ops.nil ?_
  refine thenQ_n ?_
  -- stop: cond
  refine Cd.cond_p _ rfl (fun h => ?_) (fun h => ?_)
  · have hs : ¬ Small rank flags := h
    refine Cd.seq ?_
    refine Cd.region ?_
    refine Ops.mv_sl rfl rfl rfl ?_
    refine Ops.mv_int rfl rfl rfl ?_
    refine Ops.nil ?_
    refine thenQ_n ?_
    refine Cd.ret ?_
    refine thenQ_r ?_
    refine ret2_si rfl rfl ?_
    -- stop: end
    exact ⟨none, 0, [], by rw [lstK, if_neg hs]; rfl, by rw [lstI, if_neg hs]; rfl, fun m hm => (nomatch hm), (St.refl _).nil _⟩
  have hs : Small rank flags := Classical.not_not.1 h
  obtain ⟨n, rfl⟩ : ∃ n : Nat, rank = n := ⟨rank.toNat, by have := hs.1; omega⟩
  obtain ⟨F, rfl⟩ : ∃ F : Nat, flags = F := ⟨flags.toNat, by have := hs.2; omega⟩
  have hs1 := hs.1
  have hs2 := hs.2
  have hn : 1 ≤ n ∧ n ≤ 4 := by omega
  have hF : 2 ≤ F ∧ F ≤ 12 := by omega
  have eL : lstI n F = listL n F := by rw [lstI, if_pos hs]; rfl
  have eK : lstK n F = 0 := by rw [lstK, if_pos hs]
  refine Cd.skip ?_
  refine thenQ_n ?_
  refine Cd.seq ?_
  refine Cd.region ?_
  refine Ops.mv_sl rfl rfl rfl ?_
  refine Ops.nil ?_
  refine thenQ_n ?_
  refine Cd.seq ?_
  refine Cd.seq ?_
  refine Cd.region ?_
  refine Ops.mv_int rfl rfl rfl ?_
  refine Ops.mv_int rfl rfl rfl ?_
  -- stop: CALL impl.rootedForms(t13, t14) -> 15
  refine Ops.call (rootedForms_c n F hn hF _) rfl rfl rfl ?_
  rintro _ w1 ⟨A6, c6, all, rfl, hok, hall, hst⟩
  have hsm := forms_small hn hF (F * n + 1)
  rw [← hall, List.length_map] at hsm
  have hman : ∀ m ∈ all, Mani m.xss ∧ Inv n F m.xss F (F * n) := fun m hm => forms_mani (by omega) (by omega) (by rw [formsL, ← hall]; exact List.mem_map_of_mem hm)
  have hown : ∀ m ∈ all, (leastL F m.xss = m.xss ↔ Own1 F m.xss) := fun m hm => own_least (n := n) (by omega) (by omega) (by rw [formsL, ← hall]; exact List.mem_map_of_mem hm)
  have hlen : ∀ m ∈ all, m.xss.length = n := fun m hm => (hman m hm).2.shp.1
  have htn : ∀ m ∈ all, m.top.n = n := fun m hm => by rw [← hok m hm]; exact hlen m hm
  have hgF : ∀ m ∈ all, F = (gl m.xss 0).length := fun m hm => ((hman m hm).2.shp.row (i := 0) (by omega)).symm
  have hRR := hst.rdR 0 rfl
  have hmr : ∀ m ∈ all, RowsI w1 m.top.a n m.rs m.xss := fun m hm => by
    have := hst.matAt (c := m.top.c) (t1 := 33) (t2 := 2) ((MatV.sub_ hm).trans (List.sublist_cons_self _ _)) (hok m hm)
    rw [htn m hm] at this
    exact this
  have hS1 := (St.refl w1).nil 24
  refine Ops.len rfl rfl ?_
  refine Ops.mv_int rfl rfl rfl ?_
  refine Ops.nil ?_
  refine thenQ_n ?_
  refine Cd.block ?_
  -- stop: loop
  refine Cd.loop (α := Nat × (Option Addr × Nat)) (fun s => [(6, .slice s.2.1 (selV F (all.take s.1)).length s.2.2), (15, .slice A6 all.length c6), (16, .int .i64 (all.length : Int)), (17, .int .i64 (s.1 : Int))])
    (fun s w' => St w1 w' [CkR 24 s.2.1 (selV F (all.take s.1)).length s.2.2 ((selV F (all.take s.1)).map (·.top))] ∧ s.1 ≤ all.length) (fun s => all.length - s.1)
    (0, (none, 0)) ⟨rfl, rfl, rfl, rfl, trivial⟩ ⟨hS1, Nat.zero_le _⟩ ?_
  rintro ⟨i, ⟨B6, c7⟩⟩ e w4 ⟨hS4, hi⟩
  dsimp only at hS4 hi ⊢
  have houts : (selV F (all.take i)).length ≤ i := by
    have h2 := List.length_filter_le (fun m : MatV => decide (Own1 F m.xss)) (all.take i)
    have h3 : (selV F (all.take i)).length ≤ (all.take i).length := h2
    rw [List.length_take] at h3
    omega
  refine Cd.seq ?_
  refine Cd.region ?_
  refine Ops.lss rfl rfl rfl ?_
  refine Ops.nil ?_
  refine thenQ_n ?_
  refine Cd.seq ?_
  -- stop: cond
  refine Cd.cond_p _ rfl (fun h1 => ?_) (fun h1 => ?_)
  · have hi' : i < all.length := by omega
    have hm := List.getElem_mem hi'
    have hti := top_at hi'
    have hRR4 := hRR.later hS4.below
    have hX := (hmr _ hm).later hS4.below
    have hsn := selV_snoc (F := F) hi'
    have hXm := (hman _ hm).1
    have hXF := hgF _ hm
    have hXo := hown _ hm
    refine Cd.skip ?_
    refine thenQ_n ?_
    refine Cd.seq ?_
    refine Cd.block ?_
    refine Cd.seq ?_
    refine Cd.region ?_
    -- stop: INDEXADDR 51 t15 t17 -> 19
    refine Ops.idx hRR4.2 rfl rfl rfl (by omega) (by omega) ?_
    refine Ops.ld_ag hRR4 rfl (by omega) rfl ?_
    rw [hti, htn _ hm]
    generalize hXe : all[i] = X at *
    have hXt : (⟨X.top.a, n, X.top.c⟩ : SlV) = X.top := by rw [← htn _ hm]
    refine Ops.new1 hS4 rfl ?_
    intro A8 w5 hS5
    refine Ops.st_agg 1 0 hS5 rfl rfl rfl rfl rfl rfl rfl ?_
    intro w6 hS6
    have hS6 : St w1 w6 [Bx 24 1 A8 [.slice X.top.a n X.top.c], CkR 24 B6 (selV F (all.take i)).length c7 ((selV F (all.take i)).map (·.top))] := hS6
    have hB6 := hS6.rd 0 rfl
    have hX6 := (hmr _ hm).later hS6.below
    refine Ops.nil ?_
    refine thenQ_n ?_
    refine Cd.seq ?_
    -- stop: draw
    refine Cd.draw [.ex (.agg #[.slice (X.top.a) (n) (X.top.c)]), .pr (fun v w' => ∃ A9 c9 rs9, v = .agg #[.slice A9 n c9] ∧ RowsI w' A9 n rs9 (leastL F X.xss)), .ex (.agg #[.slice (X.top.a) (n) (X.top.c)]), .ex (.bool (decide (leastL F X.xss = X.xss)))] (by kernel_rfl) (by kernel_rfl) rfl (List.forall_mem_cons.2 ⟨Yd.lasts_ex _, (List.forall_mem_cons.2 ⟨Yd.lasts_pr (fun v w w' h hb => by obtain ⟨A9, c9, rs9, hv, hT⟩ := h; exact ⟨A9, c9, rs9, hv, hT.later hb⟩), (List.forall_mem_cons.2 ⟨Yd.lasts_ex _, (List.forall_mem_cons.2 ⟨Yd.lasts_ex _, (fun _ h => by cases h)⟩)⟩)⟩)⟩) ⟨?_, ?_, ?_, ?_, trivial⟩ ?_
    · intro e1 w1 hb hp hun
      refine Ops.ld_agg 0 (hB6.below hb) rfl rfl rfl ?_
      refine Ops.nil ?_
      exact After.dn (Below.refl _ _) (by exact rfl)
    · intro e1 w1 hb hp hun
      refine Ops.call (leastForm_c X.top.a n X.top.c X.rs X.xss F _ (hX6.later hb) hXm hXF) rfl rfl rfl ?_
      rintro _ w9 ⟨A9, c9, rs9, rfl, hl9, hst9⟩
      refine Ops.nil ?_
      exact After.dn hst9.below ⟨A9, c9, rs9, rfl, hst9.matAt (List.Sublist.refl _) (by rw [leastL_len]; exact hlen _ hm)⟩
    · intro e1 w1 hb hp hun
      refine Ops.ld_agg 0 (hB6.below hb) rfl rfl rfl ?_
      refine Ops.nil ?_
      exact After.dn (Below.refl _ _) (by exact rfl)
    · intro e1 w1 hb hp hun
      obtain ⟨A9, c9, rs9, h22, hT⟩ := (hp 1 (by decide) rfl _ _ rfl rfl)
      refine Ops.call (sameManiplex_c A9 n c9 rs9 _ X.top.a n X.top.c X.rs X.xss _ hT (hX6.later hb) (by omega)) rfl (by exact congrArg (fun v => [v, Value.agg #[.slice X.top.a n X.top.c]]) h22) rfl ?_
      rintro _ w9 ⟨rfl, hst9⟩
      refine Ops.nil ?_
      exact After.dn hst9.below rfl
    intro uu w7 hb7 _
    have hS7 := hS6.later hb7
    refine thenQ_n ?_
    -- stop: cond
    refine Cd.cond_p _ rfl (fun h2 => ?_) (fun h2 => ?_)
    · rw [if_pos (hXo.1 h2)] at hsn
      have e1 : (selV F (all.take i) ++ [X]).length = (selV F (all.take i)).length + 1 := by simp
      refine Cd.region ?_
      refine Ops.mv_sl rfl rfl rfl ?_
      -- stop: LOAD 24 t8=m -> 26
      refine Ops.ld_agg 0 (hS7.rd 0 rfl) rfl rfl rfl ?_
      refine Ops.bs1A hS7 rfl rfl rfl ?_
      intro A10 w8 hS8
      rw [hXt] at hS8
      refine Ops.appR 2 hS8 rfl (hS8.rdR 0 rfl) rfl rfl rfl (by omega) (by omega) rfl ?_
      intro A11 c11 w9 hS9
      have hS9 : St w1 w9 [CkR 24 A10 1 1 [X.top], Bx 24 1 A8 [.slice X.top.a n X.top.c], CkR 24 A11 ((selV F (all.take i)).length + 1) c11 ((selV F (all.take i)).map (·.top) ++ [X.top])] := hS9
      refine Ops.mv_sl rfl rfl rfl ?_
      refine Ops.nil ?_
      refine blockQ_n ?_
      refine thenQ_n ?_
      refine Cd.region ?_
      refine Ops.add rfl rfl rfl (by omega) ?_
      refine Ops.mv_int rfl rfl rfl ?_
      refine Ops.nil ?_
      refine thenQ_n ?_
      -- stop: round
      refine ⟨(i + 1, (A11, c11)), by show all.length - (i + 1) < all.length - i; omega, ⟨by show Value.slice _ _ _ = .slice _ (selV F (all.take (i + 1))).length _; rw [hsn, e1], rfl, rfl, rfl, trivial⟩, ?_, hi'⟩
      show St w1 w9 [CkR _ A11 (selV F (all.take (i + 1))).length c11 ((selV F (all.take (i + 1))).map (·.top))]
      rw [hsn, e1, List.map_append]
      exact hS9.tail.tail
    · rw [if_neg (fun h => h2 (hXo.2 h))] at hsn
      refine Cd.skip ?_
      refine blockQ_n ?_
      refine thenQ_n ?_
      refine Cd.region ?_
      refine Ops.add rfl rfl rfl (by omega) ?_
      refine Ops.mv_int rfl rfl rfl ?_
      refine Ops.nil ?_
      refine thenQ_n ?_
      -- stop: round
      refine ⟨(i + 1, (B6, c7)), by show all.length - (i + 1) < all.length - i; omega, ⟨by show Value.slice _ _ _ = .slice _ (selV F (all.take (i + 1))).length _; rw [hsn], rfl, rfl, rfl, trivial⟩, ?_, hi'⟩
      show St w1 w7 [CkR _ B6 (selV F (all.take (i + 1))).length c7 ((selV F (all.take (i + 1))).map (·.top))]
      rw [hsn]
      exact hS7.tail
  · have hin : i = all.length := by omega
    subst hin
    rw [List.take_length] at *
    have hsub : ∀ m ∈ selV F all, m ∈ all := fun m hm => (List.mem_filter.1 hm).1
    have hj : St w w4 (CkR 24 B6 (selV F all).length c7 ((selV F all).map (·.top)) :: ([] ++ matsCk 33 2 (selV F all))) := by
      refine (hst.call hS4).sub ?_
      refine List.Sublist.cons_cons _ ((matsCk_sub List.filter_sublist).trans (List.sublist_cons_self _ _))
    have hfx : (selV F all).map (·.xss) = ownL n F := by
      rw [ownL, formsL, ← hall, selV, List.filter_map]
      rfl
    refine Cd.exit ?_
    refine thenQ_x ?_
    refine thenQ_x ?_
    refine blockQ_x ?_
    refine thenQ_n ?_
    refine Cd.seq ?_
    refine Cd.region ?_
    refine Ops.mv_sl rfl rfl rfl ?_
    -- stop: CALL impl.Maniplex](t30, impl.compareManiplexes) -> 31
    refine Ops.call (sortM_c (fun m hm => hok m (hsub m hm)) (fun m hm => by rw [htn m (hsub m hm)]; omega) (by omega) hj) rfl rfl rfl ?_
    rintro _ w5 ⟨rfl, ms', hp, hso, hS5⟩
    refine Ops.nil ?_
    refine thenQ_n ?_
    refine Cd.seq ?_
    refine Cd.region ?_
    refine Ops.mv_sl rfl rfl rfl ?_
    refine Ops.mv_sl rfl rfl rfl ?_
    refine Ops.mv_int rfl rfl rfl ?_
    refine Ops.nil ?_
    refine thenQ_n ?_
    refine Cd.ret ?_
    refine ret2_si rfl rfl ?_
    -- stop: end
    have e2 : ms'.map (·.xss) = listL n F := ordM_one (by rw [← hfx]; exact hp.map _) hso
    exact ⟨B6, c7, ms', by rw [eK, hp.length_eq], by rw [eL]; exact e2, fun m hm => hok m (hsub m (hp.mem_iff.1 hm)), hS5⟩
end Go.Proofs.Ytgobjpcankaicaa.Vc
