/-
  The texts Srf, K2, D6, K3, K4, N2, N3, Open, Opm in one. Conditions: as each part states them.
-/
import Derived.Test.YtgobjpcankaicaaLayc
import Derived.Shelf.SlSortCmp.NoneTotal
import Derived.Test.YtgobjpcankaicaaZc
import Derived.Test.YtgobjpcankaicaaZg
import Derived.Test.YtgobjpcankaicaaZh
import Derived.Test.YtgobjpcankaicaaZf
import Derived.Test.YtgobjpcankaicaaZd
import Derived.Test.YtgobjpcankaicaaZa
import Derived.Test.YtgobjpcankaicaaInst
import Derived.Deep.Matrix
import Derived.Carry
import Derived.Below
import Derived.ChangeSame
import Derived.ProofKit
import Derived.OpenShut
import Derived.Handed
import Derived.Lib.SmallJoins
/-
  The library's sort by a function, of a row of one's own whose elements are structs of one slice. Conditions: the function's contract, and that it is a strict weak order.
-/
namespace Go.Proofs.Ytgobjpcankaicaa.Vc
open Go.RowKit Go.Sort

theorem heap_grw {α : Type} [Inhabited α] {enc : α → Value} {w : World} {g n off : Nat} {os : Array Obj} {cur : Array Value} {e : TypeId} {fr : Nat × Nat} (d : Array α) (hb : w.heap[g]? = some (.cells cur e fr)) :
    (Go.Sort.grow (putRow enc (Sort.ahead w n) g off d) os).heap[g]? = some (.cells (putCells enc off d cur) e fr) := by
  have hg : g < w.heap.size := (Array.getElem?_eq_some_iff.1 hb).1
  rw [heap_grow_old _ _ (by simpa using hg)]
  simp [putRow, mapBlock, Sort.ahead, Array.getElem?_modify, hb, onCells]
theorem grb_grw {α : Type} [Inhabited α] {enc : α → Value} {w : World} {g n off : Nat} {os : Array Obj} (d : Array α) : GrB w (Go.Sort.grow (putRow enc (Sort.ahead w n) g off d) os) (some g) := by
  refine ⟨⟨rfl, rfl, rfl, by simp, fun k hk hne => ?_⟩, Nat.le_add_right _ _⟩
  rw [heap_grow_old _ _ (by simpa using hk)]
  have : g ≠ k := fun e => hne (by rw [e])
  simp [putRow, mapBlock, Sort.ahead, Array.getElem?_modify, this]

/-- the place at a number -/
def sv (ss : List SlV) (j : Nat) : SlV := ss.getD j slNil
def encA (ss : List SlV) (n : Nat) (j : Fin n) : List Value := [(sv ss j).v]
theorem flat_at {n : Nat} [Inhabited (Fin n)] (ss : List SlV) (dk : Array (Fin n)) {j : Nat} (hj : j < dk.size) : (flatK (encA ss n) 1 dk)[j]! = (sv ss dk[j]!).v := by
  rw [get_flatK _ _ _ _ (by omega)]
  simp [encA, Nat.mod_one]
/-- the sort's world in one's own words -/
theorem St.srtW {w0 w : World} {ks : List Ck} {i : Nat} {t : TypeId} {g o n c : Nat} {ss : List SlV} {cur : Array Value} [Inhabited (Fin n)] (hS : St w0 w ks) (hk : ks[i]? = some (CkR t (some ⟨g, o, Option.none⟩) n c ss))
    (hh : w.heap[g]? = some (.cells cur t (0, 0))) (hg : w0.heap.size ≤ g) (hs : o + c ≤ cur.size) (m : Nat) (dk : Array (Fin n)) (hd : dk.size = n) (os : Array Obj) :
    St w0 (sortWorldK (encA ss n) 1 w g o m dk os) (ks.set i (CkR t (some ⟨g, o, Option.none⟩) n c (dk.toList.map fun j : Fin n => sv ss j.val))) := by
  have hnc : n ≤ c := (hS.cap i hk).1
  have hc9 : c ≤ maxLen := (hS.cap i hk).2
  refine hS.turn hk rfl rfl (grb_grw _) (.ofC (isM_R _) ⟨by simp [hd], hnc, hc9, .inr ⟨g, o, _, rfl, hg, heap_grw _ hh, by simp only [putCells, Array.size_mapIdx]; exact hs, fun j hj => ?_⟩⟩)
  have hj : j < n := hj
  have hlt2 : o + j < cur.size := by omega
  show (putCells id o (flatK (encA ss n) 1 dk) cur)[o + j]? = ((dk.toList.map fun j : Fin n => sv ss j.val).map SlV.v)[j]?
  have e := flat_at ss dk (j := j) (by omega)
  rw [getElem!_pos _ _ (by simp [hd]; exact hj), getElem!_pos dk j (by omega)] at e
  simp [putCells, hlt2, hj, hd, e]

theorem sortF_c {w0 w : World} {ks : List Ck} (i : Nat) {t : TypeId} {A : Option Addr} {n c : Nat} {ss : List SlV} (hS : St w0 w ks) (hk : ks[i]? = some (CkR t A n c ss)) (hn : n ≤ 4000000000000) (G : FuncId) [hF : Fnc Try.prog G] (cf : Nat → Nat → Int)
    (hswo : ∀ a b c, a < n → b < n → c < n → ¬ cf a a < 0 ∧ (cf a b < 0 → cf b c < 0 → cf a c < 0) ∧ (¬ cf a b < 0 → ¬ cf b c < 0 → ¬ cf a c < 0))
    (hcmp : ∀ (w' : World) (q : List Nat), q.length = n → (∀ j ∈ q, j < n) → St w0 w' (ks.set i (CkR t A n c (q.map (sv ss)))) → ∀ a b, a < n → b < n → Ret Try.prog G [.agg #[(sv ss a).v], .agg #[(sv ss b).v]] w' (fun v w'' => v = .int .i64 (cf a b) ∧ St w' w'' [])) :
    Ret Try.prog 81 [.slice A n c, .func (.func G) #[] #[]] w (fun v w' => v = .tuple #[] ∧ ∃ q : List Nat, q.Perm (List.range n) ∧ q.Pairwise (fun a b => ¬ cf b a < 0) ∧ St w0 w' (ks.set i (CkR t A n c (q.map (sv ss))))) := by
  obtain ⟨h1, h2, h3, h4⟩ := hS.getC hk (isM_R _)
  have hl : ss.length = n := by have : (ss.map SlV.v).length = n := h1; simpa using this
  have h2 : n ≤ c := h2
  by_cases h0 : n = 0
  · subst h0
    have key := AnyF.slices_SortFunc_none lsf A c (.func (.func G) #[] #[]) w
    refine Calls.mono key fun x w' ⟨hx, hw⟩ => ⟨_, hx, rfl, [], List.Perm.refl _, List.Pairwise.nil, ?_⟩
    subst hw
    have e : ss = [] := List.eq_nil_of_length_eq_zero hl
    subst e
    rw [show (List.map (sv []) [] : List SlV) = [] from rfl]
    have := (List.getElem?_eq_some_iff.1 hk)
    rw [show ks.set i (CkR t A 0 c []) = ks from by
      apply List.ext_getElem?
      intro j
      rw [List.getElem?_set]
      split
      · rename_i e; subst e; rw [hk]; simp [this.1]
      · rfl]
    exact hS
  have h0 : 0 < n := by omega
  rcases h4 with ⟨_, hc0⟩ | ⟨g, o, cur, hA, hg, hh, hs, hc⟩
  · have hc0 : c = 0 := hc0
    omega
  have hA : A = some ⟨g, o, none⟩ := hA
  have hs : o + c ≤ cur.size := hs
  have hc : ∀ j, j < n → cur[o + j]? = (ss.map SlV.v)[j]? := hc
  subst hA
  haveI : Inhabited (Fin n) := ⟨⟨0, h0⟩⟩
  have hlt : g < w.heap.size := (Array.getElem?_eq_some_iff.1 hh).1
  have hd0 : (Array.ofFn (fun j : Fin n => j)).size = n := by simp
  have hH : HoldsK (encA ss n) 1 w g o (Array.ofFn fun j : Fin n => j) := fun j hj => by
    have hj' : j < n := by simpa using hj
    refine ⟨?_, by simp [World.frozen?, hh]⟩
    rw [flat_at ss _ (by simpa using hj')]
    simp only [World.cell?, hh]
    simp only [Option.isSome_none, Bool.false_eq_true, if_false]
    rw [hc j hj']
    simp [hj', hl, sv, List.getD_eq_getElem?_getD]
  obtain ⟨fn, hf1, hf2, hf3⟩ := hF.out
  obtain ⟨bd, hf4⟩ : ∃ c, fn.body = some c := by
    cases h : fn.body with
    | none => rw [h] at hf3; cases hf3
    | some c => exact ⟨c, rfl⟩
  have eg : ∀ args w, (callFunc G args).run Try.prog w = .ok (.enter G args) w := enters_of hf1 hf2 hf4
  have hC : CmpLays Try.prog G #[] (encA ss n) 1 (fun a b : Fin n => cf a b) g o (Array.ofFn fun j : Fin n => j).size w := fun m os dk hdk a b => by
    have hdn : dk.size = n := by rw [hdk, hd0]
    have hW := hS.srtW hk hh hg hs m dk hdn os
    have h5 := hcmp _ (dk.toList.map fun j => j.val) (by simp [hdn]) (fun j hj => by obtain ⟨x, _, rfl⟩ := List.mem_map.1 hj; exact x.2) (by rw [List.map_map]; exact hW) a b a.2 b.2
    refine Calls.mono h5 fun x w' ⟨v, hx, hv, hst⟩ => ?_
    subst hv
    exact ⟨hx, hst.below.grow⟩
  have hO : SWO (ltOf fun a b : Fin n => cf a b) := {
    irrefl := fun a => by simpa [ltOf] using (hswo a a a a.2 a.2 a.2).1
    trans := fun a b c h h' => by simp only [ltOf, decide_eq_true_iff] at *; exact (hswo a b c a.2 b.2 c.2).2.1 h h'
    ntrans := fun a b c h h' => by simp only [ltOf, decide_eq_false_iff_not] at *; exact (hswo a b c a.2 b.2 c.2).2.2 h h' }
  have key := AnyQ.slices_SortFunc lsf 1 (fun w => by kernel_rfl) (fun w => by kernel_rfl) (encA ss n) (fun _ => rfl) (fun x v hv => by simp [encA] at hv; subst hv; rfl) (fun a b : Fin n => cf a b) hO G #[] g o c (Array.ofFn fun j : Fin n => j) w eg hC hH hlt (by rw [hd0]; omega)
  rw [hd0] at key
  refine Calls.mono key fun x w' ⟨hx, d', m, os, hp, hso, hw⟩ => ⟨_, hx, rfl, d'.toList.map (fun j => j.val), ?_, ?_, ?_⟩
  · obtain ⟨hz, _, hperm⟩ := hp
    rw [hd0] at hz
    have e1 : d'.extract 0 n = d' := by have := Array.extract_size (xs := d'); rwa [hz] at this
    have e2 : (Array.ofFn fun j : Fin n => j).extract 0 n = Array.ofFn fun j : Fin n => j := by
      have := Array.extract_size (xs := Array.ofFn fun j : Fin n => j)
      rwa [hd0] at this
    rw [e1, e2] at hperm
    have h6 := hperm.map (fun j : Fin n => j.val)
    have e3 : (Array.ofFn fun j : Fin n => j).toList.map (fun j : Fin n => j.val) = List.range n := by
      apply List.ext_getElem
      · simp
      · intro j h1 h2
        simp
    rw [e3] at h6
    exact h6
  · have hz := hp.1
    rw [hd0] at hz
    rw [List.pairwise_map, List.pairwise_iff_getElem]
    intro a b ha hb hab
    have ha' : a < d'.size := by simpa using ha
    have hb' : b < d'.size := by simpa using hb
    have h7 := hso a b (Nat.zero_le _) hab (by omega)
    simp only [ltOf, decide_eq_false_iff_not, getElem!_pos d' a ha', getElem!_pos d' b hb'] at h7
    simpa using h7
  · subst hw
    have hz := hp.1
    rw [hd0] at hz
    rw [List.map_map]
    exact hS.srtW hk hh hg hs m d' hz os
end Go.Proofs.Ytgobjpcankaicaa.Vc
/-
  The program's list of a rank and a number of flags. Conditions: none.
-/
namespace Go.Proofs.Ytgobjpcankaicaa.Vc
open Go.RowKit

def matNo : MatV := ⟨slNil, [], []⟩
def mv (ms : List MatV) (j : Nat) : MatV := ms.getD j matNo
theorem mv_at {ms : List MatV} {j : Nat} (hj : j < ms.length) : mv ms j = ms[j] := by simp [mv, List.getD_eq_getElem?_getD, List.getElem?_eq_getElem hj]
theorem mv_mem {ms : List MatV} {j : Nat} (hj : j < ms.length) : mv ms j ∈ ms := by rw [mv_at hj]; exact List.getElem_mem _
theorem sv_top (ms : List MatV) (j : Nat) : sv (ms.map (·.top)) j = (mv ms j).top := by
  simp only [sv, mv, List.getD_eq_getElem?_getD, List.getElem?_map]
  cases ms[j]? <;> rfl
theorem mv_range (ms : List MatV) : (List.range ms.length).map (mv ms) = ms := by
  apply List.ext_getElem
  · simp
  · intro j h1 h2
    simp [mv_at h2]

/-- the sort of a row of matrices, by the order of maniplexes -/
theorem sortM_c {w0 w : World} {A : Option Addr} {c : Nat} {ms : List MatV} {ks : List Ck} (hok : ∀ m ∈ ms, m.ok) (hsm : ∀ m ∈ ms, m.top.n ≤ 9223372036854775807) (hn : ms.length ≤ 4000000000000) (hS : St w0 w (CkR 24 A ms.length c (ms.map (·.top)) :: (ks ++ matsCk 33 2 ms))) :
    Ret Try.prog 81 [.slice A ms.length c, .func (.func 113) #[] #[]] w (fun v w' => v = .tuple #[] ∧ ∃ ms' : List MatV, ms'.Perm ms ∧ (ms'.map (·.xss)).Pairwise leM ∧
      St w0 w' (CkR 24 A ms'.length c (ms'.map (·.top)) :: (ks ++ matsCk 33 2 ms'))) := by
  refine Ret.mono (sortF_c 0 hS rfl hn 113 (fun a b => lexCC (mv ms a).xss (mv ms b).xss) (fun a b c _ _ _ => ⟨?_, fun h h' => lexCC_trans h h', fun h h' => leM_trans (a := (mv ms c).xss) (b := (mv ms b).xss) h' h⟩) (fun w' q hq hqn hW a b ha hb => ?_)) ?_
  · rw [lexCC_zero.2 rfl]; omega
  · have hr : ∀ j, j < ms.length → RowsI w' (mv ms j).top.a (mv ms j).top.n (mv ms j).rs (mv ms j).xss := fun j hj => by
      have hm := mv_mem hj
      exact hW.matAt (c := (mv ms j).top.c) (t1 := 33) (t2 := 2) (((MatV.sub_ hm).trans (List.sublist_append_right _ _)).trans (List.sublist_cons_self _ _)) (hok _ hm)
    rw [sv_top, sv_top]
    exact compareManiplexes_c _ _ _ _ _ _ _ _ _ _ _ (hr a ha) (hr b hb) (hsm _ (mv_mem ha))
  · rintro v w' ⟨hv, q, hp, hs, hW⟩
    have hp2 : (q.map (mv ms)).Perm ms := by have := hp.map (mv ms); rwa [mv_range] at this
    refine ⟨hv, q.map (mv ms), hp2, ?_, ?_⟩
    · rw [List.map_map, List.pairwise_map]
      exact hs
    · have e1 : q.map (sv (ms.map (·.top))) = (q.map (mv ms)).map (·.top) := by
        rw [List.map_map]
        exact List.map_congr_left fun j _ => sv_top ms j
      rw [e1] at hW
      have hW : St w0 w' (CkR 24 A ms.length c ((q.map (mv ms)).map (·.top)) :: (ks ++ matsCk 33 2 ms)) := hW
      rw [hp2.length_eq]
      exact hW.perm (List.Perm.cons _ (List.Perm.append_left _ (matsCk_perm hp2.symm)))

theorem leastTo_len (N : Nat) (xss : Mx) : ∀ k, (leastTo N xss k).length = xss.length
  | 0 => by rw [leastTo, formL_len]
  | k + 1 => by
    rw [leastTo]
    split
    · rw [formL_len]
    · exact leastTo_len N xss k
theorem leastL_len (N : Nat) (xss : Mx) : (leastL N xss).length = xss.length := leastTo_len N xss N
def lstI (rank flags : Int) : List Mx := if Small rank flags then listL rank.toNat flags.toNat else []
def lstK (rank flags : Int) : Int := if Small rank flags then 0 else 2

theorem allManiplexes_c (rank flags : Int) (w : World) :
    Ret Try.prog 69 [.int .i64 rank, .int .i64 flags] w (fun v w' => ∃ A c, ∃ ms : List MatV, v = .tuple #[.slice A ms.length c, .int .i64 (lstK rank flags)] ∧ ms.map (·.xss) = lstI rank flags ∧ (∀ m ∈ ms, m.ok) ∧
      St w w' (CkR 24 A ms.length c (ms.map (·.top)) :: matsCk 33 2 ms)) := by
  refine Ret.of_cd Try.func69 rfl Try.ntmps69 rfl (post2 rfl) ?_
  refine Cd.seq ?_
  refine Cd.region ?_
  refine Ops.mv_sl rfl rfl rfl ?_
  refine Ops.mv_int rfl rfl rfl ?_
  refine Ops.nil ?_
  refine thenQ_n ?_
  refine Cd.seq ?_
  refine Cd.seq ?_
  refine Cd.region ?_
  refine Ops.mv_int rfl rfl rfl ?_
  refine Ops.mv_int rfl rfl rfl ?_
  -- stop: CALL impl.isSmall(t9, t10) -> 11
  refine Ops.call (isSmall_c rank flags _) rfl rfl rfl ?_
  rintro _ w ⟨rfl, rfl⟩
  first | refine Ops.not_p rfl rfl ?_ | refine Ops.not rfl rfl ?_
  refine Ops.nil ?_
  refine thenQ_n ?_
  -- stop: cond
  refine Cd.cond_p _ rfl (fun h => ?_) (fun h => ?_)
  · have hs : ¬ Small rank flags := h
    refine Cd.seq ?_
    refine Cd.region ?_
    refine Ops.mv_sl rfl rfl rfl ?_
    refine Ops.mv_int rfl rfl rfl ?_
    refine Ops.nil ?_
    refine thenQ_n ?_
    refine Cd.ret ?_
    refine thenQ_r ?_
    refine ret2_si rfl rfl ?_
    -- stop: end
    exact ⟨none, 0, [], by rw [lstK, if_neg hs]; rfl, by rw [lstI, if_neg hs]; rfl, fun m hm => (nomatch hm), (St.refl _).nil _⟩
  have hs : Small rank flags := Classical.not_not.1 h
  obtain ⟨n, rfl⟩ : ∃ n : Nat, rank = n := ⟨rank.toNat, by have := hs.1; omega⟩
  obtain ⟨F, rfl⟩ : ∃ F : Nat, flags = F := ⟨flags.toNat, by have := hs.2; omega⟩
  have hs1 := hs.1
  have hs2 := hs.2
  have hn : 1 ≤ n ∧ n ≤ 4 := by omega
  have hF : 2 ≤ F ∧ F ≤ 12 := by omega
  have eL : lstI n F = listL n F := by rw [lstI, if_pos hs]; rfl
  have eK : lstK n F = 0 := by rw [lstK, if_pos hs]
  refine Cd.skip ?_
  refine thenQ_n ?_
  refine Cd.seq ?_
  refine Cd.region ?_
  refine Ops.mv_sl rfl rfl rfl ?_
  refine Ops.nil ?_
  refine thenQ_n ?_
  refine Cd.seq ?_
  refine Cd.seq ?_
  refine Cd.region ?_
  refine Ops.mv_int rfl rfl rfl ?_
  refine Ops.mv_int rfl rfl rfl ?_
  -- stop: CALL impl.rootedForms(t13, t14) -> 15
  refine Ops.call (rootedForms_c n F hn hF _) rfl rfl rfl ?_
  rintro _ w1 ⟨A6, c6, all, rfl, hok, hall, hst⟩
  have hsm := forms_small hn hF (F * n + 1)
  rw [← hall, List.length_map] at hsm
  have hman : ∀ m ∈ all, Mani m.xss ∧ Inv n F m.xss F (F * n) := fun m hm => forms_mani (by omega) (by omega) (by rw [formsL, ← hall]; exact List.mem_map_of_mem hm)
  have hown : ∀ m ∈ all, (leastL F m.xss = m.xss ↔ Own1 F m.xss) := fun m hm => own_least (n := n) (by omega) (by omega) (by rw [formsL, ← hall]; exact List.mem_map_of_mem hm)
  have hlen : ∀ m ∈ all, m.xss.length = n := fun m hm => (hman m hm).2.shp.1
  have htn : ∀ m ∈ all, m.top.n = n := fun m hm => by rw [← hok m hm]; exact hlen m hm
  have hgF : ∀ m ∈ all, F = (gl m.xss 0).length := fun m hm => ((hman m hm).2.shp.row (i := 0) (by omega)).symm
  have hRR := hst.rdR 0 rfl
  have hmr : ∀ m ∈ all, RowsI w1 m.top.a n m.rs m.xss := fun m hm => by
    have := hst.matAt (c := m.top.c) (t1 := 33) (t2 := 2) ((MatV.sub_ hm).trans (List.sublist_cons_self _ _)) (hok m hm)
    rw [htn m hm] at this
    exact this
  have hS1 := (St.refl w1).nil 24
  refine Ops.len rfl rfl ?_
  refine Ops.mv_int rfl rfl rfl ?_
  refine Ops.nil ?_
  refine thenQ_n ?_
  refine Cd.block ?_
  -- stop: loop
  refine Cd.loop (α := Nat × (Option Addr × Nat)) (fun s => [(6, .slice s.2.1 (selV F (all.take s.1)).length s.2.2), (15, .slice A6 all.length c6), (16, .int .i64 (all.length : Int)), (17, .int .i64 (s.1 : Int))])
    (fun s w' => St w1 w' [CkR 24 s.2.1 (selV F (all.take s.1)).length s.2.2 ((selV F (all.take s.1)).map (·.top))] ∧ s.1 ≤ all.length) (fun s => all.length - s.1)
    (0, (none, 0)) ⟨rfl, rfl, rfl, rfl, trivial⟩ ⟨hS1, Nat.zero_le _⟩ ?_
  rintro ⟨i, ⟨B6, c7⟩⟩ e w4 ⟨hS4, hi⟩
  dsimp only at hS4 hi ⊢
  have houts : (selV F (all.take i)).length ≤ i := by
    have h2 := List.length_filter_le (fun m : MatV => decide (Own1 F m.xss)) (all.take i)
    have h3 : (selV F (all.take i)).length ≤ (all.take i).length := h2
    rw [List.length_take] at h3
    omega
  refine Cd.seq ?_
  refine Cd.region ?_
  refine Ops.lss rfl rfl rfl ?_
  refine Ops.nil ?_
  refine thenQ_n ?_
  refine Cd.seq ?_
  -- stop: cond
  refine Cd.cond_p _ rfl (fun h1 => ?_) (fun h1 => ?_)
  · have hi' : i < all.length := by omega
    have hm := List.getElem_mem hi'
    have hti := top_at hi'
    have hRR4 := hRR.later hS4.below
    have hX := (hmr _ hm).later hS4.below
    have hsn := selV_snoc (F := F) hi'
    have hXm := (hman _ hm).1
    have hXF := hgF _ hm
    have hXo := hown _ hm
    refine Cd.skip ?_
    refine thenQ_n ?_
    refine Cd.seq ?_
    refine Cd.block ?_
    refine Cd.seq ?_
    refine Cd.region ?_
    -- stop: INDEXADDR 51 t15 t17 -> 19
    refine Ops.idx hRR4.2 rfl rfl rfl (by omega) (by omega) ?_
    refine Ops.ld_ag hRR4 rfl (by omega) rfl ?_
    rw [hti, htn _ hm]
    generalize hXe : all[i] = X at *
    have hXt : (⟨X.top.a, n, X.top.c⟩ : SlV) = X.top := by rw [← htn _ hm]
    refine Ops.new1 hS4 rfl ?_
    intro A8 w5 hS5
    refine Ops.st_agg 1 0 hS5 rfl rfl rfl rfl rfl rfl rfl ?_
    intro w6 hS6
    have hS6 : St w1 w6 [Bx 24 1 A8 [.slice X.top.a n X.top.c], CkR 24 B6 (selV F (all.take i)).length c7 ((selV F (all.take i)).map (·.top))] := hS6
    have hB6 := hS6.rd 0 rfl
    have hX6 := (hmr _ hm).later hS6.below
    refine Ops.nil ?_
    refine thenQ_n ?_
    refine Cd.seq ?_
    -- stop: draw
    refine Cd.draw [.ex (.agg #[.slice (X.top.a) (n) (X.top.c)]), .pr (fun v w' => ∃ A9 c9 rs9, v = .agg #[.slice A9 n c9] ∧ RowsI w' A9 n rs9 (leastL F X.xss)), .ex (.agg #[.slice (X.top.a) (n) (X.top.c)]), .ex (.bool (decide (leastL F X.xss = X.xss)))] (by kernel_rfl) (by kernel_rfl) rfl (List.forall_mem_cons.2 ⟨Yd.lasts_ex _, (List.forall_mem_cons.2 ⟨Yd.lasts_pr (fun v w w' h hb => by obtain ⟨A9, c9, rs9, hv, hT⟩ := h; exact ⟨A9, c9, rs9, hv, hT.later hb⟩), (List.forall_mem_cons.2 ⟨Yd.lasts_ex _, (List.forall_mem_cons.2 ⟨Yd.lasts_ex _, (fun _ h => by cases h)⟩)⟩)⟩)⟩) ⟨?_, ?_, ?_, ?_, trivial⟩ ?_
    · intro e1 w1 hb hp hun
      refine Ops.ld_agg 0 (hB6.below hb) rfl rfl rfl ?_
      refine Ops.nil ?_
      exact After.dn (Below.refl _ _) (by exact rfl)
    · intro e1 w1 hb hp hun
      refine Ops.call (leastForm_c X.top.a n X.top.c X.rs X.xss F _ (hX6.later hb) hXm hXF) rfl rfl rfl ?_
      rintro _ w9 ⟨A9, c9, rs9, rfl, hl9, hst9⟩
      refine Ops.nil ?_
      exact After.dn hst9.below ⟨A9, c9, rs9, rfl, hst9.matAt (List.Sublist.refl _) (by rw [leastL_len]; exact hlen _ hm)⟩
    · intro e1 w1 hb hp hun
      refine Ops.ld_agg 0 (hB6.below hb) rfl rfl rfl ?_
      refine Ops.nil ?_
      exact After.dn (Below.refl _ _) (by exact rfl)
    · intro e1 w1 hb hp hun
      obtain ⟨A9, c9, rs9, h22, hT⟩ := (hp 1 (by decide) rfl _ _ rfl rfl)
      refine Ops.call (sameManiplex_c A9 n c9 rs9 _ X.top.a n X.top.c X.rs X.xss _ hT (hX6.later hb) (by omega)) rfl (by exact congrArg (fun v => [v, Value.agg #[.slice X.top.a n X.top.c]]) h22) rfl ?_
      rintro _ w9 ⟨rfl, hst9⟩
      refine Ops.nil ?_
      exact After.dn hst9.below rfl
    intro uu w7 hb7 _
    have hS7 := hS6.later hb7
    refine thenQ_n ?_
    -- stop: cond
    refine Cd.cond_p _ rfl (fun h2 => ?_) (fun h2 => ?_)
    · rw [if_pos (hXo.1 h2)] at hsn
      have e1 : (selV F (all.take i) ++ [X]).length = (selV F (all.take i)).length + 1 := by simp
      refine Cd.region ?_
      refine Ops.mv_sl rfl rfl rfl ?_
      -- stop: LOAD 24 t8=m -> 26
      refine Ops.ld_agg 0 (hS7.rd 0 rfl) rfl rfl rfl ?_
      refine Ops.bs1A hS7 rfl rfl rfl ?_
      intro A10 w8 hS8
      rw [hXt] at hS8
      refine Ops.appR 2 hS8 rfl (hS8.rdR 0 rfl) rfl rfl rfl (by omega) (by omega) rfl ?_
      intro A11 c11 w9 hS9
      have hS9 : St w1 w9 [CkR 24 A10 1 1 [X.top], Bx 24 1 A8 [.slice X.top.a n X.top.c], CkR 24 A11 ((selV F (all.take i)).length + 1) c11 ((selV F (all.take i)).map (·.top) ++ [X.top])] := hS9
      refine Ops.mv_sl rfl rfl rfl ?_
      refine Ops.nil ?_
      refine blockQ_n ?_
      refine thenQ_n ?_
      refine Cd.region ?_
      refine Ops.add rfl rfl rfl (by omega) ?_
      refine Ops.mv_int rfl rfl rfl ?_
      refine Ops.nil ?_
      refine thenQ_n ?_
      -- stop: round
      refine ⟨(i + 1, (A11, c11)), by show all.length - (i + 1) < all.length - i; omega, ⟨by show Value.slice _ _ _ = .slice _ (selV F (all.take (i + 1))).length _; rw [hsn, e1], rfl, rfl, rfl, trivial⟩, ?_, hi'⟩
      show St w1 w9 [CkR _ A11 (selV F (all.take (i + 1))).length c11 ((selV F (all.take (i + 1))).map (·.top))]
      rw [hsn, e1, List.map_append]
      exact hS9.tail.tail
    · rw [if_neg (fun h => h2 (hXo.2 h))] at hsn
      refine Cd.skip ?_
      refine blockQ_n ?_
      refine thenQ_n ?_
      refine Cd.region ?_
      refine Ops.add rfl rfl rfl (by omega) ?_
      refine Ops.mv_int rfl rfl rfl ?_
      refine Ops.nil ?_
      refine thenQ_n ?_
      -- stop: round
      refine ⟨(i + 1, (B6, c7)), by show all.length - (i + 1) < all.length - i; omega, ⟨by show Value.slice _ _ _ = .slice _ (selV F (all.take (i + 1))).length _; rw [hsn], rfl, rfl, rfl, trivial⟩, ?_, hi'⟩
      show St w1 w7 [CkR _ B6 (selV F (all.take (i + 1))).length c7 ((selV F (all.take (i + 1))).map (·.top))]
      rw [hsn]
      exact hS7.tail
  · have hin : i = all.length := by omega
    subst hin
    rw [List.take_length] at *
    have hsub : ∀ m ∈ selV F all, m ∈ all := fun m hm => (List.mem_filter.1 hm).1
    have hj : St w w4 (CkR 24 B6 (selV F all).length c7 ((selV F all).map (·.top)) :: ([] ++ matsCk 33 2 (selV F all))) := by
      refine (hst.call hS4).sub ?_
      refine List.Sublist.cons_cons _ ((matsCk_sub List.filter_sublist).trans (List.sublist_cons_self _ _))
    have hfx : (selV F all).map (·.xss) = ownL n F := by
      rw [ownL, formsL, ← hall, selV, List.filter_map]
      rfl
    refine Cd.exit ?_
    refine thenQ_x ?_
    refine thenQ_x ?_
    refine blockQ_x ?_
    refine thenQ_n ?_
    refine Cd.seq ?_
    refine Cd.region ?_
    refine Ops.mv_sl rfl rfl rfl ?_
    -- stop: CALL impl.Maniplex](t30, impl.compareManiplexes) -> 31
    refine Ops.call (sortM_c (fun m hm => hok m (hsub m hm)) (fun m hm => by rw [htn m (hsub m hm)]; omega) (by omega) hj) rfl rfl rfl ?_
    rintro _ w5 ⟨rfl, ms', hp, hso, hS5⟩
    refine Ops.nil ?_
    refine thenQ_n ?_
    refine Cd.seq ?_
    refine Cd.region ?_
    refine Ops.mv_sl rfl rfl rfl ?_
    refine Ops.mv_sl rfl rfl rfl ?_
    refine Ops.mv_int rfl rfl rfl ?_
    refine Ops.nil ?_
    refine thenQ_n ?_
    refine Cd.ret ?_
    refine ret2_si rfl rfl ?_
    -- stop: end
    have e2 : ms'.map (·.xss) = listL n F := ordM_one (by rw [← hfx]; exact hp.map _) hso
    exact ⟨B6, c7, ms', by rw [eK, hp.length_eq], by rw [eL]; exact e2, fun m hm => hok m (hsub m (hp.mem_iff.1 hm)), hS5⟩
end Go.Proofs.Ytgobjpcankaicaa.Vc
/-
  The laws' marks over lists of lists, told exactly. Conditions: as each states them.
-/
namespace Go.Proofs.Ytgobjpcankaicaa.Vc
open Go.RowKit

def tot (xss : List (List Int)) : Int := ((xss.map List.length).sum : Nat)
theorem tot_snoc (xs : List (List Int)) (x : List Int) : tot (xs ++ [x]) = tot xs + x.length := by simp [tot]
theorem tot_le {b : Nat} : ∀ (xs : List (List Int)), (∀ x ∈ xs, x.length ≤ b) → 0 ≤ tot xs ∧ tot xs ≤ (xs.length * b : Nat)
  | [], _ => by simp [tot]
  | x :: xs, h => by
    have h1 := tot_le xs (fun y hy => h y (by simp [hy]))
    have h2 := h x (by simp)
    have e : tot (x :: xs) = x.length + tot xs := by simp [tot]
    rw [e, List.length_cons, Nat.succ_mul]
    omega
def mkSS (k : Int) : List (List Int) → List (List Int)
  | [] => []
  | x :: xs => marks k x.length :: mkSS (k + x.length) xs
theorem mkSS_len : ∀ (xs : List (List Int)) (k : Int), (mkSS k xs).length = xs.length
  | [], _ => rfl
  | _ :: xs, k => by simp [mkSS, mkSS_len xs]
theorem mkSS_snoc (x : List Int) : ∀ (xs : List (List Int)) (k : Int), mkSS k (xs ++ [x]) = mkSS k xs ++ [marks (k + tot xs) x.length]
  | [], k => by simp [mkSS, tot]
  | y :: xs, k => by
    have e : tot (y :: xs) = y.length + tot xs := by simp [tot]
    simp only [List.cons_append, mkSS]
    rw [mkSS_snoc x xs, e, Int.add_assoc]
theorem mkSS_get {xs : List (List Int)} {k : Int} {i : Nat} (hi : i < xs.length) : (mkSS k xs)[i]? = some (marks (k + tot (xs.take i)) xs[i].length) := by
  have h1 : xs = (xs.take i ++ [xs[i]]) ++ xs.drop (i + 1) := by rw [← List.take_succ_eq_append_getElem hi, List.take_append_drop]
  have gen : ∀ (a b : List (List Int)) (k : Int), ∃ r, mkSS k (a ++ b) = mkSS k a ++ r := by
    intro a
    induction a with
    | nil => intro b k; exact ⟨_, rfl⟩
    | cons y a ih =>
      intro b k
      obtain ⟨r, hr⟩ := ih b (k + y.length)
      exact ⟨r, by simp only [List.cons_append, mkSS]; rw [hr]⟩
  obtain ⟨r, hr⟩ := gen (xs.take i ++ [xs[i]]) (xs.drop (i + 1)) k
  rw [← h1, mkSS_snoc] at hr
  have h2 : (mkSS k (xs.take i)).length = i := by rw [mkSS_len]; simp; omega
  rw [hr, List.append_assoc, List.getElem?_append_right (by omega), h2]
  simp
def mixM (k : Int) (xs : List (List Int)) (i : Nat) : List (List Int) := mkSS k (xs.take i) ++ xs.drop i
theorem mixM_len (k : Int) (xs : List (List Int)) (i : Nat) : (mixM k xs i).length = xs.length := by simp [mixM, mkSS_len]; omega
theorem mixM_get {k : Int} {xs : List (List Int)} {i : Nat} (h : i < xs.length) : (mixM k xs i).getD i [] = xs[i] := by
  have h2 : (mkSS k (xs.take i)).length = i := by rw [mkSS_len]; simp; omega
  rw [mixM, List.getD_eq_getElem?_getD, List.getElem?_append_right (by omega), h2]
  simp [h]
theorem mixM_step {k : Int} {xs : List (List Int)} {i : Nat} (h : i < xs.length) : (mixM k xs i).set i (marks (k + tot (xs.take i)) xs[i].length) = mixM k xs (i + 1) := by
  have h2 : (mkSS k (xs.take i)).length = i := by rw [mkSS_len]; simp; omega
  unfold mixM
  rw [List.set_append_right _ _ (by omega), h2, Nat.sub_self, List.take_succ_eq_append_getElem h, mkSS_snoc, List.append_assoc, List.drop_eq_getElem_cons h]
  rfl

theorem markSS_c {w0 w : World} {pre post : List Ck} {t1 t2 : TypeId} {A : Option Addr} {n c : Nat} {rs : List SlV} {xss : List (List Int)} (k : Int) (hS : St w0 w (pre ++ (mat t1 t2 A n c rs xss ++ post))) (hrl : rs.length = n) (hxl : xss.length = n) (hn : n ≤ 1000) (hr : ∀ x ∈ xss, x.length ≤ 1000) (hk0 : 0 ≤ k ∧ k ≤ 1000000000000000) :
    Ret Try.prog 63 [.slice A n c, .int .i64 k] w (fun v w' => v = .int .i64 (k + tot xss) ∧ St w0 w' (pre ++ (mat t1 t2 A n c rs (mkSS k xss) ++ post))) := by
  refine Ret.of_cd Try.func63 rfl Try.ntmps63 rfl (post1 rfl) ?_
  refine Cd.seq ?_
  refine Cd.region ?_
  refine Ops.mv_int rfl rfl rfl ?_
  refine Ops.nil ?_
  refine thenQ_n ?_
  refine Cd.seq ?_
  refine Cd.seq ?_
  refine Cd.region ?_
  refine Ops.mv_int rfl rfl rfl ?_
  refine Ops.nil ?_
  refine thenQ_n ?_
  refine Cd.block ?_
  -- stop: loop
  refine Cd.loop (α := Nat) (fun i => [(0, .slice A n c), (1, .int .i64 (k + tot (xss.take i))), (5, .int .i64 (i : Int))]) (fun i w' => St w0 w' (pre ++ (mat t1 t2 A n c rs (mixM k xss i) ++ post)) ∧ i ≤ n) (fun i => n - i) 0 ⟨rfl, by show Value.int .i64 _ = .int .i64 _; simp [tot], rfl, trivial⟩ ⟨by simpa [mixM, mkSS] using hS, Nat.zero_le _⟩ ?_
  rintro i e w1 ⟨hS1, hi⟩
  have hyl := mixM_len k xss i
  have hM := (hS1.sub (List.sublist_append_right _ _)).rowsI (by omega)
  have htb := tot_le (b := 1000) (xss.take i) (fun x hx => hr x (List.mem_of_mem_take hx))
  have htl : (xss.take i).length ≤ 1000 := by simp; omega
  have htm : (xss.take i).length * 1000 ≤ 1000 * 1000 := Nat.mul_le_mul_right 1000 htl
  refine Cd.seq ?_
  refine Cd.seq ?_
  refine Cd.region ?_
  refine Ops.mv_int rfl rfl rfl ?_
  refine Ops.mv_sl rfl rfl rfl ?_
  refine Ops.len rfl rfl ?_
  refine Ops.lss rfl rfl rfl ?_
  refine Ops.nil ?_
  refine thenQ_n ?_
  -- stop: cond
  refine Cd.cond_p _ rfl (fun h1 => ?_) (fun h1 => ?_)
  · have hi' : i < xss.length := by omega
    have hget := mat_get (t1 := t1) (t2 := t2) (A := A) (n := n) (c := c) (rs := rs) (xss := mixM k xss i) (pre := pre) (ks := post) (i := i) (by omega) (by omega)
    have hset := fun l => mat_set (t1 := t1) (t2 := t2) (A := A) (n := n) (c := c) (rs := rs) (xss := mixM k xss i) (pre := pre) (ks := post) (i := i) (xs := l) (by omega) (by omega)
    rw [mixM_get hi'] at hget
    have hln := hS1.lenI _ hget
    have hxi := hr xss[i] (List.getElem_mem hi')
    have hst := mixM_step (k := k) hi'
    have htot : tot (xss.take (i + 1)) = tot (xss.take i) + xss[i].length := by rw [List.take_succ_eq_append_getElem hi', tot_snoc]
    refine Cd.skip ?_
    refine thenQ_n ?_
    refine Cd.seq ?_
    refine Cd.block ?_
    refine Cd.region ?_
    refine Ops.mv_sl rfl rfl rfl ?_
    refine Ops.mv_int rfl rfl rfl ?_
    -- stop: INDEXADDR 22 t12 t13 -> 14
    refine Ops.idx hM.top.2 rfl rfl rfl (by omega) h1 ?_
    refine Ops.ld_sl hM.top rfl (by omega) rfl rfl ?_
    refine Ops.mv_int rfl rfl rfl ?_
    -- stop: CALL laws.markInt64S(t15, t16) -> 17
    refine Ops.call (markInt64S_c (pre.length + 1 + i) (k + tot (xss.take i)) hS1 hget ⟨by omega, by omega⟩) rfl rfl rfl ?_
    rintro _ w2 ⟨rfl, hS2⟩
    rw [hset, ← hln, hst] at hS2
    refine Ops.mv_int rfl rfl rfl ?_
    refine Ops.nil ?_
    refine blockQ_n ?_
    refine thenQ_n ?_
    refine Cd.region ?_
    refine Ops.mv_int rfl rfl rfl ?_
    refine Ops.add rfl rfl rfl (by omega) ?_
    refine Ops.mv_int rfl rfl rfl ?_
    refine Ops.nil ?_
    refine thenQ_n ?_
    -- stop: round
    exact ⟨i + 1, by show n - (i + 1) < n - i; omega, ⟨rfl, by show Value.int .i64 _ = .int .i64 _; rw [htot, ← Int.add_assoc, hln], rfl, trivial⟩, hS2, by omega⟩
  · refine Cd.exit ?_
    refine thenQ_x ?_
    refine thenQ_x ?_
    refine blockQ_x ?_
    refine thenQ_n ?_
    refine Cd.seq ?_
    refine Cd.region ?_
    refine Ops.mv_int rfl rfl rfl ?_
    refine Ops.mv_int rfl rfl rfl ?_
    refine Ops.nil ?_
    refine thenQ_n ?_
    refine Cd.ret ?_
    refine ret1_i rfl ?_
    -- stop: end
    have hin : i = n := by omega
    subst hin
    have e1 : xss.take i = xss := List.take_of_length_le (by omega)
    have e2 : mixM k xss i = mkSS k xss := by rw [mixM, e1, List.drop_of_length_le (by omega), List.append_nil]
    rw [e1]
    rw [e2] at hS1
    exact ⟨rfl, hS1⟩

theorem heldSS_c (A : Option Addr) (n c : Nat) (rs : List SlV) (xss : List (List Int)) (k : Int) (w : World) (hR : RowsI w A n rs (mkSS k xss)) (hn : n ≤ 1000) (hr : ∀ x ∈ xss, x.length ≤ 1000) (hk0 : 0 ≤ k ∧ k ≤ 1000000000000000) :
    Ret Try.prog 73 [.slice A n c, .int .i64 k] w (fun v w' => v = .int .i64 (k + tot xss) ∧ w' = w) := by
  have hxl : xss.length = n := by rw [← mkSS_len xss k]; exact hR.len
  refine Ret.of_cd Try.func73 rfl Try.ntmps73 rfl (post1 rfl) ?_
  refine Cd.seq ?_
  refine Cd.region ?_
  refine Ops.mv_int rfl rfl rfl ?_
  refine Ops.nil ?_
  refine thenQ_n ?_
  refine Cd.seq ?_
  refine Cd.seq ?_
  refine Cd.region ?_
  refine Ops.mv_int rfl rfl rfl ?_
  refine Ops.nil ?_
  refine thenQ_n ?_
  refine Cd.block ?_
  -- stop: loop
  refine Cd.loop (α := Nat) (fun i => [(0, .slice A n c), (1, .int .i64 (k + tot (xss.take i))), (5, .int .i64 (i : Int))]) (fun i w' => w' = w ∧ i ≤ n) (fun i => n - i) 0 ⟨rfl, by show Value.int .i64 _ = .int .i64 _; simp [tot], rfl, trivial⟩ ⟨rfl, Nat.zero_le _⟩ ?_
  rintro i e w ⟨rfl, hi⟩
  have htb := tot_le (b := 1000) (xss.take i) (fun x hx => hr x (List.mem_of_mem_take hx))
  have htl : (xss.take i).length ≤ 1000 := by simp; omega
  have htm : (xss.take i).length * 1000 ≤ 1000 * 1000 := Nat.mul_le_mul_right 1000 htl
  refine Cd.seq ?_
  refine Cd.seq ?_
  refine Cd.region ?_
  refine Ops.mv_int rfl rfl rfl ?_
  refine Ops.mv_sl rfl rfl rfl ?_
  refine Ops.len rfl rfl ?_
  refine Ops.lss rfl rfl rfl ?_
  refine Ops.nil ?_
  refine thenQ_n ?_
  -- stop: cond
  refine Cd.cond_p _ rfl (fun h1 => ?_) (fun h1 => ?_)
  · have hi' : i < xss.length := by omega
    have hxi := hr xss[i] (List.getElem_mem hi')
    have htot : tot (xss.take (i + 1)) = tot (xss.take i) + xss[i].length := by rw [List.take_succ_eq_append_getElem hi', tot_snoc]
    have hrow := hR.at_ (i := (i : Int)) (by omega) h1
    have hg : gl (mkSS k xss) (i : Int) = marks (k + tot (xss.take i)) xss[i].length := by
      simp only [gl, Int.toNat_natCast, List.getD_eq_getElem?_getD, mkSS_get hi', Option.getD_some]
    rw [hg] at hrow
    have hln := hrow.1
    rw [marks_len] at hln
    rw [hln] at hrow
    refine Cd.skip ?_
    refine thenQ_n ?_
    refine Cd.seq ?_
    refine Cd.block ?_
    refine Cd.seq ?_
    refine Cd.region ?_
    refine Ops.mv_sl rfl rfl rfl ?_
    refine Ops.mv_int rfl rfl rfl ?_
    -- stop: INDEXADDR 22 t12 t13 -> 14
    refine Ops.idx hR.top.2 rfl rfl rfl (by omega) h1 ?_
    refine Ops.ld_sl hR.top rfl (by omega) rfl rfl ?_
    refine Ops.mv_int rfl rfl rfl ?_
    -- stop: CALL laws.heldInt64S(t15, t16) -> 17
    refine Ops.call (heldInt64S_c (rg rs (i : Int)).a (rg rs (i : Int)).n (rg rs (i : Int)).c (k + tot (xss.take i)) _ hrow ⟨by omega, by omega⟩) rfl rfl rfl ?_
    rintro _ w ⟨rfl, rfl⟩
    refine Ops.mv_int rfl rfl rfl ?_
    refine Ops.nil ?_
    refine thenQ_n ?_
    refine Cd.seq ?_
    refine Cd.region ?_
    refine Ops.mv_int rfl rfl rfl ?_
    refine Ops.lss rfl rfl rfl ?_
    refine Ops.nil ?_
    refine thenQ_n ?_
    -- stop: cond
    refine Cd.cond_pf rfl (by omega) ?_
    refine Cd.skip ?_
    refine blockQ_n ?_
    refine thenQ_n ?_
    refine Cd.region ?_
    refine Ops.mv_int rfl rfl rfl ?_
    refine Ops.add rfl rfl rfl (by omega) ?_
    refine Ops.mv_int rfl rfl rfl ?_
    refine Ops.nil ?_
    refine thenQ_n ?_
    -- stop: round
    exact ⟨i + 1, by show n - (i + 1) < n - i; omega, ⟨rfl, by show Value.int .i64 _ = .int .i64 _; rw [htot, ← Int.add_assoc, hln], rfl, trivial⟩, rfl, by omega⟩
  · refine Cd.exit ?_
    refine thenQ_x ?_
    refine thenQ_x ?_
    refine blockQ_x ?_
    refine thenQ_n ?_
    refine Cd.seq ?_
    refine Cd.region ?_
    refine Ops.mv_int rfl rfl rfl ?_
    refine Ops.mv_int rfl rfl rfl ?_
    refine Ops.nil ?_
    refine thenQ_n ?_
    refine Cd.ret ?_
    refine ret1_i rfl ?_
    -- stop: end
    have hin : i = n := by omega
    subst hin
    rw [List.take_of_length_le (by omega)]
    exact ⟨rfl, rfl⟩
end Go.Proofs.Ytgobjpcankaicaa.Vc
/-
  Lists of maniplexes compared, marked and found marked; and the answers of CountManiplexes, AllManiplexes and ManiplexAt on both sides. Conditions: as each states them.
-/
namespace Go.Proofs.Ytgobjpcankaicaa.Vc
open Go.RowKit

/-- a list of matrices, read -/
structure MsR (w : World) (A : Option Addr) (ms : List MatV) : Prop where
  top : RdR w A ms.length (ms.map (·.top))
  row : ∀ m ∈ ms, RowsI w m.top.a m.top.n m.rs m.xss
theorem MsR.later {w w' : World} {A : Option Addr} {ms : List MatV} (h : MsR w A ms) (hb : Below w.heap.size w w') : MsR w' A ms := ⟨h.top.later hb, fun m hm => (h.row m hm).later hb⟩
theorem St.msR {w0 w : World} {A : Option Addr} {c : Nat} {ms : List MatV} {ks : List Ck} (h : St w0 w ks) (hok : ∀ m ∈ ms, m.ok) (hs : (CkR 24 A ms.length c (ms.map (·.top)) :: matsCk 33 2 ms).Sublist ks) : MsR w A ms :=
  ⟨(h.sub hs).rdR 0 rfl, fun m hm => h.matAt (c := m.top.c) (t1 := 33) (t2 := 2) (((MatV.sub_ hm).trans (List.sublist_cons_self _ _)).trans hs) (hok m hm)⟩
theorem MsR.at_ {w : World} {A : Option Addr} {ms : List MatV} (h : MsR w A ms) {i : Nat} (hi : i < ms.length) : RowsI w (rg (ms.map (·.top)) (i : Int)).a (rg (ms.map (·.top)) (i : Int)).n (ms[i]).rs (ms[i]).xss := by
  rw [top_at hi]; exact h.row _ (List.getElem_mem hi)

theorem eqManiplexS_c (A : Option Addr) (c : Nat) (ms : List MatV) (A' : Option Addr) (c' : Nat) (ns : List MatV) (w : World) (hR : MsR w A ms) (hR' : MsR w A' ns) (hn : ms.length ≤ 9223372036854775807) (hcap : ∀ m ∈ ms, m.top.n ≤ 9223372036854775807) :
    Ret Try.prog 39 [.slice A ms.length c, .slice A' ns.length c'] w (fun v w' => v = .bool (decide (ms.map (·.xss) = ns.map (·.xss))) ∧ St w w' []) := by
  refine Ret.of_cd Try.func39 rfl Try.ntmps39 rfl (post1 rfl) ?_
  refine Cd.seq ?_
  refine Cd.region ?_
  refine Ops.mv_bool rfl rfl rfl ?_
  refine Ops.nil ?_
  refine thenQ_n ?_
  refine Cd.seq ?_
  refine Cd.seq ?_
  refine Cd.region ?_
  refine Ops.mv_sl rfl rfl rfl ?_
  refine Ops.len rfl rfl ?_
  refine Ops.mv_sl rfl rfl rfl ?_
  refine Ops.len rfl rfl ?_
  refine Ops.neq rfl rfl rfl ?_
  refine Ops.nil ?_
  refine thenQ_n ?_
  -- stop: cond
  refine Cd.cond_p _ rfl (fun h => ?_) (fun h => ?_)
  · refine Cd.seq ?_
    refine Cd.region ?_
    refine Ops.mv_bool rfl rfl rfl ?_
    refine Ops.nil ?_
    refine thenQ_n ?_
    refine Cd.ret ?_
    refine thenQ_r ?_
    refine ret1_b rfl ?_
    -- stop: end
    exact ⟨by rw [decide_eq_false (fun e : ms.map (·.xss) = ns.map (·.xss) => h (by have := congrArg List.length e; simp at this; rw [this]))], St.refl _⟩
  refine Cd.skip ?_
  refine thenQ_n ?_
  refine Cd.seq ?_
  refine Cd.seq ?_
  refine Cd.region ?_
  refine Ops.mv_int rfl rfl rfl ?_
  refine Ops.nil ?_
  refine thenQ_n ?_
  refine Cd.block ?_
  -- stop: loop
  refine Cd.loop (α := Nat) (fun k => [(0, .slice A ms.length c), (1, .slice A' ns.length c'), (5, .int .i64 (k : Int))]) (fun k w' => St w w' [] ∧ k ≤ ms.length ∧ (ms.map (·.xss)).take k = (ns.map (·.xss)).take k) (fun k => ms.length - k) 0 ⟨rfl, rfl, rfl, trivial⟩ ⟨St.refl w, Nat.zero_le _, rfl⟩ ?_
  rintro k e w2 ⟨hS2, hk, hI⟩
  have hle : ms.length = ns.length := by omega
  refine Cd.seq ?_
  refine Cd.seq ?_
  refine Cd.region ?_
  refine Ops.mv_int rfl rfl rfl ?_
  refine Ops.mv_sl rfl rfl rfl ?_
  refine Ops.len rfl rfl ?_
  refine Ops.lss rfl rfl rfl ?_
  refine Ops.nil ?_
  refine thenQ_n ?_
  -- stop: cond
  refine Cd.cond_p _ rfl (fun h1 => ?_) (fun h1 => ?_)
  · have hA := hR.later hS2.below
    have hB := hR'.later hS2.below
    have hk1 : k < ms.length := by omega
    have hk2 : k < ns.length := by omega
    have ha := hA.at_ hk1
    have hb' := hB.at_ hk2
    have hc := hcap _ (List.getElem_mem hk1)
    have ht := top_at hk1
    rw [← ht] at hc
    refine Cd.skip ?_
    refine thenQ_n ?_
    refine Cd.seq ?_
    refine Cd.block ?_
    refine Cd.seq ?_
    -- stop: draw
    refine Cd.draw [.ex (.slice (A) (ms.length) (c)), .ex (.int .i64 ((k : Int))), .ex (.pointer (ptrAt (A) ((k : Int)).toNat)), .ex (.agg #[.slice (rg (ms.map (·.top)) ((k : Int))).a (rg (ms.map (·.top)) ((k : Int))).n (rg (ms.map (·.top)) ((k : Int))).c]), .ex (.slice (A') (ns.length) (c')), .ex (.int .i64 ((k : Int))), .ex (.pointer (ptrAt (A') ((k : Int)).toNat)), .ex (.agg #[.slice (rg (ns.map (·.top)) ((k : Int))).a (rg (ns.map (·.top)) ((k : Int))).n (rg (ns.map (·.top)) ((k : Int))).c]), .ex (.bool (decide (ms[k].xss = ns[k].xss))), .ex (.bool (decide (¬ (ms[k].xss = ns[k].xss))))] (by kernel_rfl) (by kernel_rfl) rfl (List.forall_mem_cons.2 ⟨Yd.lasts_ex _, (List.forall_mem_cons.2 ⟨Yd.lasts_ex _, (List.forall_mem_cons.2 ⟨Yd.lasts_ex _, (List.forall_mem_cons.2 ⟨Yd.lasts_ex _, (List.forall_mem_cons.2 ⟨Yd.lasts_ex _, (List.forall_mem_cons.2 ⟨Yd.lasts_ex _, (List.forall_mem_cons.2 ⟨Yd.lasts_ex _, (List.forall_mem_cons.2 ⟨Yd.lasts_ex _, (List.forall_mem_cons.2 ⟨Yd.lasts_ex _, (List.forall_mem_cons.2 ⟨Yd.lasts_ex _, (fun _ h => by cases h)⟩)⟩)⟩)⟩)⟩)⟩)⟩)⟩)⟩)⟩) ⟨?_, ?_, ?_, ?_, ?_, ?_, ?_, ?_, ?_, ?_, trivial⟩ ?_
    · intro e1 w1 hb hp hun
      refine Ops.mv_sl rfl rfl rfl ?_
      refine Ops.nil ?_
      exact After.dn (Below.refl _ _) (by exact rfl)
    · intro e1 w1 hb hp hun
      refine Ops.mv_int rfl rfl rfl ?_
      refine Ops.nil ?_
      exact After.dn (Below.refl _ _) (by exact rfl)
    · intro e1 w1 hb hp hun
      refine Ops.idx (hA.top.later hb).2 rfl rfl rfl (by omega) (by omega) ?_
      refine Ops.nil ?_
      exact After.dn (Below.refl _ _) (by exact rfl)
    · intro e1 w1 hb hp hun
      refine Ops.ld_ag (hA.top.later hb) rfl (by omega) rfl ?_
      refine Ops.nil ?_
      exact After.dn (Below.refl _ _) (by exact rfl)
    · intro e1 w1 hb hp hun
      refine Ops.mv_sl rfl rfl rfl ?_
      refine Ops.nil ?_
      exact After.dn (Below.refl _ _) (by exact rfl)
    · intro e1 w1 hb hp hun
      refine Ops.mv_int rfl rfl rfl ?_
      refine Ops.nil ?_
      exact After.dn (Below.refl _ _) (by exact rfl)
    · intro e1 w1 hb hp hun
      refine Ops.idx (hB.top.later hb).2 rfl rfl rfl (by omega) (by omega) ?_
      refine Ops.nil ?_
      exact After.dn (Below.refl _ _) (by exact rfl)
    · intro e1 w1 hb hp hun
      refine Ops.ld_ag (hB.top.later hb) rfl (by omega) rfl ?_
      refine Ops.nil ?_
      exact After.dn (Below.refl _ _) (by exact rfl)
    · intro e1 w1 hb hp hun
      refine Ops.call (eqManiplex_c _ _ _ _ _ _ _ _ _ _ _ (ha.later hb) (hb'.later hb) hc) rfl rfl rfl ?_
      rintro _ w2 ⟨rfl, hst⟩
      refine Ops.nil ?_
      exact After.dn hst.below (by exact rfl)
    · intro e1 w1 hb hp hun
      refine Ops.not_p rfl rfl ?_
      refine Ops.nil ?_
      exact After.dn (Below.refl _ _) (by exact rfl)
    intro u w3 hb3 _
    have hS3 := hS2.later hb3
    refine thenQ_n ?_
    -- stop: cond
    refine Cd.cond_p _ rfl (fun h3 => ?_) (fun h3 => ?_)
    · refine Cd.seq ?_
      refine Cd.region ?_
      refine Ops.mv_bool rfl rfl rfl ?_
      refine Ops.nil ?_
      refine thenQ_n ?_
      refine Cd.ret ?_
      refine blockQ_r ?_
      refine thenQ_r ?_
      refine thenQ_r ?_
      refine blockQ_r ?_
      refine thenQ_r ?_
      refine ret1_b rfl ?_
      -- stop: end
      refine ⟨by rw [decide_eq_false (fun e : ms.map (·.xss) = ns.map (·.xss) => h3 (by
        have := congrArg (fun l => l[k]?) e
        simpa [hk1, hk2] using this))], hS3⟩
    · refine Cd.skip ?_
      refine blockQ_n ?_
      refine thenQ_n ?_
      refine Cd.region ?_
      refine Ops.mv_int rfl rfl rfl ?_
      refine Ops.add rfl rfl rfl (by omega) ?_
      refine Ops.mv_int rfl rfl rfl ?_
      refine Ops.nil ?_
      refine thenQ_n ?_
      -- stop: round
      refine ⟨k + 1, by omega, ⟨rfl, rfl, rfl, trivial⟩, hS3, by omega, ?_⟩
      rw [List.take_succ_eq_append_getElem (by rw [List.length_map]; exact hk1), List.take_succ_eq_append_getElem (by rw [List.length_map]; exact hk2), hI, List.getElem_map, List.getElem_map, Classical.not_not.1 h3]
  · refine Cd.exit ?_
    refine thenQ_x ?_
    refine thenQ_x ?_
    refine blockQ_x ?_
    refine thenQ_n ?_
    refine Cd.seq ?_
    refine Cd.region ?_
    refine Ops.mv_bool rfl rfl rfl ?_
    refine Ops.nil ?_
    refine thenQ_n ?_
    refine Cd.ret ?_
    refine ret1_b rfl ?_
    -- stop: end
    refine ⟨?_, hS2⟩
    rw [List.take_of_length_le (by rw [List.length_map]; omega), List.take_of_length_le (by rw [List.length_map]; omega)] at hI
    rw [decide_eq_true hI]

/-! marks -/
def totM (ms : List MatV) : Int := ((ms.map fun m => (m.xss.map List.length).sum).sum : Nat)
theorem totM_snoc (ms : List MatV) (m : MatV) : totM (ms ++ [m]) = totM ms + tot m.xss := by simp [totM, tot]
theorem totM_cons (ms : List MatV) (m : MatV) : totM (m :: ms) = tot m.xss + totM ms := by simp [totM, tot]
theorem totM_le {b : Nat} : ∀ (ms : List MatV), (∀ m ∈ ms, tot m.xss ≤ b) → 0 ≤ totM ms ∧ totM ms ≤ (ms.length * b : Nat)
  | [], _ => by simp [totM]
  | m :: ms, h => by
    have h1 := totM_le ms (fun y hy => h y (by simp [hy]))
    have h2 := h m (by simp)
    have h3 : 0 ≤ tot m.xss := by unfold tot; omega
    rw [totM_cons, List.length_cons, Nat.succ_mul]
    omega
def mkV (k : Int) : List MatV → List MatV
  | [] => []
  | m :: ms => { m with xss := mkSS k m.xss } :: mkV (k + tot m.xss) ms
theorem mkV_len : ∀ (ms : List MatV) (k : Int), (mkV k ms).length = ms.length
  | [], _ => rfl
  | _ :: ms, k => by simp [mkV, mkV_len ms]
theorem mkV_top : ∀ (ms : List MatV) (k : Int), (mkV k ms).map (·.top) = ms.map (·.top)
  | [], _ => rfl
  | _ :: ms, k => by simp [mkV, mkV_top ms]
theorem mkV_snoc (m : MatV) : ∀ (ms : List MatV) (k : Int), mkV k (ms ++ [m]) = mkV k ms ++ [{ m with xss := mkSS (k + totM ms) m.xss }]
  | [], k => by simp [mkV, totM]
  | y :: ms, k => by
    simp only [List.cons_append, mkV]
    rw [mkV_snoc m ms, totM_cons, Int.add_assoc]
theorem mkV_append : ∀ (a b : List MatV) (k : Int), mkV k (a ++ b) = mkV k a ++ mkV (k + totM a) b
  | [], b, k => by simp [mkV, totM]
  | y :: a, b, k => by
    simp only [List.cons_append, mkV]
    rw [mkV_append a b, totM_cons, Int.add_assoc]
theorem mkV_at {ms : List MatV} {k : Int} {i : Nat} (hi : i < ms.length) : (mkV k ms)[i]? = some { ms[i] with xss := mkSS (k + totM (ms.take i)) ms[i].xss } := by
  have h1 : ms = ms.take i ++ (ms[i] :: ms.drop (i + 1)) := by rw [← List.drop_eq_getElem_cons hi, List.take_append_drop]
  have h2 : (mkV k (ms.take i)).length = i := by rw [mkV_len]; simp; omega
  conv => lhs; rw [h1, mkV_append]
  rw [List.getElem?_append_right (by omega), h2, Nat.sub_self]
  rfl
theorem mkV_ok {ms : List MatV} {k : Int} (h : ∀ m ∈ ms, m.ok) : ∀ m ∈ mkV k ms, m.ok := by
  induction ms generalizing k with
  | nil => intro m hm; exact nomatch hm
  | cons a ms ih =>
    intro m hm
    rcases List.mem_cons.1 hm with rfl | hm
    · show (mkSS k a.xss).length = a.top.n
      rw [mkSS_len]; exact h a (by simp)
    · exact ih (fun m hm => h m (by simp [hm])) m hm

/-- small matrices -/
def SmV (m : MatV) : Prop := m.rs.length = m.top.n ∧ m.xss.length = m.top.n ∧ m.top.n ≤ 4 ∧ ∀ x ∈ m.xss, x.length ≤ 12
theorem SmV.tot {m : MatV} (h : SmV m) : 0 ≤ Vc.tot m.xss ∧ Vc.tot m.xss ≤ (48 : Nat) := by
  have h1 := tot_le (b := 12) m.xss h.2.2.2
  have h2 := h.2.1
  have h3 := h.2.2.1
  omega

theorem markManiplexS_c {w0 w : World} {A : Option Addr} {c : Nat} {ms : List MatV} {ks : List Ck} (k : Int) (hS : St w0 w (CkR 24 A ms.length c (ms.map (·.top)) :: (matsCk 33 2 ms ++ ks))) (hsm : ∀ m ∈ ms, SmV m) (hn : ms.length ≤ 4000000000000) (hk0 : 0 ≤ k ∧ k ≤ 1048576) :
    Ret Try.prog 40 [.slice A ms.length c, .int .i64 k] w (fun v w' => v = .int .i64 (k + totM ms) ∧ St w0 w' (CkR 24 A ms.length c (ms.map (·.top)) :: (matsCk 33 2 (mkV k ms) ++ ks))) := by
  refine Ret.of_cd Try.func40 rfl Try.ntmps40 rfl (post1 rfl) ?_
  refine Cd.seq ?_
  refine Cd.region ?_
  refine Ops.mv_int rfl rfl rfl ?_
  refine Ops.nil ?_
  refine thenQ_n ?_
  refine Cd.seq ?_
  refine Cd.seq ?_
  refine Cd.region ?_
  refine Ops.mv_int rfl rfl rfl ?_
  refine Ops.nil ?_
  refine thenQ_n ?_
  refine Cd.block ?_
  -- stop: loop
  refine Cd.loop (α := Nat) (fun i => [(0, .slice A ms.length c), (1, .int .i64 (k + totM (ms.take i))), (5, .int .i64 (i : Int))]) (fun i w' => St w0 w' (CkR 24 A ms.length c (ms.map (·.top)) :: (matsCk 33 2 (mkV k (ms.take i) ++ ms.drop i) ++ ks)) ∧ i ≤ ms.length) (fun i => ms.length - i) 0 ⟨rfl, by show Value.int .i64 _ = .int .i64 _; simp [totM], rfl, trivial⟩ ⟨by simpa [mkV] using hS, Nat.zero_le _⟩ ?_
  rintro i e w1 ⟨hS1, hi⟩
  have htb := totM_le (b := 48) (ms.take i) (fun m hm => (hsm m (List.mem_of_mem_take hm)).tot.2)
  have htl : (ms.take i).length ≤ 4000000000000 := by simp; omega
  refine Cd.seq ?_
  refine Cd.seq ?_
  refine Cd.region ?_
  refine Ops.mv_int rfl rfl rfl ?_
  refine Ops.mv_sl rfl rfl rfl ?_
  refine Ops.len rfl rfl ?_
  refine Ops.lss rfl rfl rfl ?_
  refine Ops.nil ?_
  refine thenQ_n ?_
  -- stop: cond
  refine Cd.cond_p _ rfl (fun h1 => ?_) (fun h1 => ?_)
  · have hi' : i < ms.length := by omega
    have hm := hsm _ (List.getElem_mem hi')
    have htt := hm.tot
    have hti := top_at hi'
    have hT := hS1.rdR 0 rfl
    have hvl : ((ms.map (·.top)).getD (i + 0) slNil).v = .slice ms[i].top.a ms[i].top.n ms[i].top.c := by rw [← hti]; rfl
    have hrb := hT.2.behind (o := i) (m := 1) (by omega)
    have hsn : totM (ms.take (i + 1)) = totM (ms.take i) + tot ms[i].xss := by rw [List.take_succ_eq_append_getElem hi', totM_snoc]
    have hst : mkV k (ms.take (i + 1)) ++ ms.drop (i + 1) = mkV k (ms.take i) ++ ({ ms[i] with xss := mkSS (k + totM (ms.take i)) ms[i].xss } :: ms.drop (i + 1)) := by
      rw [List.take_succ_eq_append_getElem hi', mkV_snoc, List.append_assoc]; rfl
    have hS1' : St w0 w1 ((CkR 24 A ms.length c (ms.map (·.top)) :: matsCk 33 2 (mkV k (ms.take i))) ++ (mat 33 2 ms[i].top.a ms[i].top.n ms[i].top.c ms[i].rs ms[i].xss ++ (matsCk 33 2 (ms.drop (i + 1)) ++ ks))) := by
      rw [List.drop_eq_getElem_cons hi', matsCk_append, show matsCk 33 2 (ms[i] :: ms.drop (i + 1)) = mat 33 2 ms[i].top.a ms[i].top.n ms[i].top.c ms[i].rs ms[i].xss ++ matsCk 33 2 (ms.drop (i + 1)) from rfl] at hS1
      simpa only [List.append_assoc, List.cons_append] using hS1
    refine Cd.skip ?_
    refine thenQ_n ?_
    refine Cd.seq ?_
    refine Cd.block ?_
    refine Cd.region ?_
    refine Ops.mv_sl rfl rfl rfl ?_
    refine Ops.mv_int rfl rfl rfl ?_
    -- stop: INDEXADDR 51 t12 t13 -> 14
    refine Ops.idx hT.2 rfl rfl rfl (by omega) h1 ?_
    refine Ops.fld hrb rfl rfl rfl rfl inferInstance ?_
    refine Ops.ldf_s (A1 := ms[i].top.a) (n1 := ms[i].top.n) (c1 := ms[i].top.c) (j := 0) hrb rfl rfl hvl rfl rfl ?_
    refine Ops.mv_int rfl rfl rfl ?_
    -- stop: CALL laws.markInt64SS(t16, t17) -> 18
    refine Ops.call (markSS_c (k + totM (ms.take i)) hS1' hm.1 hm.2.1 (by have := hm.2.2.1; omega) (fun x hx => by have := hm.2.2.2 x hx; omega) (by omega)) rfl rfl rfl ?_
    rintro _ w2 ⟨rfl, hS2⟩
    refine Ops.mv_int rfl rfl rfl ?_
    refine Ops.nil ?_
    refine blockQ_n ?_
    refine thenQ_n ?_
    refine Cd.region ?_
    refine Ops.mv_int rfl rfl rfl ?_
    refine Ops.add rfl rfl rfl (by omega) ?_
    refine Ops.mv_int rfl rfl rfl ?_
    refine Ops.nil ?_
    refine thenQ_n ?_
    -- stop: round
    refine ⟨i + 1, by show ms.length - (i + 1) < ms.length - i; omega, ⟨rfl, by show Value.int .i64 _ = .int .i64 _; rw [hsn, Int.add_assoc], rfl, trivial⟩, ?_, hi'⟩
    rw [hst, matsCk_append, show matsCk 33 2 ({ ms[i] with xss := mkSS (k + totM (ms.take i)) ms[i].xss } :: ms.drop (i + 1)) = mat 33 2 ms[i].top.a ms[i].top.n ms[i].top.c ms[i].rs (mkSS (k + totM (ms.take i)) ms[i].xss) ++ matsCk 33 2 (ms.drop (i + 1)) from rfl]
    simpa only [List.append_assoc, List.cons_append] using hS2
  · refine Cd.exit ?_
    refine thenQ_x ?_
    refine thenQ_x ?_
    refine blockQ_x ?_
    refine thenQ_n ?_
    refine Cd.seq ?_
    refine Cd.region ?_
    refine Ops.mv_int rfl rfl rfl ?_
    refine Ops.mv_int rfl rfl rfl ?_
    refine Ops.nil ?_
    refine thenQ_n ?_
    refine Cd.ret ?_
    refine ret1_i rfl ?_
    -- stop: end
    have hin : i = ms.length := by omega
    subst hin
    rw [List.take_length, List.drop_length, List.append_nil] at *
    exact ⟨rfl, hS1⟩

theorem heldManiplexS_c (A : Option Addr) (c : Nat) (ms : List MatV) (k : Int) (w : World) (hR : MsR w A (mkV k ms)) (hsm : ∀ m ∈ ms, SmV m) (hn : ms.length ≤ 4000000000000) (hk0 : 0 ≤ k ∧ k ≤ 1048576) :
    Ret Try.prog 41 [.slice A ms.length c, .int .i64 k] w (fun v w' => v = .int .i64 (k + totM ms) ∧ w' = w) := by
  have hT := hR.top
  rw [mkV_len, mkV_top] at hT
  refine Ret.of_cd Try.func41 rfl Try.ntmps41 rfl (post1 rfl) ?_
  refine Cd.seq ?_
  refine Cd.region ?_
  refine Ops.mv_int rfl rfl rfl ?_
  refine Ops.nil ?_
  refine thenQ_n ?_
  refine Cd.seq ?_
  refine Cd.seq ?_
  refine Cd.region ?_
  refine Ops.mv_int rfl rfl rfl ?_
  refine Ops.nil ?_
  refine thenQ_n ?_
  refine Cd.block ?_
  -- stop: loop
  refine Cd.loop (α := Nat) (fun i => [(0, .slice A ms.length c), (1, .int .i64 (k + totM (ms.take i))), (5, .int .i64 (i : Int))]) (fun i w' => w' = w ∧ i ≤ ms.length) (fun i => ms.length - i) 0 ⟨rfl, by show Value.int .i64 _ = .int .i64 _; simp [totM], rfl, trivial⟩ ⟨rfl, Nat.zero_le _⟩ ?_
  rintro i e w ⟨rfl, hi⟩
  have htb := totM_le (b := 48) (ms.take i) (fun m hm => (hsm m (List.mem_of_mem_take hm)).tot.2)
  have htl : (ms.take i).length ≤ 4000000000000 := by simp; omega
  refine Cd.seq ?_
  refine Cd.seq ?_
  refine Cd.region ?_
  refine Ops.mv_int rfl rfl rfl ?_
  refine Ops.mv_sl rfl rfl rfl ?_
  refine Ops.len rfl rfl ?_
  refine Ops.lss rfl rfl rfl ?_
  refine Ops.nil ?_
  refine thenQ_n ?_
  -- stop: cond
  refine Cd.cond_p _ rfl (fun h1 => ?_) (fun h1 => ?_)
  · have hi' : i < ms.length := by omega
    have hm := hsm _ (List.getElem_mem hi')
    have htt := hm.tot
    have hti := top_at hi'
    have hvl : ((ms.map (·.top)).getD (i + 0) slNil).v = .slice ms[i].top.a ms[i].top.n ms[i].top.c := by rw [← hti]; rfl
    have hrb := hT.2.behind (o := i) (m := 1) (by omega)
    have hsn : totM (ms.take (i + 1)) = totM (ms.take i) + tot ms[i].xss := by rw [List.take_succ_eq_append_getElem hi', totM_snoc]
    have hrow := hR.row _ (List.mem_of_getElem? (mkV_at (k := k) hi'))
    refine Cd.skip ?_
    refine thenQ_n ?_
    refine Cd.seq ?_
    refine Cd.block ?_
    refine Cd.seq ?_
    refine Cd.region ?_
    refine Ops.mv_sl rfl rfl rfl ?_
    refine Ops.mv_int rfl rfl rfl ?_
    -- stop: INDEXADDR 51 t12 t13 -> 14
    refine Ops.idx hT.2 rfl rfl rfl (by omega) h1 ?_
    refine Ops.fld hrb rfl rfl rfl rfl inferInstance ?_
    refine Ops.ldf_s (A1 := ms[i].top.a) (n1 := ms[i].top.n) (c1 := ms[i].top.c) (j := 0) hrb rfl rfl hvl rfl rfl ?_
    refine Ops.mv_int rfl rfl rfl ?_
    -- stop: CALL laws.heldInt64SS(t16, t17) -> 18
    refine Ops.call (heldSS_c _ _ _ _ ms[i].xss (k + totM (ms.take i)) _ hrow (show ms[i].top.n ≤ 1000 by have := hm.2.2.1; omega) (fun x hx => by have := hm.2.2.2 x hx; omega) (by omega)) rfl rfl rfl ?_
    rintro _ w ⟨rfl, rfl⟩
    refine Ops.mv_int rfl rfl rfl ?_
    refine Ops.nil ?_
    refine thenQ_n ?_
    refine Cd.seq ?_
    refine Cd.region ?_
    refine Ops.mv_int rfl rfl rfl ?_
    refine Ops.lss rfl rfl rfl ?_
    refine Ops.nil ?_
    refine thenQ_n ?_
    -- stop: cond
    refine Cd.cond_pf rfl (by omega) ?_
    refine Cd.skip ?_
    refine blockQ_n ?_
    refine thenQ_n ?_
    refine Cd.region ?_
    refine Ops.mv_int rfl rfl rfl ?_
    refine Ops.add rfl rfl rfl (by omega) ?_
    refine Ops.mv_int rfl rfl rfl ?_
    refine Ops.nil ?_
    refine thenQ_n ?_
    -- stop: round
    exact ⟨i + 1, by show ms.length - (i + 1) < ms.length - i; omega, ⟨rfl, by show Value.int .i64 _ = .int .i64 _; rw [hsn, Int.add_assoc], rfl, trivial⟩, rfl, hi'⟩
  · refine Cd.exit ?_
    refine thenQ_x ?_
    refine thenQ_x ?_
    refine blockQ_x ?_
    refine thenQ_n ?_
    refine Cd.seq ?_
    refine Cd.region ?_
    refine Ops.mv_int rfl rfl rfl ?_
    refine Ops.mv_int rfl rfl rfl ?_
    refine Ops.nil ?_
    refine thenQ_n ?_
    refine Cd.ret ?_
    refine ret1_i rfl ?_
    -- stop: end
    have hin : i = ms.length := by omega
    subst hin
    rw [List.take_length]
    exact ⟨rfl, rfl⟩
end Go.Proofs.Ytgobjpcankaicaa.Vc
/-
  CountManiplexes and AllManiplexes on both sides, and the walks of their laws. Conditions: none.
-/
namespace Go.Proofs.Ytgobjpcankaicaa.Vc
open Go.RowKit

/-- an answer: a list of maniplexes, and a code -/
def AnsM (L : List Mx) (K : Int) (w : World) (v : Value) (w' : World) : Prop := ∃ A c, ∃ ms : List MatV, v = .tuple #[.slice A ms.length c, .int .i64 K] ∧ ms.map (·.xss) = L ∧ (∀ m ∈ ms, m.ok) ∧
      St w w' (CkR 24 A ms.length c (ms.map (·.top)) :: matsCk 33 2 ms)
theorem AnsM.none {w w' : World} {ks : List Ck} {K : Int} (h : St w w' ks) : AnsM [] K w (.tuple #[.slice Option.none 0 0, .int .i64 K]) w' := ⟨Option.none, 0, [], rfl, rfl, fun m hm => (nomatch hm), h.none.nil _⟩
theorem lst_small {rank flags : Int} {L : Mx} (h : L ∈ lstI rank flags) : Small rank flags ∧ L.length = rank.toNat ∧ (∀ x ∈ L, x.length = flags.toNat) ∧ L.length ≤ 4 ∧ ∀ x ∈ L, x.length ≤ 12 := by
  unfold lstI at h
  split at h
  · rename_i hs
    have h1 := hs.1
    have h2 := hs.2
    have hL := (forms_mani (by omega) (by omega) (listL_mem.1 h).1).2.shp
    exact ⟨hs, hL.1, hL.2, by rw [hL.1]; omega, fun x hx => by rw [hL.2 x hx]; omega⟩
  · cases h
theorem lst_len (rank flags : Int) : (lstI rank flags).length ≤ 4000000000000 := by
  unfold lstI
  split
  · rename_i hs
    have h1 := hs.1
    have h2 := hs.2
    rw [listL_len]
    exact Nat.le_trans (ownL_le _ _) (forms_small (n := rank.toNat) (F := flags.toNat) (by omega) (by omega) _)
  · exact Nat.zero_le _
theorem St.rsLen {w0 w : World} {ks : List Ck} {m : MatV} (h : St w0 w ks) (hs : (m.cks 33 2).Sublist ks) : m.rs.length = m.top.n := by
  have := ((h.own (CkR 33 m.top.a m.top.n m.top.c m.rs) (hs.subset (by simp [MatV.cks, mat]))).toC (isM_R _)).1
  simpa using this
theorem St.smV {w0 w : World} {ks : List Ck} {ms : List MatV} {rank flags : Int} (h : St w0 w ks) (hs : (matsCk 33 2 ms).Sublist ks) (hL : ms.map (·.xss) = lstI rank flags) (hok : ∀ m ∈ ms, m.ok) : ∀ m ∈ ms, SmV m := fun m hm => by
  have hl := lst_small (by rw [← hL]; exact List.mem_map_of_mem (f := (·.xss)) hm)
  have ho := hok m hm
  unfold MatV.ok at ho
  exact ⟨h.rsLen ((MatV.sub_ hm).trans hs), ho, by rw [← ho]; exact hl.2.2.2.1, hl.2.2.2.2⟩

/-! counts -/
def cnK (rank flags : Int) : Int := ((lstI rank flags).length : Nat)
theorem specCountManiplexes_c (rank flags : Int) (w : World) : Ret Try.prog 30 [.int .i64 rank, .int .i64 flags] w (fun v w' => v = .tuple #[.int .i64 (cnK rank flags), .int .i64 (lstK rank flags)] ∧ St w w' []) := by
  refine Ret.of_cd Try.func30 rfl Try.ntmps30 rfl (post2 rfl) ?_
  refine Cd.seq ?_
  refine Cd.region ?_
  refine Ops.mv_int rfl rfl rfl ?_
  refine Ops.mv_int rfl rfl rfl ?_
  refine Ops.nil ?_
  refine thenQ_n ?_
  refine Cd.seq ?_
  refine Cd.seq ?_
  refine Cd.region ?_
  refine Ops.mv_int rfl rfl rfl ?_
  refine Ops.mv_int rfl rfl rfl ?_
  -- stop: CALL spec.l19Code(t9, t10) -> 11
  refine Ops.call (l19Code_c rank flags _) rfl rfl rfl ?_
  rintro _ w ⟨rfl, rfl⟩
  refine Ops.mv_int rfl rfl rfl ?_
  refine Ops.nil ?_
  refine thenQ_n ?_
  refine Cd.seq ?_
  refine Cd.region ?_
  refine Ops.mv_int rfl rfl rfl ?_
  refine Ops.neq rfl rfl rfl ?_
  refine Ops.nil ?_
  refine thenQ_n ?_
  -- stop: cond
  refine Cd.cond_p _ rfl (fun h => ?_) (fun h => ?_)
  · have hs : ¬ Small rank flags := fun hs => h (by rw [if_pos hs])
    refine Cd.seq ?_
    refine Cd.region ?_
    refine Ops.mv_int rfl rfl rfl ?_
    refine Ops.mv_int rfl rfl rfl ?_
    refine Ops.mv_int rfl rfl rfl ?_
    refine Ops.nil ?_
    refine thenQ_n ?_
    refine Cd.ret ?_
    refine thenQ_r ?_
    refine ret2_ii rfl rfl ?_
    -- stop: end
    rw [if_neg hs]
    exact ⟨by rw [cnK, lstK, lstI, if_neg hs, if_neg hs]; rfl, St.refl _⟩
  · have hs : Small rank flags := Classical.byContradiction fun hs => h (by rw [if_neg hs]; decide)
    obtain ⟨n, rfl⟩ : ∃ n : Nat, rank = n := ⟨rank.toNat, by have := hs.1; omega⟩
    obtain ⟨F, rfl⟩ : ∃ F : Nat, flags = F := ⟨flags.toNat, by have := hs.2; omega⟩
    have hs1 := hs.1
    have hs2 := hs.2
    refine Cd.skip ?_
    refine thenQ_n ?_
    refine Cd.seq ?_
    refine Cd.region ?_
    refine Ops.mv_int rfl rfl rfl ?_
    refine Ops.mv_int rfl rfl rfl ?_
    -- stop: CALL spec.l19List(t16, t17) -> 18
    refine Ops.call (l19List_c n F (by omega) (by omega) _) rfl rfl rfl ?_
    rintro _ w2 ⟨A, c, A2, c2, ms, rfl, hL, hok, hS⟩
    refine Ops.mv_tup rfl rfl rfl ?_
    refine Ops.extract rfl rfl rfl ?_
    refine Ops.extract rfl rfl rfl ?_
    refine Ops.mv_sl rfl rfl rfl ?_
    refine Ops.mv_sl rfl rfl rfl ?_
    refine Ops.nil ?_
    refine thenQ_n ?_
    refine Cd.seq ?_
    refine Cd.region ?_
    refine Ops.mv_sl rfl rfl rfl ?_
    refine Ops.len rfl rfl ?_
    refine Ops.mv_int rfl rfl rfl ?_
    refine Ops.mv_int rfl rfl rfl ?_
    refine Ops.nil ?_
    refine thenQ_n ?_
    refine Cd.ret ?_
    refine ret2_ii rfl rfl ?_
    -- stop: end
    refine ⟨?_, hS.none⟩
    rw [cnK, lstK, lstI, if_pos hs, if_pos hs, Int.toNat_natCast, Int.toNat_natCast, ← hL, List.length_map]
theorem implCountManiplexes_c (rank flags : Int) (w : World) : Ret Try.prog 31 [.int .i64 rank, .int .i64 flags] w (fun v w' => v = .tuple #[.int .i64 (cnK rank flags), .int .i64 (lstK rank flags)] ∧ St w w' []) := by
  refine Ret.of_cd Try.func31 rfl Try.ntmps31 rfl (post2 rfl) ?_
  refine Cd.seq ?_
  refine Cd.region ?_
  refine Ops.mv_int rfl rfl rfl ?_
  refine Ops.mv_int rfl rfl rfl ?_
  refine Ops.nil ?_
  refine thenQ_n ?_
  refine Cd.seq ?_
  refine Cd.region ?_
  refine Ops.mv_int rfl rfl rfl ?_
  refine Ops.mv_int rfl rfl rfl ?_
  -- stop: CALL impl.allManiplexes(t9, t10) -> 11
  refine Ops.call (allManiplexes_c rank flags _) rfl rfl rfl ?_
  rintro _ w2 ⟨A, c, ms, rfl, hL, hok, hS⟩
  refine Ops.mv_tup rfl rfl rfl ?_
  refine Ops.extract rfl rfl rfl ?_
  refine Ops.extract rfl rfl rfl ?_
  refine Ops.mv_sl rfl rfl rfl ?_
  refine Ops.mv_int rfl rfl rfl ?_
  refine Ops.nil ?_
  refine thenQ_n ?_
  refine Cd.seq ?_
  refine Cd.region ?_
  refine Ops.mv_sl rfl rfl rfl ?_
  -- stop: CALL impl.Maniplex](t14) -> 15
  refine Ops.call (sizeM_c _ _ _ _) rfl rfl rfl ?_
  rintro _ w2 ⟨rfl, rfl⟩
  refine Ops.mv_int rfl rfl rfl ?_
  refine Ops.mv_int rfl rfl rfl ?_
  refine Ops.mv_int rfl rfl rfl ?_
  refine Ops.nil ?_
  refine thenQ_n ?_
  refine Cd.ret ?_
  refine ret2_ii rfl rfl ?_
  -- stop: end
  exact ⟨by rw [cnK, ← hL, List.length_map], hS.none⟩
theorem FnExactCountManiplexes_c (rank flags : Int) (w : World) : Ret Try.prog 6 [.int .i64 rank, .int .i64 flags] w (fun v w' => v = .bool true ∧ St w w' []) := by
  refine Ret.of_cd Try.func6 rfl Try.ntmps6 rfl (post1 rfl) ?_
  refine Cd.seq ?_
  refine Cd.region ?_
  refine Ops.mv_bool rfl rfl rfl ?_
  refine Ops.nil ?_
  refine thenQ_n ?_
  refine Cd.seq ?_
  refine Cd.region ?_
  refine Ops.mv_int rfl rfl rfl ?_
  refine Ops.mv_int rfl rfl rfl ?_
  -- stop: CALL spec.CountManiplexes(t10, t11) -> 12
  refine Ops.call (specCountManiplexes_c rank flags _) rfl rfl rfl ?_
  rintro _ w1 ⟨rfl, hS1⟩
  refine Ops.mv_tup rfl rfl rfl ?_
  refine Ops.extract rfl rfl rfl ?_
  refine Ops.extract rfl rfl rfl ?_
  refine Ops.mv_int rfl rfl rfl ?_
  refine Ops.mv_int rfl rfl rfl ?_
  refine Ops.nil ?_
  refine thenQ_n ?_
  refine Cd.seq ?_
  refine Cd.region ?_
  refine Ops.mv_int rfl rfl rfl ?_
  refine Ops.mv_int rfl rfl rfl ?_
  -- stop: CALL impl.CountManiplexes(t16, t17) -> 18
  refine Ops.call (implCountManiplexes_c rank flags _) rfl rfl rfl ?_
  rintro _ w2 ⟨rfl, hS2⟩
  refine Ops.mv_tup rfl rfl rfl ?_
  refine Ops.extract rfl rfl rfl ?_
  refine Ops.extract rfl rfl rfl ?_
  refine Ops.mv_int rfl rfl rfl ?_
  refine Ops.mv_int rfl rfl rfl ?_
  refine Ops.nil ?_
  refine thenQ_n ?_
  refine Cd.seq ?_
  refine Cd.seq ?_
  refine Cd.region ?_
  refine Ops.mv_int rfl rfl rfl ?_
  refine Ops.mv_int rfl rfl rfl ?_
  refine Ops.neq rfl rfl rfl ?_
  refine Ops.mv_bool rfl rfl rfl ?_
  -- stop: guard 24
  refine Ops.split_p 24 rfl (fun h => absurd rfl h) (fun h => ?_) --f
  refine Ops.rung rfl rfl rfl ?_
  refine Ops.mv_int rfl rfl rfl ?_
  refine Ops.rung rfl rfl rfl ?_
  refine Ops.mv_int rfl rfl rfl ?_
  refine Ops.rung rfl rfl rfl ?_
  refine Ops.neq rfl rfl rfl ?_
  refine Ops.pick_f rfl rfl rfl ?_
  refine Ops.nil ?_
  refine thenQ_n ?_
  -- stop: cond
  refine Cd.cond_pf rfl (fun h => h rfl) ?_
  refine Cd.skip ?_
  refine thenQ_n ?_
  refine Cd.seq ?_
  refine Cd.region ?_
  refine Ops.mv_bool rfl rfl rfl ?_
  refine Ops.nil ?_
  refine thenQ_n ?_
  refine Cd.ret ?_
  refine ret1_b rfl ?_
  -- stop: end
  exact ⟨rfl, (hS1.later hS2.below).none⟩

/-! the lists -/
theorem specAllManiplexes_c (rank flags : Int) (w : World) : Ret Try.prog 37 [.int .i64 rank, .int .i64 flags] w (AnsM (lstI rank flags) (lstK rank flags) w) := by
  refine Ret.of_cd Try.func37 rfl Try.ntmps37 rfl (post2 rfl) ?_
  refine Cd.seq ?_
  refine Cd.region ?_
  refine Ops.mv_sl rfl rfl rfl ?_
  refine Ops.mv_int rfl rfl rfl ?_
  refine Ops.nil ?_
  refine thenQ_n ?_
  refine Cd.seq ?_
  refine Cd.seq ?_
  refine Cd.region ?_
  refine Ops.mv_int rfl rfl rfl ?_
  refine Ops.mv_int rfl rfl rfl ?_
  -- stop: CALL spec.l19Code(t9, t10) -> 11
  refine Ops.call (l19Code_c rank flags _) rfl rfl rfl ?_
  rintro _ w ⟨rfl, rfl⟩
  refine Ops.mv_int rfl rfl rfl ?_
  refine Ops.nil ?_
  refine thenQ_n ?_
  refine Cd.seq ?_
  refine Cd.region ?_
  refine Ops.mv_int rfl rfl rfl ?_
  refine Ops.neq rfl rfl rfl ?_
  refine Ops.nil ?_
  refine thenQ_n ?_
  -- stop: cond
  refine Cd.cond_p _ rfl (fun h => ?_) (fun h => ?_)
  · have hs : ¬ Small rank flags := fun hs => h (by rw [if_pos hs])
    refine Cd.seq ?_
    refine Cd.region ?_
    refine Ops.mv_int rfl rfl rfl ?_
    refine Ops.mv_sl rfl rfl rfl ?_
    refine Ops.mv_int rfl rfl rfl ?_
    refine Ops.nil ?_
    refine thenQ_n ?_
    refine Cd.ret ?_
    refine thenQ_r ?_
    refine ret2_si rfl rfl ?_
    -- stop: end
    rw [if_neg hs, lstK, lstI, if_neg hs, if_neg hs]
    exact AnsM.none (St.refl _)
  · have hs : Small rank flags := Classical.byContradiction fun hs => h (by rw [if_neg hs]; decide)
    obtain ⟨n, rfl⟩ : ∃ n : Nat, rank = n := ⟨rank.toNat, by have := hs.1; omega⟩
    obtain ⟨F, rfl⟩ : ∃ F : Nat, flags = F := ⟨flags.toNat, by have := hs.2; omega⟩
    have hs1 := hs.1
    have hs2 := hs.2
    refine Cd.skip ?_
    refine thenQ_n ?_
    refine Cd.seq ?_
    refine Cd.region ?_
    refine Ops.mv_int rfl rfl rfl ?_
    refine Ops.mv_int rfl rfl rfl ?_
    -- stop: CALL spec.l19List(t16, t17) -> 18
    refine Ops.call (l19List_c n F (by omega) (by omega) _) rfl rfl rfl ?_
    rintro _ w2 ⟨A, c, A2, c2, ms, rfl, hL, hok, hS⟩
    refine Ops.mv_tup rfl rfl rfl ?_
    refine Ops.extract rfl rfl rfl ?_
    refine Ops.extract rfl rfl rfl ?_
    refine Ops.mv_sl rfl rfl rfl ?_
    refine Ops.mv_sl rfl rfl rfl ?_
    refine Ops.nil ?_
    refine thenQ_n ?_
    refine Cd.seq ?_
    refine Cd.region ?_
    refine Ops.mv_sl rfl rfl rfl ?_
    refine Ops.mv_sl rfl rfl rfl ?_
    refine Ops.mv_int rfl rfl rfl ?_
    refine Ops.nil ?_
    refine thenQ_n ?_
    refine Cd.ret ?_
    refine ret2_si rfl rfl ?_
    -- stop: end
    rw [lstK, lstI, if_pos hs, if_pos hs, Int.toNat_natCast, Int.toNat_natCast]
    exact ⟨A, c, ms, rfl, hL, hok, hS.sub (List.Sublist.cons_cons _ (List.sublist_cons_self _ _))⟩
theorem implAllManiplexes_c (rank flags : Int) (w : World) : Ret Try.prog 38 [.int .i64 rank, .int .i64 flags] w (AnsM (lstI rank flags) (lstK rank flags) w) := by
  refine Ret.of_cd Try.func38 rfl Try.ntmps38 rfl (post2 rfl) ?_
  refine Cd.seq ?_
  refine Cd.region ?_
  refine Ops.mv_sl rfl rfl rfl ?_
  refine Ops.mv_int rfl rfl rfl ?_
  refine Ops.nil ?_
  refine thenQ_n ?_
  refine Cd.seq ?_
  refine Cd.region ?_
  refine Ops.mv_int rfl rfl rfl ?_
  refine Ops.mv_int rfl rfl rfl ?_
  -- stop: CALL impl.allManiplexes(t6, t7) -> 8
  refine Ops.call (allManiplexes_c rank flags _) rfl rfl rfl ?_
  rintro _ w2 ⟨A, c, ms, rfl, hL, hok, hS⟩
  refine Ops.extract rfl rfl rfl ?_
  refine Ops.extract rfl rfl rfl ?_
  refine Ops.mv_sl rfl rfl rfl ?_
  refine Ops.mv_int rfl rfl rfl ?_
  refine Ops.nil ?_
  refine thenQ_n ?_
  refine Cd.ret ?_
  refine ret2_si rfl rfl ?_
  -- stop: end
  exact ⟨A, c, ms, rfl, hL, hok, hS⟩
theorem FnExactAllManiplexes_c (rank flags : Int) (w : World) : Ret Try.prog 9 [.int .i64 rank, .int .i64 flags] w (fun v w' => v = .bool true ∧ St w w' []) := by
  have hlen := lst_len rank flags
  refine Ret.of_cd Try.func9 rfl Try.ntmps9 rfl (post1 rfl) ?_
  refine Cd.seq ?_
  refine Cd.region ?_
  refine Ops.mv_bool rfl rfl rfl ?_
  refine Ops.nil ?_
  refine thenQ_n ?_
  refine Cd.seq ?_
  refine Cd.region ?_
  refine Ops.mv_int rfl rfl rfl ?_
  refine Ops.mv_int rfl rfl rfl ?_
  -- stop: CALL spec.AllManiplexes(t14, t15) -> 16
  refine Ops.call (specAllManiplexes_c rank flags _) rfl rfl rfl ?_
  rintro _ w1 ⟨A0, c0, ms0, rfl, hL0, hok0, hS1⟩
  have hl0 : ms0.length = (lstI rank flags).length := by rw [← hL0, List.length_map]
  have hsm0 := hS1.smV (List.sublist_cons_self _ _) hL0 hok0
  refine Ops.mv_tup rfl rfl rfl ?_
  refine Ops.extract rfl rfl rfl ?_
  refine Ops.extract rfl rfl rfl ?_
  refine Ops.mv_sl rfl rfl rfl ?_
  refine Ops.mv_int rfl rfl rfl ?_
  refine Ops.nil ?_
  refine thenQ_n ?_
  refine Cd.seq ?_
  refine Cd.region ?_
  refine Ops.mv_int rfl rfl rfl ?_
  refine Ops.mv_int rfl rfl rfl ?_
  -- stop: CALL impl.AllManiplexes(t20, t21) -> 22
  refine Ops.call (implAllManiplexes_c rank flags _) rfl rfl rfl ?_
  rintro _ w2 ⟨A1, c1, ms1, rfl, hL1, hok1, hS2⟩
  have hl1 : ms1.length = (lstI rank flags).length := by rw [← hL1, List.length_map]
  have hsm1 := hS2.smV (List.sublist_cons_self _ _) hL1 hok1
  have hcap1 : ∀ m ∈ ms1, m.top.n ≤ 9223372036854775807 := fun m hm => by have := (hsm1 m hm).2.2.1; omega
  have hS2 := hS1.call hS2
  have hR0 := hS2.msR hok0 (List.sublist_append_right _ _)
  have hR1 := hS2.msR hok1 (List.sublist_append_left _ _)
  refine Ops.mv_tup rfl rfl rfl ?_
  refine Ops.extract rfl rfl rfl ?_
  refine Ops.extract rfl rfl rfl ?_
  refine Ops.mv_sl rfl rfl rfl ?_
  refine Ops.mv_int rfl rfl rfl ?_
  refine Ops.nil ?_
  refine thenQ_n ?_
  refine Cd.seq ?_
  refine Cd.seq ?_
  refine Cd.region ?_
  refine Ops.mv_sl rfl rfl rfl ?_
  refine Ops.mv_sl rfl rfl rfl ?_
  -- stop: CALL laws.eqManiplexS(t25, t26) -> 27
  refine Ops.call (eqManiplexS_c A1 c1 ms1 A0 c0 ms0 _ hR1 hR0 (by omega) hcap1) rfl rfl rfl ?_
  rintro _ w3 ⟨rfl, hst3⟩
  have hS3 := hS2.later hst3.below
  have e10 : ms1.map (·.xss) = ms0.map (·.xss) := by rw [hL0, hL1]
  first | refine Ops.not_p rfl rfl ?_ | refine Ops.not rfl rfl ?_
  refine Ops.mv_bool rfl rfl rfl ?_
  -- stop: guard 29
  refine Ops.split_p 29 rfl (fun h => absurd e10 h) (fun h => ?_) --f
  refine Ops.rung rfl rfl rfl ?_
  refine Ops.mv_int rfl rfl rfl ?_
  refine Ops.rung rfl rfl rfl ?_
  refine Ops.mv_int rfl rfl rfl ?_
  refine Ops.rung rfl rfl rfl ?_
  refine Ops.neq rfl rfl rfl ?_
  refine Ops.pick_f rfl rfl rfl ?_
  refine Ops.nil ?_
  refine thenQ_n ?_
  -- stop: cond
  refine Cd.cond_pf rfl (fun h => h rfl) ?_
  refine Cd.skip ?_
  refine thenQ_n ?_
  refine Cd.seq ?_
  refine Cd.region ?_
  refine Ops.mv_int rfl rfl rfl ?_
  refine Ops.nil ?_
  refine thenQ_n ?_
  refine Cd.seq ?_
  refine Cd.region ?_
  refine Ops.mv_sl rfl rfl rfl ?_
  refine Ops.mv_int rfl rfl rfl ?_
  -- stop: CALL laws.markManiplexS(t34, t35) -> 36
  refine Ops.call (markManiplexS_c 1 hS3 hsm1 (by omega) (by omega)) rfl rfl rfl ?_
  rintro _ w4 ⟨rfl, hS4⟩
  have hR4 : MsR w4 A1 (mkV 1 ms1) := hS4.msR (c := c1) (mkV_ok hok1) (by rw [mkV_len, mkV_top]; exact List.sublist_append_left _ _)
  have htb := totM_le (b := 48) ms1 (fun m hm => (hsm1 m hm).tot.2)
  refine Ops.mv_int rfl rfl rfl ?_
  refine Ops.nil ?_
  refine thenQ_n ?_
  refine Cd.seq ?_
  refine Cd.region ?_
  refine Ops.mv_int rfl rfl rfl ?_
  refine Ops.nil ?_
  refine thenQ_n ?_
  refine Cd.seq ?_
  refine Cd.region ?_
  refine Ops.mv_sl rfl rfl rfl ?_
  refine Ops.mv_int rfl rfl rfl ?_
  -- stop: CALL laws.heldManiplexS(t37, t38) -> 39
  refine Ops.call (heldManiplexS_c A1 c1 ms1 1 _ hR4 hsm1 (by omega) (by omega)) rfl rfl rfl ?_
  rintro _ w4 ⟨rfl, rfl⟩
  refine Ops.mv_int rfl rfl rfl ?_
  refine Ops.nil ?_
  refine thenQ_n ?_
  refine Cd.seq ?_
  refine Cd.seq ?_
  refine Cd.region ?_
  refine Ops.mv_int rfl rfl rfl ?_
  refine Ops.lss rfl rfl rfl ?_
  refine Ops.nil ?_
  refine thenQ_n ?_
  -- stop: cond
  refine Cd.cond_pf rfl (by omega) ?_
  refine Cd.skip ?_
  refine thenQ_n ?_
  refine Cd.seq ?_
  refine Cd.seq ?_
  refine Cd.region ?_
  refine Ops.mv_int rfl rfl rfl ?_
  refine Ops.mv_int rfl rfl rfl ?_
  refine Ops.neq rfl rfl rfl ?_
  refine Ops.nil ?_
  refine thenQ_n ?_
  -- stop: cond
  refine Cd.cond_pf rfl (fun h => h rfl) ?_
  refine Cd.skip ?_
  refine thenQ_n ?_
  refine Cd.seq ?_
  refine Cd.region ?_
  refine Ops.mv_int rfl rfl rfl ?_
  refine Ops.mv_int rfl rfl rfl ?_
  -- stop: CALL impl.AllManiplexes(t46, t47) -> 48
  refine Ops.call (implAllManiplexes_c rank flags _) rfl rfl rfl ?_
  rintro _ w5 ⟨A2, c2, ms2, rfl, hL2, hok2, hS5⟩
  have hl2 : ms2.length = (lstI rank flags).length := by rw [← hL2, List.length_map]
  have hsm2 := hS5.smV (List.sublist_cons_self _ _) hL2 hok2
  have hcap2 : ∀ m ∈ ms2, m.top.n ≤ 9223372036854775807 := fun m hm => by have := (hsm2 m hm).2.2.1; omega
  have hR0' := (hS4.msR hok0 (List.sublist_append_right (CkR 24 A1 ms1.length c1 (ms1.map (·.top)) :: matsCk 33 2 (mkV 1 ms1)) _)).later hS5.below
  have hR2 := hS5.msR hok2 (List.Sublist.refl _)
  refine Ops.mv_tup rfl rfl rfl ?_
  refine Ops.extract rfl rfl rfl ?_
  refine Ops.extract rfl rfl rfl ?_
  refine Ops.mv_sl rfl rfl rfl ?_
  refine Ops.mv_int rfl rfl rfl ?_
  refine Ops.nil ?_
  refine thenQ_n ?_
  refine Cd.seq ?_
  refine Cd.seq ?_
  refine Cd.region ?_
  refine Ops.mv_sl rfl rfl rfl ?_
  refine Ops.mv_sl rfl rfl rfl ?_
  -- stop: CALL laws.eqManiplexS(t51, t52) -> 53
  refine Ops.call (eqManiplexS_c A2 c2 ms2 A0 c0 ms0 _ hR2 hR0' (by omega) hcap2) rfl rfl rfl ?_
  rintro _ w6 ⟨rfl, hst6⟩
  have e20 : ms2.map (·.xss) = ms0.map (·.xss) := by rw [hL0, hL2]
  first | refine Ops.not_p rfl rfl ?_ | refine Ops.not rfl rfl ?_
  refine Ops.mv_bool rfl rfl rfl ?_
  -- stop: guard 55
  refine Ops.split_p 55 rfl (fun h => absurd e20 h) (fun h => ?_) --f
  refine Ops.rung rfl rfl rfl ?_
  refine Ops.mv_int rfl rfl rfl ?_
  refine Ops.rung rfl rfl rfl ?_
  refine Ops.mv_int rfl rfl rfl ?_
  refine Ops.rung rfl rfl rfl ?_
  refine Ops.neq rfl rfl rfl ?_
  refine Ops.pick_f rfl rfl rfl ?_
  refine Ops.nil ?_
  refine thenQ_n ?_
  -- stop: cond
  refine Cd.cond_pf rfl (fun h => h rfl) ?_
  refine Cd.skip ?_
  refine thenQ_n ?_
  refine Cd.seq ?_
  refine Cd.region ?_
  refine Ops.mv_int rfl rfl rfl ?_
  refine Ops.nil ?_
  refine thenQ_n ?_
  refine Cd.seq ?_
  refine Cd.region ?_
  refine Ops.mv_sl rfl rfl rfl ?_
  refine Ops.mv_int rfl rfl rfl ?_
  -- stop: CALL laws.heldManiplexS(t60, t61) -> 62
  refine Ops.call (heldManiplexS_c A1 c1 ms1 1 _ ((hR4.later hS5.below).later hst6.below) hsm1 (by omega) (by omega)) rfl rfl rfl ?_
  rintro _ w6 ⟨rfl, rfl⟩
  refine Ops.mv_int rfl rfl rfl ?_
  refine Ops.nil ?_
  refine thenQ_n ?_
  refine Cd.seq ?_
  refine Cd.seq ?_
  refine Cd.region ?_
  refine Ops.mv_int rfl rfl rfl ?_
  refine Ops.lss rfl rfl rfl ?_
  refine Ops.nil ?_
  refine thenQ_n ?_
  -- stop: cond
  refine Cd.cond_pf rfl (by omega) ?_
  refine Cd.skip ?_
  refine thenQ_n ?_
  refine Cd.seq ?_
  refine Cd.seq ?_
  refine Cd.region ?_
  refine Ops.mv_int rfl rfl rfl ?_
  refine Ops.mv_int rfl rfl rfl ?_
  refine Ops.neq rfl rfl rfl ?_
  refine Ops.nil ?_
  refine thenQ_n ?_
  -- stop: cond
  refine Cd.cond_pf rfl (fun h => h rfl) ?_
  refine Cd.skip ?_
  refine thenQ_n ?_
  refine Cd.seq ?_
  refine Cd.region ?_
  refine Ops.mv_bool rfl rfl rfl ?_
  refine Ops.nil ?_
  refine thenQ_n ?_
  refine Cd.ret ?_
  refine ret1_b rfl ?_
  -- stop: end
  exact ⟨rfl, ((hS4.later hS5.below).later hst6.below).none⟩
end Go.Proofs.Ytgobjpcankaicaa.Vc
/-
  CensusOf on both sides. Conditions: as each states them.
-/
namespace Go.Proofs.Ytgobjpcankaicaa.Vc
open Go.RowKit

/-- an element of a census, with its memory -/
structure CE where
  s : SlV
  xs : List Int
  v : Int
def CE.cv (e : CE) : CV := ⟨e.s, e.v⟩
def CE.ck (t : TypeId) (e : CE) : Ck := CkI t e.s.a e.s.n e.s.c e.xs
def CE.pr (e : CE) : List Int × Int := (e.xs, e.v)
def insE (e : CE) (a : Nat) (es : List CE) : List CE := es.take a ++ e :: es.drop a
theorem insE_perm (e : CE) (a : Nat) (es : List CE) : (insE e a es).Perm (e :: es) := ins_perm e es a
/-- an answer: a census, and a code -/
def AnsC (L : Cs) (K : Int) (w : World) (v : Value) (w' : World) : Prop := ∃ A c, ∃ es : List CE, v = .tuple #[.slice A es.length c, .int .i64 K] ∧ es.map CE.pr = L ∧ St w w' (CkC 87 A es.length c (es.map CE.cv) :: es.map (CE.ck 2))
theorem AnsC.none {w w' : World} {ks : List Ck} {K : Int} (h : St w w' ks) : AnsC [] K w (.tuple #[.slice Option.none 0 0, .int .i64 K]) w' := ⟨Option.none, 0, [], rfl, rfl, h.none.nil _⟩
def cnR (rank flags : Int) : Cs := csS ((lstI rank flags).map cntF)
theorem cen_num {R : Cs} {l : List (List Int)} (h : CenOf R l) {y : List Int} {n : Int} (hm : (y, n) ∈ R) : 0 ≤ n ∧ n ≤ (l.length : Nat) := by
  have h1 := ((h.2 y n).1 hm).2
  have h2 := List.count_le_length (a := y) (l := l)
  omega
section
variable {w0 w : World} {ks : List Ck} {A : Option Addr} {q : Nat} {es : List CE}
theorem CE.get {t : TypeId} {j : Nat} (hj : j < es.length) : (es.map (CE.ck t))[j]? = some (CkI t es[j].s.a es[j].s.n es[j].s.c es[j].xs) := by
  rw [List.getElem?_map, List.getElem?_eq_getElem hj]; rfl
theorem CE.set_pr {a : Nat} (ha : a < es.length) (v : Int) : (es.set a ⟨es[a].s, es[a].xs, v⟩).map CE.pr = (es.map CE.pr).set a (es[a].xs, v) ∧ (es.set a ⟨es[a].s, es[a].xs, v⟩).map CE.cv = (es.map CE.cv).set a ⟨es[a].s, v⟩ := by
  rw [List.map_set, List.map_set]; exact ⟨rfl, rfl⟩
theorem CE.set_ck {t : TypeId} {a : Nat} (ha : a < es.length) (v : Int) : (es.set a ⟨es[a].s, es[a].xs, v⟩).map (CE.ck t) = es.map (CE.ck t) := by
  rw [List.map_set]
  apply List.ext_getElem?
  intro j
  rw [List.getElem?_set]
  split
  · rename_i e
    subst e
    rw [if_pos (by simpa using ha), CE.get ha]
    rfl
  · rfl
/-- a number stored -/
theorem St.incC {t : TypeId} {i a : Nat} {cs : List CV} {k : Nat} {v : Int} {w' : World} (ha : a < cs.length) (h : St w0 w' (ks.set i { CkC t A k q cs with vs := (CkC t A k q cs).vs.set (2 * a + 1) (.int .i64 v) })) : St w0 w' (ks.set i (CkC t A k q (cs.set a ⟨cs[a].s, v⟩))) := by
  have e : ({ CkC t A k q cs with vs := (CkC t A k q cs).vs.set (2 * a + 1) (.int .i64 v) } : Ck) = CkC t A k q (cs.set a ⟨cs[a].s, v⟩) := by
    show (⟨A, 2 * k, min (2 * q) maxLen, t, (flatC cs).set (2 * a + 1) (.int .i64 v)⟩ : Ck) = _
    rw [flatC_set ha]
    rfl
  rwa [e] at h
end
theorem ptrC (A : Option Addr) (a : Nat) : ptrAt (ptrAt A (a * 2)) 1 = ptrAt A (2 * a + 1) := by
  rw [ptrAt_ptrAt, Nat.mul_comm]

theorem specCensusOf_c (rank flags : Int) (w : World) : Ret Try.prog 46 [.int .i64 rank, .int .i64 flags] w (AnsC (cnR rank flags) (lstK rank flags) w) := by
  have hlst := lst_len rank flags
  refine Ret.of_cd Try.func46 rfl Try.ntmps46 rfl (post2 rfl) ?_
  refine Cd.seq ?_
  refine Cd.region ?_
  refine Ops.mv_sl rfl rfl rfl ?_
  refine Ops.mv_int rfl rfl rfl ?_
  refine Ops.nil ?_
  refine thenQ_n ?_
  refine Cd.seq ?_
  refine Cd.seq ?_
  refine Cd.region ?_
  refine Ops.mv_int rfl rfl rfl ?_
  refine Ops.mv_int rfl rfl rfl ?_
  -- stop: CALL spec.l19Code(t14, t15) -> 16
  refine Ops.call (l19Code_c rank flags _) rfl rfl rfl ?_
  rintro _ w ⟨rfl, rfl⟩
  refine Ops.mv_int rfl rfl rfl ?_
  refine Ops.nil ?_
  refine thenQ_n ?_
  refine Cd.seq ?_
  refine Cd.region ?_
  refine Ops.mv_int rfl rfl rfl ?_
  refine Ops.neq rfl rfl rfl ?_
  refine Ops.nil ?_
  refine thenQ_n ?_
  -- stop: cond
  refine Cd.cond_p _ rfl (fun h => ?_) (fun h => ?_)
  · have hs : ¬ Small rank flags := fun hs => h (by rw [if_pos hs])
    refine Cd.seq ?_
    refine Cd.region ?_
    refine Ops.mv_int rfl rfl rfl ?_
    refine Ops.mv_sl rfl rfl rfl ?_
    refine Ops.mv_int rfl rfl rfl ?_
    refine Ops.nil ?_
    refine thenQ_n ?_
    refine Cd.ret ?_
    refine thenQ_r ?_
    refine ret2_si rfl rfl ?_
    -- stop: end
    rw [if_neg hs, lstK, cnR, lstI, if_neg hs, if_neg hs]
    exact AnsC.none (St.refl _)
  · have hs : Small rank flags := Classical.byContradiction fun hs => h (by rw [if_neg hs]; decide)
    obtain ⟨n, rfl⟩ : ∃ n : Nat, rank = n := ⟨rank.toNat, by have := hs.1; omega⟩
    obtain ⟨F, rfl⟩ : ∃ F : Nat, flags = F := ⟨flags.toNat, by have := hs.2; omega⟩
    have hs1 := hs.1
    have hs2 := hs.2
    have hlI : lstI (n : Int) (F : Int) = listL n F := by rw [lstI, if_pos hs, Int.toNat_natCast, Int.toNat_natCast]
    refine Cd.skip ?_
    refine thenQ_n ?_
    refine Cd.seq ?_
    refine Cd.region ?_
    refine Ops.mv_int rfl rfl rfl ?_
    refine Ops.mv_int rfl rfl rfl ?_
    -- stop: CALL spec.l19List(t21, t22) -> 23
    refine Ops.call (l19List_c n F (by omega) (by omega) _) rfl rfl rfl ?_
    rintro _ w2 ⟨A, c, A2, c2, ms, rfl, hL, hok, hS⟩
    have hml : ms.length = (lstI (n : Int) (F : Int)).length := by rw [hlI, ← hL, List.length_map]
    have hMs := hS.msR (A := A) (c := c) hok (List.Sublist.cons_cons _ (List.sublist_cons_self _ _))
    have hel : ∀ (j : Nat) (hj : j < ms.length), Mani ms[j].xss ∧ ms[j].top.n = n := fun j hj => by
      have hm : ms[j].xss ∈ listL n F := by rw [← hL]; exact List.mem_map_of_mem (List.getElem_mem hj)
      obtain ⟨h3, h4⟩ := forms_mani (by omega) (by omega) (listL_mem.1 hm).1
      have ho := hok _ (List.getElem_mem hj)
      unfold MatV.ok at ho
      exact ⟨h3, by rw [← ho]; exact h4.shp.1⟩
    refine Ops.mv_tup rfl rfl rfl ?_
    refine Ops.extract rfl rfl rfl ?_
    refine Ops.extract rfl rfl rfl ?_
    refine Ops.mv_sl rfl rfl rfl ?_
    refine Ops.mv_sl rfl rfl rfl ?_
    refine Ops.nil ?_
    refine thenQ_n ?_
    refine Cd.seq ?_
    refine Cd.region ?_
    -- stop: BUILDSLICE 57 0 [] -> 26
    refine Ops.bs0_2 (St.refl w2) rfl ?_
    intro A9 w3 hS3
    have hS3 : St w2 w3 (CkC 87 A9 ([] : List CE).length 0 (([] : List CE).map CE.cv) :: ([] : List CE).map (CE.ck 2)) := hS3
    refine Ops.mv_sl rfl rfl rfl ?_
    refine Ops.nil ?_
    refine thenQ_n ?_
    refine Cd.seq ?_
    refine Cd.seq ?_
    refine Cd.region ?_
    refine Ops.mv_int rfl rfl rfl ?_
    refine Ops.nil ?_
    refine thenQ_n ?_
    refine Cd.block ?_
    -- stop: loop
    refine Cd.loop (α := Nat × Option Addr × Nat × List CE) (fun s => [(7, .slice A ms.length c), (9, .slice s.2.1 s.2.2.2.length s.2.2.1), (10, .int .i64 (s.1 : Int))]) (fun s w' => St w2 w' (CkC 87 s.2.1 s.2.2.2.length s.2.2.1 (s.2.2.2.map CE.cv) :: s.2.2.2.map (CE.ck 2)) ∧ s.1 ≤ ms.length ∧ s.2.2.2.length ≤ s.1 ∧ s.2.2.2.map CE.pr = csS (((ms.map (·.xss)).map cntF).take s.1)) (fun s => ms.length - s.1) (0, A9, 0, []) ⟨rfl, rfl, rfl, trivial⟩ ⟨hS3, Nat.zero_le _, Nat.le_refl _, rfl⟩ ?_
    rintro ⟨i, B, cB, es⟩ e w4 ⟨hS4, hi, hel4, hR⟩
    dsimp only at hS4 hi hel4 hR ⊢
    refine Cd.seq ?_
    refine Cd.seq ?_
    refine Cd.region ?_
    refine Ops.mv_int rfl rfl rfl ?_
    refine Ops.mv_sl rfl rfl rfl ?_
    refine Ops.len rfl rfl ?_
    refine Ops.lss rfl rfl rfl ?_
    refine Ops.nil ?_
    refine thenQ_n ?_
    -- stop: cond
    refine Cd.cond_p _ rfl (fun h1 => ?_) (fun h1 => ?_)
    · have hi' : i < ms.length := by omega
      obtain ⟨hM, htn⟩ := hel i hi'
      have hM4 := hMs.later hS4.below
      have ha4 := hM4.at_ hi'
      have ht := top_at hi'
      have hsn : csS (((ms.map (·.xss)).map cntF).take (i + 1)) = insP (es.map CE.pr) (cntF ms[i].xss) := by
        rw [List.take_succ_eq_append_getElem (by simpa using hi'), csS_snoc, hR, List.getElem_map, List.getElem_map]
      have hcen : CenOf (es.map CE.pr) (((ms.map (·.xss)).map cntF).take i) := by rw [hR]; exact csS_cen _
      have hcl : (((ms.map (·.xss)).map cntF).take i).length ≤ 4000000000000 := by simp; omega
      refine Cd.skip ?_
      refine thenQ_n ?_
      refine Cd.seq ?_
      refine Cd.block ?_
      refine Cd.seq ?_
      refine Cd.region ?_
      refine Ops.mv_sl rfl rfl rfl ?_
      refine Ops.mv_int rfl rfl rfl ?_
      -- stop: INDEXADDR 51 t33 t34 -> 35
      refine Ops.idx hM4.top.2 rfl rfl rfl (by omega) (by omega) ?_
      refine Ops.ld_ag hM4.top rfl (by omega) rfl ?_
      rw [ht] at ha4 ⊢
      rw [htn] at ha4 ⊢
      refine Ops.call (l02Counts_c ms[i].top.a n ms[i].top.c ms[i].rs ms[i].xss _ ha4 hM) rfl rfl rfl ?_
      rintro _ w5 ⟨A11, c11, rfl, hst5⟩
      have hS5 := hS4.call hst5
      have hS5 : St w2 w5 (CkI 2 A11 n c11 (cntF ms[i].xss) :: CkC 87 B es.length cB (es.map CE.cv) :: es.map (CE.ck 2)) := hS5
      have hcx : n ≤ c11 ∧ c11 ≤ maxLen := hS5.cap 0 rfl
      refine Ops.mv_sl rfl rfl rfl ?_
      refine Ops.nil ?_
      refine thenQ_n ?_
      refine Cd.seq ?_
      refine Cd.region ?_
      refine Ops.mv_int rfl rfl rfl ?_
      refine Ops.nil ?_
      refine thenQ_n ?_
      -- stop: join
      refine Cd.join (α := Nat) (fun a => [(7, .slice A ms.length c), (9, .slice B es.length cB), (10, .int .i64 (i : Int)), (11, .slice A11 n c11), (12, .int .i64 (a : Int))]) (fun a w' => St w5 w' [] ∧ a ≤ es.length ∧ a = atP (cntF ms[i].xss) (es.map CE.pr)) ?_ ?_
      · refine Cd.block ?_
        -- stop: loop
        refine Cd.loop (α := Nat) (fun a => [(7, .slice A ms.length c), (9, .slice B es.length cB), (10, .int .i64 (i : Int)), (11, .slice A11 n c11), (12, .int .i64 (a : Int))]) (fun a w' => St w5 w' [] ∧ a ≤ es.length ∧ a + atP (cntF ms[i].xss) ((es.map CE.pr).drop a) = atP (cntF ms[i].xss) (es.map CE.pr)) (fun a => es.length - a) 0 ⟨rfl, rfl, rfl, rfl, rfl, trivial⟩ ⟨St.refl w5, Nat.zero_le _, Nat.zero_add _⟩ ?_
        rintro a e w6 ⟨hS6, ha, hat⟩
        have hS7 := hS5.later hS6.below
        refine Cd.seq ?_
        refine Cd.seq ?_
        refine Cd.region ?_
        refine Ops.mv_int rfl rfl rfl ?_
        refine Ops.mv_sl rfl rfl rfl ?_
        refine Ops.len rfl rfl ?_
        refine Ops.lss rfl rfl rfl ?_
        refine Ops.mv_bool rfl rfl rfl ?_
        -- stop: guard 42
        refine Ops.split_p 42 rfl (fun hlt => ?_) (fun hlt => ?_)
        · have hal : a < es.length := by omega
          have hC := hS7.rdC 1 rfl
          have hCa := hC.at_ (j := a) (by omega)
          have hcv : (es.map CE.cv)[a]'(by simpa using hal) = ⟨es[a].s, es[a].v⟩ := by rw [List.getElem_map]; rfl
          rw [hcv] at hCa
          have hx6 := hS7.rdI 0 rfl
          have hy6 := hS7.rdI (a + 2) (by exact CE.get hal)
          have hcy := hS7.cap (a + 2) (CE.get hal)
          dsimp only [CkI] at hcy
          have hyn : es[a].s.n ≤ 9223372036854775807 := by have h1 := hcy.1; have h2 := hcy.2; simp only [maxLen] at h2; omega
          rw [atP_drop (by simpa using hal), List.getElem_map] at hat
          refine Ops.rung rfl rfl rfl ?_
          refine Ops.mv_sl rfl rfl rfl ?_
          refine Ops.rung rfl rfl rfl ?_
          refine Ops.mv_int rfl rfl rfl ?_
          refine Ops.rung rfl rfl rfl ?_
          -- stop: INDEXADDR 57 t43 t44 -> 45
          refine Ops.idx2 hC rfl rfl rfl (by omega) (by omega) ?_
          refine Ops.rung rfl rfl rfl ?_
          -- stop: FIELDADDR 87 t45 0 -> 46
          refine Ops.fld hCa rfl rfl rfl rfl inferInstance ?_
          refine Ops.rung rfl rfl rfl ?_
          -- stop: LOAD 33 t46 -> 47
          refine Ops.ldf_s (j := 0) hCa rfl rfl rfl rfl rfl ?_
          refine Ops.rung rfl rfl rfl ?_
          refine Ops.mv_sl rfl rfl rfl ?_
          refine Ops.rung rfl rfl rfl ?_
          -- stop: CALL spec.l01Less(t47, t48) -> 49
          refine Ops.call (l01Less_c es[a].s.a es[a].s.n es[a].s.c es[a].xs A11 n c11 (cntF ms[i].xss) _ hy6 hx6 hyn) rfl rfl rfl ?_
          rintro _ w7 ⟨rfl, hst7⟩
          have hS8 := hS6.later hst7.below
          refine Ops.pick_t rfl rfl rfl ?_
          refine Ops.nil ?_
          refine thenQ_n ?_
          -- stop: cond
          refine Cd.cond_p _ rfl (fun h5 => ?_) (fun h5 => ?_)
          · rw [if_pos (by exact h5)] at hat
            refine Cd.skip ?_
            refine thenQ_n ?_
            refine Cd.block ?_
            refine Cd.region ?_
            refine Ops.mv_int rfl rfl rfl ?_
            refine Ops.add rfl rfl rfl (by omega) ?_
            refine Ops.mv_int rfl rfl rfl ?_
            refine Ops.nil ?_
            refine blockQ_n ?_
            refine thenQ_n ?_
            -- stop: round
            exact ⟨a + 1, by show es.length - (a + 1) < es.length - a; omega, ⟨rfl, rfl, rfl, rfl, rfl, trivial⟩, hS8, hal, by omega⟩
          · rw [if_neg (by exact h5)] at hat
            refine Cd.exit ?_
            refine thenQ_x ?_
            refine thenQ_x ?_
            refine blockQ_x ?_
            refine thenQ_n ?_
            -- stop: round
            exact ⟨a, ⟨rfl, rfl, rfl, rfl, rfl, trivial⟩, hS8, ha, by omega⟩
        · rw [List.drop_of_length_le (by rw [List.length_map]; omega)] at hat
          refine Ops.skipg rfl rfl rfl rfl rfl ?_
          refine Ops.skipg rfl rfl rfl rfl rfl ?_
          refine Ops.skipg rfl rfl rfl rfl rfl ?_
          refine Ops.skipg rfl rfl rfl rfl rfl ?_
          refine Ops.skipg rfl rfl rfl rfl rfl ?_
          refine Ops.skipg rfl rfl rfl rfl rfl ?_
          refine Ops.skipg rfl rfl rfl rfl rfl ?_
          refine Ops.pick_f rfl rfl rfl ?_
          refine Ops.nil ?_
          refine thenQ_n ?_
          -- stop: cond
          refine Cd.cond_f rfl ?_
          refine Cd.exit ?_
          refine thenQ_x ?_
          refine thenQ_x ?_
          refine blockQ_x ?_
          refine thenQ_n ?_
          -- stop: round
          exact ⟨a, ⟨rfl, rfl, rfl, rfl, rfl, trivial⟩, hS6, ha, hat⟩
      · rintro a e w6 ⟨hS6, ha, hat⟩
        have hS7 := hS5.later hS6.below
        refine Cd.seq ?_
        refine Cd.seq ?_
        refine Cd.region ?_
        refine Ops.mv_int rfl rfl rfl ?_
        refine Ops.mv_sl rfl rfl rfl ?_
        refine Ops.len rfl rfl ?_
        refine Ops.lss rfl rfl rfl ?_
        refine Ops.mv_bool rfl rfl rfl ?_
        -- stop: guard 57
        refine Ops.split_p 57 rfl (fun hlt => ?_) (fun hlt => ?_)
        · have hal : a < es.length := by omega
          have hC := hS7.rdC 1 rfl
          have hCa := hC.at_ (j := a) (by omega)
          have hcv : (es.map CE.cv)[a]'(by simpa using hal) = ⟨es[a].s, es[a].v⟩ := by rw [List.getElem_map]; rfl
          rw [hcv] at hCa
          have hx6 := hS7.rdI 0 rfl
          have hy6 := hS7.rdI (a + 2) (by exact CE.get hal)
          have hcy := hS7.cap (a + 2) (CE.get hal)
          dsimp only [CkI] at hcy
          have hyn : es[a].s.n ≤ 9223372036854775807 := by have h1 := hcy.1; have h2 := hcy.2; simp only [maxLen] at h2; omega
          have hpa : (es.map CE.pr)[a]'(by simpa using hal) = (es[a].xs, es[a].v) := by rw [List.getElem_map]; rfl
          have hnum := cen_num hcen (by rw [← hpa]; exact List.getElem_mem _)
          refine Ops.rung rfl rfl rfl ?_
          refine Ops.mv_sl rfl rfl rfl ?_
          refine Ops.rung rfl rfl rfl ?_
          refine Ops.mv_int rfl rfl rfl ?_
          refine Ops.rung rfl rfl rfl ?_
          -- stop: INDEXADDR 57 t58 t59 -> 60
          refine Ops.idx2 hC rfl rfl rfl (by omega) (by omega) ?_
          refine Ops.rung rfl rfl rfl ?_
          -- stop: FIELDADDR 87 t60 0 -> 61
          refine Ops.fld hCa rfl rfl rfl rfl inferInstance ?_
          refine Ops.rung rfl rfl rfl ?_
          -- stop: LOAD 33 t61 -> 62
          refine Ops.ldf_s (j := 0) hCa rfl rfl rfl rfl rfl ?_
          refine Ops.rung rfl rfl rfl ?_
          refine Ops.mv_sl rfl rfl rfl ?_
          refine Ops.rung rfl rfl rfl ?_
          -- stop: CALL spec.l01Same(t62, t63) -> 64
          refine Ops.call (l01Same_c es[a].s.a es[a].s.n es[a].s.c es[a].xs A11 n c11 (cntF ms[i].xss) _ hy6 hx6 hyn) rfl rfl rfl ?_
          rintro _ w7 ⟨rfl, hst7⟩
          have hS8 := hS7.later hst7.below
          refine Ops.pick_t rfl rfl rfl ?_
          refine Ops.nil ?_
          refine thenQ_n ?_
          -- stop: cond
          refine Cd.cond_p _ rfl (fun h5 => ?_) (fun h5 => ?_)
          · have hC := hS8.rdC 1 rfl
            have hCa := hC.at_ (j := a) (by omega)
            rw [hcv] at hCa
            refine Cd.seq ?_
            refine Cd.region ?_
            refine Ops.mv_sl rfl rfl rfl ?_
            refine Ops.mv_int rfl rfl rfl ?_
            -- stop: INDEXADDR 57 t66 t67 -> 68
            refine Ops.idx2 hC rfl rfl rfl (by omega) (by omega) ?_
            refine Ops.fld hCa rfl rfl rfl rfl inferInstance ?_
            refine Ops.ldf_i (j := 1) (i := es[a].v) hCa rfl rfl rfl rfl rfl ?_
            refine Ops.add rfl rfl rfl (by omega) ?_
            -- stop: INDEXADDR 57 t66 t67 -> 72
            refine Ops.idx2 hC rfl rfl rfl (by omega) (by omega) ?_
            refine Ops.fld hCa rfl rfl rfl rfl inferInstance ?_
            refine Ops.stf (j := 2 * a + 1) 1 hS8 rfl (by exact congrArg Value.pointer (ptrC _ _)) rfl rfl (by rw [Nat.blt_eq]; show 2 * a + 1 < 2 * es.length; omega) ?_
            intro w8 hS9
            have hS9 := (St.incC (i := 1) (cs := es.map CE.cv) (by simpa using hal) hS9).tail
            rw [hcv] at hS9
            have hsp := CE.set_pr hal (es[a].v + 1)
            refine Ops.nil ?_
            refine thenQ_n ?_
            refine Cd.exit ?_
            refine thenQ_x ?_
            refine blockQ_x ?_
            refine thenQ_n ?_
            refine Cd.region ?_
            refine Ops.mv_int rfl rfl rfl ?_
            refine Ops.add rfl rfl rfl (by omega) ?_
            refine Ops.mv_int rfl rfl rfl ?_
            refine Ops.nil ?_
            refine thenQ_n ?_
            -- stop: round
            refine ⟨(i + 1, B, cB, es.set a ⟨es[a].s, es[a].xs, es[a].v + 1⟩), by show ms.length - (i + 1) < ms.length - i; omega, ⟨rfl, by show Value.slice _ _ _ = .slice _ _ _; rw [List.length_set], rfl, trivial⟩, ?_, by show i + 1 ≤ ms.length; omega, by show (es.set _ _).length ≤ i + 1; rw [List.length_set]; omega, ?_⟩
            · show St w2 w8 (CkC 87 B (es.set _ _).length cB ((es.set _ _).map CE.cv) :: (es.set _ _).map (CE.ck 2))
              rw [List.length_set, hsp.2, CE.set_ck hal]
              exact hS9
            · show (es.set _ _).map CE.pr = _
              rw [hsp.1, hsn, insP_at, dif_pos (by rw [← hat, List.length_map]; exact hal)]
              simp only [← hat]
              rw [hpa, if_pos h5, h5]
          · have hfin : insP (es.map CE.pr) (cntF ms[i].xss) = (es.map CE.pr).take a ++ (cntF ms[i].xss, 1) :: (es.map CE.pr).drop a := by
              rw [insP_at, dif_pos (by rw [← hat, List.length_map]; exact hal)]
              simp only [← hat]
              rw [hpa, if_neg h5]
            refine Cd.skip ?_
            refine thenQ_n ?_
            refine Cd.seq ?_
            refine Cd.region ?_
            refine Ops.mv_sl rfl rfl rfl ?_
            -- stop: BUILD 87 [('pair', [0, ('app', 'Go.Operand.tmp', [74])]), ('pair', [1, ('app', 'Go.Operand.const', [('app', 'Go.Value.int', ['Go.IntKind.i64', 1])])])] -> 75
            refine Ops.bld2c (by exact inferInstance) (by exact inferInstance) rfl rfl rfl rfl rfl rfl rfl ?_
            refine Ops.bs1_2 hS8 rfl rfl rfl ?_
            intro A12 w11 hS11
            have hS11 : St w2 w11 (CkC 87 A12 1 1 [⟨⟨A11, n, c11⟩, 1⟩] :: CkI 2 A11 n c11 (cntF ms[i].xss) :: CkC 87 B es.length cB (es.map CE.cv) :: es.map (CE.ck 2)) := hS11
            have hcp := hS11.capC 2 rfl
            refine Ops.mv_sl rfl rfl rfl ?_
            refine Ops.mv_int rfl rfl rfl ?_
            -- stop: SLICE 57 t77 some t78 none none -> 79
            refine Ops.cut_l2 (A := B) (n := es.length) (c := cB) (l := (a : Int)) rfl rfl rfl (by omega) ?_
            refine Ops.app2 0 hS11 rfl ((hS11.rdC 2 rfl).drop (l := a) ha hcp.1) rfl rfl rfl (by omega) (by omega) rfl ?_
            intro A13 c13 w12 hS12
            refine Ops.mv_sl rfl rfl rfl ?_
            refine Ops.nil ?_
            refine thenQ_n ?_
            refine Cd.region ?_
            -- stop: BUILDSLICE 57 0 [] -> 81
            refine Ops.bs0_2 hS12 rfl ?_
            intro A14 w13 hS13
            have hS13 : St w2 w13 (CkC 87 A14 0 0 [] :: CkC 87 A13 (1 + (es.length - a)) c13 ([⟨⟨A11, n, c11⟩, 1⟩] ++ (es.map CE.cv).drop a) :: CkI 2 A11 n c11 (cntF ms[i].xss) :: CkC 87 B es.length cB (es.map CE.cv) :: es.map (CE.ck 2)) := hS13
            refine Ops.mv_sl rfl rfl rfl ?_
            refine Ops.mv_int rfl rfl rfl ?_
            -- stop: SLICE 57 t82 none some t83 none -> 84
            refine Ops.cut_h2 (A := B) (n := es.length) (c := cB) (h := (a : Int)) rfl rfl rfl (by omega) ?_
            refine Ops.app2 0 hS13 rfl ((hS13.rdC 3 rfl).take (l := a) ha) rfl rfl rfl (by omega) (by omega) rfl ?_
            intro A15 c15 w14 hS14
            refine Ops.mv_sl rfl rfl rfl ?_
            -- stop: BUILTIN append(t85, t86) -> 87
            refine Ops.app2 0 hS14 rfl (hS14.rdC 1 rfl) rfl rfl rfl (by omega) (by omega) rfl ?_
            intro A16 c16 w15 hS15
            refine Ops.mv_sl rfl rfl rfl ?_
            refine Ops.nil ?_
            refine blockQ_n ?_
            refine thenQ_n ?_
            refine Cd.region ?_
            refine Ops.mv_int rfl rfl rfl ?_
            refine Ops.add rfl rfl rfl (by omega) ?_
            refine Ops.mv_int rfl rfl rfl ?_
            refine Ops.nil ?_
            refine thenQ_n ?_
            -- stop: round
            have e1 : 0 + a + (1 + (es.length - a)) = (insE ⟨⟨A11, n, c11⟩, cntF ms[i].xss, 1⟩ a es).length := by rw [(insE_perm _ _ _).length_eq, List.length_cons]; omega
            have e2 : (([] : List CV) ++ (es.map CE.cv).take a) ++ ([⟨⟨A11, n, c11⟩, 1⟩] ++ (es.map CE.cv).drop a) = (insE ⟨⟨A11, n, c11⟩, cntF ms[i].xss, 1⟩ a es).map CE.cv := by simp [insE, List.map_take, List.map_drop, CE.cv]
            have e3 : (insE ⟨⟨A11, n, c11⟩, cntF ms[i].xss, 1⟩ a es).map CE.pr = (es.map CE.pr).take a ++ (cntF ms[i].xss, 1) :: (es.map CE.pr).drop a := by simp [insE, List.map_take, List.map_drop, CE.pr]
            have hS16 : St w2 w15 (CkC 87 A16 (0 + a + (1 + (es.length - a))) c16 (([] ++ (es.map CE.cv).take a) ++ ([⟨⟨A11, n, c11⟩, 1⟩] ++ (es.map CE.cv).drop a)) :: CkC 87 A13 (1 + (es.length - a)) c13 ([⟨⟨A11, n, c11⟩, 1⟩] ++ (es.map CE.cv).drop a) :: CkI 2 A11 n c11 (cntF ms[i].xss) :: CkC 87 B es.length cB (es.map CE.cv) :: es.map (CE.ck 2)) := hS15
            have hS17 := hS16.sub (List.Sublist.cons_cons _ ((List.Sublist.cons_cons _ (List.sublist_cons_self _ _)).cons _))
            rw [e1, e2] at hS17
            refine ⟨(i + 1, A16, c16, insE ⟨⟨A11, n, c11⟩, cntF ms[i].xss, 1⟩ a es), by show ms.length - (i + 1) < ms.length - i; omega, ⟨rfl, by show Value.slice _ _ _ = .slice _ _ _; rw [← e1], rfl, trivial⟩, hS17.perm (List.Perm.cons _ ((insE_perm ⟨⟨A11, n, c11⟩, cntF ms[i].xss, 1⟩ a es).map (CE.ck 2)).symm), by show i + 1 ≤ ms.length; omega, by show (insE _ a es).length ≤ i + 1; rw [← e1]; omega, ?_⟩
            show (insE _ a es).map CE.pr = _
            rw [hsn, e3, hfin]
        · have hae : a = es.length := by omega
          have hfin : insP (es.map CE.pr) (cntF ms[i].xss) = (es.map CE.pr).take a ++ (cntF ms[i].xss, 1) :: (es.map CE.pr).drop a := by
            rw [insP_at, dif_neg (by rw [← hat, List.length_map]; omega), hae, List.take_of_length_le (by simp), List.drop_of_length_le (by simp)]
          refine Ops.skipg rfl rfl rfl rfl rfl ?_
          refine Ops.skipg rfl rfl rfl rfl rfl ?_
          refine Ops.skipg rfl rfl rfl rfl rfl ?_
          refine Ops.skipg rfl rfl rfl rfl rfl ?_
          refine Ops.skipg rfl rfl rfl rfl rfl ?_
          refine Ops.skipg rfl rfl rfl rfl rfl ?_
          refine Ops.skipg rfl rfl rfl rfl rfl ?_
          refine Ops.pick_f rfl rfl rfl ?_
          refine Ops.nil ?_
          refine thenQ_n ?_
          -- stop: cond
          refine Cd.cond_f rfl ?_
          refine Cd.skip ?_
          refine thenQ_n ?_
          refine Cd.seq ?_
          refine Cd.region ?_
          refine Ops.mv_sl rfl rfl rfl ?_
          -- stop: BUILD 87 [('pair', [0, ('app', 'Go.Operand.tmp', [74])]), ('pair', [1, ('app', 'Go.Operand.const', [('app', 'Go.Value.int', ['Go.IntKind.i64', 1])])])] -> 75
          refine Ops.bld2c (by exact inferInstance) (by exact inferInstance) rfl rfl rfl rfl rfl rfl rfl ?_
          refine Ops.bs1_2 hS7 rfl rfl rfl ?_
          intro A12 w11 hS11
          have hS11 : St w2 w11 (CkC 87 A12 1 1 [⟨⟨A11, n, c11⟩, 1⟩] :: CkI 2 A11 n c11 (cntF ms[i].xss) :: CkC 87 B es.length cB (es.map CE.cv) :: es.map (CE.ck 2)) := hS11
          have hcp := hS11.capC 2 rfl
          refine Ops.mv_sl rfl rfl rfl ?_
          refine Ops.mv_int rfl rfl rfl ?_
          -- stop: SLICE 57 t77 some t78 none none -> 79
          refine Ops.cut_l2 (A := B) (n := es.length) (c := cB) (l := (a : Int)) rfl rfl rfl (by omega) ?_
          refine Ops.app2 0 hS11 rfl ((hS11.rdC 2 rfl).drop (l := a) ha hcp.1) rfl rfl rfl (by omega) (by omega) rfl ?_
          intro A13 c13 w12 hS12
          refine Ops.mv_sl rfl rfl rfl ?_
          refine Ops.nil ?_
          refine thenQ_n ?_
          refine Cd.region ?_
          -- stop: BUILDSLICE 57 0 [] -> 81
          refine Ops.bs0_2 hS12 rfl ?_
          intro A14 w13 hS13
          have hS13 : St w2 w13 (CkC 87 A14 0 0 [] :: CkC 87 A13 (1 + (es.length - a)) c13 ([⟨⟨A11, n, c11⟩, 1⟩] ++ (es.map CE.cv).drop a) :: CkI 2 A11 n c11 (cntF ms[i].xss) :: CkC 87 B es.length cB (es.map CE.cv) :: es.map (CE.ck 2)) := hS13
          refine Ops.mv_sl rfl rfl rfl ?_
          refine Ops.mv_int rfl rfl rfl ?_
          -- stop: SLICE 57 t82 none some t83 none -> 84
          refine Ops.cut_h2 (A := B) (n := es.length) (c := cB) (h := (a : Int)) rfl rfl rfl (by omega) ?_
          refine Ops.app2 0 hS13 rfl ((hS13.rdC 3 rfl).take (l := a) ha) rfl rfl rfl (by omega) (by omega) rfl ?_
          intro A15 c15 w14 hS14
          refine Ops.mv_sl rfl rfl rfl ?_
          -- stop: BUILTIN append(t85, t86) -> 87
          refine Ops.app2 0 hS14 rfl (hS14.rdC 1 rfl) rfl rfl rfl (by omega) (by omega) rfl ?_
          intro A16 c16 w15 hS15
          refine Ops.mv_sl rfl rfl rfl ?_
          refine Ops.nil ?_
          refine blockQ_n ?_
          refine thenQ_n ?_
          refine Cd.region ?_
          refine Ops.mv_int rfl rfl rfl ?_
          refine Ops.add rfl rfl rfl (by omega) ?_
          refine Ops.mv_int rfl rfl rfl ?_
          refine Ops.nil ?_
          refine thenQ_n ?_
          -- stop: round
          have e1 : 0 + a + (1 + (es.length - a)) = (insE ⟨⟨A11, n, c11⟩, cntF ms[i].xss, 1⟩ a es).length := by rw [(insE_perm _ _ _).length_eq, List.length_cons]; omega
          have e2 : (([] : List CV) ++ (es.map CE.cv).take a) ++ ([⟨⟨A11, n, c11⟩, 1⟩] ++ (es.map CE.cv).drop a) = (insE ⟨⟨A11, n, c11⟩, cntF ms[i].xss, 1⟩ a es).map CE.cv := by simp [insE, List.map_take, List.map_drop, CE.cv]
          have e3 : (insE ⟨⟨A11, n, c11⟩, cntF ms[i].xss, 1⟩ a es).map CE.pr = (es.map CE.pr).take a ++ (cntF ms[i].xss, 1) :: (es.map CE.pr).drop a := by simp [insE, List.map_take, List.map_drop, CE.pr]
          have hS16 : St w2 w15 (CkC 87 A16 (0 + a + (1 + (es.length - a))) c16 (([] ++ (es.map CE.cv).take a) ++ ([⟨⟨A11, n, c11⟩, 1⟩] ++ (es.map CE.cv).drop a)) :: CkC 87 A13 (1 + (es.length - a)) c13 ([⟨⟨A11, n, c11⟩, 1⟩] ++ (es.map CE.cv).drop a) :: CkI 2 A11 n c11 (cntF ms[i].xss) :: CkC 87 B es.length cB (es.map CE.cv) :: es.map (CE.ck 2)) := hS15
          have hS17 := hS16.sub (List.Sublist.cons_cons _ ((List.Sublist.cons_cons _ (List.sublist_cons_self _ _)).cons _))
          rw [e1, e2] at hS17
          refine ⟨(i + 1, A16, c16, insE ⟨⟨A11, n, c11⟩, cntF ms[i].xss, 1⟩ a es), by show ms.length - (i + 1) < ms.length - i; omega, ⟨rfl, by show Value.slice _ _ _ = .slice _ _ _; rw [← e1], rfl, trivial⟩, hS17.perm (List.Perm.cons _ ((insE_perm ⟨⟨A11, n, c11⟩, cntF ms[i].xss, 1⟩ a es).map (CE.ck 2)).symm), by show i + 1 ≤ ms.length; omega, by show (insE _ a es).length ≤ i + 1; rw [← e1]; omega, ?_⟩
          show (insE _ a es).map CE.pr = _
          rw [hsn, e3, hfin]
    · refine Cd.exit ?_
      refine thenQ_x ?_
      refine thenQ_x ?_
      refine blockQ_x ?_
      refine thenQ_n ?_
      refine Cd.seq ?_
      refine Cd.region ?_
      refine Ops.mv_sl rfl rfl rfl ?_
      refine Ops.mv_sl rfl rfl rfl ?_
      refine Ops.mv_int rfl rfl rfl ?_
      refine Ops.nil ?_
      refine thenQ_n ?_
      refine Cd.ret ?_
      refine ret2_si rfl rfl ?_
      -- stop: end
      have hie : i = ms.length := by omega
      rw [hie, List.take_of_length_le (by simp)] at hR
      have e2 : lstK (n : Int) (F : Int) = 0 := by rw [lstK, if_pos hs]
      rw [e2]
      exact ⟨B, cB, es, rfl, by rw [hR, cnR, hlI, hL], (hS.call hS4).sub (List.sublist_append_left _ _)⟩
theorem lexC_ntrans {a b c : List Int} (h : ¬ lexC a b < 0) (h' : ¬ lexC b c < 0) : ¬ lexC a c < 0 := fun hac => by
  by_cases e : a = b
  · subst e; exact h' hac
  · exact h' (lexC_trans (lexC_tri h e) hac)
/-- the sort of a row of matrices, by their numbers of faces -/
theorem sortC_c {w0 w : World} {A : Option Addr} {c : Nat} {ms : List MatV} {ks : List Ck} (hok : ∀ m ∈ ms, m.ok) (hM : ∀ m ∈ ms, Mani m.xss) (hn : ms.length ≤ 4000000000000) (hS : St w0 w (CkR 24 A ms.length c (ms.map (·.top)) :: (ks ++ matsCk 33 2 ms))) :
    Ret Try.prog 81 [.slice A ms.length c, .func (.func 82) #[] #[]] w (fun v w' => v = .tuple #[] ∧ ∃ ms' : List MatV, ms'.Perm ms ∧ ((ms'.map (·.xss)).map cntF).Pairwise (fun a b => ¬ lexC b a < 0) ∧
      St w0 w' (CkR 24 A ms'.length c (ms'.map (·.top)) :: (ks ++ matsCk 33 2 ms'))) := by
  refine Ret.mono (sortF_c 0 hS rfl hn 82 (fun a b => lexC (cntF (mv ms a).xss) (cntF (mv ms b).xss)) (fun a b c _ _ _ => ⟨?_, fun h h' => lexC_trans h h', fun h h' => lexC_ntrans h h'⟩) (fun w' q hq hqn hW a b ha hb => ?_)) ?_
  · rw [lexC_zero.2 rfl]; omega
  · have hr : ∀ j, j < ms.length → RowsI w' (mv ms j).top.a (mv ms j).top.n (mv ms j).rs (mv ms j).xss := fun j hj => by
      have hm := mv_mem hj
      exact hW.matAt (c := (mv ms j).top.c) (t1 := 33) (t2 := 2) (((MatV.sub_ hm).trans (List.sublist_append_right _ _)).trans (List.sublist_cons_self _ _)) (hok _ hm)
    rw [sv_top, sv_top]
    exact censusOf1_c _ _ _ _ _ _ _ _ _ _ _ (hr a ha) (hr b hb) (hM _ (mv_mem ha)) (hM _ (mv_mem hb))
  · rintro v w' ⟨hv, q, hp, hs, hW⟩
    have hp2 : (q.map (mv ms)).Perm ms := by have := hp.map (mv ms); rwa [mv_range] at this
    refine ⟨hv, q.map (mv ms), hp2, ?_, ?_⟩
    · rw [List.map_map, List.map_map, List.pairwise_map]
      exact hs
    · have e1 : q.map (sv (ms.map (·.top))) = (q.map (mv ms)).map (·.top) := by
        rw [List.map_map]
        exact List.map_congr_left fun j _ => sv_top ms j
      rw [e1] at hW
      have hW : St w0 w' (CkR 24 A ms.length c ((q.map (mv ms)).map (·.top)) :: (ks ++ matsCk 33 2 ms)) := hW
      rw [hp2.length_eq]
      exact hW.perm (List.Perm.cons _ (List.Perm.append_left _ (matsCk_perm hp2.symm)))
theorem implCensusOf_c (rank flags : Int) (w : World) : Ret Try.prog 47 [.int .i64 rank, .int .i64 flags] w (AnsC (cnR rank flags) (lstK rank flags) w) := by
  have hlst := lst_len rank flags
  refine Ret.of_cd Try.func47 rfl Try.ntmps47 rfl (post2 rfl) ?_
  refine Cd.seq ?_
  refine Cd.region ?_
  refine Ops.mv_sl rfl rfl rfl ?_
  refine Ops.mv_int rfl rfl rfl ?_
  refine Ops.nil ?_
  refine thenQ_n ?_
  refine Cd.seq ?_
  refine Cd.region ?_
  refine Ops.mv_int rfl rfl rfl ?_
  refine Ops.mv_int rfl rfl rfl ?_
  -- stop: CALL impl.allManiplexes(t14, t15) -> 16
  refine Ops.call (allManiplexes_c rank flags _) rfl rfl rfl ?_
  rintro _ w2 ⟨A, c, ms0, rfl, hL, hok, hS⟩
  refine Ops.mv_tup rfl rfl rfl ?_
  refine Ops.extract rfl rfl rfl ?_
  refine Ops.extract rfl rfl rfl ?_
  refine Ops.mv_sl rfl rfl rfl ?_
  refine Ops.mv_int rfl rfl rfl ?_
  refine Ops.nil ?_
  refine thenQ_n ?_
  refine Cd.seq ?_
  refine Cd.seq ?_
  refine Cd.region ?_
  refine Ops.mv_int rfl rfl rfl ?_
  refine Ops.neq rfl rfl rfl ?_
  refine Ops.nil ?_
  refine thenQ_n ?_
  -- stop: cond
  refine Cd.cond_p _ rfl (fun h => ?_) (fun h => ?_)
  · have hs : ¬ Small rank flags := fun hs => h (by rw [lstK, if_pos hs])
    refine Cd.seq ?_
    refine Cd.region ?_
    refine Ops.mv_int rfl rfl rfl ?_
    refine Ops.mv_sl rfl rfl rfl ?_
    refine Ops.mv_int rfl rfl rfl ?_
    refine Ops.nil ?_
    refine thenQ_n ?_
    refine Cd.ret ?_
    refine thenQ_r ?_
    refine ret2_si rfl rfl ?_
    -- stop: end
    rw [cnR, lstI, if_neg hs]
    exact AnsC.none hS
  · have hs : Small rank flags := Classical.byContradiction fun hs => h (by rw [lstK, if_neg hs]; decide)
    obtain ⟨n, rfl⟩ : ∃ n : Nat, rank = n := ⟨rank.toNat, by have := hs.1; omega⟩
    obtain ⟨F, rfl⟩ : ∃ F : Nat, flags = F := ⟨flags.toNat, by have := hs.2; omega⟩
    have hs1 := hs.1
    have hs2 := hs.2
    have hlI : lstI (n : Int) (F : Int) = listL n F := by rw [lstI, if_pos hs, Int.toNat_natCast, Int.toNat_natCast]
    have hml0 : ms0.length = (lstI (n : Int) (F : Int)).length := by rw [← hL, List.length_map]
    have hel0 : ∀ m ∈ ms0, Mani m.xss ∧ m.top.n = n := fun m hm => by
      have hm' : m.xss ∈ listL n F := by rw [← hlI, ← hL]; exact List.mem_map_of_mem (f := (·.xss)) hm
      obtain ⟨h3, h4⟩ := forms_mani (by omega) (by omega) (listL_mem.1 hm').1
      have ho := hok _ hm
      unfold MatV.ok at ho
      exact ⟨h3, by rw [← ho]; exact h4.shp.1⟩
    refine Cd.skip ?_
    refine thenQ_n ?_
    refine Cd.seq ?_
    refine Cd.region ?_
    refine Ops.mv_sl rfl rfl rfl ?_
    -- stop: CALL impl.Maniplex](t22, impl.CensusOf$1) -> 23
    refine Ops.call (sortC_c (ks := []) hok (fun m hm => (hel0 m hm).1) (by omega) hS) rfl rfl rfl ?_
    rintro _ w3 ⟨rfl, ms, hp, hsort, hS3⟩
    rw [← hp.length_eq] at hml0 ⊢
    have hok' : ∀ m ∈ ms, m.ok := fun m hm => hok m (hp.mem_iff.1 hm)
    have hel : ∀ (j : Nat) (hj : j < ms.length), Mani ms[j].xss ∧ ms[j].top.n = n := fun j hj => hel0 _ (hp.mem_iff.1 (List.getElem_mem hj))
    have hMs := hS3.msR (A := A) (c := c) hok' (by rw [List.nil_append]; exact List.Sublist.refl _)
    have hS4 : St w3 w3 (CkC 87 none ([] : List CE).length 0 (([] : List CE).map CE.cv) :: ([] : List CE).map (CE.ck 2)) := (St.refl w3).nil _
    refine Ops.nil ?_
    refine thenQ_n ?_
    refine Cd.seq ?_
    refine Cd.region ?_
    refine Ops.mv_sl rfl rfl rfl ?_
    refine Ops.nil ?_
    refine thenQ_n ?_
    refine Cd.seq ?_
    refine Cd.seq ?_
    refine Cd.region ?_
    refine Ops.mv_sl rfl rfl rfl ?_
    refine Ops.len rfl rfl ?_
    refine Ops.mv_int rfl rfl rfl ?_
    refine Ops.nil ?_
    refine thenQ_n ?_
    refine Cd.block ?_
    -- stop: loop
    refine Cd.loop (α := Nat × Option Addr × Nat × List CE) (fun s => [(8, .slice s.2.1 s.2.2.2.length s.2.2.1), (24, .slice A ms.length c), (25, .int .i64 (ms.length : Int)), (26, .int .i64 (s.1 : Int))]) (fun s w' => St w3 w' (CkC 87 s.2.1 s.2.2.2.length s.2.2.1 (s.2.2.2.map CE.cv) :: s.2.2.2.map (CE.ck 2)) ∧ s.1 ≤ ms.length ∧ s.2.2.2.length ≤ s.1 ∧ CenOf (s.2.2.2.map CE.pr) (((ms.map (·.xss)).map cntF).take s.1)) (fun s => ms.length - s.1) (0, none, 0, []) ⟨rfl, rfl, rfl, rfl, trivial⟩ ⟨hS4, Nat.zero_le _, Nat.le_refl _, CenOf.nil⟩ ?_
    rintro ⟨i, B, cB, es⟩ e w4 ⟨hS4, hi, hel4, hcen⟩
    dsimp only at hS4 hi hel4 hcen ⊢
    refine Cd.seq ?_
    refine Cd.region ?_
    refine Ops.lss rfl rfl rfl ?_
    refine Ops.nil ?_
    refine thenQ_n ?_
    refine Cd.seq ?_
    -- stop: cond
    refine Cd.cond_p _ rfl (fun h1 => ?_) (fun h1 => ?_)
    · have hi' : i < ms.length := by omega
      obtain ⟨hM, htn⟩ := hel i hi'
      have hM4 := hMs.later hS4.below
      have ht := top_at hi'
      have hci : i < ((ms.map (·.xss)).map cntF).length := by simpa using hi'
      have hgi : ((ms.map (·.xss)).map cntF)[i] = cntF ms[i].xss := by rw [List.getElem_map, List.getElem_map]
      have htk : ((ms.map (·.xss)).map cntF).take (i + 1) = ((ms.map (·.xss)).map cntF).take i ++ [cntF ms[i].xss] := by rw [List.take_succ_eq_append_getElem hci, hgi]
      have hcl : (((ms.map (·.xss)).map cntF).take i).length ≤ 4000000000000 := by simp; omega
      have hfront : ∀ y ∈ ((ms.map (·.xss)).map cntF).take i, ¬ lexC (cntF ms[i].xss) y < 0 := fun y hy => by
        obtain ⟨j, hj, rfl⟩ := List.mem_iff_getElem.1 hy
        rw [List.length_take] at hj
        have := (List.pairwise_iff_getElem.1 hsort) j i (by omega) hci (by omega)
        rw [List.getElem_take]
        rwa [hgi] at this
      refine Cd.skip ?_
      refine thenQ_n ?_
      refine Cd.seq ?_
      refine Cd.block ?_
      refine Cd.seq ?_
      refine Cd.region ?_
      -- stop: INDEXADDR 51 t24 t26 -> 28
      refine Ops.idx hM4.top.2 rfl rfl rfl (by omega) (by omega) ?_
      refine Ops.ld_ag hM4.top rfl (by omega) rfl ?_
      rw [ht, htn]
      refine Ops.new1 hS4 rfl ?_
      intro A10 w5 hS5
      refine Ops.st_agg 1 0 hS5 rfl rfl rfl rfl rfl rfl rfl ?_
      intro w6 hS6
      have hS6 : St w3 w6 (Bx 24 1 A10 [.slice ms[i].top.a n ms[i].top.c] :: CkC 87 B es.length cB (es.map CE.cv) :: es.map (CE.ck 2)) := hS6
      have ha6 := (hMs.later hS6.below).at_ hi'
      rw [ht] at ha6
      rw [htn] at ha6
      refine Ops.nil ?_
      refine thenQ_n ?_
      refine Cd.seq ?_
      refine Cd.region ?_
      -- stop: CALL impl.Maniplex).faceCounts(t10=m) -> 30
      refine Ops.call (faceCounts_c A10 ms[i].top.a n ms[i].top.c ms[i].rs ms[i].xss _ (Rd.one (hS6.rd 0 rfl)) ha6 hM) rfl rfl rfl ?_
      rintro _ w7 ⟨A11, c11, rfl, hst7⟩
      have hS7 : St w3 w7 (CkI 2 A11 n c11 (cntF ms[i].xss) :: CkC 87 B es.length cB (es.map CE.cv) :: es.map (CE.ck 2)) := (hS6.call hst7).sub (List.Sublist.cons_cons _ (List.sublist_cons_self _ _))
      have hcx : n ≤ c11 ∧ c11 ≤ maxLen := hS7.cap 0 rfl
      refine Ops.mv_sl rfl rfl rfl ?_
      refine Ops.nil ?_
      refine thenQ_n ?_
      refine Cd.seq ?_
      refine Cd.region ?_
      refine Ops.mv_sl rfl rfl rfl ?_
      refine Ops.len rfl rfl ?_
      refine Ops.sub rfl rfl rfl (by omega) ?_
      refine Ops.mv_int rfl rfl rfl ?_
      refine Ops.nil ?_
      refine thenQ_n ?_
      refine Cd.seq ?_
      refine Cd.region ?_
      refine Ops.mv_int rfl rfl rfl ?_
      refine Ops.geq rfl rfl rfl ?_
      refine Ops.mv_bool rfl rfl rfl ?_
      -- stop: guard 36
      refine Ops.split_p 36 rfl (fun hlt => ?_) (fun hlt => ?_)
      · obtain ⟨a, hea⟩ : ∃ a, es.length = a + 1 := ⟨es.length - 1, by omega⟩
        rw [show ((es.length : Nat) : Int) - 1 = ((a : Nat) : Int) by omega]
        have hal : a < es.length := by omega
        have hC := hS7.rdC 1 rfl
        have hCa := hC.at_ (j := a) (by omega)
        have hcv : (es.map CE.cv)[a]'(by simpa using hal) = ⟨es[a].s, es[a].v⟩ := by rw [List.getElem_map]; rfl
        rw [hcv] at hCa
        have hx6 := hS7.rdI 0 rfl
        have hy6 := hS7.rdI (a + 2) (by exact CE.get hal)
        have hcy := hS7.cap (a + 2) (CE.get hal)
        dsimp only [CkI] at hcy
        have hyn : es[a].s.n ≤ 9223372036854775807 := by have h1 := hcy.1; have h2 := hcy.2; simp only [maxLen] at h2; omega
        have hpa : (es.map CE.pr)[a]'(by simpa using hal) = (es[a].xs, es[a].v) := by rw [List.getElem_map]; rfl
        have hnum := cen_num hcen (by rw [← hpa]; exact List.getElem_mem _)
        have hpr : es.map CE.pr = (es.map CE.pr).take a ++ [(es[a].xs, es[a].v)] := by
          conv => lhs; rw [← List.take_append_drop a (es.map CE.pr)]
          rw [List.drop_eq_getElem_cons (by rw [List.length_map]; omega), hpa, List.drop_of_length_le (by rw [List.length_map]; omega)]
        refine Ops.rung rfl rfl rfl ?_
        refine Ops.mv_sl rfl rfl rfl ?_
        refine Ops.rung rfl rfl rfl ?_
        refine Ops.mv_int rfl rfl rfl ?_
        refine Ops.rung rfl rfl rfl ?_
        -- stop: INDEXADDR 57 t37 t38 -> 39
        refine Ops.idx2 hC rfl rfl rfl (by omega) (by omega) ?_
        refine Ops.rung rfl rfl rfl ?_
        -- stop: FIELDADDR 87 t39 0 -> 40
        refine Ops.fld hCa rfl rfl rfl rfl inferInstance ?_
        refine Ops.rung rfl rfl rfl ?_
        -- stop: LOAD 33 t40 -> 41
        refine Ops.ldf_s (j := 0) hCa rfl rfl rfl rfl rfl ?_
        refine Ops.rung rfl rfl rfl ?_
        refine Ops.mv_sl rfl rfl rfl ?_
        refine Ops.rung rfl rfl rfl ?_
        -- stop: CALL slices.Equal[[]int64,int64](t41, t42) -> 43
        refine Ops.call (Equal_c es[a].s.a es[a].s.n es[a].s.c es[a].xs A11 n c11 (cntF ms[i].xss) _ hy6 hx6 hyn) rfl rfl rfl ?_
        rintro _ w8 ⟨rfl, hst8⟩
        have hS8 := hS7.later hst8.below
        refine Ops.pick_t rfl rfl rfl ?_
        refine Ops.nil ?_
        refine thenQ_n ?_
        -- stop: cond
        refine Cd.cond_p _ rfl (fun h5 => ?_) (fun h5 => ?_)
        · have hC := hS8.rdC 1 rfl
          have hCa := hC.at_ (j := a) (by omega)
          rw [hcv] at hCa
          refine Cd.region ?_
          refine Ops.mv_sl rfl rfl rfl ?_
          refine Ops.mv_int rfl rfl rfl ?_
          -- stop: INDEXADDR 57 t45 t46 -> 47
          refine Ops.idx2 hC rfl rfl rfl (by omega) (by omega) ?_
          refine Ops.fld hCa rfl rfl rfl rfl inferInstance ?_
          refine Ops.ldf_i (j := 1) (i := es[a].v) hCa rfl rfl rfl rfl rfl ?_
          refine Ops.add rfl rfl rfl (by omega) ?_
          -- stop: INDEXADDR 57 t45 t46 -> 51
          refine Ops.idx2 hC rfl rfl rfl (by omega) (by omega) ?_
          refine Ops.fld hCa rfl rfl rfl rfl inferInstance ?_
          refine Ops.stf (j := 2 * a + 1) 1 hS8 rfl (by exact congrArg Value.pointer (ptrC _ _)) rfl rfl (by rw [Nat.blt_eq]; show 2 * a + 1 < 2 * es.length; omega) ?_
          intro w9 hS9
          have hS9 := (St.incC (i := 1) (cs := es.map CE.cv) (by simpa using hal) hS9).tail
          rw [hcv] at hS9
          have hsp := CE.set_pr hal (es[a].v + 1)
          refine Ops.nil ?_
          refine blockQ_n ?_
          refine thenQ_n ?_
          refine Cd.region ?_
          refine Ops.add rfl rfl rfl (by omega) ?_
          refine Ops.mv_int rfl rfl rfl ?_
          refine Ops.nil ?_
          refine thenQ_n ?_
          -- stop: round
          refine ⟨(i + 1, B, cB, es.set a ⟨es[a].s, es[a].xs, es[a].v + 1⟩), by show ms.length - (i + 1) < ms.length - i; omega, ⟨by show Value.slice _ _ _ = .slice _ _ _; rw [List.length_set], rfl, rfl, rfl, trivial⟩, ?_, by show i + 1 ≤ ms.length; omega, by show (es.set _ _).length ≤ i + 1; rw [List.length_set]; omega, ?_⟩
          · show St w3 w9 (CkC 87 B (es.set _ _).length cB ((es.set _ _).map CE.cv) :: (es.set _ _).map (CE.ck 2))
            rw [List.length_set, hsp.2, CE.set_ck hal]
            exact hS9
          · show CenOf ((es.set _ _).map CE.pr) _
            rw [hsp.1, htk, hpr, ← h5]
            have e5 : ((es.map CE.pr).take a ++ [(es[a].xs, es[a].v)]).set a (es[a].xs, es[a].v + 1) = (es.map CE.pr).take a ++ [(es[a].xs, es[a].v + 1)] := by
              rw [List.set_append_right _ _ (by rw [List.length_take, List.length_map]; omega)]
              congr 1
              rw [List.length_take, List.length_map, show a - min a es.length = 0 by omega]
              rfl
            rw [e5]
            exact CenOf.last (by rw [← hpr]; exact hcen)
        · have hmore : ∀ y ∈ es.map CE.pr, lexC y.1 (cntF ms[i].xss) < 0 := fun y hy => by
            have hlast : lexC es[a].xs (cntF ms[i].xss) < 0 := by
              have hm : (es[a].xs, es[a].v) ∈ es.map CE.pr := by rw [← hpa]; exact List.getElem_mem _
              exact lexC_tri (hfront _ ((hcen.2 _ _).1 hm).1) (fun e => h5 e.symm)
            have hsr := hcen.1
            rw [hpr] at hy hsr
            rcases List.mem_append.1 hy with hy | hy
            · exact lexC_trans ((List.pairwise_append.1 hsr).2.2 y hy (es[a].xs, es[a].v) (by simp)) hlast
            · simp only [List.mem_singleton] at hy
              subst hy
              exact hlast
          refine Cd.region ?_
          refine Ops.mv_sl rfl rfl rfl ?_
          refine Ops.mv_sl rfl rfl rfl ?_
          -- stop: BUILD 87 [('pair', [0, ('app', 'Go.Operand.tmp', [54])]), ('pair', [1, ('app', 'Go.Operand.const', [('app', 'Go.Value.int', ['Go.IntKind.i64', 1])])])] -> 55
          refine Ops.bld2c (by exact inferInstance) (by exact inferInstance) rfl rfl rfl rfl rfl rfl rfl ?_
          refine Ops.bs1_2 hS8 rfl rfl rfl ?_
          intro A12 w11 hS11
          refine Ops.app2 2 hS11 rfl (hS11.rdC 0 rfl) rfl rfl rfl (by omega) (by omega) rfl ?_
          intro A13 c13 w12 hS12
          have hS12 : St w3 w12 (CkC 87 A12 1 1 [⟨⟨A11, n, c11⟩, 1⟩] :: CkI 2 A11 n c11 (cntF ms[i].xss) :: CkC 87 A13 (es.length + 1) c13 (es.map CE.cv ++ [⟨⟨A11, n, c11⟩, 1⟩]) :: es.map (CE.ck 2)) := hS12
          have hl1 : (es ++ [(⟨⟨A11, n, c11⟩, cntF ms[i].xss, 1⟩ : CE)]).length = es.length + 1 := by simp
          refine Ops.mv_sl rfl rfl rfl ?_
          refine Ops.nil ?_
          refine blockQ_n ?_
          refine thenQ_n ?_
          refine Cd.region ?_
          refine Ops.add rfl rfl rfl (by omega) ?_
          refine Ops.mv_int rfl rfl rfl ?_
          refine Ops.nil ?_
          refine thenQ_n ?_
          -- stop: round
          refine ⟨(i + 1, A13, c13, es ++ [⟨⟨A11, n, c11⟩, cntF ms[i].xss, 1⟩]), by show ms.length - (i + 1) < ms.length - i; omega, ⟨by show Value.slice _ _ _ = .slice _ _ _; rw [hl1], rfl, rfl, rfl, trivial⟩, ?_, by show i + 1 ≤ ms.length; omega, by show (es ++ _).length ≤ i + 1; rw [hl1]; omega, ?_⟩
          · show St w3 w12 (CkC 87 A13 (es ++ _).length c13 ((es ++ _).map CE.cv) :: (es ++ _).map (CE.ck 2))
            rw [hl1, List.map_append, List.map_append]
            exact hS12.tail.perm (List.perm_append_comm (l₁ := [_]) (l₂ := _ :: es.map (CE.ck 2)))
          · show CenOf ((es ++ _).map CE.pr) _
            rw [htk, List.map_append]
            exact hcen.more hmore
      · have hes : es = [] := List.eq_nil_of_length_eq_zero (by omega)
        refine Ops.skipg rfl rfl rfl rfl rfl ?_
        refine Ops.skipg rfl rfl rfl rfl rfl ?_
        refine Ops.skipg rfl rfl rfl rfl rfl ?_
        refine Ops.skipg rfl rfl rfl rfl rfl ?_
        refine Ops.skipg rfl rfl rfl rfl rfl ?_
        refine Ops.skipg rfl rfl rfl rfl rfl ?_
        refine Ops.skipg rfl rfl rfl rfl rfl ?_
        refine Ops.pick_f rfl rfl rfl ?_
        refine Ops.nil ?_
        refine thenQ_n ?_
        -- stop: cond
        refine Cd.cond_f rfl ?_
        refine Cd.region ?_
        refine Ops.mv_sl rfl rfl rfl ?_
        refine Ops.mv_sl rfl rfl rfl ?_
        -- stop: BUILD 87 [('pair', [0, ('app', 'Go.Operand.tmp', [54])]), ('pair', [1, ('app', 'Go.Operand.const', [('app', 'Go.Value.int', ['Go.IntKind.i64', 1])])])] -> 55
        refine Ops.bld2c (by exact inferInstance) (by exact inferInstance) rfl rfl rfl rfl rfl rfl rfl ?_
        refine Ops.bs1_2 hS7 rfl rfl rfl ?_
        intro A12 w11 hS11
        refine Ops.app2 2 hS11 rfl (hS11.rdC 0 rfl) rfl rfl rfl (by omega) (by omega) rfl ?_
        intro A13 c13 w12 hS12
        have hS12 : St w3 w12 (CkC 87 A12 1 1 [⟨⟨A11, n, c11⟩, 1⟩] :: CkI 2 A11 n c11 (cntF ms[i].xss) :: CkC 87 A13 (es.length + 1) c13 (es.map CE.cv ++ [⟨⟨A11, n, c11⟩, 1⟩]) :: es.map (CE.ck 2)) := hS12
        have hl1 : (es ++ [(⟨⟨A11, n, c11⟩, cntF ms[i].xss, 1⟩ : CE)]).length = es.length + 1 := by simp
        refine Ops.mv_sl rfl rfl rfl ?_
        refine Ops.nil ?_
        refine blockQ_n ?_
        refine thenQ_n ?_
        refine Cd.region ?_
        refine Ops.add rfl rfl rfl (by omega) ?_
        refine Ops.mv_int rfl rfl rfl ?_
        refine Ops.nil ?_
        refine thenQ_n ?_
        -- stop: round
        refine ⟨(i + 1, A13, c13, es ++ [⟨⟨A11, n, c11⟩, cntF ms[i].xss, 1⟩]), by show ms.length - (i + 1) < ms.length - i; omega, ⟨by show Value.slice _ _ _ = .slice _ _ _; rw [hl1], rfl, rfl, rfl, trivial⟩, ?_, by show i + 1 ≤ ms.length; omega, by show (es ++ _).length ≤ i + 1; rw [hl1]; omega, ?_⟩
        · show St w3 w12 (CkC 87 A13 (es ++ _).length c13 ((es ++ _).map CE.cv) :: (es ++ _).map (CE.ck 2))
          rw [hl1, List.map_append, List.map_append]
          exact hS12.tail.perm (List.perm_append_comm (l₁ := [_]) (l₂ := _ :: es.map (CE.ck 2)))
        · show CenOf ((es ++ _).map CE.pr) _
          rw [htk, List.map_append]
          exact hcen.more (by rw [hes]; intro y hy; cases hy)
    · refine Cd.exit ?_
      refine thenQ_x ?_
      refine thenQ_x ?_
      refine blockQ_x ?_
      refine thenQ_n ?_
      refine Cd.seq ?_
      refine Cd.region ?_
      refine Ops.mv_sl rfl rfl rfl ?_
      refine Ops.mv_sl rfl rfl rfl ?_
      refine Ops.mv_int rfl rfl rfl ?_
      refine Ops.nil ?_
      refine thenQ_n ?_
      refine Cd.ret ?_
      refine ret2_si rfl rfl ?_
      -- stop: end
      have hie : i = ms.length := by omega
      rw [hie, List.take_of_length_le (by simp)] at hcen
      have e2 : lstK (n : Int) (F : Int) = 0 := by rw [lstK, if_pos hs]
      rw [e2]
      have hcen2 : CenOf (es.map CE.pr) ((lstI (n : Int) (F : Int)).map cntF) := by
        rw [← hL]
        exact hcen.perm ((hp.map _).map _)
      exact ⟨B, cB, es, rfl, hcen2.one (csS_cen _), (hS3.call hS4).sub (List.sublist_append_left _ _)⟩
end Go.Proofs.Ytgobjpcankaicaa.Vc
/-
  A census compared, marked and found marked; and the walk of the law on CensusOf. Conditions: as each states them.
-/
namespace Go.Proofs.Ytgobjpcankaicaa.Vc
open Go.RowKit

/-- a census, read -/
structure CsR (w : World) (A : Option Addr) (es : List CE) : Prop where
  top : RdC w A es.length (es.map CE.cv)
  row : ∀ e ∈ es, RdI w e.s.a e.s.n e.xs
theorem CsR.later {w w' : World} {A : Option Addr} {es : List CE} (h : CsR w A es) (hb : Below w.heap.size w w') : CsR w' A es := ⟨h.top.below hb, fun m hm => (h.row m hm).later hb⟩
theorem St.csR {w0 w : World} {A : Option Addr} {q : Nat} {es : List CE} {pre post : List Ck} (h : St w0 w (pre ++ (CkC 87 A es.length q (es.map CE.cv) :: (es.map (CE.ck 2) ++ post)))) : CsR w A es :=
  ⟨h.rdC (t := 87) (q := q) pre.length (by simp), fun m hm => by
    obtain ⟨j, hj, rfl⟩ := List.mem_iff_getElem.1 hm
    refine h.rdI (c := es[j].s.c) (t := 2) (pre.length + (j + 1)) ?_
    rw [List.getElem?_append_right (by omega), Nat.add_sub_cancel_left, List.getElem?_cons_succ, List.getElem?_append_left (by simpa using hj)]
    exact CE.get hj⟩
theorem CsR.at_ {w : World} {A : Option Addr} {es : List CE} (h : CsR w A es) {j : Nat} (hj : j < es.length) : Rd w (ptrAt A (j * 2)) 2 (fun m => [(es[j]).s.v, .int .i64 (es[j]).v].getD m undef) := by
  have h1 := h.top.at_ hj
  have hcv : (es.map CE.cv)[j]'(by simpa using hj) = ⟨es[j].s, es[j].v⟩ := by rw [List.getElem_map]; rfl
  rw [hcv] at h1
  exact h1

theorem eqCensus_c (A : Option Addr) (n c : Nat) (xs : List Int) (v : Int) (A' : Option Addr) (n' c' : Nat) (ys : List Int) (v' : Int) (w : World) (hR : RdI w A n xs) (hR' : RdI w A' n' ys) (hn : n ≤ 9223372036854775807) :
    Ret Try.prog 86 [.agg #[.slice A n c, .int .i64 v], .agg #[.slice A' n' c', .int .i64 v']] w (fun r w' => r = .bool (decide ((xs, v) = (ys, v'))) ∧ St w w' []) := by
  refine Ret.of_cd Try.func86 rfl Try.ntmps86 rfl (post1 rfl) ?_
  refine Cd.seq ?_
  refine Cd.region ?_
  -- stop: BOX 87 t0=a -> 2
  refine Ops.box2 (St.refl w) rfl rfl ?_
  intro Ab w1 hS1
  refine Ops.box2 hS1 rfl rfl ?_
  intro Ac w2 hS2
  refine Ops.mv_bool rfl rfl rfl ?_
  refine Ops.nil ?_
  refine thenQ_n ?_
  refine Cd.seq ?_
  refine Cd.seq ?_
  refine Cd.region ?_
  -- stop: FIELDADDR 87 t2=a 0 -> 5
  refine Ops.fld (hS2.rd 1 rfl) rfl rfl rfl rfl inferInstance ?_
  refine Ops.ldf_s (hS2.rd 1 rfl) rfl rfl rfl rfl rfl ?_
  refine Ops.fld (hS2.rd 0 rfl) rfl rfl rfl rfl inferInstance ?_
  refine Ops.ldf_s (hS2.rd 0 rfl) rfl rfl rfl rfl rfl ?_
  refine Ops.call (eqInt64S_c A n c xs A' n' c' ys _ (hS2.oldI hR) (hS2.oldI hR') hn) rfl rfl rfl ?_
  rintro _ w3 ⟨rfl, hst3⟩
  have hS3 := hS2.later hst3.below
  first | refine Ops.not_p rfl rfl ?_ | refine Ops.not rfl rfl ?_
  refine Ops.nil ?_
  refine thenQ_n ?_
  -- stop: cond
  refine Cd.cond_p _ rfl (fun h => ?_) (fun h => ?_)
  · refine Cd.seq ?_
    refine Cd.region ?_
    refine Ops.mv_bool rfl rfl rfl ?_
    refine Ops.nil ?_
    refine thenQ_n ?_
    refine Cd.ret ?_
    refine thenQ_r ?_
    refine ret1_b rfl ?_
    -- stop: end
    exact ⟨by rw [decide_eq_false (fun e : (xs, v) = (ys, v') => h (Prod.mk.inj e).1)], hS3.none⟩
  · refine Cd.skip ?_
    refine thenQ_n ?_
    refine Cd.seq ?_
    refine Cd.seq ?_
    refine Cd.region ?_
    -- stop: FIELDADDR 87 t2=a 1 -> 11
    refine Ops.fld (hS3.rd 1 rfl) rfl rfl rfl rfl inferInstance ?_
    refine Ops.ldf_i (j := 1) (hS3.rd 1 rfl) rfl rfl rfl rfl rfl ?_
    refine Ops.fld (hS3.rd 0 rfl) rfl rfl rfl rfl inferInstance ?_
    refine Ops.ldf_i (j := 1) (hS3.rd 0 rfl) rfl rfl rfl rfl rfl ?_
    refine Ops.neq rfl rfl rfl ?_
    refine Ops.nil ?_
    refine thenQ_n ?_
    -- stop: cond
    refine Cd.cond_p _ rfl (fun h2 => ?_) (fun h2 => ?_)
    · refine Cd.seq ?_
      refine Cd.region ?_
      refine Ops.mv_bool rfl rfl rfl ?_
      refine Ops.nil ?_
      refine thenQ_n ?_
      refine Cd.ret ?_
      refine thenQ_r ?_
      refine ret1_b rfl ?_
      -- stop: end
      exact ⟨by rw [decide_eq_false (fun e : (xs, v) = (ys, v') => h2 (Prod.mk.inj e).2)], hS3.none⟩
    · refine Cd.skip ?_
      refine thenQ_n ?_
      refine Cd.seq ?_
      refine Cd.region ?_
      refine Ops.mv_bool rfl rfl rfl ?_
      refine Ops.nil ?_
      refine thenQ_n ?_
      refine Cd.ret ?_
      refine ret1_b rfl ?_
      -- stop: end
      exact ⟨by rw [decide_eq_true (show (xs, v) = (ys, v') by rw [Classical.not_not.1 h, Classical.not_not.1 h2])], hS3.none⟩

theorem eqCensusS_c (A : Option Addr) (c : Nat) (es : List CE) (A' : Option Addr) (c' : Nat) (ds : List CE) (w : World) (hR : CsR w A es) (hR' : CsR w A' ds) (hn : es.length ≤ 9223372036854775807) (hcap : ∀ m ∈ es, m.s.n ≤ 9223372036854775807) :
    Ret Try.prog 48 [.slice A es.length c, .slice A' ds.length c'] w (fun v w' => v = .bool (decide (es.map CE.pr = ds.map CE.pr)) ∧ St w w' []) := by
  refine Ret.of_cd Try.func48 rfl Try.ntmps48 rfl (post1 rfl) ?_
  refine Cd.seq ?_
  refine Cd.region ?_
  refine Ops.mv_bool rfl rfl rfl ?_
  refine Ops.nil ?_
  refine thenQ_n ?_
  refine Cd.seq ?_
  refine Cd.seq ?_
  refine Cd.region ?_
  refine Ops.mv_sl rfl rfl rfl ?_
  refine Ops.len rfl rfl ?_
  refine Ops.mv_sl rfl rfl rfl ?_
  refine Ops.len rfl rfl ?_
  refine Ops.neq rfl rfl rfl ?_
  refine Ops.nil ?_
  refine thenQ_n ?_
  -- stop: cond
  refine Cd.cond_p _ rfl (fun h => ?_) (fun h => ?_)
  · refine Cd.seq ?_
    refine Cd.region ?_
    refine Ops.mv_bool rfl rfl rfl ?_
    refine Ops.nil ?_
    refine thenQ_n ?_
    refine Cd.ret ?_
    refine thenQ_r ?_
    refine ret1_b rfl ?_
    -- stop: end
    exact ⟨by rw [decide_eq_false (fun e : es.map CE.pr = ds.map CE.pr => h (by have := congrArg List.length e; simp at this; rw [this]))], St.refl _⟩
  refine Cd.skip ?_
  refine thenQ_n ?_
  refine Cd.seq ?_
  refine Cd.seq ?_
  refine Cd.region ?_
  refine Ops.mv_int rfl rfl rfl ?_
  refine Ops.nil ?_
  refine thenQ_n ?_
  refine Cd.block ?_
  -- stop: loop
  refine Cd.loop (α := Nat) (fun k => [(0, .slice A es.length c), (1, .slice A' ds.length c'), (5, .int .i64 (k : Int))]) (fun k w' => St w w' [] ∧ k ≤ es.length ∧ (es.map CE.pr).take k = (ds.map CE.pr).take k) (fun k => es.length - k) 0 ⟨rfl, rfl, rfl, trivial⟩ ⟨St.refl w, Nat.zero_le _, rfl⟩ ?_
  rintro k e w2 ⟨hS2, hk, hI⟩
  have hle : es.length = ds.length := by omega
  refine Cd.seq ?_
  refine Cd.seq ?_
  refine Cd.region ?_
  refine Ops.mv_int rfl rfl rfl ?_
  refine Ops.mv_sl rfl rfl rfl ?_
  refine Ops.len rfl rfl ?_
  refine Ops.lss rfl rfl rfl ?_
  refine Ops.nil ?_
  refine thenQ_n ?_
  -- stop: cond
  refine Cd.cond_p _ rfl (fun h1 => ?_) (fun h1 => ?_)
  · have hA := hR.later hS2.below
    have hB := hR'.later hS2.below
    have hk1 : k < es.length := by omega
    have hk2 : k < ds.length := by omega
    have ha := hA.at_ hk1
    have hb' := hB.at_ hk2
    have hra := hA.row _ (List.getElem_mem hk1)
    have hrb := hB.row _ (List.getElem_mem hk2)
    have hc := hcap _ (List.getElem_mem hk1)
    refine Cd.skip ?_
    refine thenQ_n ?_
    refine Cd.seq ?_
    refine Cd.block ?_
    refine Cd.seq ?_
    -- stop: draw
    refine Cd.draw [.ex (.slice (A) (es.length) (c)), .ex (.int .i64 ((k : Int))), .ex (.pointer (ptrAt A (k * 2))), .ex (.agg #[.slice es[k].s.a es[k].s.n es[k].s.c, .int .i64 es[k].v]), .ex (.slice (A') (ds.length) (c')), .ex (.int .i64 ((k : Int))), .ex (.pointer (ptrAt A' (k * 2))), .ex (.agg #[.slice ds[k].s.a ds[k].s.n ds[k].s.c, .int .i64 ds[k].v]), .ex (.bool (decide ((es[k].xs, es[k].v) = (ds[k].xs, ds[k].v)))), .ex (.bool (decide (¬ ((es[k].xs, es[k].v) = (ds[k].xs, ds[k].v)))))] (by kernel_rfl) (by kernel_rfl) rfl (List.forall_mem_cons.2 ⟨Yd.lasts_ex _, (List.forall_mem_cons.2 ⟨Yd.lasts_ex _, (List.forall_mem_cons.2 ⟨Yd.lasts_ex _, (List.forall_mem_cons.2 ⟨Yd.lasts_ex _, (List.forall_mem_cons.2 ⟨Yd.lasts_ex _, (List.forall_mem_cons.2 ⟨Yd.lasts_ex _, (List.forall_mem_cons.2 ⟨Yd.lasts_ex _, (List.forall_mem_cons.2 ⟨Yd.lasts_ex _, (List.forall_mem_cons.2 ⟨Yd.lasts_ex _, (List.forall_mem_cons.2 ⟨Yd.lasts_ex _, (fun _ h => by cases h)⟩)⟩)⟩)⟩)⟩)⟩)⟩)⟩)⟩)⟩) ⟨?_, ?_, ?_, ?_, ?_, ?_, ?_, ?_, ?_, ?_, trivial⟩ ?_
    · intro e1 w1 hb hp hun
      refine Ops.mv_sl rfl rfl rfl ?_
      refine Ops.nil ?_
      exact After.dn (Below.refl _ _) (by exact rfl)
    · intro e1 w1 hb hp hun
      refine Ops.mv_int rfl rfl rfl ?_
      refine Ops.nil ?_
      exact After.dn (Below.refl _ _) (by exact rfl)
    · intro e1 w1 hb hp hun
      refine Ops.idx2 (hA.top.below hb) rfl rfl rfl (by omega) (by omega) ?_
      refine Ops.nil ?_
      exact After.dn (Below.refl _ _) (by exact rfl)
    · intro e1 w1 hb hp hun
      refine Ops.ld_agg 1 (Rd.below ha hb) rfl rfl rfl ?_
      refine Ops.nil ?_
      exact After.dn (Below.refl _ _) (by exact rfl)
    · intro e1 w1 hb hp hun
      refine Ops.mv_sl rfl rfl rfl ?_
      refine Ops.nil ?_
      exact After.dn (Below.refl _ _) (by exact rfl)
    · intro e1 w1 hb hp hun
      refine Ops.mv_int rfl rfl rfl ?_
      refine Ops.nil ?_
      exact After.dn (Below.refl _ _) (by exact rfl)
    · intro e1 w1 hb hp hun
      refine Ops.idx2 (hB.top.below hb) rfl rfl rfl (by omega) (by omega) ?_
      refine Ops.nil ?_
      exact After.dn (Below.refl _ _) (by exact rfl)
    · intro e1 w1 hb hp hun
      refine Ops.ld_agg 1 (Rd.below hb' hb) rfl rfl rfl ?_
      refine Ops.nil ?_
      exact After.dn (Below.refl _ _) (by exact rfl)
    · intro e1 w1 hb hp hun
      refine Ops.call (eqCensus_c _ _ _ _ _ _ _ _ _ _ _ (hra.later hb) (hrb.later hb) hc) rfl rfl rfl ?_
      rintro _ w2 ⟨rfl, hst⟩
      refine Ops.nil ?_
      exact After.dn hst.below (by exact rfl)
    · intro e1 w1 hb hp hun
      refine Ops.not_p rfl rfl ?_
      refine Ops.nil ?_
      exact After.dn (Below.refl _ _) (by exact rfl)
    intro u w3 hb3 _
    have hS3 := hS2.later hb3
    refine thenQ_n ?_
    -- stop: cond
    refine Cd.cond_p _ rfl (fun h3 => ?_) (fun h3 => ?_)
    · refine Cd.seq ?_
      refine Cd.region ?_
      refine Ops.mv_bool rfl rfl rfl ?_
      refine Ops.nil ?_
      refine thenQ_n ?_
      refine Cd.ret ?_
      refine blockQ_r ?_
      refine thenQ_r ?_
      refine thenQ_r ?_
      refine blockQ_r ?_
      refine thenQ_r ?_
      refine ret1_b rfl ?_
      -- stop: end
      refine ⟨by rw [decide_eq_false (fun e : es.map CE.pr = ds.map CE.pr => h3 (by
        have := congrArg (fun l => l[k]?) e
        simpa [hk1, hk2, CE.pr] using this))], hS3⟩
    · refine Cd.skip ?_
      refine blockQ_n ?_
      refine thenQ_n ?_
      refine Cd.region ?_
      refine Ops.mv_int rfl rfl rfl ?_
      refine Ops.add rfl rfl rfl (by omega) ?_
      refine Ops.mv_int rfl rfl rfl ?_
      refine Ops.nil ?_
      refine thenQ_n ?_
      -- stop: round
      refine ⟨k + 1, by omega, ⟨rfl, rfl, rfl, trivial⟩, hS3, by omega, ?_⟩
      rw [List.take_succ_eq_append_getElem (by rw [List.length_map]; exact hk1), List.take_succ_eq_append_getElem (by rw [List.length_map]; exact hk2), hI, List.getElem_map, List.getElem_map]
      have h4 : CE.pr es[k] = CE.pr ds[k] := Classical.not_not.1 h3
      rw [h4]
  · refine Cd.exit ?_
    refine thenQ_x ?_
    refine thenQ_x ?_
    refine blockQ_x ?_
    refine thenQ_n ?_
    refine Cd.seq ?_
    refine Cd.region ?_
    refine Ops.mv_bool rfl rfl rfl ?_
    refine Ops.nil ?_
    refine thenQ_n ?_
    refine Cd.ret ?_
    refine ret1_b rfl ?_
    -- stop: end
    refine ⟨?_, hS2⟩
    rw [List.take_of_length_le (by rw [List.length_map]; omega), List.take_of_length_le (by rw [List.length_map]; omega)] at hI
    rw [decide_eq_true hI]

/-! marks -/
def totE (es : List CE) : Int := ((es.map fun e => e.s.n + 1).sum : Nat)
theorem totE_snoc (es : List CE) (m : CE) : totE (es ++ [m]) = totE es + (m.s.n : Int) + 1 := by simp [totE]; omega
theorem totE_cons (es : List CE) (m : CE) : totE (m :: es) = (m.s.n : Int) + 1 + totE es := by simp [totE]
theorem totE_le {b : Nat} : ∀ (es : List CE), (∀ m ∈ es, m.s.n ≤ b) → 0 ≤ totE es ∧ totE es ≤ (es.length * (b + 1) : Nat)
  | [], _ => by simp [totE]
  | m :: es, h => by
    have h1 := totE_le es (fun y hy => h y (by simp [hy]))
    have h2 := h m (by simp)
    rw [totE_cons, List.length_cons, Nat.succ_mul]
    omega
def mkE (k : Int) : List CE → List CE
  | [] => []
  | m :: es => ⟨m.s, marks k m.s.n, k + m.s.n⟩ :: mkE (k + m.s.n + 1) es
theorem mkE_len : ∀ (es : List CE) (k : Int), (mkE k es).length = es.length
  | [], _ => rfl
  | _ :: es, k => by simp [mkE, mkE_len es]
theorem mkE_at : ∀ {es : List CE} {k : Int} {i : Nat} (hi : i < es.length), (mkE k es)[i]? = some ⟨es[i].s, marks (k + totE (es.take i)) es[i].s.n, k + totE (es.take i) + es[i].s.n⟩
  | m :: es, k, 0, _ => by simp [mkE, totE]
  | m :: es, k, i + 1, h => by
    have h' : i < es.length := by simpa using h
    simp only [mkE, List.getElem?_cons_succ, List.getElem_cons_succ, List.take_succ_cons]
    rw [mkE_at h', totE_cons, show k + (m.s.n : Int) + 1 + totE (es.take i) = k + ((m.s.n : Int) + 1 + totE (es.take i)) by omega]
theorem CE.set_ck2 {t : TypeId} {es : List CE} {a : Nat} (ha : a < es.length) (xs : List Int) (v : Int) : (es.map (CE.ck t)).set a (CkI t es[a].s.a es[a].s.n es[a].s.c xs) = (es.set a ⟨es[a].s, xs, v⟩).map (CE.ck t) := by rw [List.map_set]; rfl

theorem markCensusS_c {w0 w : World} {A : Option Addr} {q : Nat} {es : List CE} {post : List Ck} (k : Int) (hS : St w0 w (CkC 87 A es.length q (es.map CE.cv) :: (es.map (CE.ck 2) ++ post))) (hsm : ∀ m ∈ es, m.s.n ≤ 4) (hn : es.length ≤ 4000000000000) (hk0 : 0 ≤ k ∧ k ≤ 1048576) :
    Ret Try.prog 49 [.slice A es.length q, .int .i64 k] w (fun v w' => v = .int .i64 (k + totE es) ∧ St w0 w' (CkC 87 A es.length q ((mkE k es).map CE.cv) :: ((mkE k es).map (CE.ck 2) ++ post))) := by
  refine Ret.of_cd Try.func49 rfl Try.ntmps49 rfl (post1 rfl) ?_
  refine Cd.seq ?_
  refine Cd.region ?_
  refine Ops.mv_int rfl rfl rfl ?_
  refine Ops.nil ?_
  refine thenQ_n ?_
  refine Cd.seq ?_
  refine Cd.seq ?_
  refine Cd.region ?_
  refine Ops.mv_int rfl rfl rfl ?_
  refine Ops.nil ?_
  refine thenQ_n ?_
  refine Cd.block ?_
  -- stop: loop
  refine Cd.loop (α := Nat × List CE) (fun s => [(0, .slice A es.length q), (1, .int .i64 (k + totE (es.take s.1))), (5, .int .i64 (s.1 : Int))]) (fun s w' => St w0 w' (CkC 87 A es.length q (s.2.map CE.cv) :: (s.2.map (CE.ck 2) ++ post)) ∧ s.1 ≤ es.length ∧ s.2.length = es.length ∧ (∀ j, j < s.1 → s.2[j]? = (mkE k es)[j]?) ∧ ∀ j, s.1 ≤ j → s.2[j]? = es[j]?) (fun s => es.length - s.1) (0, es) ⟨rfl, by show Value.int .i64 _ = .int .i64 _; simp [totE], rfl, trivial⟩ ⟨hS, Nat.zero_le _, rfl, fun j hj => absurd hj (Nat.not_lt_zero j), fun j _ => rfl⟩ ?_
  rintro ⟨i, L⟩ e w1 ⟨hS1, hi, hLl, hlo, hhi⟩
  dsimp only at hS1 hi hLl hlo hhi ⊢
  have htb := totE_le (b := 4) (es.take i) (fun m hm => hsm m (List.mem_of_mem_take hm))
  have htl : (es.take i).length ≤ 4000000000000 := by simp; omega
  refine Cd.seq ?_
  refine Cd.seq ?_
  refine Cd.region ?_
  refine Ops.mv_int rfl rfl rfl ?_
  refine Ops.mv_sl rfl rfl rfl ?_
  refine Ops.len rfl rfl ?_
  refine Ops.lss rfl rfl rfl ?_
  refine Ops.nil ?_
  refine thenQ_n ?_
  -- stop: cond
  refine Cd.cond_p _ rfl (fun h1 => ?_) (fun h1 => ?_)
  · have hi' : i < es.length := by omega
    have hiL : i < L.length := by omega
    have hm := hsm _ (List.getElem_mem hi')
    have hLi : L[i] = es[i] := by
      have := hhi i (Nat.le_refl _)
      rw [List.getElem?_eq_getElem hiL, List.getElem?_eq_getElem hi'] at this
      exact Option.some.inj this
    have hsn : totE (es.take (i + 1)) = totE (es.take i) + (es[i].s.n : Int) + 1 := by rw [List.take_succ_eq_append_getElem hi', totE_snoc]
    have hR1 : CsR w1 A L := by
      have := hS1
      rw [← hLl] at this
      exact St.csR (pre := []) this
    have ha := hR1.at_ hiL
    have htop := hR1.top
    rw [hLl] at htop
    rw [hLi] at ha
    refine Cd.skip ?_
    refine thenQ_n ?_
    refine Cd.seq ?_
    refine Cd.block ?_
    refine Cd.seq ?_
    refine Cd.region ?_
    refine Ops.mv_sl rfl rfl rfl ?_
    refine Ops.mv_int rfl rfl rfl ?_
    -- stop: INDEXADDR 57 t12 t13 -> 14
    refine Ops.idx2 htop rfl rfl rfl (by omega) h1 ?_
    refine Ops.fld ha rfl rfl rfl rfl inferInstance ?_
    refine Ops.ldf_s (j := 0) ha rfl rfl rfl rfl rfl ?_
    refine Ops.mv_int rfl rfl rfl ?_
    -- stop: CALL laws.markInt64S(t16, t17) -> 18
    refine Ops.call (markInt64S_c (i + 1) (A := es[i].s.a) (n := es[i].s.n) (c := es[i].s.c) (xs := L[i].xs) (t := 2) (k + totE (es.take i)) hS1 (by
      rw [List.getElem?_cons_succ, List.getElem?_append_left (by simpa using hiL), CE.get hiL, hLi]) (by omega)) rfl rfl rfl ?_
    rintro _ w2 ⟨rfl, hS2⟩
    rw [List.set_cons_succ, List.set_append_left _ _ (by simpa using hiL), ← hLi, CE.set_ck2 hiL (marks (k + totE (es.take i)) L[i].s.n) (k + totE (es.take i) + L[i].s.n)] at hS2
    rw [hLi] at hS2
    have hT2 := hS2.rdC 0 rfl
    have hT2a := hT2.at_ (j := i) hi'
    refine Ops.mv_int rfl rfl rfl ?_
    refine Ops.nil ?_
    refine thenQ_n ?_
    refine Cd.seq ?_
    refine Cd.region ?_
    refine Ops.mv_sl rfl rfl rfl ?_
    refine Ops.mv_int rfl rfl rfl ?_
    refine Ops.mv_int rfl rfl rfl ?_
    -- stop: INDEXADDR 57 t19 t20 -> 22
    refine Ops.idx2 hT2 rfl rfl rfl (by omega) h1 ?_
    skip
    -- stop: FIELDADDR 87 t22 1 -> 23
    refine Ops.fld hT2a rfl rfl rfl rfl inferInstance ?_
    refine Ops.stf (j := 2 * i + 1) 0 hS2 rfl (by exact congrArg Value.pointer (ptrC _ _)) rfl rfl (by rw [Nat.blt_eq]; show 2 * i + 1 < 2 * es.length; omega) ?_
    intro w3 hS3
    have hS3 := St.incC (i := 0) (cs := L.map CE.cv) (a := i) (by simpa using hiL) hS3
    have ecv : (L.map CE.cv).set i ⟨((L.map CE.cv)[i]'(by simpa using hiL)).s, k + totE (es.take i) + (es[i].s.n : Int)⟩ = (L.set i ⟨es[i].s, marks (k + totE (es.take i)) es[i].s.n, k + totE (es.take i) + es[i].s.n⟩).map CE.cv := by
      rw [List.map_set, List.getElem_map, hLi]; rfl
    rw [ecv] at hS3
    refine Ops.nil ?_
    refine thenQ_n ?_
    refine Cd.region ?_
    refine Ops.mv_int rfl rfl rfl ?_
    refine Ops.add rfl rfl rfl (by omega) ?_
    refine Ops.mv_int rfl rfl rfl ?_
    refine Ops.nil ?_
    refine blockQ_n ?_
    refine thenQ_n ?_
    refine Cd.region ?_
    refine Ops.mv_int rfl rfl rfl ?_
    refine Ops.add rfl rfl rfl (by omega) ?_
    refine Ops.mv_int rfl rfl rfl ?_
    refine Ops.nil ?_
    refine thenQ_n ?_
    -- stop: round
    refine ⟨(i + 1, L.set i ⟨es[i].s, marks (k + totE (es.take i)) es[i].s.n, k + totE (es.take i) + es[i].s.n⟩), by show es.length - (i + 1) < es.length - i; omega, ⟨rfl, by show Value.int .i64 _ = .int .i64 _; rw [hsn]; congr 1; omega, rfl, trivial⟩, hS3, hi', by show (L.set _ _).length = _; rw [List.length_set]; exact hLl, fun j hj => ?_, fun j hj => ?_⟩
    · show (L.set i _)[j]? = _
      rw [List.getElem?_set]
      by_cases ej : i = j
      · subst ej
        rw [if_pos rfl, if_pos hiL, mkE_at hi']
      · rw [if_neg ej]
        have hj : j < i + 1 := hj
        exact hlo j (by omega)
    · have hj : i + 1 ≤ j := hj
      show (L.set i _)[j]? = _
      rw [List.getElem?_set, if_neg (by omega)]
      exact hhi j (by omega)
  · refine Cd.exit ?_
    refine thenQ_x ?_
    refine thenQ_x ?_
    refine blockQ_x ?_
    refine thenQ_n ?_
    refine Cd.seq ?_
    refine Cd.region ?_
    refine Ops.mv_int rfl rfl rfl ?_
    refine Ops.mv_int rfl rfl rfl ?_
    refine Ops.nil ?_
    refine thenQ_n ?_
    refine Cd.ret ?_
    refine ret1_i rfl ?_
    -- stop: end
    have hin : i = es.length := by omega
    subst hin
    have hL : L = mkE k es := by
      apply List.ext_getElem?
      intro j
      by_cases hj : j < es.length
      · exact hlo j hj
      · rw [List.getElem?_eq_none (by omega), List.getElem?_eq_none (by rw [mkE_len]; omega)]
    subst hL
    rw [List.take_length]
    exact ⟨rfl, hS1⟩

theorem heldCensusS_c (A : Option Addr) (c : Nat) (es : List CE) (k : Int) (w : World) (hR : CsR w A (mkE k es)) (hsm : ∀ m ∈ es, m.s.n ≤ 4) (hn : es.length ≤ 4000000000000) (hk0 : 0 ≤ k ∧ k ≤ 1048576) :
    Ret Try.prog 50 [.slice A es.length c, .int .i64 k] w (fun v w' => v = .int .i64 (k + totE es) ∧ w' = w) := by
  have hT := hR.top
  rw [mkE_len] at hT
  refine Ret.of_cd Try.func50 rfl Try.ntmps50 rfl (post1 rfl) ?_
  refine Cd.seq ?_
  refine Cd.region ?_
  refine Ops.mv_int rfl rfl rfl ?_
  refine Ops.nil ?_
  refine thenQ_n ?_
  refine Cd.seq ?_
  refine Cd.seq ?_
  refine Cd.region ?_
  refine Ops.mv_int rfl rfl rfl ?_
  refine Ops.nil ?_
  refine thenQ_n ?_
  refine Cd.block ?_
  -- stop: loop
  refine Cd.loop (α := Nat) (fun i => [(0, .slice A es.length c), (1, .int .i64 (k + totE (es.take i))), (5, .int .i64 (i : Int))]) (fun i w' => w' = w ∧ i ≤ es.length) (fun i => es.length - i) 0 ⟨rfl, by show Value.int .i64 _ = .int .i64 _; simp [totE], rfl, trivial⟩ ⟨rfl, Nat.zero_le _⟩ ?_
  rintro i e w ⟨rfl, hi⟩
  have htb := totE_le (b := 4) (es.take i) (fun m hm => hsm m (List.mem_of_mem_take hm))
  have htl : (es.take i).length ≤ 4000000000000 := by simp; omega
  refine Cd.seq ?_
  refine Cd.seq ?_
  refine Cd.region ?_
  refine Ops.mv_int rfl rfl rfl ?_
  refine Ops.mv_sl rfl rfl rfl ?_
  refine Ops.len rfl rfl ?_
  refine Ops.lss rfl rfl rfl ?_
  refine Ops.nil ?_
  refine thenQ_n ?_
  -- stop: cond
  refine Cd.cond_p _ rfl (fun h1 => ?_) (fun h1 => ?_)
  · have hi' : i < es.length := by omega
    have hiM : i < (mkE k es).length := by rw [mkE_len]; exact hi'
    have hm := hsm _ (List.getElem_mem hi')
    have hsn : totE (es.take (i + 1)) = totE (es.take i) + (es[i].s.n : Int) + 1 := by rw [List.take_succ_eq_append_getElem hi', totE_snoc]
    have hMi : (mkE k es)[i] = ⟨es[i].s, marks (k + totE (es.take i)) es[i].s.n, k + totE (es.take i) + es[i].s.n⟩ := Option.some.inj ((List.getElem?_eq_getElem hiM).symm.trans (mkE_at hi'))
    have ha := hR.at_ hiM
    have hrow := hR.row _ (List.getElem_mem hiM)
    rw [hMi] at ha hrow
    refine Cd.skip ?_
    refine thenQ_n ?_
    refine Cd.seq ?_
    refine Cd.block ?_
    refine Cd.seq ?_
    refine Cd.region ?_
    refine Ops.mv_sl rfl rfl rfl ?_
    refine Ops.mv_int rfl rfl rfl ?_
    -- stop: INDEXADDR 57 t12 t13 -> 14
    refine Ops.idx2 hT rfl rfl rfl (by omega) h1 ?_
    refine Ops.fld ha rfl rfl rfl rfl inferInstance ?_
    refine Ops.ldf_s (j := 0) ha rfl rfl rfl rfl rfl ?_
    refine Ops.mv_int rfl rfl rfl ?_
    -- stop: CALL laws.heldInt64S(t16, t17) -> 18
    refine Ops.call (heldInt64S_c es[i].s.a es[i].s.n es[i].s.c (k + totE (es.take i)) _ hrow (by omega)) rfl rfl rfl ?_
    rintro _ w ⟨rfl, rfl⟩
    refine Ops.mv_int rfl rfl rfl ?_
    refine Ops.nil ?_
    refine thenQ_n ?_
    refine Cd.seq ?_
    refine Cd.seq ?_
    refine Cd.region ?_
    refine Ops.mv_int rfl rfl rfl ?_
    refine Ops.lss rfl rfl rfl ?_
    refine Ops.nil ?_
    refine thenQ_n ?_
    -- stop: cond
    refine Cd.cond_pf rfl (by omega) ?_
    refine Cd.skip ?_
    refine thenQ_n ?_
    refine Cd.seq ?_
    refine Cd.seq ?_
    refine Cd.region ?_
    refine Ops.mv_sl rfl rfl rfl ?_
    refine Ops.mv_int rfl rfl rfl ?_
    -- stop: INDEXADDR 57 t21 t22 -> 23
    refine Ops.idx2 hT rfl rfl rfl (by omega) h1 ?_
    refine Ops.fld ha rfl rfl rfl rfl inferInstance ?_
    refine Ops.ldf_i (j := 1) ha rfl rfl rfl rfl rfl ?_
    refine Ops.mv_int rfl rfl rfl ?_
    refine Ops.neq rfl rfl rfl ?_
    refine Ops.nil ?_
    refine thenQ_n ?_
    -- stop: cond
    refine Cd.cond_pf rfl (fun h => h rfl) ?_
    refine Cd.skip ?_
    refine thenQ_n ?_
    refine Cd.region ?_
    refine Ops.mv_int rfl rfl rfl ?_
    refine Ops.add rfl rfl rfl (by omega) ?_
    refine Ops.mv_int rfl rfl rfl ?_
    refine Ops.nil ?_
    refine blockQ_n ?_
    refine thenQ_n ?_
    refine Cd.region ?_
    refine Ops.mv_int rfl rfl rfl ?_
    refine Ops.add rfl rfl rfl (by omega) ?_
    refine Ops.mv_int rfl rfl rfl ?_
    refine Ops.nil ?_
    refine thenQ_n ?_
    -- stop: round
    exact ⟨i + 1, by show es.length - (i + 1) < es.length - i; omega, ⟨rfl, by show Value.int .i64 _ = .int .i64 _; rw [hsn]; congr 1; omega, rfl, trivial⟩, rfl, hi'⟩
  · refine Cd.exit ?_
    refine thenQ_x ?_
    refine thenQ_x ?_
    refine blockQ_x ?_
    refine thenQ_n ?_
    refine Cd.seq ?_
    refine Cd.region ?_
    refine Ops.mv_int rfl rfl rfl ?_
    refine Ops.mv_int rfl rfl rfl ?_
    refine Ops.nil ?_
    refine thenQ_n ?_
    refine Cd.ret ?_
    refine ret1_i rfl ?_
    -- stop: end
    have hin : i = es.length := by omega
    subst hin
    rw [List.take_length]
    exact ⟨rfl, rfl⟩

theorem insP_len (x : List Int) : ∀ R : Cs, (insP R x).length ≤ R.length + 1
  | [] => by simp [insP]
  | (y, n) :: R => by
    have := insP_len x R
    simp only [insP]
    split
    · simp only [List.length_cons]; omega
    · split <;> simp
theorem csS_len (l : List (List Int)) : (csS l).length ≤ l.length := by
  have key : ∀ r : List (List Int), (csS r.reverse).length ≤ r.length := fun r => by
    induction r with
    | nil => exact Nat.le_refl _
    | cons x r ih =>
      rw [List.reverse_cons, csS_snoc]
      have := insP_len x (csS r.reverse)
      simp only [List.length_cons]
      omega
  have := key l.reverse
  rwa [List.reverse_reverse, List.length_reverse] at this
theorem cnR_len (rank flags : Int) : (cnR rank flags).length ≤ 4000000000000 := by
  have h1 := csS_len ((lstI rank flags).map cntF)
  have h2 := lst_len rank flags
  rw [List.length_map] at h1
  unfold cnR
  omega
theorem cnR_small {rank flags : Int} {p : List Int × Int} (h : p ∈ cnR rank flags) : p.1.length ≤ 4 := by
  obtain ⟨y, n⟩ := p
  have h1 := (((csS_cen ((lstI rank flags).map cntF)).2 y n).1 h).1
  obtain ⟨m, hm, rfl⟩ := List.mem_map.1 h1
  show (cntF m).length ≤ 4
  rw [cntF_len]
  exact (lst_small hm).2.2.2.1
theorem CsR.small {w : World} {A : Option Addr} {es : List CE} {rank flags : Int} (h : CsR w A es) (hL : es.map CE.pr = cnR rank flags) : ∀ m ∈ es, m.s.n ≤ 4 := fun m hm => by
  rw [← (h.row m hm).1]
  exact cnR_small (p := CE.pr m) (by rw [← hL]; exact List.mem_map_of_mem hm)

theorem FnExactCensusOf_c (rank flags : Int) (w : World) : Ret Try.prog 12 [.int .i64 rank, .int .i64 flags] w (fun v w' => v = .bool true ∧ St w w' []) := by
  have hlen := cnR_len rank flags
  refine Ret.of_cd Try.func12 rfl Try.ntmps12 rfl (post1 rfl) ?_
  refine Cd.seq ?_
  refine Cd.region ?_
  refine Ops.mv_bool rfl rfl rfl ?_
  refine Ops.nil ?_
  refine thenQ_n ?_
  refine Cd.seq ?_
  refine Cd.region ?_
  refine Ops.mv_int rfl rfl rfl ?_
  refine Ops.mv_int rfl rfl rfl ?_
  -- stop: CALL spec.CensusOf(t14, t15) -> 16
  refine Ops.call (specCensusOf_c rank flags _) rfl rfl rfl ?_
  rintro _ w1 ⟨A0, c0, es0, rfl, hL0, hS1⟩
  have hl0 : es0.length = (cnR rank flags).length := by rw [← hL0, List.length_map]
  refine Ops.mv_tup rfl rfl rfl ?_
  refine Ops.extract rfl rfl rfl ?_
  refine Ops.extract rfl rfl rfl ?_
  refine Ops.mv_sl rfl rfl rfl ?_
  refine Ops.mv_int rfl rfl rfl ?_
  refine Ops.nil ?_
  refine thenQ_n ?_
  refine Cd.seq ?_
  refine Cd.region ?_
  refine Ops.mv_int rfl rfl rfl ?_
  refine Ops.mv_int rfl rfl rfl ?_
  -- stop: CALL impl.CensusOf(t20, t21) -> 22
  refine Ops.call (implCensusOf_c rank flags _) rfl rfl rfl ?_
  rintro _ w2 ⟨A1, c1, es1, rfl, hL1, hS2⟩
  have hl1 : es1.length = (cnR rank flags).length := by rw [← hL1, List.length_map]
  have hS2 : St w w2 (CkC 87 A1 es1.length c1 (es1.map CE.cv) :: (es1.map (CE.ck 2) ++ (CkC 87 A0 es0.length c0 (es0.map CE.cv) :: (es0.map (CE.ck 2) ++ [])))) := by
    rw [List.append_nil]; exact hS1.call hS2
  have hR1 : CsR w2 A1 es1 := St.csR (pre := []) hS2
  have hR0 : CsR w2 A0 es0 := St.csR (pre := CkC 87 A1 es1.length c1 (es1.map CE.cv) :: es1.map (CE.ck 2)) hS2
  have hsm1 := hR1.small hL1
  have hcap1 : ∀ m ∈ es1, m.s.n ≤ 9223372036854775807 := fun m hm => by have := hsm1 m hm; omega
  refine Ops.mv_tup rfl rfl rfl ?_
  refine Ops.extract rfl rfl rfl ?_
  refine Ops.extract rfl rfl rfl ?_
  refine Ops.mv_sl rfl rfl rfl ?_
  refine Ops.mv_int rfl rfl rfl ?_
  refine Ops.nil ?_
  refine thenQ_n ?_
  refine Cd.seq ?_
  refine Cd.seq ?_
  refine Cd.region ?_
  refine Ops.mv_sl rfl rfl rfl ?_
  refine Ops.mv_sl rfl rfl rfl ?_
  -- stop: CALL laws.eqCensusS(t25, t26) -> 27
  refine Ops.call (eqCensusS_c A1 c1 es1 A0 c0 es0 _ hR1 hR0 (by omega) hcap1) rfl rfl rfl ?_
  rintro _ w3 ⟨rfl, hst3⟩
  have hS3 := hS2.later hst3.below
  have e10 : es1.map CE.pr = es0.map CE.pr := by rw [hL0, hL1]
  first | refine Ops.not_p rfl rfl ?_ | refine Ops.not rfl rfl ?_
  refine Ops.mv_bool rfl rfl rfl ?_
  -- stop: guard 29
  refine Ops.split_p 29 rfl (fun h => absurd e10 h) (fun h => ?_) --f
  refine Ops.rung rfl rfl rfl ?_
  refine Ops.mv_int rfl rfl rfl ?_
  refine Ops.rung rfl rfl rfl ?_
  refine Ops.mv_int rfl rfl rfl ?_
  refine Ops.rung rfl rfl rfl ?_
  refine Ops.neq rfl rfl rfl ?_
  refine Ops.pick_f rfl rfl rfl ?_
  refine Ops.nil ?_
  refine thenQ_n ?_
  -- stop: cond
  refine Cd.cond_pf rfl (fun h => h rfl) ?_
  refine Cd.skip ?_
  refine thenQ_n ?_
  refine Cd.seq ?_
  refine Cd.region ?_
  refine Ops.mv_int rfl rfl rfl ?_
  refine Ops.nil ?_
  refine thenQ_n ?_
  refine Cd.seq ?_
  refine Cd.region ?_
  refine Ops.mv_sl rfl rfl rfl ?_
  refine Ops.mv_int rfl rfl rfl ?_
  -- stop: CALL laws.markCensusS(t34, t35) -> 36
  refine Ops.call (markCensusS_c 1 hS3 hsm1 (by omega) (by omega)) rfl rfl rfl ?_
  rintro _ w4 ⟨rfl, hS4⟩
  have hR4 : CsR w4 A1 (mkE 1 es1) := by
    refine St.csR (w0 := w) (q := c1) (pre := []) (post := CkC 87 A0 es0.length c0 (es0.map CE.cv) :: (es0.map (CE.ck 2) ++ [])) ?_
    rw [mkE_len]
    exact hS4
  have htb := totE_le (b := 4) es1 hsm1
  refine Ops.mv_int rfl rfl rfl ?_
  refine Ops.nil ?_
  refine thenQ_n ?_
  refine Cd.seq ?_
  refine Cd.region ?_
  refine Ops.mv_int rfl rfl rfl ?_
  refine Ops.nil ?_
  refine thenQ_n ?_
  refine Cd.seq ?_
  refine Cd.region ?_
  refine Ops.mv_sl rfl rfl rfl ?_
  refine Ops.mv_int rfl rfl rfl ?_
  -- stop: CALL laws.heldCensusS(t37, t38) -> 39
  refine Ops.call (heldCensusS_c A1 c1 es1 1 _ hR4 hsm1 (by omega) (by omega)) rfl rfl rfl ?_
  rintro _ w4 ⟨rfl, rfl⟩
  refine Ops.mv_int rfl rfl rfl ?_
  refine Ops.nil ?_
  refine thenQ_n ?_
  refine Cd.seq ?_
  refine Cd.seq ?_
  refine Cd.region ?_
  refine Ops.mv_int rfl rfl rfl ?_
  refine Ops.lss rfl rfl rfl ?_
  refine Ops.nil ?_
  refine thenQ_n ?_
  -- stop: cond
  refine Cd.cond_pf rfl (by omega) ?_
  refine Cd.skip ?_
  refine thenQ_n ?_
  refine Cd.seq ?_
  refine Cd.seq ?_
  refine Cd.region ?_
  refine Ops.mv_int rfl rfl rfl ?_
  refine Ops.mv_int rfl rfl rfl ?_
  refine Ops.neq rfl rfl rfl ?_
  refine Ops.nil ?_
  refine thenQ_n ?_
  -- stop: cond
  refine Cd.cond_pf rfl (fun h => h rfl) ?_
  refine Cd.skip ?_
  refine thenQ_n ?_
  refine Cd.seq ?_
  refine Cd.region ?_
  refine Ops.mv_int rfl rfl rfl ?_
  refine Ops.mv_int rfl rfl rfl ?_
  -- stop: CALL impl.CensusOf(t46, t47) -> 48
  refine Ops.call (implCensusOf_c rank flags _) rfl rfl rfl ?_
  rintro _ w5 ⟨A2, c2, es2, rfl, hL2, hS5⟩
  have hl2 : es2.length = (cnR rank flags).length := by rw [← hL2, List.length_map]
  have hR2 : CsR w5 A2 es2 := by
    refine St.csR (w0 := w4) (q := c2) (pre := []) (post := []) ?_
    rw [List.append_nil]
    exact hS5
  have hsm2 := hR2.small hL2
  have hcap2 : ∀ m ∈ es2, m.s.n ≤ 9223372036854775807 := fun m hm => by have := hsm2 m hm; omega
  have hR0' : CsR w5 A0 es0 := CsR.later (St.csR (pre := CkC 87 A1 es1.length c1 ((mkE 1 es1).map CE.cv) :: (mkE 1 es1).map (CE.ck 2)) (by exact hS4)) hS5.below
  refine Ops.mv_tup rfl rfl rfl ?_
  refine Ops.extract rfl rfl rfl ?_
  refine Ops.extract rfl rfl rfl ?_
  refine Ops.mv_sl rfl rfl rfl ?_
  refine Ops.mv_int rfl rfl rfl ?_
  refine Ops.nil ?_
  refine thenQ_n ?_
  refine Cd.seq ?_
  refine Cd.seq ?_
  refine Cd.region ?_
  refine Ops.mv_sl rfl rfl rfl ?_
  refine Ops.mv_sl rfl rfl rfl ?_
  -- stop: CALL laws.eqCensusS(t51, t52) -> 53
  refine Ops.call (eqCensusS_c A2 c2 es2 A0 c0 es0 _ hR2 hR0' (by omega) hcap2) rfl rfl rfl ?_
  rintro _ w6 ⟨rfl, hst6⟩
  have e20 : es2.map CE.pr = es0.map CE.pr := by rw [hL0, hL2]
  first | refine Ops.not_p rfl rfl ?_ | refine Ops.not rfl rfl ?_
  refine Ops.mv_bool rfl rfl rfl ?_
  -- stop: guard 55
  refine Ops.split_p 55 rfl (fun h => absurd e20 h) (fun h => ?_) --f
  refine Ops.rung rfl rfl rfl ?_
  refine Ops.mv_int rfl rfl rfl ?_
  refine Ops.rung rfl rfl rfl ?_
  refine Ops.mv_int rfl rfl rfl ?_
  refine Ops.rung rfl rfl rfl ?_
  refine Ops.neq rfl rfl rfl ?_
  refine Ops.pick_f rfl rfl rfl ?_
  refine Ops.nil ?_
  refine thenQ_n ?_
  -- stop: cond
  refine Cd.cond_pf rfl (fun h => h rfl) ?_
  refine Cd.skip ?_
  refine thenQ_n ?_
  refine Cd.seq ?_
  refine Cd.region ?_
  refine Ops.mv_int rfl rfl rfl ?_
  refine Ops.nil ?_
  refine thenQ_n ?_
  refine Cd.seq ?_
  refine Cd.region ?_
  refine Ops.mv_sl rfl rfl rfl ?_
  refine Ops.mv_int rfl rfl rfl ?_
  -- stop: CALL laws.heldCensusS(t60, t61) -> 62
  refine Ops.call (heldCensusS_c A1 c1 es1 1 _ ((hR4.later hS5.below).later hst6.below) hsm1 (by omega) (by omega)) rfl rfl rfl ?_
  rintro _ w6 ⟨rfl, rfl⟩
  refine Ops.mv_int rfl rfl rfl ?_
  refine Ops.nil ?_
  refine thenQ_n ?_
  refine Cd.seq ?_
  refine Cd.seq ?_
  refine Cd.region ?_
  refine Ops.mv_int rfl rfl rfl ?_
  refine Ops.lss rfl rfl rfl ?_
  refine Ops.nil ?_
  refine thenQ_n ?_
  -- stop: cond
  refine Cd.cond_pf rfl (by omega) ?_
  refine Cd.skip ?_
  refine thenQ_n ?_
  refine Cd.seq ?_
  refine Cd.seq ?_
  refine Cd.region ?_
  refine Ops.mv_int rfl rfl rfl ?_
  refine Ops.mv_int rfl rfl rfl ?_
  refine Ops.neq rfl rfl rfl ?_
  refine Ops.nil ?_
  refine thenQ_n ?_
  -- stop: cond
  refine Cd.cond_pf rfl (fun h => h rfl) ?_
  refine Cd.skip ?_
  refine thenQ_n ?_
  refine Cd.seq ?_
  refine Cd.region ?_
  refine Ops.mv_bool rfl rfl rfl ?_
  refine Ops.nil ?_
  refine thenQ_n ?_
  refine Cd.ret ?_
  refine ret1_b rfl ?_
  -- stop: end
  exact ⟨rfl, ((hS4.later hS5.below).later hst6.below).none⟩
end Go.Proofs.Ytgobjpcankaicaa.Vc
/-
  A statement's frame: the arguments opened, and what a walk gives told in the statement's own words. Conditions: as each states them.
-/
namespace Go.Proofs.Ytgobjpcankaicaa.Vc
open Go.RowKit Go.ChangeShapes Go.WideShapes

theorem laid : laidOutB Try.prog = true := by kernel_rfl
theorem own : ownKnob Try.prog.godebug = none := by kernel_rfl

section
variable {H : Type} {enc : TypeId × Value → H} {P : Program}
theorem open_mat {w : World} {t e q : TypeId} {fuel : Nat} {cs : List Value} {x : DataW H × List MemPlace} (ht : P.underlying t = some (.slice e)) (he : P.underlying e = some (.slice q)) (hq : P.underlying q = some (.int .i64)) (ce : P.cellsOf e = 1) (cq : P.cellsOf q = 1)
    (h : DataW.trod enc P w 0 (fun _ => true) true fuel t cs = some x) : ∃ A n c rs xss, cs = [.slice A n c] ∧ RowsI w A n rs xss ∧ n ≤ c ∧ c ≤ 9223372036854775807 := by
  rcases Go.Deep.open_int_rows ht he hq ce cq h with ⟨rfl, _⟩ | ⟨a, len, cap, A, L, C, Z, rfl, _, hl, hm, _, hc⟩
  · exact ⟨none, 0, 0, [], [], rfl, RowsI.nil w, Nat.le_refl _, by omega⟩
  · refine ⟨some a, len, cap, (List.range len).map fun r => ⟨A r, L r, C r⟩, (List.range len).map fun r => (Z r).take (L r), rfl, ⟨⟨by simp, fun k hk => ?_⟩, by simp, fun i hi => ?_, fun i hi => ?_⟩, hl, by simpa [maxLen] using hm⟩
    · have := (hc k (by omega)).1
      exact ⟨a.add k, rfl, by rw [this]; simp [List.getD_eq_getElem?_getD, hk, SlV.v]⟩
    · have h1 := hc i (by omega)
      have e1 : ((List.range len).map fun r => (⟨A r, L r, C r⟩ : SlV)).getD i slNil = ⟨A i, L i, C i⟩ := by simp [List.getD_eq_getElem?_getD, hi]
      have e2 : ((List.range len).map fun r => (Z r).take (L r)).getD i [] = (Z i).take (L i) := by simp [List.getD_eq_getElem?_getD, hi]
      rw [e1, e2]
      refine ⟨by simp; omega, fun k hk => ?_⟩
      have hk' : k < L i := hk
      cases hA : A i with
      | none => have := h1.2.2.2.2.2.1 hA; omega
      | some a' =>
        have h2 := (h1.2.2.2.2.2.2 a' hA).2 k (by omega)
        exact ⟨a'.add k, rfl, by rw [h2]; simp [List.getD_eq_getElem?_getD, List.getElem?_take, hk']⟩
    · have h1 := hc i (by omega)
      have e1 : ((List.range len).map fun r => (⟨A r, L r, C r⟩ : SlV)).getD i slNil = ⟨A i, L i, C i⟩ := by simp [List.getD_eq_getElem?_getD, hi]
      rw [e1]
      exact ⟨h1.2.1, h1.2.2.1⟩

theorem trodAll_stays (hl : laidOutB P = true) {W W' : World} (hb : Below W.heap.size W W') {sp : Nat → Bool} : ∀ {ts : List TypeId} {vs : List Value} {ds : List (DataW H)} {ps : List MemPlace}, (ts.all fun t => P.readableRec t && Nat.blt t P.types.size) = true → (∀ p ∈ ps, p.block < W.heap.size) → (∀ p ∈ ps, sp p.block = true) →
    DataW.TrodAll enc P W 0 (fun _ => true) true ts vs ds ps → DataW.TrodAll enc P W' 0 sp true ts vs ds ps
  | [], [], [], _, _, _, _, h => h
  | t :: ts, v :: vs, d :: ds, ps, hr, hlt, hsp, h => by
    obtain ⟨p, q, h1, h2, rfl⟩ := h
    simp only [List.all_cons, Bool.and_eq_true] at hr
    exact ⟨p, q, WideElems.Trod_stays hl hr.1.1 (by simpa [Nat.blt_eq] using hr.1.2) h1 (fun x hx => hb.same (hlt x (by simp [hx]))) (fun x hx => hsp x (by simp [hx])), trodAll_stays hl hb hr.2 (fun x hx => hlt x (by simp [hx])) (fun x hx => hsp x (by simp [hx])) h2, rfl⟩
  | [], [], _ :: _, _, _, _, _, h => h.elim
  | [], _ :: _, _, _, _, _, _, h => by cases h
  | _ :: _, [], _, _, _, _, _, h => by cases h
  | _ :: _, _ :: _, [], _, _, _, _, h => by cases h

/-- what a law's walk gives, in its statement's words: it returns true, and its arguments read as they did -/
theorem post_law {f : Func} {s : ChangeSpec} {apart : Bool} {W W' : World} {args : Array Value} {ds gs : List (DataW H)} {before : List MemPlace} (hl : laidOutB P = true) {b : TypeId} (hu : P.underlying b = some .bool) (hres : f.resultTypes = #[b]) (hv : s.vars = [])
    (hr : (f.params.toList.all fun t => P.readableRec t && Nat.blt t P.types.size) = true) (hfn : (s.fn H (ds ++ gs)).results = [.lit (.bool true)] ∧ (s.fn H (ds ++ gs)).args = ds ∧ (s.fn H (ds ++ gs)).vars = [])
    (hW : DataW.Whole enc P f.params.toList s.vars apart W args.toList ds gs before) (hb : Below W.heap.size W W') : s.post enc P f apart true false false W args (.bool true) W' := by
  have hlt : ∀ x ∈ before, x.block < W.heap.size := fun x hx => hW.lt x hx
  have hW0 := hW
  obtain ⟨p, q, hA, hV, rfl, hz, hn⟩ := hW
  rw [hv] at hV
  obtain ⟨rfl, rfl⟩ := trodVars_none hV
  have hlp : ∀ x ∈ p, x.block < W.heap.size := fun x hx => hlt x (by simp [hx])
  have hA' : ∀ sp : Nat → Bool, (∀ x ∈ p, sp x.block = true) → DataW.TrodAll enc P W' 0 sp true f.params.toList args.toList (s.fn H (ds ++ [])).args p := fun sp hsp => by
    rw [hfn.2.1]
    exact trodAll_stays hl hb hr hlp hsp hA
  have hR' : ∀ (b0 : Nat) (sp : Nat → Bool) (hd : Bool), DataW.TrodAll enc P W' b0 sp hd f.resultTypes.toList ((Value.bool true).resultList f.resultTypes.size) (s.fn H (ds ++ [])).results [] := fun b0 sp hd => by
    rw [hfn.1, hres]
    exact trodAll_cons_mk (shut_bool hu _) trodAll_mk0
  have hV' : ∀ sp : Nat → Bool, DataW.TrodVars enc P W' sp s.vars (s.fn H (ds ++ [])).vars [] := fun sp => by
    rw [hfn.2.2, hv]; rfl
  refine ⟨ds, [], p ++ [], [], p, [], hW0, hR' _ _ _, hA' _ (fun x hx => by simpa using hlp x hx), hV' _, World.keptBut_mono (fun x hx => ⟨hx, by simpa using hx⟩) (hb.frame (· ∈ p ++ [])), fun _ => ⟨fun j t r h1 h2 => ?_, _, _, ([] ++ p) ++ [], ⟨[] ++ p, [], trodAll_append (hA' _ fun _ _ => rfl) (hR' _ _ _), hV' _, rfl, fun c off hc => ?_, fun ha => by simpa using hn ha⟩, fun x hx _ => by simpa using hx⟩⟩
  · rw [hres] at h1 h2
    cases j with
    | zero =>
      simp at h1
      subst h1
      simp [Value.resultList] at h2
      subst h2
      exact okWide_bool_mk hu _
    | succ j => simp at h1
  · have hin : MemPlace.cell c off ∈ p ++ [] := by simpa using hc
    rw [hb.frozen (hlt _ hin)]
    exact hz c off hin
end
end Go.Proofs.Ytgobjpcankaicaa.Vc
/-
  Arguments opened: a struct of one matrix, a list of integers. Conditions: as each states them.
-/
namespace Go.Proofs.Ytgobjpcankaicaa.Vc
open Go.RowKit Go.ChangeShapes Go.WideShapes

section
variable {H : Type} {enc : TypeId × Value → H} {P : Program}
theorem open_man {w : World} {r : Go.Reach} {b0 : Nat} {t e q : TypeId} {f0 : Field} {v : Value} {d : DataW H} {p : List MemPlace} (hs : P.underlying t = some (.struct #[f0])) (hf0 : f0.offset = 0) (ht : P.underlying f0.type = some (.slice e)) (he : P.underlying e = some (.slice q)) (hq : P.underlying q = some (.int .i64)) (ce : P.cellsOf e = 1) (cq : P.cellsOf q = 1) (cm : P.cellsOf f0.type = 1) (cc : P.cellsOf t = 1)
    (hval : Value.okWide P w r b0 t v) (h : DataW.Trod enc P w 0 (fun _ => true) true t v d p) : ∃ A n c rs xss, v = .agg #[.slice A n c] ∧ RowsI w A n rs xss ∧ n ≤ c ∧ c ≤ 9223372036854775807 := by
  obtain ⟨cs, rfl, hsz⟩ := okWide_struct hs hval
  obtain ⟨fuel, hf⟩ := h
  obtain ⟨z0, m0, _, _, hz0⟩ := trod_struct1 hs hf
  obtain ⟨A, n, c, rs, xss, e1, hR, hn, hc⟩ := open_mat ht he hq ce cq hz0
  refine ⟨A, n, c, rs, xss, ?_, hR, hn, hc⟩
  have hl : cs.toList.length = 1 := by rw [Array.length_toList, hsz, cc]
  have e1 : (cs.toList.drop f0.offset).take (P.cellsOf f0.type) = [Value.slice A n c] := e1
  rw [hf0, cm, List.drop_zero, List.take_of_length_le (by omega)] at e1
  congr 1
  exact Array.ext' (by rw [e1])

theorem open_row {w : World} {r : Go.Reach} {b0 : Nat} {t e : TypeId} {v : Value} {d : DataW H} {p : List MemPlace} (ht : P.underlying t = some (.slice e)) (he : P.underlying e = some (.int .i64)) (ce : P.cellsOf e = 1)
    (hval : Value.okWide P w r b0 t v) (h : DataW.Trod enc P w 0 (fun _ => true) true t v d p) : ∃ A n c xs, v = .slice A n c ∧ RdI w A n xs ∧ n ≤ c ∧ c ≤ 9223372036854775807 := by
  obtain ⟨a, len, cap, rfl⟩ := okWide_slice ht hval
  obtain ⟨fuel, hf⟩ := h
  have hcs : (Value.slice a len cap).cells.toList = [Value.slice a len cap] := rfl
  rw [hcs] at hf
  rcases open_ints ht he ce hf with ⟨h1, _⟩ | ⟨b, n, c, zs, h1, _, hl, hm, hz, _, hc, _⟩
  · simp only [List.cons.injEq, and_true] at h1
    exact ⟨none, 0, 0, [], h1, RdI.nil, Nat.le_refl _, by omega⟩
  · simp only [List.cons.injEq, and_true] at h1
    refine ⟨some b, n, c, zs.take n, h1, ⟨?_, fun k hk => ?_⟩, hl, by simpa [maxLen] using hm⟩
    · rw [if_pos rfl] at hz; simp; omega
    · rw [if_pos rfl] at hz
      refine ⟨b.add k, rfl, ?_⟩
      rw [hc k (by omega)]
      simp [List.getD_eq_getElem?_getD, List.getElem?_take, hk]
end
end Go.Proofs.Ytgobjpcankaicaa.Vc
