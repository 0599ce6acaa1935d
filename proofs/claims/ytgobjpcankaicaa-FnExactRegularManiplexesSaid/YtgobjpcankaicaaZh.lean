/-
  The texts Srf, K2, C7, D6, K3, K4, Q3, Rpl, C8, C9, C11, Del, Q4, Open, Opm in one. Conditions: as each part states them.
-/
import Derived.Test.YtgobjpcankaicaaLayc
import Derived.Shelf.SlSortCmp.NoneTotal
import Derived.Test.YtgobjpcankaicaaZd
import Derived.Test.YtgobjpcankaicaaZg
import Derived.Test.YtgobjpcankaicaaZf
import Derived.Test.YtgobjpcankaicaaZb
import Derived.Test.YtgobjpcankaicaaZa
import Derived.Test.YtgobjpcankaicaaInst
import Derived.Deep.Matrix
import Derived.Carry
import Derived.Below
import Derived.ChangeSame
import Derived.ProofKit
import Derived.OpenShut
import Derived.Handed
import Derived.Lib.SmallJoins
/-
  The library's sort by a function, of a row of one's own whose elements are structs of one slice. Conditions: the function's contract, and that it is a strict weak order.
-/
namespace Go.Proofs.Ytgobjpcankaicaa.Vc
open Go.RowKit Go.Sort

theorem heap_grw {α : Type} [Inhabited α] {enc : α → Value} {w : World} {g n off : Nat} {os : Array Obj} {cur : Array Value} {e : TypeId} {fr : Nat × Nat} (d : Array α) (hb : w.heap[g]? = some (.cells cur e fr)) :
    (Go.Sort.grow (putRow enc (Sort.ahead w n) g off d) os).heap[g]? = some (.cells (putCells enc off d cur) e fr) := by
  have hg : g < w.heap.size := (Array.getElem?_eq_some_iff.1 hb).1
  rw [heap_grow_old _ _ (by simpa using hg)]
  simp [putRow, mapBlock, Sort.ahead, Array.getElem?_modify, hb, onCells]
theorem grb_grw {α : Type} [Inhabited α] {enc : α → Value} {w : World} {g n off : Nat} {os : Array Obj} (d : Array α) : GrB w (Go.Sort.grow (putRow enc (Sort.ahead w n) g off d) os) (some g) := by
  refine ⟨⟨rfl, rfl, rfl, by simp, fun k hk hne => ?_⟩, Nat.le_add_right _ _⟩
  rw [heap_grow_old _ _ (by simpa using hk)]
  have : g ≠ k := fun e => hne (by rw [e])
  simp [putRow, mapBlock, Sort.ahead, Array.getElem?_modify, this]

/-- the place at a number -/
def sv (ss : List SlV) (j : Nat) : SlV := ss.getD j slNil
def encA (ss : List SlV) (n : Nat) (j : Fin n) : List Value := [(sv ss j).v]
theorem flat_at {n : Nat} [Inhabited (Fin n)] (ss : List SlV) (dk : Array (Fin n)) {j : Nat} (hj : j < dk.size) : (flatK (encA ss n) 1 dk)[j]! = (sv ss dk[j]!).v := by
  rw [get_flatK _ _ _ _ (by omega)]
  simp [encA, Nat.mod_one]
/-- the sort's world in one's own words -/
theorem St.srtW {w0 w : World} {ks : List Ck} {i : Nat} {t : TypeId} {g o n c : Nat} {ss : List SlV} {cur : Array Value} [Inhabited (Fin n)] (hS : St w0 w ks) (hk : ks[i]? = some (CkR t (some ⟨g, o, Option.none⟩) n c ss))
    (hh : w.heap[g]? = some (.cells cur t (0, 0))) (hg : w0.heap.size ≤ g) (hs : o + c ≤ cur.size) (m : Nat) (dk : Array (Fin n)) (hd : dk.size = n) (os : Array Obj) :
    St w0 (sortWorldK (encA ss n) 1 w g o m dk os) (ks.set i (CkR t (some ⟨g, o, Option.none⟩) n c (dk.toList.map fun j : Fin n => sv ss j.val))) := by
  have hnc : n ≤ c := (hS.cap i hk).1
  have hc9 : c ≤ maxLen := (hS.cap i hk).2
  refine hS.turn hk rfl rfl (grb_grw _) (.ofC (isM_R _) ⟨by simp [hd], hnc, hc9, .inr ⟨g, o, _, rfl, hg, heap_grw _ hh, by simp only [putCells, Array.size_mapIdx]; exact hs, fun j hj => ?_⟩⟩)
  have hj : j < n := hj
  have hlt2 : o + j < cur.size := by omega
  show (putCells id o (flatK (encA ss n) 1 dk) cur)[o + j]? = ((dk.toList.map fun j : Fin n => sv ss j.val).map SlV.v)[j]?
  have e := flat_at ss dk (j := j) (by omega)
  rw [getElem!_pos _ _ (by simp [hd]; exact hj), getElem!_pos dk j (by omega)] at e
  simp [putCells, hlt2, hj, hd, e]

theorem sortF_c {w0 w : World} {ks : List Ck} (i : Nat) {t : TypeId} {A : Option Addr} {n c : Nat} {ss : List SlV} (hS : St w0 w ks) (hk : ks[i]? = some (CkR t A n c ss)) (hn : n ≤ 4000000000000) (G : FuncId) [hF : Fnc Try.prog G] (cf : Nat → Nat → Int)
    (hswo : ∀ a b c, a < n → b < n → c < n → ¬ cf a a < 0 ∧ (cf a b < 0 → cf b c < 0 → cf a c < 0) ∧ (¬ cf a b < 0 → ¬ cf b c < 0 → ¬ cf a c < 0))
    (hcmp : ∀ (w' : World) (q : List Nat), q.length = n → (∀ j ∈ q, j < n) → St w0 w' (ks.set i (CkR t A n c (q.map (sv ss)))) → ∀ a b, a < n → b < n → Ret Try.prog G [.agg #[(sv ss a).v], .agg #[(sv ss b).v]] w' (fun v w'' => v = .int .i64 (cf a b) ∧ St w' w'' [])) :
    Ret Try.prog 81 [.slice A n c, .func (.func G) #[] #[]] w (fun v w' => v = .tuple #[] ∧ ∃ q : List Nat, q.Perm (List.range n) ∧ q.Pairwise (fun a b => ¬ cf b a < 0) ∧ St w0 w' (ks.set i (CkR t A n c (q.map (sv ss))))) := by
  obtain ⟨h1, h2, h3, h4⟩ := hS.getC hk (isM_R _)
  have hl : ss.length = n := by have : (ss.map SlV.v).length = n := h1; simpa using this
  have h2 : n ≤ c := h2
  by_cases h0 : n = 0
  · subst h0
    have key := AnyF.slices_SortFunc_none lsf A c (.func (.func G) #[] #[]) w
    refine Calls.mono key fun x w' ⟨hx, hw⟩ => ⟨_, hx, rfl, [], List.Perm.refl _, List.Pairwise.nil, ?_⟩
    subst hw
    have e : ss = [] := List.eq_nil_of_length_eq_zero hl
    subst e
    rw [show (List.map (sv []) [] : List SlV) = [] from rfl]
    have := (List.getElem?_eq_some_iff.1 hk)
    rw [show ks.set i (CkR t A 0 c []) = ks from by
      apply List.ext_getElem?
      intro j
      rw [List.getElem?_set]
      split
      · rename_i e; subst e; rw [hk]; simp [this.1]
      · rfl]
    exact hS
  have h0 : 0 < n := by omega
  rcases h4 with ⟨_, hc0⟩ | ⟨g, o, cur, hA, hg, hh, hs, hc⟩
  · have hc0 : c = 0 := hc0
    omega
  have hA : A = some ⟨g, o, none⟩ := hA
  have hs : o + c ≤ cur.size := hs
  have hc : ∀ j, j < n → cur[o + j]? = (ss.map SlV.v)[j]? := hc
  subst hA
  haveI : Inhabited (Fin n) := ⟨⟨0, h0⟩⟩
  have hlt : g < w.heap.size := (Array.getElem?_eq_some_iff.1 hh).1
  have hd0 : (Array.ofFn (fun j : Fin n => j)).size = n := by simp
  have hH : HoldsK (encA ss n) 1 w g o (Array.ofFn fun j : Fin n => j) := fun j hj => by
    have hj' : j < n := by simpa using hj
    refine ⟨?_, by simp [World.frozen?, hh]⟩
    rw [flat_at ss _ (by simpa using hj')]
    simp only [World.cell?, hh]
    simp only [Option.isSome_none, Bool.false_eq_true, if_false]
    rw [hc j hj']
    simp [hj', hl, sv, List.getD_eq_getElem?_getD]
  obtain ⟨fn, hf1, hf2, hf3⟩ := hF.out
  obtain ⟨bd, hf4⟩ : ∃ c, fn.body = some c := by
    cases h : fn.body with
    | none => rw [h] at hf3; cases hf3
    | some c => exact ⟨c, rfl⟩
  have eg : ∀ args w, (callFunc G args).run Try.prog w = .ok (.enter G args) w := enters_of hf1 hf2 hf4
  have hC : CmpLays Try.prog G #[] (encA ss n) 1 (fun a b : Fin n => cf a b) g o (Array.ofFn fun j : Fin n => j).size w := fun m os dk hdk a b => by
    have hdn : dk.size = n := by rw [hdk, hd0]
    have hW := hS.srtW hk hh hg hs m dk hdn os
    have h5 := hcmp _ (dk.toList.map fun j => j.val) (by simp [hdn]) (fun j hj => by obtain ⟨x, _, rfl⟩ := List.mem_map.1 hj; exact x.2) (by rw [List.map_map]; exact hW) a b a.2 b.2
    refine Calls.mono h5 fun x w' ⟨v, hx, hv, hst⟩ => ?_
    subst hv
    exact ⟨hx, hst.below.grow⟩
  have hO : SWO (ltOf fun a b : Fin n => cf a b) := {
    irrefl := fun a => by simpa [ltOf] using (hswo a a a a.2 a.2 a.2).1
    trans := fun a b c h h' => by simp only [ltOf, decide_eq_true_iff] at *; exact (hswo a b c a.2 b.2 c.2).2.1 h h'
    ntrans := fun a b c h h' => by simp only [ltOf, decide_eq_false_iff_not] at *; exact (hswo a b c a.2 b.2 c.2).2.2 h h' }
  have key := AnyQ.slices_SortFunc lsf 1 (fun w => by kernel_rfl) (fun w => by kernel_rfl) (encA ss n) (fun _ => rfl) (fun x v hv => by simp [encA] at hv; subst hv; rfl) (fun a b : Fin n => cf a b) hO G #[] g o c (Array.ofFn fun j : Fin n => j) w eg hC hH hlt (by rw [hd0]; omega)
  rw [hd0] at key
  refine Calls.mono key fun x w' ⟨hx, d', m, os, hp, hso, hw⟩ => ⟨_, hx, rfl, d'.toList.map (fun j => j.val), ?_, ?_, ?_⟩
  · obtain ⟨hz, _, hperm⟩ := hp
    rw [hd0] at hz
    have e1 : d'.extract 0 n = d' := by have := Array.extract_size (xs := d'); rwa [hz] at this
    have e2 : (Array.ofFn fun j : Fin n => j).extract 0 n = Array.ofFn fun j : Fin n => j := by
      have := Array.extract_size (xs := Array.ofFn fun j : Fin n => j)
      rwa [hd0] at this
    rw [e1, e2] at hperm
    have h6 := hperm.map (fun j : Fin n => j.val)
    have e3 : (Array.ofFn fun j : Fin n => j).toList.map (fun j : Fin n => j.val) = List.range n := by
      apply List.ext_getElem
      · simp
      · intro j h1 h2
        simp
    rw [e3] at h6
    exact h6
  · have hz := hp.1
    rw [hd0] at hz
    rw [List.pairwise_map, List.pairwise_iff_getElem]
    intro a b ha hb hab
    have ha' : a < d'.size := by simpa using ha
    have hb' : b < d'.size := by simpa using hb
    have h7 := hso a b (Nat.zero_le _) hab (by omega)
    simp only [ltOf, decide_eq_false_iff_not, getElem!_pos d' a ha', getElem!_pos d' b hb'] at h7
    simpa using h7
  · subst hw
    have hz := hp.1
    rw [hd0] at hz
    rw [List.map_map]
    exact hS.srtW hk hh hg hs m d' hz os
end Go.Proofs.Ytgobjpcankaicaa.Vc
/-
  The program's list of a rank and a number of flags. Conditions: none.
-/
namespace Go.Proofs.Ytgobjpcankaicaa.Vc
open Go.RowKit

def matNo : MatV := ⟨slNil, [], []⟩
def mv (ms : List MatV) (j : Nat) : MatV := ms.getD j matNo
theorem mv_at {ms : List MatV} {j : Nat} (hj : j < ms.length) : mv ms j = ms[j] := by simp [mv, List.getD_eq_getElem?_getD, List.getElem?_eq_getElem hj]
theorem mv_mem {ms : List MatV} {j : Nat} (hj : j < ms.length) : mv ms j ∈ ms := by rw [mv_at hj]; exact List.getElem_mem _
theorem sv_top (ms : List MatV) (j : Nat) : sv (ms.map (·.top)) j = (mv ms j).top := by
  simp only [sv, mv, List.getD_eq_getElem?_getD, List.getElem?_map]
  cases ms[j]? <;> rfl
theorem mv_range (ms : List MatV) : (List.range ms.length).map (mv ms) = ms := by
  apply List.ext_getElem
  · simp
  · intro j h1 h2
    simp [mv_at h2]

/-- the sort of a row of matrices, by the order of maniplexes -/
theorem sortM_c {w0 w : World} {A : Option Addr} {c : Nat} {ms : List MatV} {ks : List Ck} (hok : ∀ m ∈ ms, m.ok) (hsm : ∀ m ∈ ms, m.top.n ≤ 9223372036854775807) (hn : ms.length ≤ 4000000000000) (hS : St w0 w (CkR 24 A ms.length c (ms.map (·.top)) :: (ks ++ matsCk 33 2 ms))) :
    Ret Try.prog 81 [.slice A ms.length c, .func (.func 113) #[] #[]] w (fun v w' => v = .tuple #[] ∧ ∃ ms' : List MatV, ms'.Perm ms ∧ (ms'.map (·.xss)).Pairwise leM ∧
      St w0 w' (CkR 24 A ms'.length c (ms'.map (·.top)) :: (ks ++ matsCk 33 2 ms'))) := by
  refine Ret.mono (sortF_c 0 hS rfl hn 113 (fun a b => lexCC (mv ms a).xss (mv ms b).xss) (fun a b c _ _ _ => ⟨?_, fun h h' => lexCC_trans h h', fun h h' => leM_trans (a := (mv ms c).xss) (b := (mv ms b).xss) h' h⟩) (fun w' q hq hqn hW a b ha hb => ?_)) ?_
  · rw [lexCC_zero.2 rfl]; omega
  · have hr : ∀ j, j < ms.length → RowsI w' (mv ms j).top.a (mv ms j).top.n (mv ms j).rs (mv ms j).xss := fun j hj => by
      have hm := mv_mem hj
      exact hW.matAt (c := (mv ms j).top.c) (t1 := 33) (t2 := 2) (((MatV.sub_ hm).trans (List.sublist_append_right _ _)).trans (List.sublist_cons_self _ _)) (hok _ hm)
    rw [sv_top, sv_top]
    exact compareManiplexes_c _ _ _ _ _ _ _ _ _ _ _ (hr a ha) (hr b hb) (hsm _ (mv_mem ha))
  · rintro v w' ⟨hv, q, hp, hs, hW⟩
    have hp2 : (q.map (mv ms)).Perm ms := by have := hp.map (mv ms); rwa [mv_range] at this
    refine ⟨hv, q.map (mv ms), hp2, ?_, ?_⟩
    · rw [List.map_map, List.pairwise_map]
      exact hs
    · have e1 : q.map (sv (ms.map (·.top))) = (q.map (mv ms)).map (·.top) := by
        rw [List.map_map]
        exact List.map_congr_left fun j _ => sv_top ms j
      rw [e1] at hW
      have hW : St w0 w' (CkR 24 A ms.length c ((q.map (mv ms)).map (·.top)) :: (ks ++ matsCk 33 2 ms)) := hW
      rw [hp2.length_eq]
      exact hW.perm (List.Perm.cons _ (List.Perm.append_left _ (matsCk_perm hp2.symm)))

theorem leastTo_len (N : Nat) (xss : Mx) : ∀ k, (leastTo N xss k).length = xss.length
  | 0 => by rw [leastTo, formL_len]
  | k + 1 => by
    rw [leastTo]
    split
    · rw [formL_len]
    · exact leastTo_len N xss k
theorem leastL_len (N : Nat) (xss : Mx) : (leastL N xss).length = xss.length := leastTo_len N xss N
def lstI (rank flags : Int) : List Mx := if Small rank flags then listL rank.toNat flags.toNat else []
def lstK (rank flags : Int) : Int := if Small rank flags then 0 else 2

theorem allManiplexes_c (rank flags : Int) (w : World) :
    Ret Try.prog 69 [.int .i64 rank, .int .i64 flags] w (fun v w' => ∃ A c, ∃ ms : List MatV, v = .tuple #[.slice A ms.length c, .int .i64 (lstK rank flags)] ∧ ms.map (·.xss) = lstI rank flags ∧ (∀ m ∈ ms, m.ok) ∧
      St w w' (CkR 24 A ms.length c (ms.map (·.top)) :: matsCk 33 2 ms)) := by
  refine Ret.of_cd Try.func69 rfl Try.ntmps69 rfl (post2 rfl) ?_
  refine Cd.seq ?_
  refine Cd.region ?_
  refine Ops.mv_sl rfl rfl rfl ?_
  refine Ops.mv_int rfl rfl rfl ?_
  refine Ops.nil ?_
  refine thenQ_n ?_
  refine Cd.seq ?_
  refine Cd.seq ?_
  refine Cd.region ?_
  refine Ops.mv_int rfl rfl rfl ?_
  refine Ops.mv_int rfl rfl rfl ?_
  -- stop: CALL impl.isSmall(t9, t10) -> 11
  refine Ops.call (isSmall_c rank flags _) rfl rfl rfl ?_
  rintro _ w ⟨rfl, rfl⟩
  first | refine Ops.not_p rfl rfl ?_ | refine Ops.not rfl rfl ?_
  refine Ops.nil ?_
  refine thenQ_n ?_
  -- stop: cond
  refine Cd.cond_p _ rfl (fun h => ?_) (fun h => ?_)
  · have hs : ¬ Small rank flags := h
    refine Cd.seq ?_
    refine Cd.region ?_
    refine Ops.mv_sl rfl rfl rfl ?_
    refine Ops.mv_int rfl rfl rfl ?_
    refine Ops.nil ?_
    refine thenQ_n ?_
    refine Cd.ret ?_
    refine thenQ_r ?_
    refine ret2_si rfl rfl ?_
    -- stop: end
    exact ⟨none, 0, [], by rw [lstK, if_neg hs]; rfl, by rw [lstI, if_neg hs]; rfl, fun m hm => (nomatch hm), (St.refl _).nil _⟩
  have hs : Small rank flags := Classical.not_not.1 h
  obtain ⟨n, rfl⟩ : ∃ n : Nat, rank = n := ⟨rank.toNat, by have := hs.1; omega⟩
  obtain ⟨F, rfl⟩ : ∃ F : Nat, flags = F := ⟨flags.toNat, by have := hs.2; omega⟩
  have hs1 := hs.1
  have hs2 := hs.2
  have hn : 1 ≤ n ∧ n ≤ 4 := by omega
  have hF : 2 ≤ F ∧ F ≤ 12 := by omega
  have eL : lstI n F = listL n F := by rw [lstI, if_pos hs]; rfl
  have eK : lstK n F = 0 := by rw [lstK, if_pos hs]
  refine Cd.skip ?_
  refine thenQ_n ?_
  refine Cd.seq ?_
  refine Cd.region ?_
  refine Ops.mv_sl rfl rfl rfl ?_
  refine Ops.nil ?_
  refine thenQ_n ?_
  refine Cd.seq ?_
  refine Cd.seq ?_
  refine Cd.region ?_
  refine Ops.mv_int rfl rfl rfl ?_
  refine Ops.mv_int rfl rfl rfl ?_
  -- stop: CALL impl.rootedForms(t13, t14) -> 15
  refine Ops.call (rootedForms_c n F hn hF _) rfl rfl rfl ?_
  rintro _ w1 ⟨A6, c6, all, rfl, hok, hall, hst⟩
  have hsm := forms_small hn hF (F * n + 1)
  rw [← hall, List.length_map] at hsm
  have hman : ∀ m ∈ all, Mani m.xss ∧ Inv n F m.xss F (F * n) := fun m hm => forms_mani (by omega) (by omega) (by rw [formsL, ← hall]; exact List.mem_map_of_mem hm)
  have hown : ∀ m ∈ all, (leastL F m.xss = m.xss ↔ Own1 F m.xss) := fun m hm => own_least (n := n) (by omega) (by omega) (by rw [formsL, ← hall]; exact List.mem_map_of_mem hm)
  have hlen : ∀ m ∈ all, m.xss.length = n := fun m hm => (hman m hm).2.shp.1
  have htn : ∀ m ∈ all, m.top.n = n := fun m hm => by rw [← hok m hm]; exact hlen m hm
  have hgF : ∀ m ∈ all, F = (gl m.xss 0).length := fun m hm => ((hman m hm).2.shp.row (i := 0) (by omega)).symm
  have hRR := hst.rdR 0 rfl
  have hmr : ∀ m ∈ all, RowsI w1 m.top.a n m.rs m.xss := fun m hm => by
    have := hst.matAt (c := m.top.c) (t1 := 33) (t2 := 2) ((MatV.sub_ hm).trans (List.sublist_cons_self _ _)) (hok m hm)
    rw [htn m hm] at this
    exact this
  have hS1 := (St.refl w1).nil 24
  refine Ops.len rfl rfl ?_
  refine Ops.mv_int rfl rfl rfl ?_
  refine Ops.nil ?_
  refine thenQ_n ?_
  refine Cd.block ?_
  -- stop: loop
  refine Cd.loop (α := Nat × (Option Addr × Nat)) (fun s => [(6, .slice s.2.1 (selV F (all.take s.1)).length s.2.2), (15, .slice A6 all.length c6), (16, .int .i64 (all.length : Int)), (17, .int .i64 (s.1 : Int))])
    (fun s w' => St w1 w' [CkR 24 s.2.1 (selV F (all.take s.1)).length s.2.2 ((selV F (all.take s.1)).map (·.top))] ∧ s.1 ≤ all.length) (fun s => all.length - s.1)
    (0, (none, 0)) ⟨rfl, rfl, rfl, rfl, trivial⟩ ⟨hS1, Nat.zero_le _⟩ ?_
  rintro ⟨i, ⟨B6, c7⟩⟩ e w4 ⟨hS4, hi⟩
  dsimp only at hS4 hi ⊢
  have houts : (selV F (all.take i)).length ≤ i := by
    have h2 := List.length_filter_le (fun m : MatV => decide (Own1 F m.xss)) (all.take i)
    have h3 : (selV F (all.take i)).length ≤ (all.take i).length := h2
    rw [List.length_take] at h3
    omega
  refine Cd.seq ?_
  refine Cd.region ?_
  refine Ops.lss rfl rfl rfl ?_
  refine Ops.nil ?_
  refine thenQ_n ?_
  refine Cd.seq ?_
  -- stop: cond
  refine Cd.cond_p _ rfl (fun h1 => ?_) (fun h1 => ?_)
  · have hi' : i < all.length := by omega
    have hm := List.getElem_mem hi'
    have hti := top_at hi'
    have hRR4 := hRR.later hS4.below
    have hX := (hmr _ hm).later hS4.below
    have hsn := selV_snoc (F := F) hi'
    have hXm := (hman _ hm).1
    have hXF := hgF _ hm
    have hXo := hown _ hm
    refine Cd.skip ?_
    refine thenQ_n ?_
    refine Cd.seq ?_
    refine Cd.block ?_
    refine Cd.seq ?_
    refine Cd.region ?_
    -- stop: INDEXADDR 51 t15 t17 -> 19
    refine Ops.idx hRR4.2 rfl rfl rfl (by omega) (by omega) ?_
    refine Ops.ld_ag hRR4 rfl (by omega) rfl ?_
    rw [hti, htn _ hm]
    generalize hXe : all[i] = X at *
    have hXt : (⟨X.top.a, n, X.top.c⟩ : SlV) = X.top := by rw [← htn _ hm]
    refine Ops.new1 hS4 rfl ?_
    intro A8 w5 hS5
    refine Ops.st_agg 1 0 hS5 rfl rfl rfl rfl rfl rfl rfl ?_
    intro w6 hS6
    have hS6 : St w1 w6 [Bx 24 1 A8 [.slice X.top.a n X.top.c], CkR 24 B6 (selV F (all.take i)).length c7 ((selV F (all.take i)).map (·.top))] := hS6
    have hB6 := hS6.rd 0 rfl
    have hX6 := (hmr _ hm).later hS6.below
    refine Ops.nil ?_
    refine thenQ_n ?_
    refine Cd.seq ?_
    -- stop: draw
    refine Cd.draw [.ex (.agg #[.slice (X.top.a) (n) (X.top.c)]), .pr (fun v w' => ∃ A9 c9 rs9, v = .agg #[.slice A9 n c9] ∧ RowsI w' A9 n rs9 (leastL F X.xss)), .ex (.agg #[.slice (X.top.a) (n) (X.top.c)]), .ex (.bool (decide (leastL F X.xss = X.xss)))] (by kernel_rfl) (by kernel_rfl) rfl (List.forall_mem_cons.2 ⟨Yd.lasts_ex _, (List.forall_mem_cons.2 ⟨Yd.lasts_pr (fun v w w' h hb => by obtain ⟨A9, c9, rs9, hv, hT⟩ := h; exact ⟨A9, c9, rs9, hv, hT.later hb⟩), (List.forall_mem_cons.2 ⟨Yd.lasts_ex _, (List.forall_mem_cons.2 ⟨Yd.lasts_ex _, (fun _ h => by cases h)⟩)⟩)⟩)⟩) ⟨?_, ?_, ?_, ?_, trivial⟩ ?_
    · intro e1 w1 hb hp hun
      refine Ops.ld_agg 0 (hB6.below hb) rfl rfl rfl ?_
      refine Ops.nil ?_
      exact After.dn (Below.refl _ _) (by exact rfl)
    · intro e1 w1 hb hp hun
      refine Ops.call (leastForm_c X.top.a n X.top.c X.rs X.xss F _ (hX6.later hb) hXm hXF) rfl rfl rfl ?_
      rintro _ w9 ⟨A9, c9, rs9, rfl, hl9, hst9⟩
      refine Ops.nil ?_
      exact After.dn hst9.below ⟨A9, c9, rs9, rfl, hst9.matAt (List.Sublist.refl _) (by rw [leastL_len]; exact hlen _ hm)⟩
    · intro e1 w1 hb hp hun
      refine Ops.ld_agg 0 (hB6.below hb) rfl rfl rfl ?_
      refine Ops.nil ?_
      exact After.dn (Below.refl _ _) (by exact rfl)
    · intro e1 w1 hb hp hun
      obtain ⟨A9, c9, rs9, h22, hT⟩ := (hp 1 (by decide) rfl _ _ rfl rfl)
      refine Ops.call (sameManiplex_c A9 n c9 rs9 _ X.top.a n X.top.c X.rs X.xss _ hT (hX6.later hb) (by omega)) rfl (by exact congrArg (fun v => [v, Value.agg #[.slice X.top.a n X.top.c]]) h22) rfl ?_
      rintro _ w9 ⟨rfl, hst9⟩
      refine Ops.nil ?_
      exact After.dn hst9.below rfl
    intro uu w7 hb7 _
    have hS7 := hS6.later hb7
    refine thenQ_n ?_
    -- stop: cond
    refine Cd.cond_p _ rfl (fun h2 => ?_) (fun h2 => ?_)
    · rw [if_pos (hXo.1 h2)] at hsn
      have e1 : (selV F (all.take i) ++ [X]).length = (selV F (all.take i)).length + 1 := by simp
      refine Cd.region ?_
      refine Ops.mv_sl rfl rfl rfl ?_
      -- stop: LOAD 24 t8=m -> 26
      refine Ops.ld_agg 0 (hS7.rd 0 rfl) rfl rfl rfl ?_
      refine Ops.bs1A hS7 rfl rfl rfl ?_
      intro A10 w8 hS8
      rw [hXt] at hS8
      refine Ops.appR 2 hS8 rfl (hS8.rdR 0 rfl) rfl rfl rfl (by omega) (by omega) rfl ?_
      intro A11 c11 w9 hS9
      have hS9 : St w1 w9 [CkR 24 A10 1 1 [X.top], Bx 24 1 A8 [.slice X.top.a n X.top.c], CkR 24 A11 ((selV F (all.take i)).length + 1) c11 ((selV F (all.take i)).map (·.top) ++ [X.top])] := hS9
      refine Ops.mv_sl rfl rfl rfl ?_
      refine Ops.nil ?_
      refine blockQ_n ?_
      refine thenQ_n ?_
      refine Cd.region ?_
      refine Ops.add rfl rfl rfl (by omega) ?_
      refine Ops.mv_int rfl rfl rfl ?_
      refine Ops.nil ?_
      refine thenQ_n ?_
      -- stop: round
      refine ⟨(i + 1, (A11, c11)), by show all.length - (i + 1) < all.length - i; omega, ⟨by show Value.slice _ _ _ = .slice _ (selV F (all.take (i + 1))).length _; rw [hsn, e1], rfl, rfl, rfl, trivial⟩, ?_, hi'⟩
      show St w1 w9 [CkR _ A11 (selV F (all.take (i + 1))).length c11 ((selV F (all.take (i + 1))).map (·.top))]
      rw [hsn, e1, List.map_append]
      exact hS9.tail.tail
    · rw [if_neg (fun h => h2 (hXo.2 h))] at hsn
      refine Cd.skip ?_
      refine blockQ_n ?_
      refine thenQ_n ?_
      refine Cd.region ?_
      refine Ops.add rfl rfl rfl (by omega) ?_
      refine Ops.mv_int rfl rfl rfl ?_
      refine Ops.nil ?_
      refine thenQ_n ?_
      -- stop: round
      refine ⟨(i + 1, (B6, c7)), by show all.length - (i + 1) < all.length - i; omega, ⟨by show Value.slice _ _ _ = .slice _ (selV F (all.take (i + 1))).length _; rw [hsn], rfl, rfl, rfl, trivial⟩, ?_, hi'⟩
      show St w1 w7 [CkR _ B6 (selV F (all.take (i + 1))).length c7 ((selV F (all.take (i + 1))).map (·.top))]
      rw [hsn]
      exact hS7.tail
  · have hin : i = all.length := by omega
    subst hin
    rw [List.take_length] at *
    have hsub : ∀ m ∈ selV F all, m ∈ all := fun m hm => (List.mem_filter.1 hm).1
    have hj : St w w4 (CkR 24 B6 (selV F all).length c7 ((selV F all).map (·.top)) :: ([] ++ matsCk 33 2 (selV F all))) := by
      refine (hst.call hS4).sub ?_
      refine List.Sublist.cons_cons _ ((matsCk_sub List.filter_sublist).trans (List.sublist_cons_self _ _))
    have hfx : (selV F all).map (·.xss) = ownL n F := by
      rw [ownL, formsL, ← hall, selV, List.filter_map]
      rfl
    refine Cd.exit ?_
    refine thenQ_x ?_
    refine thenQ_x ?_
    refine blockQ_x ?_
    refine thenQ_n ?_
    refine Cd.seq ?_
    refine Cd.region ?_
    refine Ops.mv_sl rfl rfl rfl ?_
    -- stop: CALL impl.Maniplex](t30, impl.compareManiplexes) -> 31
    refine Ops.call (sortM_c (fun m hm => hok m (hsub m hm)) (fun m hm => by rw [htn m (hsub m hm)]; omega) (by omega) hj) rfl rfl rfl ?_
    rintro _ w5 ⟨rfl, ms', hp, hso, hS5⟩
    refine Ops.nil ?_
    refine thenQ_n ?_
    refine Cd.seq ?_
    refine Cd.region ?_
    refine Ops.mv_sl rfl rfl rfl ?_
    refine Ops.mv_sl rfl rfl rfl ?_
    refine Ops.mv_int rfl rfl rfl ?_
    refine Ops.nil ?_
    refine thenQ_n ?_
    refine Cd.ret ?_
    refine ret2_si rfl rfl ?_
    -- stop: end
    have e2 : ms'.map (·.xss) = listL n F := ordM_one (by rw [← hfx]; exact hp.map _) hso
    exact ⟨B6, c7, ms', by rw [eK, hp.length_eq], by rw [eL]; exact e2, fun m hm => hok m (hsub m (hp.mem_iff.1 hm)), hS5⟩
end Go.Proofs.Ytgobjpcankaicaa.Vc
/-
  The walk of the law FnExactPetrieCycles: it returns true. Conditions: as it states them.
-/
namespace Go.Proofs.Ytgobjpcankaicaa.Vc
open Go.RowKit

theorem St.matNil {w0 w : World} {t1 t2 : TypeId} {A : Option Addr} {n c : Nat} {rs : List SlV} {xss : List (List Int)} {pre : List Ck} (h : St w0 w (pre ++ mat t1 t2 A n c rs xss)) : St w0 w (pre ++ (mat t1 t2 A n c rs xss ++ [])) := by rwa [List.append_nil]

end Go.Proofs.Ytgobjpcankaicaa.Vc
/-
  The laws' marks over lists of lists, told exactly. Conditions: as each states them.
-/
namespace Go.Proofs.Ytgobjpcankaicaa.Vc
open Go.RowKit

def tot (xss : List (List Int)) : Int := ((xss.map List.length).sum : Nat)
theorem tot_snoc (xs : List (List Int)) (x : List Int) : tot (xs ++ [x]) = tot xs + x.length := by simp [tot]
theorem tot_le {b : Nat} : ∀ (xs : List (List Int)), (∀ x ∈ xs, x.length ≤ b) → 0 ≤ tot xs ∧ tot xs ≤ (xs.length * b : Nat)
  | [], _ => by simp [tot]
  | x :: xs, h => by
    have h1 := tot_le xs (fun y hy => h y (by simp [hy]))
    have h2 := h x (by simp)
    have e : tot (x :: xs) = x.length + tot xs := by simp [tot]
    rw [e, List.length_cons, Nat.succ_mul]
    omega
def mkSS (k : Int) : List (List Int) → List (List Int)
  | [] => []
  | x :: xs => marks k x.length :: mkSS (k + x.length) xs
theorem mkSS_len : ∀ (xs : List (List Int)) (k : Int), (mkSS k xs).length = xs.length
  | [], _ => rfl
  | _ :: xs, k => by simp [mkSS, mkSS_len xs]
theorem mkSS_snoc (x : List Int) : ∀ (xs : List (List Int)) (k : Int), mkSS k (xs ++ [x]) = mkSS k xs ++ [marks (k + tot xs) x.length]
  | [], k => by simp [mkSS, tot]
  | y :: xs, k => by
    have e : tot (y :: xs) = y.length + tot xs := by simp [tot]
    simp only [List.cons_append, mkSS]
    rw [mkSS_snoc x xs, e, Int.add_assoc]
theorem mkSS_get {xs : List (List Int)} {k : Int} {i : Nat} (hi : i < xs.length) : (mkSS k xs)[i]? = some (marks (k + tot (xs.take i)) xs[i].length) := by
  have h1 : xs = (xs.take i ++ [xs[i]]) ++ xs.drop (i + 1) := by rw [← List.take_succ_eq_append_getElem hi, List.take_append_drop]
  have gen : ∀ (a b : List (List Int)) (k : Int), ∃ r, mkSS k (a ++ b) = mkSS k a ++ r := by
    intro a
    induction a with
    | nil => intro b k; exact ⟨_, rfl⟩
    | cons y a ih =>
      intro b k
      obtain ⟨r, hr⟩ := ih b (k + y.length)
      exact ⟨r, by simp only [List.cons_append, mkSS]; rw [hr]⟩
  obtain ⟨r, hr⟩ := gen (xs.take i ++ [xs[i]]) (xs.drop (i + 1)) k
  rw [← h1, mkSS_snoc] at hr
  have h2 : (mkSS k (xs.take i)).length = i := by rw [mkSS_len]; simp; omega
  rw [hr, List.append_assoc, List.getElem?_append_right (by omega), h2]
  simp
def mixM (k : Int) (xs : List (List Int)) (i : Nat) : List (List Int) := mkSS k (xs.take i) ++ xs.drop i
theorem mixM_len (k : Int) (xs : List (List Int)) (i : Nat) : (mixM k xs i).length = xs.length := by simp [mixM, mkSS_len]; omega
theorem mixM_get {k : Int} {xs : List (List Int)} {i : Nat} (h : i < xs.length) : (mixM k xs i).getD i [] = xs[i] := by
  have h2 : (mkSS k (xs.take i)).length = i := by rw [mkSS_len]; simp; omega
  rw [mixM, List.getD_eq_getElem?_getD, List.getElem?_append_right (by omega), h2]
  simp [h]
theorem mixM_step {k : Int} {xs : List (List Int)} {i : Nat} (h : i < xs.length) : (mixM k xs i).set i (marks (k + tot (xs.take i)) xs[i].length) = mixM k xs (i + 1) := by
  have h2 : (mkSS k (xs.take i)).length = i := by rw [mkSS_len]; simp; omega
  unfold mixM
  rw [List.set_append_right _ _ (by omega), h2, Nat.sub_self, List.take_succ_eq_append_getElem h, mkSS_snoc, List.append_assoc, List.drop_eq_getElem_cons h]
  rfl

theorem markSS_c {w0 w : World} {pre post : List Ck} {t1 t2 : TypeId} {A : Option Addr} {n c : Nat} {rs : List SlV} {xss : List (List Int)} (k : Int) (hS : St w0 w (pre ++ (mat t1 t2 A n c rs xss ++ post))) (hrl : rs.length = n) (hxl : xss.length = n) (hn : n ≤ 1000) (hr : ∀ x ∈ xss, x.length ≤ 1000) (hk0 : 0 ≤ k ∧ k ≤ 1000000000000000) :
    Ret Try.prog 63 [.slice A n c, .int .i64 k] w (fun v w' => v = .int .i64 (k + tot xss) ∧ St w0 w' (pre ++ (mat t1 t2 A n c rs (mkSS k xss) ++ post))) := by
  refine Ret.of_cd Try.func63 rfl Try.ntmps63 rfl (post1 rfl) ?_
  refine Cd.seq ?_
  refine Cd.region ?_
  refine Ops.mv_int rfl rfl rfl ?_
  refine Ops.nil ?_
  refine thenQ_n ?_
  refine Cd.seq ?_
  refine Cd.seq ?_
  refine Cd.region ?_
  refine Ops.mv_int rfl rfl rfl ?_
  refine Ops.nil ?_
  refine thenQ_n ?_
  refine Cd.block ?_
  -- stop: loop
  refine Cd.loop (α := Nat) (fun i => [(0, .slice A n c), (1, .int .i64 (k + tot (xss.take i))), (5, .int .i64 (i : Int))]) (fun i w' => St w0 w' (pre ++ (mat t1 t2 A n c rs (mixM k xss i) ++ post)) ∧ i ≤ n) (fun i => n - i) 0 ⟨rfl, by show Value.int .i64 _ = .int .i64 _; simp [tot], rfl, trivial⟩ ⟨by simpa [mixM, mkSS] using hS, Nat.zero_le _⟩ ?_
  rintro i e w1 ⟨hS1, hi⟩
  have hyl := mixM_len k xss i
  have hM := (hS1.sub (List.sublist_append_right _ _)).rowsI (by omega)
  have htb := tot_le (b := 1000) (xss.take i) (fun x hx => hr x (List.mem_of_mem_take hx))
  have htl : (xss.take i).length ≤ 1000 := by simp; omega
  have htm : (xss.take i).length * 1000 ≤ 1000 * 1000 := Nat.mul_le_mul_right 1000 htl
  refine Cd.seq ?_
  refine Cd.seq ?_
  refine Cd.region ?_
  refine Ops.mv_int rfl rfl rfl ?_
  refine Ops.mv_sl rfl rfl rfl ?_
  refine Ops.len rfl rfl ?_
  refine Ops.lss rfl rfl rfl ?_
  refine Ops.nil ?_
  refine thenQ_n ?_
  -- stop: cond
  refine Cd.cond_p _ rfl (fun h1 => ?_) (fun h1 => ?_)
  · have hi' : i < xss.length := by omega
    have hget := mat_get (t1 := t1) (t2 := t2) (A := A) (n := n) (c := c) (rs := rs) (xss := mixM k xss i) (pre := pre) (ks := post) (i := i) (by omega) (by omega)
    have hset := fun l => mat_set (t1 := t1) (t2 := t2) (A := A) (n := n) (c := c) (rs := rs) (xss := mixM k xss i) (pre := pre) (ks := post) (i := i) (xs := l) (by omega) (by omega)
    rw [mixM_get hi'] at hget
    have hln := hS1.lenI _ hget
    have hxi := hr xss[i] (List.getElem_mem hi')
    have hst := mixM_step (k := k) hi'
    have htot : tot (xss.take (i + 1)) = tot (xss.take i) + xss[i].length := by rw [List.take_succ_eq_append_getElem hi', tot_snoc]
    refine Cd.skip ?_
    refine thenQ_n ?_
    refine Cd.seq ?_
    refine Cd.block ?_
    refine Cd.region ?_
    refine Ops.mv_sl rfl rfl rfl ?_
    refine Ops.mv_int rfl rfl rfl ?_
    -- stop: INDEXADDR 22 t12 t13 -> 14
    refine Ops.idx hM.top.2 rfl rfl rfl (by omega) h1 ?_
    refine Ops.ld_sl hM.top rfl (by omega) rfl rfl ?_
    refine Ops.mv_int rfl rfl rfl ?_
    -- stop: CALL laws.markInt64S(t15, t16) -> 17
    refine Ops.call (markInt64S_c (pre.length + 1 + i) (k + tot (xss.take i)) hS1 hget ⟨by omega, by omega⟩) rfl rfl rfl ?_
    rintro _ w2 ⟨rfl, hS2⟩
    rw [hset, ← hln, hst] at hS2
    refine Ops.mv_int rfl rfl rfl ?_
    refine Ops.nil ?_
    refine blockQ_n ?_
    refine thenQ_n ?_
    refine Cd.region ?_
    refine Ops.mv_int rfl rfl rfl ?_
    refine Ops.add rfl rfl rfl (by omega) ?_
    refine Ops.mv_int rfl rfl rfl ?_
    refine Ops.nil ?_
    refine thenQ_n ?_
    -- stop: round
    exact ⟨i + 1, by show n - (i + 1) < n - i; omega, ⟨rfl, by show Value.int .i64 _ = .int .i64 _; rw [htot, ← Int.add_assoc, hln], rfl, trivial⟩, hS2, by omega⟩
  · refine Cd.exit ?_
    refine thenQ_x ?_
    refine thenQ_x ?_
    refine blockQ_x ?_
    refine thenQ_n ?_
    refine Cd.seq ?_
    refine Cd.region ?_
    refine Ops.mv_int rfl rfl rfl ?_
    refine Ops.mv_int rfl rfl rfl ?_
    refine Ops.nil ?_
    refine thenQ_n ?_
    refine Cd.ret ?_
    refine ret1_i rfl ?_
    -- stop: end
    have hin : i = n := by omega
    subst hin
    have e1 : xss.take i = xss := List.take_of_length_le (by omega)
    have e2 : mixM k xss i = mkSS k xss := by rw [mixM, e1, List.drop_of_length_le (by omega), List.append_nil]
    rw [e1]
    rw [e2] at hS1
    exact ⟨rfl, hS1⟩

theorem heldSS_c (A : Option Addr) (n c : Nat) (rs : List SlV) (xss : List (List Int)) (k : Int) (w : World) (hR : RowsI w A n rs (mkSS k xss)) (hn : n ≤ 1000) (hr : ∀ x ∈ xss, x.length ≤ 1000) (hk0 : 0 ≤ k ∧ k ≤ 1000000000000000) :
    Ret Try.prog 73 [.slice A n c, .int .i64 k] w (fun v w' => v = .int .i64 (k + tot xss) ∧ w' = w) := by
  have hxl : xss.length = n := by rw [← mkSS_len xss k]; exact hR.len
  refine Ret.of_cd Try.func73 rfl Try.ntmps73 rfl (post1 rfl) ?_
  refine Cd.seq ?_
  refine Cd.region ?_
  refine Ops.mv_int rfl rfl rfl ?_
  refine Ops.nil ?_
  refine thenQ_n ?_
  refine Cd.seq ?_
  refine Cd.seq ?_
  refine Cd.region ?_
  refine Ops.mv_int rfl rfl rfl ?_
  refine Ops.nil ?_
  refine thenQ_n ?_
  refine Cd.block ?_
  -- stop: loop
  refine Cd.loop (α := Nat) (fun i => [(0, .slice A n c), (1, .int .i64 (k + tot (xss.take i))), (5, .int .i64 (i : Int))]) (fun i w' => w' = w ∧ i ≤ n) (fun i => n - i) 0 ⟨rfl, by show Value.int .i64 _ = .int .i64 _; simp [tot], rfl, trivial⟩ ⟨rfl, Nat.zero_le _⟩ ?_
  rintro i e w ⟨rfl, hi⟩
  have htb := tot_le (b := 1000) (xss.take i) (fun x hx => hr x (List.mem_of_mem_take hx))
  have htl : (xss.take i).length ≤ 1000 := by simp; omega
  have htm : (xss.take i).length * 1000 ≤ 1000 * 1000 := Nat.mul_le_mul_right 1000 htl
  refine Cd.seq ?_
  refine Cd.seq ?_
  refine Cd.region ?_
  refine Ops.mv_int rfl rfl rfl ?_
  refine Ops.mv_sl rfl rfl rfl ?_
  refine Ops.len rfl rfl ?_
  refine Ops.lss rfl rfl rfl ?_
  refine Ops.nil ?_
  refine thenQ_n ?_
  -- stop: cond
  refine Cd.cond_p _ rfl (fun h1 => ?_) (fun h1 => ?_)
  · have hi' : i < xss.length := by omega
    have hxi := hr xss[i] (List.getElem_mem hi')
    have htot : tot (xss.take (i + 1)) = tot (xss.take i) + xss[i].length := by rw [List.take_succ_eq_append_getElem hi', tot_snoc]
    have hrow := hR.at_ (i := (i : Int)) (by omega) h1
    have hg : gl (mkSS k xss) (i : Int) = marks (k + tot (xss.take i)) xss[i].length := by
      simp only [gl, Int.toNat_natCast, List.getD_eq_getElem?_getD, mkSS_get hi', Option.getD_some]
    rw [hg] at hrow
    have hln := hrow.1
    rw [marks_len] at hln
    rw [hln] at hrow
    refine Cd.skip ?_
    refine thenQ_n ?_
    refine Cd.seq ?_
    refine Cd.block ?_
    refine Cd.seq ?_
    refine Cd.region ?_
    refine Ops.mv_sl rfl rfl rfl ?_
    refine Ops.mv_int rfl rfl rfl ?_
    -- stop: INDEXADDR 22 t12 t13 -> 14
    refine Ops.idx hR.top.2 rfl rfl rfl (by omega) h1 ?_
    refine Ops.ld_sl hR.top rfl (by omega) rfl rfl ?_
    refine Ops.mv_int rfl rfl rfl ?_
    -- stop: CALL laws.heldInt64S(t15, t16) -> 17
    refine Ops.call (heldInt64S_c (rg rs (i : Int)).a (rg rs (i : Int)).n (rg rs (i : Int)).c (k + tot (xss.take i)) _ hrow ⟨by omega, by omega⟩) rfl rfl rfl ?_
    rintro _ w ⟨rfl, rfl⟩
    refine Ops.mv_int rfl rfl rfl ?_
    refine Ops.nil ?_
    refine thenQ_n ?_
    refine Cd.seq ?_
    refine Cd.region ?_
    refine Ops.mv_int rfl rfl rfl ?_
    refine Ops.lss rfl rfl rfl ?_
    refine Ops.nil ?_
    refine thenQ_n ?_
    -- stop: cond
    refine Cd.cond_pf rfl (by omega) ?_
    refine Cd.skip ?_
    refine blockQ_n ?_
    refine thenQ_n ?_
    refine Cd.region ?_
    refine Ops.mv_int rfl rfl rfl ?_
    refine Ops.add rfl rfl rfl (by omega) ?_
    refine Ops.mv_int rfl rfl rfl ?_
    refine Ops.nil ?_
    refine thenQ_n ?_
    -- stop: round
    exact ⟨i + 1, by show n - (i + 1) < n - i; omega, ⟨rfl, by show Value.int .i64 _ = .int .i64 _; rw [htot, ← Int.add_assoc, hln], rfl, trivial⟩, rfl, by omega⟩
  · refine Cd.exit ?_
    refine thenQ_x ?_
    refine thenQ_x ?_
    refine blockQ_x ?_
    refine thenQ_n ?_
    refine Cd.seq ?_
    refine Cd.region ?_
    refine Ops.mv_int rfl rfl rfl ?_
    refine Ops.mv_int rfl rfl rfl ?_
    refine Ops.nil ?_
    refine thenQ_n ?_
    refine Cd.ret ?_
    refine ret1_i rfl ?_
    -- stop: end
    have hin : i = n := by omega
    subst hin
    rw [List.take_of_length_le (by omega)]
    exact ⟨rfl, rfl⟩
end Go.Proofs.Ytgobjpcankaicaa.Vc
/-
  Lists of maniplexes compared, marked and found marked; and the answers of CountManiplexes, AllManiplexes and ManiplexAt on both sides. Conditions: as each states them.
-/
namespace Go.Proofs.Ytgobjpcankaicaa.Vc
open Go.RowKit

/-- a list of matrices, read -/
structure MsR (w : World) (A : Option Addr) (ms : List MatV) : Prop where
  top : RdR w A ms.length (ms.map (·.top))
  row : ∀ m ∈ ms, RowsI w m.top.a m.top.n m.rs m.xss
theorem MsR.later {w w' : World} {A : Option Addr} {ms : List MatV} (h : MsR w A ms) (hb : Below w.heap.size w w') : MsR w' A ms := ⟨h.top.later hb, fun m hm => (h.row m hm).later hb⟩
theorem St.msR {w0 w : World} {A : Option Addr} {c : Nat} {ms : List MatV} {ks : List Ck} (h : St w0 w ks) (hok : ∀ m ∈ ms, m.ok) (hs : (CkR 24 A ms.length c (ms.map (·.top)) :: matsCk 33 2 ms).Sublist ks) : MsR w A ms :=
  ⟨(h.sub hs).rdR 0 rfl, fun m hm => h.matAt (c := m.top.c) (t1 := 33) (t2 := 2) (((MatV.sub_ hm).trans (List.sublist_cons_self _ _)).trans hs) (hok m hm)⟩
theorem MsR.at_ {w : World} {A : Option Addr} {ms : List MatV} (h : MsR w A ms) {i : Nat} (hi : i < ms.length) : RowsI w (rg (ms.map (·.top)) (i : Int)).a (rg (ms.map (·.top)) (i : Int)).n (ms[i]).rs (ms[i]).xss := by
  rw [top_at hi]; exact h.row _ (List.getElem_mem hi)

theorem eqManiplexS_c (A : Option Addr) (c : Nat) (ms : List MatV) (A' : Option Addr) (c' : Nat) (ns : List MatV) (w : World) (hR : MsR w A ms) (hR' : MsR w A' ns) (hn : ms.length ≤ 9223372036854775807) (hcap : ∀ m ∈ ms, m.top.n ≤ 9223372036854775807) :
    Ret Try.prog 39 [.slice A ms.length c, .slice A' ns.length c'] w (fun v w' => v = .bool (decide (ms.map (·.xss) = ns.map (·.xss))) ∧ St w w' []) := by
  refine Ret.of_cd Try.func39 rfl Try.ntmps39 rfl (post1 rfl) ?_
  refine Cd.seq ?_
  refine Cd.region ?_
  refine Ops.mv_bool rfl rfl rfl ?_
  refine Ops.nil ?_
  refine thenQ_n ?_
  refine Cd.seq ?_
  refine Cd.seq ?_
  refine Cd.region ?_
  refine Ops.mv_sl rfl rfl rfl ?_
  refine Ops.len rfl rfl ?_
  refine Ops.mv_sl rfl rfl rfl ?_
  refine Ops.len rfl rfl ?_
  refine Ops.neq rfl rfl rfl ?_
  refine Ops.nil ?_
  refine thenQ_n ?_
  -- stop: cond
  refine Cd.cond_p _ rfl (fun h => ?_) (fun h => ?_)
  · refine Cd.seq ?_
    refine Cd.region ?_
    refine Ops.mv_bool rfl rfl rfl ?_
    refine Ops.nil ?_
    refine thenQ_n ?_
    refine Cd.ret ?_
    refine thenQ_r ?_
    refine ret1_b rfl ?_
    -- stop: end
    exact ⟨by rw [decide_eq_false (fun e : ms.map (·.xss) = ns.map (·.xss) => h (by have := congrArg List.length e; simp at this; rw [this]))], St.refl _⟩
  refine Cd.skip ?_
  refine thenQ_n ?_
  refine Cd.seq ?_
  refine Cd.seq ?_
  refine Cd.region ?_
  refine Ops.mv_int rfl rfl rfl ?_
  refine Ops.nil ?_
  refine thenQ_n ?_
  refine Cd.block ?_
  -- stop: loop
  refine Cd.loop (α := Nat) (fun k => [(0, .slice A ms.length c), (1, .slice A' ns.length c'), (5, .int .i64 (k : Int))]) (fun k w' => St w w' [] ∧ k ≤ ms.length ∧ (ms.map (·.xss)).take k = (ns.map (·.xss)).take k) (fun k => ms.length - k) 0 ⟨rfl, rfl, rfl, trivial⟩ ⟨St.refl w, Nat.zero_le _, rfl⟩ ?_
  rintro k e w2 ⟨hS2, hk, hI⟩
  have hle : ms.length = ns.length := by omega
  refine Cd.seq ?_
  refine Cd.seq ?_
  refine Cd.region ?_
  refine Ops.mv_int rfl rfl rfl ?_
  refine Ops.mv_sl rfl rfl rfl ?_
  refine Ops.len rfl rfl ?_
  refine Ops.lss rfl rfl rfl ?_
  refine Ops.nil ?_
  refine thenQ_n ?_
  -- stop: cond
  refine Cd.cond_p _ rfl (fun h1 => ?_) (fun h1 => ?_)
  · have hA := hR.later hS2.below
    have hB := hR'.later hS2.below
    have hk1 : k < ms.length := by omega
    have hk2 : k < ns.length := by omega
    have ha := hA.at_ hk1
    have hb' := hB.at_ hk2
    have hc := hcap _ (List.getElem_mem hk1)
    have ht := top_at hk1
    rw [← ht] at hc
    refine Cd.skip ?_
    refine thenQ_n ?_
    refine Cd.seq ?_
    refine Cd.block ?_
    refine Cd.seq ?_
    -- stop: draw
    refine Cd.draw [.ex (.slice (A) (ms.length) (c)), .ex (.int .i64 ((k : Int))), .ex (.pointer (ptrAt (A) ((k : Int)).toNat)), .ex (.agg #[.slice (rg (ms.map (·.top)) ((k : Int))).a (rg (ms.map (·.top)) ((k : Int))).n (rg (ms.map (·.top)) ((k : Int))).c]), .ex (.slice (A') (ns.length) (c')), .ex (.int .i64 ((k : Int))), .ex (.pointer (ptrAt (A') ((k : Int)).toNat)), .ex (.agg #[.slice (rg (ns.map (·.top)) ((k : Int))).a (rg (ns.map (·.top)) ((k : Int))).n (rg (ns.map (·.top)) ((k : Int))).c]), .ex (.bool (decide (ms[k].xss = ns[k].xss))), .ex (.bool (decide (¬ (ms[k].xss = ns[k].xss))))] (by kernel_rfl) (by kernel_rfl) rfl (List.forall_mem_cons.2 ⟨Yd.lasts_ex _, (List.forall_mem_cons.2 ⟨Yd.lasts_ex _, (List.forall_mem_cons.2 ⟨Yd.lasts_ex _, (List.forall_mem_cons.2 ⟨Yd.lasts_ex _, (List.forall_mem_cons.2 ⟨Yd.lasts_ex _, (List.forall_mem_cons.2 ⟨Yd.lasts_ex _, (List.forall_mem_cons.2 ⟨Yd.lasts_ex _, (List.forall_mem_cons.2 ⟨Yd.lasts_ex _, (List.forall_mem_cons.2 ⟨Yd.lasts_ex _, (List.forall_mem_cons.2 ⟨Yd.lasts_ex _, (fun _ h => by cases h)⟩)⟩)⟩)⟩)⟩)⟩)⟩)⟩)⟩)⟩) ⟨?_, ?_, ?_, ?_, ?_, ?_, ?_, ?_, ?_, ?_, trivial⟩ ?_
    · intro e1 w1 hb hp hun
      refine Ops.mv_sl rfl rfl rfl ?_
      refine Ops.nil ?_
      exact After.dn (Below.refl _ _) (by exact rfl)
    · intro e1 w1 hb hp hun
      refine Ops.mv_int rfl rfl rfl ?_
      refine Ops.nil ?_
      exact After.dn (Below.refl _ _) (by exact rfl)
    · intro e1 w1 hb hp hun
      refine Ops.idx (hA.top.later hb).2 rfl rfl rfl (by omega) (by omega) ?_
      refine Ops.nil ?_
      exact After.dn (Below.refl _ _) (by exact rfl)
    · intro e1 w1 hb hp hun
      refine Ops.ld_ag (hA.top.later hb) rfl (by omega) rfl ?_
      refine Ops.nil ?_
      exact After.dn (Below.refl _ _) (by exact rfl)
    · intro e1 w1 hb hp hun
      refine Ops.mv_sl rfl rfl rfl ?_
      refine Ops.nil ?_
      exact After.dn (Below.refl _ _) (by exact rfl)
    · intro e1 w1 hb hp hun
      refine Ops.mv_int rfl rfl rfl ?_
      refine Ops.nil ?_
      exact After.dn (Below.refl _ _) (by exact rfl)
    · intro e1 w1 hb hp hun
      refine Ops.idx (hB.top.later hb).2 rfl rfl rfl (by omega) (by omega) ?_
      refine Ops.nil ?_
      exact After.dn (Below.refl _ _) (by exact rfl)
    · intro e1 w1 hb hp hun
      refine Ops.ld_ag (hB.top.later hb) rfl (by omega) rfl ?_
      refine Ops.nil ?_
      exact After.dn (Below.refl _ _) (by exact rfl)
    · intro e1 w1 hb hp hun
      refine Ops.call (eqManiplex_c _ _ _ _ _ _ _ _ _ _ _ (ha.later hb) (hb'.later hb) hc) rfl rfl rfl ?_
      rintro _ w2 ⟨rfl, hst⟩
      refine Ops.nil ?_
      exact After.dn hst.below (by exact rfl)
    · intro e1 w1 hb hp hun
      refine Ops.not_p rfl rfl ?_
      refine Ops.nil ?_
      exact After.dn (Below.refl _ _) (by exact rfl)
    intro u w3 hb3 _
    have hS3 := hS2.later hb3
    refine thenQ_n ?_
    -- stop: cond
    refine Cd.cond_p _ rfl (fun h3 => ?_) (fun h3 => ?_)
    · refine Cd.seq ?_
      refine Cd.region ?_
      refine Ops.mv_bool rfl rfl rfl ?_
      refine Ops.nil ?_
      refine thenQ_n ?_
      refine Cd.ret ?_
      refine blockQ_r ?_
      refine thenQ_r ?_
      refine thenQ_r ?_
      refine blockQ_r ?_
      refine thenQ_r ?_
      refine ret1_b rfl ?_
      -- stop: end
      refine ⟨by rw [decide_eq_false (fun e : ms.map (·.xss) = ns.map (·.xss) => h3 (by
        have := congrArg (fun l => l[k]?) e
        simpa [hk1, hk2] using this))], hS3⟩
    · refine Cd.skip ?_
      refine blockQ_n ?_
      refine thenQ_n ?_
      refine Cd.region ?_
      refine Ops.mv_int rfl rfl rfl ?_
      refine Ops.add rfl rfl rfl (by omega) ?_
      refine Ops.mv_int rfl rfl rfl ?_
      refine Ops.nil ?_
      refine thenQ_n ?_
      -- stop: round
      refine ⟨k + 1, by omega, ⟨rfl, rfl, rfl, trivial⟩, hS3, by omega, ?_⟩
      rw [List.take_succ_eq_append_getElem (by rw [List.length_map]; exact hk1), List.take_succ_eq_append_getElem (by rw [List.length_map]; exact hk2), hI, List.getElem_map, List.getElem_map, Classical.not_not.1 h3]
  · refine Cd.exit ?_
    refine thenQ_x ?_
    refine thenQ_x ?_
    refine blockQ_x ?_
    refine thenQ_n ?_
    refine Cd.seq ?_
    refine Cd.region ?_
    refine Ops.mv_bool rfl rfl rfl ?_
    refine Ops.nil ?_
    refine thenQ_n ?_
    refine Cd.ret ?_
    refine ret1_b rfl ?_
    -- stop: end
    refine ⟨?_, hS2⟩
    rw [List.take_of_length_le (by rw [List.length_map]; omega), List.take_of_length_le (by rw [List.length_map]; omega)] at hI
    rw [decide_eq_true hI]

/-! marks -/
def totM (ms : List MatV) : Int := ((ms.map fun m => (m.xss.map List.length).sum).sum : Nat)
theorem totM_snoc (ms : List MatV) (m : MatV) : totM (ms ++ [m]) = totM ms + tot m.xss := by simp [totM, tot]
theorem totM_cons (ms : List MatV) (m : MatV) : totM (m :: ms) = tot m.xss + totM ms := by simp [totM, tot]
theorem totM_le {b : Nat} : ∀ (ms : List MatV), (∀ m ∈ ms, tot m.xss ≤ b) → 0 ≤ totM ms ∧ totM ms ≤ (ms.length * b : Nat)
  | [], _ => by simp [totM]
  | m :: ms, h => by
    have h1 := totM_le ms (fun y hy => h y (by simp [hy]))
    have h2 := h m (by simp)
    have h3 : 0 ≤ tot m.xss := by unfold tot; omega
    rw [totM_cons, List.length_cons, Nat.succ_mul]
    omega
def mkV (k : Int) : List MatV → List MatV
  | [] => []
  | m :: ms => { m with xss := mkSS k m.xss } :: mkV (k + tot m.xss) ms
theorem mkV_len : ∀ (ms : List MatV) (k : Int), (mkV k ms).length = ms.length
  | [], _ => rfl
  | _ :: ms, k => by simp [mkV, mkV_len ms]
theorem mkV_top : ∀ (ms : List MatV) (k : Int), (mkV k ms).map (·.top) = ms.map (·.top)
  | [], _ => rfl
  | _ :: ms, k => by simp [mkV, mkV_top ms]
theorem mkV_snoc (m : MatV) : ∀ (ms : List MatV) (k : Int), mkV k (ms ++ [m]) = mkV k ms ++ [{ m with xss := mkSS (k + totM ms) m.xss }]
  | [], k => by simp [mkV, totM]
  | y :: ms, k => by
    simp only [List.cons_append, mkV]
    rw [mkV_snoc m ms, totM_cons, Int.add_assoc]
theorem mkV_append : ∀ (a b : List MatV) (k : Int), mkV k (a ++ b) = mkV k a ++ mkV (k + totM a) b
  | [], b, k => by simp [mkV, totM]
  | y :: a, b, k => by
    simp only [List.cons_append, mkV]
    rw [mkV_append a b, totM_cons, Int.add_assoc]
theorem mkV_at {ms : List MatV} {k : Int} {i : Nat} (hi : i < ms.length) : (mkV k ms)[i]? = some { ms[i] with xss := mkSS (k + totM (ms.take i)) ms[i].xss } := by
  have h1 : ms = ms.take i ++ (ms[i] :: ms.drop (i + 1)) := by rw [← List.drop_eq_getElem_cons hi, List.take_append_drop]
  have h2 : (mkV k (ms.take i)).length = i := by rw [mkV_len]; simp; omega
  conv => lhs; rw [h1, mkV_append]
  rw [List.getElem?_append_right (by omega), h2, Nat.sub_self]
  rfl
theorem mkV_ok {ms : List MatV} {k : Int} (h : ∀ m ∈ ms, m.ok) : ∀ m ∈ mkV k ms, m.ok := by
  induction ms generalizing k with
  | nil => intro m hm; exact nomatch hm
  | cons a ms ih =>
    intro m hm
    rcases List.mem_cons.1 hm with rfl | hm
    · show (mkSS k a.xss).length = a.top.n
      rw [mkSS_len]; exact h a (by simp)
    · exact ih (fun m hm => h m (by simp [hm])) m hm

/-- small matrices -/
def SmV (m : MatV) : Prop := m.rs.length = m.top.n ∧ m.xss.length = m.top.n ∧ m.top.n ≤ 4 ∧ ∀ x ∈ m.xss, x.length ≤ 12
theorem SmV.tot {m : MatV} (h : SmV m) : 0 ≤ Vc.tot m.xss ∧ Vc.tot m.xss ≤ (48 : Nat) := by
  have h1 := tot_le (b := 12) m.xss h.2.2.2
  have h2 := h.2.1
  have h3 := h.2.2.1
  omega

theorem markManiplexS_c {w0 w : World} {A : Option Addr} {c : Nat} {ms : List MatV} {ks : List Ck} (k : Int) (hS : St w0 w (CkR 24 A ms.length c (ms.map (·.top)) :: (matsCk 33 2 ms ++ ks))) (hsm : ∀ m ∈ ms, SmV m) (hn : ms.length ≤ 4000000000000) (hk0 : 0 ≤ k ∧ k ≤ 1048576) :
    Ret Try.prog 40 [.slice A ms.length c, .int .i64 k] w (fun v w' => v = .int .i64 (k + totM ms) ∧ St w0 w' (CkR 24 A ms.length c (ms.map (·.top)) :: (matsCk 33 2 (mkV k ms) ++ ks))) := by
  refine Ret.of_cd Try.func40 rfl Try.ntmps40 rfl (post1 rfl) ?_
  refine Cd.seq ?_
  refine Cd.region ?_
  refine Ops.mv_int rfl rfl rfl ?_
  refine Ops.nil ?_
  refine thenQ_n ?_
  refine Cd.seq ?_
  refine Cd.seq ?_
  refine Cd.region ?_
  refine Ops.mv_int rfl rfl rfl ?_
  refine Ops.nil ?_
  refine thenQ_n ?_
  refine Cd.block ?_
  -- stop: loop
  refine Cd.loop (α := Nat) (fun i => [(0, .slice A ms.length c), (1, .int .i64 (k + totM (ms.take i))), (5, .int .i64 (i : Int))]) (fun i w' => St w0 w' (CkR 24 A ms.length c (ms.map (·.top)) :: (matsCk 33 2 (mkV k (ms.take i) ++ ms.drop i) ++ ks)) ∧ i ≤ ms.length) (fun i => ms.length - i) 0 ⟨rfl, by show Value.int .i64 _ = .int .i64 _; simp [totM], rfl, trivial⟩ ⟨by simpa [mkV] using hS, Nat.zero_le _⟩ ?_
  rintro i e w1 ⟨hS1, hi⟩
  have htb := totM_le (b := 48) (ms.take i) (fun m hm => (hsm m (List.mem_of_mem_take hm)).tot.2)
  have htl : (ms.take i).length ≤ 4000000000000 := by simp; omega
  refine Cd.seq ?_
  refine Cd.seq ?_
  refine Cd.region ?_
  refine Ops.mv_int rfl rfl rfl ?_
  refine Ops.mv_sl rfl rfl rfl ?_
  refine Ops.len rfl rfl ?_
  refine Ops.lss rfl rfl rfl ?_
  refine Ops.nil ?_
  refine thenQ_n ?_
  -- stop: cond
  refine Cd.cond_p _ rfl (fun h1 => ?_) (fun h1 => ?_)
  · have hi' : i < ms.length := by omega
    have hm := hsm _ (List.getElem_mem hi')
    have htt := hm.tot
    have hti := top_at hi'
    have hT := hS1.rdR 0 rfl
    have hvl : ((ms.map (·.top)).getD (i + 0) slNil).v = .slice ms[i].top.a ms[i].top.n ms[i].top.c := by rw [← hti]; rfl
    have hrb := hT.2.behind (o := i) (m := 1) (by omega)
    have hsn : totM (ms.take (i + 1)) = totM (ms.take i) + tot ms[i].xss := by rw [List.take_succ_eq_append_getElem hi', totM_snoc]
    have hst : mkV k (ms.take (i + 1)) ++ ms.drop (i + 1) = mkV k (ms.take i) ++ ({ ms[i] with xss := mkSS (k + totM (ms.take i)) ms[i].xss } :: ms.drop (i + 1)) := by
      rw [List.take_succ_eq_append_getElem hi', mkV_snoc, List.append_assoc]; rfl
    have hS1' : St w0 w1 ((CkR 24 A ms.length c (ms.map (·.top)) :: matsCk 33 2 (mkV k (ms.take i))) ++ (mat 33 2 ms[i].top.a ms[i].top.n ms[i].top.c ms[i].rs ms[i].xss ++ (matsCk 33 2 (ms.drop (i + 1)) ++ ks))) := by
      rw [List.drop_eq_getElem_cons hi', matsCk_append, show matsCk 33 2 (ms[i] :: ms.drop (i + 1)) = mat 33 2 ms[i].top.a ms[i].top.n ms[i].top.c ms[i].rs ms[i].xss ++ matsCk 33 2 (ms.drop (i + 1)) from rfl] at hS1
      simpa only [List.append_assoc, List.cons_append] using hS1
    refine Cd.skip ?_
    refine thenQ_n ?_
    refine Cd.seq ?_
    refine Cd.block ?_
    refine Cd.region ?_
    refine Ops.mv_sl rfl rfl rfl ?_
    refine Ops.mv_int rfl rfl rfl ?_
    -- stop: INDEXADDR 51 t12 t13 -> 14
    refine Ops.idx hT.2 rfl rfl rfl (by omega) h1 ?_
    refine Ops.fld hrb rfl rfl rfl rfl inferInstance ?_
    refine Ops.ldf_s (A1 := ms[i].top.a) (n1 := ms[i].top.n) (c1 := ms[i].top.c) (j := 0) hrb rfl rfl hvl rfl rfl ?_
    refine Ops.mv_int rfl rfl rfl ?_
    -- stop: CALL laws.markInt64SS(t16, t17) -> 18
    refine Ops.call (markSS_c (k + totM (ms.take i)) hS1' hm.1 hm.2.1 (by have := hm.2.2.1; omega) (fun x hx => by have := hm.2.2.2 x hx; omega) (by omega)) rfl rfl rfl ?_
    rintro _ w2 ⟨rfl, hS2⟩
    refine Ops.mv_int rfl rfl rfl ?_
    refine Ops.nil ?_
    refine blockQ_n ?_
    refine thenQ_n ?_
    refine Cd.region ?_
    refine Ops.mv_int rfl rfl rfl ?_
    refine Ops.add rfl rfl rfl (by omega) ?_
    refine Ops.mv_int rfl rfl rfl ?_
    refine Ops.nil ?_
    refine thenQ_n ?_
    -- stop: round
    refine ⟨i + 1, by show ms.length - (i + 1) < ms.length - i; omega, ⟨rfl, by show Value.int .i64 _ = .int .i64 _; rw [hsn, Int.add_assoc], rfl, trivial⟩, ?_, hi'⟩
    rw [hst, matsCk_append, show matsCk 33 2 ({ ms[i] with xss := mkSS (k + totM (ms.take i)) ms[i].xss } :: ms.drop (i + 1)) = mat 33 2 ms[i].top.a ms[i].top.n ms[i].top.c ms[i].rs (mkSS (k + totM (ms.take i)) ms[i].xss) ++ matsCk 33 2 (ms.drop (i + 1)) from rfl]
    simpa only [List.append_assoc, List.cons_append] using hS2
  · refine Cd.exit ?_
    refine thenQ_x ?_
    refine thenQ_x ?_
    refine blockQ_x ?_
    refine thenQ_n ?_
    refine Cd.seq ?_
    refine Cd.region ?_
    refine Ops.mv_int rfl rfl rfl ?_
    refine Ops.mv_int rfl rfl rfl ?_
    refine Ops.nil ?_
    refine thenQ_n ?_
    refine Cd.ret ?_
    refine ret1_i rfl ?_
    -- stop: end
    have hin : i = ms.length := by omega
    subst hin
    rw [List.take_length, List.drop_length, List.append_nil] at *
    exact ⟨rfl, hS1⟩

theorem heldManiplexS_c (A : Option Addr) (c : Nat) (ms : List MatV) (k : Int) (w : World) (hR : MsR w A (mkV k ms)) (hsm : ∀ m ∈ ms, SmV m) (hn : ms.length ≤ 4000000000000) (hk0 : 0 ≤ k ∧ k ≤ 1048576) :
    Ret Try.prog 41 [.slice A ms.length c, .int .i64 k] w (fun v w' => v = .int .i64 (k + totM ms) ∧ w' = w) := by
  have hT := hR.top
  rw [mkV_len, mkV_top] at hT
  refine Ret.of_cd Try.func41 rfl Try.ntmps41 rfl (post1 rfl) ?_
  refine Cd.seq ?_
  refine Cd.region ?_
  refine Ops.mv_int rfl rfl rfl ?_
  refine Ops.nil ?_
  refine thenQ_n ?_
  refine Cd.seq ?_
  refine Cd.seq ?_
  refine Cd.region ?_
  refine Ops.mv_int rfl rfl rfl ?_
  refine Ops.nil ?_
  refine thenQ_n ?_
  refine Cd.block ?_
  -- stop: loop
  refine Cd.loop (α := Nat) (fun i => [(0, .slice A ms.length c), (1, .int .i64 (k + totM (ms.take i))), (5, .int .i64 (i : Int))]) (fun i w' => w' = w ∧ i ≤ ms.length) (fun i => ms.length - i) 0 ⟨rfl, by show Value.int .i64 _ = .int .i64 _; simp [totM], rfl, trivial⟩ ⟨rfl, Nat.zero_le _⟩ ?_
  rintro i e w ⟨rfl, hi⟩
  have htb := totM_le (b := 48) (ms.take i) (fun m hm => (hsm m (List.mem_of_mem_take hm)).tot.2)
  have htl : (ms.take i).length ≤ 4000000000000 := by simp; omega
  refine Cd.seq ?_
  refine Cd.seq ?_
  refine Cd.region ?_
  refine Ops.mv_int rfl rfl rfl ?_
  refine Ops.mv_sl rfl rfl rfl ?_
  refine Ops.len rfl rfl ?_
  refine Ops.lss rfl rfl rfl ?_
  refine Ops.nil ?_
  refine thenQ_n ?_
  -- stop: cond
  refine Cd.cond_p _ rfl (fun h1 => ?_) (fun h1 => ?_)
  · have hi' : i < ms.length := by omega
    have hm := hsm _ (List.getElem_mem hi')
    have htt := hm.tot
    have hti := top_at hi'
    have hvl : ((ms.map (·.top)).getD (i + 0) slNil).v = .slice ms[i].top.a ms[i].top.n ms[i].top.c := by rw [← hti]; rfl
    have hrb := hT.2.behind (o := i) (m := 1) (by omega)
    have hsn : totM (ms.take (i + 1)) = totM (ms.take i) + tot ms[i].xss := by rw [List.take_succ_eq_append_getElem hi', totM_snoc]
    have hrow := hR.row _ (List.mem_of_getElem? (mkV_at (k := k) hi'))
    refine Cd.skip ?_
    refine thenQ_n ?_
    refine Cd.seq ?_
    refine Cd.block ?_
    refine Cd.seq ?_
    refine Cd.region ?_
    refine Ops.mv_sl rfl rfl rfl ?_
    refine Ops.mv_int rfl rfl rfl ?_
    -- stop: INDEXADDR 51 t12 t13 -> 14
    refine Ops.idx hT.2 rfl rfl rfl (by omega) h1 ?_
    refine Ops.fld hrb rfl rfl rfl rfl inferInstance ?_
    refine Ops.ldf_s (A1 := ms[i].top.a) (n1 := ms[i].top.n) (c1 := ms[i].top.c) (j := 0) hrb rfl rfl hvl rfl rfl ?_
    refine Ops.mv_int rfl rfl rfl ?_
    -- stop: CALL laws.heldInt64SS(t16, t17) -> 18
    refine Ops.call (heldSS_c _ _ _ _ ms[i].xss (k + totM (ms.take i)) _ hrow (show ms[i].top.n ≤ 1000 by have := hm.2.2.1; omega) (fun x hx => by have := hm.2.2.2 x hx; omega) (by omega)) rfl rfl rfl ?_
    rintro _ w ⟨rfl, rfl⟩
    refine Ops.mv_int rfl rfl rfl ?_
    refine Ops.nil ?_
    refine thenQ_n ?_
    refine Cd.seq ?_
    refine Cd.region ?_
    refine Ops.mv_int rfl rfl rfl ?_
    refine Ops.lss rfl rfl rfl ?_
    refine Ops.nil ?_
    refine thenQ_n ?_
    -- stop: cond
    refine Cd.cond_pf rfl (by omega) ?_
    refine Cd.skip ?_
    refine blockQ_n ?_
    refine thenQ_n ?_
    refine Cd.region ?_
    refine Ops.mv_int rfl rfl rfl ?_
    refine Ops.add rfl rfl rfl (by omega) ?_
    refine Ops.mv_int rfl rfl rfl ?_
    refine Ops.nil ?_
    refine thenQ_n ?_
    -- stop: round
    exact ⟨i + 1, by show ms.length - (i + 1) < ms.length - i; omega, ⟨rfl, by show Value.int .i64 _ = .int .i64 _; rw [hsn, Int.add_assoc], rfl, trivial⟩, rfl, hi'⟩
  · refine Cd.exit ?_
    refine thenQ_x ?_
    refine thenQ_x ?_
    refine blockQ_x ?_
    refine thenQ_n ?_
    refine Cd.seq ?_
    refine Cd.region ?_
    refine Ops.mv_int rfl rfl rfl ?_
    refine Ops.mv_int rfl rfl rfl ?_
    refine Ops.nil ?_
    refine thenQ_n ?_
    refine Cd.ret ?_
    refine ret1_i rfl ?_
    -- stop: end
    have hin : i = ms.length := by omega
    subst hin
    rw [List.take_length]
    exact ⟨rfl, rfl⟩
end Go.Proofs.Ytgobjpcankaicaa.Vc
/-
  CountManiplexes and AllManiplexes on both sides, and the walks of their laws. Conditions: none.
-/
namespace Go.Proofs.Ytgobjpcankaicaa.Vc
open Go.RowKit

/-- an answer: a list of maniplexes, and a code -/
def AnsM (L : List Mx) (K : Int) (w : World) (v : Value) (w' : World) : Prop := ∃ A c, ∃ ms : List MatV, v = .tuple #[.slice A ms.length c, .int .i64 K] ∧ ms.map (·.xss) = L ∧ (∀ m ∈ ms, m.ok) ∧
      St w w' (CkR 24 A ms.length c (ms.map (·.top)) :: matsCk 33 2 ms)
theorem AnsM.none {w w' : World} {ks : List Ck} {K : Int} (h : St w w' ks) : AnsM [] K w (.tuple #[.slice Option.none 0 0, .int .i64 K]) w' := ⟨Option.none, 0, [], rfl, rfl, fun m hm => (nomatch hm), h.none.nil _⟩
theorem lst_small {rank flags : Int} {L : Mx} (h : L ∈ lstI rank flags) : Small rank flags ∧ L.length = rank.toNat ∧ (∀ x ∈ L, x.length = flags.toNat) ∧ L.length ≤ 4 ∧ ∀ x ∈ L, x.length ≤ 12 := by
  unfold lstI at h
  split at h
  · rename_i hs
    have h1 := hs.1
    have h2 := hs.2
    have hL := (forms_mani (by omega) (by omega) (listL_mem.1 h).1).2.shp
    exact ⟨hs, hL.1, hL.2, by rw [hL.1]; omega, fun x hx => by rw [hL.2 x hx]; omega⟩
  · cases h
theorem lst_len (rank flags : Int) : (lstI rank flags).length ≤ 4000000000000 := by
  unfold lstI
  split
  · rename_i hs
    have h1 := hs.1
    have h2 := hs.2
    rw [listL_len]
    exact Nat.le_trans (ownL_le _ _) (forms_small (n := rank.toNat) (F := flags.toNat) (by omega) (by omega) _)
  · exact Nat.zero_le _
theorem St.rsLen {w0 w : World} {ks : List Ck} {m : MatV} (h : St w0 w ks) (hs : (m.cks 33 2).Sublist ks) : m.rs.length = m.top.n := by
  have := ((h.own (CkR 33 m.top.a m.top.n m.top.c m.rs) (hs.subset (by simp [MatV.cks, mat]))).toC (isM_R _)).1
  simpa using this
theorem St.smV {w0 w : World} {ks : List Ck} {ms : List MatV} {rank flags : Int} (h : St w0 w ks) (hs : (matsCk 33 2 ms).Sublist ks) (hL : ms.map (·.xss) = lstI rank flags) (hok : ∀ m ∈ ms, m.ok) : ∀ m ∈ ms, SmV m := fun m hm => by
  have hl := lst_small (by rw [← hL]; exact List.mem_map_of_mem (f := (·.xss)) hm)
  have ho := hok m hm
  unfold MatV.ok at ho
  exact ⟨h.rsLen ((MatV.sub_ hm).trans hs), ho, by rw [← ho]; exact hl.2.2.2.1, hl.2.2.2.2⟩

/-! counts -/
def cnK (rank flags : Int) : Int := ((lstI rank flags).length : Nat)
theorem specCountManiplexes_c (rank flags : Int) (w : World) : Ret Try.prog 30 [.int .i64 rank, .int .i64 flags] w (fun v w' => v = .tuple #[.int .i64 (cnK rank flags), .int .i64 (lstK rank flags)] ∧ St w w' []) := by
  refine Ret.of_cd Try.func30 rfl Try.ntmps30 rfl (post2 rfl) ?_
  refine Cd.seq ?_
  refine Cd.region ?_
  refine Ops.mv_int rfl rfl rfl ?_
  refine Ops.mv_int rfl rfl rfl ?_
  refine Ops.nil ?_
  refine thenQ_n ?_
  refine Cd.seq ?_
  refine Cd.seq ?_
  refine Cd.region ?_
  refine Ops.mv_int rfl rfl rfl ?_
  refine Ops.mv_int rfl rfl rfl ?_
  -- stop: CALL spec.l19Code(t9, t10) -> 11
  refine Ops.call (l19Code_c rank flags _) rfl rfl rfl ?_
  rintro _ w ⟨rfl, rfl⟩
  refine Ops.mv_int rfl rfl rfl ?_
  refine Ops.nil ?_
  refine thenQ_n ?_
  refine Cd.seq ?_
  refine Cd.region ?_
  refine Ops.mv_int rfl rfl rfl ?_
  refine Ops.neq rfl rfl rfl ?_
  refine Ops.nil ?_
  refine thenQ_n ?_
  -- stop: cond
  refine Cd.cond_p _ rfl (fun h => ?_) (fun h => ?_)
  · have hs : ¬ Small rank flags := fun hs => h (by rw [if_pos hs])
    refine Cd.seq ?_
    refine Cd.region ?_
    refine Ops.mv_int rfl rfl rfl ?_
    refine Ops.mv_int rfl rfl rfl ?_
    refine Ops.mv_int rfl rfl rfl ?_
    refine Ops.nil ?_
    refine thenQ_n ?_
    refine Cd.ret ?_
    refine thenQ_r ?_
    refine ret2_ii rfl rfl ?_
    -- stop: end
    rw [if_neg hs]
    exact ⟨by rw [cnK, lstK, lstI, if_neg hs, if_neg hs]; rfl, St.refl _⟩
  · have hs : Small rank flags := Classical.byContradiction fun hs => h (by rw [if_neg hs]; decide)
    obtain ⟨n, rfl⟩ : ∃ n : Nat, rank = n := ⟨rank.toNat, by have := hs.1; omega⟩
    obtain ⟨F, rfl⟩ : ∃ F : Nat, flags = F := ⟨flags.toNat, by have := hs.2; omega⟩
    have hs1 := hs.1
    have hs2 := hs.2
    refine Cd.skip ?_
    refine thenQ_n ?_
    refine Cd.seq ?_
    refine Cd.region ?_
    refine Ops.mv_int rfl rfl rfl ?_
    refine Ops.mv_int rfl rfl rfl ?_
    -- stop: CALL spec.l19List(t16, t17) -> 18
    refine Ops.call (l19List_c n F (by omega) (by omega) _) rfl rfl rfl ?_
    rintro _ w2 ⟨A, c, A2, c2, ms, rfl, hL, hok, hS⟩
    refine Ops.mv_tup rfl rfl rfl ?_
    refine Ops.extract rfl rfl rfl ?_
    refine Ops.extract rfl rfl rfl ?_
    refine Ops.mv_sl rfl rfl rfl ?_
    refine Ops.mv_sl rfl rfl rfl ?_
    refine Ops.nil ?_
    refine thenQ_n ?_
    refine Cd.seq ?_
    refine Cd.region ?_
    refine Ops.mv_sl rfl rfl rfl ?_
    refine Ops.len rfl rfl ?_
    refine Ops.mv_int rfl rfl rfl ?_
    refine Ops.mv_int rfl rfl rfl ?_
    refine Ops.nil ?_
    refine thenQ_n ?_
    refine Cd.ret ?_
    refine ret2_ii rfl rfl ?_
    -- stop: end
    refine ⟨?_, hS.none⟩
    rw [cnK, lstK, lstI, if_pos hs, if_pos hs, Int.toNat_natCast, Int.toNat_natCast, ← hL, List.length_map]
theorem implCountManiplexes_c (rank flags : Int) (w : World) : Ret Try.prog 31 [.int .i64 rank, .int .i64 flags] w (fun v w' => v = .tuple #[.int .i64 (cnK rank flags), .int .i64 (lstK rank flags)] ∧ St w w' []) := by
  refine Ret.of_cd Try.func31 rfl Try.ntmps31 rfl (post2 rfl) ?_
  refine Cd.seq ?_
  refine Cd.region ?_
  refine Ops.mv_int rfl rfl rfl ?_
  refine Ops.mv_int rfl rfl rfl ?_
  refine Ops.nil ?_
  refine thenQ_n ?_
  refine Cd.seq ?_
  refine Cd.region ?_
  refine Ops.mv_int rfl rfl rfl ?_
  refine Ops.mv_int rfl rfl rfl ?_
  -- stop: CALL impl.allManiplexes(t9, t10) -> 11
  refine Ops.call (allManiplexes_c rank flags _) rfl rfl rfl ?_
  rintro _ w2 ⟨A, c, ms, rfl, hL, hok, hS⟩
  refine Ops.mv_tup rfl rfl rfl ?_
  refine Ops.extract rfl rfl rfl ?_
  refine Ops.extract rfl rfl rfl ?_
  refine Ops.mv_sl rfl rfl rfl ?_
  refine Ops.mv_int rfl rfl rfl ?_
  refine Ops.nil ?_
  refine thenQ_n ?_
  refine Cd.seq ?_
  refine Cd.region ?_
  refine Ops.mv_sl rfl rfl rfl ?_
  -- stop: CALL impl.Maniplex](t14) -> 15
  refine Ops.call (sizeM_c _ _ _ _) rfl rfl rfl ?_
  rintro _ w2 ⟨rfl, rfl⟩
  refine Ops.mv_int rfl rfl rfl ?_
  refine Ops.mv_int rfl rfl rfl ?_
  refine Ops.mv_int rfl rfl rfl ?_
  refine Ops.nil ?_
  refine thenQ_n ?_
  refine Cd.ret ?_
  refine ret2_ii rfl rfl ?_
  -- stop: end
  exact ⟨by rw [cnK, ← hL, List.length_map], hS.none⟩
theorem FnExactCountManiplexes_c (rank flags : Int) (w : World) : Ret Try.prog 6 [.int .i64 rank, .int .i64 flags] w (fun v w' => v = .bool true ∧ St w w' []) := by
  refine Ret.of_cd Try.func6 rfl Try.ntmps6 rfl (post1 rfl) ?_
  refine Cd.seq ?_
  refine Cd.region ?_
  refine Ops.mv_bool rfl rfl rfl ?_
  refine Ops.nil ?_
  refine thenQ_n ?_
  refine Cd.seq ?_
  refine Cd.region ?_
  refine Ops.mv_int rfl rfl rfl ?_
  refine Ops.mv_int rfl rfl rfl ?_
  -- stop: CALL spec.CountManiplexes(t10, t11) -> 12
  refine Ops.call (specCountManiplexes_c rank flags _) rfl rfl rfl ?_
  rintro _ w1 ⟨rfl, hS1⟩
  refine Ops.mv_tup rfl rfl rfl ?_
  refine Ops.extract rfl rfl rfl ?_
  refine Ops.extract rfl rfl rfl ?_
  refine Ops.mv_int rfl rfl rfl ?_
  refine Ops.mv_int rfl rfl rfl ?_
  refine Ops.nil ?_
  refine thenQ_n ?_
  refine Cd.seq ?_
  refine Cd.region ?_
  refine Ops.mv_int rfl rfl rfl ?_
  refine Ops.mv_int rfl rfl rfl ?_
  -- stop: CALL impl.CountManiplexes(t16, t17) -> 18
  refine Ops.call (implCountManiplexes_c rank flags _) rfl rfl rfl ?_
  rintro _ w2 ⟨rfl, hS2⟩
  refine Ops.mv_tup rfl rfl rfl ?_
  refine Ops.extract rfl rfl rfl ?_
  refine Ops.extract rfl rfl rfl ?_
  refine Ops.mv_int rfl rfl rfl ?_
  refine Ops.mv_int rfl rfl rfl ?_
  refine Ops.nil ?_
  refine thenQ_n ?_
  refine Cd.seq ?_
  refine Cd.seq ?_
  refine Cd.region ?_
  refine Ops.mv_int rfl rfl rfl ?_
  refine Ops.mv_int rfl rfl rfl ?_
  refine Ops.neq rfl rfl rfl ?_
  refine Ops.mv_bool rfl rfl rfl ?_
  -- stop: guard 24
  refine Ops.split_p 24 rfl (fun h => absurd rfl h) (fun h => ?_) --f
  refine Ops.rung rfl rfl rfl ?_
  refine Ops.mv_int rfl rfl rfl ?_
  refine Ops.rung rfl rfl rfl ?_
  refine Ops.mv_int rfl rfl rfl ?_
  refine Ops.rung rfl rfl rfl ?_
  refine Ops.neq rfl rfl rfl ?_
  refine Ops.pick_f rfl rfl rfl ?_
  refine Ops.nil ?_
  refine thenQ_n ?_
  -- stop: cond
  refine Cd.cond_pf rfl (fun h => h rfl) ?_
  refine Cd.skip ?_
  refine thenQ_n ?_
  refine Cd.seq ?_
  refine Cd.region ?_
  refine Ops.mv_bool rfl rfl rfl ?_
  refine Ops.nil ?_
  refine thenQ_n ?_
  refine Cd.ret ?_
  refine ret1_b rfl ?_
  -- stop: end
  exact ⟨rfl, (hS1.later hS2.below).none⟩

/-! the lists -/
theorem specAllManiplexes_c (rank flags : Int) (w : World) : Ret Try.prog 37 [.int .i64 rank, .int .i64 flags] w (AnsM (lstI rank flags) (lstK rank flags) w) := by
  refine Ret.of_cd Try.func37 rfl Try.ntmps37 rfl (post2 rfl) ?_
  refine Cd.seq ?_
  refine Cd.region ?_
  refine Ops.mv_sl rfl rfl rfl ?_
  refine Ops.mv_int rfl rfl rfl ?_
  refine Ops.nil ?_
  refine thenQ_n ?_
  refine Cd.seq ?_
  refine Cd.seq ?_
  refine Cd.region ?_
  refine Ops.mv_int rfl rfl rfl ?_
  refine Ops.mv_int rfl rfl rfl ?_
  -- stop: CALL spec.l19Code(t9, t10) -> 11
  refine Ops.call (l19Code_c rank flags _) rfl rfl rfl ?_
  rintro _ w ⟨rfl, rfl⟩
  refine Ops.mv_int rfl rfl rfl ?_
  refine Ops.nil ?_
  refine thenQ_n ?_
  refine Cd.seq ?_
  refine Cd.region ?_
  refine Ops.mv_int rfl rfl rfl ?_
  refine Ops.neq rfl rfl rfl ?_
  refine Ops.nil ?_
  refine thenQ_n ?_
  -- stop: cond
  refine Cd.cond_p _ rfl (fun h => ?_) (fun h => ?_)
  · have hs : ¬ Small rank flags := fun hs => h (by rw [if_pos hs])
    refine Cd.seq ?_
    refine Cd.region ?_
    refine Ops.mv_int rfl rfl rfl ?_
    refine Ops.mv_sl rfl rfl rfl ?_
    refine Ops.mv_int rfl rfl rfl ?_
    refine Ops.nil ?_
    refine thenQ_n ?_
    refine Cd.ret ?_
    refine thenQ_r ?_
    refine ret2_si rfl rfl ?_
    -- stop: end
    rw [if_neg hs, lstK, lstI, if_neg hs, if_neg hs]
    exact AnsM.none (St.refl _)
  · have hs : Small rank flags := Classical.byContradiction fun hs => h (by rw [if_neg hs]; decide)
    obtain ⟨n, rfl⟩ : ∃ n : Nat, rank = n := ⟨rank.toNat, by have := hs.1; omega⟩
    obtain ⟨F, rfl⟩ : ∃ F : Nat, flags = F := ⟨flags.toNat, by have := hs.2; omega⟩
    have hs1 := hs.1
    have hs2 := hs.2
    refine Cd.skip ?_
    refine thenQ_n ?_
    refine Cd.seq ?_
    refine Cd.region ?_
    refine Ops.mv_int rfl rfl rfl ?_
    refine Ops.mv_int rfl rfl rfl ?_
    -- stop: CALL spec.l19List(t16, t17) -> 18
    refine Ops.call (l19List_c n F (by omega) (by omega) _) rfl rfl rfl ?_
    rintro _ w2 ⟨A, c, A2, c2, ms, rfl, hL, hok, hS⟩
    refine Ops.mv_tup rfl rfl rfl ?_
    refine Ops.extract rfl rfl rfl ?_
    refine Ops.extract rfl rfl rfl ?_
    refine Ops.mv_sl rfl rfl rfl ?_
    refine Ops.mv_sl rfl rfl rfl ?_
    refine Ops.nil ?_
    refine thenQ_n ?_
    refine Cd.seq ?_
    refine Cd.region ?_
    refine Ops.mv_sl rfl rfl rfl ?_
    refine Ops.mv_sl rfl rfl rfl ?_
    refine Ops.mv_int rfl rfl rfl ?_
    refine Ops.nil ?_
    refine thenQ_n ?_
    refine Cd.ret ?_
    refine ret2_si rfl rfl ?_
    -- stop: end
    rw [lstK, lstI, if_pos hs, if_pos hs, Int.toNat_natCast, Int.toNat_natCast]
    exact ⟨A, c, ms, rfl, hL, hok, hS.sub (List.Sublist.cons_cons _ (List.sublist_cons_self _ _))⟩
theorem implAllManiplexes_c (rank flags : Int) (w : World) : Ret Try.prog 38 [.int .i64 rank, .int .i64 flags] w (AnsM (lstI rank flags) (lstK rank flags) w) := by
  refine Ret.of_cd Try.func38 rfl Try.ntmps38 rfl (post2 rfl) ?_
  refine Cd.seq ?_
  refine Cd.region ?_
  refine Ops.mv_sl rfl rfl rfl ?_
  refine Ops.mv_int rfl rfl rfl ?_
  refine Ops.nil ?_
  refine thenQ_n ?_
  refine Cd.seq ?_
  refine Cd.region ?_
  refine Ops.mv_int rfl rfl rfl ?_
  refine Ops.mv_int rfl rfl rfl ?_
  -- stop: CALL impl.allManiplexes(t6, t7) -> 8
  refine Ops.call (allManiplexes_c rank flags _) rfl rfl rfl ?_
  rintro _ w2 ⟨A, c, ms, rfl, hL, hok, hS⟩
  refine Ops.extract rfl rfl rfl ?_
  refine Ops.extract rfl rfl rfl ?_
  refine Ops.mv_sl rfl rfl rfl ?_
  refine Ops.mv_int rfl rfl rfl ?_
  refine Ops.nil ?_
  refine thenQ_n ?_
  refine Cd.ret ?_
  refine ret2_si rfl rfl ?_
  -- stop: end
  exact ⟨A, c, ms, rfl, hL, hok, hS⟩
theorem FnExactAllManiplexes_c (rank flags : Int) (w : World) : Ret Try.prog 9 [.int .i64 rank, .int .i64 flags] w (fun v w' => v = .bool true ∧ St w w' []) := by
  have hlen := lst_len rank flags
  refine Ret.of_cd Try.func9 rfl Try.ntmps9 rfl (post1 rfl) ?_
  refine Cd.seq ?_
  refine Cd.region ?_
  refine Ops.mv_bool rfl rfl rfl ?_
  refine Ops.nil ?_
  refine thenQ_n ?_
  refine Cd.seq ?_
  refine Cd.region ?_
  refine Ops.mv_int rfl rfl rfl ?_
  refine Ops.mv_int rfl rfl rfl ?_
  -- stop: CALL spec.AllManiplexes(t14, t15) -> 16
  refine Ops.call (specAllManiplexes_c rank flags _) rfl rfl rfl ?_
  rintro _ w1 ⟨A0, c0, ms0, rfl, hL0, hok0, hS1⟩
  have hl0 : ms0.length = (lstI rank flags).length := by rw [← hL0, List.length_map]
  have hsm0 := hS1.smV (List.sublist_cons_self _ _) hL0 hok0
  refine Ops.mv_tup rfl rfl rfl ?_
  refine Ops.extract rfl rfl rfl ?_
  refine Ops.extract rfl rfl rfl ?_
  refine Ops.mv_sl rfl rfl rfl ?_
  refine Ops.mv_int rfl rfl rfl ?_
  refine Ops.nil ?_
  refine thenQ_n ?_
  refine Cd.seq ?_
  refine Cd.region ?_
  refine Ops.mv_int rfl rfl rfl ?_
  refine Ops.mv_int rfl rfl rfl ?_
  -- stop: CALL impl.AllManiplexes(t20, t21) -> 22
  refine Ops.call (implAllManiplexes_c rank flags _) rfl rfl rfl ?_
  rintro _ w2 ⟨A1, c1, ms1, rfl, hL1, hok1, hS2⟩
  have hl1 : ms1.length = (lstI rank flags).length := by rw [← hL1, List.length_map]
  have hsm1 := hS2.smV (List.sublist_cons_self _ _) hL1 hok1
  have hcap1 : ∀ m ∈ ms1, m.top.n ≤ 9223372036854775807 := fun m hm => by have := (hsm1 m hm).2.2.1; omega
  have hS2 := hS1.call hS2
  have hR0 := hS2.msR hok0 (List.sublist_append_right _ _)
  have hR1 := hS2.msR hok1 (List.sublist_append_left _ _)
  refine Ops.mv_tup rfl rfl rfl ?_
  refine Ops.extract rfl rfl rfl ?_
  refine Ops.extract rfl rfl rfl ?_
  refine Ops.mv_sl rfl rfl rfl ?_
  refine Ops.mv_int rfl rfl rfl ?_
  refine Ops.nil ?_
  refine thenQ_n ?_
  refine Cd.seq ?_
  refine Cd.seq ?_
  refine Cd.region ?_
  refine Ops.mv_sl rfl rfl rfl ?_
  refine Ops.mv_sl rfl rfl rfl ?_
  -- stop: CALL laws.eqManiplexS(t25, t26) -> 27
  refine Ops.call (eqManiplexS_c A1 c1 ms1 A0 c0 ms0 _ hR1 hR0 (by omega) hcap1) rfl rfl rfl ?_
  rintro _ w3 ⟨rfl, hst3⟩
  have hS3 := hS2.later hst3.below
  have e10 : ms1.map (·.xss) = ms0.map (·.xss) := by rw [hL0, hL1]
  first | refine Ops.not_p rfl rfl ?_ | refine Ops.not rfl rfl ?_
  refine Ops.mv_bool rfl rfl rfl ?_
  -- stop: guard 29
  refine Ops.split_p 29 rfl (fun h => absurd e10 h) (fun h => ?_) --f
  refine Ops.rung rfl rfl rfl ?_
  refine Ops.mv_int rfl rfl rfl ?_
  refine Ops.rung rfl rfl rfl ?_
  refine Ops.mv_int rfl rfl rfl ?_
  refine Ops.rung rfl rfl rfl ?_
  refine Ops.neq rfl rfl rfl ?_
  refine Ops.pick_f rfl rfl rfl ?_
  refine Ops.nil ?_
  refine thenQ_n ?_
  -- stop: cond
  refine Cd.cond_pf rfl (fun h => h rfl) ?_
  refine Cd.skip ?_
  refine thenQ_n ?_
  refine Cd.seq ?_
  refine Cd.region ?_
  refine Ops.mv_int rfl rfl rfl ?_
  refine Ops.nil ?_
  refine thenQ_n ?_
  refine Cd.seq ?_
  refine Cd.region ?_
  refine Ops.mv_sl rfl rfl rfl ?_
  refine Ops.mv_int rfl rfl rfl ?_
  -- stop: CALL laws.markManiplexS(t34, t35) -> 36
  refine Ops.call (markManiplexS_c 1 hS3 hsm1 (by omega) (by omega)) rfl rfl rfl ?_
  rintro _ w4 ⟨rfl, hS4⟩
  have hR4 : MsR w4 A1 (mkV 1 ms1) := hS4.msR (c := c1) (mkV_ok hok1) (by rw [mkV_len, mkV_top]; exact List.sublist_append_left _ _)
  have htb := totM_le (b := 48) ms1 (fun m hm => (hsm1 m hm).tot.2)
  refine Ops.mv_int rfl rfl rfl ?_
  refine Ops.nil ?_
  refine thenQ_n ?_
  refine Cd.seq ?_
  refine Cd.region ?_
  refine Ops.mv_int rfl rfl rfl ?_
  refine Ops.nil ?_
  refine thenQ_n ?_
  refine Cd.seq ?_
  refine Cd.region ?_
  refine Ops.mv_sl rfl rfl rfl ?_
  refine Ops.mv_int rfl rfl rfl ?_
  -- stop: CALL laws.heldManiplexS(t37, t38) -> 39
  refine Ops.call (heldManiplexS_c A1 c1 ms1 1 _ hR4 hsm1 (by omega) (by omega)) rfl rfl rfl ?_
  rintro _ w4 ⟨rfl, rfl⟩
  refine Ops.mv_int rfl rfl rfl ?_
  refine Ops.nil ?_
  refine thenQ_n ?_
  refine Cd.seq ?_
  refine Cd.seq ?_
  refine Cd.region ?_
  refine Ops.mv_int rfl rfl rfl ?_
  refine Ops.lss rfl rfl rfl ?_
  refine Ops.nil ?_
  refine thenQ_n ?_
  -- stop: cond
  refine Cd.cond_pf rfl (by omega) ?_
  refine Cd.skip ?_
  refine thenQ_n ?_
  refine Cd.seq ?_
  refine Cd.seq ?_
  refine Cd.region ?_
  refine Ops.mv_int rfl rfl rfl ?_
  refine Ops.mv_int rfl rfl rfl ?_
  refine Ops.neq rfl rfl rfl ?_
  refine Ops.nil ?_
  refine thenQ_n ?_
  -- stop: cond
  refine Cd.cond_pf rfl (fun h => h rfl) ?_
  refine Cd.skip ?_
  refine thenQ_n ?_
  refine Cd.seq ?_
  refine Cd.region ?_
  refine Ops.mv_int rfl rfl rfl ?_
  refine Ops.mv_int rfl rfl rfl ?_
  -- stop: CALL impl.AllManiplexes(t46, t47) -> 48
  refine Ops.call (implAllManiplexes_c rank flags _) rfl rfl rfl ?_
  rintro _ w5 ⟨A2, c2, ms2, rfl, hL2, hok2, hS5⟩
  have hl2 : ms2.length = (lstI rank flags).length := by rw [← hL2, List.length_map]
  have hsm2 := hS5.smV (List.sublist_cons_self _ _) hL2 hok2
  have hcap2 : ∀ m ∈ ms2, m.top.n ≤ 9223372036854775807 := fun m hm => by have := (hsm2 m hm).2.2.1; omega
  have hR0' := (hS4.msR hok0 (List.sublist_append_right (CkR 24 A1 ms1.length c1 (ms1.map (·.top)) :: matsCk 33 2 (mkV 1 ms1)) _)).later hS5.below
  have hR2 := hS5.msR hok2 (List.Sublist.refl _)
  refine Ops.mv_tup rfl rfl rfl ?_
  refine Ops.extract rfl rfl rfl ?_
  refine Ops.extract rfl rfl rfl ?_
  refine Ops.mv_sl rfl rfl rfl ?_
  refine Ops.mv_int rfl rfl rfl ?_
  refine Ops.nil ?_
  refine thenQ_n ?_
  refine Cd.seq ?_
  refine Cd.seq ?_
  refine Cd.region ?_
  refine Ops.mv_sl rfl rfl rfl ?_
  refine Ops.mv_sl rfl rfl rfl ?_
  -- stop: CALL laws.eqManiplexS(t51, t52) -> 53
  refine Ops.call (eqManiplexS_c A2 c2 ms2 A0 c0 ms0 _ hR2 hR0' (by omega) hcap2) rfl rfl rfl ?_
  rintro _ w6 ⟨rfl, hst6⟩
  have e20 : ms2.map (·.xss) = ms0.map (·.xss) := by rw [hL0, hL2]
  first | refine Ops.not_p rfl rfl ?_ | refine Ops.not rfl rfl ?_
  refine Ops.mv_bool rfl rfl rfl ?_
  -- stop: guard 55
  refine Ops.split_p 55 rfl (fun h => absurd e20 h) (fun h => ?_) --f
  refine Ops.rung rfl rfl rfl ?_
  refine Ops.mv_int rfl rfl rfl ?_
  refine Ops.rung rfl rfl rfl ?_
  refine Ops.mv_int rfl rfl rfl ?_
  refine Ops.rung rfl rfl rfl ?_
  refine Ops.neq rfl rfl rfl ?_
  refine Ops.pick_f rfl rfl rfl ?_
  refine Ops.nil ?_
  refine thenQ_n ?_
  -- stop: cond
  refine Cd.cond_pf rfl (fun h => h rfl) ?_
  refine Cd.skip ?_
  refine thenQ_n ?_
  refine Cd.seq ?_
  refine Cd.region ?_
  refine Ops.mv_int rfl rfl rfl ?_
  refine Ops.nil ?_
  refine thenQ_n ?_
  refine Cd.seq ?_
  refine Cd.region ?_
  refine Ops.mv_sl rfl rfl rfl ?_
  refine Ops.mv_int rfl rfl rfl ?_
  -- stop: CALL laws.heldManiplexS(t60, t61) -> 62
  refine Ops.call (heldManiplexS_c A1 c1 ms1 1 _ ((hR4.later hS5.below).later hst6.below) hsm1 (by omega) (by omega)) rfl rfl rfl ?_
  rintro _ w6 ⟨rfl, rfl⟩
  refine Ops.mv_int rfl rfl rfl ?_
  refine Ops.nil ?_
  refine thenQ_n ?_
  refine Cd.seq ?_
  refine Cd.seq ?_
  refine Cd.region ?_
  refine Ops.mv_int rfl rfl rfl ?_
  refine Ops.lss rfl rfl rfl ?_
  refine Ops.nil ?_
  refine thenQ_n ?_
  -- stop: cond
  refine Cd.cond_pf rfl (by omega) ?_
  refine Cd.skip ?_
  refine thenQ_n ?_
  refine Cd.seq ?_
  refine Cd.seq ?_
  refine Cd.region ?_
  refine Ops.mv_int rfl rfl rfl ?_
  refine Ops.mv_int rfl rfl rfl ?_
  refine Ops.neq rfl rfl rfl ?_
  refine Ops.nil ?_
  refine thenQ_n ?_
  -- stop: cond
  refine Cd.cond_pf rfl (fun h => h rfl) ?_
  refine Cd.skip ?_
  refine thenQ_n ?_
  refine Cd.seq ?_
  refine Cd.region ?_
  refine Ops.mv_bool rfl rfl rfl ?_
  refine Ops.nil ?_
  refine thenQ_n ?_
  refine Cd.ret ?_
  refine ret1_b rfl ?_
  -- stop: end
  exact ⟨rfl, ((hS4.later hS5.below).later hst6.below).none⟩
end Go.Proofs.Ytgobjpcankaicaa.Vc
/-
  OrbitCounts on both sides, and the walk of its law. Conditions: none.
-/
namespace Go.Proofs.Ytgobjpcankaicaa.Vc
open Go.RowKit

/-! plain: how many have so many orbits -/
def bump (acc : List Int) (k : Nat) : List Int := acc.set ((k : Int) - 1).toNat (gi acc ((k : Int) - 1) + 1)
def cntL (F : Nat) (ls : List Mx) : List Int := ls.foldl (fun acc m => bump acc (orbN F m)) (List.replicate F 0)
theorem cntL_snoc (F : Nat) (ls : List Mx) (m : Mx) : cntL F (ls ++ [m]) = bump (cntL F ls) (orbN F m) := by simp [cntL, List.foldl_append]
theorem orb_bd {F : Nat} {m : Mx} (hF : 0 < F) (ho : Own1 F m) : 1 ≤ orbN F m ∧ orbN F m ≤ F := by
  have h1 := fset_le F m F
  have h2 : formL F m ((0 : Nat) : Int) ∈ fset F m F := (fset_mem F).2 ⟨0, hF, rfl⟩
  have h3 := List.length_pos_of_mem h2
  rw [orbN, if_pos ho]
  omega
theorem cntL_bd {F : Nat} (hF : 0 < F) : ∀ (r : List Mx), (∀ m ∈ r, Own1 F m) → (cntL F r.reverse).length = F ∧ ∀ x : Int, 0 ≤ x → x < F → 0 ≤ gi (cntL F r.reverse) x ∧ gi (cntL F r.reverse) x ≤ (r.length : Nat)
  | [], _ => ⟨by simp [cntL], fun x h0 h1 => by
    show 0 ≤ gi (List.replicate F 0) x ∧ gi (List.replicate F 0) x ≤ _
    rw [gi_rep h0 h1]
    exact ⟨Int.le_refl _, Int.natCast_nonneg _⟩⟩
  | m :: r, h => by
    obtain ⟨ih1, ih2⟩ := cntL_bd hF r (fun x hx => h x (List.mem_cons_of_mem _ hx))
    have hb := orb_bd hF (h m List.mem_cons_self)
    rw [List.reverse_cons, cntL_snoc]
    unfold bump
    refine ⟨by rw [List.length_set]; exact ih1, fun x h0 h1 => ?_⟩
    rw [gi_set (by omega) (by omega) h0, List.length_cons]
    have h3 := ih2 ((orbN F m : Int) - 1) (by omega) (by omega)
    have h4 := ih2 x h0 h1
    split <;> omega
theorem cntL_bd' {F : Nat} (hF : 0 < F) (ls : List Mx) (h : ∀ m ∈ ls, Own1 F m) : (cntL F ls).length = F ∧ ∀ x : Int, 0 ≤ x → x < F → 0 ≤ gi (cntL F ls) x ∧ gi (cntL F ls) x ≤ (ls.length : Nat) := by
  have := cntL_bd hF ls.reverse (fun m hm => h m (List.mem_reverse.1 hm))
  rwa [List.reverse_reverse, List.length_reverse] at this
def ocL (rank flags : Int) : List Int := if Small rank flags then cntL flags.toNat (lstI rank flags) else []
theorem ocL_small (rank flags : Int) : (ocL rank flags).length ≤ 12 := by
  unfold ocL
  split
  · rename_i hs
    have hs2 := hs.2
    rw [(cntL_bd' (by omega) _ (fun m hm => by
      rw [lstI, if_pos hs] at hm
      exact (listL_mem.1 hm).2)).1]
    omega
  · exact Nat.zero_le _
/-- what is known of an element of the list -/
theorem lst_elem {n F : Nat} {ms : List MatV} (hn : 0 < n) (hF : 0 < F) (hL : ms.map (·.xss) = listL n F) {i : Nat} (hi : i < ms.length) : Mani ms[i].xss ∧ F = (gl ms[i].xss 0).length ∧ Own1 F ms[i].xss := by
  have hm : ms[i].xss ∈ listL n F := by rw [← hL]; exact List.mem_map_of_mem (List.getElem_mem hi)
  obtain ⟨h1, h2⟩ := listL_mem.1 hm
  obtain ⟨h3, h4⟩ := forms_mani hn hF h1
  exact ⟨h3, (h4.shp.row (i := 0) hn).symm, h2⟩
theorem cnt_take {F : Nat} {ms : List MatV} {i : Nat} (hi : i < ms.length) : cntL F ((ms.map (·.xss)).take (i + 1)) = bump (cntL F ((ms.map (·.xss)).take i)) (orbN F ms[i].xss) := by
  rw [List.take_succ_eq_append_getElem (by rw [List.length_map]; exact hi), cntL_snoc, List.getElem_map]

theorem specOrbitCounts_c (rank flags : Int) (w : World) : Ret Try.prog 32 [.int .i64 rank, .int .i64 flags] w (AnsR (ocL rank flags) (lstK rank flags) w) := by
  have hlst := lst_len rank flags
  refine Ret.of_cd Try.func32 rfl Try.ntmps32 rfl (post2 rfl) ?_
  refine Cd.seq ?_
  refine Cd.region ?_
  refine Ops.mv_sl rfl rfl rfl ?_
  refine Ops.mv_int rfl rfl rfl ?_
  refine Ops.nil ?_
  refine thenQ_n ?_
  refine Cd.seq ?_
  refine Cd.seq ?_
  refine Cd.region ?_
  refine Ops.mv_int rfl rfl rfl ?_
  refine Ops.mv_int rfl rfl rfl ?_
  -- stop: CALL spec.l19Code(t11, t12) -> 13
  refine Ops.call (l19Code_c rank flags _) rfl rfl rfl ?_
  rintro _ w ⟨rfl, rfl⟩
  refine Ops.mv_int rfl rfl rfl ?_
  refine Ops.nil ?_
  refine thenQ_n ?_
  refine Cd.seq ?_
  refine Cd.region ?_
  refine Ops.mv_int rfl rfl rfl ?_
  refine Ops.neq rfl rfl rfl ?_
  refine Ops.nil ?_
  refine thenQ_n ?_
  -- stop: cond
  refine Cd.cond_p _ rfl (fun h => ?_) (fun h => ?_)
  · have hs : ¬ Small rank flags := fun hs => h (by rw [if_pos hs])
    refine Cd.seq ?_
    refine Cd.region ?_
    refine Ops.mv_int rfl rfl rfl ?_
    refine Ops.mv_sl rfl rfl rfl ?_
    refine Ops.mv_int rfl rfl rfl ?_
    refine Ops.nil ?_
    refine thenQ_n ?_
    refine Cd.ret ?_
    refine thenQ_r ?_
    refine ret2_si rfl rfl ?_
    -- stop: end
    rw [if_neg hs, lstK, ocL, if_neg hs, if_neg hs]
    exact AnsR.none (St.refl _)
  · have hs : Small rank flags := Classical.byContradiction fun hs => h (by rw [if_neg hs]; decide)
    obtain ⟨n, rfl⟩ : ∃ n : Nat, rank = n := ⟨rank.toNat, by have := hs.1; omega⟩
    obtain ⟨F, rfl⟩ : ∃ F : Nat, flags = F := ⟨flags.toNat, by have := hs.2; omega⟩
    have hs1 := hs.1
    have hs2 := hs.2
    have hlI : lstI (n : Int) (F : Int) = listL n F := by rw [lstI, if_pos hs, Int.toNat_natCast, Int.toNat_natCast]
    refine Cd.skip ?_
    refine thenQ_n ?_
    refine Cd.seq ?_
    refine Cd.region ?_
    refine Ops.mv_int rfl rfl rfl ?_
    refine Ops.mv_int rfl rfl rfl ?_
    -- stop: CALL spec.l19List(t18, t19) -> 20
    refine Ops.call (l19List_c n F (by omega) (by omega) _) rfl rfl rfl ?_
    rintro _ w2 ⟨A, c, A2, c2, ms, rfl, hL, hok, hS⟩
    have hml : ms.length = (lstI (n : Int) (F : Int)).length := by rw [hlI, ← hL, List.length_map]
    refine Ops.mv_tup rfl rfl rfl ?_
    refine Ops.extract rfl rfl rfl ?_
    refine Ops.extract rfl rfl rfl ?_
    refine Ops.mv_sl rfl rfl rfl ?_
    refine Ops.mv_sl rfl rfl rfl ?_
    refine Ops.nil ?_
    refine thenQ_n ?_
    refine Cd.seq ?_
    refine Cd.region ?_
    refine Ops.mv_int rfl rfl rfl ?_
    -- stop: MAKESLICE 33 t23 t23 -> 24
    refine Ops.mkI F hS rfl rfl (by omega) ?_
    intro A9 w3 hS3
    refine Ops.mv_sl rfl rfl rfl ?_
    refine Ops.nil ?_
    refine thenQ_n ?_
    refine Cd.seq ?_
    refine Cd.seq ?_
    refine Cd.region ?_
    refine Ops.mv_int rfl rfl rfl ?_
    refine Ops.nil ?_
    refine thenQ_n ?_
    refine Cd.block ?_
    -- stop: loop
    refine Cd.loop (α := Nat) (fun i => [(8, .slice A2 ms.length c2), (9, .slice A9 F F), (10, .int .i64 (i : Int))]) (fun i w' => St w w' (CkI 2 A9 F F (cntL F ((ms.map (·.xss)).take i)) :: CkR 24 A ms.length c (ms.map (·.top)) :: CkI 2 A2 ms.length c2 (ms.map (orbI F)) :: matsCk 33 2 ms) ∧ i ≤ ms.length) (fun i => ms.length - i) 0 ⟨rfl, rfl, rfl, trivial⟩ ⟨hS3, Nat.zero_le _⟩ ?_
    rintro i e w4 ⟨hS4, hi⟩
    refine Cd.seq ?_
    refine Cd.seq ?_
    refine Cd.region ?_
    refine Ops.mv_int rfl rfl rfl ?_
    refine Ops.mv_sl rfl rfl rfl ?_
    refine Ops.len rfl rfl ?_
    refine Ops.lss rfl rfl rfl ?_
    refine Ops.nil ?_
    refine thenQ_n ?_
    -- stop: cond
    refine Cd.cond_p _ rfl (fun h1 => ?_) (fun h1 => ?_)
    · have hi' : i < ms.length := by omega
      obtain ⟨hM, hN, hO⟩ := lst_elem (by omega) (by omega) hL hi'
      have hb := orb_bd (by omega) hO
      have hcb := cntL_bd' (F := F) (by omega) ((ms.map (·.xss)).take i) (fun m hm => by
        have := List.mem_of_mem_take hm
        rw [hL] at this
        exact (listL_mem.1 this).2)
      have hcv := hcb.2 ((orbN F ms[i].xss : Int) - 1) (by omega) (by omega)
      have htl : ((ms.map (·.xss)).take i).length ≤ 4000000000000 := by simp; omega
      have hO2 := hS4.rdI 2 rfl
      have hC := hS4.rdI 0 rfl
      have hgo : gi (ms.map (orbI F)) (i : Int) = (orbN F ms[i].xss : Int) := by rw [gi_mem (by simpa using hi'), List.getElem_map]; rfl
      refine Cd.skip ?_
      refine thenQ_n ?_
      refine Cd.seq ?_
      refine Cd.block ?_
      refine Cd.region ?_
      refine Ops.mv_sl rfl rfl rfl ?_
      refine Ops.mv_sl rfl rfl rfl ?_
      refine Ops.mv_int rfl rfl rfl ?_
      -- stop: INDEXADDR 33 t32 t33 -> 34
      refine Ops.idx hO2.2 rfl rfl rfl (by omega) h1 ?_
      refine Ops.ld_int hO2 rfl (by omega) rfl rfl ?_
      rw [hgo]
      refine Ops.sub rfl rfl rfl (by omega) ?_
      -- stop: INDEXADDR 33 t31 t36 -> 37
      refine Ops.idx hC.2 rfl rfl rfl (by omega) (by omega) ?_
      refine Ops.ld_int hC rfl (by omega) rfl rfl ?_
      refine Ops.add rfl rfl rfl (by omega) ?_
      -- stop: INDEXADDR 33 t31 t36 -> 40
      refine Ops.idx hC.2 rfl rfl rfl (by omega) (by omega) ?_
      refine Ops.st_int 0 hS4 rfl rfl rfl (by omega) ?_
      intro w5 hS5
      refine Ops.nil ?_
      refine blockQ_n ?_
      refine thenQ_n ?_
      refine Cd.region ?_
      refine Ops.mv_int rfl rfl rfl ?_
      refine Ops.add rfl rfl rfl (by omega) ?_
      refine Ops.mv_int rfl rfl rfl ?_
      refine Ops.nil ?_
      refine thenQ_n ?_
      -- stop: round
      refine ⟨i + 1, by omega, ⟨rfl, rfl, rfl, trivial⟩, ?_, by omega⟩
      rw [cnt_take hi']
      exact hS5
    · refine Cd.exit ?_
      refine thenQ_x ?_
      refine thenQ_x ?_
      refine blockQ_x ?_
      refine thenQ_n ?_
      refine Cd.seq ?_
      refine Cd.region ?_
      refine Ops.mv_sl rfl rfl rfl ?_
      refine Ops.mv_sl rfl rfl rfl ?_
      refine Ops.mv_int rfl rfl rfl ?_
      refine Ops.nil ?_
      refine thenQ_n ?_
      refine Cd.ret ?_
      refine ret2_si rfl rfl ?_
      -- stop: end
      have hie : i = ms.length := by omega
      have hl12 := (cntL_bd' (F := F) (by omega) (lstI (n : Int) (F : Int)) (fun m hm => by rw [hlI] at hm; exact (listL_mem.1 hm).2)).1
      rw [hie, List.take_of_length_le (by simp), hL, ← hlI] at hS4
      have e1 : ocL (n : Int) (F : Int) = cntL F (lstI (n : Int) (F : Int)) := by rw [ocL, if_pos hs, Int.toNat_natCast]
      have e2 : lstK (n : Int) (F : Int) = 0 := by rw [lstK, if_pos hs]
      rw [e1, e2]
      refine ⟨A9, F, by rw [hl12], ?_⟩
      rw [hl12]
      exact hS4.sub (List.Sublist.cons_cons _ (List.nil_sublist _))
theorem implOrbitCounts_c (rank flags : Int) (w : World) : Ret Try.prog 33 [.int .i64 rank, .int .i64 flags] w (AnsR (ocL rank flags) (lstK rank flags) w) := by
  have hlst := lst_len rank flags
  refine Ret.of_cd Try.func33 rfl Try.ntmps33 rfl (post2 rfl) ?_
  refine Cd.seq ?_
  refine Cd.region ?_
  refine Ops.mv_sl rfl rfl rfl ?_
  refine Ops.mv_int rfl rfl rfl ?_
  refine Ops.nil ?_
  refine thenQ_n ?_
  refine Cd.seq ?_
  refine Cd.region ?_
  refine Ops.mv_int rfl rfl rfl ?_
  refine Ops.mv_int rfl rfl rfl ?_
  -- stop: CALL impl.allManiplexes(t14, t15) -> 16
  refine Ops.call (allManiplexes_c rank flags _) rfl rfl rfl ?_
  rintro _ w2 ⟨A, c, ms, rfl, hL, hok, hS⟩
  refine Ops.mv_tup rfl rfl rfl ?_
  refine Ops.extract rfl rfl rfl ?_
  refine Ops.extract rfl rfl rfl ?_
  refine Ops.mv_sl rfl rfl rfl ?_
  refine Ops.mv_int rfl rfl rfl ?_
  refine Ops.nil ?_
  refine thenQ_n ?_
  refine Cd.seq ?_
  refine Cd.seq ?_
  refine Cd.region ?_
  refine Ops.mv_int rfl rfl rfl ?_
  refine Ops.neq rfl rfl rfl ?_
  refine Ops.nil ?_
  refine thenQ_n ?_
  -- stop: cond
  refine Cd.cond_p _ rfl (fun h => ?_) (fun h => ?_)
  · have hs : ¬ Small rank flags := fun hs => h (by rw [lstK, if_pos hs])
    refine Cd.seq ?_
    refine Cd.region ?_
    refine Ops.mv_int rfl rfl rfl ?_
    refine Ops.mv_sl rfl rfl rfl ?_
    refine Ops.mv_int rfl rfl rfl ?_
    refine Ops.nil ?_
    refine thenQ_n ?_
    refine Cd.ret ?_
    refine thenQ_r ?_
    refine ret2_si rfl rfl ?_
    -- stop: end
    rw [ocL, if_neg hs]
    exact AnsR.none hS
  · have hs : Small rank flags := Classical.byContradiction fun hs => h (by rw [lstK, if_neg hs]; decide)
    obtain ⟨n, rfl⟩ : ∃ n : Nat, rank = n := ⟨rank.toNat, by have := hs.1; omega⟩
    obtain ⟨F, rfl⟩ : ∃ F : Nat, flags = F := ⟨flags.toNat, by have := hs.2; omega⟩
    have hs1 := hs.1
    have hs2 := hs.2
    have hlI : lstI (n : Int) (F : Int) = listL n F := by rw [lstI, if_pos hs, Int.toNat_natCast, Int.toNat_natCast]
    have hml : ms.length = (lstI (n : Int) (F : Int)).length := by rw [← hL, List.length_map]
    rw [hlI] at hL
    refine Cd.skip ?_
    refine thenQ_n ?_
    refine Cd.seq ?_
    refine Cd.region ?_
    refine Ops.mv_int rfl rfl rfl ?_
    -- stop: MAKESLICE 33 t22 t22 -> 23
    refine Ops.mkI F hS rfl rfl (by omega) ?_
    intro A9 w3 hS3
    refine Ops.mv_sl rfl rfl rfl ?_
    refine Ops.nil ?_
    refine thenQ_n ?_
    refine Cd.seq ?_
    refine Cd.seq ?_
    refine Cd.region ?_
    refine Ops.mv_sl rfl rfl rfl ?_
    refine Ops.len rfl rfl ?_
    refine Ops.mv_int rfl rfl rfl ?_
    refine Ops.nil ?_
    refine thenQ_n ?_
    refine Cd.block ?_
    -- stop: loop
    refine Cd.loop (α := Nat) (fun i => [(8, .slice A9 F F), (24, .slice A ms.length c), (25, .int .i64 (ms.length : Int)), (26, .int .i64 (i : Int))]) (fun i w' => St w w' (CkI 2 A9 F F (cntL F ((ms.map (·.xss)).take i)) :: CkR 24 A ms.length c (ms.map (·.top)) :: matsCk 33 2 ms) ∧ i ≤ ms.length) (fun i => ms.length - i) 0 ⟨rfl, rfl, rfl, rfl, trivial⟩ ⟨hS3, Nat.zero_le _⟩ ?_
    rintro i e w4 ⟨hS4, hi⟩
    refine Cd.seq ?_
    refine Cd.region ?_
    refine Ops.lss rfl rfl rfl ?_
    refine Ops.nil ?_
    refine thenQ_n ?_
    refine Cd.seq ?_
    -- stop: cond
    refine Cd.cond_p _ rfl (fun h1 => ?_) (fun h1 => ?_)
    · have hi' : i < ms.length := by omega
      obtain ⟨hM, hN, hO⟩ := lst_elem (by omega) (by omega) hL hi'
      have hb := orb_bd (by omega) hO
      have hcb := cntL_bd' (F := F) (by omega) ((ms.map (·.xss)).take i) (fun m hm => by
        have := List.mem_of_mem_take hm
        rw [hL] at this
        exact (listL_mem.1 this).2)
      have hcv := hcb.2 ((orbN F ms[i].xss : Int) - 1) (by omega) (by omega)
      have htl : ((ms.map (·.xss)).take i).length ≤ 4000000000000 := by simp; omega
      have hR := hS4.rdR 1 rfl
      have ht := top_at hi'
      refine Cd.skip ?_
      refine thenQ_n ?_
      refine Cd.seq ?_
      refine Cd.block ?_
      refine Cd.seq ?_
      refine Cd.region ?_
      -- stop: INDEXADDR 51 t24 t26 -> 28
      refine Ops.idx hR.2 rfl rfl rfl (by omega) h1 ?_
      refine Ops.ld_ag hR rfl (by omega) rfl ?_
      rw [ht]
      refine Ops.new1 hS4 rfl ?_
      intro A10 w5 hS5
      refine Ops.st_agg 1 0 hS5 rfl rfl rfl rfl rfl rfl rfl ?_
      intro w6 hS6
      have hS6 : St w w6 (Bx 24 1 A10 [.slice ms[i].top.a ms[i].top.n ms[i].top.c] :: CkI 2 A9 F F (cntL F ((ms.map (·.xss)).take i)) :: CkR 24 A ms.length c (ms.map (·.top)) :: matsCk 33 2 ms) := hS6
      have hsub : (ms[i].cks 33 2).Sublist (Bx 24 1 A10 [.slice ms[i].top.a ms[i].top.n ms[i].top.c] :: CkI 2 A9 F F (cntL F ((ms.map (·.xss)).take i)) :: CkR 24 A ms.length c (ms.map (·.top)) :: matsCk 33 2 ms) := (((MatV.sub_ (List.getElem_mem hi')).trans (List.sublist_cons_self _ _)).trans (List.sublist_cons_self _ _)).trans (List.sublist_cons_self _ _)
      have hRm := hS6.matAt (c := ms[i].top.c) (t1 := 33) (t2 := 2) hsub (hok _ (List.getElem_mem hi'))
      refine Ops.nil ?_
      refine thenQ_n ?_
      refine Cd.seq ?_
      refine Cd.region ?_
      -- stop: CALL impl.Maniplex).flagOrbits(t10=m) -> 31
      refine Ops.call (flagOrbits_c A10 ms[i].top.a ms[i].top.n ms[i].top.c ms[i].rs ms[i].xss F _ (Rd.first (hS6.rd 0 rfl)) hRm hM hN) rfl rfl rfl ?_
      rintro _ w7 ⟨A11, rfl, hst7⟩
      rw [show (fset F ms[i].xss F).length = orbN F ms[i].xss by rw [orbN, if_pos hO]]
      have hS7 := (hS6.later hst7.below).tail
      have hC := hS7.rdI 0 rfl
      refine Ops.mv_tup rfl rfl rfl ?_
      refine Ops.extract rfl rfl rfl ?_
      refine Ops.extract rfl rfl rfl ?_
      refine Ops.mv_sl rfl rfl rfl ?_
      refine Ops.mv_int rfl rfl rfl ?_
      refine Ops.nil ?_
      refine thenQ_n ?_
      refine Cd.region ?_
      refine Ops.mv_sl rfl rfl rfl ?_
      refine Ops.mv_int rfl rfl rfl ?_
      refine Ops.sub rfl rfl rfl (by omega) ?_
      -- stop: INDEXADDR 33 t34 t36 -> 37
      refine Ops.idx hC.2 rfl rfl rfl (by omega) (by omega) ?_
      refine Ops.ld_int hC rfl (by omega) rfl rfl ?_
      refine Ops.add rfl rfl rfl (by omega) ?_
      -- stop: INDEXADDR 33 t34 t36 -> 40
      refine Ops.idx hC.2 rfl rfl rfl (by omega) (by omega) ?_
      refine Ops.st_int 0 hS7 rfl rfl rfl (by omega) ?_
      intro w8 hS8
      refine Ops.nil ?_
      refine blockQ_n ?_
      refine thenQ_n ?_
      refine Cd.region ?_
      refine Ops.add rfl rfl rfl (by omega) ?_
      refine Ops.mv_int rfl rfl rfl ?_
      refine Ops.nil ?_
      refine thenQ_n ?_
      -- stop: round
      refine ⟨i + 1, by omega, ⟨rfl, rfl, rfl, rfl, trivial⟩, ?_, by omega⟩
      rw [cnt_take hi']
      exact hS8
    · refine Cd.exit ?_
      refine thenQ_x ?_
      refine thenQ_x ?_
      refine blockQ_x ?_
      refine thenQ_n ?_
      refine Cd.seq ?_
      refine Cd.region ?_
      refine Ops.mv_sl rfl rfl rfl ?_
      refine Ops.mv_sl rfl rfl rfl ?_
      refine Ops.mv_int rfl rfl rfl ?_
      refine Ops.nil ?_
      refine thenQ_n ?_
      refine Cd.ret ?_
      refine ret2_si rfl rfl ?_
      -- stop: end
      have hie : i = ms.length := by omega
      have hl12 := (cntL_bd' (F := F) (by omega) (lstI (n : Int) (F : Int)) (fun m hm => by rw [hlI] at hm; exact (listL_mem.1 hm).2)).1
      rw [hie, List.take_of_length_le (by simp), hL, ← hlI] at hS4
      have e1 : ocL (n : Int) (F : Int) = cntL F (lstI (n : Int) (F : Int)) := by rw [ocL, if_pos hs, Int.toNat_natCast]
      have e2 : lstK (n : Int) (F : Int) = 0 := by rw [lstK, if_pos hs]
      rw [e1, e2]
      refine ⟨A9, F, by rw [hl12], ?_⟩
      rw [hl12]
      exact hS4.sub (List.Sublist.cons_cons _ (List.nil_sublist _))

theorem FnExactOrbitCounts_c (rank flags : Int) (w : World) : Ret Try.prog 7 [.int .i64 rank, .int .i64 flags] w (fun v w' => v = .bool true ∧ St w w' []) := by
  have hsm := ocL_small rank flags
  have hS_ := specOrbitCounts_c rank flags
  have hI_ := implOrbitCounts_c rank flags
  generalize ocL rank flags = L at *
  generalize lstK rank flags = K at *
  refine Ret.of_cd Try.func7 rfl Try.ntmps7 rfl (post1 rfl) ?_
  refine Cd.seq ?_
  refine Cd.region ?_
  refine Ops.mv_bool rfl rfl rfl ?_
  refine Ops.nil ?_
  refine thenQ_n ?_
  refine Cd.seq ?_
  refine Cd.region ?_
  refine Ops.mv_int rfl rfl rfl ?_
  refine Ops.mv_int rfl rfl rfl ?_
  -- stop: CALL spec.OrbitCounts(t14, t15) -> 16
  refine Ops.call (hS_ _) rfl rfl rfl ?_
  rintro _ w1 ⟨A0, c0, rfl, hS1⟩
  refine Ops.mv_tup rfl rfl rfl ?_
  refine Ops.extract rfl rfl rfl ?_
  refine Ops.extract rfl rfl rfl ?_
  refine Ops.mv_sl rfl rfl rfl ?_
  refine Ops.mv_int rfl rfl rfl ?_
  refine Ops.nil ?_
  refine thenQ_n ?_
  refine Cd.seq ?_
  refine Cd.region ?_
  refine Ops.mv_int rfl rfl rfl ?_
  refine Ops.mv_int rfl rfl rfl ?_
  -- stop: CALL impl.OrbitCounts(t20, t21) -> 22
  refine Ops.call (hI_ _) rfl rfl rfl ?_
  rintro _ w2 ⟨A1, c1, rfl, hS2⟩
  have hS2 := hS1.call hS2
  refine Ops.mv_tup rfl rfl rfl ?_
  refine Ops.extract rfl rfl rfl ?_
  refine Ops.extract rfl rfl rfl ?_
  refine Ops.mv_sl rfl rfl rfl ?_
  refine Ops.mv_int rfl rfl rfl ?_
  refine Ops.nil ?_
  refine thenQ_n ?_
  refine Cd.seq ?_
  refine Cd.seq ?_
  refine Cd.region ?_
  refine Ops.mv_sl rfl rfl rfl ?_
  refine Ops.mv_sl rfl rfl rfl ?_
  -- stop: CALL laws.eqInt64S(t25, t26) -> 27
  refine Ops.call (eqInt64S_c A1 _ c1 L A0 _ c0 L _ (hS2.rdI 0 rfl) (hS2.rdI 1 rfl) (by omega)) rfl rfl rfl ?_
  rintro _ w3 ⟨rfl, hst⟩
  have hS3 := hS2.later hst.below
  first | refine Ops.not_p rfl rfl ?_ | refine Ops.not rfl rfl ?_
  refine Ops.mv_bool rfl rfl rfl ?_
  -- stop: guard 29
  refine Ops.split_p 29 rfl (fun h => absurd rfl h) (fun _ => ?_) --f
  refine Ops.rung rfl rfl rfl ?_
  refine Ops.mv_int rfl rfl rfl ?_
  refine Ops.rung rfl rfl rfl ?_
  refine Ops.mv_int rfl rfl rfl ?_
  refine Ops.rung rfl rfl rfl ?_
  refine Ops.neq rfl rfl rfl ?_
  refine Ops.pick_f rfl rfl rfl ?_
  refine Ops.nil ?_
  refine thenQ_n ?_
  -- stop: cond
  refine Cd.cond_pf rfl (fun h => h rfl) ?_
  refine Cd.skip ?_
  refine thenQ_n ?_
  refine Cd.seq ?_
  refine Cd.region ?_
  refine Ops.mv_int rfl rfl rfl ?_
  refine Ops.nil ?_
  refine thenQ_n ?_
  refine Cd.seq ?_
  refine Cd.region ?_
  refine Ops.mv_sl rfl rfl rfl ?_
  refine Ops.mv_int rfl rfl rfl ?_
  -- stop: CALL laws.markInt64S(t34, t35) -> 36
  refine Ops.call (markInt64S_c 0 1 hS3 rfl (by omega)) rfl rfl rfl ?_
  rintro _ w4 ⟨rfl, hS4⟩
  have hS4 : St w w4 (CkI 2 A1 L.length c1 (marks 1 L.length) :: CkI 2 A0 L.length c0 L :: []) := hS4
  refine Ops.mv_int rfl rfl rfl ?_
  refine Ops.nil ?_
  refine thenQ_n ?_
  refine Cd.seq ?_
  refine Cd.region ?_
  refine Ops.mv_int rfl rfl rfl ?_
  refine Ops.nil ?_
  refine thenQ_n ?_
  refine Cd.seq ?_
  refine Cd.region ?_
  refine Ops.mv_sl rfl rfl rfl ?_
  refine Ops.mv_int rfl rfl rfl ?_
  -- stop: CALL laws.heldInt64S(t37, t38) -> 39
  refine Ops.call (heldInt64S_c A1 L.length c1 1 _ (hS4.rdI 0 rfl) (by omega)) rfl rfl rfl ?_
  rintro _ w4 ⟨rfl, rfl⟩
  refine Ops.mv_int rfl rfl rfl ?_
  refine Ops.nil ?_
  refine thenQ_n ?_
  refine Cd.seq ?_
  refine Cd.seq ?_
  refine Cd.region ?_
  refine Ops.mv_int rfl rfl rfl ?_
  refine Ops.lss rfl rfl rfl ?_
  refine Ops.nil ?_
  refine thenQ_n ?_
  -- stop: cond
  refine Cd.cond_pf rfl (by omega) ?_
  refine Cd.skip ?_
  refine thenQ_n ?_
  refine Cd.seq ?_
  refine Cd.seq ?_
  refine Cd.region ?_
  refine Ops.mv_int rfl rfl rfl ?_
  refine Ops.mv_int rfl rfl rfl ?_
  refine Ops.neq rfl rfl rfl ?_
  refine Ops.nil ?_
  refine thenQ_n ?_
  -- stop: cond
  refine Cd.cond_pf rfl (fun h => h rfl) ?_
  refine Cd.skip ?_
  refine thenQ_n ?_
  refine Cd.seq ?_
  refine Cd.region ?_
  refine Ops.mv_int rfl rfl rfl ?_
  refine Ops.mv_int rfl rfl rfl ?_
  -- stop: CALL impl.OrbitCounts(t46, t47) -> 48
  refine Ops.call (hI_ _) rfl rfl rfl ?_
  rintro _ w5 ⟨A2, c2, rfl, hS5⟩
  have hS5 := hS4.call hS5
  refine Ops.mv_tup rfl rfl rfl ?_
  refine Ops.extract rfl rfl rfl ?_
  refine Ops.extract rfl rfl rfl ?_
  refine Ops.mv_sl rfl rfl rfl ?_
  refine Ops.mv_int rfl rfl rfl ?_
  refine Ops.nil ?_
  refine thenQ_n ?_
  refine Cd.seq ?_
  refine Cd.seq ?_
  refine Cd.region ?_
  refine Ops.mv_sl rfl rfl rfl ?_
  refine Ops.mv_sl rfl rfl rfl ?_
  -- stop: CALL laws.eqInt64S(t51, t52) -> 53
  refine Ops.call (eqInt64S_c A2 _ c2 L A0 _ c0 L _ (hS5.rdI 0 rfl) (hS5.rdI 2 rfl) (by omega)) rfl rfl rfl ?_
  rintro _ w6 ⟨rfl, hst6⟩
  have hS6 := hS5.later hst6.below
  first | refine Ops.not_p rfl rfl ?_ | refine Ops.not rfl rfl ?_
  refine Ops.mv_bool rfl rfl rfl ?_
  -- stop: guard 55
  refine Ops.split_p 55 rfl (fun h => absurd rfl h) (fun _ => ?_) --f
  refine Ops.rung rfl rfl rfl ?_
  refine Ops.mv_int rfl rfl rfl ?_
  refine Ops.rung rfl rfl rfl ?_
  refine Ops.mv_int rfl rfl rfl ?_
  refine Ops.rung rfl rfl rfl ?_
  refine Ops.neq rfl rfl rfl ?_
  refine Ops.pick_f rfl rfl rfl ?_
  refine Ops.nil ?_
  refine thenQ_n ?_
  -- stop: cond
  refine Cd.cond_pf rfl (fun h => h rfl) ?_
  refine Cd.skip ?_
  refine thenQ_n ?_
  refine Cd.seq ?_
  refine Cd.region ?_
  refine Ops.mv_int rfl rfl rfl ?_
  refine Ops.nil ?_
  refine thenQ_n ?_
  refine Cd.seq ?_
  refine Cd.region ?_
  refine Ops.mv_sl rfl rfl rfl ?_
  refine Ops.mv_int rfl rfl rfl ?_
  -- stop: CALL laws.heldInt64S(t60, t61) -> 62
  refine Ops.call (heldInt64S_c A1 L.length c1 1 _ (hS6.rdI 1 rfl) (by omega)) rfl rfl rfl ?_
  rintro _ w6 ⟨rfl, rfl⟩
  refine Ops.mv_int rfl rfl rfl ?_
  refine Ops.nil ?_
  refine thenQ_n ?_
  refine Cd.seq ?_
  refine Cd.seq ?_
  refine Cd.region ?_
  refine Ops.mv_int rfl rfl rfl ?_
  refine Ops.lss rfl rfl rfl ?_
  refine Ops.nil ?_
  refine thenQ_n ?_
  -- stop: cond
  refine Cd.cond_pf rfl (by omega) ?_
  refine Cd.skip ?_
  refine thenQ_n ?_
  refine Cd.seq ?_
  refine Cd.seq ?_
  refine Cd.region ?_
  refine Ops.mv_int rfl rfl rfl ?_
  refine Ops.mv_int rfl rfl rfl ?_
  refine Ops.neq rfl rfl rfl ?_
  refine Ops.nil ?_
  refine thenQ_n ?_
  -- stop: cond
  refine Cd.cond_pf rfl (fun h => h rfl) ?_
  refine Cd.skip ?_
  refine thenQ_n ?_
  refine Cd.seq ?_
  refine Cd.region ?_
  refine Ops.mv_bool rfl rfl rfl ?_
  refine Ops.nil ?_
  refine thenQ_n ?_
  refine Cd.ret ?_
  refine ret1_b rfl ?_
  -- stop: end
  exact ⟨rfl, hS6.none⟩
end Go.Proofs.Ytgobjpcankaicaa.Vc
/-
  The walk of slices.Repeat at a list of some numbers. Conditions: as it states them.
-/
namespace Go.Proofs.Ytgobjpcankaicaa.Vc
open Go.RowKit

/-- n copies of a list, one behind the other -/
def pow (xs : List Int) (n : Nat) : List Int := (List.replicate n xs).flatten
theorem pow_len (xs : List Int) (n : Nat) : (pow xs n).length = xs.length * n := by simp [pow, Nat.mul_comm]
theorem pow_succ (xs : List Int) (n : Nat) : pow xs (n + 1) = pow xs n ++ xs := by simp [pow, List.replicate_succ']
theorem pow_succ' (xs : List Int) (n : Nat) : pow xs (n + 1) = xs ++ pow xs n := by simp [pow, List.replicate_succ]
theorem pow_get {xs : List Int} (h : 0 < xs.length) : ∀ (n j : Nat), j < xs.length * n → (pow xs n)[j]? = xs[j % xs.length]?
  | 0, j, hj => by simp at hj
  | n + 1, j, hj => by
    rw [pow_succ']
    by_cases hx : j < xs.length
    · rw [List.getElem?_append_left hx, Nat.mod_eq_of_lt hx]
    · rw [List.getElem?_append_right (by omega), pow_get h n _ (by rw [Nat.mul_succ] at hj; omega), ← Nat.mod_eq_sub_mod (by omega)]
theorem pow_shift {xs : List Int} (h : 0 < xs.length) {n m j : Nat} (hm : xs.length ∣ m) (hj : m + j < xs.length * n) : (pow xs n)[m + j]? = (pow xs n)[j]? := by
  rw [pow_get h n _ hj, pow_get h n _ (by omega)]
  obtain ⟨q, rfl⟩ := hm
  rw [Nat.add_comm, Nat.add_mul_mod_self_left]

/-- what a part of the copies looks like -/
def part (T : List Int) (m : Nat) : List Int := T.take m ++ List.replicate (T.length - m) 0
theorem part_len {T : List Int} {m : Nat} (h : m ≤ T.length) : (part T m).length = T.length := by simp [part]; omega
theorem part_get {T : List Int} {m j : Nat} (h : m ≤ T.length) (hj : j < T.length) : (part T m)[j]? = if j < m then T[j]? else some 0 := by
  unfold part
  by_cases hjm : j < m
  · rw [List.getElem?_append_left (by simp; omega), List.getElem?_take, if_pos hjm, if_pos hjm]
  · rw [List.getElem?_append_right (by simp; omega), if_neg hjm, List.getElem?_replicate, if_pos (by simp; omega)]
theorem part_copy {T : List Int} {m q : Nat} (hm : m ≤ T.length) (hq : q ≤ T.length - m) (hs : ∀ j, j < q → T[m + j]? = T[j]?) :
    ((part T m).map (Value.int .i64)).take m ++ (List.range q).map (fun j => Value.int .i64 (T.getD j 0)) ++ ((part T m).map (Value.int .i64)).drop (m + q) = (part T (m + q)).map (Value.int .i64) := by
  apply List.ext_getElem?
  intro j
  have hl := part_len hm
  have hl2 := part_len (T := T) (m := m + q) (by omega)
  by_cases h1 : j < m
  · rw [List.append_assoc, List.getElem?_append_left (by simp; omega), List.getElem?_take, if_pos h1, List.getElem?_map, List.getElem?_map, part_get hm (by omega), part_get (by omega) (by omega), if_pos h1, if_pos (by omega)]
  · by_cases h2 : j < m + q
    · obtain ⟨i, rfl⟩ : ∃ i, j = m + i := ⟨j - m, by omega⟩
      rw [List.append_assoc, List.getElem?_append_right (by simp; omega), List.getElem?_append_left (by simp; omega), List.getElem?_map, List.getElem?_map, part_get (by omega) (by omega), if_pos h2, hs i (by omega)]
      simp only [List.length_take, List.length_map, hl, show min m T.length = m by omega, Nat.add_sub_cancel_left]
      rw [List.getElem?_range (by omega)]
      simp [List.getD_eq_getElem?_getD, List.getElem?_eq_getElem (show i < T.length by omega)]
    · rw [List.getElem?_append_right (by simp; omega), List.getElem?_drop]
      simp only [List.length_append, List.length_take, List.length_map, List.length_range, hl, show min m T.length = m by omega]
      rw [show m + q + (j - (m + q)) = j by omega, List.getElem?_map, List.getElem?_map]
      by_cases h3 : j < T.length
      · rw [part_get hm h3, part_get (by omega) h3, if_neg h1, if_neg h2]
      · rw [List.getElem?_eq_none (by omega), List.getElem?_eq_none (by omega)]
theorem part_all (T : List Int) : part T T.length = T := by simp [part]

theorem RepeatL_c (A : Option Addr) (a c : Nat) (xs : List Int) (n : Nat) (w : World) (hR : RdI w A a xs) (ha : 0 < a ∧ a ≤ 1000) (hn : n ≤ 1000) :
    Ret Try.prog 106 [.slice A a c, .int .i64 (n : Int)] w (fun v w' => ∃ A', v = .slice A' (a * n) (a * n) ∧ St w w' [CkI 2 A' (a * n) (a * n) (pow xs n)]) := by
  have hxl := hR.1
  have hMn : ((a : Int) * (n : Int)) = ((a * n : Nat) : Int) := rfl
  have hN0 : a * n ≤ 1000000 := Nat.mul_le_mul ha.2 hn
  have hTl : (pow xs n).length = a * n := by rw [pow_len, hxl]
  have hz : n = 0 → a * n = 0 := fun h => by subst h; rfl
  have hnz : 0 < n → a ≤ a * n := fun h => Nat.le_mul_of_pos_right a h
  have hdv : a ∣ a * n := Nat.dvd_mul_right a n
  have hsh : ∀ m j, a ∣ m → m + j < a * n → (pow xs n)[m + j]? = (pow xs n)[j]? := fun m j hm hj => pow_shift (by omega) (by rw [hxl]; exact hm) (by rw [hxl]; exact hj)
  have hpre : ∀ j, j < min a (a * n) → xs[j]? = (pow xs n)[j]? := fun j hj => by rw [pow_get (by omega) n j (by rw [hxl]; omega), Nat.mod_eq_of_lt (by omega)]
  refine Ret.of_cd Try.func106 rfl Try.ntmps106 rfl (post1 rfl) ?_
  refine Cd.seq ?_
  refine Cd.region ?_
  refine Ops.mv_sl rfl rfl rfl ?_
  refine Ops.nil ?_
  refine thenQ_n ?_
  refine Cd.seq ?_
  refine Cd.seq ?_
  refine Cd.region ?_
  refine Ops.mv_int rfl rfl rfl ?_
  refine Ops.lss rfl rfl rfl ?_
  refine Ops.nil ?_
  refine thenQ_n ?_
  -- stop: cond
  refine Cd.cond_pf rfl (by omega) ?_
  refine Cd.skip ?_
  refine thenQ_n ?_
  refine Cd.seq ?_
  refine Cd.region ?_
  refine Ops.mv_sl rfl rfl rfl ?_
  refine Ops.len rfl rfl ?_
  -- stop: CONVERT 3 112 t14 -> 15
  refine Ops.convK (i := (a : Int)) rfl rfl (wrap_u64_in _ (by omega)) ?_
  refine Ops.mv_int rfl rfl rfl ?_
  -- stop: CONVERT 3 112 t16 -> 17
  refine Ops.convK (i := (n : Int)) rfl rfl (wrap_u64_in _ (by omega)) ?_
  refine Ops.call (Mul_c a n _ (by omega) (by omega)) rfl rfl rfl ?_
  rintro _ w ⟨rfl, rfl⟩
  rw [hMn]
  generalize hT : pow xs n = T at *
  generalize hNe : a * n = N at *
  subst hTl
  refine Ops.mv_tup rfl rfl rfl ?_
  refine Ops.extract rfl rfl rfl ?_
  refine Ops.extract rfl rfl rfl ?_
  refine Ops.mv_int rfl rfl rfl ?_
  refine Ops.mv_int rfl rfl rfl ?_
  refine Ops.nil ?_
  refine thenQ_n ?_
  refine Cd.seq ?_
  refine Cd.seq ?_
  refine Cd.region ?_
  refine Ops.mv_int rfl rfl rfl ?_
  refine Ops.gtr rfl rfl rfl ?_
  refine Ops.mv_bool rfl rfl rfl ?_
  -- stop: guard 23
  refine Ops.split_p 23 rfl (fun h => absurd h (by decide)) (fun _ => ?_) --f
  refine Ops.rung rfl rfl rfl ?_
  refine Ops.mv_int rfl rfl rfl ?_
  refine Ops.rung rfl rfl rfl ?_
  refine Ops.gtr rfl rfl rfl ?_
  refine Ops.pick_f rfl rfl rfl ?_
  refine Ops.nil ?_
  refine thenQ_n ?_
  -- stop: cond
  refine Cd.cond_pf rfl (by omega) ?_
  refine Cd.skip ?_
  refine thenQ_n ?_
  refine Cd.seq ?_
  refine Cd.region ?_
  refine Ops.mv_int rfl rfl rfl ?_
  -- stop: CONVERT 112 3 t28 -> 29
  refine Ops.convK (i := (T.length : Int)) rfl rfl (IntWalk.i64_in _ (by omega)) ?_
  refine Ops.mkI T.length (St.refl w) rfl rfl (by omega) ?_
  intro A1 w1 hS1
  refine Ops.mv_sl rfl rfl rfl ?_
  refine Ops.nil ?_
  refine thenQ_n ?_
  refine Cd.seq ?_
  refine Cd.region ?_
  refine Ops.mv_sl rfl rfl rfl ?_
  refine Ops.mv_sl rfl rfl rfl ?_
  -- stop: BUILTIN copy(t31, t32) -> 33
  refine Ops.cp 0 0 (min a T.length) hS1 rfl (hS1.oldI hR).2 (Nat.zero_le _) (by rw [cutAt_zero]; rfl) rfl (fun _ _ => rfl) rfl rfl ?_
  intro w2 hS2
  refine Ops.mv_int rfl rfl rfl ?_
  refine Ops.nil ?_
  refine thenQ_n ?_
  refine Cd.seq ?_
  refine Cd.block ?_
  -- stop: loop
  have h3 : St w w2 [CkI 2 A1 T.length T.length (part T (min a T.length))] := by
    have e := part_copy (T := T) (m := 0) (q := min a T.length) (Nat.zero_le _) (by omega) (fun j hj => by rw [Nat.zero_add])
    have e0 : part T 0 = List.replicate T.length 0 := by simp [part]
    have e1 : (List.range (min a T.length)).map (fun j => Value.int .i64 (xs.getD j 0)) = (List.range (min a T.length)).map (fun j => Value.int .i64 (T.getD j 0)) := by
      refine List.map_congr_left fun j hj => ?_
      rw [List.getD_eq_getElem?_getD, List.getD_eq_getElem?_getD, hpre j (List.mem_range.1 hj)]
    rw [e0, Nat.zero_add] at e
    have e2 : ([CkI 2 A1 T.length T.length (List.replicate T.length 0)].set 0 { CkI 2 A1 T.length T.length (List.replicate T.length 0) with vs := (CkI 2 A1 T.length T.length (List.replicate T.length 0)).vs.take 0 ++ (List.range (min a T.length)).map (fun j => Value.int .i64 (xs.getD j 0)) ++ (CkI 2 A1 T.length T.length (List.replicate T.length 0)).vs.drop (0 + min a T.length) }) = [CkI 2 A1 T.length T.length (part T (min a T.length))] := by
      rw [e1, Nat.zero_add]
      show [(⟨A1, T.length, T.length, _, _⟩ : Ck)] = [⟨A1, T.length, T.length, _, _⟩]
      rw [← e]
    rw [← e2]; exact hS2
  refine Cd.loop (α := Nat) (fun m => [(7, .slice A1 T.length T.length), (8, .int .i64 (m : Int))]) (fun m w' => St w w' [CkI 2 A1 T.length T.length (part T m)] ∧ m ≤ T.length ∧ a ∣ m ∧ (0 < T.length → 0 < m)) (fun m => T.length - m) (min a T.length) ⟨rfl, rfl, trivial⟩ ⟨h3, by omega, ?_, by omega⟩ ?_
  · by_cases h0 : a ≤ T.length
    · rw [Nat.min_eq_left h0]; exact Nat.dvd_refl a
    · rw [Nat.min_eq_right (by omega)]; exact hdv
  rintro m e w3 ⟨hS3, hm, hdm, hm0⟩
  refine Cd.seq ?_
  refine Cd.seq ?_
  refine Cd.region ?_
  refine Ops.mv_int rfl rfl rfl ?_
  refine Ops.mv_sl rfl rfl rfl ?_
  refine Ops.len rfl rfl ?_
  refine Ops.lss rfl rfl rfl ?_
  refine Ops.nil ?_
  refine thenQ_n ?_
  -- stop: cond
  refine Cd.cond_p _ rfl (fun h4 => ?_) (fun h4 => ?_)
  · refine Cd.skip ?_
    refine thenQ_n ?_
    refine Cd.block ?_
    -- stop: draw
    have hlen := part_len hm
    have hR2 : ∀ {w1 : World}, Below w3.heap.size w3 w1 → Rd w1 A1 m (fun j => .int .i64 (T.getD j 0)) := fun hb j hj => by
      have h5 := (hS3.later hb).rd 0 rfl j (by show j < T.length; omega)
      have h6 : ((part T m).map (Value.int .i64)).getD j undef = .int .i64 (T.getD j 0) := by
        rw [List.getD_eq_getElem?_getD, List.getElem?_map, part_get hm (by omega), if_pos hj]
        simp [List.getD_eq_getElem?_getD, List.getElem?_eq_getElem (show j < T.length by omega)]
      obtain ⟨p, hp, hc⟩ := h5
      exact ⟨p, hp, hc.trans (congrArg some h6)⟩
    have hR3 := part_copy (T := T) (m := m) (q := min m (T.length - m)) hm (by omega) (fun j hj => hsh m j hdm (by omega))
    refine Cd.drawM 7 (fun v w' => v = .int .i64 ((min m (T.length - m) : Nat) : Int) ∧ St w w' [CkI 2 A1 T.length T.length (part T (m + min m (T.length - m)))]) [.ex (.int .i64 ((m : Int))), .ex (.slice (A1) (T.length) (T.length)), .ex (.int .i64 ((m : Int))), .ex (.slice (cutAt A1 T.length m) (T.length - m) (T.length - m)), .ex (.slice (A1) (T.length) (T.length)), .ex (.int .i64 ((m : Int))), .ex (.slice (A1) (m) (T.length)), .pr (fun v w' => v = .int .i64 ((min m (T.length - m) : Nat) : Int) ∧ St w w' [CkI 2 A1 T.length T.length (part T (m + min m (T.length - m)))]), .ex (.int .i64 ((m : Int) + ((min m (T.length - m) : Nat) : Int))), .ex (.int .i64 ((m : Int) + ((min m (T.length - m) : Nat) : Int)))] (by kernel_rfl) (by kernel_rfl) rfl rfl (by kernel_rfl) (List.forall_mem_cons.2 ⟨Yd.lasts_ex _, (List.forall_mem_cons.2 ⟨Yd.lasts_ex _, (List.forall_mem_cons.2 ⟨Yd.lasts_ex _, (List.forall_mem_cons.2 ⟨Yd.lasts_ex _, (List.forall_mem_cons.2 ⟨Yd.lasts_ex _, (List.forall_mem_cons.2 ⟨Yd.lasts_ex _, (List.forall_mem_cons.2 ⟨Yd.lasts_ex _, (List.forall_mem_cons.2 ⟨Yd.lasts_pr (fun v w w' h hb => ⟨h.1, h.2.later hb⟩), (List.forall_mem_cons.2 ⟨Yd.lasts_ex _, (List.forall_mem_cons.2 ⟨Yd.lasts_ex _, (fun _ h => by cases h)⟩)⟩)⟩)⟩)⟩)⟩)⟩)⟩)⟩)⟩) ⟨?_, ?_, ?_, ?_, ?_, ?_, ?_, ?_, ?_, ?_, trivial⟩ ?_
    · intro e1 w1 hph hp hun
      show Ops _ _ _ _ _ _ _
      refine Ops.mv_int rfl (by exact hun 9 _ rfl (by kernel_rfl)) rfl ?_
      refine Ops.nil ?_
      exact After.dn (Below.refl _ _) (by exact rfl)
    · intro e1 w1 hph hp hun
      show Ops _ _ _ _ _ _ _
      refine Ops.mv_sl rfl rfl rfl ?_
      refine Ops.nil ?_
      exact After.dn (Below.refl _ _) (by exact rfl)
    · intro e1 w1 hph hp hun
      show Ops _ _ _ _ _ _ _
      refine Ops.mv_int rfl (by exact hun 9 _ rfl (by kernel_rfl)) rfl ?_
      refine Ops.nil ?_
      exact After.dn (Below.refl _ _) (by exact rfl)
    · intro e1 w1 hph hp hun
      show Ops _ _ _ _ _ _ _
      refine Ops.cut_l rfl rfl rfl (by omega) ?_
      refine Ops.nil ?_
      exact After.dn (Below.refl _ _) (by exact rfl)
    · intro e1 w1 hph hp hun
      show Ops _ _ _ _ _ _ _
      refine Ops.mv_sl rfl rfl rfl ?_
      refine Ops.nil ?_
      exact After.dn (Below.refl _ _) (by exact rfl)
    · intro e1 w1 hph hp hun
      show Ops _ _ _ _ _ _ _
      refine Ops.mv_int rfl (by exact hun 9 _ rfl (by kernel_rfl)) rfl ?_
      refine Ops.nil ?_
      exact After.dn (Below.refl _ _) (by exact rfl)
    · intro e1 w1 hph hp hun
      show Ops _ _ _ _ _ _ _
      refine Ops.cut_h rfl rfl rfl (by omega) ?_
      refine Ops.nil ?_
      exact After.dn (Below.refl _ _) (by exact rfl)
    · intro e1 w1 hph hp hun
      refine fun hb => ?_
      refine Ops.cp 0 m (min m (T.length - m)) (hS3.later hb) rfl (f := fun j => .int .i64 (T.getD j 0)) (hR2 hb) (by omega) rfl rfl (fun _ _ => rfl) rfl rfl ?_
      intro w5 hS5
      refine Ops.nil ?_
      exact AfterM.dn ⟨rfl, by show St w w5 [⟨A1, T.length, T.length, _, (part T (m + min m (T.length - m))).map (Value.int .i64)⟩]; rw [← hR3]; exact hS5⟩ --exact After
    · intro e1 w1 hph hp hun
      show Ops _ _ _ _ _ _ _
      have h45 : e1 45 = .int .i64 _ := (hp 7 (by decide) rfl _ _ rfl rfl).1
      refine Ops.add rfl (by exact h45) rfl (by omega) ?_
      refine Ops.nil ?_
      exact After.dn (Below.refl _ _) (by exact rfl)
    · intro e1 w1 hph hp hun
      show Ops _ _ _ _ _ _ _
      refine Ops.mv_int rfl rfl rfl ?_
      refine Ops.nil ?_
      exact After.dn (Below.refl _ _) (by exact rfl)
    intro u w5 hu
    have hS5 := (hu 7 _ rfl).2
    refine blockQ_n ?_
    refine thenQ_n ?_
    -- stop: round
    refine ⟨m + min m (T.length - m), by have := hm0 (by omega); omega, ⟨rfl, by show Value.int .i64 _ = Value.int .i64 _; congr 1, trivial⟩, hS5, by omega, ?_, by omega⟩
    by_cases h0 : m ≤ T.length - m
    · rw [Nat.min_eq_left h0]; exact Nat.dvd_add hdm hdm
    · rw [Nat.min_eq_right (by omega), show m + (T.length - m) = T.length by omega]; exact hdv
  · refine Cd.exit ?_
    refine thenQ_x ?_
    refine thenQ_x ?_
    refine blockQ_x ?_
    refine thenQ_n ?_
    refine Cd.seq ?_
    refine Cd.region ?_
    refine Ops.mv_sl rfl rfl rfl ?_
    refine Ops.mv_sl rfl rfl rfl ?_
    refine Ops.nil ?_
    refine thenQ_n ?_
    refine Cd.ret ?_
    refine ret1_s rfl ?_
    -- stop: end
    have : m = T.length := by omega
    subst this
    rw [part_all] at hS3
    exact ⟨A1, rfl, hS3⟩
end Go.Proofs.Ytgobjpcankaicaa.Vc
/-
  The walks of holes and zigzags on both sides. Conditions: as each states them.
-/
namespace Go.Proofs.Ytgobjpcankaicaa.Vc
open Go.RowKit

/-- the code of holes and zigzags -/
def holeK (xss : List (List Int)) (j : Int) : Int := if ¬ Grph xss then 1 else if ¬ (1 ≤ j ∧ j ≤ 16) then 2 else if ¬ xss.length = 3 then 5 else 0
theorem holeK_zero {xss : List (List Int)} {j : Int} (h : holeK xss j = 0) : Grph xss ∧ (1 ≤ j ∧ j ≤ 16) ∧ xss.length = 3 := by
  unfold holeK at h
  split at h
  · cases h
  · rename_i h1
    split at h
    · cases h
    · rename_i h2
      split at h
      · cases h
      · rename_i h3
        exact ⟨Classical.not_not.1 h1, Classical.not_not.1 h2, Classical.not_not.1 h3⟩

theorem l11Power_c (A : Option Addr) (a c : Nat) (xs : List Int) (n : Nat) (w : World) (hR : RdI w A a xs) (ha : a ≤ 1000) (hn : n ≤ 1000) :
    Ret Try.prog 178 [.slice A a c, .int .i64 (n : Int)] w (fun v w' => ∃ A' c', v = .slice A' (a * n) c' ∧ St w w' [CkI 2 A' (a * n) c' (pow xs n)]) := by
  have hxl := hR.1
  refine Ret.of_cd Try.func178 rfl Try.ntmps178 rfl (post1 rfl) ?_
  refine Cd.seq ?_
  refine Cd.region ?_
  refine Ops.mv_sl rfl rfl rfl ?_
  refine Ops.nil ?_
  refine thenQ_n ?_
  refine Cd.seq ?_
  refine Cd.region ?_
  -- stop: BUILDSLICE 33 0 [] -> 6
  refine Ops.bs0 (St.refl w) rfl ?_
  intro A5 w1 hS1
  have hS1 : St w w1 [CkI 2 A5 (a * 0) 0 (pow xs 0)] := hS1
  refine Ops.mv_sl rfl rfl rfl ?_
  refine Ops.nil ?_
  refine thenQ_n ?_
  refine Cd.seq ?_
  refine Cd.block ?_
  -- stop: loop
  refine Cd.loop (α := Nat × Option Addr × Nat) (fun z => [(0, .slice A a c), (1, .int .i64 ((n : Int) - (z.1 : Int))), (5, .slice z.2.1 (a * z.1) z.2.2)]) (fun z w' => St w w' [CkI 2 z.2.1 (a * z.1) z.2.2 (pow xs z.1)] ∧ z.1 ≤ n) (fun z => n - z.1) (0, A5, 0) ⟨rfl, by show Value.int .i64 _ = .int .i64 _; simp, rfl, trivial⟩ ⟨hS1, Nat.zero_le _⟩ ?_
  rintro ⟨k, A6, c6⟩ e w2 ⟨hS2, hk⟩
  dsimp only at hS2 hk ⊢
  have hb2 : a * k ≤ 1000000 := Nat.mul_le_mul ha (show k ≤ 1000 by omega)
  refine Cd.seq ?_
  refine Cd.seq ?_
  refine Cd.region ?_
  refine Ops.mv_int rfl rfl rfl ?_
  refine Ops.gtr rfl rfl rfl ?_
  refine Ops.nil ?_
  refine thenQ_n ?_
  -- stop: cond
  refine Cd.cond_p _ rfl (fun h1 => ?_) (fun h1 => ?_)
  · refine Cd.skip ?_
    refine thenQ_n ?_
    refine Cd.seq ?_
    refine Cd.block ?_
    refine Cd.region ?_
    refine Ops.mv_sl rfl rfl rfl ?_
    refine Ops.mv_sl rfl rfl rfl ?_
    -- stop: BUILTIN append(t11, t12) -> 13
    refine Ops.appI 0 hS2 rfl (hS2.oldI hR) rfl rfl rfl (by omega) (by omega) rfl ?_
    intro A7 c7 w3 hS3
    refine Ops.mv_sl rfl rfl rfl ?_
    refine Ops.nil ?_
    refine blockQ_n ?_
    refine thenQ_n ?_
    refine Cd.region ?_
    refine Ops.mv_int rfl rfl rfl ?_
    refine Ops.sub rfl rfl rfl (by omega) ?_
    refine Ops.mv_int rfl rfl rfl ?_
    refine Ops.nil ?_
    refine thenQ_n ?_
    -- stop: round
    have e1 : a * (k + 1) = a * k + a := Nat.mul_succ a k
    refine ⟨(k + 1, A7, c7), by show n - (k + 1) < n - k; omega, ⟨rfl, by show Value.int .i64 _ = .int .i64 _; congr 1; show _ = (n : Int) - ((k + 1 : Nat) : Int); omega, by show Value.slice _ _ _ = .slice _ _ _; rw [e1], trivial⟩, ?_, by show k + 1 ≤ n; omega⟩
    show St w w3 [CkI _ A7 (a * (k + 1)) c7 (pow xs (k + 1))]
    rw [e1, pow_succ]
    exact hS3
  · refine Cd.exit ?_
    refine thenQ_x ?_
    refine thenQ_x ?_
    refine blockQ_x ?_
    refine thenQ_n ?_
    refine Cd.seq ?_
    refine Cd.region ?_
    refine Ops.mv_sl rfl rfl rfl ?_
    refine Ops.mv_sl rfl rfl rfl ?_
    refine Ops.nil ?_
    refine thenQ_n ?_
    refine Cd.ret ?_
    refine ret1_s rfl ?_
    -- stop: end
    have hkn : k = n := by omega
    subst hkn
    exact ⟨A6, c6, rfl, hS2⟩

def zigW (n : Nat) : List Int := [0] ++ pow [1, 2] n
def holeW (n : Nat) : List Int := zigW n ++ [1]
theorem zigW_len (n : Nat) : (zigW n).length = 1 + 2 * n := by simp [zigW, pow_len]; omega
theorem holeW_len (n : Nat) : (holeW n).length = 1 + 2 * n + 1 := by rw [holeW, List.length_append, zigW_len]; rfl
theorem zigW_in (n : Nat) : ∀ i ∈ zigW n, 0 ≤ i ∧ i < 3 := fun i hi => by
  simp only [zigW, pow, List.mem_append, List.mem_singleton, List.mem_flatten, List.mem_replicate] at hi
  rcases hi with rfl | ⟨l, ⟨_, rfl⟩, hi⟩
  · omega
  · simp at hi; omega
theorem holeW_in (n : Nat) : ∀ i ∈ holeW n, 0 ≤ i ∧ i < 3 := fun i hi => by
  rcases List.mem_append.1 hi with h | h
  · exact zigW_in n i h
  · simp at h; omega
theorem in_gi {ws : List Int} {a b : Int} (h : ∀ i ∈ ws, a ≤ i ∧ i < b) : ∀ k : Nat, k < ws.length → a ≤ gi ws k ∧ gi ws k < b := fun k hk => by
  rw [gi_mem hk]; exact h _ (List.getElem_mem _)

end Go.Proofs.Ytgobjpcankaicaa.Vc
/-
  The walks of the lengths of holes and zigzags on both sides. Conditions: as each states them.
-/
namespace Go.Proofs.Ytgobjpcankaicaa.Vc
open Go.RowKit

def holeL (xss : List (List Int)) (j : Int) : List Int := if holeK xss j = 0 then wordL xss (holeW (j - 1).toNat) else []
def zigL (xss : List (List Int)) (j : Int) : List Int := if holeK xss j = 0 then wordL xss (zigW j.toNat) else []

end Go.Proofs.Ytgobjpcankaicaa.Vc
/-
  The walks of the lengths of a word on both sides. Conditions: as each states them.
-/
namespace Go.Proofs.Ytgobjpcankaicaa.Vc
open Go.RowKit
section
variable {P : Program} {N : Nat} {ops : Array Oper} {K : Env → World → Prop} {rest : List Oper} {e : Env} {w : World} {d : Nat} {ty : TypeId} {pos : String} {af : Array Edge}
theorem Ops.fn2 {F : FuncId} {x y : Operand} {v1 v2 : Value} (hx : ev e x = v1) (hy : ev e y = v2) (hb : Nat.blt d N = true) (hK : Ops P N ops K rest (upd e d (.func (.func F) #[] #[v1, v2])) w) :
    Ops P N ops K (⟨some d, .makeFunc (.func F) #[] #[x, y], ty, pos, af, none⟩ :: rest) e w :=
  .val (by simp [execOp, Instr.makeFunc, hx, hy]) hb hK
end

def allIn (lo hi : Int) (xs : List Int) : Prop := ∀ x ∈ xs, lo ≤ x ∧ x ≤ hi
instance (lo hi : Int) (xs : List Int) : Decidable (allIn lo hi xs) := by unfold allIn; exact inferInstance

theorem areWithin1_c (x lo hi : Int) (P1 P2 : Option Addr) (w : World) (h1 : Rd w P1 1 (fun _ => .int .i64 lo)) (h2 : Rd w P2 1 (fun _ => .int .i64 hi)) :
    Ret Try.prog 150 [.int .i64 x, .pointer P1, .pointer P2] w (fun v w' => v = .bool (decide (¬ (lo ≤ x ∧ x ≤ hi))) ∧ w' = w) := by
  refine Ret.of_cd Try.func150 rfl Try.ntmps150 rfl (post1 rfl) ?_
  refine Cd.seq ?_
  refine Cd.region ?_
  refine Ops.mv_bool rfl rfl rfl ?_
  refine Ops.nil ?_
  refine thenQ_n ?_
  refine Cd.seq ?_
  refine Cd.region ?_
  refine Ops.mv_int rfl rfl rfl ?_
  -- stop: LOAD 2 t1 -> 6
  refine Ops.ld h1 (by exact congrArg Value.pointer (ptrAt_zero P1).symm) (by decide) rfl rfl rfl ?_
  refine Ops.ld h2 (by exact congrArg Value.pointer (ptrAt_zero P2).symm) (by decide) rfl rfl rfl ?_
  refine Ops.call (within_c _ _ _ _) rfl rfl rfl ?_
  rintro _ w ⟨rfl, rfl⟩
  first | refine Ops.not_p rfl rfl ?_ | refine Ops.not rfl rfl ?_
  refine Ops.mv_bool rfl rfl rfl ?_
  refine Ops.nil ?_
  refine thenQ_n ?_
  refine Cd.ret ?_
  refine ret1_b rfl ?_
  -- stop: end
  exact ⟨rfl, rfl⟩

theorem IndexFunc_c (A : Option Addr) (n c : Nat) (xs : List Int) (lo hi : Int) (P1 P2 : Option Addr) (w : World) (hR : RdI w A n xs) (hn : n ≤ 9223372036854775807) (h1 : Rd w P1 1 (fun _ => .int .i64 lo)) (h2 : Rd w P2 1 (fun _ => .int .i64 hi)) :
    Ret Try.prog 188 [.slice A n c, .func (.func 150) #[] #[.pointer P1, .pointer P2]] w (fun v w' => (∃ i : Int, v = .int .i64 i ∧ (0 ≤ i ↔ ¬ allIn lo hi xs)) ∧ w' = w) := by
  have hxl := hR.1
  refine Ret.of_cd Try.func188 rfl Try.ntmps188 rfl (post1 rfl) ?_
  refine Cd.seq ?_
  refine Cd.region ?_
  refine Ops.mv_int rfl rfl rfl ?_
  refine Ops.nil ?_
  refine thenQ_n ?_
  refine Cd.seq ?_
  refine Cd.seq ?_
  refine Cd.region ?_
  refine Ops.mv_sl rfl rfl rfl ?_
  refine Ops.len rfl rfl ?_
  refine Ops.mv_int rfl rfl rfl ?_
  refine Ops.nil ?_
  refine thenQ_n ?_
  refine Cd.block ?_
  -- stop: loop
  refine Cd.loop (α := Nat) (fun k => [(0, .slice A n c), (1, .func (.func 150) #[] #[.pointer P1, .pointer P2]), (7, .int .i64 (n : Int)), (8, .int .i64 (k : Int))]) (fun k w' => w' = w ∧ k ≤ n ∧ ∀ j, j < k → lo ≤ gi xs (j : Nat) ∧ gi xs (j : Nat) ≤ hi) (fun k => n - k) 0 ⟨rfl, rfl, rfl, rfl, trivial⟩ ⟨rfl, Nat.zero_le _, fun j hj => by omega⟩ ?_
  rintro k e w ⟨rfl, hk, hK⟩
  refine Cd.seq ?_
  refine Cd.region ?_
  refine Ops.lss rfl rfl rfl ?_
  refine Ops.nil ?_
  refine thenQ_n ?_
  refine Cd.seq ?_
  -- stop: cond
  refine Cd.cond_p _ rfl (fun h3 => ?_) (fun h3 => ?_)
  · refine Cd.skip ?_
    refine thenQ_n ?_
    refine Cd.seq ?_
    refine Cd.block ?_
    refine Cd.seq ?_
    refine Cd.region ?_
    refine Ops.mv_int rfl rfl rfl ?_
    refine Ops.mv_int rfl rfl rfl ?_
    refine Ops.nil ?_
    refine thenQ_n ?_
    refine Cd.seq ?_
    refine Cd.region ?_
    refine Ops.mv_fn rfl rfl rfl ?_
    refine Ops.mv_sl rfl rfl rfl ?_
    refine Ops.mv_int rfl rfl rfl ?_
    -- stop: INDEXADDR 33 t12 t13 -> 14
    refine Ops.idx hR.2 rfl rfl rfl (by omega) (by omega) ?_
    refine Ops.ld_int hR rfl (by omega) rfl rfl ?_
    refine Ops.call (areWithin1_c _ lo hi P1 P2 _ h1 h2) rfl rfl rfl ?_
    rintro _ w ⟨rfl, rfl⟩
    refine Ops.nil ?_
    refine thenQ_n ?_
    -- stop: cond
    refine Cd.cond_p _ rfl (fun h4 => ?_) (fun h4 => ?_)
    · refine Cd.seq ?_
      refine Cd.region ?_
      refine Ops.mv_int rfl rfl rfl ?_
      refine Ops.mv_int rfl rfl rfl ?_
      refine Ops.nil ?_
      refine thenQ_n ?_
      refine Cd.ret ?_
      refine blockQ_r ?_
      refine thenQ_r ?_
      refine thenQ_r ?_
      refine blockQ_r ?_
      refine thenQ_r ?_
      refine ret1_i rfl ?_
      -- stop: end
      exact ⟨⟨(k : Int), rfl, ⟨fun _ ha => h4 (by rw [gi_mem (by omega)]; exact ha _ (List.getElem_mem _)), fun _ => by omega⟩⟩, rfl⟩
    · refine Cd.skip ?_
      refine blockQ_n ?_
      refine thenQ_n ?_
      refine Cd.region ?_
      refine Ops.add rfl rfl rfl (by omega) ?_
      refine Ops.mv_int rfl rfl rfl ?_
      refine Ops.nil ?_
      refine thenQ_n ?_
      -- stop: round
      refine ⟨k + 1, by show n - (k + 1) < n - k; omega, ⟨rfl, rfl, rfl, rfl, trivial⟩, rfl, by omega, fun j hj => ?_⟩
      by_cases ej : j = k
      · subst ej; exact Classical.not_not.1 h4
      · exact hK j (by omega)
  · refine Cd.exit ?_
    refine thenQ_x ?_
    refine thenQ_x ?_
    refine blockQ_x ?_
    refine thenQ_n ?_
    refine Cd.seq ?_
    refine Cd.region ?_
    refine Ops.mv_int rfl rfl rfl ?_
    refine Ops.nil ?_
    refine thenQ_n ?_
    refine Cd.ret ?_
    refine ret1_i rfl ?_
    -- stop: end
    refine ⟨⟨-1, rfl, ⟨fun h => absurd h (by decide), fun h => absurd (fun x hx => ?_) h⟩⟩, rfl⟩
    obtain ⟨j, hj, rfl⟩ := List.mem_iff_getElem.1 hx
    have := hK j (by omega)
    rwa [gi_mem hj] at this

theorem ContainsFunc_c (A : Option Addr) (n c : Nat) (xs : List Int) (lo hi : Int) (P1 P2 : Option Addr) (w : World) (hR : RdI w A n xs) (hn : n ≤ 9223372036854775807) (h1 : Rd w P1 1 (fun _ => .int .i64 lo)) (h2 : Rd w P2 1 (fun _ => .int .i64 hi)) :
    Ret Try.prog 149 [.slice A n c, .func (.func 150) #[] #[.pointer P1, .pointer P2]] w (fun v w' => v = .bool (decide (¬ allIn lo hi xs)) ∧ w' = w) := by
  refine Ret.of_cd Try.func149 rfl Try.ntmps149 rfl (post1 rfl) ?_
  refine Cd.seq ?_
  refine Cd.region ?_
  refine Ops.mv_bool rfl rfl rfl ?_
  refine Ops.nil ?_
  refine thenQ_n ?_
  refine Cd.seq ?_
  refine Cd.region ?_
  refine Ops.mv_sl rfl rfl rfl ?_
  refine Ops.mv_fn rfl rfl rfl ?_
  -- stop: CALL slices.IndexFunc[[]int64,int64](t5, t6) -> 7
  refine Ops.call (IndexFunc_c A n c xs lo hi P1 P2 _ hR hn h1 h2) rfl rfl rfl ?_
  rintro _ w ⟨⟨i, rfl, hi'⟩, rfl⟩
  refine Ops.geq rfl rfl rfl ?_
  refine Ops.mv_bool rfl rfl rfl ?_
  refine Ops.nil ?_
  refine thenQ_n ?_
  refine Cd.ret ?_
  refine ret1_b rfl ?_
  -- stop: end
  exact ⟨congrArg Value.bool (decide_eq_decide.2 hi'), rfl⟩

theorem areWithin_c (A : Option Addr) (n c : Nat) (xs : List Int) (lo hi : Int) (w : World) (hR : RdI w A n xs) (hn : n ≤ 9223372036854775807) :
    Ret Try.prog 101 [.slice A n c, .int .i64 lo, .int .i64 hi] w (fun v w' => v = .bool (decide (allIn lo hi xs)) ∧ St w w' []) := by
  refine Ret.of_cd Try.func101 rfl Try.ntmps101 rfl (post1 rfl) ?_
  refine Cd.seq ?_
  refine Cd.region ?_
  -- stop: BOX 2 t1=low -> 4
  refine Ops.box (v := .int .i64 lo) (St.refl w) rfl rfl (by show (1 : Nat) ≤ maxLen; simp [maxLen]) ?_
  intro P1 w1 hS1
  have hS1 : St w w1 [Bx 2 1 P1 [.int .i64 lo]] := hS1
  refine Ops.box (v := .int .i64 hi) hS1 rfl rfl (by show (1 : Nat) ≤ maxLen; simp [maxLen]) ?_
  intro P2 w2 hS2
  have hS2 : St w w2 [Bx 2 1 P2 [.int .i64 hi], Bx 2 1 P1 [.int .i64 lo]] := hS2
  refine Ops.mv_bool rfl rfl rfl ?_
  refine Ops.nil ?_
  refine thenQ_n ?_
  refine Cd.seq ?_
  refine Cd.region ?_
  refine Ops.mv_sl rfl rfl rfl ?_
  -- stop: MAKEFUNC impl.areWithin$1 [] [t4=low, t5=high] -> 8
  refine Ops.fn2 rfl rfl rfl ?_
  skip
  -- stop: CALL slices.ContainsFunc[[]int64,int64](t7, t8) -> 9
  refine Ops.call (ContainsFunc_c A n c xs lo hi P1 P2 _ (hS2.oldI hR) hn (Rd.one (hS2.rd 1 rfl)) (Rd.one (hS2.rd 0 rfl))) rfl rfl rfl ?_
  rintro _ w2 ⟨rfl, rfl⟩
  first | refine Ops.not_p rfl rfl ?_ | refine Ops.not rfl rfl ?_
  refine Ops.mv_bool rfl rfl rfl ?_
  refine Ops.nil ?_
  refine thenQ_n ?_
  refine Cd.ret ?_
  refine ret1_b rfl ?_
  -- stop: end
  exact ⟨by simp, hS2.none⟩

/-- a word of n moves -/
def IsW (n : Nat) (ws : List Int) : Prop := allIn 0 ((n : Int) - 1) ws ∧ ws.length ≤ 64
instance (n : Nat) (ws : List Int) : Decidable (IsW n ws) := by unfold IsW; exact inferInstance

def lowK (xss : List (List Int)) (ws : List Int) : Int := if ¬ Grph xss then 1 else if ¬ IsW xss.length ws then 2 else 0
def lowL (xss : List (List Int)) (ws : List Int) : List Int := if Grph xss ∧ IsW xss.length ws then wordL xss ws else []

end Go.Proofs.Ytgobjpcankaicaa.Vc
/-
  The library's IndexFunc and DeleteFunc over a row of structs of one slice, walked for any predicate; the rule of 'clear'. Conditions: the predicate's contract.
-/
namespace Go.Proofs.Ytgobjpcankaicaa.Vc
open Go.RowKit
section
variable {P : Program} {N : Nat} {ops : Array Oper} {K : Env → World → Prop} {rest : List Oper} {e : Env} {w0 w : World} {ks : List Ck} {d : Nat} {ty : TypeId} {pos : String} {af : Array Edge}
theorem setL_take : ∀ (cs vs : List Value) (o m : Nat), m ≤ o → (setL vs o cs).take m = vs.take m
  | [], _, _, _, _ => rfl
  | c :: r, vs, o, m, h => by
    show (setL (vs.set o c) (o + 1) r).take m = _
    rw [setL_take r _ _ _ (by omega), List.take_set_of_le h]
theorem isM_setL : ∀ {vs : List Value} (o : Nat) (cs : List Value), isM vs = false → (∀ u ∈ cs, u.oneCell' = true) → isM (setL vs o cs) = false
  | _, _, [], h, _ => h
  | vs, o, c :: r, h, hc => isM_setL (o + 1) r (isM_set o h (hc c (by simp))) fun u hu => hc u (by simp [hu])
/-- the places behind some are cleared, and given up -/
theorem Ops.clr {t el : TypeId} {z z0 : Value} {b : Nat} [Und P t (.slice el)] [Inf P el z 1 b] {x : Operand} (i l : Nat) {k : Ck} {n' c' : Nat} (hS : St w0 w ks) (hk : ks[i]? = some k) (hl : l < k.n) (hn' : n' = k.n - l) (hx : ev e x = .slice (cutAt k.A k.c l) n' c') (hz : z.cells = #[z0]) (h1 : z0.oneCell' = true)
    (hK : ∀ w', St w0 w' (ks.set i { k with n := l, vs := k.vs.take l }) → Ops P N ops K rest e w') (hM : isM k.vs = false := by first | rfl | exact isM_I _ | exact isM_B _ | exact isM_R _) :
    Ops P N ops K (⟨none, .call ⟨.builtin .clear, #[x], #[t]⟩, ty, pos, af, none⟩ :: rest) e w := by
  obtain ⟨inf, hi, hz0, hs, hby⟩ := Inf.get P el
  obtain ⟨hvl, hnc, hcm, -⟩ := hS.getC hk hM
  have hlt := (List.getElem?_eq_some_iff.1 hk).1
  obtain ⟨p, hp, _⟩ := (hS.rd i hk) l hl
  have hcut : cutAt k.A k.c l = some p := by unfold cutAt; rw [if_neg (by omega)]; exact hp
  obtain ⟨w', hrun, hS'⟩ := run_store_list (P := P) (k := k) i (List.replicate (k.n - l) z0) ks k.vs w l p hS hk hp (by simp; omega) (fun u hu => by rw [List.eq_of_mem_replicate hu]; exact h1) l p hp (by omega) (by omega)
  have hS2 := hS'.shrink i (k := { k with vs := setL k.vs l (List.replicate (k.n - l) z0) }) (by rw [List.getElem?_set]; simp [hlt]) l (by show l ≤ k.n; omega) (isM_setL _ _ hM (fun u hu => by rw [List.eq_of_mem_replicate hu]; exact h1))
  rw [List.set_set] at hS2
  have e1 : ({ ({ k with vs := setL k.vs l (List.replicate (k.n - l) z0) } : Ck) with n := l, vs := ({ k with vs := setL k.vs l (List.replicate (k.n - l) z0) } : Ck).vs.take l } : Ck) = { k with n := l, vs := k.vs.take l } := by
    show ({ k with n := l, vs := (setL k.vs l (List.replicate (k.n - l) z0)).take l } : Ck) = _
    rw [setL_take _ _ _ _ (Nat.le_refl _)]
  rw [e1] at hS2
  have hzc : (Builtin.zeroCells z.cells (k.n - l)).toList = List.replicate (k.n - l) z0 := by
    rw [hz]
    simp [Builtin.zeroCells]
    apply List.ext_getElem
    · simp
    · intro i h1 h2
      simp [Nat.mod_one]
  rw [Nat.sub_self] at hrun
  have hm : k.n - l = (k.n - l - 1) + 1 := by omega
  generalize k.n - l - 1 = m at hm
  have hv : ∀ w, (zeroValue el).run P w = .ok z w := fun w => by simp [zeroValue, typeInfo, hi, hz0]
  rw [hn', hcut, hm] at hx
  rw [hm] at hzc hrun
  refine .val0 (v := .tuple #[]) (w' := w') ?_ (hK _ hS2)
  simp [execOp, resolve, invoke, builtin, hx, Builtin.clear_, run_underlying (Und.out (P := P) (t := t)), hv, hzc, hrun]
end

/-- the first place at which a predicate holds -/
theorem indexM0_c (A : Option Addr) (n c : Nat) (ss : List SlV) (G : FuncId) [hF : Fnc Try.prog G] (pd : Nat → Bool) (w : World) (hR : RdR w A n ss) (hn : n ≤ 4000000000000)
    (hcall : ∀ (w' : World) (j : Nat), Below w.heap.size w w' → j < n → Ret Try.prog G [.agg #[(rg ss (j : Int)).v]] w' (fun v w'' => v = .bool (pd j) ∧ St w' w'' [])) :
    Ret Try.prog 118 [.slice A n c, .func (.func G) #[] #[]] w (fun v w' => (∃ i : Int, v = .int .i64 i ∧ ((i = -1 ∧ ∀ j, j < n → pd j = false) ∨ ∃ k : Nat, k < n ∧ i = k ∧ pd k = true ∧ ∀ j, j < k → pd j = false)) ∧ St w w' []) := by
  refine Ret.of_cd Try.func118 rfl Try.ntmps118 rfl (post1 rfl) ?_
  refine Cd.seq ?_
  refine Cd.region ?_
  refine Ops.mv_int rfl rfl rfl ?_
  refine Ops.nil ?_
  refine thenQ_n ?_
  refine Cd.seq ?_
  refine Cd.seq ?_
  refine Cd.region ?_
  refine Ops.mv_sl rfl rfl rfl ?_
  refine Ops.len rfl rfl ?_
  refine Ops.mv_int rfl rfl rfl ?_
  refine Ops.nil ?_
  refine thenQ_n ?_
  refine Cd.block ?_
  -- stop: loop
  refine Cd.loop (α := Nat) (fun k => [(0, .slice A n c), (1, .func (.func G) #[] #[]), (7, .int .i64 (n : Int)), (8, .int .i64 (k : Int))]) (fun k w' => St w w' [] ∧ k ≤ n ∧ ∀ j, j < k → pd j = false) (fun k => n - k) 0 ⟨rfl, rfl, rfl, rfl, trivial⟩ ⟨St.refl w, Nat.zero_le _, fun j hj => by omega⟩ ?_
  rintro k e w1 ⟨hS, hk, hK⟩
  refine Cd.seq ?_
  refine Cd.region ?_
  refine Ops.lss rfl rfl rfl ?_
  refine Ops.nil ?_
  refine thenQ_n ?_
  refine Cd.seq ?_
  -- stop: cond
  refine Cd.cond_p _ rfl (fun h3 => ?_) (fun h3 => ?_)
  · have hk' : k < n := by omega
    have hR1 := hR.later hS.below
    refine Cd.skip ?_
    refine thenQ_n ?_
    refine Cd.seq ?_
    refine Cd.block ?_
    refine Cd.seq ?_
    refine Cd.region ?_
    refine Ops.mv_int rfl rfl rfl ?_
    refine Ops.mv_int rfl rfl rfl ?_
    refine Ops.nil ?_
    refine thenQ_n ?_
    refine Cd.seq ?_
    refine Cd.region ?_
    refine Ops.mv_fn rfl rfl rfl ?_
    refine Ops.mv_sl rfl rfl rfl ?_
    refine Ops.mv_int rfl rfl rfl ?_
    -- stop: INDEXADDR 51 t12 t13 -> 14
    refine Ops.idx hR1.2 rfl rfl rfl (by omega) (by omega) ?_
    refine Ops.ld_ag hR1 rfl (by omega) rfl ?_
    refine Ops.call (hcall w1 k hS.below hk') rfl rfl rfl ?_
    rintro _ w2 ⟨rfl, hst⟩
    have hS2 := hS.later hst.below
    rw [show pd k = decide (pd k = true) by simp]
    refine Ops.nil ?_
    refine thenQ_n ?_
    -- stop: cond
    refine Cd.cond_p _ rfl (fun h4 => ?_) (fun h4 => ?_)
    · refine Cd.seq ?_
      refine Cd.region ?_
      refine Ops.mv_int rfl rfl rfl ?_
      refine Ops.mv_int rfl rfl rfl ?_
      refine Ops.nil ?_
      refine thenQ_n ?_
      refine Cd.ret ?_
      refine blockQ_r ?_
      refine thenQ_r ?_
      refine thenQ_r ?_
      refine blockQ_r ?_
      refine thenQ_r ?_
      refine ret1_i rfl ?_
      -- stop: end
      exact ⟨⟨(k : Int), rfl, .inr ⟨k, hk', rfl, h4, hK⟩⟩, hS2⟩
    · refine Cd.skip ?_
      refine blockQ_n ?_
      refine thenQ_n ?_
      refine Cd.region ?_
      refine Ops.add rfl rfl rfl (by omega) ?_
      refine Ops.mv_int rfl rfl rfl ?_
      refine Ops.nil ?_
      refine thenQ_n ?_
      -- stop: round
      refine ⟨k + 1, by show n - (k + 1) < n - k; omega, ⟨rfl, rfl, rfl, rfl, trivial⟩, hS2, by omega, fun j hj => ?_⟩
      by_cases ej : j = k
      · subst ej; simpa using h4
      · exact hK j (by omega)
  · refine Cd.exit ?_
    refine thenQ_x ?_
    refine thenQ_x ?_
    refine blockQ_x ?_
    refine thenQ_n ?_
    refine Cd.seq ?_
    refine Cd.region ?_
    refine Ops.mv_int rfl rfl rfl ?_
    refine Ops.nil ?_
    refine thenQ_n ?_
    refine Cd.ret ?_
    refine ret1_i rfl ?_
    -- stop: end
    exact ⟨⟨-1, rfl, .inl ⟨rfl, fun j hj => hK j (by omega)⟩⟩, hS⟩

def keptI (pd : Nat → Bool) (j : Nat) : List Nat := (List.range j).filter fun x => !pd x
theorem keptI_succ (pd : Nat → Bool) (j : Nat) : keptI pd (j + 1) = if pd j = true then keptI pd j else keptI pd j ++ [j] := by
  unfold keptI
  rw [List.range_succ, List.filter_append]
  by_cases h : pd j = true
  · rw [if_pos h]; simp [h]
  · rw [if_neg h]; simp [h]
theorem keptI_all {pd : Nat → Bool} : ∀ {j : Nat}, (∀ x, x < j → pd x = false) → keptI pd j = List.range j := fun {j} h => by
  unfold keptI
  rw [List.filter_eq_self]
  intro x hx
  rw [h x (List.mem_range.1 hx)]; rfl
theorem sv_range {ss : List SlV} {n : Nat} (h : ss.length = n) : (List.range n).map (fun j => ss.getD j slNil) = ss := by
  subst h
  apply List.ext_getElem
  · simp
  · intro i h1 h2
    simp [List.getD_eq_getElem?_getD, h2]

/-- what a predicate holds at is struck -/
theorem deleteM_c {w0 w : World} {ks : List Ck} (i : Nat) {t : TypeId} {A : Option Addr} {n c : Nat} {ss : List SlV} (hS : St w0 w ks) (hk : ks[i]? = some (CkR t A n c ss)) (hn : n ≤ 4000000000000) (G : FuncId) [hF : Fnc Try.prog G] (pd : Nat → Bool)
    (hcall : ∀ (w' : World) (q : List Nat), q.length = n → St w0 w' (ks.set i (CkR t A n c (q.map fun j => ss.getD j slNil))) → ∀ a, a < n → Ret Try.prog G [.agg #[(ss.getD a slNil).v]] w' (fun v w'' => v = .bool (pd a) ∧ St w' w'' [])) :
    Ret Try.prog 74 [.slice A n c, .func (.func G) #[] #[]] w (fun v w' => v = .slice A (keptI pd n).length c ∧ St w0 w' (ks.set i (CkR t A (keptI pd n).length c ((keptI pd n).map fun j => ss.getD j slNil)))) := by
  have hil : i < ks.length := (List.getElem?_eq_some_iff.1 hk).1
  obtain ⟨h1, h2, h3, -⟩ := hS.getC hk (isM_R _)
  have hsl : ss.length = n := by have : (ss.map SlV.v).length = n := h1; simpa using this
  have h2 : n ≤ c := h2
  have h3 : c ≤ maxLen := h3
  have hid : ks.set i (CkR t A n c ((List.range n).map fun j => ss.getD j slNil)) = ks := by rw [sv_range hsl, set_id hk]
  have hR := hS.rdR i hk
  have hSi : ∀ {w' : World}, St w0 w' ks → St w0 w' (ks.set i (CkR t A n c ((List.range n).map fun j => ss.getD j slNil))) := fun h => by rw [hid]; exact h
  have get : ∀ l, (ks.set i l)[i]? = some l := fun l => by simp [hil]
  have hrg : ∀ (q : List Nat) (j : Nat) (x : Nat), q[j]? = some x → rg (q.map fun j => ss.getD j slNil) (j : Int) = ss.getD x slNil := fun q j x h => by
    simp [rg, List.getD_eq_getElem?_getD, h]
  refine Ret.of_cd Try.func74 rfl Try.ntmps74 rfl (post1 rfl) ?_
  refine Cd.seq ?_
  refine Cd.region ?_
  refine Ops.mv_sl rfl rfl rfl ?_
  refine Ops.nil ?_
  refine thenQ_n ?_
  refine Cd.seq ?_
  refine Cd.region ?_
  refine Ops.mv_sl rfl rfl rfl ?_
  refine Ops.mv_fn rfl rfl rfl ?_
  -- stop: CALL impl.Maniplex](t8, t9) -> 10
  refine Ops.call (indexM0_c A n c ss G pd _ hR hn (fun w' j hb hj => hcall w' (List.range n) (by simp) (hSi (hS.later hb)) j hj)) rfl rfl rfl ?_
  rintro _ w1 ⟨⟨i0, rfl, hi0⟩, hst1⟩
  have hS1 := hS.later hst1.below
  refine Ops.mv_int rfl rfl rfl ?_
  refine Ops.nil ?_
  refine thenQ_n ?_
  refine Cd.seq ?_
  refine Cd.seq ?_
  refine Cd.region ?_
  refine Ops.mv_int rfl rfl rfl ?_
  refine Ops.eql rfl rfl rfl ?_
  refine Ops.nil ?_
  refine thenQ_n ?_
  -- stop: cond
  refine Cd.cond_p _ rfl (fun h5 => ?_) (fun h5 => ?_)
  · have hall : ∀ j, j < n → pd j = false := by
      rcases hi0 with ⟨_, h⟩ | ⟨k, _, e, _⟩
      · exact h
      · omega
    refine Cd.seq ?_
    refine Cd.region ?_
    refine Ops.mv_sl rfl rfl rfl ?_
    refine Ops.mv_sl rfl rfl rfl ?_
    refine Ops.nil ?_
    refine thenQ_n ?_
    refine Cd.ret ?_
    refine thenQ_r ?_
    refine ret1_s rfl ?_
    -- stop: end
    rw [keptI_all hall, List.length_range, hid]
    exact ⟨rfl, hS1⟩
  · obtain ⟨k0, hk0, rfl, hpk, hpl⟩ := hi0.resolve_left (fun h => h5 h.1)
    refine Cd.skip ?_
    refine thenQ_n ?_
    refine Cd.seq ?_
    refine Cd.seq ?_
    refine Cd.region ?_
    refine Ops.mv_int rfl rfl rfl ?_
    refine Ops.add rfl rfl rfl (by omega) ?_
    refine Ops.mv_int rfl rfl rfl ?_
    refine Ops.nil ?_
    refine thenQ_n ?_
    refine Cd.block ?_
    -- stop: loop
    refine Cd.loop (α := Nat × Nat × List Nat) (fun z => [(0, .slice A n c), (1, .func (.func G) #[] #[]), (5, .int .i64 (z.1 : Int)), (6, .int .i64 (z.2.1 : Int))])
      (fun z w' => St w0 w' (ks.set i (CkR t A n c (z.2.2.map fun j => ss.getD j slNil))) ∧ z.2.2.length = n ∧ z.1 < z.2.1 ∧ z.2.1 ≤ n ∧ z.1 = (keptI pd z.2.1).length ∧ z.2.2.take z.1 = keptI pd z.2.1 ∧ ∀ m, z.2.1 ≤ m → m < n → z.2.2[m]? = some m)
      (fun z => n - z.2.1) (k0, k0 + 1, List.range n) ⟨rfl, rfl, rfl, by show Value.int .i64 _ = .int .i64 _; congr 1, trivial⟩ ⟨hSi hS1, by simp, Nat.lt_succ_self _, hk0, by
        show k0 = (keptI pd (k0 + 1)).length
        rw [keptI_succ, if_pos hpk, keptI_all hpl, List.length_range], by
        show (List.range n).take k0 = keptI pd (k0 + 1)
        rw [keptI_succ, if_pos hpk, keptI_all hpl, List.take_range, Nat.min_eq_left (by omega)], fun m hm hm' => by simp [hm']⟩ ?_
    rintro ⟨a, j, q⟩ e w2 ⟨hS2, hql, haj, hjn, hal, hqt, hqr⟩
    dsimp only at hS2 hql haj hjn hal hqt hqr ⊢
    refine Cd.seq ?_
    refine Cd.seq ?_
    refine Cd.region ?_
    refine Ops.mv_int rfl rfl rfl ?_
    refine Ops.mv_sl rfl rfl rfl ?_
    refine Ops.len rfl rfl ?_
    refine Ops.lss rfl rfl rfl ?_
    refine Ops.nil ?_
    refine thenQ_n ?_
    -- stop: cond
    refine Cd.cond_p _ rfl (fun h6 => ?_) (fun h6 => ?_)
    · have hj' : j < n := by omega
      have hR2 := hS2.rdR i (get _)
      have hqj := hqr j (Nat.le_refl _) hj'
      refine Cd.skip ?_
      refine thenQ_n ?_
      refine Cd.seq ?_
      refine Cd.block ?_
      refine Cd.seq ?_
      refine Cd.region ?_
      refine Ops.mv_sl rfl rfl rfl ?_
      refine Ops.mv_int rfl rfl rfl ?_
      -- stop: INDEXADDR 51 t22 t23 -> 24
      refine Ops.idx hR2.2 rfl rfl rfl (by omega) (by omega) ?_
      refine Ops.ld_ag hR2 rfl (by omega) rfl ?_
      rw [hrg q j j hqj]
      refine Ops.new1 hS2 rfl ?_
      intro A7 w3 hS3
      refine Ops.st_agg 1 0 hS3 rfl rfl rfl rfl rfl rfl rfl ?_
      intro w4 hS4
      have hS4 : St w0 w4 (Bx 24 1 A7 [.slice (ss.getD j slNil).a (ss.getD j slNil).n (ss.getD j slNil).c] :: ks.set i (CkR t A n c (q.map fun j => ss.getD j slNil))) := hS4
      refine Ops.nil ?_
      refine thenQ_n ?_
      refine Cd.seq ?_
      refine Cd.region ?_
      refine Ops.mv_fn rfl rfl rfl ?_
      -- stop: LOAD 24 t7=v -> 27
      refine Ops.ld_agg 0 (hS4.rd 0 rfl) rfl rfl rfl ?_
      refine Ops.call (hcall w4 q hql hS4.tail j hj') rfl rfl rfl ?_
      rintro _ w5 ⟨rfl, hst5⟩
      have hS5 := hS4.later hst5.below
      rw [show pd j = decide (pd j = true) by simp]
      first | refine Ops.not_p rfl rfl ?_ | refine Ops.not rfl rfl ?_
      refine Ops.nil ?_
      refine thenQ_n ?_
      -- stop: cond
      refine Cd.cond_p _ rfl (fun h7 => ?_) (fun h7 => ?_)
      · have hpj : ¬ pd j = true := h7
        refine Cd.seq ?_
        refine Cd.region ?_
        refine Ops.mv_sl rfl rfl rfl ?_
        refine Ops.mv_int rfl rfl rfl ?_
        -- stop: LOAD 24 t7=v -> 32
        refine Ops.ld_agg 0 (hS5.rd 0 rfl) rfl rfl rfl ?_
        refine Ops.idx (hS5.tail.rdR i (get _)).2 rfl rfl rfl (by omega) (by omega) ?_
        refine Ops.st_aggf (o := a) 1 (i + 1) hS5 (by show (ks.set i _)[i]? = _; exact get _) rfl rfl rfl rfl rfl (by rw [Nat.ble_eq]; show a + 1 ≤ n; omega) ?_
        intro w6 hS6
        have hS6 := hS6.tail
        refine Ops.nil ?_
        refine thenQ_n ?_
        refine Cd.region ?_
        refine Ops.mv_int rfl rfl rfl ?_
        refine Ops.add rfl rfl rfl (by omega) ?_
        refine Ops.mv_int rfl rfl rfl ?_
        refine Ops.nil ?_
        refine blockQ_n ?_
        refine thenQ_n ?_
        refine Cd.region ?_
        refine Ops.mv_int rfl rfl rfl ?_
        refine Ops.add rfl rfl rfl (by omega) ?_
        refine Ops.mv_int rfl rfl rfl ?_
        refine Ops.nil ?_
        refine thenQ_n ?_
        -- stop: round
        refine ⟨(a + 1, j + 1, q.set a j), by show n - (j + 1) < n - j; omega, ⟨rfl, rfl, rfl, rfl, trivial⟩, ?_, by show (q.set a j).length = n; rw [List.length_set]; exact hql, by show a + 1 < j + 1; omega, hj', by show a + 1 = (keptI pd (j + 1)).length; rw [keptI_succ, if_neg hpj, List.length_append, ← hal]; rfl, ?_, fun m hm hm' => ?_⟩
        · show St w0 w6 (ks.set i (CkR t A n c ((q.set a j).map fun j => ss.getD j slNil)))
          have e9 : (ks.set i (CkR t A n c (q.map fun j => ss.getD j slNil))).set i { CkR t A n c (q.map fun j => ss.getD j slNil) with vs := setL (CkR t A n c (q.map fun j => ss.getD j slNil)).vs a [.slice (ss.getD j slNil).a (ss.getD j slNil).n (ss.getD j slNil).c] } = ks.set i (CkR t A n c ((q.set a j).map fun j => ss.getD j slNil)) := by
            rw [List.set_set]
            congr 1
            show ({ CkR t A n c (q.map fun j => ss.getD j slNil) with vs := ((q.map fun j => ss.getD j slNil).map SlV.v).set a (ss.getD j slNil).v } : Ck) = _
            simp [CkR, List.map_set]
          rw [← e9]
          exact hS6
        · show (q.set a j).take (a + 1) = keptI pd (j + 1)
          rw [keptI_succ, if_neg hpj, ← hqt, List.take_succ_eq_append_getElem (by rw [List.length_set]; omega), List.take_set_of_le (Nat.le_refl _), List.getElem_set_self]
        · show (q.set a j)[m]? = some m
          have hm : j + 1 ≤ m := hm
          rw [List.getElem?_set, if_neg (by omega)]
          exact hqr m (by omega) hm'
      · have hpj : pd j = true := Classical.not_not.1 h7
        refine Cd.skip ?_
        refine blockQ_n ?_
        refine thenQ_n ?_
        refine Cd.region ?_
        refine Ops.mv_int rfl rfl rfl ?_
        refine Ops.add rfl rfl rfl (by omega) ?_
        refine Ops.mv_int rfl rfl rfl ?_
        refine Ops.nil ?_
        refine thenQ_n ?_
        -- stop: round
        exact ⟨(a, j + 1, q), by show n - (j + 1) < n - j; omega, ⟨rfl, rfl, rfl, rfl, trivial⟩, hS5.tail, hql, by show a < j + 1; omega, hj', by show a = (keptI pd (j + 1)).length; rw [keptI_succ, if_pos hpj]; exact hal, by show q.take a = keptI pd (j + 1); rw [keptI_succ, if_pos hpj]; exact hqt, fun m hm hm' => hqr m (by have hm : j + 1 ≤ m := hm; omega) hm'⟩
    · have hje : j = n := by omega
      subst hje
      refine Cd.exit ?_
      refine thenQ_x ?_
      refine thenQ_x ?_
      refine blockQ_x ?_
      refine thenQ_n ?_
      refine Cd.seq ?_
      refine Cd.region ?_
      refine Ops.mv_sl rfl rfl rfl ?_
      refine Ops.mv_int rfl rfl rfl ?_
      -- stop: SLICE 51 t36 some t37 none none -> 38
      refine Ops.cut_l (A := A) (n := j) (c := c) (l := (a : Int)) rfl rfl rfl (by omega) ?_
      skip
      -- stop: BUILTIN clear(t38) -> None
      refine Ops.clr i a hS2 (get _) (show a < j by omega) (by show j - _ = j - a; omega) rfl rfl rfl ?_
      intro w3 hS3
      rw [List.set_set] at hS3
      refine Ops.nil ?_
      refine thenQ_n ?_
      refine Cd.seq ?_
      refine Cd.region ?_
      refine Ops.mv_sl rfl rfl rfl ?_
      refine Ops.mv_int rfl rfl rfl ?_
      -- stop: SLICE 51 t39 none some t40 none -> 41
      refine Ops.cut_h (A := A) (n := j) (c := c) (h := (a : Int)) rfl rfl rfl (by omega) ?_
      refine Ops.mv_sl rfl rfl rfl ?_
      refine Ops.nil ?_
      refine thenQ_n ?_
      refine Cd.ret ?_
      refine ret1_s rfl ?_
      -- stop: end
      rw [← hal]
      refine ⟨rfl, ?_⟩
      rw [← hqt]
      have e9 : ({ CkR t A j c (q.map fun j => ss.getD j slNil) with n := a, vs := (CkR t A j c (q.map fun j => ss.getD j slNil)).vs.take a } : Ck) = CkR t A a c ((q.take a).map fun j => ss.getD j slNil) := by simp [CkR, List.map_take]
      rw [← e9]
      exact hS3
end Go.Proofs.Ytgobjpcankaicaa.Vc
/-
  RegularManiplexes on both sides, and the walk of its law. Conditions: none.
-/
namespace Go.Proofs.Ytgobjpcankaicaa.Vc
open Go.RowKit

def regL (rank flags : Int) : List Mx := (lstI rank flags).filter fun L => decide (orbN flags.toNat L = 1)
theorem regL_mem {rank flags : Int} {L : Mx} (h : L ∈ regL rank flags) : L ∈ lstI rank flags := (List.mem_filter.1 h).1
theorem regL_len (rank flags : Int) : (regL rank flags).length ≤ 4000000000000 := Nat.le_trans (List.length_filter_le _ _) (lst_len rank flags)
def regV (F : Nat) (ms : List MatV) : List MatV := ms.filter fun m => decide (orbN F m.xss = 1)
theorem regV_xss (F : Nat) (ms : List MatV) : (regV F ms).map (·.xss) = (ms.map (·.xss)).filter fun L => decide (orbN F L = 1) := by
  unfold regV
  rw [List.filter_map]
  rfl
theorem regV_snoc {F : Nat} {ms : List MatV} {i : Nat} (hi : i < ms.length) : regV F (ms.take (i + 1)) = if orbN F (ms[i]).xss = 1 then regV F (ms.take i) ++ [ms[i]] else regV F (ms.take i) := by
  unfold regV
  rw [List.take_succ_eq_append_getElem hi, List.filter_append]
  by_cases h : orbN F (ms[i]).xss = 1
  · rw [if_pos h]; simp [h]
  · rw [if_neg h]; simp [h]
theorem St.smV2 {w0 w : World} {ks : List Ck} {ms : List MatV} {rank flags : Int} (h : St w0 w ks) (hs : (matsCk 33 2 ms).Sublist ks) (hL : ∀ m ∈ ms, m.xss ∈ lstI rank flags) (hok : ∀ m ∈ ms, m.ok) : ∀ m ∈ ms, SmV m := fun m hm => by
  have hl := lst_small (hL m hm)
  have ho := hok m hm
  unfold MatV.ok at ho
  exact ⟨h.rsLen ((MatV.sub_ hm).trans hs), ho, by rw [← ho]; exact hl.2.2.2.1, hl.2.2.2.2⟩

theorem specRegularManiplexes_c (rank flags : Int) (w : World) : Ret Try.prog 42 [.int .i64 rank, .int .i64 flags] w (AnsM (regL rank flags) (lstK rank flags) w) := by
  have hlst := lst_len rank flags
  refine Ret.of_cd Try.func42 rfl Try.ntmps42 rfl (post2 rfl) ?_
  refine Cd.seq ?_
  refine Cd.region ?_
  refine Ops.mv_sl rfl rfl rfl ?_
  refine Ops.mv_int rfl rfl rfl ?_
  refine Ops.nil ?_
  refine thenQ_n ?_
  refine Cd.seq ?_
  refine Cd.seq ?_
  refine Cd.region ?_
  refine Ops.mv_int rfl rfl rfl ?_
  refine Ops.mv_int rfl rfl rfl ?_
  -- stop: CALL spec.l19Code(t11, t12) -> 13
  refine Ops.call (l19Code_c rank flags _) rfl rfl rfl ?_
  rintro _ w ⟨rfl, rfl⟩
  refine Ops.mv_int rfl rfl rfl ?_
  refine Ops.nil ?_
  refine thenQ_n ?_
  refine Cd.seq ?_
  refine Cd.region ?_
  refine Ops.mv_int rfl rfl rfl ?_
  refine Ops.neq rfl rfl rfl ?_
  refine Ops.nil ?_
  refine thenQ_n ?_
  -- stop: cond
  refine Cd.cond_p _ rfl (fun h => ?_) (fun h => ?_)
  · have hs : ¬ Small rank flags := fun hs => h (by rw [if_pos hs])
    refine Cd.seq ?_
    refine Cd.region ?_
    refine Ops.mv_int rfl rfl rfl ?_
    refine Ops.mv_sl rfl rfl rfl ?_
    refine Ops.mv_int rfl rfl rfl ?_
    refine Ops.nil ?_
    refine thenQ_n ?_
    refine Cd.ret ?_
    refine thenQ_r ?_
    refine ret2_si rfl rfl ?_
    -- stop: end
    rw [if_neg hs, lstK, regL, lstI, if_neg hs, if_neg hs]
    exact AnsM.none (St.refl _)
  · have hs : Small rank flags := Classical.byContradiction fun hs => h (by rw [if_neg hs]; decide)
    obtain ⟨n, rfl⟩ : ∃ n : Nat, rank = n := ⟨rank.toNat, by have := hs.1; omega⟩
    obtain ⟨F, rfl⟩ : ∃ F : Nat, flags = F := ⟨flags.toNat, by have := hs.2; omega⟩
    have hs1 := hs.1
    have hs2 := hs.2
    have hlI : lstI (n : Int) (F : Int) = listL n F := by rw [lstI, if_pos hs, Int.toNat_natCast, Int.toNat_natCast]
    refine Cd.skip ?_
    refine thenQ_n ?_
    refine Cd.seq ?_
    refine Cd.region ?_
    refine Ops.mv_int rfl rfl rfl ?_
    refine Ops.mv_int rfl rfl rfl ?_
    -- stop: CALL spec.l19List(t18, t19) -> 20
    refine Ops.call (l19List_c n F (by omega) (by omega) _) rfl rfl rfl ?_
    rintro _ w2 ⟨A, c, A2, c2, ms, rfl, hL, hok, hS⟩
    have hml : ms.length = (lstI (n : Int) (F : Int)).length := by rw [hlI, ← hL, List.length_map]
    refine Ops.mv_tup rfl rfl rfl ?_
    refine Ops.extract rfl rfl rfl ?_
    refine Ops.extract rfl rfl rfl ?_
    refine Ops.mv_sl rfl rfl rfl ?_
    refine Ops.mv_sl rfl rfl rfl ?_
    refine Ops.nil ?_
    refine thenQ_n ?_
    refine Cd.seq ?_
    refine Cd.region ?_
    -- stop: BUILDSLICE 51 0 [] -> 23
    refine Ops.bs0 hS rfl ?_
    intro A9 w3 hS3
    refine Ops.mv_sl rfl rfl rfl ?_
    refine Ops.nil ?_
    refine thenQ_n ?_
    refine Cd.seq ?_
    refine Cd.seq ?_
    refine Cd.region ?_
    refine Ops.mv_int rfl rfl rfl ?_
    refine Ops.nil ?_
    refine thenQ_n ?_
    refine Cd.block ?_
    -- stop: loop
    refine Cd.loop (α := Nat × (Option Addr × Nat)) (fun s => [(7, .slice A ms.length c), (8, .slice A2 ms.length c2), (9, .slice s.2.1 (regV F (ms.take s.1)).length s.2.2), (10, .int .i64 (s.1 : Int))]) (fun s w' => St w w' (CkR 24 s.2.1 (regV F (ms.take s.1)).length s.2.2 ((regV F (ms.take s.1)).map (·.top)) :: CkR 24 A ms.length c (ms.map (·.top)) :: CkI 2 A2 ms.length c2 (ms.map (orbI F)) :: matsCk 33 2 ms) ∧ s.1 ≤ ms.length) (fun s => ms.length - s.1) (0, (A9, 0)) ⟨rfl, rfl, rfl, rfl, trivial⟩ ⟨hS3, Nat.zero_le _⟩ ?_
    rintro ⟨i, ⟨B, cB⟩⟩ e w4 ⟨hS4, hi⟩
    dsimp only at hS4 hi ⊢
    have houts : (regV F (ms.take i)).length ≤ i := by
      have h2 := List.length_filter_le (fun m : MatV => decide (orbN F m.xss = 1)) (ms.take i)
      have h3 : (regV F (ms.take i)).length ≤ (ms.take i).length := h2
      rw [List.length_take] at h3
      omega
    refine Cd.seq ?_
    refine Cd.seq ?_
    refine Cd.region ?_
    refine Ops.mv_int rfl rfl rfl ?_
    refine Ops.mv_sl rfl rfl rfl ?_
    refine Ops.len rfl rfl ?_
    refine Ops.lss rfl rfl rfl ?_
    refine Ops.nil ?_
    refine thenQ_n ?_
    -- stop: cond
    refine Cd.cond_p _ rfl (fun h1 => ?_) (fun h1 => ?_)
    · have hi' : i < ms.length := by omega
      have hsn := regV_snoc (F := F) hi'
      have hO2 := hS4.rdI 2 rfl
      have hR := hS4.rdR 1 rfl
      have ht := top_at hi'
      have hgo : gi (ms.map (orbI F)) (i : Int) = (orbN F ms[i].xss : Int) := by rw [gi_mem (by simpa using hi'), List.getElem_map]; rfl
      refine Cd.skip ?_
      refine thenQ_n ?_
      refine Cd.seq ?_
      refine Cd.block ?_
      refine Cd.seq ?_
      refine Cd.region ?_
      refine Ops.mv_sl rfl rfl rfl ?_
      refine Ops.mv_int rfl rfl rfl ?_
      -- stop: INDEXADDR 33 t30 t31 -> 32
      refine Ops.idx hO2.2 rfl rfl rfl (by omega) (by omega) ?_
      refine Ops.ld_int hO2 rfl (by omega) rfl rfl ?_
      rw [hgo]
      refine Ops.eql rfl rfl rfl ?_
      refine Ops.nil ?_
      refine thenQ_n ?_
      -- stop: cond
      refine Cd.cond_p _ rfl (fun h2 => ?_) (fun h2 => ?_)
      · rw [if_pos (by omega)] at hsn
        have e1 : (regV F (ms.take i) ++ [ms[i]]).length = (regV F (ms.take i)).length + 1 := by simp
        refine Cd.region ?_
        refine Ops.mv_sl rfl rfl rfl ?_
        refine Ops.mv_sl rfl rfl rfl ?_
        refine Ops.mv_int rfl rfl rfl ?_
        -- stop: INDEXADDR 51 t36 t37 -> 38
        refine Ops.idx hR.2 rfl rfl rfl (by omega) (by omega) ?_
        refine Ops.ld_ag hR rfl (by omega) rfl ?_
        rw [ht]
        refine Ops.bs1A hS4 rfl rfl rfl ?_
        intro A10 w5 hS5
        refine Ops.appR 1 hS5 rfl (hS5.rdR 0 rfl) rfl rfl rfl (by omega) (by omega) rfl ?_
        intro A11 c11 w6 hS6
        have hS6 : St w w6 (CkR 24 A11 ((regV F (ms.take i)).length + 1) c11 ((regV F (ms.take i)).map (·.top) ++ [ms[i].top]) :: CkR 24 A ms.length c (ms.map (·.top)) :: CkI 2 A2 ms.length c2 (ms.map (orbI F)) :: matsCk 33 2 ms) := hS6.tail
        refine Ops.mv_sl rfl rfl rfl ?_
        refine Ops.nil ?_
        refine blockQ_n ?_
        refine thenQ_n ?_
        refine Cd.region ?_
        refine Ops.mv_int rfl rfl rfl ?_
        refine Ops.add rfl rfl rfl (by omega) ?_
        refine Ops.mv_int rfl rfl rfl ?_
        refine Ops.nil ?_
        refine thenQ_n ?_
        -- stop: round
        refine ⟨(i + 1, (A11, c11)), by show ms.length - (i + 1) < ms.length - i; omega, ⟨rfl, rfl, by show Value.slice _ _ _ = .slice _ (regV F (ms.take (i + 1))).length _; rw [hsn, e1], rfl, trivial⟩, ?_, hi'⟩
        show St w w6 (CkR _ A11 (regV F (ms.take (i + 1))).length c11 ((regV F (ms.take (i + 1))).map (·.top)) :: _)
        rw [hsn, e1, List.map_append]
        exact hS6
      · rw [if_neg (by omega)] at hsn
        refine Cd.skip ?_
        refine blockQ_n ?_
        refine thenQ_n ?_
        refine Cd.region ?_
        refine Ops.mv_int rfl rfl rfl ?_
        refine Ops.add rfl rfl rfl (by omega) ?_
        refine Ops.mv_int rfl rfl rfl ?_
        refine Ops.nil ?_
        refine thenQ_n ?_
        -- stop: round
        refine ⟨(i + 1, (B, cB)), by show ms.length - (i + 1) < ms.length - i; omega, ⟨rfl, rfl, by show Value.slice _ _ _ = .slice _ (regV F (ms.take (i + 1))).length _; rw [hsn], rfl, trivial⟩, ?_, hi'⟩
        show St w w4 (CkR _ B (regV F (ms.take (i + 1))).length cB ((regV F (ms.take (i + 1))).map (·.top)) :: _)
        rw [hsn]
        exact hS4
    · refine Cd.exit ?_
      refine thenQ_x ?_
      refine thenQ_x ?_
      refine blockQ_x ?_
      refine thenQ_n ?_
      refine Cd.seq ?_
      refine Cd.region ?_
      refine Ops.mv_sl rfl rfl rfl ?_
      refine Ops.mv_sl rfl rfl rfl ?_
      refine Ops.mv_int rfl rfl rfl ?_
      refine Ops.nil ?_
      refine thenQ_n ?_
      refine Cd.ret ?_
      refine ret2_si rfl rfl ?_
      -- stop: end
      have hie : i = ms.length := by omega
      rw [hie, List.take_of_length_le (Nat.le_refl _)] at hS4 ⊢
      have e1 : regL (n : Int) (F : Int) = (regV F ms).map (·.xss) := by rw [regL, hlI, ← hL, regV_xss, Int.toNat_natCast]
      have e2 : lstK (n : Int) (F : Int) = 0 := by rw [lstK, if_pos hs]
      rw [e1, e2]
      exact ⟨B, cB, regV F ms, rfl, rfl, fun m hm => hok m (List.mem_filter.1 hm).1, hS4.sub (List.Sublist.cons_cons _ (((matsCk_sub List.filter_sublist).trans (List.sublist_cons_self _ _)).trans (List.sublist_cons_self _ _)))⟩

theorem regular1_c (A : Option Addr) (n c : Nat) (rs : List SlV) (xss : List (List Int)) (N : Nat) (w : World) (hR : RowsI w A n rs xss) (hM : Mani xss) (hN : N = (gl xss 0).length) :
    Ret Try.prog 75 [.agg #[.slice A n c]] w (fun v w' => v = .bool (decide (((fset N xss N).length : Int) > 1)) ∧ St w w' []) := by
  refine Ret.of_cd Try.func75 rfl Try.ntmps75 rfl (post1 rfl) ?_
  refine Cd.seq ?_
  refine Cd.region ?_
  -- stop: BOX 24 t0=m -> 1
  refine Ops.box1 (St.refl w) rfl rfl ?_
  intro Ab w1 hS1
  refine Ops.mv_bool rfl rfl rfl ?_
  refine Ops.nil ?_
  refine thenQ_n ?_
  refine Cd.seq ?_
  refine Cd.region ?_
  -- stop: CALL impl.Maniplex).flagOrbits(t1=m) -> 6
  refine Ops.call (flagOrbits_c Ab A n c rs xss N _ (Rd.first (hS1.rd 0 rfl)) (hS1.oldRows hR) hM hN) rfl rfl rfl ?_
  rintro _ w2 ⟨A2, rfl, hst⟩
  refine Ops.mv_tup rfl rfl rfl ?_
  refine Ops.extract rfl rfl rfl ?_
  refine Ops.extract rfl rfl rfl ?_
  refine Ops.mv_sl rfl rfl rfl ?_
  refine Ops.mv_int rfl rfl rfl ?_
  refine Ops.nil ?_
  refine thenQ_n ?_
  refine Cd.seq ?_
  refine Cd.region ?_
  refine Ops.mv_int rfl rfl rfl ?_
  refine Ops.gtr rfl rfl rfl ?_
  refine Ops.mv_bool rfl rfl rfl ?_
  refine Ops.nil ?_
  refine thenQ_n ?_
  refine Cd.ret ?_
  refine ret1_b rfl ?_
  -- stop: end
  exact ⟨rfl, (hS1.later hst.below).none⟩
theorem keptI_map {pd : Nat → Bool} {F : Nat} {ms : List MatV} (h : ∀ (j : Nat) (hj : j < ms.length), pd j = decide (¬ orbN F ms[j].xss = 1)) : ∀ k, k ≤ ms.length → (keptI pd k).map (fun j => (ms.map (·.top)).getD j slNil) = (regV F (ms.take k)).map (·.top)
  | 0, _ => rfl
  | k + 1, hk => by
    have ih := keptI_map h k (by omega)
    have hk' : k < ms.length := by omega
    have hp := h k hk'
    rw [keptI_succ, regV_snoc hk']
    by_cases ho : orbN F ms[k].xss = 1
    · rw [if_pos ho, if_neg (by rw [hp]; simp [ho]), List.map_append, List.map_append, ih]
      simp [List.getD_eq_getElem?_getD, List.getElem?_eq_getElem hk']
    · rw [if_neg ho, if_pos (by rw [hp]; simp [ho]), ih]
theorem implRegularManiplexes_c (rank flags : Int) (w : World) : Ret Try.prog 43 [.int .i64 rank, .int .i64 flags] w (AnsM (regL rank flags) (lstK rank flags) w) := by
  have hlst := lst_len rank flags
  refine Ret.of_cd Try.func43 rfl Try.ntmps43 rfl (post2 rfl) ?_
  refine Cd.seq ?_
  refine Cd.region ?_
  refine Ops.mv_sl rfl rfl rfl ?_
  refine Ops.mv_int rfl rfl rfl ?_
  refine Ops.nil ?_
  refine thenQ_n ?_
  refine Cd.seq ?_
  refine Cd.region ?_
  refine Ops.mv_int rfl rfl rfl ?_
  refine Ops.mv_int rfl rfl rfl ?_
  -- stop: CALL impl.allManiplexes(t9, t10) -> 11
  refine Ops.call (allManiplexes_c rank flags _) rfl rfl rfl ?_
  rintro _ w2 ⟨A, c, ms, rfl, hL, hok, hS⟩
  have hml : ms.length = (lstI rank flags).length := by rw [← hL, List.length_map]
  have hel : ∀ (j : Nat) (hj : j < ms.length), Mani ms[j].xss ∧ flags.toNat = (gl ms[j].xss 0).length ∧ Own1 flags.toNat ms[j].xss ∧ 0 < flags.toNat := fun j hj => by
    have hs : Small rank flags := Classical.byContradiction fun hs => by
      rw [lstI, if_neg hs] at hml
      have hml : ms.length = 0 := hml
      omega
    have h1 := hs.1
    have h2 := hs.2
    have := lst_elem (n := rank.toNat) (F := flags.toNat) (by omega) (by omega) (by rw [hL, lstI, if_pos hs]) hj
    exact ⟨this.1, this.2.1, this.2.2, by omega⟩
  refine Ops.mv_tup rfl rfl rfl ?_
  refine Ops.extract rfl rfl rfl ?_
  refine Ops.extract rfl rfl rfl ?_
  refine Ops.mv_sl rfl rfl rfl ?_
  refine Ops.mv_int rfl rfl rfl ?_
  refine Ops.nil ?_
  refine thenQ_n ?_
  refine Cd.seq ?_
  refine Cd.region ?_
  refine Ops.mv_sl rfl rfl rfl ?_
  -- stop: CALL impl.Maniplex](t14, impl.RegularManiplexes$1) -> 15
  refine Ops.call (deleteM_c 0 hS rfl (by omega) 75 (fun j => if hj : j < ms.length then decide (¬ orbN flags.toNat ms[j].xss = 1) else false) (fun w' q hq hSq a ha => ?_)) rfl rfl rfl ?_
  · obtain ⟨hM, hN, hO, hF⟩ := hel a ha
    have hb := orb_bd hF hO
    have hSq : St w w' (CkR 24 A ms.length c (q.map fun j => (ms.map (·.top)).getD j slNil) :: matsCk 33 2 ms) := hSq
    have hRm := hSq.matAt (c := ms[a].top.c) (t1 := 33) (t2 := 2) ((MatV.sub_ (List.getElem_mem ha)).trans (List.sublist_cons_self _ _)) (hok _ (List.getElem_mem ha))
    have e1 : (ms.map (·.top)).getD a slNil = ms[a].top := by simp [List.getD_eq_getElem?_getD, List.getElem?_eq_getElem ha]
    have e2 : (fset flags.toNat ms[a].xss flags.toNat).length = orbN flags.toNat ms[a].xss := by rw [orbN, if_pos hO]
    have hc := regular1_c ms[a].top.a ms[a].top.n ms[a].top.c ms[a].rs ms[a].xss flags.toNat w' hRm hM hN
    rw [e2] at hc
    rw [e1]
    refine hc.mono ?_
    rintro v w'' ⟨rfl, hst⟩
    refine ⟨?_, hst⟩
    rw [dif_pos ha]
    congr 1
    rw [decide_eq_decide]
    omega
  rintro _ w3 ⟨rfl, hS3⟩
  have hkm := keptI_map (pd := fun j => if hj : j < ms.length then decide (¬ orbN flags.toNat ms[j].xss = 1) else false) (F := flags.toNat) (fun j hj => by rw [dif_pos hj]) ms.length (Nat.le_refl _)
  have hkl := congrArg List.length hkm
  rw [List.length_map, List.length_map, List.take_of_length_le (Nat.le_refl _)] at hkl
  rw [List.take_of_length_le (Nat.le_refl _)] at hkm
  rw [hkm, hkl] at hS3
  rw [hkl]
  have hS3 : St w w3 (CkR 24 A (regV flags.toNat ms).length c ((regV flags.toNat ms).map (·.top)) :: matsCk 33 2 ms) := hS3
  refine Ops.mv_int rfl rfl rfl ?_
  refine Ops.mv_sl rfl rfl rfl ?_
  refine Ops.mv_int rfl rfl rfl ?_
  refine Ops.nil ?_
  refine thenQ_n ?_
  refine Cd.ret ?_
  refine ret2_si rfl rfl ?_
  -- stop: end
  exact ⟨A, c, regV flags.toNat ms, rfl, by rw [regV_xss, hL]; rfl, fun m hm => hok m (List.mem_filter.1 hm).1, hS3.sub (List.Sublist.cons_cons _ (matsCk_sub List.filter_sublist))⟩

theorem FnExactRegularManiplexes_c (rank flags : Int) (w : World) : Ret Try.prog 10 [.int .i64 rank, .int .i64 flags] w (fun v w' => v = .bool true ∧ St w w' []) := by
  have hlen := regL_len rank flags
  refine Ret.of_cd Try.func10 rfl Try.ntmps10 rfl (post1 rfl) ?_
  refine Cd.seq ?_
  refine Cd.region ?_
  refine Ops.mv_bool rfl rfl rfl ?_
  refine Ops.nil ?_
  refine thenQ_n ?_
  refine Cd.seq ?_
  refine Cd.region ?_
  refine Ops.mv_int rfl rfl rfl ?_
  refine Ops.mv_int rfl rfl rfl ?_
  -- stop: CALL spec.RegularManiplexes(t14, t15) -> 16
  refine Ops.call (specRegularManiplexes_c rank flags _) rfl rfl rfl ?_
  rintro _ w1 ⟨A0, c0, ms0, rfl, hL0, hok0, hS1⟩
  have hl0 : ms0.length = (regL rank flags).length := by rw [← hL0, List.length_map]
  have hsm0 := hS1.smV2 (List.sublist_cons_self _ _) (fun m hm => regL_mem (by rw [← hL0]; exact List.mem_map_of_mem (f := (·.xss)) hm)) hok0
  refine Ops.mv_tup rfl rfl rfl ?_
  refine Ops.extract rfl rfl rfl ?_
  refine Ops.extract rfl rfl rfl ?_
  refine Ops.mv_sl rfl rfl rfl ?_
  refine Ops.mv_int rfl rfl rfl ?_
  refine Ops.nil ?_
  refine thenQ_n ?_
  refine Cd.seq ?_
  refine Cd.region ?_
  refine Ops.mv_int rfl rfl rfl ?_
  refine Ops.mv_int rfl rfl rfl ?_
  -- stop: CALL impl.RegularManiplexes(t20, t21) -> 22
  refine Ops.call (implRegularManiplexes_c rank flags _) rfl rfl rfl ?_
  rintro _ w2 ⟨A1, c1, ms1, rfl, hL1, hok1, hS2⟩
  have hl1 : ms1.length = (regL rank flags).length := by rw [← hL1, List.length_map]
  have hsm1 := hS2.smV2 (List.sublist_cons_self _ _) (fun m hm => regL_mem (by rw [← hL1]; exact List.mem_map_of_mem (f := (·.xss)) hm)) hok1
  have hcap1 : ∀ m ∈ ms1, m.top.n ≤ 9223372036854775807 := fun m hm => by have := (hsm1 m hm).2.2.1; omega
  have hS2 := hS1.call hS2
  have hR0 := hS2.msR hok0 (List.sublist_append_right _ _)
  have hR1 := hS2.msR hok1 (List.sublist_append_left _ _)
  refine Ops.mv_tup rfl rfl rfl ?_
  refine Ops.extract rfl rfl rfl ?_
  refine Ops.extract rfl rfl rfl ?_
  refine Ops.mv_sl rfl rfl rfl ?_
  refine Ops.mv_int rfl rfl rfl ?_
  refine Ops.nil ?_
  refine thenQ_n ?_
  refine Cd.seq ?_
  refine Cd.seq ?_
  refine Cd.region ?_
  refine Ops.mv_sl rfl rfl rfl ?_
  refine Ops.mv_sl rfl rfl rfl ?_
  -- stop: CALL laws.eqManiplexS(t25, t26) -> 27
  refine Ops.call (eqManiplexS_c A1 c1 ms1 A0 c0 ms0 _ hR1 hR0 (by omega) hcap1) rfl rfl rfl ?_
  rintro _ w3 ⟨rfl, hst3⟩
  have hS3 := hS2.later hst3.below
  have e10 : ms1.map (·.xss) = ms0.map (·.xss) := by rw [hL0, hL1]
  first | refine Ops.not_p rfl rfl ?_ | refine Ops.not rfl rfl ?_
  refine Ops.mv_bool rfl rfl rfl ?_
  -- stop: guard 29
  refine Ops.split_p 29 rfl (fun h => absurd e10 h) (fun h => ?_) --f
  refine Ops.rung rfl rfl rfl ?_
  refine Ops.mv_int rfl rfl rfl ?_
  refine Ops.rung rfl rfl rfl ?_
  refine Ops.mv_int rfl rfl rfl ?_
  refine Ops.rung rfl rfl rfl ?_
  refine Ops.neq rfl rfl rfl ?_
  refine Ops.pick_f rfl rfl rfl ?_
  refine Ops.nil ?_
  refine thenQ_n ?_
  -- stop: cond
  refine Cd.cond_pf rfl (fun h => h rfl) ?_
  refine Cd.skip ?_
  refine thenQ_n ?_
  refine Cd.seq ?_
  refine Cd.region ?_
  refine Ops.mv_int rfl rfl rfl ?_
  refine Ops.nil ?_
  refine thenQ_n ?_
  refine Cd.seq ?_
  refine Cd.region ?_
  refine Ops.mv_sl rfl rfl rfl ?_
  refine Ops.mv_int rfl rfl rfl ?_
  -- stop: CALL laws.markManiplexS(t34, t35) -> 36
  refine Ops.call (markManiplexS_c 1 hS3 hsm1 (by omega) (by omega)) rfl rfl rfl ?_
  rintro _ w4 ⟨rfl, hS4⟩
  have hR4 : MsR w4 A1 (mkV 1 ms1) := hS4.msR (c := c1) (mkV_ok hok1) (by rw [mkV_len, mkV_top]; exact List.sublist_append_left _ _)
  have htb := totM_le (b := 48) ms1 (fun m hm => (hsm1 m hm).tot.2)
  refine Ops.mv_int rfl rfl rfl ?_
  refine Ops.nil ?_
  refine thenQ_n ?_
  refine Cd.seq ?_
  refine Cd.region ?_
  refine Ops.mv_int rfl rfl rfl ?_
  refine Ops.nil ?_
  refine thenQ_n ?_
  refine Cd.seq ?_
  refine Cd.region ?_
  refine Ops.mv_sl rfl rfl rfl ?_
  refine Ops.mv_int rfl rfl rfl ?_
  -- stop: CALL laws.heldManiplexS(t37, t38) -> 39
  refine Ops.call (heldManiplexS_c A1 c1 ms1 1 _ hR4 hsm1 (by omega) (by omega)) rfl rfl rfl ?_
  rintro _ w4 ⟨rfl, rfl⟩
  refine Ops.mv_int rfl rfl rfl ?_
  refine Ops.nil ?_
  refine thenQ_n ?_
  refine Cd.seq ?_
  refine Cd.seq ?_
  refine Cd.region ?_
  refine Ops.mv_int rfl rfl rfl ?_
  refine Ops.lss rfl rfl rfl ?_
  refine Ops.nil ?_
  refine thenQ_n ?_
  -- stop: cond
  refine Cd.cond_pf rfl (by omega) ?_
  refine Cd.skip ?_
  refine thenQ_n ?_
  refine Cd.seq ?_
  refine Cd.seq ?_
  refine Cd.region ?_
  refine Ops.mv_int rfl rfl rfl ?_
  refine Ops.mv_int rfl rfl rfl ?_
  refine Ops.neq rfl rfl rfl ?_
  refine Ops.nil ?_
  refine thenQ_n ?_
  -- stop: cond
  refine Cd.cond_pf rfl (fun h => h rfl) ?_
  refine Cd.skip ?_
  refine thenQ_n ?_
  refine Cd.seq ?_
  refine Cd.region ?_
  refine Ops.mv_int rfl rfl rfl ?_
  refine Ops.mv_int rfl rfl rfl ?_
  -- stop: CALL impl.RegularManiplexes(t46, t47) -> 48
  refine Ops.call (implRegularManiplexes_c rank flags _) rfl rfl rfl ?_
  rintro _ w5 ⟨A2, c2, ms2, rfl, hL2, hok2, hS5⟩
  have hl2 : ms2.length = (regL rank flags).length := by rw [← hL2, List.length_map]
  have hsm2 := hS5.smV2 (List.sublist_cons_self _ _) (fun m hm => regL_mem (by rw [← hL2]; exact List.mem_map_of_mem (f := (·.xss)) hm)) hok2
  have hcap2 : ∀ m ∈ ms2, m.top.n ≤ 9223372036854775807 := fun m hm => by have := (hsm2 m hm).2.2.1; omega
  have hR0' := (hS4.msR hok0 (List.sublist_append_right (CkR 24 A1 ms1.length c1 (ms1.map (·.top)) :: matsCk 33 2 (mkV 1 ms1)) _)).later hS5.below
  have hR2 := hS5.msR hok2 (List.Sublist.refl _)
  refine Ops.mv_tup rfl rfl rfl ?_
  refine Ops.extract rfl rfl rfl ?_
  refine Ops.extract rfl rfl rfl ?_
  refine Ops.mv_sl rfl rfl rfl ?_
  refine Ops.mv_int rfl rfl rfl ?_
  refine Ops.nil ?_
  refine thenQ_n ?_
  refine Cd.seq ?_
  refine Cd.seq ?_
  refine Cd.region ?_
  refine Ops.mv_sl rfl rfl rfl ?_
  refine Ops.mv_sl rfl rfl rfl ?_
  -- stop: CALL laws.eqManiplexS(t51, t52) -> 53
  refine Ops.call (eqManiplexS_c A2 c2 ms2 A0 c0 ms0 _ hR2 hR0' (by omega) hcap2) rfl rfl rfl ?_
  rintro _ w6 ⟨rfl, hst6⟩
  have e20 : ms2.map (·.xss) = ms0.map (·.xss) := by rw [hL0, hL2]
  first | refine Ops.not_p rfl rfl ?_ | refine Ops.not rfl rfl ?_
  refine Ops.mv_bool rfl rfl rfl ?_
  -- stop: guard 55
  refine Ops.split_p 55 rfl (fun h => absurd e20 h) (fun h => ?_) --f
  refine Ops.rung rfl rfl rfl ?_
  refine Ops.mv_int rfl rfl rfl ?_
  refine Ops.rung rfl rfl rfl ?_
  refine Ops.mv_int rfl rfl rfl ?_
  refine Ops.rung rfl rfl rfl ?_
  refine Ops.neq rfl rfl rfl ?_
  refine Ops.pick_f rfl rfl rfl ?_
  refine Ops.nil ?_
  refine thenQ_n ?_
  -- stop: cond
  refine Cd.cond_pf rfl (fun h => h rfl) ?_
  refine Cd.skip ?_
  refine thenQ_n ?_
  refine Cd.seq ?_
  refine Cd.region ?_
  refine Ops.mv_int rfl rfl rfl ?_
  refine Ops.nil ?_
  refine thenQ_n ?_
  refine Cd.seq ?_
  refine Cd.region ?_
  refine Ops.mv_sl rfl rfl rfl ?_
  refine Ops.mv_int rfl rfl rfl ?_
  -- stop: CALL laws.heldManiplexS(t60, t61) -> 62
  refine Ops.call (heldManiplexS_c A1 c1 ms1 1 _ ((hR4.later hS5.below).later hst6.below) hsm1 (by omega) (by omega)) rfl rfl rfl ?_
  rintro _ w6 ⟨rfl, rfl⟩
  refine Ops.mv_int rfl rfl rfl ?_
  refine Ops.nil ?_
  refine thenQ_n ?_
  refine Cd.seq ?_
  refine Cd.seq ?_
  refine Cd.region ?_
  refine Ops.mv_int rfl rfl rfl ?_
  refine Ops.lss rfl rfl rfl ?_
  refine Ops.nil ?_
  refine thenQ_n ?_
  -- stop: cond
  refine Cd.cond_pf rfl (by omega) ?_
  refine Cd.skip ?_
  refine thenQ_n ?_
  refine Cd.seq ?_
  refine Cd.seq ?_
  refine Cd.region ?_
  refine Ops.mv_int rfl rfl rfl ?_
  refine Ops.mv_int rfl rfl rfl ?_
  refine Ops.neq rfl rfl rfl ?_
  refine Ops.nil ?_
  refine thenQ_n ?_
  -- stop: cond
  refine Cd.cond_pf rfl (fun h => h rfl) ?_
  refine Cd.skip ?_
  refine thenQ_n ?_
  refine Cd.seq ?_
  refine Cd.region ?_
  refine Ops.mv_bool rfl rfl rfl ?_
  refine Ops.nil ?_
  refine thenQ_n ?_
  refine Cd.ret ?_
  refine ret1_b rfl ?_
  -- stop: end
  exact ⟨rfl, ((hS4.later hS5.below).later hst6.below).none⟩
end Go.Proofs.Ytgobjpcankaicaa.Vc
/-
  A statement's frame: the arguments opened, and what a walk gives told in the statement's own words. Conditions: as each states them.
-/
namespace Go.Proofs.Ytgobjpcankaicaa.Vc
open Go.RowKit Go.ChangeShapes Go.WideShapes

theorem laid : laidOutB Try.prog = true := by kernel_rfl
theorem own : ownKnob Try.prog.godebug = none := by kernel_rfl

section
variable {H : Type} {enc : TypeId × Value → H} {P : Program}
theorem open_mat {w : World} {t e q : TypeId} {fuel : Nat} {cs : List Value} {x : DataW H × List MemPlace} (ht : P.underlying t = some (.slice e)) (he : P.underlying e = some (.slice q)) (hq : P.underlying q = some (.int .i64)) (ce : P.cellsOf e = 1) (cq : P.cellsOf q = 1)
    (h : DataW.trod enc P w 0 (fun _ => true) true fuel t cs = some x) : ∃ A n c rs xss, cs = [.slice A n c] ∧ RowsI w A n rs xss ∧ n ≤ c ∧ c ≤ 9223372036854775807 := by
  rcases Go.Deep.open_int_rows ht he hq ce cq h with ⟨rfl, _⟩ | ⟨a, len, cap, A, L, C, Z, rfl, _, hl, hm, _, hc⟩
  · exact ⟨none, 0, 0, [], [], rfl, RowsI.nil w, Nat.le_refl _, by omega⟩
  · refine ⟨some a, len, cap, (List.range len).map fun r => ⟨A r, L r, C r⟩, (List.range len).map fun r => (Z r).take (L r), rfl, ⟨⟨by simp, fun k hk => ?_⟩, by simp, fun i hi => ?_, fun i hi => ?_⟩, hl, by simpa [maxLen] using hm⟩
    · have := (hc k (by omega)).1
      exact ⟨a.add k, rfl, by rw [this]; simp [List.getD_eq_getElem?_getD, hk, SlV.v]⟩
    · have h1 := hc i (by omega)
      have e1 : ((List.range len).map fun r => (⟨A r, L r, C r⟩ : SlV)).getD i slNil = ⟨A i, L i, C i⟩ := by simp [List.getD_eq_getElem?_getD, hi]
      have e2 : ((List.range len).map fun r => (Z r).take (L r)).getD i [] = (Z i).take (L i) := by simp [List.getD_eq_getElem?_getD, hi]
      rw [e1, e2]
      refine ⟨by simp; omega, fun k hk => ?_⟩
      have hk' : k < L i := hk
      cases hA : A i with
      | none => have := h1.2.2.2.2.2.1 hA; omega
      | some a' =>
        have h2 := (h1.2.2.2.2.2.2 a' hA).2 k (by omega)
        exact ⟨a'.add k, rfl, by rw [h2]; simp [List.getD_eq_getElem?_getD, List.getElem?_take, hk']⟩
    · have h1 := hc i (by omega)
      have e1 : ((List.range len).map fun r => (⟨A r, L r, C r⟩ : SlV)).getD i slNil = ⟨A i, L i, C i⟩ := by simp [List.getD_eq_getElem?_getD, hi]
      rw [e1]
      exact ⟨h1.2.1, h1.2.2.1⟩

theorem trodAll_stays (hl : laidOutB P = true) {W W' : World} (hb : Below W.heap.size W W') {sp : Nat → Bool} : ∀ {ts : List TypeId} {vs : List Value} {ds : List (DataW H)} {ps : List MemPlace}, (ts.all fun t => P.readableRec t && Nat.blt t P.types.size) = true → (∀ p ∈ ps, p.block < W.heap.size) → (∀ p ∈ ps, sp p.block = true) →
    DataW.TrodAll enc P W 0 (fun _ => true) true ts vs ds ps → DataW.TrodAll enc P W' 0 sp true ts vs ds ps
  | [], [], [], _, _, _, _, h => h
  | t :: ts, v :: vs, d :: ds, ps, hr, hlt, hsp, h => by
    obtain ⟨p, q, h1, h2, rfl⟩ := h
    simp only [List.all_cons, Bool.and_eq_true] at hr
    exact ⟨p, q, WideElems.Trod_stays hl hr.1.1 (by simpa [Nat.blt_eq] using hr.1.2) h1 (fun x hx => hb.same (hlt x (by simp [hx]))) (fun x hx => hsp x (by simp [hx])), trodAll_stays hl hb hr.2 (fun x hx => hlt x (by simp [hx])) (fun x hx => hsp x (by simp [hx])) h2, rfl⟩
  | [], [], _ :: _, _, _, _, _, h => h.elim
  | [], _ :: _, _, _, _, _, _, h => by cases h
  | _ :: _, [], _, _, _, _, _, h => by cases h
  | _ :: _, _ :: _, [], _, _, _, _, h => by cases h

/-- what a law's walk gives, in its statement's words: it returns true, and its arguments read as they did -/
theorem post_law {f : Func} {s : ChangeSpec} {apart : Bool} {W W' : World} {args : Array Value} {ds gs : List (DataW H)} {before : List MemPlace} (hl : laidOutB P = true) {b : TypeId} (hu : P.underlying b = some .bool) (hres : f.resultTypes = #[b]) (hv : s.vars = [])
    (hr : (f.params.toList.all fun t => P.readableRec t && Nat.blt t P.types.size) = true) (hfn : (s.fn H (ds ++ gs)).results = [.lit (.bool true)] ∧ (s.fn H (ds ++ gs)).args = ds ∧ (s.fn H (ds ++ gs)).vars = [])
    (hW : DataW.Whole enc P f.params.toList s.vars apart W args.toList ds gs before) (hb : Below W.heap.size W W') : s.post enc P f apart true false false W args (.bool true) W' := by
  have hlt : ∀ x ∈ before, x.block < W.heap.size := fun x hx => hW.lt x hx
  have hW0 := hW
  obtain ⟨p, q, hA, hV, rfl, hz, hn⟩ := hW
  rw [hv] at hV
  obtain ⟨rfl, rfl⟩ := trodVars_none hV
  have hlp : ∀ x ∈ p, x.block < W.heap.size := fun x hx => hlt x (by simp [hx])
  have hA' : ∀ sp : Nat → Bool, (∀ x ∈ p, sp x.block = true) → DataW.TrodAll enc P W' 0 sp true f.params.toList args.toList (s.fn H (ds ++ [])).args p := fun sp hsp => by
    rw [hfn.2.1]
    exact trodAll_stays hl hb hr hlp hsp hA
  have hR' : ∀ (b0 : Nat) (sp : Nat → Bool) (hd : Bool), DataW.TrodAll enc P W' b0 sp hd f.resultTypes.toList ((Value.bool true).resultList f.resultTypes.size) (s.fn H (ds ++ [])).results [] := fun b0 sp hd => by
    rw [hfn.1, hres]
    exact trodAll_cons_mk (shut_bool hu _) trodAll_mk0
  have hV' : ∀ sp : Nat → Bool, DataW.TrodVars enc P W' sp s.vars (s.fn H (ds ++ [])).vars [] := fun sp => by
    rw [hfn.2.2, hv]; rfl
  refine ⟨ds, [], p ++ [], [], p, [], hW0, hR' _ _ _, hA' _ (fun x hx => by simpa using hlp x hx), hV' _, World.keptBut_mono (fun x hx => ⟨hx, by simpa using hx⟩) (hb.frame (· ∈ p ++ [])), fun _ => ⟨fun j t r h1 h2 => ?_, _, _, ([] ++ p) ++ [], ⟨[] ++ p, [], trodAll_append (hA' _ fun _ _ => rfl) (hR' _ _ _), hV' _, rfl, fun c off hc => ?_, fun ha => by simpa using hn ha⟩, fun x hx _ => by simpa using hx⟩⟩
  · rw [hres] at h1 h2
    cases j with
    | zero =>
      simp at h1
      subst h1
      simp [Value.resultList] at h2
      subst h2
      exact okWide_bool_mk hu _
    | succ j => simp at h1
  · have hin : MemPlace.cell c off ∈ p ++ [] := by simpa using hc
    rw [hb.frozen (hlt _ hin)]
    exact hz c off hin
end
end Go.Proofs.Ytgobjpcankaicaa.Vc
/-
  Arguments opened: a struct of one matrix, a list of integers. Conditions: as each states them.
-/
namespace Go.Proofs.Ytgobjpcankaicaa.Vc
open Go.RowKit Go.ChangeShapes Go.WideShapes

section
variable {H : Type} {enc : TypeId × Value → H} {P : Program}
theorem open_man {w : World} {r : Go.Reach} {b0 : Nat} {t e q : TypeId} {f0 : Field} {v : Value} {d : DataW H} {p : List MemPlace} (hs : P.underlying t = some (.struct #[f0])) (hf0 : f0.offset = 0) (ht : P.underlying f0.type = some (.slice e)) (he : P.underlying e = some (.slice q)) (hq : P.underlying q = some (.int .i64)) (ce : P.cellsOf e = 1) (cq : P.cellsOf q = 1) (cm : P.cellsOf f0.type = 1) (cc : P.cellsOf t = 1)
    (hval : Value.okWide P w r b0 t v) (h : DataW.Trod enc P w 0 (fun _ => true) true t v d p) : ∃ A n c rs xss, v = .agg #[.slice A n c] ∧ RowsI w A n rs xss ∧ n ≤ c ∧ c ≤ 9223372036854775807 := by
  obtain ⟨cs, rfl, hsz⟩ := okWide_struct hs hval
  obtain ⟨fuel, hf⟩ := h
  obtain ⟨z0, m0, _, _, hz0⟩ := trod_struct1 hs hf
  obtain ⟨A, n, c, rs, xss, e1, hR, hn, hc⟩ := open_mat ht he hq ce cq hz0
  refine ⟨A, n, c, rs, xss, ?_, hR, hn, hc⟩
  have hl : cs.toList.length = 1 := by rw [Array.length_toList, hsz, cc]
  have e1 : (cs.toList.drop f0.offset).take (P.cellsOf f0.type) = [Value.slice A n c] := e1
  rw [hf0, cm, List.drop_zero, List.take_of_length_le (by omega)] at e1
  congr 1
  exact Array.ext' (by rw [e1])

theorem open_row {w : World} {r : Go.Reach} {b0 : Nat} {t e : TypeId} {v : Value} {d : DataW H} {p : List MemPlace} (ht : P.underlying t = some (.slice e)) (he : P.underlying e = some (.int .i64)) (ce : P.cellsOf e = 1)
    (hval : Value.okWide P w r b0 t v) (h : DataW.Trod enc P w 0 (fun _ => true) true t v d p) : ∃ A n c xs, v = .slice A n c ∧ RdI w A n xs ∧ n ≤ c ∧ c ≤ 9223372036854775807 := by
  obtain ⟨a, len, cap, rfl⟩ := okWide_slice ht hval
  obtain ⟨fuel, hf⟩ := h
  have hcs : (Value.slice a len cap).cells.toList = [Value.slice a len cap] := rfl
  rw [hcs] at hf
  rcases open_ints ht he ce hf with ⟨h1, _⟩ | ⟨b, n, c, zs, h1, _, hl, hm, hz, _, hc, _⟩
  · simp only [List.cons.injEq, and_true] at h1
    exact ⟨none, 0, 0, [], h1, RdI.nil, Nat.le_refl _, by omega⟩
  · simp only [List.cons.injEq, and_true] at h1
    refine ⟨some b, n, c, zs.take n, h1, ⟨?_, fun k hk => ?_⟩, hl, by simpa [maxLen] using hm⟩
    · rw [if_pos rfl] at hz; simp; omega
    · rw [if_pos rfl] at hz
      refine ⟨b.add k, rfl, ?_⟩
      rw [hc k (by omega)]
      simp [List.getD_eq_getElem?_getD, List.getElem?_take, hk]
end
end Go.Proofs.Ytgobjpcankaicaa.Vc
