/-
  The texts E1, E2, E3, Dst, P1, P2, Open, Opm in one. Conditions: as each part states them.
-/
import Derived.Test.YtgobjpcankaicaaZe
import Derived.Test.YtgobjpcankaicaaZa
import Derived.Test.YtgobjpcankaicaaInst
import Derived.Deep.Matrix
import Derived.Carry
import Derived.Below
import Derived.ChangeSame
import Derived.ProofKit
import Derived.OpenShut
import Derived.Handed
import Derived.Lib.SmallJoins
/-
  Distances in a graph: the search, and the walks of it on both sides. Conditions: as each states them.
-/
namespace Go.Proofs.Ytgobjpcankaicaa.Vc
open Go.RowKit

/-- one neighbour met: the distances, and the queue -/
def stepB (wo u : Int) (st : List Int × List Int) (x : Int) : List Int × List Int := if gi st.1 x < 0 ∧ x ≠ wo then (st.1.set x.toNat (gi st.1 u + 1), st.2 ++ [x]) else st
def rowB (wo u : Int) (r : List Int) (st : List Int × List Int) : List Int × List Int := r.foldl (stepB wo u) st
theorem rowB_snoc (wo u : Int) (r : List Int) (x : Int) (st : List Int × List Int) : rowB wo u (r ++ [x]) st = stepB wo u (rowB wo u r st) x := by simp [rowB, List.foldl_append]
def bfsD (next : List (List Int)) (wo : Int) : Nat → Nat → List Int × List Int → List Int × List Int
  | 0, _, st => st
  | f + 1, i, st => if i < st.2.length then bfsD next wo f (i + 1) (rowB wo (gi st.2 (i : Int)) (gl next (gi st.2 (i : Int))) st) else st
theorem bfsD_go {next : List (List Int)} {wo : Int} {f i : Nat} {st : List Int × List Int} (hi : i < st.2.length) (hf : 0 < f) : bfsD next wo f i st = bfsD next wo (f - 1) (i + 1) (rowB wo (gi st.2 (i : Int)) (gl next (gi st.2 (i : Int))) st) := by
  obtain ⟨g, rfl⟩ : ∃ g, f = g + 1 := ⟨f - 1, by omega⟩
  rw [bfsD, if_pos hi]; rfl
theorem bfsD_end {next : List (List Int)} {wo : Int} {f i : Nat} {st : List Int × List Int} (hi : ¬ i < st.2.length) : bfsD next wo f i st = st := by
  cases f with
  | zero => rfl
  | succ f => rw [bfsD, if_neg hi]
def initB (n : Nat) (v : Int) : List Int × List Int := ((List.replicate n (-1)).set v.toNat 0, [v])
def distP (next : List (List Int)) (wo v : Int) : List Int × List Int := bfsD next wo (next.length + 1) 0 (initB next.length v)

structure BF (n : Nat) (st : List Int × List Int) : Prop where
  len : st.1.length = n
  rng : ∀ x ∈ st.2, 0 ≤ x ∧ x < n
  cnt : st.2.length + unl st.1 = n
  val : ∀ x ∈ st.1, -1 ≤ x ∧ x < st.2.length
  pos : ∀ x ∈ st.2, 0 ≤ gi st.1 x
theorem gi_in2 {l : List Int} {x : Int} (h0 : 0 ≤ x) (h1 : x < l.length) : gi l x ∈ l := by
  obtain ⟨k, rfl⟩ : ∃ k : Nat, x = k := ⟨x.toNat, by omega⟩
  exact gi_in (by omega)
theorem gi_setI {l : List Int} {i : Nat} {v : Int} {x : Int} (hi : i < l.length) (hx : 0 ≤ x) : gi (l.set i v) x = if (i : Int) = x then v else gi l x := by
  obtain ⟨k, rfl⟩ : ∃ k : Nat, x = k := ⟨x.toNat, by omega⟩
  simp only [gi, Int.toNat_natCast, List.getD_eq_getElem?_getD, List.getElem?_set]
  by_cases h : i = k
  · subst h; rw [if_pos rfl, if_pos hi, if_pos rfl]; rfl
  · rw [if_neg h, if_neg (by omega)]
theorem BF.step {n : Nat} {st : List Int × List Int} (h : BF n st) {wo u x : Int} (hu : u ∈ st.2) (h0 : 0 ≤ x) (h1 : x < n) : BF n (stepB wo u st x) ∧ st.2 <+: (stepB wo u st x).2 := by
  unfold stepB
  split
  · rename_i hx
    have hlen := h.len
    have hxn : x.toNat < st.1.length := by omega
    have hgu := h.pos u hu
    have hur := h.rng u hu
    have hgu2 := h.val _ (gi_in2 hur.1 (by omega))
    have hunl := unl_set (L := st.1) (x := x) (c := gi st.1 u + 1) h0 (by omega) hx.1 (by omega)
    have hcnt := h.cnt
    refine ⟨⟨by simp [h.len], fun y hy => ?_, by simp; omega, fun y hy => ?_, fun y hy => ?_⟩, List.prefix_append _ _⟩
    · rcases List.mem_append.1 hy with hy | hy
      · exact h.rng y hy
      · simp at hy; subst hy; exact ⟨h0, h1⟩
    · rw [List.length_append, List.length_singleton]
      rcases List.mem_or_eq_of_mem_set hy with hy | rfl
      · have := h.val y hy; omega
      · omega
    · have hy0 : 0 ≤ y := by
        rcases List.mem_append.1 hy with hy | hy
        · exact (h.rng y hy).1
        · simp at hy; omega
      rw [gi_setI hxn hy0]
      split
      · omega
      · rename_i hne
        rcases List.mem_append.1 hy with hy | hy
        · exact h.pos y hy
        · simp at hy; omega
  · exact ⟨h, List.prefix_rfl⟩
theorem BF.row {n : Nat} {wo u : Int} (r : List Int) : ∀ {st : List Int × List Int}, BF n st → u ∈ st.2 → (∀ x ∈ r, 0 ≤ x ∧ x < n) → BF n (rowB wo u r st) ∧ st.2 <+: (rowB wo u r st).2 := by
  induction r using snoc_ind with
  | h0 => intro st h _ _; exact ⟨h, List.prefix_rfl⟩
  | h1 l a ih =>
    intro st h hu hr
    obtain ⟨h1, h2⟩ := ih h hu (fun x hx => hr x (by simp [hx]))
    have ha := hr a (by simp)
    rw [rowB_snoc]
    obtain ⟨h3, h4⟩ := h1.step (wo := wo) (h2.subset hu) ha.1 ha.2
    exact ⟨h3, h2.trans h4⟩
theorem BF.len2 {n : Nat} {st : List Int × List Int} (h : BF n st) : st.2.length ≤ n := by have := h.cnt; omega
theorem BF.init {n : Nat} {v : Int} (h0 : 0 ≤ v) (h1 : v < n) : BF n (initB n v) := by
  have hu : unl (List.replicate n (-1)) = n := by
    unfold unl
    rw [List.countP_replicate]
    simp
  have hs := unl_set (L := List.replicate n (-1)) (x := v) (c := 0) h0 (by simp; exact h1) (by rw [gi_rep h0 h1]; omega) (by omega)
  refine ⟨by simp [initB], fun x hx => ?_, ?_, fun x hx => ?_, fun x hx => ?_⟩
  · simp [initB] at hx; subst hx; exact ⟨h0, h1⟩
  · show 1 + unl ((List.replicate n (-1)).set v.toNat 0) = n; omega
  · have hx : x ∈ (List.replicate n (-1)).set v.toNat 0 := hx
    show -1 ≤ x ∧ x < ((1 : Nat) : Int)
    rcases List.mem_or_eq_of_mem_set hx with hx | rfl
    · have := (List.mem_replicate.1 hx).2; omega
    · omega
  · simp [initB] at hx; subst hx
    show 0 ≤ gi ((List.replicate n (-1)).set x.toNat 0) x
    rw [gi_setI (by simp; omega) h0, if_pos (by omega)]
    exact Int.le_refl _
/-- a graph's lists -/
structure Gr (n : Nat) (next : List (List Int)) : Prop where
  len : next.length = n
  small : n ≤ 400
  row : ∀ u : Int, 0 ≤ u → (∀ x ∈ gl next u, 0 ≤ x ∧ x < n) ∧ (gl next u).length ≤ 1000

theorem l18Distances_c (A : Option Addr) (n c : Nat) (rs : List SlV) (next : List (List Int)) (v wo : Int) (w : World) (hR : RowsI w A n rs next) (hg : Gr n next) (h0 : 0 ≤ v) (h1 : v < n) :
    Ret Try.prog 65 [.slice A n c, .int .i64 v, .int .i64 wo] w (fun r w' => ∃ A', r = .slice A' n n ∧ St w w' [CkI 2 A' n n (distP next wo v).1]) := by
  have hl := hg.len
  have hsm := hg.small
  refine Ret.of_cd Try.func65 rfl Try.ntmps65 rfl (post1 rfl) ?_
  refine Cd.seq ?_
  refine Cd.region ?_
  refine Ops.mv_sl rfl rfl rfl ?_
  refine Ops.nil ?_
  refine thenQ_n ?_
  refine Cd.seq ?_
  refine Cd.region ?_
  refine Ops.mv_sl rfl rfl rfl ?_
  refine Ops.len rfl rfl ?_
  -- stop: MAKESLICE 33 t15 t15 -> 16
  refine Ops.mkI n (St.refl w) rfl rfl (by omega) ?_
  intro A7 w1 hS1
  refine Ops.mv_sl rfl rfl rfl ?_
  refine Ops.nil ?_
  refine thenQ_n ?_
  refine Cd.seq ?_
  refine Cd.seq ?_
  refine Cd.region ?_
  refine Ops.mv_int rfl rfl rfl ?_
  refine Ops.nil ?_
  refine thenQ_n ?_
  refine Cd.block ?_
  -- stop: loop
  refine Cd.loop (α := Nat × List Int) (fun z => [(0, .slice A n c), (1, .int .i64 v), (2, .int .i64 wo), (7, .slice A7 n n), (8, .int .i64 (z.1 : Int))]) (fun z w' => St w w' [CkI 2 A7 n n z.2] ∧ z.1 ≤ n ∧ z.2.length = n ∧ ∀ j, j < z.1 → z.2[j]? = some (-1)) (fun z => n - z.1) (0, List.replicate n 0) ⟨rfl, rfl, rfl, rfl, rfl, trivial⟩ ⟨hS1, Nat.zero_le _, by simp, fun j hj => by omega⟩ ?_
  rintro ⟨k, l⟩ e w2 ⟨hS2, hk, hll, hK⟩
  dsimp only at hS2 hk hll hK ⊢
  refine Cd.seq ?_
  refine Cd.seq ?_
  refine Cd.region ?_
  refine Ops.mv_int rfl rfl rfl ?_
  refine Ops.mv_sl rfl rfl rfl ?_
  refine Ops.len rfl rfl ?_
  refine Ops.lss rfl rfl rfl ?_
  refine Ops.nil ?_
  refine thenQ_n ?_
  -- stop: cond
  refine Cd.cond_p _ rfl (fun h2 => ?_) (fun h2 => ?_)
  · refine Cd.skip ?_
    refine thenQ_n ?_
    refine Cd.seq ?_
    refine Cd.block ?_
    refine Cd.region ?_
    refine Ops.mv_sl rfl rfl rfl ?_
    refine Ops.mv_int rfl rfl rfl ?_
    -- stop: INDEXADDR 33 t23 t24 -> 25
    refine Ops.idx (hS2.rdI 0 rfl).2 rfl rfl rfl (by omega) (by omega) ?_
    refine Ops.st_int 0 hS2 rfl rfl rfl (by omega) ?_
    intro w3 hS3
    refine Ops.nil ?_
    refine blockQ_n ?_
    refine thenQ_n ?_
    refine Cd.region ?_
    refine Ops.mv_int rfl rfl rfl ?_
    refine Ops.add rfl rfl rfl (by omega) ?_
    refine Ops.mv_int rfl rfl rfl ?_
    refine Ops.nil ?_
    refine thenQ_n ?_
    -- stop: round
    refine ⟨(k + 1, l.set k (-1)), by show n - (k + 1) < n - k; omega, ⟨rfl, rfl, rfl, rfl, rfl, trivial⟩, hS3, by show k + 1 ≤ n; omega, by show (l.set k _).length = n; rw [List.length_set]; exact hll, fun j hj => ?_⟩
    show (l.set k (-1))[j]? = _
    rw [List.getElem?_set]
    by_cases ej : k = j
    · subst ej; rw [if_pos rfl, if_pos (by omega)]
    · rw [if_neg ej]; exact hK j (by have : j < k + 1 := hj; omega)
  · refine Cd.exit ?_
    refine thenQ_x ?_
    refine thenQ_x ?_
    refine blockQ_x ?_
    refine thenQ_n ?_
    refine Cd.seq ?_
    refine Cd.region ?_
    refine Ops.mv_sl rfl rfl rfl ?_
    refine Ops.mv_int rfl rfl rfl ?_
    -- stop: INDEXADDR 33 t26 t27 -> 28
    have hkn : k = n := by omega
    subst hkn
    have he : l = List.replicate k (-1) := by
      apply List.ext_getElem?
      intro j
      by_cases hj : j < k
      · rw [hK j hj]; simp [hj]
      · rw [List.getElem?_eq_none (by omega), List.getElem?_eq_none (by simp; omega)]
    subst he
    refine Ops.idx (hS2.rdI 0 rfl).2 rfl rfl rfl h0 h1 ?_
    refine Ops.st_int 0 hS2 rfl rfl rfl (by omega) ?_
    intro w3 hS3
    refine Ops.nil ?_
    refine thenQ_n ?_
    refine Cd.seq ?_
    refine Cd.region ?_
    refine Ops.mv_int rfl rfl rfl ?_
    -- stop: BUILDSLICE 33 1 [('pair', [0, ('app', 'Go.Operand.tmp', [29])])] -> 30
    refine Ops.bs1I hS3 rfl rfl rfl ?_
    intro A9 w4 hS4
    have hS4 : St w w4 [CkI 2 A9 (initB k v).2.length 1 (initB k v).2, CkI 2 A7 k k (initB k v).1] := hS4
    have hfin : distP next wo v = bfsD next wo (k + 1 - 0) 0 (initB k v) := by unfold distP; rw [hl]; rfl
    refine Ops.mv_sl rfl rfl rfl ?_
    refine Ops.nil ?_
    refine thenQ_n ?_
    refine Cd.seq ?_
    refine Cd.seq ?_
    refine Cd.region ?_
    refine Ops.mv_int rfl rfl rfl ?_
    refine Ops.nil ?_
    refine thenQ_n ?_
    refine Cd.block ?_
    -- stop: loop
    refine Cd.loop (α := Nat × Option Addr × Nat × (List Int × List Int)) (fun z => [(0, .slice A k c), (2, .int .i64 wo), (7, .slice A7 k k), (9, .slice z.2.1 z.2.2.2.2.length z.2.2.1), (10, .int .i64 (z.1 : Int))])
      (fun z w' => St w w' [CkI 2 z.2.1 z.2.2.2.2.length z.2.2.1 z.2.2.2.2, CkI 2 A7 k k z.2.2.2.1] ∧ BF k z.2.2.2 ∧ z.1 ≤ z.2.2.2.2.length ∧ distP next wo v = bfsD next wo (k + 1 - z.1) z.1 z.2.2.2)
      (fun z => k + 1 - z.1) (0, A9, 1, initB k v) ⟨rfl, rfl, rfl, rfl, rfl, trivial⟩ ⟨hS4, BF.init h0 h1, Nat.zero_le _, hfin⟩ ?_
    rintro ⟨i, A10, c10, st⟩ e w5 ⟨hS5, hB, hi, hD⟩
    dsimp only at hS5 hB hi hD ⊢
    have hql := hB.len2
    refine Cd.seq ?_
    refine Cd.seq ?_
    refine Cd.region ?_
    refine Ops.mv_int rfl rfl rfl ?_
    refine Ops.mv_sl rfl rfl rfl ?_
    refine Ops.len rfl rfl ?_
    refine Ops.lss rfl rfl rfl ?_
    refine Ops.nil ?_
    refine thenQ_n ?_
    -- stop: cond
    refine Cd.cond_p _ rfl (fun h3 => ?_) (fun h3 => ?_)
    · have hi' : i < st.2.length := by omega
      have hQ := hS5.rdI 0 rfl
      have hum : gi st.2 (i : Int) ∈ st.2 := gi_in hi'
      have hur := hB.rng _ hum
      have hrow := hg.row (gi st.2 (i : Int)) hur.1
      rw [bfsD_go hi' (by omega)] at hD
      refine Cd.skip ?_
      refine thenQ_n ?_
      refine Cd.seq ?_
      refine Cd.block ?_
      refine Cd.seq ?_
      refine Cd.region ?_
      refine Ops.mv_sl rfl rfl rfl ?_
      refine Ops.mv_int rfl rfl rfl ?_
      -- stop: INDEXADDR 33 t37 t38 -> 39
      refine Ops.idx hQ.2 rfl rfl rfl (by omega) (by omega) ?_
      refine Ops.ld_int hQ rfl (by omega) rfl rfl ?_
      refine Ops.mv_int rfl rfl rfl ?_
      refine Ops.nil ?_
      refine thenQ_n ?_
      refine Cd.seq ?_
      refine Cd.region ?_
      refine Ops.mv_int rfl rfl rfl ?_
      refine Ops.nil ?_
      refine thenQ_n ?_
      refine Cd.block ?_
      -- stop: loop
      generalize hu : gi st.2 (i : Int) = u at *
      have hnr : (gl next u).length = (rg rs u).n := hR.rowLen hur.1 hur.2
      refine Cd.loop (α := Nat × Option Addr × Nat × (List Int × List Int)) (fun z => [(0, .slice A k c), (2, .int .i64 wo), (7, .slice A7 k k), (9, .slice z.2.1 z.2.2.2.2.length z.2.2.1), (10, .int .i64 (i : Int)), (11, .int .i64 u), (12, .int .i64 (z.1 : Int))])
        (fun z w' => St w w' [CkI 2 z.2.1 z.2.2.2.2.length z.2.2.1 z.2.2.2.2, CkI 2 A7 k k z.2.2.2.1] ∧ z.1 ≤ (gl next u).length ∧ z.2.2.2 = rowB wo u ((gl next u).take z.1) st)
        (fun z => (gl next u).length - z.1) (0, A10, c10, st) ⟨rfl, rfl, rfl, rfl, rfl, rfl, rfl, trivial⟩ ⟨hS5, Nat.zero_le _, rfl⟩ ?_
      rintro ⟨j, A11, c11, sj⟩ e w6 ⟨hS6, hj, hsj⟩
      dsimp only at hS6 hj hsj ⊢
      obtain ⟨hBj, hpre⟩ := BF.row (wo := wo) ((gl next u).take j) hB hum (fun x hx => hrow.1 x (List.mem_of_mem_take hx))
      rw [← hsj] at hBj hpre
      have hR6 := hS6.oldRows hR
      have hqj := hBj.len2
      have hlj := hBj.len
      refine Cd.seq ?_
      refine Cd.seq ?_
      refine Cd.region ?_
      refine Ops.mv_int rfl rfl rfl ?_
      refine Ops.mv_sl rfl rfl rfl ?_
      refine Ops.mv_int rfl rfl rfl ?_
      -- stop: INDEXADDR 22 t42 t43 -> 44
      refine Ops.idx hR6.top.2 rfl rfl rfl hur.1 hur.2 ?_
      refine Ops.ld_sl hR6.top rfl (by omega) rfl rfl ?_
      refine Ops.len rfl rfl ?_
      refine Ops.lss rfl rfl rfl ?_
      refine Ops.nil ?_
      refine thenQ_n ?_
      -- stop: cond
      refine Cd.cond_p _ rfl (fun h4 => ?_) (fun h4 => ?_)
      · have hj' : j < (gl next u).length := by omega
        have hrowR := hR6.at_ (i := u) hur.1 hur.2
        have hxm : gi (gl next u) (j : Int) ∈ gl next u := gi_in hj'
        have hx := hrow.1 _ hxm
        have hstep : rowB wo u ((gl next u).take (j + 1)) st = stepB wo u sj (gi (gl next u) (j : Int)) := by rw [take_succ_gi hj', rowB_snoc, ← hsj]
        have hO := hS6.rdI 1 rfl
        have hgu := hBj.val _ (gi_in2 (l := sj.1) hur.1 (by omega))
        generalize hxe : gi (gl next u) (j : Int) = x at *
        refine Cd.skip ?_
        refine thenQ_n ?_
        refine Cd.seq ?_
        refine Cd.block ?_
        refine Cd.seq ?_
        refine Cd.region ?_
        refine Ops.mv_sl rfl rfl rfl ?_
        refine Ops.mv_int rfl rfl rfl ?_
        -- stop: INDEXADDR 22 t50 t51 -> 52
        refine Ops.idx hR6.top.2 rfl rfl rfl hur.1 hur.2 ?_
        refine Ops.ld_sl hR6.top rfl (by omega) rfl rfl ?_
        refine Ops.mv_int rfl rfl rfl ?_
        -- stop: INDEXADDR 33 t53 t54 -> 55
        refine Ops.idx hrowR.2 rfl rfl rfl (by omega) (by omega) ?_
        refine Ops.ld_int hrowR rfl (by omega) rfl rfl ?_
        rw [hxe]
        refine Ops.mv_int rfl rfl rfl ?_
        refine Ops.nil ?_
        refine thenQ_n ?_
        refine Cd.seq ?_
        refine Cd.region ?_
        refine Ops.mv_sl rfl rfl rfl ?_
        refine Ops.mv_int rfl rfl rfl ?_
        -- stop: INDEXADDR 33 t57 t58 -> 59
        refine Ops.idx hO.2 rfl rfl rfl hx.1 hx.2 ?_
        refine Ops.ld_int hO rfl (by omega) rfl rfl ?_
        refine Ops.lss rfl rfl rfl ?_
        refine Ops.mv_bool rfl rfl rfl ?_
        -- stop: guard 62
        refine Ops.split_p 62 rfl (fun h5 => ?_) (fun h5 => ?_)
        · refine Ops.rung rfl rfl rfl ?_
          refine Ops.mv_int rfl rfl rfl ?_
          refine Ops.rung rfl rfl rfl ?_
          refine Ops.mv_int rfl rfl rfl ?_
          refine Ops.rung rfl rfl rfl ?_
          refine Ops.neq rfl rfl rfl ?_
          refine Ops.pick_t rfl rfl rfl ?_
          refine Ops.nil ?_
          refine thenQ_n ?_
          -- stop: cond
          refine Cd.cond_p _ rfl (fun h6 => ?_) (fun h6 => ?_)
          · have hst : stepB wo u sj x = (sj.1.set x.toNat (gi sj.1 u + 1), sj.2 ++ [x]) := by unfold stepB; rw [if_pos ⟨h5, h6⟩]
            refine Cd.seq ?_
            refine Cd.region ?_
            refine Ops.mv_sl rfl rfl rfl ?_
            refine Ops.mv_int rfl rfl rfl ?_
            refine Ops.mv_sl rfl rfl rfl ?_
            refine Ops.mv_int rfl rfl rfl ?_
            -- stop: INDEXADDR 33 t69 t70 -> 71
            refine Ops.idx hO.2 rfl rfl rfl hur.1 hur.2 ?_
            refine Ops.ld_int hO rfl (by omega) rfl rfl ?_
            refine Ops.add rfl rfl rfl (by omega) ?_
            -- stop: INDEXADDR 33 t67 t68 -> 74
            refine Ops.idx hO.2 rfl rfl rfl hx.1 hx.2 ?_
            refine Ops.st_int 1 hS6 rfl rfl rfl (by omega) ?_
            intro w7 hS7
            refine Ops.nil ?_
            refine thenQ_n ?_
            refine Cd.region ?_
            refine Ops.mv_sl rfl rfl rfl ?_
            refine Ops.mv_int rfl rfl rfl ?_
            -- stop: BUILDSLICE 33 1 [('pair', [0, ('app', 'Go.Operand.tmp', [76])])] -> 77
            refine Ops.bs1I hS7 rfl rfl rfl ?_
            intro A12 w8 hS8
            refine Ops.appI 1 hS8 rfl (hS8.rdI 0 rfl) rfl rfl rfl (by omega) (by omega) rfl ?_
            intro A13 c13 w9 hS9
            refine Ops.mv_sl rfl rfl rfl ?_
            refine Ops.nil ?_
            refine blockQ_n ?_
            refine thenQ_n ?_
            refine Cd.region ?_
            refine Ops.mv_int rfl rfl rfl ?_
            refine Ops.add rfl rfl rfl (by omega) ?_
            refine Ops.mv_int rfl rfl rfl ?_
            refine Ops.nil ?_
            refine thenQ_n ?_
            -- stop: round
            have e2 : (sj.2 ++ [x]).length = sj.2.length + 1 := by simp
            refine ⟨(j + 1, A13, c13, stepB wo u sj x), by show _ - (j + 1) < _ - j; omega, ⟨rfl, rfl, rfl, by show Value.slice _ _ _ = .slice _ _ _; rw [hst]; show Value.slice _ _ _ = .slice _ (sj.2 ++ [x]).length _; rw [e2], rfl, rfl, rfl, trivial⟩, ?_, hj', hstep.symm⟩
            show St w w9 [CkI _ A13 (stepB wo u sj x).2.length c13 (stepB wo u sj x).2, CkI _ A7 k k (stepB wo u sj x).1]
            rw [hst]
            show St w w9 [CkI _ A13 (sj.2 ++ [x]).length c13 (sj.2 ++ [x]), CkI _ A7 k k (sj.1.set x.toNat (gi sj.1 u + 1))]
            rw [e2]
            exact hS9.tail
          · have hst : stepB wo u sj x = sj := by unfold stepB; rw [if_neg (fun h => h6 h.2)]
            rw [hst] at hstep
            refine Cd.skip ?_
            refine blockQ_n ?_
            refine thenQ_n ?_
            refine Cd.region ?_
            refine Ops.mv_int rfl rfl rfl ?_
            refine Ops.add rfl rfl rfl (by omega) ?_
            refine Ops.mv_int rfl rfl rfl ?_
            refine Ops.nil ?_
            refine thenQ_n ?_
            -- stop: round
            exact ⟨(j + 1, A11, c11, sj), by show _ - (j + 1) < _ - j; omega, ⟨rfl, rfl, rfl, rfl, rfl, rfl, rfl, trivial⟩, hS6, hj', hstep.symm⟩
        · have hst : stepB wo u sj x = sj := by unfold stepB; rw [if_neg (fun h => h5 h.1)]
          rw [hst] at hstep
          refine Ops.skipg rfl rfl rfl rfl rfl ?_
          refine Ops.skipg rfl rfl rfl rfl rfl ?_
          refine Ops.skipg rfl rfl rfl rfl rfl ?_
          refine Ops.pick_f rfl rfl rfl ?_
          refine Ops.nil ?_
          refine thenQ_n ?_
          -- stop: cond
          refine Cd.cond_f rfl ?_
          refine Cd.skip ?_
          refine blockQ_n ?_
          refine thenQ_n ?_
          refine Cd.region ?_
          refine Ops.mv_int rfl rfl rfl ?_
          refine Ops.add rfl rfl rfl (by omega) ?_
          refine Ops.mv_int rfl rfl rfl ?_
          refine Ops.nil ?_
          refine thenQ_n ?_
          -- stop: round
          exact ⟨(j + 1, A11, c11, sj), by show _ - (j + 1) < _ - j; omega, ⟨rfl, rfl, rfl, rfl, rfl, rfl, rfl, trivial⟩, hS6, hj', hstep.symm⟩
      · refine Cd.exit ?_
        refine thenQ_x ?_
        refine thenQ_x ?_
        refine blockQ_x ?_
        refine blockQ_n ?_
        refine thenQ_n ?_
        refine Cd.region ?_
        refine Ops.mv_int rfl rfl rfl ?_
        refine Ops.add rfl rfl rfl (by omega) ?_
        refine Ops.mv_int rfl rfl rfl ?_
        refine Ops.nil ?_
        refine thenQ_n ?_
        -- stop: round
        have hje : j = (gl next u).length := by omega
        subst hje
        rw [List.take_length] at hsj
        rw [← hsj] at hD
        exact ⟨(i + 1, A11, c11, sj), by show k + 1 - (i + 1) < k + 1 - i; omega, ⟨rfl, rfl, rfl, rfl, rfl, trivial⟩, hS6, hBj, by show i + 1 ≤ sj.2.length; have := hpre.length_le; omega, by show distP next wo v = bfsD next wo (k + 1 - (i + 1)) (i + 1) sj; rw [hD]; congr 1⟩
    · refine Cd.exit ?_
      refine thenQ_x ?_
      refine thenQ_x ?_
      refine blockQ_x ?_
      refine thenQ_n ?_
      refine Cd.seq ?_
      refine Cd.region ?_
      refine Ops.mv_sl rfl rfl rfl ?_
      refine Ops.mv_sl rfl rfl rfl ?_
      refine Ops.nil ?_
      refine thenQ_n ?_
      refine Cd.ret ?_
      refine ret1_s rfl ?_
      -- stop: end
      rw [bfsD_end (by omega)] at hD
      rw [hD]
      exact ⟨A7, rfl, hS5.tail⟩
end Go.Proofs.Ytgobjpcankaicaa.Vc
/-
  Distances and what is reached: the program's walks. Conditions: as each states them.
-/
namespace Go.Proofs.Ytgobjpcankaicaa.Vc
open Go.RowKit

theorem gi_drop (l : List Int) (i : Nat) : gi (l.drop i) 0 = gi l (i : Int) := by simp [gi, List.getD_eq_getElem?_getD, List.getElem?_drop]
/-- a list of one's own, cut at its head -/
theorem St.cutl {w0 w : World} {ks : List Ck} {i : Nat} {t : TypeId} {A : Option Addr} {n c l : Nat} {xs : List Int} (hS : St w0 w ks) (hk : ks[i]? = some (CkI t A n c xs)) (hl : l ≤ n) : St w0 w (ks.set i (CkI t (cutAt A c l) (n - l) (c - l) (xs.drop l))) := by
  have hxl := hS.lenI i hk
  obtain ⟨h1, h2, h3, h4⟩ := hS.get hk
  have h2 : n ≤ c := h2
  have h3 : c ≤ maxLen := h3
  rcases h4 with ⟨hA, hc0⟩ | ⟨g, o, cur, hA, hg, hh, hs, hc⟩
  · have hA : A = Option.none := hA
    have hc0 : c = 0 := hc0
    subst hA hc0
    obtain rfl : n = 0 := by omega
    obtain rfl : l = 0 := by omega
    obtain rfl := List.eq_nil_of_length_eq_zero hxl
    have e : cutAt Option.none 0 0 = Option.none := rfl
    rw [e]
    show St w0 w (ks.set i (CkI t Option.none 0 0 []))
    rw [set_id hk]
    exact hS
  · have hA : A = some ⟨g, o, Option.none⟩ := hA
    have hs : o + c ≤ cur.size := hs
    have hh : w.heap[g]? = some (.cells cur t (0, 0)) := hh
    have hc : ∀ j, j < n → cur[o + j]? = (xs.map (Value.int .i64))[j]? := hc
    subst hA
    have hcut : ∃ o', cutAt (some ⟨g, o, Option.none⟩) c l = some ⟨g, o', Option.none⟩ ∧ o' + (c - l) ≤ cur.size ∧ (0 < n - l → o' = o + l) := by
      unfold cutAt
      split
      · exact ⟨o, rfl, by omega, fun h => by omega⟩
      · exact ⟨o + l, by simp [ptrAt, add_none], by omega, fun _ => rfl⟩
    obtain ⟨o', e1, e2, e3⟩ := hcut
    refine hS.turn hk rfl (by simp [Ck.blk, e1]) ⟨⟨rfl, rfl, rfl, Nat.le_refl _, fun _ _ _ => rfl⟩, Nat.le_refl _⟩ ⟨by simp [hxl], by show n - l ≤ c - l; omega, by show c - l ≤ maxLen; omega, .inr ⟨g, o', cur, e1, hg, hh, e2, fun j hj => ?_⟩⟩
    have hj : j < n - l := hj
    show cur[o' + j]? = ((xs.drop l).map (Value.int .i64))[j]?
    rw [e3 (Nat.zero_lt_of_lt hj), Nat.add_assoc, hc (l + j) (Nat.add_lt_of_lt_sub' hj)]
    simp [List.getElem?_drop]

theorem graphDistances_c (A : Option Addr) (n c : Nat) (rs : List SlV) (next : List (List Int)) (v : Int) (w : World) (hR : RowsI w A n rs next) (hg : Gr n next) (h0 : 0 ≤ v) (h1 : v < n) :
    Ret Try.prog 66 [.slice A n c, .int .i64 v] w (fun r w' => ∃ A', r = .slice A' n n ∧ St w w' [CkI 2 A' n n (distP next (-1) v).1]) := by
  have hl := hg.len
  have hsm := hg.small
  refine Ret.of_cd Try.func66 rfl Try.ntmps66 rfl (post1 rfl) ?_
  refine Cd.seq ?_
  refine Cd.region ?_
  refine Ops.mv_sl rfl rfl rfl ?_
  refine Ops.nil ?_
  refine thenQ_n ?_
  refine Cd.seq ?_
  refine Cd.region ?_
  -- stop: BUILDSLICE 33 1 [('pair', [0, ('app', 'Go.Operand.const', [('app', 'Go.Value.int', ['Go.IntKind.i64', -1])])])] -> 9
  refine Ops.bs1I (St.refl w) rfl rfl rfl ?_
  intro A1 w1 hS1
  refine Ops.mv_sl rfl rfl rfl ?_
  refine Ops.len rfl rfl ?_
  -- stop: CALL slices.Repeat[[]int64,int64](t9, t11) -> 12
  refine Ops.call (Repeat_c A1 1 (-1) n _ (hS1.rdI 0 rfl) (by omega)) rfl rfl rfl ?_
  rintro _ w2 ⟨A5, rfl, hst⟩
  have hS2 := (hS1.call hst).sub (List.Sublist.cons_cons _ (List.nil_sublist _))
  refine Ops.mv_sl rfl rfl rfl ?_
  refine Ops.nil ?_
  refine thenQ_n ?_
  refine Cd.seq ?_
  refine Cd.region ?_
  refine Ops.mv_sl rfl rfl rfl ?_
  refine Ops.mv_int rfl rfl rfl ?_
  -- stop: INDEXADDR 33 t13 t14 -> 15
  refine Ops.idx (hS2.rdI 0 rfl).2 rfl rfl rfl h0 h1 ?_
  refine Ops.st_int 0 hS2 rfl rfl rfl (by omega) ?_
  intro w3 hS3
  refine Ops.nil ?_
  refine thenQ_n ?_
  refine Cd.seq ?_
  refine Cd.seq ?_
  refine Cd.region ?_
  refine Ops.mv_int rfl rfl rfl ?_
  -- stop: BUILDSLICE 33 1 [('pair', [0, ('app', 'Go.Operand.tmp', [16])])] -> 17
  refine Ops.bs1I hS3 rfl rfl rfl ?_
  intro A6 w4 hS4
  have hS4 : St w w4 [CkI 2 A6 ((initB n v).2.length - 0) 1 ((initB n v).2.drop 0), CkI 2 A5 n n (initB n v).1] := hS4
  have hfin : distP next (-1) v = bfsD next (-1) (n + 1 - 0) 0 (initB n v) := by unfold distP; rw [hl]; rfl
  refine Ops.mv_sl rfl rfl rfl ?_
  refine Ops.nil ?_
  refine thenQ_n ?_
  refine Cd.block ?_
  -- stop: loop
  refine Cd.loop (α := Nat × Option Addr × Nat × (List Int × List Int)) (fun z => [(0, .slice A n c), (5, .slice A5 n n), (6, .slice z.2.1 (z.2.2.2.2.length - z.1) z.2.2.1)])
    (fun z w' => St w w' [CkI 2 z.2.1 (z.2.2.2.2.length - z.1) z.2.2.1 (z.2.2.2.2.drop z.1), CkI 2 A5 n n z.2.2.2.1] ∧ BF n z.2.2.2 ∧ z.1 ≤ z.2.2.2.2.length ∧ distP next (-1) v = bfsD next (-1) (n + 1 - z.1) z.1 z.2.2.2)
    (fun z => n + 1 - z.1) (0, A6, 1, initB n v) ⟨rfl, rfl, rfl, trivial⟩ ⟨hS4, BF.init h0 h1, Nat.zero_le _, hfin⟩ ?_
  rintro ⟨i, A10, c10, st⟩ e w5 ⟨hS5, hB, hi, hD⟩
  dsimp only at hS5 hB hi hD ⊢
  have hql := hB.len2
  refine Cd.seq ?_
  refine Cd.seq ?_
  refine Cd.region ?_
  refine Ops.mv_sl rfl rfl rfl ?_
  refine Ops.len rfl rfl ?_
  refine Ops.gtr rfl rfl rfl ?_
  refine Ops.nil ?_
  refine thenQ_n ?_
  -- stop: cond
  refine Cd.cond_p _ rfl (fun h3 => ?_) (fun h3 => ?_)
  · have hi' : i < st.2.length := by omega
    have hQ := hS5.rdI 0 rfl
    have hum : gi st.2 (i : Int) ∈ st.2 := gi_in hi'
    have hur := hB.rng _ hum
    have hrow := hg.row (gi st.2 (i : Int)) hur.1
    have hR5 := hS5.oldRows hR
    rw [bfsD_go hi' (by omega)] at hD
    refine Cd.skip ?_
    refine thenQ_n ?_
    refine Cd.seq ?_
    refine Cd.block ?_
    refine Cd.seq ?_
    refine Cd.region ?_
    refine Ops.mv_sl rfl rfl rfl ?_
    refine Ops.mv_sl rfl rfl rfl ?_
    -- stop: INDEXADDR 33 t24 0 -> 25
    refine Ops.idx hQ.2 rfl rfl rfl (by omega) (by omega) ?_
    refine Ops.ld_int hQ rfl (by omega) rfl rfl ?_
    rw [gi_drop]
    generalize hu : gi st.2 (i : Int) = u at *
    have hnr : (gl next u).length = (rg rs u).n := hR.rowLen hur.1 hur.2
    refine Ops.idx hR5.top.2 rfl rfl rfl hur.1 hur.2 ?_
    refine Ops.ld_sl hR5.top rfl (by omega) rfl rfl ?_
    refine Ops.len rfl rfl ?_
    refine Ops.mv_int rfl rfl rfl ?_
    refine Ops.nil ?_
    refine thenQ_n ?_
    refine Cd.block ?_
    -- stop: loop
    refine Cd.loop (α := Nat × Option Addr × Nat × (List Int × List Int)) (fun z => [(0, .slice A n c), (5, .slice A5 n n), (6, .slice z.2.1 (z.2.2.2.2.length - i) z.2.2.1), (28, .slice (rg rs u).a (rg rs u).n (rg rs u).c), (29, .int .i64 ((rg rs u).n : Int)), (30, .int .i64 (z.1 : Int))])
      (fun z w' => St w w' [CkI 2 z.2.1 (z.2.2.2.2.length - i) z.2.2.1 (z.2.2.2.2.drop i), CkI 2 A5 n n z.2.2.2.1] ∧ z.1 ≤ (gl next u).length ∧ z.2.2.2 = rowB (-1) u ((gl next u).take z.1) st)
      (fun z => (gl next u).length - z.1) (0, A10, c10, st) ⟨rfl, rfl, rfl, rfl, rfl, rfl, trivial⟩ ⟨hS5, Nat.zero_le _, rfl⟩ ?_
    rintro ⟨j, A11, c11, sj⟩ e w6 ⟨hS6, hj, hsj⟩
    dsimp only at hS6 hj hsj ⊢
    obtain ⟨hBj, hpre⟩ := BF.row (wo := -1) ((gl next u).take j) hB hum (fun x hx => hrow.1 x (List.mem_of_mem_take hx))
    rw [← hsj] at hBj hpre
    have hR6 := hS6.oldRows hR
    have hqj := hBj.len2
    have hlj := hBj.len
    have hpl := hpre.length_le
    have hui : gi sj.2 (i : Int) = u := by rw [← hu]; exact gi_prefix hpre hi'
    refine Cd.seq ?_
    refine Cd.region ?_
    refine Ops.lss rfl rfl rfl ?_
    refine Ops.nil ?_
    refine thenQ_n ?_
    refine Cd.seq ?_
    -- stop: cond
    refine Cd.cond_p _ rfl (fun h4 => ?_) (fun h4 => ?_)
    · have hj' : j < (gl next u).length := by omega
      have hrowR := hR6.at_ (i := u) hur.1 hur.2
      have hxm : gi (gl next u) (j : Int) ∈ gl next u := gi_in hj'
      have hx := hrow.1 _ hxm
      have hstep : rowB (-1) u ((gl next u).take (j + 1)) st = stepB (-1) u sj (gi (gl next u) (j : Int)) := by rw [take_succ_gi hj', rowB_snoc, ← hsj]
      have hO := hS6.rdI 1 rfl
      have hQj := hS6.rdI 0 rfl
      have hgu := hBj.val _ (gi_in2 (l := sj.1) hur.1 (by omega))
      refine Cd.skip ?_
      refine thenQ_n ?_
      refine Cd.seq ?_
      refine Cd.block ?_
      refine Cd.seq ?_
      refine Cd.region ?_
      -- stop: INDEXADDR 33 t28 t30 -> 32
      refine Ops.idx hrowR.2 rfl rfl rfl (by omega) (by omega) ?_
      refine Ops.ld_int hrowR rfl (by omega) rfl rfl ?_
      generalize hxe : gi (gl next u) (j : Int) = x at *
      refine Ops.mv_int rfl rfl rfl ?_
      refine Ops.nil ?_
      refine thenQ_n ?_
      refine Cd.seq ?_
      refine Cd.region ?_
      refine Ops.mv_sl rfl rfl rfl ?_
      refine Ops.mv_int rfl rfl rfl ?_
      -- stop: INDEXADDR 33 t34 t35 -> 36
      refine Ops.idx hO.2 rfl rfl rfl hx.1 hx.2 ?_
      refine Ops.ld_int hO rfl (by omega) rfl rfl ?_
      refine Ops.lss rfl rfl rfl ?_
      refine Ops.nil ?_
      refine thenQ_n ?_
      -- stop: cond
      refine Cd.cond_p _ rfl (fun h5 => ?_) (fun h5 => ?_)
      · have hst : stepB (-1) u sj x = (sj.1.set x.toNat (gi sj.1 u + 1), sj.2 ++ [x]) := by unfold stepB; rw [if_pos ⟨h5, by omega⟩]
        refine Cd.seq ?_
        refine Cd.region ?_
        refine Ops.mv_sl rfl rfl rfl ?_
        refine Ops.mv_int rfl rfl rfl ?_
        refine Ops.mv_sl rfl rfl rfl ?_
        refine Ops.mv_sl rfl rfl rfl ?_
        -- stop: INDEXADDR 33 t42 0 -> 43
        refine Ops.idx hQj.2 rfl rfl rfl (by omega) (by omega) ?_
        refine Ops.ld_int hQj rfl (by show Int.toNat 0 < _; rw [show Int.toNat 0 = 0 from rfl]; omega) rfl rfl ?_
        rw [gi_drop, hui]
        refine Ops.idx hO.2 rfl rfl rfl hur.1 hur.2 ?_
        refine Ops.ld_int hO rfl (by omega) rfl rfl ?_
        refine Ops.add rfl rfl rfl (by omega) ?_
        -- stop: INDEXADDR 33 t39 t40 -> 48
        refine Ops.idx hO.2 rfl rfl rfl hx.1 hx.2 ?_
        refine Ops.st_int 1 hS6 rfl rfl rfl (by omega) ?_
        intro w7 hS7
        refine Ops.nil ?_
        refine thenQ_n ?_
        refine Cd.region ?_
        refine Ops.mv_sl rfl rfl rfl ?_
        refine Ops.mv_int rfl rfl rfl ?_
        -- stop: BUILDSLICE 33 1 [('pair', [0, ('app', 'Go.Operand.tmp', [50])])] -> 51
        refine Ops.bs1I hS7 rfl rfl rfl ?_
        intro A12 w8 hS8
        refine Ops.appI 1 hS8 rfl (hS8.rdI 0 rfl) rfl rfl rfl (by omega) (by omega) rfl ?_
        intro A13 c13 w9 hS9
        refine Ops.mv_sl rfl rfl rfl ?_
        refine Ops.nil ?_
        refine blockQ_n ?_
        refine thenQ_n ?_
        refine Cd.region ?_
        refine Ops.add rfl rfl rfl (by omega) ?_
        refine Ops.mv_int rfl rfl rfl ?_
        refine Ops.nil ?_
        refine thenQ_n ?_
        -- stop: round
        have e2 : (sj.2 ++ [x]).length - i = sj.2.length - i + 1 := by simp; omega
        have e3 : (sj.2 ++ [x]).drop i = sj.2.drop i ++ [x] := List.drop_append_of_le_length (by omega)
        refine ⟨(j + 1, A13, c13, stepB (-1) u sj x), by show _ - (j + 1) < _ - j; omega, ⟨rfl, rfl, by show Value.slice _ _ _ = .slice _ _ _; rw [hst]; show Value.slice _ _ _ = .slice _ ((sj.2 ++ [x]).length - i) _; rw [e2], rfl, rfl, rfl, trivial⟩, ?_, hj', hstep.symm⟩
        show St w w9 [CkI _ A13 ((stepB (-1) u sj x).2.length - i) c13 ((stepB (-1) u sj x).2.drop i), CkI _ A5 n n (stepB (-1) u sj x).1]
        rw [hst]
        show St w w9 [CkI _ A13 ((sj.2 ++ [x]).length - i) c13 ((sj.2 ++ [x]).drop i), CkI _ A5 n n (sj.1.set x.toNat (gi sj.1 u + 1))]
        rw [e2, e3]
        exact hS9.tail
      · have hst : stepB (-1) u sj x = sj := by unfold stepB; rw [if_neg (fun h => h5 h.1)]
        rw [hst] at hstep
        refine Cd.skip ?_
        refine blockQ_n ?_
        refine thenQ_n ?_
        refine Cd.region ?_
        refine Ops.add rfl rfl rfl (by omega) ?_
        refine Ops.mv_int rfl rfl rfl ?_
        refine Ops.nil ?_
        refine thenQ_n ?_
        -- stop: round
        exact ⟨(j + 1, A11, c11, sj), by show _ - (j + 1) < _ - j; omega, ⟨rfl, rfl, rfl, rfl, rfl, rfl, trivial⟩, hS6, hj', hstep.symm⟩
    · refine Cd.exit ?_
      refine thenQ_x ?_
      refine thenQ_x ?_
      refine blockQ_x ?_
      refine blockQ_n ?_
      refine thenQ_n ?_
      refine Cd.region ?_
      refine Ops.mv_sl rfl rfl rfl ?_
      -- stop: SLICE 33 t21 some 1 none none -> 22
      have hje : j = (gl next u).length := by omega
      subst hje
      rw [List.take_length] at hsj
      rw [← hsj] at hD
      refine Ops.cut_l rfl rfl rfl (by omega) ?_
      have hS7 := hS6.cutl (i := 0) rfl (show 1 ≤ sj.2.length - i by omega)
      have e2 : sj.2.length - i - 1 = sj.2.length - (i + 1) := by omega
      have e3 : (sj.2.drop i).drop 1 = sj.2.drop (i + 1) := by rw [List.drop_drop]
      refine Ops.mv_sl rfl rfl rfl ?_
      refine Ops.nil ?_
      refine thenQ_n ?_
      -- stop: round
      refine ⟨(i + 1, cutAt A11 c11 1, c11 - 1, sj), by show n + 1 - (i + 1) < n + 1 - i; omega, ⟨rfl, rfl, by show Value.slice _ _ _ = .slice _ _ _; rw [← e2]; rfl, trivial⟩, ?_, hBj, by show i + 1 ≤ sj.2.length; omega, by show distP next (-1) v = bfsD next (-1) (n + 1 - (i + 1)) (i + 1) sj; rw [hD]; congr 1⟩
      show St w w6 [CkI _ (cutAt A11 c11 1) (sj.2.length - (i + 1)) (c11 - 1) (sj.2.drop (i + 1)), _]
      rw [← e2, ← e3]
      exact hS7
  · refine Cd.exit ?_
    refine thenQ_x ?_
    refine thenQ_x ?_
    refine blockQ_x ?_
    refine thenQ_n ?_
    refine Cd.seq ?_
    refine Cd.region ?_
    refine Ops.mv_sl rfl rfl rfl ?_
    refine Ops.mv_sl rfl rfl rfl ?_
    refine Ops.nil ?_
    refine thenQ_n ?_
    refine Cd.ret ?_
    refine ret1_s rfl ?_
    -- stop: end
    rw [bfsD_end (by omega)] at hD
    rw [hD]
    exact ⟨A5, rfl, hS5.tail⟩
end Go.Proofs.Ytgobjpcankaicaa.Vc
/-
  The graph of a maniplex with its code, and distances from a vertex on both sides. Conditions: as each states them.
-/
namespace Go.Proofs.Ytgobjpcankaicaa.Vc
open Go.RowKit

theorem nb_gr {xss : List (List Int)} (hM : Mani xss) : Gr (vertsN xss) (nbL xss) := by
  have hsm := nb_small hM
  have hin := arcs_in (En := endsL xss) (b := (vertsN xss : Int)) (fun e => endsL_mem hM e (by omega)) (edgesN xss)
  refine ⟨nbL_len xss, hsm.2.1, fun u hu => ⟨fun x hx => ?_, ?_⟩⟩
  · rw [nbL, gl_endsP, cs_mem] at hx
    exact bagP_mem _ hin u hu x hx
  · have h1 := endsP_row (m := vertsN xss) (ps := arcs (endsL xss) (edgesN xss)) (fun p hp => (hin p hp).1) u hu
    have h2 := arcs_len (endsL xss) (edgesN xss)
    show (gl (endsP _ _) _).length ≤ _
    omega
def goK (xss : List (List Int)) (vs : List Int) : Int := if ¬ Grph xss then 1 else if ¬ allIn 0 ((vertsN xss : Int) - 1) vs then 2 else 0
def goL (xss : List (List Int)) (vs : List Int) : List (List Int) := if Grph xss ∧ allIn 0 ((vertsN xss : Int) - 1) vs then nbL xss else []
theorem goK_zero {xss : List (List Int)} {vs : List Int} (h : goK xss vs = 0) : Grph xss ∧ allIn 0 ((vertsN xss : Int) - 1) vs := by
  unfold goK at h
  split at h
  · cases h
  · rename_i h1
    split at h
    · cases h
    · rename_i h2
      exact ⟨Classical.not_not.1 h1, Classical.not_not.1 h2⟩

theorem graphOf_c (A : Option Addr) (n c : Nat) (rs : List SlV) (xss : List (List Int)) (Av : Option Addr) (nv cv : Nat) (vs : List Int) (w : World) (hR : RowsI w A n rs xss) (hn : n ≤ c) (hc : c ≤ 9223372036854775807) (hV : RdI w Av nv vs) (hnv : nv ≤ 9223372036854775807) :
    Ret Try.prog 60 [.agg #[.slice A n c], .slice Av nv cv] w (AnsSS (goL xss vs) (goK xss vs) w) := by
  refine Ret.of_cd Try.func60 rfl Try.ntmps60 rfl (post2 rfl) ?_
  refine Cd.seq ?_
  refine Cd.region ?_
  -- stop: BOX 24 t0=m -> 2
  refine Ops.box1 (St.refl w) rfl rfl ?_
  intro Ab w1 hS1
  refine Ops.mv_sl rfl rfl rfl ?_
  refine Ops.mv_int rfl rfl rfl ?_
  refine Ops.nil ?_
  refine thenQ_n ?_
  refine Cd.seq ?_
  refine Cd.seq ?_
  refine Cd.region ?_
  -- stop: LOAD 24 t2=m -> 7
  refine Ops.ld_agg 0 (hS1.rd 0 rfl) rfl rfl rfl ?_
  refine Ops.call (isGraphed_c A n c rs xss _ (hS1.oldRows hR) hn hc) rfl rfl rfl ?_
  rintro _ w2 ⟨rfl, hst⟩
  have hS2 := hS1.later hst.below
  first | refine Ops.not_p rfl rfl ?_ | refine Ops.not rfl rfl ?_
  refine Ops.nil ?_
  refine thenQ_n ?_
  -- stop: cond
  refine Cd.cond_p _ rfl (fun h => ?_) (fun h => ?_)
  · refine Cd.seq ?_
    refine Cd.region ?_
    refine Ops.mv_sl rfl rfl rfl ?_
    refine Ops.mv_int rfl rfl rfl ?_
    refine Ops.nil ?_
    refine thenQ_n ?_
    refine Cd.ret ?_
    refine thenQ_r ?_
    refine ret2_si rfl rfl ?_
    -- stop: end
    rw [goK, if_pos h, goL, if_neg (fun h2 => h h2.1)]
    exact AnsSS.none hS2
  · have hG : Grph xss := Classical.not_not.1 h
    have hsm := nb_small hG.1
    refine Cd.skip ?_
    refine thenQ_n ?_
    refine Cd.seq ?_
    refine Cd.region ?_
    -- stop: LOAD 24 t2=m -> 10
    refine Ops.ld_agg 0 (hS2.rd 0 rfl) rfl rfl rfl ?_
    refine Ops.call (neighboursOf_c A n c rs xss _ (hS2.oldRows hR) hG) rfl rfl rfl ?_
    rintro _ w3 ⟨A3, rs3, rfl, hrl, hst⟩
    have hS3 := hS2.none.call hst
    rw [List.append_nil] at hS3
    refine Ops.mv_sl rfl rfl rfl ?_
    refine Ops.nil ?_
    refine thenQ_n ?_
    refine Cd.seq ?_
    refine Cd.seq ?_
    refine Cd.region ?_
    refine Ops.mv_sl rfl rfl rfl ?_
    refine Ops.mv_sl rfl rfl rfl ?_
    -- stop: CALL impl.size[[]int64](t13) -> 14
    refine Ops.call (sizeR_c _ _ _ _) rfl rfl rfl ?_
    rintro _ w3 ⟨rfl, rfl⟩
    refine Ops.sub rfl rfl rfl (by omega) ?_
    -- stop: CALL impl.areWithin(t12, 0, t15) -> 16
    refine Ops.call (areWithin_c Av nv cv vs 0 _ _ (hS3.oldI hV) hnv) rfl rfl rfl ?_
    rintro _ w4 ⟨rfl, hst4⟩
    have hS4 := hS3.later hst4.below
    first | refine Ops.not_p rfl rfl ?_ | refine Ops.not rfl rfl ?_
    refine Ops.nil ?_
    refine thenQ_n ?_
    -- stop: cond
    refine Cd.cond_p _ rfl (fun h2 => ?_) (fun h2 => ?_)
    · refine Cd.seq ?_
      refine Cd.region ?_
      refine Ops.mv_sl rfl rfl rfl ?_
      refine Ops.mv_int rfl rfl rfl ?_
      refine Ops.nil ?_
      refine thenQ_n ?_
      refine Cd.ret ?_
      refine thenQ_r ?_
      refine ret2_si rfl rfl ?_
      -- stop: end
      rw [goK, if_neg h, if_pos h2, goL, if_neg (fun h3 => h2 h3.2)]
      exact AnsSS.none hS4
    · have hA := Classical.not_not.1 h2
      refine Cd.skip ?_
      refine thenQ_n ?_
      refine Cd.seq ?_
      refine Cd.region ?_
      refine Ops.mv_sl rfl rfl rfl ?_
      refine Ops.mv_sl rfl rfl rfl ?_
      refine Ops.mv_int rfl rfl rfl ?_
      refine Ops.nil ?_
      refine thenQ_n ?_
      refine Cd.ret ?_
      refine ret2_si rfl rfl ?_
      -- stop: end
      rw [goK, if_neg h, if_neg h2, goL, if_pos ⟨hG, hA⟩]
      refine ⟨A3, vertsN xss, rs3, by rw [nbL_len], by rw [nbL_len]; exact hrl, ?_⟩
      rw [nbL_len]
      exact hS4

theorem allIn_one (lo hi v : Int) : allIn lo hi [v] ↔ lo ≤ v ∧ v ≤ hi := by simp [allIn]
theorem l18Code_c (A : Option Addr) (n c : Nat) (rs : List SlV) (xss : List (List Int)) (v : Int) (w : World) (hR : RowsI w A n rs xss) (hn : n ≤ 9223372036854775807) :
    Ret Try.prog 64 [.agg #[.slice A n c], .int .i64 v] w (fun r w' => r = .int .i64 (goK xss [v]) ∧ St w w' []) := by
  have hl := hR.len
  refine Ret.of_cd Try.func64 rfl Try.ntmps64 rfl (post1 rfl) ?_
  refine Cd.seq ?_
  refine Cd.region ?_
  -- stop: BOX 24 t0=m -> 2
  refine Ops.box1 (St.refl w) rfl rfl ?_
  intro Ab w1 hS
  refine Ops.mv_int rfl rfl rfl ?_
  refine Ops.nil ?_
  refine thenQ_n ?_
  refine Cd.seq ?_
  refine Cd.block ?_
  refine Cd.seq ?_
  refine Cd.region ?_
  -- stop: LOAD 24 t2=m -> 6
  refine Ops.ld_agg 0 (hS.rd 0 rfl) rfl rfl rfl ?_
  refine Ops.call (l18Is_c A n c rs xss _ (hS.oldRows hR) hn) rfl rfl rfl ?_
  rintro _ w2 ⟨rfl, hst⟩
  have hS := hS.later hst.below
  first | refine Ops.not_p rfl rfl ?_ | refine Ops.not rfl rfl ?_
  refine Ops.mv_bool rfl rfl rfl ?_
  refine Ops.nil ?_
  refine thenQ_n ?_
  -- stop: cond
  refine Cd.cond_p _ rfl (fun h1 => ?_) (fun h1 => ?_)
  · refine Cd.seq ?_
    refine Cd.region ?_
    refine Ops.mv_int rfl rfl rfl ?_
    refine Ops.nil ?_
    refine thenQ_n ?_
    refine Cd.ret ?_
    refine blockQ_r ?_
    refine thenQ_r ?_
    refine ret1_i rfl ?_
    -- stop: end
    exact ⟨by rw [goK, if_pos h1], hS.none⟩
  · have hG : Grph xss := Classical.not_not.1 h1
    have hM := hG.1
    have hsm := nb_small hM
    have h5 := hM.1
    have hmN : ((vertsN xss : Nat) : Int) = facesN xss 0 := by have := facesN_le xss 0; unfold vertsN; omega
    have hEx : ∀ x ∈ facesL xss 0, x ≤ 1000000 := fun x hx => by
      obtain ⟨k, hk, rfl⟩ := List.mem_iff_getElem.1 hx
      have := faces_in hM 0 k (by rw [← facesL_len xss 0]; exact hk)
      rw [gi_mem hk] at this
      omega
    refine Cd.seq ?_
    refine Cd.region ?_
    refine Ops.mv_int rfl rfl rfl ?_
    -- stop: LOAD 24 t2=m -> 11
    refine Ops.ld_agg 0 (hS.rd 0 rfl) rfl rfl rfl ?_
    refine Ops.call (l02Faces_c A n c rs xss 0 _ (hS.oldRows hR) hM (by omega)) rfl rfl rfl ?_
    rintro _ w3 ⟨A4, c4, rfl, hst4⟩
    have hS := hS.later hst4.below
    refine Ops.call (l02Greatest_c A4 _ c4 (facesL xss 0) w3 (hst4.rdI 0 rfl) (by omega) hEx) rfl rfl rfl ?_
    rintro _ w3 ⟨rfl, rfl⟩
    rw [faces_grt hM 0, ← hmN]
    refine Ops.sub rfl rfl rfl (by omega) ?_
    -- stop: CALL spec.l01In(t10, 0, t14) -> 15
    refine Ops.call (l01In_c _ _ _ _) rfl rfl rfl ?_
    rintro _ w3 ⟨rfl, rfl⟩
    first | refine Ops.not_p rfl rfl ?_ | refine Ops.not rfl rfl ?_
    refine Ops.mv_bool rfl rfl rfl ?_
    refine Ops.nil ?_
    refine thenQ_n ?_
    -- stop: cond
    refine Cd.cond_p _ rfl (fun h2 => ?_) (fun h2 => ?_)
    · refine Cd.seq ?_
      refine Cd.region ?_
      refine Ops.mv_int rfl rfl rfl ?_
      refine Ops.nil ?_
      refine thenQ_n ?_
      refine Cd.ret ?_
      refine blockQ_r ?_
      refine thenQ_r ?_
      refine ret1_i rfl ?_
      -- stop: end
      exact ⟨by rw [goK, if_neg h1, if_pos (fun h => h2 ((allIn_one _ _ _).1 h))], hS.none⟩
    · refine Cd.skip ?_
      refine blockQ_n ?_
      refine thenQ_n ?_
      refine Cd.seq ?_
      refine Cd.region ?_
      refine Ops.mv_int rfl rfl rfl ?_
      refine Ops.nil ?_
      refine thenQ_n ?_
      refine Cd.ret ?_
      refine ret1_i rfl ?_
      -- stop: end
      exact ⟨by rw [goK, if_neg h1, if_neg (fun h => h ((allIn_one _ _ _).2 (Classical.not_not.1 h2)))], hS.none⟩

def vdL (xss : List (List Int)) (v : Int) : List Int := if goK xss [v] = 0 then (distP (nbL xss) (-1) v).1 else []
theorem AnsR.mk {w w' : World} {A : Option Addr} {L : List Int} {n c : Nat} {K : Int} (hl : L.length = n) (h : St w w' [CkI 2 A n c L]) : AnsR L K w (.tuple #[.slice A n c, .int .i64 K]) w' := by
  subst hl
  exact ⟨A, c, rfl, h⟩

theorem bfs_BF {n : Nat} {next : List (List Int)} {wo : Int} (hg : Gr n next) : ∀ (f i : Nat) (st : List Int × List Int), BF n st → BF n (bfsD next wo f i st)
  | 0, _, _, h => h
  | f + 1, i, st, h => by
    rw [bfsD]
    split
    · rename_i hi
      have hum : gi st.2 (i : Int) ∈ st.2 := gi_in hi
      exact bfs_BF hg f _ _ (BF.row (wo := wo) _ h hum (hg.row _ (h.rng _ hum).1).1).1
    · exact h
theorem dist_BF {n : Nat} {next : List (List Int)} {wo v : Int} (hg : Gr n next) (h0 : 0 ≤ v) (h1 : v < n) : BF n (distP next wo v) := by
  unfold distP
  rw [hg.len]
  exact bfs_BF hg _ _ _ (BF.init h0 h1)

theorem vd_bd (xss : List (List Int)) (v : Int) : (vdL xss v).length ≤ 1000 := by
  unfold vdL
  split
  · rename_i hK
    obtain ⟨hG, hA⟩ := goK_zero hK
    have hv := (allIn_one _ _ _).1 hA
    have hsm := nb_small hG.1
    have hB := dist_BF (wo := -1) (nb_gr hG.1) hv.1 (by omega)
    have := hB.len
    omega
  · exact Nat.zero_le _
end Go.Proofs.Ytgobjpcankaicaa.Vc
/-
  Plain mathematics of the graph of a maniplex: its vertices hang together, neighbours are neighbours of each other, and what a search by distances finds. Conditions: as each states them. No program in sight.
-/
namespace Go.Proofs.Ytgobjpcankaicaa.Vc

/-! labels and orbits -/
theorem lab_reach {N : Nat} {xss : List (List Int)} (hs : Sys N xss) (hi' : Inj N xss) {x y : Int} (h0 : 0 ≤ x) (h1 : x < N) (hr : Reach xss x y) : ∀ i, i ≤ N → gi (lab N xss i).1 x = gi (lab N xss i).1 y
  | 0, _ => by
    have hy := hr.range hs h0 h1
    simp only [lab, gi_rep h0 h1, gi_rep hy.1 hy.2]
  | i + 1, hi => by
    have hy := hr.range hs h0 h1
    have ih := lab_reach hs hi' h0 h1 hr i (by omega)
    have ho := orbit_spec hs (pt := (i : Int)) (by omega) (by omega)
    simp only [lab]
    split
    · exact ih
    · simp only
      rw [gi_paint _ _ _ (lab_length N xss i) ho.1.range x h0, gi_paint _ _ _ (lab_length N xss i) ho.1.range y hy.1]
      have hm : x ∈ orbit N xss i ↔ y ∈ orbit N xss i := by
        rw [ho.2.2, ho.2.2]
        exact ⟨fun h => h.trans hr, fun h => h.trans (hr.symm hs hi' h0 h1)⟩
      by_cases h : x ∈ orbit N xss i
      · rw [if_pos h, if_pos (hm.1 h)]
      · rw [if_neg h, if_neg (fun h' => h (hm.2 h')), ih]
theorem lab_conv {N : Nat} {xss : List (List Int)} (hs : Sys N xss) (hi' : Inj N xss) {x y : Int} (h0 : 0 ≤ x) (h1 : x < N) (h2 : 0 ≤ y) (h3 : y < N) : ∀ i, i ≤ N → gi (lab N xss i).1 x = gi (lab N xss i).1 y → 0 ≤ gi (lab N xss i).1 x → Reach xss x y
  | 0, _, _, h => by simp only [lab, gi_rep h0 h1] at h; omega
  | i + 1, hi, he, hp => by
    have ih := lab_conv hs hi' h0 h1 h2 h3 i (by omega)
    have ho := orbit_spec hs (pt := (i : Int)) (by omega) (by omega)
    have hc := lab_count N xss i
    have hx := (lab_in hs hi' i (by omega)).1 x h0 h1
    have hy := (lab_in hs hi' i (by omega)).1 y h2 h3
    simp only [lab] at he hp
    split at he
    · rename_i hl
      rw [if_pos hl] at hp
      exact ih he hp
    · rename_i hl
      rw [if_neg hl] at hp
      simp only at he hp
      rw [gi_paint _ _ _ (lab_length N xss i) ho.1.range x h0] at he hp
      rw [gi_paint _ _ _ (lab_length N xss i) ho.1.range y h2] at he
      by_cases hxo : x ∈ orbit N xss i
      · rw [if_pos hxo] at he
        by_cases hyo : y ∈ orbit N xss i
        · exact (((ho.2.2 x).1 hxo).symm hs hi' (by omega) (by omega)).trans ((ho.2.2 y).1 hyo)
        · rw [if_neg hyo] at he; omega
      · rw [if_neg hxo] at he hp
        by_cases hyo : y ∈ orbit N xss i
        · rw [if_pos hyo] at he; omega
        · rw [if_neg hyo] at he; exact ih he hp

theorem erase_mem {xss : List (List Int)} {i k : Nat} (hk : k < xss.length) (hne : k ≠ i) : gl xss k ∈ xss.eraseIdx i := by
  rw [List.mem_eraseIdx_iff_getElem]
  exact ⟨k, hk, hne, by rw [gl_mem hk]⟩
theorem erase_of {xss : List (List Int)} {i : Nat} {p : List Int} (h : p ∈ xss.eraseIdx i) : ∃ k : Nat, k < xss.length ∧ k ≠ i ∧ p = gl xss k := by
  rw [List.mem_eraseIdx_iff_getElem] at h
  obtain ⟨k, hk, hne, rfl⟩ := h
  exact ⟨k, hk, hne, by rw [gl_mem hk]⟩
/-- a move keeps the faces of all ranks but its own -/
theorem faces_move {xss : List (List Int)} (hM : Mani xss) {i k : Nat} (hk : k < xss.length) (hne : k ≠ i) {f : Int} (h0 : 0 ≤ f) (h1 : f < (gl xss 0).length) : gi (facesL xss i) (gi (gl xss k) f) = gi (facesL xss i) f :=
  (lab_reach (hM.2.2.1.sys.erase i) (hM.2.2.1.inj.erase i) h0 h1 (.step .refl (erase_mem hk hne)) _ (Nat.le_refl _)).symm
theorem faces_same {xss : List (List Int)} (hM : Mani xss) {i : Nat} {f g : Int} (h0 : 0 ≤ f) (h1 : f < (gl xss 0).length) (h2 : 0 ≤ g) (h3 : g < (gl xss 0).length) (h : gi (facesL xss i) f = gi (facesL xss i) g) : Reach (xss.eraseIdx i) f g := by
  obtain ⟨k, rfl⟩ : ∃ k : Nat, f = k := ⟨f.toNat, by omega⟩
  exact lab_conv (hM.2.2.1.sys.erase i) (hM.2.2.1.inj.erase i) h0 h1 h2 h3 _ (Nat.le_refl _) h (faces_in hM i k (by omega)).1
theorem Mani.all {xss : List (List Int)} (hM : Mani xss) {f : Int} (h0 : 0 ≤ f) (h1 : f < (gl xss 0).length) : Reach xss 0 f :=
  (orbit_all hM.2.2.1.sys (by have := hM.2.1; omega)).1 hM.2.2.2.2 f h0 h1
theorem Mani.any {xss : List (List Int)} (hM : Mani xss) {f g : Int} (h0 : 0 ≤ f) (h1 : f < (gl xss 0).length) (h2 : 0 ≤ g) (h3 : g < (gl xss 0).length) : Reach xss f g :=
  ((hM.all h0 h1).symm hM.2.2.1.sys hM.2.2.1.inj (by omega) (by have := hM.2.1; omega)).trans (hM.all h2 h3)
theorem Mani.two {xss : List (List Int)} (hM : Mani xss) {k : Nat} (hk : k < xss.length) {f : Int} (h0 : 0 ≤ f) (h1 : f < (gl xss 0).length) : gi (gl xss k) (gi (gl xss k) f) = f := by
  obtain ⟨q, rfl⟩ : ∃ q : Nat, f = q := ⟨f.toNat, by omega⟩
  have hr := hM.2.2.1.at_ hk
  exact (hr.2.2 q (by omega)).2
theorem Mani.in_ {xss : List (List Int)} (hM : Mani xss) {k : Nat} (hk : k < xss.length) {f : Int} (h0 : 0 ≤ f) (h1 : f < (gl xss 0).length) : 0 ≤ gi (gl xss k) f ∧ gi (gl xss k) f < (gl xss 0).length :=
  (hM.2.2.1.sys _ (by rw [gl_mem hk]; exact List.getElem_mem _)).2 f h0 h1
theorem Mani.comm {xss : List (List Int)} (hM : Mani xss) {i k : Nat} (hi : i < xss.length) (hk : k < xss.length) (hik : i + 2 ≤ k) {f : Int} (h0 : 0 ≤ f) (h1 : f < (gl xss 0).length) : gi (gl xss k) (gi (gl xss i) f) = gi (gl xss i) (gi (gl xss k) f) := by
  obtain ⟨q, rfl⟩ : ∃ q : Nat, f = q := ⟨f.toNat, by omega⟩
  exact (hM.2.2.2.1 i hi k hk hik q (by omega)).1

/-! the ends of an edge -/
theorem bag_iff {Vl El : List Int} {m : Nat} : ∀ f, (∀ k : Nat, k < f → 0 ≤ gi El k ∧ gi El k < m) → ∀ (e : Int), 0 ≤ e → ∀ x, x ∈ gl (bag Vl El m f) e ↔ ∃ k : Nat, k < f ∧ gi El k = e ∧ gi Vl k = x
  | 0, _, e, he, x => by
    rw [show bag Vl El m 0 = List.replicate m [] from rfl, gl_blank]
    exact ⟨fun h => (nomatch h), fun ⟨k, hk, _⟩ => absurd hk (Nat.not_lt_zero k)⟩
  | f + 1, h, e, he, x => by
    have hf := h f (by omega)
    have ih := bag_iff (Vl := Vl) f (fun k hk => h k (by omega))
    rw [bag, gl_set2 e he (by rw [bag_len]; omega)]
    split
    · rename_i hee
      rw [List.mem_append, ih _ hf.1 x, List.mem_singleton]
      constructor
      · rintro (⟨k, hk, h1, h2⟩ | rfl)
        · exact ⟨k, by omega, by omega, h2⟩
        · exact ⟨f, by omega, by omega, rfl⟩
      · rintro ⟨k, hk, h1, h2⟩
        by_cases hkf : k = f
        · subst hkf; exact .inr h2.symm
        · exact .inl ⟨k, by omega, by omega, h2⟩
    · rename_i hee
      rw [ih e he x]
      constructor
      · rintro ⟨k, hk, h1, h2⟩; exact ⟨k, by omega, h1, h2⟩
      · rintro ⟨k, hk, h1, h2⟩
        by_cases hkf : k = f
        · subst hkf; omega
        · exact ⟨k, by omega, h1, h2⟩
theorem ends_iff {xss : List (List Int)} (hM : Mani xss) (e : Int) (he : 0 ≤ e) (x : Int) : x ∈ gl (endsL xss) e ↔ ∃ k : Nat, k < (gl xss 0).length ∧ gi (facesL xss 1) k = e ∧ gi (facesL xss 0) k = x := by
  rw [endsL, gl_ends, cs_mem, bag_iff _ (fun k hk => by have := faces_in hM 1 k hk; unfold edgesN; omega) e he]
theorem bagP_iff {m : Nat} (ps : List (Int × Int)) : (∀ p ∈ ps, 0 ≤ p.1 ∧ p.1 < m) → ∀ e : Int, 0 ≤ e → ∀ x, x ∈ gl (bagP m ps) e ↔ (e, x) ∈ ps := by
  induction ps using snoc_ind with
  | h0 =>
    intro _ e he x
    rw [show bagP m [] = List.replicate m [] from rfl, gl_blank]
    exact ⟨fun h => (nomatch h), fun h => (nomatch h)⟩
  | h1 l a ih =>
    intro h e he x
    have ha := h a (by simp)
    have ih := ih (fun p hp => h p (by simp [hp]))
    rw [bagP_snoc, gl_set2 e he (by rw [bagP_len]; omega)]
    split
    · rename_i hee
      rw [List.mem_append, ih _ ha.1 x, List.mem_singleton, List.mem_append, List.mem_singleton]
      have e1 : a.1 = e := by omega
      rw [e1]
      constructor
      · rintro (h | h)
        · exact .inl h
        · exact .inr (by rw [← e1, h])
      · rintro (h | h)
        · exact .inl h
        · exact .inr (by rw [← h])
    · rename_i hee
      rw [ih e he x, List.mem_append, List.mem_singleton]
      constructor
      · exact .inl
      · rintro (h | h)
        · exact h
        · exact absurd (by rw [← h]; exact Int.toNat_of_nonneg he) hee
theorem arcs_iff (En : List (List Int)) : ∀ (e : Nat) (p : Int × Int), p ∈ arcs En e ↔ ∃ j : Nat, j < e ∧ (gl En j).length = 2 ∧ (p = (gi (gl En j) 0, gi (gl En j) 1) ∨ p = (gi (gl En j) 1, gi (gl En j) 0))
  | 0, p => ⟨fun h => (by cases h), fun ⟨j, hj, _⟩ => absurd hj (Nat.not_lt_zero j)⟩
  | e + 1, p => by
    have ih := arcs_iff En e p
    unfold arcs
    split
    · rename_i h2
      rw [List.mem_append, List.mem_append, List.mem_singleton, List.mem_singleton, ih]
      constructor
      · rintro ((⟨j, hj, h⟩ | h) | h)
        · exact ⟨j, by omega, h⟩
        · exact ⟨e, by omega, h2, .inl h⟩
        · exact ⟨e, by omega, h2, .inr h⟩
      · rintro ⟨j, hj, h, h'⟩
        by_cases hje : j = e
        · subst hje
          rcases h' with h' | h'
          · exact .inl (.inr h')
          · exact .inr h'
        · exact .inl (.inl ⟨j, by omega, h, h'⟩)
    · rename_i h2
      rw [ih]
      constructor
      · rintro ⟨j, hj, h⟩; exact ⟨j, by omega, h⟩
      · rintro ⟨j, hj, h, h'⟩
        by_cases hje : j = e
        · subst hje; exact absurd h h2
        · exact ⟨j, by omega, h, h'⟩
theorem nb_iff {xss : List (List Int)} (hM : Mani xss) (u : Int) (hu : 0 ≤ u) (x : Int) : x ∈ gl (nbL xss) u ↔ ∃ j : Nat, j < edgesN xss ∧ (gl (endsL xss) j).length = 2 ∧ ((u, x) = (gi (gl (endsL xss) j) 0, gi (gl (endsL xss) j) 1) ∨ (u, x) = (gi (gl (endsL xss) j) 1, gi (gl (endsL xss) j) 0)) := by
  have hin := arcs_in (En := endsL xss) (b := (vertsN xss : Int)) (fun e => endsL_mem hM e (by omega)) (edgesN xss)
  rw [nbL, gl_endsP, cs_mem, bagP_iff _ (fun p hp => (hin p hp).1) u hu, arcs_iff]
theorem nb_symm {xss : List (List Int)} (hM : Mani xss) {u x : Int} (hu : 0 ≤ u) (h : x ∈ gl (nbL xss) u) : u ∈ gl (nbL xss) x := by
  have hx := ((nb_gr hM).row u hu).1 x h
  obtain ⟨j, hj, h2, h3⟩ := (nb_iff hM u hu x).1 h
  rw [nb_iff hM x hx.1]
  refine ⟨j, hj, h2, ?_⟩
  simp only [Prod.mk.injEq] at h3 ⊢
  rcases h3 with h3 | h3
  · exact .inr ⟨h3.2, h3.1⟩
  · exact .inl ⟨h3.2, h3.1⟩

theorem ends_two {xss : List (List Int)} (hM : Mani xss) (h2 : 1 < xss.length) {f : Int} (h0 : 0 ≤ f) (h1 : f < (gl xss 0).length) {g : Int} (hr : Reach (xss.eraseIdx 1) f g) :
    (gi (facesL xss 0) g = gi (facesL xss 0) f ∧ gi (facesL xss 0) (gi (gl xss 0) g) = gi (facesL xss 0) (gi (gl xss 0) f)) ∨ (gi (facesL xss 0) g = gi (facesL xss 0) (gi (gl xss 0) f) ∧ gi (facesL xss 0) (gi (gl xss 0) g) = gi (facesL xss 0) f) := by
  induction hr with
  | refl => exact .inl ⟨rfl, rfl⟩
  | step hr hp ih =>
    rename_i y p
    have hy := Reach.range (hM.2.2.1.sys.erase 1) h0 h1 hr
    obtain ⟨k, hk, hk1, rfl⟩ := erase_of hp
    have hL : 0 < xss.length := by omega
    by_cases hk0 : k = 0
    · subst hk0
      have e := hM.two hL hy.1 hy.2
      have e : gi (gl xss ((0 : Nat) : Int)) (gi (gl xss ((0 : Nat) : Int)) y) = y := e
      simp only [Int.natCast_zero] at e ⊢
      rw [e]
      rcases ih with ⟨a, b⟩ | ⟨a, b⟩
      · exact .inr ⟨b, a⟩
      · exact .inl ⟨b, a⟩
    · have e := hM.comm hL hk (by omega) hy.1 hy.2
      have h0y := hM.in_ hL hy.1 hy.2
      have v1 := faces_move hM hk hk0 hy.1 hy.2
      have v2 := faces_move hM hk hk0 h0y.1 h0y.2
      rw [e] at v2
      simp only [Int.natCast_zero] at v2
      rw [v1, v2]
      exact ih
/-- the vertices of a flag and of the flag behind move 0 are one, or neighbours -/
theorem nb_flag {xss : List (List Int)} (hG : Grph xss) {f : Int} (h0 : 0 ≤ f) (h1 : f < (gl xss 0).length) : gi (facesL xss 0) (gi (gl xss 0) f) = gi (facesL xss 0) f ∨ gi (facesL xss 0) (gi (gl xss 0) f) ∈ gl (nbL xss) (gi (facesL xss 0) f) := by
  have hM := hG.1
  have h2 : 1 < xss.length := hG.2
  by_cases he : gi (facesL xss 0) (gi (gl xss 0) f) = gi (facesL xss 0) f
  · exact .inl he
  · right
    have hL : 0 < xss.length := by omega
    have hf0 := hM.in_ hL h0 h1
    simp only [Int.natCast_zero] at hf0
    obtain ⟨q, rfl⟩ : ∃ q : Nat, f = q := ⟨f.toNat, by omega⟩
    have hE := faces_in hM 1 q (by omega)
    have hV := faces_in hM 0 q (by omega)
    have hmv := faces_move hM (i := 1) hL (by omega) h0 h1
    simp only [Int.natCast_zero] at hmv
    generalize hee : gi (facesL xss 1) q = e at *
    generalize hva : gi (facesL xss 0) q = a at *
    generalize hvb : gi (facesL xss 0) (gi (gl xss 0) q) = b at *
    have hmem : ∀ x, x ∈ gl (endsL xss) e ↔ x = a ∨ x = b := by
      intro x
      rw [ends_iff hM e hE.1 x]
      constructor
      · rintro ⟨k, hk, hke, rfl⟩
        have hr := faces_same hM (i := 1) h0 h1 (g := (k : Int)) (by omega) (by omega) (by rw [hee, hke])
        rcases ends_two hM h2 h0 h1 hr with ⟨r, _⟩ | ⟨r, _⟩
        · rw [r]; exact .inl hva
        · rw [r]; exact .inr hvb
      · rintro (rfl | rfl)
        · exact ⟨q, by omega, hee, hva⟩
        · refine ⟨(gi (gl xss 0) q).toNat, by omega, ?_, ?_⟩
          · rw [Int.toNat_of_nonneg hf0.1]; exact hmv
          · rw [Int.toNat_of_nonneg hf0.1]; exact hvb
    have hnd : (gl (endsL xss) e).Nodup := by
      rw [endsL]
      exact (ends_SA _ _ _ _ _).nodup
    have hlen : (gl (endsL xss) e).length = 2 := by
      have l1 := sub_len (gl (endsL xss) e) [a, b] hnd (fun x hx => by rcases (hmem x).1 hx with rfl | rfl <;> simp)
      have l2 := sub_len [a, b] (gl (endsL xss) e) (by simp; exact fun h => he h.symm) (fun x hx => (hmem x).2 (by simpa using hx))
      simp at l1 l2
      omega
    obtain ⟨j, rfl⟩ : ∃ j : Nat, e = j := ⟨e.toNat, by omega⟩
    rw [nb_iff hM a hV.1]
    refine ⟨j, by unfold edgesN; omega, hlen, ?_⟩
    generalize gl (endsL xss) (j : Int) = l at *
    match l, hlen with
    | [x, y], _ =>
      have hx := (hmem x).1 (by simp)
      have hy := (hmem y).1 (by simp)
      simp at hnd
      simp only [Prod.mk.injEq]
      show (a = x ∧ b = y) ∨ (a = y ∧ b = x)
      rcases hx with rfl | rfl <;> rcases hy with rfl | rfl
      · exact absurd rfl hnd
      · exact .inl ⟨rfl, rfl⟩
      · exact .inr ⟨rfl, rfl⟩
      · exact absurd rfl hnd
theorem verts_conn {xss : List (List Int)} (hG : Grph xss) {S : Int → Prop} (hS : ∀ u, 0 ≤ u → S u → ∀ x ∈ gl (nbL xss) u, S x) {v u : Int} (h0 : 0 ≤ v) (h1 : v < vertsN xss) (h2 : 0 ≤ u) (h3 : u < vertsN xss) (hv : S v) : S u := by
  have hM := hG.1
  have hb : ((vertsN xss : Nat) : Int) = facesN xss 0 := by have := facesN_le xss 0; unfold vertsN; omega
  obtain ⟨f, hf, rfl⟩ := faces_hit hM 0 v h0 (by omega)
  obtain ⟨g, hg, rfl⟩ := faces_hit hM 0 u h2 (by omega)
  have hr := hM.any (f := (f : Int)) (g := (g : Int)) (by omega) (by omega) (by omega) (by omega)
  have key : ∀ y, Reach xss f y → S (gi (facesL xss 0) y) := by
    intro y hy
    induction hy with
    | refl => exact hv
    | step hr hp ih =>
      rename_i y p
      have hy := Reach.range hM.2.2.1.sys (by omega) (by omega) hr
      obtain ⟨k, hk, rfl⟩ := List.mem_iff_getElem.1 hp
      rw [← gl_mem hk]
      by_cases hk0 : k = 0
      · subst hk0
        simp only [Int.natCast_zero]
        rcases nb_flag hG hy.1 hy.2 with h | h
        · rw [h]; exact ih
        · have hvy := faces_in hM 0 y.toNat (by omega)
          rw [Int.toNat_of_nonneg hy.1] at hvy
          exact hS _ hvy.1 ih _ h
      · rw [faces_move hM hk hk0 hy.1 hy.2]; exact ih
  exact key _ hr

/-! what the search by distances finds -/
structure BQ (n : Nat) (next : List (List Int)) (v : Int) (i : Nat) (st : List Int × List Int) : Prop where
  bf : BF n st
  at0 : gi st.1 v = 0
  vin : v ∈ st.2
  all : ∀ x : Int, 0 ≤ x → x < n → 0 ≤ gi st.1 x → x ∈ st.2
  mono : ∀ a b : Nat, a ≤ b → b < st.2.length → gi st.1 (gi st.2 a) ≤ gi st.1 (gi st.2 b)
  gap : i < st.2.length → ∀ b : Nat, b < st.2.length → gi st.1 (gi st.2 b) ≤ gi st.1 (gi st.2 i) + 1
  don : ∀ a : Nat, a < i → a < st.2.length → ∀ x ∈ gl next (gi st.2 a), 0 ≤ gi st.1 x ∧ gi st.1 x ≤ gi st.1 (gi st.2 a) + 1
  par : ∀ x ∈ st.2, x ≠ v → ∃ y ∈ st.2, x ∈ gl next y ∧ gi st.1 x = gi st.1 y + 1

theorem BQ.init {n : Nat} {next : List (List Int)} {v : Int} (h0 : 0 ≤ v) (h1 : v < n) : BQ n next v 0 (initB n v) where
  bf := BF.init h0 h1
  at0 := by
    show gi ((List.replicate n (-1)).set v.toNat 0) v = 0
    rw [gi_setI (by simp; omega) h0, if_pos (by omega)]
  vin := by simp [initB]
  all := fun x hx hxn h => by
    have h : 0 ≤ gi ((List.replicate n (-1)).set v.toNat 0) x := h
    rw [gi_setI (by simp; omega) hx] at h
    split at h
    · simp [initB]; omega
    · rw [gi_rep hx hxn] at h; omega
  mono := fun a b hab hb => by
    have hb : b < 1 := hb
    obtain rfl : b = 0 := by omega
    obtain rfl : a = 0 := by omega
    exact Int.le_refl _
  gap := fun _ b hb => by
    have hb : b < 1 := hb
    obtain rfl : b = 0 := by omega
    omega
  don := fun a ha => absurd ha (Nat.not_lt_zero a)
  par := fun x hx hne => by simp [initB] at hx; exact absurd hx hne

theorem gi_snocL {l : List Int} {x : Int} {k : Nat} (h : k < l.length) : gi (l ++ [x]) (k : Int) = gi l (k : Int) := by simp [gi, List.getD_eq_getElem?_getD, List.getElem?_append_left h]
theorem gi_snocR {l : List Int} {x : Int} : gi (l ++ [x]) (l.length : Int) = x := by simp [gi, List.getD_eq_getElem?_getD]
theorem stepB_new {u x : Int} {st : List Int × List Int} (h : gi st.1 x < 0) (hx : 0 ≤ x) : stepB (-1) u st x = (st.1.set x.toNat (gi st.1 u + 1), st.2 ++ [x]) := by
  unfold stepB; rw [if_pos ⟨h, by omega⟩]
theorem stepB_old {u x : Int} {st : List Int × List Int} (h : ¬ gi st.1 x < 0) : stepB (-1) u st x = st := by
  unfold stepB; rw [if_neg (fun h' => h h'.1)]
/-- one neighbour met -/
theorem BQ.step {n : Nat} {next : List (List Int)} {v : Int} {i : Nat} {st : List Int × List Int} (hg : Gr n next) (h : BQ n next v i st) (hi : i < st.2.length) {x : Int} (hx : x ∈ gl next (gi st.2 i)) (h0 : 0 ≤ x) (h1 : x < n) :
    BQ n next v i (stepB (-1) (gi st.2 i) st x) ∧ i < (stepB (-1) (gi st.2 i) st x).2.length ∧ gi (stepB (-1) (gi st.2 i) st x).2 i = gi st.2 i ∧ gi (stepB (-1) (gi st.2 i) st x).1 (gi st.2 i) = gi st.1 (gi st.2 i) ∧
    (0 ≤ gi (stepB (-1) (gi st.2 i) st x).1 x ∧ gi (stepB (-1) (gi st.2 i) st x).1 x ≤ gi st.1 (gi st.2 i) + 1) ∧ ∀ y, 0 ≤ y → 0 ≤ gi st.1 y → gi (stepB (-1) (gi st.2 i) st x).1 y = gi st.1 y := by
  have hum : gi st.2 (i : Int) ∈ st.2 := gi_in hi
  have hur := h.bf.rng _ hum
  have hup := h.bf.pos _ hum
  by_cases hn : gi st.1 x < 0
  · have hbf := (h.bf.step (wo := -1) hum h0 h1).1
    rw [stepB_new hn h0] at hbf ⊢
    generalize hu : gi st.2 (i : Int) = u at *
    have hxl : x.toNat < st.1.length := by rw [h.bf.len]; omega
    have old : ∀ y, 0 ≤ y → 0 ≤ gi st.1 y → gi (st.1.set x.toNat (gi st.1 u + 1)) y = gi st.1 y := fun y hy hp => by
      rw [gi_setI hxl hy]
      split
      · rename_i e; rw [show y = x by omega] at hp; omega
      · rfl
    have new : gi (st.1.set x.toNat (gi st.1 u + 1)) x = gi st.1 u + 1 := by rw [gi_setI hxl h0, if_pos (by omega)]
    have oldq : ∀ b : Nat, b < st.2.length → gi (st.1.set x.toNat (gi st.1 u + 1)) (gi (st.2 ++ [x]) b) = gi st.1 (gi st.2 b) := fun b hb => by
      rw [gi_snocL hb]
      have hm : gi st.2 (b : Int) ∈ st.2 := gi_in hb
      exact old _ (h.bf.rng _ hm).1 (h.bf.pos _ hm)
    have newq : gi (st.1.set x.toNat (gi st.1 u + 1)) (gi (st.2 ++ [x]) (st.2.length : Int)) = gi st.1 u + 1 := by rw [gi_snocR, new]
    have hl : (st.2 ++ [x]).length = st.2.length + 1 := by simp
    have hvr := h.bf.rng _ h.vin
    have hgap := h.gap hi
    rw [hu] at hgap
    refine ⟨⟨hbf, ?_, ?_, ?_, ?_, ?_, ?_, ?_⟩, by show i < (st.2 ++ [x]).length; omega, by rw [gi_snocL hi, hu], old u hur.1 hup, ⟨by rw [new]; omega, by rw [new]; exact Int.le_refl _⟩, old⟩
    · show gi (st.1.set _ _) v = 0
      rw [old v hvr.1 (by rw [h.at0]; exact Int.le_refl _), h.at0]
    · exact List.mem_append_left _ h.vin
    · intro y hy hyn hp
      by_cases hyx : y = x
      · subst hyx; exact List.mem_append_right _ (by simp)
      · refine List.mem_append_left _ (h.all y hy hyn ?_)
        have hp : 0 ≤ gi (st.1.set x.toNat (gi st.1 u + 1)) y := hp
        rw [gi_setI hxl hy, if_neg (by omega)] at hp
        exact hp
    · intro a b hab hb
      have hb : b < (st.2 ++ [x]).length := hb
      by_cases hbl : b < st.2.length
      · show gi (st.1.set _ _) (gi (st.2 ++ [x]) a) ≤ gi (st.1.set _ _) (gi (st.2 ++ [x]) b)
        rw [oldq a (by omega), oldq b hbl]
        exact h.mono a b hab hbl
      · obtain rfl : b = st.2.length := by omega
        show gi (st.1.set _ _) (gi (st.2 ++ [x]) a) ≤ gi (st.1.set _ _) (gi (st.2 ++ [x]) _)
        rw [newq]
        by_cases hal : a < st.2.length
        · rw [oldq a hal]; exact hgap a hal
        · obtain rfl : a = st.2.length := by omega
          rw [newq]; exact Int.le_refl _
    · intro _ b hb
      have hb : b < (st.2 ++ [x]).length := hb
      show gi (st.1.set _ _) (gi (st.2 ++ [x]) b) ≤ gi (st.1.set _ _) (gi (st.2 ++ [x]) i) + 1
      rw [oldq i hi, hu]
      by_cases hbl : b < st.2.length
      · rw [oldq b hbl]; exact hgap b hbl
      · obtain rfl : b = st.2.length := by omega
        rw [newq]; exact Int.le_refl _
    · intro a ha hal y hy
      have hy : y ∈ gl next (gi (st.2 ++ [x]) a) := hy
      rw [gi_snocL (by omega)] at hy
      have hd := h.don a ha (by omega) y hy
      have hy0 : 0 ≤ y := ((hg.row _ (h.bf.rng _ (gi_in (show a < st.2.length by omega))).1).1 y hy).1
      show 0 ≤ gi (st.1.set _ _) y ∧ gi (st.1.set _ _) y ≤ gi (st.1.set _ _) (gi (st.2 ++ [x]) a) + 1
      rw [old y hy0 hd.1, oldq a (by omega)]
      exact hd
    · intro y hy hne
      have hy : y ∈ st.2 ++ [x] := hy
      rcases List.mem_append.1 hy with hy | hy
      · obtain ⟨z, hz, hzy, hzd⟩ := h.par y hy hne
        refine ⟨z, List.mem_append_left _ hz, hzy, ?_⟩
        show gi (st.1.set _ _) y = gi (st.1.set _ _) z + 1
        rw [old y (h.bf.rng y hy).1 (h.bf.pos y hy), old z (h.bf.rng z hz).1 (h.bf.pos z hz)]
        exact hzd
      · simp at hy; subst hy
        refine ⟨u, List.mem_append_left _ hum, hx, ?_⟩
        show gi (st.1.set _ _) y = gi (st.1.set _ _) u + 1
        rw [new, old u hur.1 hup]
  · rw [stepB_old hn]
    have hxq := h.all x h0 h1 (by omega)
    obtain ⟨b, hb, hbx⟩ := List.mem_iff_getElem.1 hxq
    have hg := h.gap hi b hb
    rw [gi_mem hb, hbx] at hg
    exact ⟨h, hi, rfl, rfl, ⟨by omega, hg⟩, fun _ _ _ => rfl⟩

theorem BQ.row {n : Nat} {next : List (List Int)} {v : Int} {i : Nat} (hg : Gr n next) (u : Int) (r : List Int) : ∀ {st : List Int × List Int}, BQ n next v i st → i < st.2.length → gi st.2 i = u → (∀ x ∈ r, x ∈ gl next u) →
    BQ n next v i (rowB (-1) u r st) ∧ i < (rowB (-1) u r st).2.length ∧ gi (rowB (-1) u r st).2 i = u ∧ gi (rowB (-1) u r st).1 u = gi st.1 u ∧ (∀ x ∈ r, 0 ≤ gi (rowB (-1) u r st).1 x ∧ gi (rowB (-1) u r st).1 x ≤ gi st.1 u + 1) := by
  induction r using snoc_ind with
  | h0 => intro st h hi hu _; exact ⟨h, hi, hu, rfl, fun x hx => by cases hx⟩
  | h1 l a ih =>
    intro st h hi hu hr
    obtain ⟨h1, h2, h3, h4, h5⟩ := ih h hi hu (fun x hx => hr x (by simp [hx]))
    have ha := hr a (by simp)
    have hur := h1.bf.rng _ (gi_in h2)
    rw [h3] at hur
    have har := (hg.row u hur.1).1 a ha
    rw [rowB_snoc]
    have hs := h1.step hg h2 (x := a) (by rw [h3]; exact ha) har.1 har.2
    rw [h3] at hs
    obtain ⟨s1, s2, s3, s4, s5, s6⟩ := hs
    refine ⟨s1, s2, s3, by rw [s4, h4], fun x hx => ?_⟩
    rcases List.mem_append.1 hx with hx | hx
    · have hx5 := h5 x hx
      have hxr := (hg.row u hur.1).1 x (hr x (by simp [hx]))
      rw [s6 x hxr.1 hx5.1]
      exact hx5
    · simp at hx; subst hx
      rw [h4] at s5
      exact s5
theorem BQ.next {n : Nat} {next : List (List Int)} {v : Int} {i : Nat} {st : List Int × List Int} (hg : Gr n next) (h : BQ n next v i st) (hi : i < st.2.length) : BQ n next v (i + 1) (rowB (-1) (gi st.2 i) (gl next (gi st.2 i)) st) := by
  obtain ⟨h1, h2, h3, h4, h5⟩ := BQ.row hg (gi st.2 i) (gl next (gi st.2 i)) h hi rfl (fun x hx => hx)
  refine ⟨h1.bf, h1.at0, h1.vin, h1.all, h1.mono, fun hi1 b hb => ?_, fun a ha hal x hx => ?_, h1.par⟩
  · have hg1 := h1.gap h2 b hb
    have hm := h1.mono i (i + 1) (by omega) hi1
    omega
  · by_cases hai : a = i
    · subst hai
      rw [h3] at hx ⊢
      rw [h4]
      exact h5 x hx
    · exact h1.don a (by omega) hal x hx
theorem bfs_BQ {n : Nat} {next : List (List Int)} {v : Int} (hg : Gr n next) : ∀ (f i : Nat) (st : List Int × List Int), BQ n next v i st → i ≤ st.2.length → n + 1 ≤ f + i → ∃ i', BQ n next v i' (bfsD next (-1) f i st) ∧ (bfsD next (-1) f i st).2.length ≤ i'
  | 0, i, st, h, hi, hf => by have := h.bf.len2; omega
  | f + 1, i, st, h, hi, hf => by
    rw [bfsD]
    split
    · rename_i hlt
      have hn := h.next hg hlt
      have hpre := (BF.row (wo := -1) (gl next (gi st.2 i)) h.bf (gi_in hlt) ((hg.row _ (h.bf.rng _ (gi_in hlt)).1).1)).2
      have := hpre.length_le
      exact bfs_BQ hg f (i + 1) _ hn (by omega) (by omega)
    · exact ⟨i, h, by omega⟩
/-- distances: 0 at the start; defined at the neighbours of what is met, and at most one more; and each other one has a neighbour one nearer -/
structure DF (n : Nat) (next : List (List Int)) (v : Int) (far : List Int) : Prop where
  len : far.length = n
  at0 : gi far v = 0
  nxt : ∀ y : Int, 0 ≤ y → y < n → 0 ≤ gi far y → ∀ x ∈ gl next y, 0 ≤ gi far x ∧ gi far x ≤ gi far y + 1
  par : ∀ x : Int, 0 ≤ x → x < n → 0 ≤ gi far x → x ≠ v → ∃ y : Int, (0 ≤ y ∧ y < n) ∧ x ∈ gl next y ∧ 0 ≤ gi far y ∧ gi far x = gi far y + 1
  top : ∀ x : Int, 0 ≤ x → x < n → gi far x < n
theorem dist_DF {n : Nat} {next : List (List Int)} {v : Int} (hg : Gr n next) (h0 : 0 ≤ v) (h1 : v < n) : DF n next v (distP next (-1) v).1 := by
  have hB := dist_BF (wo := -1) hg h0 h1
  unfold distP at hB ⊢
  rw [hg.len] at hB ⊢
  obtain ⟨i', hq, hi'⟩ := bfs_BQ hg (n + 1) 0 (initB n v) (BQ.init h0 h1) (Nat.zero_le _) (by omega)
  generalize bfsD next (-1) (n + 1) 0 (initB n v) = st at *
  refine ⟨hB.len, hq.at0, fun y hy hyn hp x hx => ?_, fun x hx hxn hp hne => ?_, fun x hx hxn => ?_⟩
  · obtain ⟨a, ha, hay⟩ := List.mem_iff_getElem.1 (hq.all y hy hyn hp)
    have hd := hq.don a (by omega) ha
    rw [gi_mem ha, hay] at hd
    exact hd x hx
  · obtain ⟨y, hy, hxy, hd⟩ := hq.par x (hq.all x hx hxn hp) hne
    exact ⟨y, hB.rng y hy, hxy, hB.pos y hy, hd⟩
  · have h3 := hB.val _ (gi_in2 hx (by rw [hB.len]; exact hxn))
    have h4 := hB.len2
    omega
/-- in the graph of a maniplex all vertices are met -/
theorem dist_all {xss : List (List Int)} (hG : Grph xss) {v : Int} (h0 : 0 ≤ v) (h1 : v < vertsN xss) {u : Int} (h2 : 0 ≤ u) (h3 : u < vertsN xss) : 0 ≤ gi (distP (nbL xss) (-1) v).1 u := by
  have hg := nb_gr hG.1
  have hD := dist_DF hg h0 h1
  have key := verts_conn hG (S := fun y => (0 ≤ y ∧ y < vertsN xss) ∧ 0 ≤ gi (distP (nbL xss) (-1) v).1 y) (fun y hy hS x hx => ⟨(hg.row y hy).1 x hx, (hD.nxt y hy hS.1.2 hS.2 x hx).1⟩) h0 h1 h2 h3 ⟨⟨h0, h1⟩, by rw [hD.at0]; exact Int.le_refl _⟩
  exact key.2
end Go.Proofs.Ytgobjpcankaicaa.Vc
/-
  The shortest path on both sides. Conditions: as each states them.
-/
namespace Go.Proofs.Ytgobjpcankaicaa.Vc
open Go.RowKit

/-- the first of a row that is one nearer, from place k on -/
def nrK (far : List Int) (t : Int) : List Int → Int
  | [] => 0
  | x :: r => if gi far x = t then x else nrK far t r
theorem nrK_mem {far : List Int} {t : Int} : ∀ {r : List Int}, (∃ x ∈ r, gi far x = t) → nrK far t r ∈ r ∧ gi far (nrK far t r) = t
  | [], ⟨x, hx, _⟩ => by cases hx
  | y :: r, ⟨x, hx, he⟩ => by
    unfold nrK
    split
    · rename_i h; exact ⟨by simp, h⟩
    · rename_i h
      have hx' : x ∈ r := by
        rcases List.mem_cons.1 hx with rfl | hx
        · exact absurd he h
        · exact hx
      obtain ⟨h1, h2⟩ := nrK_mem (r := r) ⟨x, hx', he⟩
      exact ⟨by simp [h1], h2⟩
theorem nrK_drop {far r : List Int} {t : Int} {k : Nat} (hk : k < r.length) : nrK far t (r.drop k) = if gi far (gi r (k : Int)) = t then gi r (k : Int) else nrK far t (r.drop (k + 1)) := by
  rw [List.drop_eq_getElem_cons hk, nrK, gi_mem hk]
/-- the way on from u, d steps -/
def pathG (next : List (List Int)) (far : List Int) : Nat → Int → List Int
  | 0, _ => []
  | d + 1, u => nrK far (gi far u - 1) (gl next u) :: pathG next far d (nrK far (gi far u - 1) (gl next u))
theorem pathG_len (next : List (List Int)) (far : List Int) : ∀ d u, (pathG next far d u).length = d
  | 0, _ => rfl
  | d + 1, u => by rw [pathG, List.length_cons, pathG_len next far d]
def spP (next : List (List Int)) (u v : Int) : List Int := u :: pathG next (distP next (-1) v).1 (gi (distP next (-1) v).1 u).toNat u
def spL (xss : List (List Int)) (u v : Int) : List Int := if goK xss [u, v] = 0 then spP (nbL xss) u v else []

/-- what holds on the way -/
theorem way {xss : List (List Int)} (hG : Grph xss) {v u : Int} (h0 : 0 ≤ v) (h1 : v < vertsN xss) (h2 : 0 ≤ u) (h3 : u < vertsN xss) (hne : u ≠ v) :
    0 < gi (distP (nbL xss) (-1) v).1 u ∧ (∃ x ∈ gl (nbL xss) u, gi (distP (nbL xss) (-1) v).1 x = gi (distP (nbL xss) (-1) v).1 u - 1) ∧ ∀ x ∈ gl (nbL xss) u, (gi (distP (nbL xss) (-1) v).1 x < gi (distP (nbL xss) (-1) v).1 u ↔ gi (distP (nbL xss) (-1) v).1 x = gi (distP (nbL xss) (-1) v).1 u - 1) := by
  have hg := nb_gr hG.1
  have hD := dist_DF hg h0 h1
  have ha := dist_all hG h0 h1 h2 h3
  obtain ⟨y, hy, hxy, hyp, hd⟩ := hD.par u h2 h3 ha hne
  refine ⟨by omega, ⟨y, nb_symm hG.1 hy.1 hxy, by omega⟩, fun x hx => ?_⟩
  have hxr := (hg.row u h2).1 x hx
  have := hD.nxt x hxr.1 hxr.2 (dist_all hG h0 h1 hxr.1 hxr.2) u (nb_symm hG.1 h2 hx)
  omega
theorem way0 {xss : List (List Int)} (hG : Grph xss) {v : Int} (h0 : 0 ≤ v) (h1 : v < vertsN xss) : gi (distP (nbL xss) (-1) v).1 v = 0 := (dist_DF (nb_gr hG.1) h0 h1).at0
theorem sp_bd (xss : List (List Int)) (u v : Int) : (spL xss u v).length ≤ 1000 := by
  unfold spL
  split
  · rename_i hK
    obtain ⟨hG, hA⟩ := goK_zero hK
    have hu := hA u (by simp)
    have hv := hA v (by simp)
    have hsm := nb_small hG.1
    have := (dist_DF (nb_gr hG.1) hv.1 (by omega)).top u hu.1 (by omega)
    rw [spP, List.length_cons, pathG_len]
    omega
  · exact Nat.zero_le _
theorem goK_two (xss : List (List Int)) (u v : Int) : (goK xss [u, v] = 0 ↔ goK xss [u] = 0 ∧ goK xss [v] = 0) ∧ (goK xss [u, v] ≠ 0 → goK xss [u, v] = max (goK xss [u]) (goK xss [v])) := by
  have h2 : allIn 0 ((vertsN xss : Int) - 1) [u, v] ↔ allIn 0 ((vertsN xss : Int) - 1) [u] ∧ allIn 0 ((vertsN xss : Int) - 1) [v] := by simp [allIn]
  unfold goK
  by_cases hG : Grph xss
  · by_cases hu : allIn 0 ((vertsN xss : Int) - 1) [u] <;> by_cases hv : allIn 0 ((vertsN xss : Int) - 1) [v] <;> simp [hG, h2, hu, hv] <;> decide
  · simp [hG]

theorem specShortestPath_c (A : Option Addr) (n c : Nat) (rs : List SlV) (xss : List (List Int)) (u v : Int) (w : World) (hR : RowsI w A n rs xss) (hn : n ≤ 9223372036854775807) :
    Ret Try.prog 28 [.agg #[.slice A n c], .int .i64 u, .int .i64 v] w (AnsR (spL xss u v) (goK xss [u, v]) w) := by
  have h2 := goK_two xss u v
  refine Ret.of_cd Try.func28 rfl Try.ntmps28 rfl (post2 rfl) ?_
  refine Cd.seq ?_
  refine Cd.region ?_
  -- stop: BOX 24 t0=app -> 3
  refine Ops.box1 (St.refl w) rfl rfl ?_
  intro Ab w1 hS
  refine Ops.mv_sl rfl rfl rfl ?_
  refine Ops.mv_int rfl rfl rfl ?_
  refine Ops.nil ?_
  refine thenQ_n ?_
  refine Cd.seq ?_
  -- stop: draw
  refine Cd.draw [.ex (.agg #[.slice (A) (n) (c)]), .ex (.int .i64 (u)), .ex (.int .i64 (goK xss [u])), .ex (.agg #[.slice (A) (n) (c)]), .ex (.int .i64 (v)), .ex (.int .i64 (goK xss [v])), .ex (.int .i64 (goK xss [u])), .ex (.int .i64 (goK xss [v]))] (by kernel_rfl) (by kernel_rfl) rfl (List.forall_mem_cons.2 ⟨Yd.lasts_ex _, (List.forall_mem_cons.2 ⟨Yd.lasts_ex _, (List.forall_mem_cons.2 ⟨Yd.lasts_ex _, (List.forall_mem_cons.2 ⟨Yd.lasts_ex _, (List.forall_mem_cons.2 ⟨Yd.lasts_ex _, (List.forall_mem_cons.2 ⟨Yd.lasts_ex _, (List.forall_mem_cons.2 ⟨Yd.lasts_ex _, (List.forall_mem_cons.2 ⟨Yd.lasts_ex _, (fun _ h => by cases h)⟩)⟩)⟩)⟩)⟩)⟩)⟩)⟩) ⟨?_, ?_, ?_, ?_, ?_, ?_, ?_, ?_, trivial⟩ ?_
  · intro e1 w1 hb hp hun
    refine Ops.ld_agg 0 ((hS.rd 0 rfl).below hb) rfl rfl rfl ?_
    refine Ops.nil ?_
    exact After.dn (Below.refl _ _) (by exact rfl)
  · intro e1 w1 hb hp hun
    refine Ops.mv_int rfl rfl rfl ?_
    refine Ops.nil ?_
    exact After.dn (Below.refl _ _) (by exact rfl)
  · intro e1 w1 hb hp hun
    refine Ops.call (l18Code_c A n c rs xss u _ ((hS.oldRows hR).later hb) hn) rfl rfl rfl ?_
    rintro _ w2 ⟨rfl, hst⟩
    refine Ops.nil ?_
    exact After.dn hst.below (by exact rfl)
  · intro e1 w1 hb hp hun
    refine Ops.ld_agg 0 ((hS.rd 0 rfl).below hb) rfl rfl rfl ?_
    refine Ops.nil ?_
    exact After.dn (Below.refl _ _) (by exact rfl)
  · intro e1 w1 hb hp hun
    refine Ops.mv_int rfl rfl rfl ?_
    refine Ops.nil ?_
    exact After.dn (Below.refl _ _) (by exact rfl)
  · intro e1 w1 hb hp hun
    refine Ops.call (l18Code_c A n c rs xss v _ ((hS.oldRows hR).later hb) hn) rfl rfl rfl ?_
    rintro _ w2 ⟨rfl, hst⟩
    refine Ops.nil ?_
    exact After.dn hst.below (by exact rfl)
  · intro e1 w1 hb hp hun
    refine Ops.mv_int rfl rfl rfl ?_
    refine Ops.nil ?_
    exact After.dn (Below.refl _ _) (by exact rfl)
  · intro e1 w1 hb hp hun
    refine Ops.mv_int rfl rfl rfl ?_
    refine Ops.nil ?_
    exact After.dn (Below.refl _ _) (by exact rfl)
  intro uu w2 hb2 _
  have hS := hS.later hb2
  refine thenQ_n ?_
  refine Cd.seq ?_
  refine Cd.seq ?_
  refine Cd.region ?_
  refine Ops.mv_int rfl rfl rfl ?_
  refine Ops.neq rfl rfl rfl ?_
  refine Ops.mv_bool rfl rfl rfl ?_
  -- stop: guard 23
  refine Ops.split_p 23 rfl (fun h => ?_) (fun h => ?_)
  · refine Ops.skipg rfl rfl rfl rfl rfl ?_
    refine Ops.skipg rfl rfl rfl rfl rfl ?_
    refine Ops.pick_t rfl rfl rfl ?_
    refine Ops.nil ?_
    refine thenQ_n ?_
    -- stop: cond
    refine Cd.cond_t rfl ?_
    refine Cd.seq ?_
    refine Cd.region ?_
    refine Ops.mv_int rfl rfl rfl ?_
    refine Ops.mv_int rfl rfl rfl ?_
    -- stop: BUILTIN max(t27, t28) -> 29
    refine Ops.maxI rfl rfl rfl ?_
    refine Ops.mv_sl rfl rfl rfl ?_
    refine Ops.mv_int rfl rfl rfl ?_
    refine Ops.nil ?_
    refine thenQ_n ?_
    refine Cd.ret ?_
    refine thenQ_r ?_
    refine ret2_si rfl rfl ?_
    -- stop: end
    have h0 : goK xss [u, v] ≠ 0 := fun e => h (h2.1.1 e).1
    rw [← h2.2 h0, show spL xss u v = [] from if_neg h0]
    exact AnsR.none hS
  · refine Ops.rung rfl rfl rfl ?_
    refine Ops.mv_int rfl rfl rfl ?_
    refine Ops.rung rfl rfl rfl ?_
    refine Ops.neq rfl rfl rfl ?_
    refine Ops.pick_f rfl rfl rfl ?_
    refine Ops.nil ?_
    refine thenQ_n ?_
    -- stop: cond
    refine Cd.cond_p _ rfl (fun h3 => ?_) (fun h3 => ?_)
    · refine Cd.seq ?_
      refine Cd.region ?_
      refine Ops.mv_int rfl rfl rfl ?_
      refine Ops.mv_int rfl rfl rfl ?_
      -- stop: BUILTIN max(t27, t28) -> 29
      refine Ops.maxI rfl rfl rfl ?_
      refine Ops.mv_sl rfl rfl rfl ?_
      refine Ops.mv_int rfl rfl rfl ?_
      refine Ops.nil ?_
      refine thenQ_n ?_
      refine Cd.ret ?_
      refine thenQ_r ?_
      refine ret2_si rfl rfl ?_
      -- stop: end
      have h0 : goK xss [u, v] ≠ 0 := fun e => h3 (h2.1.1 e).2
      rw [← h2.2 h0, show spL xss u v = [] from if_neg h0]
      exact AnsR.none hS
    · have hK : goK xss [u, v] = 0 := h2.1.2 ⟨Classical.not_not.1 h, Classical.not_not.1 h3⟩
      obtain ⟨hG, hA⟩ := goK_zero hK
      have hu := hA u (by simp)
      have hv := hA v (by simp)
      have hg := nb_gr hG.1
      have hsm := nb_small hG.1
      have hD := dist_DF hg hv.1 (by omega)
      have hway := fun x h0 h1 hne => way hG hv.1 (by omega) (u := x) h0 h1 hne
      refine Cd.skip ?_
      refine thenQ_n ?_
      refine Cd.seq ?_
      refine Cd.region ?_
      -- stop: LOAD 24 t3 -> 30
      refine Ops.ld_agg 0 (hS.rd 0 rfl) rfl rfl rfl ?_
      refine Ops.call (l18Neighbours_c A n c rs xss _ (hS.oldRows hR) hG) rfl rfl rfl ?_
      rintro _ w3 ⟨A3, rs3, rfl, hrl, hst3⟩
      have hS3 := hS.later hst3.below
      refine Ops.mv_sl rfl rfl rfl ?_
      refine Ops.nil ?_
      refine thenQ_n ?_
      refine Cd.seq ?_
      refine Cd.region ?_
      refine Ops.mv_sl rfl rfl rfl ?_
      refine Ops.mv_int rfl rfl rfl ?_
      -- stop: CALL spec.l18Distances(t32, t33, -1) -> 34
      refine Ops.call (l18Distances_c A3 _ _ rs3 (nbL xss) v (-1) _ (hst3.rowsI (nbL_len xss)) hg hv.1 (by omega)) rfl rfl rfl ?_
      rintro _ w4 ⟨A4, rfl, hst4⟩
      have hS4 := (hS3.later hst4.below).none
      have hN4 := (hst3.rowsI (nbL_len xss)).later hst4.below
      have hF4 := hst4.rdI 0 rfl
      rw [show spL xss u v = spP (nbL xss) u v from if_pos hK, hK]
      have hfin : spP (nbL xss) u v = u :: pathG (nbL xss) (distP (nbL xss) (-1) v).1 (gi (distP (nbL xss) (-1) v).1 u).toNat u := rfl
      have hfu := dist_all hG hv.1 (by omega) hu.1 (by omega)
      have hf0 := hD.at0
      have hft := hD.top
      have hfl := hD.len
      have hrow := hg.row
      have hLl : (spP (nbL xss) u v).length ≤ 1000 := by have := sp_bd xss u v; rwa [show spL xss u v = spP (nbL xss) u v from if_pos hK] at this
      generalize hvN : vertsN xss = vN at *
      generalize hnx : nbL xss = next at *
      generalize hfa : (distP next (-1) v).1 = far at *
      generalize hLs : spP next u v = Ls at *
      refine Ops.mv_sl rfl rfl rfl ?_
      refine Ops.nil ?_
      refine thenQ_n ?_
      refine Cd.seq ?_
      refine Cd.region ?_
      refine Ops.mv_int rfl rfl rfl ?_
      -- stop: BUILDSLICE 33 1 [('pair', [0, ('app', 'Go.Operand.tmp', [35])])] -> 36
      refine Ops.bs1I (St.refl w4) rfl rfl rfl ?_
      intro A5 w5 hS5
      refine Ops.mv_sl rfl rfl rfl ?_
      refine Ops.nil ?_
      refine thenQ_n ?_
      refine Cd.seq ?_
      refine Cd.block ?_
      -- stop: loop
      refine Cd.loop (α := Nat × Int × Option Addr × Nat × List Int) (fun s => [(1, .int .i64 s.2.1), (2, .int .i64 v), (10, .slice A3 vN vN), (11, .slice A4 vN vN), (12, .slice s.2.2.1 s.2.2.2.2.length s.2.2.2.1)]) (fun s w' => St w4 w' [CkI 2 s.2.2.1 s.2.2.2.2.length s.2.2.2.1 s.2.2.2.2] ∧ gi far s.2.1 = s.1 ∧ (0 ≤ s.2.1 ∧ s.2.1 < vN) ∧ s.2.2.2.2 ++ pathG next far s.1 s.2.1 = Ls) (fun s => s.1) ((gi far u).toNat, u, A5, 1, [u]) ⟨rfl, rfl, rfl, rfl, rfl, trivial⟩ ⟨hS5, by show gi far u = ((gi far u).toNat : Int); omega, by show 0 ≤ u ∧ u < vN; omega, hfin.symm⟩ ?_
      rintro ⟨d, at_, A6, c6, out⟩ e w6 ⟨hS6, hd, hat, hout⟩
      dsimp only at hS6 hd hat hout ⊢
      have hol := congrArg List.length hout
      rw [List.length_append, pathG_len] at hol
      refine Cd.seq ?_
      refine Cd.seq ?_
      refine Cd.region ?_
      refine Ops.mv_int rfl rfl rfl ?_
      refine Ops.mv_int rfl rfl rfl ?_
      refine Ops.neq rfl rfl rfl ?_
      refine Ops.nil ?_
      refine thenQ_n ?_
      -- stop: cond
      refine Cd.cond_p _ rfl (fun h4 => ?_) (fun h4 => ?_)
      · obtain ⟨w0, w1', w2'⟩ := hway at_ hat.1 hat.2 h4
        have hN6 := hN4.later hS6.below
        have hF6 := hF4.later hS6.below
        have hrl6 := hN6.rowLen hat.1 hat.2
        have hat' := hrow at_ hat.1
        have hdt := hft at_ hat.1 hat.2
        refine Cd.skip ?_
        refine thenQ_n ?_
        refine Cd.block ?_
        refine Cd.seq ?_
        refine Cd.seq ?_
        refine Cd.region ?_
        refine Ops.mv_int rfl rfl rfl ?_
        refine Ops.nil ?_
        refine thenQ_n ?_
        refine Cd.block ?_
        -- stop: loop
        refine Cd.loop (α := Nat) (fun k => [(1, .int .i64 at_), (2, .int .i64 v), (10, .slice A3 vN vN), (11, .slice A4 vN vN), (12, .slice A6 out.length c6), (13, .int .i64 (k : Int))]) (fun k w' => St w6 w' [] ∧ k ≤ (gl next at_).length ∧ (∃ x ∈ (gl next at_).drop k, gi far x = gi far at_ - 1) ∧ nrK far (gi far at_ - 1) ((gl next at_).drop k) = nrK far (gi far at_ - 1) (gl next at_)) (fun k => (gl next at_).length - k) 0 ⟨rfl, rfl, rfl, rfl, rfl, rfl, trivial⟩ ⟨St.refl w6, Nat.zero_le _, w1', rfl⟩ ?_
        rintro k e w7 ⟨hS7, hk, hex, hnr⟩
        have hN7 := hN6.later hS7.below
        have hF7 := hF6.later hS7.below
        have hrow7 := hN7.at_ (i := at_) hat.1 hat.2
        refine Cd.seq ?_
        refine Cd.seq ?_
        refine Cd.region ?_
        refine Ops.mv_int rfl rfl rfl ?_
        refine Ops.mv_sl rfl rfl rfl ?_
        refine Ops.mv_int rfl rfl rfl ?_
        -- stop: INDEXADDR 22 t41 t42 -> 43
        refine Ops.idx hN7.top.2 rfl rfl rfl hat.1 hat.2 ?_
        refine Ops.ld_sl hN7.top rfl (by omega) rfl rfl ?_
        refine Ops.len rfl rfl ?_
        refine Ops.lss rfl rfl rfl ?_
        refine Ops.nil ?_
        refine thenQ_n ?_
        -- stop: cond
        refine Cd.cond_p _ rfl (fun h5 => ?_) (fun h5 => ?_)
        · have hk' : k < (gl next at_).length := by omega
          have hxm : gi (gl next at_) (k : Int) ∈ gl next at_ := gi_in hk'
          have hx := hat'.1 _ hxm
          rw [nrK_drop hk'] at hnr
          refine Cd.skip ?_
          refine thenQ_n ?_
          refine Cd.seq ?_
          refine Cd.block ?_
          refine Cd.seq ?_
          refine Cd.region ?_
          refine Ops.mv_sl rfl rfl rfl ?_
          refine Ops.mv_int rfl rfl rfl ?_
          -- stop: INDEXADDR 22 t49 t50 -> 51
          refine Ops.idx hN7.top.2 rfl rfl rfl hat.1 hat.2 ?_
          refine Ops.ld_sl hN7.top rfl (by omega) rfl rfl ?_
          refine Ops.mv_int rfl rfl rfl ?_
          -- stop: INDEXADDR 33 t52 t53 -> 54
          refine Ops.idx hrow7.2 rfl rfl rfl (by omega) (by omega) ?_
          refine Ops.ld_int hrow7 rfl (by omega) rfl rfl ?_
          generalize hxe : gi (gl next at_) (k : Int) = x at *
          refine Ops.mv_int rfl rfl rfl ?_
          refine Ops.nil ?_
          refine thenQ_n ?_
          refine Cd.seq ?_
          -- stop: draw
          refine Cd.draw [.ex (.slice (A4) (vN) (vN)), .ex (.int .i64 (x)), .ex (.pointer (ptrAt (A4) (x).toNat)), .ex (.int .i64 (gi (far) (x))), .ex (.slice (A4) (vN) (vN)), .ex (.int .i64 (at_)), .ex (.pointer (ptrAt (A4) (at_).toNat)), .ex (.int .i64 (gi (far) (at_))), .ex (.int .i64 ((gi (far) (at_)) - ((1 : Int)))), .ex (.bool (decide ((gi (far) (x)) = ((gi (far) (at_)) - ((1 : Int))))))] (by kernel_rfl) (by kernel_rfl) rfl (List.forall_mem_cons.2 ⟨Yd.lasts_ex _, (List.forall_mem_cons.2 ⟨Yd.lasts_ex _, (List.forall_mem_cons.2 ⟨Yd.lasts_ex _, (List.forall_mem_cons.2 ⟨Yd.lasts_ex _, (List.forall_mem_cons.2 ⟨Yd.lasts_ex _, (List.forall_mem_cons.2 ⟨Yd.lasts_ex _, (List.forall_mem_cons.2 ⟨Yd.lasts_ex _, (List.forall_mem_cons.2 ⟨Yd.lasts_ex _, (List.forall_mem_cons.2 ⟨Yd.lasts_ex _, (List.forall_mem_cons.2 ⟨Yd.lasts_ex _, (fun _ h => by cases h)⟩)⟩)⟩)⟩)⟩)⟩)⟩)⟩)⟩)⟩) ⟨?_, ?_, ?_, ?_, ?_, ?_, ?_, ?_, ?_, ?_, trivial⟩ ?_
          · intro e1 w1 hb hp hun
            refine Ops.mv_sl rfl rfl rfl ?_
            refine Ops.nil ?_
            exact After.dn (Below.refl _ _) (by exact rfl)
          · intro e1 w1 hb hp hun
            refine Ops.mv_int rfl rfl rfl ?_
            refine Ops.nil ?_
            exact After.dn (Below.refl _ _) (by exact rfl)
          · intro e1 w1 hb hp hun
            refine Ops.idx (hF7.later hb).2 rfl rfl rfl (by omega) (by omega) ?_
            refine Ops.nil ?_
            exact After.dn (Below.refl _ _) (by exact rfl)
          · intro e1 w1 hb hp hun
            refine Ops.ld_int (hF7.later hb) rfl (by omega) rfl rfl ?_
            refine Ops.nil ?_
            exact After.dn (Below.refl _ _) (by exact rfl)
          · intro e1 w1 hb hp hun
            refine Ops.mv_sl rfl rfl rfl ?_
            refine Ops.nil ?_
            exact After.dn (Below.refl _ _) (by exact rfl)
          · intro e1 w1 hb hp hun
            refine Ops.mv_int rfl rfl rfl ?_
            refine Ops.nil ?_
            exact After.dn (Below.refl _ _) (by exact rfl)
          · intro e1 w1 hb hp hun
            refine Ops.idx (hF7.later hb).2 rfl rfl rfl (by omega) (by omega) ?_
            refine Ops.nil ?_
            exact After.dn (Below.refl _ _) (by exact rfl)
          · intro e1 w1 hb hp hun
            refine Ops.ld_int (hF7.later hb) rfl (by omega) rfl rfl ?_
            refine Ops.nil ?_
            exact After.dn (Below.refl _ _) (by exact rfl)
          · intro e1 w1 hb hp hun
            refine Ops.sub rfl rfl rfl (by omega) ?_
            refine Ops.nil ?_
            exact After.dn (Below.refl _ _) (by exact rfl)
          · intro e1 w1 hb hp hun
            refine Ops.eql rfl rfl rfl ?_
            refine Ops.nil ?_
            exact After.dn (Below.refl _ _) (by exact rfl)
          intro uu w8 hb8 _
          have hS8 := hS7.later hb8
          refine thenQ_n ?_
          -- stop: cond
          refine Cd.cond_p _ rfl (fun h6 => ?_) (fun h6 => ?_)
          · rw [if_pos h6] at hnr
            have hS9 := hS6.later hS8.below
            refine Cd.seq ?_
            refine Cd.region ?_
            refine Ops.mv_int rfl rfl rfl ?_
            refine Ops.mv_int rfl rfl rfl ?_
            refine Ops.nil ?_
            refine thenQ_n ?_
            refine Cd.exit ?_
            refine blockQ_y rfl ?_
            refine thenQ_x ?_
            refine thenQ_x ?_
            refine blockQ_x ?_
            refine thenQ_n ?_
            refine Cd.region ?_
            refine Ops.mv_sl rfl rfl rfl ?_
            refine Ops.mv_int rfl rfl rfl ?_
            -- stop: BUILDSLICE 33 1 [('pair', [0, ('app', 'Go.Operand.tmp', [68])])] -> 69
            refine Ops.bs1I hS9 rfl rfl rfl ?_
            intro A10 w10 hS10
            refine Ops.appI 1 hS10 rfl (hS10.rdI 0 rfl) rfl rfl rfl (by omega) (by omega) rfl ?_
            intro A11 c11 w11 hS11
            refine Ops.mv_sl rfl rfl rfl ?_
            refine Ops.nil ?_
            refine blockQ_n ?_
            refine thenQ_n ?_
            -- stop: round
            obtain ⟨d', rfl⟩ : ∃ d', d = d' + 1 := ⟨d - 1, by omega⟩
            rw [pathG, ← hnr] at hout
            have e1 : (out ++ [x]).length = out.length + 1 := by simp
            refine ⟨(d', x, A11, c11, out ++ [x]), Nat.lt_succ_self d', ⟨rfl, rfl, rfl, rfl, by rw [e1]; rfl, trivial⟩, ?_, by show gi far x = (d' : Int); omega, hx, by show (out ++ [x]) ++ _ = _; rw [List.append_assoc]; exact hout⟩
            show St w4 w11 [CkI _ A11 (out ++ [x]).length c11 (out ++ [x])]
            rw [e1]
            exact hS11.tail
          · rw [if_neg h6] at hnr
            refine Cd.skip ?_
            refine blockQ_n ?_
            refine thenQ_n ?_
            refine Cd.region ?_
            refine Ops.mv_int rfl rfl rfl ?_
            refine Ops.add rfl rfl rfl (by omega) ?_
            refine Ops.mv_int rfl rfl rfl ?_
            refine Ops.nil ?_
            refine thenQ_n ?_
            -- stop: round
            refine ⟨k + 1, by show _ - (k + 1) < _ - k; omega, ⟨rfl, rfl, rfl, rfl, rfl, rfl, trivial⟩, hS8, hk', ?_, hnr⟩
            obtain ⟨y, hy, hye⟩ := hex
            rw [List.drop_eq_getElem_cons hk', ← gi_mem hk', hxe] at hy
            rcases List.mem_cons.1 hy with rfl | hy
            · exact absurd hye h6
            · exact ⟨y, hy, hye⟩
        · exfalso --x
          obtain ⟨x, hx, _⟩ := hex
          rw [List.drop_of_length_le (by omega)] at hx
          cases hx
      · have hav : at_ = v := Classical.not_not.1 h4
        have hd0 : d = 0 := by rw [hav] at hd; omega
        subst hd0
        rw [pathG, List.append_nil] at hout
        subst hout
        refine Cd.exit ?_
        refine thenQ_x ?_
        refine thenQ_x ?_
        refine blockQ_x ?_
        refine thenQ_n ?_
        refine Cd.seq ?_
        refine Cd.region ?_
        refine Ops.mv_sl rfl rfl rfl ?_
        refine Ops.mv_sl rfl rfl rfl ?_
        refine Ops.mv_int rfl rfl rfl ?_
        refine Ops.nil ?_
        refine thenQ_n ?_
        refine Cd.ret ?_
        refine ret2_si rfl rfl ?_
        -- stop: end
        exact AnsR.mk rfl (hS4.call hS6)
theorem implShortestPath_c (A : Option Addr) (n c : Nat) (rs : List SlV) (xss : List (List Int)) (u v : Int) (w : World) (hR : RowsI w A n rs xss) (hn : n ≤ c) (hc : c ≤ 9223372036854775807) :
    Ret Try.prog 29 [.agg #[.slice A n c], .int .i64 u, .int .i64 v] w (AnsR (spL xss u v) (goK xss [u, v]) w) := by
  have h2 := goK_two xss u v
  refine Ret.of_cd Try.func29 rfl Try.ntmps29 rfl (post2 rfl) ?_
  refine Cd.seq ?_
  refine Cd.region ?_
  -- stop: BOX 24 t0=m -> 3
  refine Ops.box1 (St.refl w) rfl rfl ?_
  intro Ab w1 hS
  refine Ops.mv_sl rfl rfl rfl ?_
  refine Ops.mv_int rfl rfl rfl ?_
  refine Ops.nil ?_
  refine thenQ_n ?_
  refine Cd.seq ?_
  refine Cd.region ?_
  -- stop: LOAD 24 t3=m -> 16
  refine Ops.ld_agg 0 (hS.rd 0 rfl) rfl rfl rfl ?_
  refine Ops.mv_int rfl rfl rfl ?_
  refine Ops.mv_int rfl rfl rfl ?_
  -- stop: BUILDSLICE 33 2 [('pair', [0, ('app', 'Go.Operand.tmp', [17])]), ('pair', [1, ('app', 'Go.Operand.tmp', [18])])] -> 19
  refine Ops.bs2 hS rfl rfl rfl rfl rfl rfl ?_
  intro A2 w2 hS2
  have hS2 : St w w2 [CkI 2 A2 2 2 [u, v], Bx 24 1 Ab [.slice A n c]] := hS2
  refine Ops.call (graphOf_c A n c rs xss A2 2 2 [u, v] _ (hS2.oldRows hR) hn hc (hS2.rdI 0 rfl) (by omega)) rfl rfl rfl ?_
  rintro _ w3 ⟨A3, c3, rs3, rfl, hrl, hst3⟩
  have hS3 := hS2.later hst3.below
  refine Ops.mv_tup rfl rfl rfl ?_
  refine Ops.extract rfl rfl rfl ?_
  refine Ops.extract rfl rfl rfl ?_
  refine Ops.mv_sl rfl rfl rfl ?_
  refine Ops.mv_int rfl rfl rfl ?_
  refine Ops.nil ?_
  refine thenQ_n ?_
  refine Cd.seq ?_
  refine Cd.seq ?_
  refine Cd.region ?_
  refine Ops.mv_int rfl rfl rfl ?_
  refine Ops.neq rfl rfl rfl ?_
  refine Ops.nil ?_
  refine thenQ_n ?_
  -- stop: cond
  refine Cd.cond_p _ rfl (fun h => ?_) (fun h => ?_)
  · refine Cd.seq ?_
    refine Cd.region ?_
    refine Ops.mv_int rfl rfl rfl ?_
    refine Ops.mv_sl rfl rfl rfl ?_
    refine Ops.mv_int rfl rfl rfl ?_
    refine Ops.nil ?_
    refine thenQ_n ?_
    refine Cd.ret ?_
    refine thenQ_r ?_
    refine ret2_si rfl rfl ?_
    -- stop: end
    rw [show spL xss u v = [] from if_neg h]
    exact AnsR.none hS3
  · have hK : goK xss [u, v] = 0 := Classical.not_not.1 h
    obtain ⟨hG, hA⟩ := goK_zero hK
    have hu := hA u (by simp)
    have hv := hA v (by simp)
    have hg := nb_gr hG.1
    have hsm := nb_small hG.1
    have hD := dist_DF hg hv.1 (by omega)
    have hway := fun x h0 h1 hne => way hG hv.1 (by omega) (u := x) h0 h1 hne
    have hL : goL xss [u, v] = nbL xss := by rw [goL, if_pos ⟨hG, hA⟩]
    rw [hL] at hst3 hrl ⊢
    rw [nbL_len] at hst3 ⊢
    refine Cd.skip ?_
    refine thenQ_n ?_
    refine Cd.seq ?_
    refine Cd.region ?_
    refine Ops.mv_sl rfl rfl rfl ?_
    refine Ops.mv_int rfl rfl rfl ?_
    -- stop: CALL impl.graphDistances(t26, t27) -> 28
    refine Ops.call (graphDistances_c A3 _ _ rs3 (nbL xss) v _ (hst3.rowsI (nbL_len xss)) hg hv.1 (by omega)) rfl rfl rfl ?_
    rintro _ w4 ⟨A4, rfl, hst4⟩
    have hS4 := (hS3.later hst4.below).none
    have hN4 := (hst3.rowsI (nbL_len xss)).later hst4.below
    have hF4 := hst4.rdI 0 rfl
    rw [show spL xss u v = spP (nbL xss) u v from if_pos hK, hK]
    have hfin : spP (nbL xss) u v = u :: pathG (nbL xss) (distP (nbL xss) (-1) v).1 (gi (distP (nbL xss) (-1) v).1 u).toNat u := rfl
    have hfu := dist_all hG hv.1 (by omega) hu.1 (by omega)
    have hf0 := hD.at0
    have hft := hD.top
    have hfl := hD.len
    have hrow := hg.row
    have hLl : (spP (nbL xss) u v).length ≤ 1000 := by have := sp_bd xss u v; rwa [show spL xss u v = spP (nbL xss) u v from if_pos hK] at this
    generalize hvN : vertsN xss = vN at *
    generalize hnx : nbL xss = next at *
    generalize hfa : (distP next (-1) v).1 = far at *
    generalize hLs : spP next u v = Ls at *
    refine Ops.mv_sl rfl rfl rfl ?_
    refine Ops.nil ?_
    refine thenQ_n ?_
    refine Cd.seq ?_
    refine Cd.region ?_
    refine Ops.mv_int rfl rfl rfl ?_
    -- stop: BUILDSLICE 33 1 [('pair', [0, ('app', 'Go.Operand.tmp', [29])])] -> 30
    refine Ops.bs1I (St.refl w4) rfl rfl rfl ?_
    intro A5 w5 hS5
    refine Ops.mv_sl rfl rfl rfl ?_
    refine Ops.nil ?_
    refine thenQ_n ?_
    refine Cd.seq ?_
    refine Cd.seq ?_
    refine Cd.region ?_
    refine Ops.mv_int rfl rfl rfl ?_
    refine Ops.mv_int rfl rfl rfl ?_
    refine Ops.nil ?_
    refine thenQ_n ?_
    refine Cd.block ?_
    -- stop: loop
    refine Cd.loop (α := Nat × Int × Option Addr × Nat × List Int) (fun s => [(2, .int .i64 v), (8, .slice A3 vN c3), (10, .slice A4 vN vN), (11, .slice s.2.2.1 s.2.2.2.2.length s.2.2.2.1), (12, .int .i64 s.2.1)]) (fun s w' => St w4 w' [CkI 2 s.2.2.1 s.2.2.2.2.length s.2.2.2.1 s.2.2.2.2] ∧ gi far s.2.1 = s.1 ∧ (0 ≤ s.2.1 ∧ s.2.1 < vN) ∧ s.2.2.2.2 ++ pathG next far s.1 s.2.1 = Ls) (fun s => s.1) ((gi far u).toNat, u, A5, 1, [u]) ⟨rfl, rfl, rfl, rfl, rfl, trivial⟩ ⟨hS5, by show gi far u = ((gi far u).toNat : Int); omega, by show 0 ≤ u ∧ u < vN; omega, hfin.symm⟩ ?_
    rintro ⟨d, at_, A6, c6, out⟩ e w6 ⟨hS6, hd, hat, hout⟩
    dsimp only at hS6 hd hat hout ⊢
    have hol := congrArg List.length hout
    rw [List.length_append, pathG_len] at hol
    refine Cd.seq ?_
    refine Cd.seq ?_
    refine Cd.region ?_
    refine Ops.mv_int rfl rfl rfl ?_
    refine Ops.mv_int rfl rfl rfl ?_
    refine Ops.neq rfl rfl rfl ?_
    refine Ops.nil ?_
    refine thenQ_n ?_
    -- stop: cond
    refine Cd.cond_p _ rfl (fun h4 => ?_) (fun h4 => ?_)
    · obtain ⟨w0, w1', w2'⟩ := hway at_ hat.1 hat.2 h4
      have hN6 := hN4.later hS6.below
      have hF6 := hF4.later hS6.below
      have hrl6 := hN6.rowLen hat.1 hat.2
      have hat' := hrow at_ hat.1
      have hdt := hft at_ hat.1 hat.2
      refine Cd.skip ?_
      refine thenQ_n ?_
      refine Cd.seq ?_
      refine Cd.block ?_
      refine Cd.seq ?_
      refine Cd.region ?_
      refine Ops.mv_sl rfl rfl rfl ?_
      refine Ops.mv_int rfl rfl rfl ?_
      -- stop: INDEXADDR 22 t39 t40 -> 41
      refine Ops.idx hN6.top.2 rfl rfl rfl hat.1 hat.2 ?_
      refine Ops.ld_sl hN6.top rfl (by omega) rfl rfl ?_
      refine Ops.len rfl rfl ?_
      refine Ops.mv_int rfl rfl rfl ?_
      refine Ops.nil ?_
      refine thenQ_n ?_
      refine Cd.block ?_
      -- stop: loop
      refine Cd.loop (α := Nat) (fun k => [(2, .int .i64 v), (8, .slice A3 vN c3), (10, .slice A4 vN vN), (11, .slice A6 out.length c6), (12, .int .i64 at_), (42, .slice (rg rs3 at_).a (rg rs3 at_).n (rg rs3 at_).c), (43, .int .i64 ((rg rs3 at_).n : Int)), (44, .int .i64 (k : Int))]) (fun k w' => St w6 w' [] ∧ k ≤ (gl next at_).length ∧ (∃ x ∈ (gl next at_).drop k, gi far x = gi far at_ - 1) ∧ nrK far (gi far at_ - 1) ((gl next at_).drop k) = nrK far (gi far at_ - 1) (gl next at_)) (fun k => (gl next at_).length - k) 0 ⟨rfl, rfl, rfl, rfl, rfl, rfl, rfl, rfl, trivial⟩ ⟨St.refl w6, Nat.zero_le _, w1', rfl⟩ ?_
      rintro k e w7 ⟨hS7, hk, hex, hnr⟩
      have hN7 := hN6.later hS7.below
      have hF7 := hF6.later hS7.below
      have hrow7 := hN7.at_ (i := at_) hat.1 hat.2
      refine Cd.seq ?_
      refine Cd.region ?_
      refine Ops.lss rfl rfl rfl ?_
      refine Ops.nil ?_
      refine thenQ_n ?_
      refine Cd.seq ?_
      -- stop: cond
      refine Cd.cond_p _ rfl (fun h5 => ?_) (fun h5 => ?_)
      · have hk' : k < (gl next at_).length := by omega
        have hxm : gi (gl next at_) (k : Int) ∈ gl next at_ := gi_in hk'
        have hx := hat'.1 _ hxm
        rw [nrK_drop hk'] at hnr
        refine Cd.skip ?_
        refine thenQ_n ?_
        refine Cd.seq ?_
        refine Cd.block ?_
        refine Cd.seq ?_
        refine Cd.region ?_
        -- stop: INDEXADDR 33 t42 t44 -> 46
        refine Ops.idx hrow7.2 rfl rfl rfl (by omega) (by omega) ?_
        refine Ops.ld_int hrow7 rfl (by omega) rfl rfl ?_
        generalize hxe : gi (gl next at_) (k : Int) = x at *
        refine Ops.mv_int rfl rfl rfl ?_
        refine Ops.nil ?_
        refine thenQ_n ?_
        refine Cd.seq ?_
        -- stop: draw
        refine Cd.draw [.ex (.slice (A4) (vN) (vN)), .ex (.int .i64 (x)), .ex (.pointer (ptrAt (A4) (x).toNat)), .ex (.int .i64 (gi (far) (x))), .ex (.slice (A4) (vN) (vN)), .ex (.int .i64 (at_)), .ex (.pointer (ptrAt (A4) (at_).toNat)), .ex (.int .i64 (gi (far) (at_))), .ex (.bool (decide ((gi (far) (x)) < (gi (far) (at_)))))] (by kernel_rfl) (by kernel_rfl) rfl (List.forall_mem_cons.2 ⟨Yd.lasts_ex _, (List.forall_mem_cons.2 ⟨Yd.lasts_ex _, (List.forall_mem_cons.2 ⟨Yd.lasts_ex _, (List.forall_mem_cons.2 ⟨Yd.lasts_ex _, (List.forall_mem_cons.2 ⟨Yd.lasts_ex _, (List.forall_mem_cons.2 ⟨Yd.lasts_ex _, (List.forall_mem_cons.2 ⟨Yd.lasts_ex _, (List.forall_mem_cons.2 ⟨Yd.lasts_ex _, (List.forall_mem_cons.2 ⟨Yd.lasts_ex _, (fun _ h => by cases h)⟩)⟩)⟩)⟩)⟩)⟩)⟩)⟩)⟩) ⟨?_, ?_, ?_, ?_, ?_, ?_, ?_, ?_, ?_, trivial⟩ ?_
        · intro e1 w1 hb hp hun
          refine Ops.mv_sl rfl rfl rfl ?_
          refine Ops.nil ?_
          exact After.dn (Below.refl _ _) (by exact rfl)
        · intro e1 w1 hb hp hun
          refine Ops.mv_int rfl rfl rfl ?_
          refine Ops.nil ?_
          exact After.dn (Below.refl _ _) (by exact rfl)
        · intro e1 w1 hb hp hun
          refine Ops.idx (hF7.later hb).2 rfl rfl rfl (by omega) (by omega) ?_
          refine Ops.nil ?_
          exact After.dn (Below.refl _ _) (by exact rfl)
        · intro e1 w1 hb hp hun
          refine Ops.ld_int (hF7.later hb) rfl (by omega) rfl rfl ?_
          refine Ops.nil ?_
          exact After.dn (Below.refl _ _) (by exact rfl)
        · intro e1 w1 hb hp hun
          refine Ops.mv_sl rfl rfl rfl ?_
          refine Ops.nil ?_
          exact After.dn (Below.refl _ _) (by exact rfl)
        · intro e1 w1 hb hp hun
          refine Ops.mv_int rfl rfl rfl ?_
          refine Ops.nil ?_
          exact After.dn (Below.refl _ _) (by exact rfl)
        · intro e1 w1 hb hp hun
          refine Ops.idx (hF7.later hb).2 rfl rfl rfl (by omega) (by omega) ?_
          refine Ops.nil ?_
          exact After.dn (Below.refl _ _) (by exact rfl)
        · intro e1 w1 hb hp hun
          refine Ops.ld_int (hF7.later hb) rfl (by omega) rfl rfl ?_
          refine Ops.nil ?_
          exact After.dn (Below.refl _ _) (by exact rfl)
        · intro e1 w1 hb hp hun
          refine Ops.lss rfl rfl rfl ?_
          refine Ops.nil ?_
          exact After.dn (Below.refl _ _) (by exact rfl)
        intro uu w8 hb8 _
        have hS8 := hS7.later hb8
        refine thenQ_n ?_
        -- stop: cond
        refine Cd.cond_p _ rfl (fun h6 => ?_) (fun h6 => ?_)
        · have h6 := (w2' _ hxm).1 h6
          rw [if_pos h6] at hnr
          have hS9 := hS6.later hS8.below
          refine Cd.seq ?_
          refine Cd.region ?_
          refine Ops.mv_int rfl rfl rfl ?_
          refine Ops.mv_int rfl rfl rfl ?_
          refine Ops.nil ?_
          refine thenQ_n ?_
          refine Cd.exit ?_
          refine blockQ_y rfl ?_
          refine thenQ_x ?_
          refine thenQ_x ?_
          refine blockQ_x ?_
          refine blockQ_n ?_
          refine thenQ_n ?_
          refine Cd.region ?_
          refine Ops.mv_sl rfl rfl rfl ?_
          refine Ops.mv_int rfl rfl rfl ?_
          -- stop: BUILDSLICE 33 1 [('pair', [0, ('app', 'Go.Operand.tmp', [36])])] -> 37
          refine Ops.bs1I hS9 rfl rfl rfl ?_
          intro A10 w10 hS10
          refine Ops.appI 1 hS10 rfl (hS10.rdI 0 rfl) rfl rfl rfl (by omega) (by omega) rfl ?_
          intro A11 c11 w11 hS11
          refine Ops.mv_sl rfl rfl rfl ?_
          refine Ops.nil ?_
          refine thenQ_n ?_
          -- stop: round
          obtain ⟨d', rfl⟩ : ∃ d', d = d' + 1 := ⟨d - 1, by omega⟩
          rw [pathG, ← hnr] at hout
          have e1 : (out ++ [x]).length = out.length + 1 := by simp
          refine ⟨(d', x, A11, c11, out ++ [x]), Nat.lt_succ_self d', ⟨rfl, rfl, rfl, by rw [e1]; rfl, rfl, trivial⟩, ?_, by show gi far x = (d' : Int); omega, hx, by show (out ++ [x]) ++ _ = _; rw [List.append_assoc]; exact hout⟩
          show St w4 w11 [CkI _ A11 (out ++ [x]).length c11 (out ++ [x])]
          rw [e1]
          exact hS11.tail
        · have h6 := fun h => h6 ((w2' _ hxm).2 h)
          rw [if_neg h6] at hnr
          refine Cd.skip ?_
          refine blockQ_n ?_
          refine thenQ_n ?_
          refine Cd.region ?_
          refine Ops.add rfl rfl rfl (by omega) ?_
          refine Ops.mv_int rfl rfl rfl ?_
          refine Ops.nil ?_
          refine thenQ_n ?_
          -- stop: round
          refine ⟨k + 1, by show _ - (k + 1) < _ - k; omega, ⟨rfl, rfl, rfl, rfl, rfl, rfl, rfl, rfl, trivial⟩, hS8, hk', ?_, hnr⟩
          obtain ⟨y, hy, hye⟩ := hex
          rw [List.drop_eq_getElem_cons hk', ← gi_mem hk', hxe] at hy
          rcases List.mem_cons.1 hy with rfl | hy
          · exact absurd hye h6
          · exact ⟨y, hy, hye⟩
      · exfalso --x
        obtain ⟨x, hx, _⟩ := hex
        rw [List.drop_of_length_le (by omega)] at hx
        cases hx
    · have hav : at_ = v := Classical.not_not.1 h4
      have hd0 : d = 0 := by rw [hav] at hd; omega
      subst hd0
      rw [pathG, List.append_nil] at hout
      subst hout
      refine Cd.exit ?_
      refine thenQ_x ?_
      refine thenQ_x ?_
      refine blockQ_x ?_
      refine thenQ_n ?_
      refine Cd.seq ?_
      refine Cd.region ?_
      refine Ops.mv_sl rfl rfl rfl ?_
      refine Ops.mv_sl rfl rfl rfl ?_
      refine Ops.mv_int rfl rfl rfl ?_
      refine Ops.nil ?_
      refine thenQ_n ?_
      refine Cd.ret ?_
      refine ret2_si rfl rfl ?_
      -- stop: end
      exact AnsR.mk rfl (hS4.call hS6)
end Go.Proofs.Ytgobjpcankaicaa.Vc
/-
  The walk of the law FnExactShortestPath: it returns true. Conditions: as it states them.
-/
namespace Go.Proofs.Ytgobjpcankaicaa.Vc
open Go.RowKit

theorem FnExactShortestPath_c (A : Option Addr) (n c : Nat) (rs : List SlV) (xss : List (List Int)) (u v : Int) (w : World) (hR : RowsI w A n rs xss) (hn : n ≤ 9223372036854775807) :
    Ret Try.prog 5 [.agg #[.slice A n c], .int .i64 u, .int .i64 v] w (fun r w' => r = .bool true ∧ St w w' []) := by
  have hxl := hR.len
  refine Ret.of_cd Try.func5 rfl Try.ntmps5 rfl (post1 rfl) ?_
  refine Cd.seq ?_
  refine Cd.region ?_
  -- stop: BOX 31 t0=app -> 3
  refine Ops.box1 (St.refl w) rfl rfl ?_
  intro Ab w1 hS
  refine Ops.mv_bool rfl rfl rfl ?_
  refine Ops.nil ?_
  refine thenQ_n ?_
  refine Cd.seq ?_
  refine Cd.region ?_
  refine Ops.mv_int rfl rfl rfl ?_
  refine Ops.nil ?_
  refine thenQ_n ?_
  refine Cd.seq ?_
  refine Cd.region ?_
  -- stop: LOAD 31 t3 -> 18
  refine Ops.ld_agg 0 (hS.rd 0 rfl) rfl rfl rfl ?_
  refine Ops.mv_int rfl rfl rfl ?_
  -- stop: CALL laws.szManiplex(t18, t19) -> 20
  refine Ops.call (szManiplex_c A n c rs xss 1048576 _ (hS.oldRows hR) hn (by omega)) rfl rfl rfl ?_
  rintro _ w2 ⟨rfl, hst⟩
  have hS := hS.later hst.below
  refine Ops.mv_int rfl rfl rfl ?_
  refine Ops.nil ?_
  refine thenQ_n ?_
  refine Cd.seq ?_
  refine Cd.seq ?_
  refine Cd.region ?_
  refine Ops.mv_int rfl rfl rfl ?_
  refine Ops.lss rfl rfl rfl ?_
  refine Ops.nil ?_
  refine thenQ_n ?_
  -- stop: cond
  refine Cd.cond_p _ rfl (fun h1 => ?_) (fun h1 => ?_)
  · refine Cd.seq ?_
    refine Cd.region ?_
    refine Ops.mv_bool rfl rfl rfl ?_
    refine Ops.nil ?_
    refine thenQ_n ?_
    refine Cd.ret ?_
    refine thenQ_r ?_
    refine ret1_b rfl ?_
    -- stop: end
    exact ⟨rfl, hS.none⟩
  have hsm := small_of hR.top.1 (Int.not_lt.1 h1)
  have hfit := fits_of hR.top.1 (by omega) (Int.not_lt.1 h1)
  refine Cd.skip ?_
  refine thenQ_n ?_
  refine Cd.seq ?_
  refine Cd.region ?_
  -- stop: LOAD 31 t3 -> 24
  refine Ops.ld_agg 0 (hS.rd 0 rfl) rfl rfl rfl ?_
  refine Ops.call (toManiplex_c A n c rs xss _ (hS.oldRows hR) hfit) rfl rfl rfl ?_
  rintro _ w3 ⟨A1, rs1, rfl, hrl1, hst1⟩
  refine Ops.mv_int rfl rfl rfl ?_
  refine Ops.mv_int rfl rfl rfl ?_
  -- stop: CALL spec.ShortestPath(t25, t26, t27) -> 28
  refine Ops.call (specShortestPath_c A1 n n rs1 xss u v _ (St.rowsI (ks := []) (by rwa [List.append_nil]) hxl) hn) rfl rfl rfl ?_
  rintro _ w4 ⟨A4, c4, rfl, hst2⟩
  have hS4 := ((hS.later hst1.below).call hst2)
  refine Ops.mv_tup rfl rfl rfl ?_
  refine Ops.extract rfl rfl rfl ?_
  refine Ops.extract rfl rfl rfl ?_
  refine Ops.mv_sl rfl rfl rfl ?_
  refine Ops.mv_int rfl rfl rfl ?_
  refine Ops.nil ?_
  refine thenQ_n ?_
  refine Cd.seq ?_
  refine Cd.region ?_
  -- stop: LOAD 31 t3 -> 31
  refine Ops.ld_agg 0 (hS4.rd 1 rfl) rfl rfl rfl ?_
  refine Ops.call (toManiplex_c A n c rs xss _ (hS4.oldRows hR) hfit) rfl rfl rfl ?_
  rintro _ w5 ⟨A2, rs2, rfl, hrl2, hst3⟩
  have hS5 := hS4.call2 hst3
  refine Ops.new1 hS5 rfl ?_
  intro A6 w6 hS6
  refine Ops.st_agg 1 0 hS6 rfl rfl rfl rfl rfl rfl rfl ?_
  intro w7 hS7
  have hS7 : St w w7 ([Bx 24 1 A6 [.slice A2 n n], CkI 2 A4 (spL xss u v).length c4 (spL xss u v), Bx 31 1 Ab [.slice A n c]] ++ mat 33 2 A2 n n rs2 xss) := hS7
  refine Ops.nil ?_
  refine thenQ_n ?_
  refine Cd.seq ?_
  refine Cd.region ?_
  -- stop: LOAD 24 t10 -> 34
  refine Ops.ld_agg 0 (hS7.rd 0 rfl) rfl rfl rfl ?_
  refine Ops.mv_int rfl rfl rfl ?_
  refine Ops.mv_int rfl rfl rfl ?_
  -- stop: CALL impl.ShortestPath(t34, t35, t36) -> 37
  refine Ops.call (implShortestPath_c A2 n n rs2 xss u v _ ((hS7.matNil.sub (List.sublist_append_right _ _)).rowsI hxl) (Nat.le_refl _) hn) rfl rfl rfl ?_
  rintro _ w8 ⟨A7, c7, rfl, hst4⟩
  have hS8 : St w w8 ([CkI 2 A7 (spL xss u v).length c7 (spL xss u v), Bx 24 1 A6 [.slice A2 n n], CkI 2 A4 (spL xss u v).length c4 (spL xss u v), Bx 31 1 Ab [.slice A n c]] ++ (mat 33 2 A2 n n rs2 xss ++ [])) := (hS7.call hst4).matNil (pre := [_, _, _, _])
  have hcap7 := hS8.cap 0 rfl
  have hL : (spL xss u v).length ≤ 1000 := by
    exact sp_bd xss u v
  generalize hLe : spL xss u v = L at *
  generalize hKe : goK xss [u, v] = K at *
  refine Ops.mv_tup rfl rfl rfl ?_
  refine Ops.extract rfl rfl rfl ?_
  refine Ops.extract rfl rfl rfl ?_
  refine Ops.mv_sl rfl rfl rfl ?_
  refine Ops.mv_int rfl rfl rfl ?_
  refine Ops.nil ?_
  refine thenQ_n ?_
  refine Cd.seq ?_
  refine Cd.seq ?_
  refine Cd.region ?_
  refine Ops.mv_sl rfl rfl rfl ?_
  refine Ops.mv_sl rfl rfl rfl ?_
  -- stop: CALL laws.eqInt64S(t40, t41) -> 42
  refine Ops.call (eqInt64S_c A7 _ c7 L A4 _ c4 L _ (hS8.rdI 0 rfl) (hS8.rdI 2 rfl) (by omega)) rfl rfl rfl ?_
  rintro _ w9 ⟨rfl, hst5⟩
  have hS9 := hS8.later hst5.below
  first | refine Ops.not_p rfl rfl ?_ | refine Ops.not rfl rfl ?_
  refine Ops.mv_bool rfl rfl rfl ?_
  -- stop: guard 44
  refine Ops.split_p 44 rfl (fun h => absurd rfl h) (fun _ => ?_) --f
  refine Ops.rung rfl rfl rfl ?_
  refine Ops.mv_int rfl rfl rfl ?_
  refine Ops.rung rfl rfl rfl ?_
  refine Ops.mv_int rfl rfl rfl ?_
  refine Ops.rung rfl rfl rfl ?_
  refine Ops.neq rfl rfl rfl ?_
  refine Ops.pick_f rfl rfl rfl ?_
  refine Ops.nil ?_
  refine thenQ_n ?_
  -- stop: cond
  refine Cd.cond_pf rfl (fun h => h rfl) ?_
  refine Cd.skip ?_
  refine thenQ_n ?_
  refine Cd.seq ?_
  refine Cd.seq ?_
  -- stop: draw
  have hM9 := (hS9.sub (List.sublist_append_right _ _)).rowsI hxl
  have hR9 := hS9.oldRows hR
  refine Cd.draw [.ex (.agg #[.slice (A2) (n) (n)]), .ex (.agg #[.slice (A) (n) (c)]), .pr (fun v w' => ∃ D rd, v = .agg #[.slice D n n] ∧ RowsI w' D n rd xss), .ex (.bool (true)), .ex (.bool (false))] (by kernel_rfl) (by kernel_rfl) rfl (List.forall_mem_cons.2 ⟨Yd.lasts_ex _, (List.forall_mem_cons.2 ⟨Yd.lasts_ex _, (List.forall_mem_cons.2 ⟨Yd.lasts_pr (fun v w w' h hb => by obtain ⟨D, rd, hv, h1⟩ := h; exact ⟨D, rd, hv, h1.later hb⟩), (List.forall_mem_cons.2 ⟨Yd.lasts_ex _, (List.forall_mem_cons.2 ⟨Yd.lasts_ex _, (fun _ h => by cases h)⟩)⟩)⟩)⟩)⟩) ⟨?_, ?_, ?_, ?_, ?_, trivial⟩ ?_
  · intro e1 w1 hb hp hun
    refine Ops.ld_agg 0 ((hS9.rd 1 rfl).below hb) rfl rfl rfl ?_
    refine Ops.nil ?_
    exact After.dn (Below.refl _ _) (by exact rfl)
  · intro e1 w1 hb hp hun
    refine Ops.ld_agg 0 ((hS9.rd 3 rfl).below hb) rfl rfl rfl ?_
    refine Ops.nil ?_
    exact After.dn (Below.refl _ _) (by exact rfl)
  · intro e1 w1 hb hp hun
    refine Ops.call (toManiplex_c A n c rs xss _ (hR9.later hb) hfit) rfl rfl rfl ?_
    rintro _ w2 ⟨D, rd, rfl, hrd, hst⟩
    refine Ops.nil ?_
    exact After.dn hst.below ⟨D, rd, rfl, St.rowsI (ks := []) (by rwa [List.append_nil]) hxl⟩
  · intro e1 w1 hb hp hun
    obtain ⟨D, rd, h51, h1⟩ := (hp 2 (by decide) rfl _ _ rfl rfl)
    refine Ops.call (eqManiplex_c A2 n n rs2 xss D n n rd xss _ (hM9.later hb) h1 hn) rfl (by exact congrArg (fun v => [Value.agg #[.slice A2 n n], v]) h51) rfl ?_
    rintro _ w2 ⟨rfl, hst⟩
    refine Ops.nil ?_
    exact After.dn hst.below (by exact congrArg Value.bool (decide_eq_true rfl))
  · intro e1 w1 hb hp hun
    refine Ops.not rfl rfl ?_
    refine Ops.nil ?_
    exact After.dn (Below.refl _ _) (by exact congrArg Value.bool (rfl))
  intro uu w10 hb10 _
  have hS10 := hS9.later hb10
  refine thenQ_n ?_
  -- stop: cond
  refine Cd.cond_f rfl ?_
  refine Cd.skip ?_
  refine thenQ_n ?_
  refine Cd.seq ?_
  refine Cd.region ?_
  refine Ops.mv_int rfl rfl rfl ?_
  refine Ops.nil ?_
  refine thenQ_n ?_
  refine Cd.seq ?_
  refine Cd.region ?_
  -- stop: LOAD 24 t10 -> 54
  refine Ops.ld_agg 0 (hS10.rd 1 rfl) rfl rfl rfl ?_
  refine Ops.mv_int rfl rfl rfl ?_
  -- stop: CALL laws.markManiplex(t54, t55) -> 56
  refine Ops.call (markManiplex_c (rs := rs2) 1 hS10 hrl2 hxl hsm.1 (fun i hi => ?_) (by omega)) rfl rfl rfl ?_
  · have := (hM9.row i hi).1
    have h2 := (hR.row i hi).1
    have h3 := hsm.2 i hi
    omega
  rintro _ w11 ⟨K1, ys, rfl, hK1, hyl, hS11⟩
  have hS11 : St w w11 (CkI 2 A7 L.length c7 L :: Bx 24 1 A6 [.slice A2 n n] :: CkI 2 A4 L.length c4 L :: Bx 31 1 Ab [.slice A n c] :: (mat 33 2 A2 n n rs2 ys ++ [])) := hS11
  refine Ops.mv_int rfl rfl rfl ?_
  refine Ops.nil ?_
  refine thenQ_n ?_
  refine Cd.seq ?_
  refine Cd.seq ?_
  refine Cd.region ?_
  refine Ops.mv_int rfl rfl rfl ?_
  refine Ops.lss rfl rfl rfl ?_
  refine Ops.mv_bool rfl rfl rfl ?_
  -- stop: guard 59
  refine Ops.split_p 59 rfl (fun h => absurd h (by omega)) (fun _ => ?_) --f
  refine Ops.rung rfl rfl rfl ?_
  refine Ops.mv_sl rfl rfl rfl ?_
  refine Ops.rung rfl rfl rfl ?_
  refine Ops.mv_sl rfl rfl rfl ?_
  refine Ops.rung rfl rfl rfl ?_
  -- stop: CALL laws.eqInt64S(t60, t61) -> 62
  refine Ops.call (eqInt64S_c A7 _ c7 L A4 _ c4 L _ (hS11.rdI 0 rfl) (hS11.rdI 2 rfl) (by omega)) rfl rfl rfl ?_
  rintro _ w12 ⟨rfl, hst6⟩
  have hS12 := hS11.later hst6.below
  refine Ops.rung rfl rfl rfl ?_
  first | refine Ops.not_p rfl rfl ?_ | refine Ops.not rfl rfl ?_
  refine Ops.pick_f rfl rfl rfl ?_
  refine Ops.mv_bool rfl rfl rfl ?_
  -- stop: guard 65
  refine Ops.split_p 65 rfl (fun h => absurd rfl h) (fun _ => ?_) --f
  refine Ops.rung rfl rfl rfl ?_
  refine Ops.mv_int rfl rfl rfl ?_
  refine Ops.rung rfl rfl rfl ?_
  refine Ops.mv_int rfl rfl rfl ?_
  refine Ops.rung rfl rfl rfl ?_
  refine Ops.neq rfl rfl rfl ?_
  refine Ops.pick_f rfl rfl rfl ?_
  refine Ops.nil ?_
  refine thenQ_n ?_
  -- stop: cond
  refine Cd.cond_pf rfl (fun h => h rfl) ?_
  refine Cd.skip ?_
  refine thenQ_n ?_
  refine Cd.seq ?_
  refine Cd.region ?_
  refine Ops.mv_int rfl rfl rfl ?_
  refine Ops.nil ?_
  refine thenQ_n ?_
  refine Cd.seq ?_
  refine Cd.region ?_
  refine Ops.mv_sl rfl rfl rfl ?_
  refine Ops.mv_int rfl rfl rfl ?_
  -- stop: CALL laws.markInt64S(t70, t71) -> 72
  refine Ops.call (markInt64S_c 0 1 hS12 rfl (by omega)) rfl rfl rfl ?_
  rintro _ w13 ⟨rfl, hS13⟩
  have hS13 : St w w13 (CkI 2 A7 L.length c7 (marks 1 L.length) :: Bx 24 1 A6 [.slice A2 n n] :: CkI 2 A4 L.length c4 L :: Bx 31 1 Ab [.slice A n c] :: (mat 33 2 A2 n n rs2 ys ++ [])) := hS13
  refine Ops.mv_int rfl rfl rfl ?_
  refine Ops.nil ?_
  refine thenQ_n ?_
  refine Cd.seq ?_
  refine Cd.region ?_
  refine Ops.mv_int rfl rfl rfl ?_
  refine Ops.nil ?_
  refine thenQ_n ?_
  refine Cd.seq ?_
  refine Cd.region ?_
  refine Ops.mv_sl rfl rfl rfl ?_
  refine Ops.mv_int rfl rfl rfl ?_
  -- stop: CALL laws.heldInt64S(t73, t74) -> 75
  refine Ops.call (heldInt64S_c A7 L.length c7 1 _ (hS13.rdI 0 rfl) (by omega)) rfl rfl rfl ?_
  rintro _ w13 ⟨rfl, rfl⟩
  refine Ops.mv_int rfl rfl rfl ?_
  refine Ops.nil ?_
  refine thenQ_n ?_
  refine Cd.seq ?_
  refine Cd.seq ?_
  refine Cd.region ?_
  refine Ops.mv_int rfl rfl rfl ?_
  refine Ops.lss rfl rfl rfl ?_
  refine Ops.nil ?_
  refine thenQ_n ?_
  -- stop: cond
  refine Cd.cond_pf rfl (by omega) ?_
  refine Cd.skip ?_
  refine thenQ_n ?_
  refine Cd.seq ?_
  refine Cd.seq ?_
  refine Cd.region ?_
  refine Ops.mv_int rfl rfl rfl ?_
  refine Ops.mv_int rfl rfl rfl ?_
  refine Ops.neq rfl rfl rfl ?_
  refine Ops.nil ?_
  refine thenQ_n ?_
  -- stop: cond
  refine Cd.cond_pf rfl (fun h => h rfl) ?_
  refine Cd.skip ?_
  refine thenQ_n ?_
  refine Cd.seq ?_
  refine Cd.region ?_
  -- stop: LOAD 31 t3 -> 82
  refine Ops.ld_agg 0 (hS13.rd 3 rfl) rfl rfl rfl ?_
  refine Ops.call (toManiplex_c A n c rs xss _ (hS13.oldRows hR) hfit) rfl rfl rfl ?_
  rintro _ w14 ⟨A8, rs8, rfl, hrl8, hst7⟩
  have hI8 := implShortestPath_c A8 n n rs8 xss u v w14 (St.rowsI (ks := []) (by rwa [List.append_nil]) hxl) (Nat.le_refl _) hn
  rw [hLe, hKe] at hI8
  refine Ops.mv_int rfl rfl rfl ?_
  refine Ops.mv_int rfl rfl rfl ?_
  -- stop: CALL impl.ShortestPath(t83, t84, t85) -> 86
  refine Ops.call hI8 rfl rfl rfl ?_
  rintro _ w15 ⟨A9, c9, rfl, hst8⟩
  have hS15 := (hS13.later hst7.below).call hst8
  have hS15 : St w w15 (CkI 2 A9 L.length c9 L :: CkI 2 A7 L.length c7 (marks 1 L.length) :: Bx 24 1 A6 [.slice A2 n n] :: CkI 2 A4 L.length c4 L :: Bx 31 1 Ab [.slice A n c] :: (mat 33 2 A2 n n rs2 ys ++ [])) := hS15
  refine Ops.mv_tup rfl rfl rfl ?_
  refine Ops.extract rfl rfl rfl ?_
  refine Ops.extract rfl rfl rfl ?_
  refine Ops.mv_sl rfl rfl rfl ?_
  refine Ops.mv_int rfl rfl rfl ?_
  refine Ops.nil ?_
  refine thenQ_n ?_
  refine Cd.seq ?_
  refine Cd.seq ?_
  refine Cd.region ?_
  refine Ops.mv_sl rfl rfl rfl ?_
  refine Ops.mv_sl rfl rfl rfl ?_
  -- stop: CALL laws.eqInt64S(t89, t90) -> 91
  refine Ops.call (eqInt64S_c A9 _ c9 L A4 _ c4 L _ (hS15.rdI 0 rfl) (hS15.rdI 3 rfl) (by omega)) rfl rfl rfl ?_
  rintro _ w16 ⟨rfl, hst9⟩
  have hS16 := hS15.later hst9.below
  first | refine Ops.not_p rfl rfl ?_ | refine Ops.not rfl rfl ?_
  refine Ops.mv_bool rfl rfl rfl ?_
  -- stop: guard 93
  refine Ops.split_p 93 rfl (fun h => absurd rfl h) (fun _ => ?_) --f
  refine Ops.rung rfl rfl rfl ?_
  refine Ops.mv_int rfl rfl rfl ?_
  refine Ops.rung rfl rfl rfl ?_
  refine Ops.mv_int rfl rfl rfl ?_
  refine Ops.rung rfl rfl rfl ?_
  refine Ops.neq rfl rfl rfl ?_
  refine Ops.pick_f rfl rfl rfl ?_
  refine Ops.nil ?_
  refine thenQ_n ?_
  -- stop: cond
  refine Cd.cond_pf rfl (fun h => h rfl) ?_
  refine Cd.skip ?_
  refine thenQ_n ?_
  refine Cd.seq ?_
  refine Cd.region ?_
  refine Ops.mv_int rfl rfl rfl ?_
  refine Ops.nil ?_
  refine thenQ_n ?_
  refine Cd.seq ?_
  refine Cd.region ?_
  refine Ops.mv_sl rfl rfl rfl ?_
  refine Ops.mv_int rfl rfl rfl ?_
  -- stop: CALL laws.heldInt64S(t98, t99) -> 100
  refine Ops.call (heldInt64S_c A7 L.length c7 1 _ (hS16.rdI 1 rfl) (by omega)) rfl rfl rfl ?_
  rintro _ w16 ⟨rfl, rfl⟩
  refine Ops.mv_int rfl rfl rfl ?_
  refine Ops.nil ?_
  refine thenQ_n ?_
  refine Cd.seq ?_
  refine Cd.seq ?_
  refine Cd.region ?_
  refine Ops.mv_int rfl rfl rfl ?_
  refine Ops.lss rfl rfl rfl ?_
  refine Ops.nil ?_
  refine thenQ_n ?_
  -- stop: cond
  refine Cd.cond_pf rfl (by omega) ?_
  refine Cd.skip ?_
  refine thenQ_n ?_
  refine Cd.seq ?_
  refine Cd.seq ?_
  refine Cd.region ?_
  refine Ops.mv_int rfl rfl rfl ?_
  refine Ops.mv_int rfl rfl rfl ?_
  refine Ops.neq rfl rfl rfl ?_
  refine Ops.nil ?_
  refine thenQ_n ?_
  -- stop: cond
  refine Cd.cond_pf rfl (fun h => h rfl) ?_
  refine Cd.skip ?_
  refine thenQ_n ?_
  refine Cd.seq ?_
  refine Cd.region ?_
  refine Ops.mv_bool rfl rfl rfl ?_
  refine Ops.nil ?_
  refine thenQ_n ?_
  refine Cd.ret ?_
  refine ret1_b rfl ?_
  -- stop: end
  exact ⟨rfl, hS16.none⟩

end Go.Proofs.Ytgobjpcankaicaa.Vc
/-
  A statement's frame: the arguments opened, and what a walk gives told in the statement's own words. Conditions: as each states them.
-/
namespace Go.Proofs.Ytgobjpcankaicaa.Vc
open Go.RowKit Go.ChangeShapes Go.WideShapes

theorem laid : laidOutB Try.prog = true := by kernel_rfl
theorem own : ownKnob Try.prog.godebug = none := by kernel_rfl

section
variable {H : Type} {enc : TypeId × Value → H} {P : Program}
theorem open_mat {w : World} {t e q : TypeId} {fuel : Nat} {cs : List Value} {x : DataW H × List MemPlace} (ht : P.underlying t = some (.slice e)) (he : P.underlying e = some (.slice q)) (hq : P.underlying q = some (.int .i64)) (ce : P.cellsOf e = 1) (cq : P.cellsOf q = 1)
    (h : DataW.trod enc P w 0 (fun _ => true) true fuel t cs = some x) : ∃ A n c rs xss, cs = [.slice A n c] ∧ RowsI w A n rs xss ∧ n ≤ c ∧ c ≤ 9223372036854775807 := by
  rcases Go.Deep.open_int_rows ht he hq ce cq h with ⟨rfl, _⟩ | ⟨a, len, cap, A, L, C, Z, rfl, _, hl, hm, _, hc⟩
  · exact ⟨none, 0, 0, [], [], rfl, RowsI.nil w, Nat.le_refl _, by omega⟩
  · refine ⟨some a, len, cap, (List.range len).map fun r => ⟨A r, L r, C r⟩, (List.range len).map fun r => (Z r).take (L r), rfl, ⟨⟨by simp, fun k hk => ?_⟩, by simp, fun i hi => ?_, fun i hi => ?_⟩, hl, by simpa [maxLen] using hm⟩
    · have := (hc k (by omega)).1
      exact ⟨a.add k, rfl, by rw [this]; simp [List.getD_eq_getElem?_getD, hk, SlV.v]⟩
    · have h1 := hc i (by omega)
      have e1 : ((List.range len).map fun r => (⟨A r, L r, C r⟩ : SlV)).getD i slNil = ⟨A i, L i, C i⟩ := by simp [List.getD_eq_getElem?_getD, hi]
      have e2 : ((List.range len).map fun r => (Z r).take (L r)).getD i [] = (Z i).take (L i) := by simp [List.getD_eq_getElem?_getD, hi]
      rw [e1, e2]
      refine ⟨by simp; omega, fun k hk => ?_⟩
      have hk' : k < L i := hk
      cases hA : A i with
      | none => have := h1.2.2.2.2.2.1 hA; omega
      | some a' =>
        have h2 := (h1.2.2.2.2.2.2 a' hA).2 k (by omega)
        exact ⟨a'.add k, rfl, by rw [h2]; simp [List.getD_eq_getElem?_getD, List.getElem?_take, hk']⟩
    · have h1 := hc i (by omega)
      have e1 : ((List.range len).map fun r => (⟨A r, L r, C r⟩ : SlV)).getD i slNil = ⟨A i, L i, C i⟩ := by simp [List.getD_eq_getElem?_getD, hi]
      rw [e1]
      exact ⟨h1.2.1, h1.2.2.1⟩

theorem trodAll_stays (hl : laidOutB P = true) {W W' : World} (hb : Below W.heap.size W W') {sp : Nat → Bool} : ∀ {ts : List TypeId} {vs : List Value} {ds : List (DataW H)} {ps : List MemPlace}, (ts.all fun t => P.readableRec t && Nat.blt t P.types.size) = true → (∀ p ∈ ps, p.block < W.heap.size) → (∀ p ∈ ps, sp p.block = true) →
    DataW.TrodAll enc P W 0 (fun _ => true) true ts vs ds ps → DataW.TrodAll enc P W' 0 sp true ts vs ds ps
  | [], [], [], _, _, _, _, h => h
  | t :: ts, v :: vs, d :: ds, ps, hr, hlt, hsp, h => by
    obtain ⟨p, q, h1, h2, rfl⟩ := h
    simp only [List.all_cons, Bool.and_eq_true] at hr
    exact ⟨p, q, WideElems.Trod_stays hl hr.1.1 (by simpa [Nat.blt_eq] using hr.1.2) h1 (fun x hx => hb.same (hlt x (by simp [hx]))) (fun x hx => hsp x (by simp [hx])), trodAll_stays hl hb hr.2 (fun x hx => hlt x (by simp [hx])) (fun x hx => hsp x (by simp [hx])) h2, rfl⟩
  | [], [], _ :: _, _, _, _, _, h => h.elim
  | [], _ :: _, _, _, _, _, _, h => by cases h
  | _ :: _, [], _, _, _, _, _, h => by cases h
  | _ :: _, _ :: _, [], _, _, _, _, h => by cases h

/-- what a law's walk gives, in its statement's words: it returns true, and its arguments read as they did -/
theorem post_law {f : Func} {s : ChangeSpec} {apart : Bool} {W W' : World} {args : Array Value} {ds gs : List (DataW H)} {before : List MemPlace} (hl : laidOutB P = true) {b : TypeId} (hu : P.underlying b = some .bool) (hres : f.resultTypes = #[b]) (hv : s.vars = [])
    (hr : (f.params.toList.all fun t => P.readableRec t && Nat.blt t P.types.size) = true) (hfn : (s.fn H (ds ++ gs)).results = [.lit (.bool true)] ∧ (s.fn H (ds ++ gs)).args = ds ∧ (s.fn H (ds ++ gs)).vars = [])
    (hW : DataW.Whole enc P f.params.toList s.vars apart W args.toList ds gs before) (hb : Below W.heap.size W W') : s.post enc P f apart true false false W args (.bool true) W' := by
  have hlt : ∀ x ∈ before, x.block < W.heap.size := fun x hx => hW.lt x hx
  have hW0 := hW
  obtain ⟨p, q, hA, hV, rfl, hz, hn⟩ := hW
  rw [hv] at hV
  obtain ⟨rfl, rfl⟩ := trodVars_none hV
  have hlp : ∀ x ∈ p, x.block < W.heap.size := fun x hx => hlt x (by simp [hx])
  have hA' : ∀ sp : Nat → Bool, (∀ x ∈ p, sp x.block = true) → DataW.TrodAll enc P W' 0 sp true f.params.toList args.toList (s.fn H (ds ++ [])).args p := fun sp hsp => by
    rw [hfn.2.1]
    exact trodAll_stays hl hb hr hlp hsp hA
  have hR' : ∀ (b0 : Nat) (sp : Nat → Bool) (hd : Bool), DataW.TrodAll enc P W' b0 sp hd f.resultTypes.toList ((Value.bool true).resultList f.resultTypes.size) (s.fn H (ds ++ [])).results [] := fun b0 sp hd => by
    rw [hfn.1, hres]
    exact trodAll_cons_mk (shut_bool hu _) trodAll_mk0
  have hV' : ∀ sp : Nat → Bool, DataW.TrodVars enc P W' sp s.vars (s.fn H (ds ++ [])).vars [] := fun sp => by
    rw [hfn.2.2, hv]; rfl
  refine ⟨ds, [], p ++ [], [], p, [], hW0, hR' _ _ _, hA' _ (fun x hx => by simpa using hlp x hx), hV' _, World.keptBut_mono (fun x hx => ⟨hx, by simpa using hx⟩) (hb.frame (· ∈ p ++ [])), fun _ => ⟨fun j t r h1 h2 => ?_, _, _, ([] ++ p) ++ [], ⟨[] ++ p, [], trodAll_append (hA' _ fun _ _ => rfl) (hR' _ _ _), hV' _, rfl, fun c off hc => ?_, fun ha => by simpa using hn ha⟩, fun x hx _ => by simpa using hx⟩⟩
  · rw [hres] at h1 h2
    cases j with
    | zero =>
      simp at h1
      subst h1
      simp [Value.resultList] at h2
      subst h2
      exact okWide_bool_mk hu _
    | succ j => simp at h1
  · have hin : MemPlace.cell c off ∈ p ++ [] := by simpa using hc
    rw [hb.frozen (hlt _ hin)]
    exact hz c off hin
end
end Go.Proofs.Ytgobjpcankaicaa.Vc
/-
  Arguments opened: a struct of one matrix, a list of integers. Conditions: as each states them.
-/
namespace Go.Proofs.Ytgobjpcankaicaa.Vc
open Go.RowKit Go.ChangeShapes Go.WideShapes

section
variable {H : Type} {enc : TypeId × Value → H} {P : Program}
theorem open_man {w : World} {r : Go.Reach} {b0 : Nat} {t e q : TypeId} {f0 : Field} {v : Value} {d : DataW H} {p : List MemPlace} (hs : P.underlying t = some (.struct #[f0])) (hf0 : f0.offset = 0) (ht : P.underlying f0.type = some (.slice e)) (he : P.underlying e = some (.slice q)) (hq : P.underlying q = some (.int .i64)) (ce : P.cellsOf e = 1) (cq : P.cellsOf q = 1) (cm : P.cellsOf f0.type = 1) (cc : P.cellsOf t = 1)
    (hval : Value.okWide P w r b0 t v) (h : DataW.Trod enc P w 0 (fun _ => true) true t v d p) : ∃ A n c rs xss, v = .agg #[.slice A n c] ∧ RowsI w A n rs xss ∧ n ≤ c ∧ c ≤ 9223372036854775807 := by
  obtain ⟨cs, rfl, hsz⟩ := okWide_struct hs hval
  obtain ⟨fuel, hf⟩ := h
  obtain ⟨z0, m0, _, _, hz0⟩ := trod_struct1 hs hf
  obtain ⟨A, n, c, rs, xss, e1, hR, hn, hc⟩ := open_mat ht he hq ce cq hz0
  refine ⟨A, n, c, rs, xss, ?_, hR, hn, hc⟩
  have hl : cs.toList.length = 1 := by rw [Array.length_toList, hsz, cc]
  have e1 : (cs.toList.drop f0.offset).take (P.cellsOf f0.type) = [Value.slice A n c] := e1
  rw [hf0, cm, List.drop_zero, List.take_of_length_le (by omega)] at e1
  congr 1
  exact Array.ext' (by rw [e1])

theorem open_row {w : World} {r : Go.Reach} {b0 : Nat} {t e : TypeId} {v : Value} {d : DataW H} {p : List MemPlace} (ht : P.underlying t = some (.slice e)) (he : P.underlying e = some (.int .i64)) (ce : P.cellsOf e = 1)
    (hval : Value.okWide P w r b0 t v) (h : DataW.Trod enc P w 0 (fun _ => true) true t v d p) : ∃ A n c xs, v = .slice A n c ∧ RdI w A n xs ∧ n ≤ c ∧ c ≤ 9223372036854775807 := by
  obtain ⟨a, len, cap, rfl⟩ := okWide_slice ht hval
  obtain ⟨fuel, hf⟩ := h
  have hcs : (Value.slice a len cap).cells.toList = [Value.slice a len cap] := rfl
  rw [hcs] at hf
  rcases open_ints ht he ce hf with ⟨h1, _⟩ | ⟨b, n, c, zs, h1, _, hl, hm, hz, _, hc, _⟩
  · simp only [List.cons.injEq, and_true] at h1
    exact ⟨none, 0, 0, [], h1, RdI.nil, Nat.le_refl _, by omega⟩
  · simp only [List.cons.injEq, and_true] at h1
    refine ⟨some b, n, c, zs.take n, h1, ⟨?_, fun k hk => ?_⟩, hl, by simpa [maxLen] using hm⟩
    · rw [if_pos rfl] at hz; simp; omega
    · rw [if_pos rfl] at hz
      refine ⟨b.add k, rfl, ?_⟩
      rw [hc k (by omega)]
      simp [List.getD_eq_getElem?_getD, List.getElem?_take, hk]
end
end Go.Proofs.Ytgobjpcankaicaa.Vc
