/-
  Distances in a graph: the search, and the walks of it on both sides. Conditions: as each states them.
-/
import Derived.Test.YtpdhjnacnmfbjaaD9
import Derived.Test.YtpdhjnacnmfbjaaC11
namespace Go.Proofs.Ytpdhjnacnmfbjaa.Vc
open Go.RowKit

/-- one neighbour met: the distances, and the queue -/
def stepB (wo u : Int) (st : List Int × List Int) (x : Int) : List Int × List Int := if gi st.1 x < 0 ∧ x ≠ wo then (st.1.set x.toNat (gi st.1 u + 1), st.2 ++ [x]) else st
def rowB (wo u : Int) (r : List Int) (st : List Int × List Int) : List Int × List Int := r.foldl (stepB wo u) st
theorem rowB_snoc (wo u : Int) (r : List Int) (x : Int) (st : List Int × List Int) : rowB wo u (r ++ [x]) st = stepB wo u (rowB wo u r st) x := by simp [rowB, List.foldl_append]
def bfsD (next : List (List Int)) (wo : Int) : Nat → Nat → List Int × List Int → List Int × List Int
  | 0, _, st => st
  | f + 1, i, st => if i < st.2.length then bfsD next wo f (i + 1) (rowB wo (gi st.2 (i : Int)) (gl next (gi st.2 (i : Int))) st) else st
theorem bfsD_go {next : List (List Int)} {wo : Int} {f i : Nat} {st : List Int × List Int} (hi : i < st.2.length) (hf : 0 < f) : bfsD next wo f i st = bfsD next wo (f - 1) (i + 1) (rowB wo (gi st.2 (i : Int)) (gl next (gi st.2 (i : Int))) st) := by
  obtain ⟨g, rfl⟩ : ∃ g, f = g + 1 := ⟨f - 1, by omega⟩
  rw [bfsD, if_pos hi]; rfl
theorem bfsD_end {next : List (List Int)} {wo : Int} {f i : Nat} {st : List Int × List Int} (hi : ¬ i < st.2.length) : bfsD next wo f i st = st := by
  cases f with
  | zero => rfl
  | succ f => rw [bfsD, if_neg hi]
def initB (n : Nat) (v : Int) : List Int × List Int := ((List.replicate n (-1)).set v.toNat 0, [v])
def distP (next : List (List Int)) (wo v : Int) : List Int × List Int := bfsD next wo (next.length + 1) 0 (initB next.length v)

structure BF (n : Nat) (st : List Int × List Int) : Prop where
  len : st.1.length = n
  rng : ∀ x ∈ st.2, 0 ≤ x ∧ x < n
  cnt : st.2.length + unl st.1 = n
  val : ∀ x ∈ st.1, -1 ≤ x ∧ x < st.2.length
  pos : ∀ x ∈ st.2, 0 ≤ gi st.1 x
theorem gi_in2 {l : List Int} {x : Int} (h0 : 0 ≤ x) (h1 : x < l.length) : gi l x ∈ l := by
  obtain ⟨k, rfl⟩ : ∃ k : Nat, x = k := ⟨x.toNat, by omega⟩
  exact gi_in (by omega)
theorem gi_setI {l : List Int} {i : Nat} {v : Int} {x : Int} (hi : i < l.length) (hx : 0 ≤ x) : gi (l.set i v) x = if (i : Int) = x then v else gi l x := by
  obtain ⟨k, rfl⟩ : ∃ k : Nat, x = k := ⟨x.toNat, by omega⟩
  simp only [gi, Int.toNat_natCast, List.getD_eq_getElem?_getD, List.getElem?_set]
  by_cases h : i = k
  · subst h; rw [if_pos rfl, if_pos hi, if_pos rfl]; rfl
  · rw [if_neg h, if_neg (by omega)]
theorem BF.step {n : Nat} {st : List Int × List Int} (h : BF n st) {wo u x : Int} (hu : u ∈ st.2) (h0 : 0 ≤ x) (h1 : x < n) : BF n (stepB wo u st x) ∧ st.2 <+: (stepB wo u st x).2 := by
  unfold stepB
  split
  · rename_i hx
    have hlen := h.len
    have hxn : x.toNat < st.1.length := by omega
    have hgu := h.pos u hu
    have hur := h.rng u hu
    have hgu2 := h.val _ (gi_in2 hur.1 (by omega))
    have hunl := unl_set (L := st.1) (x := x) (c := gi st.1 u + 1) h0 (by omega) hx.1 (by omega)
    have hcnt := h.cnt
    refine ⟨⟨by simp [h.len], fun y hy => ?_, by simp; omega, fun y hy => ?_, fun y hy => ?_⟩, List.prefix_append _ _⟩
    · rcases List.mem_append.1 hy with hy | hy
      · exact h.rng y hy
      · simp at hy; subst hy; exact ⟨h0, h1⟩
    · rw [List.length_append, List.length_singleton]
      rcases List.mem_or_eq_of_mem_set hy with hy | rfl
      · have := h.val y hy; omega
      · omega
    · have hy0 : 0 ≤ y := by
        rcases List.mem_append.1 hy with hy | hy
        · exact (h.rng y hy).1
        · simp at hy; omega
      rw [gi_setI hxn hy0]
      split
      · omega
      · rename_i hne
        rcases List.mem_append.1 hy with hy | hy
        · exact h.pos y hy
        · simp at hy; omega
  · exact ⟨h, List.prefix_rfl⟩
theorem BF.row {n : Nat} {wo u : Int} (r : List Int) : ∀ {st : List Int × List Int}, BF n st → u ∈ st.2 → (∀ x ∈ r, 0 ≤ x ∧ x < n) → BF n (rowB wo u r st) ∧ st.2 <+: (rowB wo u r st).2 := by
  induction r using snoc_ind with
  | h0 => intro st h _ _; exact ⟨h, List.prefix_rfl⟩
  | h1 l a ih =>
    intro st h hu hr
    obtain ⟨h1, h2⟩ := ih h hu (fun x hx => hr x (by simp [hx]))
    have ha := hr a (by simp)
    rw [rowB_snoc]
    obtain ⟨h3, h4⟩ := h1.step (wo := wo) (h2.subset hu) ha.1 ha.2
    exact ⟨h3, h2.trans h4⟩
theorem BF.len2 {n : Nat} {st : List Int × List Int} (h : BF n st) : st.2.length ≤ n := by have := h.cnt; omega
theorem BF.init {n : Nat} {v : Int} (h0 : 0 ≤ v) (h1 : v < n) : BF n (initB n v) := by
  have hu : unl (List.replicate n (-1)) = n := by
    unfold unl
    rw [List.countP_replicate]
    simp
  have hs := unl_set (L := List.replicate n (-1)) (x := v) (c := 0) h0 (by simp; exact h1) (by rw [gi_rep h0 h1]; omega) (by omega)
  refine ⟨by simp [initB], fun x hx => ?_, ?_, fun x hx => ?_, fun x hx => ?_⟩
  · simp [initB] at hx; subst hx; exact ⟨h0, h1⟩
  · show 1 + unl ((List.replicate n (-1)).set v.toNat 0) = n; omega
  · have hx : x ∈ (List.replicate n (-1)).set v.toNat 0 := hx
    show -1 ≤ x ∧ x < ((1 : Nat) : Int)
    rcases List.mem_or_eq_of_mem_set hx with hx | rfl
    · have := (List.mem_replicate.1 hx).2; omega
    · omega
  · simp [initB] at hx; subst hx
    show 0 ≤ gi ((List.replicate n (-1)).set x.toNat 0) x
    rw [gi_setI (by simp; omega) h0, if_pos (by omega)]
    exact Int.le_refl _
/-- a graph's lists -/
structure Gr (n : Nat) (next : List (List Int)) : Prop where
  len : next.length = n
  small : n ≤ 400
  row : ∀ u : Int, 0 ≤ u → (∀ x ∈ gl next u, 0 ≤ x ∧ x < n) ∧ (gl next u).length ≤ 1000

theorem l18Distances_c (A : Option Addr) (n c : Nat) (rs : List SlV) (next : List (List Int)) (v wo : Int) (w : World) (hR : RowsI w A n rs next) (hg : Gr n next) (h0 : 0 ≤ v) (h1 : v < n) :
    Ret Try.prog 79 [.slice A n c, .int .i64 v, .int .i64 wo] w (fun r w' => ∃ A', r = .slice A' n n ∧ St w w' [CkI 2 A' n n (distP next wo v).1]) := by
  have hl := hg.len
  have hsm := hg.small
  refine Ret.of_cd Try.func79 rfl Try.ntmps79 rfl (post1 rfl) ?_
  refine Cd.seq ?_
  refine Cd.region ?_
  refine Ops.mv_sl rfl rfl rfl ?_
  refine Ops.nil ?_
  refine thenQ_n ?_
  refine Cd.seq ?_
  refine Cd.region ?_
  refine Ops.mv_sl rfl rfl rfl ?_
  refine Ops.len rfl rfl ?_
  -- stop: MAKESLICE 39 t15 t15 -> 16
  refine Ops.mkI n (St.refl w) rfl rfl (by omega) ?_
  intro A7 w1 hS1
  refine Ops.mv_sl rfl rfl rfl ?_
  refine Ops.nil ?_
  refine thenQ_n ?_
  refine Cd.seq ?_
  refine Cd.seq ?_
  refine Cd.region ?_
  refine Ops.mv_int rfl rfl rfl ?_
  refine Ops.nil ?_
  refine thenQ_n ?_
  refine Cd.block ?_
  -- stop: loop
  refine Cd.loop (α := Nat × List Int) (fun z => [(0, .slice A n c), (1, .int .i64 v), (2, .int .i64 wo), (7, .slice A7 n n), (8, .int .i64 (z.1 : Int))]) (fun z w' => St w w' [CkI 2 A7 n n z.2] ∧ z.1 ≤ n ∧ z.2.length = n ∧ ∀ j, j < z.1 → z.2[j]? = some (-1)) (fun z => n - z.1) (0, List.replicate n 0) ⟨rfl, rfl, rfl, rfl, rfl, trivial⟩ ⟨hS1, Nat.zero_le _, by simp, fun j hj => by omega⟩ ?_
  rintro ⟨k, l⟩ e w2 ⟨hS2, hk, hll, hK⟩
  dsimp only at hS2 hk hll hK ⊢
  refine Cd.seq ?_
  refine Cd.seq ?_
  refine Cd.region ?_
  refine Ops.mv_int rfl rfl rfl ?_
  refine Ops.mv_sl rfl rfl rfl ?_
  refine Ops.len rfl rfl ?_
  refine Ops.lss rfl rfl rfl ?_
  refine Ops.nil ?_
  refine thenQ_n ?_
  -- stop: cond
  refine Cd.cond_p _ rfl (fun h2 => ?_) (fun h2 => ?_)
  · refine Cd.skip ?_
    refine thenQ_n ?_
    refine Cd.seq ?_
    refine Cd.block ?_
    refine Cd.region ?_
    refine Ops.mv_sl rfl rfl rfl ?_
    refine Ops.mv_int rfl rfl rfl ?_
    -- stop: INDEXADDR 39 t23 t24 -> 25
    refine Ops.idx (hS2.rdI 0 rfl).2 rfl rfl rfl (by omega) (by omega) ?_
    refine Ops.st_int 0 hS2 rfl rfl rfl (by omega) ?_
    intro w3 hS3
    refine Ops.nil ?_
    refine blockQ_n ?_
    refine thenQ_n ?_
    refine Cd.region ?_
    refine Ops.mv_int rfl rfl rfl ?_
    refine Ops.add rfl rfl rfl (by omega) ?_
    refine Ops.mv_int rfl rfl rfl ?_
    refine Ops.nil ?_
    refine thenQ_n ?_
    -- stop: round
    refine ⟨(k + 1, l.set k (-1)), by show n - (k + 1) < n - k; omega, ⟨rfl, rfl, rfl, rfl, rfl, trivial⟩, hS3, by show k + 1 ≤ n; omega, by show (l.set k _).length = n; rw [List.length_set]; exact hll, fun j hj => ?_⟩
    show (l.set k (-1))[j]? = _
    rw [List.getElem?_set]
    by_cases ej : k = j
    · subst ej; rw [if_pos rfl, if_pos (by omega)]
    · rw [if_neg ej]; exact hK j (by have : j < k + 1 := hj; omega)
  · refine Cd.exit ?_
    refine thenQ_x ?_
    refine thenQ_x ?_
    refine blockQ_x ?_
    refine thenQ_n ?_
    refine Cd.seq ?_
    refine Cd.region ?_
    refine Ops.mv_sl rfl rfl rfl ?_
    refine Ops.mv_int rfl rfl rfl ?_
    -- stop: INDEXADDR 39 t26 t27 -> 28
    have hkn : k = n := by omega
    subst hkn
    have he : l = List.replicate k (-1) := by
      apply List.ext_getElem?
      intro j
      by_cases hj : j < k
      · rw [hK j hj]; simp [hj]
      · rw [List.getElem?_eq_none (by omega), List.getElem?_eq_none (by simp; omega)]
    subst he
    refine Ops.idx (hS2.rdI 0 rfl).2 rfl rfl rfl h0 h1 ?_
    refine Ops.st_int 0 hS2 rfl rfl rfl (by omega) ?_
    intro w3 hS3
    refine Ops.nil ?_
    refine thenQ_n ?_
    refine Cd.seq ?_
    refine Cd.region ?_
    refine Ops.mv_int rfl rfl rfl ?_
    -- stop: BUILDSLICE 39 1 [('pair', [0, ('app', 'Go.Operand.tmp', [29])])] -> 30
    refine Ops.bs1I hS3 rfl rfl rfl ?_
    intro A9 w4 hS4
    have hS4 : St w w4 [CkI 2 A9 (initB k v).2.length 1 (initB k v).2, CkI 2 A7 k k (initB k v).1] := hS4
    have hfin : distP next wo v = bfsD next wo (k + 1 - 0) 0 (initB k v) := by unfold distP; rw [hl]; rfl
    refine Ops.mv_sl rfl rfl rfl ?_
    refine Ops.nil ?_
    refine thenQ_n ?_
    refine Cd.seq ?_
    refine Cd.seq ?_
    refine Cd.region ?_
    refine Ops.mv_int rfl rfl rfl ?_
    refine Ops.nil ?_
    refine thenQ_n ?_
    refine Cd.block ?_
    -- stop: loop
    refine Cd.loop (α := Nat × Option Addr × Nat × (List Int × List Int)) (fun z => [(0, .slice A k c), (2, .int .i64 wo), (7, .slice A7 k k), (9, .slice z.2.1 z.2.2.2.2.length z.2.2.1), (10, .int .i64 (z.1 : Int))])
      (fun z w' => St w w' [CkI 2 z.2.1 z.2.2.2.2.length z.2.2.1 z.2.2.2.2, CkI 2 A7 k k z.2.2.2.1] ∧ BF k z.2.2.2 ∧ z.1 ≤ z.2.2.2.2.length ∧ distP next wo v = bfsD next wo (k + 1 - z.1) z.1 z.2.2.2)
      (fun z => k + 1 - z.1) (0, A9, 1, initB k v) ⟨rfl, rfl, rfl, rfl, rfl, trivial⟩ ⟨hS4, BF.init h0 h1, Nat.zero_le _, hfin⟩ ?_
    rintro ⟨i, A10, c10, st⟩ e w5 ⟨hS5, hB, hi, hD⟩
    dsimp only at hS5 hB hi hD ⊢
    have hql := hB.len2
    refine Cd.seq ?_
    refine Cd.seq ?_
    refine Cd.region ?_
    refine Ops.mv_int rfl rfl rfl ?_
    refine Ops.mv_sl rfl rfl rfl ?_
    refine Ops.len rfl rfl ?_
    refine Ops.lss rfl rfl rfl ?_
    refine Ops.nil ?_
    refine thenQ_n ?_
    -- stop: cond
    refine Cd.cond_p _ rfl (fun h3 => ?_) (fun h3 => ?_)
    · have hi' : i < st.2.length := by omega
      have hQ := hS5.rdI 0 rfl
      have hum : gi st.2 (i : Int) ∈ st.2 := gi_in hi'
      have hur := hB.rng _ hum
      have hrow := hg.row (gi st.2 (i : Int)) hur.1
      rw [bfsD_go hi' (by omega)] at hD
      refine Cd.skip ?_
      refine thenQ_n ?_
      refine Cd.seq ?_
      refine Cd.block ?_
      refine Cd.seq ?_
      refine Cd.region ?_
      refine Ops.mv_sl rfl rfl rfl ?_
      refine Ops.mv_int rfl rfl rfl ?_
      -- stop: INDEXADDR 39 t37 t38 -> 39
      refine Ops.idx hQ.2 rfl rfl rfl (by omega) (by omega) ?_
      refine Ops.ld_int hQ rfl (by omega) rfl rfl ?_
      refine Ops.mv_int rfl rfl rfl ?_
      refine Ops.nil ?_
      refine thenQ_n ?_
      refine Cd.seq ?_
      refine Cd.region ?_
      refine Ops.mv_int rfl rfl rfl ?_
      refine Ops.nil ?_
      refine thenQ_n ?_
      refine Cd.block ?_
      -- stop: loop
      generalize hu : gi st.2 (i : Int) = u at *
      have hnr : (gl next u).length = (rg rs u).n := hR.rowLen hur.1 hur.2
      refine Cd.loop (α := Nat × Option Addr × Nat × (List Int × List Int)) (fun z => [(0, .slice A k c), (2, .int .i64 wo), (7, .slice A7 k k), (9, .slice z.2.1 z.2.2.2.2.length z.2.2.1), (10, .int .i64 (i : Int)), (11, .int .i64 u), (12, .int .i64 (z.1 : Int))])
        (fun z w' => St w w' [CkI 2 z.2.1 z.2.2.2.2.length z.2.2.1 z.2.2.2.2, CkI 2 A7 k k z.2.2.2.1] ∧ z.1 ≤ (gl next u).length ∧ z.2.2.2 = rowB wo u ((gl next u).take z.1) st)
        (fun z => (gl next u).length - z.1) (0, A10, c10, st) ⟨rfl, rfl, rfl, rfl, rfl, rfl, rfl, trivial⟩ ⟨hS5, Nat.zero_le _, rfl⟩ ?_
      rintro ⟨j, A11, c11, sj⟩ e w6 ⟨hS6, hj, hsj⟩
      dsimp only at hS6 hj hsj ⊢
      obtain ⟨hBj, hpre⟩ := BF.row (wo := wo) ((gl next u).take j) hB hum (fun x hx => hrow.1 x (List.mem_of_mem_take hx))
      rw [← hsj] at hBj hpre
      have hR6 := hS6.oldRows hR
      have hqj := hBj.len2
      have hlj := hBj.len
      refine Cd.seq ?_
      refine Cd.seq ?_
      refine Cd.region ?_
      refine Ops.mv_int rfl rfl rfl ?_
      refine Ops.mv_sl rfl rfl rfl ?_
      refine Ops.mv_int rfl rfl rfl ?_
      -- stop: INDEXADDR 25 t42 t43 -> 44
      refine Ops.idx hR6.top.2 rfl rfl rfl hur.1 hur.2 ?_
      refine Ops.ld_sl hR6.top rfl (by omega) rfl rfl ?_
      refine Ops.len rfl rfl ?_
      refine Ops.lss rfl rfl rfl ?_
      refine Ops.nil ?_
      refine thenQ_n ?_
      -- stop: cond
      refine Cd.cond_p _ rfl (fun h4 => ?_) (fun h4 => ?_)
      · have hj' : j < (gl next u).length := by omega
        have hrowR := hR6.at_ (i := u) hur.1 hur.2
        have hxm : gi (gl next u) (j : Int) ∈ gl next u := gi_in hj'
        have hx := hrow.1 _ hxm
        have hstep : rowB wo u ((gl next u).take (j + 1)) st = stepB wo u sj (gi (gl next u) (j : Int)) := by rw [take_succ_gi hj', rowB_snoc, ← hsj]
        have hO := hS6.rdI 1 rfl
        have hgu := hBj.val _ (gi_in2 (l := sj.1) hur.1 (by omega))
        generalize hxe : gi (gl next u) (j : Int) = x at *
        refine Cd.skip ?_
        refine thenQ_n ?_
        refine Cd.seq ?_
        refine Cd.block ?_
        refine Cd.seq ?_
        refine Cd.region ?_
        refine Ops.mv_sl rfl rfl rfl ?_
        refine Ops.mv_int rfl rfl rfl ?_
        -- stop: INDEXADDR 25 t50 t51 -> 52
        refine Ops.idx hR6.top.2 rfl rfl rfl hur.1 hur.2 ?_
        refine Ops.ld_sl hR6.top rfl (by omega) rfl rfl ?_
        refine Ops.mv_int rfl rfl rfl ?_
        -- stop: INDEXADDR 39 t53 t54 -> 55
        refine Ops.idx hrowR.2 rfl rfl rfl (by omega) (by omega) ?_
        refine Ops.ld_int hrowR rfl (by omega) rfl rfl ?_
        rw [hxe]
        refine Ops.mv_int rfl rfl rfl ?_
        refine Ops.nil ?_
        refine thenQ_n ?_
        refine Cd.seq ?_
        refine Cd.region ?_
        refine Ops.mv_sl rfl rfl rfl ?_
        refine Ops.mv_int rfl rfl rfl ?_
        -- stop: INDEXADDR 39 t57 t58 -> 59
        refine Ops.idx hO.2 rfl rfl rfl hx.1 hx.2 ?_
        refine Ops.ld_int hO rfl (by omega) rfl rfl ?_
        refine Ops.lss rfl rfl rfl ?_
        refine Ops.mv_bool rfl rfl rfl ?_
        -- stop: guard 62
        refine Ops.split_p 62 rfl (fun h5 => ?_) (fun h5 => ?_)
        · refine Ops.rung rfl rfl rfl ?_
          refine Ops.mv_int rfl rfl rfl ?_
          refine Ops.rung rfl rfl rfl ?_
          refine Ops.mv_int rfl rfl rfl ?_
          refine Ops.rung rfl rfl rfl ?_
          refine Ops.neq rfl rfl rfl ?_
          refine Ops.pick_t rfl rfl rfl ?_
          refine Ops.nil ?_
          refine thenQ_n ?_
          -- stop: cond
          refine Cd.cond_p _ rfl (fun h6 => ?_) (fun h6 => ?_)
          · have hst : stepB wo u sj x = (sj.1.set x.toNat (gi sj.1 u + 1), sj.2 ++ [x]) := by unfold stepB; rw [if_pos ⟨h5, h6⟩]
            refine Cd.seq ?_
            refine Cd.region ?_
            refine Ops.mv_sl rfl rfl rfl ?_
            refine Ops.mv_int rfl rfl rfl ?_
            refine Ops.mv_sl rfl rfl rfl ?_
            refine Ops.mv_int rfl rfl rfl ?_
            -- stop: INDEXADDR 39 t69 t70 -> 71
            refine Ops.idx hO.2 rfl rfl rfl hur.1 hur.2 ?_
            refine Ops.ld_int hO rfl (by omega) rfl rfl ?_
            refine Ops.add rfl rfl rfl (by omega) ?_
            -- stop: INDEXADDR 39 t67 t68 -> 74
            refine Ops.idx hO.2 rfl rfl rfl hx.1 hx.2 ?_
            refine Ops.st_int 1 hS6 rfl rfl rfl (by omega) ?_
            intro w7 hS7
            refine Ops.nil ?_
            refine thenQ_n ?_
            refine Cd.region ?_
            refine Ops.mv_sl rfl rfl rfl ?_
            refine Ops.mv_int rfl rfl rfl ?_
            -- stop: BUILDSLICE 39 1 [('pair', [0, ('app', 'Go.Operand.tmp', [76])])] -> 77
            refine Ops.bs1I hS7 rfl rfl rfl ?_
            intro A12 w8 hS8
            refine Ops.appI 1 hS8 rfl (hS8.rdI 0 rfl) rfl rfl rfl (by omega) (by omega) rfl ?_
            intro A13 c13 w9 hS9
            refine Ops.mv_sl rfl rfl rfl ?_
            refine Ops.nil ?_
            refine blockQ_n ?_
            refine thenQ_n ?_
            refine Cd.region ?_
            refine Ops.mv_int rfl rfl rfl ?_
            refine Ops.add rfl rfl rfl (by omega) ?_
            refine Ops.mv_int rfl rfl rfl ?_
            refine Ops.nil ?_
            refine thenQ_n ?_
            -- stop: round
            have e2 : (sj.2 ++ [x]).length = sj.2.length + 1 := by simp
            refine ⟨(j + 1, A13, c13, stepB wo u sj x), by show _ - (j + 1) < _ - j; omega, ⟨rfl, rfl, rfl, by show Value.slice _ _ _ = .slice _ _ _; rw [hst]; show Value.slice _ _ _ = .slice _ (sj.2 ++ [x]).length _; rw [e2], rfl, rfl, rfl, trivial⟩, ?_, hj', hstep.symm⟩
            show St w w9 [CkI _ A13 (stepB wo u sj x).2.length c13 (stepB wo u sj x).2, CkI _ A7 k k (stepB wo u sj x).1]
            rw [hst]
            show St w w9 [CkI _ A13 (sj.2 ++ [x]).length c13 (sj.2 ++ [x]), CkI _ A7 k k (sj.1.set x.toNat (gi sj.1 u + 1))]
            rw [e2]
            exact hS9.tail
          · have hst : stepB wo u sj x = sj := by unfold stepB; rw [if_neg (fun h => h6 h.2)]
            rw [hst] at hstep
            refine Cd.skip ?_
            refine blockQ_n ?_
            refine thenQ_n ?_
            refine Cd.region ?_
            refine Ops.mv_int rfl rfl rfl ?_
            refine Ops.add rfl rfl rfl (by omega) ?_
            refine Ops.mv_int rfl rfl rfl ?_
            refine Ops.nil ?_
            refine thenQ_n ?_
            -- stop: round
            exact ⟨(j + 1, A11, c11, sj), by show _ - (j + 1) < _ - j; omega, ⟨rfl, rfl, rfl, rfl, rfl, rfl, rfl, trivial⟩, hS6, hj', hstep.symm⟩
        · have hst : stepB wo u sj x = sj := by unfold stepB; rw [if_neg (fun h => h5 h.1)]
          rw [hst] at hstep
          refine Ops.skipg rfl rfl rfl rfl rfl ?_
          refine Ops.skipg rfl rfl rfl rfl rfl ?_
          refine Ops.skipg rfl rfl rfl rfl rfl ?_
          refine Ops.pick_f rfl rfl rfl ?_
          refine Ops.nil ?_
          refine thenQ_n ?_
          -- stop: cond
          refine Cd.cond_f rfl ?_
          refine Cd.skip ?_
          refine blockQ_n ?_
          refine thenQ_n ?_
          refine Cd.region ?_
          refine Ops.mv_int rfl rfl rfl ?_
          refine Ops.add rfl rfl rfl (by omega) ?_
          refine Ops.mv_int rfl rfl rfl ?_
          refine Ops.nil ?_
          refine thenQ_n ?_
          -- stop: round
          exact ⟨(j + 1, A11, c11, sj), by show _ - (j + 1) < _ - j; omega, ⟨rfl, rfl, rfl, rfl, rfl, rfl, rfl, trivial⟩, hS6, hj', hstep.symm⟩
      · refine Cd.exit ?_
        refine thenQ_x ?_
        refine thenQ_x ?_
        refine blockQ_x ?_
        refine blockQ_n ?_
        refine thenQ_n ?_
        refine Cd.region ?_
        refine Ops.mv_int rfl rfl rfl ?_
        refine Ops.add rfl rfl rfl (by omega) ?_
        refine Ops.mv_int rfl rfl rfl ?_
        refine Ops.nil ?_
        refine thenQ_n ?_
        -- stop: round
        have hje : j = (gl next u).length := by omega
        subst hje
        rw [List.take_length] at hsj
        rw [← hsj] at hD
        exact ⟨(i + 1, A11, c11, sj), by show k + 1 - (i + 1) < k + 1 - i; omega, ⟨rfl, rfl, rfl, rfl, rfl, trivial⟩, hS6, hBj, by show i + 1 ≤ sj.2.length; have := hpre.length_le; omega, by show distP next wo v = bfsD next wo (k + 1 - (i + 1)) (i + 1) sj; rw [hD]; congr 1⟩
    · refine Cd.exit ?_
      refine thenQ_x ?_
      refine thenQ_x ?_
      refine blockQ_x ?_
      refine thenQ_n ?_
      refine Cd.seq ?_
      refine Cd.region ?_
      refine Ops.mv_sl rfl rfl rfl ?_
      refine Ops.mv_sl rfl rfl rfl ?_
      refine Ops.nil ?_
      refine thenQ_n ?_
      refine Cd.ret ?_
      refine ret1_s rfl ?_
      -- stop: end
      rw [bfsD_end (by omega)] at hD
      rw [hD]
      exact ⟨A7, rfl, hS5.tail⟩
end Go.Proofs.Ytpdhjnacnmfbjaa.Vc
