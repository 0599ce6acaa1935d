/-
  Cut vertices on both sides. Conditions: as each states them.
-/
import Derived.Test.YtpdhjnacnmfbjaaE3
import Derived.Test.YtpdhjnacnmfbjaaE5
namespace Go.Proofs.Ytpdhjnacnmfbjaa.Vc
open Go.RowKit

def sn (l : List Int) : List Bool := l.map fun y => decide (0 ≤ y)
theorem sn_len (l : List Int) : (sn l).length = l.length := by simp [sn]
theorem gb_sn {l : List Int} {x : Int} (h0 : 0 ≤ x) (h1 : x < l.length) : gb (sn l) x = decide (0 ≤ gi l x) := by
  obtain ⟨k, rfl⟩ : ∃ k : Nat, x = k := ⟨x.toNat, by omega⟩
  have hk : k < l.length := by omega
  rw [gi_mem hk]
  simp [gb, sn, List.getD_eq_getElem?_getD, List.getElem?_eq_getElem hk]
theorem sn_set {l : List Int} {i : Nat} {v : Int} (h : 0 ≤ v) : sn (l.set i v) = (sn l).set i true := by
  unfold sn
  rw [List.map_set, decide_eq_true h]

theorem reachedFrom_c (A : Option Addr) (n c : Nat) (rs : List SlV) (next : List (List Int)) (v wo : Int) (w : World) (hR : RowsI w A n rs next) (hg : Gr n next) (h0 : 0 ≤ v) (h1 : v < n) :
    Ret Try.prog 85 [.slice A n c, .int .i64 v, .int .i64 wo] w (fun r w' => ∃ A' c', r = .slice A' (distP next wo v).2.length c' ∧ St w w' []) := by
  have hl := hg.len
  have hsm := hg.small
  refine Ret.of_cd Try.func85 rfl Try.ntmps85 rfl (post1 rfl) ?_
  refine Cd.seq ?_
  refine Cd.region ?_
  refine Ops.mv_sl rfl rfl rfl ?_
  refine Ops.nil ?_
  refine thenQ_n ?_
  refine Cd.seq ?_
  refine Cd.region ?_
  refine Ops.mv_sl rfl rfl rfl ?_
  refine Ops.len rfl rfl ?_
  -- stop: MAKESLICE 86 t13 t13 -> 14
  refine Ops.mkB n (St.refl w) rfl rfl (by omega) ?_
  intro A7 w1 hS1
  refine Ops.mv_sl rfl rfl rfl ?_
  refine Ops.nil ?_
  refine thenQ_n ?_
  refine Cd.seq ?_
  refine Cd.region ?_
  refine Ops.mv_sl rfl rfl rfl ?_
  refine Ops.mv_int rfl rfl rfl ?_
  -- stop: INDEXADDR 86 t15 t16 -> 17
  refine Ops.idx (hS1.rdB 0 rfl).2 rfl rfl rfl h0 h1 ?_
  refine Ops.st_bool 0 hS1 rfl rfl rfl (by omega) ?_
  intro w3 hS3
  refine Ops.nil ?_
  refine thenQ_n ?_
  refine Cd.seq ?_
  refine Cd.region ?_
  refine Ops.mv_int rfl rfl rfl ?_
  -- stop: BUILDSLICE 39 1 [('pair', [0, ('app', 'Go.Operand.tmp', [18])])] -> 19
  refine Ops.bs1I hS3 rfl rfl rfl ?_
  intro A9 w4 hS4
  have hS4 : St w w4 [CkI 2 A9 (initB n v).2.length 1 (initB n v).2, CkB 4 A7 n n (sn (initB n v).1)] := by
    have e : sn (initB n v).1 = (List.replicate n false).set v.toNat true := by
      show sn ((List.replicate n (-1)).set v.toNat 0) = _
      rw [sn_set (Int.le_refl 0)]
      simp [sn]
    rw [e]
    exact hS4
  have hfin : distP next wo v = bfsD next wo (n + 1 - 0) 0 (initB n v) := by unfold distP; rw [hl]; rfl
  refine Ops.mv_sl rfl rfl rfl ?_
  refine Ops.nil ?_
  refine thenQ_n ?_
  refine Cd.seq ?_
  refine Cd.seq ?_
  refine Cd.region ?_
  refine Ops.mv_int rfl rfl rfl ?_
  refine Ops.nil ?_
  refine thenQ_n ?_
  refine Cd.block ?_
  -- stop: loop
  refine Cd.loop (α := Nat × Option Addr × Nat × (List Int × List Int)) (fun z => [(0, .slice A n c), (2, .int .i64 wo), (7, .slice A7 n n), (8, .slice z.2.1 z.2.2.2.2.length z.2.2.1), (9, .int .i64 (z.1 : Int))])
    (fun z w' => St w w' [CkI 2 z.2.1 z.2.2.2.2.length z.2.2.1 z.2.2.2.2, CkB 4 A7 n n (sn z.2.2.2.1)] ∧ BF n z.2.2.2 ∧ z.1 ≤ z.2.2.2.2.length ∧ distP next wo v = bfsD next wo (n + 1 - z.1) z.1 z.2.2.2)
    (fun z => n + 1 - z.1) (0, A9, 1, initB n v) ⟨rfl, rfl, rfl, rfl, rfl, trivial⟩ ⟨hS4, BF.init h0 h1, Nat.zero_le _, hfin⟩ ?_
  rintro ⟨i, A10, c10, st⟩ e w5 ⟨hS5, hB, hi, hD⟩
  dsimp only at hS5 hB hi hD ⊢
  have hql := hB.len2
  refine Cd.seq ?_
  refine Cd.seq ?_
  refine Cd.region ?_
  refine Ops.mv_int rfl rfl rfl ?_
  refine Ops.mv_sl rfl rfl rfl ?_
  refine Ops.len rfl rfl ?_
  refine Ops.lss rfl rfl rfl ?_
  refine Ops.nil ?_
  refine thenQ_n ?_
  -- stop: cond
  refine Cd.cond_p _ rfl (fun h3 => ?_) (fun h3 => ?_)
  · have hi' : i < st.2.length := by omega
    have hQ := hS5.rdI 0 rfl
    have hum : gi st.2 (i : Int) ∈ st.2 := gi_in hi'
    have hur := hB.rng _ hum
    have hrow := hg.row (gi st.2 (i : Int)) hur.1
    have hR5 := hS5.oldRows hR
    rw [bfsD_go hi' (by omega)] at hD
    refine Cd.skip ?_
    refine thenQ_n ?_
    refine Cd.seq ?_
    refine Cd.block ?_
    refine Cd.seq ?_
    refine Cd.region ?_
    refine Ops.mv_sl rfl rfl rfl ?_
    refine Ops.mv_sl rfl rfl rfl ?_
    refine Ops.mv_int rfl rfl rfl ?_
    -- stop: INDEXADDR 39 t27 t28 -> 29
    refine Ops.idx hQ.2 rfl rfl rfl (by omega) (by omega) ?_
    refine Ops.ld_int hQ rfl (by omega) rfl rfl ?_
    generalize hu : gi st.2 (i : Int) = u at *
    have hnr : (gl next u).length = (rg rs u).n := hR.rowLen hur.1 hur.2
    refine Ops.idx hR5.top.2 rfl rfl rfl hur.1 hur.2 ?_
    refine Ops.ld_sl hR5.top rfl (by omega) rfl rfl ?_
    refine Ops.len rfl rfl ?_
    refine Ops.mv_int rfl rfl rfl ?_
    refine Ops.nil ?_
    refine thenQ_n ?_
    refine Cd.block ?_
    -- stop: loop
    refine Cd.loop (α := Nat × Option Addr × Nat × (List Int × List Int)) (fun z => [(0, .slice A n c), (2, .int .i64 wo), (7, .slice A7 n n), (8, .slice z.2.1 z.2.2.2.2.length z.2.2.1), (9, .int .i64 (i : Int)), (32, .slice (rg rs u).a (rg rs u).n (rg rs u).c), (33, .int .i64 ((rg rs u).n : Int)), (34, .int .i64 (z.1 : Int))])
      (fun z w' => St w w' [CkI 2 z.2.1 z.2.2.2.2.length z.2.2.1 z.2.2.2.2, CkB 4 A7 n n (sn z.2.2.2.1)] ∧ z.1 ≤ (gl next u).length ∧ z.2.2.2 = rowB wo u ((gl next u).take z.1) st)
      (fun z => (gl next u).length - z.1) (0, A10, c10, st) ⟨rfl, rfl, rfl, rfl, rfl, rfl, rfl, rfl, trivial⟩ ⟨hS5, Nat.zero_le _, rfl⟩ ?_
    rintro ⟨j, A11, c11, sj⟩ e w6 ⟨hS6, hj, hsj⟩
    dsimp only at hS6 hj hsj ⊢
    obtain ⟨hBj, hpre⟩ := BF.row (wo := wo) ((gl next u).take j) hB hum (fun x hx => hrow.1 x (List.mem_of_mem_take hx))
    rw [← hsj] at hBj hpre
    have hR6 := hS6.oldRows hR
    have hqj := hBj.len2
    have hlj := hBj.len
    have hpl := hpre.length_le
    refine Cd.seq ?_
    refine Cd.region ?_
    refine Ops.lss rfl rfl rfl ?_
    refine Ops.nil ?_
    refine thenQ_n ?_
    refine Cd.seq ?_
    -- stop: cond
    refine Cd.cond_p _ rfl (fun h4 => ?_) (fun h4 => ?_)
    · have hj' : j < (gl next u).length := by omega
      have hrowR := hR6.at_ (i := u) hur.1 hur.2
      have hxm : gi (gl next u) (j : Int) ∈ gl next u := gi_in hj'
      have hx := hrow.1 _ hxm
      have hstep : rowB wo u ((gl next u).take (j + 1)) st = stepB wo u sj (gi (gl next u) (j : Int)) := by rw [take_succ_gi hj', rowB_snoc, ← hsj]
      have hO := hS6.rdB 1 rfl
      have hgu := hBj.pos u (hpre.subset hum)
      refine Cd.skip ?_
      refine thenQ_n ?_
      refine Cd.seq ?_
      refine Cd.block ?_
      refine Cd.seq ?_
      refine Cd.region ?_
      -- stop: INDEXADDR 39 t32 t34 -> 36
      refine Ops.idx hrowR.2 rfl rfl rfl (by omega) (by omega) ?_
      refine Ops.ld_int hrowR rfl (by omega) rfl rfl ?_
      generalize hxe : gi (gl next u) (j : Int) = x at *
      have hgb := gb_sn (l := sj.1) hx.1 (by omega)
      refine Ops.mv_int rfl rfl rfl ?_
      refine Ops.nil ?_
      refine thenQ_n ?_
      refine Cd.seq ?_
      refine Cd.region ?_
      refine Ops.mv_int rfl rfl rfl ?_
      refine Ops.mv_int rfl rfl rfl ?_
      refine Ops.neq rfl rfl rfl ?_
      refine Ops.mv_bool rfl rfl rfl ?_
      -- stop: guard 41
      refine Ops.split_p 41 rfl (fun h5 => ?_) (fun h5 => ?_)
      · refine Ops.rung rfl rfl rfl ?_
        refine Ops.mv_sl rfl rfl rfl ?_
        refine Ops.rung rfl rfl rfl ?_
        refine Ops.mv_int rfl rfl rfl ?_
        refine Ops.rung rfl rfl rfl ?_
        -- stop: INDEXADDR 86 t42 t43 -> 44
        refine Ops.idx hO.2 rfl rfl rfl hx.1 hx.2 ?_
        refine Ops.rung rfl rfl rfl ?_
        -- stop: LOAD 4 t44 -> 45
        refine Ops.ld_bool hO rfl (by omega) rfl rfl ?_
        refine Ops.rung rfl rfl rfl ?_
        first | refine Ops.not_p rfl rfl ?_ | refine Ops.not rfl rfl ?_
        refine Ops.pick_t rfl rfl rfl ?_
        refine Ops.nil ?_
        refine thenQ_n ?_
        -- stop: cond
        refine Cd.cond rfl (fun h6 => ?_) (fun h6 => ?_)
        · have h7 : gi sj.1 x < 0 := by rw [hgb] at h6; simpa using h6
          have hst : stepB wo u sj x = (sj.1.set x.toNat (gi sj.1 u + 1), sj.2 ++ [x]) := by unfold stepB; rw [if_pos ⟨h7, h5⟩]
          refine Cd.seq ?_
          refine Cd.region ?_
          refine Ops.mv_sl rfl rfl rfl ?_
          refine Ops.mv_int rfl rfl rfl ?_
          -- stop: INDEXADDR 86 t48 t49 -> 50
          refine Ops.idx hO.2 rfl rfl rfl hx.1 hx.2 ?_
          refine Ops.st_bool 1 hS6 rfl rfl rfl (by omega) ?_
          intro w7 hS7
          refine Ops.nil ?_
          refine thenQ_n ?_
          refine Cd.region ?_
          refine Ops.mv_sl rfl rfl rfl ?_
          refine Ops.mv_int rfl rfl rfl ?_
          -- stop: BUILDSLICE 39 1 [('pair', [0, ('app', 'Go.Operand.tmp', [52])])] -> 53
          refine Ops.bs1I hS7 rfl rfl rfl ?_
          intro A12 w8 hS8
          refine Ops.appI 1 hS8 rfl (hS8.rdI 0 rfl) rfl rfl rfl (by omega) (by omega) rfl ?_
          intro A13 c13 w9 hS9
          refine Ops.mv_sl rfl rfl rfl ?_
          refine Ops.nil ?_
          refine blockQ_n ?_
          refine thenQ_n ?_
          refine Cd.region ?_
          refine Ops.add rfl rfl rfl (by omega) ?_
          refine Ops.mv_int rfl rfl rfl ?_
          refine Ops.nil ?_
          refine thenQ_n ?_
          -- stop: round
          have e2 : (sj.2 ++ [x]).length = sj.2.length + 1 := by simp
          refine ⟨(j + 1, A13, c13, stepB wo u sj x), by show _ - (j + 1) < _ - j; omega, ⟨rfl, rfl, rfl, by show Value.slice _ _ _ = .slice _ _ _; rw [hst]; show Value.slice _ _ _ = .slice _ (sj.2 ++ [x]).length _; rw [e2], rfl, rfl, rfl, rfl, trivial⟩, ?_, hj', hstep.symm⟩
          show St w w9 [CkI _ A13 (stepB wo u sj x).2.length c13 (stepB wo u sj x).2, CkB _ A7 n n (sn (stepB wo u sj x).1)]
          rw [hst]
          show St w w9 [CkI _ A13 (sj.2 ++ [x]).length c13 (sj.2 ++ [x]), CkB _ A7 n n (sn (sj.1.set x.toNat (gi sj.1 u + 1)))]
          rw [e2, sn_set (by omega)]
          exact hS9.tail
        · have h7 : ¬ gi sj.1 x < 0 := by rw [hgb] at h6; simp at h6; omega
          have hst : stepB wo u sj x = sj := by unfold stepB; rw [if_neg (fun h => h7 h.1)]
          rw [hst] at hstep
          refine Cd.skip ?_
          refine blockQ_n ?_
          refine thenQ_n ?_
          refine Cd.region ?_
          refine Ops.add rfl rfl rfl (by omega) ?_
          refine Ops.mv_int rfl rfl rfl ?_
          refine Ops.nil ?_
          refine thenQ_n ?_
          -- stop: round
          exact ⟨(j + 1, A11, c11, sj), by show _ - (j + 1) < _ - j; omega, ⟨rfl, rfl, rfl, rfl, rfl, rfl, rfl, rfl, trivial⟩, hS6, hj', hstep.symm⟩
      · have hst : stepB wo u sj x = sj := by unfold stepB; rw [if_neg (fun h => h5 h.2)]
        rw [hst] at hstep
        refine Ops.skipg rfl rfl rfl rfl rfl ?_
        refine Ops.skipg rfl rfl rfl rfl rfl ?_
        refine Ops.skipg rfl rfl rfl rfl rfl ?_
        refine Ops.skipg rfl rfl rfl rfl rfl ?_
        refine Ops.skipg rfl rfl rfl rfl rfl ?_
        refine Ops.pick_f rfl rfl rfl ?_
        refine Ops.nil ?_
        refine thenQ_n ?_
        -- stop: cond
        refine Cd.cond_f rfl ?_
        refine Cd.skip ?_
        refine blockQ_n ?_
        refine thenQ_n ?_
        refine Cd.region ?_
        refine Ops.add rfl rfl rfl (by omega) ?_
        refine Ops.mv_int rfl rfl rfl ?_
        refine Ops.nil ?_
        refine thenQ_n ?_
        -- stop: round
        exact ⟨(j + 1, A11, c11, sj), by show _ - (j + 1) < _ - j; omega, ⟨rfl, rfl, rfl, rfl, rfl, rfl, rfl, rfl, trivial⟩, hS6, hj', hstep.symm⟩
    · refine Cd.exit ?_
      refine thenQ_x ?_
      refine thenQ_x ?_
      refine blockQ_x ?_
      refine blockQ_n ?_
      refine thenQ_n ?_
      refine Cd.region ?_
      refine Ops.mv_int rfl rfl rfl ?_
      refine Ops.add rfl rfl rfl (by omega) ?_
      refine Ops.mv_int rfl rfl rfl ?_
      refine Ops.nil ?_
      refine thenQ_n ?_
      -- stop: round
      have hje : j = (gl next u).length := by omega
      subst hje
      rw [List.take_length] at hsj
      rw [← hsj] at hD
      exact ⟨(i + 1, A11, c11, sj), by show n + 1 - (i + 1) < n + 1 - i; omega, ⟨rfl, rfl, rfl, rfl, rfl, trivial⟩, hS6, hBj, by show i + 1 ≤ sj.2.length; omega, by show distP next wo v = bfsD next wo (n + 1 - (i + 1)) (i + 1) sj; rw [hD]; congr 1⟩
  · refine Cd.exit ?_
    refine thenQ_x ?_
    refine thenQ_x ?_
    refine blockQ_x ?_
    refine thenQ_n ?_
    refine Cd.seq ?_
    refine Cd.region ?_
    refine Ops.mv_sl rfl rfl rfl ?_
    refine Ops.mv_sl rfl rfl rfl ?_
    refine Ops.nil ?_
    refine thenQ_n ?_
    refine Cd.ret ?_
    refine ret1_s rfl ?_
    -- stop: end
    rw [bfsD_end (by omega)] at hD
    rw [hD]
    exact ⟨A10, c10, rfl, hS5.none⟩

/-! what is left out is never reached; a vertex besides is missed just where the list is short -/
theorem step_wo {wo u x : Int} {st : List Int × List Int} (h0 : 0 ≤ wo) (hx : 0 ≤ x) (h : gi st.1 wo < 0) : gi (stepB wo u st x).1 wo < 0 := by
  unfold stepB
  split
  · rename_i hc
    show gi (st.1.set x.toNat _) wo < 0
    by_cases hl : x.toNat < st.1.length
    · rw [gi_setI hl h0, if_neg (by omega)]; exact h
    · rw [List.set_eq_of_length_le (by omega)]; exact h
  · exact h
theorem row_wo {wo u : Int} (r : List Int) (h0 : 0 ≤ wo) : ∀ {st : List Int × List Int}, (∀ x ∈ r, 0 ≤ x) → gi st.1 wo < 0 → gi (rowB wo u r st).1 wo < 0 := by
  induction r using snoc_ind with
  | h0 => intro st _ h; exact h
  | h1 l a ih =>
    intro st hr h
    rw [rowB_snoc]
    exact step_wo h0 (hr a (by simp)) (ih (fun x hx => hr x (by simp [hx])) h)
theorem bfs_wo {n : Nat} {next : List (List Int)} {wo : Int} (hg : Gr n next) (h0 : 0 ≤ wo) : ∀ (f i : Nat) (st : List Int × List Int), BF n st → gi st.1 wo < 0 → gi (bfsD next wo f i st).1 wo < 0
  | 0, _, _, _, h => h
  | f + 1, i, st, hB, h => by
    rw [bfsD]
    split
    · rename_i hi
      have hum : gi st.2 (i : Int) ∈ st.2 := gi_in hi
      have hrow := (hg.row _ (hB.rng _ hum).1).1
      exact bfs_wo hg h0 f _ _ (BF.row (wo := wo) _ hB hum hrow).1 (row_wo _ h0 (fun x hx => (hrow x hx).1) h)
    · exact h
theorem dist_wo {n : Nat} {next : List (List Int)} {wo v : Int} (hg : Gr n next) (h0 : 0 ≤ v) (h1 : v < n) (h2 : 0 ≤ wo) (h3 : wo < n) (hne : v ≠ wo) : gi (distP next wo v).1 wo < 0 := by
  unfold distP
  rw [hg.len]
  refine bfs_wo hg h2 _ _ _ (BF.init h0 h1) ?_
  show gi ((List.replicate n (-1)).set v.toNat 0) wo < 0
  rw [gi_setI (by simp; omega) h2, if_neg (by omega), gi_rep h2 h3]
  decide
theorem missed_iff {n : Nat} {next : List (List Int)} {wo v : Int} (hg : Gr n next) (h0 : 0 ≤ v) (h1 : v < n) (h2 : 0 ≤ wo) (h3 : wo < n) (hne : v ≠ wo) : (∃ u : Nat, u < n ∧ (u : Int) ≠ wo ∧ gi (distP next wo v).1 u < 0) ↔ ((distP next wo v).2.length : Int) < (n : Int) - 1 := by
  have hB := dist_BF (wo := wo) hg h0 h1
  have hw := dist_wo hg h0 h1 h2 h3 hne
  have hl := hB.len
  have hc := hB.cnt
  have hs := unl_set (L := (distP next wo v).1) (x := wo) (c := 0) h2 (by omega) hw (Int.le_refl 0)
  generalize distP next wo v = st at *
  have key : (∃ u : Nat, u < n ∧ (u : Int) ≠ wo ∧ gi st.1 u < 0) ↔ 0 < unl (st.1.set wo.toNat 0) := by
    unfold unl
    rw [List.countP_pos_iff]
    constructor
    · rintro ⟨u, hu, hune, hneg⟩
      refine ⟨gi (st.1.set wo.toNat 0) u, gi_in (by simp; omega), ?_⟩
      rw [gi_setI (by omega) (by omega), if_neg (by omega)]
      exact decide_eq_true hneg
    · rintro ⟨y, hy, hneg⟩
      have hneg := of_decide_eq_true hneg
      obtain ⟨k, hk, rfl⟩ := List.mem_iff_getElem.1 hy
      have hk' : k < st.1.length := by simpa using hk
      rw [← gi_mem hk, gi_setI (by omega) (by omega)] at hneg
      split at hneg
      · omega
      · exact ⟨k, by omega, by omega, hneg⟩
  rw [key]
  omega

def oth (v : Nat) : Int := if v = 0 then 1 else 0
def isCut (next : List (List Int)) (N v : Nat) : Prop := oth v < N ∧ ((distP next (v : Int) (oth v)).2.length : Int) < (N : Int) - 1
instance (next : List (List Int)) (N v : Nat) : Decidable (isCut next N v) := by unfold isCut; exact inferInstance
def cutL (next : List (List Int)) (N : Nat) : Nat → List Int
  | 0 => []
  | v + 1 => if isCut next N v then cutL next N v ++ [(v : Int)] else cutL next N v
theorem cutL_len (next : List (List Int)) (N : Nat) : ∀ v, (cutL next N v).length ≤ v
  | 0 => Nat.le_refl _
  | v + 1 => by
    have := cutL_len next N v
    unfold cutL
    split
    · simp; omega
    · omega
def cvL (xss : List (List Int)) : List Int := if Grph xss then cutL (nbL xss) (vertsN xss) (vertsN xss) else []
theorem cv_bd (xss : List (List Int)) : (cvL xss).length ≤ 1000 := by
  unfold cvL
  split
  · rename_i hG
    have hsm := nb_small hG.1
    have := cutL_len (nbL xss) (vertsN xss) (vertsN xss)
    omega
  · exact Nat.zero_le _

def missB (far : List Int) (v : Nat) : Nat → Bool
  | 0 => false
  | u + 1 => if missB far v u = true then true else if ¬ (u : Int) = (v : Int) then decide (gi far (u : Int) < 0) else false
theorem missB_iff (far : List Int) (v : Nat) : ∀ u, missB far v u = true ↔ ∃ u' : Nat, u' < u ∧ (u' : Int) ≠ (v : Int) ∧ gi far u' < 0
  | 0 => by simp [missB]
  | u + 1 => by
    have ih := missB_iff far v u
    unfold missB
    split
    · rename_i h
      obtain ⟨u', h1, h2⟩ := ih.1 h
      exact ⟨fun _ => ⟨u', by omega, h2⟩, fun _ => rfl⟩
    · rename_i h
      have hno : ¬ ∃ u' : Nat, u' < u ∧ (u' : Int) ≠ (v : Int) ∧ gi far u' < 0 := fun h2 => h (ih.2 h2)
      split
      · rename_i h3
        rw [decide_eq_true_eq]
        exact ⟨fun h4 => ⟨u, by omega, h3, h4⟩, fun ⟨u', h5, h6, h7⟩ => by
          by_cases e : u' = u
          · subst e; exact h7
          · exact absurd ⟨u', by omega, h6, h7⟩ hno⟩
      · rename_i h3
        refine ⟨fun h => (by cases h), fun ⟨u', h5, h6, h7⟩ => ?_⟩
        by_cases e : u' = u
        · subst e; exact absurd h6 h3
        · exact absurd ⟨u', by omega, h6, h7⟩ hno

theorem specCutVertices_c (A : Option Addr) (n c : Nat) (rs : List SlV) (xss : List (List Int)) (w : World) (hR : RowsI w A n rs xss) (hn : n ≤ 9223372036854775807) :
    Ret Try.prog 51 [.agg #[.slice A n c]] w (AnsR (cvL xss) (petrieK xss) w) := by
  refine Ret.of_cd Try.func51 rfl Try.ntmps51 rfl (post2 rfl) ?_
  refine Cd.seq ?_
  refine Cd.region ?_
  -- stop: BOX 32 t0=m -> 1
  refine Ops.box1 (St.refl w) rfl rfl ?_
  intro Ab w1 hS1
  refine Ops.mv_sl rfl rfl rfl ?_
  refine Ops.mv_int rfl rfl rfl ?_
  refine Ops.nil ?_
  refine thenQ_n ?_
  refine Cd.seq ?_
  refine Cd.seq ?_
  refine Cd.region ?_
  -- stop: LOAD 32 t1=m -> 11
  refine Ops.ld_agg 0 (hS1.rd 0 rfl) rfl rfl rfl ?_
  refine Ops.call (l18Is_c A n c rs xss _ (hS1.oldRows hR) hn) rfl rfl rfl ?_
  rintro _ w2 ⟨rfl, hst⟩
  have hS2 := hS1.later hst.below
  first | refine Ops.not_p rfl rfl ?_ | refine Ops.not rfl rfl ?_
  refine Ops.nil ?_
  refine thenQ_n ?_
  -- stop: cond
  refine Cd.cond_p _ rfl (fun h => ?_) (fun h => ?_)
  · refine Cd.seq ?_
    refine Cd.region ?_
    refine Ops.mv_sl rfl rfl rfl ?_
    refine Ops.mv_int rfl rfl rfl ?_
    refine Ops.nil ?_
    refine thenQ_n ?_
    refine Cd.ret ?_
    refine thenQ_r ?_
    refine ret2_si rfl rfl ?_
    -- stop: end
    rw [petrieK, if_neg h, cvL, if_neg h]
    exact AnsR.none hS2
  · have hG : Grph xss := Classical.not_not.1 h
    have hg := nb_gr hG.1
    have hsm := nb_small hG.1
    have hfin : cvL xss = cutL (nbL xss) (vertsN xss) (vertsN xss) := by rw [cvL, if_pos hG]
    refine Cd.skip ?_
    refine thenQ_n ?_
    refine Cd.seq ?_
    refine Cd.region ?_
    -- stop: LOAD 32 t1=m -> 14
    refine Ops.ld_agg 0 (hS2.rd 0 rfl) rfl rfl rfl ?_
    refine Ops.call (l18Neighbours_c A n c rs xss _ (hS2.oldRows hR) hG) rfl rfl rfl ?_
    rintro _ w3 ⟨A3, rs3, rfl, hrl, hst3⟩
    have hS3 := (hS2.later hst3.below).none
    have hN3 := hst3.rowsI (nbL_len xss)
    generalize hv : vertsN xss = N at *
    generalize hnx : nbL xss = next at *
    refine Ops.bs0 (St.refl w3) rfl ?_
    intro A5 w4 hS4
    have hS4 : St w3 w4 [CkI 2 A5 (cutL next N 0).length 0 (cutL next N 0)] := hS4
    refine Ops.mv_sl rfl rfl rfl ?_
    refine Ops.mv_sl rfl rfl rfl ?_
    refine Ops.nil ?_
    refine thenQ_n ?_
    refine Cd.seq ?_
    refine Cd.seq ?_
    refine Cd.region ?_
    refine Ops.mv_int rfl rfl rfl ?_
    refine Ops.nil ?_
    refine thenQ_n ?_
    refine Cd.block ?_
    -- stop: loop
    refine Cd.loop (α := Nat × Option Addr × Nat) (fun z => [(4, .slice A3 N N), (5, .slice z.2.1 (cutL next N z.1).length z.2.2), (6, .int .i64 (z.1 : Int))]) (fun z w' => St w3 w' [CkI 2 z.2.1 (cutL next N z.1).length z.2.2 (cutL next N z.1)] ∧ z.1 ≤ N) (fun z => N - z.1) (0, A5, 0) ⟨rfl, rfl, rfl, trivial⟩ ⟨hS4, Nat.zero_le _⟩ ?_
    rintro ⟨v, A6, c6⟩ e w5 ⟨hS5, hv5⟩
    dsimp only at hS5 hv5 ⊢
    have hN5 := hS5.oldRows hN3
    have hcl := cutL_len next N v
    refine Cd.seq ?_
    refine Cd.seq ?_
    refine Cd.region ?_
    refine Ops.mv_int rfl rfl rfl ?_
    refine Ops.mv_sl rfl rfl rfl ?_
    refine Ops.len rfl rfl ?_
    refine Ops.lss rfl rfl rfl ?_
    refine Ops.nil ?_
    refine thenQ_n ?_
    -- stop: cond
    refine Cd.cond_p _ rfl (fun h1 => ?_) (fun h1 => ?_)
    · have hv' : v < N := by omega
      have hoth : 0 ≤ oth v ∧ oth v ≠ (v : Int) := by unfold oth; split <;> omega
      refine Cd.skip ?_
      refine thenQ_n ?_
      refine Cd.seq ?_
      refine Cd.block ?_
      refine Cd.seq ?_
      refine Cd.region ?_
      refine Ops.mv_int rfl rfl rfl ?_
      refine Ops.nil ?_
      refine thenQ_n ?_
      -- stop: join
      refine Cd.join (α := Unit) (fun _ => [(4, .slice A3 N N), (5, .slice A6 (cutL next N v).length c6), (6, .int .i64 (v : Int)), (7, .int .i64 (oth v))]) (fun _ w' => w' = w5) ?_ ?_
      · refine Cd.seq ?_
        refine Cd.region ?_
        refine Ops.mv_int rfl rfl rfl ?_
        refine Ops.eql rfl rfl rfl ?_
        refine Ops.nil ?_
        refine thenQ_n ?_
        -- stop: cond
        refine Cd.cond_p _ rfl (fun h2 => ?_) (fun h2 => ?_)
        · refine Cd.region ?_
          refine Ops.mv_int rfl rfl rfl ?_
          refine Ops.nil ?_
          refine thenQ_n ?_
          -- stop: round
          exact ⟨(), ⟨rfl, rfl, rfl, by show Value.int .i64 _ = .int .i64 _; rw [oth, if_pos (by omega)], trivial⟩, rfl⟩
        · refine Cd.skip ?_
          refine thenQ_n ?_
          -- stop: round
          exact ⟨(), ⟨rfl, rfl, rfl, by show Value.int .i64 _ = .int .i64 _; rw [oth, if_neg (by omega)], trivial⟩, rfl⟩
      · rintro _ e w6 rfl
        refine Cd.seq ?_
        refine Cd.seq ?_
        refine Cd.region ?_
        refine Ops.mv_int rfl rfl rfl ?_
        refine Ops.mv_sl rfl rfl rfl ?_
        refine Ops.len rfl rfl ?_
        refine Ops.geq rfl rfl rfl ?_
        refine Ops.nil ?_
        refine thenQ_n ?_
        -- stop: cond
        refine Cd.cond_p _ rfl (fun h3 => ?_) (fun h3 => ?_)
        · have hst : cutL next N (v + 1) = cutL next N v := by
            show (if _ then _ else _) = _
            rw [if_neg (fun h => by have := h.1; omega)]
          refine Cd.exit ?_
          refine thenQ_x ?_
          refine blockQ_x ?_
          refine thenQ_n ?_
          refine Cd.region ?_
          refine Ops.mv_int rfl rfl rfl ?_
          refine Ops.add rfl rfl rfl (by omega) ?_
          refine Ops.mv_int rfl rfl rfl ?_
          refine Ops.nil ?_
          refine thenQ_n ?_
          -- stop: round
          exact ⟨(v + 1, A6, c6), by show N - (v + 1) < N - v; omega, ⟨rfl, by show Value.slice _ _ _ = .slice _ _ _; rw [hst], rfl, trivial⟩, by show St w3 w6 [CkI _ A6 (cutL next N (v + 1)).length c6 (cutL next N (v + 1))]; rw [hst]; exact hS5, by show v + 1 ≤ N; omega⟩
        · have hmi := missed_iff (wo := (v : Int)) hg hoth.1 (by omega) (by omega) (by omega) hoth.2
          have hdl := (dist_BF (wo := (v : Int)) hg hoth.1 (show oth v < N by omega)).len
          refine Cd.skip ?_
          refine thenQ_n ?_
          refine Cd.seq ?_
          refine Cd.region ?_
          refine Ops.mv_sl rfl rfl rfl ?_
          refine Ops.mv_int rfl rfl rfl ?_
          refine Ops.mv_int rfl rfl rfl ?_
          -- stop: CALL spec.l18Distances(t29, t30, t31) -> 32
          refine Ops.call (l18Distances_c A3 _ _ rs3 next (oth v) (v : Int) _ hN5 hg hoth.1 (by omega)) rfl rfl rfl ?_
          rintro _ w7 ⟨A8, rfl, hst8⟩
          have hS7 := hS5.call hst8
          generalize hfar : (distP next (v : Int) (oth v)).1 = far at *
          refine Ops.mv_sl rfl rfl rfl ?_
          refine Ops.mv_bool rfl rfl rfl ?_
          refine Ops.nil ?_
          refine thenQ_n ?_
          refine Cd.seq ?_
          refine Cd.seq ?_
          refine Cd.region ?_
          refine Ops.mv_int rfl rfl rfl ?_
          refine Ops.nil ?_
          refine thenQ_n ?_
          refine Cd.block ?_
          -- stop: loop
          refine Cd.loop (α := Nat) (fun u => [(4, .slice A3 N N), (5, .slice A6 (cutL next N v).length c6), (6, .int .i64 (v : Int)), (8, .slice A8 N N), (9, .bool (missB far v u)), (10, .int .i64 (u : Int))]) (fun u w' => w' = w7 ∧ u ≤ N) (fun u => N - u) 0 ⟨rfl, rfl, rfl, rfl, rfl, rfl, trivial⟩ ⟨rfl, Nat.zero_le _⟩ ?_
          rintro u e w8 ⟨rfl, hu⟩
          have hF8 := hS7.rdI 0 rfl
          refine Cd.seq ?_
          refine Cd.seq ?_
          refine Cd.region ?_
          refine Ops.mv_int rfl rfl rfl ?_
          refine Ops.mv_sl rfl rfl rfl ?_
          refine Ops.len rfl rfl ?_
          refine Ops.lss rfl rfl rfl ?_
          refine Ops.nil ?_
          refine thenQ_n ?_
          -- stop: cond
          refine Cd.cond_p _ rfl (fun h4 => ?_) (fun h4 => ?_)
          · refine Cd.skip ?_
            refine thenQ_n ?_
            refine Cd.seq ?_
            refine Cd.block ?_
            refine Cd.region ?_
            refine Ops.mv_bool rfl rfl rfl ?_
            refine Ops.mv_bool rfl rfl rfl ?_
            -- stop: guard 40
            refine Ops.split 40 rfl (fun h5 => ?_) (fun h5 => ?_)
            · refine Ops.skipg rfl rfl rfl rfl rfl ?_
              refine Ops.skipg rfl rfl rfl rfl rfl ?_
              refine Ops.skipg rfl rfl rfl rfl rfl ?_
              refine Ops.skipg rfl rfl rfl rfl rfl ?_
              refine Ops.skipu rfl rfl rfl rfl ?_
              refine Ops.skipu rfl rfl rfl rfl ?_
              refine Ops.skipu rfl rfl rfl rfl ?_
              refine Ops.skipu rfl rfl rfl rfl ?_
              refine Ops.skipu rfl rfl rfl rfl ?_
              refine Ops.skipg rfl rfl rfl rfl rfl ?_
              refine Ops.pick_t rfl rfl rfl ?_
              refine Ops.mv_bool rfl rfl rfl ?_
              refine Ops.nil ?_
              refine blockQ_n ?_
              refine thenQ_n ?_
              refine Cd.region ?_
              refine Ops.mv_int rfl rfl rfl ?_
              refine Ops.add rfl rfl rfl (by omega) ?_
              refine Ops.mv_int rfl rfl rfl ?_
              refine Ops.nil ?_
              refine thenQ_n ?_
              -- stop: round
              exact ⟨u + 1, by show N - (u + 1) < N - u; omega, ⟨rfl, rfl, rfl, rfl, by show Value.bool _ = .bool _; rw [missB, if_pos h5], rfl, trivial⟩, rfl, by omega⟩
            · refine Ops.rung rfl rfl rfl ?_
              refine Ops.mv_int rfl rfl rfl ?_
              refine Ops.rung rfl rfl rfl ?_
              refine Ops.mv_int rfl rfl rfl ?_
              refine Ops.rung rfl rfl rfl ?_
              refine Ops.neq rfl rfl rfl ?_
              refine Ops.rung rfl rfl rfl ?_
              refine Ops.mv_bool rfl rfl rfl ?_
              -- stop: guard 44
              refine Ops.split_p 44 rfl (fun h6 => ?_) (fun h6 => ?_)
              · refine Ops.rung rfl rfl rfl ?_
                refine Ops.mv_sl rfl rfl rfl ?_
                refine Ops.rung rfl rfl rfl ?_
                refine Ops.mv_int rfl rfl rfl ?_
                refine Ops.rung rfl rfl rfl ?_
                -- stop: INDEXADDR 39 t45 t46 -> 47
                refine Ops.idx hF8.2 rfl rfl rfl (by omega) (by omega) ?_
                refine Ops.rung rfl rfl rfl ?_
                -- stop: LOAD 2 t47 -> 48
                refine Ops.ld_int hF8 rfl (by omega) rfl rfl ?_
                refine Ops.rung rfl rfl rfl ?_
                refine Ops.lss rfl rfl rfl ?_
                refine Ops.rung rfl rfl rfl ?_
                refine Ops.pick_t rfl rfl rfl ?_
                refine Ops.pick_f rfl rfl rfl ?_
                refine Ops.mv_bool rfl rfl rfl ?_
                refine Ops.nil ?_
                refine blockQ_n ?_
                refine thenQ_n ?_
                refine Cd.region ?_
                refine Ops.mv_int rfl rfl rfl ?_
                refine Ops.add rfl rfl rfl (by omega) ?_
                refine Ops.mv_int rfl rfl rfl ?_
                refine Ops.nil ?_
                refine thenQ_n ?_
                -- stop: round
                exact ⟨u + 1, by show N - (u + 1) < N - u; omega, ⟨rfl, rfl, rfl, rfl, by show Value.bool _ = .bool _; rw [missB, if_neg (by rw [h5]; simp), if_pos h6], rfl, trivial⟩, rfl, by omega⟩
              · refine Ops.skipg rfl rfl rfl rfl rfl ?_
                refine Ops.skipg rfl rfl rfl rfl rfl ?_
                refine Ops.skipg rfl rfl rfl rfl rfl ?_
                refine Ops.skipg rfl rfl rfl rfl rfl ?_
                refine Ops.skipg rfl rfl rfl rfl rfl ?_
                refine Ops.rung rfl rfl rfl ?_
                refine Ops.pick_f rfl rfl rfl ?_
                refine Ops.pick_f rfl rfl rfl ?_
                refine Ops.mv_bool rfl rfl rfl ?_
                refine Ops.nil ?_
                refine blockQ_n ?_
                refine thenQ_n ?_
                refine Cd.region ?_
                refine Ops.mv_int rfl rfl rfl ?_
                refine Ops.add rfl rfl rfl (by omega) ?_
                refine Ops.mv_int rfl rfl rfl ?_
                refine Ops.nil ?_
                refine thenQ_n ?_
                -- stop: round
                exact ⟨u + 1, by show N - (u + 1) < N - u; omega, ⟨rfl, rfl, rfl, rfl, by show Value.bool _ = .bool _; rw [missB, if_neg (by rw [h5]; simp), if_neg h6], rfl, trivial⟩, rfl, by omega⟩
          · refine Cd.exit ?_
            refine thenQ_x ?_
            refine thenQ_x ?_
            refine blockQ_x ?_
            refine thenQ_n ?_
            refine Cd.seq ?_
            refine Cd.region ?_
            refine Ops.mv_bool rfl rfl rfl ?_
            refine Ops.nil ?_
            refine thenQ_n ?_
            -- stop: cond
            have hun : u = N := by omega
            subst hun
            have hmb := missB_iff far v u
            refine Cd.cond rfl (fun h5 => ?_) (fun h5 => ?_)
            · have hst : cutL next u (v + 1) = cutL next u v ++ [(v : Int)] := by
                show (if _ then _ else _) = _
                rw [if_pos ⟨by omega, hmi.1 (hmb.1 h5)⟩]
              refine Cd.region ?_
              refine Ops.mv_sl rfl rfl rfl ?_
              refine Ops.mv_int rfl rfl rfl ?_
              -- stop: BUILDSLICE 39 1 [('pair', [0, ('app', 'Go.Operand.tmp', [54])])] -> 55
              refine Ops.bs1I hS7.tail rfl rfl rfl ?_
              intro A9 w9 hS9
              refine Ops.appI 1 hS9 rfl (hS9.rdI 0 rfl) rfl rfl rfl (by omega) (by omega) rfl ?_
              intro A10 c10 w10 hS10
              refine Ops.mv_sl rfl rfl rfl ?_
              refine Ops.nil ?_
              refine blockQ_n ?_
              refine thenQ_n ?_
              refine Cd.region ?_
              refine Ops.mv_int rfl rfl rfl ?_
              refine Ops.add rfl rfl rfl (by omega) ?_
              refine Ops.mv_int rfl rfl rfl ?_
              refine Ops.nil ?_
              refine thenQ_n ?_
              -- stop: round
              have e1 : (cutL next u (v + 1)).length = (cutL next u v).length + 1 := by rw [hst]; simp
              refine ⟨(v + 1, A10, c10), by show u - (v + 1) < u - v; omega, ⟨rfl, by show Value.slice _ _ _ = .slice _ _ _; rw [e1], rfl, trivial⟩, ?_, by show v + 1 ≤ u; omega⟩
              show St w3 w10 [CkI _ A10 (cutL next u (v + 1)).length c10 (cutL next u (v + 1))]
              rw [e1, hst]
              exact hS10.tail
            · have hst : cutL next u (v + 1) = cutL next u v := by
                show (if _ then _ else _) = _
                rw [if_neg (fun h => by have := hmb.2 (hmi.2 h.2); rw [h5] at this; cases this)]
              refine Cd.skip ?_
              refine blockQ_n ?_
              refine thenQ_n ?_
              refine Cd.region ?_
              refine Ops.mv_int rfl rfl rfl ?_
              refine Ops.add rfl rfl rfl (by omega) ?_
              refine Ops.mv_int rfl rfl rfl ?_
              refine Ops.nil ?_
              refine thenQ_n ?_
              -- stop: round
              exact ⟨(v + 1, A6, c6), by show u - (v + 1) < u - v; omega, ⟨rfl, by show Value.slice _ _ _ = .slice _ _ _; rw [hst], rfl, trivial⟩, by show St w3 w8 [CkI _ A6 (cutL next u (v + 1)).length c6 (cutL next u (v + 1))]; rw [hst]; exact hS7.tail, by show v + 1 ≤ u; omega⟩
    · refine Cd.exit ?_
      refine thenQ_x ?_
      refine thenQ_x ?_
      refine blockQ_x ?_
      refine thenQ_n ?_
      refine Cd.seq ?_
      refine Cd.region ?_
      refine Ops.mv_sl rfl rfl rfl ?_
      refine Ops.mv_sl rfl rfl rfl ?_
      refine Ops.mv_int rfl rfl rfl ?_
      refine Ops.nil ?_
      refine thenQ_n ?_
      refine Cd.ret ?_
      refine ret2_si rfl rfl ?_
      -- stop: end
      have hvn : v = N := by omega
      subst hvn
      rw [petrieK, if_pos hG, hfin]
      have := hS3.call hS5
      exact ⟨A6, c6, rfl, this⟩

theorem implCutVertices_c (A : Option Addr) (n c : Nat) (rs : List SlV) (xss : List (List Int)) (w : World) (hR : RowsI w A n rs xss) (hn : n ≤ c) (hc : c ≤ 9223372036854775807) :
    Ret Try.prog 52 [.agg #[.slice A n c]] w (AnsR (cvL xss) (petrieK xss) w) := by
  refine Ret.of_cd Try.func52 rfl Try.ntmps52 rfl (post2 rfl) ?_
  refine Cd.seq ?_
  refine Cd.region ?_
  -- stop: BOX 32 t0=m -> 1
  refine Ops.box1 (St.refl w) rfl rfl ?_
  intro Ab w1 hS1
  refine Ops.mv_sl rfl rfl rfl ?_
  refine Ops.mv_int rfl rfl rfl ?_
  refine Ops.nil ?_
  refine thenQ_n ?_
  refine Cd.seq ?_
  refine Cd.region ?_
  -- stop: LOAD 32 t1=m -> 10
  refine Ops.ld_agg 0 (hS1.rd 0 rfl) rfl rfl rfl ?_
  refine Ops.call (graphOf_c A n c rs xss none 0 0 [] _ (hS1.oldRows hR) hn hc RdI.nil (by omega)) rfl rfl rfl ?_
  rintro _ w3 ⟨A3, c3, rs3, rfl, hrl, hst3⟩
  have hS3 := hS1.later hst3.below
  rw [goK_nil] at *
  refine Ops.mv_tup rfl rfl rfl ?_
  refine Ops.extract rfl rfl rfl ?_
  refine Ops.extract rfl rfl rfl ?_
  refine Ops.mv_sl rfl rfl rfl ?_
  refine Ops.mv_int rfl rfl rfl ?_
  refine Ops.nil ?_
  refine thenQ_n ?_
  refine Cd.seq ?_
  refine Cd.seq ?_
  refine Cd.region ?_
  refine Ops.mv_int rfl rfl rfl ?_
  refine Ops.neq rfl rfl rfl ?_
  refine Ops.nil ?_
  refine thenQ_n ?_
  -- stop: cond
  refine Cd.cond_p _ rfl (fun h => ?_) (fun h => ?_)
  · have hnG : ¬ Grph xss := fun hG => h (by rw [petrieK, if_pos hG])
    refine Cd.seq ?_
    refine Cd.region ?_
    refine Ops.mv_int rfl rfl rfl ?_
    refine Ops.mv_sl rfl rfl rfl ?_
    refine Ops.mv_int rfl rfl rfl ?_
    refine Ops.nil ?_
    refine thenQ_n ?_
    refine Cd.ret ?_
    refine thenQ_r ?_
    refine ret2_si rfl rfl ?_
    -- stop: end
    rw [cvL, if_neg hnG]
    exact AnsR.none hS3
  · have hG : Grph xss := by
      apply Classical.byContradiction
      intro hG
      exact h (by rw [petrieK, if_neg hG]; decide)
    have hg := nb_gr hG.1
    have hsm := nb_small hG.1
    rw [goL_nil hG, nbL_len] at *
    have hN3 := hst3.rowsI (nbL_len xss)
    have hfin : cvL xss = cutL (nbL xss) (vertsN xss) (vertsN xss) := by rw [cvL, if_pos hG]
    generalize hv : vertsN xss = N at *
    generalize hnx : nbL xss = next at *
    refine Cd.skip ?_
    refine thenQ_n ?_
    refine Cd.seq ?_
    refine Cd.region ?_
    refine Ops.mv_sl rfl rfl rfl ?_
    refine Ops.nil ?_
    refine thenQ_n ?_
    refine Cd.seq ?_
    refine Cd.seq ?_
    refine Cd.region ?_
    refine Ops.mv_sl rfl rfl rfl ?_
    -- stop: CALL impl.size[[]int64](t17) -> 18
    refine Ops.call (sizeR_c _ _ _ _) rfl rfl rfl ?_
    rintro _ w3 ⟨rfl, rfl⟩
    refine Ops.mv_int rfl rfl rfl ?_
    refine Ops.nil ?_
    refine thenQ_n ?_
    refine Cd.block ?_
    -- stop: loop
    have hS4 : St w3 w3 [CkI 2 none (cutL next N 0).length 0 (cutL next N 0)] := (St.refl w3).nil _
    refine Cd.loop (α := Nat × Option Addr × Nat) (fun z => [(4, .slice A3 N c3), (6, .slice z.2.1 (cutL next N z.1).length z.2.2), (18, .int .i64 (N : Int)), (19, .int .i64 (z.1 : Int))]) (fun z w' => St w3 w' [CkI 2 z.2.1 (cutL next N z.1).length z.2.2 (cutL next N z.1)] ∧ z.1 ≤ N) (fun z => N - z.1) (0, none, 0) ⟨rfl, rfl, rfl, rfl, trivial⟩ ⟨hS4, Nat.zero_le _⟩ ?_
    rintro ⟨v, A6, c6⟩ e w5 ⟨hS5, hv5⟩
    dsimp only at hS5 hv5 ⊢
    have hN5 := hS5.oldRows hN3
    have hcl := cutL_len next N v
    refine Cd.seq ?_
    refine Cd.region ?_
    refine Ops.lss rfl rfl rfl ?_
    refine Ops.nil ?_
    refine thenQ_n ?_
    refine Cd.seq ?_
    -- stop: cond
    refine Cd.cond_p _ rfl (fun h1 => ?_) (fun h1 => ?_)
    · have hoth : 0 ≤ oth v ∧ oth v ≠ (v : Int) := by unfold oth; split <;> omega
      refine Cd.skip ?_
      refine thenQ_n ?_
      refine Cd.seq ?_
      refine Cd.block ?_
      refine Cd.seq ?_
      refine Cd.region ?_
      refine Ops.mv_int rfl rfl rfl ?_
      refine Ops.mv_int rfl rfl rfl ?_
      refine Ops.nil ?_
      refine thenQ_n ?_
      refine Cd.seq ?_
      refine Cd.region ?_
      refine Ops.mv_int rfl rfl rfl ?_
      refine Ops.nil ?_
      refine thenQ_n ?_
      -- stop: join
      refine Cd.join (α := Unit) (fun _ => [(4, .slice A3 N c3), (6, .slice A6 (cutL next N v).length c6), (7, .int .i64 (v : Int)), (8, .int .i64 (oth v)), (18, .int .i64 (N : Int)), (19, .int .i64 (v : Int))]) (fun _ w' => w' = w5) ?_ ?_
      · refine Cd.seq ?_
        refine Cd.region ?_
        refine Ops.mv_int rfl rfl rfl ?_
        refine Ops.eql rfl rfl rfl ?_
        refine Ops.nil ?_
        refine thenQ_n ?_
        -- stop: cond
        refine Cd.cond_p _ rfl (fun h2 => ?_) (fun h2 => ?_)
        · refine Cd.region ?_
          refine Ops.mv_int rfl rfl rfl ?_
          refine Ops.nil ?_
          refine thenQ_n ?_
          -- stop: round
          exact ⟨(), ⟨rfl, rfl, rfl, by show Value.int .i64 _ = .int .i64 _; rw [oth, if_pos (by omega)], rfl, rfl, trivial⟩, rfl⟩
        · refine Cd.skip ?_
          refine thenQ_n ?_
          -- stop: round
          exact ⟨(), ⟨rfl, rfl, rfl, by show Value.int .i64 _ = .int .i64 _; rw [oth, if_neg (by omega)], rfl, rfl, trivial⟩, rfl⟩
      · rintro _ e w6 rfl
        have no : ∀ {w' : World}, St w3 w' [CkI 2 A6 (cutL next N v).length c6 (cutL next N v)] → ¬ isCut next N v → St w3 w' [CkI 2 A6 (cutL next N (v + 1)).length c6 (cutL next N (v + 1))] ∧ cutL next N (v + 1) = cutL next N v := fun h h2 => by
          have hst : cutL next N (v + 1) = cutL next N v := by
            show (if _ then _ else _) = _
            rw [if_neg h2]
          exact ⟨by rw [hst]; exact h, hst⟩
        refine Cd.seq ?_
        refine Cd.region ?_
        refine Ops.mv_int rfl rfl rfl ?_
        refine Ops.mv_sl rfl rfl rfl ?_
        -- stop: CALL impl.size[[]int64](t25) -> 26
        refine Ops.call (sizeR_c _ _ _ _) rfl rfl rfl ?_
        rintro _ w6 ⟨rfl, rfl⟩
        refine Ops.lss rfl rfl rfl ?_
        refine Ops.mv_bool rfl rfl rfl ?_
        -- stop: guard 28
        refine Ops.split_p 28 rfl (fun h3 => ?_) (fun h3 => ?_)
        · have hql := (dist_BF (wo := (v : Int)) hg hoth.1 h3).len2
          refine Ops.rung rfl rfl rfl ?_
          refine Ops.mv_sl rfl rfl rfl ?_
          refine Ops.rung rfl rfl rfl ?_
          refine Ops.mv_int rfl rfl rfl ?_
          refine Ops.rung rfl rfl rfl ?_
          refine Ops.mv_int rfl rfl rfl ?_
          refine Ops.rung rfl rfl rfl ?_
          -- stop: CALL impl.reachedFrom(t29, t30, t31) -> 32
          refine Ops.call (reachedFrom_c A3 _ _ rs3 next (oth v) (v : Int) _ hN5 hg hoth.1 h3) rfl rfl rfl ?_
          rintro _ w7 ⟨A8, c8, rfl, hst8⟩
          have hS7 := hS5.later hst8.below
          refine Ops.rung rfl rfl rfl ?_
          refine Ops.len rfl rfl ?_
          refine Ops.rung rfl rfl rfl ?_
          refine Ops.mv_sl rfl rfl rfl ?_
          refine Ops.rung rfl rfl rfl ?_
          refine Ops.len rfl rfl ?_
          refine Ops.rung rfl rfl rfl ?_
          refine Ops.sub rfl rfl rfl (by omega) ?_
          refine Ops.rung rfl rfl rfl ?_
          refine Ops.lss rfl rfl rfl ?_
          refine Ops.pick_t rfl rfl rfl ?_
          refine Ops.nil ?_
          refine thenQ_n ?_
          -- stop: cond
          refine Cd.cond_p _ rfl (fun h4 => ?_) (fun h4 => ?_)
          · have hst : cutL next N (v + 1) = cutL next N v ++ [(v : Int)] := by
              show (if _ then _ else _) = _
              rw [if_pos ⟨h3, h4⟩]
            refine Cd.region ?_
            refine Ops.mv_sl rfl rfl rfl ?_
            refine Ops.mv_int rfl rfl rfl ?_
            -- stop: BUILDSLICE 39 1 [('pair', [0, ('app', 'Go.Operand.tmp', [40])])] -> 41
            refine Ops.bs1I hS7 rfl rfl rfl ?_
            intro A9 w9 hS9
            refine Ops.appI 1 hS9 rfl (hS9.rdI 0 rfl) rfl rfl rfl (by omega) (by omega) rfl ?_
            intro A10 c10 w10 hS10
            refine Ops.mv_sl rfl rfl rfl ?_
            refine Ops.nil ?_
            refine blockQ_n ?_
            refine thenQ_n ?_
            refine Cd.region ?_
            refine Ops.add rfl rfl rfl (by omega) ?_
            refine Ops.mv_int rfl rfl rfl ?_
            refine Ops.nil ?_
            refine thenQ_n ?_
            -- stop: round
            have e1 : (cutL next N (v + 1)).length = (cutL next N v).length + 1 := by rw [hst]; simp
            refine ⟨(v + 1, A10, c10), by show N - (v + 1) < N - v; omega, ⟨rfl, by show Value.slice _ _ _ = .slice _ _ _; rw [e1], rfl, rfl, trivial⟩, ?_, by show v + 1 ≤ N; omega⟩
            show St w3 w10 [CkI _ A10 (cutL next N (v + 1)).length c10 (cutL next N (v + 1))]
            rw [e1, hst]
            exact hS10.tail
          · obtain ⟨hS8, hst⟩ := no hS7 (fun h => h4 h.2)
            refine Cd.skip ?_
            refine blockQ_n ?_
            refine thenQ_n ?_
            refine Cd.region ?_
            refine Ops.add rfl rfl rfl (by omega) ?_
            refine Ops.mv_int rfl rfl rfl ?_
            refine Ops.nil ?_
            refine thenQ_n ?_
            -- stop: round
            exact ⟨(v + 1, A6, c6), by show N - (v + 1) < N - v; omega, ⟨rfl, by show Value.slice _ _ _ = .slice _ _ _; rw [hst], rfl, rfl, trivial⟩, hS8, by show v + 1 ≤ N; omega⟩
        · obtain ⟨hS8, hst⟩ := no hS5 (fun h => h3 h.1)
          refine Ops.skipg rfl rfl rfl rfl rfl ?_
          refine Ops.skipg rfl rfl rfl rfl rfl ?_
          refine Ops.skipg rfl rfl rfl rfl rfl ?_
          refine Ops.skipg rfl rfl rfl rfl rfl ?_
          refine Ops.skipg rfl rfl rfl rfl rfl ?_
          refine Ops.skipg rfl rfl rfl rfl rfl ?_
          refine Ops.skipg rfl rfl rfl rfl rfl ?_
          refine Ops.skipg rfl rfl rfl rfl rfl ?_
          refine Ops.skipg rfl rfl rfl rfl rfl ?_
          refine Ops.pick_f rfl rfl rfl ?_
          refine Ops.nil ?_
          refine thenQ_n ?_
          -- stop: cond
          refine Cd.cond_f rfl ?_
          refine Cd.skip ?_
          refine blockQ_n ?_
          refine thenQ_n ?_
          refine Cd.region ?_
          refine Ops.add rfl rfl rfl (by omega) ?_
          refine Ops.mv_int rfl rfl rfl ?_
          refine Ops.nil ?_
          refine thenQ_n ?_
          -- stop: round
          exact ⟨(v + 1, A6, c6), by show N - (v + 1) < N - v; omega, ⟨rfl, by show Value.slice _ _ _ = .slice _ _ _; rw [hst], rfl, rfl, trivial⟩, hS8, by show v + 1 ≤ N; omega⟩
    · refine Cd.exit ?_
      refine thenQ_x ?_
      refine thenQ_x ?_
      refine blockQ_x ?_
      refine thenQ_n ?_
      refine Cd.seq ?_
      refine Cd.region ?_
      refine Ops.mv_sl rfl rfl rfl ?_
      refine Ops.mv_sl rfl rfl rfl ?_
      refine Ops.mv_int rfl rfl rfl ?_
      refine Ops.nil ?_
      refine thenQ_n ?_
      refine Cd.ret ?_
      refine ret2_si rfl rfl ?_
      -- stop: end
      have hvn : v = N := by omega
      subst hvn
      rw [petrieK, if_pos hG, hfin]
      have := hS3.none.call hS5
      exact ⟨A6, c6, rfl, this⟩
end Go.Proofs.Ytpdhjnacnmfbjaa.Vc
