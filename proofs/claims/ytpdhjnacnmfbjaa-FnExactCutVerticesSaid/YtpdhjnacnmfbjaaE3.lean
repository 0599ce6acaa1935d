/-
  The graph of a maniplex with its code, and distances from a vertex on both sides. Conditions: as each states them.
-/
import Derived.Test.YtpdhjnacnmfbjaaE2
namespace Go.Proofs.Ytpdhjnacnmfbjaa.Vc
open Go.RowKit

theorem nb_gr {xss : List (List Int)} (hM : Mani xss) : Gr (vertsN xss) (nbL xss) := by
  have hsm := nb_small hM
  have hin := arcs_in (En := endsL xss) (b := (vertsN xss : Int)) (fun e => endsL_mem hM e (by omega)) (edgesN xss)
  refine ⟨nbL_len xss, hsm.2.1, fun u hu => ⟨fun x hx => ?_, ?_⟩⟩
  · rw [nbL, gl_endsP, cs_mem] at hx
    exact bagP_mem _ hin u hu x hx
  · have h1 := endsP_row (m := vertsN xss) (ps := arcs (endsL xss) (edgesN xss)) (fun p hp => (hin p hp).1) u hu
    have h2 := arcs_len (endsL xss) (edgesN xss)
    show (gl (endsP _ _) _).length ≤ _
    omega
def goK (xss : List (List Int)) (vs : List Int) : Int := if ¬ Grph xss then 1 else if ¬ allIn 0 ((vertsN xss : Int) - 1) vs then 2 else 0
def goL (xss : List (List Int)) (vs : List Int) : List (List Int) := if Grph xss ∧ allIn 0 ((vertsN xss : Int) - 1) vs then nbL xss else []
theorem goK_zero {xss : List (List Int)} {vs : List Int} (h : goK xss vs = 0) : Grph xss ∧ allIn 0 ((vertsN xss : Int) - 1) vs := by
  unfold goK at h
  split at h
  · cases h
  · rename_i h1
    split at h
    · cases h
    · rename_i h2
      exact ⟨Classical.not_not.1 h1, Classical.not_not.1 h2⟩

theorem graphOf_c (A : Option Addr) (n c : Nat) (rs : List SlV) (xss : List (List Int)) (Av : Option Addr) (nv cv : Nat) (vs : List Int) (w : World) (hR : RowsI w A n rs xss) (hn : n ≤ c) (hc : c ≤ 9223372036854775807) (hV : RdI w Av nv vs) (hnv : nv ≤ 9223372036854775807) :
    Ret Try.prog 80 [.agg #[.slice A n c], .slice Av nv cv] w (AnsSS (goL xss vs) (goK xss vs) w) := by
  refine Ret.of_cd Try.func80 rfl Try.ntmps80 rfl (post2 rfl) ?_
  refine Cd.seq ?_
  refine Cd.region ?_
  -- stop: BOX 32 t0=m -> 2
  refine Ops.box1 (St.refl w) rfl rfl ?_
  intro Ab w1 hS1
  refine Ops.mv_sl rfl rfl rfl ?_
  refine Ops.mv_int rfl rfl rfl ?_
  refine Ops.nil ?_
  refine thenQ_n ?_
  refine Cd.seq ?_
  refine Cd.seq ?_
  refine Cd.region ?_
  -- stop: LOAD 32 t2=m -> 7
  refine Ops.ld_agg 0 (hS1.rd 0 rfl) rfl rfl rfl ?_
  refine Ops.call (isGraphed_c A n c rs xss _ (hS1.oldRows hR) hn hc) rfl rfl rfl ?_
  rintro _ w2 ⟨rfl, hst⟩
  have hS2 := hS1.later hst.below
  first | refine Ops.not_p rfl rfl ?_ | refine Ops.not rfl rfl ?_
  refine Ops.nil ?_
  refine thenQ_n ?_
  -- stop: cond
  refine Cd.cond_p _ rfl (fun h => ?_) (fun h => ?_)
  · refine Cd.seq ?_
    refine Cd.region ?_
    refine Ops.mv_sl rfl rfl rfl ?_
    refine Ops.mv_int rfl rfl rfl ?_
    refine Ops.nil ?_
    refine thenQ_n ?_
    refine Cd.ret ?_
    refine thenQ_r ?_
    refine ret2_si rfl rfl ?_
    -- stop: end
    rw [goK, if_pos h, goL, if_neg (fun h2 => h h2.1)]
    exact AnsSS.none hS2
  · have hG : Grph xss := Classical.not_not.1 h
    have hsm := nb_small hG.1
    refine Cd.skip ?_
    refine thenQ_n ?_
    refine Cd.seq ?_
    refine Cd.region ?_
    -- stop: LOAD 32 t2=m -> 10
    refine Ops.ld_agg 0 (hS2.rd 0 rfl) rfl rfl rfl ?_
    refine Ops.call (neighboursOf_c A n c rs xss _ (hS2.oldRows hR) hG) rfl rfl rfl ?_
    rintro _ w3 ⟨A3, rs3, rfl, hrl, hst⟩
    have hS3 := hS2.none.call hst
    rw [List.append_nil] at hS3
    refine Ops.mv_sl rfl rfl rfl ?_
    refine Ops.nil ?_
    refine thenQ_n ?_
    refine Cd.seq ?_
    refine Cd.seq ?_
    refine Cd.region ?_
    refine Ops.mv_sl rfl rfl rfl ?_
    refine Ops.mv_sl rfl rfl rfl ?_
    -- stop: CALL impl.size[[]int64](t13) -> 14
    refine Ops.call (sizeR_c _ _ _ _) rfl rfl rfl ?_
    rintro _ w3 ⟨rfl, rfl⟩
    refine Ops.sub rfl rfl rfl (by omega) ?_
    -- stop: CALL impl.areWithin(t12, 0, t15) -> 16
    refine Ops.call (areWithin_c Av nv cv vs 0 _ _ (hS3.oldI hV) hnv) rfl rfl rfl ?_
    rintro _ w4 ⟨rfl, hst4⟩
    have hS4 := hS3.later hst4.below
    first | refine Ops.not_p rfl rfl ?_ | refine Ops.not rfl rfl ?_
    refine Ops.nil ?_
    refine thenQ_n ?_
    -- stop: cond
    refine Cd.cond_p _ rfl (fun h2 => ?_) (fun h2 => ?_)
    · refine Cd.seq ?_
      refine Cd.region ?_
      refine Ops.mv_sl rfl rfl rfl ?_
      refine Ops.mv_int rfl rfl rfl ?_
      refine Ops.nil ?_
      refine thenQ_n ?_
      refine Cd.ret ?_
      refine thenQ_r ?_
      refine ret2_si rfl rfl ?_
      -- stop: end
      rw [goK, if_neg h, if_pos h2, goL, if_neg (fun h3 => h2 h3.2)]
      exact AnsSS.none hS4
    · have hA := Classical.not_not.1 h2
      refine Cd.skip ?_
      refine thenQ_n ?_
      refine Cd.seq ?_
      refine Cd.region ?_
      refine Ops.mv_sl rfl rfl rfl ?_
      refine Ops.mv_sl rfl rfl rfl ?_
      refine Ops.mv_int rfl rfl rfl ?_
      refine Ops.nil ?_
      refine thenQ_n ?_
      refine Cd.ret ?_
      refine ret2_si rfl rfl ?_
      -- stop: end
      rw [goK, if_neg h, if_neg h2, goL, if_pos ⟨hG, hA⟩]
      refine ⟨A3, vertsN xss, rs3, by rw [nbL_len], by rw [nbL_len]; exact hrl, ?_⟩
      rw [nbL_len]
      exact hS4

theorem allIn_one (lo hi v : Int) : allIn lo hi [v] ↔ lo ≤ v ∧ v ≤ hi := by simp [allIn]
theorem l18Code_c (A : Option Addr) (n c : Nat) (rs : List SlV) (xss : List (List Int)) (v : Int) (w : World) (hR : RowsI w A n rs xss) (hn : n ≤ 9223372036854775807) :
    Ret Try.prog 84 [.agg #[.slice A n c], .int .i64 v] w (fun r w' => r = .int .i64 (goK xss [v]) ∧ St w w' []) := by
  have hl := hR.len
  refine Ret.of_cd Try.func84 rfl Try.ntmps84 rfl (post1 rfl) ?_
  refine Cd.seq ?_
  refine Cd.region ?_
  -- stop: BOX 32 t0=m -> 2
  refine Ops.box1 (St.refl w) rfl rfl ?_
  intro Ab w1 hS
  refine Ops.mv_int rfl rfl rfl ?_
  refine Ops.nil ?_
  refine thenQ_n ?_
  refine Cd.seq ?_
  refine Cd.block ?_
  refine Cd.seq ?_
  refine Cd.region ?_
  -- stop: LOAD 32 t2=m -> 6
  refine Ops.ld_agg 0 (hS.rd 0 rfl) rfl rfl rfl ?_
  refine Ops.call (l18Is_c A n c rs xss _ (hS.oldRows hR) hn) rfl rfl rfl ?_
  rintro _ w2 ⟨rfl, hst⟩
  have hS := hS.later hst.below
  first | refine Ops.not_p rfl rfl ?_ | refine Ops.not rfl rfl ?_
  refine Ops.mv_bool rfl rfl rfl ?_
  refine Ops.nil ?_
  refine thenQ_n ?_
  -- stop: cond
  refine Cd.cond_p _ rfl (fun h1 => ?_) (fun h1 => ?_)
  · refine Cd.seq ?_
    refine Cd.region ?_
    refine Ops.mv_int rfl rfl rfl ?_
    refine Ops.nil ?_
    refine thenQ_n ?_
    refine Cd.ret ?_
    refine blockQ_r ?_
    refine thenQ_r ?_
    refine ret1_i rfl ?_
    -- stop: end
    exact ⟨by rw [goK, if_pos h1], hS.none⟩
  · have hG : Grph xss := Classical.not_not.1 h1
    have hM := hG.1
    have hsm := nb_small hM
    have h5 := hM.1
    have hmN : ((vertsN xss : Nat) : Int) = facesN xss 0 := by have := facesN_le xss 0; unfold vertsN; omega
    have hEx : ∀ x ∈ facesL xss 0, x ≤ 1000000 := fun x hx => by
      obtain ⟨k, hk, rfl⟩ := List.mem_iff_getElem.1 hx
      have := faces_in hM 0 k (by rw [← facesL_len xss 0]; exact hk)
      rw [gi_mem hk] at this
      omega
    refine Cd.seq ?_
    refine Cd.region ?_
    refine Ops.mv_int rfl rfl rfl ?_
    -- stop: LOAD 32 t2=m -> 11
    refine Ops.ld_agg 0 (hS.rd 0 rfl) rfl rfl rfl ?_
    refine Ops.call (l02Faces_c A n c rs xss 0 _ (hS.oldRows hR) hM (by omega)) rfl rfl rfl ?_
    rintro _ w3 ⟨A4, c4, rfl, hst4⟩
    have hS := hS.later hst4.below
    refine Ops.call (l02Greatest_c A4 _ c4 (facesL xss 0) w3 (hst4.rdI 0 rfl) (by omega) hEx) rfl rfl rfl ?_
    rintro _ w3 ⟨rfl, rfl⟩
    rw [faces_grt hM 0, ← hmN]
    refine Ops.sub rfl rfl rfl (by omega) ?_
    -- stop: CALL spec.l01In(t10, 0, t14) -> 15
    refine Ops.call (l01In_c _ _ _ _) rfl rfl rfl ?_
    rintro _ w3 ⟨rfl, rfl⟩
    first | refine Ops.not_p rfl rfl ?_ | refine Ops.not rfl rfl ?_
    refine Ops.mv_bool rfl rfl rfl ?_
    refine Ops.nil ?_
    refine thenQ_n ?_
    -- stop: cond
    refine Cd.cond_p _ rfl (fun h2 => ?_) (fun h2 => ?_)
    · refine Cd.seq ?_
      refine Cd.region ?_
      refine Ops.mv_int rfl rfl rfl ?_
      refine Ops.nil ?_
      refine thenQ_n ?_
      refine Cd.ret ?_
      refine blockQ_r ?_
      refine thenQ_r ?_
      refine ret1_i rfl ?_
      -- stop: end
      exact ⟨by rw [goK, if_neg h1, if_pos (fun h => h2 ((allIn_one _ _ _).1 h))], hS.none⟩
    · refine Cd.skip ?_
      refine blockQ_n ?_
      refine thenQ_n ?_
      refine Cd.seq ?_
      refine Cd.region ?_
      refine Ops.mv_int rfl rfl rfl ?_
      refine Ops.nil ?_
      refine thenQ_n ?_
      refine Cd.ret ?_
      refine ret1_i rfl ?_
      -- stop: end
      exact ⟨by rw [goK, if_neg h1, if_neg (fun h => h ((allIn_one _ _ _).2 (Classical.not_not.1 h2)))], hS.none⟩

def vdL (xss : List (List Int)) (v : Int) : List Int := if goK xss [v] = 0 then (distP (nbL xss) (-1) v).1 else []
theorem AnsR.mk {w w' : World} {A : Option Addr} {L : List Int} {n c : Nat} {K : Int} (hl : L.length = n) (h : St w w' [CkI 2 A n c L]) : AnsR L K w (.tuple #[.slice A n c, .int .i64 K]) w' := by
  subst hl
  exact ⟨A, c, rfl, h⟩

theorem bfs_BF {n : Nat} {next : List (List Int)} {wo : Int} (hg : Gr n next) : ∀ (f i : Nat) (st : List Int × List Int), BF n st → BF n (bfsD next wo f i st)
  | 0, _, _, h => h
  | f + 1, i, st, h => by
    rw [bfsD]
    split
    · rename_i hi
      have hum : gi st.2 (i : Int) ∈ st.2 := gi_in hi
      exact bfs_BF hg f _ _ (BF.row (wo := wo) _ h hum (hg.row _ (h.rng _ hum).1).1).1
    · exact h
theorem dist_BF {n : Nat} {next : List (List Int)} {wo v : Int} (hg : Gr n next) (h0 : 0 ≤ v) (h1 : v < n) : BF n (distP next wo v) := by
  unfold distP
  rw [hg.len]
  exact bfs_BF hg _ _ _ (BF.init h0 h1)

theorem specVertexDistances_c (A : Option Addr) (n c : Nat) (rs : List SlV) (xss : List (List Int)) (v : Int) (w : World) (hR : RowsI w A n rs xss) (hn : n ≤ 9223372036854775807) :
    Ret Try.prog 47 [.agg #[.slice A n c], .int .i64 v] w (AnsR (vdL xss v) (goK xss [v]) w) := by
  refine Ret.of_cd Try.func47 rfl Try.ntmps47 rfl (post2 rfl) ?_
  refine Cd.seq ?_
  refine Cd.region ?_
  -- stop: BOX 32 t0=m -> 2
  refine Ops.box1 (St.refl w) rfl rfl ?_
  intro Ab w1 hS1
  refine Ops.mv_sl rfl rfl rfl ?_
  refine Ops.mv_int rfl rfl rfl ?_
  refine Ops.nil ?_
  refine thenQ_n ?_
  refine Cd.seq ?_
  refine Cd.seq ?_
  refine Cd.region ?_
  -- stop: LOAD 32 t2=m -> 7
  refine Ops.ld_agg 0 (hS1.rd 0 rfl) rfl rfl rfl ?_
  refine Ops.mv_int rfl rfl rfl ?_
  -- stop: CALL spec.l18Code(t7, t8) -> 9
  refine Ops.call (l18Code_c A n c rs xss v _ (hS1.oldRows hR) hn) rfl rfl rfl ?_
  rintro _ w2 ⟨rfl, hst⟩
  have hS2 := hS1.later hst.below
  refine Ops.mv_int rfl rfl rfl ?_
  refine Ops.nil ?_
  refine thenQ_n ?_
  refine Cd.seq ?_
  refine Cd.region ?_
  refine Ops.mv_int rfl rfl rfl ?_
  refine Ops.neq rfl rfl rfl ?_
  refine Ops.nil ?_
  refine thenQ_n ?_
  -- stop: cond
  refine Cd.cond_p _ rfl (fun h => ?_) (fun h => ?_)
  · refine Cd.seq ?_
    refine Cd.region ?_
    refine Ops.mv_int rfl rfl rfl ?_
    refine Ops.mv_sl rfl rfl rfl ?_
    refine Ops.mv_int rfl rfl rfl ?_
    refine Ops.nil ?_
    refine thenQ_n ?_
    refine Cd.ret ?_
    refine thenQ_r ?_
    refine ret2_si rfl rfl ?_
    -- stop: end
    rw [vdL, if_neg h]
    exact AnsR.none hS2
  · have hK : goK xss [v] = 0 := Classical.not_not.1 h
    obtain ⟨hG, hA⟩ := goK_zero hK
    have hv := (allIn_one _ _ _).1 hA
    have hg := nb_gr hG.1
    have hB := dist_BF (wo := -1) hg hv.1 (by omega)
    refine Cd.skip ?_
    refine thenQ_n ?_
    refine Cd.seq ?_
    refine Cd.region ?_
    -- stop: LOAD 32 t2=m -> 13
    refine Ops.ld_agg 0 (hS2.rd 0 rfl) rfl rfl rfl ?_
    refine Ops.call (l18Neighbours_c A n c rs xss _ (hS2.oldRows hR) hG) rfl rfl rfl ?_
    rintro _ w3 ⟨A3, rs3, rfl, hrl, hst3⟩
    have hS3 := hS2.later hst3.below
    refine Ops.mv_int rfl rfl rfl ?_
    -- stop: CALL spec.l18Distances(t14, t15, -1) -> 16
    refine Ops.call (l18Distances_c A3 _ _ rs3 (nbL xss) v (-1) _ (hst3.rowsI (nbL_len xss)) hg hv.1 (by omega)) rfl rfl rfl ?_
    rintro _ w4 ⟨A4, rfl, hst4⟩
    have hS4 := hS3.none.call hst4
    refine Ops.mv_sl rfl rfl rfl ?_
    refine Ops.mv_int rfl rfl rfl ?_
    refine Ops.nil ?_
    refine thenQ_n ?_
    refine Cd.ret ?_
    refine ret2_si rfl rfl ?_
    -- stop: end
    rw [vdL, if_pos hK, hK]
    exact AnsR.mk hB.len hS4

theorem implVertexDistances_c (A : Option Addr) (n c : Nat) (rs : List SlV) (xss : List (List Int)) (v : Int) (w : World) (hR : RowsI w A n rs xss) (hn : n ≤ c) (hc : c ≤ 9223372036854775807) :
    Ret Try.prog 48 [.agg #[.slice A n c], .int .i64 v] w (AnsR (vdL xss v) (goK xss [v]) w) := by
  refine Ret.of_cd Try.func48 rfl Try.ntmps48 rfl (post2 rfl) ?_
  refine Cd.seq ?_
  refine Cd.region ?_
  -- stop: BOX 32 t0=m -> 2
  refine Ops.box1 (St.refl w) rfl rfl ?_
  intro Ab w1 hS1
  refine Ops.mv_sl rfl rfl rfl ?_
  refine Ops.mv_int rfl rfl rfl ?_
  refine Ops.nil ?_
  refine thenQ_n ?_
  refine Cd.seq ?_
  refine Cd.region ?_
  -- stop: LOAD 32 t2=m -> 9
  refine Ops.ld_agg 0 (hS1.rd 0 rfl) rfl rfl rfl ?_
  refine Ops.mv_int rfl rfl rfl ?_
  -- stop: BUILDSLICE 39 1 [('pair', [0, ('app', 'Go.Operand.tmp', [10])])] -> 11
  refine Ops.bs1I hS1 rfl rfl rfl ?_
  intro A2 w2 hS2
  refine Ops.call (graphOf_c A n c rs xss A2 1 1 [v] _ (hS2.oldRows hR) hn hc (hS2.rdI 0 rfl) (by omega)) rfl rfl rfl ?_
  rintro _ w3 ⟨A3, c3, rs3, rfl, hrl, hst3⟩
  have hS3 := hS2.later hst3.below
  refine Ops.mv_tup rfl rfl rfl ?_
  refine Ops.extract rfl rfl rfl ?_
  refine Ops.extract rfl rfl rfl ?_
  refine Ops.mv_sl rfl rfl rfl ?_
  refine Ops.mv_int rfl rfl rfl ?_
  refine Ops.nil ?_
  refine thenQ_n ?_
  refine Cd.seq ?_
  refine Cd.seq ?_
  refine Cd.region ?_
  refine Ops.mv_int rfl rfl rfl ?_
  refine Ops.neq rfl rfl rfl ?_
  refine Ops.nil ?_
  refine thenQ_n ?_
  -- stop: cond
  refine Cd.cond_p _ rfl (fun h => ?_) (fun h => ?_)
  · refine Cd.seq ?_
    refine Cd.region ?_
    refine Ops.mv_int rfl rfl rfl ?_
    refine Ops.mv_sl rfl rfl rfl ?_
    refine Ops.mv_int rfl rfl rfl ?_
    refine Ops.nil ?_
    refine thenQ_n ?_
    refine Cd.ret ?_
    refine thenQ_r ?_
    refine ret2_si rfl rfl ?_
    -- stop: end
    rw [vdL, if_neg h]
    exact AnsR.none hS3
  · have hK : goK xss [v] = 0 := Classical.not_not.1 h
    obtain ⟨hG, hA⟩ := goK_zero hK
    have hv := (allIn_one _ _ _).1 hA
    have hg := nb_gr hG.1
    have hB := dist_BF (wo := -1) hg hv.1 (by omega)
    have hL : goL xss [v] = nbL xss := by rw [goL, if_pos ⟨hG, hA⟩]
    rw [hL] at hst3 hrl ⊢
    rw [nbL_len] at hst3 ⊢
    refine Cd.skip ?_
    refine thenQ_n ?_
    refine Cd.seq ?_
    refine Cd.region ?_
    refine Ops.mv_sl rfl rfl rfl ?_
    refine Ops.mv_int rfl rfl rfl ?_
    -- stop: CALL impl.graphDistances(t18, t19) -> 20
    refine Ops.call (graphDistances_c A3 _ _ rs3 (nbL xss) v _ (hst3.rowsI (nbL_len xss)) hg hv.1 (by omega)) rfl rfl rfl ?_
    rintro _ w4 ⟨A4, rfl, hst4⟩
    have hS4 := hS3.none.call hst4
    refine Ops.mv_sl rfl rfl rfl ?_
    refine Ops.mv_int rfl rfl rfl ?_
    refine Ops.nil ?_
    refine thenQ_n ?_
    refine Cd.ret ?_
    refine ret2_si rfl rfl ?_
    -- stop: end
    rw [vdL, if_pos hK, hK]
    exact AnsR.mk hB.len hS4
theorem vd_bd (xss : List (List Int)) (v : Int) : (vdL xss v).length ≤ 1000 := by
  unfold vdL
  split
  · rename_i hK
    obtain ⟨hG, hA⟩ := goK_zero hK
    have hv := (allIn_one _ _ _).1 hA
    have hsm := nb_small hG.1
    have hB := dist_BF (wo := -1) (nb_gr hG.1) hv.1 (by omega)
    have := hB.len
    omega
  · exact Nat.zero_le _
end Go.Proofs.Ytpdhjnacnmfbjaa.Vc
