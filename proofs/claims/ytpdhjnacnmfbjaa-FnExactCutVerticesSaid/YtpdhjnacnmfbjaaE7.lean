/-
  The walk of the law FnExactCutVertices: it returns true. Conditions: as it states them.
-/
import Derived.Test.YtpdhjnacnmfbjaaE6
namespace Go.Proofs.Ytpdhjnacnmfbjaa.Vc
open Go.RowKit

theorem FnExactCutVertices_c (A : Option Addr) (n c : Nat) (rs : List SlV) (xss : List (List Int)) (w : World) (hR : RowsI w A n rs xss) (hn : n ≤ 9223372036854775807) :
    Ret Try.prog 14 [.agg #[.slice A n c]] w (fun v w' => v = .bool true ∧ St w w' []) := by
  have hxl := hR.len
  refine Ret.of_cd Try.func14 rfl Try.ntmps14 rfl (post1 rfl) ?_
  refine Cd.seq ?_
  refine Cd.region ?_
  -- stop: BOX 27 t0=app -> 1
  refine Ops.box1 (St.refl w) rfl rfl ?_
  intro Ab w1 hS
  refine Ops.mv_bool rfl rfl rfl ?_
  refine Ops.nil ?_
  refine thenQ_n ?_
  refine Cd.seq ?_
  refine Cd.region ?_
  refine Ops.mv_int rfl rfl rfl ?_
  refine Ops.nil ?_
  refine thenQ_n ?_
  refine Cd.seq ?_
  refine Cd.region ?_
  -- stop: LOAD 27 t1=toArray -> 14
  refine Ops.ld_agg 0 (hS.rd 0 rfl) rfl rfl rfl ?_
  refine Ops.mv_int rfl rfl rfl ?_
  -- stop: CALL laws.szManiplex(t14, t15) -> 16
  refine Ops.call (szManiplex_c A n c rs xss 1048576 _ (hS.oldRows hR) hn (by omega)) rfl rfl rfl ?_
  rintro _ w2 ⟨rfl, hst⟩
  have hS := hS.later hst.below
  refine Ops.mv_int rfl rfl rfl ?_
  refine Ops.nil ?_
  refine thenQ_n ?_
  refine Cd.seq ?_
  refine Cd.seq ?_
  refine Cd.region ?_
  refine Ops.mv_int rfl rfl rfl ?_
  refine Ops.lss rfl rfl rfl ?_
  refine Ops.nil ?_
  refine thenQ_n ?_
  -- stop: cond
  refine Cd.cond_p _ rfl (fun h1 => ?_) (fun h1 => ?_)
  · refine Cd.seq ?_
    refine Cd.region ?_
    refine Ops.mv_bool rfl rfl rfl ?_
    refine Ops.nil ?_
    refine thenQ_n ?_
    refine Cd.ret ?_
    refine thenQ_r ?_
    refine ret1_b rfl ?_
    -- stop: end
    exact ⟨rfl, hS.none⟩
  have hsm := small_of hR.top.1 (Int.not_lt.1 h1)
  have hfit := fits_of hR.top.1 (by omega) (Int.not_lt.1 h1)
  refine Cd.skip ?_
  refine thenQ_n ?_
  refine Cd.seq ?_
  refine Cd.region ?_
  -- stop: LOAD 27 t1=toArray -> 20
  refine Ops.ld_agg 0 (hS.rd 0 rfl) rfl rfl rfl ?_
  refine Ops.call (toManiplex_c A n c rs xss _ (hS.oldRows hR) hfit) rfl rfl rfl ?_
  rintro _ w3 ⟨A1, rs1, rfl, hrl1, hst1⟩
  refine Ops.call (specCutVertices_c A1 n n rs1 xss _ (St.rowsI (ks := []) (by rwa [List.append_nil]) hxl) hn) rfl rfl rfl ?_
  rintro _ w4 ⟨A4, c4, rfl, hst2⟩
  have hS4 := ((hS.later hst1.below).call hst2)
  refine Ops.mv_tup rfl rfl rfl ?_
  refine Ops.extract rfl rfl rfl ?_
  refine Ops.extract rfl rfl rfl ?_
  refine Ops.mv_sl rfl rfl rfl ?_
  refine Ops.mv_int rfl rfl rfl ?_
  refine Ops.nil ?_
  refine thenQ_n ?_
  refine Cd.seq ?_
  refine Cd.region ?_
  -- stop: LOAD 27 t1=toArray -> 25
  refine Ops.ld_agg 0 (hS4.rd 1 rfl) rfl rfl rfl ?_
  refine Ops.call (toManiplex_c A n c rs xss _ (hS4.oldRows hR) hfit) rfl rfl rfl ?_
  rintro _ w5 ⟨A2, rs2, rfl, hrl2, hst3⟩
  have hS5 := hS4.call2 hst3
  refine Ops.new1 hS5 rfl ?_
  intro A6 w6 hS6
  refine Ops.st_agg 1 0 hS6 rfl rfl rfl rfl rfl rfl rfl ?_
  intro w7 hS7
  have hS7 : St w w7 ([Bx 32 1 A6 [.slice A2 n n], CkI 2 A4 (cvL xss).length c4 (cvL xss), Bx 27 1 Ab [.slice A n c]] ++ mat 39 2 A2 n n rs2 xss) := hS7
  refine Ops.nil ?_
  refine thenQ_n ?_
  refine Cd.seq ?_
  refine Cd.region ?_
  -- stop: LOAD 32 t6 -> 28
  refine Ops.ld_agg 0 (hS7.rd 0 rfl) rfl rfl rfl ?_
  refine Ops.call (implCutVertices_c A2 n n rs2 xss _ ((hS7.matNil.sub (List.sublist_append_right _ _)).rowsI hxl) (Nat.le_refl _) hn) rfl rfl rfl ?_
  rintro _ w8 ⟨A7, c7, rfl, hst4⟩
  have hS8 : St w w8 ([CkI 2 A7 (cvL xss).length c7 (cvL xss), Bx 32 1 A6 [.slice A2 n n], CkI 2 A4 (cvL xss).length c4 (cvL xss), Bx 27 1 Ab [.slice A n c]] ++ (mat 39 2 A2 n n rs2 xss ++ [])) := (hS7.call hst4).matNil (pre := [_, _, _, _])
  have hcap7 := hS8.cap 0 rfl
  have hL : (cvL xss).length ≤ 1000 := by
    exact cv_bd xss
  generalize hLe : cvL xss = L at *
  generalize hKe : petrieK xss = K at *
  refine Ops.mv_tup rfl rfl rfl ?_
  refine Ops.extract rfl rfl rfl ?_
  refine Ops.extract rfl rfl rfl ?_
  refine Ops.mv_sl rfl rfl rfl ?_
  refine Ops.mv_int rfl rfl rfl ?_
  refine Ops.nil ?_
  refine thenQ_n ?_
  refine Cd.seq ?_
  refine Cd.seq ?_
  refine Cd.region ?_
  refine Ops.mv_sl rfl rfl rfl ?_
  refine Ops.mv_sl rfl rfl rfl ?_
  -- stop: CALL laws.eqInt64S(t32, t33) -> 34
  refine Ops.call (eqInt64S_c A7 _ c7 L A4 _ c4 L _ (hS8.rdI 0 rfl) (hS8.rdI 2 rfl) (by omega)) rfl rfl rfl ?_
  rintro _ w9 ⟨rfl, hst5⟩
  have hS9 := hS8.later hst5.below
  first | refine Ops.not_p rfl rfl ?_ | refine Ops.not rfl rfl ?_
  refine Ops.mv_bool rfl rfl rfl ?_
  -- stop: guard 36
  refine Ops.split_p 36 rfl (fun h => absurd rfl h) (fun _ => ?_) --f
  refine Ops.rung rfl rfl rfl ?_
  refine Ops.mv_int rfl rfl rfl ?_
  refine Ops.rung rfl rfl rfl ?_
  refine Ops.mv_int rfl rfl rfl ?_
  refine Ops.rung rfl rfl rfl ?_
  refine Ops.neq rfl rfl rfl ?_
  refine Ops.pick_f rfl rfl rfl ?_
  refine Ops.nil ?_
  refine thenQ_n ?_
  -- stop: cond
  refine Cd.cond_pf rfl (fun h => h rfl) ?_
  refine Cd.skip ?_
  refine thenQ_n ?_
  refine Cd.seq ?_
  refine Cd.seq ?_
  -- stop: draw
  have hM9 := (hS9.sub (List.sublist_append_right _ _)).rowsI hxl
  have hR9 := hS9.oldRows hR
  refine Cd.draw [.ex (.agg #[.slice (A2) (n) (n)]), .ex (.agg #[.slice (A) (n) (c)]), .pr (fun v w' => ∃ D rd, v = .agg #[.slice D n n] ∧ RowsI w' D n rd xss), .ex (.bool (true)), .ex (.bool (false))] (by kernel_rfl) (by kernel_rfl) rfl (List.forall_mem_cons.2 ⟨Yd.lasts_ex _, (List.forall_mem_cons.2 ⟨Yd.lasts_ex _, (List.forall_mem_cons.2 ⟨Yd.lasts_pr (fun v w w' h hb => by obtain ⟨D, rd, hv, h1⟩ := h; exact ⟨D, rd, hv, h1.later hb⟩), (List.forall_mem_cons.2 ⟨Yd.lasts_ex _, (List.forall_mem_cons.2 ⟨Yd.lasts_ex _, (fun _ h => by cases h)⟩)⟩)⟩)⟩)⟩) ⟨?_, ?_, ?_, ?_, ?_, trivial⟩ ?_
  · intro e1 w1 hb hp hun
    refine Ops.ld_agg 0 ((hS9.rd 1 rfl).below hb) rfl rfl rfl ?_
    refine Ops.nil ?_
    exact After.dn (Below.refl _ _) (by exact rfl)
  · intro e1 w1 hb hp hun
    refine Ops.ld_agg 0 ((hS9.rd 3 rfl).below hb) rfl rfl rfl ?_
    refine Ops.nil ?_
    exact After.dn (Below.refl _ _) (by exact rfl)
  · intro e1 w1 hb hp hun
    refine Ops.call (toManiplex_c A n c rs xss _ (hR9.later hb) hfit) rfl rfl rfl ?_
    rintro _ w2 ⟨D, rd, rfl, hrd, hst⟩
    refine Ops.nil ?_
    exact After.dn hst.below ⟨D, rd, rfl, St.rowsI (ks := []) (by rwa [List.append_nil]) hxl⟩
  · intro e1 w1 hb hp hun
    obtain ⟨D, rd, h43, h1⟩ := (hp 2 (by decide) rfl _ _ rfl rfl)
    refine Ops.call (eqManiplex_c A2 n n rs2 xss D n n rd xss _ (hM9.later hb) h1 hn) rfl (by exact congrArg (fun v => [Value.agg #[.slice A2 n n], v]) h43) rfl ?_
    rintro _ w2 ⟨rfl, hst⟩
    refine Ops.nil ?_
    exact After.dn hst.below (by exact congrArg Value.bool (decide_eq_true rfl))
  · intro e1 w1 hb hp hun
    refine Ops.not rfl rfl ?_
    refine Ops.nil ?_
    exact After.dn (Below.refl _ _) (by exact congrArg Value.bool (rfl))
  intro u w10 hb10 _
  have hS10 := hS9.later hb10
  refine thenQ_n ?_
  -- stop: cond
  refine Cd.cond_f rfl ?_
  refine Cd.skip ?_
  refine thenQ_n ?_
  refine Cd.seq ?_
  refine Cd.region ?_
  refine Ops.mv_int rfl rfl rfl ?_
  refine Ops.nil ?_
  refine thenQ_n ?_
  refine Cd.seq ?_
  refine Cd.region ?_
  -- stop: LOAD 32 t6 -> 46
  refine Ops.ld_agg 0 (hS10.rd 1 rfl) rfl rfl rfl ?_
  refine Ops.mv_int rfl rfl rfl ?_
  -- stop: CALL laws.markManiplex(t46, t47) -> 48
  refine Ops.call (markManiplex_c (rs := rs2) 1 hS10 hrl2 hxl hsm.1 (fun i hi => ?_) (by omega)) rfl rfl rfl ?_
  · have := (hM9.row i hi).1
    have h2 := (hR.row i hi).1
    have h3 := hsm.2 i hi
    omega
  rintro _ w11 ⟨K1, ys, rfl, hK1, hyl, hS11⟩
  have hS11 : St w w11 (CkI 2 A7 L.length c7 L :: Bx 32 1 A6 [.slice A2 n n] :: CkI 2 A4 L.length c4 L :: Bx 27 1 Ab [.slice A n c] :: (mat 39 2 A2 n n rs2 ys ++ [])) := hS11
  refine Ops.mv_int rfl rfl rfl ?_
  refine Ops.nil ?_
  refine thenQ_n ?_
  refine Cd.seq ?_
  refine Cd.seq ?_
  refine Cd.region ?_
  refine Ops.mv_int rfl rfl rfl ?_
  refine Ops.lss rfl rfl rfl ?_
  refine Ops.mv_bool rfl rfl rfl ?_
  -- stop: guard 51
  refine Ops.split_p 51 rfl (fun h => absurd h (by omega)) (fun _ => ?_) --f
  refine Ops.rung rfl rfl rfl ?_
  refine Ops.mv_sl rfl rfl rfl ?_
  refine Ops.rung rfl rfl rfl ?_
  refine Ops.mv_sl rfl rfl rfl ?_
  refine Ops.rung rfl rfl rfl ?_
  -- stop: CALL laws.eqInt64S(t52, t53) -> 54
  refine Ops.call (eqInt64S_c A7 _ c7 L A4 _ c4 L _ (hS11.rdI 0 rfl) (hS11.rdI 2 rfl) (by omega)) rfl rfl rfl ?_
  rintro _ w12 ⟨rfl, hst6⟩
  have hS12 := hS11.later hst6.below
  refine Ops.rung rfl rfl rfl ?_
  first | refine Ops.not_p rfl rfl ?_ | refine Ops.not rfl rfl ?_
  refine Ops.pick_f rfl rfl rfl ?_
  refine Ops.mv_bool rfl rfl rfl ?_
  -- stop: guard 57
  refine Ops.split_p 57 rfl (fun h => absurd rfl h) (fun _ => ?_) --f
  refine Ops.rung rfl rfl rfl ?_
  refine Ops.mv_int rfl rfl rfl ?_
  refine Ops.rung rfl rfl rfl ?_
  refine Ops.mv_int rfl rfl rfl ?_
  refine Ops.rung rfl rfl rfl ?_
  refine Ops.neq rfl rfl rfl ?_
  refine Ops.pick_f rfl rfl rfl ?_
  refine Ops.nil ?_
  refine thenQ_n ?_
  -- stop: cond
  refine Cd.cond_pf rfl (fun h => h rfl) ?_
  refine Cd.skip ?_
  refine thenQ_n ?_
  refine Cd.seq ?_
  refine Cd.region ?_
  refine Ops.mv_int rfl rfl rfl ?_
  refine Ops.nil ?_
  refine thenQ_n ?_
  refine Cd.seq ?_
  refine Cd.region ?_
  refine Ops.mv_sl rfl rfl rfl ?_
  refine Ops.mv_int rfl rfl rfl ?_
  -- stop: CALL laws.markInt64S(t62, t63) -> 64
  refine Ops.call (markInt64S_c 0 1 hS12 rfl (by omega)) rfl rfl rfl ?_
  rintro _ w13 ⟨rfl, hS13⟩
  have hS13 : St w w13 (CkI 2 A7 L.length c7 (marks 1 L.length) :: Bx 32 1 A6 [.slice A2 n n] :: CkI 2 A4 L.length c4 L :: Bx 27 1 Ab [.slice A n c] :: (mat 39 2 A2 n n rs2 ys ++ [])) := hS13
  refine Ops.mv_int rfl rfl rfl ?_
  refine Ops.nil ?_
  refine thenQ_n ?_
  refine Cd.seq ?_
  refine Cd.region ?_
  refine Ops.mv_int rfl rfl rfl ?_
  refine Ops.nil ?_
  refine thenQ_n ?_
  refine Cd.seq ?_
  refine Cd.region ?_
  refine Ops.mv_sl rfl rfl rfl ?_
  refine Ops.mv_int rfl rfl rfl ?_
  -- stop: CALL laws.heldInt64S(t65, t66) -> 67
  refine Ops.call (heldInt64S_c A7 L.length c7 1 _ (hS13.rdI 0 rfl) (by omega)) rfl rfl rfl ?_
  rintro _ w13 ⟨rfl, rfl⟩
  refine Ops.mv_int rfl rfl rfl ?_
  refine Ops.nil ?_
  refine thenQ_n ?_
  refine Cd.seq ?_
  refine Cd.seq ?_
  refine Cd.region ?_
  refine Ops.mv_int rfl rfl rfl ?_
  refine Ops.lss rfl rfl rfl ?_
  refine Ops.nil ?_
  refine thenQ_n ?_
  -- stop: cond
  refine Cd.cond_pf rfl (by omega) ?_
  refine Cd.skip ?_
  refine thenQ_n ?_
  refine Cd.seq ?_
  refine Cd.seq ?_
  refine Cd.region ?_
  refine Ops.mv_int rfl rfl rfl ?_
  refine Ops.mv_int rfl rfl rfl ?_
  refine Ops.neq rfl rfl rfl ?_
  refine Ops.nil ?_
  refine thenQ_n ?_
  -- stop: cond
  refine Cd.cond_pf rfl (fun h => h rfl) ?_
  refine Cd.skip ?_
  refine thenQ_n ?_
  refine Cd.seq ?_
  refine Cd.region ?_
  -- stop: LOAD 27 t1=toArray -> 74
  refine Ops.ld_agg 0 (hS13.rd 3 rfl) rfl rfl rfl ?_
  refine Ops.call (toManiplex_c A n c rs xss _ (hS13.oldRows hR) hfit) rfl rfl rfl ?_
  rintro _ w14 ⟨A8, rs8, rfl, hrl8, hst7⟩
  have hI8 := implCutVertices_c A8 n n rs8 xss w14 (St.rowsI (ks := []) (by rwa [List.append_nil]) hxl) (Nat.le_refl _) hn
  rw [hLe, hKe] at hI8
  refine Ops.call hI8 rfl rfl rfl ?_
  rintro _ w15 ⟨A9, c9, rfl, hst8⟩
  have hS15 := (hS13.later hst7.below).call hst8
  have hS15 : St w w15 (CkI 2 A9 L.length c9 L :: CkI 2 A7 L.length c7 (marks 1 L.length) :: Bx 32 1 A6 [.slice A2 n n] :: CkI 2 A4 L.length c4 L :: Bx 27 1 Ab [.slice A n c] :: (mat 39 2 A2 n n rs2 ys ++ [])) := hS15
  refine Ops.mv_tup rfl rfl rfl ?_
  refine Ops.extract rfl rfl rfl ?_
  refine Ops.extract rfl rfl rfl ?_
  refine Ops.mv_sl rfl rfl rfl ?_
  refine Ops.mv_int rfl rfl rfl ?_
  refine Ops.nil ?_
  refine thenQ_n ?_
  refine Cd.seq ?_
  refine Cd.seq ?_
  refine Cd.region ?_
  refine Ops.mv_sl rfl rfl rfl ?_
  refine Ops.mv_sl rfl rfl rfl ?_
  -- stop: CALL laws.eqInt64S(t79, t80) -> 81
  refine Ops.call (eqInt64S_c A9 _ c9 L A4 _ c4 L _ (hS15.rdI 0 rfl) (hS15.rdI 3 rfl) (by omega)) rfl rfl rfl ?_
  rintro _ w16 ⟨rfl, hst9⟩
  have hS16 := hS15.later hst9.below
  first | refine Ops.not_p rfl rfl ?_ | refine Ops.not rfl rfl ?_
  refine Ops.mv_bool rfl rfl rfl ?_
  -- stop: guard 83
  refine Ops.split_p 83 rfl (fun h => absurd rfl h) (fun _ => ?_) --f
  refine Ops.rung rfl rfl rfl ?_
  refine Ops.mv_int rfl rfl rfl ?_
  refine Ops.rung rfl rfl rfl ?_
  refine Ops.mv_int rfl rfl rfl ?_
  refine Ops.rung rfl rfl rfl ?_
  refine Ops.neq rfl rfl rfl ?_
  refine Ops.pick_f rfl rfl rfl ?_
  refine Ops.nil ?_
  refine thenQ_n ?_
  -- stop: cond
  refine Cd.cond_pf rfl (fun h => h rfl) ?_
  refine Cd.skip ?_
  refine thenQ_n ?_
  refine Cd.seq ?_
  refine Cd.region ?_
  refine Ops.mv_int rfl rfl rfl ?_
  refine Ops.nil ?_
  refine thenQ_n ?_
  refine Cd.seq ?_
  refine Cd.region ?_
  refine Ops.mv_sl rfl rfl rfl ?_
  refine Ops.mv_int rfl rfl rfl ?_
  -- stop: CALL laws.heldInt64S(t88, t89) -> 90
  refine Ops.call (heldInt64S_c A7 L.length c7 1 _ (hS16.rdI 1 rfl) (by omega)) rfl rfl rfl ?_
  rintro _ w16 ⟨rfl, rfl⟩
  refine Ops.mv_int rfl rfl rfl ?_
  refine Ops.nil ?_
  refine thenQ_n ?_
  refine Cd.seq ?_
  refine Cd.seq ?_
  refine Cd.region ?_
  refine Ops.mv_int rfl rfl rfl ?_
  refine Ops.lss rfl rfl rfl ?_
  refine Ops.nil ?_
  refine thenQ_n ?_
  -- stop: cond
  refine Cd.cond_pf rfl (by omega) ?_
  refine Cd.skip ?_
  refine thenQ_n ?_
  refine Cd.seq ?_
  refine Cd.seq ?_
  refine Cd.region ?_
  refine Ops.mv_int rfl rfl rfl ?_
  refine Ops.mv_int rfl rfl rfl ?_
  refine Ops.neq rfl rfl rfl ?_
  refine Ops.nil ?_
  refine thenQ_n ?_
  -- stop: cond
  refine Cd.cond_pf rfl (fun h => h rfl) ?_
  refine Cd.skip ?_
  refine thenQ_n ?_
  refine Cd.seq ?_
  refine Cd.region ?_
  refine Ops.mv_bool rfl rfl rfl ?_
  refine Ops.nil ?_
  refine thenQ_n ?_
  refine Cd.ret ?_
  refine ret1_b rfl ?_
  -- stop: end
  exact ⟨rfl, hS16.none⟩
end Go.Proofs.Ytpdhjnacnmfbjaa.Vc
