/-
  The walk of the law FnExactIsDesk: it returns true. Conditions: as it states them.
-/
import Derived.Test.YtpdhjnacnmfbjaaB7
namespace Go.Proofs.Ytpdhjnacnmfbjaa.Vc
open Go.RowKit

theorem St.rowsI1 {w0 w : World} {t1 t2 : TypeId} {A : Option Addr} {n c : Nat} {rs : List SlV} {xss : List (List Int)} (h : St w0 w (mat t1 t2 A n c rs xss)) (hl : xss.length = n) : RowsI w A n rs xss :=
  St.rowsI (ks := []) (by rw [List.append_nil]; exact h) hl

theorem FnExactIsDesk_c (A1 : Option Addr) (n1 c1 : Nat) (rs1 : List SlV) (x1 : List (List Int)) (A2 : Option Addr) (n2 c2 : Nat) (rs2 : List SlV) (x2 : List (List Int)) (w : World) (hR1 : RowsI w A1 n1 rs1 x1) (hR2 : RowsI w A2 n2 rs2 x2) (hn1 : n1 ≤ 9223372036854775807) (hn2 : n2 ≤ 9223372036854775807) :
    Ret Try.prog 4 [.agg #[.slice A1 n1 c1, .slice A2 n2 c2]] w (fun v w' => v = .bool true ∧ St w w' []) := by
  refine Ret.of_cd Try.func4 rfl Try.ntmps4 rfl (post1 rfl) ?_
  refine Cd.seq ?_
  refine Cd.region ?_
  -- stop: BOX 29 t0=aD -> 1
  refine Ops.box2 (St.refl w) rfl rfl ?_
  intro Ab w1 hS
  refine Ops.mv_bool rfl rfl rfl ?_
  refine Ops.nil ?_
  refine thenQ_n ?_
  refine Cd.seq ?_
  refine Cd.region ?_
  refine Ops.mv_int rfl rfl rfl ?_
  refine Ops.nil ?_
  refine thenQ_n ?_
  refine Cd.seq ?_
  refine Cd.region ?_
  -- stop: LOAD 29 t1=aD -> 7
  refine Ops.ld_agg 1 (hS.rd 0 rfl) rfl rfl rfl ?_
  refine Ops.mv_int rfl rfl rfl ?_
  -- stop: CALL laws.szDesk(t7, t8) -> 9
  refine Ops.call (szDesk_c A1 n1 c1 rs1 x1 A2 n2 c2 rs2 x2 1048576 _ (hS.oldRows hR1) (hS.oldRows hR2) hn1 hn2 (by omega)) rfl rfl rfl ?_
  rintro _ w2 ⟨⟨r, rfl, hr⟩, hst⟩
  have hS := hS.later hst.below
  refine Ops.mv_int rfl rfl rfl ?_
  refine Ops.nil ?_
  refine thenQ_n ?_
  refine Cd.seq ?_
  refine Cd.seq ?_
  refine Cd.region ?_
  refine Ops.mv_int rfl rfl rfl ?_
  refine Ops.lss rfl rfl rfl ?_
  refine Ops.nil ?_
  refine thenQ_n ?_
  -- stop: cond
  refine Cd.cond_p _ rfl (fun h1 => ?_) (fun h1 => ?_)
  · refine Cd.seq ?_
    refine Cd.region ?_
    refine Ops.mv_bool rfl rfl rfl ?_
    refine Ops.nil ?_
    refine thenQ_n ?_
    refine Cd.ret ?_
    refine thenQ_r ?_
    refine ret1_b rfl ?_
    -- stop: end
    exact ⟨rfl, hS.none⟩
  obtain ⟨hf1, hf2⟩ := hr (by omega)
  have hx1 := hR1.len
  have hx2 := hR2.len
  have g1 := hf1.1
  have g2 := hf2.1
  refine Cd.skip ?_
  refine thenQ_n ?_
  refine Cd.seq ?_
  refine Cd.region ?_
  -- stop: LOAD 29 t1=aD -> 12
  refine Ops.ld_agg 1 (hS.rd 0 rfl) rfl rfl rfl ?_
  refine Ops.call (toDesk_c A1 n1 c1 rs1 x1 A2 n2 c2 rs2 x2 _ (hS.oldRows hR1) (hS.oldRows hR2) hf1 hf2) rfl rfl rfl ?_
  rintro _ w3 ⟨B1, rb1, B2, rb2, rfl, hst⟩
  refine Ops.call (specIsDesk_c B1 n1 n1 rb1 x1 B2 n2 n2 rb2 x2 _ (hst.rowsI hx1) (hst.unmat.rowsI1 hx2) hn1 hn2) rfl rfl rfl ?_
  rintro _ w4 ⟨rfl, hst2⟩
  have hS := (hS.later hst.below).later hst2.below
  refine Ops.mv_bool rfl rfl rfl ?_
  refine Ops.nil ?_
  refine thenQ_n ?_
  refine Cd.seq ?_
  refine Cd.region ?_
  -- stop: LOAD 29 t1=aD -> 15
  refine Ops.ld_agg 1 (hS.rd 0 rfl) rfl rfl rfl ?_
  refine Ops.call (toDesk_c A1 n1 c1 rs1 x1 A2 n2 c2 rs2 x2 _ (hS.oldRows hR1) (hS.oldRows hR2) hf1 hf2) rfl rfl rfl ?_
  rintro _ w5 ⟨C1, rc1, C2, rc2, rfl, hst⟩
  have hS := hS.call2 hst
  refine Ops.new2 hS rfl ?_
  intro Ax w6 hS6
  refine Ops.st_agg 2 0 hS6 rfl rfl rfl rfl rfl rfl rfl ?_
  intro w7 hS7
  have hS7 : St w w7 ([Bx 34 2 Ax [.slice C1 n1 n1, .slice C2 n2 n2], Bx 29 2 Ab [.slice A1 n1 c1, .slice A2 n2 c2]] ++ (mat 39 2 C1 n1 n1 rc1 x1 ++ mat 39 2 C2 n2 n2 rc2 x2)) := hS7
  refine Ops.nil ?_
  refine thenQ_n ?_
  refine Cd.seq ?_
  refine Cd.region ?_
  -- stop: LOAD 34 t5=x0 -> 17
  have hM : ∀ {w'}, St w w' ([Bx 34 2 Ax [.slice C1 n1 n1, .slice C2 n2 n2], Bx 29 2 Ab [.slice A1 n1 c1, .slice A2 n2 c2]] ++ (mat 39 2 C1 n1 n1 rc1 x1 ++ mat 39 2 C2 n2 n2 rc2 x2)) → RowsI w' C1 n1 rc1 x1 ∧ RowsI w' C2 n2 rc2 x2 := fun h =>
    have h2 := h.sub (List.sublist_append_right _ _)
    ⟨h2.rowsI hx1, h2.unmat.rowsI1 hx2⟩
  refine Ops.ld_agg 1 (hS7.rd 0 rfl) rfl rfl rfl ?_
  refine Ops.call (implIsDesk_c C1 n1 n1 rc1 x1 C2 n2 n2 rc2 x2 _ (hM hS7).1 (hM hS7).2 ⟨Nat.le_refl _, hn1⟩ ⟨Nat.le_refl _, hn2⟩) rfl rfl rfl ?_
  rintro _ w8 ⟨rfl, hst⟩
  have hS8 := hS7.later hst.below
  refine Ops.mv_bool rfl rfl rfl ?_
  refine Ops.nil ?_
  refine thenQ_n ?_
  refine Cd.seq ?_
  refine Cd.seq ?_
  refine Cd.region ?_
  refine Ops.mv_bool rfl rfl rfl ?_
  refine Ops.mv_bool rfl rfl rfl ?_
  -- stop: BINOP neq 4 t19 t20 4 -> 21
  refine Ops.neqB rfl rfl rfl ?_
  refine Ops.nil ?_
  refine thenQ_n ?_
  -- stop: cond
  rw [BEq.rfl]
  refine Cd.cond_f rfl ?_
  refine Cd.skip ?_
  refine thenQ_n ?_
  refine Cd.seq ?_
  refine Cd.seq ?_
  -- stop: draw
  have hX := hS8.rd 0 rfl
  have hA := hS8.rd 1 rfl
  refine Cd.draw [.ex (.agg #[.slice (C1) (n1) (n1), .slice (C2) (n2) (n2)]), .ex (.agg #[.slice (A1) (n1) (c1), .slice (A2) (n2) (c2)]), .pr (fun v w' => ∃ D1 rd1 D2 rd2, v = .agg #[.slice D1 n1 n1, .slice D2 n2 n2] ∧ RowsI w' D1 n1 rd1 x1 ∧ RowsI w' D2 n2 rd2 x2), .ex (.bool (true)), .ex (.bool (false))] (by kernel_rfl) (by kernel_rfl) rfl (List.forall_mem_cons.2 ⟨Yd.lasts_ex _, (List.forall_mem_cons.2 ⟨Yd.lasts_ex _, (List.forall_mem_cons.2 ⟨Yd.lasts_pr (fun v w w' h hb => by obtain ⟨D1, rd1, D2, rd2, hv, h1, h2⟩ := h; exact ⟨D1, rd1, D2, rd2, hv, h1.later hb, h2.later hb⟩), (List.forall_mem_cons.2 ⟨Yd.lasts_ex _, (List.forall_mem_cons.2 ⟨Yd.lasts_ex _, (fun _ h => by cases h)⟩)⟩)⟩)⟩)⟩) ⟨?_, ?_, ?_, ?_, ?_, trivial⟩ ?_
  · intro e1 w1 hb hp hun
    refine Ops.ld_agg 1 (hX.below hb) rfl rfl rfl ?_
    refine Ops.nil ?_
    exact After.dn (Below.refl _ _) (by exact rfl)
  · intro e1 w1 hb hp hun
    refine Ops.ld_agg 1 (hA.below hb) rfl rfl rfl ?_
    refine Ops.nil ?_
    exact After.dn (Below.refl _ _) (by exact rfl)
  · intro e1 w1 hb hp hun
    refine Ops.call (toDesk_c A1 n1 c1 rs1 x1 A2 n2 c2 rs2 x2 _ ((hS8.later hb).oldRows hR1) ((hS8.later hb).oldRows hR2) hf1 hf2) rfl rfl rfl ?_
    rintro _ w2 ⟨D1, rd1, D2, rd2, rfl, hst⟩
    refine Ops.nil ?_
    exact After.dn hst.below ⟨D1, rd1, D2, rd2, rfl, hst.rowsI hx1, hst.unmat.rowsI1 hx2⟩
  · intro e1 w1 hb hp hun
    obtain ⟨D1, rd1, D2, rd2, h24, h1, h2⟩ := (hp 2 (by decide) rfl _ _ rfl rfl)
    refine Ops.call (eqDesk_c C1 n1 n1 rc1 x1 C2 n2 n2 rc2 x2 D1 n1 n1 rd1 x1 D2 n2 n2 rd2 x2 _ (hM (hS8.later hb)).1 (hM (hS8.later hb)).2 h1 h2 hn1 hn2) rfl (by exact congrArg (fun v => [Value.agg #[.slice C1 n1 n1, .slice C2 n2 n2], v]) h24) rfl ?_
    rintro _ w2 ⟨rfl, hst⟩
    refine Ops.nil ?_
    exact After.dn hst.below (by exact congrArg Value.bool (decide_eq_true ⟨rfl, rfl⟩))
  · intro e1 w1 hb hp hun
    refine Ops.not rfl rfl ?_
    refine Ops.nil ?_
    exact After.dn (Below.refl _ _) (by exact congrArg Value.bool (rfl))
  intro u w9 hb9 _
  have hS9 := hS8.later hb9
  refine thenQ_n ?_
  -- stop: cond
  refine Cd.cond_f rfl ?_
  refine Cd.skip ?_
  refine thenQ_n ?_
  refine Cd.seq ?_
  refine Cd.region ?_
  refine Ops.mv_bool rfl rfl rfl ?_
  refine Ops.nil ?_
  refine thenQ_n ?_
  refine Cd.ret ?_
  refine ret1_b rfl ?_
  -- stop: end
  exact ⟨rfl, hS9.none⟩
end Go.Proofs.Ytpdhjnacnmfbjaa.Vc
