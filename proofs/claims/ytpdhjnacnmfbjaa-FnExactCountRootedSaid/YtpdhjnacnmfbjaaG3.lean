/-
  The walk of the reference's search for rooted forms. Conditions: as each states them.
-/
import Derived.Test.YtpdhjnacnmfbjaaG2
namespace Go.Proofs.Ytpdhjnacnmfbjaa.Vc
open Go.RowKit

theorem l19Grow_c (n F : Nat) (hn5 : n ≤ 5) (hF : 2 ≤ F ∧ F ≤ 400) : ∀ (fuel at_ met : Nat) (M : List (List Int)), Inv n F M met at_ → F * n + 1 ≤ fuel + at_ → ∀ (w0 w : World) (ks : List Ck) (Ao : Option Addr) (no co : Nat) (outs : List SlV) (A : Option Addr) (c : Nat) (rs : List SlV),
    St w0 w (CkR 32 Ao no co outs :: (mat 39 2 A n c rs M ++ ks)) → no + (grow n F (okS F) (fun _ => true) fuel at_ met M).length ≤ 4000000000000 →
    Ret Try.prog 87 [.slice A n c, .int .i64 (F : Int), .int .i64 (met : Int), .slice Ao no co] w (fun v w' => ∃ A' c', ∃ new : List MatV, v = .slice A' (no + new.length) c' ∧ (∀ m ∈ new, m.ok) ∧ new.map (·.xss) = grow n F (okS F) (fun _ => true) fuel at_ met M ∧
      St w0 w' (CkR 32 A' (no + new.length) c' (outs ++ new.map (·.top)) :: (mat 39 2 A n c rs M ++ (matsCk 39 2 new ++ ks)))) := by
  intro fuel
  induction fuel using Nat.strongRecOn with
  | _ fuel ih =>
  intro at_ met M hI hfuel w0 w ks Ao no co outs A c rs hS hB
  have hn0 := hI.n0
  have hmet := hI.metF
  have hlen := hI.shp.1
  have hmn : met * n ≤ 2000 := Nat.le_trans (Nat.mul_le_mul hI.metF hn5) (by have : F * 5 ≤ 400 * 5 := Nat.mul_le_mul_right 5 hF.2
                                                                             omega)
  have hMn : ((met : Int) * (n : Int)) = ((met * n : Nat) : Int) := rfl
  have unOut : ∀ {w' : World} {o : Ck} {ks' : List Ck}, St w0 w' (o :: (mat 39 2 A n c rs M ++ ks')) → RowsI w' A n rs M := fun h => h.tail.rowsI hlen
  refine Ret.of_cd Try.func87 rfl Try.ntmps87 rfl (post1 rfl) ?_
  refine Cd.seq ?_
  refine Cd.region ?_
  refine Ops.mv_sl rfl rfl rfl ?_
  refine Ops.nil ?_
  refine thenQ_n ?_
  refine Cd.seq ?_
  refine Cd.region ?_
  refine Ops.mv_sl rfl rfl rfl ?_
  refine Ops.len rfl rfl ?_
  refine Ops.mv_int rfl rfl rfl ?_
  refine Ops.nil ?_
  refine thenQ_n ?_
  refine Cd.seq ?_
  refine Cd.region ?_
  refine Ops.mv_int rfl rfl rfl ?_
  refine Ops.nil ?_
  refine thenQ_n ?_
  refine Cd.seq ?_
  refine Cd.block ?_
  -- stop: loop
  refine Cd.loop (α := Nat) (fun a => [(0, .slice A n c), (1, .int .i64 (F : Int)), (2, .int .i64 (met : Int)), (3, .slice Ao no co), (9, .int .i64 (n : Int)), (10, .int .i64 (a : Int))]) (fun a w' => Below w.heap.size w w' ∧ a ≤ met * n ∧ ∀ b, b < a → 0 ≤ cell M (b % n) (b / n : Nat)) (fun a => met * n - a) 0 ⟨rfl, rfl, rfl, rfl, rfl, rfl, trivial⟩ ⟨Below.refl _ _, Nat.zero_le _, fun b hb => by omega⟩ ?_
  rintro a e w1 ⟨hb1, ha, hk⟩
  have hS1 := hS.later hb1
  have hR := unOut hS1
  refine Cd.seq ?_
  refine Cd.seq ?_
  -- stop: draw
  by_cases h1 : (a : Int) < ((met * n : Nat) : Int)
  · have hpos : a % n < n ∧ a / n < met := ⟨Nat.mod_lt _ hn0, Nat.div_lt_of_lt_mul (by rw [Nat.mul_comm]; omega)⟩
    have hrow := hR.at_ (i := ((a % n : Nat) : Int)) (Int.natCast_nonneg _) (by omega)
    have hrn := hR.shp hI.shp (k := ((a % n : Nat) : Int)) (Int.natCast_nonneg _) (by omega)
    generalize hr : a % n = r at *
    generalize hq : a / n = q at *
    have hmod : (a : Int) % (n : Int) = ((r : Nat) : Int) := by rw [← hr]; rfl
    have hdiv : (a : Int) / (n : Int) = ((q : Nat) : Int) := by rw [← hq]; rfl
    by_cases h2 : 0 ≤ cell M r (q : Int)
    · --dup 3
      refine Cd.draw [.ex (.int .i64 ((a : Int))), .ex (.int .i64 ((met : Int))), .ex (.int .i64 ((n : Int))), .ex (.int .i64 (((met * n : Nat) : Int))), .ex (.bool (true)), .ex (.bool (true)), .ex (.slice (A) (n) (c)), .ex (.int .i64 ((a : Int))), .ex (.int .i64 ((n : Int))), .ex (.int .i64 ((r : Int))), .ex (.pointer (ptrAt (A) ((r : Int)).toNat)), .ex (.slice ((rg (rs) ((r : Int))).a) ((rg (rs) ((r : Int))).n) ((rg (rs) ((r : Int))).c)), .ex (.int .i64 ((a : Int))), .ex (.int .i64 ((n : Int))), .ex (.int .i64 ((q : Int))), .ex (.pointer (ptrAt ((rg (rs) ((r : Int))).a) ((q : Int)).toNat)), .ex (.int .i64 (gi (gl M r) ((q : Int)))), .ex (.bool (true)), .ex (.bool (true))] (by kernel_rfl) (by kernel_rfl) rfl (List.forall_mem_cons.2 ⟨Yd.lasts_ex _, (List.forall_mem_cons.2 ⟨Yd.lasts_ex _, (List.forall_mem_cons.2 ⟨Yd.lasts_ex _, (List.forall_mem_cons.2 ⟨Yd.lasts_ex _, (List.forall_mem_cons.2 ⟨Yd.lasts_ex _, (List.forall_mem_cons.2 ⟨Yd.lasts_ex _, (List.forall_mem_cons.2 ⟨Yd.lasts_ex _, (List.forall_mem_cons.2 ⟨Yd.lasts_ex _, (List.forall_mem_cons.2 ⟨Yd.lasts_ex _, (List.forall_mem_cons.2 ⟨Yd.lasts_ex _, (List.forall_mem_cons.2 ⟨Yd.lasts_ex _, (List.forall_mem_cons.2 ⟨Yd.lasts_ex _, (List.forall_mem_cons.2 ⟨Yd.lasts_ex _, (List.forall_mem_cons.2 ⟨Yd.lasts_ex _, (List.forall_mem_cons.2 ⟨Yd.lasts_ex _, (List.forall_mem_cons.2 ⟨Yd.lasts_ex _, (List.forall_mem_cons.2 ⟨Yd.lasts_ex _, (List.forall_mem_cons.2 ⟨Yd.lasts_ex _, (List.forall_mem_cons.2 ⟨Yd.lasts_ex _, (fun _ h => by cases h)⟩)⟩)⟩)⟩)⟩)⟩)⟩)⟩)⟩)⟩)⟩)⟩)⟩)⟩)⟩)⟩)⟩)⟩)⟩) ⟨?_, ?_, ?_, ?_, ?_, ?_, ?_, ?_, ?_, ?_, ?_, ?_, ?_, ?_, ?_, ?_, ?_, ?_, ?_, trivial⟩ ?_
      · intro e1 w1 hb hp hun
        refine Ops.mv_int rfl rfl rfl ?_
        refine Ops.nil ?_
        exact After.dn (Below.refl _ _) (by exact rfl)
      · intro e1 w1 hb hp hun
        refine Ops.mv_int rfl rfl rfl ?_
        refine Ops.nil ?_
        exact After.dn (Below.refl _ _) (by exact rfl)
      · intro e1 w1 hb hp hun
        refine Ops.mv_int rfl rfl rfl ?_
        refine Ops.nil ?_
        exact After.dn (Below.refl _ _) (by exact rfl)
      · intro e1 w1 hb hp hun
        refine Ops.mul rfl rfl rfl (by rw [hMn]; omega) ?_
        refine Ops.nil ?_
        exact After.dn (Below.refl _ _) (by exact rfl)
      · intro e1 w1 hb hp hun
        refine Ops.lss rfl rfl rfl ?_
        refine Ops.nil ?_
        exact After.dn (Below.refl _ _) (by exact congrArg Value.bool (decide_eq_true h1))
      · intro e1 w1 hb hp hun
        refine Ops.mv_bool rfl rfl rfl ?_
        refine Ops.nil ?_
        exact After.dn (Below.refl _ _) (by exact rfl)
      · intro e1 w1 hb hp hun
        refine Ops.rung rfl rfl rfl ?_
        refine Ops.mv_sl rfl rfl rfl ?_
        refine Ops.nil ?_
        exact After.dn (Below.refl _ _) (by exact rfl)
      · intro e1 w1 hb hp hun
        refine Ops.rung rfl rfl rfl ?_
        refine Ops.mv_int rfl rfl rfl ?_
        refine Ops.nil ?_
        exact After.dn (Below.refl _ _) (by exact rfl)
      · intro e1 w1 hb hp hun
        refine Ops.rung rfl rfl rfl ?_
        refine Ops.mv_int rfl rfl rfl ?_
        refine Ops.nil ?_
        exact After.dn (Below.refl _ _) (by exact rfl)
      · intro e1 w1 hb hp hun
        refine Ops.rung rfl rfl rfl ?_
        refine Ops.rem rfl rfl rfl (by omega) ?_
        rw [hmod]
        refine Ops.nil ?_
        exact After.dn (Below.refl _ _) (by exact rfl)
      · intro e1 w1 hb hp hun
        refine Ops.rung rfl rfl rfl ?_
        refine Ops.idx (hR.top.later hb).2 rfl rfl rfl (by omega) (by omega) ?_
        refine Ops.nil ?_
        exact After.dn (Below.refl _ _) (by exact rfl)
      · intro e1 w1 hb hp hun
        refine Ops.rung rfl rfl rfl ?_
        refine Ops.ld_sl (hR.top.later hb) rfl (by omega) rfl rfl ?_
        refine Ops.nil ?_
        exact After.dn (Below.refl _ _) (by exact rfl)
      · intro e1 w1 hb hp hun
        refine Ops.rung rfl rfl rfl ?_
        refine Ops.mv_int rfl rfl rfl ?_
        refine Ops.nil ?_
        exact After.dn (Below.refl _ _) (by exact rfl)
      · intro e1 w1 hb hp hun
        refine Ops.rung rfl rfl rfl ?_
        refine Ops.mv_int rfl rfl rfl ?_
        refine Ops.nil ?_
        exact After.dn (Below.refl _ _) (by exact rfl)
      · intro e1 w1 hb hp hun
        refine Ops.rung rfl rfl rfl ?_
        refine Ops.quo rfl rfl rfl (by omega) ?_
        rw [hdiv]
        refine Ops.nil ?_
        exact After.dn (Below.refl _ _) (by exact rfl)
      · intro e1 w1 hb hp hun
        refine Ops.rung rfl rfl rfl ?_
        refine Ops.idx (hrow.later hb).2 rfl rfl rfl (by omega) (by omega) ?_
        refine Ops.nil ?_
        exact After.dn (Below.refl _ _) (by exact rfl)
      · intro e1 w1 hb hp hun
        refine Ops.rung rfl rfl rfl ?_
        refine Ops.ld_int (hrow.later hb) rfl (by omega) rfl rfl ?_
        refine Ops.nil ?_
        exact After.dn (Below.refl _ _) (by exact rfl)
      · intro e1 w1 hb hp hun
        refine Ops.rung rfl rfl rfl ?_
        refine Ops.geq rfl rfl rfl ?_
        refine Ops.nil ?_
        exact After.dn (Below.refl _ _) (by exact congrArg Value.bool (decide_eq_true h2))
      · intro e1 w1 hb hp hun
        refine Ops.pick_t rfl rfl rfl ?_
        refine Ops.nil ?_
        exact After.dn (Below.refl _ _) (by exact rfl)
      intro u w2 hb2 _
      have hb2 := hb1.trans (hb2.mono hb1.size)
      refine thenQ_n ?_
      -- stop: cond
      refine Cd.cond_t rfl ?_
      refine Cd.skip ?_
      refine thenQ_n ?_
      refine Cd.block ?_
      refine Cd.region ?_
      refine Ops.mv_int rfl rfl rfl ?_
      refine Ops.add rfl rfl rfl (by omega) ?_
      refine Ops.mv_int rfl rfl rfl ?_
      refine Ops.nil ?_
      refine blockQ_n ?_
      refine thenQ_n ?_
      -- stop: round
      refine ⟨a + 1, by omega, ⟨rfl, rfl, rfl, rfl, rfl, rfl, trivial⟩, hb2, by omega, fun b hb => ?_⟩
      by_cases eb : b = a
      · subst eb; rw [hr, hq]; exact h2
      · exact hk b (by omega)
    · refine Cd.draw [.ex (.int .i64 ((a : Int))), .ex (.int .i64 ((met : Int))), .ex (.int .i64 ((n : Int))), .ex (.int .i64 (((met * n : Nat) : Int))), .ex (.bool (true)), .ex (.bool (true)), .ex (.slice (A) (n) (c)), .ex (.int .i64 ((a : Int))), .ex (.int .i64 ((n : Int))), .ex (.int .i64 ((r : Int))), .ex (.pointer (ptrAt (A) ((r : Int)).toNat)), .ex (.slice ((rg (rs) ((r : Int))).a) ((rg (rs) ((r : Int))).n) ((rg (rs) ((r : Int))).c)), .ex (.int .i64 ((a : Int))), .ex (.int .i64 ((n : Int))), .ex (.int .i64 ((q : Int))), .ex (.pointer (ptrAt ((rg (rs) ((r : Int))).a) ((q : Int)).toNat)), .ex (.int .i64 (gi (gl M r) ((q : Int)))), .ex (.bool (false)), .ex (.bool (false))] (by kernel_rfl) (by kernel_rfl) rfl (List.forall_mem_cons.2 ⟨Yd.lasts_ex _, (List.forall_mem_cons.2 ⟨Yd.lasts_ex _, (List.forall_mem_cons.2 ⟨Yd.lasts_ex _, (List.forall_mem_cons.2 ⟨Yd.lasts_ex _, (List.forall_mem_cons.2 ⟨Yd.lasts_ex _, (List.forall_mem_cons.2 ⟨Yd.lasts_ex _, (List.forall_mem_cons.2 ⟨Yd.lasts_ex _, (List.forall_mem_cons.2 ⟨Yd.lasts_ex _, (List.forall_mem_cons.2 ⟨Yd.lasts_ex _, (List.forall_mem_cons.2 ⟨Yd.lasts_ex _, (List.forall_mem_cons.2 ⟨Yd.lasts_ex _, (List.forall_mem_cons.2 ⟨Yd.lasts_ex _, (List.forall_mem_cons.2 ⟨Yd.lasts_ex _, (List.forall_mem_cons.2 ⟨Yd.lasts_ex _, (List.forall_mem_cons.2 ⟨Yd.lasts_ex _, (List.forall_mem_cons.2 ⟨Yd.lasts_ex _, (List.forall_mem_cons.2 ⟨Yd.lasts_ex _, (List.forall_mem_cons.2 ⟨Yd.lasts_ex _, (List.forall_mem_cons.2 ⟨Yd.lasts_ex _, (fun _ h => by cases h)⟩)⟩)⟩)⟩)⟩)⟩)⟩)⟩)⟩)⟩)⟩)⟩)⟩)⟩)⟩)⟩)⟩)⟩)⟩) ⟨?_, ?_, ?_, ?_, ?_, ?_, ?_, ?_, ?_, ?_, ?_, ?_, ?_, ?_, ?_, ?_, ?_, ?_, ?_, trivial⟩ ?_
      · intro e1 w1 hb hp hun
        refine Ops.mv_int rfl rfl rfl ?_
        refine Ops.nil ?_
        exact After.dn (Below.refl _ _) (by exact rfl)
      · intro e1 w1 hb hp hun
        refine Ops.mv_int rfl rfl rfl ?_
        refine Ops.nil ?_
        exact After.dn (Below.refl _ _) (by exact rfl)
      · intro e1 w1 hb hp hun
        refine Ops.mv_int rfl rfl rfl ?_
        refine Ops.nil ?_
        exact After.dn (Below.refl _ _) (by exact rfl)
      · intro e1 w1 hb hp hun
        refine Ops.mul rfl rfl rfl (by rw [hMn]; omega) ?_
        refine Ops.nil ?_
        exact After.dn (Below.refl _ _) (by exact rfl)
      · intro e1 w1 hb hp hun
        refine Ops.lss rfl rfl rfl ?_
        refine Ops.nil ?_
        exact After.dn (Below.refl _ _) (by exact congrArg Value.bool (decide_eq_true h1))
      · intro e1 w1 hb hp hun
        refine Ops.mv_bool rfl rfl rfl ?_
        refine Ops.nil ?_
        exact After.dn (Below.refl _ _) (by exact rfl)
      · intro e1 w1 hb hp hun
        refine Ops.rung rfl rfl rfl ?_
        refine Ops.mv_sl rfl rfl rfl ?_
        refine Ops.nil ?_
        exact After.dn (Below.refl _ _) (by exact rfl)
      · intro e1 w1 hb hp hun
        refine Ops.rung rfl rfl rfl ?_
        refine Ops.mv_int rfl rfl rfl ?_
        refine Ops.nil ?_
        exact After.dn (Below.refl _ _) (by exact rfl)
      · intro e1 w1 hb hp hun
        refine Ops.rung rfl rfl rfl ?_
        refine Ops.mv_int rfl rfl rfl ?_
        refine Ops.nil ?_
        exact After.dn (Below.refl _ _) (by exact rfl)
      · intro e1 w1 hb hp hun
        refine Ops.rung rfl rfl rfl ?_
        refine Ops.rem rfl rfl rfl (by omega) ?_
        rw [hmod]
        refine Ops.nil ?_
        exact After.dn (Below.refl _ _) (by exact rfl)
      · intro e1 w1 hb hp hun
        refine Ops.rung rfl rfl rfl ?_
        refine Ops.idx (hR.top.later hb).2 rfl rfl rfl (by omega) (by omega) ?_
        refine Ops.nil ?_
        exact After.dn (Below.refl _ _) (by exact rfl)
      · intro e1 w1 hb hp hun
        refine Ops.rung rfl rfl rfl ?_
        refine Ops.ld_sl (hR.top.later hb) rfl (by omega) rfl rfl ?_
        refine Ops.nil ?_
        exact After.dn (Below.refl _ _) (by exact rfl)
      · intro e1 w1 hb hp hun
        refine Ops.rung rfl rfl rfl ?_
        refine Ops.mv_int rfl rfl rfl ?_
        refine Ops.nil ?_
        exact After.dn (Below.refl _ _) (by exact rfl)
      · intro e1 w1 hb hp hun
        refine Ops.rung rfl rfl rfl ?_
        refine Ops.mv_int rfl rfl rfl ?_
        refine Ops.nil ?_
        exact After.dn (Below.refl _ _) (by exact rfl)
      · intro e1 w1 hb hp hun
        refine Ops.rung rfl rfl rfl ?_
        refine Ops.quo rfl rfl rfl (by omega) ?_
        rw [hdiv]
        refine Ops.nil ?_
        exact After.dn (Below.refl _ _) (by exact rfl)
      · intro e1 w1 hb hp hun
        refine Ops.rung rfl rfl rfl ?_
        refine Ops.idx (hrow.later hb).2 rfl rfl rfl (by omega) (by omega) ?_
        refine Ops.nil ?_
        exact After.dn (Below.refl _ _) (by exact rfl)
      · intro e1 w1 hb hp hun
        refine Ops.rung rfl rfl rfl ?_
        refine Ops.ld_int (hrow.later hb) rfl (by omega) rfl rfl ?_
        refine Ops.nil ?_
        exact After.dn (Below.refl _ _) (by exact rfl)
      · intro e1 w1 hb hp hun
        refine Ops.rung rfl rfl rfl ?_
        refine Ops.geq rfl rfl rfl ?_
        refine Ops.nil ?_
        exact After.dn (Below.refl _ _) (by exact congrArg Value.bool (decide_eq_false h2))
      · intro e1 w1 hb hp hun
        refine Ops.pick_t rfl rfl rfl ?_
        refine Ops.nil ?_
        exact After.dn (Below.refl _ _) (by exact rfl)
      intro u w2 hb2 _
      have hS2 := hS1.later hb2
      refine thenQ_n ?_
      -- stop: cond
      refine Cd.cond_f rfl ?_
      refine Cd.exit ?_
      refine thenQ_x ?_
      refine thenQ_x ?_
      refine blockQ_x ?_
      refine thenQ_n ?_
      refine Cd.seq ?_
      refine Cd.seq ?_
      refine Cd.region ?_
      refine Ops.mv_int rfl rfl rfl ?_
      refine Ops.mv_int rfl rfl rfl ?_
      refine Ops.mv_int rfl rfl rfl ?_
      -- stop: BINOP mul 2 t41 t42 2 -> 43
      refine Ops.mul rfl rfl rfl (by rw [hMn]; omega) ?_
      refine Ops.eql rfl rfl rfl ?_
      refine Ops.nil ?_
      refine thenQ_n ?_
      -- stop: cond
      refine Cd.cond_pf rfl (by rw [hMn]; omega) ?_
      refine Cd.skip ?_
      refine thenQ_n ?_
      refine Cd.seq ?_
      -- stop: draw
      refine Cd.draw [.ex (.int .i64 ((a : Int))), .ex (.int .i64 ((n : Int))), .ex (.int .i64 ((q : Int))), .ex (.int .i64 ((a : Int))), .ex (.int .i64 ((n : Int))), .ex (.int .i64 ((r : Int))), .ex (.int .i64 ((q : Int))), .ex (.int .i64 ((r : Int)))] (by kernel_rfl) (by kernel_rfl) rfl (List.forall_mem_cons.2 ⟨Yd.lasts_ex _, (List.forall_mem_cons.2 ⟨Yd.lasts_ex _, (List.forall_mem_cons.2 ⟨Yd.lasts_ex _, (List.forall_mem_cons.2 ⟨Yd.lasts_ex _, (List.forall_mem_cons.2 ⟨Yd.lasts_ex _, (List.forall_mem_cons.2 ⟨Yd.lasts_ex _, (List.forall_mem_cons.2 ⟨Yd.lasts_ex _, (List.forall_mem_cons.2 ⟨Yd.lasts_ex _, (fun _ h => by cases h)⟩)⟩)⟩)⟩)⟩)⟩)⟩)⟩) ⟨?_, ?_, ?_, ?_, ?_, ?_, ?_, ?_, trivial⟩ ?_
      · intro e1 w1 hb hp hun
        refine Ops.mv_int rfl rfl rfl ?_
        refine Ops.nil ?_
        exact After.dn (Below.refl _ _) (by exact rfl)
      · intro e1 w1 hb hp hun
        refine Ops.mv_int rfl rfl rfl ?_
        refine Ops.nil ?_
        exact After.dn (Below.refl _ _) (by exact rfl)
      · intro e1 w1 hb hp hun
        refine Ops.quo rfl rfl rfl (by omega) ?_
        rw [hdiv]
        refine Ops.nil ?_
        exact After.dn (Below.refl _ _) (by exact rfl)
      · intro e1 w1 hb hp hun
        refine Ops.mv_int rfl rfl rfl ?_
        refine Ops.nil ?_
        exact After.dn (Below.refl _ _) (by exact rfl)
      · intro e1 w1 hb hp hun
        refine Ops.mv_int rfl rfl rfl ?_
        refine Ops.nil ?_
        exact After.dn (Below.refl _ _) (by exact rfl)
      · intro e1 w1 hb hp hun
        refine Ops.rem rfl rfl rfl (by omega) ?_
        rw [hmod]
        refine Ops.nil ?_
        exact After.dn (Below.refl _ _) (by exact rfl)
      · intro e1 w1 hb hp hun
        refine Ops.mv_int rfl rfl rfl ?_
        refine Ops.nil ?_
        exact After.dn (Below.refl _ _) (by exact rfl)
      · intro e1 w1 hb hp hun
        refine Ops.mv_int rfl rfl rfl ?_
        refine Ops.nil ?_
        exact After.dn (Below.refl _ _) (by exact rfl)
      intro u w3 hb3 _
      have hS3 := hS2.later hb3
      refine thenQ_n ?_
      refine Cd.seq ?_
      refine Cd.seq ?_
      refine Cd.region ?_
      refine Ops.mv_int rfl rfl rfl ?_
      refine Ops.add rfl rfl rfl (by omega) ?_
      refine Ops.mv_int rfl rfl rfl ?_
      refine Ops.nil ?_
      refine thenQ_n ?_
      refine Cd.block ?_
      -- stop: loop
      have hIa := hI.upto a (by
          apply Classical.byContradiction
          intro hlt
          exact h2 (by rw [← hr, ← hq]; exact hI.known a (by omega))) (by omega) hk
      have haM : a ≠ met * n := by omega
      have hmnF : met * n ≤ F * n := Nat.mul_le_mul_right n hmet
      have hat : at_ ≤ a := by
        apply Classical.byContradiction
        intro hlt
        exact h2 (by rw [← hr, ← hq]; exact hI.known a (by omega))
      obtain ⟨f', rfl⟩ : ∃ f', fuel = f' + 1 + (a - at_) := ⟨fuel - 1 - (a - at_), by omega⟩
      have hun : ¬ 0 ≤ cell M (a % n) (a / n : Nat) := by rw [hr, hq]; exact h2
      have hgr : grow n F (okS F) (fun _ => true) (f' + 1 + (a - at_)) at_ met M = (List.range' (q + 1) (min met (F - 1) - q)).flatMap (body n F (okS F) (fun _ => true) f' a met M) := by
        rw [grow_skip (a - at_) (f' + 1) at_ (by omega) (fun b h1 h2 => hk b (by omega)), show at_ + (a - at_) = a by omega, grow_body haM hun, hq]
      rw [hgr] at hB ⊢
      refine Cd.loop (α := Nat × Option Addr × Nat × List MatV) (fun z => [(0, .slice A n c), (1, .int .i64 (F : Int)), (2, .int .i64 (met : Int)), (3, .slice z.2.1 (no + z.2.2.2.length) z.2.2.1), (9, .int .i64 (n : Int)), (11, .int .i64 (q : Int)), (12, .int .i64 (r : Int)), (13, .int .i64 (z.1 : Int))])
        (fun z w' => St w0 w' (CkR 32 z.2.1 (no + z.2.2.2.length) z.2.2.1 (outs ++ z.2.2.2.map (·.top)) :: (mat 39 2 A n c rs M ++ (matsCk 39 2 z.2.2.2 ++ ks))) ∧ q + 1 ≤ z.1 ∧ z.1 ≤ q + 1 + (min met (F - 1) - q) ∧ (∀ m ∈ z.2.2.2, m.ok) ∧ z.2.2.2.map (·.xss) = (List.range' (q + 1) (z.1 - (q + 1))).flatMap (body n F (okS F) (fun _ => true) f' a met M))
        (fun z => q + 2 + (min met (F - 1) - q) - z.1) (q + 1, Ao, co, []) ⟨rfl, rfl, rfl, rfl, rfl, rfl, rfl, rfl, trivial⟩ ⟨by simpa [matsCk] using hS3, Nat.le_refl _, Nat.le_add_right _ _, (fun m hm => by cases hm), by simp⟩ ?_
      rintro ⟨g, Ag, cg, new⟩ e w4 ⟨hS4, hg1, hg2, hnew, hxs⟩
      dsimp only at hS4 hg1 hg2 hnew hxs ⊢
      refine Cd.seq ?_
      refine Cd.seq ?_
      refine Cd.region ?_
      refine Ops.mv_int rfl rfl rfl ?_
      refine Ops.mv_int rfl rfl rfl ?_
      refine Ops.leq rfl rfl rfl ?_
      refine Ops.mv_bool rfl rfl rfl ?_
      -- stop: guard 66
      refine Ops.split_p 66 rfl (fun h3 => ?_) (fun h3 => ?_)
      · refine Ops.rung rfl rfl rfl ?_
        refine Ops.mv_int rfl rfl rfl ?_
        refine Ops.rung rfl rfl rfl ?_
        refine Ops.mv_int rfl rfl rfl ?_
        refine Ops.rung rfl rfl rfl ?_
        refine Ops.lss rfl rfl rfl ?_
        refine Ops.pick_t rfl rfl rfl ?_
        refine Ops.nil ?_
        refine thenQ_n ?_
        -- stop: cond
        refine Cd.cond_p _ rfl (fun h4 => ?_) (fun h4 => ?_)
        · have hgm : g < q + 1 + (min met (F - 1) - q) := by omega
          have hR4 := unOut hS4
          have hrow := hR4.at_ (i := (r : Int)) (by omega) (by omega)
          have hstep := range_step (body n F (okS F) (fun _ => true) f' a met M) hg1 hgm
          have hrest := range_rest (body n F (okS F) (fun _ => true) f' a met M) hg1 hgm
          have hnl : new.length = ((List.range' (q + 1) (g - (q + 1))).flatMap (body n F (okS F) (fun _ => true) f' a met M)).length := by rw [← hxs]; simp
          refine Cd.skip ?_
          refine thenQ_n ?_
          refine Cd.seq ?_
          refine Cd.block ?_
          refine Cd.seq ?_
          refine Cd.seq ?_
          refine Cd.region ?_
          refine Ops.mv_sl rfl rfl rfl ?_
          refine Ops.mv_int rfl rfl rfl ?_
          -- stop: INDEXADDR 25 t73 t74 -> 75
          refine Ops.idx hR4.top.2 rfl rfl rfl (by omega) (by omega) ?_
          refine Ops.ld_sl hR4.top rfl (by omega) rfl rfl ?_
          refine Ops.mv_int rfl rfl rfl ?_
          -- stop: INDEXADDR 39 t76 t77 -> 78
          refine Ops.idx hrow.2 rfl rfl rfl (by omega) (by omega) ?_
          refine Ops.ld_int hrow rfl (by omega) rfl rfl ?_
          refine Ops.geq rfl rfl rfl ?_
          refine Ops.nil ?_
          refine thenQ_n ?_
          -- stop: cond
          refine Cd.cond_p _ rfl (fun h5 => ?_) (fun h5 => ?_)
          · have hbd : body n F (okS F) (fun _ => true) f' a met M g = [] := by unfold body; rw [hr, if_pos (show 0 ≤ cell M r g from h5)]
            refine Cd.exit ?_
            refine thenQ_x ?_
            refine blockQ_x ?_
            refine thenQ_n ?_
            refine Cd.region ?_
            refine Ops.mv_int rfl rfl rfl ?_
            refine Ops.add rfl rfl rfl (by omega) ?_
            refine Ops.mv_int rfl rfl rfl ?_
            refine Ops.nil ?_
            refine thenQ_n ?_
            -- stop: round
            refine ⟨(g + 1, Ag, cg, new), by show _ - (g + 1) < _ - g; omega, ⟨rfl, rfl, rfl, rfl, rfl, rfl, rfl, rfl, trivial⟩, hS4, by show q + 1 ≤ g + 1; omega, by show g + 1 ≤ _; omega, hnew, ?_⟩
            show new.map _ = (List.range' (q + 1) (g + 1 - (q + 1))).flatMap _
            rw [hstep, hbd, List.append_nil, hxs]
          · refine Cd.skip ?_
            refine thenQ_n ?_
            refine Cd.seq ?_
            refine Cd.region ?_
            refine Ops.mv_sl rfl rfl rfl ?_
            -- stop: CALL spec.l01Own2(t81) -> 82
            refine Ops.call (l01Own2_c A n c rs M _ hR4 (by omega) (fun i hi => by have := hR4.shp hI.shp (k := (i : Int)) (by omega) (by omega); simp only [rg, Int.toNat_natCast] at this; omega)) rfl rfl rfl ?_
            rintro _ w5 ⟨A5, c5, rs5, rfl, hl5, hst⟩
            have hS5 := hS4.call hst
            have hR5 := hS5.rowsI hlen
            have hrow5 := hR5.at_ (i := (r : Int)) (by omega) (by omega)
            have hn5 := hR5.shp hI.shp (k := (r : Int)) (by omega) (by omega)
            refine Ops.mv_sl rfl rfl rfl ?_
            refine Ops.nil ?_
            refine thenQ_n ?_
            refine Cd.seq ?_
            refine Cd.region ?_
            refine Ops.mv_sl rfl rfl rfl ?_
            refine Ops.mv_int rfl rfl rfl ?_
            -- stop: INDEXADDR 25 t83 t84 -> 85
            refine Ops.idx hR5.top.2 rfl rfl rfl (by omega) (by omega) ?_
            refine Ops.ld_sl hR5.top rfl (by omega) rfl rfl ?_
            refine Ops.mv_int rfl rfl rfl ?_
            refine Ops.mv_int rfl rfl rfl ?_
            -- stop: INDEXADDR 39 t86 t87 -> 89
            refine Ops.idx hrow5.2 rfl rfl rfl (by omega) (by omega) ?_
            refine Ops.st_row (pre := []) r (f := (q : Int)) hS5 (by omega) (by omega) rfl rfl (by omega) ?_
            intro w6 hS6
            have hS6 : St w0 w6 (mat 39 2 A5 n c5 rs5 (setc M r q g) ++ (CkR 32 Ag (no + new.length) cg (outs ++ new.map (·.top)) :: (mat 39 2 A n c rs M ++ (matsCk 39 2 new ++ ks)))) := hS6
            have hsh6 := hI.shp.setc hpos.1 q (g : Int)
            have hR6 := hS6.rowsI hsh6.1
            have hrow6 := hR6.at_ (i := (r : Int)) (by omega) (by omega)
            have hl6 := hsh6.1
            refine Ops.nil ?_
            refine thenQ_n ?_
            refine Cd.seq ?_
            refine Cd.region ?_
            refine Ops.mv_sl rfl rfl rfl ?_
            refine Ops.mv_int rfl rfl rfl ?_
            -- stop: INDEXADDR 25 t90 t91 -> 92
            refine Ops.idx hR6.top.2 rfl rfl rfl (by omega) (by omega) ?_
            refine Ops.ld_sl hR6.top rfl (by omega) rfl rfl ?_
            refine Ops.mv_int rfl rfl rfl ?_
            refine Ops.mv_int rfl rfl rfl ?_
            -- stop: INDEXADDR 39 t93 t94 -> 96
            refine Ops.idx hrow6.2 rfl rfl rfl (by omega) (by omega) ?_
            refine Ops.st_row (pre := []) r (f := (g : Int)) hS6 (by omega) (by omega) rfl rfl (by omega) ?_
            intro w7 hS7
            have hS7 : St w0 w7 (mat 39 2 A5 n c5 rs5 (put M r q g) ++ (CkR 32 Ag (no + new.length) cg (outs ++ new.map (·.top)) :: (mat 39 2 A n c rs M ++ (matsCk 39 2 new ++ ks)))) := hS7
            have hI7 := hIa.put haM hun (g := g) (by omega) (by omega) (by omega) (by rw [hr]; exact h5)
            rw [hr, hq] at hI7
            have hbd : body n F (okS F) (fun _ => true) f' a met M g = if okS F (put M r q g) r q = true then grow n F (okS F) (fun _ => true) f' (a + 1) (max met (g + 1)) (put M r q g) else [] := by
              unfold body
              rw [hr, hq, if_neg (show ¬ 0 ≤ cell M r g from h5)]
            generalize hM' : put M r q g = M' at *
            have hl7 := hI7.shp.1
            refine Ops.nil ?_
            refine thenQ_n ?_
            refine Cd.seq ?_
            refine Cd.region ?_
            refine Ops.mv_bool rfl rfl rfl ?_
            refine Ops.nil ?_
            refine thenQ_n ?_
            -- stop: join
            refine Cd.join (α := Bool) (fun z => [(0, .slice A n c), (1, .int .i64 (F : Int)), (2, .int .i64 (met : Int)), (3, .slice Ag (no + new.length) cg), (9, .int .i64 (n : Int)), (11, .int .i64 (q : Int)), (12, .int .i64 (r : Int)), (13, .int .i64 (g : Int)), (14, .slice A5 n c5), (15, .bool z)])
              (fun z w' => St w0 w' (mat 39 2 A5 n c5 rs5 M' ++ (CkR 32 Ag (no + new.length) cg (outs ++ new.map (·.top)) :: (mat 39 2 A n c rs M ++ (matsCk 39 2 new ++ ks)))) ∧ z = okS F M' r q) ?_ ?_
            · refine Cd.seq ?_
              refine Cd.region ?_
              refine Ops.mv_int rfl rfl rfl ?_
              refine Ops.nil ?_
              refine thenQ_n ?_
              refine Cd.block ?_
              -- stop: loop
              refine Cd.loop (α := Nat × Bool) (fun z => [(0, .slice A n c), (1, .int .i64 (F : Int)), (2, .int .i64 (met : Int)), (3, .slice Ag (no + new.length) cg), (9, .int .i64 (n : Int)), (11, .int .i64 (q : Int)), (12, .int .i64 (r : Int)), (13, .int .i64 (g : Int)), (14, .slice A5 n c5), (15, .bool z.2), (16, .int .i64 (z.1 : Int))])
                (fun z w' => St w0 w' (mat 39 2 A5 n c5 rs5 M' ++ (CkR 32 Ag (no + new.length) cg (outs ++ new.map (·.top)) :: (mat 39 2 A n c rs M ++ (matsCk 39 2 new ++ ks)))) ∧ z.1 ≤ F ∧ z.2 = decide (∀ e', e' < z.1 → FitsAll M' (e' : Nat)))
                (fun z => F - z.1) (0, true) ⟨rfl, rfl, rfl, rfl, rfl, rfl, rfl, rfl, rfl, rfl, rfl, trivial⟩ ⟨hS7, Nat.zero_le _, (decide_eq_true (fun e' he => absurd he (by omega))).symm⟩ ?_
              rintro ⟨ee, good⟩ e w8 ⟨hS8, hee, hgood⟩
              dsimp only at hS8 hee hgood ⊢
              refine Cd.seq ?_
              refine Cd.seq ?_
              refine Cd.region ?_
              refine Ops.mv_int rfl rfl rfl ?_
              refine Ops.mv_int rfl rfl rfl ?_
              refine Ops.lss rfl rfl rfl ?_
              refine Ops.mv_bool rfl rfl rfl ?_
              -- stop: guard 100
              refine Ops.split_p 100 rfl (fun h6 => ?_) (fun h6 => ?_)
              · refine Ops.rung rfl rfl rfl ?_
                refine Ops.mv_bool rfl rfl rfl ?_
                refine Ops.pick_t rfl rfl rfl ?_
                refine Ops.nil ?_
                refine thenQ_n ?_
                -- stop: cond
                refine Cd.cond rfl (fun h7 => ?_) (fun h7 => ?_)
                · refine Cd.skip ?_
                  refine thenQ_n ?_
                  refine Cd.seq ?_
                  refine Cd.block ?_
                  refine Cd.region ?_
                  refine Ops.mv_sl rfl rfl rfl ?_
                  refine Ops.mv_int rfl rfl rfl ?_
                  -- stop: CALL spec.l19Fits(t105, t106) -> 107
                  refine Ops.call (l19Fits_c A5 n c5 F rs5 M' ee _ (hS8.rowsI hl7) hI7.shp hI7.rng (by omega) (by omega)) rfl rfl rfl ?_
                  rintro _ w9 ⟨rfl, hst⟩
                  refine Ops.mv_bool rfl rfl rfl ?_
                  refine Ops.nil ?_
                  refine blockQ_n ?_
                  refine thenQ_n ?_
                  refine Cd.region ?_
                  refine Ops.mv_int rfl rfl rfl ?_
                  refine Ops.add rfl rfl rfl (by omega) ?_
                  refine Ops.mv_int rfl rfl rfl ?_
                  refine Ops.nil ?_
                  refine thenQ_n ?_
                  -- stop: round
                  refine ⟨(ee + 1, decide (FitsAll M' (ee : Int))), by show F - (ee + 1) < F - ee; omega, ⟨rfl, rfl, rfl, rfl, rfl, rfl, rfl, rfl, rfl, rfl, rfl, trivial⟩, hS8.later hst.below, by show ee + 1 ≤ F; omega, ?_⟩
                  rw [h7] at hgood
                  have hall := of_decide_eq_true hgood.symm
                  refine decide_eq_decide.2 ⟨fun hf e' he' => ?_, fun hf => hf ee (by omega)⟩
                  by_cases ee' : e' = ee
                  · subst ee'; exact hf
                  · exact hall e' (by omega)
                · refine Cd.exit ?_
                  refine thenQ_x ?_
                  refine thenQ_x ?_
                  refine blockQ_x ?_
                  refine thenQ_n ?_
                  -- stop: round
                  refine ⟨false, ⟨rfl, rfl, rfl, rfl, rfl, rfl, rfl, rfl, rfl, by rw [← h7]; rfl, trivial⟩, hS8, ?_⟩
                  rw [h7] at hgood
                  have hnot := of_decide_eq_false hgood.symm
                  exact (decide_eq_false (fun hf => hnot (fun e' he' => hf e' (by omega)))).symm
              · refine Ops.skipg rfl rfl rfl rfl rfl ?_
                refine Ops.pick_f rfl rfl rfl ?_
                refine Ops.nil ?_
                refine thenQ_n ?_
                -- stop: cond
                refine Cd.cond_f rfl ?_
                refine Cd.exit ?_
                refine thenQ_x ?_
                refine thenQ_x ?_
                refine blockQ_x ?_
                refine thenQ_n ?_
                -- stop: round
                have : ee = F := by omega
                subst this
                exact ⟨good, ⟨rfl, rfl, rfl, rfl, rfl, rfl, rfl, rfl, rfl, rfl, trivial⟩, hS8, hgood⟩
            · rintro good e w8 ⟨hS8, hgood⟩
              refine Cd.seq ?_
              refine Cd.region ?_
              refine Ops.mv_bool rfl rfl rfl ?_
              refine Ops.nil ?_
              refine thenQ_n ?_
              -- stop: cond
              refine Cd.cond rfl (fun h7 => ?_) (fun h7 => ?_)
              · rw [h7] at hgood
                rw [← hgood, if_pos rfl] at hbd
                rw [hbd] at hrest hstep
                have hmx : max (met : Int) ((g : Int) + 1) = ((max met (g + 1) : Nat) : Int) := by omega
                refine Cd.region ?_
                refine Ops.mv_sl rfl rfl rfl ?_
                refine Ops.mv_int rfl rfl rfl ?_
                refine Ops.mv_int rfl rfl rfl ?_
                refine Ops.mv_int rfl rfl rfl ?_
                refine Ops.add rfl rfl rfl (by omega) ?_
                -- stop: BUILTIN max(t111, t113) -> 114
                refine Ops.maxI rfl rfl rfl ?_
                rw [hmx]
                refine Ops.mv_sl rfl rfl rfl ?_
                -- stop: CALL spec.l19Grow(t109, t110, t114, t115) -> 116
                refine Ops.call (ih f' (by omega) (a + 1) (max met (g + 1)) M' hI7 (by omega) w0 w8 (mat 39 2 A n c rs M ++ (matsCk 39 2 new ++ ks)) Ag (no + new.length) cg (outs ++ new.map (·.top)) A5 c5 rs5 (hS8.perm List.perm_middle) (by omega)) rfl rfl rfl ?_
                rintro _ w9 ⟨A9, c9, new9, rfl, hok9, hx9, hS9⟩
                refine Ops.mv_sl rfl rfl rfl ?_
                refine Ops.nil ?_
                refine blockQ_n ?_
                refine thenQ_n ?_
                refine Cd.region ?_
                refine Ops.mv_int rfl rfl rfl ?_
                refine Ops.add rfl rfl rfl (by omega) ?_
                refine Ops.mv_int rfl rfl rfl ?_
                refine Ops.nil ?_
                refine thenQ_n ?_
                -- stop: round
                refine ⟨(g + 1, A9, c9, new ++ new9), by show _ - (g + 1) < _ - g; omega, ⟨rfl, rfl, rfl, by show Value.slice _ _ _ = Value.slice _ _ _; rw [List.length_append, Nat.add_assoc], rfl, rfl, rfl, rfl, trivial⟩, ?_, by show q + 1 ≤ g + 1; omega, by show g + 1 ≤ _; omega, fun m hm => ?_, ?_⟩
                · show St w0 w9 (CkR _ A9 (no + (new ++ new9).length) c9 (outs ++ (new ++ new9).map (·.top)) :: (mat _ _ A n c rs M ++ (matsCk _ _ (new ++ new9) ++ ks)))
                  rw [List.length_append, List.map_append, matsCk_append, ← Nat.add_assoc, ← List.append_assoc]
                  exact (hS9.sub (List.Sublist.cons_cons _ (List.sublist_append_right _ _))).perm (List.Perm.cons _ (perm_four _ _ _ _))
                · rcases List.mem_append.1 hm with hm | hm
                  · exact hnew m hm
                  · exact hok9 m hm
                · show (new ++ new9).map _ = (List.range' (q + 1) (g + 1 - (q + 1))).flatMap _
                  rw [hstep, List.map_append, hxs, hx9]
              · rw [h7] at hgood
                rw [← hgood, if_neg (by simp)] at hbd
                refine Cd.skip ?_
                refine blockQ_n ?_
                refine thenQ_n ?_
                refine Cd.region ?_
                refine Ops.mv_int rfl rfl rfl ?_
                refine Ops.add rfl rfl rfl (by omega) ?_
                refine Ops.mv_int rfl rfl rfl ?_
                refine Ops.nil ?_
                refine thenQ_n ?_
                -- stop: round
                refine ⟨(g + 1, Ag, cg, new), by show _ - (g + 1) < _ - g; omega, ⟨rfl, rfl, rfl, rfl, rfl, rfl, rfl, rfl, trivial⟩, hS8.unmat, by show q + 1 ≤ g + 1; omega, by show g + 1 ≤ _; omega, hnew, ?_⟩
                show new.map _ = (List.range' (q + 1) (g + 1 - (q + 1))).flatMap _
                rw [hstep, hbd, List.append_nil, hxs]
        · refine Cd.exit ?_
          refine thenQ_x ?_
          refine thenQ_x ?_
          refine blockQ_x ?_
          refine thenQ_n ?_
          refine Cd.seq ?_
          refine Cd.region ?_
          refine Ops.mv_sl rfl rfl rfl ?_
          refine Ops.mv_sl rfl rfl rfl ?_
          refine Ops.nil ?_
          refine thenQ_n ?_
          refine Cd.ret ?_
          refine ret1_s rfl ?_
          -- stop: end
          have hge : g = q + 1 + (min met (F - 1) - q) := by omega
          refine ⟨Ag, cg, new, rfl, hnew, ?_, hS4⟩
          rw [hxs]; congr 2; omega
      · refine Ops.skipg rfl rfl rfl rfl rfl ?_
        refine Ops.skipg rfl rfl rfl rfl rfl ?_
        refine Ops.skipg rfl rfl rfl rfl rfl ?_
        refine Ops.pick_f rfl rfl rfl ?_
        refine Ops.nil ?_
        refine thenQ_n ?_
        -- stop: cond
        refine Cd.cond_f rfl ?_
        refine Cd.exit ?_
        refine thenQ_x ?_
        refine thenQ_x ?_
        refine blockQ_x ?_
        refine thenQ_n ?_
        refine Cd.seq ?_
        refine Cd.region ?_
        refine Ops.mv_sl rfl rfl rfl ?_
        refine Ops.mv_sl rfl rfl rfl ?_
        refine Ops.nil ?_
        refine thenQ_n ?_
        refine Cd.ret ?_
        refine ret1_s rfl ?_
        -- stop: end
        have hge : g = q + 1 + (min met (F - 1) - q) := by omega
        refine ⟨Ag, cg, new, rfl, hnew, ?_, hS4⟩
        rw [hxs]; congr 2; omega
  · refine Cd.draw [.ex (.int .i64 ((a : Int))), .ex (.int .i64 ((met : Int))), .ex (.int .i64 ((n : Int))), .ex (.int .i64 (((met * n : Nat) : Int))), .ex (.bool (false)), .ex (.bool (false)), .ex (undef), .ex (undef), .ex (undef), .ex (undef), .ex (undef), .ex (undef), .ex (undef), .ex (undef), .ex (undef), .ex (undef), .ex (undef), .ex (undef), .ex (.bool (false))] (by kernel_rfl) (by kernel_rfl) rfl (List.forall_mem_cons.2 ⟨Yd.lasts_ex _, (List.forall_mem_cons.2 ⟨Yd.lasts_ex _, (List.forall_mem_cons.2 ⟨Yd.lasts_ex _, (List.forall_mem_cons.2 ⟨Yd.lasts_ex _, (List.forall_mem_cons.2 ⟨Yd.lasts_ex _, (List.forall_mem_cons.2 ⟨Yd.lasts_ex _, (List.forall_mem_cons.2 ⟨Yd.lasts_ex _, (List.forall_mem_cons.2 ⟨Yd.lasts_ex _, (List.forall_mem_cons.2 ⟨Yd.lasts_ex _, (List.forall_mem_cons.2 ⟨Yd.lasts_ex _, (List.forall_mem_cons.2 ⟨Yd.lasts_ex _, (List.forall_mem_cons.2 ⟨Yd.lasts_ex _, (List.forall_mem_cons.2 ⟨Yd.lasts_ex _, (List.forall_mem_cons.2 ⟨Yd.lasts_ex _, (List.forall_mem_cons.2 ⟨Yd.lasts_ex _, (List.forall_mem_cons.2 ⟨Yd.lasts_ex _, (List.forall_mem_cons.2 ⟨Yd.lasts_ex _, (List.forall_mem_cons.2 ⟨Yd.lasts_ex _, (List.forall_mem_cons.2 ⟨Yd.lasts_ex _, (fun _ h => by cases h)⟩)⟩)⟩)⟩)⟩)⟩)⟩)⟩)⟩)⟩)⟩)⟩)⟩)⟩)⟩)⟩)⟩)⟩)⟩) ⟨?_, ?_, ?_, ?_, ?_, ?_, ?_, ?_, ?_, ?_, ?_, ?_, ?_, ?_, ?_, ?_, ?_, ?_, ?_, trivial⟩ ?_
    · intro e1 w1 hb hp hun
      refine Ops.mv_int rfl rfl rfl ?_
      refine Ops.nil ?_
      exact After.dn (Below.refl _ _) (by exact rfl)
    · intro e1 w1 hb hp hun
      refine Ops.mv_int rfl rfl rfl ?_
      refine Ops.nil ?_
      exact After.dn (Below.refl _ _) (by exact rfl)
    · intro e1 w1 hb hp hun
      refine Ops.mv_int rfl rfl rfl ?_
      refine Ops.nil ?_
      exact After.dn (Below.refl _ _) (by exact rfl)
    · intro e1 w1 hb hp hun
      refine Ops.mul rfl rfl rfl (by rw [hMn]; omega) ?_
      refine Ops.nil ?_
      exact After.dn (Below.refl _ _) (by exact rfl)
    · intro e1 w1 hb hp hun
      refine Ops.lss rfl rfl rfl ?_
      refine Ops.nil ?_
      exact After.dn (Below.refl _ _) (by exact congrArg Value.bool (decide_eq_false h1))
    · intro e1 w1 hb hp hun
      refine Ops.mv_bool rfl rfl rfl ?_
      refine Ops.nil ?_
      exact After.dn (Below.refl _ _) (by exact rfl)
    · intro e1 w1 hb hp hun
      refine Ops.skipg rfl rfl rfl rfl rfl ?_
      refine Ops.nil ?_
      exact After.dn (Below.refl _ _) (by exact rfl)
    · intro e1 w1 hb hp hun
      refine Ops.skipg rfl rfl rfl rfl rfl ?_
      refine Ops.nil ?_
      exact After.dn (Below.refl _ _) (by exact rfl)
    · intro e1 w1 hb hp hun
      refine Ops.skipg rfl rfl rfl rfl rfl ?_
      refine Ops.nil ?_
      exact After.dn (Below.refl _ _) (by exact rfl)
    · intro e1 w1 hb hp hun
      refine Ops.skipg rfl rfl rfl rfl rfl ?_
      refine Ops.nil ?_
      exact After.dn (Below.refl _ _) (by exact rfl)
    · intro e1 w1 hb hp hun
      refine Ops.skipg rfl rfl rfl rfl rfl ?_
      refine Ops.nil ?_
      exact After.dn (Below.refl _ _) (by exact rfl)
    · intro e1 w1 hb hp hun
      refine Ops.skipg rfl rfl rfl rfl rfl ?_
      refine Ops.nil ?_
      exact After.dn (Below.refl _ _) (by exact rfl)
    · intro e1 w1 hb hp hun
      refine Ops.skipg rfl rfl rfl rfl rfl ?_
      refine Ops.nil ?_
      exact After.dn (Below.refl _ _) (by exact rfl)
    · intro e1 w1 hb hp hun
      refine Ops.skipg rfl rfl rfl rfl rfl ?_
      refine Ops.nil ?_
      exact After.dn (Below.refl _ _) (by exact rfl)
    · intro e1 w1 hb hp hun
      refine Ops.skipg rfl rfl rfl rfl rfl ?_
      refine Ops.nil ?_
      exact After.dn (Below.refl _ _) (by exact rfl)
    · intro e1 w1 hb hp hun
      refine Ops.skipg rfl rfl rfl rfl rfl ?_
      refine Ops.nil ?_
      exact After.dn (Below.refl _ _) (by exact rfl)
    · intro e1 w1 hb hp hun
      refine Ops.skipg rfl rfl rfl rfl rfl ?_
      refine Ops.nil ?_
      exact After.dn (Below.refl _ _) (by exact rfl)
    · intro e1 w1 hb hp hun
      refine Ops.skipg rfl rfl rfl rfl rfl ?_
      refine Ops.nil ?_
      exact After.dn (Below.refl _ _) (by exact rfl)
    · intro e1 w1 hb hp hun
      refine Ops.pick_f rfl rfl rfl ?_
      refine Ops.nil ?_
      exact After.dn (Below.refl _ _) (by exact rfl)
    intro u w2 hb2 _
    have hS2 := hS1.later hb2
    have haE : a = met * n := by omega
    have hIa := hI.upto a (by have := hI.le; omega) (by omega) hk
    obtain ⟨f', rfl⟩ : ∃ f', fuel = f' + 1 + (a - at_) := ⟨fuel - 1 - (a - at_), by have := hI.le; have : met * n ≤ F * n := Nat.mul_le_mul_right n hmet; omega⟩
    have hgr : grow n F (okS F) (fun _ => true) (f' + 1 + (a - at_)) at_ met M = if met = F ∧ (fun (_ : List (List Int)) => true) M = true then [M] else [] := by
      rw [grow_skip (a - at_) (f' + 1) at_ (by have := hI.le; omega) (fun b h1 h2 => hk b (by omega)), show at_ + (a - at_) = met * n by have := hI.le; omega]
      show (if _ then _ else _) = _
      rw [if_pos rfl]
    rw [hgr] at hB ⊢
    refine thenQ_n ?_
    -- stop: cond
    refine Cd.cond_f rfl ?_
    refine Cd.exit ?_
    refine thenQ_x ?_
    refine thenQ_x ?_
    refine blockQ_x ?_
    refine thenQ_n ?_
    refine Cd.seq ?_
    refine Cd.seq ?_
    refine Cd.region ?_
    refine Ops.mv_int rfl rfl rfl ?_
    refine Ops.mv_int rfl rfl rfl ?_
    refine Ops.mv_int rfl rfl rfl ?_
    -- stop: BINOP mul 2 t41 t42 2 -> 43
    refine Ops.mul rfl rfl rfl (by rw [hMn]; omega) ?_
    refine Ops.eql rfl rfl rfl ?_
    refine Ops.nil ?_
    refine thenQ_n ?_
    -- stop: cond
    refine Cd.cond_pt rfl (by rw [hMn]; omega) ?_
    refine Cd.seq ?_
    refine Cd.seq ?_
    refine Cd.region ?_
    refine Ops.mv_int rfl rfl rfl ?_
    refine Ops.mv_int rfl rfl rfl ?_
    refine Ops.eql rfl rfl rfl ?_
    refine Ops.nil ?_
    refine thenQ_n ?_
    -- stop: cond
    refine Cd.cond_p _ rfl (fun h2 => ?_) (fun h2 => ?_)
    · have hmF : met = F := by omega
      rw [if_pos ⟨hmF, rfl⟩] at hB ⊢
      have hR2 := unOut hS2
      refine Cd.region ?_
      refine Ops.mv_sl rfl rfl rfl ?_
      refine Ops.mv_sl rfl rfl rfl ?_
      -- stop: CALL spec.l01Own2(t49) -> 50
      refine Ops.call (l01Own2_c A n c rs M _ hR2 (by omega) (fun i hi => by have := hR2.shp hI.shp (k := (i : Int)) (by omega) (by omega); simp only [rg, Int.toNat_natCast] at this; omega)) rfl rfl rfl ?_
      rintro _ w3 ⟨A3, c3, rs3, rfl, hl3, hst⟩
      have hS3 := (hS2.call hst).perm (perm_mid _ _ _ _)
      refine Ops.bld1 (by exact inferInstance) (by exact rfl) rfl rfl rfl ?_
      refine Ops.bs1A hS3 rfl rfl rfl ?_
      intro A4 w4 hS4
      refine Ops.appR 1 hS4 rfl (hS4.rdR 0 rfl) rfl rfl rfl (by simp at hB; omega) (by simp at hB; omega) rfl ?_
      intro A5 c5 w5 hS5
      refine Ops.mv_sl rfl rfl rfl ?_
      refine Ops.nil ?_
      refine thenQ_n ?_
      refine Cd.seq ?_
      refine Cd.region ?_
      refine Ops.mv_sl rfl rfl rfl ?_
      refine Ops.mv_sl rfl rfl rfl ?_
      refine Ops.nil ?_
      refine thenQ_n ?_
      refine Cd.ret ?_
      refine thenQ_r ?_
      refine ret1_s rfl ?_
      -- stop: end
      refine ⟨A5, c5, [⟨⟨A3, n, c3⟩, rs3, M⟩], rfl, fun m hm => ?_, rfl, ?_⟩
      · simp at hm; subst hm; exact hlen
      · have h6 := hS5.tail
        simpa [matsCk, MatV.cks] using h6
    · rw [if_neg (fun h => h2 (by rw [h.1]))]
      refine Cd.skip ?_
      refine thenQ_n ?_
      refine Cd.seq ?_
      refine Cd.region ?_
      refine Ops.mv_sl rfl rfl rfl ?_
      refine Ops.mv_sl rfl rfl rfl ?_
      refine Ops.nil ?_
      refine thenQ_n ?_
      refine Cd.ret ?_
      refine thenQ_r ?_
      refine ret1_s rfl ?_
      -- stop: end
      exact ⟨Ao, co, [], rfl, (fun m hm => by cases hm), rfl, by simpa [matsCk] using hS2⟩
end Go.Proofs.Ytpdhjnacnmfbjaa.Vc
