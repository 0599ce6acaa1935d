/-
  The texts G3, Gct, G4, G5, F1, F2, F3, L02, Lst, F5, K1 in one. Conditions: as each part states them.
-/
import Derived.Test.YtgobjpcankaicaaZf
import Derived.Test.YtgobjpcankaicaaZd
import Derived.KernelRfl
import Derived.Test.YtgobjpcankaicaaZb
import Derived.Test.YtgobjpcankaicaaZc
/-
  The walk of the reference's search for rooted forms. Conditions: as each states them.
-/
namespace Go.Proofs.Ytgobjpcankaicaa.Vc
open Go.RowKit

theorem l19Grow_c (n F : Nat) (hn5 : n ≤ 5) (hF : 2 ≤ F ∧ F ≤ 400) : ∀ (fuel at_ met : Nat) (M : List (List Int)), Inv n F M met at_ → F * n + 1 ≤ fuel + at_ → ∀ (w0 w : World) (ks : List Ck) (Ao : Option Addr) (no co : Nat) (outs : List SlV) (A : Option Addr) (c : Nat) (rs : List SlV),
    St w0 w (CkR 24 Ao no co outs :: (mat 33 2 A n c rs M ++ ks)) → no + (grow n F (okS F) (fun _ => true) fuel at_ met M).length ≤ 4000000000000 →
    Ret Try.prog 153 [.slice A n c, .int .i64 (F : Int), .int .i64 (met : Int), .slice Ao no co] w (fun v w' => ∃ A' c', ∃ new : List MatV, v = .slice A' (no + new.length) c' ∧ (∀ m ∈ new, m.ok) ∧ new.map (·.xss) = grow n F (okS F) (fun _ => true) fuel at_ met M ∧
      St w0 w' (CkR 24 A' (no + new.length) c' (outs ++ new.map (·.top)) :: (mat 33 2 A n c rs M ++ (matsCk 33 2 new ++ ks)))) := by
  intro fuel
  induction fuel using Nat.strongRecOn with
  | _ fuel ih =>
  intro at_ met M hI hfuel w0 w ks Ao no co outs A c rs hS hB
  have hn0 := hI.n0
  have hmet := hI.metF
  have hlen := hI.shp.1
  have hmn : met * n ≤ 2000 := Nat.le_trans (Nat.mul_le_mul hI.metF hn5) (by have : F * 5 ≤ 400 * 5 := Nat.mul_le_mul_right 5 hF.2
                                                                             omega)
  have hMn : ((met : Int) * (n : Int)) = ((met * n : Nat) : Int) := rfl
  have unOut : ∀ {w' : World} {o : Ck} {ks' : List Ck}, St w0 w' (o :: (mat 33 2 A n c rs M ++ ks')) → RowsI w' A n rs M := fun h => h.tail.rowsI hlen
  refine Ret.of_cd Try.func153 rfl Try.ntmps153 rfl (post1 rfl) ?_
  refine Cd.seq ?_
  refine Cd.region ?_
  refine Ops.mv_sl rfl rfl rfl ?_
  refine Ops.nil ?_
  refine thenQ_n ?_
  refine Cd.seq ?_
  refine Cd.region ?_
  refine Ops.mv_sl rfl rfl rfl ?_
  refine Ops.len rfl rfl ?_
  refine Ops.mv_int rfl rfl rfl ?_
  refine Ops.nil ?_
  refine thenQ_n ?_
  refine Cd.seq ?_
  refine Cd.region ?_
  refine Ops.mv_int rfl rfl rfl ?_
  refine Ops.nil ?_
  refine thenQ_n ?_
  refine Cd.seq ?_
  refine Cd.block ?_
  -- stop: loop
  refine Cd.loop (α := Nat) (fun a => [(0, .slice A n c), (1, .int .i64 (F : Int)), (2, .int .i64 (met : Int)), (3, .slice Ao no co), (9, .int .i64 (n : Int)), (10, .int .i64 (a : Int))]) (fun a w' => Below w.heap.size w w' ∧ a ≤ met * n ∧ ∀ b, b < a → 0 ≤ cell M (b % n) (b / n : Nat)) (fun a => met * n - a) 0 ⟨rfl, rfl, rfl, rfl, rfl, rfl, trivial⟩ ⟨Below.refl _ _, Nat.zero_le _, fun b hb => by omega⟩ ?_
  rintro a e w1 ⟨hb1, ha, hk⟩
  have hS1 := hS.later hb1
  have hR := unOut hS1
  refine Cd.seq ?_
  refine Cd.seq ?_
  -- stop: draw
  by_cases h1 : (a : Int) < ((met * n : Nat) : Int)
  · have hpos : a % n < n ∧ a / n < met := ⟨Nat.mod_lt _ hn0, Nat.div_lt_of_lt_mul (by rw [Nat.mul_comm]; omega)⟩
    have hrow := hR.at_ (i := ((a % n : Nat) : Int)) (Int.natCast_nonneg _) (by omega)
    have hrn := hR.shp hI.shp (k := ((a % n : Nat) : Int)) (Int.natCast_nonneg _) (by omega)
    generalize hr : a % n = r at *
    generalize hq : a / n = q at *
    have hmod : (a : Int) % (n : Int) = ((r : Nat) : Int) := by rw [← hr]; rfl
    have hdiv : (a : Int) / (n : Int) = ((q : Nat) : Int) := by rw [← hq]; rfl
    by_cases h2 : 0 ≤ cell M r (q : Int)
    · --dup 3
      refine Cd.draw [.ex (.int .i64 ((a : Int))), .ex (.int .i64 ((met : Int))), .ex (.int .i64 ((n : Int))), .ex (.int .i64 (((met * n : Nat) : Int))), .ex (.bool (true)), .ex (.bool (true)), .ex (.slice (A) (n) (c)), .ex (.int .i64 ((a : Int))), .ex (.int .i64 ((n : Int))), .ex (.int .i64 ((r : Int))), .ex (.pointer (ptrAt (A) ((r : Int)).toNat)), .ex (.slice ((rg (rs) ((r : Int))).a) ((rg (rs) ((r : Int))).n) ((rg (rs) ((r : Int))).c)), .ex (.int .i64 ((a : Int))), .ex (.int .i64 ((n : Int))), .ex (.int .i64 ((q : Int))), .ex (.pointer (ptrAt ((rg (rs) ((r : Int))).a) ((q : Int)).toNat)), .ex (.int .i64 (gi (gl M r) ((q : Int)))), .ex (.bool (true)), .ex (.bool (true))] (by kernel_rfl) (by kernel_rfl) rfl (List.forall_mem_cons.2 ⟨Yd.lasts_ex _, (List.forall_mem_cons.2 ⟨Yd.lasts_ex _, (List.forall_mem_cons.2 ⟨Yd.lasts_ex _, (List.forall_mem_cons.2 ⟨Yd.lasts_ex _, (List.forall_mem_cons.2 ⟨Yd.lasts_ex _, (List.forall_mem_cons.2 ⟨Yd.lasts_ex _, (List.forall_mem_cons.2 ⟨Yd.lasts_ex _, (List.forall_mem_cons.2 ⟨Yd.lasts_ex _, (List.forall_mem_cons.2 ⟨Yd.lasts_ex _, (List.forall_mem_cons.2 ⟨Yd.lasts_ex _, (List.forall_mem_cons.2 ⟨Yd.lasts_ex _, (List.forall_mem_cons.2 ⟨Yd.lasts_ex _, (List.forall_mem_cons.2 ⟨Yd.lasts_ex _, (List.forall_mem_cons.2 ⟨Yd.lasts_ex _, (List.forall_mem_cons.2 ⟨Yd.lasts_ex _, (List.forall_mem_cons.2 ⟨Yd.lasts_ex _, (List.forall_mem_cons.2 ⟨Yd.lasts_ex _, (List.forall_mem_cons.2 ⟨Yd.lasts_ex _, (List.forall_mem_cons.2 ⟨Yd.lasts_ex _, (fun _ h => by cases h)⟩)⟩)⟩)⟩)⟩)⟩)⟩)⟩)⟩)⟩)⟩)⟩)⟩)⟩)⟩)⟩)⟩)⟩)⟩) ⟨?_, ?_, ?_, ?_, ?_, ?_, ?_, ?_, ?_, ?_, ?_, ?_, ?_, ?_, ?_, ?_, ?_, ?_, ?_, trivial⟩ ?_
      · intro e1 w1 hb hp hun
        refine Ops.mv_int rfl rfl rfl ?_
        refine Ops.nil ?_
        exact After.dn (Below.refl _ _) (by exact rfl)
      · intro e1 w1 hb hp hun
        refine Ops.mv_int rfl rfl rfl ?_
        refine Ops.nil ?_
        exact After.dn (Below.refl _ _) (by exact rfl)
      · intro e1 w1 hb hp hun
        refine Ops.mv_int rfl rfl rfl ?_
        refine Ops.nil ?_
        exact After.dn (Below.refl _ _) (by exact rfl)
      · intro e1 w1 hb hp hun
        refine Ops.mul rfl rfl rfl (by rw [hMn]; omega) ?_
        refine Ops.nil ?_
        exact After.dn (Below.refl _ _) (by exact rfl)
      · intro e1 w1 hb hp hun
        refine Ops.lss rfl rfl rfl ?_
        refine Ops.nil ?_
        exact After.dn (Below.refl _ _) (by exact congrArg Value.bool (decide_eq_true h1))
      · intro e1 w1 hb hp hun
        refine Ops.mv_bool rfl rfl rfl ?_
        refine Ops.nil ?_
        exact After.dn (Below.refl _ _) (by exact rfl)
      · intro e1 w1 hb hp hun
        refine Ops.rung rfl rfl rfl ?_
        refine Ops.mv_sl rfl rfl rfl ?_
        refine Ops.nil ?_
        exact After.dn (Below.refl _ _) (by exact rfl)
      · intro e1 w1 hb hp hun
        refine Ops.rung rfl rfl rfl ?_
        refine Ops.mv_int rfl rfl rfl ?_
        refine Ops.nil ?_
        exact After.dn (Below.refl _ _) (by exact rfl)
      · intro e1 w1 hb hp hun
        refine Ops.rung rfl rfl rfl ?_
        refine Ops.mv_int rfl rfl rfl ?_
        refine Ops.nil ?_
        exact After.dn (Below.refl _ _) (by exact rfl)
      · intro e1 w1 hb hp hun
        refine Ops.rung rfl rfl rfl ?_
        refine Ops.rem rfl rfl rfl (by omega) ?_
        rw [hmod]
        refine Ops.nil ?_
        exact After.dn (Below.refl _ _) (by exact rfl)
      · intro e1 w1 hb hp hun
        refine Ops.rung rfl rfl rfl ?_
        refine Ops.idx (hR.top.later hb).2 rfl rfl rfl (by omega) (by omega) ?_
        refine Ops.nil ?_
        exact After.dn (Below.refl _ _) (by exact rfl)
      · intro e1 w1 hb hp hun
        refine Ops.rung rfl rfl rfl ?_
        refine Ops.ld_sl (hR.top.later hb) rfl (by omega) rfl rfl ?_
        refine Ops.nil ?_
        exact After.dn (Below.refl _ _) (by exact rfl)
      · intro e1 w1 hb hp hun
        refine Ops.rung rfl rfl rfl ?_
        refine Ops.mv_int rfl rfl rfl ?_
        refine Ops.nil ?_
        exact After.dn (Below.refl _ _) (by exact rfl)
      · intro e1 w1 hb hp hun
        refine Ops.rung rfl rfl rfl ?_
        refine Ops.mv_int rfl rfl rfl ?_
        refine Ops.nil ?_
        exact After.dn (Below.refl _ _) (by exact rfl)
      · intro e1 w1 hb hp hun
        refine Ops.rung rfl rfl rfl ?_
        refine Ops.quo rfl rfl rfl (by omega) ?_
        rw [hdiv]
        refine Ops.nil ?_
        exact After.dn (Below.refl _ _) (by exact rfl)
      · intro e1 w1 hb hp hun
        refine Ops.rung rfl rfl rfl ?_
        refine Ops.idx (hrow.later hb).2 rfl rfl rfl (by omega) (by omega) ?_
        refine Ops.nil ?_
        exact After.dn (Below.refl _ _) (by exact rfl)
      · intro e1 w1 hb hp hun
        refine Ops.rung rfl rfl rfl ?_
        refine Ops.ld_int (hrow.later hb) rfl (by omega) rfl rfl ?_
        refine Ops.nil ?_
        exact After.dn (Below.refl _ _) (by exact rfl)
      · intro e1 w1 hb hp hun
        refine Ops.rung rfl rfl rfl ?_
        refine Ops.geq rfl rfl rfl ?_
        refine Ops.nil ?_
        exact After.dn (Below.refl _ _) (by exact congrArg Value.bool (decide_eq_true h2))
      · intro e1 w1 hb hp hun
        refine Ops.pick_t rfl rfl rfl ?_
        refine Ops.nil ?_
        exact After.dn (Below.refl _ _) (by exact rfl)
      intro u w2 hb2 _
      have hb2 := hb1.trans (hb2.mono hb1.size)
      refine thenQ_n ?_
      -- stop: cond
      refine Cd.cond_t rfl ?_
      refine Cd.skip ?_
      refine thenQ_n ?_
      refine Cd.block ?_
      refine Cd.region ?_
      refine Ops.mv_int rfl rfl rfl ?_
      refine Ops.add rfl rfl rfl (by omega) ?_
      refine Ops.mv_int rfl rfl rfl ?_
      refine Ops.nil ?_
      refine blockQ_n ?_
      refine thenQ_n ?_
      -- stop: round
      refine ⟨a + 1, by omega, ⟨rfl, rfl, rfl, rfl, rfl, rfl, trivial⟩, hb2, by omega, fun b hb => ?_⟩
      by_cases eb : b = a
      · subst eb; rw [hr, hq]; exact h2
      · exact hk b (by omega)
    · refine Cd.draw [.ex (.int .i64 ((a : Int))), .ex (.int .i64 ((met : Int))), .ex (.int .i64 ((n : Int))), .ex (.int .i64 (((met * n : Nat) : Int))), .ex (.bool (true)), .ex (.bool (true)), .ex (.slice (A) (n) (c)), .ex (.int .i64 ((a : Int))), .ex (.int .i64 ((n : Int))), .ex (.int .i64 ((r : Int))), .ex (.pointer (ptrAt (A) ((r : Int)).toNat)), .ex (.slice ((rg (rs) ((r : Int))).a) ((rg (rs) ((r : Int))).n) ((rg (rs) ((r : Int))).c)), .ex (.int .i64 ((a : Int))), .ex (.int .i64 ((n : Int))), .ex (.int .i64 ((q : Int))), .ex (.pointer (ptrAt ((rg (rs) ((r : Int))).a) ((q : Int)).toNat)), .ex (.int .i64 (gi (gl M r) ((q : Int)))), .ex (.bool (false)), .ex (.bool (false))] (by kernel_rfl) (by kernel_rfl) rfl (List.forall_mem_cons.2 ⟨Yd.lasts_ex _, (List.forall_mem_cons.2 ⟨Yd.lasts_ex _, (List.forall_mem_cons.2 ⟨Yd.lasts_ex _, (List.forall_mem_cons.2 ⟨Yd.lasts_ex _, (List.forall_mem_cons.2 ⟨Yd.lasts_ex _, (List.forall_mem_cons.2 ⟨Yd.lasts_ex _, (List.forall_mem_cons.2 ⟨Yd.lasts_ex _, (List.forall_mem_cons.2 ⟨Yd.lasts_ex _, (List.forall_mem_cons.2 ⟨Yd.lasts_ex _, (List.forall_mem_cons.2 ⟨Yd.lasts_ex _, (List.forall_mem_cons.2 ⟨Yd.lasts_ex _, (List.forall_mem_cons.2 ⟨Yd.lasts_ex _, (List.forall_mem_cons.2 ⟨Yd.lasts_ex _, (List.forall_mem_cons.2 ⟨Yd.lasts_ex _, (List.forall_mem_cons.2 ⟨Yd.lasts_ex _, (List.forall_mem_cons.2 ⟨Yd.lasts_ex _, (List.forall_mem_cons.2 ⟨Yd.lasts_ex _, (List.forall_mem_cons.2 ⟨Yd.lasts_ex _, (List.forall_mem_cons.2 ⟨Yd.lasts_ex _, (fun _ h => by cases h)⟩)⟩)⟩)⟩)⟩)⟩)⟩)⟩)⟩)⟩)⟩)⟩)⟩)⟩)⟩)⟩)⟩)⟩)⟩) ⟨?_, ?_, ?_, ?_, ?_, ?_, ?_, ?_, ?_, ?_, ?_, ?_, ?_, ?_, ?_, ?_, ?_, ?_, ?_, trivial⟩ ?_
      · intro e1 w1 hb hp hun
        refine Ops.mv_int rfl rfl rfl ?_
        refine Ops.nil ?_
        exact After.dn (Below.refl _ _) (by exact rfl)
      · intro e1 w1 hb hp hun
        refine Ops.mv_int rfl rfl rfl ?_
        refine Ops.nil ?_
        exact After.dn (Below.refl _ _) (by exact rfl)
      · intro e1 w1 hb hp hun
        refine Ops.mv_int rfl rfl rfl ?_
        refine Ops.nil ?_
        exact After.dn (Below.refl _ _) (by exact rfl)
      · intro e1 w1 hb hp hun
        refine Ops.mul rfl rfl rfl (by rw [hMn]; omega) ?_
        refine Ops.nil ?_
        exact After.dn (Below.refl _ _) (by exact rfl)
      · intro e1 w1 hb hp hun
        refine Ops.lss rfl rfl rfl ?_
        refine Ops.nil ?_
        exact After.dn (Below.refl _ _) (by exact congrArg Value.bool (decide_eq_true h1))
      · intro e1 w1 hb hp hun
        refine Ops.mv_bool rfl rfl rfl ?_
        refine Ops.nil ?_
        exact After.dn (Below.refl _ _) (by exact rfl)
      · intro e1 w1 hb hp hun
        refine Ops.rung rfl rfl rfl ?_
        refine Ops.mv_sl rfl rfl rfl ?_
        refine Ops.nil ?_
        exact After.dn (Below.refl _ _) (by exact rfl)
      · intro e1 w1 hb hp hun
        refine Ops.rung rfl rfl rfl ?_
        refine Ops.mv_int rfl rfl rfl ?_
        refine Ops.nil ?_
        exact After.dn (Below.refl _ _) (by exact rfl)
      · intro e1 w1 hb hp hun
        refine Ops.rung rfl rfl rfl ?_
        refine Ops.mv_int rfl rfl rfl ?_
        refine Ops.nil ?_
        exact After.dn (Below.refl _ _) (by exact rfl)
      · intro e1 w1 hb hp hun
        refine Ops.rung rfl rfl rfl ?_
        refine Ops.rem rfl rfl rfl (by omega) ?_
        rw [hmod]
        refine Ops.nil ?_
        exact After.dn (Below.refl _ _) (by exact rfl)
      · intro e1 w1 hb hp hun
        refine Ops.rung rfl rfl rfl ?_
        refine Ops.idx (hR.top.later hb).2 rfl rfl rfl (by omega) (by omega) ?_
        refine Ops.nil ?_
        exact After.dn (Below.refl _ _) (by exact rfl)
      · intro e1 w1 hb hp hun
        refine Ops.rung rfl rfl rfl ?_
        refine Ops.ld_sl (hR.top.later hb) rfl (by omega) rfl rfl ?_
        refine Ops.nil ?_
        exact After.dn (Below.refl _ _) (by exact rfl)
      · intro e1 w1 hb hp hun
        refine Ops.rung rfl rfl rfl ?_
        refine Ops.mv_int rfl rfl rfl ?_
        refine Ops.nil ?_
        exact After.dn (Below.refl _ _) (by exact rfl)
      · intro e1 w1 hb hp hun
        refine Ops.rung rfl rfl rfl ?_
        refine Ops.mv_int rfl rfl rfl ?_
        refine Ops.nil ?_
        exact After.dn (Below.refl _ _) (by exact rfl)
      · intro e1 w1 hb hp hun
        refine Ops.rung rfl rfl rfl ?_
        refine Ops.quo rfl rfl rfl (by omega) ?_
        rw [hdiv]
        refine Ops.nil ?_
        exact After.dn (Below.refl _ _) (by exact rfl)
      · intro e1 w1 hb hp hun
        refine Ops.rung rfl rfl rfl ?_
        refine Ops.idx (hrow.later hb).2 rfl rfl rfl (by omega) (by omega) ?_
        refine Ops.nil ?_
        exact After.dn (Below.refl _ _) (by exact rfl)
      · intro e1 w1 hb hp hun
        refine Ops.rung rfl rfl rfl ?_
        refine Ops.ld_int (hrow.later hb) rfl (by omega) rfl rfl ?_
        refine Ops.nil ?_
        exact After.dn (Below.refl _ _) (by exact rfl)
      · intro e1 w1 hb hp hun
        refine Ops.rung rfl rfl rfl ?_
        refine Ops.geq rfl rfl rfl ?_
        refine Ops.nil ?_
        exact After.dn (Below.refl _ _) (by exact congrArg Value.bool (decide_eq_false h2))
      · intro e1 w1 hb hp hun
        refine Ops.pick_t rfl rfl rfl ?_
        refine Ops.nil ?_
        exact After.dn (Below.refl _ _) (by exact rfl)
      intro u w2 hb2 _
      have hS2 := hS1.later hb2
      refine thenQ_n ?_
      -- stop: cond
      refine Cd.cond_f rfl ?_
      refine Cd.exit ?_
      refine thenQ_x ?_
      refine thenQ_x ?_
      refine blockQ_x ?_
      refine thenQ_n ?_
      refine Cd.seq ?_
      refine Cd.seq ?_
      refine Cd.region ?_
      refine Ops.mv_int rfl rfl rfl ?_
      refine Ops.mv_int rfl rfl rfl ?_
      refine Ops.mv_int rfl rfl rfl ?_
      -- stop: BINOP mul 2 t41 t42 2 -> 43
      refine Ops.mul rfl rfl rfl (by rw [hMn]; omega) ?_
      refine Ops.eql rfl rfl rfl ?_
      refine Ops.nil ?_
      refine thenQ_n ?_
      -- stop: cond
      refine Cd.cond_pf rfl (by rw [hMn]; omega) ?_
      refine Cd.skip ?_
      refine thenQ_n ?_
      refine Cd.seq ?_
      -- stop: draw
      refine Cd.draw [.ex (.int .i64 ((a : Int))), .ex (.int .i64 ((n : Int))), .ex (.int .i64 ((q : Int))), .ex (.int .i64 ((a : Int))), .ex (.int .i64 ((n : Int))), .ex (.int .i64 ((r : Int))), .ex (.int .i64 ((q : Int))), .ex (.int .i64 ((r : Int)))] (by kernel_rfl) (by kernel_rfl) rfl (List.forall_mem_cons.2 ⟨Yd.lasts_ex _, (List.forall_mem_cons.2 ⟨Yd.lasts_ex _, (List.forall_mem_cons.2 ⟨Yd.lasts_ex _, (List.forall_mem_cons.2 ⟨Yd.lasts_ex _, (List.forall_mem_cons.2 ⟨Yd.lasts_ex _, (List.forall_mem_cons.2 ⟨Yd.lasts_ex _, (List.forall_mem_cons.2 ⟨Yd.lasts_ex _, (List.forall_mem_cons.2 ⟨Yd.lasts_ex _, (fun _ h => by cases h)⟩)⟩)⟩)⟩)⟩)⟩)⟩)⟩) ⟨?_, ?_, ?_, ?_, ?_, ?_, ?_, ?_, trivial⟩ ?_
      · intro e1 w1 hb hp hun
        refine Ops.mv_int rfl rfl rfl ?_
        refine Ops.nil ?_
        exact After.dn (Below.refl _ _) (by exact rfl)
      · intro e1 w1 hb hp hun
        refine Ops.mv_int rfl rfl rfl ?_
        refine Ops.nil ?_
        exact After.dn (Below.refl _ _) (by exact rfl)
      · intro e1 w1 hb hp hun
        refine Ops.quo rfl rfl rfl (by omega) ?_
        rw [hdiv]
        refine Ops.nil ?_
        exact After.dn (Below.refl _ _) (by exact rfl)
      · intro e1 w1 hb hp hun
        refine Ops.mv_int rfl rfl rfl ?_
        refine Ops.nil ?_
        exact After.dn (Below.refl _ _) (by exact rfl)
      · intro e1 w1 hb hp hun
        refine Ops.mv_int rfl rfl rfl ?_
        refine Ops.nil ?_
        exact After.dn (Below.refl _ _) (by exact rfl)
      · intro e1 w1 hb hp hun
        refine Ops.rem rfl rfl rfl (by omega) ?_
        rw [hmod]
        refine Ops.nil ?_
        exact After.dn (Below.refl _ _) (by exact rfl)
      · intro e1 w1 hb hp hun
        refine Ops.mv_int rfl rfl rfl ?_
        refine Ops.nil ?_
        exact After.dn (Below.refl _ _) (by exact rfl)
      · intro e1 w1 hb hp hun
        refine Ops.mv_int rfl rfl rfl ?_
        refine Ops.nil ?_
        exact After.dn (Below.refl _ _) (by exact rfl)
      intro u w3 hb3 _
      have hS3 := hS2.later hb3
      refine thenQ_n ?_
      refine Cd.seq ?_
      refine Cd.seq ?_
      refine Cd.region ?_
      refine Ops.mv_int rfl rfl rfl ?_
      refine Ops.add rfl rfl rfl (by omega) ?_
      refine Ops.mv_int rfl rfl rfl ?_
      refine Ops.nil ?_
      refine thenQ_n ?_
      refine Cd.block ?_
      -- stop: loop
      have hIa := hI.upto a (by
          apply Classical.byContradiction
          intro hlt
          exact h2 (by rw [← hr, ← hq]; exact hI.known a (by omega))) (by omega) hk
      have haM : a ≠ met * n := by omega
      have hmnF : met * n ≤ F * n := Nat.mul_le_mul_right n hmet
      have hat : at_ ≤ a := by
        apply Classical.byContradiction
        intro hlt
        exact h2 (by rw [← hr, ← hq]; exact hI.known a (by omega))
      obtain ⟨f', rfl⟩ : ∃ f', fuel = f' + 1 + (a - at_) := ⟨fuel - 1 - (a - at_), by omega⟩
      have hun : ¬ 0 ≤ cell M (a % n) (a / n : Nat) := by rw [hr, hq]; exact h2
      have hgr : grow n F (okS F) (fun _ => true) (f' + 1 + (a - at_)) at_ met M = (List.range' (q + 1) (min met (F - 1) - q)).flatMap (body n F (okS F) (fun _ => true) f' a met M) := by
        rw [grow_skip (a - at_) (f' + 1) at_ (by omega) (fun b h1 h2 => hk b (by omega)), show at_ + (a - at_) = a by omega, grow_body haM hun, hq]
      rw [hgr] at hB ⊢
      refine Cd.loop (α := Nat × Option Addr × Nat × List MatV) (fun z => [(0, .slice A n c), (1, .int .i64 (F : Int)), (2, .int .i64 (met : Int)), (3, .slice z.2.1 (no + z.2.2.2.length) z.2.2.1), (9, .int .i64 (n : Int)), (11, .int .i64 (q : Int)), (12, .int .i64 (r : Int)), (13, .int .i64 (z.1 : Int))])
        (fun z w' => St w0 w' (CkR 24 z.2.1 (no + z.2.2.2.length) z.2.2.1 (outs ++ z.2.2.2.map (·.top)) :: (mat 33 2 A n c rs M ++ (matsCk 33 2 z.2.2.2 ++ ks))) ∧ q + 1 ≤ z.1 ∧ z.1 ≤ q + 1 + (min met (F - 1) - q) ∧ (∀ m ∈ z.2.2.2, m.ok) ∧ z.2.2.2.map (·.xss) = (List.range' (q + 1) (z.1 - (q + 1))).flatMap (body n F (okS F) (fun _ => true) f' a met M))
        (fun z => q + 2 + (min met (F - 1) - q) - z.1) (q + 1, Ao, co, []) ⟨rfl, rfl, rfl, rfl, rfl, rfl, rfl, rfl, trivial⟩ ⟨by simpa [matsCk] using hS3, Nat.le_refl _, Nat.le_add_right _ _, (fun m hm => by cases hm), by simp⟩ ?_
      rintro ⟨g, Ag, cg, new⟩ e w4 ⟨hS4, hg1, hg2, hnew, hxs⟩
      dsimp only at hS4 hg1 hg2 hnew hxs ⊢
      refine Cd.seq ?_
      refine Cd.seq ?_
      refine Cd.region ?_
      refine Ops.mv_int rfl rfl rfl ?_
      refine Ops.mv_int rfl rfl rfl ?_
      refine Ops.leq rfl rfl rfl ?_
      refine Ops.mv_bool rfl rfl rfl ?_
      -- stop: guard 66
      refine Ops.split_p 66 rfl (fun h3 => ?_) (fun h3 => ?_)
      · refine Ops.rung rfl rfl rfl ?_
        refine Ops.mv_int rfl rfl rfl ?_
        refine Ops.rung rfl rfl rfl ?_
        refine Ops.mv_int rfl rfl rfl ?_
        refine Ops.rung rfl rfl rfl ?_
        refine Ops.lss rfl rfl rfl ?_
        refine Ops.pick_t rfl rfl rfl ?_
        refine Ops.nil ?_
        refine thenQ_n ?_
        -- stop: cond
        refine Cd.cond_p _ rfl (fun h4 => ?_) (fun h4 => ?_)
        · have hgm : g < q + 1 + (min met (F - 1) - q) := by omega
          have hR4 := unOut hS4
          have hrow := hR4.at_ (i := (r : Int)) (by omega) (by omega)
          have hstep := range_step (body n F (okS F) (fun _ => true) f' a met M) hg1 hgm
          have hrest := range_rest (body n F (okS F) (fun _ => true) f' a met M) hg1 hgm
          have hnl : new.length = ((List.range' (q + 1) (g - (q + 1))).flatMap (body n F (okS F) (fun _ => true) f' a met M)).length := by rw [← hxs]; simp
          refine Cd.skip ?_
          refine thenQ_n ?_
          refine Cd.seq ?_
          refine Cd.block ?_
          refine Cd.seq ?_
          refine Cd.seq ?_
          refine Cd.region ?_
          refine Ops.mv_sl rfl rfl rfl ?_
          refine Ops.mv_int rfl rfl rfl ?_
          -- stop: INDEXADDR 22 t73 t74 -> 75
          refine Ops.idx hR4.top.2 rfl rfl rfl (by omega) (by omega) ?_
          refine Ops.ld_sl hR4.top rfl (by omega) rfl rfl ?_
          refine Ops.mv_int rfl rfl rfl ?_
          -- stop: INDEXADDR 33 t76 t77 -> 78
          refine Ops.idx hrow.2 rfl rfl rfl (by omega) (by omega) ?_
          refine Ops.ld_int hrow rfl (by omega) rfl rfl ?_
          refine Ops.geq rfl rfl rfl ?_
          refine Ops.nil ?_
          refine thenQ_n ?_
          -- stop: cond
          refine Cd.cond_p _ rfl (fun h5 => ?_) (fun h5 => ?_)
          · have hbd : body n F (okS F) (fun _ => true) f' a met M g = [] := by unfold body; rw [hr, if_pos (show 0 ≤ cell M r g from h5)]
            refine Cd.exit ?_
            refine thenQ_x ?_
            refine blockQ_x ?_
            refine thenQ_n ?_
            refine Cd.region ?_
            refine Ops.mv_int rfl rfl rfl ?_
            refine Ops.add rfl rfl rfl (by omega) ?_
            refine Ops.mv_int rfl rfl rfl ?_
            refine Ops.nil ?_
            refine thenQ_n ?_
            -- stop: round
            refine ⟨(g + 1, Ag, cg, new), by show _ - (g + 1) < _ - g; omega, ⟨rfl, rfl, rfl, rfl, rfl, rfl, rfl, rfl, trivial⟩, hS4, by show q + 1 ≤ g + 1; omega, by show g + 1 ≤ _; omega, hnew, ?_⟩
            show new.map _ = (List.range' (q + 1) (g + 1 - (q + 1))).flatMap _
            rw [hstep, hbd, List.append_nil, hxs]
          · refine Cd.skip ?_
            refine thenQ_n ?_
            refine Cd.seq ?_
            refine Cd.region ?_
            refine Ops.mv_sl rfl rfl rfl ?_
            -- stop: CALL spec.l01Own2(t81) -> 82
            refine Ops.call (l01Own2_c A n c rs M _ hR4 (by omega) (fun i hi => by have := hR4.shp hI.shp (k := (i : Int)) (by omega) (by omega); simp only [rg, Int.toNat_natCast] at this; omega)) rfl rfl rfl ?_
            rintro _ w5 ⟨A5, c5, rs5, rfl, hl5, hst⟩
            have hS5 := hS4.call hst
            have hR5 := hS5.rowsI hlen
            have hrow5 := hR5.at_ (i := (r : Int)) (by omega) (by omega)
            have hn5 := hR5.shp hI.shp (k := (r : Int)) (by omega) (by omega)
            refine Ops.mv_sl rfl rfl rfl ?_
            refine Ops.nil ?_
            refine thenQ_n ?_
            refine Cd.seq ?_
            refine Cd.region ?_
            refine Ops.mv_sl rfl rfl rfl ?_
            refine Ops.mv_int rfl rfl rfl ?_
            -- stop: INDEXADDR 22 t83 t84 -> 85
            refine Ops.idx hR5.top.2 rfl rfl rfl (by omega) (by omega) ?_
            refine Ops.ld_sl hR5.top rfl (by omega) rfl rfl ?_
            refine Ops.mv_int rfl rfl rfl ?_
            refine Ops.mv_int rfl rfl rfl ?_
            -- stop: INDEXADDR 33 t86 t87 -> 89
            refine Ops.idx hrow5.2 rfl rfl rfl (by omega) (by omega) ?_
            refine Ops.st_row (pre := []) r (f := (q : Int)) hS5 (by omega) (by omega) rfl rfl (by omega) ?_
            intro w6 hS6
            have hS6 : St w0 w6 (mat 33 2 A5 n c5 rs5 (setc M r q g) ++ (CkR 24 Ag (no + new.length) cg (outs ++ new.map (·.top)) :: (mat 33 2 A n c rs M ++ (matsCk 33 2 new ++ ks)))) := hS6
            have hsh6 := hI.shp.setc hpos.1 q (g : Int)
            have hR6 := hS6.rowsI hsh6.1
            have hrow6 := hR6.at_ (i := (r : Int)) (by omega) (by omega)
            have hl6 := hsh6.1
            refine Ops.nil ?_
            refine thenQ_n ?_
            refine Cd.seq ?_
            refine Cd.region ?_
            refine Ops.mv_sl rfl rfl rfl ?_
            refine Ops.mv_int rfl rfl rfl ?_
            -- stop: INDEXADDR 22 t90 t91 -> 92
            refine Ops.idx hR6.top.2 rfl rfl rfl (by omega) (by omega) ?_
            refine Ops.ld_sl hR6.top rfl (by omega) rfl rfl ?_
            refine Ops.mv_int rfl rfl rfl ?_
            refine Ops.mv_int rfl rfl rfl ?_
            -- stop: INDEXADDR 33 t93 t94 -> 96
            refine Ops.idx hrow6.2 rfl rfl rfl (by omega) (by omega) ?_
            refine Ops.st_row (pre := []) r (f := (g : Int)) hS6 (by omega) (by omega) rfl rfl (by omega) ?_
            intro w7 hS7
            have hS7 : St w0 w7 (mat 33 2 A5 n c5 rs5 (put M r q g) ++ (CkR 24 Ag (no + new.length) cg (outs ++ new.map (·.top)) :: (mat 33 2 A n c rs M ++ (matsCk 33 2 new ++ ks)))) := hS7
            have hI7 := hIa.put haM hun (g := g) (by omega) (by omega) (by omega) (by rw [hr]; exact h5)
            rw [hr, hq] at hI7
            have hbd : body n F (okS F) (fun _ => true) f' a met M g = if okS F (put M r q g) r q = true then grow n F (okS F) (fun _ => true) f' (a + 1) (max met (g + 1)) (put M r q g) else [] := by
              unfold body
              rw [hr, hq, if_neg (show ¬ 0 ≤ cell M r g from h5)]
            generalize hM' : put M r q g = M' at *
            have hl7 := hI7.shp.1
            refine Ops.nil ?_
            refine thenQ_n ?_
            refine Cd.seq ?_
            refine Cd.region ?_
            refine Ops.mv_bool rfl rfl rfl ?_
            refine Ops.nil ?_
            refine thenQ_n ?_
            -- stop: join
            refine Cd.join (α := Bool) (fun z => [(0, .slice A n c), (1, .int .i64 (F : Int)), (2, .int .i64 (met : Int)), (3, .slice Ag (no + new.length) cg), (9, .int .i64 (n : Int)), (11, .int .i64 (q : Int)), (12, .int .i64 (r : Int)), (13, .int .i64 (g : Int)), (14, .slice A5 n c5), (15, .bool z)])
              (fun z w' => St w0 w' (mat 33 2 A5 n c5 rs5 M' ++ (CkR 24 Ag (no + new.length) cg (outs ++ new.map (·.top)) :: (mat 33 2 A n c rs M ++ (matsCk 33 2 new ++ ks)))) ∧ z = okS F M' r q) ?_ ?_
            · refine Cd.seq ?_
              refine Cd.region ?_
              refine Ops.mv_int rfl rfl rfl ?_
              refine Ops.nil ?_
              refine thenQ_n ?_
              refine Cd.block ?_
              -- stop: loop
              refine Cd.loop (α := Nat × Bool) (fun z => [(0, .slice A n c), (1, .int .i64 (F : Int)), (2, .int .i64 (met : Int)), (3, .slice Ag (no + new.length) cg), (9, .int .i64 (n : Int)), (11, .int .i64 (q : Int)), (12, .int .i64 (r : Int)), (13, .int .i64 (g : Int)), (14, .slice A5 n c5), (15, .bool z.2), (16, .int .i64 (z.1 : Int))])
                (fun z w' => St w0 w' (mat 33 2 A5 n c5 rs5 M' ++ (CkR 24 Ag (no + new.length) cg (outs ++ new.map (·.top)) :: (mat 33 2 A n c rs M ++ (matsCk 33 2 new ++ ks)))) ∧ z.1 ≤ F ∧ z.2 = decide (∀ e', e' < z.1 → FitsAll M' (e' : Nat)))
                (fun z => F - z.1) (0, true) ⟨rfl, rfl, rfl, rfl, rfl, rfl, rfl, rfl, rfl, rfl, rfl, trivial⟩ ⟨hS7, Nat.zero_le _, (decide_eq_true (fun e' he => absurd he (by omega))).symm⟩ ?_
              rintro ⟨ee, good⟩ e w8 ⟨hS8, hee, hgood⟩
              dsimp only at hS8 hee hgood ⊢
              refine Cd.seq ?_
              refine Cd.seq ?_
              refine Cd.region ?_
              refine Ops.mv_int rfl rfl rfl ?_
              refine Ops.mv_int rfl rfl rfl ?_
              refine Ops.lss rfl rfl rfl ?_
              refine Ops.mv_bool rfl rfl rfl ?_
              -- stop: guard 100
              refine Ops.split_p 100 rfl (fun h6 => ?_) (fun h6 => ?_)
              · refine Ops.rung rfl rfl rfl ?_
                refine Ops.mv_bool rfl rfl rfl ?_
                refine Ops.pick_t rfl rfl rfl ?_
                refine Ops.nil ?_
                refine thenQ_n ?_
                -- stop: cond
                refine Cd.cond rfl (fun h7 => ?_) (fun h7 => ?_)
                · refine Cd.skip ?_
                  refine thenQ_n ?_
                  refine Cd.seq ?_
                  refine Cd.block ?_
                  refine Cd.region ?_
                  refine Ops.mv_sl rfl rfl rfl ?_
                  refine Ops.mv_int rfl rfl rfl ?_
                  -- stop: CALL spec.l19Fits(t105, t106) -> 107
                  refine Ops.call (l19Fits_c A5 n c5 F rs5 M' ee _ (hS8.rowsI hl7) hI7.shp hI7.rng (by omega) (by omega)) rfl rfl rfl ?_
                  rintro _ w9 ⟨rfl, hst⟩
                  refine Ops.mv_bool rfl rfl rfl ?_
                  refine Ops.nil ?_
                  refine blockQ_n ?_
                  refine thenQ_n ?_
                  refine Cd.region ?_
                  refine Ops.mv_int rfl rfl rfl ?_
                  refine Ops.add rfl rfl rfl (by omega) ?_
                  refine Ops.mv_int rfl rfl rfl ?_
                  refine Ops.nil ?_
                  refine thenQ_n ?_
                  -- stop: round
                  refine ⟨(ee + 1, decide (FitsAll M' (ee : Int))), by show F - (ee + 1) < F - ee; omega, ⟨rfl, rfl, rfl, rfl, rfl, rfl, rfl, rfl, rfl, rfl, rfl, trivial⟩, hS8.later hst.below, by show ee + 1 ≤ F; omega, ?_⟩
                  rw [h7] at hgood
                  have hall := of_decide_eq_true hgood.symm
                  refine decide_eq_decide.2 ⟨fun hf e' he' => ?_, fun hf => hf ee (by omega)⟩
                  by_cases ee' : e' = ee
                  · subst ee'; exact hf
                  · exact hall e' (by omega)
                · refine Cd.exit ?_
                  refine thenQ_x ?_
                  refine thenQ_x ?_
                  refine blockQ_x ?_
                  refine thenQ_n ?_
                  -- stop: round
                  refine ⟨false, ⟨rfl, rfl, rfl, rfl, rfl, rfl, rfl, rfl, rfl, by rw [← h7]; rfl, trivial⟩, hS8, ?_⟩
                  rw [h7] at hgood
                  have hnot := of_decide_eq_false hgood.symm
                  exact (decide_eq_false (fun hf => hnot (fun e' he' => hf e' (by omega)))).symm
              · refine Ops.skipg rfl rfl rfl rfl rfl ?_
                refine Ops.pick_f rfl rfl rfl ?_
                refine Ops.nil ?_
                refine thenQ_n ?_
                -- stop: cond
                refine Cd.cond_f rfl ?_
                refine Cd.exit ?_
                refine thenQ_x ?_
                refine thenQ_x ?_
                refine blockQ_x ?_
                refine thenQ_n ?_
                -- stop: round
                have : ee = F := by omega
                subst this
                exact ⟨good, ⟨rfl, rfl, rfl, rfl, rfl, rfl, rfl, rfl, rfl, rfl, trivial⟩, hS8, hgood⟩
            · rintro good e w8 ⟨hS8, hgood⟩
              refine Cd.seq ?_
              refine Cd.region ?_
              refine Ops.mv_bool rfl rfl rfl ?_
              refine Ops.nil ?_
              refine thenQ_n ?_
              -- stop: cond
              refine Cd.cond rfl (fun h7 => ?_) (fun h7 => ?_)
              · rw [h7] at hgood
                rw [← hgood, if_pos rfl] at hbd
                rw [hbd] at hrest hstep
                have hmx : max (met : Int) ((g : Int) + 1) = ((max met (g + 1) : Nat) : Int) := by omega
                refine Cd.region ?_
                refine Ops.mv_sl rfl rfl rfl ?_
                refine Ops.mv_int rfl rfl rfl ?_
                refine Ops.mv_int rfl rfl rfl ?_
                refine Ops.mv_int rfl rfl rfl ?_
                refine Ops.add rfl rfl rfl (by omega) ?_
                -- stop: BUILTIN max(t111, t113) -> 114
                refine Ops.maxI rfl rfl rfl ?_
                rw [hmx]
                refine Ops.mv_sl rfl rfl rfl ?_
                -- stop: CALL spec.l19Grow(t109, t110, t114, t115) -> 116
                refine Ops.call (ih f' (by omega) (a + 1) (max met (g + 1)) M' hI7 (by omega) w0 w8 (mat 33 2 A n c rs M ++ (matsCk 33 2 new ++ ks)) Ag (no + new.length) cg (outs ++ new.map (·.top)) A5 c5 rs5 (hS8.perm List.perm_middle) (by omega)) rfl rfl rfl ?_
                rintro _ w9 ⟨A9, c9, new9, rfl, hok9, hx9, hS9⟩
                refine Ops.mv_sl rfl rfl rfl ?_
                refine Ops.nil ?_
                refine blockQ_n ?_
                refine thenQ_n ?_
                refine Cd.region ?_
                refine Ops.mv_int rfl rfl rfl ?_
                refine Ops.add rfl rfl rfl (by omega) ?_
                refine Ops.mv_int rfl rfl rfl ?_
                refine Ops.nil ?_
                refine thenQ_n ?_
                -- stop: round
                refine ⟨(g + 1, A9, c9, new ++ new9), by show _ - (g + 1) < _ - g; omega, ⟨rfl, rfl, rfl, by show Value.slice _ _ _ = Value.slice _ _ _; rw [List.length_append, Nat.add_assoc], rfl, rfl, rfl, rfl, trivial⟩, ?_, by show q + 1 ≤ g + 1; omega, by show g + 1 ≤ _; omega, fun m hm => ?_, ?_⟩
                · show St w0 w9 (CkR _ A9 (no + (new ++ new9).length) c9 (outs ++ (new ++ new9).map (·.top)) :: (mat _ _ A n c rs M ++ (matsCk _ _ (new ++ new9) ++ ks)))
                  rw [List.length_append, List.map_append, matsCk_append, ← Nat.add_assoc, ← List.append_assoc]
                  exact (hS9.sub (List.Sublist.cons_cons _ (List.sublist_append_right _ _))).perm (List.Perm.cons _ (perm_four _ _ _ _))
                · rcases List.mem_append.1 hm with hm | hm
                  · exact hnew m hm
                  · exact hok9 m hm
                · show (new ++ new9).map _ = (List.range' (q + 1) (g + 1 - (q + 1))).flatMap _
                  rw [hstep, List.map_append, hxs, hx9]
              · rw [h7] at hgood
                rw [← hgood, if_neg (by simp)] at hbd
                refine Cd.skip ?_
                refine blockQ_n ?_
                refine thenQ_n ?_
                refine Cd.region ?_
                refine Ops.mv_int rfl rfl rfl ?_
                refine Ops.add rfl rfl rfl (by omega) ?_
                refine Ops.mv_int rfl rfl rfl ?_
                refine Ops.nil ?_
                refine thenQ_n ?_
                -- stop: round
                refine ⟨(g + 1, Ag, cg, new), by show _ - (g + 1) < _ - g; omega, ⟨rfl, rfl, rfl, rfl, rfl, rfl, rfl, rfl, trivial⟩, hS8.unmat, by show q + 1 ≤ g + 1; omega, by show g + 1 ≤ _; omega, hnew, ?_⟩
                show new.map _ = (List.range' (q + 1) (g + 1 - (q + 1))).flatMap _
                rw [hstep, hbd, List.append_nil, hxs]
        · refine Cd.exit ?_
          refine thenQ_x ?_
          refine thenQ_x ?_
          refine blockQ_x ?_
          refine thenQ_n ?_
          refine Cd.seq ?_
          refine Cd.region ?_
          refine Ops.mv_sl rfl rfl rfl ?_
          refine Ops.mv_sl rfl rfl rfl ?_
          refine Ops.nil ?_
          refine thenQ_n ?_
          refine Cd.ret ?_
          refine ret1_s rfl ?_
          -- stop: end
          have hge : g = q + 1 + (min met (F - 1) - q) := by omega
          refine ⟨Ag, cg, new, rfl, hnew, ?_, hS4⟩
          rw [hxs]; congr 2; omega
      · refine Ops.skipg rfl rfl rfl rfl rfl ?_
        refine Ops.skipg rfl rfl rfl rfl rfl ?_
        refine Ops.skipg rfl rfl rfl rfl rfl ?_
        refine Ops.pick_f rfl rfl rfl ?_
        refine Ops.nil ?_
        refine thenQ_n ?_
        -- stop: cond
        refine Cd.cond_f rfl ?_
        refine Cd.exit ?_
        refine thenQ_x ?_
        refine thenQ_x ?_
        refine blockQ_x ?_
        refine thenQ_n ?_
        refine Cd.seq ?_
        refine Cd.region ?_
        refine Ops.mv_sl rfl rfl rfl ?_
        refine Ops.mv_sl rfl rfl rfl ?_
        refine Ops.nil ?_
        refine thenQ_n ?_
        refine Cd.ret ?_
        refine ret1_s rfl ?_
        -- stop: end
        have hge : g = q + 1 + (min met (F - 1) - q) := by omega
        refine ⟨Ag, cg, new, rfl, hnew, ?_, hS4⟩
        rw [hxs]; congr 2; omega
  · refine Cd.draw [.ex (.int .i64 ((a : Int))), .ex (.int .i64 ((met : Int))), .ex (.int .i64 ((n : Int))), .ex (.int .i64 (((met * n : Nat) : Int))), .ex (.bool (false)), .ex (.bool (false)), .ex (undef), .ex (undef), .ex (undef), .ex (undef), .ex (undef), .ex (undef), .ex (undef), .ex (undef), .ex (undef), .ex (undef), .ex (undef), .ex (undef), .ex (.bool (false))] (by kernel_rfl) (by kernel_rfl) rfl (List.forall_mem_cons.2 ⟨Yd.lasts_ex _, (List.forall_mem_cons.2 ⟨Yd.lasts_ex _, (List.forall_mem_cons.2 ⟨Yd.lasts_ex _, (List.forall_mem_cons.2 ⟨Yd.lasts_ex _, (List.forall_mem_cons.2 ⟨Yd.lasts_ex _, (List.forall_mem_cons.2 ⟨Yd.lasts_ex _, (List.forall_mem_cons.2 ⟨Yd.lasts_ex _, (List.forall_mem_cons.2 ⟨Yd.lasts_ex _, (List.forall_mem_cons.2 ⟨Yd.lasts_ex _, (List.forall_mem_cons.2 ⟨Yd.lasts_ex _, (List.forall_mem_cons.2 ⟨Yd.lasts_ex _, (List.forall_mem_cons.2 ⟨Yd.lasts_ex _, (List.forall_mem_cons.2 ⟨Yd.lasts_ex _, (List.forall_mem_cons.2 ⟨Yd.lasts_ex _, (List.forall_mem_cons.2 ⟨Yd.lasts_ex _, (List.forall_mem_cons.2 ⟨Yd.lasts_ex _, (List.forall_mem_cons.2 ⟨Yd.lasts_ex _, (List.forall_mem_cons.2 ⟨Yd.lasts_ex _, (List.forall_mem_cons.2 ⟨Yd.lasts_ex _, (fun _ h => by cases h)⟩)⟩)⟩)⟩)⟩)⟩)⟩)⟩)⟩)⟩)⟩)⟩)⟩)⟩)⟩)⟩)⟩)⟩)⟩) ⟨?_, ?_, ?_, ?_, ?_, ?_, ?_, ?_, ?_, ?_, ?_, ?_, ?_, ?_, ?_, ?_, ?_, ?_, ?_, trivial⟩ ?_
    · intro e1 w1 hb hp hun
      refine Ops.mv_int rfl rfl rfl ?_
      refine Ops.nil ?_
      exact After.dn (Below.refl _ _) (by exact rfl)
    · intro e1 w1 hb hp hun
      refine Ops.mv_int rfl rfl rfl ?_
      refine Ops.nil ?_
      exact After.dn (Below.refl _ _) (by exact rfl)
    · intro e1 w1 hb hp hun
      refine Ops.mv_int rfl rfl rfl ?_
      refine Ops.nil ?_
      exact After.dn (Below.refl _ _) (by exact rfl)
    · intro e1 w1 hb hp hun
      refine Ops.mul rfl rfl rfl (by rw [hMn]; omega) ?_
      refine Ops.nil ?_
      exact After.dn (Below.refl _ _) (by exact rfl)
    · intro e1 w1 hb hp hun
      refine Ops.lss rfl rfl rfl ?_
      refine Ops.nil ?_
      exact After.dn (Below.refl _ _) (by exact congrArg Value.bool (decide_eq_false h1))
    · intro e1 w1 hb hp hun
      refine Ops.mv_bool rfl rfl rfl ?_
      refine Ops.nil ?_
      exact After.dn (Below.refl _ _) (by exact rfl)
    · intro e1 w1 hb hp hun
      refine Ops.skipg rfl rfl rfl rfl rfl ?_
      refine Ops.nil ?_
      exact After.dn (Below.refl _ _) (by exact rfl)
    · intro e1 w1 hb hp hun
      refine Ops.skipg rfl rfl rfl rfl rfl ?_
      refine Ops.nil ?_
      exact After.dn (Below.refl _ _) (by exact rfl)
    · intro e1 w1 hb hp hun
      refine Ops.skipg rfl rfl rfl rfl rfl ?_
      refine Ops.nil ?_
      exact After.dn (Below.refl _ _) (by exact rfl)
    · intro e1 w1 hb hp hun
      refine Ops.skipg rfl rfl rfl rfl rfl ?_
      refine Ops.nil ?_
      exact After.dn (Below.refl _ _) (by exact rfl)
    · intro e1 w1 hb hp hun
      refine Ops.skipg rfl rfl rfl rfl rfl ?_
      refine Ops.nil ?_
      exact After.dn (Below.refl _ _) (by exact rfl)
    · intro e1 w1 hb hp hun
      refine Ops.skipg rfl rfl rfl rfl rfl ?_
      refine Ops.nil ?_
      exact After.dn (Below.refl _ _) (by exact rfl)
    · intro e1 w1 hb hp hun
      refine Ops.skipg rfl rfl rfl rfl rfl ?_
      refine Ops.nil ?_
      exact After.dn (Below.refl _ _) (by exact rfl)
    · intro e1 w1 hb hp hun
      refine Ops.skipg rfl rfl rfl rfl rfl ?_
      refine Ops.nil ?_
      exact After.dn (Below.refl _ _) (by exact rfl)
    · intro e1 w1 hb hp hun
      refine Ops.skipg rfl rfl rfl rfl rfl ?_
      refine Ops.nil ?_
      exact After.dn (Below.refl _ _) (by exact rfl)
    · intro e1 w1 hb hp hun
      refine Ops.skipg rfl rfl rfl rfl rfl ?_
      refine Ops.nil ?_
      exact After.dn (Below.refl _ _) (by exact rfl)
    · intro e1 w1 hb hp hun
      refine Ops.skipg rfl rfl rfl rfl rfl ?_
      refine Ops.nil ?_
      exact After.dn (Below.refl _ _) (by exact rfl)
    · intro e1 w1 hb hp hun
      refine Ops.skipg rfl rfl rfl rfl rfl ?_
      refine Ops.nil ?_
      exact After.dn (Below.refl _ _) (by exact rfl)
    · intro e1 w1 hb hp hun
      refine Ops.pick_f rfl rfl rfl ?_
      refine Ops.nil ?_
      exact After.dn (Below.refl _ _) (by exact rfl)
    intro u w2 hb2 _
    have hS2 := hS1.later hb2
    have haE : a = met * n := by omega
    have hIa := hI.upto a (by have := hI.le; omega) (by omega) hk
    obtain ⟨f', rfl⟩ : ∃ f', fuel = f' + 1 + (a - at_) := ⟨fuel - 1 - (a - at_), by have := hI.le; have : met * n ≤ F * n := Nat.mul_le_mul_right n hmet; omega⟩
    have hgr : grow n F (okS F) (fun _ => true) (f' + 1 + (a - at_)) at_ met M = if met = F ∧ (fun (_ : List (List Int)) => true) M = true then [M] else [] := by
      rw [grow_skip (a - at_) (f' + 1) at_ (by have := hI.le; omega) (fun b h1 h2 => hk b (by omega)), show at_ + (a - at_) = met * n by have := hI.le; omega]
      show (if _ then _ else _) = _
      rw [if_pos rfl]
    rw [hgr] at hB ⊢
    refine thenQ_n ?_
    -- stop: cond
    refine Cd.cond_f rfl ?_
    refine Cd.exit ?_
    refine thenQ_x ?_
    refine thenQ_x ?_
    refine blockQ_x ?_
    refine thenQ_n ?_
    refine Cd.seq ?_
    refine Cd.seq ?_
    refine Cd.region ?_
    refine Ops.mv_int rfl rfl rfl ?_
    refine Ops.mv_int rfl rfl rfl ?_
    refine Ops.mv_int rfl rfl rfl ?_
    -- stop: BINOP mul 2 t41 t42 2 -> 43
    refine Ops.mul rfl rfl rfl (by rw [hMn]; omega) ?_
    refine Ops.eql rfl rfl rfl ?_
    refine Ops.nil ?_
    refine thenQ_n ?_
    -- stop: cond
    refine Cd.cond_pt rfl (by rw [hMn]; omega) ?_
    refine Cd.seq ?_
    refine Cd.seq ?_
    refine Cd.region ?_
    refine Ops.mv_int rfl rfl rfl ?_
    refine Ops.mv_int rfl rfl rfl ?_
    refine Ops.eql rfl rfl rfl ?_
    refine Ops.nil ?_
    refine thenQ_n ?_
    -- stop: cond
    refine Cd.cond_p _ rfl (fun h2 => ?_) (fun h2 => ?_)
    · have hmF : met = F := by omega
      rw [if_pos ⟨hmF, rfl⟩] at hB ⊢
      have hR2 := unOut hS2
      refine Cd.region ?_
      refine Ops.mv_sl rfl rfl rfl ?_
      refine Ops.mv_sl rfl rfl rfl ?_
      -- stop: CALL spec.l01Own2(t49) -> 50
      refine Ops.call (l01Own2_c A n c rs M _ hR2 (by omega) (fun i hi => by have := hR2.shp hI.shp (k := (i : Int)) (by omega) (by omega); simp only [rg, Int.toNat_natCast] at this; omega)) rfl rfl rfl ?_
      rintro _ w3 ⟨A3, c3, rs3, rfl, hl3, hst⟩
      have hS3 := (hS2.call hst).perm (perm_mid _ _ _ _)
      refine Ops.bld1 (by exact inferInstance) (by exact rfl) rfl rfl rfl ?_
      refine Ops.bs1A hS3 rfl rfl rfl ?_
      intro A4 w4 hS4
      refine Ops.appR 1 hS4 rfl (hS4.rdR 0 rfl) rfl rfl rfl (by simp at hB; omega) (by simp at hB; omega) rfl ?_
      intro A5 c5 w5 hS5
      refine Ops.mv_sl rfl rfl rfl ?_
      refine Ops.nil ?_
      refine thenQ_n ?_
      refine Cd.seq ?_
      refine Cd.region ?_
      refine Ops.mv_sl rfl rfl rfl ?_
      refine Ops.mv_sl rfl rfl rfl ?_
      refine Ops.nil ?_
      refine thenQ_n ?_
      refine Cd.ret ?_
      refine thenQ_r ?_
      refine ret1_s rfl ?_
      -- stop: end
      refine ⟨A5, c5, [⟨⟨A3, n, c3⟩, rs3, M⟩], rfl, fun m hm => ?_, rfl, ?_⟩
      · simp at hm; subst hm; exact hlen
      · have h6 := hS5.tail
        simpa [matsCk, MatV.cks] using h6
    · rw [if_neg (fun h => h2 (by rw [h.1]))]
      refine Cd.skip ?_
      refine thenQ_n ?_
      refine Cd.seq ?_
      refine Cd.region ?_
      refine Ops.mv_sl rfl rfl rfl ?_
      refine Ops.mv_sl rfl rfl rfl ?_
      refine Ops.nil ?_
      refine thenQ_n ?_
      refine Cd.ret ?_
      refine thenQ_r ?_
      refine ret1_s rfl ?_
      -- stop: end
      exact ⟨Ao, co, [], rfl, (fun m hm => by cases hm), rfl, by simpa [matsCk] using hS2⟩
end Go.Proofs.Ytgobjpcankaicaa.Vc
/-
  Plain mathematics: how many rooted forms there can be. Conditions: as each states them. No program in sight.
-/
namespace Go.Proofs.Ytgobjpcankaicaa.Vc

def dft : Nat → Nat
  | 0 => 1
  | 1 => 0
  | u + 2 => (u + 1) * dft u
def prod : List Nat → Nat
  | [] => 1
  | x :: l => x * prod l
def phi (M : List (List Int)) : Nat := prod (M.map fun p => dft (unl p))
theorem prod_set : ∀ (l : List Nat) (i k x : Nat) (h : i < l.length), l[i] = k * x → prod l = k * prod (l.set i x)
  | [], i, _, _, h, _ => by simp at h
  | y :: l, 0, k, x, _, e => by
    simp at e; subst e
    simp [prod, Nat.mul_assoc]
  | y :: l, i + 1, k, x, h, e => by
    have := prod_set l i k x (by simpa using h) (by simpa using e)
    simp only [prod, List.set_cons_succ, this]
    rw [Nat.mul_left_comm]
theorem prod_one : ∀ (l : List Nat), (∀ x ∈ l, x = 1) → prod l = 1
  | [], _ => rfl
  | x :: l, h => by simp [prod, h x (by simp), prod_one l (fun y hy => h y (by simp [hy]))]

theorem sum_le {α : Type} (f : Nat → List α) (p : Nat → Bool) (X : Nat) : ∀ (l : List Nat), (∀ g ∈ l, (f g).length ≤ if p g = true then X else 0) → (l.flatMap f).length ≤ l.countP p * X
  | [], _ => by simp
  | g :: l, h => by
    have h1 := h g (by simp)
    have h2 := sum_le f p X l (fun x hx => h x (by simp [hx]))
    rw [List.flatMap_cons, List.length_append, List.countP_cons]
    by_cases hp : p g = true
    · rw [if_pos hp] at h1 ⊢
      rw [Nat.add_mul, Nat.one_mul]; omega
    · rw [if_neg hp] at h1 ⊢
      rw [Nat.add_zero]
      omega

/-- the unknown places of a row behind one that is unknown -/
theorem behind_le {p : List Int} {q c : Nat} (hq : q < p.length) (hn : gi p q < 0) (hc : q + 1 + c ≤ p.length) : (List.range' (q + 1) c).countP (fun g => decide (gi p (g : Nat) < 0)) + 1 ≤ unl p := by
  have e1 : (List.range' (q + 1) c).map (fun g => gi p (g : Nat)) = (p.drop (q + 1)).take c := by
    apply List.ext_getElem
    · simp; omega
    · intro i h1 h2
      have hi : i < c := by simpa using h1
      rw [List.getElem_map, List.getElem_range', gi_mem (by omega)]
      simp
  have e2 : (List.range' (q + 1) c).countP (fun g => decide (gi p (g : Nat) < 0)) = ((p.drop (q + 1)).take c).countP (fun x => decide (x < 0)) := by
    rw [← e1, List.countP_map]; rfl
  have e3 : ((p.drop (q + 1)).take c).countP (fun x => decide (x < 0)) ≤ (p.drop (q + 1)).countP (fun x => decide (x < 0)) := (List.take_sublist _ _).countP_le
  have e4 : unl p = (p.take (q + 1)).countP (fun x => decide (x < 0)) + (p.drop (q + 1)).countP (fun x => decide (x < 0)) := by
    unfold unl
    rw [← List.countP_append, List.take_append_drop]
  have e5 : 0 < (p.take (q + 1)).countP (fun x => decide (x < 0)) := List.countP_pos_iff.2 ⟨gi p q, by rw [take_succ_gi hq]; simp, by simpa using hn⟩
  omega

section
variable {n F : Nat} {M : List (List Int)} {met at_ : Nat}
theorem phi_put (h : Shp n F M) {r q g : Nat} (hr : r < n) (hq : q < F) (hg : g < F) (hqg : q ≠ g) (h1 : cell M r q < 0) (h2 : cell M r g < 0) {u : Nat} (hu : unl (gl M r) = u + 2) : phi (put M r q g) = prod ((M.map fun p => dft (unl p)).set r (dft u)) ∧ phi M = (u + 1) * prod ((M.map fun p => dft (unl p)).set r (dft u)) := by
  have hl := h.1
  have hrow := h.row hr
  have hp1 : unl ((gl M r).set q (g : Int)) + 1 = unl (gl M r) := by
    have := unl_set (L := gl M r) (x := (q : Int)) (c := (g : Int)) (by omega) (by omega) h1 (by omega)
    rwa [Int.toNat_natCast] at this
  have e2 : gi ((gl M r).set q (g : Int)) g = gi (gl M r) g := by
    have := gi_set (S := gl M r) (x := (q : Int)) (y := (g : Int)) (b := (g : Int)) (by omega) (by omega) (by omega)
    rw [Int.toNat_natCast, if_neg (by omega)] at this
    exact this
  have hp2 : unl (((gl M r).set q (g : Int)).set g (q : Int)) + 1 = unl ((gl M r).set q (g : Int)) := by
    have := unl_set (L := (gl M r).set q (g : Int)) (x := (g : Int)) (c := (q : Int)) (by omega) (by simp; omega) (by rw [e2]; exact h2) (by omega)
    rwa [Int.toNat_natCast] at this
  have hu2 : unl (((gl M r).set q (g : Int)).set g (q : Int)) = u := by omega
  have hput : put M r q g = M.set r (((gl M r).set q (g : Int)).set g (q : Int)) := by
    unfold put setc
    rw [gl_set (by omega), if_pos rfl, List.set_set]
  have hgr : M[r]'(by omega) = gl M r := (gl_mem (by omega)).symm
  unfold phi
  rw [hput, List.map_set, hu2]
  refine ⟨rfl, ?_⟩
  refine prod_set _ r (u + 1) (dft u) (by simp; omega) ?_
  rw [List.getElem_map, hgr, hu]; rfl

theorem grow_le_phi : ∀ (k at_ met : Nat) (M : List (List Int)), Inv n F M met at_ → (grow n F (fun _ _ _ => true) (fun _ => true) k at_ met M).length ≤ phi M
  | 0, _, _, _, _ => by simp [grow]
  | k + 1, at_, met, M, h => by
    simp only [grow]
    split
    · rename_i ha
      split
      · rename_i hm
        have hm1 := hm.1
        subst hm1
        have hI : Inv n met M met (met * n) := by rw [← ha]; exact h
        have : phi M = 1 := prod_one _ (fun x hx => by
          obtain ⟨p, hp, rfl⟩ := List.mem_map.1 hx
          obtain ⟨i, hi, rfl⟩ := List.mem_iff_getElem.1 hp
          have hin : i < n := by rw [← h.shp.1]; exact hi
          have e : M[i] = gl M i := (gl_mem hi).symm
          have : unl M[i] = 0 := by
            rw [e]
            refine List.countP_eq_zero.2 fun x hx => ?_
            obtain ⟨j, hj, rfl⟩ := List.mem_iff_getElem.1 hx
            have := hI.full (i := i) (f := (j : Int)) hin (by omega) (by rw [h.shp.row hin] at hj; omega)
            rw [← gi_mem hj]
            have h3 : 0 ≤ gi (gl M i) (j : Int) := this
            simp; omega
          rw [this]; rfl)
        simp [this]
      · simp
    · rename_i ha
      split
      · rename_i hk
        exact grow_le_phi k _ _ _ (h.next ha hk)
      · rename_i hk
        have hp := h.pos ha
        have hF := h.metF
        have hrow := h.shp.row hp.1
        have hqF : at_ / n < F := by omega
        have hrg := fun g hg => range_mem h ha (g := g) hg
        have hput := fun g (h1 : at_ / n < g) (h2 : g ≤ met) (h3 : g < F) h4 => h.put ha hk (g := g) h1 h2 h3 h4
        generalize hr : at_ % n = r at *
        generalize hq : at_ / n = q at *
        have hkn : gi (gl M (r : Nat)) (q : Nat) < 0 := Int.not_le.1 hk
        have hm1 := h.met1
        have hbeh := behind_le (p := gl M (r : Nat)) (q := q) (c := min met (F - 1) - q) (by omega) hkn (by omega)
        obtain ⟨u, hu⟩ : ∃ u, unl (gl M (r : Nat)) = u + 1 := ⟨unl (gl M (r : Nat)) - 1, by omega⟩
        refine Nat.le_trans (sum_le _ (fun g => decide (gi (gl M (r : Nat)) (g : Nat) < 0)) (prod ((M.map fun p => dft (unl p)).set r (dft (u - 1)))) _ (fun g hg => ?_)) ?_
        · have hgr := hrg g hg
          by_cases hgc : 0 ≤ cell M r (g : Nat)
          · rw [if_pos hgc]; exact Nat.zero_le _
          · have hgn : gi (gl M (r : Nat)) (g : Nat) < 0 := Int.not_le.1 hgc
            rw [if_neg hgc, if_pos trivial, if_pos (decide_eq_true hgn)]
            have hcnt : 0 < (List.range' (q + 1) (min met (F - 1) - q)).countP (fun g => decide (gi (gl M (r : Nat)) (g : Nat) < 0)) := List.countP_pos_iff.2 ⟨g, hg, decide_eq_true hgn⟩
            obtain ⟨u', rfl⟩ : ∃ u', u = u' + 1 := ⟨u - 1, by omega⟩
            have hphi := phi_put h.shp hp.1 hqF hgr.2.2 (by omega) (by omega) (by omega) hu
            rw [show u' + 1 - 1 = u' by omega, ← hphi.1]
            exact grow_le_phi k _ _ _ (hput g hgr.1 hgr.2.1 hgr.2.2 hgc)
        · by_cases hu0 : u = 0
          · have : (List.range' (q + 1) (min met (F - 1) - q)).countP (fun g => decide (gi (gl M (r : Nat)) (g : Nat) < 0)) = 0 := by omega
            rw [this, Nat.zero_mul]; exact Nat.zero_le _
          · obtain ⟨u', rfl⟩ : ∃ u', u = u' + 1 := ⟨u - 1, by omega⟩
            rw [show u' + 1 - 1 = u' by omega]
            have hfac : phi M = (u' + 1) * prod ((M.map fun p => dft (unl p)).set r (dft u')) := by
              unfold phi
              have hl := h.shp.1
              refine prod_set _ r (u' + 1) (dft u') (by simp; omega) ?_
              rw [List.getElem_map, show M[r]'(by omega) = gl M r from (gl_mem (by omega)).symm, hu]; rfl
            rw [hfac]
            exact Nat.mul_le_mul_right _ (by omega)

/-- two moves that should commute meet at flag 0 -/
def bad0 (n : Nat) (M : List (List Int)) : Bool := (List.range n).any fun i => (List.range n).any fun k => decide (i + 2 ≤ k ∧ 0 ≤ cell M i 0 ∧ cell M i 0 = cell M k 0)
/-- a bound that looks at j places first -/
def wt (n F : Nat) : Nat → Nat → Nat → List (List Int) → Nat
  | 0, _, _, M => if bad0 n M = true then 0 else phi M
  | j + 1, at_, met, M =>
    if at_ = met * n then 1
    else if 0 ≤ cell M (at_ % n) (at_ / n : Nat) then wt n F j (at_ + 1) met M
    else ((List.range' (at_ / n + 1) (min met (F - 1) - at_ / n)).map fun g => if 0 ≤ cell M (at_ % n) (g : Nat) then 0 else wt n F j (at_ + 1) (max met (g + 1)) (put M (at_ % n) (at_ / n) g)).sum

theorem forms_bad (h : Inv n F M met at_) (hb : bad0 n M = true) (k : Nat) : forms n F k at_ met M = [] := by
  unfold forms
  rw [List.filter_eq_nil_iff]
  intro L hL hV
  have h1 := grow_leaf k _ _ _ h L hL
  have hV := of_decide_eq_true hV
  simp only [bad0, List.any_eq_true, decide_eq_true_eq, List.mem_range] at hb
  obtain ⟨i, hi, k', hk', hik, h0, he⟩ := hb
  have hF : 0 < F := by have := h.met1; have := h.metF; omega
  have h2 := hV.cells h1.2 hi hk' hik (f := 0) (by omega) (by omega)
  rw [h1.1 i 0 hi (by omega) (by omega) h0, h1.1 k' 0 hk' (by omega) (by omega) (by rw [← he]; exact h0)] at h2
  exact h2.2 he
theorem sum_le2 {α : Type} (f : Nat → List α) (c : Nat → Nat) : ∀ (l : List Nat), (∀ g ∈ l, (f g).length ≤ c g) → (l.flatMap f).length ≤ (l.map c).sum
  | [], _ => by simp
  | g :: l, h => by
    have h1 := h g (by simp)
    have h2 := sum_le2 f c l (fun x hx => h x (by simp [hx]))
    rw [List.flatMap_cons, List.length_append, List.map_cons, List.sum_cons]
    omega
theorem forms_le_wt : ∀ (j k at_ met : Nat) (M : List (List Int)), Inv n F M met at_ → (forms n F k at_ met M).length ≤ wt n F j at_ met M
  | 0, k, at_, met, M, h => by
    simp only [wt]
    split
    · rename_i hb; rw [forms_bad h hb]; simp
    · exact Nat.le_trans (List.length_filter_le _ _) (grow_le_phi k _ _ _ h)
  | j + 1, 0, at_, met, M, h => by simp [forms, grow]
  | j + 1, k + 1, at_, met, M, h => by
    simp only [forms, grow, wt]
    split
    · refine Nat.le_trans (List.length_filter_le _ _) ?_
      split <;> simp
    · rename_i ha
      split
      · rename_i hk
        exact forms_le_wt j k _ _ _ (h.next ha hk)
      · rename_i hk
        rw [filter_flatMap']
        refine sum_le2 _ _ _ (fun g hg => ?_)
        have hr := range_mem h ha hg
        split
        · simp
        · rename_i hgc
          rw [if_pos trivial]
          exact forms_le_wt j k _ _ _ (h.put ha hk hr.1 hr.2.1 hr.2.2 hgc)
end

theorem wt_small : ((List.range' 1 4).all fun n => (List.range' 2 11).all fun F => Nat.ble (wt n F 4 0 1 (blank n F)) 4000000000000) = true := by kernel_rfl
theorem forms_small {n F : Nat} (hn : 1 ≤ n ∧ n ≤ 4) (hF : 2 ≤ F ∧ F ≤ 12) (k : Nat) : (forms n F k 0 1 (blank n F)).length ≤ 4000000000000 := by
  have h := wt_small
  rw [List.all_eq_true] at h
  have h1 := h n (by rw [List.mem_range'_1]; omega)
  rw [List.all_eq_true] at h1
  have h2 := h1 F (by rw [List.mem_range'_1]; omega)
  exact Nat.le_trans (forms_le_wt 4 k 0 1 _ (Inv.blank (by omega) (by omega))) (Nat.le_of_ble_eq_true h2)
end Go.Proofs.Ytgobjpcankaicaa.Vc
/-
  The walks of the reference's list of rooted forms and of its count. Conditions: as each states them.
-/
namespace Go.Proofs.Ytgobjpcankaicaa.Vc
open Go.RowKit

theorem l19Rooted_c (n F : Nat) (hn : 1 ≤ n ∧ n ≤ 4) (hF : 2 ≤ F ∧ F ≤ 12) (w : World) :
    Ret Try.prog 107 [.int .i64 (n : Int), .int .i64 (F : Int)] w (fun v w' => ∃ A' c', ∃ new : List MatV, v = .slice A' new.length c' ∧ (∀ m ∈ new, m.ok) ∧ new.map (·.xss) = forms n F (F * n + 1) 0 1 (blank n F) ∧
      St w w' (CkR 24 A' new.length c' (new.map (·.top)) :: matsCk 33 2 new)) := by
  refine Ret.of_cd Try.func107 rfl Try.ntmps107 rfl (post1 rfl) ?_
  refine Cd.seq ?_
  refine Cd.region ?_
  refine Ops.mv_sl rfl rfl rfl ?_
  refine Ops.nil ?_
  refine thenQ_n ?_
  refine Cd.seq ?_
  refine Cd.region ?_
  -- stop: BUILDSLICE 22 0 [] -> 9
  refine Ops.bs0 (St.refl w) rfl ?_
  intro A1 w1 hS1
  have hS1 : St w w1 [CkR 33 A1 0 0 []] := hS1
  refine Ops.mv_sl rfl rfl rfl ?_
  refine Ops.nil ?_
  refine thenQ_n ?_
  refine Cd.seq ?_
  refine Cd.seq ?_
  refine Cd.region ?_
  refine Ops.mv_int rfl rfl rfl ?_
  refine Ops.nil ?_
  refine thenQ_n ?_
  refine Cd.block ?_
  -- stop: loop
  refine Cd.loop (α := Nat × Option Addr × Nat × List SlV) (fun s => [(0, .int .i64 (n : Int)), (1, .int .i64 (F : Int)), (5, .slice s.2.1 s.1 s.2.2.1), (6, .int .i64 (s.1 : Int))]) (fun s w' => St w w' (CkR 33 s.2.1 s.1 s.2.2.1 s.2.2.2 :: rowsCk 2 s.2.2.2 (List.replicate s.1 (List.replicate F (-1)))) ∧ s.1 ≤ n ∧ s.2.2.2.length = s.1) (fun s => n - s.1) (0, A1, 0, []) ⟨rfl, rfl, rfl, rfl, trivial⟩ ⟨hS1, Nat.zero_le _, rfl⟩ ?_
  rintro ⟨i, A5, c5, rs⟩ e w2 ⟨hS2, hi, hlen⟩
  dsimp only at hS2 hi hlen ⊢
  refine Cd.seq ?_
  refine Cd.seq ?_
  refine Cd.region ?_
  refine Ops.mv_int rfl rfl rfl ?_
  refine Ops.mv_int rfl rfl rfl ?_
  refine Ops.lss rfl rfl rfl ?_
  refine Ops.nil ?_
  refine thenQ_n ?_
  -- stop: cond
  refine Cd.cond_p _ rfl (fun h1 => ?_) (fun h1 => ?_)
  · refine Cd.skip ?_
    refine thenQ_n ?_
    refine Cd.seq ?_
    refine Cd.block ?_
    refine Cd.seq ?_
    refine Cd.region ?_
    -- stop: BUILDSLICE 33 0 [] -> 15
    refine Ops.bs0 hS2 rfl ?_
    intro A7 w3 hS3
    have hS3 : St w w3 (CkI 2 A7 0 0 (List.replicate 0 (-1)) :: CkR 33 A5 i c5 rs :: rowsCk 2 rs (List.replicate i (List.replicate F (-1)))) := hS3
    refine Ops.mv_sl rfl rfl rfl ?_
    refine Ops.nil ?_
    refine thenQ_n ?_
    refine Cd.seq ?_
    refine Cd.seq ?_
    refine Cd.region ?_
    refine Ops.mv_int rfl rfl rfl ?_
    refine Ops.nil ?_
    refine thenQ_n ?_
    refine Cd.block ?_
    -- stop: loop
    refine Cd.loop (α := Nat × Option Addr × Nat) (fun s => [(0, .int .i64 (n : Int)), (1, .int .i64 (F : Int)), (5, .slice A5 i c5), (6, .int .i64 (i : Int)), (7, .slice s.2.1 s.1 s.2.2), (8, .int .i64 (s.1 : Int))]) (fun s w' => St w w' (CkI 2 s.2.1 s.1 s.2.2 (List.replicate s.1 (-1)) :: CkR 33 A5 i c5 rs :: rowsCk 2 rs (List.replicate i (List.replicate F (-1)))) ∧ s.1 ≤ F) (fun s => F - s.1) (0, A7, 0) ⟨rfl, rfl, rfl, rfl, rfl, rfl, trivial⟩ ⟨hS3, Nat.zero_le _⟩ ?_
    rintro ⟨f, A8, c8⟩ e w4 ⟨hS4, hf⟩
    dsimp only at hS4 hf ⊢
    refine Cd.seq ?_
    refine Cd.seq ?_
    refine Cd.region ?_
    refine Ops.mv_int rfl rfl rfl ?_
    refine Ops.mv_int rfl rfl rfl ?_
    refine Ops.lss rfl rfl rfl ?_
    refine Ops.nil ?_
    refine thenQ_n ?_
    -- stop: cond
    refine Cd.cond_p _ rfl (fun h2 => ?_) (fun h2 => ?_)
    · refine Cd.skip ?_
      refine thenQ_n ?_
      refine Cd.seq ?_
      refine Cd.block ?_
      refine Cd.region ?_
      refine Ops.mv_sl rfl rfl rfl ?_
      -- stop: BUILDSLICE 33 1 [('pair', [0, ('app', 'Go.Operand.const', [('app', 'Go.Value.int', ['Go.IntKind.i64', -1])])])] -> 22
      refine Ops.bs1I hS4 rfl rfl rfl ?_
      intro A9 w5 hS5
      refine Ops.appI 1 hS5 rfl (hS5.rdI 0 rfl) rfl rfl rfl (by omega) (by omega) rfl ?_
      intro A10 c10 w6 hS6
      refine Ops.mv_sl rfl rfl rfl ?_
      refine Ops.nil ?_
      refine blockQ_n ?_
      refine thenQ_n ?_
      refine Cd.region ?_
      refine Ops.mv_int rfl rfl rfl ?_
      refine Ops.add rfl rfl rfl (by omega) ?_
      refine Ops.mv_int rfl rfl rfl ?_
      refine Ops.nil ?_
      refine thenQ_n ?_
      -- stop: round
      refine ⟨(f + 1, A10, c10), by show F - (f + 1) < F - f; omega, ⟨rfl, rfl, rfl, rfl, rfl, rfl, trivial⟩, ?_, by show f + 1 ≤ F; omega⟩
      have h7 := hS6.tail
      show St w w6 (CkI _ A10 (f + 1) c10 (List.replicate (f + 1) (-1)) :: _)
      rw [List.replicate_succ']
      exact h7
    · refine Cd.exit ?_
      refine thenQ_x ?_
      refine thenQ_x ?_
      refine blockQ_x ?_
      refine thenQ_n ?_
      refine Cd.region ?_
      refine Ops.mv_sl rfl rfl rfl ?_
      refine Ops.mv_sl rfl rfl rfl ?_
      -- stop: BUILDSLICE 22 1 [('pair', [0, ('app', 'Go.Operand.tmp', [25])])] -> 26
      have hfF : f = F := by omega
      subst hfF
      refine Ops.bs1R hS4 rfl rfl rfl ?_
      intro A9 w5 hS5
      refine Ops.appR 2 hS5 rfl (hS5.rdR 0 rfl) rfl rfl rfl (by omega) (by omega) rfl ?_
      intro A10 c10 w6 hS6
      refine Ops.mv_sl rfl rfl rfl ?_
      refine Ops.nil ?_
      refine blockQ_n ?_
      refine thenQ_n ?_
      refine Cd.region ?_
      refine Ops.mv_int rfl rfl rfl ?_
      refine Ops.add rfl rfl rfl (by omega) ?_
      refine Ops.mv_int rfl rfl rfl ?_
      refine Ops.nil ?_
      refine thenQ_n ?_
      -- stop: round
      refine ⟨(i + 1, A10, c10, rs ++ [⟨A8, f, c8⟩]), by show n - (i + 1) < n - i; omega, ⟨rfl, rfl, rfl, rfl, trivial⟩, ?_, by show i + 1 ≤ n; omega, by simp [hlen]⟩
      have h7 : St w w6 (CkI 2 A8 f c8 (List.replicate f (-1)) :: CkR 33 A10 (i + 1) c10 (rs ++ [⟨A8, f, c8⟩]) :: rowsCk 2 rs (List.replicate i (List.replicate f (-1)))) := hS6.tail
      show St w w6 (CkR _ A10 (i + 1) c10 (rs ++ [_]) :: rowsCk _ (rs ++ [_]) (List.replicate (i + 1) (List.replicate f (-1))))
      rw [List.replicate_succ', rowsCk_append (by simp [hlen])]
      refine h7.perm ?_
      refine (List.Perm.swap _ _ _).trans (List.Perm.cons _ ?_)
      exact List.perm_append_comm (l₁ := [_])
  · have hin : i = n := by omega
    subst hin
    have hI := Inv.blank (n := i) (F := F) (by omega) (by omega)
    have hfe := growS_forms (n := i) (F := F) (by omega) ⟨by omega, by omega⟩ (F * i + 1) hI (fun e he => blank_fits e he)
    have hS3 : St w w2 (CkR 24 none 0 0 [] :: (mat 33 2 A5 i c5 rs (blank i F) ++ [])) := by rw [List.append_nil]; exact hS2.nil _
    refine Cd.exit ?_
    refine thenQ_x ?_
    refine thenQ_x ?_
    refine blockQ_x ?_
    refine thenQ_n ?_
    refine Cd.seq ?_
    refine Cd.region ?_
    refine Ops.mv_sl rfl rfl rfl ?_
    refine Ops.mv_int rfl rfl rfl ?_
    -- stop: CALL spec.l19Grow(t28, t29, 1, 0) -> 30
    refine Ops.call (l19Grow_c i F (by omega) ⟨by omega, by omega⟩ (F * i + 1) 0 1 (blank i F) hI (by omega) w w2 [] none 0 0 [] A5 c5 rs hS3 (by rw [hfe]; have := forms_small hn hF (F * i + 1); omega)) rfl rfl rfl ?_
    rintro _ w3 ⟨A', c', new, rfl, hok, hx, hS4⟩
    refine Ops.mv_sl rfl rfl rfl ?_
    refine Ops.nil ?_
    refine thenQ_n ?_
    refine Cd.ret ?_
    refine ret1_s rfl ?_
    -- stop: end
    rw [hfe] at hx
    rw [Nat.zero_add, List.nil_append] at hS4
    rw [Nat.zero_add]
    exact ⟨A', c', new, rfl, hok, hx, by have := hS4.sub (List.Sublist.cons_cons _ (List.sublist_append_right _ _)); rwa [List.append_nil] at this⟩

def Small (rank flags : Int) : Prop := (1 ≤ rank ∧ rank ≤ 4) ∧ (2 ≤ flags ∧ flags ≤ 12)
instance (rank flags : Int) : Decidable (Small rank flags) := by unfold Small; exact inferInstance
theorem l19Code_c (rank flags : Int) (w : World) : Ret Try.prog 67 [.int .i64 rank, .int .i64 flags] w (fun v w' => v = .int .i64 (if Small rank flags then 0 else 2) ∧ w' = w) := by
  refine Ret.of_cd Try.func67 rfl Try.ntmps67 rfl (post1 rfl) ?_
  refine Cd.seq ?_
  refine Cd.region ?_
  refine Ops.mv_int rfl rfl rfl ?_
  refine Ops.nil ?_
  refine thenQ_n ?_
  refine Cd.seq ?_
  refine Cd.seq ?_
  refine Cd.region ?_
  refine Ops.mv_int rfl rfl rfl ?_
  -- stop: CALL spec.l01In(t5, 1, 4) -> 6
  refine Ops.call (l01In_c _ _ _ _) rfl rfl rfl ?_
  rintro _ w ⟨rfl, rfl⟩
  first | refine Ops.not_p rfl rfl ?_ | refine Ops.not rfl rfl ?_
  refine Ops.mv_bool rfl rfl rfl ?_
  -- stop: guard 8
  refine Ops.split_p 8 rfl (fun h => ?_) (fun h => ?_)
  · refine Ops.skipg rfl rfl rfl rfl rfl ?_
    refine Ops.skipg rfl rfl rfl rfl rfl ?_
    refine Ops.skipg rfl rfl rfl rfl rfl ?_
    refine Ops.pick_t rfl rfl rfl ?_
    refine Ops.nil ?_
    refine thenQ_n ?_
    -- stop: cond
    refine Cd.cond_t rfl ?_
    refine Cd.seq ?_
    refine Cd.region ?_
    refine Ops.mv_int rfl rfl rfl ?_
    refine Ops.nil ?_
    refine thenQ_n ?_
    refine Cd.ret ?_
    refine thenQ_r ?_
    refine ret1_i rfl ?_
    -- stop: end
    exact ⟨by rw [if_neg (fun hs : Small rank flags => h hs.1)], rfl⟩
  · refine Ops.rung rfl rfl rfl ?_
    refine Ops.mv_int rfl rfl rfl ?_
    refine Ops.rung rfl rfl rfl ?_
    -- stop: CALL spec.l01In(t9, 2, 12) -> 10
    refine Ops.call (l01In_c _ _ _ _) rfl rfl rfl ?_
    rintro _ w ⟨rfl, rfl⟩
    refine Ops.rung rfl rfl rfl ?_
    first | refine Ops.not_p rfl rfl ?_ | refine Ops.not rfl rfl ?_
    refine Ops.pick_f rfl rfl rfl ?_
    refine Ops.nil ?_
    refine thenQ_n ?_
    -- stop: cond
    refine Cd.cond_p _ rfl (fun h2 => ?_) (fun h2 => ?_)
    · refine Cd.seq ?_
      refine Cd.region ?_
      refine Ops.mv_int rfl rfl rfl ?_
      refine Ops.nil ?_
      refine thenQ_n ?_
      refine Cd.ret ?_
      refine thenQ_r ?_
      refine ret1_i rfl ?_
      -- stop: end
      exact ⟨by rw [if_neg (fun hs : Small rank flags => h2 hs.2)], rfl⟩
    · refine Cd.skip ?_
      refine thenQ_n ?_
      refine Cd.seq ?_
      refine Cd.region ?_
      refine Ops.mv_int rfl rfl rfl ?_
      refine Ops.nil ?_
      refine thenQ_n ?_
      refine Cd.ret ?_
      refine ret1_i rfl ?_
      -- stop: end
      exact ⟨by rw [if_pos (show Small rank flags from ⟨Classical.not_not.1 h, Classical.not_not.1 h2⟩)], rfl⟩

/-- the answer: how many, and the code -/
def cnt1 (rank flags : Int) : Int := if Small rank flags then ((forms rank.toNat flags.toNat (flags.toNat * rank.toNat + 1) 0 1 (blank rank.toNat flags.toNat)).length : Int) else 0
def cnt2 (rank flags : Int) : Int := if Small rank flags then 0 else 2
end Go.Proofs.Ytgobjpcankaicaa.Vc
/-
  The walks of the program's copies and of its test of a move. Conditions: as each states them.
-/
namespace Go.Proofs.Ytgobjpcankaicaa.Vc
open Go.RowKit

theorem Clone_c (A : Option Addr) (n c : Nat) (xs : List Int) (w : World) (hR : RdI w A n xs) (hn : n ≤ 1000000000) : Ret Try.prog 104 [.slice A n c] w (fun v w' => ∃ A' c', v = .slice A' n c' ∧ St w w' [CkI 2 A' n c' xs]) := by
  cases hA : A with
  | none =>
    subst hA
    have hn0 : n = 0 := by
      apply Classical.byContradiction
      intro h
      obtain ⟨p, hp, _⟩ := hR.2 0 (by omega)
      simp [ptrAt] at hp
    subst hn0
    have hx : xs = [] := List.eq_nil_of_length_eq_zero hR.1
    subst hx
    refine Ret.of_cd Try.func104 rfl Try.ntmps104 rfl (post1 rfl) ?_
    refine Cd.seq ?_
    refine Cd.region ?_
    refine Ops.mv_sl rfl rfl rfl ?_
    refine Ops.nil ?_
    refine thenQ_n ?_
    refine Cd.seq ?_
    refine Cd.seq ?_
    refine Cd.region ?_
    refine Ops.mv_sl rfl rfl rfl ?_
    -- stop: BINOP eql 33 t3 0 33 -> 4
    refine Ops.eqNil rfl rfl rfl ?_
    refine Ops.nil ?_
    refine thenQ_n ?_
    -- stop: cond
    refine Cd.cond_t rfl ?_
    refine Cd.seq ?_
    refine Cd.region ?_
    refine Ops.mv_sl rfl rfl rfl ?_
    refine Ops.nil ?_
    refine thenQ_n ?_
    refine Cd.ret ?_
    refine thenQ_r ?_
    refine ret1_s rfl ?_
    -- stop: end
    exact ⟨none, 0, rfl, (St.refl w).nil _⟩
  | some a =>
    subst hA
    refine Ret.of_cd Try.func104 rfl Try.ntmps104 rfl (post1 rfl) ?_
    refine Cd.seq ?_
    refine Cd.region ?_
    refine Ops.mv_sl rfl rfl rfl ?_
    refine Ops.nil ?_
    refine thenQ_n ?_
    refine Cd.seq ?_
    refine Cd.seq ?_
    refine Cd.region ?_
    refine Ops.mv_sl rfl rfl rfl ?_
    -- stop: BINOP eql 33 t3 0 33 -> 4
    refine Ops.eqNil rfl rfl rfl ?_
    refine Ops.nil ?_
    refine thenQ_n ?_
    -- stop: cond
    refine Cd.cond_f rfl ?_
    refine Cd.skip ?_
    refine thenQ_n ?_
    refine Cd.seq ?_
    refine Cd.region ?_
    -- stop: BUILDSLICE 33 0 [] -> 5
    refine Ops.bs0 (St.refl w) rfl ?_
    intro A1 w1 hS1
    have hS1 : St w w1 [CkI 2 A1 0 0 []] := hS1
    refine Ops.mv_sl rfl rfl rfl ?_
    -- stop: BUILTIN append(t5, t6) -> 7
    refine Ops.appI 0 hS1 rfl (hS1.oldI hR) rfl rfl rfl (by omega) (by omega) rfl ?_
    intro A2 c2 w2 hS2
    rw [Nat.zero_add] at hS2 ⊢
    refine Ops.mv_sl rfl rfl rfl ?_
    refine Ops.nil ?_
    refine thenQ_n ?_
    refine Cd.ret ?_
    refine ret1_s rfl ?_
    -- stop: end
    exact ⟨A2, c2, rfl, hS2⟩

theorem isSmall_c (rank flags : Int) (w : World) : Ret Try.prog 72 [.int .i64 rank, .int .i64 flags] w (fun v w' => v = .bool (decide (Small rank flags)) ∧ w' = w) := by
  refine Ret.of_cd Try.func72 rfl Try.ntmps72 rfl (post1 rfl) ?_
  refine Cd.seq ?_
  refine Cd.region ?_
  refine Ops.mv_bool rfl rfl rfl ?_
  refine Ops.nil ?_
  refine thenQ_n ?_
  refine Cd.seq ?_
  refine Cd.region ?_
  refine Ops.mv_int rfl rfl rfl ?_
  -- stop: CALL impl.within(t5, 1, 4) -> 6
  refine Ops.call (within_c _ _ _ _) rfl rfl rfl ?_
  rintro _ w ⟨rfl, rfl⟩
  refine Ops.mv_bool rfl rfl rfl ?_
  -- stop: guard 7
  refine Ops.split_p 7 rfl (fun h => ?_) (fun h => ?_)
  · refine Ops.rung rfl rfl rfl ?_
    refine Ops.mv_int rfl rfl rfl ?_
    refine Ops.rung rfl rfl rfl ?_
    -- stop: CALL impl.within(t8, 2, 12) -> 9
    refine Ops.call (within_c _ _ _ _) rfl rfl rfl ?_
    rintro _ w ⟨rfl, rfl⟩
    refine Ops.pick_t rfl rfl rfl ?_
    refine Ops.mv_bool rfl rfl rfl ?_
    refine Ops.nil ?_
    refine thenQ_n ?_
    refine Cd.ret ?_
    refine ret1_b rfl ?_
    -- stop: end
    exact ⟨by simp [Small, h], rfl⟩
  · refine Ops.skipg rfl rfl rfl rfl rfl ?_
    refine Ops.skipg rfl rfl rfl rfl rfl ?_
    refine Ops.pick_f rfl rfl rfl ?_
    refine Ops.mv_bool rfl rfl rfl ?_
    refine Ops.nil ?_
    refine thenQ_n ?_
    refine Cd.ret ?_
    refine ret1_b rfl ?_
    -- stop: end
    exact ⟨by simp [Small, h], rfl⟩

theorem sizeM_c (A : Option Addr) (n c : Nat) (w : World) : Ret Try.prog 70 [.slice A n c] w (fun v w' => v = .int .i64 (n : Int) ∧ w' = w) := by
  refine Ret.of_cd Try.func70 rfl Try.ntmps70 rfl (post1 rfl) ?_
  refine Cd.seq ?_
  refine Cd.region ?_
  refine Ops.mv_int rfl rfl rfl ?_
  refine Ops.nil ?_
  refine thenQ_n ?_
  refine Cd.seq ?_
  refine Cd.region ?_
  refine Ops.mv_sl rfl rfl rfl ?_
  refine Ops.len rfl rfl ?_
  refine Ops.mv_int rfl rfl rfl ?_
  refine Ops.nil ?_
  refine thenQ_n ?_
  refine Cd.ret ?_
  refine ret1_i rfl ?_
  -- stop: end
  exact ⟨rfl, rfl⟩
end Go.Proofs.Ytgobjpcankaicaa.Vc
/-
  The walks of the reference's forms. Conditions: as each states them.
-/
namespace Go.Proofs.Ytgobjpcankaicaa.Vc
open Go.RowKit

section
variable {P : Program} {N : Nat} {ops : Array Oper} {K : Env → World → Prop} {rest : List Oper} {e : Env} {w : World} {d : Nat} {ty : TypeId} {pos : String} {af : Array Edge}
theorem Ops.bld0 {t : TypeId} {f0 : Field} {z0 zf : Value} {b bf : Nat} [Und P t (.struct #[f0])] [Inf P t (.agg #[z0]) 1 b] (hI : Inf P f0.type zf 1 bf) (hb : Nat.blt d N = true)
    (hK : Ops P N ops K rest (upd e d (.agg #[z0])) w) : Ops P N ops K (⟨some d, .build t #[], ty, pos, af, none⟩ :: rest) e w := by
  obtain ⟨inf, hi, hz0, hs, hby⟩ := Inf.get P t
  obtain ⟨inf', hi', hz0', hs', hby'⟩ := hI.get P f0.type
  have ez : (Value.agg #[z0]).cells = #[z0] := rfl
  refine .val (w' := w) ?_ hb hK
  simp [execOp, Instr.build, run_underlying (Und.out (P := P) (t := t)), sizeOf, typeInfo, zeroValue, hi, hz0, hs, hi', hs', ez, Instr.fill]
end

theorem l01Back_c (A : Option Addr) (n c : Nat) (p : List Int) (w : World) (hP : RdI w A n p) (hn : n ≤ 1000000000) (hp : ∀ k : Nat, k < n → 0 ≤ gi p k ∧ gi p k < n) :
    Ret Try.prog 225 [.slice A n c] w (fun v w' => ∃ A', v = .slice A' n n ∧ St w w' [CkI 2 A' n n (backI n p)]) := by
  have hpl := hP.1
  refine Ret.of_cd Try.func225 rfl Try.ntmps225 rfl (post1 rfl) ?_
  refine Cd.seq ?_
  refine Cd.region ?_
  refine Ops.mv_sl rfl rfl rfl ?_
  refine Ops.nil ?_
  refine thenQ_n ?_
  refine Cd.seq ?_
  refine Cd.region ?_
  refine Ops.mv_sl rfl rfl rfl ?_
  refine Ops.len rfl rfl ?_
  -- stop: MAKESLICE 33 t6 t6 -> 7
  refine Ops.mkI n (St.refl w) rfl rfl (by omega) ?_
  intro A1 w1 hS1
  refine Ops.mv_sl rfl rfl rfl ?_
  refine Ops.nil ?_
  refine thenQ_n ?_
  refine Cd.seq ?_
  refine Cd.seq ?_
  refine Cd.region ?_
  refine Ops.mv_int rfl rfl rfl ?_
  refine Ops.nil ?_
  refine thenQ_n ?_
  refine Cd.block ?_
  -- stop: loop
  refine Cd.loop (α := Nat) (fun k => [(0, .slice A n c), (3, .slice A1 n n), (4, .int .i64 (k : Int))]) (fun k w' => St w w' [CkI 2 A1 n n (scat (List.replicate n 0) (fun k => gi p k) (fun k => (k : Int)) k)] ∧ k ≤ n) (fun k => n - k) 0 ⟨rfl, rfl, rfl, trivial⟩ ⟨hS1, Nat.zero_le _⟩ ?_
  rintro k e w2 ⟨hS2, hk⟩
  have hP2 := hS2.oldI hP
  refine Cd.seq ?_
  refine Cd.seq ?_
  refine Cd.region ?_
  refine Ops.mv_int rfl rfl rfl ?_
  refine Ops.mv_sl rfl rfl rfl ?_
  refine Ops.len rfl rfl ?_
  refine Ops.lss rfl rfl rfl ?_
  refine Ops.nil ?_
  refine thenQ_n ?_
  -- stop: cond
  refine Cd.cond_p _ rfl (fun h1 => ?_) (fun h1 => ?_)
  · have hpk := hp k (by omega)
    refine Cd.skip ?_
    refine thenQ_n ?_
    refine Cd.seq ?_
    refine Cd.block ?_
    refine Cd.region ?_
    refine Ops.mv_sl rfl rfl rfl ?_
    refine Ops.mv_sl rfl rfl rfl ?_
    refine Ops.mv_int rfl rfl rfl ?_
    -- stop: INDEXADDR 33 t15 t16 -> 17
    refine Ops.idx hP2.2 rfl rfl rfl (by omega) (by omega) ?_
    refine Ops.ld_int hP2 rfl (by omega) rfl rfl ?_
    refine Ops.mv_int rfl rfl rfl ?_
    -- stop: INDEXADDR 33 t14 t18 -> 20
    refine Ops.idx (hS2.rdI 0 rfl).2 rfl rfl rfl (by omega) (by omega) ?_
    refine Ops.st_int 0 hS2 rfl rfl rfl (by omega) ?_
    intro w3 hS3
    refine Ops.nil ?_
    refine blockQ_n ?_
    refine thenQ_n ?_
    refine Cd.region ?_
    refine Ops.mv_int rfl rfl rfl ?_
    refine Ops.add rfl rfl rfl (by omega) ?_
    refine Ops.mv_int rfl rfl rfl ?_
    refine Ops.nil ?_
    refine thenQ_n ?_
    -- stop: round
    exact ⟨k + 1, by show n - (k + 1) < n - k; omega, ⟨rfl, rfl, rfl, trivial⟩, hS3, by omega⟩
  · refine Cd.exit ?_
    refine thenQ_x ?_
    refine thenQ_x ?_
    refine blockQ_x ?_
    refine thenQ_n ?_
    refine Cd.seq ?_
    refine Cd.region ?_
    refine Ops.mv_sl rfl rfl rfl ?_
    refine Ops.mv_sl rfl rfl rfl ?_
    refine Ops.nil ?_
    refine thenQ_n ?_
    refine Cd.ret ?_
    refine ret1_s rfl ?_
    -- stop: end
    have hkn : k = n := by omega
    subst hkn
    refine ⟨A1, rfl, ?_⟩
    unfold backI
    rw [hpl]
    exact hS2

theorem l02Numbers_c (A : Option Addr) (n c : Nat) (rs : List SlV) (xss : List (List Int)) (N : Nat) (pt : Int) (w : World) (hR : RowsI w A n rs xss) (hn : n ≤ 9223372036854775807) (hs : Sys N xss) (hN : N ≤ 1000000) (h0 : 0 ≤ pt) (h1 : pt < N) (hP : Prm N (orbit N xss pt)) :
    Ret Try.prog 193 [.agg #[.slice A n c], .int .i64 pt] w (fun v w' => ∃ A', v = .slice A' N N ∧ St w w' [CkI 2 A' N N (backI N (orbit N xss pt))]) := by
  refine Ret.of_cd Try.func193 rfl Try.ntmps193 rfl (post1 rfl) ?_
  refine Cd.seq ?_
  refine Cd.region ?_
  -- stop: BOX 24 t0=m -> 2
  refine Ops.box1 (St.refl w) rfl rfl ?_
  intro Ab w1 hS1
  refine Ops.mv_sl rfl rfl rfl ?_
  refine Ops.nil ?_
  refine thenQ_n ?_
  refine Cd.seq ?_
  refine Cd.region ?_
  -- stop: FIELDADDR 24 t2=m 0 -> 6
  refine Ops.fld (hS1.rd 0 rfl) rfl rfl rfl rfl inferInstance ?_
  refine Ops.ldf_s (hS1.rd 0 rfl) rfl rfl rfl rfl rfl ?_
  refine Ops.mv_int rfl rfl rfl ?_
  -- stop: CALL spec.l01Orbit(t7, t8) -> 9
  refine Ops.call (l01Orbit_c A n c rs xss N pt _ (hS1.oldRows hR) hn hs (by omega) h0 h1) rfl rfl rfl ?_
  rintro _ w2 ⟨A2, c2, rfl, hst⟩
  rw [hP.len] at hst ⊢
  have hS2 := hS1.none.call hst
  refine Ops.mv_sl rfl rfl rfl ?_
  refine Ops.nil ?_
  refine thenQ_n ?_
  refine Cd.seq ?_
  refine Cd.region ?_
  refine Ops.mv_sl rfl rfl rfl ?_
  -- stop: CALL spec.l01Back(t10) -> 11
  refine Ops.call (l01Back_c A2 N c2 _ _ (hS2.rdI 0 rfl) (by omega) (fun k hk => hP.rng hk)) rfl rfl rfl ?_
  rintro _ w3 ⟨A3, rfl, hst3⟩
  refine Ops.mv_sl rfl rfl rfl ?_
  refine Ops.nil ?_
  refine thenQ_n ?_
  refine Cd.ret ?_
  refine ret1_s rfl ?_
  -- stop: end
  exact ⟨A3, rfl, (hS2.none).call hst3⟩

theorem l02Renumber_c (A : Option Addr) (n c : Nat) (rs : List SlV) (xss : List (List Int)) (N : Nat) (Ap : Option Addr) (cp : Nat) (p : List Int) (w : World) (hR : RowsI w A n rs xss) (hn : n ≤ 1000000) (hs : Sys N xss) (hN : N ≤ 1000000) (hP : RdI w Ap N p) (hp : ∀ x : Int, 0 ≤ x → x < N → 0 ≤ gi p x ∧ gi p x < N) :
    Ret Try.prog 192 [.agg #[.slice A n c], .slice Ap N cp] w (fun v w' => ∃ A' c' rs', v = .agg #[.slice A' n c'] ∧ rs'.length = n ∧ St w w' (mat 33 2 A' n c' rs' (xss.map (renI N p)))) := by
  have hpl := hP.1
  have hxl := hR.len
  refine Ret.of_cd Try.func192 rfl Try.ntmps192 rfl (postc rfl rfl) ?_
  refine Cd.seq ?_
  refine Cd.region ?_
  -- stop: BOX 24 t0=m -> 2
  refine Ops.box1 (St.refl w) rfl rfl ?_
  intro Ab w1 hS1
  refine Ops.new1 hS1 rfl ?_
  intro Ac w2 hS2
  refine Ops.nil ?_
  refine thenQ_n ?_
  refine Cd.seq ?_
  refine Cd.region ?_
  -- stop: BUILD 24 [] -> 9
  refine Ops.bld0 (by exact inferInstance) rfl ?_
  refine Ops.new1 hS2 rfl ?_
  intro Ad w3 hS3
  refine Ops.st_agg 1 0 hS3 rfl rfl rfl rfl rfl rfl rfl ?_
  intro w4 hS4
  have hS4 : St w w4 (Bx 24 1 Ad [.slice none 0 0] :: Bx 24 1 Ac [.slice none 0 0] :: Bx 24 1 Ab [.slice A n c] :: []) := hS4
  have hS0 : St w w4 (Bx 24 1 Ad [.slice none 0 0] :: Bx 24 1 Ac [.slice none 0 0] :: Bx 24 1 Ab [.slice A n c] :: CkR 33 none 0 0 [] :: []) :=
    (hS4.nil 33).perm (List.perm_append_comm (l₁ := [_]) (l₂ := [_, _, _]))
  refine Ops.nil ?_
  refine thenQ_n ?_
  refine Cd.seq ?_
  refine Cd.seq ?_
  refine Cd.region ?_
  refine Ops.mv_int rfl rfl rfl ?_
  refine Ops.nil ?_
  refine thenQ_n ?_
  refine Cd.block ?_
  -- stop: loop
  refine Cd.loop (α := Nat × Option Addr × Nat × List SlV) (fun s => [(1, .slice Ap N cp), (2, .pointer Ab), (4, .pointer Ac), (5, .pointer Ad), (6, .int .i64 (s.1 : Int))]) (fun s w' => St w w' (Bx 24 1 Ad [.slice s.2.1 s.1 s.2.2.1] :: Bx 24 1 Ac [.slice none 0 0] :: Bx 24 1 Ab [.slice A n c] :: CkR 33 s.2.1 s.1 s.2.2.1 s.2.2.2 :: rowsCk 2 s.2.2.2 ((xss.map (renI N p)).take s.1)) ∧ s.1 ≤ n ∧ s.2.2.2.length = s.1) (fun s => n - s.1) (0, none, 0, []) ⟨rfl, rfl, rfl, rfl, rfl, trivial⟩ ⟨hS0, Nat.zero_le _, rfl⟩ ?_
  rintro ⟨i, A3, c3, rs1⟩ e w5 ⟨hS5, hi, hlen⟩
  dsimp only at hS5 hi hlen ⊢
  refine Cd.seq ?_
  refine Cd.seq ?_
  refine Cd.region ?_
  refine Ops.mv_int rfl rfl rfl ?_
  -- stop: FIELDADDR 24 t2=m 0 -> 11
  refine Ops.fld (hS5.rd 2 rfl) rfl rfl rfl rfl inferInstance ?_
  refine Ops.ldf_s (hS5.rd 2 rfl) rfl rfl rfl rfl rfl ?_
  refine Ops.len rfl rfl ?_
  refine Ops.lss rfl rfl rfl ?_
  refine Ops.nil ?_
  refine thenQ_n ?_
  -- stop: cond
  refine Cd.cond_p _ rfl (fun h1 => ?_) (fun h1 => ?_)
  · have hi' : i < n := by omega
    have hx : i < xss.length := by omega
    refine Cd.skip ?_
    refine thenQ_n ?_
    refine Cd.seq ?_
    refine Cd.block ?_
    refine Cd.seq ?_
    refine Cd.region ?_
    refine Ops.mv_sl rfl rfl rfl ?_
    refine Ops.len rfl rfl ?_
    -- stop: MAKESLICE 33 t18 t18 -> 19
    refine Ops.mkI N hS5 rfl rfl (by omega) ?_
    intro A7 w6 hS6
    refine Ops.mv_sl rfl rfl rfl ?_
    refine Ops.nil ?_
    refine thenQ_n ?_
    refine Cd.seq ?_
    refine Cd.seq ?_
    refine Cd.region ?_
    refine Ops.mv_int rfl rfl rfl ?_
    refine Ops.nil ?_
    refine thenQ_n ?_
    refine Cd.block ?_
    -- stop: loop
    have e2 : gl xss i = xss[i] := by simp [gl, List.getD_eq_getElem?_getD, List.getElem?_eq_getElem hx]
    have hmv := hs (gl xss i) (gl_in (by omega) (by omega))
    refine Cd.loop (α := Nat) (fun k => [(1, .slice Ap N cp), (2, .pointer Ab), (4, .pointer Ac), (5, .pointer Ad), (6, .int .i64 (i : Int)), (7, .slice A7 N N), (8, .int .i64 (k : Int))]) (fun k w' => St w w' (CkI 2 A7 N N (scat (List.replicate N 0) (fun f => gi p f) (fun f => gi p (gi (gl xss i) f)) k) :: Bx 24 1 Ad [.slice A3 i c3] :: Bx 24 1 Ac [.slice none 0 0] :: Bx 24 1 Ab [.slice A n c] :: CkR 33 A3 i c3 rs1 :: rowsCk 2 rs1 ((xss.map (renI N p)).take i)) ∧ k ≤ N) (fun k => N - k) 0 ⟨rfl, rfl, rfl, rfl, rfl, rfl, rfl, trivial⟩ ⟨hS6, Nat.zero_le _⟩ ?_
    rintro k e w7 ⟨hS7, hk⟩
    have hM := hS7.oldRows hR
    have hP7 := hS7.oldI hP
    refine Cd.seq ?_
    refine Cd.seq ?_
    refine Cd.region ?_
    refine Ops.mv_int rfl rfl rfl ?_
    refine Ops.mv_sl rfl rfl rfl ?_
    refine Ops.len rfl rfl ?_
    refine Ops.lss rfl rfl rfl ?_
    refine Ops.nil ?_
    refine thenQ_n ?_
    -- stop: cond
    refine Cd.cond_p _ rfl (fun h2 => ?_) (fun h2 => ?_)
    · have hrow := hM.at_ (i := (i : Int)) (by omega) h1
      have hrn := hM.rowLen (k := (i : Int)) (by omega) h1
      have hv := hmv.2 (k : Int) (by omega) (by omega)
      have hpk := hp (k : Int) (by omega) (by omega)
      have hpv := hp _ hv.1 hv.2
      have hml := hmv.1
      have hB := hS7.rd 3 rfl
      have hO := hS7.rdI 0 rfl
      have hlt : (gi p (k : Int)).toNat < N := by omega
      refine Cd.skip ?_
      refine thenQ_n ?_
      refine Cd.seq ?_
      refine Cd.block ?_
      -- stop: draw
      refine Cd.drawN [17] [.ex (.slice (A7) (N) (N)), .ex (.slice (Ap) (N) (cp)), .ex (.int .i64 ((k : Int))), .ex (.pointer (ptrAt (Ap) ((k : Int)).toNat)), .ex (.int .i64 (gi (p) ((k : Int)))), .ex (.slice (Ap) (N) (cp)), .ex (.pointer (ptrAt (Ab) 0)), .ex (.slice (A) (n) (c)), .ex (.int .i64 ((i : Int))), .ex (.pointer (ptrAt (A) ((i : Int)).toNat)), .ex (.slice ((rg (rs) ((i : Int))).a) ((rg (rs) ((i : Int))).n) ((rg (rs) ((i : Int))).c)), .ex (.int .i64 ((k : Int))), .ex (.pointer (ptrAt ((rg (rs) ((i : Int))).a) ((k : Int)).toNat)), .ex (.int .i64 (gi (gl xss (i : Int)) ((k : Int)))), .ex (.pointer (ptrAt (Ap) (gi (gl xss (i : Int)) ((k : Int))).toNat)), .ex (.int .i64 (gi (p) (gi (gl xss (i : Int)) ((k : Int))))), .ex (.pointer (ptrAt (A7) (gi (p) ((k : Int))).toNat)), .pr (fun _ w' => St w w' (CkI 2 A7 N N (scat (List.replicate N 0) (fun f => gi p f) (fun f => gi p (gi (gl xss i) f)) (k + 1)) :: Bx 24 1 Ad [.slice A3 i c3] :: Bx 24 1 Ac [.slice none 0 0] :: Bx 24 1 Ab [.slice A n c] :: CkR 33 A3 i c3 rs1 :: rowsCk 2 rs1 ((xss.map (renI N p)).take i)))] (by kernel_rfl) (by kernel_rfl) (List.forall_mem_cons.2 ⟨Yd.lasts_ex _, (List.forall_mem_cons.2 ⟨Yd.lasts_ex _, (List.forall_mem_cons.2 ⟨Yd.lasts_ex _, (List.forall_mem_cons.2 ⟨Yd.lasts_ex _, (List.forall_mem_cons.2 ⟨Yd.lasts_ex _, (List.forall_mem_cons.2 ⟨Yd.lasts_ex _, (List.forall_mem_cons.2 ⟨Yd.lasts_ex _, (List.forall_mem_cons.2 ⟨Yd.lasts_ex _, (List.forall_mem_cons.2 ⟨Yd.lasts_ex _, (List.forall_mem_cons.2 ⟨Yd.lasts_ex _, (List.forall_mem_cons.2 ⟨Yd.lasts_ex _, (List.forall_mem_cons.2 ⟨Yd.lasts_ex _, (List.forall_mem_cons.2 ⟨Yd.lasts_ex _, (List.forall_mem_cons.2 ⟨Yd.lasts_ex _, (List.forall_mem_cons.2 ⟨Yd.lasts_ex _, (List.forall_mem_cons.2 ⟨Yd.lasts_ex _, (List.forall_mem_cons.2 ⟨Yd.lasts_ex _, (List.forall_mem_cons.2 ⟨Yd.lasts_pr (fun v w w' h hb => h.later hb), (fun _ h => by cases h)⟩)⟩)⟩)⟩)⟩)⟩)⟩)⟩)⟩)⟩)⟩)⟩)⟩)⟩)⟩)⟩)⟩)⟩) ⟨?_, ?_, ?_, ?_, ?_, ?_, ?_, ?_, ?_, ?_, ?_, ?_, ?_, ?_, ?_, ?_, ?_, ?_, trivial⟩ ?_
      · intro e1 w1 cc hlo hhi hb0 hp hun hq
        show Ops _ _ _ _ _ _ _
        refine Ops.mv_sl rfl rfl rfl ?_
        refine Ops.nil ?_
        exact AfterN.dn rfl (Below.refl _ _) (by exact rfl)
      · intro e1 w1 cc hlo hhi hb0 hp hun hq
        show Ops _ _ _ _ _ _ _
        refine Ops.mv_sl rfl rfl rfl ?_
        refine Ops.nil ?_
        exact AfterN.dn rfl (Below.refl _ _) (by exact rfl)
      · intro e1 w1 cc hlo hhi hb0 hp hun hq
        show Ops _ _ _ _ _ _ _
        refine Ops.mv_int rfl rfl rfl ?_
        refine Ops.nil ?_
        exact AfterN.dn rfl (Below.refl _ _) (by exact rfl)
      · intro e1 w1 cc hlo hhi hb0 hp hun hq
        show Ops _ _ _ _ _ _ _
        replace hlo := le_of_lo hlo (b := 0) (by kernel_rfl)
        replace hhi := le_of_hi hhi (b := 0) (by kernel_rfl)
        obtain rfl : cc = 0 := by omega
        have hb := hb0 rfl
        refine Ops.idx (hP7.later hb).2 rfl rfl rfl (by omega) (by omega) ?_
        refine Ops.nil ?_
        exact AfterN.dn rfl (Below.refl _ _) (by exact rfl)
      · intro e1 w1 cc hlo hhi hb0 hp hun hq
        show Ops _ _ _ _ _ _ _
        replace hlo := le_of_lo hlo (b := 0) (by kernel_rfl)
        replace hhi := le_of_hi hhi (b := 0) (by kernel_rfl)
        obtain rfl : cc = 0 := by omega
        have hb := hb0 rfl
        refine Ops.ld_int (hP7.later hb) rfl (by omega) rfl rfl ?_
        refine Ops.nil ?_
        exact AfterN.dn rfl (Below.refl _ _) (by exact rfl)
      · intro e1 w1 cc hlo hhi hb0 hp hun hq
        show Ops _ _ _ _ _ _ _
        refine Ops.mv_sl rfl rfl rfl ?_
        refine Ops.nil ?_
        exact AfterN.dn rfl (Below.refl _ _) (by exact rfl)
      · intro e1 w1 cc hlo hhi hb0 hp hun hq
        show Ops _ _ _ _ _ _ _
        replace hlo := le_of_lo hlo (b := 0) (by kernel_rfl)
        replace hhi := le_of_hi hhi (b := 0) (by kernel_rfl)
        obtain rfl : cc = 0 := by omega
        have hb := hb0 rfl
        refine Ops.fld (hB.below hb) rfl rfl rfl rfl inferInstance ?_
        refine Ops.nil ?_
        exact AfterN.dn rfl (Below.refl _ _) (by exact rfl)
      · intro e1 w1 cc hlo hhi hb0 hp hun hq
        show Ops _ _ _ _ _ _ _
        replace hlo := le_of_lo hlo (b := 0) (by kernel_rfl)
        replace hhi := le_of_hi hhi (b := 0) (by kernel_rfl)
        obtain rfl : cc = 0 := by omega
        have hb := hb0 rfl
        refine Ops.ldf_s (hB.below hb) rfl rfl rfl rfl rfl ?_
        refine Ops.nil ?_
        exact AfterN.dn rfl (Below.refl _ _) (by exact rfl)
      · intro e1 w1 cc hlo hhi hb0 hp hun hq
        show Ops _ _ _ _ _ _ _
        refine Ops.mv_int rfl rfl rfl ?_
        refine Ops.nil ?_
        exact AfterN.dn rfl (Below.refl _ _) (by exact rfl)
      · intro e1 w1 cc hlo hhi hb0 hp hun hq
        show Ops _ _ _ _ _ _ _
        replace hlo := le_of_lo hlo (b := 0) (by kernel_rfl)
        replace hhi := le_of_hi hhi (b := 0) (by kernel_rfl)
        obtain rfl : cc = 0 := by omega
        have hb := hb0 rfl
        refine Ops.idx (hM.top.later hb).2 rfl rfl rfl (by omega) (by omega) ?_
        refine Ops.nil ?_
        exact AfterN.dn rfl (Below.refl _ _) (by exact rfl)
      · intro e1 w1 cc hlo hhi hb0 hp hun hq
        show Ops _ _ _ _ _ _ _
        replace hlo := le_of_lo hlo (b := 0) (by kernel_rfl)
        replace hhi := le_of_hi hhi (b := 0) (by kernel_rfl)
        obtain rfl : cc = 0 := by omega
        have hb := hb0 rfl
        refine Ops.ld_sl (hM.top.later hb) rfl (by omega) rfl rfl ?_
        refine Ops.nil ?_
        exact AfterN.dn rfl (Below.refl _ _) (by exact rfl)
      · intro e1 w1 cc hlo hhi hb0 hp hun hq
        show Ops _ _ _ _ _ _ _
        refine Ops.mv_int rfl rfl rfl ?_
        refine Ops.nil ?_
        exact AfterN.dn rfl (Below.refl _ _) (by exact rfl)
      · intro e1 w1 cc hlo hhi hb0 hp hun hq
        show Ops _ _ _ _ _ _ _
        replace hlo := le_of_lo hlo (b := 0) (by kernel_rfl)
        replace hhi := le_of_hi hhi (b := 0) (by kernel_rfl)
        obtain rfl : cc = 0 := by omega
        have hb := hb0 rfl
        refine Ops.idx (hrow.later hb).2 rfl rfl rfl (by omega) (by omega) ?_
        refine Ops.nil ?_
        exact AfterN.dn rfl (Below.refl _ _) (by exact rfl)
      · intro e1 w1 cc hlo hhi hb0 hp hun hq
        show Ops _ _ _ _ _ _ _
        replace hlo := le_of_lo hlo (b := 0) (by kernel_rfl)
        replace hhi := le_of_hi hhi (b := 0) (by kernel_rfl)
        obtain rfl : cc = 0 := by omega
        have hb := hb0 rfl
        refine Ops.ld_int (hrow.later hb) rfl (by omega) rfl rfl ?_
        refine Ops.nil ?_
        exact AfterN.dn rfl (Below.refl _ _) (by exact rfl)
      · intro e1 w1 cc hlo hhi hb0 hp hun hq
        show Ops _ _ _ _ _ _ _
        replace hlo := le_of_lo hlo (b := 0) (by kernel_rfl)
        replace hhi := le_of_hi hhi (b := 0) (by kernel_rfl)
        obtain rfl : cc = 0 := by omega
        have hb := hb0 rfl
        refine Ops.idx (hP7.later hb).2 rfl rfl rfl (by omega) (by omega) ?_
        refine Ops.nil ?_
        exact AfterN.dn rfl (Below.refl _ _) (by exact rfl)
      · intro e1 w1 cc hlo hhi hb0 hp hun hq
        show Ops _ _ _ _ _ _ _
        replace hlo := le_of_lo hlo (b := 0) (by kernel_rfl)
        replace hhi := le_of_hi hhi (b := 0) (by kernel_rfl)
        obtain rfl : cc = 0 := by omega
        have hb := hb0 rfl
        refine Ops.ld_int (hP7.later hb) rfl (by omega) rfl rfl ?_
        refine Ops.nil ?_
        exact AfterN.dn rfl (Below.refl _ _) (by exact rfl)
      · intro e1 w1 cc hlo hhi hb0 hp hun hq
        show Ops _ _ _ _ _ _ _
        replace hlo := le_of_lo hlo (b := 0) (by kernel_rfl)
        replace hhi := le_of_hi hhi (b := 0) (by kernel_rfl)
        obtain rfl : cc = 0 := by omega
        have hb := hb0 rfl
        refine Ops.idx (hO.later hb).2 rfl rfl rfl (by omega) (by omega) ?_
        refine Ops.nil ?_
        exact AfterN.dn rfl (Below.refl _ _) (by exact rfl)
      · intro e1 w1 cc hlo hhi hb0 hp hun hq
        show Ops _ _ _ _ _ _ _
        replace hlo := le_of_lo hlo (b := 0) (by kernel_rfl)
        replace hhi := le_of_hi hhi (b := 0) (by kernel_rfl)
        obtain rfl : cc = 0 := by omega
        have hb := hb0 rfl
        refine Ops.st_int 0 (hS7.later hb) rfl rfl rfl hlt ?_
        intro w9 hst
        refine Ops.nil ?_
        exact AfterT.st rfl hst
      intro u w8 _ hu
      have hS8 := hu 17 _ rfl (by kernel_rfl)
      refine blockQ_n ?_
      refine thenQ_n ?_
      refine Cd.region ?_
      refine Ops.mv_int rfl rfl rfl ?_
      refine Ops.add rfl rfl rfl (by omega) ?_
      refine Ops.mv_int rfl rfl rfl ?_
      refine Ops.nil ?_
      refine thenQ_n ?_
      -- stop: round
      exact ⟨k + 1, by show N - (k + 1) < N - k; omega, ⟨rfl, rfl, rfl, rfl, rfl, rfl, rfl, trivial⟩, hS8, by omega⟩
    · have hkN : k = N := by omega
      subst hkN
      refine Cd.exit ?_
      refine thenQ_x ?_
      refine thenQ_x ?_
      refine blockQ_x ?_
      refine thenQ_n ?_
      refine Cd.region ?_
      -- stop: FIELDADDR 24 t5=out 0 -> 43
      refine Ops.fld (hS7.rd 1 rfl) rfl rfl rfl rfl inferInstance ?_
      refine Ops.ldf_s (hS7.rd 1 rfl) rfl rfl rfl rfl rfl ?_
      refine Ops.mv_sl rfl rfl rfl ?_
      -- stop: BUILDSLICE 22 1 [('pair', [0, ('app', 'Go.Operand.tmp', [45])])] -> 46
      refine Ops.bs1R hS7 rfl rfl rfl ?_
      intro A9 w9 hS9
      refine Ops.appR 5 hS9 rfl (hS9.rdR 0 rfl) rfl rfl rfl (by omega) (by omega) rfl ?_
      intro A10 c10 w10 hS10
      have hS10 := hS10.tail
      refine Ops.fld (hS10.rd 1 rfl) rfl rfl rfl rfl inferInstance ?_
      refine Ops.stf 1 hS10 rfl rfl rfl rfl rfl ?_
      intro w11 hS11
      have hS11 : St w w11 (CkI 2 A7 k k (renI k p (gl xss i)) :: Bx 24 1 Ad [.slice A10 (i + 1) c10] :: Bx 24 1 Ac [.slice none 0 0] :: Bx 24 1 Ab [.slice A n c] :: CkR 33 A10 (i + 1) c10 (rs1 ++ [⟨A7, k, k⟩]) :: rowsCk 2 rs1 ((xss.map (renI k p)).take i)) := hS11
      refine Ops.nil ?_
      refine blockQ_n ?_
      refine thenQ_n ?_
      refine Cd.region ?_
      refine Ops.mv_int rfl rfl rfl ?_
      refine Ops.add rfl rfl rfl (by omega) ?_
      refine Ops.mv_int rfl rfl rfl ?_
      refine Ops.nil ?_
      refine thenQ_n ?_
      -- stop: round
      refine ⟨(i + 1, A10, c10, rs1 ++ [⟨A7, k, k⟩]), by show n - (i + 1) < n - i; omega, ⟨rfl, rfl, rfl, rfl, rfl, trivial⟩, ?_, hi', by simp [hlen]⟩
      show St w w11 (_ :: _ :: _ :: CkR _ A10 (i + 1) c10 (rs1 ++ [_]) :: rowsCk _ (rs1 ++ [_]) ((xss.map (renI k p)).take (i + 1)))
      rw [List.take_succ_eq_append_getElem (by rw [List.length_map]; exact hx), rowsCk_append (by simp [hlen]; omega), List.getElem_map, ← e2]
      refine hS11.perm ?_
      exact List.perm_append_comm (l₁ := [_]) (l₂ := _ :: _ :: _ :: _ :: rowsCk 2 rs1 ((xss.map (renI k p)).take i))
  · refine Cd.exit ?_
    refine thenQ_x ?_
    refine thenQ_x ?_
    refine blockQ_x ?_
    refine thenQ_n ?_
    refine Cd.seq ?_
    refine Cd.region ?_
    -- stop: LOAD 24 t5=out -> 49
    have hin : i = n := by omega
    subst hin
    rw [List.take_of_length_le (by rw [List.length_map]; omega)] at hS5
    refine Ops.ld_agg 0 (hS5.rd 0 rfl) rfl rfl rfl ?_
    refine Ops.st_agg 1 1 hS5 rfl rfl rfl rfl rfl rfl rfl ?_
    intro w6 hS6
    refine Ops.nil ?_
    refine thenQ_n ?_
    refine Cd.ret ?_
    skip
    -- stop: end
    refine retc_r rfl (hS6.rd 1 rfl) ?_
    exact ⟨A3, c3, rs1, rfl, hlen, hS6.sub (((List.sublist_cons_self _ _).trans (List.sublist_cons_self _ _)).trans (List.sublist_cons_self _ _))⟩
end Go.Proofs.Ytgobjpcankaicaa.Vc
/-
  The walks of forms on both sides. Conditions: as each states them.
-/
namespace Go.Proofs.Ytgobjpcankaicaa.Vc
open Go.RowKit

theorem Mani.prm {xss : List (List Int)} (hM : Mani xss) {f : Int} (h0 : 0 ≤ f) (hf : f < (gl xss 0).length) : Prm (gl xss 0).length (orbit (gl xss 0).length xss f) := by
  have hs := hM.2.2.1.sys
  have hi := hM.2.2.1.inj
  have h2 := hM.2.1
  obtain ⟨g, _, hm⟩ := orbit_spec hs h0 hf
  have hall := (orbit_all hs (by omega)).1 hM.2.2.2.2
  refine ⟨?_, g.nodup, g.range⟩
  have h1 := sub_len (seqI (gl xss 0).length) (orbit (gl xss 0).length xss f) (by
    unfold seqI
    rw [List.nodup_iff_pairwise_ne, List.pairwise_map]
    exact (List.nodup_iff_pairwise_ne.1 List.nodup_range).imp (fun h e => h (by omega))) (fun z hz => by
    have hz := seqI_mem.1 hz
    exact (hm z).2 ((Reach.symm hs hi (by omega) (by omega) (hall f h0 hf)).trans (hall z hz.1 hz.2)))
  rw [seqI_len] at h1
  have := g.len
  omega

theorem l02Form_c (A : Option Addr) (n c : Nat) (rs : List SlV) (xss : List (List Int)) (N : Nat) (f : Int) (w : World) (hR : RowsI w A n rs xss) (hM : Mani xss) (hN : N = (gl xss 0).length) (h0 : 0 ≤ f) (hf : f < N) :
    Ret Try.prog 154 [.agg #[.slice A n c], .int .i64 f] w (fun v w' => ∃ A' c' rs', v = .agg #[.slice A' n c'] ∧ rs'.length = n ∧ St w w' (mat 33 2 A' n c' rs' (formL N xss f))) := by
  subst hN
  have hP := hM.prm h0 hf
  have hs := hM.2.2.1.sys
  have h5 := hM.1
  have h40 := hM.2.1
  have hxl := hR.len
  have hfr : xss.map (renI (gl xss 0).length (backI (gl xss 0).length (orbit (gl xss 0).length xss f))) = formL (gl xss 0).length xss f := List.map_congr_left (fun mv _ => ren_row hP)
  have hbk : ∀ x : Int, 0 ≤ x → x < ((gl xss 0).length : Int) → 0 ≤ gi (backI (gl xss 0).length (orbit (gl xss 0).length xss f)) x ∧ gi (backI (gl xss 0).length (orbit (gl xss 0).length xss f)) x < ((gl xss 0).length : Int) := fun x h0 h1 => by
    obtain ⟨k, hk, _, hb⟩ := hP.backR h0 h1
    omega
  generalize hNe : (gl xss 0).length = N at *
  refine Ret.of_cd Try.func154 rfl Try.ntmps154 rfl (postc rfl rfl) ?_
  refine Cd.seq ?_
  refine Cd.region ?_
  -- stop: BOX 24 t0=m -> 2
  refine Ops.box1 (St.refl w) rfl rfl ?_
  intro Ab w1 hS1
  refine Ops.new1 hS1 rfl ?_
  intro Ac w2 hS2
  refine Ops.nil ?_
  refine thenQ_n ?_
  refine Cd.seq ?_
  -- stop: draw
  have hB := hS2.rd 1 rfl
  refine Cd.drawN [5] [.ex (.agg #[.slice (A) (n) (c)]), .ex (.agg #[.slice (A) (n) (c)]), .ex (.int .i64 (f)), .pr (fun v w' => ∃ A4, v = .slice A4 N N ∧ St w w' [CkI 2 A4 N N (backI N (orbit N xss f)), Bx 24 1 Ac [.slice none 0 0], Bx 24 1 Ab [.slice A n c]]), .pr (fun v w' => ∃ A4 c4 rs4, v = .agg #[.slice A4 n c4] ∧ rs4.length = n ∧ St w w' (Bx 24 1 Ac [.slice none 0 0] :: Bx 24 1 Ab [.slice A n c] :: mat 33 2 A4 n c4 rs4 (formL N xss f))), .pr (fun _ w' => ∃ A4 c4 rs4, rs4.length = n ∧ St w w' (Bx 24 1 Ac [.slice A4 n c4] :: Bx 24 1 Ab [.slice A n c] :: mat 33 2 A4 n c4 rs4 (formL N xss f)))] (by kernel_rfl) (by kernel_rfl) (List.forall_mem_cons.2 ⟨Yd.lasts_ex _, (List.forall_mem_cons.2 ⟨Yd.lasts_ex _, (List.forall_mem_cons.2 ⟨Yd.lasts_ex _, (List.forall_mem_cons.2 ⟨Yd.lasts_pr (fun v w w' h hb => by obtain ⟨A4, hv, hT⟩ := h; exact ⟨A4, hv, hT.later hb⟩), (List.forall_mem_cons.2 ⟨Yd.lasts_pr (fun v w w' h hb => by obtain ⟨A4, c4, rs4, hv, hl, hT⟩ := h; exact ⟨A4, c4, rs4, hv, hl, hT.later hb⟩), (List.forall_mem_cons.2 ⟨Yd.lasts_pr (fun v w w' h hb => by obtain ⟨A4, c4, rs4, hl, hT⟩ := h; exact ⟨A4, c4, rs4, hl, hT.later hb⟩), (fun _ h => by cases h)⟩)⟩)⟩)⟩)⟩)⟩) ⟨?_, ?_, ?_, ?_, ?_, ?_, trivial⟩ ?_
  · intro e1 w1 cc hlo hhi hb0 hp hun hq
    show Ops _ _ _ _ _ _ _
    replace hlo := le_of_lo hlo (b := 0) (by kernel_rfl)
    replace hhi := le_of_hi hhi (b := 0) (by kernel_rfl)
    obtain rfl : cc = 0 := by omega
    have hb := hb0 rfl
    refine Ops.ld_agg 0 (hB.below hb) rfl rfl rfl ?_
    refine Ops.nil ?_
    exact AfterN.dn rfl (Below.refl _ _) (by exact rfl)
  · intro e1 w1 cc hlo hhi hb0 hp hun hq
    show Ops _ _ _ _ _ _ _
    replace hlo := le_of_lo hlo (b := 0) (by kernel_rfl)
    replace hhi := le_of_hi hhi (b := 0) (by kernel_rfl)
    obtain rfl : cc = 0 := by omega
    have hb := hb0 rfl
    refine Ops.ld_agg 0 (hB.below hb) rfl rfl rfl ?_
    refine Ops.nil ?_
    exact AfterN.dn rfl (Below.refl _ _) (by exact rfl)
  · intro e1 w1 cc hlo hhi hb0 hp hun hq
    show Ops _ _ _ _ _ _ _
    refine Ops.mv_int rfl rfl rfl ?_
    refine Ops.nil ?_
    exact AfterN.dn rfl (Below.refl _ _) (by exact rfl)
  · intro e1 w1 cc hlo hhi hb0 hp hun hq
    show Ops _ _ _ _ _ _ _
    replace hlo := le_of_lo hlo (b := 0) (by kernel_rfl)
    replace hhi := le_of_hi hhi (b := 0) (by kernel_rfl)
    obtain rfl : cc = 0 := by omega
    have hb := hb0 rfl
    refine Ops.call (l02Numbers_c A n c rs xss N f _ ((hS2.later hb).oldRows hR) (by omega) hs (by omega) h0 hf hP) rfl rfl rfl ?_
    rintro _ w9 ⟨A4, rfl, hst⟩
    refine Ops.nil ?_
    exact AfterN.dn rfl hst.below ⟨A4, rfl, (hS2.later hb).call hst⟩
  · intro e1 w1 cc hlo hhi hb0 hp hun hq
    show Ops _ _ _ _ _ _ _
    replace hlo := le_of_lo hlo (b := 0) (by kernel_rfl)
    replace hhi := le_of_hi hhi (b := 0) (by kernel_rfl)
    obtain rfl : cc = 0 := by omega
    have hb := hb0 rfl
    obtain ⟨A4, h8, hT⟩ := (hp 3 _ _ (by kernel_rfl) rfl rfl (by kernel_rfl))
    have hb := hb0 rfl
    refine Ops.call (l02Renumber_c A n c rs xss N A4 N _ _ (hT.oldRows hR) (by omega) hs (by omega) (hT.rdI 0 rfl) hbk) rfl (by exact congrArg (fun v => [Value.agg #[.slice A n c], v]) h8) rfl ?_
    rintro _ w9 ⟨A5, c5, rs5, rfl, hl5, hst⟩
    refine Ops.nil ?_
    exact AfterN.dn rfl hst.below ⟨A5, c5, rs5, rfl, hl5, by rw [hfr] at hst; exact (hT.tail.call hst).perm List.perm_append_comm⟩
  · intro e1 w1 cc hlo hhi hb0 hp hun hq
    show Ops _ _ _ _ _ _ _
    replace hlo := le_of_lo hlo (b := 0) (by kernel_rfl)
    replace hhi := le_of_hi hhi (b := 0) (by kernel_rfl)
    obtain rfl : cc = 0 := by omega
    have hb := hb0 rfl
    obtain ⟨A4, c4, rs4, h9, hl, hT⟩ := (hp 4 _ _ (by kernel_rfl) rfl rfl (by kernel_rfl))
    refine Ops.st_agg 1 0 hT rfl rfl (by exact h9) rfl rfl rfl rfl ?_
    intro w9 hst
    refine Ops.nil ?_
    exact AfterT.st rfl ⟨A4, c4, rs4, hl, hst⟩
  intro u w3 _ hu
  obtain ⟨A4, c4, rs4, hl4, hT⟩ := hu 5 _ rfl (by kernel_rfl)
  refine thenQ_n ?_
  refine Cd.ret ?_
  skip
  -- stop: end
  refine retc_r rfl (hT.rd 0 rfl) ?_
  exact ⟨A4, c4, rs4, rfl, hl4, hT.sub ((List.sublist_cons_self _ _).trans (List.sublist_cons_self _ _))⟩

theorem numberedFrom_c (A : Option Addr) (n c : Nat) (rs : List SlV) (xss : List (List Int)) (N : Nat) (pt : Int) (w : World) (hR : RowsI w A n rs xss) (hn : n ≤ 9223372036854775807) (hn0 : 0 < n) (hs : Sys N xss) (hN : N ≤ 1000000000) (h0 : 0 ≤ pt) (h1 : pt < N) :
    Ret Try.prog 196 [.slice A n c, .int .i64 pt] w (fun v w' => ∃ A' c', v = .slice A' (orbit N xss pt).length c' ∧ St w w' [CkI 2 A' (orbit N xss pt).length c' (orbit N xss pt)]) := by
  have hrl : ∀ k : Int, 0 ≤ k → k < n → (rg rs k).n = N := fun k hk0 hk => by
    rw [← hR.rowLen hk0 hk]
    exact (hs _ (gl_in hk0 (by rw [hR.len]; exact hk))).1
  have hr0 := hrl 0 (by omega) (by omega)
  refine Ret.of_cd Try.func196 rfl Try.ntmps196 rfl (post1 rfl) ?_
  refine Cd.seq ?_
  refine Cd.region ?_
  refine Ops.mv_sl rfl rfl rfl ?_
  refine Ops.nil ?_
  refine thenQ_n ?_
  refine Cd.seq ?_
  refine Cd.region ?_
  refine Ops.mv_sl rfl rfl rfl ?_
  -- stop: INDEXADDR 22 t11 0 -> 12
  refine Ops.idx hR.top.2 rfl rfl rfl (by omega) (by omega) ?_
  refine Ops.ld_sl hR.top rfl (by omega) rfl rfl ?_
  refine Ops.len rfl rfl ?_
  -- stop: MAKESLICE 160 t14 t14 -> 15
  refine Ops.mkB N (St.refl w) (by rw [hr0]; rfl) rfl (by omega) ?_
  intro A5 w1 hS1
  refine Ops.mv_sl rfl rfl rfl ?_
  refine Ops.nil ?_
  refine thenQ_n ?_
  refine Cd.seq ?_
  refine Cd.region ?_
  refine Ops.mv_sl rfl rfl rfl ?_
  refine Ops.mv_int rfl rfl rfl ?_
  -- stop: INDEXADDR 160 t16 t17 -> 18
  refine Ops.idx (hS1.rdB 0 rfl).2 (by rw [hr0]; rfl) rfl rfl (by omega) (by omega) ?_
  refine Ops.st_bool 0 hS1 rfl rfl rfl (by omega) ?_
  intro w2 hS2
  refine Ops.nil ?_
  refine thenQ_n ?_
  refine Cd.seq ?_
  refine Cd.region ?_
  refine Ops.mv_int rfl rfl rfl ?_
  -- stop: BUILDSLICE 33 1 [('pair', [0, ('app', 'Go.Operand.tmp', [19])])] -> 20
  refine Ops.bs1I hS2 rfl rfl rfl ?_
  intro A6 w3 hS3
  refine Ops.mv_sl rfl rfl rfl ?_
  refine Ops.nil ?_
  refine thenQ_n ?_
  refine Cd.seq ?_
  refine Cd.seq ?_
  refine Cd.region ?_
  refine Ops.mv_int rfl rfl rfl ?_
  refine Ops.nil ?_
  refine thenQ_n ?_
  refine Cd.block ?_
  -- stop: loop
  refine Cd.loop (α := Nat × List Int × Option Addr × Nat × List Bool) (fun q => [(0, .slice A n c), (5, .slice A5 N N), (6, .slice q.2.2.1 q.2.1.length q.2.2.2.1), (7, .int .i64 (q.1 : Int))])
    (fun q w' => St w w' [CkI 2 q.2.2.1 q.2.1.length q.2.2.2.1 q.2.1, CkB 4 A5 N N q.2.2.2.2] ∧ q.1 ≤ q.2.1.length ∧ Good N xss pt q.2.1 ∧ Marked N q.2.2.2.2 q.2.1 ∧ bfs xss (N + 1 - q.1) q.1 q.2.1 = orbit N xss pt)
    (fun q => N + 1 - q.1) (0, [pt], A6, 1, (List.replicate N false).set pt.toNat true) ⟨rfl, by rw [hr0]; rfl, rfl, rfl, trivial⟩ ⟨hS3, Nat.zero_le _, good_one h0 h1, Marked.init h0 (by omega), rfl⟩ ?_
  rintro ⟨i, out, Ao, co, S⟩ e2 w5 ⟨hS5, hi, hg, hm, hb⟩
  dsimp only at hS5 hi hg hm hb ⊢
  have hlen := hg.len
  refine Cd.seq ?_
  refine Cd.seq ?_
  refine Cd.region ?_
  refine Ops.mv_int rfl rfl rfl ?_
  refine Ops.mv_sl rfl rfl rfl ?_
  refine Ops.len rfl rfl ?_
  refine Ops.lss rfl rfl rfl ?_
  refine Ops.nil ?_
  refine thenQ_n ?_
  -- stop: cond
  refine Cd.cond_p _ rfl (fun h2 => ?_) (fun h2 => ?_)
  · refine Cd.skip ?_
    refine thenQ_n ?_
    refine Cd.seq ?_
    refine Cd.block ?_
    refine Cd.seq ?_
    refine Cd.region ?_
    refine Ops.mv_sl rfl rfl rfl ?_
    refine Ops.len rfl rfl ?_
    refine Ops.mv_int rfl rfl rfl ?_
    refine Ops.nil ?_
    refine thenQ_n ?_
    refine Cd.block ?_
    -- stop: loop
    refine Cd.loop (α := Nat × List Int × Option Addr × Nat × List Bool) (fun q => [(0, .slice A n c), (5, .slice A5 N N), (6, .slice q.2.2.1 q.2.1.length q.2.2.2.1), (7, .int .i64 (i : Int)), (27, .slice A n c), (28, .int .i64 (n : Int)), (29, .int .i64 (q.1 : Int))])
      (fun q w' => St w w' [CkI 2 q.2.2.1 q.2.1.length q.2.2.2.1 q.2.1, CkB 4 A5 N N q.2.2.2.2] ∧ q.1 ≤ n ∧ Good N xss pt q.2.1 ∧ Marked N q.2.2.2.2 q.2.1 ∧ out <+: q.2.1 ∧ (xss.drop q.1).foldl (fun o p => push1 o (gi p (gi out i))) q.2.1 = expand xss (gi out i) out)
      (fun q => n - q.1) (0, out, Ao, co, S) ⟨rfl, rfl, rfl, rfl, rfl, rfl, rfl, trivial⟩ ⟨hS5, Nat.zero_le _, hg, hm, List.prefix_rfl, rfl⟩ ?_
    rintro ⟨k, out', Ao', co', S'⟩ e3 w6 ⟨hS6, hk, hg', hm', hp', hf⟩
    dsimp only at hS6 hk hg' hm' hp' hf ⊢
    have hlen' := hg'.len
    refine Cd.seq ?_
    refine Cd.region ?_
    refine Ops.lss rfl rfl rfl ?_
    refine Ops.nil ?_
    refine thenQ_n ?_
    refine Cd.seq ?_
    -- stop: cond
    refine Cd.cond_p _ rfl (fun h3 => ?_) (fun h3 => ?_)
    · have hio : i < out'.length := by have := hp'.length_le; omega
      have hgi : gi out' i = gi out i := gi_prefix hp' (by omega)
      have hxi := hg.range _ (gi_in (i := i) (by omega))
      have hmem : gl xss k ∈ xss := gl_in (by omega) (by rw [hR.len]; omega)
      have hy := (hs _ hmem).2 (gi out i) hxi.1 hxi.2
      have hrk := hrl k (by omega) (by omega)
      have hT := (hS6.oldRows hR)
      have hO := hS6.rdI 0 rfl
      have hrow := hT.at_ (i := k) (by omega) (by omega)
      have hfold : (xss.drop (k + 1)).foldl (fun o p => push1 o (gi p (gi out i))) (push1 out' (gi (gl xss k) (gi out i))) = expand xss (gi out i) out := by
        rw [← hf, List.drop_eq_getElem_cons (show k < xss.length by rw [hR.len]; omega), List.foldl_cons, gl_mem (by rw [hR.len]; omega)]
      refine Cd.skip ?_
      refine thenQ_n ?_
      refine Cd.seq ?_
      refine Cd.block ?_
      refine Cd.seq ?_
      refine Cd.region ?_
      -- stop: INDEXADDR 22 t27 t29 -> 31
      refine Ops.idx hT.top.2 rfl rfl rfl (by omega) (by omega) ?_
      refine Ops.ld_sl hT.top rfl (by omega) rfl rfl ?_
      refine Ops.mv_sl rfl rfl rfl ?_
      refine Ops.nil ?_
      refine thenQ_n ?_
      refine Cd.seq ?_
      refine Cd.region ?_
      refine Ops.mv_sl rfl rfl rfl ?_
      refine Ops.mv_sl rfl rfl rfl ?_
      refine Ops.mv_int rfl rfl rfl ?_
      -- stop: INDEXADDR 33 t34 t35 -> 36
      refine Ops.idx hO.2 rfl rfl rfl (by omega) (by omega) ?_
      refine Ops.ld_int hO rfl (by omega) rfl rfl ?_
      rw [hgi]
      refine Ops.idx hrow.2 rfl rfl rfl (by omega) (by omega) ?_
      refine Ops.ld_int hrow rfl (by omega) rfl rfl ?_
      refine Ops.mv_int rfl rfl rfl ?_
      refine Ops.nil ?_
      refine thenQ_n ?_
      refine Cd.seq ?_
      refine Cd.region ?_
      refine Ops.mv_sl rfl rfl rfl ?_
      refine Ops.mv_int rfl rfl rfl ?_
      -- stop: INDEXADDR 160 t40 t41 -> 42
      refine Ops.idx (hS6.rdB 1 rfl).2 rfl rfl rfl (by omega) (by omega) ?_
      refine Ops.ld_bool (hS6.rdB 1 rfl) rfl (by omega) rfl rfl ?_
      first | refine Ops.not_p rfl rfl ?_ | refine Ops.not rfl rfl ?_
      refine Ops.nil ?_
      refine thenQ_n ?_
      -- stop: cond
      refine Cd.cond rfl (fun h4 => ?_) (fun h4 => ?_)
      · have hnin : ¬ gi (gl xss k) (gi out i) ∈ out' := fun hin => by
          have := (hm'.2 _ hy.1 (by omega)).2 hin
          rw [this] at h4; cases h4
        have hpush : push1 out' (gi (gl xss k) (gi out i)) = out' ++ [gi (gl xss k) (gi out i)] := by unfold push1; rw [if_neg hnin]
        have hg7 := hg'.push hs (hp'.subset (gi_in (i := i) (by omega))) hmem
        have hp7 := hp'.trans (push1_prefix out' (gi (gl xss k) (gi out i)))
        rw [hpush] at hfold hg7 hp7
        have hlen7 := hg7.len
        simp only [List.length_append, List.length_singleton] at hlen7
        refine Cd.seq ?_
        refine Cd.region ?_
        refine Ops.mv_sl rfl rfl rfl ?_
        refine Ops.mv_int rfl rfl rfl ?_
        -- stop: INDEXADDR 160 t45 t46 -> 47
        refine Ops.idx (hS6.rdB 1 rfl).2 rfl rfl rfl (by omega) (by omega) ?_
        refine Ops.st_bool 1 hS6 rfl rfl rfl (by omega) ?_
        intro w8 hS8
        refine Ops.nil ?_
        refine thenQ_n ?_
        refine Cd.region ?_
        refine Ops.mv_sl rfl rfl rfl ?_
        refine Ops.mv_int rfl rfl rfl ?_
        -- stop: BUILDSLICE 33 1 [('pair', [0, ('app', 'Go.Operand.tmp', [49])])] -> 50
        refine Ops.bs1I hS8 rfl rfl rfl ?_
        intro A3 w9 hS9
        refine Ops.appI 1 hS9 rfl (hS9.rdI 0 rfl) rfl rfl rfl (by omega) (by omega) rfl ?_
        intro A4 c4 w10 hS10
        refine Ops.mv_sl rfl rfl rfl ?_
        refine Ops.nil ?_
        refine blockQ_n ?_
        refine thenQ_n ?_
        refine Cd.region ?_
        refine Ops.add rfl rfl rfl (by omega) ?_
        refine Ops.mv_int rfl rfl rfl ?_
        refine Ops.nil ?_
        refine thenQ_n ?_
        -- stop: round
        refine ⟨(k + 1, out' ++ [gi (gl xss k) (gi out i)], A4, c4, S'.set (gi (gl xss k) (gi out i)).toNat true), by show n - (k + 1) < n - k; omega, ⟨rfl, rfl, by rw [List.length_append]; rfl, rfl, rfl, rfl, rfl, trivial⟩, ?_, by show k + 1 ≤ n; omega, hg7, hm'.push hy.1 (by omega), hp7, hfold⟩
        have h11 := hS10.tail
        simp only [List.length_append, List.length_singleton]
        exact h11
      · have hin : gi (gl xss k) (gi out i) ∈ out' := (hm'.2 _ hy.1 (by omega)).1 (by simpa using h4)
        have hpush : push1 out' (gi (gl xss k) (gi out i)) = out' := by unfold push1; rw [if_pos hin]
        rw [hpush] at hfold
        refine Cd.skip ?_
        refine blockQ_n ?_
        refine thenQ_n ?_
        refine Cd.region ?_
        refine Ops.add rfl rfl rfl (by omega) ?_
        refine Ops.mv_int rfl rfl rfl ?_
        refine Ops.nil ?_
        refine thenQ_n ?_
        -- stop: round
        exact ⟨(k + 1, out', Ao', co', S'), by show n - (k + 1) < n - k; omega, ⟨rfl, rfl, rfl, rfl, rfl, rfl, rfl, trivial⟩, hS6, by show k + 1 ≤ n; omega, hg', hm', hp', hfold⟩
    · refine Cd.exit ?_
      refine thenQ_x ?_
      refine thenQ_x ?_
      refine blockQ_x ?_
      refine blockQ_n ?_
      refine thenQ_n ?_
      refine Cd.region ?_
      refine Ops.mv_int rfl rfl rfl ?_
      refine Ops.add rfl rfl rfl (by omega) ?_
      refine Ops.mv_int rfl rfl rfl ?_
      refine Ops.nil ?_
      refine thenQ_n ?_
      -- stop: round
      have hkn : k = n := by omega
      rw [hkn, List.drop_of_length_le (by rw [hR.len]; omega)] at hf
      have hf : out' = expand xss (gi out i) out := hf
      refine ⟨(i + 1, out', Ao', co', S'), by show N + 1 - (i + 1) < N + 1 - i; omega, ⟨rfl, rfl, rfl, rfl, trivial⟩, hS6, by show i + 1 ≤ out'.length; have := hp'.length_le; omega, hg', hm', ?_⟩
      show bfs xss (N + 1 - (i + 1)) (i + 1) out' = _
      rw [← hb, show N + 1 - i = (N + 1 - (i + 1)) + 1 by omega]
      simp only [bfs]
      rw [if_pos (by omega), hf]
  · refine Cd.exit ?_
    refine thenQ_x ?_
    refine thenQ_x ?_
    refine blockQ_x ?_
    refine thenQ_n ?_
    refine Cd.seq ?_
    refine Cd.region ?_
    refine Ops.mv_sl rfl rfl rfl ?_
    refine Ops.mv_sl rfl rfl rfl ?_
    refine Ops.nil ?_
    refine thenQ_n ?_
    refine Cd.ret ?_
    refine ret1_s rfl ?_
    -- stop: end
    rw [bfs_out (by omega)] at hb
    subst hb
    exact ⟨Ao, co, rfl, hS5.sub (List.Sublist.cons_cons _ (List.nil_sublist _))⟩
end Go.Proofs.Ytgobjpcankaicaa.Vc
/-
  The walks of the program's forms, and of comparisons on both sides. Conditions: as each states them.
-/
namespace Go.Proofs.Ytgobjpcankaicaa.Vc
open Go.RowKit

theorem rowF_len (o b mv : List Int) : (rowF o b mv).length = o.length := by simp [rowF]
theorem rowF_take {o b mv : List Int} {k : Nat} (hk : k < o.length) : (rowF o b mv).take (k + 1) = (rowF o b mv).take k ++ [gi b (gi mv (gi o (k : Int)))] := by
  rw [List.take_succ_eq_append_getElem (by rw [rowF_len]; exact hk), gi_mem hk]
  simp [rowF]

theorem formFrom_c (A : Option Addr) (n c : Nat) (rs : List SlV) (xss : List (List Int)) (N : Nat) (f : Int) (w : World) (hR : RowsI w A n rs xss) (hM : Mani xss) (hN : N = (gl xss 0).length) (h0 : 0 ≤ f) (hf : f < N) :
    Ret Try.prog 157 [.slice A n c, .int .i64 f] w (fun v w' => ∃ A' c' rs', v = .agg #[.slice A' n c'] ∧ rs'.length = n ∧ St w w' (mat 33 2 A' n c' rs' (formL N xss f))) := by
  subst hN
  have hP := hM.prm h0 hf
  have hs := hM.2.2.1.sys
  have h5 := hM.1
  have h40 := hM.2.1
  have hxl := hR.len
  have hr0 : (gl xss 0).length = (rg rs 0).n := hR.rowLen (by omega) (by omega)
  have hform : formL (gl xss 0).length xss f = xss.map fun mv => rowF (orbit (gl xss 0).length xss f) (backI (gl xss 0).length (orbit (gl xss 0).length xss f)) mv := rfl
  have hbk : ∀ x : Int, 0 ≤ x → x < ((gl xss 0).length : Int) → 0 ≤ gi (backI (gl xss 0).length (orbit (gl xss 0).length xss f)) x ∧ gi (backI (gl xss 0).length (orbit (gl xss 0).length xss f)) x < ((gl xss 0).length : Int) := fun x h0 h1 => by
    obtain ⟨k, hk, _, hb⟩ := hP.backR h0 h1
    omega
  have hbl := backI_len (gl xss 0).length (orbit (gl xss 0).length xss f)
  have hbe : backI (gl xss 0).length (orbit (gl xss 0).length xss f) = scat (List.replicate (gl xss 0).length 0) (fun k => gi (orbit (gl xss 0).length xss f) k) (fun k => (k : Int)) (gl xss 0).length := by
    unfold backI; rw [hP.len]
  have hnum := numberedFrom_c A n c rs xss (gl xss 0).length f
  generalize hNe : (gl xss 0).length = N at *
  generalize hoe : orbit N xss f = o at *
  generalize hb0 : backI N o = b at *
  have hol := hP.len
  have hrow : ∀ k : Nat, k < N → 0 ≤ gi o (k : Int) ∧ gi o (k : Int) < N := fun k hk => hP.rng hk
  rw [hform]
  refine Ret.of_cd Try.func157 rfl Try.ntmps157 rfl (postc rfl rfl) ?_
  refine Cd.seq ?_
  refine Cd.region ?_
  -- stop: ALLOC 24 -> 4
  refine Ops.new1 (St.refl w) rfl ?_
  intro Ac w1 hS1
  refine Ops.nil ?_
  refine thenQ_n ?_
  refine Cd.seq ?_
  refine Cd.region ?_
  refine Ops.mv_sl rfl rfl rfl ?_
  refine Ops.mv_int rfl rfl rfl ?_
  -- stop: CALL impl.numberedFrom(t15, t16) -> 17
  refine Ops.call (hnum _ (hS1.oldRows hR) (by omega) (by omega) hs (by omega) h0 hf) rfl rfl rfl ?_
  rintro _ w2 ⟨Ao, co, rfl, hst⟩
  rw [hol] at hst ⊢
  have hS2 := hS1.call hst
  have hR2 := hS2.oldRows hR
  refine Ops.mv_sl rfl rfl rfl ?_
  refine Ops.nil ?_
  refine thenQ_n ?_
  refine Cd.seq ?_
  refine Cd.region ?_
  refine Ops.mv_sl rfl rfl rfl ?_
  -- stop: INDEXADDR 22 t18 0 -> 19
  refine Ops.idx hR2.top.2 rfl rfl rfl (by omega) (by omega) ?_
  refine Ops.ld_sl hR2.top rfl (by omega) rfl rfl ?_
  refine Ops.len rfl rfl ?_
  -- stop: MAKESLICE 33 t21 t21 -> 22
  refine Ops.mkI N hS2 (by rw [← hr0]; rfl) rfl (by omega) ?_
  intro A6 w3 hS3
  refine Ops.mv_sl rfl rfl rfl ?_
  refine Ops.nil ?_
  refine thenQ_n ?_
  refine Cd.seq ?_
  refine Cd.seq ?_
  refine Cd.region ?_
  refine Ops.mv_sl rfl rfl rfl ?_
  refine Ops.len rfl rfl ?_
  refine Ops.mv_int rfl rfl rfl ?_
  refine Ops.nil ?_
  refine thenQ_n ?_
  refine Cd.block ?_
  -- stop: loop
  refine Cd.loop (α := Nat) (fun k => [(0, .slice A n c), (4, .pointer Ac), (5, .slice Ao N co), (6, .slice A6 N N), (23, .slice Ao N co), (24, .int .i64 (N : Int)), (25, .int .i64 (k : Int))]) (fun k w' => St w w' [CkI 2 A6 N N (scat (List.replicate N 0) (fun k => gi o k) (fun k => (k : Int)) k), CkI 2 Ao N co o, Bx 24 1 Ac [.slice none 0 0]] ∧ k ≤ N) (fun k => N - k) 0 ⟨rfl, rfl, rfl, by rw [← hr0]; rfl, rfl, rfl, rfl, trivial⟩ ⟨hS3, Nat.zero_le _⟩ ?_
  rintro k e w4 ⟨hS4, hk⟩
  have hO4 := hS4.rdI 1 rfl
  refine Cd.seq ?_
  refine Cd.region ?_
  refine Ops.lss rfl rfl rfl ?_
  refine Ops.nil ?_
  refine thenQ_n ?_
  refine Cd.seq ?_
  -- stop: cond
  refine Cd.cond_p _ rfl (fun h1 => ?_) (fun h1 => ?_)
  · have hok := hrow k (by omega)
    refine Cd.skip ?_
    refine thenQ_n ?_
    refine Cd.seq ?_
    refine Cd.block ?_
    refine Cd.seq ?_
    refine Cd.region ?_
    refine Ops.mv_int rfl rfl rfl ?_
    -- stop: INDEXADDR 33 t23 t25 -> 28
    refine Ops.idx hO4.2 rfl rfl rfl (by omega) (by omega) ?_
    refine Ops.ld_int hO4 rfl (by omega) rfl rfl ?_
    refine Ops.mv_int rfl rfl rfl ?_
    refine Ops.mv_int rfl rfl rfl ?_
    refine Ops.nil ?_
    refine thenQ_n ?_
    refine Cd.region ?_
    refine Ops.mv_sl rfl rfl rfl ?_
    refine Ops.mv_int rfl rfl rfl ?_
    refine Ops.mv_int rfl rfl rfl ?_
    -- stop: INDEXADDR 33 t30 t31 -> 33
    refine Ops.idx (hS4.rdI 0 rfl).2 rfl rfl rfl (by omega) (by omega) ?_
    refine Ops.st_int 0 hS4 rfl rfl rfl (by omega) ?_
    intro w5 hS5
    refine Ops.nil ?_
    refine blockQ_n ?_
    refine thenQ_n ?_
    refine Cd.region ?_
    refine Ops.add rfl rfl rfl (by omega) ?_
    refine Ops.mv_int rfl rfl rfl ?_
    refine Ops.nil ?_
    refine thenQ_n ?_
    -- stop: round
    exact ⟨k + 1, by show N - (k + 1) < N - k; omega, ⟨rfl, rfl, rfl, rfl, rfl, rfl, rfl, trivial⟩, hS5, by omega⟩
  have hkN : k = N := by omega
  subst hkN
  rw [← hbe] at hS4
  refine Cd.exit ?_
  refine thenQ_x ?_
  refine thenQ_x ?_
  refine blockQ_x ?_
  refine thenQ_n ?_
  refine Cd.seq ?_
  refine Cd.region ?_
  -- stop: ALLOC 24 -> 9
  refine Ops.new1 hS4 rfl ?_
  intro Ad w5 hS5
  have hS0 : St w w5 (Bx 24 1 Ad [.slice none 0 0] :: CkI 2 A6 k k b :: CkI 2 Ao k co o :: Bx 24 1 Ac [.slice none 0 0] :: CkR 33 none 0 0 [] :: []) :=
    (hS5.nil 33).perm (List.perm_append_comm (l₁ := [_]) (l₂ := [_, _, _, _]))
  refine Ops.nil ?_
  refine thenQ_n ?_
  refine Cd.seq ?_
  refine Cd.seq ?_
  refine Cd.region ?_
  refine Ops.mv_sl rfl rfl rfl ?_
  refine Ops.len rfl rfl ?_
  refine Ops.mv_int rfl rfl rfl ?_
  refine Ops.nil ?_
  refine thenQ_n ?_
  refine Cd.block ?_
  -- stop: loop
  refine Cd.loop (α := Nat × Option Addr × Nat × List SlV) (fun s => [(4, .pointer Ac), (5, .slice Ao k co), (6, .slice A6 k k), (9, .pointer Ad), (35, .slice A n c), (36, .int .i64 (n : Int)), (37, .int .i64 (s.1 : Int))]) (fun s w' => St w w' (Bx 24 1 Ad [.slice s.2.1 s.1 s.2.2.1] :: CkI 2 A6 k k b :: CkI 2 Ao k co o :: Bx 24 1 Ac [.slice none 0 0] :: CkR 33 s.2.1 s.1 s.2.2.1 s.2.2.2 :: rowsCk 2 s.2.2.2 ((xss.map fun mv => rowF o b mv).take s.1)) ∧ s.1 ≤ n ∧ s.2.2.2.length = s.1) (fun s => n - s.1) (0, none, 0, []) ⟨rfl, rfl, rfl, rfl, rfl, rfl, rfl, trivial⟩ ⟨hS0, Nat.zero_le _, rfl⟩ ?_
  rintro ⟨i, A3, c3, rs1⟩ e w6 ⟨hS6, hi, hlen⟩
  dsimp only at hS6 hi hlen ⊢
  refine Cd.seq ?_
  refine Cd.region ?_
  refine Ops.lss rfl rfl rfl ?_
  refine Ops.nil ?_
  refine thenQ_n ?_
  refine Cd.seq ?_
  -- stop: cond
  refine Cd.cond_p _ rfl (fun h1 => ?_) (fun h1 => ?_)
  · have hi' : i < n := by omega
    have hx : i < xss.length := by omega
    have hM6 := hS6.oldRows hR
    have e2 : gl xss i = xss[i] := by simp [gl, List.getD_eq_getElem?_getD, List.getElem?_eq_getElem hx]
    have hmv := hs (gl xss i) (gl_in (by omega) (by omega))
    have hmr := hM6.rowLen (k := (i : Int)) (by omega) h1
    refine Cd.skip ?_
    refine thenQ_n ?_
    refine Cd.seq ?_
    refine Cd.block ?_
    refine Cd.seq ?_
    refine Cd.region ?_
    -- stop: INDEXADDR 22 t35 t37 -> 39
    refine Ops.idx hM6.top.2 rfl rfl rfl (by omega) (by omega) ?_
    refine Ops.ld_sl hM6.top rfl (by omega) rfl rfl ?_
    refine Ops.mv_sl rfl rfl rfl ?_
    refine Ops.nil ?_
    refine thenQ_n ?_
    refine Cd.seq ?_
    refine Cd.region ?_
    refine Ops.mv_sl rfl rfl rfl ?_
    refine Ops.nil ?_
    refine thenQ_n ?_
    refine Cd.seq ?_
    refine Cd.seq ?_
    refine Cd.region ?_
    refine Ops.mv_sl rfl rfl rfl ?_
    refine Ops.len rfl rfl ?_
    refine Ops.mv_int rfl rfl rfl ?_
    refine Ops.nil ?_
    refine thenQ_n ?_
    refine Cd.block ?_
    -- stop: loop
    refine Cd.loop (α := Nat × Option Addr × Nat) (fun s => [(4, .pointer Ac), (5, .slice Ao k co), (6, .slice A6 k k), (9, .pointer Ad), (35, .slice A n c), (36, .int .i64 (n : Int)), (37, .int .i64 (i : Int)), (11, .slice (rg rs i).a (rg rs i).n (rg rs i).c), (12, .slice s.2.1 s.1 s.2.2), (41, .slice Ao k co), (42, .int .i64 (k : Int)), (43, .int .i64 (s.1 : Int))]) (fun s w' => St w w' (CkI 2 s.2.1 s.1 s.2.2 ((rowF o b (gl xss i)).take s.1) :: Bx 24 1 Ad [.slice A3 i c3] :: CkI 2 A6 k k b :: CkI 2 Ao k co o :: Bx 24 1 Ac [.slice none 0 0] :: CkR 33 A3 i c3 rs1 :: rowsCk 2 rs1 ((xss.map fun mv => rowF o b mv).take i)) ∧ s.1 ≤ k) (fun s => k - s.1) (0, none, 0) ⟨rfl, rfl, rfl, rfl, rfl, rfl, rfl, rfl, rfl, rfl, rfl, rfl, trivial⟩ ⟨hS6.nil _, Nat.zero_le _⟩ ?_
    rintro ⟨j, A12, c12⟩ e w7 ⟨hS7, hj⟩
    dsimp only at hS7 hj ⊢
    have hO7 := hS7.rdI 3 rfl
    have hB7 := hS7.rdI 2 rfl
    have hM7 := (hS7.oldRows hR).at_ (i := (i : Int)) (by omega) h1
    refine Cd.seq ?_
    refine Cd.region ?_
    refine Ops.lss rfl rfl rfl ?_
    refine Ops.nil ?_
    refine thenQ_n ?_
    refine Cd.seq ?_
    -- stop: cond
    refine Cd.cond_p _ rfl (fun h2 => ?_) (fun h2 => ?_)
    · have hoj := hrow j (by omega)
      have hv := hmv.2 _ hoj.1 hoj.2
      have hbv := hbk _ hv.1 hv.2
      refine Cd.skip ?_
      refine thenQ_n ?_
      refine Cd.seq ?_
      refine Cd.block ?_
      refine Cd.seq ?_
      refine Cd.region ?_
      -- stop: INDEXADDR 33 t41 t43 -> 45
      refine Ops.idx hO7.2 rfl rfl rfl (by omega) (by omega) ?_
      refine Ops.ld_int hO7 rfl (by omega) rfl rfl ?_
      refine Ops.mv_int rfl rfl rfl ?_
      refine Ops.nil ?_
      refine thenQ_n ?_
      refine Cd.region ?_
      refine Ops.mv_sl rfl rfl rfl ?_
      refine Ops.mv_sl rfl rfl rfl ?_
      refine Ops.mv_sl rfl rfl rfl ?_
      refine Ops.mv_int rfl rfl rfl ?_
      -- stop: INDEXADDR 33 t49 t50 -> 51
      refine Ops.idx hM7.2 rfl rfl rfl (by omega) (by omega) ?_
      refine Ops.ld_int hM7 rfl (by omega) rfl rfl ?_
      refine Ops.idx hB7.2 rfl rfl rfl (by omega) (by omega) ?_
      refine Ops.ld_int hB7 rfl (by omega) rfl rfl ?_
      refine Ops.bs1I hS7 rfl rfl rfl ?_
      intro A9 w9 hS9
      refine Ops.appI 1 hS9 rfl (hS9.rdI 0 rfl) rfl rfl rfl (by omega) (by omega) rfl ?_
      intro A10 c10 w10 hS10
      have hS10 := hS10.tail
      refine Ops.mv_sl rfl rfl rfl ?_
      refine Ops.nil ?_
      refine blockQ_n ?_
      refine thenQ_n ?_
      refine Cd.region ?_
      refine Ops.add rfl rfl rfl (by omega) ?_
      refine Ops.mv_int rfl rfl rfl ?_
      refine Ops.nil ?_
      refine thenQ_n ?_
      -- stop: round
      refine ⟨(j + 1, A10, c10), by show k - (j + 1) < k - j; omega, ⟨rfl, rfl, rfl, rfl, rfl, rfl, rfl, rfl, rfl, rfl, rfl, rfl, trivial⟩, ?_, by show j + 1 ≤ k; omega⟩
      show St w w10 (CkI _ A10 (j + 1) c10 ((rowF o b (gl xss i)).take (j + 1)) :: _)
      rw [rowF_take (by omega)]
      exact hS10
    · have hjk : j = k := by omega
      subst hjk
      rw [List.take_of_length_le (by rw [rowF_len]; omega)] at hS7
      refine Cd.exit ?_
      refine thenQ_x ?_
      refine thenQ_x ?_
      refine blockQ_x ?_
      refine thenQ_n ?_
      refine Cd.region ?_
      -- stop: FIELDADDR 24 t9 0 -> 58
      refine Ops.fld (hS7.rd 1 rfl) rfl rfl rfl rfl inferInstance ?_
      refine Ops.ldf_s (hS7.rd 1 rfl) rfl rfl rfl rfl rfl ?_
      refine Ops.mv_sl rfl rfl rfl ?_
      -- stop: BUILDSLICE 22 1 [('pair', [0, ('app', 'Go.Operand.tmp', [60])])] -> 61
      refine Ops.bs1R hS7 rfl rfl rfl ?_
      intro A9 w9 hS9
      refine Ops.appR 6 hS9 rfl (hS9.rdR 0 rfl) rfl rfl rfl (by omega) (by omega) rfl ?_
      intro A10 c10 w10 hS10
      have hS10 := hS10.tail
      refine Ops.fld (hS10.rd 1 rfl) rfl rfl rfl rfl inferInstance ?_
      refine Ops.stf 1 hS10 rfl rfl rfl rfl rfl ?_
      intro w11 hS11
      have hS11 : St w w11 (CkI 2 A12 j c12 (rowF o b (gl xss i)) :: Bx 24 1 Ad [.slice A10 (i + 1) c10] :: CkI 2 A6 j j b :: CkI 2 Ao j co o :: Bx 24 1 Ac [.slice none 0 0] :: CkR 33 A10 (i + 1) c10 (rs1 ++ [⟨A12, j, c12⟩]) :: rowsCk 2 rs1 ((xss.map fun mv => rowF o b mv).take i)) := hS11
      refine Ops.nil ?_
      refine blockQ_n ?_
      refine thenQ_n ?_
      refine Cd.region ?_
      refine Ops.add rfl rfl rfl (by omega) ?_
      refine Ops.mv_int rfl rfl rfl ?_
      refine Ops.nil ?_
      refine thenQ_n ?_
      -- stop: round
      refine ⟨(i + 1, A10, c10, rs1 ++ [⟨A12, j, c12⟩]), by show n - (i + 1) < n - i; omega, ⟨rfl, rfl, rfl, rfl, rfl, rfl, rfl, trivial⟩, ?_, hi', by simp [hlen]⟩
      show St w w11 (_ :: _ :: _ :: _ :: CkR _ A10 (i + 1) c10 (rs1 ++ [_]) :: rowsCk _ (rs1 ++ [_]) ((xss.map fun mv => rowF o b mv).take (i + 1)))
      rw [List.take_succ_eq_append_getElem (by rw [List.length_map]; exact hx), rowsCk_append (by simp [hlen]; omega), List.getElem_map, ← e2]
      refine hS11.perm ?_
      exact List.perm_append_comm (l₁ := [_]) (l₂ := _ :: _ :: _ :: _ :: _ :: rowsCk 2 rs1 ((xss.map fun mv => rowF o b mv).take i))
  · have hin : i = n := by omega
    subst hin
    rw [List.take_of_length_le (by rw [List.length_map]; omega)] at hS6
    refine Cd.exit ?_
    refine thenQ_x ?_
    refine thenQ_x ?_
    refine blockQ_x ?_
    refine thenQ_n ?_
    refine Cd.seq ?_
    refine Cd.region ?_
    -- stop: LOAD 24 t9 -> 65
    refine Ops.ld_agg 0 (hS6.rd 0 rfl) rfl rfl rfl ?_
    refine Ops.st_agg 1 3 hS6 rfl rfl rfl rfl rfl rfl rfl ?_
    intro w7 hS7
    refine Ops.nil ?_
    refine thenQ_n ?_
    refine Cd.ret ?_
    skip
    -- stop: end
    refine retc_r rfl (hS7.rd 3 rfl) ?_
    exact ⟨A3, c3, rs1, rfl, hlen, hS7.sub ((((List.sublist_cons_self _ _).trans (List.sublist_cons_self _ _)).trans (List.sublist_cons_self _ _)).trans (List.sublist_cons_self _ _))⟩
end Go.Proofs.Ytgobjpcankaicaa.Vc
/-
  The walk of the law FnExactIsDesk: it returns true. Conditions: as it states them.
-/
namespace Go.Proofs.Ytgobjpcankaicaa.Vc
open Go.RowKit

theorem St.rowsI1 {w0 w : World} {t1 t2 : TypeId} {A : Option Addr} {n c : Nat} {rs : List SlV} {xss : List (List Int)} (h : St w0 w (mat t1 t2 A n c rs xss)) (hl : xss.length = n) : RowsI w A n rs xss :=
  St.rowsI (ks := []) (by rw [List.append_nil]; exact h) hl

end Go.Proofs.Ytgobjpcankaicaa.Vc
/-
  Plain mathematics of the list of maniplexes: forms put in ascending order one by one, and that there is one such order. Conditions: as each states them. No program in sight.
-/
namespace Go.Proofs.Ytgobjpcankaicaa.Vc

abbrev Mx := List (List Int)
/-- not behind -/
def leM (a b : Mx) : Prop := ¬ lexCC b a < 0
theorem leM_of {a b : Mx} (h : lexCC a b < 0) : leM a b := fun h' => by rw [lexCC_swap] at h'; omega
theorem leM_anti {a b : Mx} (h : leM a b) (h' : leM b a) : a = b := by
  unfold leM at h h'
  rw [lexCC_swap] at h
  exact lexCC_zero.1 (by omega)
theorem leM_cases {a b : Mx} (h : leM a b) : lexCC a b < 0 ∨ a = b := by
  by_cases e : a = b
  · exact .inr e
  · left
    unfold leM at h
    rw [lexCC_swap] at h
    have : lexCC a b ≠ 0 := fun h0 => e (lexCC_zero.1 h0)
    omega
theorem leM_refl (a : Mx) : leM a a := fun h => by rw [(lexCC_zero (a := a) (b := a)).2 rfl] at h; omega
theorem leM_trans {a b c : Mx} (h : leM a b) (h' : leM b c) : leM a c := by
  rcases leM_cases h with h | rfl
  · rcases leM_cases h' with h' | rfl
    · exact leM_of (lexCC_trans h h')
    · exact leM_of h
  · exact h'

/-- how many at the front are less -/
def atM (x : Mx) : List Mx → Nat
  | [] => 0
  | y :: l => if lexCC y x < 0 then atM x l + 1 else 0
theorem atM_le (x : Mx) : ∀ l, atM x l ≤ l.length
  | [] => Nat.le_refl _
  | y :: l => by
    have := atM_le x l
    unfold atM
    split
    · simp; omega
    · simp
theorem atM_drop {x : Mx} {l : List Mx} {k : Nat} (hk : k < l.length) : atM x (l.drop k) = if lexCC l[k] x < 0 then atM x (l.drop (k + 1)) + 1 else 0 := by
  rw [List.drop_eq_getElem_cons hk, atM]
/-- x put behind these -/
def insM (x : Mx) (l : List Mx) : List Mx := l.take (atM x l) ++ x :: l.drop (atM x l)
theorem ins_perm {α : Type} (x : α) (l : List α) (k : Nat) : (l.take k ++ x :: l.drop k).Perm (x :: l) := by
  have h : (l.take k ++ x :: l.drop k).Perm (x :: (l.take k ++ l.drop k)) := List.perm_middle
  rwa [List.take_append_drop] at h
theorem insM_perm (x : Mx) (l : List Mx) : (insM x l).Perm (x :: l) := ins_perm x l _
theorem insM_cons (x y : Mx) (l : List Mx) : insM x (y :: l) = if lexCC y x < 0 then y :: insM x l else x :: y :: l := by
  unfold insM
  rw [atM]
  split <;> simp
theorem insM_sorted (x : Mx) : ∀ {l : List Mx}, l.Pairwise leM → (insM x l).Pairwise leM
  | [], _ => by simp [insM, atM]
  | y :: l, h => by
    have h1 := List.pairwise_cons.1 h
    rw [insM_cons]
    split
    · rename_i hy
      refine List.pairwise_cons.2 ⟨fun z hz => ?_, insM_sorted x h1.2⟩
      rcases List.mem_cons.1 ((insM_perm x l).mem_iff.1 hz) with rfl | hz
      · exact leM_of hy
      · exact h1.1 z hz
    · rename_i hy
      refine List.pairwise_cons.2 ⟨fun z hz => ?_, h⟩
      rcases List.mem_cons.1 hz with rfl | hz
      · exact hy
      · exact leM_trans hy (h1.1 z hz)
def ordM (l : List Mx) : List Mx := l.foldl (fun o x => insM x o) []
theorem ordM_snoc (l : List Mx) (x : Mx) : ordM (l ++ [x]) = insM x (ordM l) := by simp [ordM, List.foldl_append]
theorem foldl_ins : ∀ (l o : List Mx), o.Pairwise leM → (l.foldl (fun o x => insM x o) o).Pairwise leM ∧ (l.foldl (fun o x => insM x o) o).Perm (l ++ o)
  | [], o, h => ⟨h, List.Perm.refl _⟩
  | x :: l, o, h => by
    obtain ⟨h1, h2⟩ := foldl_ins l (insM x o) (insM_sorted x h)
    refine ⟨h1, h2.trans (((insM_perm x o).append_left l).trans ?_)⟩
    exact List.perm_middle
theorem ordM_sorted (l : List Mx) : (ordM l).Pairwise leM := (foldl_ins l [] List.Pairwise.nil).1
theorem ordM_perm (l : List Mx) : (ordM l).Perm l := by have := (foldl_ins l [] List.Pairwise.nil).2; rwa [List.append_nil] at this
/-- there is one order -/
theorem ordM_one {l l' : List Mx} (hp : l'.Perm l) (hs : l'.Pairwise leM) : l' = ordM l :=
  List.Perm.eq_of_pairwise (le := leM) (fun _ _ _ _ h h' => leM_anti h h') hs (ordM_sorted l) (hp.trans (ordM_perm l).symm)

/-! the list of a rank and a number of flags -/
def formsL (n F : Nat) : List Mx := forms n F (F * n + 1) 0 1 (blank n F)
def Own1 (N : Nat) (xss : Mx) : Prop := ∀ f, f < N → ¬ lexCC (formL N xss (f : Nat)) xss < 0
instance (N : Nat) (xss : Mx) : Decidable (Own1 N xss) := by unfold Own1; exact inferInstance
def ownL (n F : Nat) : List Mx := (formsL n F).filter fun L => decide (Own1 F L)
def listL (n F : Nat) : List Mx := ordM (ownL n F)
theorem ownL_le (n F : Nat) : (ownL n F).length ≤ (formsL n F).length := List.length_filter_le _ _
theorem listL_len (n F : Nat) : (listL n F).length = (ownL n F).length := (ordM_perm _).length_eq
theorem forms_mani {n F : Nat} {L : Mx} (hn : 0 < n) (hF : 0 < F) (h : L ∈ formsL n F) : Mani L ∧ Inv n F L F (F * n) := by
  have h1 := List.mem_filter.1 h
  exact ⟨of_decide_eq_true h1.2, (grow_leaf _ _ _ _ (Inv.blank hn hF) L h1.1).2⟩
theorem listL_mem {n F : Nat} {L : Mx} : L ∈ listL n F ↔ L ∈ formsL n F ∧ Own1 F L := by
  rw [listL, (ordM_perm _).mem_iff, ownL, List.mem_filter, decide_eq_true_iff]
theorem own_least {n F : Nat} {L : Mx} (hn : 0 < n) (hF : 0 < F) (h : L ∈ formsL n F) : leastL F L = L ↔ Own1 F L := least_own hF (forms_zero hF h hn)
end Go.Proofs.Ytgobjpcankaicaa.Vc
/-
  The walks of the program's least form, and of the reference's numbers of orbits. Conditions: as each states them.
-/
namespace Go.Proofs.Ytgobjpcankaicaa.Vc
open Go.RowKit
section
variable {P : Program} {N : Nat} {ops : Array Oper} {K : Env → World → Prop} {rest : List Oper} {e : Env} {w : World} {d : Nat} {ty : TypeId} {pos : String} {af : Array Edge}
/-- a struct of one slice, read from a slice of such -/
theorem Ops.ld_ag {t : TypeId} {fs : Array Field} {z : Value} {b : Nat} [Und P t (.struct fs)] [Inf P t z (0 + 1) b] {x : Operand} {A : Option Addr} {n : Nat} {i : Int} {xs : List SlV} (hR : RdR w A n xs) (hx : ev e x = .pointer (ptrAt A i.toNat)) (hj : i.toNat < n) (hb : Nat.blt d N = true)
    (hK : Ops P N ops K rest (upd e d (.agg #[.slice (rg xs i).a (rg xs i).n (rg xs i).c])) w) : Ops P N ops K (⟨some d, .load t x, ty, pos, af, none⟩ :: rest) e w :=
  .ld_agg 0 (hR.2.behind (o := i.toNat) (m := 1) (by omega)) hx rfl hb hK
end

theorem St.matAt {w0 w : World} {t1 t2 : TypeId} {A : Option Addr} {n c : Nat} {rs : List SlV} {xss : List (List Int)} {ks : List Ck} (h : St w0 w ks) (hsub : (mat t1 t2 A n c rs xss).Sublist ks) (hl : xss.length = n) : RowsI w A n rs xss := (h.sub hsub).rowsI1 hl
theorem MatV.sub_ {t1 t2 : TypeId} {m : MatV} : ∀ {ms : List MatV}, m ∈ ms → (m.cks t1 t2).Sublist (matsCk t1 t2 ms)
  | a :: ms, h => by
    unfold matsCk
    rw [List.flatMap_cons]
    rcases List.mem_cons.1 h with rfl | h
    · exact List.sublist_append_left _ _
    · exact (MatV.sub_ h).trans (List.sublist_append_right _ _)

theorem leastForm_c (A : Option Addr) (n c : Nat) (rs : List SlV) (xss : List (List Int)) (N : Nat) (w : World) (hR : RowsI w A n rs xss) (hM : Mani xss) (hN : N = (gl xss 0).length) :
    Ret Try.prog 112 [.agg #[.slice A n c]] w (fun v w' => ∃ A' c' rs', v = .agg #[.slice A' n c'] ∧ rs'.length = n ∧ St w w' (mat 33 2 A' n c' rs' (leastL N xss))) := by
  have h5 := hM.1
  have h40 := hM.2.1
  have hxl := hR.len
  have hr0 : (gl xss 0).length = (rg rs 0).n := hR.rowLen (by omega) (by omega)
  have hll : ∀ k, (leastTo N xss k).length = n := fun k => by
    induction k with
    | zero => rw [leastTo, formL_len, hxl]
    | succ k ih =>
      rw [leastTo]
      split
      · rw [formL_len, hxl]
      · exact ih
  have hfl : ∀ f : Int, (formL N xss f).length = n := fun f => by rw [formL_len, hxl]
  refine Ret.of_cd Try.func112 rfl Try.ntmps112 rfl (postc rfl rfl) ?_
  refine Cd.seq ?_
  refine Cd.region ?_
  -- stop: BOX 24 t0=m -> 1
  refine Ops.box1 (St.refl w) rfl rfl ?_
  intro Ab w1 hS1
  refine Ops.new1 hS1 rfl ?_
  intro Ac w2 hS2
  refine Ops.nil ?_
  refine thenQ_n ?_
  refine Cd.seq ?_
  refine Cd.region ?_
  -- stop: FIELDADDR 24 t1=m 0 -> 6
  refine Ops.fld (hS2.rd 1 rfl) rfl rfl rfl rfl inferInstance ?_
  refine Ops.ldf_s (hS2.rd 1 rfl) rfl rfl rfl rfl rfl ?_
  refine Ops.call (formFrom_c A n c rs xss N 0 _ (hS2.oldRows hR) hM hN (by omega) (by omega)) rfl rfl rfl ?_
  rintro _ w3 ⟨A4, c4, rs4, rfl, hl4, hst⟩
  have hS3 := (hS2.call hst).perm List.perm_append_comm
  refine Ops.new1 hS3 rfl ?_
  intro Ad w4 hS4
  refine Ops.st_agg 1 0 hS4 rfl rfl rfl rfl rfl rfl rfl ?_
  intro w5 hS5
  have hS5 : St w w5 (Bx 24 1 Ad [.slice A4 n c4] :: Bx 24 1 Ac [.slice none 0 0] :: Bx 24 1 Ab [.slice A n c] :: mat 33 2 A4 n c4 rs4 (leastTo N xss 0)) := hS5
  refine Ops.nil ?_
  refine thenQ_n ?_
  refine Cd.seq ?_
  refine Cd.seq ?_
  refine Cd.region ?_
  -- stop: CALL impl.Maniplex).flags(t1=m) -> 9
  refine Ops.call (flags_c Ab A n c rs xss _ _ (hS5.rd 2 rfl) rfl (hS5.oldRows hR) (by omega)) rfl rfl rfl ?_
  rintro _ w5 ⟨rfl, rfl⟩
  refine Ops.mv_int rfl rfl rfl ?_
  refine Ops.nil ?_
  refine thenQ_n ?_
  refine Cd.block ?_
  -- stop: loop
  refine Cd.loop (α := Nat × Option Addr × Nat × List SlV) (fun s => [(1, .pointer Ab), (2, .pointer Ac), (3, .pointer Ad), (9, .int .i64 (N : Int)), (10, .int .i64 (s.1 : Int))]) (fun s w' => St w w' (Bx 24 1 Ad [.slice s.2.1 n s.2.2.1] :: Bx 24 1 Ac [.slice none 0 0] :: Bx 24 1 Ab [.slice A n c] :: mat 33 2 s.2.1 n s.2.2.1 s.2.2.2 (leastTo N xss s.1)) ∧ s.1 ≤ N ∧ s.2.2.2.length = n) (fun s => N - s.1) (0, A4, c4, rs4) ⟨rfl, rfl, rfl, by rw [hN, hr0]; rfl, rfl, trivial⟩ ⟨hS5, Nat.zero_le _, hl4⟩ ?_
  rintro ⟨k, A6, c6, rs6⟩ e w6 ⟨hS6, hk, hl6⟩
  dsimp only at hS6 hk hl6 ⊢
  refine Cd.seq ?_
  refine Cd.region ?_
  refine Ops.lss rfl rfl rfl ?_
  refine Ops.nil ?_
  refine thenQ_n ?_
  refine Cd.seq ?_
  -- stop: cond
  refine Cd.cond_p _ rfl (fun h1 => ?_) (fun h1 => ?_)
  · refine Cd.skip ?_
    refine thenQ_n ?_
    refine Cd.seq ?_
    refine Cd.block ?_
    refine Cd.seq ?_
    refine Cd.region ?_
    refine Ops.mv_int rfl rfl rfl ?_
    refine Ops.mv_int rfl rfl rfl ?_
    refine Ops.nil ?_
    refine thenQ_n ?_
    refine Cd.seq ?_
    refine Cd.region ?_
    -- stop: FIELDADDR 24 t1=m 0 -> 13
    refine Ops.fld (hS6.rd 2 rfl) rfl rfl rfl rfl inferInstance ?_
    refine Ops.ldf_s (hS6.rd 2 rfl) rfl rfl rfl rfl rfl ?_
    refine Ops.mv_int rfl rfl rfl ?_
    -- stop: CALL impl.formFrom(t14, t15) -> 16
    refine Ops.call (formFrom_c A n c rs xss N (k : Int) _ (hS6.oldRows hR) hM hN (by omega) (by omega)) rfl rfl rfl ?_
    rintro _ w7 ⟨A7, c7, rs7, rfl, hl7, hst7⟩
    have hS7 := (hS6.call hst7).perm List.perm_append_comm
    refine Ops.new1 hS7 rfl ?_
    intro A8 w8 hS8
    refine Ops.st_agg 1 0 hS8 rfl rfl rfl rfl rfl rfl rfl ?_
    intro w9 hS9
    have hS9 : St w w9 (Bx 24 1 A8 [.slice A7 n c7] :: Bx 24 1 Ad [.slice A6 n c6] :: Bx 24 1 Ac [.slice none 0 0] :: Bx 24 1 Ab [.slice A n c] :: (mat 33 2 A6 n c6 rs6 (leastTo N xss k) ++ mat 33 2 A7 n c7 rs7 (formL N xss k))) := hS9
    have hr6 : RowsI w9 A6 n rs6 (leastTo N xss k) := hS9.matAt ((List.sublist_append_left _ _).trans (List.sublist_append_right [_, _, _, _] _)) (hll k)
    have hr7 : RowsI w9 A7 n rs7 (formL N xss k) := hS9.matAt (((((List.sublist_append_right _ _).cons _).cons _).cons _).cons _) (hfl k)
    refine Ops.nil ?_
    refine thenQ_n ?_
    refine Cd.seq ?_
    refine Cd.region ?_
    -- stop: LOAD 24 t5=form -> 17
    refine Ops.ld_agg 0 (hS9.rd 0 rfl) rfl rfl rfl ?_
    refine Ops.ld_agg 0 (hS9.rd 1 rfl) rfl rfl rfl ?_
    refine Ops.call (compareManiplexes_c A7 n c7 rs7 _ A6 n c6 rs6 _ _ hr7 hr6 (by omega)) rfl rfl rfl ?_
    rintro _ w10 ⟨rfl, hst10⟩
    have hS10 := hS9.later hst10.below
    refine Ops.lss rfl rfl rfl ?_
    refine Ops.nil ?_
    refine thenQ_n ?_
    -- stop: cond
    refine Cd.cond_p _ rfl (fun h2 => ?_) (fun h2 => ?_)
    · have hle : leastTo N xss (k + 1) = formL N xss k := by rw [leastTo, if_pos h2]
      refine Cd.region ?_
      -- stop: LOAD 24 t5=form -> 21
      refine Ops.ld_agg 0 (hS10.rd 0 rfl) rfl rfl rfl ?_
      refine Ops.st_agg 1 1 hS10 rfl rfl rfl rfl rfl rfl rfl ?_
      intro w11 hS11
      refine Ops.nil ?_
      refine blockQ_n ?_
      refine thenQ_n ?_
      refine Cd.region ?_
      refine Ops.add rfl rfl rfl (by omega) ?_
      refine Ops.mv_int rfl rfl rfl ?_
      refine Ops.nil ?_
      refine thenQ_n ?_
      -- stop: round
      refine ⟨(k + 1, A7, c7, rs7), by show N - (k + 1) < N - k; omega, ⟨rfl, rfl, rfl, rfl, rfl, trivial⟩, ?_, by show k + 1 ≤ N; omega, hl7⟩
      show St w w11 (Bx _ 1 Ad [.slice A7 n c7] :: _ :: _ :: mat _ _ A7 n c7 rs7 (leastTo N xss (k + 1)))
      rw [hle]
      exact hS11.sub (((List.Sublist.cons_cons _ (List.Sublist.cons_cons _ (List.Sublist.cons_cons _ (List.sublist_append_right _ _)))).cons _))
    · have hle : leastTo N xss (k + 1) = leastTo N xss k := by rw [leastTo, if_neg h2]
      refine Cd.skip ?_
      refine blockQ_n ?_
      refine thenQ_n ?_
      refine Cd.region ?_
      refine Ops.add rfl rfl rfl (by omega) ?_
      refine Ops.mv_int rfl rfl rfl ?_
      refine Ops.nil ?_
      refine thenQ_n ?_
      -- stop: round
      refine ⟨(k + 1, A6, c6, rs6), by show N - (k + 1) < N - k; omega, ⟨rfl, rfl, rfl, rfl, rfl, trivial⟩, ?_, by show k + 1 ≤ N; omega, hl6⟩
      show St w w10 (Bx _ 1 Ad [.slice A6 n c6] :: _ :: _ :: mat _ _ A6 n c6 rs6 (leastTo N xss (k + 1)))
      rw [hle]
      exact hS10.sub (((List.Sublist.cons_cons _ (List.Sublist.cons_cons _ (List.Sublist.cons_cons _ (List.sublist_append_left _ _)))).cons _))
  · have hkN : k = N := by omega
    rw [hkN] at hS6
    refine Cd.exit ?_
    refine thenQ_x ?_
    refine thenQ_x ?_
    refine blockQ_x ?_
    refine thenQ_n ?_
    refine Cd.seq ?_
    refine Cd.region ?_
    -- stop: LOAD 24 t3=least -> 23
    refine Ops.ld_agg 0 (hS6.rd 0 rfl) rfl rfl rfl ?_
    refine Ops.st_agg 1 1 hS6 rfl rfl rfl rfl rfl rfl rfl ?_
    intro w7 hS7
    refine Ops.nil ?_
    refine thenQ_n ?_
    refine Cd.ret ?_
    skip
    -- stop: end
    refine retc_r rfl (hS7.rd 1 rfl) ?_
    exact ⟨A6, c6, rs6, rfl, hl6, hS7.sub (((List.sublist_cons_self _ _).trans (List.sublist_cons_self _ _)).trans (List.sublist_cons_self _ _))⟩

/-! the numbers of orbits -/
def fset (N : Nat) (xss : List (List Int)) : Nat → List (List (List Int))
  | 0 => []
  | k + 1 => if formL N xss k ∈ fset N xss k then fset N xss k else fset N xss k ++ [formL N xss k]
theorem fset_le (N : Nat) (xss : List (List Int)) : ∀ k, (fset N xss k).length ≤ k
  | 0 => Nat.le_refl _
  | k + 1 => by
    have := fset_le N xss k
    simp only [fset]
    split
    · omega
    · simp; omega
theorem fset_row (N : Nat) (xss : List (List Int)) : ∀ k, ∀ m ∈ fset N xss k, m.length = xss.length
  | 0, m, h => by cases h
  | k + 1, m, h => by
    simp only [fset] at h
    split at h
    · exact fset_row N xss k m h
    · rcases List.mem_append.1 h with h | h
      · exact fset_row N xss k m h
      · simp at h; subst h; exact formL_len _ _ _
def orbN (N : Nat) (xss : List (List Int)) : Nat := if Own1 N xss then (fset N xss N).length else 0

theorem l19Orbits_c (A : Option Addr) (n c : Nat) (rs : List SlV) (xss : List (List Int)) (N : Nat) (w : World) (hR : RowsI w A n rs xss) (hM : Mani xss) (hN : N = (gl xss 0).length) :
    Ret Try.prog 108 [.agg #[.slice A n c]] w (fun v w' => v = .int .i64 (orbN N xss : Int) ∧ St w w' []) := by
  have h5 := hM.1
  have h40 := hM.2.1
  have hxl := hR.len
  have hfl : ∀ f : Int, (formL N xss f).length = n := fun f => by rw [formL_len, hxl]
  refine Ret.of_cd Try.func108 rfl Try.ntmps108 rfl (post1 rfl) ?_
  refine Cd.seq ?_
  refine Cd.region ?_
  -- stop: BOX 24 t0=m -> 1
  refine Ops.box1 (St.refl w) rfl rfl ?_
  intro Ab w1 hS1
  refine Ops.mv_int rfl rfl rfl ?_
  refine Ops.nil ?_
  refine thenQ_n ?_
  refine Cd.seq ?_
  refine Cd.region ?_
  -- stop: BUILDSLICE 51 0 [] -> 8
  refine Ops.bs0 hS1 rfl ?_
  intro A3 w2 hS2
  refine Ops.mv_sl rfl rfl rfl ?_
  refine Ops.nil ?_
  refine thenQ_n ?_
  refine Cd.seq ?_
  refine Cd.seq ?_
  refine Cd.region ?_
  refine Ops.mv_int rfl rfl rfl ?_
  refine Ops.nil ?_
  refine thenQ_n ?_
  refine Cd.block ?_
  -- stop: loop
  refine Cd.loop (α := Nat × Option Addr × Nat × List MatV) (fun s => [(1, .pointer Ab), (3, .slice s.2.1 s.2.2.2.length s.2.2.1), (4, .int .i64 (s.1 : Int))]) (fun s w' => St w w' (CkR 24 s.2.1 s.2.2.2.length s.2.2.1 (s.2.2.2.map (·.top)) :: Bx 24 1 Ab [.slice A n c] :: matsCk 33 2 s.2.2.2) ∧ s.1 ≤ N ∧ s.2.2.2.map (·.xss) = fset N xss s.1 ∧ (∀ m ∈ s.2.2.2, m.top.n = n) ∧ ∀ f, f < s.1 → ¬ lexCC (formL N xss (f : Nat)) xss < 0) (fun s => N - s.1) (0, A3, 0, []) ⟨rfl, rfl, rfl, trivial⟩ ⟨hS2, Nat.zero_le _, rfl, (by intro m h; cases h), (by intro f hf; exact absurd hf (Nat.not_lt_zero f))⟩ ?_
  rintro ⟨k, A4, c4, ms⟩ e w3 ⟨hS3, hk, hms, htn, hown⟩
  dsimp only at hS3 hk hms htn hown ⊢
  have hmle := fset_le N xss k
  rw [← hms, List.length_map] at hmle
  refine Cd.seq ?_
  refine Cd.seq ?_
  refine Cd.region ?_
  refine Ops.mv_int rfl rfl rfl ?_
  -- stop: LOAD 24 t1=m -> 10
  refine Ops.ld_agg 0 (hS3.rd 1 rfl) rfl rfl rfl ?_
  refine Ops.call (l02Flags_c A n c rs xss _ (hS3.oldRows hR) (by omega)) rfl rfl rfl ?_
  rintro _ w4 ⟨rfl, hst⟩
  have hS4 := hS3.later hst.below
  rw [← hN]
  refine Ops.lss rfl rfl rfl ?_
  refine Ops.nil ?_
  refine thenQ_n ?_
  -- stop: cond
  refine Cd.cond_p _ rfl (fun h1 => ?_) (fun h1 => ?_)
  · refine Cd.skip ?_
    refine thenQ_n ?_
    refine Cd.seq ?_
    refine Cd.block ?_
    refine Cd.seq ?_
    refine Cd.region ?_
    -- stop: LOAD 24 t1=m -> 15
    refine Ops.ld_agg 0 (hS4.rd 1 rfl) rfl rfl rfl ?_
    refine Ops.mv_int rfl rfl rfl ?_
    -- stop: CALL spec.l02Form(t15, t16) -> 17
    refine Ops.call (l02Form_c A n c rs xss N (k : Int) _ (hS4.oldRows hR) hM hN (by omega) (by omega)) rfl rfl rfl ?_
    rintro _ w5 ⟨A5, c5, rs5, rfl, hl5, hst5⟩
    have hS5 := (hS4.call hst5).perm List.perm_append_comm
    refine Ops.new1 hS5 rfl ?_
    intro A6 w6 hS6
    refine Ops.st_agg 1 0 hS6 rfl rfl rfl rfl rfl rfl rfl ?_
    intro w7 hS7
    have hS7 : St w w7 (Bx 24 1 A6 [.slice A5 n c5] :: CkR 24 A4 ms.length c4 (ms.map (·.top)) :: Bx 24 1 Ab [.slice A n c] :: (matsCk 33 2 ms ++ mat 33 2 A5 n c5 rs5 (formL N xss k))) := hS7
    have hr5 : RowsI w7 A5 n rs5 (formL N xss k) := hS7.matAt ((List.sublist_append_right _ _).trans (List.sublist_append_right [_, _, _] _)) (hfl k)
    refine Ops.mv_bool rfl rfl rfl ?_
    refine Ops.nil ?_
    refine thenQ_n ?_
    refine Cd.seq ?_
    refine Cd.seq ?_
    refine Cd.region ?_
    -- stop: LOAD 24 t5=form -> 18
    refine Ops.ld_agg 0 (hS7.rd 0 rfl) rfl rfl rfl ?_
    refine Ops.ld_agg 0 (hS7.rd 2 rfl) rfl rfl rfl ?_
    refine Ops.call (l19Less_c A5 n c5 rs5 _ A c rs xss _ hr5 (hS7.oldRows hR) (by omega)) rfl rfl rfl ?_
    rintro _ w8 ⟨rfl, hst8⟩
    have hS8 := hS7.later hst8.below
    have hr8 := hr5.later hst8.below
    refine Ops.nil ?_
    refine thenQ_n ?_
    -- stop: cond
    refine Cd.cond_p _ rfl (fun h2 => ?_) (fun h2 => ?_)
    · refine Cd.seq ?_
      refine Cd.region ?_
      refine Ops.mv_int rfl rfl rfl ?_
      refine Ops.nil ?_
      refine thenQ_n ?_
      refine Cd.ret ?_
      refine thenQ_r ?_
      refine blockQ_r ?_
      refine thenQ_r ?_
      refine thenQ_r ?_
      refine blockQ_r ?_
      refine thenQ_r ?_
      refine ret1_i rfl ?_
      -- stop: end
      refine ⟨?_, hS8.none⟩
      rw [orbN, if_neg (fun h : Own1 N xss => h k (by omega) h2)]
      rfl
    · have hown' : ∀ f, f < k + 1 → ¬ lexCC (formL N xss (f : Nat)) xss < 0 := fun f hf => by
        by_cases e : f = k
        · subst e; exact h2
        · exact hown f (by omega)
      have hRR := hS8.rdR 1 rfl
      have hB6 := hS8.rd 0 rfl
      have hml : ∀ (j : Nat) (hj : j < ms.length), RowsI w8 (rg (ms.map (·.top)) (j : Int)).a (rg (ms.map (·.top)) (j : Int)).n (ms[j]).rs (ms[j]).xss := fun j hj => by
        have e : rg (ms.map (·.top)) (j : Int) = (ms[j]).top := by simp [rg, List.getD_eq_getElem?_getD, List.getElem?_eq_getElem hj]
        rw [e]
        have hm := List.getElem_mem hj
        refine hS8.matAt (c := (ms[j]).top.c) (t1 := 33) (t2 := 2) (((MatV.sub_ hm).trans (List.sublist_append_left _ _)).trans (List.sublist_append_right [_, _, _] _)) ?_
        rw [htn _ hm, ← hxl]
        exact fset_row N xss k _ (by rw [← hms]; exact List.mem_map_of_mem hm)
      refine Cd.skip ?_
      refine thenQ_n ?_
      refine Cd.seq ?_
      refine Cd.seq ?_
      refine Cd.region ?_
      refine Ops.mv_int rfl rfl rfl ?_
      refine Ops.nil ?_
      refine thenQ_n ?_
      refine Cd.block ?_
      -- stop: loop
      refine Cd.loop (α := Nat × Bool) (fun s => [(1, .pointer Ab), (3, .slice A4 ms.length c4), (4, .int .i64 (k : Int)), (5, .pointer A6), (6, .bool s.2), (7, .int .i64 (s.1 : Int))]) (fun s w' => St w8 w' [] ∧ s.1 ≤ ms.length ∧ s.2 = decide (formL N xss k ∈ (ms.map (·.xss)).take s.1)) (fun s => ms.length - s.1) (0, false) ⟨rfl, rfl, rfl, rfl, rfl, rfl, trivial⟩ ⟨St.refl w8, Nat.zero_le _, rfl⟩ ?_
      rintro ⟨j, kn⟩ e w9 ⟨hS9, hj, hkn⟩
      dsimp only at hS9 hj hkn ⊢
      refine Cd.seq ?_
      refine Cd.seq ?_
      refine Cd.region ?_
      refine Ops.mv_int rfl rfl rfl ?_
      refine Ops.mv_sl rfl rfl rfl ?_
      refine Ops.len rfl rfl ?_
      refine Ops.lss rfl rfl rfl ?_
      refine Ops.nil ?_
      refine thenQ_n ?_
      -- stop: cond
      refine Cd.cond_p _ rfl (fun h3 => ?_) (fun h3 => ?_)
      · have hj' : j < ms.length := by omega
        have hstep : (ms.map (·.xss)).take (j + 1) = (ms.map (·.xss)).take j ++ [(ms[j]).xss] := by
          rw [List.take_succ_eq_append_getElem (by rw [List.length_map]; exact hj'), List.getElem_map]
        have hRR9 := hRR.later hS9.below
        have hB9 := hB6.below hS9.below
        have hmj := (hml j hj').later hS9.below
        have hr9 := hr8.later hS9.below
        have hcap := hmj.len
        have hnj : (rg (ms.map (·.top)) (j : Int)).n = n := by
          have e : rg (ms.map (·.top)) (j : Int) = (ms[j]).top := by simp [rg, List.getD_eq_getElem?_getD, List.getElem?_eq_getElem hj']
          rw [e]
          exact htn _ (List.getElem_mem hj')
        cases kn --dup 2
        · refine Cd.skip ?_
          refine thenQ_n ?_
          refine Cd.seq ?_
          refine Cd.block ?_
          -- stop: draw
          refine Cd.draw [.ex (.bool (false)), .ex (.bool (false)), .ex (.slice (A4) (ms.length) (c4)), .ex (.int .i64 ((j : Int))), .ex (.pointer (ptrAt (A4) ((j : Int)).toNat)), .ex (.agg #[.slice (rg (ms.map (·.top)) ((j : Int))).a (rg (ms.map (·.top)) ((j : Int))).n (rg (ms.map (·.top)) ((j : Int))).c]), .ex (.agg #[.slice (A5) (n) (c5)]), .ex (.bool (decide ((ms[j]).xss = formL N xss k))), .ex (.bool (decide ((ms[j]).xss = formL N xss k))), .ex (.bool (decide ((ms[j]).xss = formL N xss k)))] (by kernel_rfl) (by kernel_rfl) rfl (List.forall_mem_cons.2 ⟨Yd.lasts_ex _, (List.forall_mem_cons.2 ⟨Yd.lasts_ex _, (List.forall_mem_cons.2 ⟨Yd.lasts_ex _, (List.forall_mem_cons.2 ⟨Yd.lasts_ex _, (List.forall_mem_cons.2 ⟨Yd.lasts_ex _, (List.forall_mem_cons.2 ⟨Yd.lasts_ex _, (List.forall_mem_cons.2 ⟨Yd.lasts_ex _, (List.forall_mem_cons.2 ⟨Yd.lasts_ex _, (List.forall_mem_cons.2 ⟨Yd.lasts_ex _, (List.forall_mem_cons.2 ⟨Yd.lasts_ex _, (fun _ h => by cases h)⟩)⟩)⟩)⟩)⟩)⟩)⟩)⟩)⟩)⟩) ⟨?_, ?_, ?_, ?_, ?_, ?_, ?_, ?_, ?_, ?_, trivial⟩ ?_
          · intro e1 w1 hb hp hun
            refine Ops.mv_bool rfl (by exact hun 9 _ rfl (by kernel_rfl)) rfl ?_
            refine Ops.nil ?_
            exact After.dn (Below.refl _ _) (by exact rfl)
          · intro e1 w1 hb hp hun
            refine Ops.mv_bool rfl rfl rfl ?_
            refine Ops.nil ?_
            exact After.dn (Below.refl _ _) (by exact rfl)
          · intro e1 w1 hb hp hun
            refine Ops.rung rfl rfl rfl ?_
            refine Ops.mv_sl rfl rfl rfl ?_
            refine Ops.nil ?_
            exact After.dn (Below.refl _ _) (by exact rfl)
          · intro e1 w1 hb hp hun
            refine Ops.rung rfl rfl rfl ?_
            refine Ops.mv_int rfl rfl rfl ?_
            refine Ops.nil ?_
            exact After.dn (Below.refl _ _) (by exact rfl)
          · intro e1 w1 hb hp hun
            refine Ops.rung rfl rfl rfl ?_
            refine Ops.idx (hRR9.later hb).2 rfl rfl rfl (by omega) (by omega) ?_
            refine Ops.nil ?_
            exact After.dn (Below.refl _ _) (by exact rfl)
          · intro e1 w1 hb hp hun
            refine Ops.rung rfl rfl rfl ?_
            refine Ops.ld_ag (hRR9.later hb) rfl (by omega) rfl ?_
            refine Ops.nil ?_
            exact After.dn (Below.refl _ _) (by exact rfl)
          · intro e1 w1 hb hp hun
            refine Ops.rung rfl rfl rfl ?_
            refine Ops.ld_agg 0 (hB9.below hb) rfl rfl rfl ?_
            refine Ops.nil ?_
            exact After.dn (Below.refl _ _) (by exact rfl)
          · intro e1 w1 hb hp hun
            refine Ops.rung rfl rfl rfl ?_
            refine Ops.call (l02Same_c _ _ _ _ _ _ _ _ _ _ _ (hmj.later hb) (hr9.later hb) (by omega)) rfl rfl rfl ?_
            rintro _ w2 ⟨rfl, hst⟩
            refine Ops.nil ?_
            exact After.dn hst.below (by exact rfl)
          · intro e1 w1 hb hp hun
            refine Ops.pick_f rfl rfl rfl ?_
            refine Ops.nil ?_
            exact After.dn (Below.refl _ _) (by exact rfl)
          · intro e1 w1 hb hp hun
            refine Ops.mv_bool rfl rfl rfl ?_
            refine Ops.nil ?_
            exact After.dn (Below.refl _ _) (by exact rfl)
          intro u w10 hb10 _
          have hS10 := hS9.later hb10
          refine blockQ_n ?_
          refine thenQ_n ?_
          refine Cd.region ?_
          refine Ops.mv_int rfl rfl rfl ?_
          refine Ops.add rfl rfl rfl (by omega) ?_
          refine Ops.mv_int rfl rfl rfl ?_
          refine Ops.nil ?_
          refine thenQ_n ?_
          -- stop: round
          refine ⟨(j + 1, decide ((ms[j]).xss = formL N xss k)), by show ms.length - (j + 1) < ms.length - j; omega, ⟨rfl, rfl, rfl, rfl, rfl, rfl, trivial⟩, hS10, by show j + 1 ≤ ms.length; omega, ?_⟩
          show decide _ = decide (formL N xss k ∈ (ms.map (·.xss)).take (j + 1))
          rw [hstep]
          have hno : ¬ formL N xss k ∈ (ms.map (·.xss)).take j := of_decide_eq_false hkn.symm
          refine decide_eq_decide.2 ?_
          rw [List.mem_append, List.mem_singleton]
          exact ⟨fun h => .inr h.symm, fun h => h.elim (fun h => absurd h hno) (fun h => h.symm)⟩
        · refine Cd.skip ?_
          refine thenQ_n ?_
          refine Cd.seq ?_
          refine Cd.block ?_
          -- stop: draw
          refine Cd.draw [.ex (.bool (true)), .ex (.bool (true)), .ex (undef), .ex (undef), .ex (undef), .ex (undef), .ex (undef), .ex (undef), .ex (.bool (true)), .ex (.bool (true))] (by kernel_rfl) (by kernel_rfl) rfl (List.forall_mem_cons.2 ⟨Yd.lasts_ex _, (List.forall_mem_cons.2 ⟨Yd.lasts_ex _, (List.forall_mem_cons.2 ⟨Yd.lasts_ex _, (List.forall_mem_cons.2 ⟨Yd.lasts_ex _, (List.forall_mem_cons.2 ⟨Yd.lasts_ex _, (List.forall_mem_cons.2 ⟨Yd.lasts_ex _, (List.forall_mem_cons.2 ⟨Yd.lasts_ex _, (List.forall_mem_cons.2 ⟨Yd.lasts_ex _, (List.forall_mem_cons.2 ⟨Yd.lasts_ex _, (List.forall_mem_cons.2 ⟨Yd.lasts_ex _, (fun _ h => by cases h)⟩)⟩)⟩)⟩)⟩)⟩)⟩)⟩)⟩)⟩) ⟨?_, ?_, ?_, ?_, ?_, ?_, ?_, ?_, ?_, ?_, trivial⟩ ?_
          · intro e1 w1 hb hp hun
            refine Ops.mv_bool rfl (by exact hun 9 _ rfl (by kernel_rfl)) rfl ?_
            refine Ops.nil ?_
            exact After.dn (Below.refl _ _) (by exact rfl)
          · intro e1 w1 hb hp hun
            refine Ops.mv_bool rfl rfl rfl ?_
            refine Ops.nil ?_
            exact After.dn (Below.refl _ _) (by exact rfl)
          · intro e1 w1 hb hp hun
            refine Ops.skipg rfl rfl rfl rfl rfl ?_
            refine Ops.nil ?_
            exact After.dn (Below.refl _ _) (by exact rfl)
          · intro e1 w1 hb hp hun
            refine Ops.skipg rfl rfl rfl rfl rfl ?_
            refine Ops.nil ?_
            exact After.dn (Below.refl _ _) (by exact rfl)
          · intro e1 w1 hb hp hun
            refine Ops.skipg rfl rfl rfl rfl rfl ?_
            refine Ops.nil ?_
            exact After.dn (Below.refl _ _) (by exact rfl)
          · intro e1 w1 hb hp hun
            refine Ops.skipg rfl rfl rfl rfl rfl ?_
            refine Ops.nil ?_
            exact After.dn (Below.refl _ _) (by exact rfl)
          · intro e1 w1 hb hp hun
            refine Ops.skipg rfl rfl rfl rfl rfl ?_
            refine Ops.nil ?_
            exact After.dn (Below.refl _ _) (by exact rfl)
          · intro e1 w1 hb hp hun
            refine Ops.skipg rfl rfl rfl rfl rfl ?_
            refine Ops.nil ?_
            exact After.dn (Below.refl _ _) (by exact rfl)
          · intro e1 w1 hb hp hun
            refine Ops.pick_t rfl rfl rfl ?_
            refine Ops.nil ?_
            exact After.dn (Below.refl _ _) (by exact rfl)
          · intro e1 w1 hb hp hun
            refine Ops.mv_bool rfl rfl rfl ?_
            refine Ops.nil ?_
            exact After.dn (Below.refl _ _) (by exact rfl)
          intro u w10 hb10 _
          have hS10 := hS9.later hb10
          refine blockQ_n ?_
          refine thenQ_n ?_
          refine Cd.region ?_
          refine Ops.mv_int rfl rfl rfl ?_
          refine Ops.add rfl rfl rfl (by omega) ?_
          refine Ops.mv_int rfl rfl rfl ?_
          refine Ops.nil ?_
          refine thenQ_n ?_
          -- stop: round
          refine ⟨(j + 1, true), by show ms.length - (j + 1) < ms.length - j; omega, ⟨rfl, rfl, rfl, rfl, rfl, rfl, trivial⟩, hS10, by show j + 1 ≤ ms.length; omega, ?_⟩
          have hyes : formL N xss k ∈ (ms.map (·.xss)).take j := of_decide_eq_true hkn.symm
          show true = decide (formL N xss k ∈ (ms.map (·.xss)).take (j + 1))
          rw [hstep]
          exact (decide_eq_true (List.mem_append_left _ hyes)).symm
      · have hjm : j = ms.length := by omega
        rw [hjm, List.take_of_length_le (by rw [List.length_map]; exact Nat.le_refl _), hms] at hkn
        have hSf := hS8.later hS9.below
        refine Cd.exit ?_
        refine thenQ_x ?_
        refine thenQ_x ?_
        refine blockQ_x ?_
        refine thenQ_n ?_
        refine Cd.seq ?_
        refine Cd.region ?_
        refine Ops.mv_bool rfl rfl rfl ?_
        first | refine Ops.not_p rfl rfl ?_ | refine Ops.not rfl rfl ?_
        refine Ops.nil ?_
        refine thenQ_n ?_
        -- stop: cond
        refine Cd.cond rfl (fun h4 => ?_) (fun h4 => ?_)
        · have hnew : ¬ formL N xss k ∈ fset N xss k := fun h => by
            rw [decide_eq_true h] at hkn
            rw [hkn] at h4
            cases h4
          refine Cd.region ?_
          refine Ops.mv_sl rfl rfl rfl ?_
          -- stop: LOAD 24 t5=form -> 39
          refine Ops.ld_agg 0 (hSf.rd 0 rfl) rfl rfl rfl ?_
          refine Ops.bs1A hSf rfl rfl rfl ?_
          intro A10 w10 hS10
          refine Ops.appR 2 hS10 rfl (hS10.rdR 0 rfl) rfl rfl rfl (by omega) (by omega) rfl ?_
          intro A11 c11 w11 hS11
          have hS11 := hS11.tail.tail
          have hS11 : St w w11 (CkR 24 A11 (ms.length + 1) c11 (ms.map (·.top) ++ [⟨A5, n, c5⟩]) :: Bx 24 1 Ab [.slice A n c] :: (matsCk 33 2 ms ++ mat 33 2 A5 n c5 rs5 (formL N xss k))) := hS11
          refine Ops.mv_sl rfl rfl rfl ?_
          refine Ops.nil ?_
          refine blockQ_n ?_
          refine thenQ_n ?_
          refine Cd.region ?_
          refine Ops.mv_int rfl rfl rfl ?_
          refine Ops.add rfl rfl rfl (by omega) ?_
          refine Ops.mv_int rfl rfl rfl ?_
          refine Ops.nil ?_
          refine thenQ_n ?_
          -- stop: round
          refine ⟨(k + 1, A11, c11, ms ++ [⟨⟨A5, n, c5⟩, rs5, formL N xss k⟩]), by show N - (k + 1) < N - k; omega, ⟨rfl, by rw [List.length_append]; rfl, rfl, trivial⟩, ?_, by show k + 1 ≤ N; omega, ?_, ?_, hown'⟩
          · show St w w11 (CkR _ A11 (ms ++ [(⟨⟨A5, n, c5⟩, rs5, formL N xss k⟩ : MatV)]).length c11 (List.map MatV.top (ms ++ [(⟨⟨A5, n, c5⟩, rs5, formL N xss k⟩ : MatV)])) :: _ :: matsCk _ _ (ms ++ [(⟨⟨A5, n, c5⟩, rs5, formL N xss k⟩ : MatV)]))
            rw [List.length_append, List.map_append, matsCk_append]
            simpa [matsCk, MatV.cks] using hS11
          · show List.map MatV.xss (ms ++ [(⟨⟨A5, n, c5⟩, rs5, formL N xss k⟩ : MatV)]) = fset N xss (k + 1)
            rw [List.map_append, hms, fset, if_neg hnew]
            rfl
          · intro m hm
            rcases List.mem_append.1 hm with hm | hm
            · exact htn m hm
            · simp at hm; subst hm; rfl
        · have hold : formL N xss k ∈ fset N xss k := by
            cases hkb : kn with
            | true => rw [hkb] at hkn; exact of_decide_eq_true hkn.symm
            | false => rw [hkb] at h4; cases h4
          refine Cd.skip ?_
          refine blockQ_n ?_
          refine thenQ_n ?_
          refine Cd.region ?_
          refine Ops.mv_int rfl rfl rfl ?_
          refine Ops.add rfl rfl rfl (by omega) ?_
          refine Ops.mv_int rfl rfl rfl ?_
          refine Ops.nil ?_
          refine thenQ_n ?_
          -- stop: round
          refine ⟨(k + 1, A4, c4, ms), by show N - (k + 1) < N - k; omega, ⟨rfl, rfl, rfl, trivial⟩, ?_, by show k + 1 ≤ N; omega, ?_, htn, hown'⟩
          · exact hSf.sub ((List.Sublist.cons_cons _ (List.Sublist.cons_cons _ (List.sublist_append_left _ _))).cons _)
          · show ms.map (·.xss) = fset N xss (k + 1)
            rw [hms, fset, if_pos hold]
  · have hkN : k = N := by omega
    subst hkN
    refine Cd.exit ?_
    refine thenQ_x ?_
    refine thenQ_x ?_
    refine blockQ_x ?_
    refine thenQ_n ?_
    refine Cd.seq ?_
    refine Cd.region ?_
    refine Ops.mv_sl rfl rfl rfl ?_
    refine Ops.len rfl rfl ?_
    refine Ops.mv_int rfl rfl rfl ?_
    refine Ops.nil ?_
    refine thenQ_n ?_
    refine Cd.ret ?_
    refine ret1_i rfl ?_
    -- stop: end
    refine ⟨?_, hS4.none⟩
    rw [orbN, if_pos (show Own1 k xss from hown), ← hms, List.length_map]
end Go.Proofs.Ytgobjpcankaicaa.Vc
/-
  The reference's list of a rank and a number of flags, with the numbers of orbits. Conditions: the rank and the number are within their bounds.
-/
namespace Go.Proofs.Ytgobjpcankaicaa.Vc
open Go.RowKit

section
variable {P : Program} {N : Nat} {ops : Array Oper} {K : Env → World → Prop} {rest : List Oper} {e : Env} {w0 w w' : World} {ks : List Ck} {d : Nat} {ty : TypeId} {pos : String} {af : Array Edge}
theorem Ops.appFR {t el : TypeId} {z : Value} {b : Nat} [hU : Und P t (.slice el)] [Inf P el z 1 b] {x y : Operand} (i : Nat) {A : Option Addr} {n c : Nat} {xs : List SlV} {A' : Option Addr} {m c' : Nat} {ys : List SlV} (hfull : n = c) (hS : St w0 w ks) (hk : ks[i]? = some (CkR el A n c xs)) (hR : RdR w A' m ys) (hx : ev e x = .slice A n c) (hy : ev e y = .slice A' m c') {z0 : Value} (hz : z.cells = #[z0])
    (h63 : n + m ≤ 9223372036854775807) (hbytes : (n + m) * b ≤ 140737488355328) (hb : Nat.blt d N = true)
    (hK : ∀ A2 c2 w', Below w.heap.size w w' → St w0 w' (ks.set i (CkR el A2 (n + m) c2 (xs ++ ys))) → Ops P N ops K rest (upd e d (.slice A2 (n + m) c2)) w') :
    Ops P N ops K (⟨some d, .call ⟨.builtin .append, #[x, y], #[t, t]⟩, ty, pos, af, none⟩ :: rest) e w :=
  .appF i hfull hS hk hR.2 hx hy rfl hz (fun _ _ => rfl) (by simpa [maxLen] using h63) hbytes hb fun A2 c2 w' hb' h => hK A2 c2 w' hb' (by
    rw [map_range_R hR.1] at h
    simpa [CkR] using h)
theorem ret2_ss {R : Value → World → Prop} {t u : Nat} {A A' : Option Addr} {n c n' c' : Nat} (h : e t = .slice A n c) (h2 : e u = .slice A' n' c') (hR : R (.tuple #[.slice A n c, .slice A' n' c']) w) : ret2 t u R .ret e w := by show R (.tuple #[e t, e u]) w; rw [h, h2]; exact hR
end
theorem pin (u : Nat → Value) {i : Nat} {v : Value} (h : u i = v) : u = fun k => if k = i then v else u k := by
  funext k
  split
  · rename_i e; rw [e, h]
  · rfl
theorem RdR.take {w : World} {A : Option Addr} {n l : Nat} {xs : List SlV} (h : RdR w A n xs) (hl : l ≤ n) : RdR w A l (xs.take l) := by
  refine ⟨by rw [List.length_take, h.1]; omega, fun k hk => ?_⟩
  obtain ⟨q, h1, h2⟩ := h.2 k (by omega)
  exact ⟨q, h1, by rw [h2]; simp [List.getElem?_take, hk, List.getD_eq_getElem?_getD]⟩
theorem RdR.drop {w : World} {A : Option Addr} {n c l : Nat} {xs : List SlV} (h : RdR w A n xs) (hl : l ≤ n) (hc : n ≤ c) : RdR w (cutAt A c l) (n - l) (xs.drop l) := by
  have := h.cut (l := l) (h := n) (c := c) hl (Nat.le_refl _) hc
  rwa [List.take_of_length_le (by rw [List.length_drop, h.1]; omega)] at this

/-! matrices chosen and put in order -/
theorem matsCk_sub {t1 t2 : TypeId} {l l' : List MatV} (h : l.Sublist l') : (matsCk t1 t2 l).Sublist (matsCk t1 t2 l') := by
  induction h with
  | slnil => exact List.Sublist.refl _
  | cons a _ ih => exact ih.trans (List.sublist_append_right _ _)
  | cons_cons a _ ih => exact List.Sublist.append (List.Sublist.refl _) ih
theorem matsCk_perm {t1 t2 : TypeId} {l l' : List MatV} (h : l.Perm l') : (matsCk t1 t2 l).Perm (matsCk t1 t2 l') := h.flatMap_right _
def insV (m : MatV) (l : List MatV) : List MatV := l.take (atM m.xss (l.map (·.xss))) ++ m :: l.drop (atM m.xss (l.map (·.xss)))
theorem insV_xss (m : MatV) (l : List MatV) : (insV m l).map (·.xss) = insM m.xss (l.map (·.xss)) := by simp [insV, insM, List.map_take, List.map_drop]
theorem insV_perm (m : MatV) (l : List MatV) : (insV m l).Perm (m :: l) := ins_perm m l _
def selV (F : Nat) (ms : List MatV) : List MatV := ms.filter fun m => decide (Own1 F m.xss)
theorem fset_pos (N : Nat) (xss : Mx) : ∀ k, 0 < k → 0 < (fset N xss k).length
  | k + 1, _ => by
    simp only [fset]
    split
    · rename_i h; exact List.length_pos_of_mem h
    · simp
theorem orbN_zero {F : Nat} {L : Mx} (hF : 0 < F) : orbN F L = 0 ↔ ¬ Own1 F L := by
  unfold orbN
  split
  · rename_i h
    have := fset_pos F L F hF
    exact ⟨fun e => by omega, fun h' => absurd h h'⟩
  · rename_i h; exact ⟨fun _ => h, fun _ => rfl⟩
def orbI (F : Nat) (m : MatV) : Int := (orbN F m.xss : Int)
theorem top_at {ms : List MatV} {j : Nat} (hj : j < ms.length) : rg (ms.map (·.top)) (j : Int) = (ms[j]).top := by
  simp [rg, List.getD_eq_getElem?_getD, List.getElem?_eq_getElem hj]
theorem selV_snoc {F : Nat} {ms : List MatV} {i : Nat} (hi : i < ms.length) : selV F (ms.take (i + 1)) = if Own1 F (ms[i]).xss then selV F (ms.take i) ++ [ms[i]] else selV F (ms.take i) := by
  unfold selV
  rw [List.take_succ_eq_append_getElem hi, List.filter_append]
  by_cases h : Own1 F (ms[i]).xss <;> simp [h]

theorem l19List_c (n F : Nat) (hn : 1 ≤ n ∧ n ≤ 4) (hF : 2 ≤ F ∧ F ≤ 12) (w : World) :
    Ret Try.prog 68 [.int .i64 (n : Int), .int .i64 (F : Int)] w (fun v w' => ∃ A c A2 c2, ∃ ms : List MatV, v = .tuple #[.slice A ms.length c, .slice A2 ms.length c2] ∧ ms.map (·.xss) = listL n F ∧ (∀ m ∈ ms, m.ok) ∧
      St w w' (CkR 24 A ms.length c (ms.map (·.top)) :: CkI 2 A2 ms.length c2 (ms.map (orbI F)) :: matsCk 33 2 ms)) := by
  refine Ret.of_cd Try.func68 rfl Try.ntmps68 rfl (post2 rfl) ?_
  refine Cd.seq ?_
  refine Cd.region ?_
  refine Ops.mv_sl rfl rfl rfl ?_
  refine Ops.mv_sl rfl rfl rfl ?_
  refine Ops.nil ?_
  refine thenQ_n ?_
  refine Cd.seq ?_
  refine Cd.region ?_
  refine Ops.mv_int rfl rfl rfl ?_
  refine Ops.mv_int rfl rfl rfl ?_
  -- stop: CALL spec.l19Rooted(t14, t15) -> 16
  refine Ops.call (l19Rooted_c n F hn hF w) rfl rfl rfl ?_
  rintro _ w1 ⟨A6, c6, all, rfl, hok, hall, hst⟩
  have hsm := forms_small hn hF (F * n + 1)
  rw [← hall, List.length_map] at hsm
  have hman : ∀ m ∈ all, Mani m.xss ∧ Inv n F m.xss F (F * n) := fun m hm => forms_mani (by omega) (by omega) (by rw [formsL, ← hall]; exact List.mem_map_of_mem hm)
  have hlen : ∀ m ∈ all, m.xss.length = n := fun m hm => (hman m hm).2.shp.1
  have htn : ∀ m ∈ all, m.top.n = n := fun m hm => by rw [← hok m hm]; exact hlen m hm
  have hgF : ∀ m ∈ all, F = (gl m.xss 0).length := fun m hm => ((hman m hm).2.shp.row (i := 0) (by omega)).symm
  have hRR := hst.rdR 0 rfl
  have hmr : ∀ m ∈ all, RowsI w1 m.top.a n m.rs m.xss := fun m hm => by
    have := hst.matAt (c := m.top.c) (t1 := 33) (t2 := 2) ((MatV.sub_ hm).trans (List.sublist_cons_self _ _)) (hok m hm)
    rw [htn m hm] at this
    exact this
  have hcap : ∀ m ∈ all, n ≤ m.top.c := fun m hm => by
    have h1 := hst.own (CkR 33 m.top.a m.top.n m.top.c m.rs) (by
      refine List.mem_cons_of_mem _ ?_
      exact List.mem_flatMap.2 ⟨m, hm, by simp [MatV.cks, mat]⟩)
    have h2 : m.top.n ≤ m.top.c := h1.cap.1
    rw [htn m hm] at h2
    exact h2
  refine Ops.bs0 (St.refl w1) rfl ?_
  intro A7 w2 hS2
  refine Ops.bs0 hS2 rfl ?_
  intro A8 w3 hS3
  have hS3 : St w1 w3 [CkI 2 A8 0 0 [], CkR 24 A7 0 0 []] := hS3
  have hS3 := hS3.swap
  refine Ops.mv_sl rfl rfl rfl ?_
  refine Ops.mv_sl rfl rfl rfl ?_
  refine Ops.mv_sl rfl rfl rfl ?_
  refine Ops.nil ?_
  refine thenQ_n ?_
  refine Cd.seq ?_
  refine Cd.seq ?_
  refine Cd.region ?_
  refine Ops.mv_int rfl rfl rfl ?_
  refine Ops.nil ?_
  refine thenQ_n ?_
  refine Cd.block ?_
  -- stop: loop
  refine Cd.loop (α := Nat × (Option Addr × Nat) × (Option Addr × Nat) × List MatV) (fun s => [(6, .slice A6 all.length c6), (7, .slice s.2.1.1 s.2.2.2.length s.2.1.2), (8, .slice s.2.2.1.1 s.2.2.2.length s.2.2.1.2), (9, .int .i64 (s.1 : Int))])
    (fun s w' => St w1 w' [CkR 24 s.2.1.1 s.2.2.2.length s.2.1.2 (s.2.2.2.map (·.top)), CkI 2 s.2.2.1.1 s.2.2.2.length s.2.2.1.2 (s.2.2.2.map (orbI F))] ∧ s.1 ≤ all.length ∧ s.2.2.2.Perm (selV F (all.take s.1)) ∧ s.2.2.2.map (·.xss) = ordM ((selV F (all.take s.1)).map (·.xss))) (fun s => all.length - s.1)
    (0, (A7, 0), (A8, 0), []) ⟨rfl, rfl, rfl, rfl, trivial⟩ ⟨hS3, Nat.zero_le _, List.Perm.refl _, rfl⟩ ?_
  rintro ⟨i, ⟨B7, c7⟩, ⟨B8, c8⟩, outs⟩ e w4 ⟨hS4, hi, hperm, hord⟩
  dsimp only at hS4 hi hperm hord ⊢
  have hsubm : ∀ m ∈ outs, m ∈ all := fun m hm => List.mem_of_mem_take (List.mem_filter.1 (hperm.mem_iff.1 hm)).1
  have houts : outs.length ≤ i := by
    have h1 := hperm.length_eq
    have h2 := List.length_filter_le (fun m : MatV => decide (Own1 F m.xss)) (all.take i)
    have h3 : (selV F (all.take i)).length ≤ (all.take i).length := h2
    rw [List.length_take] at h3
    omega
  refine Cd.seq ?_
  refine Cd.seq ?_
  refine Cd.region ?_
  refine Ops.mv_int rfl rfl rfl ?_
  refine Ops.mv_sl rfl rfl rfl ?_
  refine Ops.len rfl rfl ?_
  refine Ops.lss rfl rfl rfl ?_
  refine Ops.nil ?_
  refine thenQ_n ?_
  -- stop: cond
  refine Cd.cond_p _ rfl (fun h1 => ?_) (fun h1 => ?_)
  · have hi' : i < all.length := by omega
    have hm := List.getElem_mem hi'
    have hti := top_at hi'
    have hRR4 := hRR.later hS4.below
    have hX := (hmr _ hm).later hS4.below
    have hsn := selV_snoc (F := F) hi'
    have hXm := (hman _ hm).1
    have hXF := hgF _ hm
    have hXc := hcap _ hm
    refine Cd.skip ?_
    refine thenQ_n ?_
    refine Cd.seq ?_
    refine Cd.block ?_
    refine Cd.seq ?_
    refine Cd.region ?_
    refine Ops.mv_sl rfl rfl rfl ?_
    refine Ops.mv_int rfl rfl rfl ?_
    -- stop: INDEXADDR 51 t25 t26 -> 27
    refine Ops.idx hRR4.2 rfl rfl rfl (by omega) (by omega) ?_
    refine Ops.ld_ag hRR4 rfl (by omega) rfl ?_
    rw [hti, htn _ hm]
    generalize hXe : all[i] = X at *
    have hXt : (⟨X.top.a, n, X.top.c⟩ : SlV) = X.top := by rw [← htn _ hm]
    refine Ops.call (l19Orbits_c X.top.a n X.top.c X.rs X.xss F _ hX hXm hXF) rfl rfl rfl ?_
    rintro _ w5 ⟨rfl, hst5⟩
    have hS5 := hS4.later hst5.below
    refine Ops.mv_int rfl rfl rfl ?_
    refine Ops.nil ?_
    refine thenQ_n ?_
    refine Cd.seq ?_
    refine Cd.seq ?_
    refine Cd.region ?_
    refine Ops.mv_int rfl rfl rfl ?_
    refine Ops.eql rfl rfl rfl ?_
    refine Ops.nil ?_
    refine thenQ_n ?_
    -- stop: cond
    refine Cd.cond_p _ rfl (fun h2 => ?_) (fun h2 => ?_)
    · have hno : ¬ Own1 F X.xss := (orbN_zero (by omega)).1 (by omega)
      rw [if_neg hno] at hsn
      refine Cd.exit ?_
      refine thenQ_x ?_
      refine blockQ_x ?_
      refine thenQ_n ?_
      refine Cd.region ?_
      refine Ops.mv_int rfl rfl rfl ?_
      refine Ops.add rfl rfl rfl (by omega) ?_
      refine Ops.mv_int rfl rfl rfl ?_
      refine Ops.nil ?_
      refine thenQ_n ?_
      -- stop: round
      exact ⟨(i + 1, (B7, c7), (B8, c8), outs), by show all.length - (i + 1) < all.length - i; omega, ⟨rfl, rfl, rfl, rfl, trivial⟩, hS5, hi', by show outs.Perm (selV F (all.take (i + 1))); rw [hsn]; exact hperm, by show outs.map _ = ordM ((selV F (all.take (i + 1))).map _); rw [hsn]; exact hord⟩
    · have hyes : Own1 F X.xss := Classical.byContradiction fun h => h2 (by rw [(orbN_zero (by omega)).2 h]; rfl)
      rw [if_pos hyes] at hsn
      have hX5 := hX.later hst5.below
      have hlast : ∀ {A9 c9 A10 c10 w9}, St w1 w9 [CkR 24 A9 (insV X outs).length c9 ((insV X outs).map (·.top)), CkI 2 A10 (insV X outs).length c10 ((insV X outs).map (orbI F))] →
          St w1 w9 [CkR 24 A9 (insV X outs).length c9 ((insV X outs).map (·.top)), CkI 2 A10 (insV X outs).length c10 ((insV X outs).map (orbI F))] ∧ i + 1 ≤ all.length ∧ (insV X outs).Perm (selV F (all.take (i + 1))) ∧ (insV X outs).map (·.xss) = ordM ((selV F (all.take (i + 1))).map (·.xss)) := fun hs => by
        refine ⟨hs, hi', ?_, ?_⟩
        · rw [hsn]
          exact (insV_perm X outs).trans ((hperm.cons X).trans (List.perm_append_comm (l₁ := [X])))
        · rw [hsn, insV_xss, hord, List.map_append, List.map_singleton, ordM_snoc]
      have hinl : (insV X outs).length = outs.length + 1 := (insV_perm X outs).length_eq
      refine Cd.skip ?_
      refine thenQ_n ?_
      refine Cd.seq ?_
      refine Cd.region ?_
      refine Ops.mv_int rfl rfl rfl ?_
      refine Ops.nil ?_
      refine thenQ_n ?_
      -- stop: join
      refine Cd.join (α := Nat) (fun a => [(6, .slice A6 all.length c6), (7, .slice B7 outs.length c7), (8, .slice B8 outs.length c8), (9, .int .i64 (i : Int)), (10, .int .i64 (orbN F X.xss : Int)), (11, .int .i64 (a : Int))])
        (fun a w' => St w5 w' [] ∧ a ≤ outs.length ∧ a = atM X.xss (outs.map (·.xss))) ?_ ?_
      · refine Cd.block ?_
        -- stop: loop
        refine Cd.loop (α := Nat) (fun a => [(6, .slice A6 all.length c6), (7, .slice B7 outs.length c7), (8, .slice B8 outs.length c8), (9, .int .i64 (i : Int)), (10, .int .i64 (orbN F X.xss : Int)), (11, .int .i64 (a : Int))])
          (fun a w' => St w5 w' [] ∧ a ≤ outs.length ∧ a + atM X.xss ((outs.map (·.xss)).drop a) = atM X.xss (outs.map (·.xss))) (fun a => outs.length - a) 0 ⟨rfl, rfl, rfl, rfl, rfl, rfl, trivial⟩ ⟨St.refl w5, Nat.zero_le _, Nat.zero_add _⟩ ?_
        rintro a e w6 ⟨hS6, ha, hat⟩
        have hT6 := (hS5.rdR 0 rfl).later hS6.below
        have hA6 := (hRR4.later hst5.below).later hS6.below
        have hX6 := hX5.later hS6.below
        by_cases hlt : a < outs.length --dup 2
        · have hmo := hsubm _ (List.getElem_mem hlt)
          have hY6 := (((hmr _ hmo).later hS4.below).later hst5.below).later hS6.below
          have hto := top_at hlt
          have hton := htn _ hmo
          generalize hYe : outs[a] = Y at *
          refine Cd.seq ?_
          refine Cd.seq ?_
          -- stop: draw
          refine Cd.draw [.ex (.int .i64 ((a : Int))), .ex (.slice (B7) (outs.length) (c7)), .ex (.int .i64 (((outs.length : Nat) : Int))), .ex (.bool (true)), .ex (.bool (true)), .ex (.slice (B7) (outs.length) (c7)), .ex (.int .i64 ((a : Int))), .ex (.pointer (ptrAt (B7) ((a : Int)).toNat)), .ex (.agg #[.slice Y.top.a n Y.top.c]), .ex (.slice (A6) (all.length) (c6)), .ex (.int .i64 ((i : Int))), .ex (.pointer (ptrAt (A6) ((i : Int)).toNat)), .ex (.agg #[.slice X.top.a n X.top.c]), .ex (.bool (decide (lexCC Y.xss X.xss < 0))), .ex (.bool (decide (lexCC Y.xss X.xss < 0)))] (by kernel_rfl) (by kernel_rfl) rfl (List.forall_mem_cons.2 ⟨Yd.lasts_ex _, (List.forall_mem_cons.2 ⟨Yd.lasts_ex _, (List.forall_mem_cons.2 ⟨Yd.lasts_ex _, (List.forall_mem_cons.2 ⟨Yd.lasts_ex _, (List.forall_mem_cons.2 ⟨Yd.lasts_ex _, (List.forall_mem_cons.2 ⟨Yd.lasts_ex _, (List.forall_mem_cons.2 ⟨Yd.lasts_ex _, (List.forall_mem_cons.2 ⟨Yd.lasts_ex _, (List.forall_mem_cons.2 ⟨Yd.lasts_ex _, (List.forall_mem_cons.2 ⟨Yd.lasts_ex _, (List.forall_mem_cons.2 ⟨Yd.lasts_ex _, (List.forall_mem_cons.2 ⟨Yd.lasts_ex _, (List.forall_mem_cons.2 ⟨Yd.lasts_ex _, (List.forall_mem_cons.2 ⟨Yd.lasts_ex _, (List.forall_mem_cons.2 ⟨Yd.lasts_ex _, (fun _ h => by cases h)⟩)⟩)⟩)⟩)⟩)⟩)⟩)⟩)⟩)⟩)⟩)⟩)⟩)⟩)⟩) ⟨?_, ?_, ?_, ?_, ?_, ?_, ?_, ?_, ?_, ?_, ?_, ?_, ?_, ?_, ?_, trivial⟩ ?_
          · intro e1 w1 hb hp hun
            refine Ops.mv_int rfl rfl rfl ?_
            refine Ops.nil ?_
            exact After.dn (Below.refl _ _) (by exact rfl)
          · intro e1 w1 hb hp hun
            refine Ops.mv_sl rfl rfl rfl ?_
            refine Ops.nil ?_
            exact After.dn (Below.refl _ _) (by exact rfl)
          · intro e1 w1 hb hp hun
            refine Ops.len rfl rfl ?_
            refine Ops.nil ?_
            exact After.dn (Below.refl _ _) (by exact rfl)
          · intro e1 w1 hb hp hun
            refine Ops.lss rfl rfl rfl ?_
            refine Ops.nil ?_
            exact After.dn (Below.refl _ _) (by exact congrArg Value.bool (decide_eq_true (by omega)))
          · intro e1 w1 hb hp hun
            refine Ops.mv_bool rfl rfl rfl ?_
            refine Ops.nil ?_
            exact After.dn (Below.refl _ _) (by exact rfl)
          · intro e1 w1 hb hp hun
            refine Ops.rung rfl rfl rfl ?_
            refine Ops.mv_sl rfl rfl rfl ?_
            refine Ops.nil ?_
            exact After.dn (Below.refl _ _) (by exact rfl)
          · intro e1 w1 hb hp hun
            refine Ops.rung rfl rfl rfl ?_
            refine Ops.mv_int rfl rfl rfl ?_
            refine Ops.nil ?_
            exact After.dn (Below.refl _ _) (by exact rfl)
          · intro e1 w1 hb hp hun
            refine Ops.rung rfl rfl rfl ?_
            refine Ops.idx (hT6.later hb).2 rfl rfl rfl (by omega) (by omega) ?_
            refine Ops.nil ?_
            exact After.dn (Below.refl _ _) (by exact rfl)
          · intro e1 w1 hb hp hun
            refine Ops.rung rfl rfl rfl ?_
            refine Ops.ld_ag (hT6.later hb) rfl (by omega) rfl ?_
            rw [hto, hton]
            refine Ops.nil ?_
            exact After.dn (Below.refl _ _) (by exact rfl)
          · intro e1 w1 hb hp hun
            refine Ops.rung rfl rfl rfl ?_
            refine Ops.mv_sl rfl rfl rfl ?_
            refine Ops.nil ?_
            exact After.dn (Below.refl _ _) (by exact rfl)
          · intro e1 w1 hb hp hun
            refine Ops.rung rfl rfl rfl ?_
            refine Ops.mv_int rfl rfl rfl ?_
            refine Ops.nil ?_
            exact After.dn (Below.refl _ _) (by exact rfl)
          · intro e1 w1 hb hp hun
            refine Ops.rung rfl rfl rfl ?_
            refine Ops.idx (hA6.later hb).2 rfl rfl rfl (by omega) (by omega) ?_
            refine Ops.nil ?_
            exact After.dn (Below.refl _ _) (by exact rfl)
          · intro e1 w1 hb hp hun
            refine Ops.rung rfl rfl rfl ?_
            refine Ops.ld_ag (hA6.later hb) rfl (by omega) rfl ?_
            rw [hti, htn _ hm]
            refine Ops.nil ?_
            exact After.dn (Below.refl _ _) (by exact rfl)
          · intro e1 w1 hb hp hun
            refine Ops.rung rfl rfl rfl ?_
            refine Ops.call (l19Less_c Y.top.a n Y.top.c Y.rs Y.xss X.top.a X.top.c X.rs X.xss _ (hY6.later hb) (hX6.later hb) (by omega)) rfl rfl rfl ?_
            rintro _ w2 ⟨rfl, hst⟩
            refine Ops.nil ?_
            exact After.dn hst.below (by exact rfl)
          · intro e1 w1 hb hp hun
            refine Ops.pick_t rfl rfl rfl ?_
            refine Ops.nil ?_
            exact After.dn (Below.refl _ _) (by exact rfl)
          intro uu w7 hb7 _
          have hS7 := hS6.later hb7
          rw [atM_drop (by rw [List.length_map]; exact hlt), List.getElem_map, hYe] at hat
          refine thenQ_n ?_
          -- stop: cond
          refine Cd.cond_p _ rfl (fun h5 => ?_) (fun h5 => ?_)
          · rw [if_pos h5] at hat
            refine Cd.skip ?_
            refine thenQ_n ?_
            refine Cd.block ?_
            refine Cd.region ?_
            refine Ops.mv_int rfl rfl rfl ?_
            refine Ops.add rfl rfl rfl (by omega) ?_
            refine Ops.mv_int rfl rfl rfl ?_
            refine Ops.nil ?_
            refine blockQ_n ?_
            refine thenQ_n ?_
            -- stop: round
            exact ⟨a + 1, by show outs.length - (a + 1) < outs.length - a; omega, ⟨rfl, rfl, rfl, rfl, rfl, rfl, trivial⟩, hS7, hlt, by omega⟩
          · rw [if_neg h5] at hat
            refine Cd.exit ?_
            refine thenQ_x ?_
            refine thenQ_x ?_
            refine blockQ_x ?_
            refine thenQ_n ?_
            -- stop: round
            exact ⟨a, ⟨rfl, rfl, rfl, rfl, rfl, rfl, trivial⟩, hS7, ha, by omega⟩
        · refine Cd.seq ?_
          refine Cd.seq ?_
          -- stop: draw
          refine Cd.draw [.ex (.int .i64 ((a : Int))), .ex (.slice (B7) (outs.length) (c7)), .ex (.int .i64 (((outs.length : Nat) : Int))), .ex (.bool (false)), .ex (.bool (false)), .ex (undef), .ex (undef), .ex (undef), .ex (undef), .ex (undef), .ex (undef), .ex (undef), .ex (undef), .ex (undef), .ex (.bool (false))] (by kernel_rfl) (by kernel_rfl) rfl (List.forall_mem_cons.2 ⟨Yd.lasts_ex _, (List.forall_mem_cons.2 ⟨Yd.lasts_ex _, (List.forall_mem_cons.2 ⟨Yd.lasts_ex _, (List.forall_mem_cons.2 ⟨Yd.lasts_ex _, (List.forall_mem_cons.2 ⟨Yd.lasts_ex _, (List.forall_mem_cons.2 ⟨Yd.lasts_ex _, (List.forall_mem_cons.2 ⟨Yd.lasts_ex _, (List.forall_mem_cons.2 ⟨Yd.lasts_ex _, (List.forall_mem_cons.2 ⟨Yd.lasts_ex _, (List.forall_mem_cons.2 ⟨Yd.lasts_ex _, (List.forall_mem_cons.2 ⟨Yd.lasts_ex _, (List.forall_mem_cons.2 ⟨Yd.lasts_ex _, (List.forall_mem_cons.2 ⟨Yd.lasts_ex _, (List.forall_mem_cons.2 ⟨Yd.lasts_ex _, (List.forall_mem_cons.2 ⟨Yd.lasts_ex _, (fun _ h => by cases h)⟩)⟩)⟩)⟩)⟩)⟩)⟩)⟩)⟩)⟩)⟩)⟩)⟩)⟩)⟩) ⟨?_, ?_, ?_, ?_, ?_, ?_, ?_, ?_, ?_, ?_, ?_, ?_, ?_, ?_, ?_, trivial⟩ ?_
          · intro e1 w1 hb hp hun
            refine Ops.mv_int rfl rfl rfl ?_
            refine Ops.nil ?_
            exact After.dn (Below.refl _ _) (by exact rfl)
          · intro e1 w1 hb hp hun
            refine Ops.mv_sl rfl rfl rfl ?_
            refine Ops.nil ?_
            exact After.dn (Below.refl _ _) (by exact rfl)
          · intro e1 w1 hb hp hun
            refine Ops.len rfl rfl ?_
            refine Ops.nil ?_
            exact After.dn (Below.refl _ _) (by exact rfl)
          · intro e1 w1 hb hp hun
            refine Ops.lss rfl rfl rfl ?_
            refine Ops.nil ?_
            exact After.dn (Below.refl _ _) (by exact congrArg Value.bool (decide_eq_false (by omega)))
          · intro e1 w1 hb hp hun
            refine Ops.mv_bool rfl rfl rfl ?_
            refine Ops.nil ?_
            exact After.dn (Below.refl _ _) (by exact rfl)
          · intro e1 w1 hb hp hun
            refine Ops.skipg rfl rfl rfl rfl rfl ?_
            refine Ops.nil ?_
            exact After.dn (Below.refl _ _) (by exact rfl)
          · intro e1 w1 hb hp hun
            refine Ops.skipg rfl rfl rfl rfl rfl ?_
            refine Ops.nil ?_
            exact After.dn (Below.refl _ _) (by exact rfl)
          · intro e1 w1 hb hp hun
            refine Ops.skipg rfl rfl rfl rfl rfl ?_
            refine Ops.nil ?_
            exact After.dn (Below.refl _ _) (by exact rfl)
          · intro e1 w1 hb hp hun
            refine Ops.skipg rfl rfl rfl rfl rfl ?_
            refine Ops.nil ?_
            exact After.dn (Below.refl _ _) (by exact rfl)
          · intro e1 w1 hb hp hun
            refine Ops.skipg rfl rfl rfl rfl rfl ?_
            refine Ops.nil ?_
            exact After.dn (Below.refl _ _) (by exact rfl)
          · intro e1 w1 hb hp hun
            refine Ops.skipg rfl rfl rfl rfl rfl ?_
            refine Ops.nil ?_
            exact After.dn (Below.refl _ _) (by exact rfl)
          · intro e1 w1 hb hp hun
            refine Ops.skipg rfl rfl rfl rfl rfl ?_
            refine Ops.nil ?_
            exact After.dn (Below.refl _ _) (by exact rfl)
          · intro e1 w1 hb hp hun
            refine Ops.skipg rfl rfl rfl rfl rfl ?_
            refine Ops.nil ?_
            exact After.dn (Below.refl _ _) (by exact rfl)
          · intro e1 w1 hb hp hun
            refine Ops.skipg rfl rfl rfl rfl rfl ?_
            refine Ops.nil ?_
            exact After.dn (Below.refl _ _) (by exact rfl)
          · intro e1 w1 hb hp hun
            refine Ops.pick_f rfl rfl rfl ?_
            refine Ops.nil ?_
            exact After.dn (Below.refl _ _) (by exact rfl)
          intro uu w7 hb7 _
          have hS7 := hS6.later hb7
          rw [List.drop_of_length_le (by rw [List.length_map]; omega)] at hat
          refine thenQ_n ?_
          -- stop: cond
          refine Cd.cond_f rfl ?_
          refine Cd.exit ?_
          refine thenQ_x ?_
          refine thenQ_x ?_
          refine blockQ_x ?_
          refine thenQ_n ?_
          -- stop: round
          exact ⟨a, ⟨rfl, rfl, rfl, rfl, rfl, rfl, trivial⟩, hS7, ha, hat⟩
      · rintro a e w6 ⟨hS6, ha, hat⟩
        have hSk := hS5.later hS6.below
        have hA6 := (hRR4.later hst5.below).later hS6.below
        refine Cd.seq ?_
        -- stop: draw
        refine Cd.draw [.ex (.slice (A6) (all.length) (c6)), .ex (.int .i64 ((i : Int))), .ex (.pointer (ptrAt (A6) ((i : Int)).toNat)), .ex (.agg #[.slice X.top.a n X.top.c]), .pr (fun v w' => ∃ A9, v = .slice A9 1 1 ∧ St w1 w' [CkR 24 A9 1 1 [X.top], CkR 24 B7 outs.length c7 (outs.map (·.top)), CkI 2 B8 outs.length c8 (outs.map (orbI F))]), .ex (.slice (B7) (outs.length) (c7)), .ex (.int .i64 ((a : Int))), .ex (.slice (cutAt B7 c7 a) (outs.length - a) (c7 - a)), .pr (fun v w' => ∃ A9 c9, v = .slice A9 (1 + (outs.length - a)) c9 ∧ St w1 w' [CkR 24 A9 (1 + (outs.length - a)) c9 ([X.top] ++ (outs.map (·.top)).drop a), CkR 24 B7 outs.length c7 (outs.map (·.top)), CkI 2 B8 outs.length c8 (outs.map (orbI F))]), .pr (fun v w' => ∃ A9 c9, v = .slice A9 (1 + (outs.length - a)) c9 ∧ St w1 w' [CkR 24 A9 (1 + (outs.length - a)) c9 ([X.top] ++ (outs.map (·.top)).drop a), CkR 24 B7 outs.length c7 (outs.map (·.top)), CkI 2 B8 outs.length c8 (outs.map (orbI F))])] (by kernel_rfl) (by kernel_rfl) rfl (List.forall_mem_cons.2 ⟨Yd.lasts_ex _, (List.forall_mem_cons.2 ⟨Yd.lasts_ex _, (List.forall_mem_cons.2 ⟨Yd.lasts_ex _, (List.forall_mem_cons.2 ⟨Yd.lasts_ex _, (List.forall_mem_cons.2 ⟨Yd.lasts_pr (fun v w w' h hb => by obtain ⟨A9, hv, hT⟩ := h; exact ⟨A9, hv, hT.later hb⟩), (List.forall_mem_cons.2 ⟨Yd.lasts_ex _, (List.forall_mem_cons.2 ⟨Yd.lasts_ex _, (List.forall_mem_cons.2 ⟨Yd.lasts_ex _, (List.forall_mem_cons.2 ⟨Yd.lasts_pr (fun v w w' h hb => by obtain ⟨A9, c9, hv, hT⟩ := h; exact ⟨A9, c9, hv, hT.later hb⟩), (List.forall_mem_cons.2 ⟨Yd.lasts_pr (fun v w w' h hb => by obtain ⟨A9, c9, hv, hT⟩ := h; exact ⟨A9, c9, hv, hT.later hb⟩), (fun _ h => by cases h)⟩)⟩)⟩)⟩)⟩)⟩)⟩)⟩)⟩)⟩) ⟨?_, ?_, ?_, ?_, ?_, ?_, ?_, ?_, ?_, ?_, trivial⟩ ?_
        · intro e1 w1 hb hp hun
          refine Ops.mv_sl rfl rfl rfl ?_
          refine Ops.nil ?_
          exact After.dn (Below.refl _ _) (by exact rfl)
        · intro e1 w1 hb hp hun
          refine Ops.mv_int rfl rfl rfl ?_
          refine Ops.nil ?_
          exact After.dn (Below.refl _ _) (by exact rfl)
        · intro e1 w1 hb hp hun
          refine Ops.idx (hA6.later hb).2 rfl rfl rfl (by omega) (by omega) ?_
          refine Ops.nil ?_
          exact After.dn (Below.refl _ _) (by exact rfl)
        · intro e1 w1 hb hp hun
          refine Ops.ld_ag (hA6.later hb) rfl (by omega) rfl ?_
          rw [hti, htn _ hm]
          refine Ops.nil ?_
          exact After.dn (Below.refl _ _) (by exact rfl)
        · intro e1 w1 hb hp hun
          refine Ops.bs1A (St.refl _) rfl rfl rfl ?_
          intro A9 w9 hst
          refine Ops.nil ?_
          exact After.dn hst.below ⟨A9, rfl, by rw [hXt] at hst; exact (hSk.later hb).call hst⟩
        · intro e1 w1 hb hp hun
          refine Ops.mv_sl rfl rfl rfl ?_
          refine Ops.nil ?_
          exact After.dn (Below.refl _ _) (by exact rfl)
        · intro e1 w1 hb hp hun
          refine Ops.mv_int rfl rfl rfl ?_
          refine Ops.nil ?_
          exact After.dn (Below.refl _ _) (by exact rfl)
        · intro e1 w1 hb hp hun
          refine Ops.cut_l rfl rfl rfl (by omega) ?_
          refine Ops.nil ?_
          exact After.dn (Below.refl _ _) (by exact rfl)
        · intro e1 w1 hb hp hun
          obtain ⟨A9, h53, hT⟩ := (hp 4 (by decide) rfl _ _ rfl rfl)
          refine Ops.appFR 0 rfl hT rfl ((hT.rdR 1 rfl).drop (l := a) ha (hT.cap 1 rfl).1) (by exact h53) rfl rfl (by omega) (by omega) rfl ?_
          intro A10 c10 w9 hbl hst
          refine Ops.nil ?_
          exact After.dn hbl ⟨A10, c10, rfl, hst⟩
        · intro e1 w1 hb hp hun
          obtain ⟨A9, c9, h57, hT⟩ := (hp 8 (by decide) rfl _ _ rfl rfl)
          refine Ops.mv_sl rfl (by exact h57) rfl ?_
          refine Ops.nil ?_
          exact After.dn (Below.refl _ _) ⟨A9, c9, rfl, hT⟩
        intro uu w7 _ hu
        obtain ⟨A9, c9, h12, hS7⟩ := hu 9 _ rfl
        rw [pin uu h12]
        refine thenQ_n ?_
        refine Cd.seq ?_
        refine Cd.region ?_
        -- stop: BUILDSLICE 51 0 [] -> 58
        refine Ops.bs0 hS7 rfl ?_
        intro A10 w8 hS8
        have hS8 : St w1 w8 [CkR 24 A10 0 0 [], CkR 24 A9 (1 + (outs.length - a)) c9 ([X.top] ++ (outs.map (·.top)).drop a), CkR 24 B7 outs.length c7 (outs.map (·.top)), CkI 2 B8 outs.length c8 (outs.map (orbI F))] := hS8
        have hcp7 : outs.length ≤ c7 ∧ c7 ≤ maxLen := hS8.cap 2 rfl
        refine Ops.mv_sl rfl rfl rfl ?_
        refine Ops.mv_int rfl rfl rfl ?_
        -- stop: SLICE 51 t59 none some t60 none -> 61
        refine Ops.cut_h rfl rfl rfl (by omega) ?_
        refine Ops.appR 0 hS8 rfl ((hS8.rdR 2 rfl).take (l := a) ha) rfl rfl rfl (by omega) (by omega) rfl ?_
        intro A11 c11 w9 hS9
        refine Ops.mv_sl rfl rfl rfl ?_
        -- stop: BUILTIN append(t62, t63) -> 64
        refine Ops.appR 0 hS9 rfl (hS9.rdR 1 rfl) rfl rfl rfl (by omega) (by omega) rfl ?_
        intro A12 c12 w10 hS10
        have hS10 : St w1 w10 [CkR 24 A12 (0 + a + (1 + (outs.length - a))) c12 (([] ++ (outs.map (·.top)).take a) ++ ([X.top] ++ (outs.map (·.top)).drop a)), CkR 24 A9 (1 + (outs.length - a)) c9 ([X.top] ++ (outs.map (·.top)).drop a), CkR 24 B7 outs.length c7 (outs.map (·.top)), CkI 2 B8 outs.length c8 (outs.map (orbI F))] := hS10
        have hS11 : St w1 w10 [CkR 24 A12 (0 + a + (1 + (outs.length - a))) c12 (([] ++ (outs.map (·.top)).take a) ++ ([X.top] ++ (outs.map (·.top)).drop a)), CkI 2 B8 outs.length c8 (outs.map (orbI F))] := hS10.sub (List.Sublist.cons_cons _ ((List.sublist_cons_self _ _).trans (List.sublist_cons_self _ _)))
        have e1 : 0 + a + (1 + (outs.length - a)) = (insV X outs).length := by omega
        have e2 : ([] ++ (outs.map (·.top)).take a) ++ ([X.top] ++ (outs.map (·.top)).drop a) = (insV X outs).map (·.top) := by rw [hat]; simp [insV, List.map_take, List.map_drop]
        have e3 : ([] ++ (outs.map (orbI F)).take a) ++ ([(orbN F X.xss : Int)] ++ (outs.map (orbI F)).drop a) = (insV X outs).map (orbI F) := by rw [hat]; simp [insV, List.map_take, List.map_drop, orbI]
        rw [e1, e2] at hS11
        refine Ops.mv_sl rfl rfl rfl ?_
        refine Ops.nil ?_
        refine thenQ_n ?_
        refine Cd.seq ?_
        refine Cd.region ?_
        refine Ops.mv_int rfl rfl rfl ?_
        -- stop: BUILDSLICE 33 1 [('pair', [0, ('app', 'Go.Operand.tmp', [65])])] -> 66
        refine Ops.bs1I hS11 rfl rfl rfl ?_
        intro A13 w11 hS12
        have hS12 : St w1 w11 [CkI 2 A13 1 1 [(orbN F X.xss : Int)], CkR 24 A12 (insV X outs).length c12 ((insV X outs).map (·.top)), CkI 2 B8 outs.length c8 (outs.map (orbI F))] := hS12
        have hcp8 : outs.length ≤ c8 ∧ c8 ≤ maxLen := hS12.cap 2 rfl
        refine Ops.mv_sl rfl rfl rfl ?_
        refine Ops.mv_int rfl rfl rfl ?_
        -- stop: SLICE 33 t67 some t68 none none -> 69
        refine Ops.cut_l rfl rfl rfl (by omega) ?_
        refine Ops.appI 0 hS12 rfl ((hS12.rdI 2 rfl).drop (l := a) ha hcp8.1) rfl rfl rfl (by omega) (by omega) rfl ?_
        intro A14 c14 w12 hS13
        refine Ops.mv_sl rfl rfl rfl ?_
        refine Ops.nil ?_
        refine thenQ_n ?_
        refine Cd.region ?_
        -- stop: BUILDSLICE 33 0 [] -> 71
        refine Ops.bs0 hS13 rfl ?_
        intro A15 w13 hS14
        have hS14 : St w1 w13 [CkI 2 A15 0 0 [], CkI 2 A14 (1 + (outs.length - a)) c14 ([(orbN F X.xss : Int)] ++ (outs.map (orbI F)).drop a), CkR 24 A12 (insV X outs).length c12 ((insV X outs).map (·.top)), CkI 2 B8 outs.length c8 (outs.map (orbI F))] := hS14
        refine Ops.mv_sl rfl rfl rfl ?_
        refine Ops.mv_int rfl rfl rfl ?_
        -- stop: SLICE 33 t72 none some t73 none -> 74
        refine Ops.cut_h rfl rfl rfl (by omega) ?_
        refine Ops.appI 0 hS14 rfl ((hS14.rdI 3 rfl).take (l := a) ha) rfl rfl rfl (by omega) (by omega) rfl ?_
        intro A16 c16 w14 hS15
        refine Ops.mv_sl rfl rfl rfl ?_
        -- stop: BUILTIN append(t75, t76) -> 77
        refine Ops.appI 0 hS15 rfl (hS15.rdI 1 rfl) rfl rfl rfl (by omega) (by omega) rfl ?_
        intro A17 c17 w15 hS16
        have hS16 : St w1 w15 [CkI 2 A17 (0 + a + (1 + (outs.length - a))) c17 (([] ++ (outs.map (orbI F)).take a) ++ ([(orbN F X.xss : Int)] ++ (outs.map (orbI F)).drop a)), CkI 2 A14 (1 + (outs.length - a)) c14 ([(orbN F X.xss : Int)] ++ (outs.map (orbI F)).drop a), CkR 24 A12 (insV X outs).length c12 ((insV X outs).map (·.top)), CkI 2 B8 outs.length c8 (outs.map (orbI F))] := hS16
        have hS17 : St w1 w15 [CkI 2 A17 (0 + a + (1 + (outs.length - a))) c17 (([] ++ (outs.map (orbI F)).take a) ++ ([(orbN F X.xss : Int)] ++ (outs.map (orbI F)).drop a)), CkR 24 A12 (insV X outs).length c12 ((insV X outs).map (·.top))] := hS16.sub (List.Sublist.cons_cons _ ((List.Sublist.cons_cons _ (List.nil_sublist _)).cons _))
        rw [e1, e3] at hS17
        rw [e1]
        refine Ops.mv_sl rfl rfl rfl ?_
        refine Ops.nil ?_
        refine blockQ_n ?_
        refine thenQ_n ?_
        refine Cd.region ?_
        refine Ops.mv_int rfl rfl rfl ?_
        refine Ops.add rfl rfl rfl (by omega) ?_
        refine Ops.mv_int rfl rfl rfl ?_
        refine Ops.nil ?_
        refine thenQ_n ?_
        -- stop: round
        exact ⟨(i + 1, (A12, c12), (A17, c17), insV X outs), by show all.length - (i + 1) < all.length - i; omega, ⟨rfl, rfl, rfl, rfl, trivial⟩, hlast hS17.swap⟩
  · have hin : i = all.length := by omega
    subst hin
    rw [List.take_length] at hperm hord
    have hfin : outs.map (·.xss) = listL n F := by
      rw [hord, listL, ownL, formsL, ← hall, selV, List.filter_map]
      rfl
    refine Cd.exit ?_
    refine thenQ_x ?_
    refine thenQ_x ?_
    refine blockQ_x ?_
    refine thenQ_n ?_
    refine Cd.seq ?_
    refine Cd.region ?_
    refine Ops.mv_sl rfl rfl rfl ?_
    refine Ops.mv_sl rfl rfl rfl ?_
    refine Ops.mv_sl rfl rfl rfl ?_
    refine Ops.mv_sl rfl rfl rfl ?_
    refine Ops.nil ?_
    refine thenQ_n ?_
    refine Cd.ret ?_
    refine ret2_ss rfl rfl ?_
    -- stop: end
    refine ⟨B7, c7, B8, c8, outs, rfl, hfin, fun m hm => hok m (hsubm m hm), ?_⟩
    have hj := hst.call hS4
    refine (hj.sub (?_ : List.Sublist ([CkR 24 B7 outs.length c7 (outs.map (·.top)), CkI 2 B8 outs.length c8 (outs.map (orbI F))] ++ matsCk 33 2 (selV F all)) _)).perm ?_
    · exact List.Sublist.append (List.Sublist.refl _) ((matsCk_sub List.filter_sublist).trans (List.sublist_cons_self _ _))
    · exact List.Perm.append_left _ (matsCk_perm hperm.symm)
end Go.Proofs.Ytgobjpcankaicaa.Vc
