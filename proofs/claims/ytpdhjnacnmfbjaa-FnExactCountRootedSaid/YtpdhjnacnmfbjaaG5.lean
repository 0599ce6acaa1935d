/-
  The walks of the program's copies and of its test of a move. Conditions: as each states them.
-/
import Derived.Test.YtpdhjnacnmfbjaaG4
namespace Go.Proofs.Ytpdhjnacnmfbjaa.Vc
open Go.RowKit

theorem Clone_c (A : Option Addr) (n c : Nat) (xs : List Int) (w : World) (hR : RdI w A n xs) (hn : n ≤ 1000000000) : Ret Try.prog 129 [.slice A n c] w (fun v w' => ∃ A' c', v = .slice A' n c' ∧ St w w' [CkI 2 A' n c' xs]) := by
  cases hA : A with
  | none =>
    subst hA
    have hn0 : n = 0 := by
      apply Classical.byContradiction
      intro h
      obtain ⟨p, hp, _⟩ := hR.2 0 (by omega)
      simp [ptrAt] at hp
    subst hn0
    have hx : xs = [] := List.eq_nil_of_length_eq_zero hR.1
    subst hx
    refine Ret.of_cd Try.func129 rfl Try.ntmps129 rfl (post1 rfl) ?_
    refine Cd.seq ?_
    refine Cd.region ?_
    refine Ops.mv_sl rfl rfl rfl ?_
    refine Ops.nil ?_
    refine thenQ_n ?_
    refine Cd.seq ?_
    refine Cd.seq ?_
    refine Cd.region ?_
    refine Ops.mv_sl rfl rfl rfl ?_
    -- stop: BINOP eql 39 t3 0 39 -> 4
    refine Ops.eqNil rfl rfl rfl ?_
    refine Ops.nil ?_
    refine thenQ_n ?_
    -- stop: cond
    refine Cd.cond_t rfl ?_
    refine Cd.seq ?_
    refine Cd.region ?_
    refine Ops.mv_sl rfl rfl rfl ?_
    refine Ops.nil ?_
    refine thenQ_n ?_
    refine Cd.ret ?_
    refine thenQ_r ?_
    refine ret1_s rfl ?_
    -- stop: end
    exact ⟨none, 0, rfl, (St.refl w).nil _⟩
  | some a =>
    subst hA
    refine Ret.of_cd Try.func129 rfl Try.ntmps129 rfl (post1 rfl) ?_
    refine Cd.seq ?_
    refine Cd.region ?_
    refine Ops.mv_sl rfl rfl rfl ?_
    refine Ops.nil ?_
    refine thenQ_n ?_
    refine Cd.seq ?_
    refine Cd.seq ?_
    refine Cd.region ?_
    refine Ops.mv_sl rfl rfl rfl ?_
    -- stop: BINOP eql 39 t3 0 39 -> 4
    refine Ops.eqNil rfl rfl rfl ?_
    refine Ops.nil ?_
    refine thenQ_n ?_
    -- stop: cond
    refine Cd.cond_f rfl ?_
    refine Cd.skip ?_
    refine thenQ_n ?_
    refine Cd.seq ?_
    refine Cd.region ?_
    -- stop: BUILDSLICE 39 0 [] -> 5
    refine Ops.bs0 (St.refl w) rfl ?_
    intro A1 w1 hS1
    have hS1 : St w w1 [CkI 2 A1 0 0 []] := hS1
    refine Ops.mv_sl rfl rfl rfl ?_
    -- stop: BUILTIN append(t5, t6) -> 7
    refine Ops.appI 0 hS1 rfl (hS1.oldI hR) rfl rfl rfl (by omega) (by omega) rfl ?_
    intro A2 c2 w2 hS2
    rw [Nat.zero_add] at hS2 ⊢
    refine Ops.mv_sl rfl rfl rfl ?_
    refine Ops.nil ?_
    refine thenQ_n ?_
    refine Cd.ret ?_
    refine ret1_s rfl ?_
    -- stop: end
    exact ⟨A2, c2, rfl, hS2⟩

theorem isSmall_c (rank flags : Int) (w : World) : Ret Try.prog 55 [.int .i64 rank, .int .i64 flags] w (fun v w' => v = .bool (decide (Small rank flags)) ∧ w' = w) := by
  refine Ret.of_cd Try.func55 rfl Try.ntmps55 rfl (post1 rfl) ?_
  refine Cd.seq ?_
  refine Cd.region ?_
  refine Ops.mv_bool rfl rfl rfl ?_
  refine Ops.nil ?_
  refine thenQ_n ?_
  refine Cd.seq ?_
  refine Cd.region ?_
  refine Ops.mv_int rfl rfl rfl ?_
  -- stop: CALL impl.within(t5, 1, 4) -> 6
  refine Ops.call (within_c _ _ _ _) rfl rfl rfl ?_
  rintro _ w ⟨rfl, rfl⟩
  refine Ops.mv_bool rfl rfl rfl ?_
  -- stop: guard 7
  refine Ops.split_p 7 rfl (fun h => ?_) (fun h => ?_)
  · refine Ops.rung rfl rfl rfl ?_
    refine Ops.mv_int rfl rfl rfl ?_
    refine Ops.rung rfl rfl rfl ?_
    -- stop: CALL impl.within(t8, 2, 12) -> 9
    refine Ops.call (within_c _ _ _ _) rfl rfl rfl ?_
    rintro _ w ⟨rfl, rfl⟩
    refine Ops.pick_t rfl rfl rfl ?_
    refine Ops.mv_bool rfl rfl rfl ?_
    refine Ops.nil ?_
    refine thenQ_n ?_
    refine Cd.ret ?_
    refine ret1_b rfl ?_
    -- stop: end
    exact ⟨by simp [Small, h], rfl⟩
  · refine Ops.skipg rfl rfl rfl rfl rfl ?_
    refine Ops.skipg rfl rfl rfl rfl rfl ?_
    refine Ops.pick_f rfl rfl rfl ?_
    refine Ops.mv_bool rfl rfl rfl ?_
    refine Ops.nil ?_
    refine thenQ_n ?_
    refine Cd.ret ?_
    refine ret1_b rfl ?_
    -- stop: end
    exact ⟨by simp [Small, h], rfl⟩

theorem sizeM_c (A : Option Addr) (n c : Nat) (w : World) : Ret Try.prog 56 [.slice A n c] w (fun v w' => v = .int .i64 (n : Int) ∧ w' = w) := by
  refine Ret.of_cd Try.func56 rfl Try.ntmps56 rfl (post1 rfl) ?_
  refine Cd.seq ?_
  refine Cd.region ?_
  refine Ops.mv_int rfl rfl rfl ?_
  refine Ops.nil ?_
  refine thenQ_n ?_
  refine Cd.seq ?_
  refine Cd.region ?_
  refine Ops.mv_sl rfl rfl rfl ?_
  refine Ops.len rfl rfl ?_
  refine Ops.mv_int rfl rfl rfl ?_
  refine Ops.nil ?_
  refine thenQ_n ?_
  refine Cd.ret ?_
  refine ret1_i rfl ?_
  -- stop: end
  exact ⟨rfl, rfl⟩
end Go.Proofs.Ytpdhjnacnmfbjaa.Vc
