/-
  The texts Co13, Co14, Co15, Co16, E9, Gi2, Co17, Cx1, Cpc, Rk1, Co19, Co21, Co33 in one. Conditions: as each part states them.
-/
import Derived.Test.YtdedegbendjmbaaGreatDoorZg
import Derived.Test.YtdedegbendjmbaaGreatDoorZe
import Derived.Test.YtdedegbendjmbaaGreatDoorZf
import Derived.Test.YtdedegbendjmbaaGreatDoorZc
import Derived.Lib.AppendZeros
import Derived.Test.YtdedegbendjmbaaGreatDoorZb
/-
  The test of a complex on both sides, walked. Conditions: as each states them.
-/
namespace Go.Proofs.YtdedegbendjmbaaGreatDoor.Vc
open Go.RowKit

def mk0 (m : Nat) : List Bool := List.replicate m false
theorem pnt0_len (m : Nat) (vs : List Int) : (pnt (mk0 m) vs).length = m := by rw [pnt_len]; simp [mk0]
abbrev cxB (Ab : Option Addr) (V : Int) (A : Option Addr) (n c : Nat) : Ck := Bx 27 2 Ab [.int .i64 V, .slice A n c]

set_option maxHeartbeats 1000000 in
theorem l17Is_c (V : Int) (A : Option Addr) (n c : Nat) (rs : List SlV) (F : List (List Int)) (w : World) (hR : RowsI w A n rs F) (hn : n ≤ 9223372036854775807) :
    Ret Tryz.prog 63 [.agg #[.int .i64 V, .slice A n c]] w (fun v w' => v = .bool (decide (Cplx V F)) ∧ St w w' []) := by
  have hFl := hR.len
  refine Ret.of_cd Tryz.func63 rfl Tryz.ntmps63 rfl (post1 rfl) ?_
  refine Cd.seq ?_
  refine Cd.region ?_
  refine Ops.box2 (St.refl w) rfl rfl ?_
  intro Ab w1 hS
  refine Ops.mv_bool rfl rfl rfl ?_
  refine Ops.nil ?_
  refine thenQ_n ?_
  refine Cd.seq ?_
  refine Cd.seq ?_
  refine Cd.region ?_
  refine Ops.fld (hS.rd 0 rfl) rfl rfl rfl rfl inferInstance ?_
  refine Ops.ldf_i (hS.rd 0 rfl) rfl rfl rfl rfl rfl ?_
  refine Ops.call (l01In_c _ _ _ _) rfl rfl rfl ?_
  rintro _ _ ⟨rfl, rfl⟩
  first | refine Ops.not_p rfl rfl ?_ | refine Ops.not rfl rfl ?_
  refine Ops.mv_bool rfl rfl rfl ?_
  refine Ops.split_p 13 rfl (fun h1 => ?_) (fun h1 => ?_)
  · refine Ops.skipg rfl rfl rfl rfl rfl ?_
    refine Ops.skipg rfl rfl rfl rfl rfl ?_
    refine Ops.skipg rfl rfl rfl rfl rfl ?_
    refine Ops.skipg rfl rfl rfl rfl rfl ?_
    refine Ops.pick_t rfl rfl rfl ?_
    refine Ops.nil ?_
    refine thenQ_n ?_
    refine Cd.cond_t rfl ?_
    refine Cd.seq ?_
    refine Cd.region ?_
    refine Ops.mv_bool rfl rfl rfl ?_
    refine Ops.nil ?_
    refine thenQ_n ?_
    refine Cd.ret ?_
    refine thenQ_r ?_
    refine ret1_b rfl ?_
    exact ⟨by rw [decide_eq_false (fun h : Cplx V F => h1 h.v)], hS.none⟩
  have h1 := Classical.not_not.1 h1
  refine Ops.rung rfl rfl rfl ?_
  refine Ops.fld (hS.rd 0 rfl) rfl rfl rfl rfl inferInstance ?_
  refine Ops.rung rfl rfl rfl ?_
  refine Ops.ldf_s (hS.rd 0 rfl) rfl rfl rfl rfl rfl ?_
  refine Ops.rung rfl rfl rfl ?_
  refine Ops.len rfl rfl ?_
  refine Ops.rung rfl rfl rfl ?_
  refine Ops.gtr rfl rfl rfl ?_
  refine Ops.pick_f rfl rfl rfl ?_
  refine Ops.nil ?_
  refine thenQ_n ?_
  refine Cd.cond_p _ rfl (fun h2 => ?_) (fun h2 => ?_)
  · refine Cd.seq ?_
    refine Cd.region ?_
    refine Ops.mv_bool rfl rfl rfl ?_
    refine Ops.nil ?_
    refine thenQ_n ?_
    refine Cd.ret ?_
    refine thenQ_r ?_
    refine ret1_b rfl ?_
    exact ⟨by rw [decide_eq_false (fun h : Cplx V F => by have := h.f; omega)], hS.none⟩
  obtain ⟨m, rfl⟩ := Int.eq_ofNat_of_zero_le h1.1
  have hm : m ≤ 60 := by omega
  clear h1
  refine Cd.skip ?_
  refine thenQ_n ?_
  refine Cd.seq ?_
  refine Cd.region ?_
  refine Ops.fld (hS.rd 0 rfl) rfl rfl rfl rfl inferInstance ?_
  refine Ops.ldf_i (hS.rd 0 rfl) rfl rfl rfl rfl rfl ?_
  refine Ops.mkB m hS rfl rfl (by omega) ?_
  intro A3 w2 hS2
  have hS2 : St w w2 [CkB 4 A3 m m (pnt (mk0 m) (F.take 0).flatten), cxB Ab m A n c] := hS2
  refine Ops.mv_sl rfl rfl rfl ?_
  refine Ops.nil ?_
  refine thenQ_n ?_
  refine Cd.seq ?_
  refine Cd.seq ?_
  refine Cd.region ?_
  refine Ops.mv_int rfl rfl rfl ?_
  refine Ops.nil ?_
  refine thenQ_n ?_
  refine Cd.block ?_
  refine Cd.loop (α := Nat) (fun i => [(1, .pointer Ab), (3, .slice A3 m m), (4, .int .i64 (i : Int))]) (fun i w' => i ≤ n ∧ PreC m F i ∧ St w w' [CkB 4 A3 m m (pnt (mk0 m) (F.take i).flatten), cxB Ab m A n c]) (fun i => n - i) 0 ⟨rfl, rfl, rfl, trivial⟩ ⟨Nat.zero_le _, PreC.zero _ _, hS2⟩ ?_
  rintro i e w3 ⟨hi, hP, hS3⟩
  have hB3 := hS3.rd 1 rfl
  refine Cd.seq ?_
  refine Cd.seq ?_
  refine Cd.region ?_
  refine Ops.mv_int rfl rfl rfl ?_
  refine Ops.fld hB3 rfl rfl rfl rfl inferInstance ?_
  refine Ops.ldf_s hB3 rfl rfl rfl rfl rfl ?_
  refine Ops.len rfl rfl ?_
  refine Ops.lss rfl rfl rfl ?_
  refine Ops.nil ?_
  refine thenQ_n ?_
  refine Cd.cond_p _ rfl (fun h3 => ?_) (fun h3 => ?_)
  · have hiF : i < F.length := by omega
    have hM := hS3.oldRows hR
    have hrow := hM.at_ (i := (i : Int)) (by omega) (by omega)
    have hrl := hrow.1
    have hMi : 0 < (i : Int) → RdI w3 (rg rs ((i : Int) - 1)).a (rg rs ((i : Int) - 1)).n (gl F ((i : Int) - 1)) := fun h => hM.at_ (by omega) (by omega)
    refine Cd.skip ?_
    refine thenQ_n ?_
    refine Cd.seq ?_
    refine Cd.block ?_
    refine Cd.seq ?_
    refine Cd.seq ?_
    by_cases h4 : ((rg rs (i : Int)).n : Int) < 1
    · --dup 6
      refine Cd.draw [.ex (.pointer (ptrAt (Ab) 1)), .ex (.slice (A) (n) (c)), .ex (.int .i64 ((i : Int))), .ex (.pointer (ptrAt (A) ((i : Int)).toNat)), .ex (.slice ((rg (rs) ((i : Int))).a) ((rg (rs) ((i : Int))).n) ((rg (rs) ((i : Int))).c)), .ex (.int .i64 ((((rg (rs) ((i : Int))).n : Nat) : Int))), .ex (.bool (decide (((((rg (rs) ((i : Int))).n : Nat) : Int)) < ((1 : Int))))), .ex (.bool (true)), .ex (undef), .ex (undef), .ex (undef), .ex (undef), .ex (undef), .ex (undef), .ex (undef), .ex (.bool (true)), .ex (.bool (true)), .ex (undef), .ex (undef), .ex (undef), .ex (undef), .ex (undef), .ex (undef), .ex (undef), .ex (undef), .ex (undef), .ex (undef), .ex (.bool (true)), .ex (.bool (true)), .ex (undef), .ex (undef), .ex (undef), .ex (undef), .ex (undef), .ex (undef), .ex (undef), .ex (undef), .ex (undef), .ex (undef), .ex (undef), .ex (undef), .ex (undef), .ex (undef), .ex (undef), .ex (undef), .ex (undef), .ex (.bool (true))] (by kernel_rfl) (by kernel_rfl) rfl (List.forall_mem_cons.2 ⟨Yd.lasts_ex _, (List.forall_mem_cons.2 ⟨Yd.lasts_ex _, (List.forall_mem_cons.2 ⟨Yd.lasts_ex _, (List.forall_mem_cons.2 ⟨Yd.lasts_ex _, (List.forall_mem_cons.2 ⟨Yd.lasts_ex _, (List.forall_mem_cons.2 ⟨Yd.lasts_ex _, (List.forall_mem_cons.2 ⟨Yd.lasts_ex _, (List.forall_mem_cons.2 ⟨Yd.lasts_ex _, (List.forall_mem_cons.2 ⟨Yd.lasts_ex _, (List.forall_mem_cons.2 ⟨Yd.lasts_ex _, (List.forall_mem_cons.2 ⟨Yd.lasts_ex _, (List.forall_mem_cons.2 ⟨Yd.lasts_ex _, (List.forall_mem_cons.2 ⟨Yd.lasts_ex _, (List.forall_mem_cons.2 ⟨Yd.lasts_ex _, (List.forall_mem_cons.2 ⟨Yd.lasts_ex _, (List.forall_mem_cons.2 ⟨Yd.lasts_ex _, (List.forall_mem_cons.2 ⟨Yd.lasts_ex _, (List.forall_mem_cons.2 ⟨Yd.lasts_ex _, (List.forall_mem_cons.2 ⟨Yd.lasts_ex _, (List.forall_mem_cons.2 ⟨Yd.lasts_ex _, (List.forall_mem_cons.2 ⟨Yd.lasts_ex _, (List.forall_mem_cons.2 ⟨Yd.lasts_ex _, (List.forall_mem_cons.2 ⟨Yd.lasts_ex _, (List.forall_mem_cons.2 ⟨Yd.lasts_ex _, (List.forall_mem_cons.2 ⟨Yd.lasts_ex _, (List.forall_mem_cons.2 ⟨Yd.lasts_ex _, (List.forall_mem_cons.2 ⟨Yd.lasts_ex _, (List.forall_mem_cons.2 ⟨Yd.lasts_ex _, (List.forall_mem_cons.2 ⟨Yd.lasts_ex _, (List.forall_mem_cons.2 ⟨Yd.lasts_ex _, (List.forall_mem_cons.2 ⟨Yd.lasts_ex _, (List.forall_mem_cons.2 ⟨Yd.lasts_ex _, (List.forall_mem_cons.2 ⟨Yd.lasts_ex _, (List.forall_mem_cons.2 ⟨Yd.lasts_ex _, (List.forall_mem_cons.2 ⟨Yd.lasts_ex _, (List.forall_mem_cons.2 ⟨Yd.lasts_ex _, (List.forall_mem_cons.2 ⟨Yd.lasts_ex _, (List.forall_mem_cons.2 ⟨Yd.lasts_ex _, (List.forall_mem_cons.2 ⟨Yd.lasts_ex _, (List.forall_mem_cons.2 ⟨Yd.lasts_ex _, (List.forall_mem_cons.2 ⟨Yd.lasts_ex _, (List.forall_mem_cons.2 ⟨Yd.lasts_ex _, (List.forall_mem_cons.2 ⟨Yd.lasts_ex _, (List.forall_mem_cons.2 ⟨Yd.lasts_ex _, (List.forall_mem_cons.2 ⟨Yd.lasts_ex _, (List.forall_mem_cons.2 ⟨Yd.lasts_ex _, (List.forall_mem_cons.2 ⟨Yd.lasts_ex _, (fun _ h => by cases h)⟩)⟩)⟩)⟩)⟩)⟩)⟩)⟩)⟩)⟩)⟩)⟩)⟩)⟩)⟩)⟩)⟩)⟩)⟩)⟩)⟩)⟩)⟩)⟩)⟩)⟩)⟩)⟩)⟩)⟩)⟩)⟩)⟩)⟩)⟩)⟩)⟩)⟩)⟩)⟩)⟩)⟩)⟩)⟩)⟩)⟩)⟩) ⟨?_, ?_, ?_, ?_, ?_, ?_, ?_, ?_, ?_, ?_, ?_, ?_, ?_, ?_, ?_, ?_, ?_, ?_, ?_, ?_, ?_, ?_, ?_, ?_, ?_, ?_, ?_, ?_, ?_, ?_, ?_, ?_, ?_, ?_, ?_, ?_, ?_, ?_, ?_, ?_, ?_, ?_, ?_, ?_, ?_, ?_, ?_, trivial⟩ ?_
      · intro e1 w1 hb hp hun
        refine Ops.fld (hB3.below hb) rfl rfl rfl rfl inferInstance ?_
        refine Ops.nil ?_
        exact After.dn (Below.refl _ _) (by exact rfl)
      · intro e1 w1 hb hp hun
        refine Ops.ldf_s (hB3.below hb) rfl rfl rfl rfl rfl ?_
        refine Ops.nil ?_
        exact After.dn (Below.refl _ _) (by exact rfl)
      · intro e1 w1 hb hp hun
        refine Ops.mv_int rfl rfl rfl ?_
        refine Ops.nil ?_
        exact After.dn (Below.refl _ _) (by exact rfl)
      · intro e1 w1 hb hp hun
        refine Ops.idx (hM.top.later hb).2 rfl rfl rfl (by omega) (by omega) ?_
        refine Ops.nil ?_
        exact After.dn (Below.refl _ _) (by exact rfl)
      · intro e1 w1 hb hp hun
        refine Ops.ld_sl (hM.top.later hb) rfl (by omega) rfl rfl ?_
        refine Ops.nil ?_
        exact After.dn (Below.refl _ _) (by exact rfl)
      · intro e1 w1 hb hp hun
        refine Ops.len rfl rfl ?_
        refine Ops.nil ?_
        exact After.dn (Below.refl _ _) (by exact rfl)
      · intro e1 w1 hb hp hun
        refine Ops.lss rfl rfl rfl ?_
        refine Ops.nil ?_
        exact After.dn (Below.refl _ _) (by exact rfl)
      · intro e1 w1 hb hp hun
        refine Ops.mv_bool rfl rfl rfl ?_
        refine Ops.nil ?_
        exact After.dn (Below.refl _ _) (by exact congrArg Value.bool (decide_eq_true h4))
      · intro e1 w1 hb hp hun
        refine Ops.skipg rfl rfl rfl rfl rfl ?_
        refine Ops.nil ?_
        exact After.dn (Below.refl _ _) (by exact rfl)
      · intro e1 w1 hb hp hun
        refine Ops.skipg rfl rfl rfl rfl rfl ?_
        refine Ops.nil ?_
        exact After.dn (Below.refl _ _) (by exact rfl)
      · intro e1 w1 hb hp hun
        refine Ops.skipg rfl rfl rfl rfl rfl ?_
        refine Ops.nil ?_
        exact After.dn (Below.refl _ _) (by exact rfl)
      · intro e1 w1 hb hp hun
        refine Ops.skipg rfl rfl rfl rfl rfl ?_
        refine Ops.nil ?_
        exact After.dn (Below.refl _ _) (by exact rfl)
      · intro e1 w1 hb hp hun
        refine Ops.skipg rfl rfl rfl rfl rfl ?_
        refine Ops.nil ?_
        exact After.dn (Below.refl _ _) (by exact rfl)
      · intro e1 w1 hb hp hun
        refine Ops.skipg rfl rfl rfl rfl rfl ?_
        refine Ops.nil ?_
        exact After.dn (Below.refl _ _) (by exact rfl)
      · intro e1 w1 hb hp hun
        refine Ops.skipg rfl rfl rfl rfl rfl ?_
        refine Ops.nil ?_
        exact After.dn (Below.refl _ _) (by exact rfl)
      · intro e1 w1 hb hp hun
        refine Ops.pick_t rfl rfl rfl ?_
        refine Ops.nil ?_
        exact After.dn (Below.refl _ _) (by exact rfl)
      · intro e1 w1 hb hp hun
        refine Ops.mv_bool rfl rfl rfl ?_
        refine Ops.nil ?_
        exact After.dn (Below.refl _ _) (by exact rfl)
      · intro e1 w1 hb hp hun
        refine Ops.skipg rfl rfl rfl rfl rfl ?_
        refine Ops.nil ?_
        exact After.dn (Below.refl _ _) (by exact rfl)
      · intro e1 w1 hb hp hun
        refine Ops.skipg rfl rfl rfl rfl rfl ?_
        refine Ops.nil ?_
        exact After.dn (Below.refl _ _) (by exact rfl)
      · intro e1 w1 hb hp hun
        refine Ops.skipg rfl rfl rfl rfl rfl ?_
        refine Ops.nil ?_
        exact After.dn (Below.refl _ _) (by exact rfl)
      · intro e1 w1 hb hp hun
        refine Ops.skipg rfl rfl rfl rfl rfl ?_
        refine Ops.nil ?_
        exact After.dn (Below.refl _ _) (by exact rfl)
      · intro e1 w1 hb hp hun
        refine Ops.skipg rfl rfl rfl rfl rfl ?_
        refine Ops.nil ?_
        exact After.dn (Below.refl _ _) (by exact rfl)
      · intro e1 w1 hb hp hun
        refine Ops.skipg rfl rfl rfl rfl rfl ?_
        refine Ops.nil ?_
        exact After.dn (Below.refl _ _) (by exact rfl)
      · intro e1 w1 hb hp hun
        refine Ops.skipg rfl rfl rfl rfl rfl ?_
        refine Ops.nil ?_
        exact After.dn (Below.refl _ _) (by exact rfl)
      · intro e1 w1 hb hp hun
        refine Ops.skipg rfl rfl rfl rfl rfl ?_
        refine Ops.nil ?_
        exact After.dn (Below.refl _ _) (by exact rfl)
      · intro e1 w1 hb hp hun
        refine Ops.skipg rfl rfl rfl rfl rfl ?_
        refine Ops.nil ?_
        exact After.dn (Below.refl _ _) (by exact rfl)
      · intro e1 w1 hb hp hun
        refine Ops.skipg rfl rfl rfl rfl rfl ?_
        refine Ops.nil ?_
        exact After.dn (Below.refl _ _) (by exact rfl)
      · intro e1 w1 hb hp hun
        refine Ops.pick_t rfl rfl rfl ?_
        refine Ops.nil ?_
        exact After.dn (Below.refl _ _) (by exact rfl)
      · intro e1 w1 hb hp hun
        refine Ops.mv_bool rfl rfl rfl ?_
        refine Ops.nil ?_
        exact After.dn (Below.refl _ _) (by exact rfl)
      · intro e1 w1 hb hp hun
        refine Ops.skipg rfl rfl rfl rfl rfl ?_
        refine Ops.nil ?_
        exact After.dn (Below.refl _ _) (by exact rfl)
      · intro e1 w1 hb hp hun
        refine Ops.skipg rfl rfl rfl rfl rfl ?_
        refine Ops.nil ?_
        exact After.dn (Below.refl _ _) (by exact rfl)
      · intro e1 w1 hb hp hun
        refine Ops.skipg rfl rfl rfl rfl rfl ?_
        refine Ops.nil ?_
        exact After.dn (Below.refl _ _) (by exact rfl)
      · intro e1 w1 hb hp hun
        refine Ops.skipu rfl rfl rfl rfl ?_
        refine Ops.nil ?_
        exact After.dn (Below.refl _ _) (by exact rfl)
      · intro e1 w1 hb hp hun
        refine Ops.skipu rfl rfl rfl rfl ?_
        refine Ops.nil ?_
        exact After.dn (Below.refl _ _) (by exact rfl)
      · intro e1 w1 hb hp hun
        refine Ops.skipu rfl rfl rfl rfl ?_
        refine Ops.nil ?_
        exact After.dn (Below.refl _ _) (by exact rfl)
      · intro e1 w1 hb hp hun
        refine Ops.skipu rfl rfl rfl rfl ?_
        refine Ops.nil ?_
        exact After.dn (Below.refl _ _) (by exact rfl)
      · intro e1 w1 hb hp hun
        refine Ops.skipu rfl rfl rfl rfl ?_
        refine Ops.nil ?_
        exact After.dn (Below.refl _ _) (by exact rfl)
      · intro e1 w1 hb hp hun
        refine Ops.skipu rfl rfl rfl rfl ?_
        refine Ops.nil ?_
        exact After.dn (Below.refl _ _) (by exact rfl)
      · intro e1 w1 hb hp hun
        refine Ops.skipu rfl rfl rfl rfl ?_
        refine Ops.nil ?_
        exact After.dn (Below.refl _ _) (by exact rfl)
      · intro e1 w1 hb hp hun
        refine Ops.skipu rfl rfl rfl rfl ?_
        refine Ops.nil ?_
        exact After.dn (Below.refl _ _) (by exact rfl)
      · intro e1 w1 hb hp hun
        refine Ops.skipu rfl rfl rfl rfl ?_
        refine Ops.nil ?_
        exact After.dn (Below.refl _ _) (by exact rfl)
      · intro e1 w1 hb hp hun
        refine Ops.skipu rfl rfl rfl rfl ?_
        refine Ops.nil ?_
        exact After.dn (Below.refl _ _) (by exact rfl)
      · intro e1 w1 hb hp hun
        refine Ops.skipu rfl rfl rfl rfl ?_
        refine Ops.nil ?_
        exact After.dn (Below.refl _ _) (by exact rfl)
      · intro e1 w1 hb hp hun
        refine Ops.skipu rfl rfl rfl rfl ?_
        refine Ops.nil ?_
        exact After.dn (Below.refl _ _) (by exact rfl)
      · intro e1 w1 hb hp hun
        refine Ops.skipu rfl rfl rfl rfl ?_
        refine Ops.nil ?_
        exact After.dn (Below.refl _ _) (by exact rfl)
      · intro e1 w1 hb hp hun
        refine Ops.skipg rfl rfl rfl rfl rfl ?_
        refine Ops.nil ?_
        exact After.dn (Below.refl _ _) (by exact rfl)
      · intro e1 w1 hb hp hun
        refine Ops.pick_t rfl rfl rfl ?_
        refine Ops.nil ?_
        exact After.dn (Below.refl _ _) (by exact rfl)
      intro u w4 hb _
      refine thenQ_n ?_
      refine Cd.cond_t rfl ?_
      refine Cd.seq ?_
      refine Cd.region ?_
      refine Ops.mv_bool rfl rfl rfl ?_
      refine Ops.nil ?_
      refine thenQ_n ?_
      refine Cd.ret ?_
      refine thenQ_r ?_
      refine blockQ_r ?_
      refine thenQ_r ?_
      refine thenQ_r ?_
      refine blockQ_r ?_
      refine thenQ_r ?_
      refine ret1_b rfl ?_
      exact ⟨by rw [decide_eq_false (fun h : Cplx m F => by have := (h.at_ hiF).1; omega)], hS3.none.later hb⟩
    by_cases h5 : 6 < ((rg rs (i : Int)).n : Int)
    · refine Cd.draw [.ex (.pointer (ptrAt (Ab) 1)), .ex (.slice (A) (n) (c)), .ex (.int .i64 ((i : Int))), .ex (.pointer (ptrAt (A) ((i : Int)).toNat)), .ex (.slice ((rg (rs) ((i : Int))).a) ((rg (rs) ((i : Int))).n) ((rg (rs) ((i : Int))).c)), .ex (.int .i64 ((((rg (rs) ((i : Int))).n : Nat) : Int))), .ex (.bool (decide (((((rg (rs) ((i : Int))).n : Nat) : Int)) < ((1 : Int))))), .ex (.bool (false)), .ex (.pointer (ptrAt (Ab) 1)), .ex (.slice (A) (n) (c)), .ex (.int .i64 ((i : Int))), .ex (.pointer (ptrAt (A) ((i : Int)).toNat)), .ex (.slice ((rg (rs) ((i : Int))).a) ((rg (rs) ((i : Int))).n) ((rg (rs) ((i : Int))).c)), .ex (.int .i64 ((((rg (rs) ((i : Int))).n : Nat) : Int))), .ex (.bool (decide (((6 : Int)) < ((((rg (rs) ((i : Int))).n : Nat) : Int))))), .ex (.bool (decide (((6 : Int)) < ((((rg (rs) ((i : Int))).n : Nat) : Int))))), .ex (.bool (true)), .ex (undef), .ex (undef), .ex (undef), .ex (undef), .ex (undef), .ex (undef), .ex (undef), .ex (undef), .ex (undef), .ex (undef), .ex (.bool (true)), .ex (.bool (true)), .ex (undef), .ex (undef), .ex (undef), .ex (undef), .ex (undef), .ex (undef), .ex (undef), .ex (undef), .ex (undef), .ex (undef), .ex (undef), .ex (undef), .ex (undef), .ex (undef), .ex (undef), .ex (undef), .ex (undef), .ex (.bool (true))] (by kernel_rfl) (by kernel_rfl) rfl (List.forall_mem_cons.2 ⟨Yd.lasts_ex _, (List.forall_mem_cons.2 ⟨Yd.lasts_ex _, (List.forall_mem_cons.2 ⟨Yd.lasts_ex _, (List.forall_mem_cons.2 ⟨Yd.lasts_ex _, (List.forall_mem_cons.2 ⟨Yd.lasts_ex _, (List.forall_mem_cons.2 ⟨Yd.lasts_ex _, (List.forall_mem_cons.2 ⟨Yd.lasts_ex _, (List.forall_mem_cons.2 ⟨Yd.lasts_ex _, (List.forall_mem_cons.2 ⟨Yd.lasts_ex _, (List.forall_mem_cons.2 ⟨Yd.lasts_ex _, (List.forall_mem_cons.2 ⟨Yd.lasts_ex _, (List.forall_mem_cons.2 ⟨Yd.lasts_ex _, (List.forall_mem_cons.2 ⟨Yd.lasts_ex _, (List.forall_mem_cons.2 ⟨Yd.lasts_ex _, (List.forall_mem_cons.2 ⟨Yd.lasts_ex _, (List.forall_mem_cons.2 ⟨Yd.lasts_ex _, (List.forall_mem_cons.2 ⟨Yd.lasts_ex _, (List.forall_mem_cons.2 ⟨Yd.lasts_ex _, (List.forall_mem_cons.2 ⟨Yd.lasts_ex _, (List.forall_mem_cons.2 ⟨Yd.lasts_ex _, (List.forall_mem_cons.2 ⟨Yd.lasts_ex _, (List.forall_mem_cons.2 ⟨Yd.lasts_ex _, (List.forall_mem_cons.2 ⟨Yd.lasts_ex _, (List.forall_mem_cons.2 ⟨Yd.lasts_ex _, (List.forall_mem_cons.2 ⟨Yd.lasts_ex _, (List.forall_mem_cons.2 ⟨Yd.lasts_ex _, (List.forall_mem_cons.2 ⟨Yd.lasts_ex _, (List.forall_mem_cons.2 ⟨Yd.lasts_ex _, (List.forall_mem_cons.2 ⟨Yd.lasts_ex _, (List.forall_mem_cons.2 ⟨Yd.lasts_ex _, (List.forall_mem_cons.2 ⟨Yd.lasts_ex _, (List.forall_mem_cons.2 ⟨Yd.lasts_ex _, (List.forall_mem_cons.2 ⟨Yd.lasts_ex _, (List.forall_mem_cons.2 ⟨Yd.lasts_ex _, (List.forall_mem_cons.2 ⟨Yd.lasts_ex _, (List.forall_mem_cons.2 ⟨Yd.lasts_ex _, (List.forall_mem_cons.2 ⟨Yd.lasts_ex _, (List.forall_mem_cons.2 ⟨Yd.lasts_ex _, (List.forall_mem_cons.2 ⟨Yd.lasts_ex _, (List.forall_mem_cons.2 ⟨Yd.lasts_ex _, (List.forall_mem_cons.2 ⟨Yd.lasts_ex _, (List.forall_mem_cons.2 ⟨Yd.lasts_ex _, (List.forall_mem_cons.2 ⟨Yd.lasts_ex _, (List.forall_mem_cons.2 ⟨Yd.lasts_ex _, (List.forall_mem_cons.2 ⟨Yd.lasts_ex _, (List.forall_mem_cons.2 ⟨Yd.lasts_ex _, (List.forall_mem_cons.2 ⟨Yd.lasts_ex _, (fun _ h => by cases h)⟩)⟩)⟩)⟩)⟩)⟩)⟩)⟩)⟩)⟩)⟩)⟩)⟩)⟩)⟩)⟩)⟩)⟩)⟩)⟩)⟩)⟩)⟩)⟩)⟩)⟩)⟩)⟩)⟩)⟩)⟩)⟩)⟩)⟩)⟩)⟩)⟩)⟩)⟩)⟩)⟩)⟩)⟩)⟩)⟩)⟩)⟩) ⟨?_, ?_, ?_, ?_, ?_, ?_, ?_, ?_, ?_, ?_, ?_, ?_, ?_, ?_, ?_, ?_, ?_, ?_, ?_, ?_, ?_, ?_, ?_, ?_, ?_, ?_, ?_, ?_, ?_, ?_, ?_, ?_, ?_, ?_, ?_, ?_, ?_, ?_, ?_, ?_, ?_, ?_, ?_, ?_, ?_, ?_, ?_, trivial⟩ ?_
      · intro e1 w1 hb hp hun
        refine Ops.fld (hB3.below hb) rfl rfl rfl rfl inferInstance ?_
        refine Ops.nil ?_
        exact After.dn (Below.refl _ _) (by exact rfl)
      · intro e1 w1 hb hp hun
        refine Ops.ldf_s (hB3.below hb) rfl rfl rfl rfl rfl ?_
        refine Ops.nil ?_
        exact After.dn (Below.refl _ _) (by exact rfl)
      · intro e1 w1 hb hp hun
        refine Ops.mv_int rfl rfl rfl ?_
        refine Ops.nil ?_
        exact After.dn (Below.refl _ _) (by exact rfl)
      · intro e1 w1 hb hp hun
        refine Ops.idx (hM.top.later hb).2 rfl rfl rfl (by omega) (by omega) ?_
        refine Ops.nil ?_
        exact After.dn (Below.refl _ _) (by exact rfl)
      · intro e1 w1 hb hp hun
        refine Ops.ld_sl (hM.top.later hb) rfl (by omega) rfl rfl ?_
        refine Ops.nil ?_
        exact After.dn (Below.refl _ _) (by exact rfl)
      · intro e1 w1 hb hp hun
        refine Ops.len rfl rfl ?_
        refine Ops.nil ?_
        exact After.dn (Below.refl _ _) (by exact rfl)
      · intro e1 w1 hb hp hun
        refine Ops.lss rfl rfl rfl ?_
        refine Ops.nil ?_
        exact After.dn (Below.refl _ _) (by exact rfl)
      · intro e1 w1 hb hp hun
        refine Ops.mv_bool rfl rfl rfl ?_
        refine Ops.nil ?_
        exact After.dn (Below.refl _ _) (by exact congrArg Value.bool (decide_eq_false h4))
      · intro e1 w1 hb hp hun
        refine Ops.rung rfl rfl rfl ?_
        refine Ops.fld (hB3.below hb) rfl rfl rfl rfl inferInstance ?_
        refine Ops.nil ?_
        exact After.dn (Below.refl _ _) (by exact rfl)
      · intro e1 w1 hb hp hun
        refine Ops.rung rfl rfl rfl ?_
        refine Ops.ldf_s (hB3.below hb) rfl rfl rfl rfl rfl ?_
        refine Ops.nil ?_
        exact After.dn (Below.refl _ _) (by exact rfl)
      · intro e1 w1 hb hp hun
        refine Ops.rung rfl rfl rfl ?_
        refine Ops.mv_int rfl rfl rfl ?_
        refine Ops.nil ?_
        exact After.dn (Below.refl _ _) (by exact rfl)
      · intro e1 w1 hb hp hun
        refine Ops.rung rfl rfl rfl ?_
        refine Ops.idx (hM.top.later hb).2 rfl rfl rfl (by omega) (by omega) ?_
        refine Ops.nil ?_
        exact After.dn (Below.refl _ _) (by exact rfl)
      · intro e1 w1 hb hp hun
        refine Ops.rung rfl rfl rfl ?_
        refine Ops.ld_sl (hM.top.later hb) rfl (by omega) rfl rfl ?_
        refine Ops.nil ?_
        exact After.dn (Below.refl _ _) (by exact rfl)
      · intro e1 w1 hb hp hun
        refine Ops.rung rfl rfl rfl ?_
        refine Ops.len rfl rfl ?_
        refine Ops.nil ?_
        exact After.dn (Below.refl _ _) (by exact rfl)
      · intro e1 w1 hb hp hun
        refine Ops.rung rfl rfl rfl ?_
        refine Ops.gtr rfl rfl rfl ?_
        refine Ops.nil ?_
        exact After.dn (Below.refl _ _) (by exact rfl)
      · intro e1 w1 hb hp hun
        refine Ops.pick_f rfl rfl rfl ?_
        refine Ops.nil ?_
        exact After.dn (Below.refl _ _) (by exact rfl)
      · intro e1 w1 hb hp hun
        refine Ops.mv_bool rfl rfl rfl ?_
        refine Ops.nil ?_
        exact After.dn (Below.refl _ _) (by exact congrArg Value.bool (decide_eq_true h5))
      · intro e1 w1 hb hp hun
        refine Ops.skipg rfl rfl rfl rfl rfl ?_
        refine Ops.nil ?_
        exact After.dn (Below.refl _ _) (by exact rfl)
      · intro e1 w1 hb hp hun
        refine Ops.skipg rfl rfl rfl rfl rfl ?_
        refine Ops.nil ?_
        exact After.dn (Below.refl _ _) (by exact rfl)
      · intro e1 w1 hb hp hun
        refine Ops.skipg rfl rfl rfl rfl rfl ?_
        refine Ops.nil ?_
        exact After.dn (Below.refl _ _) (by exact rfl)
      · intro e1 w1 hb hp hun
        refine Ops.skipg rfl rfl rfl rfl rfl ?_
        refine Ops.nil ?_
        exact After.dn (Below.refl _ _) (by exact rfl)
      · intro e1 w1 hb hp hun
        refine Ops.skipg rfl rfl rfl rfl rfl ?_
        refine Ops.nil ?_
        exact After.dn (Below.refl _ _) (by exact rfl)
      · intro e1 w1 hb hp hun
        refine Ops.skipg rfl rfl rfl rfl rfl ?_
        refine Ops.nil ?_
        exact After.dn (Below.refl _ _) (by exact rfl)
      · intro e1 w1 hb hp hun
        refine Ops.skipg rfl rfl rfl rfl rfl ?_
        refine Ops.nil ?_
        exact After.dn (Below.refl _ _) (by exact rfl)
      · intro e1 w1 hb hp hun
        refine Ops.skipg rfl rfl rfl rfl rfl ?_
        refine Ops.nil ?_
        exact After.dn (Below.refl _ _) (by exact rfl)
      · intro e1 w1 hb hp hun
        refine Ops.skipg rfl rfl rfl rfl rfl ?_
        refine Ops.nil ?_
        exact After.dn (Below.refl _ _) (by exact rfl)
      · intro e1 w1 hb hp hun
        refine Ops.skipg rfl rfl rfl rfl rfl ?_
        refine Ops.nil ?_
        exact After.dn (Below.refl _ _) (by exact rfl)
      · intro e1 w1 hb hp hun
        refine Ops.pick_t rfl rfl rfl ?_
        refine Ops.nil ?_
        exact After.dn (Below.refl _ _) (by exact rfl)
      · intro e1 w1 hb hp hun
        refine Ops.mv_bool rfl rfl rfl ?_
        refine Ops.nil ?_
        exact After.dn (Below.refl _ _) (by exact rfl)
      · intro e1 w1 hb hp hun
        refine Ops.skipg rfl rfl rfl rfl rfl ?_
        refine Ops.nil ?_
        exact After.dn (Below.refl _ _) (by exact rfl)
      · intro e1 w1 hb hp hun
        refine Ops.skipg rfl rfl rfl rfl rfl ?_
        refine Ops.nil ?_
        exact After.dn (Below.refl _ _) (by exact rfl)
      · intro e1 w1 hb hp hun
        refine Ops.skipg rfl rfl rfl rfl rfl ?_
        refine Ops.nil ?_
        exact After.dn (Below.refl _ _) (by exact rfl)
      · intro e1 w1 hb hp hun
        refine Ops.skipu rfl rfl rfl rfl ?_
        refine Ops.nil ?_
        exact After.dn (Below.refl _ _) (by exact rfl)
      · intro e1 w1 hb hp hun
        refine Ops.skipu rfl rfl rfl rfl ?_
        refine Ops.nil ?_
        exact After.dn (Below.refl _ _) (by exact rfl)
      · intro e1 w1 hb hp hun
        refine Ops.skipu rfl rfl rfl rfl ?_
        refine Ops.nil ?_
        exact After.dn (Below.refl _ _) (by exact rfl)
      · intro e1 w1 hb hp hun
        refine Ops.skipu rfl rfl rfl rfl ?_
        refine Ops.nil ?_
        exact After.dn (Below.refl _ _) (by exact rfl)
      · intro e1 w1 hb hp hun
        refine Ops.skipu rfl rfl rfl rfl ?_
        refine Ops.nil ?_
        exact After.dn (Below.refl _ _) (by exact rfl)
      · intro e1 w1 hb hp hun
        refine Ops.skipu rfl rfl rfl rfl ?_
        refine Ops.nil ?_
        exact After.dn (Below.refl _ _) (by exact rfl)
      · intro e1 w1 hb hp hun
        refine Ops.skipu rfl rfl rfl rfl ?_
        refine Ops.nil ?_
        exact After.dn (Below.refl _ _) (by exact rfl)
      · intro e1 w1 hb hp hun
        refine Ops.skipu rfl rfl rfl rfl ?_
        refine Ops.nil ?_
        exact After.dn (Below.refl _ _) (by exact rfl)
      · intro e1 w1 hb hp hun
        refine Ops.skipu rfl rfl rfl rfl ?_
        refine Ops.nil ?_
        exact After.dn (Below.refl _ _) (by exact rfl)
      · intro e1 w1 hb hp hun
        refine Ops.skipu rfl rfl rfl rfl ?_
        refine Ops.nil ?_
        exact After.dn (Below.refl _ _) (by exact rfl)
      · intro e1 w1 hb hp hun
        refine Ops.skipu rfl rfl rfl rfl ?_
        refine Ops.nil ?_
        exact After.dn (Below.refl _ _) (by exact rfl)
      · intro e1 w1 hb hp hun
        refine Ops.skipu rfl rfl rfl rfl ?_
        refine Ops.nil ?_
        exact After.dn (Below.refl _ _) (by exact rfl)
      · intro e1 w1 hb hp hun
        refine Ops.skipu rfl rfl rfl rfl ?_
        refine Ops.nil ?_
        exact After.dn (Below.refl _ _) (by exact rfl)
      · intro e1 w1 hb hp hun
        refine Ops.skipg rfl rfl rfl rfl rfl ?_
        refine Ops.nil ?_
        exact After.dn (Below.refl _ _) (by exact rfl)
      · intro e1 w1 hb hp hun
        refine Ops.pick_t rfl rfl rfl ?_
        refine Ops.nil ?_
        exact After.dn (Below.refl _ _) (by exact rfl)
      intro u w4 hb _
      refine thenQ_n ?_
      refine Cd.cond_t rfl ?_
      refine Cd.seq ?_
      refine Cd.region ?_
      refine Ops.mv_bool rfl rfl rfl ?_
      refine Ops.nil ?_
      refine thenQ_n ?_
      refine Cd.ret ?_
      refine thenQ_r ?_
      refine blockQ_r ?_
      refine thenQ_r ?_
      refine thenQ_r ?_
      refine blockQ_r ?_
      refine thenQ_r ?_
      refine ret1_b rfl ?_
      exact ⟨by rw [decide_eq_false (fun h : Cplx m F => by have := (h.at_ hiF).1; omega)], hS3.none.later hb⟩
    by_cases h6 : Rise ((m : Int) - 1) (gl F (i : Int))
    · have hg1 : (1 ≤ (gl F (i : Int)).length ∧ (gl F (i : Int)).length ≤ 6) ∧ SA (gl F (i : Int)) ∧ ∀ x ∈ gl F (i : Int), 0 ≤ x ∧ x < (m : Int) := ⟨⟨by omega, by omega⟩, h6.1, fun x hx => by have := h6.2 x hx; omega⟩
      by_cases h7 : 0 < (i : Int)
      · have hrow' := hMi h7
        by_cases h8 : lexC (gl F ((i : Int) - 1)) (gl F (i : Int)) < 0
        · refine Cd.draw [.ex (.pointer (ptrAt (Ab) 1)), .ex (.slice (A) (n) (c)), .ex (.int .i64 ((i : Int))), .ex (.pointer (ptrAt (A) ((i : Int)).toNat)), .ex (.slice ((rg (rs) ((i : Int))).a) ((rg (rs) ((i : Int))).n) ((rg (rs) ((i : Int))).c)), .ex (.int .i64 ((((rg (rs) ((i : Int))).n : Nat) : Int))), .ex (.bool (decide (((((rg (rs) ((i : Int))).n : Nat) : Int)) < ((1 : Int))))), .ex (.bool (false)), .ex (.pointer (ptrAt (Ab) 1)), .ex (.slice (A) (n) (c)), .ex (.int .i64 ((i : Int))), .ex (.pointer (ptrAt (A) ((i : Int)).toNat)), .ex (.slice ((rg (rs) ((i : Int))).a) ((rg (rs) ((i : Int))).n) ((rg (rs) ((i : Int))).c)), .ex (.int .i64 ((((rg (rs) ((i : Int))).n : Nat) : Int))), .ex (.bool (decide (((6 : Int)) < ((((rg (rs) ((i : Int))).n : Nat) : Int))))), .ex (.bool (decide (((6 : Int)) < ((((rg (rs) ((i : Int))).n : Nat) : Int))))), .ex (.bool (false)), .ex (.pointer (ptrAt (Ab) 1)), .ex (.slice (A) (n) (c)), .ex (.int .i64 ((i : Int))), .ex (.pointer (ptrAt (A) ((i : Int)).toNat)), .ex (.slice ((rg (rs) ((i : Int))).a) ((rg (rs) ((i : Int))).n) ((rg (rs) ((i : Int))).c)), .ex (.pointer (ptrAt (Ab) 0)), .ex (.int .i64 ((m : Int))), .ex (.int .i64 (((m : Int)) - ((1 : Int)))), .ex (.bool (decide (Rise ((m : Int) - 1) (gl F (i : Int))))), .ex (.bool (decide (¬ (Rise ((m : Int) - 1) (gl F (i : Int)))))), .ex (.bool (decide (¬ (Rise ((m : Int) - 1) (gl F (i : Int)))))), .ex (.bool (false)), .ex (.int .i64 ((i : Int))), .ex (.bool (decide (((0 : Int)) < ((i : Int))))), .ex (.bool (true)), .ex (.pointer (ptrAt (Ab) 1)), .ex (.slice (A) (n) (c)), .ex (.int .i64 ((i : Int))), .ex (.int .i64 (((i : Int)) - ((1 : Int)))), .ex (.pointer (ptrAt (A) (((i : Int)) - ((1 : Int))).toNat)), .ex (.slice ((rg (rs) (((i : Int)) - ((1 : Int)))).a) ((rg (rs) (((i : Int)) - ((1 : Int)))).n) ((rg (rs) (((i : Int)) - ((1 : Int)))).c)), .ex (.pointer (ptrAt (Ab) 1)), .ex (.slice (A) (n) (c)), .ex (.int .i64 ((i : Int))), .ex (.pointer (ptrAt (A) ((i : Int)).toNat)), .ex (.slice ((rg (rs) ((i : Int))).a) ((rg (rs) ((i : Int))).n) ((rg (rs) ((i : Int))).c)), .ex (.bool (decide (lexC (gl F ((i : Int) - 1)) (gl F (i : Int)) < 0))), .ex (.bool (decide (¬ (lexC (gl F ((i : Int) - 1)) (gl F (i : Int)) < 0)))), .ex (.bool (decide (¬ (lexC (gl F ((i : Int) - 1)) (gl F (i : Int)) < 0)))), .ex (.bool (false))] (by kernel_rfl) (by kernel_rfl) rfl (List.forall_mem_cons.2 ⟨Yd.lasts_ex _, (List.forall_mem_cons.2 ⟨Yd.lasts_ex _, (List.forall_mem_cons.2 ⟨Yd.lasts_ex _, (List.forall_mem_cons.2 ⟨Yd.lasts_ex _, (List.forall_mem_cons.2 ⟨Yd.lasts_ex _, (List.forall_mem_cons.2 ⟨Yd.lasts_ex _, (List.forall_mem_cons.2 ⟨Yd.lasts_ex _, (List.forall_mem_cons.2 ⟨Yd.lasts_ex _, (List.forall_mem_cons.2 ⟨Yd.lasts_ex _, (List.forall_mem_cons.2 ⟨Yd.lasts_ex _, (List.forall_mem_cons.2 ⟨Yd.lasts_ex _, (List.forall_mem_cons.2 ⟨Yd.lasts_ex _, (List.forall_mem_cons.2 ⟨Yd.lasts_ex _, (List.forall_mem_cons.2 ⟨Yd.lasts_ex _, (List.forall_mem_cons.2 ⟨Yd.lasts_ex _, (List.forall_mem_cons.2 ⟨Yd.lasts_ex _, (List.forall_mem_cons.2 ⟨Yd.lasts_ex _, (List.forall_mem_cons.2 ⟨Yd.lasts_ex _, (List.forall_mem_cons.2 ⟨Yd.lasts_ex _, (List.forall_mem_cons.2 ⟨Yd.lasts_ex _, (List.forall_mem_cons.2 ⟨Yd.lasts_ex _, (List.forall_mem_cons.2 ⟨Yd.lasts_ex _, (List.forall_mem_cons.2 ⟨Yd.lasts_ex _, (List.forall_mem_cons.2 ⟨Yd.lasts_ex _, (List.forall_mem_cons.2 ⟨Yd.lasts_ex _, (List.forall_mem_cons.2 ⟨Yd.lasts_ex _, (List.forall_mem_cons.2 ⟨Yd.lasts_ex _, (List.forall_mem_cons.2 ⟨Yd.lasts_ex _, (List.forall_mem_cons.2 ⟨Yd.lasts_ex _, (List.forall_mem_cons.2 ⟨Yd.lasts_ex _, (List.forall_mem_cons.2 ⟨Yd.lasts_ex _, (List.forall_mem_cons.2 ⟨Yd.lasts_ex _, (List.forall_mem_cons.2 ⟨Yd.lasts_ex _, (List.forall_mem_cons.2 ⟨Yd.lasts_ex _, (List.forall_mem_cons.2 ⟨Yd.lasts_ex _, (List.forall_mem_cons.2 ⟨Yd.lasts_ex _, (List.forall_mem_cons.2 ⟨Yd.lasts_ex _, (List.forall_mem_cons.2 ⟨Yd.lasts_ex _, (List.forall_mem_cons.2 ⟨Yd.lasts_ex _, (List.forall_mem_cons.2 ⟨Yd.lasts_ex _, (List.forall_mem_cons.2 ⟨Yd.lasts_ex _, (List.forall_mem_cons.2 ⟨Yd.lasts_ex _, (List.forall_mem_cons.2 ⟨Yd.lasts_ex _, (List.forall_mem_cons.2 ⟨Yd.lasts_ex _, (List.forall_mem_cons.2 ⟨Yd.lasts_ex _, (List.forall_mem_cons.2 ⟨Yd.lasts_ex _, (List.forall_mem_cons.2 ⟨Yd.lasts_ex _, (fun _ h => by cases h)⟩)⟩)⟩)⟩)⟩)⟩)⟩)⟩)⟩)⟩)⟩)⟩)⟩)⟩)⟩)⟩)⟩)⟩)⟩)⟩)⟩)⟩)⟩)⟩)⟩)⟩)⟩)⟩)⟩)⟩)⟩)⟩)⟩)⟩)⟩)⟩)⟩)⟩)⟩)⟩)⟩)⟩)⟩)⟩)⟩)⟩)⟩) ⟨?_, ?_, ?_, ?_, ?_, ?_, ?_, ?_, ?_, ?_, ?_, ?_, ?_, ?_, ?_, ?_, ?_, ?_, ?_, ?_, ?_, ?_, ?_, ?_, ?_, ?_, ?_, ?_, ?_, ?_, ?_, ?_, ?_, ?_, ?_, ?_, ?_, ?_, ?_, ?_, ?_, ?_, ?_, ?_, ?_, ?_, ?_, trivial⟩ ?_
          · intro e1 w1 hb hp hun
            refine Ops.fld (hB3.below hb) rfl rfl rfl rfl inferInstance ?_
            refine Ops.nil ?_
            exact After.dn (Below.refl _ _) (by exact rfl)
          · intro e1 w1 hb hp hun
            refine Ops.ldf_s (hB3.below hb) rfl rfl rfl rfl rfl ?_
            refine Ops.nil ?_
            exact After.dn (Below.refl _ _) (by exact rfl)
          · intro e1 w1 hb hp hun
            refine Ops.mv_int rfl rfl rfl ?_
            refine Ops.nil ?_
            exact After.dn (Below.refl _ _) (by exact rfl)
          · intro e1 w1 hb hp hun
            refine Ops.idx (hM.top.later hb).2 rfl rfl rfl (by omega) (by omega) ?_
            refine Ops.nil ?_
            exact After.dn (Below.refl _ _) (by exact rfl)
          · intro e1 w1 hb hp hun
            refine Ops.ld_sl (hM.top.later hb) rfl (by omega) rfl rfl ?_
            refine Ops.nil ?_
            exact After.dn (Below.refl _ _) (by exact rfl)
          · intro e1 w1 hb hp hun
            refine Ops.len rfl rfl ?_
            refine Ops.nil ?_
            exact After.dn (Below.refl _ _) (by exact rfl)
          · intro e1 w1 hb hp hun
            refine Ops.lss rfl rfl rfl ?_
            refine Ops.nil ?_
            exact After.dn (Below.refl _ _) (by exact rfl)
          · intro e1 w1 hb hp hun
            refine Ops.mv_bool rfl rfl rfl ?_
            refine Ops.nil ?_
            exact After.dn (Below.refl _ _) (by exact congrArg Value.bool (decide_eq_false h4))
          · intro e1 w1 hb hp hun
            refine Ops.rung rfl rfl rfl ?_
            refine Ops.fld (hB3.below hb) rfl rfl rfl rfl inferInstance ?_
            refine Ops.nil ?_
            exact After.dn (Below.refl _ _) (by exact rfl)
          · intro e1 w1 hb hp hun
            refine Ops.rung rfl rfl rfl ?_
            refine Ops.ldf_s (hB3.below hb) rfl rfl rfl rfl rfl ?_
            refine Ops.nil ?_
            exact After.dn (Below.refl _ _) (by exact rfl)
          · intro e1 w1 hb hp hun
            refine Ops.rung rfl rfl rfl ?_
            refine Ops.mv_int rfl rfl rfl ?_
            refine Ops.nil ?_
            exact After.dn (Below.refl _ _) (by exact rfl)
          · intro e1 w1 hb hp hun
            refine Ops.rung rfl rfl rfl ?_
            refine Ops.idx (hM.top.later hb).2 rfl rfl rfl (by omega) (by omega) ?_
            refine Ops.nil ?_
            exact After.dn (Below.refl _ _) (by exact rfl)
          · intro e1 w1 hb hp hun
            refine Ops.rung rfl rfl rfl ?_
            refine Ops.ld_sl (hM.top.later hb) rfl (by omega) rfl rfl ?_
            refine Ops.nil ?_
            exact After.dn (Below.refl _ _) (by exact rfl)
          · intro e1 w1 hb hp hun
            refine Ops.rung rfl rfl rfl ?_
            refine Ops.len rfl rfl ?_
            refine Ops.nil ?_
            exact After.dn (Below.refl _ _) (by exact rfl)
          · intro e1 w1 hb hp hun
            refine Ops.rung rfl rfl rfl ?_
            refine Ops.gtr rfl rfl rfl ?_
            refine Ops.nil ?_
            exact After.dn (Below.refl _ _) (by exact rfl)
          · intro e1 w1 hb hp hun
            refine Ops.pick_f rfl rfl rfl ?_
            refine Ops.nil ?_
            exact After.dn (Below.refl _ _) (by exact rfl)
          · intro e1 w1 hb hp hun
            refine Ops.mv_bool rfl rfl rfl ?_
            refine Ops.nil ?_
            exact After.dn (Below.refl _ _) (by exact congrArg Value.bool (decide_eq_false h5))
          · intro e1 w1 hb hp hun
            refine Ops.rung rfl rfl rfl ?_
            refine Ops.fld (hB3.below hb) rfl rfl rfl rfl inferInstance ?_
            refine Ops.nil ?_
            exact After.dn (Below.refl _ _) (by exact rfl)
          · intro e1 w1 hb hp hun
            refine Ops.rung rfl rfl rfl ?_
            refine Ops.ldf_s (hB3.below hb) rfl rfl rfl rfl rfl ?_
            refine Ops.nil ?_
            exact After.dn (Below.refl _ _) (by exact rfl)
          · intro e1 w1 hb hp hun
            refine Ops.rung rfl rfl rfl ?_
            refine Ops.mv_int rfl rfl rfl ?_
            refine Ops.nil ?_
            exact After.dn (Below.refl _ _) (by exact rfl)
          · intro e1 w1 hb hp hun
            refine Ops.rung rfl rfl rfl ?_
            refine Ops.idx (hM.top.later hb).2 rfl rfl rfl (by omega) (by omega) ?_
            refine Ops.nil ?_
            exact After.dn (Below.refl _ _) (by exact rfl)
          · intro e1 w1 hb hp hun
            refine Ops.rung rfl rfl rfl ?_
            refine Ops.ld_sl (hM.top.later hb) rfl (by omega) rfl rfl ?_
            refine Ops.nil ?_
            exact After.dn (Below.refl _ _) (by exact rfl)
          · intro e1 w1 hb hp hun
            refine Ops.rung rfl rfl rfl ?_
            refine Ops.fld (hB3.below hb) rfl rfl rfl rfl inferInstance ?_
            refine Ops.nil ?_
            exact After.dn (Below.refl _ _) (by exact rfl)
          · intro e1 w1 hb hp hun
            refine Ops.rung rfl rfl rfl ?_
            refine Ops.ldf_i (hB3.below hb) rfl rfl rfl rfl rfl ?_
            refine Ops.nil ?_
            exact After.dn (Below.refl _ _) (by exact rfl)
          · intro e1 w1 hb hp hun
            refine Ops.rung rfl rfl rfl ?_
            refine Ops.sub rfl rfl rfl (by omega) ?_
            refine Ops.nil ?_
            exact After.dn (Below.refl _ _) (by exact rfl)
          · intro e1 w1 hb hp hun
            refine Ops.rung rfl rfl rfl ?_
            refine Ops.call (l17Rises_c _ _ _ _ _ _ (hrow.later hb) (by omega)) rfl rfl rfl ?_
            rintro _ w2 ⟨rfl, hst⟩
            refine Ops.nil ?_
            exact After.dn hst.below (by exact rfl)
          · intro e1 w1 hb hp hun
            refine Ops.rung rfl rfl rfl ?_
            refine Ops.not_p rfl rfl ?_
            refine Ops.nil ?_
            exact After.dn (Below.refl _ _) (by exact rfl)
          · intro e1 w1 hb hp hun
            refine Ops.pick_f rfl rfl rfl ?_
            refine Ops.nil ?_
            exact After.dn (Below.refl _ _) (by exact rfl)
          · intro e1 w1 hb hp hun
            refine Ops.mv_bool rfl rfl rfl ?_
            refine Ops.nil ?_
            exact After.dn (Below.refl _ _) (by exact congrArg Value.bool (decide_eq_false (fun h => h h6)))
          · intro e1 w1 hb hp hun
            refine Ops.rung rfl rfl rfl ?_
            refine Ops.mv_int rfl rfl rfl ?_
            refine Ops.nil ?_
            exact After.dn (Below.refl _ _) (by exact rfl)
          · intro e1 w1 hb hp hun
            refine Ops.rung rfl rfl rfl ?_
            refine Ops.gtr rfl rfl rfl ?_
            refine Ops.nil ?_
            exact After.dn (Below.refl _ _) (by exact rfl)
          · intro e1 w1 hb hp hun
            refine Ops.rung rfl rfl rfl ?_
            refine Ops.mv_bool rfl rfl rfl ?_
            refine Ops.nil ?_
            exact After.dn (Below.refl _ _) (by exact congrArg Value.bool (decide_eq_true h7))
          · intro e1 w1 hb hp hun
            refine Ops.rung rfl rfl rfl ?_
            refine Ops.fld (hB3.below hb) rfl rfl rfl rfl inferInstance ?_
            refine Ops.nil ?_
            exact After.dn (Below.refl _ _) (by exact rfl)
          · intro e1 w1 hb hp hun
            refine Ops.rung rfl rfl rfl ?_
            refine Ops.ldf_s (hB3.below hb) rfl rfl rfl rfl rfl ?_
            refine Ops.nil ?_
            exact After.dn (Below.refl _ _) (by exact rfl)
          · intro e1 w1 hb hp hun
            refine Ops.rung rfl rfl rfl ?_
            refine Ops.mv_int rfl rfl rfl ?_
            refine Ops.nil ?_
            exact After.dn (Below.refl _ _) (by exact rfl)
          · intro e1 w1 hb hp hun
            refine Ops.rung rfl rfl rfl ?_
            refine Ops.sub rfl rfl rfl (by omega) ?_
            refine Ops.nil ?_
            exact After.dn (Below.refl _ _) (by exact rfl)
          · intro e1 w1 hb hp hun
            refine Ops.rung rfl rfl rfl ?_
            refine Ops.idx (hM.top.later hb).2 rfl rfl rfl (by omega) (by omega) ?_
            refine Ops.nil ?_
            exact After.dn (Below.refl _ _) (by exact rfl)
          · intro e1 w1 hb hp hun
            refine Ops.rung rfl rfl rfl ?_
            refine Ops.ld_sl (hM.top.later hb) rfl (by omega) rfl rfl ?_
            refine Ops.nil ?_
            exact After.dn (Below.refl _ _) (by exact rfl)
          · intro e1 w1 hb hp hun
            refine Ops.rung rfl rfl rfl ?_
            refine Ops.fld (hB3.below hb) rfl rfl rfl rfl inferInstance ?_
            refine Ops.nil ?_
            exact After.dn (Below.refl _ _) (by exact rfl)
          · intro e1 w1 hb hp hun
            refine Ops.rung rfl rfl rfl ?_
            refine Ops.ldf_s (hB3.below hb) rfl rfl rfl rfl rfl ?_
            refine Ops.nil ?_
            exact After.dn (Below.refl _ _) (by exact rfl)
          · intro e1 w1 hb hp hun
            refine Ops.rung rfl rfl rfl ?_
            refine Ops.mv_int rfl rfl rfl ?_
            refine Ops.nil ?_
            exact After.dn (Below.refl _ _) (by exact rfl)
          · intro e1 w1 hb hp hun
            refine Ops.rung rfl rfl rfl ?_
            refine Ops.idx (hM.top.later hb).2 rfl rfl rfl (by omega) (by omega) ?_
            refine Ops.nil ?_
            exact After.dn (Below.refl _ _) (by exact rfl)
          · intro e1 w1 hb hp hun
            refine Ops.rung rfl rfl rfl ?_
            refine Ops.ld_sl (hM.top.later hb) rfl (by omega) rfl rfl ?_
            refine Ops.nil ?_
            exact After.dn (Below.refl _ _) (by exact rfl)
          · intro e1 w1 hb hp hun
            refine Ops.rung rfl rfl rfl ?_
            refine Ops.call (l01Less_c _ _ _ _ _ _ _ _ _ (hrow'.later hb) (hrow.later hb) (by have := hrow'.1; have := (hM.cap_ (i := (i : Int) - 1) (by omega) (by omega)); omega)) rfl rfl rfl ?_
            rintro _ w2 ⟨rfl, hst⟩
            refine Ops.nil ?_
            exact After.dn hst.below (by exact rfl)
          · intro e1 w1 hb hp hun
            refine Ops.rung rfl rfl rfl ?_
            refine Ops.not_p rfl rfl ?_
            refine Ops.nil ?_
            exact After.dn (Below.refl _ _) (by exact rfl)
          · intro e1 w1 hb hp hun
            refine Ops.rung rfl rfl rfl ?_
            refine Ops.pick_t rfl rfl rfl ?_
            refine Ops.nil ?_
            exact After.dn (Below.refl _ _) (by exact rfl)
          · intro e1 w1 hb hp hun
            refine Ops.pick_f rfl rfl rfl ?_
            refine Ops.nil ?_
            exact After.dn (Below.refl _ _) (by exact congrArg Value.bool (decide_eq_false (fun h => h h8)))
          have hnext := hP.step hiF hg1 (.inr h8)
          intro u w4 hb _
          have hS4 := hS3.later hb
          refine thenQ_n ?_
          refine Cd.cond_f rfl ?_
          refine Cd.skip ?_
          refine thenQ_n ?_
          refine Cd.seq ?_
          refine Cd.region ?_
          refine Ops.mv_int rfl rfl rfl ?_
          refine Ops.nil ?_
          refine thenQ_n ?_
          refine Cd.block ?_
          refine Cd.loop (α := Nat) (fun j => [(1, .pointer Ab), (3, .slice A3 m m), (4, .int .i64 (i : Int)), (5, .int .i64 (j : Int))]) (fun j w' => j ≤ (gl F (i : Int)).length ∧ St w w' [CkB 4 A3 m m (pnt (mk0 m) ((F.take i).flatten ++ (gl F (i : Int)).take j)), cxB Ab m A n c]) (fun j => (gl F (i : Int)).length - j) 0 ⟨rfl, rfl, rfl, rfl, trivial⟩ ⟨Nat.zero_le _, by rw [List.take_zero, List.append_nil]; exact hS4⟩ ?_
          rintro j e w5 ⟨hj, hS5⟩
          have hB5 := hS5.rd 1 rfl
          have hM5 := hS5.oldRows hR
          have hrow5 := hM5.at_ (i := (i : Int)) (by omega) (by omega)
          refine Cd.seq ?_
          refine Cd.seq ?_
          refine Cd.region ?_
          refine Ops.mv_int rfl rfl rfl ?_
          refine Ops.fld hB5 rfl rfl rfl rfl inferInstance ?_
          refine Ops.ldf_s hB5 rfl rfl rfl rfl rfl ?_
          refine Ops.mv_int rfl rfl rfl ?_
          refine Ops.idx hM5.top.2 rfl rfl rfl (by omega) (by omega) ?_
          refine Ops.ld_sl hM5.top rfl (by omega) rfl rfl ?_
          refine Ops.len rfl rfl ?_
          refine Ops.lss rfl rfl rfl ?_
          refine Ops.nil ?_
          refine thenQ_n ?_
          refine Cd.cond_p _ rfl (fun h9 => ?_) (fun h9 => ?_)
          · have hjl : j < (gl F (i : Int)).length := by omega
            have hjr := hg1.2.2 (gi (gl F (i : Int)) (j : Int)) (by rw [gi_mem hjl]; exact List.getElem_mem _)
            have hH := hS5.rdB 0 rfl
            refine Cd.skip ?_
            refine thenQ_n ?_
            refine Cd.seq ?_
            refine Cd.block ?_
            refine Cd.region ?_
            refine Ops.mv_sl rfl rfl rfl ?_
            refine Ops.fld hB5 rfl rfl rfl rfl inferInstance ?_
            refine Ops.ldf_s hB5 rfl rfl rfl rfl rfl ?_
            refine Ops.mv_int rfl rfl rfl ?_
            refine Ops.idx hM5.top.2 rfl rfl rfl (by omega) (by omega) ?_
            refine Ops.ld_sl hM5.top rfl (by omega) rfl rfl ?_
            refine Ops.mv_int rfl rfl rfl ?_
            refine Ops.idx hrow5.2 rfl rfl rfl (by omega) (by omega) ?_
            refine Ops.ld_int hrow5 rfl (by omega) rfl rfl ?_
            refine Ops.idx hH.2 rfl rfl rfl (by omega) (by omega) ?_
            refine Ops.st_bool 0 hS5 rfl rfl rfl (by omega) ?_
            intro w6 hS6
            refine Ops.nil ?_
            refine blockQ_n ?_
            refine thenQ_n ?_
            refine Cd.region ?_
            refine Ops.mv_int rfl rfl rfl ?_
            refine Ops.add rfl rfl rfl (by omega) ?_
            refine Ops.mv_int rfl rfl rfl ?_
            refine Ops.nil ?_
            refine thenQ_n ?_
            refine ⟨j + 1, by show (gl F (i : Int)).length - (j + 1) < (gl F (i : Int)).length - j; omega, ⟨rfl, rfl, rfl, rfl, trivial⟩, by omega, ?_⟩
            rw [take_succ_gi hjl, ← List.append_assoc, pnt_snoc]
            exact hS6
          · rw [show (gl F (i : Int)).take j = gl F (i : Int) from List.take_of_length_le (by omega)] at hS5
            refine Cd.exit ?_
            refine thenQ_x ?_
            refine thenQ_x ?_
            refine blockQ_x ?_
            refine blockQ_n ?_
            refine thenQ_n ?_
            refine Cd.region ?_
            refine Ops.mv_int rfl rfl rfl ?_
            refine Ops.add rfl rfl rfl (by omega) ?_
            refine Ops.mv_int rfl rfl rfl ?_
            refine Ops.nil ?_
            refine thenQ_n ?_
            refine ⟨i + 1, by show n - (i + 1) < n - i; omega, ⟨rfl, rfl, rfl, trivial⟩, by omega, hnext, ?_⟩
            rw [take_succ_gl hiF, List.flatten_append]
            simpa using hS5
        · refine Cd.draw [.ex (.pointer (ptrAt (Ab) 1)), .ex (.slice (A) (n) (c)), .ex (.int .i64 ((i : Int))), .ex (.pointer (ptrAt (A) ((i : Int)).toNat)), .ex (.slice ((rg (rs) ((i : Int))).a) ((rg (rs) ((i : Int))).n) ((rg (rs) ((i : Int))).c)), .ex (.int .i64 ((((rg (rs) ((i : Int))).n : Nat) : Int))), .ex (.bool (decide (((((rg (rs) ((i : Int))).n : Nat) : Int)) < ((1 : Int))))), .ex (.bool (false)), .ex (.pointer (ptrAt (Ab) 1)), .ex (.slice (A) (n) (c)), .ex (.int .i64 ((i : Int))), .ex (.pointer (ptrAt (A) ((i : Int)).toNat)), .ex (.slice ((rg (rs) ((i : Int))).a) ((rg (rs) ((i : Int))).n) ((rg (rs) ((i : Int))).c)), .ex (.int .i64 ((((rg (rs) ((i : Int))).n : Nat) : Int))), .ex (.bool (decide (((6 : Int)) < ((((rg (rs) ((i : Int))).n : Nat) : Int))))), .ex (.bool (decide (((6 : Int)) < ((((rg (rs) ((i : Int))).n : Nat) : Int))))), .ex (.bool (false)), .ex (.pointer (ptrAt (Ab) 1)), .ex (.slice (A) (n) (c)), .ex (.int .i64 ((i : Int))), .ex (.pointer (ptrAt (A) ((i : Int)).toNat)), .ex (.slice ((rg (rs) ((i : Int))).a) ((rg (rs) ((i : Int))).n) ((rg (rs) ((i : Int))).c)), .ex (.pointer (ptrAt (Ab) 0)), .ex (.int .i64 ((m : Int))), .ex (.int .i64 (((m : Int)) - ((1 : Int)))), .ex (.bool (decide (Rise ((m : Int) - 1) (gl F (i : Int))))), .ex (.bool (decide (¬ (Rise ((m : Int) - 1) (gl F (i : Int)))))), .ex (.bool (decide (¬ (Rise ((m : Int) - 1) (gl F (i : Int)))))), .ex (.bool (false)), .ex (.int .i64 ((i : Int))), .ex (.bool (decide (((0 : Int)) < ((i : Int))))), .ex (.bool (true)), .ex (.pointer (ptrAt (Ab) 1)), .ex (.slice (A) (n) (c)), .ex (.int .i64 ((i : Int))), .ex (.int .i64 (((i : Int)) - ((1 : Int)))), .ex (.pointer (ptrAt (A) (((i : Int)) - ((1 : Int))).toNat)), .ex (.slice ((rg (rs) (((i : Int)) - ((1 : Int)))).a) ((rg (rs) (((i : Int)) - ((1 : Int)))).n) ((rg (rs) (((i : Int)) - ((1 : Int)))).c)), .ex (.pointer (ptrAt (Ab) 1)), .ex (.slice (A) (n) (c)), .ex (.int .i64 ((i : Int))), .ex (.pointer (ptrAt (A) ((i : Int)).toNat)), .ex (.slice ((rg (rs) ((i : Int))).a) ((rg (rs) ((i : Int))).n) ((rg (rs) ((i : Int))).c)), .ex (.bool (decide (lexC (gl F ((i : Int) - 1)) (gl F (i : Int)) < 0))), .ex (.bool (decide (¬ (lexC (gl F ((i : Int) - 1)) (gl F (i : Int)) < 0)))), .ex (.bool (decide (¬ (lexC (gl F ((i : Int) - 1)) (gl F (i : Int)) < 0)))), .ex (.bool (true))] (by kernel_rfl) (by kernel_rfl) rfl (List.forall_mem_cons.2 ⟨Yd.lasts_ex _, (List.forall_mem_cons.2 ⟨Yd.lasts_ex _, (List.forall_mem_cons.2 ⟨Yd.lasts_ex _, (List.forall_mem_cons.2 ⟨Yd.lasts_ex _, (List.forall_mem_cons.2 ⟨Yd.lasts_ex _, (List.forall_mem_cons.2 ⟨Yd.lasts_ex _, (List.forall_mem_cons.2 ⟨Yd.lasts_ex _, (List.forall_mem_cons.2 ⟨Yd.lasts_ex _, (List.forall_mem_cons.2 ⟨Yd.lasts_ex _, (List.forall_mem_cons.2 ⟨Yd.lasts_ex _, (List.forall_mem_cons.2 ⟨Yd.lasts_ex _, (List.forall_mem_cons.2 ⟨Yd.lasts_ex _, (List.forall_mem_cons.2 ⟨Yd.lasts_ex _, (List.forall_mem_cons.2 ⟨Yd.lasts_ex _, (List.forall_mem_cons.2 ⟨Yd.lasts_ex _, (List.forall_mem_cons.2 ⟨Yd.lasts_ex _, (List.forall_mem_cons.2 ⟨Yd.lasts_ex _, (List.forall_mem_cons.2 ⟨Yd.lasts_ex _, (List.forall_mem_cons.2 ⟨Yd.lasts_ex _, (List.forall_mem_cons.2 ⟨Yd.lasts_ex _, (List.forall_mem_cons.2 ⟨Yd.lasts_ex _, (List.forall_mem_cons.2 ⟨Yd.lasts_ex _, (List.forall_mem_cons.2 ⟨Yd.lasts_ex _, (List.forall_mem_cons.2 ⟨Yd.lasts_ex _, (List.forall_mem_cons.2 ⟨Yd.lasts_ex _, (List.forall_mem_cons.2 ⟨Yd.lasts_ex _, (List.forall_mem_cons.2 ⟨Yd.lasts_ex _, (List.forall_mem_cons.2 ⟨Yd.lasts_ex _, (List.forall_mem_cons.2 ⟨Yd.lasts_ex _, (List.forall_mem_cons.2 ⟨Yd.lasts_ex _, (List.forall_mem_cons.2 ⟨Yd.lasts_ex _, (List.forall_mem_cons.2 ⟨Yd.lasts_ex _, (List.forall_mem_cons.2 ⟨Yd.lasts_ex _, (List.forall_mem_cons.2 ⟨Yd.lasts_ex _, (List.forall_mem_cons.2 ⟨Yd.lasts_ex _, (List.forall_mem_cons.2 ⟨Yd.lasts_ex _, (List.forall_mem_cons.2 ⟨Yd.lasts_ex _, (List.forall_mem_cons.2 ⟨Yd.lasts_ex _, (List.forall_mem_cons.2 ⟨Yd.lasts_ex _, (List.forall_mem_cons.2 ⟨Yd.lasts_ex _, (List.forall_mem_cons.2 ⟨Yd.lasts_ex _, (List.forall_mem_cons.2 ⟨Yd.lasts_ex _, (List.forall_mem_cons.2 ⟨Yd.lasts_ex _, (List.forall_mem_cons.2 ⟨Yd.lasts_ex _, (List.forall_mem_cons.2 ⟨Yd.lasts_ex _, (List.forall_mem_cons.2 ⟨Yd.lasts_ex _, (List.forall_mem_cons.2 ⟨Yd.lasts_ex _, (fun _ h => by cases h)⟩)⟩)⟩)⟩)⟩)⟩)⟩)⟩)⟩)⟩)⟩)⟩)⟩)⟩)⟩)⟩)⟩)⟩)⟩)⟩)⟩)⟩)⟩)⟩)⟩)⟩)⟩)⟩)⟩)⟩)⟩)⟩)⟩)⟩)⟩)⟩)⟩)⟩)⟩)⟩)⟩)⟩)⟩)⟩)⟩)⟩)⟩) ⟨?_, ?_, ?_, ?_, ?_, ?_, ?_, ?_, ?_, ?_, ?_, ?_, ?_, ?_, ?_, ?_, ?_, ?_, ?_, ?_, ?_, ?_, ?_, ?_, ?_, ?_, ?_, ?_, ?_, ?_, ?_, ?_, ?_, ?_, ?_, ?_, ?_, ?_, ?_, ?_, ?_, ?_, ?_, ?_, ?_, ?_, ?_, trivial⟩ ?_
          · intro e1 w1 hb hp hun
            refine Ops.fld (hB3.below hb) rfl rfl rfl rfl inferInstance ?_
            refine Ops.nil ?_
            exact After.dn (Below.refl _ _) (by exact rfl)
          · intro e1 w1 hb hp hun
            refine Ops.ldf_s (hB3.below hb) rfl rfl rfl rfl rfl ?_
            refine Ops.nil ?_
            exact After.dn (Below.refl _ _) (by exact rfl)
          · intro e1 w1 hb hp hun
            refine Ops.mv_int rfl rfl rfl ?_
            refine Ops.nil ?_
            exact After.dn (Below.refl _ _) (by exact rfl)
          · intro e1 w1 hb hp hun
            refine Ops.idx (hM.top.later hb).2 rfl rfl rfl (by omega) (by omega) ?_
            refine Ops.nil ?_
            exact After.dn (Below.refl _ _) (by exact rfl)
          · intro e1 w1 hb hp hun
            refine Ops.ld_sl (hM.top.later hb) rfl (by omega) rfl rfl ?_
            refine Ops.nil ?_
            exact After.dn (Below.refl _ _) (by exact rfl)
          · intro e1 w1 hb hp hun
            refine Ops.len rfl rfl ?_
            refine Ops.nil ?_
            exact After.dn (Below.refl _ _) (by exact rfl)
          · intro e1 w1 hb hp hun
            refine Ops.lss rfl rfl rfl ?_
            refine Ops.nil ?_
            exact After.dn (Below.refl _ _) (by exact rfl)
          · intro e1 w1 hb hp hun
            refine Ops.mv_bool rfl rfl rfl ?_
            refine Ops.nil ?_
            exact After.dn (Below.refl _ _) (by exact congrArg Value.bool (decide_eq_false h4))
          · intro e1 w1 hb hp hun
            refine Ops.rung rfl rfl rfl ?_
            refine Ops.fld (hB3.below hb) rfl rfl rfl rfl inferInstance ?_
            refine Ops.nil ?_
            exact After.dn (Below.refl _ _) (by exact rfl)
          · intro e1 w1 hb hp hun
            refine Ops.rung rfl rfl rfl ?_
            refine Ops.ldf_s (hB3.below hb) rfl rfl rfl rfl rfl ?_
            refine Ops.nil ?_
            exact After.dn (Below.refl _ _) (by exact rfl)
          · intro e1 w1 hb hp hun
            refine Ops.rung rfl rfl rfl ?_
            refine Ops.mv_int rfl rfl rfl ?_
            refine Ops.nil ?_
            exact After.dn (Below.refl _ _) (by exact rfl)
          · intro e1 w1 hb hp hun
            refine Ops.rung rfl rfl rfl ?_
            refine Ops.idx (hM.top.later hb).2 rfl rfl rfl (by omega) (by omega) ?_
            refine Ops.nil ?_
            exact After.dn (Below.refl _ _) (by exact rfl)
          · intro e1 w1 hb hp hun
            refine Ops.rung rfl rfl rfl ?_
            refine Ops.ld_sl (hM.top.later hb) rfl (by omega) rfl rfl ?_
            refine Ops.nil ?_
            exact After.dn (Below.refl _ _) (by exact rfl)
          · intro e1 w1 hb hp hun
            refine Ops.rung rfl rfl rfl ?_
            refine Ops.len rfl rfl ?_
            refine Ops.nil ?_
            exact After.dn (Below.refl _ _) (by exact rfl)
          · intro e1 w1 hb hp hun
            refine Ops.rung rfl rfl rfl ?_
            refine Ops.gtr rfl rfl rfl ?_
            refine Ops.nil ?_
            exact After.dn (Below.refl _ _) (by exact rfl)
          · intro e1 w1 hb hp hun
            refine Ops.pick_f rfl rfl rfl ?_
            refine Ops.nil ?_
            exact After.dn (Below.refl _ _) (by exact rfl)
          · intro e1 w1 hb hp hun
            refine Ops.mv_bool rfl rfl rfl ?_
            refine Ops.nil ?_
            exact After.dn (Below.refl _ _) (by exact congrArg Value.bool (decide_eq_false h5))
          · intro e1 w1 hb hp hun
            refine Ops.rung rfl rfl rfl ?_
            refine Ops.fld (hB3.below hb) rfl rfl rfl rfl inferInstance ?_
            refine Ops.nil ?_
            exact After.dn (Below.refl _ _) (by exact rfl)
          · intro e1 w1 hb hp hun
            refine Ops.rung rfl rfl rfl ?_
            refine Ops.ldf_s (hB3.below hb) rfl rfl rfl rfl rfl ?_
            refine Ops.nil ?_
            exact After.dn (Below.refl _ _) (by exact rfl)
          · intro e1 w1 hb hp hun
            refine Ops.rung rfl rfl rfl ?_
            refine Ops.mv_int rfl rfl rfl ?_
            refine Ops.nil ?_
            exact After.dn (Below.refl _ _) (by exact rfl)
          · intro e1 w1 hb hp hun
            refine Ops.rung rfl rfl rfl ?_
            refine Ops.idx (hM.top.later hb).2 rfl rfl rfl (by omega) (by omega) ?_
            refine Ops.nil ?_
            exact After.dn (Below.refl _ _) (by exact rfl)
          · intro e1 w1 hb hp hun
            refine Ops.rung rfl rfl rfl ?_
            refine Ops.ld_sl (hM.top.later hb) rfl (by omega) rfl rfl ?_
            refine Ops.nil ?_
            exact After.dn (Below.refl _ _) (by exact rfl)
          · intro e1 w1 hb hp hun
            refine Ops.rung rfl rfl rfl ?_
            refine Ops.fld (hB3.below hb) rfl rfl rfl rfl inferInstance ?_
            refine Ops.nil ?_
            exact After.dn (Below.refl _ _) (by exact rfl)
          · intro e1 w1 hb hp hun
            refine Ops.rung rfl rfl rfl ?_
            refine Ops.ldf_i (hB3.below hb) rfl rfl rfl rfl rfl ?_
            refine Ops.nil ?_
            exact After.dn (Below.refl _ _) (by exact rfl)
          · intro e1 w1 hb hp hun
            refine Ops.rung rfl rfl rfl ?_
            refine Ops.sub rfl rfl rfl (by omega) ?_
            refine Ops.nil ?_
            exact After.dn (Below.refl _ _) (by exact rfl)
          · intro e1 w1 hb hp hun
            refine Ops.rung rfl rfl rfl ?_
            refine Ops.call (l17Rises_c _ _ _ _ _ _ (hrow.later hb) (by omega)) rfl rfl rfl ?_
            rintro _ w2 ⟨rfl, hst⟩
            refine Ops.nil ?_
            exact After.dn hst.below (by exact rfl)
          · intro e1 w1 hb hp hun
            refine Ops.rung rfl rfl rfl ?_
            refine Ops.not_p rfl rfl ?_
            refine Ops.nil ?_
            exact After.dn (Below.refl _ _) (by exact rfl)
          · intro e1 w1 hb hp hun
            refine Ops.pick_f rfl rfl rfl ?_
            refine Ops.nil ?_
            exact After.dn (Below.refl _ _) (by exact rfl)
          · intro e1 w1 hb hp hun
            refine Ops.mv_bool rfl rfl rfl ?_
            refine Ops.nil ?_
            exact After.dn (Below.refl _ _) (by exact congrArg Value.bool (decide_eq_false (fun h => h h6)))
          · intro e1 w1 hb hp hun
            refine Ops.rung rfl rfl rfl ?_
            refine Ops.mv_int rfl rfl rfl ?_
            refine Ops.nil ?_
            exact After.dn (Below.refl _ _) (by exact rfl)
          · intro e1 w1 hb hp hun
            refine Ops.rung rfl rfl rfl ?_
            refine Ops.gtr rfl rfl rfl ?_
            refine Ops.nil ?_
            exact After.dn (Below.refl _ _) (by exact rfl)
          · intro e1 w1 hb hp hun
            refine Ops.rung rfl rfl rfl ?_
            refine Ops.mv_bool rfl rfl rfl ?_
            refine Ops.nil ?_
            exact After.dn (Below.refl _ _) (by exact congrArg Value.bool (decide_eq_true h7))
          · intro e1 w1 hb hp hun
            refine Ops.rung rfl rfl rfl ?_
            refine Ops.fld (hB3.below hb) rfl rfl rfl rfl inferInstance ?_
            refine Ops.nil ?_
            exact After.dn (Below.refl _ _) (by exact rfl)
          · intro e1 w1 hb hp hun
            refine Ops.rung rfl rfl rfl ?_
            refine Ops.ldf_s (hB3.below hb) rfl rfl rfl rfl rfl ?_
            refine Ops.nil ?_
            exact After.dn (Below.refl _ _) (by exact rfl)
          · intro e1 w1 hb hp hun
            refine Ops.rung rfl rfl rfl ?_
            refine Ops.mv_int rfl rfl rfl ?_
            refine Ops.nil ?_
            exact After.dn (Below.refl _ _) (by exact rfl)
          · intro e1 w1 hb hp hun
            refine Ops.rung rfl rfl rfl ?_
            refine Ops.sub rfl rfl rfl (by omega) ?_
            refine Ops.nil ?_
            exact After.dn (Below.refl _ _) (by exact rfl)
          · intro e1 w1 hb hp hun
            refine Ops.rung rfl rfl rfl ?_
            refine Ops.idx (hM.top.later hb).2 rfl rfl rfl (by omega) (by omega) ?_
            refine Ops.nil ?_
            exact After.dn (Below.refl _ _) (by exact rfl)
          · intro e1 w1 hb hp hun
            refine Ops.rung rfl rfl rfl ?_
            refine Ops.ld_sl (hM.top.later hb) rfl (by omega) rfl rfl ?_
            refine Ops.nil ?_
            exact After.dn (Below.refl _ _) (by exact rfl)
          · intro e1 w1 hb hp hun
            refine Ops.rung rfl rfl rfl ?_
            refine Ops.fld (hB3.below hb) rfl rfl rfl rfl inferInstance ?_
            refine Ops.nil ?_
            exact After.dn (Below.refl _ _) (by exact rfl)
          · intro e1 w1 hb hp hun
            refine Ops.rung rfl rfl rfl ?_
            refine Ops.ldf_s (hB3.below hb) rfl rfl rfl rfl rfl ?_
            refine Ops.nil ?_
            exact After.dn (Below.refl _ _) (by exact rfl)
          · intro e1 w1 hb hp hun
            refine Ops.rung rfl rfl rfl ?_
            refine Ops.mv_int rfl rfl rfl ?_
            refine Ops.nil ?_
            exact After.dn (Below.refl _ _) (by exact rfl)
          · intro e1 w1 hb hp hun
            refine Ops.rung rfl rfl rfl ?_
            refine Ops.idx (hM.top.later hb).2 rfl rfl rfl (by omega) (by omega) ?_
            refine Ops.nil ?_
            exact After.dn (Below.refl _ _) (by exact rfl)
          · intro e1 w1 hb hp hun
            refine Ops.rung rfl rfl rfl ?_
            refine Ops.ld_sl (hM.top.later hb) rfl (by omega) rfl rfl ?_
            refine Ops.nil ?_
            exact After.dn (Below.refl _ _) (by exact rfl)
          · intro e1 w1 hb hp hun
            refine Ops.rung rfl rfl rfl ?_
            refine Ops.call (l01Less_c _ _ _ _ _ _ _ _ _ (hrow'.later hb) (hrow.later hb) (by have := hrow'.1; have := (hM.cap_ (i := (i : Int) - 1) (by omega) (by omega)); omega)) rfl rfl rfl ?_
            rintro _ w2 ⟨rfl, hst⟩
            refine Ops.nil ?_
            exact After.dn hst.below (by exact rfl)
          · intro e1 w1 hb hp hun
            refine Ops.rung rfl rfl rfl ?_
            refine Ops.not_p rfl rfl ?_
            refine Ops.nil ?_
            exact After.dn (Below.refl _ _) (by exact rfl)
          · intro e1 w1 hb hp hun
            refine Ops.rung rfl rfl rfl ?_
            refine Ops.pick_t rfl rfl rfl ?_
            refine Ops.nil ?_
            exact After.dn (Below.refl _ _) (by exact rfl)
          · intro e1 w1 hb hp hun
            refine Ops.pick_f rfl rfl rfl ?_
            refine Ops.nil ?_
            exact After.dn (Below.refl _ _) (by exact congrArg Value.bool (decide_eq_true h8))
          intro u w4 hb _
          refine thenQ_n ?_
          refine Cd.cond_t rfl ?_
          refine Cd.seq ?_
          refine Cd.region ?_
          refine Ops.mv_bool rfl rfl rfl ?_
          refine Ops.nil ?_
          refine thenQ_n ?_
          refine Cd.ret ?_
          refine thenQ_r ?_
          refine blockQ_r ?_
          refine thenQ_r ?_
          refine thenQ_r ?_
          refine blockQ_r ?_
          refine thenQ_r ?_
          refine ret1_b rfl ?_
          exact ⟨by rw [decide_eq_false (fun h : Cplx m F => h8 (h.lt (by omega) hiF))], hS3.none.later hb⟩
      · refine Cd.draw [.ex (.pointer (ptrAt (Ab) 1)), .ex (.slice (A) (n) (c)), .ex (.int .i64 ((i : Int))), .ex (.pointer (ptrAt (A) ((i : Int)).toNat)), .ex (.slice ((rg (rs) ((i : Int))).a) ((rg (rs) ((i : Int))).n) ((rg (rs) ((i : Int))).c)), .ex (.int .i64 ((((rg (rs) ((i : Int))).n : Nat) : Int))), .ex (.bool (decide (((((rg (rs) ((i : Int))).n : Nat) : Int)) < ((1 : Int))))), .ex (.bool (false)), .ex (.pointer (ptrAt (Ab) 1)), .ex (.slice (A) (n) (c)), .ex (.int .i64 ((i : Int))), .ex (.pointer (ptrAt (A) ((i : Int)).toNat)), .ex (.slice ((rg (rs) ((i : Int))).a) ((rg (rs) ((i : Int))).n) ((rg (rs) ((i : Int))).c)), .ex (.int .i64 ((((rg (rs) ((i : Int))).n : Nat) : Int))), .ex (.bool (decide (((6 : Int)) < ((((rg (rs) ((i : Int))).n : Nat) : Int))))), .ex (.bool (decide (((6 : Int)) < ((((rg (rs) ((i : Int))).n : Nat) : Int))))), .ex (.bool (false)), .ex (.pointer (ptrAt (Ab) 1)), .ex (.slice (A) (n) (c)), .ex (.int .i64 ((i : Int))), .ex (.pointer (ptrAt (A) ((i : Int)).toNat)), .ex (.slice ((rg (rs) ((i : Int))).a) ((rg (rs) ((i : Int))).n) ((rg (rs) ((i : Int))).c)), .ex (.pointer (ptrAt (Ab) 0)), .ex (.int .i64 ((m : Int))), .ex (.int .i64 (((m : Int)) - ((1 : Int)))), .ex (.bool (decide (Rise ((m : Int) - 1) (gl F (i : Int))))), .ex (.bool (decide (¬ (Rise ((m : Int) - 1) (gl F (i : Int)))))), .ex (.bool (decide (¬ (Rise ((m : Int) - 1) (gl F (i : Int)))))), .ex (.bool (false)), .ex (.int .i64 ((i : Int))), .ex (.bool (decide (((0 : Int)) < ((i : Int))))), .ex (.bool (false)), .ex (undef), .ex (undef), .ex (undef), .ex (undef), .ex (undef), .ex (undef), .ex (undef), .ex (undef), .ex (undef), .ex (undef), .ex (undef), .ex (undef), .ex (undef), .ex (.bool (false)), .ex (.bool (false))] (by kernel_rfl) (by kernel_rfl) rfl (List.forall_mem_cons.2 ⟨Yd.lasts_ex _, (List.forall_mem_cons.2 ⟨Yd.lasts_ex _, (List.forall_mem_cons.2 ⟨Yd.lasts_ex _, (List.forall_mem_cons.2 ⟨Yd.lasts_ex _, (List.forall_mem_cons.2 ⟨Yd.lasts_ex _, (List.forall_mem_cons.2 ⟨Yd.lasts_ex _, (List.forall_mem_cons.2 ⟨Yd.lasts_ex _, (List.forall_mem_cons.2 ⟨Yd.lasts_ex _, (List.forall_mem_cons.2 ⟨Yd.lasts_ex _, (List.forall_mem_cons.2 ⟨Yd.lasts_ex _, (List.forall_mem_cons.2 ⟨Yd.lasts_ex _, (List.forall_mem_cons.2 ⟨Yd.lasts_ex _, (List.forall_mem_cons.2 ⟨Yd.lasts_ex _, (List.forall_mem_cons.2 ⟨Yd.lasts_ex _, (List.forall_mem_cons.2 ⟨Yd.lasts_ex _, (List.forall_mem_cons.2 ⟨Yd.lasts_ex _, (List.forall_mem_cons.2 ⟨Yd.lasts_ex _, (List.forall_mem_cons.2 ⟨Yd.lasts_ex _, (List.forall_mem_cons.2 ⟨Yd.lasts_ex _, (List.forall_mem_cons.2 ⟨Yd.lasts_ex _, (List.forall_mem_cons.2 ⟨Yd.lasts_ex _, (List.forall_mem_cons.2 ⟨Yd.lasts_ex _, (List.forall_mem_cons.2 ⟨Yd.lasts_ex _, (List.forall_mem_cons.2 ⟨Yd.lasts_ex _, (List.forall_mem_cons.2 ⟨Yd.lasts_ex _, (List.forall_mem_cons.2 ⟨Yd.lasts_ex _, (List.forall_mem_cons.2 ⟨Yd.lasts_ex _, (List.forall_mem_cons.2 ⟨Yd.lasts_ex _, (List.forall_mem_cons.2 ⟨Yd.lasts_ex _, (List.forall_mem_cons.2 ⟨Yd.lasts_ex _, (List.forall_mem_cons.2 ⟨Yd.lasts_ex _, (List.forall_mem_cons.2 ⟨Yd.lasts_ex _, (List.forall_mem_cons.2 ⟨Yd.lasts_ex _, (List.forall_mem_cons.2 ⟨Yd.lasts_ex _, (List.forall_mem_cons.2 ⟨Yd.lasts_ex _, (List.forall_mem_cons.2 ⟨Yd.lasts_ex _, (List.forall_mem_cons.2 ⟨Yd.lasts_ex _, (List.forall_mem_cons.2 ⟨Yd.lasts_ex _, (List.forall_mem_cons.2 ⟨Yd.lasts_ex _, (List.forall_mem_cons.2 ⟨Yd.lasts_ex _, (List.forall_mem_cons.2 ⟨Yd.lasts_ex _, (List.forall_mem_cons.2 ⟨Yd.lasts_ex _, (List.forall_mem_cons.2 ⟨Yd.lasts_ex _, (List.forall_mem_cons.2 ⟨Yd.lasts_ex _, (List.forall_mem_cons.2 ⟨Yd.lasts_ex _, (List.forall_mem_cons.2 ⟨Yd.lasts_ex _, (List.forall_mem_cons.2 ⟨Yd.lasts_ex _, (fun _ h => by cases h)⟩)⟩)⟩)⟩)⟩)⟩)⟩)⟩)⟩)⟩)⟩)⟩)⟩)⟩)⟩)⟩)⟩)⟩)⟩)⟩)⟩)⟩)⟩)⟩)⟩)⟩)⟩)⟩)⟩)⟩)⟩)⟩)⟩)⟩)⟩)⟩)⟩)⟩)⟩)⟩)⟩)⟩)⟩)⟩)⟩)⟩)⟩) ⟨?_, ?_, ?_, ?_, ?_, ?_, ?_, ?_, ?_, ?_, ?_, ?_, ?_, ?_, ?_, ?_, ?_, ?_, ?_, ?_, ?_, ?_, ?_, ?_, ?_, ?_, ?_, ?_, ?_, ?_, ?_, ?_, ?_, ?_, ?_, ?_, ?_, ?_, ?_, ?_, ?_, ?_, ?_, ?_, ?_, ?_, ?_, trivial⟩ ?_
        · intro e1 w1 hb hp hun
          refine Ops.fld (hB3.below hb) rfl rfl rfl rfl inferInstance ?_
          refine Ops.nil ?_
          exact After.dn (Below.refl _ _) (by exact rfl)
        · intro e1 w1 hb hp hun
          refine Ops.ldf_s (hB3.below hb) rfl rfl rfl rfl rfl ?_
          refine Ops.nil ?_
          exact After.dn (Below.refl _ _) (by exact rfl)
        · intro e1 w1 hb hp hun
          refine Ops.mv_int rfl rfl rfl ?_
          refine Ops.nil ?_
          exact After.dn (Below.refl _ _) (by exact rfl)
        · intro e1 w1 hb hp hun
          refine Ops.idx (hM.top.later hb).2 rfl rfl rfl (by omega) (by omega) ?_
          refine Ops.nil ?_
          exact After.dn (Below.refl _ _) (by exact rfl)
        · intro e1 w1 hb hp hun
          refine Ops.ld_sl (hM.top.later hb) rfl (by omega) rfl rfl ?_
          refine Ops.nil ?_
          exact After.dn (Below.refl _ _) (by exact rfl)
        · intro e1 w1 hb hp hun
          refine Ops.len rfl rfl ?_
          refine Ops.nil ?_
          exact After.dn (Below.refl _ _) (by exact rfl)
        · intro e1 w1 hb hp hun
          refine Ops.lss rfl rfl rfl ?_
          refine Ops.nil ?_
          exact After.dn (Below.refl _ _) (by exact rfl)
        · intro e1 w1 hb hp hun
          refine Ops.mv_bool rfl rfl rfl ?_
          refine Ops.nil ?_
          exact After.dn (Below.refl _ _) (by exact congrArg Value.bool (decide_eq_false h4))
        · intro e1 w1 hb hp hun
          refine Ops.rung rfl rfl rfl ?_
          refine Ops.fld (hB3.below hb) rfl rfl rfl rfl inferInstance ?_
          refine Ops.nil ?_
          exact After.dn (Below.refl _ _) (by exact rfl)
        · intro e1 w1 hb hp hun
          refine Ops.rung rfl rfl rfl ?_
          refine Ops.ldf_s (hB3.below hb) rfl rfl rfl rfl rfl ?_
          refine Ops.nil ?_
          exact After.dn (Below.refl _ _) (by exact rfl)
        · intro e1 w1 hb hp hun
          refine Ops.rung rfl rfl rfl ?_
          refine Ops.mv_int rfl rfl rfl ?_
          refine Ops.nil ?_
          exact After.dn (Below.refl _ _) (by exact rfl)
        · intro e1 w1 hb hp hun
          refine Ops.rung rfl rfl rfl ?_
          refine Ops.idx (hM.top.later hb).2 rfl rfl rfl (by omega) (by omega) ?_
          refine Ops.nil ?_
          exact After.dn (Below.refl _ _) (by exact rfl)
        · intro e1 w1 hb hp hun
          refine Ops.rung rfl rfl rfl ?_
          refine Ops.ld_sl (hM.top.later hb) rfl (by omega) rfl rfl ?_
          refine Ops.nil ?_
          exact After.dn (Below.refl _ _) (by exact rfl)
        · intro e1 w1 hb hp hun
          refine Ops.rung rfl rfl rfl ?_
          refine Ops.len rfl rfl ?_
          refine Ops.nil ?_
          exact After.dn (Below.refl _ _) (by exact rfl)
        · intro e1 w1 hb hp hun
          refine Ops.rung rfl rfl rfl ?_
          refine Ops.gtr rfl rfl rfl ?_
          refine Ops.nil ?_
          exact After.dn (Below.refl _ _) (by exact rfl)
        · intro e1 w1 hb hp hun
          refine Ops.pick_f rfl rfl rfl ?_
          refine Ops.nil ?_
          exact After.dn (Below.refl _ _) (by exact rfl)
        · intro e1 w1 hb hp hun
          refine Ops.mv_bool rfl rfl rfl ?_
          refine Ops.nil ?_
          exact After.dn (Below.refl _ _) (by exact congrArg Value.bool (decide_eq_false h5))
        · intro e1 w1 hb hp hun
          refine Ops.rung rfl rfl rfl ?_
          refine Ops.fld (hB3.below hb) rfl rfl rfl rfl inferInstance ?_
          refine Ops.nil ?_
          exact After.dn (Below.refl _ _) (by exact rfl)
        · intro e1 w1 hb hp hun
          refine Ops.rung rfl rfl rfl ?_
          refine Ops.ldf_s (hB3.below hb) rfl rfl rfl rfl rfl ?_
          refine Ops.nil ?_
          exact After.dn (Below.refl _ _) (by exact rfl)
        · intro e1 w1 hb hp hun
          refine Ops.rung rfl rfl rfl ?_
          refine Ops.mv_int rfl rfl rfl ?_
          refine Ops.nil ?_
          exact After.dn (Below.refl _ _) (by exact rfl)
        · intro e1 w1 hb hp hun
          refine Ops.rung rfl rfl rfl ?_
          refine Ops.idx (hM.top.later hb).2 rfl rfl rfl (by omega) (by omega) ?_
          refine Ops.nil ?_
          exact After.dn (Below.refl _ _) (by exact rfl)
        · intro e1 w1 hb hp hun
          refine Ops.rung rfl rfl rfl ?_
          refine Ops.ld_sl (hM.top.later hb) rfl (by omega) rfl rfl ?_
          refine Ops.nil ?_
          exact After.dn (Below.refl _ _) (by exact rfl)
        · intro e1 w1 hb hp hun
          refine Ops.rung rfl rfl rfl ?_
          refine Ops.fld (hB3.below hb) rfl rfl rfl rfl inferInstance ?_
          refine Ops.nil ?_
          exact After.dn (Below.refl _ _) (by exact rfl)
        · intro e1 w1 hb hp hun
          refine Ops.rung rfl rfl rfl ?_
          refine Ops.ldf_i (hB3.below hb) rfl rfl rfl rfl rfl ?_
          refine Ops.nil ?_
          exact After.dn (Below.refl _ _) (by exact rfl)
        · intro e1 w1 hb hp hun
          refine Ops.rung rfl rfl rfl ?_
          refine Ops.sub rfl rfl rfl (by omega) ?_
          refine Ops.nil ?_
          exact After.dn (Below.refl _ _) (by exact rfl)
        · intro e1 w1 hb hp hun
          refine Ops.rung rfl rfl rfl ?_
          refine Ops.call (l17Rises_c _ _ _ _ _ _ (hrow.later hb) (by omega)) rfl rfl rfl ?_
          rintro _ w2 ⟨rfl, hst⟩
          refine Ops.nil ?_
          exact After.dn hst.below (by exact rfl)
        · intro e1 w1 hb hp hun
          refine Ops.rung rfl rfl rfl ?_
          refine Ops.not_p rfl rfl ?_
          refine Ops.nil ?_
          exact After.dn (Below.refl _ _) (by exact rfl)
        · intro e1 w1 hb hp hun
          refine Ops.pick_f rfl rfl rfl ?_
          refine Ops.nil ?_
          exact After.dn (Below.refl _ _) (by exact rfl)
        · intro e1 w1 hb hp hun
          refine Ops.mv_bool rfl rfl rfl ?_
          refine Ops.nil ?_
          exact After.dn (Below.refl _ _) (by exact congrArg Value.bool (decide_eq_false (fun h => h h6)))
        · intro e1 w1 hb hp hun
          refine Ops.rung rfl rfl rfl ?_
          refine Ops.mv_int rfl rfl rfl ?_
          refine Ops.nil ?_
          exact After.dn (Below.refl _ _) (by exact rfl)
        · intro e1 w1 hb hp hun
          refine Ops.rung rfl rfl rfl ?_
          refine Ops.gtr rfl rfl rfl ?_
          refine Ops.nil ?_
          exact After.dn (Below.refl _ _) (by exact rfl)
        · intro e1 w1 hb hp hun
          refine Ops.rung rfl rfl rfl ?_
          refine Ops.mv_bool rfl rfl rfl ?_
          refine Ops.nil ?_
          exact After.dn (Below.refl _ _) (by exact congrArg Value.bool (decide_eq_false h7))
        · intro e1 w1 hb hp hun
          refine Ops.skipg rfl rfl rfl rfl rfl ?_
          refine Ops.nil ?_
          exact After.dn (Below.refl _ _) (by exact rfl)
        · intro e1 w1 hb hp hun
          refine Ops.skipg rfl rfl rfl rfl rfl ?_
          refine Ops.nil ?_
          exact After.dn (Below.refl _ _) (by exact rfl)
        · intro e1 w1 hb hp hun
          refine Ops.skipg rfl rfl rfl rfl rfl ?_
          refine Ops.nil ?_
          exact After.dn (Below.refl _ _) (by exact rfl)
        · intro e1 w1 hb hp hun
          refine Ops.skipg rfl rfl rfl rfl rfl ?_
          refine Ops.nil ?_
          exact After.dn (Below.refl _ _) (by exact rfl)
        · intro e1 w1 hb hp hun
          refine Ops.skipg rfl rfl rfl rfl rfl ?_
          refine Ops.nil ?_
          exact After.dn (Below.refl _ _) (by exact rfl)
        · intro e1 w1 hb hp hun
          refine Ops.skipg rfl rfl rfl rfl rfl ?_
          refine Ops.nil ?_
          exact After.dn (Below.refl _ _) (by exact rfl)
        · intro e1 w1 hb hp hun
          refine Ops.skipg rfl rfl rfl rfl rfl ?_
          refine Ops.nil ?_
          exact After.dn (Below.refl _ _) (by exact rfl)
        · intro e1 w1 hb hp hun
          refine Ops.skipg rfl rfl rfl rfl rfl ?_
          refine Ops.nil ?_
          exact After.dn (Below.refl _ _) (by exact rfl)
        · intro e1 w1 hb hp hun
          refine Ops.skipg rfl rfl rfl rfl rfl ?_
          refine Ops.nil ?_
          exact After.dn (Below.refl _ _) (by exact rfl)
        · intro e1 w1 hb hp hun
          refine Ops.skipg rfl rfl rfl rfl rfl ?_
          refine Ops.nil ?_
          exact After.dn (Below.refl _ _) (by exact rfl)
        · intro e1 w1 hb hp hun
          refine Ops.skipg rfl rfl rfl rfl rfl ?_
          refine Ops.nil ?_
          exact After.dn (Below.refl _ _) (by exact rfl)
        · intro e1 w1 hb hp hun
          refine Ops.skipg rfl rfl rfl rfl rfl ?_
          refine Ops.nil ?_
          exact After.dn (Below.refl _ _) (by exact rfl)
        · intro e1 w1 hb hp hun
          refine Ops.skipg rfl rfl rfl rfl rfl ?_
          refine Ops.nil ?_
          exact After.dn (Below.refl _ _) (by exact rfl)
        · intro e1 w1 hb hp hun
          refine Ops.rung rfl rfl rfl ?_
          refine Ops.pick_f rfl rfl rfl ?_
          refine Ops.nil ?_
          exact After.dn (Below.refl _ _) (by exact rfl)
        · intro e1 w1 hb hp hun
          refine Ops.pick_f rfl rfl rfl ?_
          refine Ops.nil ?_
          exact After.dn (Below.refl _ _) (by exact rfl)
        have hnext := hP.step hiF hg1 (.inl (by omega))
        intro u w4 hb _
        have hS4 := hS3.later hb
        refine thenQ_n ?_
        refine Cd.cond_f rfl ?_
        refine Cd.skip ?_
        refine thenQ_n ?_
        refine Cd.seq ?_
        refine Cd.region ?_
        refine Ops.mv_int rfl rfl rfl ?_
        refine Ops.nil ?_
        refine thenQ_n ?_
        refine Cd.block ?_
        refine Cd.loop (α := Nat) (fun j => [(1, .pointer Ab), (3, .slice A3 m m), (4, .int .i64 (i : Int)), (5, .int .i64 (j : Int))]) (fun j w' => j ≤ (gl F (i : Int)).length ∧ St w w' [CkB 4 A3 m m (pnt (mk0 m) ((F.take i).flatten ++ (gl F (i : Int)).take j)), cxB Ab m A n c]) (fun j => (gl F (i : Int)).length - j) 0 ⟨rfl, rfl, rfl, rfl, trivial⟩ ⟨Nat.zero_le _, by rw [List.take_zero, List.append_nil]; exact hS4⟩ ?_
        rintro j e w5 ⟨hj, hS5⟩
        have hB5 := hS5.rd 1 rfl
        have hM5 := hS5.oldRows hR
        have hrow5 := hM5.at_ (i := (i : Int)) (by omega) (by omega)
        refine Cd.seq ?_
        refine Cd.seq ?_
        refine Cd.region ?_
        refine Ops.mv_int rfl rfl rfl ?_
        refine Ops.fld hB5 rfl rfl rfl rfl inferInstance ?_
        refine Ops.ldf_s hB5 rfl rfl rfl rfl rfl ?_
        refine Ops.mv_int rfl rfl rfl ?_
        refine Ops.idx hM5.top.2 rfl rfl rfl (by omega) (by omega) ?_
        refine Ops.ld_sl hM5.top rfl (by omega) rfl rfl ?_
        refine Ops.len rfl rfl ?_
        refine Ops.lss rfl rfl rfl ?_
        refine Ops.nil ?_
        refine thenQ_n ?_
        refine Cd.cond_p _ rfl (fun h9 => ?_) (fun h9 => ?_)
        · have hjl : j < (gl F (i : Int)).length := by omega
          have hjr := hg1.2.2 (gi (gl F (i : Int)) (j : Int)) (by rw [gi_mem hjl]; exact List.getElem_mem _)
          have hH := hS5.rdB 0 rfl
          refine Cd.skip ?_
          refine thenQ_n ?_
          refine Cd.seq ?_
          refine Cd.block ?_
          refine Cd.region ?_
          refine Ops.mv_sl rfl rfl rfl ?_
          refine Ops.fld hB5 rfl rfl rfl rfl inferInstance ?_
          refine Ops.ldf_s hB5 rfl rfl rfl rfl rfl ?_
          refine Ops.mv_int rfl rfl rfl ?_
          refine Ops.idx hM5.top.2 rfl rfl rfl (by omega) (by omega) ?_
          refine Ops.ld_sl hM5.top rfl (by omega) rfl rfl ?_
          refine Ops.mv_int rfl rfl rfl ?_
          refine Ops.idx hrow5.2 rfl rfl rfl (by omega) (by omega) ?_
          refine Ops.ld_int hrow5 rfl (by omega) rfl rfl ?_
          refine Ops.idx hH.2 rfl rfl rfl (by omega) (by omega) ?_
          refine Ops.st_bool 0 hS5 rfl rfl rfl (by omega) ?_
          intro w6 hS6
          refine Ops.nil ?_
          refine blockQ_n ?_
          refine thenQ_n ?_
          refine Cd.region ?_
          refine Ops.mv_int rfl rfl rfl ?_
          refine Ops.add rfl rfl rfl (by omega) ?_
          refine Ops.mv_int rfl rfl rfl ?_
          refine Ops.nil ?_
          refine thenQ_n ?_
          refine ⟨j + 1, by show (gl F (i : Int)).length - (j + 1) < (gl F (i : Int)).length - j; omega, ⟨rfl, rfl, rfl, rfl, trivial⟩, by omega, ?_⟩
          rw [take_succ_gi hjl, ← List.append_assoc, pnt_snoc]
          exact hS6
        · rw [show (gl F (i : Int)).take j = gl F (i : Int) from List.take_of_length_le (by omega)] at hS5
          refine Cd.exit ?_
          refine thenQ_x ?_
          refine thenQ_x ?_
          refine blockQ_x ?_
          refine blockQ_n ?_
          refine thenQ_n ?_
          refine Cd.region ?_
          refine Ops.mv_int rfl rfl rfl ?_
          refine Ops.add rfl rfl rfl (by omega) ?_
          refine Ops.mv_int rfl rfl rfl ?_
          refine Ops.nil ?_
          refine thenQ_n ?_
          refine ⟨i + 1, by show n - (i + 1) < n - i; omega, ⟨rfl, rfl, rfl, trivial⟩, by omega, hnext, ?_⟩
          rw [take_succ_gl hiF, List.flatten_append]
          simpa using hS5
    · refine Cd.draw [.ex (.pointer (ptrAt (Ab) 1)), .ex (.slice (A) (n) (c)), .ex (.int .i64 ((i : Int))), .ex (.pointer (ptrAt (A) ((i : Int)).toNat)), .ex (.slice ((rg (rs) ((i : Int))).a) ((rg (rs) ((i : Int))).n) ((rg (rs) ((i : Int))).c)), .ex (.int .i64 ((((rg (rs) ((i : Int))).n : Nat) : Int))), .ex (.bool (decide (((((rg (rs) ((i : Int))).n : Nat) : Int)) < ((1 : Int))))), .ex (.bool (false)), .ex (.pointer (ptrAt (Ab) 1)), .ex (.slice (A) (n) (c)), .ex (.int .i64 ((i : Int))), .ex (.pointer (ptrAt (A) ((i : Int)).toNat)), .ex (.slice ((rg (rs) ((i : Int))).a) ((rg (rs) ((i : Int))).n) ((rg (rs) ((i : Int))).c)), .ex (.int .i64 ((((rg (rs) ((i : Int))).n : Nat) : Int))), .ex (.bool (decide (((6 : Int)) < ((((rg (rs) ((i : Int))).n : Nat) : Int))))), .ex (.bool (decide (((6 : Int)) < ((((rg (rs) ((i : Int))).n : Nat) : Int))))), .ex (.bool (false)), .ex (.pointer (ptrAt (Ab) 1)), .ex (.slice (A) (n) (c)), .ex (.int .i64 ((i : Int))), .ex (.pointer (ptrAt (A) ((i : Int)).toNat)), .ex (.slice ((rg (rs) ((i : Int))).a) ((rg (rs) ((i : Int))).n) ((rg (rs) ((i : Int))).c)), .ex (.pointer (ptrAt (Ab) 0)), .ex (.int .i64 ((m : Int))), .ex (.int .i64 (((m : Int)) - ((1 : Int)))), .ex (.bool (decide (Rise ((m : Int) - 1) (gl F (i : Int))))), .ex (.bool (decide (¬ (Rise ((m : Int) - 1) (gl F (i : Int)))))), .ex (.bool (decide (¬ (Rise ((m : Int) - 1) (gl F (i : Int)))))), .ex (.bool (true)), .ex (undef), .ex (undef), .ex (undef), .ex (undef), .ex (undef), .ex (undef), .ex (undef), .ex (undef), .ex (undef), .ex (undef), .ex (undef), .ex (undef), .ex (undef), .ex (undef), .ex (undef), .ex (undef), .ex (undef), .ex (.bool (true))] (by kernel_rfl) (by kernel_rfl) rfl (List.forall_mem_cons.2 ⟨Yd.lasts_ex _, (List.forall_mem_cons.2 ⟨Yd.lasts_ex _, (List.forall_mem_cons.2 ⟨Yd.lasts_ex _, (List.forall_mem_cons.2 ⟨Yd.lasts_ex _, (List.forall_mem_cons.2 ⟨Yd.lasts_ex _, (List.forall_mem_cons.2 ⟨Yd.lasts_ex _, (List.forall_mem_cons.2 ⟨Yd.lasts_ex _, (List.forall_mem_cons.2 ⟨Yd.lasts_ex _, (List.forall_mem_cons.2 ⟨Yd.lasts_ex _, (List.forall_mem_cons.2 ⟨Yd.lasts_ex _, (List.forall_mem_cons.2 ⟨Yd.lasts_ex _, (List.forall_mem_cons.2 ⟨Yd.lasts_ex _, (List.forall_mem_cons.2 ⟨Yd.lasts_ex _, (List.forall_mem_cons.2 ⟨Yd.lasts_ex _, (List.forall_mem_cons.2 ⟨Yd.lasts_ex _, (List.forall_mem_cons.2 ⟨Yd.lasts_ex _, (List.forall_mem_cons.2 ⟨Yd.lasts_ex _, (List.forall_mem_cons.2 ⟨Yd.lasts_ex _, (List.forall_mem_cons.2 ⟨Yd.lasts_ex _, (List.forall_mem_cons.2 ⟨Yd.lasts_ex _, (List.forall_mem_cons.2 ⟨Yd.lasts_ex _, (List.forall_mem_cons.2 ⟨Yd.lasts_ex _, (List.forall_mem_cons.2 ⟨Yd.lasts_ex _, (List.forall_mem_cons.2 ⟨Yd.lasts_ex _, (List.forall_mem_cons.2 ⟨Yd.lasts_ex _, (List.forall_mem_cons.2 ⟨Yd.lasts_ex _, (List.forall_mem_cons.2 ⟨Yd.lasts_ex _, (List.forall_mem_cons.2 ⟨Yd.lasts_ex _, (List.forall_mem_cons.2 ⟨Yd.lasts_ex _, (List.forall_mem_cons.2 ⟨Yd.lasts_ex _, (List.forall_mem_cons.2 ⟨Yd.lasts_ex _, (List.forall_mem_cons.2 ⟨Yd.lasts_ex _, (List.forall_mem_cons.2 ⟨Yd.lasts_ex _, (List.forall_mem_cons.2 ⟨Yd.lasts_ex _, (List.forall_mem_cons.2 ⟨Yd.lasts_ex _, (List.forall_mem_cons.2 ⟨Yd.lasts_ex _, (List.forall_mem_cons.2 ⟨Yd.lasts_ex _, (List.forall_mem_cons.2 ⟨Yd.lasts_ex _, (List.forall_mem_cons.2 ⟨Yd.lasts_ex _, (List.forall_mem_cons.2 ⟨Yd.lasts_ex _, (List.forall_mem_cons.2 ⟨Yd.lasts_ex _, (List.forall_mem_cons.2 ⟨Yd.lasts_ex _, (List.forall_mem_cons.2 ⟨Yd.lasts_ex _, (List.forall_mem_cons.2 ⟨Yd.lasts_ex _, (List.forall_mem_cons.2 ⟨Yd.lasts_ex _, (List.forall_mem_cons.2 ⟨Yd.lasts_ex _, (List.forall_mem_cons.2 ⟨Yd.lasts_ex _, (fun _ h => by cases h)⟩)⟩)⟩)⟩)⟩)⟩)⟩)⟩)⟩)⟩)⟩)⟩)⟩)⟩)⟩)⟩)⟩)⟩)⟩)⟩)⟩)⟩)⟩)⟩)⟩)⟩)⟩)⟩)⟩)⟩)⟩)⟩)⟩)⟩)⟩)⟩)⟩)⟩)⟩)⟩)⟩)⟩)⟩)⟩)⟩)⟩)⟩) ⟨?_, ?_, ?_, ?_, ?_, ?_, ?_, ?_, ?_, ?_, ?_, ?_, ?_, ?_, ?_, ?_, ?_, ?_, ?_, ?_, ?_, ?_, ?_, ?_, ?_, ?_, ?_, ?_, ?_, ?_, ?_, ?_, ?_, ?_, ?_, ?_, ?_, ?_, ?_, ?_, ?_, ?_, ?_, ?_, ?_, ?_, ?_, trivial⟩ ?_
      · intro e1 w1 hb hp hun
        refine Ops.fld (hB3.below hb) rfl rfl rfl rfl inferInstance ?_
        refine Ops.nil ?_
        exact After.dn (Below.refl _ _) (by exact rfl)
      · intro e1 w1 hb hp hun
        refine Ops.ldf_s (hB3.below hb) rfl rfl rfl rfl rfl ?_
        refine Ops.nil ?_
        exact After.dn (Below.refl _ _) (by exact rfl)
      · intro e1 w1 hb hp hun
        refine Ops.mv_int rfl rfl rfl ?_
        refine Ops.nil ?_
        exact After.dn (Below.refl _ _) (by exact rfl)
      · intro e1 w1 hb hp hun
        refine Ops.idx (hM.top.later hb).2 rfl rfl rfl (by omega) (by omega) ?_
        refine Ops.nil ?_
        exact After.dn (Below.refl _ _) (by exact rfl)
      · intro e1 w1 hb hp hun
        refine Ops.ld_sl (hM.top.later hb) rfl (by omega) rfl rfl ?_
        refine Ops.nil ?_
        exact After.dn (Below.refl _ _) (by exact rfl)
      · intro e1 w1 hb hp hun
        refine Ops.len rfl rfl ?_
        refine Ops.nil ?_
        exact After.dn (Below.refl _ _) (by exact rfl)
      · intro e1 w1 hb hp hun
        refine Ops.lss rfl rfl rfl ?_
        refine Ops.nil ?_
        exact After.dn (Below.refl _ _) (by exact rfl)
      · intro e1 w1 hb hp hun
        refine Ops.mv_bool rfl rfl rfl ?_
        refine Ops.nil ?_
        exact After.dn (Below.refl _ _) (by exact congrArg Value.bool (decide_eq_false h4))
      · intro e1 w1 hb hp hun
        refine Ops.rung rfl rfl rfl ?_
        refine Ops.fld (hB3.below hb) rfl rfl rfl rfl inferInstance ?_
        refine Ops.nil ?_
        exact After.dn (Below.refl _ _) (by exact rfl)
      · intro e1 w1 hb hp hun
        refine Ops.rung rfl rfl rfl ?_
        refine Ops.ldf_s (hB3.below hb) rfl rfl rfl rfl rfl ?_
        refine Ops.nil ?_
        exact After.dn (Below.refl _ _) (by exact rfl)
      · intro e1 w1 hb hp hun
        refine Ops.rung rfl rfl rfl ?_
        refine Ops.mv_int rfl rfl rfl ?_
        refine Ops.nil ?_
        exact After.dn (Below.refl _ _) (by exact rfl)
      · intro e1 w1 hb hp hun
        refine Ops.rung rfl rfl rfl ?_
        refine Ops.idx (hM.top.later hb).2 rfl rfl rfl (by omega) (by omega) ?_
        refine Ops.nil ?_
        exact After.dn (Below.refl _ _) (by exact rfl)
      · intro e1 w1 hb hp hun
        refine Ops.rung rfl rfl rfl ?_
        refine Ops.ld_sl (hM.top.later hb) rfl (by omega) rfl rfl ?_
        refine Ops.nil ?_
        exact After.dn (Below.refl _ _) (by exact rfl)
      · intro e1 w1 hb hp hun
        refine Ops.rung rfl rfl rfl ?_
        refine Ops.len rfl rfl ?_
        refine Ops.nil ?_
        exact After.dn (Below.refl _ _) (by exact rfl)
      · intro e1 w1 hb hp hun
        refine Ops.rung rfl rfl rfl ?_
        refine Ops.gtr rfl rfl rfl ?_
        refine Ops.nil ?_
        exact After.dn (Below.refl _ _) (by exact rfl)
      · intro e1 w1 hb hp hun
        refine Ops.pick_f rfl rfl rfl ?_
        refine Ops.nil ?_
        exact After.dn (Below.refl _ _) (by exact rfl)
      · intro e1 w1 hb hp hun
        refine Ops.mv_bool rfl rfl rfl ?_
        refine Ops.nil ?_
        exact After.dn (Below.refl _ _) (by exact congrArg Value.bool (decide_eq_false h5))
      · intro e1 w1 hb hp hun
        refine Ops.rung rfl rfl rfl ?_
        refine Ops.fld (hB3.below hb) rfl rfl rfl rfl inferInstance ?_
        refine Ops.nil ?_
        exact After.dn (Below.refl _ _) (by exact rfl)
      · intro e1 w1 hb hp hun
        refine Ops.rung rfl rfl rfl ?_
        refine Ops.ldf_s (hB3.below hb) rfl rfl rfl rfl rfl ?_
        refine Ops.nil ?_
        exact After.dn (Below.refl _ _) (by exact rfl)
      · intro e1 w1 hb hp hun
        refine Ops.rung rfl rfl rfl ?_
        refine Ops.mv_int rfl rfl rfl ?_
        refine Ops.nil ?_
        exact After.dn (Below.refl _ _) (by exact rfl)
      · intro e1 w1 hb hp hun
        refine Ops.rung rfl rfl rfl ?_
        refine Ops.idx (hM.top.later hb).2 rfl rfl rfl (by omega) (by omega) ?_
        refine Ops.nil ?_
        exact After.dn (Below.refl _ _) (by exact rfl)
      · intro e1 w1 hb hp hun
        refine Ops.rung rfl rfl rfl ?_
        refine Ops.ld_sl (hM.top.later hb) rfl (by omega) rfl rfl ?_
        refine Ops.nil ?_
        exact After.dn (Below.refl _ _) (by exact rfl)
      · intro e1 w1 hb hp hun
        refine Ops.rung rfl rfl rfl ?_
        refine Ops.fld (hB3.below hb) rfl rfl rfl rfl inferInstance ?_
        refine Ops.nil ?_
        exact After.dn (Below.refl _ _) (by exact rfl)
      · intro e1 w1 hb hp hun
        refine Ops.rung rfl rfl rfl ?_
        refine Ops.ldf_i (hB3.below hb) rfl rfl rfl rfl rfl ?_
        refine Ops.nil ?_
        exact After.dn (Below.refl _ _) (by exact rfl)
      · intro e1 w1 hb hp hun
        refine Ops.rung rfl rfl rfl ?_
        refine Ops.sub rfl rfl rfl (by omega) ?_
        refine Ops.nil ?_
        exact After.dn (Below.refl _ _) (by exact rfl)
      · intro e1 w1 hb hp hun
        refine Ops.rung rfl rfl rfl ?_
        refine Ops.call (l17Rises_c _ _ _ _ _ _ (hrow.later hb) (by omega)) rfl rfl rfl ?_
        rintro _ w2 ⟨rfl, hst⟩
        refine Ops.nil ?_
        exact After.dn hst.below (by exact rfl)
      · intro e1 w1 hb hp hun
        refine Ops.rung rfl rfl rfl ?_
        refine Ops.not_p rfl rfl ?_
        refine Ops.nil ?_
        exact After.dn (Below.refl _ _) (by exact rfl)
      · intro e1 w1 hb hp hun
        refine Ops.pick_f rfl rfl rfl ?_
        refine Ops.nil ?_
        exact After.dn (Below.refl _ _) (by exact rfl)
      · intro e1 w1 hb hp hun
        refine Ops.mv_bool rfl rfl rfl ?_
        refine Ops.nil ?_
        exact After.dn (Below.refl _ _) (by exact congrArg Value.bool (decide_eq_true h6))
      · intro e1 w1 hb hp hun
        refine Ops.skipg rfl rfl rfl rfl rfl ?_
        refine Ops.nil ?_
        exact After.dn (Below.refl _ _) (by exact rfl)
      · intro e1 w1 hb hp hun
        refine Ops.skipg rfl rfl rfl rfl rfl ?_
        refine Ops.nil ?_
        exact After.dn (Below.refl _ _) (by exact rfl)
      · intro e1 w1 hb hp hun
        refine Ops.skipg rfl rfl rfl rfl rfl ?_
        refine Ops.nil ?_
        exact After.dn (Below.refl _ _) (by exact rfl)
      · intro e1 w1 hb hp hun
        refine Ops.skipu rfl rfl rfl rfl ?_
        refine Ops.nil ?_
        exact After.dn (Below.refl _ _) (by exact rfl)
      · intro e1 w1 hb hp hun
        refine Ops.skipu rfl rfl rfl rfl ?_
        refine Ops.nil ?_
        exact After.dn (Below.refl _ _) (by exact rfl)
      · intro e1 w1 hb hp hun
        refine Ops.skipu rfl rfl rfl rfl ?_
        refine Ops.nil ?_
        exact After.dn (Below.refl _ _) (by exact rfl)
      · intro e1 w1 hb hp hun
        refine Ops.skipu rfl rfl rfl rfl ?_
        refine Ops.nil ?_
        exact After.dn (Below.refl _ _) (by exact rfl)
      · intro e1 w1 hb hp hun
        refine Ops.skipu rfl rfl rfl rfl ?_
        refine Ops.nil ?_
        exact After.dn (Below.refl _ _) (by exact rfl)
      · intro e1 w1 hb hp hun
        refine Ops.skipu rfl rfl rfl rfl ?_
        refine Ops.nil ?_
        exact After.dn (Below.refl _ _) (by exact rfl)
      · intro e1 w1 hb hp hun
        refine Ops.skipu rfl rfl rfl rfl ?_
        refine Ops.nil ?_
        exact After.dn (Below.refl _ _) (by exact rfl)
      · intro e1 w1 hb hp hun
        refine Ops.skipu rfl rfl rfl rfl ?_
        refine Ops.nil ?_
        exact After.dn (Below.refl _ _) (by exact rfl)
      · intro e1 w1 hb hp hun
        refine Ops.skipu rfl rfl rfl rfl ?_
        refine Ops.nil ?_
        exact After.dn (Below.refl _ _) (by exact rfl)
      · intro e1 w1 hb hp hun
        refine Ops.skipu rfl rfl rfl rfl ?_
        refine Ops.nil ?_
        exact After.dn (Below.refl _ _) (by exact rfl)
      · intro e1 w1 hb hp hun
        refine Ops.skipu rfl rfl rfl rfl ?_
        refine Ops.nil ?_
        exact After.dn (Below.refl _ _) (by exact rfl)
      · intro e1 w1 hb hp hun
        refine Ops.skipu rfl rfl rfl rfl ?_
        refine Ops.nil ?_
        exact After.dn (Below.refl _ _) (by exact rfl)
      · intro e1 w1 hb hp hun
        refine Ops.skipu rfl rfl rfl rfl ?_
        refine Ops.nil ?_
        exact After.dn (Below.refl _ _) (by exact rfl)
      · intro e1 w1 hb hp hun
        refine Ops.skipg rfl rfl rfl rfl rfl ?_
        refine Ops.nil ?_
        exact After.dn (Below.refl _ _) (by exact rfl)
      · intro e1 w1 hb hp hun
        refine Ops.pick_t rfl rfl rfl ?_
        refine Ops.nil ?_
        exact After.dn (Below.refl _ _) (by exact rfl)
      intro u w4 hb _
      refine thenQ_n ?_
      refine Cd.cond_t rfl ?_
      refine Cd.seq ?_
      refine Cd.region ?_
      refine Ops.mv_bool rfl rfl rfl ?_
      refine Ops.nil ?_
      refine thenQ_n ?_
      refine Cd.ret ?_
      refine thenQ_r ?_
      refine blockQ_r ?_
      refine thenQ_r ?_
      refine thenQ_r ?_
      refine blockQ_r ?_
      refine thenQ_r ?_
      refine ret1_b rfl ?_
      exact ⟨by rw [decide_eq_false (fun h : Cplx m F => h6 ⟨(h.at_ hiF).2.1, fun x hx => by have := (h.at_ hiF).2.2 x hx; omega⟩)], hS3.none.later hb⟩
  · have hin : i = F.length := by omega
    subst hin
    obtain ⟨hall, hord⟩ := hP.all
    rw [List.take_length] at hS3
    have hgb := fun (x : Int) (h0 : 0 ≤ x) => pnt_all (m := m) (F := F) (fun l hl => (hall l hl).2.2) x h0
    refine Cd.exit ?_
    refine thenQ_x ?_
    refine thenQ_x ?_
    refine blockQ_x ?_
    refine thenQ_n ?_
    refine Cd.seq ?_
    refine Cd.seq ?_
    refine Cd.region ?_
    refine Ops.mv_int rfl rfl rfl ?_
    refine Ops.nil ?_
    refine thenQ_n ?_
    refine Cd.block ?_
    refine Cd.loop (α := Nat) (fun v => [(1, .pointer Ab), (3, .slice A3 m m), (6, .int .i64 (v : Int))]) (fun v w' => v ≤ m ∧ (∀ x : Int, 0 ≤ x → x < (v : Int) → ∃ l ∈ F, x ∈ l) ∧ St w w' [CkB 4 A3 m m (pnt (mk0 m) F.flatten), cxB Ab m A n c]) (fun v => m - v) 0 ⟨rfl, rfl, rfl, trivial⟩ ⟨Nat.zero_le _, fun x h0 h1 => by omega, hS3⟩ ?_
    rintro v e w4 ⟨hv, hv2, hS4⟩
    have hB4 := hS4.rd 1 rfl
    refine Cd.seq ?_
    refine Cd.seq ?_
    refine Cd.region ?_
    refine Ops.mv_int rfl rfl rfl ?_
    refine Ops.fld hB4 rfl rfl rfl rfl inferInstance ?_
    refine Ops.ldf_i hB4 rfl rfl rfl rfl rfl ?_
    refine Ops.lss rfl rfl rfl ?_
    refine Ops.nil ?_
    refine thenQ_n ?_
    refine Cd.cond_p _ rfl (fun h4 => ?_) (fun h4 => ?_)
    · have hH := hS4.rdB 0 rfl
      refine Cd.skip ?_
      refine thenQ_n ?_
      refine Cd.seq ?_
      refine Cd.block ?_
      refine Cd.seq ?_
      refine Cd.region ?_
      refine Ops.mv_sl rfl rfl rfl ?_
      refine Ops.mv_int rfl rfl rfl ?_
      refine Ops.idx hH.2 rfl rfl rfl (by omega) (by omega) ?_
      refine Ops.ld_bool hH rfl (by omega) rfl rfl ?_
      rw [show gb (pnt (mk0 m) F.flatten) (v : Int) = decide (∃ l ∈ F, (v : Int) ∈ l) from hgb v (by omega)]
      first | refine Ops.not_p rfl rfl ?_ | refine Ops.not rfl rfl ?_
      refine Ops.nil ?_
      refine thenQ_n ?_
      refine Cd.cond_p _ rfl (fun h5 => ?_) (fun h5 => ?_)
      · refine Cd.seq ?_
        refine Cd.region ?_
        refine Ops.mv_bool rfl rfl rfl ?_
        refine Ops.nil ?_
        refine thenQ_n ?_
        refine Cd.ret ?_
        refine blockQ_r ?_
        refine thenQ_r ?_
        refine thenQ_r ?_
        refine blockQ_r ?_
        refine thenQ_r ?_
        refine ret1_b rfl ?_
        exact ⟨by rw [decide_eq_false (fun h : Cplx m F => h5 (h.all _ (by omega) (by omega)))], hS4.none⟩
      · refine Cd.skip ?_
        refine blockQ_n ?_
        refine thenQ_n ?_
        refine Cd.region ?_
        refine Ops.mv_int rfl rfl rfl ?_
        refine Ops.add rfl rfl rfl (by omega) ?_
        refine Ops.mv_int rfl rfl rfl ?_
        refine Ops.nil ?_
        refine thenQ_n ?_
        refine ⟨v + 1, by show m - (v + 1) < m - v; omega, ⟨rfl, rfl, rfl, trivial⟩, by omega, fun x h0 h1 => ?_, hS4⟩
        by_cases e : x = (v : Int)
        · subst e; exact Classical.not_not.1 h5
        · exact hv2 x h0 (by omega)
    · refine Cd.exit ?_
      refine thenQ_x ?_
      refine thenQ_x ?_
      refine blockQ_x ?_
      refine thenQ_n ?_
      refine Cd.seq ?_
      refine Cd.seq ?_
      refine Cd.region ?_
      refine Ops.mv_int rfl rfl rfl ?_
      refine Ops.nil ?_
      refine thenQ_n ?_
      refine Cd.block ?_
      refine Cd.loop (α := Nat) (fun i => [(1, .pointer Ab), (7, .int .i64 (i : Int))]) (fun i w' => i ≤ F.length ∧ (∀ a ∈ F.take i, ∀ b ∈ F, Ins a b → b = a) ∧ St w w' [CkB 4 A3 m m (pnt (mk0 m) F.flatten), cxB Ab m A n c]) (fun i => F.length - i) 0 ⟨rfl, rfl, trivial⟩ ⟨Nat.zero_le _, by simp, hS4⟩ ?_
      rintro i e w5 ⟨hi5, hT5, hS5⟩
      have hB5 := hS5.rd 1 rfl
      refine Cd.seq ?_
      refine Cd.seq ?_
      refine Cd.region ?_
      refine Ops.mv_int rfl rfl rfl ?_
      refine Ops.fld hB5 rfl rfl rfl rfl inferInstance ?_
      refine Ops.ldf_s hB5 rfl rfl rfl rfl rfl ?_
      refine Ops.len rfl rfl ?_
      refine Ops.lss rfl rfl rfl ?_
      refine Ops.nil ?_
      refine thenQ_n ?_
      refine Cd.cond_p _ rfl (fun h6 => ?_) (fun h6 => ?_)
      · have hiF : i < F.length := by omega
        refine Cd.skip ?_
        refine thenQ_n ?_
        refine Cd.seq ?_
        refine Cd.block ?_
        refine Cd.seq ?_
        refine Cd.region ?_
        refine Ops.mv_int rfl rfl rfl ?_
        refine Ops.nil ?_
        refine thenQ_n ?_
        refine Cd.block ?_
        refine Cd.loop (α := Nat) (fun k => [(1, .pointer Ab), (7, .int .i64 (i : Int)), (8, .int .i64 (k : Int))]) (fun k w' => k ≤ F.length ∧ (∀ b ∈ F.take k, Ins (gl F (i : Int)) b → b = gl F (i : Int)) ∧ St w w' [CkB 4 A3 m m (pnt (mk0 m) F.flatten), cxB Ab m A n c]) (fun k => F.length - k) 0 ⟨rfl, rfl, rfl, trivial⟩ ⟨Nat.zero_le _, by simp, hS5⟩ ?_
        rintro k e w6 ⟨hk6, hT6, hS6⟩
        have hB6 := hS6.rd 1 rfl
        refine Cd.seq ?_
        refine Cd.seq ?_
        refine Cd.region ?_
        refine Ops.mv_int rfl rfl rfl ?_
        refine Ops.fld hB6 rfl rfl rfl rfl inferInstance ?_
        refine Ops.ldf_s hB6 rfl rfl rfl rfl rfl ?_
        refine Ops.len rfl rfl ?_
        refine Ops.lss rfl rfl rfl ?_
        refine Ops.nil ?_
        refine thenQ_n ?_
        refine Cd.cond_p _ rfl (fun h7 => ?_) (fun h7 => ?_)
        · have hkF : k < F.length := by omega
          have hM := hS6.oldRows hR
          have hri := hM.at_ (i := (i : Int)) (by omega) (by omega)
          have hrk := hM.at_ (i := (k : Int)) (by omega) (by omega)
          have hci := hM.cap_ (i := (i : Int)) (by omega) (by omega)
          have hck := hM.cap_ (i := (k : Int)) (by omega) (by omega)
          have hgi : gl F (i : Int) ∈ F := by rw [gl_mem hiF]; exact List.getElem_mem _
          have hgk : gl F (k : Int) ∈ F := by rw [gl_mem hkF]; exact List.getElem_mem _
          have hnext : (Ins (gl F (i : Int)) (gl F (k : Int)) → gl F (k : Int) = gl F (i : Int)) → ∀ b ∈ F.take (k + 1), Ins (gl F (i : Int)) b → b = gl F (i : Int) := fun h b hb => by
            rw [take_succ_gl hkF] at hb
            rcases List.mem_append.1 hb with hb | hb
            · exact hT6 b hb
            · obtain rfl : b = gl F (k : Int) := by simpa using hb
              exact h
          refine Cd.skip ?_
          refine thenQ_n ?_
          refine Cd.seq ?_
          refine Cd.block ?_
          refine Cd.seq ?_
          by_cases h8 : (i : Int) = (k : Int)
          · --dup 3
            refine Cd.draw [.ex (.int .i64 ((i : Int))), .ex (.int .i64 ((k : Int))), .ex (.bool (decide (¬ ((i : Int)) = ((k : Int))))), .ex (.bool (false)), .ex (undef), .ex (undef), .ex (undef), .ex (undef), .ex (undef), .ex (undef), .ex (undef), .ex (undef), .ex (undef), .ex (undef), .ex (undef), .ex (.bool (false))] (by kernel_rfl) (by kernel_rfl) rfl (List.forall_mem_cons.2 ⟨Yd.lasts_ex _, (List.forall_mem_cons.2 ⟨Yd.lasts_ex _, (List.forall_mem_cons.2 ⟨Yd.lasts_ex _, (List.forall_mem_cons.2 ⟨Yd.lasts_ex _, (List.forall_mem_cons.2 ⟨Yd.lasts_ex _, (List.forall_mem_cons.2 ⟨Yd.lasts_ex _, (List.forall_mem_cons.2 ⟨Yd.lasts_ex _, (List.forall_mem_cons.2 ⟨Yd.lasts_ex _, (List.forall_mem_cons.2 ⟨Yd.lasts_ex _, (List.forall_mem_cons.2 ⟨Yd.lasts_ex _, (List.forall_mem_cons.2 ⟨Yd.lasts_ex _, (List.forall_mem_cons.2 ⟨Yd.lasts_ex _, (List.forall_mem_cons.2 ⟨Yd.lasts_ex _, (List.forall_mem_cons.2 ⟨Yd.lasts_ex _, (List.forall_mem_cons.2 ⟨Yd.lasts_ex _, (List.forall_mem_cons.2 ⟨Yd.lasts_ex _, (fun _ h => by cases h)⟩)⟩)⟩)⟩)⟩)⟩)⟩)⟩)⟩)⟩)⟩)⟩)⟩)⟩)⟩)⟩) ⟨?_, ?_, ?_, ?_, ?_, ?_, ?_, ?_, ?_, ?_, ?_, ?_, ?_, ?_, ?_, ?_, trivial⟩ ?_
            · intro e1 w1 hb hp hun
              refine Ops.mv_int rfl rfl rfl ?_
              refine Ops.nil ?_
              exact After.dn (Below.refl _ _) (by exact rfl)
            · intro e1 w1 hb hp hun
              refine Ops.mv_int rfl rfl rfl ?_
              refine Ops.nil ?_
              exact After.dn (Below.refl _ _) (by exact rfl)
            · intro e1 w1 hb hp hun
              refine Ops.neq rfl rfl rfl ?_
              refine Ops.nil ?_
              exact After.dn (Below.refl _ _) (by exact rfl)
            · intro e1 w1 hb hp hun
              refine Ops.mv_bool rfl rfl rfl ?_
              refine Ops.nil ?_
              exact After.dn (Below.refl _ _) (by exact congrArg Value.bool (decide_eq_false (fun h => h h8)))
            · intro e1 w1 hb hp hun
              refine Ops.skipg rfl rfl rfl rfl rfl ?_
              refine Ops.nil ?_
              exact After.dn (Below.refl _ _) (by exact rfl)
            · intro e1 w1 hb hp hun
              refine Ops.skipg rfl rfl rfl rfl rfl ?_
              refine Ops.nil ?_
              exact After.dn (Below.refl _ _) (by exact rfl)
            · intro e1 w1 hb hp hun
              refine Ops.skipg rfl rfl rfl rfl rfl ?_
              refine Ops.nil ?_
              exact After.dn (Below.refl _ _) (by exact rfl)
            · intro e1 w1 hb hp hun
              refine Ops.skipg rfl rfl rfl rfl rfl ?_
              refine Ops.nil ?_
              exact After.dn (Below.refl _ _) (by exact rfl)
            · intro e1 w1 hb hp hun
              refine Ops.skipg rfl rfl rfl rfl rfl ?_
              refine Ops.nil ?_
              exact After.dn (Below.refl _ _) (by exact rfl)
            · intro e1 w1 hb hp hun
              refine Ops.skipg rfl rfl rfl rfl rfl ?_
              refine Ops.nil ?_
              exact After.dn (Below.refl _ _) (by exact rfl)
            · intro e1 w1 hb hp hun
              refine Ops.skipg rfl rfl rfl rfl rfl ?_
              refine Ops.nil ?_
              exact After.dn (Below.refl _ _) (by exact rfl)
            · intro e1 w1 hb hp hun
              refine Ops.skipg rfl rfl rfl rfl rfl ?_
              refine Ops.nil ?_
              exact After.dn (Below.refl _ _) (by exact rfl)
            · intro e1 w1 hb hp hun
              refine Ops.skipg rfl rfl rfl rfl rfl ?_
              refine Ops.nil ?_
              exact After.dn (Below.refl _ _) (by exact rfl)
            · intro e1 w1 hb hp hun
              refine Ops.skipg rfl rfl rfl rfl rfl ?_
              refine Ops.nil ?_
              exact After.dn (Below.refl _ _) (by exact rfl)
            · intro e1 w1 hb hp hun
              refine Ops.skipg rfl rfl rfl rfl rfl ?_
              refine Ops.nil ?_
              exact After.dn (Below.refl _ _) (by exact rfl)
            · intro e1 w1 hb hp hun
              refine Ops.pick_f rfl rfl rfl ?_
              refine Ops.nil ?_
              exact After.dn (Below.refl _ _) (by exact rfl)
            intro u w7 hb _
            refine thenQ_n ?_
            refine Cd.cond_f rfl ?_
            refine Cd.skip ?_
            refine blockQ_n ?_
            refine thenQ_n ?_
            refine Cd.region ?_
            refine Ops.mv_int rfl rfl rfl ?_
            refine Ops.add rfl rfl rfl (by omega) ?_
            refine Ops.mv_int rfl rfl rfl ?_
            refine Ops.nil ?_
            refine thenQ_n ?_
            exact ⟨k + 1, by show F.length - (k + 1) < F.length - k; omega, ⟨rfl, rfl, rfl, trivial⟩, by omega, hnext (fun _ => by rw [h8]), hS6.later hb⟩
          by_cases h9 : Ins (gl F (i : Int)) (gl F (k : Int))
          · refine Cd.draw [.ex (.int .i64 ((i : Int))), .ex (.int .i64 ((k : Int))), .ex (.bool (decide (¬ ((i : Int)) = ((k : Int))))), .ex (.bool (true)), .ex (.pointer (ptrAt (Ab) 1)), .ex (.slice (A) (n) (c)), .ex (.int .i64 ((i : Int))), .ex (.pointer (ptrAt (A) ((i : Int)).toNat)), .ex (.slice ((rg (rs) ((i : Int))).a) ((rg (rs) ((i : Int))).n) ((rg (rs) ((i : Int))).c)), .ex (.pointer (ptrAt (Ab) 1)), .ex (.slice (A) (n) (c)), .ex (.int .i64 ((k : Int))), .ex (.pointer (ptrAt (A) ((k : Int)).toNat)), .ex (.slice ((rg (rs) ((k : Int))).a) ((rg (rs) ((k : Int))).n) ((rg (rs) ((k : Int))).c)), .ex (.bool (decide (Ins (gl F (i : Int)) (gl F (k : Int))))), .ex (.bool (true))] (by kernel_rfl) (by kernel_rfl) rfl (List.forall_mem_cons.2 ⟨Yd.lasts_ex _, (List.forall_mem_cons.2 ⟨Yd.lasts_ex _, (List.forall_mem_cons.2 ⟨Yd.lasts_ex _, (List.forall_mem_cons.2 ⟨Yd.lasts_ex _, (List.forall_mem_cons.2 ⟨Yd.lasts_ex _, (List.forall_mem_cons.2 ⟨Yd.lasts_ex _, (List.forall_mem_cons.2 ⟨Yd.lasts_ex _, (List.forall_mem_cons.2 ⟨Yd.lasts_ex _, (List.forall_mem_cons.2 ⟨Yd.lasts_ex _, (List.forall_mem_cons.2 ⟨Yd.lasts_ex _, (List.forall_mem_cons.2 ⟨Yd.lasts_ex _, (List.forall_mem_cons.2 ⟨Yd.lasts_ex _, (List.forall_mem_cons.2 ⟨Yd.lasts_ex _, (List.forall_mem_cons.2 ⟨Yd.lasts_ex _, (List.forall_mem_cons.2 ⟨Yd.lasts_ex _, (List.forall_mem_cons.2 ⟨Yd.lasts_ex _, (fun _ h => by cases h)⟩)⟩)⟩)⟩)⟩)⟩)⟩)⟩)⟩)⟩)⟩)⟩)⟩)⟩)⟩)⟩) ⟨?_, ?_, ?_, ?_, ?_, ?_, ?_, ?_, ?_, ?_, ?_, ?_, ?_, ?_, ?_, ?_, trivial⟩ ?_
            · intro e1 w1 hb hp hun
              refine Ops.mv_int rfl rfl rfl ?_
              refine Ops.nil ?_
              exact After.dn (Below.refl _ _) (by exact rfl)
            · intro e1 w1 hb hp hun
              refine Ops.mv_int rfl rfl rfl ?_
              refine Ops.nil ?_
              exact After.dn (Below.refl _ _) (by exact rfl)
            · intro e1 w1 hb hp hun
              refine Ops.neq rfl rfl rfl ?_
              refine Ops.nil ?_
              exact After.dn (Below.refl _ _) (by exact rfl)
            · intro e1 w1 hb hp hun
              refine Ops.mv_bool rfl rfl rfl ?_
              refine Ops.nil ?_
              exact After.dn (Below.refl _ _) (by exact congrArg Value.bool (decide_eq_true h8))
            · intro e1 w1 hb hp hun
              refine Ops.rung rfl rfl rfl ?_
              refine Ops.fld (hB6.below hb) rfl rfl rfl rfl inferInstance ?_
              refine Ops.nil ?_
              exact After.dn (Below.refl _ _) (by exact rfl)
            · intro e1 w1 hb hp hun
              refine Ops.rung rfl rfl rfl ?_
              refine Ops.ldf_s (hB6.below hb) rfl rfl rfl rfl rfl ?_
              refine Ops.nil ?_
              exact After.dn (Below.refl _ _) (by exact rfl)
            · intro e1 w1 hb hp hun
              refine Ops.rung rfl rfl rfl ?_
              refine Ops.mv_int rfl rfl rfl ?_
              refine Ops.nil ?_
              exact After.dn (Below.refl _ _) (by exact rfl)
            · intro e1 w1 hb hp hun
              refine Ops.rung rfl rfl rfl ?_
              refine Ops.idx (hM.top.later hb).2 rfl rfl rfl (by omega) (by omega) ?_
              refine Ops.nil ?_
              exact After.dn (Below.refl _ _) (by exact rfl)
            · intro e1 w1 hb hp hun
              refine Ops.rung rfl rfl rfl ?_
              refine Ops.ld_sl (hM.top.later hb) rfl (by omega) rfl rfl ?_
              refine Ops.nil ?_
              exact After.dn (Below.refl _ _) (by exact rfl)
            · intro e1 w1 hb hp hun
              refine Ops.rung rfl rfl rfl ?_
              refine Ops.fld (hB6.below hb) rfl rfl rfl rfl inferInstance ?_
              refine Ops.nil ?_
              exact After.dn (Below.refl _ _) (by exact rfl)
            · intro e1 w1 hb hp hun
              refine Ops.rung rfl rfl rfl ?_
              refine Ops.ldf_s (hB6.below hb) rfl rfl rfl rfl rfl ?_
              refine Ops.nil ?_
              exact After.dn (Below.refl _ _) (by exact rfl)
            · intro e1 w1 hb hp hun
              refine Ops.rung rfl rfl rfl ?_
              refine Ops.mv_int rfl rfl rfl ?_
              refine Ops.nil ?_
              exact After.dn (Below.refl _ _) (by exact rfl)
            · intro e1 w1 hb hp hun
              refine Ops.rung rfl rfl rfl ?_
              refine Ops.idx (hM.top.later hb).2 rfl rfl rfl (by omega) (by omega) ?_
              refine Ops.nil ?_
              exact After.dn (Below.refl _ _) (by exact rfl)
            · intro e1 w1 hb hp hun
              refine Ops.rung rfl rfl rfl ?_
              refine Ops.ld_sl (hM.top.later hb) rfl (by omega) rfl rfl ?_
              refine Ops.nil ?_
              exact After.dn (Below.refl _ _) (by exact rfl)
            · intro e1 w1 hb hp hun
              refine Ops.rung rfl rfl rfl ?_
              refine Ops.call (l17Within_c _ _ _ _ _ _ _ _ _ (hri.later hb) (hrk.later hb) (by omega) (by omega)) rfl rfl rfl ?_
              rintro _ w2 ⟨rfl, hst⟩
              subst hst
              refine Ops.nil ?_
              exact After.dn (Below.refl _ _) (by exact rfl)
            · intro e1 w1 hb hp hun
              refine Ops.pick_t rfl rfl rfl ?_
              refine Ops.nil ?_
              exact After.dn (Below.refl _ _) (by exact congrArg Value.bool (decide_eq_true h9))
            intro u w7 hb _
            refine thenQ_n ?_
            refine Cd.cond_t rfl ?_
            refine Cd.seq ?_
            refine Cd.region ?_
            refine Ops.mv_bool rfl rfl rfl ?_
            refine Ops.nil ?_
            refine thenQ_n ?_
            refine Cd.ret ?_
            refine blockQ_r ?_
            refine thenQ_r ?_
            refine thenQ_r ?_
            refine blockQ_r ?_
            refine blockQ_r ?_
            refine thenQ_r ?_
            refine thenQ_r ?_
            refine blockQ_r ?_
            refine thenQ_r ?_
            refine ret1_b rfl ?_
            have hno : ¬ Cplx m F := fun h => by
              have h1 := h.top _ hgi _ hgk h9
              rw [gl_mem hiF, gl_mem hkF] at h1
              exact h8 (by rw [(List.getElem_inj hord.nodup).1 h1])
            exact ⟨by rw [decide_eq_false hno], hS6.none.later hb⟩
          · refine Cd.draw [.ex (.int .i64 ((i : Int))), .ex (.int .i64 ((k : Int))), .ex (.bool (decide (¬ ((i : Int)) = ((k : Int))))), .ex (.bool (true)), .ex (.pointer (ptrAt (Ab) 1)), .ex (.slice (A) (n) (c)), .ex (.int .i64 ((i : Int))), .ex (.pointer (ptrAt (A) ((i : Int)).toNat)), .ex (.slice ((rg (rs) ((i : Int))).a) ((rg (rs) ((i : Int))).n) ((rg (rs) ((i : Int))).c)), .ex (.pointer (ptrAt (Ab) 1)), .ex (.slice (A) (n) (c)), .ex (.int .i64 ((k : Int))), .ex (.pointer (ptrAt (A) ((k : Int)).toNat)), .ex (.slice ((rg (rs) ((k : Int))).a) ((rg (rs) ((k : Int))).n) ((rg (rs) ((k : Int))).c)), .ex (.bool (decide (Ins (gl F (i : Int)) (gl F (k : Int))))), .ex (.bool (false))] (by kernel_rfl) (by kernel_rfl) rfl (List.forall_mem_cons.2 ⟨Yd.lasts_ex _, (List.forall_mem_cons.2 ⟨Yd.lasts_ex _, (List.forall_mem_cons.2 ⟨Yd.lasts_ex _, (List.forall_mem_cons.2 ⟨Yd.lasts_ex _, (List.forall_mem_cons.2 ⟨Yd.lasts_ex _, (List.forall_mem_cons.2 ⟨Yd.lasts_ex _, (List.forall_mem_cons.2 ⟨Yd.lasts_ex _, (List.forall_mem_cons.2 ⟨Yd.lasts_ex _, (List.forall_mem_cons.2 ⟨Yd.lasts_ex _, (List.forall_mem_cons.2 ⟨Yd.lasts_ex _, (List.forall_mem_cons.2 ⟨Yd.lasts_ex _, (List.forall_mem_cons.2 ⟨Yd.lasts_ex _, (List.forall_mem_cons.2 ⟨Yd.lasts_ex _, (List.forall_mem_cons.2 ⟨Yd.lasts_ex _, (List.forall_mem_cons.2 ⟨Yd.lasts_ex _, (List.forall_mem_cons.2 ⟨Yd.lasts_ex _, (fun _ h => by cases h)⟩)⟩)⟩)⟩)⟩)⟩)⟩)⟩)⟩)⟩)⟩)⟩)⟩)⟩)⟩)⟩) ⟨?_, ?_, ?_, ?_, ?_, ?_, ?_, ?_, ?_, ?_, ?_, ?_, ?_, ?_, ?_, ?_, trivial⟩ ?_
            · intro e1 w1 hb hp hun
              refine Ops.mv_int rfl rfl rfl ?_
              refine Ops.nil ?_
              exact After.dn (Below.refl _ _) (by exact rfl)
            · intro e1 w1 hb hp hun
              refine Ops.mv_int rfl rfl rfl ?_
              refine Ops.nil ?_
              exact After.dn (Below.refl _ _) (by exact rfl)
            · intro e1 w1 hb hp hun
              refine Ops.neq rfl rfl rfl ?_
              refine Ops.nil ?_
              exact After.dn (Below.refl _ _) (by exact rfl)
            · intro e1 w1 hb hp hun
              refine Ops.mv_bool rfl rfl rfl ?_
              refine Ops.nil ?_
              exact After.dn (Below.refl _ _) (by exact congrArg Value.bool (decide_eq_true h8))
            · intro e1 w1 hb hp hun
              refine Ops.rung rfl rfl rfl ?_
              refine Ops.fld (hB6.below hb) rfl rfl rfl rfl inferInstance ?_
              refine Ops.nil ?_
              exact After.dn (Below.refl _ _) (by exact rfl)
            · intro e1 w1 hb hp hun
              refine Ops.rung rfl rfl rfl ?_
              refine Ops.ldf_s (hB6.below hb) rfl rfl rfl rfl rfl ?_
              refine Ops.nil ?_
              exact After.dn (Below.refl _ _) (by exact rfl)
            · intro e1 w1 hb hp hun
              refine Ops.rung rfl rfl rfl ?_
              refine Ops.mv_int rfl rfl rfl ?_
              refine Ops.nil ?_
              exact After.dn (Below.refl _ _) (by exact rfl)
            · intro e1 w1 hb hp hun
              refine Ops.rung rfl rfl rfl ?_
              refine Ops.idx (hM.top.later hb).2 rfl rfl rfl (by omega) (by omega) ?_
              refine Ops.nil ?_
              exact After.dn (Below.refl _ _) (by exact rfl)
            · intro e1 w1 hb hp hun
              refine Ops.rung rfl rfl rfl ?_
              refine Ops.ld_sl (hM.top.later hb) rfl (by omega) rfl rfl ?_
              refine Ops.nil ?_
              exact After.dn (Below.refl _ _) (by exact rfl)
            · intro e1 w1 hb hp hun
              refine Ops.rung rfl rfl rfl ?_
              refine Ops.fld (hB6.below hb) rfl rfl rfl rfl inferInstance ?_
              refine Ops.nil ?_
              exact After.dn (Below.refl _ _) (by exact rfl)
            · intro e1 w1 hb hp hun
              refine Ops.rung rfl rfl rfl ?_
              refine Ops.ldf_s (hB6.below hb) rfl rfl rfl rfl rfl ?_
              refine Ops.nil ?_
              exact After.dn (Below.refl _ _) (by exact rfl)
            · intro e1 w1 hb hp hun
              refine Ops.rung rfl rfl rfl ?_
              refine Ops.mv_int rfl rfl rfl ?_
              refine Ops.nil ?_
              exact After.dn (Below.refl _ _) (by exact rfl)
            · intro e1 w1 hb hp hun
              refine Ops.rung rfl rfl rfl ?_
              refine Ops.idx (hM.top.later hb).2 rfl rfl rfl (by omega) (by omega) ?_
              refine Ops.nil ?_
              exact After.dn (Below.refl _ _) (by exact rfl)
            · intro e1 w1 hb hp hun
              refine Ops.rung rfl rfl rfl ?_
              refine Ops.ld_sl (hM.top.later hb) rfl (by omega) rfl rfl ?_
              refine Ops.nil ?_
              exact After.dn (Below.refl _ _) (by exact rfl)
            · intro e1 w1 hb hp hun
              refine Ops.rung rfl rfl rfl ?_
              refine Ops.call (l17Within_c _ _ _ _ _ _ _ _ _ (hri.later hb) (hrk.later hb) (by omega) (by omega)) rfl rfl rfl ?_
              rintro _ w2 ⟨rfl, hst⟩
              subst hst
              refine Ops.nil ?_
              exact After.dn (Below.refl _ _) (by exact rfl)
            · intro e1 w1 hb hp hun
              refine Ops.pick_t rfl rfl rfl ?_
              refine Ops.nil ?_
              exact After.dn (Below.refl _ _) (by exact congrArg Value.bool (decide_eq_false h9))
            intro u w7 hb _
            refine thenQ_n ?_
            refine Cd.cond_f rfl ?_
            refine Cd.skip ?_
            refine blockQ_n ?_
            refine thenQ_n ?_
            refine Cd.region ?_
            refine Ops.mv_int rfl rfl rfl ?_
            refine Ops.add rfl rfl rfl (by omega) ?_
            refine Ops.mv_int rfl rfl rfl ?_
            refine Ops.nil ?_
            refine thenQ_n ?_
            exact ⟨k + 1, by show F.length - (k + 1) < F.length - k; omega, ⟨rfl, rfl, rfl, trivial⟩, by omega, hnext (fun h => absurd h h9), hS6.later hb⟩
        · have hkF : k = F.length := by omega
          subst hkF
          rw [List.take_length] at hT6
          refine Cd.exit ?_
          refine thenQ_x ?_
          refine thenQ_x ?_
          refine blockQ_x ?_
          refine blockQ_n ?_
          refine thenQ_n ?_
          refine Cd.region ?_
          refine Ops.mv_int rfl rfl rfl ?_
          refine Ops.add rfl rfl rfl (by omega) ?_
          refine Ops.mv_int rfl rfl rfl ?_
          refine Ops.nil ?_
          refine thenQ_n ?_
          refine ⟨i + 1, by show F.length - (i + 1) < F.length - i; omega, ⟨rfl, rfl, trivial⟩, by omega, ?_, hS6⟩
          rw [take_succ_gl hiF]
          intro a ha
          rcases List.mem_append.1 ha with ha | ha
          · exact hT5 a ha
          · obtain rfl : a = gl F (i : Int) := by simpa using ha
            exact hT6
      · rw [List.take_of_length_le (by omega)] at hT5
        refine Cd.exit ?_
        refine thenQ_x ?_
        refine thenQ_x ?_
        refine blockQ_x ?_
        refine thenQ_n ?_
        refine Cd.seq ?_
        refine Cd.region ?_
        refine Ops.mv_bool rfl rfl rfl ?_
        refine Ops.nil ?_
        refine thenQ_n ?_
        refine Cd.ret ?_
        refine ret1_b rfl ?_
        exact ⟨by rw [decide_eq_true (⟨⟨by omega, by omega⟩, by omega, hall, hord, fun x h0 h1 => hv2 x h0 (by omega), hT5⟩ : Cplx m F)], hS5.none⟩
end Go.Proofs.YtdedegbendjmbaaGreatDoor.Vc
/-
  The program's test of a complex, walked. Conditions: the library's table of powers of ten holds what the program's text lays there.
-/
namespace Go.Proofs.YtdedegbendjmbaaGreatDoor.Vc
open Go.RowKit

theorem no_false {m : Nat} {F : List (List Int)} (h : ∀ l ∈ F, ∀ x ∈ l, 0 ≤ x ∧ x < (m : Int)) : ¬ (false ∈ pnt (mk0 m) F.flatten) ↔ ∀ x : Int, 0 ≤ x → x < (m : Int) → ∃ l ∈ F, x ∈ l := by
  have hl := pnt0_len m F.flatten
  have hg := fun (x : Int) (h0 : 0 ≤ x) => pnt_all h x h0
  constructor
  · intro hn x h0 h1
    apply Classical.byContradiction
    intro hc
    have h2 : gb (pnt (mk0 m) F.flatten) x = false := (hg x h0).trans (decide_eq_false hc)
    apply hn
    have h3 : x.toNat < (pnt (mk0 m) F.flatten).length := by omega
    rw [← h2, gb, List.getD_eq_getElem?_getD, List.getElem?_eq_getElem h3]
    exact List.getElem_mem _
  · intro ha hm
    obtain ⟨k, hk, e⟩ := List.mem_iff_getElem.1 hm
    have h2 := hg (k : Int) (by omega)
    rw [decide_eq_true (ha (k : Int) (by omega) (by omega))] at h2
    have h3 : gb (pnt (mk0 m) F.flatten) (k : Int) = (pnt (mk0 m) F.flatten)[k] := by simp [gb, List.getD_eq_getElem?_getD, hk]
    have h4 : gb (pnt (mk0 m) F.flatten) (k : Int) = true := h2
    rw [h3, e] at h4
    cases h4

set_option maxHeartbeats 1000000 in
theorem isComplex_c (V : Int) (A : Option Addr) (n c : Nat) (rs : List SlV) (F : List (List Int)) (w : World) (hT : Tab w) (hR : RowsI w A n rs F) (hn : n ≤ 9223372036854775807) :
    Ret Tryz.prog 68 [.agg #[.int .i64 V, .slice A n c]] w (fun v w' => v = .bool (decide (Cplx V F)) ∧ St w w' []) := by
  have hFl := hR.len
  refine Ret.of_cd Tryz.func68 rfl Tryz.ntmps68 rfl (post1 rfl) ?_
  refine Cd.seq ?_
  refine Cd.region ?_
  refine Ops.box2 (St.refl w) rfl rfl ?_
  intro Ab w1 hS
  refine Ops.mv_bool rfl rfl rfl ?_
  refine Ops.nil ?_
  refine thenQ_n ?_
  refine Cd.seq ?_
  refine Cd.seq ?_
  refine Cd.region ?_
  refine Ops.fld (hS.rd 0 rfl) rfl rfl rfl rfl inferInstance ?_
  refine Ops.ldf_i (hS.rd 0 rfl) rfl rfl rfl rfl rfl ?_
  refine Ops.call (within_c _ _ _ _) rfl rfl rfl ?_
  rintro _ _ ⟨rfl, rfl⟩
  first | refine Ops.not_p rfl rfl ?_ | refine Ops.not rfl rfl ?_
  refine Ops.mv_bool rfl rfl rfl ?_
  refine Ops.split_p 12 rfl (fun h1 => ?_) (fun h1 => ?_)
  · refine Ops.skipg rfl rfl rfl rfl rfl ?_
    refine Ops.skipg rfl rfl rfl rfl rfl ?_
    refine Ops.skipg rfl rfl rfl rfl rfl ?_
    refine Ops.skipg rfl rfl rfl rfl rfl ?_
    refine Ops.pick_t rfl rfl rfl ?_
    refine Ops.nil ?_
    refine thenQ_n ?_
    refine Cd.cond_t rfl ?_
    refine Cd.seq ?_
    refine Cd.region ?_
    refine Ops.mv_bool rfl rfl rfl ?_
    refine Ops.nil ?_
    refine thenQ_n ?_
    refine Cd.ret ?_
    refine thenQ_r ?_
    refine ret1_b rfl ?_
    exact ⟨by rw [decide_eq_false (fun h : Cplx V F => h1 h.v)], hS.none⟩
  have h1 := Classical.not_not.1 h1
  refine Ops.rung rfl rfl rfl ?_
  refine Ops.fld (hS.rd 0 rfl) rfl rfl rfl rfl inferInstance ?_
  refine Ops.rung rfl rfl rfl ?_
  refine Ops.ldf_s (hS.rd 0 rfl) rfl rfl rfl rfl rfl ?_
  refine Ops.rung rfl rfl rfl ?_
  refine Ops.len rfl rfl ?_
  refine Ops.rung rfl rfl rfl ?_
  refine Ops.gtr rfl rfl rfl ?_
  refine Ops.pick_f rfl rfl rfl ?_
  refine Ops.nil ?_
  refine thenQ_n ?_
  refine Cd.cond_p _ rfl (fun h2 => ?_) (fun h2 => ?_)
  · refine Cd.seq ?_
    refine Cd.region ?_
    refine Ops.mv_bool rfl rfl rfl ?_
    refine Ops.nil ?_
    refine thenQ_n ?_
    refine Cd.ret ?_
    refine thenQ_r ?_
    refine ret1_b rfl ?_
    exact ⟨by rw [decide_eq_false (fun h : Cplx V F => by have := h.f; omega)], hS.none⟩
  obtain ⟨m, rfl⟩ := Int.eq_ofNat_of_zero_le h1.1
  have hm : m ≤ 60 := by omega
  clear h1
  refine Cd.skip ?_
  refine thenQ_n ?_
  refine Cd.seq ?_
  refine Cd.region ?_
  refine Ops.fld (hS.rd 0 rfl) rfl rfl rfl rfl inferInstance ?_
  refine Ops.ldf_i (hS.rd 0 rfl) rfl rfl rfl rfl rfl ?_
  refine Ops.mkB m hS rfl rfl (by omega) ?_
  intro A3 w2 hS2
  have hS2 : St w w2 [CkB 4 A3 m m (pnt (mk0 m) (F.take 0).flatten), cxB Ab m A n c] := hS2
  refine Ops.mv_sl rfl rfl rfl ?_
  refine Ops.nil ?_
  refine thenQ_n ?_
  refine Cd.seq ?_
  refine Cd.seq ?_
  refine Cd.region ?_
  refine Ops.fld (hS2.rd 1 rfl) rfl rfl rfl rfl inferInstance ?_
  refine Ops.ldf_s (hS2.rd 1 rfl) rfl rfl rfl rfl rfl ?_
  refine Ops.len rfl rfl ?_
  refine Ops.mv_int rfl rfl rfl ?_
  refine Ops.nil ?_
  refine thenQ_n ?_
  refine Cd.block ?_
  refine Cd.loop (α := Nat) (fun i => [(1, .pointer Ab), (3, .slice A3 m m), (22, .slice A n c), (23, .int .i64 (n : Int)), (24, .int .i64 (i : Int))]) (fun i w' => i ≤ n ∧ PreC m F i ∧ St w w' [CkB 4 A3 m m (pnt (mk0 m) (F.take i).flatten), cxB Ab m A n c]) (fun i => n - i) 0 ⟨rfl, rfl, rfl, rfl, rfl, trivial⟩ ⟨Nat.zero_le _, PreC.zero _ _, hS2⟩ ?_
  rintro i e w3 ⟨hi, hP, hS3⟩
  have hB3 := hS3.rd 1 rfl
  refine Cd.seq ?_
  refine Cd.region ?_
  refine Ops.lss rfl rfl rfl ?_
  refine Ops.nil ?_
  refine thenQ_n ?_
  refine Cd.seq ?_
  refine Cd.cond_p _ rfl (fun h3 => ?_) (fun h3 => ?_)
  · have hiF : i < F.length := by omega
    have hM := hS3.oldRows hR
    have hrow := hM.at_ (i := (i : Int)) (by omega) (by omega)
    have hrl := hrow.1
    have hcap := hM.cap_ (i := (i : Int)) (by omega) (by omega)
    refine Cd.skip ?_
    refine thenQ_n ?_
    refine Cd.seq ?_
    refine Cd.block ?_
    refine Cd.seq ?_
    refine Cd.region ?_
    refine Ops.mv_int rfl rfl rfl ?_
    refine Ops.idx hM.top.2 rfl rfl rfl (by omega) (by omega) ?_
    refine Ops.ld_sl hM.top rfl (by omega) rfl rfl ?_
    refine Ops.mv_int rfl rfl rfl ?_
    refine Ops.mv_sl rfl rfl rfl ?_
    refine Ops.nil ?_
    refine thenQ_n ?_
    refine Cd.seq ?_
    refine Cd.seq ?_
    refine Cd.region ?_
    refine Ops.mv_sl rfl rfl rfl ?_
    refine Ops.call (sizeI_c _ _ _ _) rfl rfl rfl ?_
    rintro _ _ ⟨rfl, rfl⟩
    refine Ops.call (within_c _ _ _ _) rfl rfl rfl ?_
    rintro _ _ ⟨rfl, rfl⟩
    first | refine Ops.not_p rfl rfl ?_ | refine Ops.not rfl rfl ?_
    refine Ops.mv_bool rfl rfl rfl ?_
    refine Ops.split_p 33 rfl (fun h4 => ?_) (fun h4 => ?_)
    · refine Ops.skipg rfl rfl rfl rfl rfl ?_
      refine Ops.skipg rfl rfl rfl rfl rfl ?_
      refine Ops.skipg rfl rfl rfl rfl rfl ?_
      refine Ops.skipg rfl rfl rfl rfl rfl ?_
      refine Ops.skipg rfl rfl rfl rfl rfl ?_
      refine Ops.skipg rfl rfl rfl rfl rfl ?_
      refine Ops.pick_t rfl rfl rfl ?_
      refine Ops.mv_bool rfl rfl rfl ?_
      refine Ops.skipg rfl rfl rfl rfl rfl ?_
      refine Ops.skipg rfl rfl rfl rfl rfl ?_
      refine Ops.skipg rfl rfl rfl rfl rfl ?_
      refine Ops.skipu rfl rfl rfl rfl ?_
      refine Ops.skipu rfl rfl rfl rfl ?_
      refine Ops.skipu rfl rfl rfl rfl ?_
      refine Ops.skipu rfl rfl rfl rfl ?_
      refine Ops.skipu rfl rfl rfl rfl ?_
      refine Ops.skipu rfl rfl rfl rfl ?_
      refine Ops.skipu rfl rfl rfl rfl ?_
      refine Ops.skipu rfl rfl rfl rfl ?_
      refine Ops.skipu rfl rfl rfl rfl ?_
      refine Ops.skipg rfl rfl rfl rfl rfl ?_
      refine Ops.pick_t rfl rfl rfl ?_
      refine Ops.nil ?_
      refine thenQ_n ?_
      refine Cd.cond_t rfl ?_
      refine Cd.seq ?_
      refine Cd.region ?_
      refine Ops.mv_bool rfl rfl rfl ?_
      refine Ops.nil ?_
      refine thenQ_n ?_
      refine Cd.ret ?_
      refine thenQ_r ?_
      refine blockQ_r ?_
      refine thenQ_r ?_
      refine thenQ_r ?_
      refine blockQ_r ?_
      refine thenQ_r ?_
      refine ret1_b rfl ?_
      exact ⟨by rw [decide_eq_false (fun h : Cplx m F => by have := (h.at_ hiF).1; omega)], hS3.none⟩
    have h4 := Classical.not_not.1 h4
    refine Ops.rung rfl rfl rfl ?_
    refine Ops.mv_sl rfl rfl rfl ?_
    refine Ops.rung rfl rfl rfl ?_
    refine Ops.fld hB3 rfl rfl rfl rfl inferInstance ?_
    refine Ops.rung rfl rfl rfl ?_
    refine Ops.ldf_i hB3 rfl rfl rfl rfl rfl ?_
    refine Ops.rung rfl rfl rfl ?_
    refine Ops.sub rfl rfl rfl (by omega) ?_
    refine Ops.rung rfl rfl rfl ?_
    refine Ops.call (areWithin_c _ _ _ _ _ _ _ hrow (by omega)) rfl rfl rfl ?_
    rintro _ w4 ⟨rfl, hst⟩
    have hS3 := hS3.later hst.below
    have hM := hS3.oldRows hR
    have hrow := hM.at_ (i := (i : Int)) (by omega) (by omega)
    have hB3 := hS3.rd 1 rfl
    refine Ops.rung rfl rfl rfl ?_
    first | refine Ops.not_p rfl rfl ?_ | refine Ops.not rfl rfl ?_
    refine Ops.pick_f rfl rfl rfl ?_
    refine Ops.mv_bool rfl rfl rfl ?_
    refine Ops.split_p 41 rfl (fun h5 => ?_) (fun h5 => ?_)
    · refine Ops.skipg rfl rfl rfl rfl rfl ?_
      refine Ops.skipg rfl rfl rfl rfl rfl ?_
      refine Ops.skipg rfl rfl rfl rfl rfl ?_
      refine Ops.skipu rfl rfl rfl rfl ?_
      refine Ops.skipu rfl rfl rfl rfl ?_
      refine Ops.skipu rfl rfl rfl rfl ?_
      refine Ops.skipu rfl rfl rfl rfl ?_
      refine Ops.skipu rfl rfl rfl rfl ?_
      refine Ops.skipu rfl rfl rfl rfl ?_
      refine Ops.skipu rfl rfl rfl rfl ?_
      refine Ops.skipu rfl rfl rfl rfl ?_
      refine Ops.skipu rfl rfl rfl rfl ?_
      refine Ops.skipg rfl rfl rfl rfl rfl ?_
      refine Ops.pick_t rfl rfl rfl ?_
      refine Ops.nil ?_
      refine thenQ_n ?_
      refine Cd.cond_t rfl ?_
      refine Cd.seq ?_
      refine Cd.region ?_
      refine Ops.mv_bool rfl rfl rfl ?_
      refine Ops.nil ?_
      refine thenQ_n ?_
      refine Cd.ret ?_
      refine thenQ_r ?_
      refine blockQ_r ?_
      refine thenQ_r ?_
      refine thenQ_r ?_
      refine blockQ_r ?_
      refine thenQ_r ?_
      refine ret1_b rfl ?_
      exact ⟨by rw [decide_eq_false (fun h : Cplx m F => h5 fun x hx => by have := (h.at_ hiF).2.2 x hx; omega)], hS3.none⟩
    have h5 : ∀ x ∈ gl F (i : Int), 0 ≤ x ∧ x ≤ (m : Int) - 1 := Classical.not_not.1 h5
    refine Ops.rung rfl rfl rfl ?_
    refine Ops.mv_int rfl rfl rfl ?_
    refine Ops.rung rfl rfl rfl ?_
    refine Ops.gtr rfl rfl rfl ?_
    refine Ops.rung rfl rfl rfl ?_
    refine Ops.mv_bool rfl rfl rfl ?_
    refine Ops.split_p 44 rfl (fun h6 => ?_) (fun h6 => ?_)
    · have hrow' := hM.at_ (i := (i : Int) - 1) (by omega) (by omega)
      have hcap' := hM.cap_ (i := (i : Int) - 1) (by omega) (by omega)
      refine Ops.rung rfl rfl rfl ?_
      refine Ops.fld hB3 rfl rfl rfl rfl inferInstance ?_
      refine Ops.rung rfl rfl rfl ?_
      refine Ops.ldf_s hB3 rfl rfl rfl rfl rfl ?_
      refine Ops.rung rfl rfl rfl ?_
      refine Ops.mv_int rfl rfl rfl ?_
      refine Ops.rung rfl rfl rfl ?_
      refine Ops.sub rfl rfl rfl (by omega) ?_
      refine Ops.rung rfl rfl rfl ?_
      refine Ops.idx hM.top.2 rfl rfl rfl (by omega) (by omega) ?_
      refine Ops.rung rfl rfl rfl ?_
      refine Ops.ld_sl hM.top rfl (by omega) rfl rfl ?_
      refine Ops.rung rfl rfl rfl ?_
      refine Ops.mv_sl rfl rfl rfl ?_
      refine Ops.rung rfl rfl rfl ?_
      refine Ops.call (Compare_c _ _ _ _ _ _ _ _ _ hrow' hrow (by omega)) rfl rfl rfl ?_
      rintro _ _ ⟨rfl, rfl⟩
      refine Ops.rung rfl rfl rfl ?_
      refine Ops.geq rfl rfl rfl ?_
      refine Ops.rung rfl rfl rfl ?_
      refine Ops.pick_t rfl rfl rfl ?_
      refine Ops.pick_f rfl rfl rfl ?_
      refine Ops.nil ?_
      refine thenQ_n ?_
      refine Cd.cond_p _ rfl (fun h7 => ?_) (fun h7 => ?_)
      · refine Cd.seq ?_
        refine Cd.region ?_
        refine Ops.mv_bool rfl rfl rfl ?_
        refine Ops.nil ?_
        refine thenQ_n ?_
        refine Cd.ret ?_
        refine thenQ_r ?_
        refine blockQ_r ?_
        refine thenQ_r ?_
        refine thenQ_r ?_
        refine blockQ_r ?_
        refine thenQ_r ?_
        refine ret1_b rfl ?_
        exact ⟨by rw [decide_eq_false (fun h : Cplx m F => by have h8 : lexC _ _ < 0 := h.lt (k := i) (by omega) hiF; omega)], hS3.none⟩
      · have hlt : i = 0 ∨ LT (gl F ((i : Int) - 1)) (gl F (i : Int)) := .inr (by show lexC _ _ < 0; omega)
        refine Cd.skip ?_
        refine thenQ_n ?_
        refine Cd.seq ?_
        refine Cd.region ?_
        refine Ops.mv_sl rfl rfl rfl ?_
        refine Ops.len rfl rfl ?_
        refine Ops.mv_int rfl rfl rfl ?_
        refine Ops.nil ?_
        refine thenQ_n ?_
        refine Cd.block ?_
        refine Cd.loop (α := Nat) (fun j => [(1, .pointer Ab), (3, .slice A3 m m), (5, .slice (rg rs (i : Int)).a (rg rs (i : Int)).n (rg rs (i : Int)).c), (22, .slice A n c), (23, .int .i64 (n : Int)), (24, .int .i64 (i : Int)), (56, .slice (rg rs (i : Int)).a (rg rs (i : Int)).n (rg rs (i : Int)).c), (57, .int .i64 ((rg rs (i : Int)).n : Int)), (58, .int .i64 (j : Int))]) (fun j w' => j ≤ (gl F (i : Int)).length ∧ SA ((gl F (i : Int)).take j) ∧ St w w' [CkB 4 A3 m m (pnt (mk0 m) ((F.take i).flatten ++ (gl F (i : Int)).take j)), cxB Ab m A n c]) (fun j => (gl F (i : Int)).length - j) 0 ⟨rfl, rfl, rfl, rfl, rfl, rfl, rfl, rfl, rfl, trivial⟩ ⟨Nat.zero_le _, by simp [SA], by rw [List.take_zero, List.append_nil]; exact hS3⟩ ?_
        rintro j e w5 ⟨hj, hA5, hS5⟩
        have hM5 := hS5.oldRows hR
        have hrow5 := hM5.at_ (i := (i : Int)) (by omega) (by omega)
        refine Cd.seq ?_
        refine Cd.region ?_
        refine Ops.lss rfl rfl rfl ?_
        refine Ops.nil ?_
        refine thenQ_n ?_
        refine Cd.seq ?_
        refine Cd.cond_p _ rfl (fun h9 => ?_) (fun h9 => ?_)
        · have hjl : j < (gl F (i : Int)).length := by omega
          have hjr := h5 (gi (gl F (i : Int)) (j : Int)) (by rw [gi_mem hjl]; exact List.getElem_mem _)
          have hH := hS5.rdB 0 rfl
          refine Cd.skip ?_
          refine thenQ_n ?_
          refine Cd.seq ?_
          refine Cd.block ?_
          refine Cd.seq ?_
          refine Cd.region ?_
          refine Ops.mv_int rfl rfl rfl ?_
          refine Ops.idx hrow5.2 rfl rfl rfl (by omega) (by omega) ?_
          refine Ops.ld_int hrow5 rfl (by omega) rfl rfl ?_
          refine Ops.mv_int rfl rfl rfl ?_
          refine Ops.mv_int rfl rfl rfl ?_
          refine Ops.nil ?_
          refine thenQ_n ?_
          refine Cd.seq ?_
          refine Cd.seq ?_
          refine Cd.region ?_
          refine Ops.mv_int rfl rfl rfl ?_
          refine Ops.gtr rfl rfl rfl ?_
          refine Ops.mv_bool rfl rfl rfl ?_
          refine Ops.split_p 65 rfl (fun h10 => ?_) (fun h10 => ?_)
          · refine Ops.rung rfl rfl rfl ?_
            refine Ops.mv_sl rfl rfl rfl ?_
            refine Ops.rung rfl rfl rfl ?_
            refine Ops.mv_int rfl rfl rfl ?_
            refine Ops.rung rfl rfl rfl ?_
            refine Ops.sub rfl rfl rfl (by omega) ?_
            refine Ops.rung rfl rfl rfl ?_
            refine Ops.idx hrow5.2 rfl rfl rfl (by omega) (by omega) ?_
            refine Ops.rung rfl rfl rfl ?_
            refine Ops.ld_int hrow5 rfl (by omega) rfl rfl ?_
            refine Ops.rung rfl rfl rfl ?_
            refine Ops.mv_int rfl rfl rfl ?_
            refine Ops.rung rfl rfl rfl ?_
            refine Ops.geq rfl rfl rfl ?_
            refine Ops.pick_t rfl rfl rfl ?_
            refine Ops.nil ?_
            refine thenQ_n ?_
            refine Cd.cond_p _ rfl (fun h11 => ?_) (fun h11 => ?_)
            · refine Cd.seq ?_
              refine Cd.region ?_
              refine Ops.mv_bool rfl rfl rfl ?_
              refine Ops.nil ?_
              refine thenQ_n ?_
              refine Cd.ret ?_
              refine thenQ_r ?_
              refine blockQ_r ?_
              refine thenQ_r ?_
              refine thenQ_r ?_
              refine blockQ_r ?_
              refine blockQ_r ?_
              refine thenQ_r ?_
              refine thenQ_r ?_
              refine blockQ_r ?_
              refine thenQ_r ?_
              refine ret1_b rfl ?_
              exact ⟨by rw [decide_eq_false (fun h : Cplx m F => by have := (h.at_ hiF).2.1.step (k := j) (by omega) hjl; omega)], hS5.none⟩
            · have hnx : SA ((gl F (i : Int)).take (j + 1)) := hA5.snoc hjl (.inr (by omega))
              refine Cd.skip ?_
              refine thenQ_n ?_
              refine Cd.region ?_
              refine Ops.mv_sl rfl rfl rfl ?_
              refine Ops.mv_int rfl rfl rfl ?_
              refine Ops.idx hH.2 rfl rfl rfl (by omega) (by omega) ?_
              refine Ops.st_bool 0 hS5 rfl rfl rfl (by omega) ?_
              intro w6 hS6
              refine Ops.nil ?_
              refine blockQ_n ?_
              refine thenQ_n ?_
              refine Cd.region ?_
              refine Ops.add rfl rfl rfl (by omega) ?_
              refine Ops.mv_int rfl rfl rfl ?_
              refine Ops.nil ?_
              refine thenQ_n ?_
              refine ⟨j + 1, by show (gl F (i : Int)).length - (j + 1) < (gl F (i : Int)).length - j; omega, ⟨rfl, rfl, rfl, rfl, rfl, rfl, rfl, rfl, rfl, trivial⟩, by omega, hnx, ?_⟩
              rw [take_succ_gi hjl, ← List.append_assoc, pnt_snoc]
              exact hS6
          · have hnx : SA ((gl F (i : Int)).take (j + 1)) := hA5.snoc hjl (.inl (by omega))
            refine Ops.skipg rfl rfl rfl rfl rfl ?_
            refine Ops.skipg rfl rfl rfl rfl rfl ?_
            refine Ops.skipg rfl rfl rfl rfl rfl ?_
            refine Ops.skipg rfl rfl rfl rfl rfl ?_
            refine Ops.skipg rfl rfl rfl rfl rfl ?_
            refine Ops.skipg rfl rfl rfl rfl rfl ?_
            refine Ops.skipg rfl rfl rfl rfl rfl ?_
            refine Ops.pick_f rfl rfl rfl ?_
            refine Ops.nil ?_
            refine thenQ_n ?_
            refine Cd.cond_f rfl ?_
            refine Cd.skip ?_
            refine thenQ_n ?_
            refine Cd.region ?_
            refine Ops.mv_sl rfl rfl rfl ?_
            refine Ops.mv_int rfl rfl rfl ?_
            refine Ops.idx hH.2 rfl rfl rfl (by omega) (by omega) ?_
            refine Ops.st_bool 0 hS5 rfl rfl rfl (by omega) ?_
            intro w6 hS6
            refine Ops.nil ?_
            refine blockQ_n ?_
            refine thenQ_n ?_
            refine Cd.region ?_
            refine Ops.add rfl rfl rfl (by omega) ?_
            refine Ops.mv_int rfl rfl rfl ?_
            refine Ops.nil ?_
            refine thenQ_n ?_
            refine ⟨j + 1, by show (gl F (i : Int)).length - (j + 1) < (gl F (i : Int)).length - j; omega, ⟨rfl, rfl, rfl, rfl, rfl, rfl, rfl, rfl, rfl, trivial⟩, by omega, hnx, ?_⟩
            rw [take_succ_gi hjl, ← List.append_assoc, pnt_snoc]
            exact hS6
        · rw [show (gl F (i : Int)).take j = gl F (i : Int) from List.take_of_length_le (by omega)] at hS5 hA5
          refine Cd.exit ?_
          refine thenQ_x ?_
          refine thenQ_x ?_
          refine blockQ_x ?_
          refine blockQ_n ?_
          refine thenQ_n ?_
          refine Cd.region ?_
          refine Ops.add rfl rfl rfl (by omega) ?_
          refine Ops.mv_int rfl rfl rfl ?_
          refine Ops.nil ?_
          refine thenQ_n ?_
          refine ⟨i + 1, by show n - (i + 1) < n - i; omega, ⟨rfl, rfl, rfl, rfl, rfl, trivial⟩, by omega, hP.step hiF ⟨⟨by omega, by omega⟩, hA5, fun x hx => by have := h5 x hx; omega⟩ hlt, ?_⟩
          rw [take_succ_gl hiF, List.flatten_append]
          simpa using hS5
    · have hlt : i = 0 ∨ LT (gl F ((i : Int) - 1)) (gl F (i : Int)) := .inl (by omega)
      refine Ops.skipg rfl rfl rfl rfl rfl ?_
      refine Ops.skipg rfl rfl rfl rfl rfl ?_
      refine Ops.skipg rfl rfl rfl rfl rfl ?_
      refine Ops.skipg rfl rfl rfl rfl rfl ?_
      refine Ops.skipg rfl rfl rfl rfl rfl ?_
      refine Ops.skipg rfl rfl rfl rfl rfl ?_
      refine Ops.skipg rfl rfl rfl rfl rfl ?_
      refine Ops.skipg rfl rfl rfl rfl rfl ?_
      refine Ops.skipg rfl rfl rfl rfl rfl ?_
      refine Ops.rung rfl rfl rfl ?_
      refine Ops.pick_f rfl rfl rfl ?_
      refine Ops.pick_f rfl rfl rfl ?_
      refine Ops.nil ?_
      refine thenQ_n ?_
      refine Cd.cond_f rfl ?_
      refine Cd.skip ?_
      refine thenQ_n ?_
      refine Cd.seq ?_
      refine Cd.region ?_
      refine Ops.mv_sl rfl rfl rfl ?_
      refine Ops.len rfl rfl ?_
      refine Ops.mv_int rfl rfl rfl ?_
      refine Ops.nil ?_
      refine thenQ_n ?_
      refine Cd.block ?_
      refine Cd.loop (α := Nat) (fun j => [(1, .pointer Ab), (3, .slice A3 m m), (5, .slice (rg rs (i : Int)).a (rg rs (i : Int)).n (rg rs (i : Int)).c), (22, .slice A n c), (23, .int .i64 (n : Int)), (24, .int .i64 (i : Int)), (56, .slice (rg rs (i : Int)).a (rg rs (i : Int)).n (rg rs (i : Int)).c), (57, .int .i64 ((rg rs (i : Int)).n : Int)), (58, .int .i64 (j : Int))]) (fun j w' => j ≤ (gl F (i : Int)).length ∧ SA ((gl F (i : Int)).take j) ∧ St w w' [CkB 4 A3 m m (pnt (mk0 m) ((F.take i).flatten ++ (gl F (i : Int)).take j)), cxB Ab m A n c]) (fun j => (gl F (i : Int)).length - j) 0 ⟨rfl, rfl, rfl, rfl, rfl, rfl, rfl, rfl, rfl, trivial⟩ ⟨Nat.zero_le _, by simp [SA], by rw [List.take_zero, List.append_nil]; exact hS3⟩ ?_
      rintro j e w5 ⟨hj, hA5, hS5⟩
      have hM5 := hS5.oldRows hR
      have hrow5 := hM5.at_ (i := (i : Int)) (by omega) (by omega)
      refine Cd.seq ?_
      refine Cd.region ?_
      refine Ops.lss rfl rfl rfl ?_
      refine Ops.nil ?_
      refine thenQ_n ?_
      refine Cd.seq ?_
      refine Cd.cond_p _ rfl (fun h9 => ?_) (fun h9 => ?_)
      · have hjl : j < (gl F (i : Int)).length := by omega
        have hjr := h5 (gi (gl F (i : Int)) (j : Int)) (by rw [gi_mem hjl]; exact List.getElem_mem _)
        have hH := hS5.rdB 0 rfl
        refine Cd.skip ?_
        refine thenQ_n ?_
        refine Cd.seq ?_
        refine Cd.block ?_
        refine Cd.seq ?_
        refine Cd.region ?_
        refine Ops.mv_int rfl rfl rfl ?_
        refine Ops.idx hrow5.2 rfl rfl rfl (by omega) (by omega) ?_
        refine Ops.ld_int hrow5 rfl (by omega) rfl rfl ?_
        refine Ops.mv_int rfl rfl rfl ?_
        refine Ops.mv_int rfl rfl rfl ?_
        refine Ops.nil ?_
        refine thenQ_n ?_
        refine Cd.seq ?_
        refine Cd.seq ?_
        refine Cd.region ?_
        refine Ops.mv_int rfl rfl rfl ?_
        refine Ops.gtr rfl rfl rfl ?_
        refine Ops.mv_bool rfl rfl rfl ?_
        refine Ops.split_p 65 rfl (fun h10 => ?_) (fun h10 => ?_)
        · refine Ops.rung rfl rfl rfl ?_
          refine Ops.mv_sl rfl rfl rfl ?_
          refine Ops.rung rfl rfl rfl ?_
          refine Ops.mv_int rfl rfl rfl ?_
          refine Ops.rung rfl rfl rfl ?_
          refine Ops.sub rfl rfl rfl (by omega) ?_
          refine Ops.rung rfl rfl rfl ?_
          refine Ops.idx hrow5.2 rfl rfl rfl (by omega) (by omega) ?_
          refine Ops.rung rfl rfl rfl ?_
          refine Ops.ld_int hrow5 rfl (by omega) rfl rfl ?_
          refine Ops.rung rfl rfl rfl ?_
          refine Ops.mv_int rfl rfl rfl ?_
          refine Ops.rung rfl rfl rfl ?_
          refine Ops.geq rfl rfl rfl ?_
          refine Ops.pick_t rfl rfl rfl ?_
          refine Ops.nil ?_
          refine thenQ_n ?_
          refine Cd.cond_p _ rfl (fun h11 => ?_) (fun h11 => ?_)
          · refine Cd.seq ?_
            refine Cd.region ?_
            refine Ops.mv_bool rfl rfl rfl ?_
            refine Ops.nil ?_
            refine thenQ_n ?_
            refine Cd.ret ?_
            refine thenQ_r ?_
            refine blockQ_r ?_
            refine thenQ_r ?_
            refine thenQ_r ?_
            refine blockQ_r ?_
            refine blockQ_r ?_
            refine thenQ_r ?_
            refine thenQ_r ?_
            refine blockQ_r ?_
            refine thenQ_r ?_
            refine ret1_b rfl ?_
            exact ⟨by rw [decide_eq_false (fun h : Cplx m F => by have := (h.at_ hiF).2.1.step (k := j) (by omega) hjl; omega)], hS5.none⟩
          · have hnx : SA ((gl F (i : Int)).take (j + 1)) := hA5.snoc hjl (.inr (by omega))
            refine Cd.skip ?_
            refine thenQ_n ?_
            refine Cd.region ?_
            refine Ops.mv_sl rfl rfl rfl ?_
            refine Ops.mv_int rfl rfl rfl ?_
            refine Ops.idx hH.2 rfl rfl rfl (by omega) (by omega) ?_
            refine Ops.st_bool 0 hS5 rfl rfl rfl (by omega) ?_
            intro w6 hS6
            refine Ops.nil ?_
            refine blockQ_n ?_
            refine thenQ_n ?_
            refine Cd.region ?_
            refine Ops.add rfl rfl rfl (by omega) ?_
            refine Ops.mv_int rfl rfl rfl ?_
            refine Ops.nil ?_
            refine thenQ_n ?_
            refine ⟨j + 1, by show (gl F (i : Int)).length - (j + 1) < (gl F (i : Int)).length - j; omega, ⟨rfl, rfl, rfl, rfl, rfl, rfl, rfl, rfl, rfl, trivial⟩, by omega, hnx, ?_⟩
            rw [take_succ_gi hjl, ← List.append_assoc, pnt_snoc]
            exact hS6
        · have hnx : SA ((gl F (i : Int)).take (j + 1)) := hA5.snoc hjl (.inl (by omega))
          refine Ops.skipg rfl rfl rfl rfl rfl ?_
          refine Ops.skipg rfl rfl rfl rfl rfl ?_
          refine Ops.skipg rfl rfl rfl rfl rfl ?_
          refine Ops.skipg rfl rfl rfl rfl rfl ?_
          refine Ops.skipg rfl rfl rfl rfl rfl ?_
          refine Ops.skipg rfl rfl rfl rfl rfl ?_
          refine Ops.skipg rfl rfl rfl rfl rfl ?_
          refine Ops.pick_f rfl rfl rfl ?_
          refine Ops.nil ?_
          refine thenQ_n ?_
          refine Cd.cond_f rfl ?_
          refine Cd.skip ?_
          refine thenQ_n ?_
          refine Cd.region ?_
          refine Ops.mv_sl rfl rfl rfl ?_
          refine Ops.mv_int rfl rfl rfl ?_
          refine Ops.idx hH.2 rfl rfl rfl (by omega) (by omega) ?_
          refine Ops.st_bool 0 hS5 rfl rfl rfl (by omega) ?_
          intro w6 hS6
          refine Ops.nil ?_
          refine blockQ_n ?_
          refine thenQ_n ?_
          refine Cd.region ?_
          refine Ops.add rfl rfl rfl (by omega) ?_
          refine Ops.mv_int rfl rfl rfl ?_
          refine Ops.nil ?_
          refine thenQ_n ?_
          refine ⟨j + 1, by show (gl F (i : Int)).length - (j + 1) < (gl F (i : Int)).length - j; omega, ⟨rfl, rfl, rfl, rfl, rfl, rfl, rfl, rfl, rfl, trivial⟩, by omega, hnx, ?_⟩
          rw [take_succ_gi hjl, ← List.append_assoc, pnt_snoc]
          exact hS6
      · rw [show (gl F (i : Int)).take j = gl F (i : Int) from List.take_of_length_le (by omega)] at hS5 hA5
        refine Cd.exit ?_
        refine thenQ_x ?_
        refine thenQ_x ?_
        refine blockQ_x ?_
        refine blockQ_n ?_
        refine thenQ_n ?_
        refine Cd.region ?_
        refine Ops.add rfl rfl rfl (by omega) ?_
        refine Ops.mv_int rfl rfl rfl ?_
        refine Ops.nil ?_
        refine thenQ_n ?_
        refine ⟨i + 1, by show n - (i + 1) < n - i; omega, ⟨rfl, rfl, rfl, rfl, rfl, trivial⟩, by omega, hP.step hiF ⟨⟨by omega, by omega⟩, hA5, fun x hx => by have := h5 x hx; omega⟩ hlt, ?_⟩
        rw [take_succ_gl hiF, List.flatten_append]
        simpa using hS5
  · have hin : i = F.length := by omega
    subst hin
    obtain ⟨hall, hord⟩ := hP.all
    rw [List.take_length] at hS3
    have hnof := no_false (m := m) (F := F) (fun l hl => (hall l hl).2.2)
    have hfac := facP_all hord (fun l hl e => by have := (hall l hl).1; rw [e] at this; simp at this)
    have hH := hS3.rdB 0 rfl
    have hM := hS3.oldRows hR
    have hG := greatestOf_c A n c rs F
    refine Cd.exit ?_
    refine thenQ_x ?_
    refine thenQ_x ?_
    refine blockQ_x ?_
    refine thenQ_n ?_
    refine Cd.seq ?_
    by_cases h4 : false ∈ pnt (mk0 m) F.flatten
    · --dup 2
      refine Cd.draw [.ex (.slice (A3) (m) (m)), .ex (.bool (decide (false ∈ pnt (mk0 m) F.flatten))), .ex (.bool (decide (¬ (false ∈ pnt (mk0 m) F.flatten)))), .ex (.bool (false)), .ex (undef), .ex (undef), .ex (undef), .ex (undef), .ex (undef), .ex (undef), .ex (undef), .ex (undef), .ex (.bool (false)), .ex (.bool (false))] (by kernel_rfl) (by kernel_rfl) rfl (List.forall_mem_cons.2 ⟨Yd.lasts_ex _, (List.forall_mem_cons.2 ⟨Yd.lasts_ex _, (List.forall_mem_cons.2 ⟨Yd.lasts_ex _, (List.forall_mem_cons.2 ⟨Yd.lasts_ex _, (List.forall_mem_cons.2 ⟨Yd.lasts_ex _, (List.forall_mem_cons.2 ⟨Yd.lasts_ex _, (List.forall_mem_cons.2 ⟨Yd.lasts_ex _, (List.forall_mem_cons.2 ⟨Yd.lasts_ex _, (List.forall_mem_cons.2 ⟨Yd.lasts_ex _, (List.forall_mem_cons.2 ⟨Yd.lasts_ex _, (List.forall_mem_cons.2 ⟨Yd.lasts_ex _, (List.forall_mem_cons.2 ⟨Yd.lasts_ex _, (List.forall_mem_cons.2 ⟨Yd.lasts_ex _, (List.forall_mem_cons.2 ⟨Yd.lasts_ex _, (fun _ h => by cases h)⟩)⟩)⟩)⟩)⟩)⟩)⟩)⟩)⟩)⟩)⟩)⟩)⟩)⟩) ⟨?_, ?_, ?_, ?_, ?_, ?_, ?_, ?_, ?_, ?_, ?_, ?_, ?_, ?_, trivial⟩ ?_
      · intro e1 w1 hb hp hun
        refine Ops.mv_sl rfl rfl rfl ?_
        refine Ops.nil ?_
        exact After.dn (Below.refl _ _) (by exact rfl)
      · intro e1 w1 hb hp hun
        refine Ops.call (ContainsB_c A3 m m _ _ _ (hH.later hb) (by omega)) rfl rfl rfl ?_
        rintro _ w2 ⟨rfl, hst⟩
        subst hst
        refine Ops.nil ?_
        exact After.dn (Below.refl _ _) (by exact rfl)
      · intro e1 w1 hb hp hun
        refine Ops.not_p rfl rfl ?_
        refine Ops.nil ?_
        exact After.dn (Below.refl _ _) (by exact rfl)
      · intro e1 w1 hb hp hun
        refine Ops.mv_bool rfl rfl rfl ?_
        refine Ops.nil ?_
        exact After.dn (Below.refl _ _) (by exact congrArg Value.bool (decide_eq_false (fun h => h h4)))
      · intro e1 w1 hb hp hun
        refine Ops.skipg rfl rfl rfl rfl rfl ?_
        refine Ops.nil ?_
        exact After.dn (Below.refl _ _) (by exact rfl)
      · intro e1 w1 hb hp hun
        refine Ops.skipg rfl rfl rfl rfl rfl ?_
        refine Ops.nil ?_
        exact After.dn (Below.refl _ _) (by exact rfl)
      · intro e1 w1 hb hp hun
        refine Ops.skipg rfl rfl rfl rfl rfl ?_
        refine Ops.nil ?_
        exact After.dn (Below.refl _ _) (by exact rfl)
      · intro e1 w1 hb hp hun
        refine Ops.skipg rfl rfl rfl rfl rfl ?_
        refine Ops.nil ?_
        exact After.dn (Below.refl _ _) (by exact rfl)
      · intro e1 w1 hb hp hun
        refine Ops.skipg rfl rfl rfl rfl rfl ?_
        refine Ops.nil ?_
        exact After.dn (Below.refl _ _) (by exact rfl)
      · intro e1 w1 hb hp hun
        refine Ops.skipg rfl rfl rfl rfl rfl ?_
        refine Ops.nil ?_
        exact After.dn (Below.refl _ _) (by exact rfl)
      · intro e1 w1 hb hp hun
        refine Ops.skipg rfl rfl rfl rfl rfl ?_
        refine Ops.nil ?_
        exact After.dn (Below.refl _ _) (by exact rfl)
      · intro e1 w1 hb hp hun
        refine Ops.skipg rfl rfl rfl rfl rfl ?_
        refine Ops.nil ?_
        exact After.dn (Below.refl _ _) (by exact rfl)
      · intro e1 w1 hb hp hun
        refine Ops.pick_f rfl rfl rfl ?_
        refine Ops.nil ?_
        exact After.dn (Below.refl _ _) (by exact rfl)
      · intro e1 w1 hb hp hun
        refine Ops.mv_bool rfl rfl rfl ?_
        refine Ops.nil ?_
        exact After.dn (Below.refl _ _) (by exact rfl)
      intro u w4 hb _
      refine thenQ_n ?_
      refine Cd.ret ?_
      refine ret1_b rfl ?_
      exact ⟨by rw [decide_eq_false (fun h : Cplx m F => hnof.2 h.all h4)], hS3.none.later hb⟩
    · refine Cd.draw [.ex (.slice (A3) (m) (m)), .ex (.bool (decide (false ∈ pnt (mk0 m) F.flatten))), .ex (.bool (decide (¬ (false ∈ pnt (mk0 m) F.flatten)))), .ex (.bool (true)), .ex (.pointer (ptrAt (Ab) 1)), .ex (.slice (A) (n) (c)), .pr (fun v w' => ∃ A' c', v = .slice A' (facP F).length c'), .ex (.int .i64 (((facP F).length : Nat) : Int)), .ex (.pointer (ptrAt (Ab) 1)), .ex (.slice (A) (n) (c)), .ex (.int .i64 (((n : Nat) : Int))), .ex (.bool (decide ((((facP F).length : Nat) : Int) = (((n : Nat) : Int))))), .ex (.bool (decide ((((facP F).length : Nat) : Int) = (((n : Nat) : Int))))), .ex (.bool (decide ((((facP F).length : Nat) : Int) = (((n : Nat) : Int)))))] (by kernel_rfl) (by kernel_rfl) rfl (List.forall_mem_cons.2 ⟨Yd.lasts_ex _, (List.forall_mem_cons.2 ⟨Yd.lasts_ex _, (List.forall_mem_cons.2 ⟨Yd.lasts_ex _, (List.forall_mem_cons.2 ⟨Yd.lasts_ex _, (List.forall_mem_cons.2 ⟨Yd.lasts_ex _, (List.forall_mem_cons.2 ⟨Yd.lasts_ex _, (List.forall_mem_cons.2 ⟨Yd.lasts_pr (fun v w w' h hb => h), (List.forall_mem_cons.2 ⟨Yd.lasts_ex _, (List.forall_mem_cons.2 ⟨Yd.lasts_ex _, (List.forall_mem_cons.2 ⟨Yd.lasts_ex _, (List.forall_mem_cons.2 ⟨Yd.lasts_ex _, (List.forall_mem_cons.2 ⟨Yd.lasts_ex _, (List.forall_mem_cons.2 ⟨Yd.lasts_ex _, (List.forall_mem_cons.2 ⟨Yd.lasts_ex _, (fun _ h => by cases h)⟩)⟩)⟩)⟩)⟩)⟩)⟩)⟩)⟩)⟩)⟩)⟩)⟩)⟩) ⟨?_, ?_, ?_, ?_, ?_, ?_, ?_, ?_, ?_, ?_, ?_, ?_, ?_, ?_, trivial⟩ ?_
      · intro e1 w1 hb hp hun
        refine Ops.mv_sl rfl rfl rfl ?_
        refine Ops.nil ?_
        exact After.dn (Below.refl _ _) (by exact rfl)
      · intro e1 w1 hb hp hun
        refine Ops.call (ContainsB_c A3 m m _ _ _ (hH.later hb) (by omega)) rfl rfl rfl ?_
        rintro _ w2 ⟨rfl, hst⟩
        subst hst
        refine Ops.nil ?_
        exact After.dn (Below.refl _ _) (by exact rfl)
      · intro e1 w1 hb hp hun
        refine Ops.not_p rfl rfl ?_
        refine Ops.nil ?_
        exact After.dn (Below.refl _ _) (by exact rfl)
      · intro e1 w1 hb hp hun
        refine Ops.mv_bool rfl rfl rfl ?_
        refine Ops.nil ?_
        exact After.dn (Below.refl _ _) (by exact congrArg Value.bool (decide_eq_true h4))
      · intro e1 w1 hb hp hun
        refine Ops.rung rfl rfl rfl ?_
        refine Ops.fld (hB3.below hb) rfl rfl rfl rfl inferInstance ?_
        refine Ops.nil ?_
        exact After.dn (Below.refl _ _) (by exact rfl)
      · intro e1 w1 hb hp hun
        refine Ops.rung rfl rfl rfl ?_
        refine Ops.ldf_s (hB3.below hb) rfl rfl rfl rfl rfl ?_
        refine Ops.nil ?_
        exact After.dn (Below.refl _ _) (by exact rfl)
      · intro e1 w1 hb hp hun
        refine Ops.rung rfl rfl rfl ?_
        refine Ops.call (greatestOf_c A n c rs F _ (hT.later (hS3.below.trans (hb.mono hS3.below.size))) (hM.later hb) (by omega) (fun l hl => (hall l hl).2.1) (fun l hl => (hall l hl).1.2) (fun l hl x hx => by have := (hall l hl).2.2 x hx; omega)) rfl rfl rfl ?_
        rintro _ w2 ⟨q, A', c', rfl, _, _, hq, hst⟩
        refine Ops.nil ?_
        exact After.dn hst.below ⟨A', c', by rw [← hq, List.length_map]⟩
      · intro e1 w1 hb hp hun
        refine Ops.rung rfl rfl rfl ?_
        obtain ⟨A', c', h85⟩ := (hp 6 (by decide) rfl _ _ rfl rfl)
        refine Ops.len h85 rfl ?_
        refine Ops.nil ?_
        exact After.dn (Below.refl _ _) rfl
      · intro e1 w1 hb hp hun
        refine Ops.rung rfl rfl rfl ?_
        refine Ops.fld (hB3.below hb) rfl rfl rfl rfl inferInstance ?_
        refine Ops.nil ?_
        exact After.dn (Below.refl _ _) (by exact rfl)
      · intro e1 w1 hb hp hun
        refine Ops.rung rfl rfl rfl ?_
        refine Ops.ldf_s (hB3.below hb) rfl rfl rfl rfl rfl ?_
        refine Ops.nil ?_
        exact After.dn (Below.refl _ _) (by exact rfl)
      · intro e1 w1 hb hp hun
        refine Ops.rung rfl rfl rfl ?_
        refine Ops.len rfl rfl ?_
        refine Ops.nil ?_
        exact After.dn (Below.refl _ _) (by exact rfl)
      · intro e1 w1 hb hp hun
        refine Ops.rung rfl rfl rfl ?_
        refine Ops.eql rfl rfl rfl ?_
        refine Ops.nil ?_
        exact After.dn (Below.refl _ _) (by exact rfl)
      · intro e1 w1 hb hp hun
        refine Ops.pick_t rfl rfl rfl ?_
        refine Ops.nil ?_
        exact After.dn (Below.refl _ _) (by exact rfl)
      · intro e1 w1 hb hp hun
        refine Ops.mv_bool rfl rfl rfl ?_
        refine Ops.nil ?_
        exact After.dn (Below.refl _ _) (by exact rfl)
      intro u w4 hb _
      refine thenQ_n ?_
      refine Cd.ret ?_
      refine ret1_b rfl ?_
      refine ⟨congrArg Value.bool (decide_eq_decide.2 ?_), hS3.none.later hb⟩
      constructor
      · intro h
        exact ⟨⟨by omega, by omega⟩, by omega, hall, hord, hnof.1 h4, hfac.1 (by omega)⟩
      · intro h
        have := hfac.2 h.top
        omega
end Go.Proofs.YtdedegbendjmbaaGreatDoor.Vc
/-
  A list put into ascending lists, walked. Conditions: as each states them.
-/
namespace Go.Proofs.YtdedegbendjmbaaGreatDoor.Vc
open Go.RowKit

theorem RdR.drop {w : World} {A : Option Addr} {n c l : Nat} {xs : List SlV} (hR : RdR w A n xs) (hl : l ≤ n) (hc : n ≤ c) : RdR w (cutAt A c l) (n - l) (xs.drop l) := by
  have h := hR.cut hl (Nat.le_refl n) hc
  rwa [List.take_of_length_le (by rw [List.length_drop, hR.1]; exact Nat.le_refl _)] at h
theorem RdR.take {w : World} {A : Option Addr} {n l : Nat} {xs : List SlV} (hR : RdR w A n xs) (hl : l ≤ n) : RdR w A l (xs.take l) :=
  ⟨by rw [List.length_take, hR.1]; omega, fun k hk => by
    obtain ⟨p, hp, hc⟩ := hR.2 k (by omega)
    refine ⟨p, hp, ?_⟩
    rw [hc]
    simp [List.getD_eq_getElem?_getD, List.getElem?_take, hk]⟩

def putR (rs : List SlV) (xss : List (List Int)) (s : SlV) (x : List Int) : List SlV := if x ∈ xss then rs else rs.take (atL x xss) ++ s :: rs.drop (atL x xss)
theorem l17Put_c (A : Option Addr) (n c : Nat) (rs : List SlV) (xss : List (List Int)) (B : Option Addr) (m d : Nat) (x : List Int) (w : World) (hR : RowsI w A n rs xss) (hc : n ≤ c) (hB : RdI w B m x) (hm : m ≤ 9223372036854775807) (hn : n ≤ 1000000000) (hs : SL xss) :
    Ret Tryz.prog 114 [.slice A n c, .slice B m d] w (fun v w' => ∃ A' c', v = .slice A' (putL xss x).length c' ∧ (putL xss x).length ≤ c' ∧ Below w.heap.size w w' ∧ ((A' = A ∧ c' = c ∧ x ∈ xss) ∨ (¬ x ∈ xss ∧ St w w' [CkR 25 A' (putL xss x).length c' (putR rs xss ⟨B, m, d⟩ x)]))) := by
  have hxl := hR.len
  have hbl := hB.1
  refine Ret.of_cd Tryz.func114 rfl Tryz.ntmps114 rfl (post1 rfl) ?_
  refine Cd.seq ?_
  refine Cd.region ?_
  refine Ops.mv_sl rfl rfl rfl ?_
  refine Ops.nil ?_
  refine thenQ_n ?_
  refine Cd.seq ?_
  refine Cd.region ?_
  refine Ops.mv_sl rfl rfl rfl ?_
  refine Ops.len rfl rfl ?_
  refine Ops.mv_int rfl rfl rfl ?_
  refine Ops.mv_int rfl rfl rfl ?_
  refine Ops.nil ?_
  refine thenQ_n ?_
  refine Cd.seq ?_
  refine Cd.block ?_
  refine Cd.loop (α := Nat × Nat) (fun z => [(0, .slice A n c), (1, .slice B m d), (5, .int .i64 (z.1 : Int)), (6, .int .i64 (z.2 : Int))]) (fun z w' => St w w' [] ∧ z.1 ≤ z.2 ∧ z.2 ≤ n ∧ (∀ j (hj : j < xss.length), j < z.1 → LT xss[j] x) ∧ ∀ j (hj : j < xss.length), z.2 ≤ j → ¬ LT xss[j] x) (fun z => z.2 - z.1) (0, n) ⟨rfl, rfl, rfl, rfl, trivial⟩ ⟨St.refl w, Nat.zero_le _, Nat.le_refl _, fun j hj h => by dsimp only at h; omega, fun j hj h => by dsimp only at h; omega⟩ ?_
  rintro ⟨lo, hi⟩ e w1 ⟨hS, hlh, hhn, hlt, hge⟩
  dsimp only at hlh hhn hlt hge ⊢
  refine Cd.seq ?_
  refine Cd.seq ?_
  refine Cd.region ?_
  refine Ops.mv_int rfl rfl rfl ?_
  refine Ops.mv_int rfl rfl rfl ?_
  refine Ops.lss rfl rfl rfl ?_
  refine Ops.nil ?_
  refine thenQ_n ?_
  refine Cd.cond_p _ rfl (fun h1 => ?_) (fun h1 => ?_)
  · refine Cd.skip ?_
    refine thenQ_n ?_
    refine Cd.block ?_
    refine Cd.seq ?_
    refine Cd.region ?_
    refine Ops.mv_int rfl rfl rfl ?_
    refine Ops.mv_int rfl rfl rfl ?_
    refine Ops.add rfl rfl rfl (by omega) ?_
    refine Ops.quo rfl rfl rfl (by omega) ?_
    rw [show ((lo : Int) + (hi : Int)) / 2 = (((lo + hi) / 2 : Nat) : Int) by omega]
    have hmid1 : lo ≤ (lo + hi) / 2 := by omega
    have hmid2 : (lo + hi) / 2 < hi := by omega
    generalize (lo + hi) / 2 = q at *
    have hM := hS.oldRows hR
    have hrow := hM.at_ (i := (q : Int)) (by omega) (by omega)
    have hcap := hM.cap_ (i := (q : Int)) (by omega) (by omega)
    have hrl := hrow.1
    refine Ops.mv_int rfl rfl rfl ?_
    refine Ops.nil ?_
    refine thenQ_n ?_
    refine Cd.seq ?_
    refine Cd.region ?_
    refine Ops.mv_sl rfl rfl rfl ?_
    refine Ops.mv_int rfl rfl rfl ?_
    refine Ops.idx hM.top.2 rfl rfl rfl (by omega) (by omega) ?_
    refine Ops.ld_sl hM.top rfl (by omega) rfl rfl ?_
    refine Ops.mv_sl rfl rfl rfl ?_
    refine Ops.call (l01Less_c _ _ _ _ _ _ _ _ _ hrow (hS.oldI hB) (by omega)) rfl rfl rfl ?_
    rintro _ w2 ⟨rfl, hst⟩
    refine Ops.nil ?_
    refine thenQ_n ?_
    have hgq : gl xss (q : Int) = xss[q]'(by omega) := gl_mem (by omega)
    refine Cd.cond_p _ rfl (fun h2 => ?_) (fun h2 => ?_)
    · rw [hgq] at h2
      refine Cd.region ?_
      refine Ops.mv_int rfl rfl rfl ?_
      refine Ops.add rfl rfl rfl (by omega) ?_
      refine Ops.mv_int rfl rfl rfl ?_
      refine Ops.nil ?_
      refine blockQ_n ?_
      refine thenQ_n ?_
      refine ⟨(q + 1, hi), by show hi - (q + 1) < hi - lo; omega, ⟨rfl, rfl, rfl, rfl, trivial⟩, hS.later hst.below, by show q + 1 ≤ hi; omega, hhn, fun j hj h => ?_, hge⟩
      have h : j < q + 1 := h
      by_cases e : j = q
      · subst e; exact h2
      · exact (List.pairwise_iff_getElem.1 hs j q hj (by omega) (by omega)).trans h2
    · rw [hgq] at h2
      refine Cd.region ?_
      refine Ops.mv_int rfl rfl rfl ?_
      refine Ops.mv_int rfl rfl rfl ?_
      refine Ops.nil ?_
      refine blockQ_n ?_
      refine thenQ_n ?_
      refine ⟨(lo, q), by show q - lo < hi - lo; omega, ⟨rfl, rfl, rfl, rfl, trivial⟩, hS.later hst.below, hmid1, by show q ≤ n; omega, hlt, fun j hj h => ?_⟩
      have h : q ≤ j := h
      by_cases e : j = q
      · subst e; exact h2
      · exact fun h3 => h2 ((List.pairwise_iff_getElem.1 hs q j (by omega) hj (by omega)).trans h3)
  · have e : lo = hi := by omega
    subst e
    have hat : atL x xss = lo := atL_of hs (by omega) hlt hge
    have hno : (∀ h : lo < xss.length, xss[lo] ≠ x) → ¬ x ∈ xss := fun h hx => by
      obtain ⟨j, hj, rfl⟩ := List.mem_iff_getElem.1 hx
      rcases Nat.lt_trichotomy j lo with h2 | h2 | h2
      · exact (hlt j hj h2).irrefl
      · subst h2; exact h hj rfl
      · exact hge lo (by omega) (Nat.le_refl _) (List.pairwise_iff_getElem.1 hs lo j (by omega) hj h2)
    refine Cd.exit ?_
    refine thenQ_x ?_
    refine thenQ_x ?_
    refine blockQ_x ?_
    refine thenQ_n ?_
    refine Cd.seq ?_
    refine Cd.seq ?_
    refine Cd.region ?_
    refine Ops.mv_int rfl rfl rfl ?_
    refine Ops.mv_sl rfl rfl rfl ?_
    refine Ops.len rfl rfl ?_
    refine Ops.lss rfl rfl rfl ?_
    refine Ops.mv_bool rfl rfl rfl ?_
    refine Ops.split_p 31 rfl (fun h2 => ?_) (fun h2 => ?_)
    · have hM := hS.oldRows hR
      have hrow := hM.at_ (i := (lo : Int)) (by omega) (by omega)
      have hcap := hM.cap_ (i := (lo : Int)) (by omega) (by omega)
      have hrl := hrow.1
      have hgq : gl xss (lo : Int) = xss[lo]'(by omega) := gl_mem (by omega)
      refine Ops.rung rfl rfl rfl ?_
      refine Ops.mv_sl rfl rfl rfl ?_
      refine Ops.rung rfl rfl rfl ?_
      refine Ops.mv_int rfl rfl rfl ?_
      refine Ops.rung rfl rfl rfl ?_
      refine Ops.idx hM.top.2 rfl rfl rfl (by omega) (by omega) ?_
      refine Ops.rung rfl rfl rfl ?_
      refine Ops.ld_sl hM.top rfl (by omega) rfl rfl ?_
      refine Ops.rung rfl rfl rfl ?_
      refine Ops.mv_sl rfl rfl rfl ?_
      refine Ops.rung rfl rfl rfl ?_
      refine Ops.call (l01Same_c _ _ _ _ _ _ _ _ _ hrow (hS.oldI hB) (by omega)) rfl rfl rfl ?_
      rintro _ w2 ⟨rfl, hst⟩
      have hS := hS.later hst.below
      refine Ops.pick_t rfl rfl rfl ?_
      refine Ops.nil ?_
      refine thenQ_n ?_
      refine Cd.cond_p _ rfl (fun h3 => ?_) (fun h3 => ?_)
      · have hx : x ∈ xss := by rw [← h3, hgq]; exact List.getElem_mem _
        have e : putL xss x = xss := by unfold putL; rw [if_pos hx]
        refine Cd.seq ?_
        refine Cd.region ?_
        refine Ops.mv_sl rfl rfl rfl ?_
        refine Ops.mv_sl rfl rfl rfl ?_
        refine Ops.nil ?_
        refine thenQ_n ?_
        refine Cd.ret ?_
        refine thenQ_r ?_
        refine ret1_s rfl ?_
        exact ⟨A, c, by rw [e, hxl], by rw [e, hxl]; exact hc, hS.below, .inl ⟨rfl, rfl, hx⟩⟩
      · have hnx : ¬ x ∈ xss := hno fun _ h => h3 (by rw [hgq]; exact h)
        have hput : putL xss x = xss.take lo ++ x :: xss.drop lo := by unfold putL; rw [if_neg hnx, hat]
        have hputR : putR rs xss ⟨B, m, d⟩ x = rs.take lo ++ ⟨B, m, d⟩ :: rs.drop lo := by unfold putR; rw [if_neg hnx, hat]
        refine Cd.skip ?_
        refine thenQ_n ?_
        refine Cd.seq ?_
        refine Cd.region ?_
        refine Ops.mv_sl rfl rfl rfl ?_
        refine Ops.bs1R hS rfl rfl rfl ?_
        intro A7 w7 hS7
        refine Ops.mv_sl rfl rfl rfl ?_
        refine Ops.mv_int rfl rfl rfl ?_
        refine Ops.cut_l rfl rfl rfl (by omega) ?_
        refine Ops.appR 0 hS7 rfl ((hS7.oldR hR.top).drop (l := lo) (by omega) hc) rfl rfl rfl (by omega) (by omega) rfl ?_
        intro A8 c8 w8 hS8
        refine Ops.mv_sl rfl rfl rfl ?_
        refine Ops.nil ?_
        refine thenQ_n ?_
        refine Cd.seq ?_
        refine Cd.region ?_
        refine Ops.bs0 hS8 rfl ?_
        intro A9 w9 hS9
        have hS9 : St w w9 (CkR 25 A9 0 0 [] :: CkR 25 A8 (1 + (n - lo)) c8 ([⟨B, m, d⟩] ++ rs.drop lo) :: []) := hS9
        refine Ops.mv_sl rfl rfl rfl ?_
        refine Ops.mv_int rfl rfl rfl ?_
        refine Ops.cut_h rfl rfl rfl (by omega) ?_
        refine Ops.appR 0 hS9 rfl ((hS9.oldR hR.top).take (l := lo) (by omega)) rfl rfl rfl (by omega) (by omega) rfl ?_
        intro A10 c10 w10 hS10
        refine Ops.mv_sl rfl rfl rfl ?_
        refine Ops.appR 0 hS10 rfl (hS10.rdR 1 rfl) rfl rfl rfl (by omega) (by omega) rfl ?_
        intro A11 c11 w11 hS11
        refine Ops.mv_sl rfl rfl rfl ?_
        refine Ops.nil ?_
        refine thenQ_n ?_
        refine Cd.ret ?_
        refine ret1_s rfl ?_
        have hS11 : St w w11 (CkR 25 A11 (0 + lo + (1 + (n - lo))) c11 (([] ++ rs.take lo) ++ ([⟨B, m, d⟩] ++ rs.drop lo)) :: CkR 25 A8 (1 + (n - lo)) c8 ([⟨B, m, d⟩] ++ rs.drop lo) :: []) := hS11
        have hS12 := hS11.sub (List.Sublist.cons_cons _ (List.nil_sublist _))
        rw [List.nil_append, List.singleton_append, ← hputR] at hS12
        have hlen' : (putL xss x).length = 0 + lo + (1 + (n - lo)) := by rw [hput]; simp; omega
        exact ⟨A11, c11, by rw [hlen'], by have := hS12.cap 0 rfl; rw [hlen']; exact this.1, hS12.below, .inr ⟨hnx, by rw [hlen']; exact hS12⟩⟩
    · have hnx : ¬ x ∈ xss := hno fun h => by omega
      refine Ops.skipg rfl rfl rfl rfl rfl ?_
      refine Ops.skipg rfl rfl rfl rfl rfl ?_
      refine Ops.skipg rfl rfl rfl rfl rfl ?_
      refine Ops.skipg rfl rfl rfl rfl rfl ?_
      refine Ops.skipg rfl rfl rfl rfl rfl ?_
      refine Ops.skipg rfl rfl rfl rfl rfl ?_
      refine Ops.pick_f rfl rfl rfl ?_
      refine Ops.nil ?_
      refine thenQ_n ?_
      refine Cd.cond_f rfl ?_
      have hput : putL xss x = xss.take lo ++ x :: xss.drop lo := by unfold putL; rw [if_neg hnx, hat]
      have hputR : putR rs xss ⟨B, m, d⟩ x = rs.take lo ++ ⟨B, m, d⟩ :: rs.drop lo := by unfold putR; rw [if_neg hnx, hat]
      refine Cd.skip ?_
      refine thenQ_n ?_
      refine Cd.seq ?_
      refine Cd.region ?_
      refine Ops.mv_sl rfl rfl rfl ?_
      refine Ops.bs1R hS rfl rfl rfl ?_
      intro A7 w7 hS7
      refine Ops.mv_sl rfl rfl rfl ?_
      refine Ops.mv_int rfl rfl rfl ?_
      refine Ops.cut_l rfl rfl rfl (by omega) ?_
      refine Ops.appR 0 hS7 rfl ((hS7.oldR hR.top).drop (l := lo) (by omega) hc) rfl rfl rfl (by omega) (by omega) rfl ?_
      intro A8 c8 w8 hS8
      refine Ops.mv_sl rfl rfl rfl ?_
      refine Ops.nil ?_
      refine thenQ_n ?_
      refine Cd.seq ?_
      refine Cd.region ?_
      refine Ops.bs0 hS8 rfl ?_
      intro A9 w9 hS9
      have hS9 : St w w9 (CkR 25 A9 0 0 [] :: CkR 25 A8 (1 + (n - lo)) c8 ([⟨B, m, d⟩] ++ rs.drop lo) :: []) := hS9
      refine Ops.mv_sl rfl rfl rfl ?_
      refine Ops.mv_int rfl rfl rfl ?_
      refine Ops.cut_h rfl rfl rfl (by omega) ?_
      refine Ops.appR 0 hS9 rfl ((hS9.oldR hR.top).take (l := lo) (by omega)) rfl rfl rfl (by omega) (by omega) rfl ?_
      intro A10 c10 w10 hS10
      refine Ops.mv_sl rfl rfl rfl ?_
      refine Ops.appR 0 hS10 rfl (hS10.rdR 1 rfl) rfl rfl rfl (by omega) (by omega) rfl ?_
      intro A11 c11 w11 hS11
      refine Ops.mv_sl rfl rfl rfl ?_
      refine Ops.nil ?_
      refine thenQ_n ?_
      refine Cd.ret ?_
      refine ret1_s rfl ?_
      have hS11 : St w w11 (CkR 25 A11 (0 + lo + (1 + (n - lo))) c11 (([] ++ rs.take lo) ++ ([⟨B, m, d⟩] ++ rs.drop lo)) :: CkR 25 A8 (1 + (n - lo)) c8 ([⟨B, m, d⟩] ++ rs.drop lo) :: []) := hS11
      have hS12 := hS11.sub (List.Sublist.cons_cons _ (List.nil_sublist _))
      rw [List.nil_append, List.singleton_append, ← hputR] at hS12
      have hlen' : (putL xss x).length = 0 + lo + (1 + (n - lo)) := by rw [hput]; simp; omega
      exact ⟨A11, c11, by rw [hlen'], by have := hS12.cap 0 rfl; rw [hlen']; exact this.1, hS12.below, .inr ⟨hnx, by rw [hlen']; exact hS12⟩⟩
end Go.Proofs.YtdedegbendjmbaaGreatDoor.Vc
/-
  The reference's complex of some lists, walked. Conditions: as each states them.
-/
namespace Go.Proofs.YtdedegbendjmbaaGreatDoor.Vc
open Go.RowKit
section
variable {P : Program} {N : Nat} {ops : Array Oper} {K : Env → World → Prop} {rest : List Oper} {e : Env} {w0 w w' : World} {ks : List Ck} {d : Nat} {ty : TypeId} {pos : String} {af : Array Edge}
end

theorem putL_len (l : List (List Int)) (x : List Int) : (putL l x).length ≤ l.length + 1 := by
  have := atL_le x l
  unfold putL
  split
  · omega
  · simp; omega
theorem foldPut_len : ∀ (ls l : List (List Int)), (ls.foldl putL l).length ≤ l.length + ls.length
  | [], l => by simp
  | a :: r, l => by
    have h1 := foldPut_len r (putL l a)
    have h2 := putL_len l a
    rw [List.foldl_cons]
    simp only [List.length_cons]
    omega
def topT (x : List Int) (T : List (List Int)) : Prop := ∀ y ∈ T, Ins x y → y = x
instance (x : List Int) (T : List (List Int)) : Decidable (topT x T) := by unfold topT; exact inferInstance
def topB (S : List (List Int)) (x : List Int) : Bool := decide (∀ y ∈ S, Ins x y → y = x)
def faS (S : List (List Int)) (i : Nat) : List (List Int) := (S.take i).filter (topB S)
abbrev cxZ (Ab : Option Addr) : Ck := Bx 27 2 Ab [.int .i64 0, .slice none 0 0]

end Go.Proofs.YtdedegbendjmbaaGreatDoor.Vc
/-
  The walk of the law FnExactPartsOf: it returns true. Conditions: as it states them.
-/
namespace Go.Proofs.YtdedegbendjmbaaGreatDoor.Vc
open Go.RowKit

end Go.Proofs.YtdedegbendjmbaaGreatDoor.Vc
/-
  GirthOf on both sides, and the walk of its law. Conditions: the library's table of powers of ten holds what the program's text lays there.
-/
namespace Go.Proofs.YtdedegbendjmbaaGreatDoor.Vc
open Go.RowKit

def encS (g : Int) : Int := if g = 0 then -1 else g
end Go.Proofs.YtdedegbendjmbaaGreatDoor.Vc
/-
  The link of a face on both sides, walked. Conditions: as each states them.
-/
namespace Go.Proofs.YtdedegbendjmbaaGreatDoor.Vc
open Go.RowKit

def Fce (F : List (List Int)) (face : List Int) : Prop := SA face ∧ (face = [] ∨ ∃ f ∈ F, Ins face f)
instance (F : List (List Int)) (face : List Int) : Decidable (Fce F face) := by unfold Fce; exact inferInstance
def lnkL (F : List (List Int)) (face : List Int) : List (List Int) := (F.filter fun f => decide (Ins face f)).map fun f => lessL f face
def lkV (V : Int) (F : List (List Int)) (face : List Int) : Int := if Cplx V F ∧ Fce F face then cxV (lnkL F face) else 0
def lkL (V : Int) (F : List (List Int)) (face : List Int) : List (List Int) := if Cplx V F ∧ Fce F face then cxL (lnkL F face) else []
def lkK (V : Int) (F : List (List Int)) (face : List Int) : Int := if Cplx V F then (if Fce F face then cxK (lnkL F face) else 2) else 1
end Go.Proofs.YtdedegbendjmbaaGreatDoor.Vc
/-
  The walk of the law FnExactLinkOf: it returns true. Conditions: the library's table of powers of ten holds what the program's text lays there.
-/
namespace Go.Proofs.YtdedegbendjmbaaGreatDoor.Vc
open Go.RowKit

abbrev lxB (Ab : Option Addr) (V : Int) (A : Option Addr) (n c : Nat) : Ck := Bx 24 2 Ab [.int .i64 V, .slice A n c]

end Go.Proofs.YtdedegbendjmbaaGreatDoor.Vc
/-
  The capacity of a slice, and zeros appended to nothing. Conditions: as each rule names them.
-/
namespace Go.Proofs.YtdedegbendjmbaaGreatDoor.Vc
open Go.RowKit

section
variable {P : Program} {N : Nat} {ops : Array Oper} {K : Env → World → Prop} {rest : List Oper} {e : Env} {w0 w w' : World} {ks : List Ck} {d : Nat} {ty : TypeId} {pos : String} {af : Array Edge}
theorem Ops.cpc {x : Operand} {t el : TypeId} {A : Option Addr} {n c : Nat} [Und P t (.slice el)] (hx : ev e x = .slice A n c) (hb : Nat.blt d N = true) (hK : Ops P N ops K rest (upd e d (.int .i64 (c : Int))) w) :
    Ops P N ops K (⟨some d, .call ⟨.builtin .cap, #[x], #[t]⟩, ty, pos, af, none⟩ :: rest) e w :=
  .val (by simp [execOp, resolve, invoke, builtin, hx, Builtin.cap_, run_underlying (Und.out (P := P) (t := t)), goInt]) hb hK
/-- zeros appended to nothing: the room alone is told -/
theorem Ops.appZ {t tn el : TypeId} {kn : IntKind} {z : Value} {b : Nat} [hU : Und P t (.slice el)] [hN : Und P tn (.int kn)] [Inf P el z 1 b] {x y : Operand} {k : IntKind} (n : Nat) (h0 : 0 < n) (hS : St w0 w ks) (hx : ev e x = .slice none 0 0) (hy : ev e y = .int k (n : Int)) (hz : z.cells = #[z]) (hz1 : z.oneCell' = true) (hm : n ≤ maxLen) (hbytes : n * b ≤ 281474976710656) (hb : Nat.blt d N = true)
    (hK : ∀ A c w', n ≤ c → St w0 w' (⟨A, 0, c, el, []⟩ :: ks) → Ops P N ops K rest (upd e d (.slice A n c)) w') :
    Ops P N ops K (⟨some d, .call ⟨.builtin .append, #[x, y], #[t, tn]⟩, ty, pos, af, none⟩ :: rest) e w := by
  obtain ⟨inf, hi, hz0, hs, hby⟩ := Inf.get P el
  have hge := grownCap_ge w n 0 el
  have hle := grownCap_le_maxLen w n 0 el hm
  have hr := Go.Lib.run_append_nil_zeros (P := P) w t tn ty el inf z k kn hU.out hN.out hi hz0 n h0 (by omega) (by simp only [maxLen] at hm; omega) (by rw [hby]; exact hbytes)
  have hA := hS.drew.allocP (List.replicate (grownCap w n 0 el) z) el 0 (grownCap w n 0 el) (Nat.zero_le _) (by simp) hle (isM_rep _ hz1)
  have hzc : Builtin.zeroCells z.cells n ++ Builtin.zeroCells z.cells (grownCap w n 0 el - n) = (List.replicate (grownCap w n 0 el) z).toArray := by
    have gen : ∀ m, Builtin.zeroCells z.cells m = (List.replicate m z).toArray := fun m => by
      rw [hz]; simp only [Builtin.zeroCells]
      exact (show _ = _ from by have := madeCells_one z m; simpa [madeCells] using this)
    rw [gen, gen, List.append_toArray, List.replicate_append_replicate, Nat.add_sub_cancel' hge]
  rw [hzc] at hr
  refine .val (w' := w.drew.alloc (.cells (List.replicate (grownCap w n 0 el) z).toArray el)) ?_ hb (hK _ _ _ hge hA)
  simp [execOp, resolve, invoke, builtin, hx, hy, hr]
end

end Go.Proofs.YtdedegbendjmbaaGreatDoor.Vc
/-
  Plain mathematics: spans over two elements, as numbers under xor; a span has one rank. Conditions: none.
-/
namespace Go.Proofs.YtdedegbendjmbaaGreatDoor.Vc

def sums : List Nat → List Nat
  | [] => [0]
  | b :: B => sums B ++ (sums B).map (b ^^^ ·)
theorem sums_len : ∀ B, (sums B).length = 2 ^ B.length
  | [] => rfl
  | b :: B => by simp [sums, sums_len B, Nat.pow_succ]; omega
theorem sums_zero : ∀ B, 0 ∈ sums B
  | [] => by simp [sums]
  | b :: B => by simp only [sums, List.mem_append]; exact .inl (sums_zero B)
theorem xor_cancel (a b : Nat) : a ^^^ (a ^^^ b) = b := by rw [← Nat.xor_assoc, Nat.xor_self, Nat.zero_xor]
theorem mem_sums {b v : Nat} {B : List Nat} : v ∈ sums (b :: B) ↔ v ∈ sums B ∨ b ^^^ v ∈ sums B := by
  simp only [sums, List.mem_append, List.mem_map]
  constructor
  · rintro (h | ⟨u, h, rfl⟩)
    · exact .inl h
    · exact .inr (by rw [xor_cancel]; exact h)
  · rintro (h | h)
    · exact .inl h
    · exact .inr ⟨_, h, xor_cancel _ _⟩
theorem sums_xor : ∀ {B : List Nat} {u v : Nat}, u ∈ sums B → v ∈ sums B → u ^^^ v ∈ sums B
  | [], u, v, hu, hv => by
    simp only [sums, List.mem_singleton] at hu hv ⊢
    subst hu hv; rfl
  | b :: B, u, v, hu, hv => by
    rw [mem_sums] at hu hv ⊢
    rcases hu with hu | hu <;> rcases hv with hv | hv
    · exact .inl (sums_xor hu hv)
    · right
      have := sums_xor hu hv
      rwa [← Nat.xor_assoc, Nat.xor_comm u b, Nat.xor_assoc] at this
    · right
      have := sums_xor hu hv
      rwa [Nat.xor_assoc] at this
    · left
      have := sums_xor hu hv
      rwa [Nat.xor_comm b u, Nat.xor_assoc, xor_cancel] at this
theorem sums_self : ∀ {B : List Nat} {b : Nat}, b ∈ B → b ∈ sums B
  | a :: B, b, h => by
    rw [mem_sums]
    rcases List.mem_cons.1 h with rfl | h
    · exact .inr (by rw [Nat.xor_self]; exact sums_zero B)
    · exact .inl (sums_self h)
theorem sums_le {S : Nat → Prop} (h0 : S 0) (hx : ∀ u v, S u → S v → S (u ^^^ v)) : ∀ {B : List Nat}, (∀ b ∈ B, S b) → ∀ v ∈ sums B, S v
  | [], _, v, h => by simp only [sums, List.mem_singleton] at h; subst h; exact h0
  | b :: B, hb, v, h => by
    rw [mem_sums] at h
    rcases h with h | h
    · exact sums_le h0 hx (fun x hx => hb x (List.mem_cons_of_mem _ hx)) v h
    · have h1 := sums_le h0 hx (fun x hx => hb x (List.mem_cons_of_mem _ hx)) _ h
      have h2 := hx _ _ (hb b (by simp)) h1
      rwa [xor_cancel] at h2
/-- one span lies in the other -/
theorem sums_sub {B C : List Nat} (h : ∀ b ∈ B, b ∈ sums C) : ∀ v ∈ sums B, v ∈ sums C := sums_le (sums_zero C) (fun _ _ => sums_xor) h
theorem sums_mono {B C : List Nat} (h : ∀ b ∈ B, b ∈ C) : ∀ v ∈ sums B, v ∈ sums C := sums_sub fun b hb => sums_self (h b hb)
def Eqs (B C : List Nat) : Prop := ∀ v, v ∈ sums B ↔ v ∈ sums C
theorem Eqs.of {B C : List Nat} (h1 : ∀ b ∈ B, b ∈ sums C) (h2 : ∀ b ∈ C, b ∈ sums B) : Eqs B C := fun v => ⟨sums_sub h1 v, sums_sub h2 v⟩
theorem Eqs.refl (B : List Nat) : Eqs B B := fun _ => .rfl
theorem Eqs.trans {A B C : List Nat} (h : Eqs A B) (h' : Eqs B C) : Eqs A C := fun v => (h v).trans (h' v)
theorem Eqs.symm {A B : List Nat} (h : Eqs A B) : Eqs B A := fun v => (h v).symm
theorem Eqs.mem {B C : List Nat} (h : ∀ v, v ∈ B ↔ v ∈ C) : Eqs B C := .of (fun b hb => sums_self ((h b).1 hb)) (fun b hb => sums_self ((h b).2 hb))
theorem sums_nodup {b : Nat} {B : List Nat} (hB : (sums B).Nodup) (hb : b ∉ sums B) : (sums (b :: B)).Nodup := by
  rw [sums, List.nodup_append]
  refine ⟨hB, ?_, ?_⟩
  · rw [List.Nodup, List.pairwise_map]
    refine hB.imp fun {u v} h e => h ?_
    have := congrArg (b ^^^ ·) e
    simpa only [xor_cancel] using this
  · rintro u hu v hv rfl
    obtain ⟨x, hx, rfl⟩ := List.mem_map.1 hv
    have := sums_xor hu hx
    rw [Nat.xor_assoc, Nat.xor_self, Nat.xor_zero] at this
    exact hb this
/-- a list of numbers has the rank r -/
def IsRk (L : List Nat) (r : Nat) : Prop := ∃ B, B.length = r ∧ (sums B).Nodup ∧ Eqs L B
theorem IsRk.eq {L : List Nat} {r s : Nat} (h : IsRk L r) (h' : IsRk L s) : r = s := by
  obtain ⟨B, rfl, hB, hE⟩ := h
  obtain ⟨C, rfl, hC, hF⟩ := h'
  have hEF := hE.symm.trans hF
  have h1 := sub_len _ _ hB fun x hx => (hEF x).1 hx
  have h2 := sub_len _ _ hC fun x hx => (hEF x).2 hx
  rw [sums_len, sums_len] at h1 h2
  have h3 : 2 ^ B.length = 2 ^ C.length := by omega
  rcases Nat.lt_trichotomy B.length C.length with h | h | h
  · have := Nat.pow_lt_pow_right (a := 2) (by omega) h; omega
  · exact h
  · have := Nat.pow_lt_pow_right (a := 2) (by omega) h; omega
/-- rows in steps: each has a bit that those behind it lack -/
def Stp : List Nat → Prop
  | [] => True
  | b :: B => (∃ p, b.testBit p = true ∧ ∀ x ∈ B, x.testBit p = false) ∧ Stp B
theorem Stp.nodup : ∀ {B : List Nat}, Stp B → (sums B).Nodup
  | [], _ => by simp [sums]
  | b :: B, ⟨⟨p, hp, hB⟩, h⟩ => by
    refine sums_nodup h.nodup fun hb => ?_
    have := sums_le (S := fun v => v.testBit p = false) (by simp) (fun u v hu hv => by simp [Nat.testBit_xor, hu, hv]) hB b hb
    rw [this] at hp; cases hp
/-- the greatest bit -/
def Top (v t : Nat) : Prop := v.testBit t = true ∧ ∀ j, t < j → v.testBit j = false
theorem Top.eq {v s t : Nat} (h : Top v s) (h' : Top v t) : s = t := by
  rcases Nat.lt_trichotomy s t with hl | e | hl
  · have := h.2 t hl; rw [h'.1] at this; cases this
  · exact e
  · have := h'.2 s hl; rw [h.1] at this; cases this
theorem Top.ne {v t : Nat} (h : Top v t) : v ≠ 0 := by rintro rfl; simp [Top] at h
theorem Top.xor {u v s t : Nat} (h : Top u s) (h' : Top v t) (hl : s < t) : Top (u ^^^ v) t := by
  refine ⟨by rw [Nat.testBit_xor, h.2 t hl, h'.1]; rfl, fun j hj => ?_⟩
  rw [Nat.testBit_xor, h.2 j (by omega), h'.2 j hj]; rfl
theorem top_sums : ∀ {B : List (Nat × Nat)}, (∀ p ∈ B, Top p.2 p.1) → (B.map (·.1)).Nodup → ∀ v ∈ sums (B.map (·.2)), v ≠ 0 → ∃ t ∈ B.map (·.1), Top v t
  | [], _, _, v, hv, hne => by simp [sums] at hv; exact absurd hv hne
  | p :: B, hT, hn, v, hv, hne => by
    simp only [List.map_cons, List.nodup_cons] at hn
    rw [List.map_cons, mem_sums] at hv
    have hT' : ∀ q ∈ B, Top q.2 q.1 := fun q hq => hT q (List.mem_cons_of_mem _ hq)
    rcases hv with hv | hv
    · obtain ⟨t, ht, h⟩ := top_sums hT' hn.2 v hv hne
      exact ⟨t, List.mem_cons_of_mem _ ht, h⟩
    · by_cases e : p.2 ^^^ v = 0
      · have e2 : v = p.2 := by
          have := congrArg (p.2 ^^^ ·) e
          simpa only [xor_cancel, Nat.xor_zero] using this
        exact ⟨p.1, by simp, by rw [e2]; exact hT p (by simp)⟩
      · obtain ⟨t, ht, h⟩ := top_sums hT' hn.2 _ hv e
        have hpt : p.1 ≠ t := fun e => hn.1 (by rw [e]; exact ht)
        have hp := hT p (by simp)
        have e3 : v = p.2 ^^^ (p.2 ^^^ v) := (xor_cancel _ _).symm
        rcases Nat.lt_or_gt_of_ne hpt with hl | hl
        · exact ⟨t, by simp [ht], by rw [e3]; exact hp.xor h hl⟩
        · exact ⟨p.1, by simp, by rw [e3, Nat.xor_comm]; exact h.xor hp hl⟩
/-- numbers with different greatest bits span freely -/
theorem top_nodup : ∀ {B : List (Nat × Nat)}, (∀ p ∈ B, Top p.2 p.1) → (B.map (·.1)).Nodup → (sums (B.map (·.2))).Nodup
  | [], _, _ => by simp [sums]
  | p :: B, hT, hn => by
    simp only [List.map_cons, List.nodup_cons] at hn
    rw [List.map_cons]
    refine sums_nodup (top_nodup (fun q hq => hT q (List.mem_cons_of_mem _ hq)) hn.2) fun hb => ?_
    obtain ⟨t, ht, h⟩ := top_sums (fun q hq => hT q (List.mem_cons_of_mem _ hq)) hn.2 _ hb (hT p (by simp)).ne
    exact hn.1 (by rw [(hT p (by simp)).eq h]; exact ht)
end Go.Proofs.YtdedegbendjmbaaGreatDoor.Vc
/-
  Plain mathematics of complexes: faces with so many elements, and their numbers. Conditions: as each states them. No program in sight.
-/
namespace Go.Proofs.YtdedegbendjmbaaGreatDoor.Vc

/-- parts of some lists, as they are met -/
def faL (F : List (List Int)) (k : Nat) : List (List Int) := if k = 0 then [[]] else F.flatMap fun f => ptsP f k
/-- the faces with k elements, in order -/
def fcs (F : List (List Int)) (k : Nat) : List (List Int) := (faL F k).foldl putL []
theorem faL_mem {F : List (List Int)} {k : Nat} {x : List Int} : x ∈ faL F k ↔ (k = 0 ∧ x = []) ∨ (0 < k ∧ ∃ f ∈ F, x.Sublist f ∧ x.length = k) := by
  unfold faL
  by_cases h : k = 0
  · simp [h]
  · rw [if_neg h, List.mem_flatMap]
    simp only [ptsP_mem]
    constructor
    · rintro ⟨f, h1, h2⟩; exact .inr ⟨by omega, f, h1, h2⟩
    · rintro (h' | ⟨_, f, h1, h2⟩)
      · exact absurd h'.1 h
      · exact ⟨f, h1, h2⟩
theorem fcs_SL (F : List (List Int)) (k : Nat) : SL (fcs F k) := (foldPut_SL _ (by simp [SL])).1
theorem fcs_mem {F : List (List Int)} {k : Nat} {x : List Int} : x ∈ fcs F k ↔ x ∈ faL F k := by
  rw [fcs, (foldPut_SL _ (by simp [SL])).2]; simp
theorem fcs_of {F : List (List Int)} {k : Nat} {l : List (List Int)} (hs : SL l) (h : ∀ x, x ∈ l ↔ x ∈ faL F k) : l = fcs F k :=
  hs.eq (fcs_SL F k) fun x => (h x).trans fcs_mem.symm
theorem fcs_zero (F : List (List Int)) : fcs F 0 = [[]] := (fcs_of (by simp [SL]) fun x => by simp [faL]).symm
theorem fcs_len {F : List (List Int)} {k : Nat} {x : List Int} (h : x ∈ fcs F k) : x.length = k := by
  rcases faL_mem.1 (fcs_mem.1 h) with ⟨h1, h2⟩ | ⟨_, f, _, _, h2⟩
  · rw [h1, h2]; rfl
  · exact h2
theorem faL_num {F : List (List Int)} (k : Nat) (h6 : ∀ f ∈ F, f.length ≤ 6) : (faL F k).length ≤ 64 * F.length + 1 := by
  unfold faL
  split
  · simp
  · suffices h : (F.flatMap fun f => ptsP f k).length ≤ 64 * F.length by omega
    induction F with
    | nil => simp
    | cons a r ih =>
      have h1 := ptsP_small (l := a) k (h6 a (by simp))
      have h2 := ih fun f hf => h6 f (by simp [hf])
      rw [List.flatMap_cons, List.length_append, List.length_cons]
      omega
theorem fcs_num {F : List (List Int)} (k : Nat) (h6 : ∀ f ∈ F, f.length ≤ 6) : (fcs F k).length ≤ 64 * F.length + 1 := by
  have h1 := faL_num k h6
  have h2 : (fcs F k).length ≤ (faL F k).length := by
    have := foldPut_len (faL F k) []
    simpa [fcs] using this
  omega
/-- the greatest number of elements -/
def dpt (F : List (List Int)) : Nat := F.foldl (fun d f => max d f.length) 0
theorem foldMax (F : List (List Int)) : ∀ d : Nat, (∀ f ∈ F, f.length ≤ F.foldl (fun d f => max d f.length) d) ∧ d ≤ F.foldl (fun d f => max d f.length) d ∧ (F.foldl (fun d f => max d f.length) d = d ∨ ∃ f ∈ F, f.length = F.foldl (fun d f => max d f.length) d) := by
  induction F with
  | nil => intro d; simp
  | cons a r ih =>
    intro d
    obtain ⟨h1, h2, h3⟩ := ih (max d a.length)
    rw [List.foldl_cons]
    refine ⟨fun f hf => ?_, by omega, ?_⟩
    · rcases List.mem_cons.1 hf with rfl | hf
      · omega
      · exact h1 f hf
    · rcases h3 with h3 | ⟨f, hf, h3⟩
      · by_cases e : a.length ≤ d
        · exact .inl (by omega)
        · exact .inr ⟨a, by simp, by omega⟩
      · exact .inr ⟨f, by simp [hf], h3⟩
theorem dpt_le {F : List (List Int)} {f : List Int} (h : f ∈ F) : f.length ≤ dpt F := (foldMax F 0).1 f h
theorem dpt_bd {F : List (List Int)} {b : Nat} (h : ∀ f ∈ F, f.length ≤ b) : dpt F ≤ b := by
  rcases (foldMax F 0).2.2 with h1 | ⟨f, hf, h1⟩
  · unfold dpt; omega
  · have := h f hf; unfold dpt; omega
theorem dpt_succ {F : List (List Int)} {i : Nat} (h : i < F.length) : dpt (F.take (i + 1)) = max (dpt (F.take i)) (gl F (i : Int)).length := by
  unfold dpt
  rw [take_succ_gl h, List.foldl_append]; rfl
theorem fcs_short {F : List (List Int)} {k : Nat} (h : dpt F < k) : fcs F k = [] := by
  rw [List.eq_nil_iff_forall_not_mem]
  intro x hx
  rcases faL_mem.1 (fcs_mem.1 hx) with ⟨h1, _⟩ | ⟨_, f, hf, h1, h2⟩
  · omega
  · have := dpt_le hf
    have := h1.length_le
    omega
/-- the numbers of faces -/
def fvP (F : List (List Int)) : List Int := (List.range (dpt F + 1)).map fun k => ((fcs F k).length : Int)
theorem fvP_len (F : List (List Int)) : (fvP F).length = dpt F + 1 := by simp [fvP]
theorem fvP_at (F : List (List Int)) {k : Nat} (h : k ≤ dpt F) : gi (fvP F) (k : Int) = ((fcs F k).length : Int) := by
  rw [gi_mem (by rw [fvP_len]; omega)]
  simp [fvP]
end Go.Proofs.YtdedegbendjmbaaGreatDoor.Vc
/-
  Plain mathematics of complexes: faces of deletions, links and skeletons, counted. Conditions: as each states them. No program in sight.
-/
namespace Go.Proofs.YtdedegbendjmbaaGreatDoor.Vc

/-- so many faces with k elements -/
def nf (F : List (List Int)) (k : Nat) : Nat := (fcs F k).length
theorem sub_SA {a b : List Int} (h : a.Sublist b) (hb : SA b) : SA a := List.Pairwise.sublist h hb
theorem fcs_sa {F : List (List Int)} {k : Nat} (hs : ∀ f ∈ F, SA f) {x : List Int} (h : x ∈ fcs F k) : SA x := by
  rcases faL_mem.1 (fcs_mem.1 h) with ⟨_, rfl⟩ | ⟨_, f, hf, h1, _⟩
  · exact List.Pairwise.nil
  · exact sub_SA h1 (hs f hf)
theorem fcs_pos {F : List (List Int)} {k : Nat} (hk : 0 < k) {x : List Int} : x ∈ fcs F k ↔ ∃ f ∈ F, x.Sublist f ∧ x.length = k := by
  rw [fcs_mem, faL_mem]
  constructor
  · rintro (⟨h, _⟩ | ⟨_, h⟩)
    · omega
    · exact h
  · exact fun h => .inr ⟨hk, h⟩
/-- the element at a place, 0 outside (the law's at9) -/
def at0 (f : List Int) (k : Int) : Int := if 0 ≤ k ∧ k < f.length then gi f k else 0
/-! a vertex left out -/
def delL (F : List (List Int)) (v : Int) : List (List Int) := F.map fun f => lessL f [v]
/-! skeletons -/
def sklL (F : List (List Int)) (k : Nat) : List (List Int) := F.flatMap fun f => ptsP f (min k f.length)
end Go.Proofs.YtdedegbendjmbaaGreatDoor.Vc
/-
  Plain mathematics of complexes: pure ones, and the faces with one element less than facets. Conditions: as each states them. No program in sight.
-/
namespace Go.Proofs.YtdedegbendjmbaaGreatDoor.Vc

def Pure (F : List (List Int)) : Prop := ∀ f ∈ F, f.length = dpt F
instance (F : List (List Int)) : Decidable (Pure F) := by unfold Pure; exact inferInstance
/-! faces told with the facets that have them, in the order in which they are met -/
def rdS (R : List (List Int × List Int)) (q : List Int × Int) : List (List Int × List Int) :=
  if q.1 ∈ R.map (·.1) then R.map fun p => if p.1 = q.1 then (p.1, p.2 ++ [q.2]) else p else R ++ [(q.1, [q.2])]
def rdF (Q : List (List Int × Int)) : List (List Int × List Int) := Q.foldl rdS []
theorem rdF_snoc (Q : List (List Int × Int)) (q : List Int × Int) : rdF (Q ++ [q]) = rdS (rdF Q) q := by simp [rdF, List.foldl_append]
theorem rdS_keys (R : List (List Int × List Int)) (q : List Int × Int) : (rdS R q).map (·.1) = if q.1 ∈ R.map (·.1) then R.map (·.1) else R.map (·.1) ++ [q.1] := by
  unfold rdS
  split
  · rw [List.map_map]
    refine List.map_congr_left fun p _ => ?_
    show (if p.1 = q.1 then (p.1, p.2 ++ [q.2]) else p).1 = p.1
    split <;> rfl
  · simp
/-- the faces met, with the facets' numbers -/
def sqR (F : List (List Int)) (i : Nat) : List (List Int × Int) := (List.range i).flatMap fun k : Nat => (ptsP (gl F (k : Int)) ((gl F (k : Int)).length - 1)).map fun x => (x, (k : Int))
def sqJ (F : List (List Int)) (i j : Nat) : List (List Int × Int) := sqR F i ++ ((ptsP (gl F (i : Int)) ((gl F (i : Int)).length - 1)).take j).map fun x => (x, (i : Int))
def rdgs (F : List (List Int)) : List (List Int × List Int) := rdF (sqR F F.length)
/-- the numbers of the facets that have a list -/
def hasI (F : List (List Int)) (x : List Int) : List Int := ((List.range F.length).filter fun k : Nat => decide (Ins x (gl F (k : Int)))).map fun k : Nat => (k : Int)
/-- the lists whose complex is the boundary -/
def bdS (F : List (List Int)) : List (List Int) := (fcs F (dpt F - 1)).filter fun x => decide ((hasI F x).length % 2 = 1)
def bdR (F : List (List Int)) : List (List Int) := ((rdgs F).filter fun p => decide (p.2.length % 2 = 1)).map (·.1)
end Go.Proofs.YtdedegbendjmbaaGreatDoor.Vc
