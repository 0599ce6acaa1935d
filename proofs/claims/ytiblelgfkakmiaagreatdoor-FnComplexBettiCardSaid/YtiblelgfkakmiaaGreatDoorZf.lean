/-
  The texts Co13, Co26, Co14, E9, Gi2, Co17, Co21, Co27, Co28, Co29, Co22, Co23, Co30 in one. Conditions: as each part states them.
-/
import Derived.Test.YtiblelgfkakmiaaGreatDoorZe
import Derived.Test.YtiblelgfkakmiaaGreatDoorZd
/-
 The test of a complex on both sides, walked.
-/
namespace Go.Proofs.YtiblelgfkakmiaaGreatDoor.Vc
open Go.RowKit
def mk0 (m : Nat) : List Bool := List.replicate m false
theorem pnt0_len (m : Nat) (vs : List Int) : (pnt (mk0 m) vs).length = m := by rw [pnt_len]; simp [mk0]
abbrev cxB (Ab : Option Addr) (V : Int) (A : Option Addr) (n c : Nat) : Ck := Bx 26 2 Ab [.int .i64 V, .slice A n c]
set_option maxHeartbeats 1000000 in
theorem l17Is_c (V : Int) (A : Option Addr) (n c : Nat) (rs : List SlV) (F : List (List Int)) (w : World) (hR : RowsI w A n rs F) (hn : n ≤ 9223372036854775807) :
  Ret Tryz.prog 30 [.agg #[.int .i64 V, .slice A n c]] w (fun v w' => v = .bool (decide (Cplx V F)) ∧ St w w' []) := by
 have hFl := hR.len
 refine Ret.of_cd Tryz.func30 rfl Tryz.ntmps30 rfl (post1 rfl) (Cd.seq (Cd.region (Ops.box2 (St.refl w) rfl rfl ?_)))
 intro Ab w1 hS
 refine Ops.mb rfl rfl rfl (Ops.n (tQ (Cd.seq (Cd.seq (Cd.region (Ops.fld (hS.rd 0 rfl) rfl rfl rfl rfl inferInstance (Ops.ldf_i (hS.rd 0 rfl) rfl rfl rfl rfl rfl (Ops.call (l01In_c _ _ _ _) rfl rfl rfl ?_))))))))
 rintro _ _ ⟨rfl, rfl⟩
 first | refine Ops.not_p rfl rfl ?_ | refine Ops.not rfl rfl ?_
 refine Ops.mb rfl rfl rfl ?_
 refine Ops.split_p 13 rfl (fun h1 => ?_) (fun h1 => ?_)
 ·refine Ops.k rfl rfl rfl rfl rfl (Ops.k rfl rfl rfl rfl rfl (Ops.k rfl rfl rfl rfl rfl (Ops.k rfl rfl rfl rfl rfl (Ops.pick_t rfl rfl rfl (Ops.n (tQ (Cd.cond_t rfl (Cd.seq (Cd.region ?_)))))))))
  refine Ops.mb rfl rfl rfl (Ops.n (tQ (Cd.ret (thenQ_r (ret1_b rfl ?_)))))
  exact ⟨by rw [decide_eq_false (fun h : Cplx V F => h1 h.v)], hS.none⟩
 have h1 := Classical.not_not.1 h1
 refine Ops.g rfl rfl rfl (Ops.fld (hS.rd 0 rfl) rfl rfl rfl rfl inferInstance (Ops.g rfl rfl rfl (Ops.ldf_s (hS.rd 0 rfl) rfl rfl rfl rfl rfl (Ops.g rfl rfl rfl (Ops.len rfl rfl (Ops.g rfl rfl rfl (Ops.gtr rfl rfl rfl (Ops.pick_f rfl rfl rfl (Ops.n ?_)))))))))
 refine tQ ?_
 refine Cd.cond_p _ rfl (fun h2 => ?_) (fun h2 => ?_)
 ·refine Cd.seq (Cd.region (Ops.mb rfl rfl rfl (Ops.n (tQ (Cd.ret (thenQ_r (ret1_b rfl ?_)))))))
  exact ⟨by rw [decide_eq_false (fun h : Cplx V F => by have := h.f; omega)], hS.none⟩
 obtain ⟨m, rfl⟩ := Int.eq_ofNat_of_zero_le h1.1
 have hm : m ≤ 60 := by omega
 clear h1
 refine Cd.skip (tQ (Cd.seq (Cd.region (Ops.fld (hS.rd 0 rfl) rfl rfl rfl rfl inferInstance (Ops.ldf_i (hS.rd 0 rfl) rfl rfl rfl rfl rfl (Ops.mkB m hS rfl rfl (by omega) ?_))))))
 intro A3 w2 hS2
 have hS2 : St w w2 [CkB 4 A3 m m (pnt (mk0 m) (F.take 0).flatten), cxB Ab m A n c] := hS2
 refine Ops.ms rfl rfl rfl (Ops.n (tQ (Cd.seq (Cd.seq (Cd.region (Ops.mi rfl rfl rfl (Ops.n (tQ (Cd.block ?_)))))))))
 refine Cd.loop (α := Nat) (fun i => [(1, .pointer Ab), (3, .slice A3 m m), (4, .int .i64 (i : Int))]) (fun i w' => i ≤ n ∧ PreC m F i ∧ St w w' [CkB 4 A3 m m (pnt (mk0 m) (F.take i).flatten), cxB Ab m A n c]) (fun i => n - i) 0 ⟨rfl, rfl, rfl, trivial⟩ ⟨Nat.zero_le _, PreC.zero _ _, hS2⟩ ?_
 rintro i e w3 ⟨hi, hP, hS3⟩
 have hB3 := hS3.rd 1 rfl
 refine Cd.seq (Cd.seq (Cd.region (Ops.mi rfl rfl rfl (Ops.fld hB3 rfl rfl rfl rfl inferInstance (Ops.ldf_s hB3 rfl rfl rfl rfl rfl (Ops.len rfl rfl (Ops.lss rfl rfl rfl (Ops.n (tQ ?_)))))))))
 refine Cd.cond_p _ rfl (fun h3 => ?_) (fun h3 => ?_)
 ·have hiF : i < F.length := by omega
  have hM := hS3.oldRows hR
  have hrow := hM.at_ (i := (i : Int)) (by omega) (by omega)
  have hrl := hrow.1
  have hMi : 0 < (i : Int) → RdI w3 (rg rs ((i : Int) - 1)).a (rg rs ((i : Int) - 1)).n (gl F ((i : Int) - 1)) := fun h => hM.at_ (by omega) (by omega)
  refine Cd.skip (tQ (Cd.seq (Cd.block (Cd.seq (Cd.seq ?_)))))
  by_cases h4 : ((rg rs (i : Int)).n : Int) < 1
  ·--dup 6
   refine Cd.draw [.ex (.pointer (ptrAt (Ab) 1)), .ex (.slice (A) (n) (c)), .ex (.int .i64 ((i : Int))), .ex (.pointer (ptrAt (A) ((i : Int)).toNat)), .ex (.slice ((rg (rs) ((i : Int))).a) ((rg (rs) ((i : Int))).n) ((rg (rs) ((i : Int))).c)), .ex (.int .i64 ((((rg (rs) ((i : Int))).n : Nat) : Int))), .ex (.bool (decide (((((rg (rs) ((i : Int))).n : Nat) : Int)) < ((1 : Int))))), .ex (.bool (true)), .ex (undef), .ex (undef), .ex (undef), .ex (undef), .ex (undef), .ex (undef), .ex (undef), .ex (.bool (true)), .ex (.bool (true)), .ex (undef), .ex (undef), .ex (undef), .ex (undef), .ex (undef), .ex (undef), .ex (undef), .ex (undef), .ex (undef), .ex (undef), .ex (.bool (true)), .ex (.bool (true)), .ex (undef), .ex (undef), .ex (undef), .ex (undef), .ex (undef), .ex (undef), .ex (undef), .ex (undef), .ex (undef), .ex (undef), .ex (undef), .ex (undef), .ex (undef), .ex (undef), .ex (undef), .ex (undef), .ex (undef), .ex (.bool (true))] (by kernel_rfl) (by kernel_rfl) rfl (lx (lx (lx (lx (lx (lx (lx (lx (lx (lx (lx (lx (lx (lx (lx (lx (lx (lx (lx (lx (lx (lx (lx (lx (lx (lx (lx (lx (lx (lx (lx (lx (lx (lx (lx (lx (lx (lx (lx (lx (lx (lx (lx (lx (lx (lx (lx (fun _ h => by cases h)))))))))))))))))))))))))))))))))))))))))))))))) ⟨?_, ?_, ?_, ?_, ?_, ?_, ?_, ?_, ?_, ?_, ?_, ?_, ?_, ?_, ?_, ?_, ?_, ?_, ?_, ?_, ?_, ?_, ?_, ?_, ?_, ?_, ?_, ?_, ?_, ?_, ?_, ?_, ?_, ?_, ?_, ?_, ?_, ?_, ?_, ?_, ?_, ?_, ?_, ?_, ?_, ?_, ?_, trivial⟩ ?_
   ·intro e1 w1 hb hp hun; refine Ops.fld (hB3.below hb) rfl rfl rfl rfl inferInstance (Ops.n (d0 (by exact rfl)))
   ·intro e1 w1 hb hp hun; refine Ops.ldf_s (hB3.below hb) rfl rfl rfl rfl rfl (Ops.n (d0 (by exact rfl)))
   ·intro e1 w1 hb hp hun; refine Ops.mi rfl rfl rfl (Ops.n (d0 (by exact rfl)))
   ·intro e1 w1 hb hp hun; refine Ops.idx (hM.top.later hb).2 rfl rfl rfl (by omega) (by omega) (Ops.n (d0 (by exact rfl)))
   ·intro e1 w1 hb hp hun; refine Ops.ld_sl (hM.top.later hb) rfl (by omega) rfl rfl (Ops.n (d0 (by exact rfl)))
   ·intro e1 w1 hb hp hun; refine Ops.len rfl rfl (Ops.n (d0 (by exact rfl)))
   ·intro e1 w1 hb hp hun; refine Ops.lss rfl rfl rfl (Ops.n (d0 (by exact rfl)))
   ·intro e1 w1 hb hp hun; refine Ops.mb rfl rfl rfl (Ops.n ?_)
    exact d0 (by exact congrArg Value.bool (decide_eq_true h4))
   ·intro e1 w1 hb hp hun; refine Ops.k rfl rfl rfl rfl rfl (Ops.n (d0 (by exact rfl)))
   ·intro e1 w1 hb hp hun; refine Ops.k rfl rfl rfl rfl rfl (Ops.n (d0 (by exact rfl)))
   ·intro e1 w1 hb hp hun; refine Ops.k rfl rfl rfl rfl rfl (Ops.n (d0 (by exact rfl)))
   ·intro e1 w1 hb hp hun; refine Ops.k rfl rfl rfl rfl rfl (Ops.n (d0 (by exact rfl)))
   ·intro e1 w1 hb hp hun; refine Ops.k rfl rfl rfl rfl rfl (Ops.n (d0 (by exact rfl)))
   ·intro e1 w1 hb hp hun; refine Ops.k rfl rfl rfl rfl rfl (Ops.n (d0 (by exact rfl)))
   ·intro e1 w1 hb hp hun; refine Ops.k rfl rfl rfl rfl rfl (Ops.n (d0 (by exact rfl)))
   ·intro e1 w1 hb hp hun; refine Ops.pick_t rfl rfl rfl (Ops.n (d0 (by exact rfl)))
   ·intro e1 w1 hb hp hun; refine Ops.mb rfl rfl rfl (Ops.n (d0 (by exact rfl)))
   ·intro e1 w1 hb hp hun; refine Ops.k rfl rfl rfl rfl rfl (Ops.n (d0 (by exact rfl)))
   ·intro e1 w1 hb hp hun; refine Ops.k rfl rfl rfl rfl rfl (Ops.n (d0 (by exact rfl)))
   ·intro e1 w1 hb hp hun; refine Ops.k rfl rfl rfl rfl rfl (Ops.n (d0 (by exact rfl)))
   ·intro e1 w1 hb hp hun; refine Ops.k rfl rfl rfl rfl rfl (Ops.n (d0 (by exact rfl)))
   ·intro e1 w1 hb hp hun; refine Ops.k rfl rfl rfl rfl rfl (Ops.n (d0 (by exact rfl)))
   ·intro e1 w1 hb hp hun; refine Ops.k rfl rfl rfl rfl rfl (Ops.n (d0 (by exact rfl)))
   ·intro e1 w1 hb hp hun; refine Ops.k rfl rfl rfl rfl rfl (Ops.n (d0 (by exact rfl)))
   ·intro e1 w1 hb hp hun; refine Ops.k rfl rfl rfl rfl rfl (Ops.n (d0 (by exact rfl)))
   ·intro e1 w1 hb hp hun; refine Ops.k rfl rfl rfl rfl rfl (Ops.n (d0 (by exact rfl)))
   ·intro e1 w1 hb hp hun; refine Ops.k rfl rfl rfl rfl rfl (Ops.n (d0 (by exact rfl)))
   ·intro e1 w1 hb hp hun; refine Ops.pick_t rfl rfl rfl (Ops.n (d0 (by exact rfl)))
   ·intro e1 w1 hb hp hun; refine Ops.mb rfl rfl rfl (Ops.n (d0 (by exact rfl)))
   ·intro e1 w1 hb hp hun; refine Ops.k rfl rfl rfl rfl rfl (Ops.n (d0 (by exact rfl)))
   ·intro e1 w1 hb hp hun; refine Ops.k rfl rfl rfl rfl rfl (Ops.n (d0 (by exact rfl)))
   ·intro e1 w1 hb hp hun; refine Ops.k rfl rfl rfl rfl rfl (Ops.n (d0 (by exact rfl)))
   ·intro e1 w1 hb hp hun; refine Ops.skipu rfl rfl rfl rfl (Ops.n (d0 (by exact rfl)))
   ·intro e1 w1 hb hp hun; refine Ops.skipu rfl rfl rfl rfl (Ops.n (d0 (by exact rfl)))
   ·intro e1 w1 hb hp hun; refine Ops.skipu rfl rfl rfl rfl (Ops.n (d0 (by exact rfl)))
   ·intro e1 w1 hb hp hun; refine Ops.skipu rfl rfl rfl rfl (Ops.n (d0 (by exact rfl)))
   ·intro e1 w1 hb hp hun; refine Ops.skipu rfl rfl rfl rfl (Ops.n (d0 (by exact rfl)))
   ·intro e1 w1 hb hp hun; refine Ops.skipu rfl rfl rfl rfl (Ops.n (d0 (by exact rfl)))
   ·intro e1 w1 hb hp hun; refine Ops.skipu rfl rfl rfl rfl (Ops.n (d0 (by exact rfl)))
   ·intro e1 w1 hb hp hun; refine Ops.skipu rfl rfl rfl rfl (Ops.n (d0 (by exact rfl)))
   ·intro e1 w1 hb hp hun; refine Ops.skipu rfl rfl rfl rfl (Ops.n (d0 (by exact rfl)))
   ·intro e1 w1 hb hp hun; refine Ops.skipu rfl rfl rfl rfl (Ops.n (d0 (by exact rfl)))
   ·intro e1 w1 hb hp hun; refine Ops.skipu rfl rfl rfl rfl (Ops.n (d0 (by exact rfl)))
   ·intro e1 w1 hb hp hun; refine Ops.skipu rfl rfl rfl rfl (Ops.n (d0 (by exact rfl)))
   ·intro e1 w1 hb hp hun; refine Ops.skipu rfl rfl rfl rfl (Ops.n (d0 (by exact rfl)))
   ·intro e1 w1 hb hp hun; refine Ops.k rfl rfl rfl rfl rfl (Ops.n (d0 (by exact rfl)))
   ·intro e1 w1 hb hp hun; refine Ops.pick_t rfl rfl rfl (Ops.n (d0 (by exact rfl)))
   intro u w4 hb _
   refine tQ (Cd.cond_t rfl (Cd.seq (Cd.region (Ops.mb rfl rfl rfl (Ops.n (tQ (Cd.ret (thenQ_r (blockQ_r ?_)))))))))
   refine thenQ_r (thenQ_r (blockQ_r (thenQ_r (ret1_b rfl ?_))))
   exact ⟨by rw [decide_eq_false (fun h : Cplx m F => by have := (h.at_ hiF).1; omega)], hS3.none.later hb⟩
  by_cases h5 : 6 < ((rg rs (i : Int)).n : Int)
  ·refine Cd.draw [.ex (.pointer (ptrAt (Ab) 1)), .ex (.slice (A) (n) (c)), .ex (.int .i64 ((i : Int))), .ex (.pointer (ptrAt (A) ((i : Int)).toNat)), .ex (.slice ((rg (rs) ((i : Int))).a) ((rg (rs) ((i : Int))).n) ((rg (rs) ((i : Int))).c)), .ex (.int .i64 ((((rg (rs) ((i : Int))).n : Nat) : Int))), .ex (.bool (decide (((((rg (rs) ((i : Int))).n : Nat) : Int)) < ((1 : Int))))), .ex (.bool (false)), .ex (.pointer (ptrAt (Ab) 1)), .ex (.slice (A) (n) (c)), .ex (.int .i64 ((i : Int))), .ex (.pointer (ptrAt (A) ((i : Int)).toNat)), .ex (.slice ((rg (rs) ((i : Int))).a) ((rg (rs) ((i : Int))).n) ((rg (rs) ((i : Int))).c)), .ex (.int .i64 ((((rg (rs) ((i : Int))).n : Nat) : Int))), .ex (.bool (decide (((6 : Int)) < ((((rg (rs) ((i : Int))).n : Nat) : Int))))), .ex (.bool (decide (((6 : Int)) < ((((rg (rs) ((i : Int))).n : Nat) : Int))))), .ex (.bool (true)), .ex (undef), .ex (undef), .ex (undef), .ex (undef), .ex (undef), .ex (undef), .ex (undef), .ex (undef), .ex (undef), .ex (undef), .ex (.bool (true)), .ex (.bool (true)), .ex (undef), .ex (undef), .ex (undef), .ex (undef), .ex (undef), .ex (undef), .ex (undef), .ex (undef), .ex (undef), .ex (undef), .ex (undef), .ex (undef), .ex (undef), .ex (undef), .ex (undef), .ex (undef), .ex (undef), .ex (.bool (true))] (by kernel_rfl) (by kernel_rfl) rfl (lx (lx (lx (lx (lx (lx (lx (lx (lx (lx (lx (lx (lx (lx (lx (lx (lx (lx (lx (lx (lx (lx (lx (lx (lx (lx (lx (lx (lx (lx (lx (lx (lx (lx (lx (lx (lx (lx (lx (lx (lx (lx (lx (lx (lx (lx (lx (fun _ h => by cases h)))))))))))))))))))))))))))))))))))))))))))))))) ⟨?_, ?_, ?_, ?_, ?_, ?_, ?_, ?_, ?_, ?_, ?_, ?_, ?_, ?_, ?_, ?_, ?_, ?_, ?_, ?_, ?_, ?_, ?_, ?_, ?_, ?_, ?_, ?_, ?_, ?_, ?_, ?_, ?_, ?_, ?_, ?_, ?_, ?_, ?_, ?_, ?_, ?_, ?_, ?_, ?_, ?_, ?_, trivial⟩ ?_
   ·intro e1 w1 hb hp hun; refine Ops.fld (hB3.below hb) rfl rfl rfl rfl inferInstance (Ops.n (d0 (by exact rfl)))
   ·intro e1 w1 hb hp hun; refine Ops.ldf_s (hB3.below hb) rfl rfl rfl rfl rfl (Ops.n (d0 (by exact rfl)))
   ·intro e1 w1 hb hp hun; refine Ops.mi rfl rfl rfl (Ops.n (d0 (by exact rfl)))
   ·intro e1 w1 hb hp hun; refine Ops.idx (hM.top.later hb).2 rfl rfl rfl (by omega) (by omega) (Ops.n (d0 (by exact rfl)))
   ·intro e1 w1 hb hp hun; refine Ops.ld_sl (hM.top.later hb) rfl (by omega) rfl rfl (Ops.n (d0 (by exact rfl)))
   ·intro e1 w1 hb hp hun; refine Ops.len rfl rfl (Ops.n (d0 (by exact rfl)))
   ·intro e1 w1 hb hp hun; refine Ops.lss rfl rfl rfl (Ops.n (d0 (by exact rfl)))
   ·intro e1 w1 hb hp hun; refine Ops.mb rfl rfl rfl (Ops.n ?_)
    exact d0 (by exact congrArg Value.bool (decide_eq_false h4))
   ·intro e1 w1 hb hp hun; refine Ops.g rfl rfl rfl (Ops.fld (hB3.below hb) rfl rfl rfl rfl inferInstance (Ops.n (d0 (by exact rfl))))
   ·intro e1 w1 hb hp hun; refine Ops.g rfl rfl rfl (Ops.ldf_s (hB3.below hb) rfl rfl rfl rfl rfl (Ops.n (d0 (by exact rfl))))
   ·intro e1 w1 hb hp hun; refine Ops.g rfl rfl rfl (Ops.mi rfl rfl rfl (Ops.n (d0 (by exact rfl))))
   ·intro e1 w1 hb hp hun; refine Ops.g rfl rfl rfl (Ops.idx (hM.top.later hb).2 rfl rfl rfl (by omega) (by omega) (Ops.n (d0 (by exact rfl))))
   ·intro e1 w1 hb hp hun; refine Ops.g rfl rfl rfl (Ops.ld_sl (hM.top.later hb) rfl (by omega) rfl rfl (Ops.n (d0 (by exact rfl))))
   ·intro e1 w1 hb hp hun; refine Ops.g rfl rfl rfl (Ops.len rfl rfl (Ops.n (d0 (by exact rfl))))
   ·intro e1 w1 hb hp hun; refine Ops.g rfl rfl rfl (Ops.gtr rfl rfl rfl (Ops.n (d0 (by exact rfl))))
   ·intro e1 w1 hb hp hun; refine Ops.pick_f rfl rfl rfl (Ops.n (d0 (by exact rfl)))
   ·intro e1 w1 hb hp hun; refine Ops.mb rfl rfl rfl (Ops.n ?_)
    exact d0 (by exact congrArg Value.bool (decide_eq_true h5))
   ·intro e1 w1 hb hp hun; refine Ops.k rfl rfl rfl rfl rfl (Ops.n (d0 (by exact rfl)))
   ·intro e1 w1 hb hp hun; refine Ops.k rfl rfl rfl rfl rfl (Ops.n (d0 (by exact rfl)))
   ·intro e1 w1 hb hp hun; refine Ops.k rfl rfl rfl rfl rfl (Ops.n (d0 (by exact rfl)))
   ·intro e1 w1 hb hp hun; refine Ops.k rfl rfl rfl rfl rfl (Ops.n (d0 (by exact rfl)))
   ·intro e1 w1 hb hp hun; refine Ops.k rfl rfl rfl rfl rfl (Ops.n (d0 (by exact rfl)))
   ·intro e1 w1 hb hp hun; refine Ops.k rfl rfl rfl rfl rfl (Ops.n (d0 (by exact rfl)))
   ·intro e1 w1 hb hp hun; refine Ops.k rfl rfl rfl rfl rfl (Ops.n (d0 (by exact rfl)))
   ·intro e1 w1 hb hp hun; refine Ops.k rfl rfl rfl rfl rfl (Ops.n (d0 (by exact rfl)))
   ·intro e1 w1 hb hp hun; refine Ops.k rfl rfl rfl rfl rfl (Ops.n (d0 (by exact rfl)))
   ·intro e1 w1 hb hp hun; refine Ops.k rfl rfl rfl rfl rfl (Ops.n (d0 (by exact rfl)))
   ·intro e1 w1 hb hp hun; refine Ops.pick_t rfl rfl rfl (Ops.n (d0 (by exact rfl)))
   ·intro e1 w1 hb hp hun; refine Ops.mb rfl rfl rfl (Ops.n (d0 (by exact rfl)))
   ·intro e1 w1 hb hp hun; refine Ops.k rfl rfl rfl rfl rfl (Ops.n (d0 (by exact rfl)))
   ·intro e1 w1 hb hp hun; refine Ops.k rfl rfl rfl rfl rfl (Ops.n (d0 (by exact rfl)))
   ·intro e1 w1 hb hp hun; refine Ops.k rfl rfl rfl rfl rfl (Ops.n (d0 (by exact rfl)))
   ·intro e1 w1 hb hp hun; refine Ops.skipu rfl rfl rfl rfl (Ops.n (d0 (by exact rfl)))
   ·intro e1 w1 hb hp hun; refine Ops.skipu rfl rfl rfl rfl (Ops.n (d0 (by exact rfl)))
   ·intro e1 w1 hb hp hun; refine Ops.skipu rfl rfl rfl rfl (Ops.n (d0 (by exact rfl)))
   ·intro e1 w1 hb hp hun; refine Ops.skipu rfl rfl rfl rfl (Ops.n (d0 (by exact rfl)))
   ·intro e1 w1 hb hp hun; refine Ops.skipu rfl rfl rfl rfl (Ops.n (d0 (by exact rfl)))
   ·intro e1 w1 hb hp hun; refine Ops.skipu rfl rfl rfl rfl (Ops.n (d0 (by exact rfl)))
   ·intro e1 w1 hb hp hun; refine Ops.skipu rfl rfl rfl rfl (Ops.n (d0 (by exact rfl)))
   ·intro e1 w1 hb hp hun; refine Ops.skipu rfl rfl rfl rfl (Ops.n (d0 (by exact rfl)))
   ·intro e1 w1 hb hp hun; refine Ops.skipu rfl rfl rfl rfl (Ops.n (d0 (by exact rfl)))
   ·intro e1 w1 hb hp hun; refine Ops.skipu rfl rfl rfl rfl (Ops.n (d0 (by exact rfl)))
   ·intro e1 w1 hb hp hun; refine Ops.skipu rfl rfl rfl rfl (Ops.n (d0 (by exact rfl)))
   ·intro e1 w1 hb hp hun; refine Ops.skipu rfl rfl rfl rfl (Ops.n (d0 (by exact rfl)))
   ·intro e1 w1 hb hp hun; refine Ops.skipu rfl rfl rfl rfl (Ops.n (d0 (by exact rfl)))
   ·intro e1 w1 hb hp hun; refine Ops.k rfl rfl rfl rfl rfl (Ops.n (d0 (by exact rfl)))
   ·intro e1 w1 hb hp hun; refine Ops.pick_t rfl rfl rfl (Ops.n (d0 (by exact rfl)))
   intro u w4 hb _
   refine tQ (Cd.cond_t rfl (Cd.seq (Cd.region (Ops.mb rfl rfl rfl (Ops.n (tQ (Cd.ret (thenQ_r (blockQ_r ?_)))))))))
   refine thenQ_r (thenQ_r (blockQ_r (thenQ_r (ret1_b rfl ?_))))
   exact ⟨by rw [decide_eq_false (fun h : Cplx m F => by have := (h.at_ hiF).1; omega)], hS3.none.later hb⟩
  by_cases h6 : Rise ((m : Int) - 1) (gl F (i : Int))
  ·have hg1 : (1 ≤ (gl F (i : Int)).length ∧ (gl F (i : Int)).length ≤ 6) ∧ SA (gl F (i : Int)) ∧ ∀ x ∈ gl F (i : Int), 0 ≤ x ∧ x < (m : Int) := ⟨⟨by omega, by omega⟩, h6.1, fun x hx => by have := h6.2 x hx; omega⟩
   by_cases h7 : 0 < (i : Int)
   ·have hrow' := hMi h7
    by_cases h8 : lexC (gl F ((i : Int) - 1)) (gl F (i : Int)) < 0
    ·refine Cd.draw [.ex (.pointer (ptrAt (Ab) 1)), .ex (.slice (A) (n) (c)), .ex (.int .i64 ((i : Int))), .ex (.pointer (ptrAt (A) ((i : Int)).toNat)), .ex (.slice ((rg (rs) ((i : Int))).a) ((rg (rs) ((i : Int))).n) ((rg (rs) ((i : Int))).c)), .ex (.int .i64 ((((rg (rs) ((i : Int))).n : Nat) : Int))), .ex (.bool (decide (((((rg (rs) ((i : Int))).n : Nat) : Int)) < ((1 : Int))))), .ex (.bool (false)), .ex (.pointer (ptrAt (Ab) 1)), .ex (.slice (A) (n) (c)), .ex (.int .i64 ((i : Int))), .ex (.pointer (ptrAt (A) ((i : Int)).toNat)), .ex (.slice ((rg (rs) ((i : Int))).a) ((rg (rs) ((i : Int))).n) ((rg (rs) ((i : Int))).c)), .ex (.int .i64 ((((rg (rs) ((i : Int))).n : Nat) : Int))), .ex (.bool (decide (((6 : Int)) < ((((rg (rs) ((i : Int))).n : Nat) : Int))))), .ex (.bool (decide (((6 : Int)) < ((((rg (rs) ((i : Int))).n : Nat) : Int))))), .ex (.bool (false)), .ex (.pointer (ptrAt (Ab) 1)), .ex (.slice (A) (n) (c)), .ex (.int .i64 ((i : Int))), .ex (.pointer (ptrAt (A) ((i : Int)).toNat)), .ex (.slice ((rg (rs) ((i : Int))).a) ((rg (rs) ((i : Int))).n) ((rg (rs) ((i : Int))).c)), .ex (.pointer (ptrAt (Ab) 0)), .ex (.int .i64 ((m : Int))), .ex (.int .i64 (((m : Int)) - ((1 : Int)))), .ex (.bool (decide (Rise ((m : Int) - 1) (gl F (i : Int))))), .ex (.bool (decide (¬ (Rise ((m : Int) - 1) (gl F (i : Int)))))), .ex (.bool (decide (¬ (Rise ((m : Int) - 1) (gl F (i : Int)))))), .ex (.bool (false)), .ex (.int .i64 ((i : Int))), .ex (.bool (decide (((0 : Int)) < ((i : Int))))), .ex (.bool (true)), .ex (.pointer (ptrAt (Ab) 1)), .ex (.slice (A) (n) (c)), .ex (.int .i64 ((i : Int))), .ex (.int .i64 (((i : Int)) - ((1 : Int)))), .ex (.pointer (ptrAt (A) (((i : Int)) - ((1 : Int))).toNat)), .ex (.slice ((rg (rs) (((i : Int)) - ((1 : Int)))).a) ((rg (rs) (((i : Int)) - ((1 : Int)))).n) ((rg (rs) (((i : Int)) - ((1 : Int)))).c)), .ex (.pointer (ptrAt (Ab) 1)), .ex (.slice (A) (n) (c)), .ex (.int .i64 ((i : Int))), .ex (.pointer (ptrAt (A) ((i : Int)).toNat)), .ex (.slice ((rg (rs) ((i : Int))).a) ((rg (rs) ((i : Int))).n) ((rg (rs) ((i : Int))).c)), .ex (.bool (decide (lexC (gl F ((i : Int) - 1)) (gl F (i : Int)) < 0))), .ex (.bool (decide (¬ (lexC (gl F ((i : Int) - 1)) (gl F (i : Int)) < 0)))), .ex (.bool (decide (¬ (lexC (gl F ((i : Int) - 1)) (gl F (i : Int)) < 0)))), .ex (.bool (false))] (by kernel_rfl) (by kernel_rfl) rfl (lx (lx (lx (lx (lx (lx (lx (lx (lx (lx (lx (lx (lx (lx (lx (lx (lx (lx (lx (lx (lx (lx (lx (lx (lx (lx (lx (lx (lx (lx (lx (lx (lx (lx (lx (lx (lx (lx (lx (lx (lx (lx (lx (lx (lx (lx (lx (fun _ h => by cases h)))))))))))))))))))))))))))))))))))))))))))))))) ⟨?_, ?_, ?_, ?_, ?_, ?_, ?_, ?_, ?_, ?_, ?_, ?_, ?_, ?_, ?_, ?_, ?_, ?_, ?_, ?_, ?_, ?_, ?_, ?_, ?_, ?_, ?_, ?_, ?_, ?_, ?_, ?_, ?_, ?_, ?_, ?_, ?_, ?_, ?_, ?_, ?_, ?_, ?_, ?_, ?_, ?_, ?_, trivial⟩ ?_
     ·intro e1 w1 hb hp hun; refine Ops.fld (hB3.below hb) rfl rfl rfl rfl inferInstance (Ops.n (d0 (by exact rfl)))
     ·intro e1 w1 hb hp hun; refine Ops.ldf_s (hB3.below hb) rfl rfl rfl rfl rfl (Ops.n (d0 (by exact rfl)))
     ·intro e1 w1 hb hp hun; refine Ops.mi rfl rfl rfl (Ops.n (d0 (by exact rfl)))
     ·intro e1 w1 hb hp hun; refine Ops.idx (hM.top.later hb).2 rfl rfl rfl (by omega) (by omega) (Ops.n (d0 (by exact rfl)))
     ·intro e1 w1 hb hp hun; refine Ops.ld_sl (hM.top.later hb) rfl (by omega) rfl rfl (Ops.n (d0 (by exact rfl)))
     ·intro e1 w1 hb hp hun; refine Ops.len rfl rfl (Ops.n (d0 (by exact rfl)))
     ·intro e1 w1 hb hp hun; refine Ops.lss rfl rfl rfl (Ops.n (d0 (by exact rfl)))
     ·intro e1 w1 hb hp hun; refine Ops.mb rfl rfl rfl (Ops.n ?_)
      exact d0 (by exact congrArg Value.bool (decide_eq_false h4))
     ·intro e1 w1 hb hp hun; refine Ops.g rfl rfl rfl (Ops.fld (hB3.below hb) rfl rfl rfl rfl inferInstance (Ops.n (d0 (by exact rfl))))
     ·intro e1 w1 hb hp hun; refine Ops.g rfl rfl rfl (Ops.ldf_s (hB3.below hb) rfl rfl rfl rfl rfl (Ops.n (d0 (by exact rfl))))
     ·intro e1 w1 hb hp hun; refine Ops.g rfl rfl rfl (Ops.mi rfl rfl rfl (Ops.n (d0 (by exact rfl))))
     ·intro e1 w1 hb hp hun; refine Ops.g rfl rfl rfl (Ops.idx (hM.top.later hb).2 rfl rfl rfl (by omega) (by omega) (Ops.n (d0 (by exact rfl))))
     ·intro e1 w1 hb hp hun; refine Ops.g rfl rfl rfl (Ops.ld_sl (hM.top.later hb) rfl (by omega) rfl rfl (Ops.n (d0 (by exact rfl))))
     ·intro e1 w1 hb hp hun; refine Ops.g rfl rfl rfl (Ops.len rfl rfl (Ops.n (d0 (by exact rfl))))
     ·intro e1 w1 hb hp hun; refine Ops.g rfl rfl rfl (Ops.gtr rfl rfl rfl (Ops.n (d0 (by exact rfl))))
     ·intro e1 w1 hb hp hun; refine Ops.pick_f rfl rfl rfl (Ops.n (d0 (by exact rfl)))
     ·intro e1 w1 hb hp hun; refine Ops.mb rfl rfl rfl (Ops.n ?_)
      exact d0 (by exact congrArg Value.bool (decide_eq_false h5))
     ·intro e1 w1 hb hp hun; refine Ops.g rfl rfl rfl (Ops.fld (hB3.below hb) rfl rfl rfl rfl inferInstance (Ops.n (d0 (by exact rfl))))
     ·intro e1 w1 hb hp hun; refine Ops.g rfl rfl rfl (Ops.ldf_s (hB3.below hb) rfl rfl rfl rfl rfl (Ops.n (d0 (by exact rfl))))
     ·intro e1 w1 hb hp hun; refine Ops.g rfl rfl rfl (Ops.mi rfl rfl rfl (Ops.n (d0 (by exact rfl))))
     ·intro e1 w1 hb hp hun; refine Ops.g rfl rfl rfl (Ops.idx (hM.top.later hb).2 rfl rfl rfl (by omega) (by omega) (Ops.n (d0 (by exact rfl))))
     ·intro e1 w1 hb hp hun; refine Ops.g rfl rfl rfl (Ops.ld_sl (hM.top.later hb) rfl (by omega) rfl rfl (Ops.n (d0 (by exact rfl))))
     ·intro e1 w1 hb hp hun; refine Ops.g rfl rfl rfl (Ops.fld (hB3.below hb) rfl rfl rfl rfl inferInstance (Ops.n (d0 (by exact rfl))))
     ·intro e1 w1 hb hp hun; refine Ops.g rfl rfl rfl (Ops.ldf_i (hB3.below hb) rfl rfl rfl rfl rfl (Ops.n (d0 (by exact rfl))))
     ·intro e1 w1 hb hp hun; refine Ops.g rfl rfl rfl (Ops.sub rfl rfl rfl (by omega) (Ops.n (d0 (by exact rfl))))
     ·intro e1 w1 hb hp hun; refine Ops.g rfl rfl rfl (Ops.call (l17Rises_c _ _ _ _ _ _ (hrow.later hb) (by omega)) rfl rfl rfl ?_)
      rintro _ w2 ⟨rfl, hst⟩
      refine Ops.n ?_
      exact After.dn hst.below (by exact rfl)
     ·intro e1 w1 hb hp hun; refine Ops.g rfl rfl rfl (Ops.not_p rfl rfl (Ops.n (d0 (by exact rfl))))
     ·intro e1 w1 hb hp hun; refine Ops.pick_f rfl rfl rfl (Ops.n (d0 (by exact rfl)))
     ·intro e1 w1 hb hp hun; refine Ops.mb rfl rfl rfl (Ops.n ?_)
      exact d0 (by exact congrArg Value.bool (decide_eq_false (fun h => h h6)))
     ·intro e1 w1 hb hp hun; refine Ops.g rfl rfl rfl (Ops.mi rfl rfl rfl (Ops.n (d0 (by exact rfl))))
     ·intro e1 w1 hb hp hun; refine Ops.g rfl rfl rfl (Ops.gtr rfl rfl rfl (Ops.n (d0 (by exact rfl))))
     ·intro e1 w1 hb hp hun; refine Ops.g rfl rfl rfl (Ops.mb rfl rfl rfl (Ops.n ?_))
      exact d0 (by exact congrArg Value.bool (decide_eq_true h7))
     ·intro e1 w1 hb hp hun; refine Ops.g rfl rfl rfl (Ops.fld (hB3.below hb) rfl rfl rfl rfl inferInstance (Ops.n (d0 (by exact rfl))))
     ·intro e1 w1 hb hp hun; refine Ops.g rfl rfl rfl (Ops.ldf_s (hB3.below hb) rfl rfl rfl rfl rfl (Ops.n (d0 (by exact rfl))))
     ·intro e1 w1 hb hp hun; refine Ops.g rfl rfl rfl (Ops.mi rfl rfl rfl (Ops.n (d0 (by exact rfl))))
     ·intro e1 w1 hb hp hun; refine Ops.g rfl rfl rfl (Ops.sub rfl rfl rfl (by omega) (Ops.n (d0 (by exact rfl))))
     ·intro e1 w1 hb hp hun; refine Ops.g rfl rfl rfl (Ops.idx (hM.top.later hb).2 rfl rfl rfl (by omega) (by omega) (Ops.n (d0 (by exact rfl))))
     ·intro e1 w1 hb hp hun; refine Ops.g rfl rfl rfl (Ops.ld_sl (hM.top.later hb) rfl (by omega) rfl rfl (Ops.n (d0 (by exact rfl))))
     ·intro e1 w1 hb hp hun; refine Ops.g rfl rfl rfl (Ops.fld (hB3.below hb) rfl rfl rfl rfl inferInstance (Ops.n (d0 (by exact rfl))))
     ·intro e1 w1 hb hp hun; refine Ops.g rfl rfl rfl (Ops.ldf_s (hB3.below hb) rfl rfl rfl rfl rfl (Ops.n (d0 (by exact rfl))))
     ·intro e1 w1 hb hp hun; refine Ops.g rfl rfl rfl (Ops.mi rfl rfl rfl (Ops.n (d0 (by exact rfl))))
     ·intro e1 w1 hb hp hun; refine Ops.g rfl rfl rfl (Ops.idx (hM.top.later hb).2 rfl rfl rfl (by omega) (by omega) (Ops.n (d0 (by exact rfl))))
     ·intro e1 w1 hb hp hun; refine Ops.g rfl rfl rfl (Ops.ld_sl (hM.top.later hb) rfl (by omega) rfl rfl (Ops.n (d0 (by exact rfl))))
     ·intro e1 w1 hb hp hun; refine Ops.g rfl rfl rfl ?_
      refine Ops.call (l01Less_c _ _ _ _ _ _ _ _ _ (hrow'.later hb) (hrow.later hb) (by have := hrow'.1; have := (hM.cap_ (i := (i : Int) - 1) (by omega) (by omega)); omega)) rfl rfl rfl ?_
      rintro _ w2 ⟨rfl, hst⟩
      refine Ops.n ?_
      exact After.dn hst.below (by exact rfl)
     ·intro e1 w1 hb hp hun; refine Ops.g rfl rfl rfl (Ops.not_p rfl rfl (Ops.n (d0 (by exact rfl))))
     ·intro e1 w1 hb hp hun; refine Ops.g rfl rfl rfl (Ops.pick_t rfl rfl rfl (Ops.n (d0 (by exact rfl))))
     ·intro e1 w1 hb hp hun; refine Ops.pick_f rfl rfl rfl (Ops.n ?_)
      exact d0 (by exact congrArg Value.bool (decide_eq_false (fun h => h h8)))
     have hnext := hP.step hiF hg1 (.inr h8)
     intro u w4 hb _
     have hS4 := hS3.later hb
     refine tQ (Cd.cond_f rfl (Cd.skip (tQ (Cd.seq (Cd.region (Ops.mi rfl rfl rfl (Ops.n (tQ (Cd.block ?_)))))))))
     refine Cd.loop (α := Nat) (fun j => [(1, .pointer Ab), (3, .slice A3 m m), (4, .int .i64 (i : Int)), (5, .int .i64 (j : Int))]) (fun j w' => j ≤ (gl F (i : Int)).length ∧ St w w' [CkB 4 A3 m m (pnt (mk0 m) ((F.take i).flatten ++ (gl F (i : Int)).take j)), cxB Ab m A n c]) (fun j => (gl F (i : Int)).length - j) 0 ⟨rfl, rfl, rfl, rfl, trivial⟩ ⟨Nat.zero_le _, by rw [List.take_zero, List.append_nil]; exact hS4⟩ ?_
     rintro j e w5 ⟨hj, hS5⟩
     have hB5 := hS5.rd 1 rfl
     have hM5 := hS5.oldRows hR
     have hrow5 := hM5.at_ (i := (i : Int)) (by omega) (by omega)
     refine Cd.seq (Cd.seq (Cd.region (Ops.mi rfl rfl rfl (Ops.fld hB5 rfl rfl rfl rfl inferInstance (Ops.ldf_s hB5 rfl rfl rfl rfl rfl (Ops.mi rfl rfl rfl (Ops.idx hM5.top.2 rfl rfl rfl (by omega) (by omega) (Ops.ld_sl hM5.top rfl (by omega) rfl rfl (Ops.len rfl rfl ?_)))))))))
     refine Ops.lss rfl rfl rfl (Ops.n (tQ ?_))
     refine Cd.cond_p _ rfl (fun h9 => ?_) (fun h9 => ?_)
     ·have hjl : j < (gl F (i : Int)).length := by omega
      have hjr := hg1.2.2 (gi (gl F (i : Int)) (j : Int)) (by rw [gi_mem hjl]; exact List.getElem_mem _)
      have hH := hS5.rdB 0 rfl
      refine Cd.skip (tQ (Cd.seq (Cd.block (Cd.region (Ops.ms rfl rfl rfl (Ops.fld hB5 rfl rfl rfl rfl inferInstance (Ops.ldf_s hB5 rfl rfl rfl rfl rfl (Ops.mi rfl rfl rfl (Ops.idx hM5.top.2 rfl rfl rfl (by omega) (by omega) ?_)))))))))
      refine Ops.ld_sl hM5.top rfl (by omega) rfl rfl (Ops.mi rfl rfl rfl (Ops.idx hrow5.2 rfl rfl rfl (by omega) (by omega) (Ops.ld_int hrow5 rfl (by omega) rfl rfl (Ops.idx hH.2 rfl rfl rfl (by omega) (by omega) (Ops.st_bool 0 hS5 rfl rfl rfl (by omega) ?_)))))
      intro w6 hS6
      refine Ops.n (blockQ_n (tQ (Cd.region (Ops.mi rfl rfl rfl (Ops.add rfl rfl rfl (by omega) (Ops.mi rfl rfl rfl (Ops.n (tQ ?_))))))))
      refine ⟨j + 1, by show (gl F (i : Int)).length - (j + 1) < (gl F (i : Int)).length - j; omega, ⟨rfl, rfl, rfl, rfl, trivial⟩, by omega, ?_⟩
      rw [take_succ_gi hjl, ← List.append_assoc, pnt_snoc]
      exact hS6
     ·rw [show (gl F (i : Int)).take j = gl F (i : Int) from List.take_of_length_le (by omega)] at hS5
      refine Cd.exit (thenQ_x (thenQ_x (blockQ_x (blockQ_n (tQ (Cd.region (Ops.mi rfl rfl rfl (Ops.add rfl rfl rfl (by omega) (Ops.mi rfl rfl rfl ?_)))))))))
      refine Ops.n (tQ ?_)
      refine ⟨i + 1, by show n - (i + 1) < n - i; omega, ⟨rfl, rfl, rfl, trivial⟩, by omega, hnext, ?_⟩
      rw [take_succ_gl hiF, List.flatten_append]
      simpa using hS5
    ·refine Cd.draw [.ex (.pointer (ptrAt (Ab) 1)), .ex (.slice (A) (n) (c)), .ex (.int .i64 ((i : Int))), .ex (.pointer (ptrAt (A) ((i : Int)).toNat)), .ex (.slice ((rg (rs) ((i : Int))).a) ((rg (rs) ((i : Int))).n) ((rg (rs) ((i : Int))).c)), .ex (.int .i64 ((((rg (rs) ((i : Int))).n : Nat) : Int))), .ex (.bool (decide (((((rg (rs) ((i : Int))).n : Nat) : Int)) < ((1 : Int))))), .ex (.bool (false)), .ex (.pointer (ptrAt (Ab) 1)), .ex (.slice (A) (n) (c)), .ex (.int .i64 ((i : Int))), .ex (.pointer (ptrAt (A) ((i : Int)).toNat)), .ex (.slice ((rg (rs) ((i : Int))).a) ((rg (rs) ((i : Int))).n) ((rg (rs) ((i : Int))).c)), .ex (.int .i64 ((((rg (rs) ((i : Int))).n : Nat) : Int))), .ex (.bool (decide (((6 : Int)) < ((((rg (rs) ((i : Int))).n : Nat) : Int))))), .ex (.bool (decide (((6 : Int)) < ((((rg (rs) ((i : Int))).n : Nat) : Int))))), .ex (.bool (false)), .ex (.pointer (ptrAt (Ab) 1)), .ex (.slice (A) (n) (c)), .ex (.int .i64 ((i : Int))), .ex (.pointer (ptrAt (A) ((i : Int)).toNat)), .ex (.slice ((rg (rs) ((i : Int))).a) ((rg (rs) ((i : Int))).n) ((rg (rs) ((i : Int))).c)), .ex (.pointer (ptrAt (Ab) 0)), .ex (.int .i64 ((m : Int))), .ex (.int .i64 (((m : Int)) - ((1 : Int)))), .ex (.bool (decide (Rise ((m : Int) - 1) (gl F (i : Int))))), .ex (.bool (decide (¬ (Rise ((m : Int) - 1) (gl F (i : Int)))))), .ex (.bool (decide (¬ (Rise ((m : Int) - 1) (gl F (i : Int)))))), .ex (.bool (false)), .ex (.int .i64 ((i : Int))), .ex (.bool (decide (((0 : Int)) < ((i : Int))))), .ex (.bool (true)), .ex (.pointer (ptrAt (Ab) 1)), .ex (.slice (A) (n) (c)), .ex (.int .i64 ((i : Int))), .ex (.int .i64 (((i : Int)) - ((1 : Int)))), .ex (.pointer (ptrAt (A) (((i : Int)) - ((1 : Int))).toNat)), .ex (.slice ((rg (rs) (((i : Int)) - ((1 : Int)))).a) ((rg (rs) (((i : Int)) - ((1 : Int)))).n) ((rg (rs) (((i : Int)) - ((1 : Int)))).c)), .ex (.pointer (ptrAt (Ab) 1)), .ex (.slice (A) (n) (c)), .ex (.int .i64 ((i : Int))), .ex (.pointer (ptrAt (A) ((i : Int)).toNat)), .ex (.slice ((rg (rs) ((i : Int))).a) ((rg (rs) ((i : Int))).n) ((rg (rs) ((i : Int))).c)), .ex (.bool (decide (lexC (gl F ((i : Int) - 1)) (gl F (i : Int)) < 0))), .ex (.bool (decide (¬ (lexC (gl F ((i : Int) - 1)) (gl F (i : Int)) < 0)))), .ex (.bool (decide (¬ (lexC (gl F ((i : Int) - 1)) (gl F (i : Int)) < 0)))), .ex (.bool (true))] (by kernel_rfl) (by kernel_rfl) rfl (lx (lx (lx (lx (lx (lx (lx (lx (lx (lx (lx (lx (lx (lx (lx (lx (lx (lx (lx (lx (lx (lx (lx (lx (lx (lx (lx (lx (lx (lx (lx (lx (lx (lx (lx (lx (lx (lx (lx (lx (lx (lx (lx (lx (lx (lx (lx (fun _ h => by cases h)))))))))))))))))))))))))))))))))))))))))))))))) ⟨?_, ?_, ?_, ?_, ?_, ?_, ?_, ?_, ?_, ?_, ?_, ?_, ?_, ?_, ?_, ?_, ?_, ?_, ?_, ?_, ?_, ?_, ?_, ?_, ?_, ?_, ?_, ?_, ?_, ?_, ?_, ?_, ?_, ?_, ?_, ?_, ?_, ?_, ?_, ?_, ?_, ?_, ?_, ?_, ?_, ?_, ?_, trivial⟩ ?_
     ·intro e1 w1 hb hp hun; refine Ops.fld (hB3.below hb) rfl rfl rfl rfl inferInstance (Ops.n (d0 (by exact rfl)))
     ·intro e1 w1 hb hp hun; refine Ops.ldf_s (hB3.below hb) rfl rfl rfl rfl rfl (Ops.n (d0 (by exact rfl)))
     ·intro e1 w1 hb hp hun; refine Ops.mi rfl rfl rfl (Ops.n (d0 (by exact rfl)))
     ·intro e1 w1 hb hp hun; refine Ops.idx (hM.top.later hb).2 rfl rfl rfl (by omega) (by omega) (Ops.n (d0 (by exact rfl)))
     ·intro e1 w1 hb hp hun; refine Ops.ld_sl (hM.top.later hb) rfl (by omega) rfl rfl (Ops.n (d0 (by exact rfl)))
     ·intro e1 w1 hb hp hun; refine Ops.len rfl rfl (Ops.n (d0 (by exact rfl)))
     ·intro e1 w1 hb hp hun; refine Ops.lss rfl rfl rfl (Ops.n (d0 (by exact rfl)))
     ·intro e1 w1 hb hp hun; refine Ops.mb rfl rfl rfl (Ops.n ?_)
      exact d0 (by exact congrArg Value.bool (decide_eq_false h4))
     ·intro e1 w1 hb hp hun; refine Ops.g rfl rfl rfl (Ops.fld (hB3.below hb) rfl rfl rfl rfl inferInstance (Ops.n (d0 (by exact rfl))))
     ·intro e1 w1 hb hp hun; refine Ops.g rfl rfl rfl (Ops.ldf_s (hB3.below hb) rfl rfl rfl rfl rfl (Ops.n (d0 (by exact rfl))))
     ·intro e1 w1 hb hp hun; refine Ops.g rfl rfl rfl (Ops.mi rfl rfl rfl (Ops.n (d0 (by exact rfl))))
     ·intro e1 w1 hb hp hun; refine Ops.g rfl rfl rfl (Ops.idx (hM.top.later hb).2 rfl rfl rfl (by omega) (by omega) (Ops.n (d0 (by exact rfl))))
     ·intro e1 w1 hb hp hun; refine Ops.g rfl rfl rfl (Ops.ld_sl (hM.top.later hb) rfl (by omega) rfl rfl (Ops.n (d0 (by exact rfl))))
     ·intro e1 w1 hb hp hun; refine Ops.g rfl rfl rfl (Ops.len rfl rfl (Ops.n (d0 (by exact rfl))))
     ·intro e1 w1 hb hp hun; refine Ops.g rfl rfl rfl (Ops.gtr rfl rfl rfl (Ops.n (d0 (by exact rfl))))
     ·intro e1 w1 hb hp hun; refine Ops.pick_f rfl rfl rfl (Ops.n (d0 (by exact rfl)))
     ·intro e1 w1 hb hp hun; refine Ops.mb rfl rfl rfl (Ops.n ?_)
      exact d0 (by exact congrArg Value.bool (decide_eq_false h5))
     ·intro e1 w1 hb hp hun; refine Ops.g rfl rfl rfl (Ops.fld (hB3.below hb) rfl rfl rfl rfl inferInstance (Ops.n (d0 (by exact rfl))))
     ·intro e1 w1 hb hp hun; refine Ops.g rfl rfl rfl (Ops.ldf_s (hB3.below hb) rfl rfl rfl rfl rfl (Ops.n (d0 (by exact rfl))))
     ·intro e1 w1 hb hp hun; refine Ops.g rfl rfl rfl (Ops.mi rfl rfl rfl (Ops.n (d0 (by exact rfl))))
     ·intro e1 w1 hb hp hun; refine Ops.g rfl rfl rfl (Ops.idx (hM.top.later hb).2 rfl rfl rfl (by omega) (by omega) (Ops.n (d0 (by exact rfl))))
     ·intro e1 w1 hb hp hun; refine Ops.g rfl rfl rfl (Ops.ld_sl (hM.top.later hb) rfl (by omega) rfl rfl (Ops.n (d0 (by exact rfl))))
     ·intro e1 w1 hb hp hun; refine Ops.g rfl rfl rfl (Ops.fld (hB3.below hb) rfl rfl rfl rfl inferInstance (Ops.n (d0 (by exact rfl))))
     ·intro e1 w1 hb hp hun; refine Ops.g rfl rfl rfl (Ops.ldf_i (hB3.below hb) rfl rfl rfl rfl rfl (Ops.n (d0 (by exact rfl))))
     ·intro e1 w1 hb hp hun; refine Ops.g rfl rfl rfl (Ops.sub rfl rfl rfl (by omega) (Ops.n (d0 (by exact rfl))))
     ·intro e1 w1 hb hp hun; refine Ops.g rfl rfl rfl (Ops.call (l17Rises_c _ _ _ _ _ _ (hrow.later hb) (by omega)) rfl rfl rfl ?_)
      rintro _ w2 ⟨rfl, hst⟩
      refine Ops.n ?_
      exact After.dn hst.below (by exact rfl)
     ·intro e1 w1 hb hp hun; refine Ops.g rfl rfl rfl (Ops.not_p rfl rfl (Ops.n (d0 (by exact rfl))))
     ·intro e1 w1 hb hp hun; refine Ops.pick_f rfl rfl rfl (Ops.n (d0 (by exact rfl)))
     ·intro e1 w1 hb hp hun; refine Ops.mb rfl rfl rfl (Ops.n ?_)
      exact d0 (by exact congrArg Value.bool (decide_eq_false (fun h => h h6)))
     ·intro e1 w1 hb hp hun; refine Ops.g rfl rfl rfl (Ops.mi rfl rfl rfl (Ops.n (d0 (by exact rfl))))
     ·intro e1 w1 hb hp hun; refine Ops.g rfl rfl rfl (Ops.gtr rfl rfl rfl (Ops.n (d0 (by exact rfl))))
     ·intro e1 w1 hb hp hun; refine Ops.g rfl rfl rfl (Ops.mb rfl rfl rfl (Ops.n ?_))
      exact d0 (by exact congrArg Value.bool (decide_eq_true h7))
     ·intro e1 w1 hb hp hun; refine Ops.g rfl rfl rfl (Ops.fld (hB3.below hb) rfl rfl rfl rfl inferInstance (Ops.n (d0 (by exact rfl))))
     ·intro e1 w1 hb hp hun; refine Ops.g rfl rfl rfl (Ops.ldf_s (hB3.below hb) rfl rfl rfl rfl rfl (Ops.n (d0 (by exact rfl))))
     ·intro e1 w1 hb hp hun; refine Ops.g rfl rfl rfl (Ops.mi rfl rfl rfl (Ops.n (d0 (by exact rfl))))
     ·intro e1 w1 hb hp hun; refine Ops.g rfl rfl rfl (Ops.sub rfl rfl rfl (by omega) (Ops.n (d0 (by exact rfl))))
     ·intro e1 w1 hb hp hun; refine Ops.g rfl rfl rfl (Ops.idx (hM.top.later hb).2 rfl rfl rfl (by omega) (by omega) (Ops.n (d0 (by exact rfl))))
     ·intro e1 w1 hb hp hun; refine Ops.g rfl rfl rfl (Ops.ld_sl (hM.top.later hb) rfl (by omega) rfl rfl (Ops.n (d0 (by exact rfl))))
     ·intro e1 w1 hb hp hun; refine Ops.g rfl rfl rfl (Ops.fld (hB3.below hb) rfl rfl rfl rfl inferInstance (Ops.n (d0 (by exact rfl))))
     ·intro e1 w1 hb hp hun; refine Ops.g rfl rfl rfl (Ops.ldf_s (hB3.below hb) rfl rfl rfl rfl rfl (Ops.n (d0 (by exact rfl))))
     ·intro e1 w1 hb hp hun; refine Ops.g rfl rfl rfl (Ops.mi rfl rfl rfl (Ops.n (d0 (by exact rfl))))
     ·intro e1 w1 hb hp hun; refine Ops.g rfl rfl rfl (Ops.idx (hM.top.later hb).2 rfl rfl rfl (by omega) (by omega) (Ops.n (d0 (by exact rfl))))
     ·intro e1 w1 hb hp hun; refine Ops.g rfl rfl rfl (Ops.ld_sl (hM.top.later hb) rfl (by omega) rfl rfl (Ops.n (d0 (by exact rfl))))
     ·intro e1 w1 hb hp hun; refine Ops.g rfl rfl rfl ?_
      refine Ops.call (l01Less_c _ _ _ _ _ _ _ _ _ (hrow'.later hb) (hrow.later hb) (by have := hrow'.1; have := (hM.cap_ (i := (i : Int) - 1) (by omega) (by omega)); omega)) rfl rfl rfl ?_
      rintro _ w2 ⟨rfl, hst⟩
      refine Ops.n ?_
      exact After.dn hst.below (by exact rfl)
     ·intro e1 w1 hb hp hun; refine Ops.g rfl rfl rfl (Ops.not_p rfl rfl (Ops.n (d0 (by exact rfl))))
     ·intro e1 w1 hb hp hun; refine Ops.g rfl rfl rfl (Ops.pick_t rfl rfl rfl (Ops.n (d0 (by exact rfl))))
     ·intro e1 w1 hb hp hun; refine Ops.pick_f rfl rfl rfl (Ops.n ?_)
      exact d0 (by exact congrArg Value.bool (decide_eq_true h8))
     intro u w4 hb _
     refine tQ (Cd.cond_t rfl (Cd.seq (Cd.region (Ops.mb rfl rfl rfl (Ops.n (tQ (Cd.ret (thenQ_r (blockQ_r ?_)))))))))
     refine thenQ_r (thenQ_r (blockQ_r (thenQ_r (ret1_b rfl ?_))))
     exact ⟨by rw [decide_eq_false (fun h : Cplx m F => h8 (h.lt (by omega) hiF))], hS3.none.later hb⟩
   ·refine Cd.draw [.ex (.pointer (ptrAt (Ab) 1)), .ex (.slice (A) (n) (c)), .ex (.int .i64 ((i : Int))), .ex (.pointer (ptrAt (A) ((i : Int)).toNat)), .ex (.slice ((rg (rs) ((i : Int))).a) ((rg (rs) ((i : Int))).n) ((rg (rs) ((i : Int))).c)), .ex (.int .i64 ((((rg (rs) ((i : Int))).n : Nat) : Int))), .ex (.bool (decide (((((rg (rs) ((i : Int))).n : Nat) : Int)) < ((1 : Int))))), .ex (.bool (false)), .ex (.pointer (ptrAt (Ab) 1)), .ex (.slice (A) (n) (c)), .ex (.int .i64 ((i : Int))), .ex (.pointer (ptrAt (A) ((i : Int)).toNat)), .ex (.slice ((rg (rs) ((i : Int))).a) ((rg (rs) ((i : Int))).n) ((rg (rs) ((i : Int))).c)), .ex (.int .i64 ((((rg (rs) ((i : Int))).n : Nat) : Int))), .ex (.bool (decide (((6 : Int)) < ((((rg (rs) ((i : Int))).n : Nat) : Int))))), .ex (.bool (decide (((6 : Int)) < ((((rg (rs) ((i : Int))).n : Nat) : Int))))), .ex (.bool (false)), .ex (.pointer (ptrAt (Ab) 1)), .ex (.slice (A) (n) (c)), .ex (.int .i64 ((i : Int))), .ex (.pointer (ptrAt (A) ((i : Int)).toNat)), .ex (.slice ((rg (rs) ((i : Int))).a) ((rg (rs) ((i : Int))).n) ((rg (rs) ((i : Int))).c)), .ex (.pointer (ptrAt (Ab) 0)), .ex (.int .i64 ((m : Int))), .ex (.int .i64 (((m : Int)) - ((1 : Int)))), .ex (.bool (decide (Rise ((m : Int) - 1) (gl F (i : Int))))), .ex (.bool (decide (¬ (Rise ((m : Int) - 1) (gl F (i : Int)))))), .ex (.bool (decide (¬ (Rise ((m : Int) - 1) (gl F (i : Int)))))), .ex (.bool (false)), .ex (.int .i64 ((i : Int))), .ex (.bool (decide (((0 : Int)) < ((i : Int))))), .ex (.bool (false)), .ex (undef), .ex (undef), .ex (undef), .ex (undef), .ex (undef), .ex (undef), .ex (undef), .ex (undef), .ex (undef), .ex (undef), .ex (undef), .ex (undef), .ex (undef), .ex (.bool (false)), .ex (.bool (false))] (by kernel_rfl) (by kernel_rfl) rfl (lx (lx (lx (lx (lx (lx (lx (lx (lx (lx (lx (lx (lx (lx (lx (lx (lx (lx (lx (lx (lx (lx (lx (lx (lx (lx (lx (lx (lx (lx (lx (lx (lx (lx (lx (lx (lx (lx (lx (lx (lx (lx (lx (lx (lx (lx (lx (fun _ h => by cases h)))))))))))))))))))))))))))))))))))))))))))))))) ⟨?_, ?_, ?_, ?_, ?_, ?_, ?_, ?_, ?_, ?_, ?_, ?_, ?_, ?_, ?_, ?_, ?_, ?_, ?_, ?_, ?_, ?_, ?_, ?_, ?_, ?_, ?_, ?_, ?_, ?_, ?_, ?_, ?_, ?_, ?_, ?_, ?_, ?_, ?_, ?_, ?_, ?_, ?_, ?_, ?_, ?_, ?_, trivial⟩ ?_
    ·intro e1 w1 hb hp hun; refine Ops.fld (hB3.below hb) rfl rfl rfl rfl inferInstance (Ops.n (d0 (by exact rfl)))
    ·intro e1 w1 hb hp hun; refine Ops.ldf_s (hB3.below hb) rfl rfl rfl rfl rfl (Ops.n (d0 (by exact rfl)))
    ·intro e1 w1 hb hp hun; refine Ops.mi rfl rfl rfl (Ops.n (d0 (by exact rfl)))
    ·intro e1 w1 hb hp hun; refine Ops.idx (hM.top.later hb).2 rfl rfl rfl (by omega) (by omega) (Ops.n (d0 (by exact rfl)))
    ·intro e1 w1 hb hp hun; refine Ops.ld_sl (hM.top.later hb) rfl (by omega) rfl rfl (Ops.n (d0 (by exact rfl)))
    ·intro e1 w1 hb hp hun; refine Ops.len rfl rfl (Ops.n (d0 (by exact rfl)))
    ·intro e1 w1 hb hp hun; refine Ops.lss rfl rfl rfl (Ops.n (d0 (by exact rfl)))
    ·intro e1 w1 hb hp hun; refine Ops.mb rfl rfl rfl (Ops.n ?_)
     exact d0 (by exact congrArg Value.bool (decide_eq_false h4))
    ·intro e1 w1 hb hp hun; refine Ops.g rfl rfl rfl (Ops.fld (hB3.below hb) rfl rfl rfl rfl inferInstance (Ops.n (d0 (by exact rfl))))
    ·intro e1 w1 hb hp hun; refine Ops.g rfl rfl rfl (Ops.ldf_s (hB3.below hb) rfl rfl rfl rfl rfl (Ops.n (d0 (by exact rfl))))
    ·intro e1 w1 hb hp hun; refine Ops.g rfl rfl rfl (Ops.mi rfl rfl rfl (Ops.n (d0 (by exact rfl))))
    ·intro e1 w1 hb hp hun; refine Ops.g rfl rfl rfl (Ops.idx (hM.top.later hb).2 rfl rfl rfl (by omega) (by omega) (Ops.n (d0 (by exact rfl))))
    ·intro e1 w1 hb hp hun; refine Ops.g rfl rfl rfl (Ops.ld_sl (hM.top.later hb) rfl (by omega) rfl rfl (Ops.n (d0 (by exact rfl))))
    ·intro e1 w1 hb hp hun; refine Ops.g rfl rfl rfl (Ops.len rfl rfl (Ops.n (d0 (by exact rfl))))
    ·intro e1 w1 hb hp hun; refine Ops.g rfl rfl rfl (Ops.gtr rfl rfl rfl (Ops.n (d0 (by exact rfl))))
    ·intro e1 w1 hb hp hun; refine Ops.pick_f rfl rfl rfl (Ops.n (d0 (by exact rfl)))
    ·intro e1 w1 hb hp hun; refine Ops.mb rfl rfl rfl (Ops.n ?_)
     exact d0 (by exact congrArg Value.bool (decide_eq_false h5))
    ·intro e1 w1 hb hp hun; refine Ops.g rfl rfl rfl (Ops.fld (hB3.below hb) rfl rfl rfl rfl inferInstance (Ops.n (d0 (by exact rfl))))
    ·intro e1 w1 hb hp hun; refine Ops.g rfl rfl rfl (Ops.ldf_s (hB3.below hb) rfl rfl rfl rfl rfl (Ops.n (d0 (by exact rfl))))
    ·intro e1 w1 hb hp hun; refine Ops.g rfl rfl rfl (Ops.mi rfl rfl rfl (Ops.n (d0 (by exact rfl))))
    ·intro e1 w1 hb hp hun; refine Ops.g rfl rfl rfl (Ops.idx (hM.top.later hb).2 rfl rfl rfl (by omega) (by omega) (Ops.n (d0 (by exact rfl))))
    ·intro e1 w1 hb hp hun; refine Ops.g rfl rfl rfl (Ops.ld_sl (hM.top.later hb) rfl (by omega) rfl rfl (Ops.n (d0 (by exact rfl))))
    ·intro e1 w1 hb hp hun; refine Ops.g rfl rfl rfl (Ops.fld (hB3.below hb) rfl rfl rfl rfl inferInstance (Ops.n (d0 (by exact rfl))))
    ·intro e1 w1 hb hp hun; refine Ops.g rfl rfl rfl (Ops.ldf_i (hB3.below hb) rfl rfl rfl rfl rfl (Ops.n (d0 (by exact rfl))))
    ·intro e1 w1 hb hp hun; refine Ops.g rfl rfl rfl (Ops.sub rfl rfl rfl (by omega) (Ops.n (d0 (by exact rfl))))
    ·intro e1 w1 hb hp hun; refine Ops.g rfl rfl rfl (Ops.call (l17Rises_c _ _ _ _ _ _ (hrow.later hb) (by omega)) rfl rfl rfl ?_)
     rintro _ w2 ⟨rfl, hst⟩
     refine Ops.n ?_
     exact After.dn hst.below (by exact rfl)
    ·intro e1 w1 hb hp hun; refine Ops.g rfl rfl rfl (Ops.not_p rfl rfl (Ops.n (d0 (by exact rfl))))
    ·intro e1 w1 hb hp hun; refine Ops.pick_f rfl rfl rfl (Ops.n (d0 (by exact rfl)))
    ·intro e1 w1 hb hp hun; refine Ops.mb rfl rfl rfl (Ops.n ?_)
     exact d0 (by exact congrArg Value.bool (decide_eq_false (fun h => h h6)))
    ·intro e1 w1 hb hp hun; refine Ops.g rfl rfl rfl (Ops.mi rfl rfl rfl (Ops.n (d0 (by exact rfl))))
    ·intro e1 w1 hb hp hun; refine Ops.g rfl rfl rfl (Ops.gtr rfl rfl rfl (Ops.n (d0 (by exact rfl))))
    ·intro e1 w1 hb hp hun; refine Ops.g rfl rfl rfl (Ops.mb rfl rfl rfl (Ops.n ?_))
     exact d0 (by exact congrArg Value.bool (decide_eq_false h7))
    ·intro e1 w1 hb hp hun; refine Ops.k rfl rfl rfl rfl rfl (Ops.n (d0 (by exact rfl)))
    ·intro e1 w1 hb hp hun; refine Ops.k rfl rfl rfl rfl rfl (Ops.n (d0 (by exact rfl)))
    ·intro e1 w1 hb hp hun; refine Ops.k rfl rfl rfl rfl rfl (Ops.n (d0 (by exact rfl)))
    ·intro e1 w1 hb hp hun; refine Ops.k rfl rfl rfl rfl rfl (Ops.n (d0 (by exact rfl)))
    ·intro e1 w1 hb hp hun; refine Ops.k rfl rfl rfl rfl rfl (Ops.n (d0 (by exact rfl)))
    ·intro e1 w1 hb hp hun; refine Ops.k rfl rfl rfl rfl rfl (Ops.n (d0 (by exact rfl)))
    ·intro e1 w1 hb hp hun; refine Ops.k rfl rfl rfl rfl rfl (Ops.n (d0 (by exact rfl)))
    ·intro e1 w1 hb hp hun; refine Ops.k rfl rfl rfl rfl rfl (Ops.n (d0 (by exact rfl)))
    ·intro e1 w1 hb hp hun; refine Ops.k rfl rfl rfl rfl rfl (Ops.n (d0 (by exact rfl)))
    ·intro e1 w1 hb hp hun; refine Ops.k rfl rfl rfl rfl rfl (Ops.n (d0 (by exact rfl)))
    ·intro e1 w1 hb hp hun; refine Ops.k rfl rfl rfl rfl rfl (Ops.n (d0 (by exact rfl)))
    ·intro e1 w1 hb hp hun; refine Ops.k rfl rfl rfl rfl rfl (Ops.n (d0 (by exact rfl)))
    ·intro e1 w1 hb hp hun; refine Ops.k rfl rfl rfl rfl rfl (Ops.n (d0 (by exact rfl)))
    ·intro e1 w1 hb hp hun; refine Ops.g rfl rfl rfl (Ops.pick_f rfl rfl rfl (Ops.n (d0 (by exact rfl))))
    ·intro e1 w1 hb hp hun; refine Ops.pick_f rfl rfl rfl (Ops.n (d0 (by exact rfl)))
    have hnext := hP.step hiF hg1 (.inl (by omega))
    intro u w4 hb _
    have hS4 := hS3.later hb
    refine tQ (Cd.cond_f rfl (Cd.skip (tQ (Cd.seq (Cd.region (Ops.mi rfl rfl rfl (Ops.n (tQ (Cd.block ?_)))))))))
    refine Cd.loop (α := Nat) (fun j => [(1, .pointer Ab), (3, .slice A3 m m), (4, .int .i64 (i : Int)), (5, .int .i64 (j : Int))]) (fun j w' => j ≤ (gl F (i : Int)).length ∧ St w w' [CkB 4 A3 m m (pnt (mk0 m) ((F.take i).flatten ++ (gl F (i : Int)).take j)), cxB Ab m A n c]) (fun j => (gl F (i : Int)).length - j) 0 ⟨rfl, rfl, rfl, rfl, trivial⟩ ⟨Nat.zero_le _, by rw [List.take_zero, List.append_nil]; exact hS4⟩ ?_
    rintro j e w5 ⟨hj, hS5⟩
    have hB5 := hS5.rd 1 rfl
    have hM5 := hS5.oldRows hR
    have hrow5 := hM5.at_ (i := (i : Int)) (by omega) (by omega)
    refine Cd.seq (Cd.seq (Cd.region (Ops.mi rfl rfl rfl (Ops.fld hB5 rfl rfl rfl rfl inferInstance (Ops.ldf_s hB5 rfl rfl rfl rfl rfl (Ops.mi rfl rfl rfl (Ops.idx hM5.top.2 rfl rfl rfl (by omega) (by omega) (Ops.ld_sl hM5.top rfl (by omega) rfl rfl (Ops.len rfl rfl ?_)))))))))
    refine Ops.lss rfl rfl rfl (Ops.n (tQ ?_))
    refine Cd.cond_p _ rfl (fun h9 => ?_) (fun h9 => ?_)
    ·have hjl : j < (gl F (i : Int)).length := by omega
     have hjr := hg1.2.2 (gi (gl F (i : Int)) (j : Int)) (by rw [gi_mem hjl]; exact List.getElem_mem _)
     have hH := hS5.rdB 0 rfl
     refine Cd.skip (tQ (Cd.seq (Cd.block (Cd.region (Ops.ms rfl rfl rfl (Ops.fld hB5 rfl rfl rfl rfl inferInstance (Ops.ldf_s hB5 rfl rfl rfl rfl rfl (Ops.mi rfl rfl rfl (Ops.idx hM5.top.2 rfl rfl rfl (by omega) (by omega) ?_)))))))))
     refine Ops.ld_sl hM5.top rfl (by omega) rfl rfl (Ops.mi rfl rfl rfl (Ops.idx hrow5.2 rfl rfl rfl (by omega) (by omega) (Ops.ld_int hrow5 rfl (by omega) rfl rfl (Ops.idx hH.2 rfl rfl rfl (by omega) (by omega) (Ops.st_bool 0 hS5 rfl rfl rfl (by omega) ?_)))))
     intro w6 hS6
     refine Ops.n (blockQ_n (tQ (Cd.region (Ops.mi rfl rfl rfl (Ops.add rfl rfl rfl (by omega) (Ops.mi rfl rfl rfl (Ops.n (tQ ?_))))))))
     refine ⟨j + 1, by show (gl F (i : Int)).length - (j + 1) < (gl F (i : Int)).length - j; omega, ⟨rfl, rfl, rfl, rfl, trivial⟩, by omega, ?_⟩
     rw [take_succ_gi hjl, ← List.append_assoc, pnt_snoc]
     exact hS6
    ·rw [show (gl F (i : Int)).take j = gl F (i : Int) from List.take_of_length_le (by omega)] at hS5
     refine Cd.exit (thenQ_x (thenQ_x (blockQ_x (blockQ_n (tQ (Cd.region (Ops.mi rfl rfl rfl (Ops.add rfl rfl rfl (by omega) (Ops.mi rfl rfl rfl ?_)))))))))
     refine Ops.n (tQ ?_)
     refine ⟨i + 1, by show n - (i + 1) < n - i; omega, ⟨rfl, rfl, rfl, trivial⟩, by omega, hnext, ?_⟩
     rw [take_succ_gl hiF, List.flatten_append]
     simpa using hS5
  ·refine Cd.draw [.ex (.pointer (ptrAt (Ab) 1)), .ex (.slice (A) (n) (c)), .ex (.int .i64 ((i : Int))), .ex (.pointer (ptrAt (A) ((i : Int)).toNat)), .ex (.slice ((rg (rs) ((i : Int))).a) ((rg (rs) ((i : Int))).n) ((rg (rs) ((i : Int))).c)), .ex (.int .i64 ((((rg (rs) ((i : Int))).n : Nat) : Int))), .ex (.bool (decide (((((rg (rs) ((i : Int))).n : Nat) : Int)) < ((1 : Int))))), .ex (.bool (false)), .ex (.pointer (ptrAt (Ab) 1)), .ex (.slice (A) (n) (c)), .ex (.int .i64 ((i : Int))), .ex (.pointer (ptrAt (A) ((i : Int)).toNat)), .ex (.slice ((rg (rs) ((i : Int))).a) ((rg (rs) ((i : Int))).n) ((rg (rs) ((i : Int))).c)), .ex (.int .i64 ((((rg (rs) ((i : Int))).n : Nat) : Int))), .ex (.bool (decide (((6 : Int)) < ((((rg (rs) ((i : Int))).n : Nat) : Int))))), .ex (.bool (decide (((6 : Int)) < ((((rg (rs) ((i : Int))).n : Nat) : Int))))), .ex (.bool (false)), .ex (.pointer (ptrAt (Ab) 1)), .ex (.slice (A) (n) (c)), .ex (.int .i64 ((i : Int))), .ex (.pointer (ptrAt (A) ((i : Int)).toNat)), .ex (.slice ((rg (rs) ((i : Int))).a) ((rg (rs) ((i : Int))).n) ((rg (rs) ((i : Int))).c)), .ex (.pointer (ptrAt (Ab) 0)), .ex (.int .i64 ((m : Int))), .ex (.int .i64 (((m : Int)) - ((1 : Int)))), .ex (.bool (decide (Rise ((m : Int) - 1) (gl F (i : Int))))), .ex (.bool (decide (¬ (Rise ((m : Int) - 1) (gl F (i : Int)))))), .ex (.bool (decide (¬ (Rise ((m : Int) - 1) (gl F (i : Int)))))), .ex (.bool (true)), .ex (undef), .ex (undef), .ex (undef), .ex (undef), .ex (undef), .ex (undef), .ex (undef), .ex (undef), .ex (undef), .ex (undef), .ex (undef), .ex (undef), .ex (undef), .ex (undef), .ex (undef), .ex (undef), .ex (undef), .ex (.bool (true))] (by kernel_rfl) (by kernel_rfl) rfl (lx (lx (lx (lx (lx (lx (lx (lx (lx (lx (lx (lx (lx (lx (lx (lx (lx (lx (lx (lx (lx (lx (lx (lx (lx (lx (lx (lx (lx (lx (lx (lx (lx (lx (lx (lx (lx (lx (lx (lx (lx (lx (lx (lx (lx (lx (lx (fun _ h => by cases h)))))))))))))))))))))))))))))))))))))))))))))))) ⟨?_, ?_, ?_, ?_, ?_, ?_, ?_, ?_, ?_, ?_, ?_, ?_, ?_, ?_, ?_, ?_, ?_, ?_, ?_, ?_, ?_, ?_, ?_, ?_, ?_, ?_, ?_, ?_, ?_, ?_, ?_, ?_, ?_, ?_, ?_, ?_, ?_, ?_, ?_, ?_, ?_, ?_, ?_, ?_, ?_, ?_, ?_, trivial⟩ ?_
   ·intro e1 w1 hb hp hun; refine Ops.fld (hB3.below hb) rfl rfl rfl rfl inferInstance (Ops.n (d0 (by exact rfl)))
   ·intro e1 w1 hb hp hun; refine Ops.ldf_s (hB3.below hb) rfl rfl rfl rfl rfl (Ops.n (d0 (by exact rfl)))
   ·intro e1 w1 hb hp hun; refine Ops.mi rfl rfl rfl (Ops.n (d0 (by exact rfl)))
   ·intro e1 w1 hb hp hun; refine Ops.idx (hM.top.later hb).2 rfl rfl rfl (by omega) (by omega) (Ops.n (d0 (by exact rfl)))
   ·intro e1 w1 hb hp hun; refine Ops.ld_sl (hM.top.later hb) rfl (by omega) rfl rfl (Ops.n (d0 (by exact rfl)))
   ·intro e1 w1 hb hp hun; refine Ops.len rfl rfl (Ops.n (d0 (by exact rfl)))
   ·intro e1 w1 hb hp hun; refine Ops.lss rfl rfl rfl (Ops.n (d0 (by exact rfl)))
   ·intro e1 w1 hb hp hun; refine Ops.mb rfl rfl rfl (Ops.n ?_)
    exact d0 (by exact congrArg Value.bool (decide_eq_false h4))
   ·intro e1 w1 hb hp hun; refine Ops.g rfl rfl rfl (Ops.fld (hB3.below hb) rfl rfl rfl rfl inferInstance (Ops.n (d0 (by exact rfl))))
   ·intro e1 w1 hb hp hun; refine Ops.g rfl rfl rfl (Ops.ldf_s (hB3.below hb) rfl rfl rfl rfl rfl (Ops.n (d0 (by exact rfl))))
   ·intro e1 w1 hb hp hun; refine Ops.g rfl rfl rfl (Ops.mi rfl rfl rfl (Ops.n (d0 (by exact rfl))))
   ·intro e1 w1 hb hp hun; refine Ops.g rfl rfl rfl (Ops.idx (hM.top.later hb).2 rfl rfl rfl (by omega) (by omega) (Ops.n (d0 (by exact rfl))))
   ·intro e1 w1 hb hp hun; refine Ops.g rfl rfl rfl (Ops.ld_sl (hM.top.later hb) rfl (by omega) rfl rfl (Ops.n (d0 (by exact rfl))))
   ·intro e1 w1 hb hp hun; refine Ops.g rfl rfl rfl (Ops.len rfl rfl (Ops.n (d0 (by exact rfl))))
   ·intro e1 w1 hb hp hun; refine Ops.g rfl rfl rfl (Ops.gtr rfl rfl rfl (Ops.n (d0 (by exact rfl))))
   ·intro e1 w1 hb hp hun; refine Ops.pick_f rfl rfl rfl (Ops.n (d0 (by exact rfl)))
   ·intro e1 w1 hb hp hun; refine Ops.mb rfl rfl rfl (Ops.n ?_)
    exact d0 (by exact congrArg Value.bool (decide_eq_false h5))
   ·intro e1 w1 hb hp hun; refine Ops.g rfl rfl rfl (Ops.fld (hB3.below hb) rfl rfl rfl rfl inferInstance (Ops.n (d0 (by exact rfl))))
   ·intro e1 w1 hb hp hun; refine Ops.g rfl rfl rfl (Ops.ldf_s (hB3.below hb) rfl rfl rfl rfl rfl (Ops.n (d0 (by exact rfl))))
   ·intro e1 w1 hb hp hun; refine Ops.g rfl rfl rfl (Ops.mi rfl rfl rfl (Ops.n (d0 (by exact rfl))))
   ·intro e1 w1 hb hp hun; refine Ops.g rfl rfl rfl (Ops.idx (hM.top.later hb).2 rfl rfl rfl (by omega) (by omega) (Ops.n (d0 (by exact rfl))))
   ·intro e1 w1 hb hp hun; refine Ops.g rfl rfl rfl (Ops.ld_sl (hM.top.later hb) rfl (by omega) rfl rfl (Ops.n (d0 (by exact rfl))))
   ·intro e1 w1 hb hp hun; refine Ops.g rfl rfl rfl (Ops.fld (hB3.below hb) rfl rfl rfl rfl inferInstance (Ops.n (d0 (by exact rfl))))
   ·intro e1 w1 hb hp hun; refine Ops.g rfl rfl rfl (Ops.ldf_i (hB3.below hb) rfl rfl rfl rfl rfl (Ops.n (d0 (by exact rfl))))
   ·intro e1 w1 hb hp hun; refine Ops.g rfl rfl rfl (Ops.sub rfl rfl rfl (by omega) (Ops.n (d0 (by exact rfl))))
   ·intro e1 w1 hb hp hun; refine Ops.g rfl rfl rfl (Ops.call (l17Rises_c _ _ _ _ _ _ (hrow.later hb) (by omega)) rfl rfl rfl ?_)
    rintro _ w2 ⟨rfl, hst⟩
    refine Ops.n ?_
    exact After.dn hst.below (by exact rfl)
   ·intro e1 w1 hb hp hun; refine Ops.g rfl rfl rfl (Ops.not_p rfl rfl (Ops.n (d0 (by exact rfl))))
   ·intro e1 w1 hb hp hun; refine Ops.pick_f rfl rfl rfl (Ops.n (d0 (by exact rfl)))
   ·intro e1 w1 hb hp hun; refine Ops.mb rfl rfl rfl (Ops.n ?_)
    exact d0 (by exact congrArg Value.bool (decide_eq_true h6))
   ·intro e1 w1 hb hp hun; refine Ops.k rfl rfl rfl rfl rfl (Ops.n (d0 (by exact rfl)))
   ·intro e1 w1 hb hp hun; refine Ops.k rfl rfl rfl rfl rfl (Ops.n (d0 (by exact rfl)))
   ·intro e1 w1 hb hp hun; refine Ops.k rfl rfl rfl rfl rfl (Ops.n (d0 (by exact rfl)))
   ·intro e1 w1 hb hp hun; refine Ops.skipu rfl rfl rfl rfl (Ops.n (d0 (by exact rfl)))
   ·intro e1 w1 hb hp hun; refine Ops.skipu rfl rfl rfl rfl (Ops.n (d0 (by exact rfl)))
   ·intro e1 w1 hb hp hun; refine Ops.skipu rfl rfl rfl rfl (Ops.n (d0 (by exact rfl)))
   ·intro e1 w1 hb hp hun; refine Ops.skipu rfl rfl rfl rfl (Ops.n (d0 (by exact rfl)))
   ·intro e1 w1 hb hp hun; refine Ops.skipu rfl rfl rfl rfl (Ops.n (d0 (by exact rfl)))
   ·intro e1 w1 hb hp hun; refine Ops.skipu rfl rfl rfl rfl (Ops.n (d0 (by exact rfl)))
   ·intro e1 w1 hb hp hun; refine Ops.skipu rfl rfl rfl rfl (Ops.n (d0 (by exact rfl)))
   ·intro e1 w1 hb hp hun; refine Ops.skipu rfl rfl rfl rfl (Ops.n (d0 (by exact rfl)))
   ·intro e1 w1 hb hp hun; refine Ops.skipu rfl rfl rfl rfl (Ops.n (d0 (by exact rfl)))
   ·intro e1 w1 hb hp hun; refine Ops.skipu rfl rfl rfl rfl (Ops.n (d0 (by exact rfl)))
   ·intro e1 w1 hb hp hun; refine Ops.skipu rfl rfl rfl rfl (Ops.n (d0 (by exact rfl)))
   ·intro e1 w1 hb hp hun; refine Ops.skipu rfl rfl rfl rfl (Ops.n (d0 (by exact rfl)))
   ·intro e1 w1 hb hp hun; refine Ops.skipu rfl rfl rfl rfl (Ops.n (d0 (by exact rfl)))
   ·intro e1 w1 hb hp hun; refine Ops.k rfl rfl rfl rfl rfl (Ops.n (d0 (by exact rfl)))
   ·intro e1 w1 hb hp hun; refine Ops.pick_t rfl rfl rfl (Ops.n (d0 (by exact rfl)))
   intro u w4 hb _
   refine tQ (Cd.cond_t rfl (Cd.seq (Cd.region (Ops.mb rfl rfl rfl (Ops.n (tQ (Cd.ret (thenQ_r (blockQ_r ?_)))))))))
   refine thenQ_r (thenQ_r (blockQ_r (thenQ_r (ret1_b rfl ?_))))
   exact ⟨by rw [decide_eq_false (fun h : Cplx m F => h6 ⟨(h.at_ hiF).2.1, fun x hx => by have := (h.at_ hiF).2.2 x hx; omega⟩)], hS3.none.later hb⟩
 ·have hin : i = F.length := by omega
  subst hin
  obtain ⟨hall, hord⟩ := hP.all
  rw [List.take_length] at hS3
  have hgb := fun (x : Int) (h0 : 0 ≤ x) => pnt_all (m := m) (F := F) (fun l hl => (hall l hl).2.2) x h0
  refine Cd.exit (thenQ_x (thenQ_x (blockQ_x (tQ (Cd.seq (Cd.seq (Cd.region (Ops.mi rfl rfl rfl (Ops.n ?_)))))))))
  refine tQ (Cd.block ?_)
  refine Cd.loop (α := Nat) (fun v => [(1, .pointer Ab), (3, .slice A3 m m), (6, .int .i64 (v : Int))]) (fun v w' => v ≤ m ∧ (∀ x : Int, 0 ≤ x → x < (v : Int) → ∃ l ∈ F, x ∈ l) ∧ St w w' [CkB 4 A3 m m (pnt (mk0 m) F.flatten), cxB Ab m A n c]) (fun v => m - v) 0 ⟨rfl, rfl, rfl, trivial⟩ ⟨Nat.zero_le _, fun x h0 h1 => by omega, hS3⟩ ?_
  rintro v e w4 ⟨hv, hv2, hS4⟩
  have hB4 := hS4.rd 1 rfl
  refine Cd.seq (Cd.seq (Cd.region (Ops.mi rfl rfl rfl (Ops.fld hB4 rfl rfl rfl rfl inferInstance (Ops.ldf_i hB4 rfl rfl rfl rfl rfl (Ops.lss rfl rfl rfl (Ops.n (tQ ?_))))))))
  refine Cd.cond_p _ rfl (fun h4 => ?_) (fun h4 => ?_)
  ·have hH := hS4.rdB 0 rfl
   refine Cd.skip (tQ (Cd.seq (Cd.block (Cd.seq (Cd.region (Ops.ms rfl rfl rfl (Ops.mi rfl rfl rfl (Ops.idx hH.2 rfl rfl rfl (by omega) (by omega) (Ops.ld_bool hH rfl (by omega) rfl rfl ?_)))))))))
   rw [show gb (pnt (mk0 m) F.flatten) (v : Int) = decide (∃ l ∈ F, (v : Int) ∈ l) from hgb v (by omega)]
   first | refine Ops.not_p rfl rfl ?_ | refine Ops.not rfl rfl ?_
   refine Ops.n (tQ ?_)
   refine Cd.cond_p _ rfl (fun h5 => ?_) (fun h5 => ?_)
   ·refine Cd.seq (Cd.region (Ops.mb rfl rfl rfl (Ops.n (tQ (Cd.ret (blockQ_r (thenQ_r (thenQ_r (blockQ_r ?_)))))))))
    refine thenQ_r (ret1_b rfl ?_)
    exact ⟨by rw [decide_eq_false (fun h : Cplx m F => h5 (h.all _ (by omega) (by omega)))], hS4.none⟩
   ·refine Cd.skip (blockQ_n (tQ (Cd.region (Ops.mi rfl rfl rfl (Ops.add rfl rfl rfl (by omega) (Ops.mi rfl rfl rfl (Ops.n (tQ ?_))))))))
    refine ⟨v + 1, by show m - (v + 1) < m - v; omega, ⟨rfl, rfl, rfl, trivial⟩, by omega, fun x h0 h1 => ?_, hS4⟩
    by_cases e : x = (v : Int)
    ·subst e; exact Classical.not_not.1 h5
    ·exact hv2 x h0 (by omega)
  ·refine Cd.exit (thenQ_x (thenQ_x (blockQ_x (tQ (Cd.seq (Cd.seq (Cd.region (Ops.mi rfl rfl rfl (Ops.n ?_)))))))))
   refine tQ (Cd.block ?_)
   refine Cd.loop (α := Nat) (fun i => [(1, .pointer Ab), (7, .int .i64 (i : Int))]) (fun i w' => i ≤ F.length ∧ (∀ a ∈ F.take i, ∀ b ∈ F, Ins a b → b = a) ∧ St w w' [CkB 4 A3 m m (pnt (mk0 m) F.flatten), cxB Ab m A n c]) (fun i => F.length - i) 0 ⟨rfl, rfl, trivial⟩ ⟨Nat.zero_le _, by simp, hS4⟩ ?_
   rintro i e w5 ⟨hi5, hT5, hS5⟩
   have hB5 := hS5.rd 1 rfl
   refine Cd.seq (Cd.seq (Cd.region (Ops.mi rfl rfl rfl (Ops.fld hB5 rfl rfl rfl rfl inferInstance (Ops.ldf_s hB5 rfl rfl rfl rfl rfl (Ops.len rfl rfl (Ops.lss rfl rfl rfl (Ops.n (tQ ?_)))))))))
   refine Cd.cond_p _ rfl (fun h6 => ?_) (fun h6 => ?_)
   ·have hiF : i < F.length := by omega
    refine Cd.skip (tQ (Cd.seq (Cd.block (Cd.seq (Cd.region (Ops.mi rfl rfl rfl (Ops.n (tQ (Cd.block ?_)))))))))
    refine Cd.loop (α := Nat) (fun k => [(1, .pointer Ab), (7, .int .i64 (i : Int)), (8, .int .i64 (k : Int))]) (fun k w' => k ≤ F.length ∧ (∀ b ∈ F.take k, Ins (gl F (i : Int)) b → b = gl F (i : Int)) ∧ St w w' [CkB 4 A3 m m (pnt (mk0 m) F.flatten), cxB Ab m A n c]) (fun k => F.length - k) 0 ⟨rfl, rfl, rfl, trivial⟩ ⟨Nat.zero_le _, by simp, hS5⟩ ?_
    rintro k e w6 ⟨hk6, hT6, hS6⟩
    have hB6 := hS6.rd 1 rfl
    refine Cd.seq (Cd.seq (Cd.region (Ops.mi rfl rfl rfl (Ops.fld hB6 rfl rfl rfl rfl inferInstance (Ops.ldf_s hB6 rfl rfl rfl rfl rfl (Ops.len rfl rfl (Ops.lss rfl rfl rfl (Ops.n (tQ ?_)))))))))
    refine Cd.cond_p _ rfl (fun h7 => ?_) (fun h7 => ?_)
    ·have hkF : k < F.length := by omega
     have hM := hS6.oldRows hR
     have hri := hM.at_ (i := (i : Int)) (by omega) (by omega)
     have hrk := hM.at_ (i := (k : Int)) (by omega) (by omega)
     have hci := hM.cap_ (i := (i : Int)) (by omega) (by omega)
     have hck := hM.cap_ (i := (k : Int)) (by omega) (by omega)
     have hgi : gl F (i : Int) ∈ F := by rw [gl_mem hiF]; exact List.getElem_mem _
     have hgk : gl F (k : Int) ∈ F := by rw [gl_mem hkF]; exact List.getElem_mem _
     have hnext : (Ins (gl F (i : Int)) (gl F (k : Int)) → gl F (k : Int) = gl F (i : Int)) → ∀ b ∈ F.take (k + 1), Ins (gl F (i : Int)) b → b = gl F (i : Int) := fun h b hb => by
      rw [take_succ_gl hkF] at hb
      rcases List.mem_append.1 hb with hb | hb
      ·exact hT6 b hb
      ·obtain rfl : b = gl F (k : Int) := by simpa using hb
       exact h
     refine Cd.skip (tQ (Cd.seq (Cd.block (Cd.seq ?_))))
     by_cases h8 : (i : Int) = (k : Int)
     ·--dup 3
      refine Cd.draw [.ex (.int .i64 ((i : Int))), .ex (.int .i64 ((k : Int))), .ex (.bool (decide (¬ ((i : Int)) = ((k : Int))))), .ex (.bool (false)), .ex (undef), .ex (undef), .ex (undef), .ex (undef), .ex (undef), .ex (undef), .ex (undef), .ex (undef), .ex (undef), .ex (undef), .ex (undef), .ex (.bool (false))] (by kernel_rfl) (by kernel_rfl) rfl (lx (lx (lx (lx (lx (lx (lx (lx (lx (lx (lx (lx (lx (lx (lx (lx (fun _ h => by cases h))))))))))))))))) ⟨?_, ?_, ?_, ?_, ?_, ?_, ?_, ?_, ?_, ?_, ?_, ?_, ?_, ?_, ?_, ?_, trivial⟩ ?_
      ·intro e1 w1 hb hp hun; refine Ops.mi rfl rfl rfl (Ops.n (d0 (by exact rfl)))
      ·intro e1 w1 hb hp hun; refine Ops.mi rfl rfl rfl (Ops.n (d0 (by exact rfl)))
      ·intro e1 w1 hb hp hun; refine Ops.neq rfl rfl rfl (Ops.n (d0 (by exact rfl)))
      ·intro e1 w1 hb hp hun; refine Ops.mb rfl rfl rfl (Ops.n ?_)
       exact d0 (by exact congrArg Value.bool (decide_eq_false (fun h => h h8)))
      ·intro e1 w1 hb hp hun; refine Ops.k rfl rfl rfl rfl rfl (Ops.n (d0 (by exact rfl)))
      ·intro e1 w1 hb hp hun; refine Ops.k rfl rfl rfl rfl rfl (Ops.n (d0 (by exact rfl)))
      ·intro e1 w1 hb hp hun; refine Ops.k rfl rfl rfl rfl rfl (Ops.n (d0 (by exact rfl)))
      ·intro e1 w1 hb hp hun; refine Ops.k rfl rfl rfl rfl rfl (Ops.n (d0 (by exact rfl)))
      ·intro e1 w1 hb hp hun; refine Ops.k rfl rfl rfl rfl rfl (Ops.n (d0 (by exact rfl)))
      ·intro e1 w1 hb hp hun; refine Ops.k rfl rfl rfl rfl rfl (Ops.n (d0 (by exact rfl)))
      ·intro e1 w1 hb hp hun; refine Ops.k rfl rfl rfl rfl rfl (Ops.n (d0 (by exact rfl)))
      ·intro e1 w1 hb hp hun; refine Ops.k rfl rfl rfl rfl rfl (Ops.n (d0 (by exact rfl)))
      ·intro e1 w1 hb hp hun; refine Ops.k rfl rfl rfl rfl rfl (Ops.n (d0 (by exact rfl)))
      ·intro e1 w1 hb hp hun; refine Ops.k rfl rfl rfl rfl rfl (Ops.n (d0 (by exact rfl)))
      ·intro e1 w1 hb hp hun; refine Ops.k rfl rfl rfl rfl rfl (Ops.n (d0 (by exact rfl)))
      ·intro e1 w1 hb hp hun; refine Ops.pick_f rfl rfl rfl (Ops.n (d0 (by exact rfl)))
      intro u w7 hb _
      refine tQ (Cd.cond_f rfl (Cd.skip (blockQ_n (tQ (Cd.region (Ops.mi rfl rfl rfl (Ops.add rfl rfl rfl (by omega) (Ops.mi rfl rfl rfl (Ops.n ?_)))))))))
      refine tQ ?_
      exact ⟨k + 1, by show F.length - (k + 1) < F.length - k; omega, ⟨rfl, rfl, rfl, trivial⟩, by omega, hnext (fun _ => by rw [h8]), hS6.later hb⟩
     by_cases h9 : Ins (gl F (i : Int)) (gl F (k : Int))
     ·refine Cd.draw [.ex (.int .i64 ((i : Int))), .ex (.int .i64 ((k : Int))), .ex (.bool (decide (¬ ((i : Int)) = ((k : Int))))), .ex (.bool (true)), .ex (.pointer (ptrAt (Ab) 1)), .ex (.slice (A) (n) (c)), .ex (.int .i64 ((i : Int))), .ex (.pointer (ptrAt (A) ((i : Int)).toNat)), .ex (.slice ((rg (rs) ((i : Int))).a) ((rg (rs) ((i : Int))).n) ((rg (rs) ((i : Int))).c)), .ex (.pointer (ptrAt (Ab) 1)), .ex (.slice (A) (n) (c)), .ex (.int .i64 ((k : Int))), .ex (.pointer (ptrAt (A) ((k : Int)).toNat)), .ex (.slice ((rg (rs) ((k : Int))).a) ((rg (rs) ((k : Int))).n) ((rg (rs) ((k : Int))).c)), .ex (.bool (decide (Ins (gl F (i : Int)) (gl F (k : Int))))), .ex (.bool (true))] (by kernel_rfl) (by kernel_rfl) rfl (lx (lx (lx (lx (lx (lx (lx (lx (lx (lx (lx (lx (lx (lx (lx (lx (fun _ h => by cases h))))))))))))))))) ⟨?_, ?_, ?_, ?_, ?_, ?_, ?_, ?_, ?_, ?_, ?_, ?_, ?_, ?_, ?_, ?_, trivial⟩ ?_
      ·intro e1 w1 hb hp hun; refine Ops.mi rfl rfl rfl (Ops.n (d0 (by exact rfl)))
      ·intro e1 w1 hb hp hun; refine Ops.mi rfl rfl rfl (Ops.n (d0 (by exact rfl)))
      ·intro e1 w1 hb hp hun; refine Ops.neq rfl rfl rfl (Ops.n (d0 (by exact rfl)))
      ·intro e1 w1 hb hp hun; refine Ops.mb rfl rfl rfl (Ops.n ?_)
       exact d0 (by exact congrArg Value.bool (decide_eq_true h8))
      ·intro e1 w1 hb hp hun; refine Ops.g rfl rfl rfl (Ops.fld (hB6.below hb) rfl rfl rfl rfl inferInstance (Ops.n (d0 (by exact rfl))))
      ·intro e1 w1 hb hp hun; refine Ops.g rfl rfl rfl (Ops.ldf_s (hB6.below hb) rfl rfl rfl rfl rfl (Ops.n (d0 (by exact rfl))))
      ·intro e1 w1 hb hp hun; refine Ops.g rfl rfl rfl (Ops.mi rfl rfl rfl (Ops.n (d0 (by exact rfl))))
      ·intro e1 w1 hb hp hun; refine Ops.g rfl rfl rfl (Ops.idx (hM.top.later hb).2 rfl rfl rfl (by omega) (by omega) (Ops.n (d0 (by exact rfl))))
      ·intro e1 w1 hb hp hun; refine Ops.g rfl rfl rfl (Ops.ld_sl (hM.top.later hb) rfl (by omega) rfl rfl (Ops.n (d0 (by exact rfl))))
      ·intro e1 w1 hb hp hun; refine Ops.g rfl rfl rfl (Ops.fld (hB6.below hb) rfl rfl rfl rfl inferInstance (Ops.n (d0 (by exact rfl))))
      ·intro e1 w1 hb hp hun; refine Ops.g rfl rfl rfl (Ops.ldf_s (hB6.below hb) rfl rfl rfl rfl rfl (Ops.n (d0 (by exact rfl))))
      ·intro e1 w1 hb hp hun; refine Ops.g rfl rfl rfl (Ops.mi rfl rfl rfl (Ops.n (d0 (by exact rfl))))
      ·intro e1 w1 hb hp hun; refine Ops.g rfl rfl rfl (Ops.idx (hM.top.later hb).2 rfl rfl rfl (by omega) (by omega) (Ops.n (d0 (by exact rfl))))
      ·intro e1 w1 hb hp hun; refine Ops.g rfl rfl rfl (Ops.ld_sl (hM.top.later hb) rfl (by omega) rfl rfl (Ops.n (d0 (by exact rfl))))
      ·intro e1 w1 hb hp hun; refine Ops.g rfl rfl rfl (Ops.call (l17Within_c _ _ _ _ _ _ _ _ _ (hri.later hb) (hrk.later hb) (by omega) (by omega)) rfl rfl rfl ?_)
       rintro _ w2 ⟨rfl, hst⟩
       subst hst
       refine Ops.n (d0 (by exact rfl))
      ·intro e1 w1 hb hp hun; refine Ops.pick_t rfl rfl rfl (Ops.n ?_)
       exact d0 (by exact congrArg Value.bool (decide_eq_true h9))
      intro u w7 hb _
      refine tQ (Cd.cond_t rfl (Cd.seq (Cd.region (Ops.mb rfl rfl rfl (Ops.n (tQ (Cd.ret (blockQ_r (thenQ_r ?_)))))))))
      refine thenQ_r (blockQ_r (blockQ_r (thenQ_r (thenQ_r (blockQ_r (thenQ_r (ret1_b rfl ?_)))))))
      have hno : ¬ Cplx m F := fun h => by
       have h1 := h.top _ hgi _ hgk h9
       rw [gl_mem hiF, gl_mem hkF] at h1
       exact h8 (by rw [(List.getElem_inj hord.nodup).1 h1])
      exact ⟨by rw [decide_eq_false hno], hS6.none.later hb⟩
     ·refine Cd.draw [.ex (.int .i64 ((i : Int))), .ex (.int .i64 ((k : Int))), .ex (.bool (decide (¬ ((i : Int)) = ((k : Int))))), .ex (.bool (true)), .ex (.pointer (ptrAt (Ab) 1)), .ex (.slice (A) (n) (c)), .ex (.int .i64 ((i : Int))), .ex (.pointer (ptrAt (A) ((i : Int)).toNat)), .ex (.slice ((rg (rs) ((i : Int))).a) ((rg (rs) ((i : Int))).n) ((rg (rs) ((i : Int))).c)), .ex (.pointer (ptrAt (Ab) 1)), .ex (.slice (A) (n) (c)), .ex (.int .i64 ((k : Int))), .ex (.pointer (ptrAt (A) ((k : Int)).toNat)), .ex (.slice ((rg (rs) ((k : Int))).a) ((rg (rs) ((k : Int))).n) ((rg (rs) ((k : Int))).c)), .ex (.bool (decide (Ins (gl F (i : Int)) (gl F (k : Int))))), .ex (.bool (false))] (by kernel_rfl) (by kernel_rfl) rfl (lx (lx (lx (lx (lx (lx (lx (lx (lx (lx (lx (lx (lx (lx (lx (lx (fun _ h => by cases h))))))))))))))))) ⟨?_, ?_, ?_, ?_, ?_, ?_, ?_, ?_, ?_, ?_, ?_, ?_, ?_, ?_, ?_, ?_, trivial⟩ ?_
      ·intro e1 w1 hb hp hun; refine Ops.mi rfl rfl rfl (Ops.n (d0 (by exact rfl)))
      ·intro e1 w1 hb hp hun; refine Ops.mi rfl rfl rfl (Ops.n (d0 (by exact rfl)))
      ·intro e1 w1 hb hp hun; refine Ops.neq rfl rfl rfl (Ops.n (d0 (by exact rfl)))
      ·intro e1 w1 hb hp hun; refine Ops.mb rfl rfl rfl (Ops.n ?_)
       exact d0 (by exact congrArg Value.bool (decide_eq_true h8))
      ·intro e1 w1 hb hp hun; refine Ops.g rfl rfl rfl (Ops.fld (hB6.below hb) rfl rfl rfl rfl inferInstance (Ops.n (d0 (by exact rfl))))
      ·intro e1 w1 hb hp hun; refine Ops.g rfl rfl rfl (Ops.ldf_s (hB6.below hb) rfl rfl rfl rfl rfl (Ops.n (d0 (by exact rfl))))
      ·intro e1 w1 hb hp hun; refine Ops.g rfl rfl rfl (Ops.mi rfl rfl rfl (Ops.n (d0 (by exact rfl))))
      ·intro e1 w1 hb hp hun; refine Ops.g rfl rfl rfl (Ops.idx (hM.top.later hb).2 rfl rfl rfl (by omega) (by omega) (Ops.n (d0 (by exact rfl))))
      ·intro e1 w1 hb hp hun; refine Ops.g rfl rfl rfl (Ops.ld_sl (hM.top.later hb) rfl (by omega) rfl rfl (Ops.n (d0 (by exact rfl))))
      ·intro e1 w1 hb hp hun; refine Ops.g rfl rfl rfl (Ops.fld (hB6.below hb) rfl rfl rfl rfl inferInstance (Ops.n (d0 (by exact rfl))))
      ·intro e1 w1 hb hp hun; refine Ops.g rfl rfl rfl (Ops.ldf_s (hB6.below hb) rfl rfl rfl rfl rfl (Ops.n (d0 (by exact rfl))))
      ·intro e1 w1 hb hp hun; refine Ops.g rfl rfl rfl (Ops.mi rfl rfl rfl (Ops.n (d0 (by exact rfl))))
      ·intro e1 w1 hb hp hun; refine Ops.g rfl rfl rfl (Ops.idx (hM.top.later hb).2 rfl rfl rfl (by omega) (by omega) (Ops.n (d0 (by exact rfl))))
      ·intro e1 w1 hb hp hun; refine Ops.g rfl rfl rfl (Ops.ld_sl (hM.top.later hb) rfl (by omega) rfl rfl (Ops.n (d0 (by exact rfl))))
      ·intro e1 w1 hb hp hun; refine Ops.g rfl rfl rfl (Ops.call (l17Within_c _ _ _ _ _ _ _ _ _ (hri.later hb) (hrk.later hb) (by omega) (by omega)) rfl rfl rfl ?_)
       rintro _ w2 ⟨rfl, hst⟩
       subst hst
       refine Ops.n (d0 (by exact rfl))
      ·intro e1 w1 hb hp hun; refine Ops.pick_t rfl rfl rfl (Ops.n ?_)
       exact d0 (by exact congrArg Value.bool (decide_eq_false h9))
      intro u w7 hb _
      refine tQ (Cd.cond_f rfl (Cd.skip (blockQ_n (tQ (Cd.region (Ops.mi rfl rfl rfl (Ops.add rfl rfl rfl (by omega) (Ops.mi rfl rfl rfl (Ops.n ?_)))))))))
      refine tQ ?_
      exact ⟨k + 1, by show F.length - (k + 1) < F.length - k; omega, ⟨rfl, rfl, rfl, trivial⟩, by omega, hnext (fun h => absurd h h9), hS6.later hb⟩
    ·have hkF : k = F.length := by omega
     subst hkF
     rw [List.take_length] at hT6
     refine Cd.exit (thenQ_x (thenQ_x (blockQ_x (blockQ_n (tQ (Cd.region (Ops.mi rfl rfl rfl (Ops.add rfl rfl rfl (by omega) (Ops.mi rfl rfl rfl ?_)))))))))
     refine Ops.n (tQ ?_)
     refine ⟨i + 1, by show F.length - (i + 1) < F.length - i; omega, ⟨rfl, rfl, trivial⟩, by omega, ?_, hS6⟩
     rw [take_succ_gl hiF]
     intro a ha
     rcases List.mem_append.1 ha with ha | ha
     ·exact hT5 a ha
     ·obtain rfl : a = gl F (i : Int) := by simpa using ha
      exact hT6
   ·rw [List.take_of_length_le (by omega)] at hT5
    refine Cd.exit (thenQ_x (thenQ_x (blockQ_x (tQ (Cd.seq (Cd.region (Ops.mb rfl rfl rfl (Ops.n (tQ ?_)))))))))
    refine Cd.ret (ret1_b rfl ?_)
    exact ⟨by rw [decide_eq_true (⟨⟨by omega, by omega⟩, by omega, hall, hord, fun x h0 h1 => hv2 x h0 (by omega), hT5⟩ : Cplx m F)], hS5.none⟩
/-
 Parts of a list and faces with so many elements, walked in the reference.
-/
def AnsL (L : List (List Int)) (w : World) (v : Value) (w' : World) : Prop := ∃ A c rs, v = .slice A L.length c ∧ rs.length = L.length ∧ St w w' (mat 28 2 A L.length c rs L ++ [])
theorem rowsCk_put {t : TypeId} {rs : List SlV} {xss : List (List Int)} (hl : rs.length = xss.length) (s : SlV) {x : List Int} (hx : ¬ x ∈ xss) : (rowsCk t (putR rs xss s x) (putL xss x)).Perm (CkI t s.a s.n s.c x :: rowsCk t rs xss) := by
 unfold putR putL
 rw [if_neg hx, if_neg hx, rowsCk_append (by simp [hl])]
 have e : rowsCk t rs xss = rowsCk t (rs.take (atL x xss)) (xss.take (atL x xss)) ++ rowsCk t (rs.drop (atL x xss)) (xss.drop (atL x xss)) := by
  rw [← rowsCk_append (by simp [hl]), List.take_append_drop, List.take_append_drop]
 rw [e]
 exact List.perm_middle
theorem putR_len {rs : List SlV} {xss : List (List Int)} (hl : rs.length = xss.length) (s : SlV) (x : List Int) : (putR rs xss s x).length = (putL xss x).length := by
 unfold putR putL
 split
 ·exact hl
 ·simp [hl]
def prP (L : List (List Int)) (xs ch : List Int) (m a : Nat) : List (List Int) := ((ptsP (xs.drop a) m).map (ch ++ ·)).foldl putL L
theorem prP_zero (L : List (List Int)) (xs ch : List Int) (a : Nat) : prP L xs ch 0 a = putL L ch := by
 unfold prP
 have e0 : ptsP (xs.drop a) 0 = [[]] := by cases xs.drop a <;> rfl
 rw [e0]; simp
theorem prP_step {L : List (List Int)} {xs ch : List Int} {m i : Nat} (h : i < xs.length) : prP L xs ch (m + 1) i = prP (prP L xs (ch ++ [gi xs (i : Int)]) m (i + 1)) xs ch (m + 1) (i + 1) := by
 unfold prP
 rw [ptsP_step h, List.map_append, List.foldl_append, List.map_map]
 congr 2
 exact List.map_congr_left fun x _ => by simp
theorem prP_end {L : List (List Int)} {xs ch : List Int} {m i : Nat} (h : xs.length ≤ i) : prP L xs ch (m + 1) i = L := by
 unfold prP
 rw [ptsP_short (by rw [List.length_drop]; omega)]; rfl
theorem prP_SL {L : List (List Int)} (h : SL L) (xs ch : List Int) (m a : Nat) : SL (prP L xs ch m a) := (foldPut_SL _ h).1
theorem prP_len (L : List (List Int)) (xs ch : List Int) (m a : Nat) : (prP L xs ch m a).length ≤ L.length + (ptsP (xs.drop a) m).length := by
 have := foldPut_len ((ptsP (xs.drop a) m).map (ch ++ ·)) L
 rwa [List.length_map] at this
def AnsP (L : List (List Int)) (w0 : World) (ks : List Ck) (w : World) (v : Value) (w' : World) : Prop := ∃ A c rs, v = .slice A L.length c ∧ rs.length = L.length ∧ Below w.heap.size w w' ∧ St w0 w' (mat 28 2 A L.length c rs L ++ ks)
set_option maxHeartbeats 1000000 in
theorem l17Parts_c (xs : List Int) (Ax : Option Addr) (nx cx : Nat) (hnx : nx ≤ 1000000) : ∀ (m : Nat) (A : Option Addr) (c : Nat) (rs : List SlV) (L : List (List Int)) (B : Option Addr) (cB : Nat) (ch : List Int) (k a : Nat) (w0 w : World) (ks : List Ck), St w0 w (mat 28 2 A L.length c rs L ++ (CkI 2 B ch.length cB ch :: ks)) → rs.length = L.length → SL L → L.length + (ptsP (xs.drop a) m).length ≤ 100000000 → RdI w Ax nx xs → ch.length + m = k → a ≤ nx →
    k ≤ 1000000 → Ret Tryz.prog 69 [.slice A L.length c, .slice Ax nx cx, .int .i64 (k : Int), .slice B ch.length cB, .int .i64 (a : Int)] w (AnsP (prP L xs ch m a) w0 ks w) := by
  intro m
  induction m with
  | zero =>
    intro A c rs L B cB ch k a w0 w ks hS hrl hs hN hX hk ha hk2
    have hR : RowsI w A L.length rs L := St.rowsI hS rfl
    have hS2 : St w0 w (CkI 2 B ch.length cB ch :: (mat 28 2 A L.length c rs L ++ ks)) := hS.perm List.perm_middle
    have hcA : L.length ≤ c := (hS.cap 0 rfl).1
    refine Ret.of_cd Tryz.func69 rfl Tryz.ntmps69 rfl (post1 rfl) (Cd.seq (Cd.region (Ops.ms rfl rfl rfl (Ops.n (tQ (Cd.seq (Cd.seq (Cd.region (Ops.ms rfl rfl rfl ?_)))))))))
    refine Ops.len rfl rfl (Ops.mi rfl rfl rfl (Ops.eql rfl rfl rfl (Ops.n (tQ ?_))))
    refine Cd.cond_p _ rfl (fun h1 => ?_) (fun h1 => absurd h1 (by omega))
    refine Cd.seq (Cd.region (Ops.ms rfl rfl rfl (Ops.ms rfl rfl rfl (Ops.call (l17Put_c A _ c rs L B _ cB ch _ hR hcA (hS2.rdI 0 rfl) (by omega) (by omega) hs) rfl rfl rfl ?_))))
    rintro _ w3 ⟨A5, c5, rfl, hc5, hb5, hor⟩
    rw [prP_zero]
    refine Ops.ms rfl rfl rfl (Ops.n (tQ (Cd.ret (thenQ_r (ret1_s rfl ?_)))))
    rcases hor with ⟨rfl, rfl, hx⟩ | ⟨hx, hst⟩
    · have e : putL L ch = L := by unfold putL; rw [if_pos hx]
      rw [e]
      exact ⟨A5, c5, rs, rfl, hrl, hb5, hS2.tail.later hb5⟩
    · refine ⟨A5, c5, putR rs L ⟨B, ch.length, cB⟩ ch, rfl, putR_len hrl _ _, hb5, ?_⟩
      have h1 : St w0 w3 (CkR 28 A5 (putL L ch).length c5 (putR rs L ⟨B, ch.length, cB⟩ ch) :: (CkI 2 B ch.length cB ch :: (rowsCk 2 rs L ++ ks))) := (hS2.call hst).sub (List.Sublist.cons_cons _ (List.Sublist.cons_cons _ (List.sublist_cons_self _ _)))
      exact h1.perm (List.Perm.cons _ ((rowsCk_put hrl ⟨B, ch.length, cB⟩ hx).symm.append_right ks))
  | succ m ih =>
    intro A c rs L B cB ch k a w0 w ks hS hrl hs hN hX hk ha hk2
    have hxl := hX.1
    refine Ret.of_cd Tryz.func69 rfl Tryz.ntmps69 rfl (post1 rfl) (Cd.seq (Cd.region (Ops.ms rfl rfl rfl (Ops.n (tQ (Cd.seq (Cd.seq (Cd.region (Ops.ms rfl rfl rfl ?_)))))))))
    refine Ops.len rfl rfl (Ops.mi rfl rfl rfl (Ops.eql rfl rfl rfl (Ops.n (tQ (Cd.cond_pf rfl (by omega) (Cd.skip (tQ (Cd.seq (Cd.seq ?_)))))))))
    refine Cd.region (Ops.mi rfl rfl rfl (Ops.mi rfl rfl rfl (Ops.n (tQ (Cd.block ?_)))))
    refine Cd.loop (α := Nat × (Option Addr × Nat) × List SlV × List (List Int)) (fun z => [(0, .slice z.2.1.1 z.2.2.2.length z.2.1.2), (1, .slice Ax nx cx), (2, .int .i64 (k : Int)), (3, .slice B ch.length cB), (11, .int .i64 (z.1 : Int))])
      (fun z w' => z.1 ≤ nx ∧ Below w.heap.size w w' ∧ St w0 w' (mat 28 2 z.2.1.1 z.2.2.2.length z.2.1.2 z.2.2.1 z.2.2.2 ++ (CkI 2 B ch.length cB ch :: ks)) ∧ z.2.2.1.length = z.2.2.2.length ∧ SL z.2.2.2 ∧ z.2.2.2.length + (ptsP (xs.drop z.1) (m + 1)).length ≤ 100000000 ∧ prP z.2.2.2 xs ch (m + 1) z.1 = prP L xs ch (m + 1) a) (fun z => nx - z.1) (a, (A, c), rs, L) ⟨rfl, rfl, rfl, rfl, rfl, trivial⟩ ⟨ha, Below.refl _ _, hS, hrl, hs, hN, rfl⟩ ?_
    rintro ⟨i, ⟨A1, c1⟩, rs1, L1⟩ e wB ⟨hi, hb1, hS1, hrl1, hs1, hN1, hP1⟩
    dsimp only at hi hb1 hS1 hrl1 hs1 hN1 hP1 ⊢
    refine Cd.seq (Cd.seq (Cd.region (Ops.mi rfl rfl rfl (Ops.ms rfl rfl rfl (Ops.len rfl rfl (Ops.lss rfl rfl rfl (Ops.n (tQ ?_))))))))
    refine Cd.cond_p _ rfl (fun h2 => ?_) (fun h2 => ?_)
    · have hin : i < xs.length := by omega
      have hX1 := hX.later hb1
      have hB1 : RdI wB B ch.length ch := (hS1.perm List.perm_middle).rdI 0 rfl
      have hst := ptsP_step (k := m) hin
      have hsl : (ptsP (xs.drop i) (m + 1)).length = (ptsP (xs.drop (i + 1)) m).length + (ptsP (xs.drop (i + 1)) (m + 1)).length := by rw [hst, List.length_append, List.length_map]
      have hlen2 := prP_len L1 xs (ch ++ [gi xs (i : Int)]) m (i + 1)
      have hcl : (ch ++ [gi xs (i : Int)]).length = ch.length + 1 := by simp
      have hih : ∀ (A5 : Option Addr) (c5 : Nat) (w2 : World), St wB w2 [CkI 2 A5 (ch.length + 1) c5 (ch ++ [gi xs (i : Int)])] → Ret Tryz.prog 69 [.slice A1 L1.length c1, .slice Ax nx cx, .int .i64 (k : Int), .slice A5 (ch.length + 1) c5, .int .i64 ((i + 1 : Nat) : Int)] w2 (AnsP (prP L1 xs (ch ++ [gi xs (i : Int)]) m (i + 1)) w0 (CkI 2 B ch.length cB ch :: ks) w2) := fun A5 c5 w2 h1 => by
        have h2 : St w0 w2 (mat 28 2 A1 L1.length c1 rs1 L1 ++ (CkI 2 A5 (ch ++ [gi xs (i : Int)]).length c5 (ch ++ [gi xs (i : Int)]) :: (CkI 2 B ch.length cB ch :: ks))) := by
          rw [hcl]
          exact (show St w0 w2 (CkI 2 A5 (ch.length + 1) c5 (ch ++ [gi xs (i : Int)]) :: (mat 28 2 A1 L1.length c1 rs1 L1 ++ (CkI 2 B ch.length cB ch :: ks))) from hS1.call h1).perm List.perm_middle.symm
        have := ih A1 c1 rs1 L1 A5 c5 (ch ++ [gi xs (i : Int)]) k (i + 1) w0 w2 _ h2 hrl1 hs1 (by omega) (hX1.later h1.below) (by rw [hcl]; omega) (by omega) hk2
        rwa [hcl] at this
      rw [prP_step hin] at hP1
      generalize hL2 : prP L1 xs (ch ++ [gi xs (i : Int)]) m (i + 1) = L2 at *
      have hs2 : SL L2 := by rw [← hL2]; exact prP_SL hs1 _ _ _ _
      refine Cd.skip (tQ (Cd.seq (Cd.block ?_)))
      refine Cd.drawN [10] [.ex (.slice (A1) (L1.length) (c1)), .ex (.slice (Ax) (nx) (cx)), .ex (.int .i64 ((k : Int))), .ex (.slice (B) (ch.length) (cB)), .pr (fun v w' => ∃ A4 c4, v = .slice A4 ch.length c4 ∧ St wB w' [CkI 2 A4 ch.length c4 ch]), .ex (.slice (Ax) (nx) (cx)), .ex (.int .i64 ((i : Int))), .ex (.pointer (ptrAt (Ax) ((i : Int)).toNat)), .ex (.int .i64 (gi (xs) ((i : Int)))), .pr (fun v w' => ∃ A9, v = .slice A9 1 1 ∧ RdI w' A9 1 [gi xs (i : Int)]), .pr (fun v w' => ∃ A5 c5, v = .slice A5 (ch.length + 1) c5 ∧ St wB w' [CkI 2 A5 (ch.length + 1) c5 (ch ++ [gi xs (i : Int)])]), .ex (.int .i64 ((i : Int))), .ex (.int .i64 (((i : Int)) + ((1 : Int)))), .pr (fun v w' => ∃ A6 c6 rs6, v = .slice A6 L2.length c6 ∧ rs6.length = L2.length ∧ Below wB.heap.size wB w' ∧ St w0 w' (mat 28 2 A6 L2.length c6 rs6 L2 ++ (CkI 2 B ch.length cB ch :: ks))), .pr (fun v w' => ∃ A6 c6 rs6, v = .slice A6 L2.length c6 ∧ rs6.length = L2.length ∧ Below wB.heap.size wB w' ∧ St w0 w' (mat 28 2 A6 L2.length c6 rs6 L2 ++ (CkI 2 B ch.length cB ch :: ks)))] (by kernel_rfl) (by kernel_rfl) (lx (lx (lx (lx (List.forall_mem_cons.2 ⟨Yd.lasts_pr (fun v w w' h hb => by obtain ⟨A4, c4, hv, hT⟩ := h; exact ⟨A4, c4, hv, hT.later hb⟩), (lx (lx (lx (lx (List.forall_mem_cons.2 ⟨Yd.lasts_pr (fun v w w' h hb => by obtain ⟨A9, hv, hT⟩ := h; exact ⟨A9, hv, hT.later hb⟩), (List.forall_mem_cons.2 ⟨Yd.lasts_pr (fun v w w' h hb => by obtain ⟨A5, c5, hv, hT⟩ := h; exact ⟨A5, c5, hv, hT.later hb⟩), (lx (lx (List.forall_mem_cons.2 ⟨Yd.lasts_pr (fun v w w' h hb => by obtain ⟨A6, c6, rs6, hv, hr6, hb6, hS6⟩ := h; exact ⟨A6, c6, rs6, hv, hr6, hb6.trans (hb.mono hb6.size), hS6.later hb⟩), (List.forall_mem_cons.2 ⟨Yd.lasts_pr (fun v w w' h hb => by obtain ⟨A6, c6, rs6, hv, hr6, hb6, hS6⟩ := h; exact ⟨A6, c6, rs6, hv, hr6, hb6.trans (hb.mono hb6.size), hS6.later hb⟩), (fun _ h => by cases h)⟩)⟩)))⟩)⟩)))))⟩))))) ⟨?_, ?_, ?_, ?_, ?_, ?_, ?_, ?_, ?_, ?_, ?_, ?_, ?_, ?_, ?_, trivial⟩ ?_
      · intro e1 w1 cc hlo hhi hb0 hp hun hq
        show Ops _ _ _ _ _ _ _
        refine Ops.ms rfl (by exact hun 14 _ rfl (by kernel_rfl)) rfl (Ops.n (n0 rfl (by exact rfl)))
      · intro e1 w1 cc hlo hhi hb0 hp hun hq
        show Ops _ _ _ _ _ _ _
        refine Ops.ms rfl rfl rfl (Ops.n (n0 rfl (by exact rfl)))
      · intro e1 w1 cc hlo hhi hb0 hp hun hq
        show Ops _ _ _ _ _ _ _
        refine Ops.mi rfl rfl rfl (Ops.n (n0 rfl (by exact rfl)))
      · intro e1 w1 cc hlo hhi hb0 hp hun hq
        show Ops _ _ _ _ _ _ _
        refine Ops.ms rfl rfl rfl (Ops.n (n0 rfl (by exact rfl)))
      · intro e1 w1 cc hlo hhi hb0 hp hun hq
        show Ops _ _ _ _ _ _ _
        obtain rfl := cc_of hlo hhi (b := 0) (by kernel_rfl) (by kernel_rfl)
        have hb := hb0 rfl
        refine Ops.call (l01Own_c B _ cB ch _ (hB1.later hb) (by omega)) rfl rfl rfl ?_
        rintro _ w2 ⟨A4, c4, rfl, hst⟩
        refine Ops.n ?_
        exact AfterN.dn rfl hst.below ⟨A4, c4, rfl, ((St.refl wB).later hb).call hst⟩
      · intro e1 w1 cc hlo hhi hb0 hp hun hq
        show Ops _ _ _ _ _ _ _
        refine Ops.ms rfl rfl rfl (Ops.n (n0 rfl (by exact rfl)))
      · intro e1 w1 cc hlo hhi hb0 hp hun hq
        show Ops _ _ _ _ _ _ _
        refine Ops.mi rfl rfl rfl (Ops.n (n0 rfl (by exact rfl)))
      · intro e1 w1 cc hlo hhi hb0 hp hun hq
        show Ops _ _ _ _ _ _ _
        obtain rfl := cc_of hlo hhi (b := 0) (by kernel_rfl) (by kernel_rfl)
        have hb := hb0 rfl
        refine Ops.idx (hX1.later hb).2 rfl rfl rfl (by omega) (by omega) (Ops.n (n0 rfl (by exact rfl)))
      · intro e1 w1 cc hlo hhi hb0 hp hun hq
        show Ops _ _ _ _ _ _ _
        obtain rfl := cc_of hlo hhi (b := 0) (by kernel_rfl) (by kernel_rfl)
        have hb := hb0 rfl
        refine Ops.ld_int (hX1.later hb) rfl (by omega) rfl rfl (Ops.n (n0 rfl (by exact rfl)))
      · intro e1 w1 cc hlo hhi hb0 hp hun hq
        show Ops _ _ _ _ _ _ _
        refine Ops.bs1I (St.refl _) rfl rfl rfl ?_
        intro A9 w9 hst
        refine Ops.n ?_
        exact AfterN.dn rfl hst.below ⟨A9, rfl, hst.rdI 0 rfl⟩
      · intro e1 w1 cc hlo hhi hb0 hp hun hq
        show Ops _ _ _ _ _ _ _
        obtain rfl := cc_of hlo hhi (b := 0) (by kernel_rfl) (by kernel_rfl)
        have hb := hb0 rfl
        obtain ⟨A4, c4, h30, hT0⟩ := (hp 4 _ _ (by kernel_rfl) rfl rfl (by kernel_rfl))
        obtain ⟨A9, h35, hT2⟩ := (hp 9 _ _ (by kernel_rfl) rfl rfl (by kernel_rfl))
        refine Ops.appI 0 hT0 rfl hT2 (by exact h30) (by exact h35) rfl (by omega) (by omega) rfl ?_
        intro A5 c5 w10 hT10
        refine Ops.n ?_
        exact AfterT.dn rfl ⟨A5, c5, rfl, hT10⟩
      · intro e1 w1 cc hlo hhi hb0 hp hun hq
        show Ops _ _ _ _ _ _ _
        refine Ops.mi rfl rfl rfl (Ops.n (n0 rfl (by exact rfl)))
      · intro e1 w1 cc hlo hhi hb0 hp hun hq
        show Ops _ _ _ _ _ _ _
        refine Ops.add rfl rfl rfl (by omega) (Ops.n (n0 rfl (by exact rfl)))
      · intro e1 w1 cc hlo hhi hb0 hp hun hq
        show Ops _ _ _ _ _ _ _
        obtain rfl := cc_of hlo hhi (b := 1) (by kernel_rfl) (by kernel_rfl)
        have hph := hp 10 _ _ (by kernel_rfl) rfl rfl (by kernel_rfl)
        obtain ⟨A5, c5, h36, hT⟩ := (hp 10 _ _ (by kernel_rfl) rfl rfl (by kernel_rfl))
        refine Ops.call (hih A5 c5 _ hT) rfl (by exact congrArg (fun v => [Value.slice A1 L1.length c1, .slice Ax nx cx, .int .i64 (k : Int), v, .int .i64 ((i : Int) + 1)]) h36) rfl ?_
        rintro _ w2 ⟨A6, c6, rs6, rfl, hr6, hb6, hS6⟩
        refine Ops.n ?_
        exact AfterN.dn rfl hb6 ⟨A6, c6, rs6, rfl, hr6, hT.below.trans (hb6.mono hT.below.size), hS6⟩
      · intro e1 w1 cc hlo hhi hb0 hp hun hq
        show Ops _ _ _ _ _ _ _
        obtain rfl := cc_of hlo hhi (b := 1) (by kernel_rfl) (by kernel_rfl)
        have hph := hp 10 _ _ (by kernel_rfl) rfl rfl (by kernel_rfl)
        obtain ⟨A6, c6, rs6, h39, hr6, hb6, hS6⟩ := (hp 13 _ _ (by kernel_rfl) rfl rfl (by kernel_rfl))
        refine Ops.ms rfl (by exact h39) rfl (Ops.n ?_)
        exact AfterN.dn rfl (Below.refl _ _) ⟨A6, c6, rs6, rfl, hr6, hb6, hS6⟩
      intro u w3 _ hu
      obtain ⟨A6, c6, rs6, hv, hr6, hb6, hS6⟩ := hu 14 _ rfl (by kernel_rfl)
      refine blockQ_n (tQ (Cd.region (Ops.mi rfl rfl rfl (Ops.add rfl rfl rfl (by omega) (Ops.mi rfl rfl rfl (Ops.n (tQ ?_)))))))
      exact ⟨(i + 1, (A6, c6), rs6, L2), by show nx - (i + 1) < nx - i; omega, ⟨hv, rfl, rfl, rfl, rfl, trivial⟩, by show i + 1 ≤ nx; omega, hb1.trans (hb6.mono hb1.size), hS6, hr6, hs2, by show L2.length + (ptsP (xs.drop (i + 1)) (m + 1)).length ≤ _; omega, hP1⟩
    · rw [prP_end (by omega)] at hP1
      rw [← hP1]
      refine Cd.exit (thenQ_x (thenQ_x (blockQ_x (tQ (Cd.seq (Cd.region (Ops.ms rfl rfl rfl (Ops.ms rfl rfl rfl (Ops.n ?_)))))))))
      refine tQ (Cd.ret (ret1_s rfl ?_))
      exact ⟨A1, c1, rs1, rfl, hrl1, hb1, hS1.sub ((List.Sublist.refl _).append (List.sublist_cons_self _ _))⟩
theorem faP_step {F : List (List Int)} {k i : Nat} (hk : k ≠ 0) (h : i < F.length) : (faL (F.take (i + 1)) k).foldl putL [] = prP ((faL (F.take i) k).foldl putL []) (gl F (i : Int)) [] k 0 := by
 unfold faL prP
 rw [if_neg hk, if_neg hk, take_succ_gl h, List.flatMap_append, List.foldl_append]
 simp
theorem l17Faces_c (V : Int) (A : Option Addr) (n c : Nat) (rs : List SlV) (F : List (List Int)) (k : Nat) (w : World) (hR : RowsI w A n rs F) (hn : n ≤ 1000) (h6 : ∀ f ∈ F, f.length ≤ 6) (hk : k ≤ 1000) :
    Ret Tryz.prog 32 [.agg #[.int .i64 V, .slice A n c], .int .i64 (k : Int)] w (AnsL (fcs F k) w) := by
  have hFl := hR.len
  refine Ret.of_cd Tryz.func32 rfl Tryz.ntmps32 rfl (post1 rfl) (Cd.seq (Cd.region (Ops.box2 (St.refl w) rfl rfl ?_)))
  intro Ab w1 hS1
  refine Ops.ms rfl rfl rfl (Ops.n (tQ (Cd.seq (Cd.region (Ops.bs0 hS1 rfl ?_)))))
  intro A5 w2 hS2
  have hS2 : St w w2 [CkR 28 A5 0 0 [], cxB Ab V A n c] := hS2
  refine Ops.ms rfl rfl rfl (Ops.n (tQ (Cd.seq (Cd.seq (Cd.region (Ops.mi rfl rfl rfl (Ops.eql rfl rfl rfl (Ops.n (tQ ?_)))))))))
  refine Cd.cond_p _ rfl (fun h1 => ?_) (fun h1 => ?_)
  · have hk0 : k = 0 := by omega
    subst hk0
    rw [fcs_zero]
    refine Cd.seq (Cd.region (Ops.bs0 hS2 rfl ?_))
    intro A6 w3 hS3
    refine Ops.bs1R hS3 rfl rfl rfl ?_
    intro A7 w4 hS4
    have hS4 : St w w4 [CkR 28 A7 1 1 [⟨A6, 0, 0⟩], CkI 2 A6 0 0 [], CkR 28 A5 0 0 [], cxB Ab V A n c] := hS4
    refine Ops.ms rfl rfl rfl (Ops.n (tQ (Cd.ret (thenQ_r (ret1_s rfl ?_)))))
    exact ⟨A7, 1, [⟨A6, 0, 0⟩], rfl, rfl, hS4.sub (List.Sublist.cons_cons _ (List.Sublist.cons_cons _ (List.nil_sublist _)))⟩
  · have hk0 : k ≠ 0 := by omega
    have hB2 : Rd w2 Ab 2 (fun j => [Value.int .i64 V, .slice A n c].getD j undef) := hS2.rd 1 rfl
    refine Cd.skip (tQ (Cd.seq (Cd.seq (Cd.region (Ops.mi rfl rfl rfl (Ops.n (tQ (Cd.block ?_))))))))
    refine Cd.loop (α := Nat × (Option Addr × Nat) × List SlV × List (List Int)) (fun z => [(1, .int .i64 (k : Int)), (2, .pointer Ab), (5, .slice z.2.1.1 z.2.2.2.length z.2.1.2), (6, .int .i64 (z.1 : Int))])
      (fun z w' => z.1 ≤ n ∧ St w w' (mat 28 2 z.2.1.1 z.2.2.2.length z.2.1.2 z.2.2.1 z.2.2.2 ++ [cxB Ab V A n c]) ∧ z.2.2.1.length = z.2.2.2.length ∧ SL z.2.2.2 ∧ z.2.2.2 = (faL (F.take z.1) k).foldl putL []) (fun z => n - z.1) (0, (A5, 0), [], []) ⟨rfl, rfl, rfl, rfl, trivial⟩ ⟨Nat.zero_le _, hS2, rfl, by simp [SL], by show [] = (faL (F.take 0) k).foldl putL []; unfold faL; rw [if_neg hk0]; rfl⟩ ?_
    rintro ⟨i, ⟨A1, c1⟩, rs1, L1⟩ e w3 ⟨hi, hS3, hrl1, hs1, hL1⟩
    dsimp only at hi hS3 hrl1 hs1 hL1 ⊢
    have hB3 := (hS3.perm List.perm_append_comm).rd 0 rfl
    refine Cd.seq (Cd.seq (Cd.region (Ops.mi rfl rfl rfl (Ops.fld hB3 rfl rfl rfl rfl inferInstance (Ops.ldf_s hB3 rfl rfl rfl rfl rfl (Ops.len rfl rfl (Ops.lss rfl rfl rfl (Ops.n (tQ ?_)))))))))
    refine Cd.cond_p _ rfl (fun h3 => ?_) (fun h3 => ?_)
    · have hiF : i < F.length := by omega
      have hM := hS3.oldRows hR
      have hrow := hM.at_ (i := (i : Int)) (by omega) (by omega)
      have hrl := hrow.1
      have hfl := h6 (gl F (i : Int)) (by rw [gl_mem hiF]; exact List.getElem_mem _)
      have hstep := faP_step hk0 hiF
      rw [← hL1] at hstep
      have hpn := ptsP_small (l := (gl F (i : Int)).drop 0) k (by simpa using hfl)
      have hnum := faL_num (F := F.take i) k fun f hf => h6 f (List.mem_of_mem_take hf)
      have hfl2 := foldPut_len (faL (F.take i) k) []
      rw [← hL1] at hfl2
      have htl : (F.take i).length ≤ 1000 := by simp; omega
      have hl0 : ([] : List (List Int)).length = 0 := rfl
      refine Cd.skip (tQ (Cd.seq (Cd.block (Cd.region (Ops.ms rfl rfl rfl (Ops.fld hB3 rfl rfl rfl rfl inferInstance (Ops.ldf_s hB3 rfl rfl rfl rfl rfl (Ops.mi rfl rfl rfl (Ops.idx hM.top.2 rfl rfl rfl (by omega) (by omega) ?_)))))))))
      refine Ops.ld_sl hM.top rfl (by omega) rfl rfl (Ops.mi rfl rfl rfl (Ops.bs0 (St.refl w3) rfl ?_))
      intro A8 w4 hT4
      have hT4 : St w3 w4 [CkI 2 A8 ([] : List Int).length 0 []] := hT4
      have hS4 := (hS3.call hT4).perm (List.perm_middle (l₁ := mat 28 2 A1 L1.length c1 rs1 L1)).symm
      refine Ops.call (l17Parts_c (gl F (i : Int)) _ _ _ (by omega) k A1 c1 rs1 L1 A8 0 [] k 0 w w4 [cxB Ab V A n c] hS4 hrl1 hs1 (by omega) (hrow.later hT4.below) (by simp) (by omega) (by omega)) rfl rfl rfl ?_
      rintro _ w5 ⟨A6, c6, rs6, rfl, hr6, hb6, hS6⟩
      rw [← hstep] at hS6 hr6 ⊢
      refine Ops.ms rfl rfl rfl (Ops.n (blockQ_n (tQ (Cd.region (Ops.mi rfl rfl rfl (Ops.add rfl rfl rfl (by omega) (Ops.mi rfl rfl rfl (Ops.n (tQ ?_)))))))))
      exact ⟨(i + 1, (A6, c6), rs6, _), by show n - (i + 1) < n - i; omega, ⟨rfl, rfl, rfl, rfl, trivial⟩, by show i + 1 ≤ n; omega, hS6, hr6, (foldPut_SL _ (by simp [SL])).1, rfl⟩
    · rw [List.take_of_length_le (by omega)] at hL1
      have hL2 : L1 = fcs F k := hL1
      subst hL2
      refine Cd.exit (thenQ_x (thenQ_x (blockQ_x (tQ (Cd.seq (Cd.region (Ops.ms rfl rfl rfl (Ops.ms rfl rfl rfl (Ops.n ?_)))))))))
      refine tQ (Cd.ret (ret1_s rfl ?_))
      exact ⟨A1, c1, rs1, rfl, hrl1, hS3.sub ((List.Sublist.refl _).append (List.nil_sublist _))⟩
/-
 The program's test of a complex, walked. Conditions: the library's table of powers of ten holds what the program's text lays there.
-/
theorem no_false {m : Nat} {F : List (List Int)} (h : ∀ l ∈ F, ∀ x ∈ l, 0 ≤ x ∧ x < (m : Int)) : ¬ (false ∈ pnt (mk0 m) F.flatten) ↔ ∀ x : Int, 0 ≤ x → x < (m : Int) → ∃ l ∈ F, x ∈ l := by
 have hl := pnt0_len m F.flatten
 have hg := fun (x : Int) (h0 : 0 ≤ x) => pnt_all h x h0
 constructor
 ·intro hn x h0 h1
  apply Classical.byContradiction
  intro hc
  have h2 : gb (pnt (mk0 m) F.flatten) x = false := (hg x h0).trans (decide_eq_false hc)
  apply hn
  have h3 : x.toNat < (pnt (mk0 m) F.flatten).length := by omega
  rw [← h2, gb, List.getD_eq_getElem?_getD, List.getElem?_eq_getElem h3]
  exact List.getElem_mem _
 ·intro ha hm
  obtain ⟨k, hk, e⟩ := List.mem_iff_getElem.1 hm
  have h2 := hg (k : Int) (by omega)
  rw [decide_eq_true (ha (k : Int) (by omega) (by omega))] at h2
  have h3 : gb (pnt (mk0 m) F.flatten) (k : Int) = (pnt (mk0 m) F.flatten)[k] := by simp [gb, List.getD_eq_getElem?_getD, hk]
  have h4 : gb (pnt (mk0 m) F.flatten) (k : Int) = true := h2
  rw [h3, e] at h4
  cases h4
set_option maxHeartbeats 1000000 in
theorem isComplex_c (V : Int) (A : Option Addr) (n c : Nat) (rs : List SlV) (F : List (List Int)) (w : World) (hT : Tab w) (hR : RowsI w A n rs F) (hn : n ≤ 9223372036854775807) :
  Ret Tryz.prog 28 [.agg #[.int .i64 V, .slice A n c]] w (fun v w' => v = .bool (decide (Cplx V F)) ∧ St w w' []) := by
 have hFl := hR.len
 refine Ret.of_cd Tryz.func28 rfl Tryz.ntmps28 rfl (post1 rfl) (Cd.seq (Cd.region (Ops.box2 (St.refl w) rfl rfl ?_)))
 intro Ab w1 hS
 refine Ops.mb rfl rfl rfl (Ops.n (tQ (Cd.seq (Cd.seq (Cd.region (Ops.fld (hS.rd 0 rfl) rfl rfl rfl rfl inferInstance (Ops.ldf_i (hS.rd 0 rfl) rfl rfl rfl rfl rfl (Ops.call (within_c _ _ _ _) rfl rfl rfl ?_))))))))
 rintro _ _ ⟨rfl, rfl⟩
 first | refine Ops.not_p rfl rfl ?_ | refine Ops.not rfl rfl ?_
 refine Ops.mb rfl rfl rfl ?_
 refine Ops.split_p 12 rfl (fun h1 => ?_) (fun h1 => ?_)
 ·refine Ops.k rfl rfl rfl rfl rfl (Ops.k rfl rfl rfl rfl rfl (Ops.k rfl rfl rfl rfl rfl (Ops.k rfl rfl rfl rfl rfl (Ops.pick_t rfl rfl rfl (Ops.n (tQ (Cd.cond_t rfl (Cd.seq (Cd.region ?_)))))))))
  refine Ops.mb rfl rfl rfl (Ops.n (tQ (Cd.ret (thenQ_r (ret1_b rfl ?_)))))
  exact ⟨by rw [decide_eq_false (fun h : Cplx V F => h1 h.v)], hS.none⟩
 have h1 := Classical.not_not.1 h1
 refine Ops.g rfl rfl rfl (Ops.fld (hS.rd 0 rfl) rfl rfl rfl rfl inferInstance (Ops.g rfl rfl rfl (Ops.ldf_s (hS.rd 0 rfl) rfl rfl rfl rfl rfl (Ops.g rfl rfl rfl (Ops.len rfl rfl (Ops.g rfl rfl rfl (Ops.gtr rfl rfl rfl (Ops.pick_f rfl rfl rfl (Ops.n ?_)))))))))
 refine tQ ?_
 refine Cd.cond_p _ rfl (fun h2 => ?_) (fun h2 => ?_)
 ·refine Cd.seq (Cd.region (Ops.mb rfl rfl rfl (Ops.n (tQ (Cd.ret (thenQ_r (ret1_b rfl ?_)))))))
  exact ⟨by rw [decide_eq_false (fun h : Cplx V F => by have := h.f; omega)], hS.none⟩
 obtain ⟨m, rfl⟩ := Int.eq_ofNat_of_zero_le h1.1
 have hm : m ≤ 60 := by omega
 clear h1
 refine Cd.skip (tQ (Cd.seq (Cd.region (Ops.fld (hS.rd 0 rfl) rfl rfl rfl rfl inferInstance (Ops.ldf_i (hS.rd 0 rfl) rfl rfl rfl rfl rfl (Ops.mkB m hS rfl rfl (by omega) ?_))))))
 intro A3 w2 hS2
 have hS2 : St w w2 [CkB 4 A3 m m (pnt (mk0 m) (F.take 0).flatten), cxB Ab m A n c] := hS2
 refine Ops.ms rfl rfl rfl (Ops.n (tQ (Cd.seq (Cd.seq (Cd.region (Ops.fld (hS2.rd 1 rfl) rfl rfl rfl rfl inferInstance (Ops.ldf_s (hS2.rd 1 rfl) rfl rfl rfl rfl rfl (Ops.len rfl rfl (Ops.mi rfl rfl rfl ?_)))))))))
 refine Ops.n (tQ (Cd.block ?_))
 refine Cd.loop (α := Nat) (fun i => [(1, .pointer Ab), (3, .slice A3 m m), (22, .slice A n c), (23, .int .i64 (n : Int)), (24, .int .i64 (i : Int))]) (fun i w' => i ≤ n ∧ PreC m F i ∧ St w w' [CkB 4 A3 m m (pnt (mk0 m) (F.take i).flatten), cxB Ab m A n c]) (fun i => n - i) 0 ⟨rfl, rfl, rfl, rfl, rfl, trivial⟩ ⟨Nat.zero_le _, PreC.zero _ _, hS2⟩ ?_
 rintro i e w3 ⟨hi, hP, hS3⟩
 have hB3 := hS3.rd 1 rfl
 refine Cd.seq (Cd.region (Ops.lss rfl rfl rfl (Ops.n (tQ (Cd.seq ?_)))))
 refine Cd.cond_p _ rfl (fun h3 => ?_) (fun h3 => ?_)
 ·have hiF : i < F.length := by omega
  have hM := hS3.oldRows hR
  have hrow := hM.at_ (i := (i : Int)) (by omega) (by omega)
  have hrl := hrow.1
  have hcap := hM.cap_ (i := (i : Int)) (by omega) (by omega)
  refine Cd.skip (tQ (Cd.seq (Cd.block (Cd.seq (Cd.region (Ops.mi rfl rfl rfl (Ops.idx hM.top.2 rfl rfl rfl (by omega) (by omega) (Ops.ld_sl hM.top rfl (by omega) rfl rfl (Ops.mi rfl rfl rfl ?_)))))))))
  refine Ops.ms rfl rfl rfl (Ops.n (tQ (Cd.seq (Cd.seq (Cd.region (Ops.ms rfl rfl rfl (Ops.call (sizeI_c _ _ _ _) rfl rfl rfl ?_)))))))
  rintro _ _ ⟨rfl, rfl⟩
  refine Ops.call (within_c _ _ _ _) rfl rfl rfl ?_
  rintro _ _ ⟨rfl, rfl⟩
  first | refine Ops.not_p rfl rfl ?_ | refine Ops.not rfl rfl ?_
  refine Ops.mb rfl rfl rfl ?_
  refine Ops.split_p 33 rfl (fun h4 => ?_) (fun h4 => ?_)
  ·refine Ops.k rfl rfl rfl rfl rfl (Ops.k rfl rfl rfl rfl rfl (Ops.k rfl rfl rfl rfl rfl (Ops.k rfl rfl rfl rfl rfl (Ops.k rfl rfl rfl rfl rfl (Ops.k rfl rfl rfl rfl rfl (Ops.pick_t rfl rfl rfl (Ops.mb rfl rfl rfl (Ops.k rfl rfl rfl rfl rfl (Ops.k rfl rfl rfl rfl rfl ?_)))))))))
   refine Ops.k rfl rfl rfl rfl rfl (Ops.skipu rfl rfl rfl rfl (Ops.skipu rfl rfl rfl rfl (Ops.skipu rfl rfl rfl rfl (Ops.skipu rfl rfl rfl rfl (Ops.skipu rfl rfl rfl rfl (Ops.skipu rfl rfl rfl rfl (Ops.skipu rfl rfl rfl rfl (Ops.skipu rfl rfl rfl rfl (Ops.skipu rfl rfl rfl rfl ?_)))))))))
   refine Ops.k rfl rfl rfl rfl rfl (Ops.pick_t rfl rfl rfl (Ops.n (tQ (Cd.cond_t rfl (Cd.seq (Cd.region (Ops.mb rfl rfl rfl (Ops.n (tQ ?_)))))))))
   refine Cd.ret (thenQ_r (blockQ_r (thenQ_r (thenQ_r (blockQ_r (thenQ_r (ret1_b rfl ?_)))))))
   exact ⟨by rw [decide_eq_false (fun h : Cplx m F => by have := (h.at_ hiF).1; omega)], hS3.none⟩
  have h4 := Classical.not_not.1 h4
  refine Ops.g rfl rfl rfl (Ops.ms rfl rfl rfl (Ops.g rfl rfl rfl (Ops.fld hB3 rfl rfl rfl rfl inferInstance (Ops.g rfl rfl rfl (Ops.ldf_i hB3 rfl rfl rfl rfl rfl (Ops.g rfl rfl rfl (Ops.sub rfl rfl rfl (by omega) (Ops.g rfl rfl rfl (Ops.call (areWithin_c _ _ _ _ _ _ _ hrow (by omega)) rfl rfl rfl ?_)))))))))
  rintro _ w4 ⟨rfl, hst⟩
  have hS3 := hS3.later hst.below
  have hM := hS3.oldRows hR
  have hrow := hM.at_ (i := (i : Int)) (by omega) (by omega)
  have hB3 := hS3.rd 1 rfl
  refine Ops.g rfl rfl rfl ?_
  first | refine Ops.not_p rfl rfl ?_ | refine Ops.not rfl rfl ?_
  refine Ops.pick_f rfl rfl rfl (Ops.mb rfl rfl rfl ?_)
  refine Ops.split_p 41 rfl (fun h5 => ?_) (fun h5 => ?_)
  ·refine Ops.k rfl rfl rfl rfl rfl (Ops.k rfl rfl rfl rfl rfl (Ops.k rfl rfl rfl rfl rfl (Ops.skipu rfl rfl rfl rfl (Ops.skipu rfl rfl rfl rfl (Ops.skipu rfl rfl rfl rfl (Ops.skipu rfl rfl rfl rfl (Ops.skipu rfl rfl rfl rfl (Ops.skipu rfl rfl rfl rfl (Ops.skipu rfl rfl rfl rfl ?_)))))))))
   refine Ops.skipu rfl rfl rfl rfl (Ops.skipu rfl rfl rfl rfl (Ops.k rfl rfl rfl rfl rfl (Ops.pick_t rfl rfl rfl (Ops.n (tQ (Cd.cond_t rfl (Cd.seq (Cd.region (Ops.mb rfl rfl rfl ?_)))))))))
   refine Ops.n (tQ (Cd.ret (thenQ_r (blockQ_r (thenQ_r (thenQ_r (blockQ_r (thenQ_r (ret1_b rfl ?_)))))))))
   exact ⟨by rw [decide_eq_false (fun h : Cplx m F => h5 fun x hx => by have := (h.at_ hiF).2.2 x hx; omega)], hS3.none⟩
  have h5 : ∀ x ∈ gl F (i : Int), 0 ≤ x ∧ x ≤ (m : Int) - 1 := Classical.not_not.1 h5
  refine Ops.g rfl rfl rfl (Ops.mi rfl rfl rfl (Ops.g rfl rfl rfl (Ops.gtr rfl rfl rfl (Ops.g rfl rfl rfl (Ops.mb rfl rfl rfl ?_)))))
  refine Ops.split_p 44 rfl (fun h6 => ?_) (fun h6 => ?_)
  ·have hrow' := hM.at_ (i := (i : Int) - 1) (by omega) (by omega)
   have hcap' := hM.cap_ (i := (i : Int) - 1) (by omega) (by omega)
   refine Ops.g rfl rfl rfl (Ops.fld hB3 rfl rfl rfl rfl inferInstance (Ops.g rfl rfl rfl (Ops.ldf_s hB3 rfl rfl rfl rfl rfl (Ops.g rfl rfl rfl (Ops.mi rfl rfl rfl (Ops.g rfl rfl rfl (Ops.sub rfl rfl rfl (by omega) (Ops.g rfl rfl rfl (Ops.idx hM.top.2 rfl rfl rfl (by omega) (by omega) ?_)))))))))
   refine Ops.g rfl rfl rfl (Ops.ld_sl hM.top rfl (by omega) rfl rfl (Ops.g rfl rfl rfl (Ops.ms rfl rfl rfl (Ops.g rfl rfl rfl (Ops.call (Compare_c _ _ _ _ _ _ _ _ _ hrow' hrow (by omega)) rfl rfl rfl ?_)))))
   rintro _ _ ⟨rfl, rfl⟩
   refine Ops.g rfl rfl rfl (Ops.geq rfl rfl rfl (Ops.g rfl rfl rfl (Ops.pick_t rfl rfl rfl (Ops.pick_f rfl rfl rfl (Ops.n (tQ ?_))))))
   refine Cd.cond_p _ rfl (fun h7 => ?_) (fun h7 => ?_)
   ·refine Cd.seq (Cd.region (Ops.mb rfl rfl rfl (Ops.n (tQ (Cd.ret (thenQ_r (blockQ_r (thenQ_r (thenQ_r ?_)))))))))
    refine blockQ_r (thenQ_r (ret1_b rfl ?_))
    exact ⟨by rw [decide_eq_false (fun h : Cplx m F => by have h8 : lexC _ _ < 0 := h.lt (k := i) (by omega) hiF; omega)], hS3.none⟩
   ·have hlt : i = 0 ∨ LT (gl F ((i : Int) - 1)) (gl F (i : Int)) := .inr (by show lexC _ _ < 0; omega)
    refine Cd.skip (tQ (Cd.seq (Cd.region (Ops.ms rfl rfl rfl (Ops.len rfl rfl (Ops.mi rfl rfl rfl (Ops.n (tQ (Cd.block ?_)))))))))
    refine Cd.loop (α := Nat) (fun j => [(1, .pointer Ab), (3, .slice A3 m m), (5, .slice (rg rs (i : Int)).a (rg rs (i : Int)).n (rg rs (i : Int)).c), (22, .slice A n c), (23, .int .i64 (n : Int)), (24, .int .i64 (i : Int)), (56, .slice (rg rs (i : Int)).a (rg rs (i : Int)).n (rg rs (i : Int)).c), (57, .int .i64 ((rg rs (i : Int)).n : Int)), (58, .int .i64 (j : Int))]) (fun j w' => j ≤ (gl F (i : Int)).length ∧ SA ((gl F (i : Int)).take j) ∧ St w w' [CkB 4 A3 m m (pnt (mk0 m) ((F.take i).flatten ++ (gl F (i : Int)).take j)), cxB Ab m A n c]) (fun j => (gl F (i : Int)).length - j) 0 ⟨rfl, rfl, rfl, rfl, rfl, rfl, rfl, rfl, rfl, trivial⟩ ⟨Nat.zero_le _, by simp [SA], by rw [List.take_zero, List.append_nil]; exact hS3⟩ ?_
    rintro j e w5 ⟨hj, hA5, hS5⟩
    have hM5 := hS5.oldRows hR
    have hrow5 := hM5.at_ (i := (i : Int)) (by omega) (by omega)
    refine Cd.seq (Cd.region (Ops.lss rfl rfl rfl (Ops.n (tQ (Cd.seq ?_)))))
    refine Cd.cond_p _ rfl (fun h9 => ?_) (fun h9 => ?_)
    ·have hjl : j < (gl F (i : Int)).length := by omega
     have hjr := h5 (gi (gl F (i : Int)) (j : Int)) (by rw [gi_mem hjl]; exact List.getElem_mem _)
     have hH := hS5.rdB 0 rfl
     refine Cd.skip (tQ (Cd.seq (Cd.block (Cd.seq (Cd.region (Ops.mi rfl rfl rfl (Ops.idx hrow5.2 rfl rfl rfl (by omega) (by omega) (Ops.ld_int hrow5 rfl (by omega) rfl rfl (Ops.mi rfl rfl rfl ?_)))))))))
     refine Ops.mi rfl rfl rfl (Ops.n (tQ (Cd.seq (Cd.seq (Cd.region (Ops.mi rfl rfl rfl (Ops.gtr rfl rfl rfl (Ops.mb rfl rfl rfl ?_))))))))
     refine Ops.split_p 65 rfl (fun h10 => ?_) (fun h10 => ?_)
     ·refine Ops.g rfl rfl rfl (Ops.ms rfl rfl rfl (Ops.g rfl rfl rfl (Ops.mi rfl rfl rfl (Ops.g rfl rfl rfl (Ops.sub rfl rfl rfl (by omega) (Ops.g rfl rfl rfl (Ops.idx hrow5.2 rfl rfl rfl (by omega) (by omega) (Ops.g rfl rfl rfl (Ops.ld_int hrow5 rfl (by omega) rfl rfl ?_)))))))))
      refine Ops.g rfl rfl rfl (Ops.mi rfl rfl rfl (Ops.g rfl rfl rfl (Ops.geq rfl rfl rfl (Ops.pick_t rfl rfl rfl (Ops.n (tQ ?_))))))
      refine Cd.cond_p _ rfl (fun h11 => ?_) (fun h11 => ?_)
      ·refine Cd.seq (Cd.region (Ops.mb rfl rfl rfl (Ops.n (tQ (Cd.ret (thenQ_r (blockQ_r (thenQ_r (thenQ_r ?_)))))))))
       refine blockQ_r (blockQ_r (thenQ_r (thenQ_r (blockQ_r (thenQ_r (ret1_b rfl ?_))))))
       exact ⟨by rw [decide_eq_false (fun h : Cplx m F => by have := (h.at_ hiF).2.1.step (k := j) (by omega) hjl; omega)], hS5.none⟩
      ·have hnx : SA ((gl F (i : Int)).take (j + 1)) := hA5.snoc hjl (.inr (by omega))
       refine Cd.skip (tQ (Cd.region (Ops.ms rfl rfl rfl (Ops.mi rfl rfl rfl (Ops.idx hH.2 rfl rfl rfl (by omega) (by omega) (Ops.st_bool 0 hS5 rfl rfl rfl (by omega) ?_))))))
       intro w6 hS6
       refine Ops.n (blockQ_n (tQ (Cd.region (Ops.add rfl rfl rfl (by omega) (Ops.mi rfl rfl rfl (Ops.n (tQ ?_)))))))
       refine ⟨j + 1, by show (gl F (i : Int)).length - (j + 1) < (gl F (i : Int)).length - j; omega, ⟨rfl, rfl, rfl, rfl, rfl, rfl, rfl, rfl, rfl, trivial⟩, by omega, hnx, ?_⟩
       rw [take_succ_gi hjl, ← List.append_assoc, pnt_snoc]
       exact hS6
     ·have hnx : SA ((gl F (i : Int)).take (j + 1)) := hA5.snoc hjl (.inl (by omega))
      refine Ops.k rfl rfl rfl rfl rfl (Ops.k rfl rfl rfl rfl rfl (Ops.k rfl rfl rfl rfl rfl (Ops.k rfl rfl rfl rfl rfl (Ops.k rfl rfl rfl rfl rfl (Ops.k rfl rfl rfl rfl rfl (Ops.k rfl rfl rfl rfl rfl (Ops.pick_f rfl rfl rfl (Ops.n (tQ ?_)))))))))
      refine Cd.cond_f rfl (Cd.skip (tQ (Cd.region (Ops.ms rfl rfl rfl (Ops.mi rfl rfl rfl (Ops.idx hH.2 rfl rfl rfl (by omega) (by omega) (Ops.st_bool 0 hS5 rfl rfl rfl (by omega) ?_)))))))
      intro w6 hS6
      refine Ops.n (blockQ_n (tQ (Cd.region (Ops.add rfl rfl rfl (by omega) (Ops.mi rfl rfl rfl (Ops.n (tQ ?_)))))))
      refine ⟨j + 1, by show (gl F (i : Int)).length - (j + 1) < (gl F (i : Int)).length - j; omega, ⟨rfl, rfl, rfl, rfl, rfl, rfl, rfl, rfl, rfl, trivial⟩, by omega, hnx, ?_⟩
      rw [take_succ_gi hjl, ← List.append_assoc, pnt_snoc]
      exact hS6
    ·rw [show (gl F (i : Int)).take j = gl F (i : Int) from List.take_of_length_le (by omega)] at hS5 hA5
     refine Cd.exit (thenQ_x (thenQ_x (blockQ_x (blockQ_n (tQ (Cd.region (Ops.add rfl rfl rfl (by omega) (Ops.mi rfl rfl rfl (Ops.n ?_)))))))))
     refine tQ ?_
     refine ⟨i + 1, by show n - (i + 1) < n - i; omega, ⟨rfl, rfl, rfl, rfl, rfl, trivial⟩, by omega, hP.step hiF ⟨⟨by omega, by omega⟩, hA5, fun x hx => by have := h5 x hx; omega⟩ hlt, ?_⟩
     rw [take_succ_gl hiF, List.flatten_append]
     simpa using hS5
  ·have hlt : i = 0 ∨ LT (gl F ((i : Int) - 1)) (gl F (i : Int)) := .inl (by omega)
   refine Ops.k rfl rfl rfl rfl rfl (Ops.k rfl rfl rfl rfl rfl (Ops.k rfl rfl rfl rfl rfl (Ops.k rfl rfl rfl rfl rfl (Ops.k rfl rfl rfl rfl rfl (Ops.k rfl rfl rfl rfl rfl (Ops.k rfl rfl rfl rfl rfl (Ops.k rfl rfl rfl rfl rfl (Ops.k rfl rfl rfl rfl rfl (Ops.g rfl rfl rfl ?_)))))))))
   refine Ops.pick_f rfl rfl rfl (Ops.pick_f rfl rfl rfl (Ops.n (tQ (Cd.cond_f rfl (Cd.skip (tQ (Cd.seq (Cd.region (Ops.ms rfl rfl rfl ?_)))))))))
   refine Ops.len rfl rfl (Ops.mi rfl rfl rfl (Ops.n (tQ (Cd.block ?_))))
   refine Cd.loop (α := Nat) (fun j => [(1, .pointer Ab), (3, .slice A3 m m), (5, .slice (rg rs (i : Int)).a (rg rs (i : Int)).n (rg rs (i : Int)).c), (22, .slice A n c), (23, .int .i64 (n : Int)), (24, .int .i64 (i : Int)), (56, .slice (rg rs (i : Int)).a (rg rs (i : Int)).n (rg rs (i : Int)).c), (57, .int .i64 ((rg rs (i : Int)).n : Int)), (58, .int .i64 (j : Int))]) (fun j w' => j ≤ (gl F (i : Int)).length ∧ SA ((gl F (i : Int)).take j) ∧ St w w' [CkB 4 A3 m m (pnt (mk0 m) ((F.take i).flatten ++ (gl F (i : Int)).take j)), cxB Ab m A n c]) (fun j => (gl F (i : Int)).length - j) 0 ⟨rfl, rfl, rfl, rfl, rfl, rfl, rfl, rfl, rfl, trivial⟩ ⟨Nat.zero_le _, by simp [SA], by rw [List.take_zero, List.append_nil]; exact hS3⟩ ?_
   rintro j e w5 ⟨hj, hA5, hS5⟩
   have hM5 := hS5.oldRows hR
   have hrow5 := hM5.at_ (i := (i : Int)) (by omega) (by omega)
   refine Cd.seq (Cd.region (Ops.lss rfl rfl rfl (Ops.n (tQ (Cd.seq ?_)))))
   refine Cd.cond_p _ rfl (fun h9 => ?_) (fun h9 => ?_)
   ·have hjl : j < (gl F (i : Int)).length := by omega
    have hjr := h5 (gi (gl F (i : Int)) (j : Int)) (by rw [gi_mem hjl]; exact List.getElem_mem _)
    have hH := hS5.rdB 0 rfl
    refine Cd.skip (tQ (Cd.seq (Cd.block (Cd.seq (Cd.region (Ops.mi rfl rfl rfl (Ops.idx hrow5.2 rfl rfl rfl (by omega) (by omega) (Ops.ld_int hrow5 rfl (by omega) rfl rfl (Ops.mi rfl rfl rfl ?_)))))))))
    refine Ops.mi rfl rfl rfl (Ops.n (tQ (Cd.seq (Cd.seq (Cd.region (Ops.mi rfl rfl rfl (Ops.gtr rfl rfl rfl (Ops.mb rfl rfl rfl ?_))))))))
    refine Ops.split_p 65 rfl (fun h10 => ?_) (fun h10 => ?_)
    ·refine Ops.g rfl rfl rfl (Ops.ms rfl rfl rfl (Ops.g rfl rfl rfl (Ops.mi rfl rfl rfl (Ops.g rfl rfl rfl (Ops.sub rfl rfl rfl (by omega) (Ops.g rfl rfl rfl (Ops.idx hrow5.2 rfl rfl rfl (by omega) (by omega) (Ops.g rfl rfl rfl (Ops.ld_int hrow5 rfl (by omega) rfl rfl ?_)))))))))
     refine Ops.g rfl rfl rfl (Ops.mi rfl rfl rfl (Ops.g rfl rfl rfl (Ops.geq rfl rfl rfl (Ops.pick_t rfl rfl rfl (Ops.n (tQ ?_))))))
     refine Cd.cond_p _ rfl (fun h11 => ?_) (fun h11 => ?_)
     ·refine Cd.seq (Cd.region (Ops.mb rfl rfl rfl (Ops.n (tQ (Cd.ret (thenQ_r (blockQ_r (thenQ_r (thenQ_r ?_)))))))))
      refine blockQ_r (blockQ_r (thenQ_r (thenQ_r (blockQ_r (thenQ_r (ret1_b rfl ?_))))))
      exact ⟨by rw [decide_eq_false (fun h : Cplx m F => by have := (h.at_ hiF).2.1.step (k := j) (by omega) hjl; omega)], hS5.none⟩
     ·have hnx : SA ((gl F (i : Int)).take (j + 1)) := hA5.snoc hjl (.inr (by omega))
      refine Cd.skip (tQ (Cd.region (Ops.ms rfl rfl rfl (Ops.mi rfl rfl rfl (Ops.idx hH.2 rfl rfl rfl (by omega) (by omega) (Ops.st_bool 0 hS5 rfl rfl rfl (by omega) ?_))))))
      intro w6 hS6
      refine Ops.n (blockQ_n (tQ (Cd.region (Ops.add rfl rfl rfl (by omega) (Ops.mi rfl rfl rfl (Ops.n (tQ ?_)))))))
      refine ⟨j + 1, by show (gl F (i : Int)).length - (j + 1) < (gl F (i : Int)).length - j; omega, ⟨rfl, rfl, rfl, rfl, rfl, rfl, rfl, rfl, rfl, trivial⟩, by omega, hnx, ?_⟩
      rw [take_succ_gi hjl, ← List.append_assoc, pnt_snoc]
      exact hS6
    ·have hnx : SA ((gl F (i : Int)).take (j + 1)) := hA5.snoc hjl (.inl (by omega))
     refine Ops.k rfl rfl rfl rfl rfl (Ops.k rfl rfl rfl rfl rfl (Ops.k rfl rfl rfl rfl rfl (Ops.k rfl rfl rfl rfl rfl (Ops.k rfl rfl rfl rfl rfl (Ops.k rfl rfl rfl rfl rfl (Ops.k rfl rfl rfl rfl rfl (Ops.pick_f rfl rfl rfl (Ops.n (tQ ?_)))))))))
     refine Cd.cond_f rfl (Cd.skip (tQ (Cd.region (Ops.ms rfl rfl rfl (Ops.mi rfl rfl rfl (Ops.idx hH.2 rfl rfl rfl (by omega) (by omega) (Ops.st_bool 0 hS5 rfl rfl rfl (by omega) ?_)))))))
     intro w6 hS6
     refine Ops.n (blockQ_n (tQ (Cd.region (Ops.add rfl rfl rfl (by omega) (Ops.mi rfl rfl rfl (Ops.n (tQ ?_)))))))
     refine ⟨j + 1, by show (gl F (i : Int)).length - (j + 1) < (gl F (i : Int)).length - j; omega, ⟨rfl, rfl, rfl, rfl, rfl, rfl, rfl, rfl, rfl, trivial⟩, by omega, hnx, ?_⟩
     rw [take_succ_gi hjl, ← List.append_assoc, pnt_snoc]
     exact hS6
   ·rw [show (gl F (i : Int)).take j = gl F (i : Int) from List.take_of_length_le (by omega)] at hS5 hA5
    refine Cd.exit (thenQ_x (thenQ_x (blockQ_x (blockQ_n (tQ (Cd.region (Ops.add rfl rfl rfl (by omega) (Ops.mi rfl rfl rfl (Ops.n ?_)))))))))
    refine tQ ?_
    refine ⟨i + 1, by show n - (i + 1) < n - i; omega, ⟨rfl, rfl, rfl, rfl, rfl, trivial⟩, by omega, hP.step hiF ⟨⟨by omega, by omega⟩, hA5, fun x hx => by have := h5 x hx; omega⟩ hlt, ?_⟩
    rw [take_succ_gl hiF, List.flatten_append]
    simpa using hS5
 ·have hin : i = F.length := by omega
  subst hin
  obtain ⟨hall, hord⟩ := hP.all
  rw [List.take_length] at hS3
  have hnof := no_false (m := m) (F := F) (fun l hl => (hall l hl).2.2)
  have hfac := facP_all hord (fun l hl e => by have := (hall l hl).1; rw [e] at this; simp at this)
  have hH := hS3.rdB 0 rfl
  have hM := hS3.oldRows hR
  have hG := greatestOf_c A n c rs F
  refine Cd.exit (thenQ_x (thenQ_x (blockQ_x (tQ (Cd.seq ?_)))))
  by_cases h4 : false ∈ pnt (mk0 m) F.flatten
  ·--dup 2
   refine Cd.draw [.ex (.slice (A3) (m) (m)), .ex (.bool (decide (false ∈ pnt (mk0 m) F.flatten))), .ex (.bool (decide (¬ (false ∈ pnt (mk0 m) F.flatten)))), .ex (.bool (false)), .ex (undef), .ex (undef), .ex (undef), .ex (undef), .ex (undef), .ex (undef), .ex (undef), .ex (undef), .ex (.bool (false)), .ex (.bool (false))] (by kernel_rfl) (by kernel_rfl) rfl (lx (lx (lx (lx (lx (lx (lx (lx (lx (lx (lx (lx (lx (lx (fun _ h => by cases h))))))))))))))) ⟨?_, ?_, ?_, ?_, ?_, ?_, ?_, ?_, ?_, ?_, ?_, ?_, ?_, ?_, trivial⟩ ?_
   ·intro e1 w1 hb hp hun; refine Ops.ms rfl rfl rfl (Ops.n (d0 (by exact rfl)))
   ·intro e1 w1 hb hp hun; refine Ops.call (ContainsB_c A3 m m _ _ _ (hH.later hb) (by omega)) rfl rfl rfl ?_
    rintro _ w2 ⟨rfl, hst⟩
    subst hst
    refine Ops.n (d0 (by exact rfl))
   ·intro e1 w1 hb hp hun; refine Ops.not_p rfl rfl (Ops.n (d0 (by exact rfl)))
   ·intro e1 w1 hb hp hun; refine Ops.mb rfl rfl rfl (Ops.n ?_)
    exact d0 (by exact congrArg Value.bool (decide_eq_false (fun h => h h4)))
   ·intro e1 w1 hb hp hun; refine Ops.k rfl rfl rfl rfl rfl (Ops.n (d0 (by exact rfl)))
   ·intro e1 w1 hb hp hun; refine Ops.k rfl rfl rfl rfl rfl (Ops.n (d0 (by exact rfl)))
   ·intro e1 w1 hb hp hun; refine Ops.k rfl rfl rfl rfl rfl (Ops.n (d0 (by exact rfl)))
   ·intro e1 w1 hb hp hun; refine Ops.k rfl rfl rfl rfl rfl (Ops.n (d0 (by exact rfl)))
   ·intro e1 w1 hb hp hun; refine Ops.k rfl rfl rfl rfl rfl (Ops.n (d0 (by exact rfl)))
   ·intro e1 w1 hb hp hun; refine Ops.k rfl rfl rfl rfl rfl (Ops.n (d0 (by exact rfl)))
   ·intro e1 w1 hb hp hun; refine Ops.k rfl rfl rfl rfl rfl (Ops.n (d0 (by exact rfl)))
   ·intro e1 w1 hb hp hun; refine Ops.k rfl rfl rfl rfl rfl (Ops.n (d0 (by exact rfl)))
   ·intro e1 w1 hb hp hun; refine Ops.pick_f rfl rfl rfl (Ops.n (d0 (by exact rfl)))
   ·intro e1 w1 hb hp hun; refine Ops.mb rfl rfl rfl (Ops.n (d0 (by exact rfl)))
   intro u w4 hb _
   refine tQ (Cd.ret (ret1_b rfl ?_))
   exact ⟨by rw [decide_eq_false (fun h : Cplx m F => hnof.2 h.all h4)], hS3.none.later hb⟩
  ·refine Cd.draw [.ex (.slice (A3) (m) (m)), .ex (.bool (decide (false ∈ pnt (mk0 m) F.flatten))), .ex (.bool (decide (¬ (false ∈ pnt (mk0 m) F.flatten)))), .ex (.bool (true)), .ex (.pointer (ptrAt (Ab) 1)), .ex (.slice (A) (n) (c)), .pr (fun v w' => ∃ A' c', v = .slice A' (facP F).length c'), .ex (.int .i64 (((facP F).length : Nat) : Int)), .ex (.pointer (ptrAt (Ab) 1)), .ex (.slice (A) (n) (c)), .ex (.int .i64 (((n : Nat) : Int))), .ex (.bool (decide ((((facP F).length : Nat) : Int) = (((n : Nat) : Int))))), .ex (.bool (decide ((((facP F).length : Nat) : Int) = (((n : Nat) : Int))))), .ex (.bool (decide ((((facP F).length : Nat) : Int) = (((n : Nat) : Int)))))] (by kernel_rfl) (by kernel_rfl) rfl (lx (lx (lx (lx (lx (lx (List.forall_mem_cons.2 ⟨Yd.lasts_pr (fun v w w' h hb => h), (lx (lx (lx (lx (lx (lx (lx (fun _ h => by cases h))))))))⟩))))))) ⟨?_, ?_, ?_, ?_, ?_, ?_, ?_, ?_, ?_, ?_, ?_, ?_, ?_, ?_, trivial⟩ ?_
   ·intro e1 w1 hb hp hun; refine Ops.ms rfl rfl rfl (Ops.n (d0 (by exact rfl)))
   ·intro e1 w1 hb hp hun; refine Ops.call (ContainsB_c A3 m m _ _ _ (hH.later hb) (by omega)) rfl rfl rfl ?_
    rintro _ w2 ⟨rfl, hst⟩
    subst hst
    refine Ops.n (d0 (by exact rfl))
   ·intro e1 w1 hb hp hun; refine Ops.not_p rfl rfl (Ops.n (d0 (by exact rfl)))
   ·intro e1 w1 hb hp hun; refine Ops.mb rfl rfl rfl (Ops.n ?_)
    exact d0 (by exact congrArg Value.bool (decide_eq_true h4))
   ·intro e1 w1 hb hp hun; refine Ops.g rfl rfl rfl (Ops.fld (hB3.below hb) rfl rfl rfl rfl inferInstance (Ops.n (d0 (by exact rfl))))
   ·intro e1 w1 hb hp hun; refine Ops.g rfl rfl rfl (Ops.ldf_s (hB3.below hb) rfl rfl rfl rfl rfl (Ops.n (d0 (by exact rfl))))
   ·intro e1 w1 hb hp hun; refine Ops.g rfl rfl rfl ?_
    refine Ops.call (greatestOf_c A n c rs F _ (hT.later (hS3.below.trans (hb.mono hS3.below.size))) (hM.later hb) (by omega) (fun l hl => (hall l hl).2.1) (fun l hl => (hall l hl).1.2) (fun l hl x hx => by have := (hall l hl).2.2 x hx; omega)) rfl rfl rfl ?_
    rintro _ w2 ⟨q, A', c', rfl, _, _, hq, hst⟩
    refine Ops.n ?_
    exact After.dn hst.below ⟨A', c', by rw [← hq, List.length_map]⟩
   ·intro e1 w1 hb hp hun; refine Ops.g rfl rfl rfl ?_
    obtain ⟨A', c', h85⟩ := (hp 6 (by decide) rfl _ _ rfl rfl)
    refine Ops.len h85 rfl (Ops.n ?_)
    exact After.dn (Below.refl _ _) rfl
   ·intro e1 w1 hb hp hun; refine Ops.g rfl rfl rfl (Ops.fld (hB3.below hb) rfl rfl rfl rfl inferInstance (Ops.n (d0 (by exact rfl))))
   ·intro e1 w1 hb hp hun; refine Ops.g rfl rfl rfl (Ops.ldf_s (hB3.below hb) rfl rfl rfl rfl rfl (Ops.n (d0 (by exact rfl))))
   ·intro e1 w1 hb hp hun; refine Ops.g rfl rfl rfl (Ops.len rfl rfl (Ops.n (d0 (by exact rfl))))
   ·intro e1 w1 hb hp hun; refine Ops.g rfl rfl rfl (Ops.eql rfl rfl rfl (Ops.n (d0 (by exact rfl))))
   ·intro e1 w1 hb hp hun; refine Ops.pick_t rfl rfl rfl (Ops.n (d0 (by exact rfl)))
   ·intro e1 w1 hb hp hun; refine Ops.mb rfl rfl rfl (Ops.n (d0 (by exact rfl)))
   intro u w4 hb _
   refine tQ (Cd.ret (ret1_b rfl ?_))
   refine ⟨congrArg Value.bool (decide_eq_decide.2 ?_), hS3.none.later hb⟩
   constructor
   ·intro h
    exact ⟨⟨by omega, by omega⟩, by omega, hall, hord, hnof.1 h4, hfac.1 (by omega)⟩
   ·intro h
    have := hfac.2 h.top
    omega
/-
 The walk of the law FnExactPartsOf: it returns true.
-/
/-
 GirthOf on both sides, and the walk of its law. Conditions: the library's table of powers of ten holds what the program's text lays there.
-/
def encS (g : Int) : Int := if g = 0 then -1 else g
/-
 The link of a face on both sides, walked.
-/
def Fce (F : List (List Int)) (face : List Int) : Prop := SA face ∧ (face = [] ∨ ∃ f ∈ F, Ins face f)
instance (F : List (List Int)) (face : List Int) : Decidable (Fce F face) := by unfold Fce; exact inferInstance
def lnkL (F : List (List Int)) (face : List Int) : List (List Int) := (F.filter fun f => decide (Ins face f)).map fun f => lessL f face
def lkV (V : Int) (F : List (List Int)) (face : List Int) : Int := if Cplx V F ∧ Fce F face then cxV (lnkL F face) else 0
def lkL (V : Int) (F : List (List Int)) (face : List Int) : List (List Int) := if Cplx V F ∧ Fce F face then cxL (lnkL F face) else []
def lkK (V : Int) (F : List (List Int)) (face : List Int) : Int := if Cplx V F then (if Fce F face then cxK (lnkL F face) else 2) else 1
theorem lessL_SA {l b : List Int} (h : SA l) : SA (lessL l b) := List.Pairwise.filter _ h
theorem flat_le2 {ss : List (List Int)} {b : Nat} (h : ∀ l ∈ ss, l.length ≤ b) : ss.flatten.length ≤ b * ss.length := by
 induction ss with
 | nil => simp
 | cons a r ih =>
  have h1 := h a (by simp)
  have h2 := ih fun l hl => h l (by simp [hl])
  simp only [List.flatten_cons, List.length_append, List.length_cons, Nat.mul_add, Nat.mul_one]
  omega
theorem map_cs_id {L : List (List Int)} (h : ∀ l ∈ L, SA l) : L.map cs = L := by
 induction L with
 | nil => rfl
 | cons a r ih => rw [List.map_cons, ih fun l hl => h l (by simp [hl]), ← cs_eq (h a (by simp)) fun _ => Iff.rfl]
theorem indexRF_c (A : Option Addr) (n c : Nat) (rs : List SlV) (G : FuncId) [hF : Fnc Tryz.prog G] (cv : List Value) (pd : Nat → Bool) (w : World) (hR : RdR w A n rs) (hn : n ≤ 4000000000000)
    (hcall : ∀ (w' : World) (i : Nat), Below w.heap.size w w' → i < n → Ret Tryz.prog G (.slice (rg rs (i : Int)).a (rg rs (i : Int)).n (rg rs (i : Int)).c :: cv) w' (fun v w'' => v = .bool (pd i) ∧ St w' w'' [])) :
    Ret Tryz.prog 110 [.slice A n c, .func (.func G) #[] cv.toArray] w (fun v w' => (∃ i : Int, v = .int .i64 i ∧ (0 ≤ i ↔ ∃ j, j < n ∧ pd j = true)) ∧ St w w' []) := by
  have hxl := hR.1
  refine Ret.of_cd Tryz.func110 rfl Tryz.ntmps110 rfl (post1 rfl) (Cd.seq (Cd.region (Ops.mi rfl rfl rfl (Ops.n (tQ (Cd.seq (Cd.seq (Cd.region (Ops.ms rfl rfl rfl ?_)))))))))
  refine Ops.len rfl rfl (Ops.mi rfl rfl rfl (Ops.n (tQ (Cd.block ?_))))
  refine Cd.loop (α := Nat) (fun k => [(0, .slice A n c), (1, .func (.func G) #[] cv.toArray), (7, .int .i64 (n : Int)), (8, .int .i64 (k : Int))]) (fun k w' => St w w' [] ∧ k ≤ n ∧ ∀ j, j < k → pd j = false) (fun k => n - k) 0 ⟨rfl, rfl, rfl, rfl, trivial⟩ ⟨St.refl w, Nat.zero_le _, fun j hj => by omega⟩ ?_
  rintro k e w1 ⟨hS, hk, hK⟩
  refine Cd.seq (Cd.region (Ops.lss rfl rfl rfl (Ops.n (tQ (Cd.seq ?_)))))
  refine Cd.cond_p _ rfl (fun h3 => ?_) (fun h3 => ?_)
  · have hR1 := hS.oldR hR
    refine Cd.skip (tQ (Cd.seq (Cd.block (Cd.seq (Cd.region (Ops.mi rfl rfl rfl (Ops.mi rfl rfl rfl (Ops.n (tQ ?_)))))))))
    refine Cd.seq (Cd.region (Ops.mv_fn rfl rfl rfl (Ops.ms rfl rfl rfl (Ops.mi rfl rfl rfl (Ops.idx hR1.2 rfl rfl rfl (by omega) (by omega) (Ops.ld_sl hR1 rfl (by omega) rfl rfl (Ops.call (hcall w1 k hS.below (by omega)) rfl rfl rfl ?_)))))))
    rintro _ w2 ⟨rfl, hst⟩
    refine Ops.n (tQ ?_)
    refine Cd.cond rfl (fun h4 => ?_) (fun h4 => ?_)
    · refine Cd.seq (Cd.region (Ops.mi rfl rfl rfl (Ops.mi rfl rfl rfl (Ops.n (tQ (Cd.ret (blockQ_r (thenQ_r (thenQ_r ?_)))))))))
      refine blockQ_r (thenQ_r (ret1_i rfl ?_))
      exact ⟨⟨(k : Int), rfl, ⟨fun _ => ⟨k, by omega, h4⟩, fun _ => by omega⟩⟩, hS.later hst.below⟩
    · refine Cd.skip (blockQ_n (tQ (Cd.region (Ops.add rfl rfl rfl (by omega) (Ops.mi rfl rfl rfl (Ops.n (tQ ?_)))))))
      refine ⟨k + 1, by show n - (k + 1) < n - k; omega, ⟨rfl, rfl, rfl, rfl, trivial⟩, hS.later hst.below, by omega, fun j hj => ?_⟩
      by_cases ej : j = k
      · subst ej; exact h4
      · exact hK j (by omega)
  · refine Cd.exit (thenQ_x (thenQ_x (blockQ_x (tQ (Cd.seq (Cd.region (Ops.mi rfl rfl rfl (Ops.n (tQ ?_)))))))))
    refine Cd.ret (ret1_i rfl ?_)
    refine ⟨⟨-1, rfl, ⟨fun h => absurd h (by decide), fun ⟨j, hj, hp⟩ => ?_⟩⟩, hS⟩
    rw [hK j (by omega)] at hp
    cases hp
theorem containsRF_c (A : Option Addr) (n c : Nat) (rs : List SlV) (G : FuncId) [hF : Fnc Tryz.prog G] (cv : List Value) (pd : Nat → Bool) (w : World) (hR : RdR w A n rs) (hn : n ≤ 4000000000000)
    (hcall : ∀ (w' : World) (i : Nat), Below w.heap.size w w' → i < n → Ret Tryz.prog G (.slice (rg rs (i : Int)).a (rg rs (i : Int)).n (rg rs (i : Int)).c :: cv) w' (fun v w'' => v = .bool (pd i) ∧ St w' w'' [])) :
    Ret Tryz.prog 74 [.slice A n c, .func (.func G) #[] cv.toArray] w (fun v w' => v = .bool (decide (∃ j, j < n ∧ pd j = true)) ∧ St w w' []) := by
  refine Ret.of_cd Tryz.func74 rfl Tryz.ntmps74 rfl (post1 rfl) (Cd.seq (Cd.region (Ops.mb rfl rfl rfl (Ops.n (tQ (Cd.seq (Cd.region (Ops.ms rfl rfl rfl (Ops.mv_fn rfl rfl rfl ?_)))))))))
  refine Ops.call (indexRF_c A n c rs G cv pd w hR hn hcall) rfl rfl rfl ?_
  rintro _ w2 ⟨⟨i, rfl, hi⟩, hS2⟩
  refine Ops.geq rfl rfl rfl (Ops.mb rfl rfl rfl (Ops.n (tQ (Cd.ret (ret1_b rfl ?_)))))
  exact ⟨congrArg Value.bool (decide_eq_decide.2 hi), hS2⟩
end Go.Proofs.YtiblelgfkakmiaaGreatDoor.Vc
/-
 Plain mathematics of complexes: faces of deletions, links and skeletons, counted.
-/
namespace Go.Proofs.YtiblelgfkakmiaaGreatDoor.Vc
def nf (F : List (List Int)) (k : Nat) : Nat := (fcs F k).length
theorem sub_SA {a b : List Int} (h : a.Sublist b) (hb : SA b) : SA a := List.Pairwise.sublist h hb
theorem fcs_sa {F : List (List Int)} {k : Nat} (hs : ∀ f ∈ F, SA f) {x : List Int} (h : x ∈ fcs F k) : SA x := by
 rcases faL_mem.1 (fcs_mem.1 h) with ⟨_, rfl⟩ | ⟨_, f, hf, h1, _⟩
 ·exact List.Pairwise.nil
 ·exact sub_SA h1 (hs f hf)
theorem fcs_pos {F : List (List Int)} {k : Nat} (hk : 0 < k) {x : List Int} : x ∈ fcs F k ↔ ∃ f ∈ F, x.Sublist f ∧ x.length = k := by
 rw [fcs_mem, faL_mem]
 constructor
 ·rintro (⟨h, _⟩ | ⟨_, h⟩)
  ·omega
  ·exact h
 ·exact fun h => .inr ⟨hk, h⟩
theorem fcs_fac {ls : List (List Int)} (hs : ∀ l ∈ ls, SA l) (k : Nat) : fcs (facP ls) k = fcs ls k := by
 refine fcs_of (fcs_SL _ _) fun x => ?_
 rw [fcs_mem, faL_mem, faL_mem]
 constructor
 ·rintro (h | ⟨h0, f, hf, h1, h2⟩)
  ·exact .inl h
  ·exact .inr ⟨h0, f, (facP_mem.1 hf).1, h1, h2⟩
 ·rintro (h | ⟨h0, f, hf, h1, h2⟩)
  ·exact .inl h
  ·have hne : f ≠ [] := fun e => by
    have := h1.length_le
    rw [e, List.length_nil] at this; omega
   obtain ⟨y, hy, hi⟩ := max_ex hs hf hne
   exact .inr ⟨h0, y, facP_mem.2 hy, h1.trans (Ins.sub (hs f hf) (hs y hy.1) hi), h2⟩
theorem fcs_map {f : Int → Int} {s : List Int} (h : Mono f s) {ls : List (List Int)} (hl : ∀ l ∈ ls, Ins l s) (k : Nat) : fcs (ls.map (List.map f)) k = (fcs ls k).map (List.map f) := by
 have hin : ∀ x ∈ fcs ls k, Ins x s := fun x hx => by
  rcases faL_mem.1 (fcs_mem.1 hx) with ⟨_, rfl⟩ | ⟨_, g, hg, h1, _⟩
  ·intro y hy; cases hy
  ·exact (Ins.of_sub h1).trans (hl g hg)
 refine (fcs_of ?_ fun x => ?_).symm
 ·unfold SL
  rw [List.pairwise_map]
  exact (fcs_SL ls k).imp_of_mem fun {a b} ha hb hab => h.lt (hin a ha) (hin b hb) hab
 ·rw [List.mem_map, faL_mem]
  constructor
  ·rintro ⟨y, hy, rfl⟩
   rcases faL_mem.1 (fcs_mem.1 hy) with ⟨h0, rfl⟩ | ⟨h0, g, hg, h1, h2⟩
   ·exact .inl ⟨h0, rfl⟩
   ·exact .inr ⟨h0, g.map f, List.mem_map.2 ⟨g, hg, rfl⟩, h1.map f, by rw [List.length_map]; exact h2⟩
  ·rintro (⟨h0, rfl⟩ | ⟨h0, g, hg, h1, h2⟩)
   ·exact ⟨[], fcs_mem.2 (faL_mem.2 (.inl ⟨h0, rfl⟩)), rfl⟩
   ·obtain ⟨g0, hg0, rfl⟩ := List.mem_map.1 hg
    obtain ⟨y, hy, rfl⟩ := List.sublist_map_iff.1 h1
    exact ⟨y, fcs_mem.2 (faL_mem.2 (.inr ⟨h0, g0, hg0, hy, by simpa using h2⟩)), rfl⟩
theorem nf_cx {ls : List (List Int)} (hs : ∀ l ∈ ls, SA l) (hb : ¬ CxBad ls) (k : Nat) : nf (cxL ls) k = nf ls k := by
 unfold nf cxL
 rw [if_neg hb]
 unfold cxF
 rw [fcs_map (s := cvP ls) (ix_mono (s := cvP ls) (cs_SA _)) (fun l hl => cvP_ins (facP_mem.1 hl).1), List.length_map, fcs_fac hs]
theorem nf_short {F : List (List Int)} {k : Nat} (h : dpt F < k) : nf F k = 0 := by unfold nf; rw [fcs_short h]; rfl
theorem nf_zero (F : List (List Int)) : nf F 0 = 1 := by unfold nf; rw [fcs_zero]; rfl
theorem nf_pos {F : List (List Int)} {k : Nat} (h : k ≤ dpt F) : 0 < nf F k := by
 by_cases hk : k = 0
 ·rw [hk, nf_zero]; omega
 ·have hne : F ≠ [] := fun e => by rw [e] at h; simp [dpt] at h; exact hk h
  obtain ⟨f, hf, hl⟩ := dpt_ex hne
  exact List.length_pos_of_mem (fcs_mem.2 (faL_mem.2 (.inr ⟨by omega, f, hf, List.take_sublist k f, by rw [List.length_take]; omega⟩)) : f.take k ∈ fcs F k)
theorem dpt_of {F G : List (List Int)} (h : ∀ k, nf F k = nf G k) : dpt F = dpt G := by
 have h1 := nf_pos (F := F) (k := dpt F) (Nat.le_refl _)
 have h2 := nf_pos (F := G) (k := dpt G) (Nat.le_refl _)
 rcases Nat.lt_trichotomy (dpt F) (dpt G) with h3 | h3 | h3
 ·rw [← h, nf_short h3] at h2; omega
 ·exact h3
 ·rw [h, nf_short h3] at h1; omega
def at0 (f : List Int) (k : Int) : Int := if 0 ≤ k ∧ k < f.length then gi f k else 0
/-! a vertex left out -/
def delL (F : List (List Int)) (v : Int) : List (List Int) := F.map fun f => lessL f [v]
theorem lessL_one {l : List Int} (h : SA l) {v : Int} (hv : v ∈ l) : (lessL l [v]).length + 1 = l.length := by
 have e : lessL l [v] = l.erase v := by
  rw [h.nodup.erase_eq_filter]
  unfold lessL
  refine List.filter_congr fun x _ => ?_
  by_cases hx : x = v <;> simp [hx]
 have := List.length_pos_of_mem hv
 rw [e, List.length_erase_of_mem hv]
 omega
theorem filter_two {α : Type} (p : α → Bool) : ∀ l : List α, l.length = (l.filter p).length + (l.filter fun x => !p x).length
 | [] => rfl
 | a :: r => by
  have := filter_two p r
  cases h : p a <;> simp [h] <;> omega
theorem cx_fine {ls : List (List Int)} {V : Int} (hV : 0 ≤ V ∧ V ≤ 60) (h6 : ∀ l ∈ ls, l.length ≤ 6) (hx : ∀ l ∈ ls, ∀ x ∈ l, 0 ≤ x ∧ x < V) : (cvP ls).length ≤ 60 := by
 have h1 : Ins (cvP ls) (rngI V.toNat) := fun x hx' => by
  obtain ⟨l, hl, hxl⟩ := List.mem_flatten.1 ((cs_mem _ _).1 hx')
  have := hx l hl x hxl
  exact (rngI_mem _ _).2 ⟨this.1, by omega⟩
 have h2 : (cvP ls).length ≤ (rngI V.toNat).length := Ins.len (cs_SA _) (rngI_SA _) h1
 rw [rngI_len] at h2
 omega
theorem facP_len {ls : List (List Int)} : (facP ls).length ≤ ls.length :=
 Nat.le_trans (List.length_filter_le _ _) (putS_len ls)
theorem Cplx.sub {V : Int} {F : List (List Int)} (hc : Cplx V F) {g : List Int → List Int} (hg : ∀ f ∈ F, (g f).Sublist f) : ¬ CxBad (F.map g) := by
 have h6 : ∀ l ∈ F.map g, l.length ≤ 6 := fun l hl => by
  obtain ⟨f, hf, rfl⟩ := List.mem_map.1 hl
  exact Nat.le_trans (hg f hf).length_le (hc.row f hf).1.2
 rintro (⟨l, hl, h⟩ | h | h)
 ·have := h6 l hl; omega
 ·have := cx_fine hc.v h6 fun l hl x hx => by
   obtain ⟨f, hf, rfl⟩ := List.mem_map.1 hl
   exact (hc.row f hf).2.2 x ((hg f hf).subset hx)
  omega
 ·have h1 := facP_len (ls := F.map g)
  have h2 := hc.f
  rw [List.length_map] at h1
  omega
/-! skeletons -/
def sklL (F : List (List Int)) (k : Nat) : List (List Int) := F.flatMap fun f => ptsP f (min k f.length)
end Go.Proofs.YtiblelgfkakmiaaGreatDoor.Vc
/-
 A vertex left out of a complex, walked on both sides.
-/
namespace Go.Proofs.YtiblelgfkakmiaaGreatDoor.Vc
open Go.RowKit
def dlV (V : Int) (F : List (List Int)) (v : Int) : Int := if Cplx V F ∧ 0 ≤ v ∧ v < V then cxV (delL F v) else 0
def dlL (V : Int) (F : List (List Int)) (v : Int) : List (List Int) := if Cplx V F ∧ 0 ≤ v ∧ v < V then cxL (delL F v) else []
def dlK (V : Int) (F : List (List Int)) (v : Int) : Int := if Cplx V F then (if 0 ≤ v ∧ v < V then cxK (delL F v) else 2) else 1
/-
 Skeletons of complexes, walked on both sides.
-/
def skV (V : Int) (F : List (List Int)) (k : Int) : Int := if Cplx V F ∧ 0 ≤ k ∧ k ≤ 6 then cxV (sklL F k.toNat) else 0
def skL (V : Int) (F : List (List Int)) (k : Int) : List (List Int) := if Cplx V F ∧ 0 ≤ k ∧ k ≤ 6 then cxL (sklL F k.toNat) else []
def skK (V : Int) (F : List (List Int)) (k : Int) : Int := if Cplx V F then (if 0 ≤ k ∧ k ≤ 6 then cxK (sklL F k.toNat) else 2) else 1
theorem l17Append_c {w0 w : World} {ks : List Ck} (i j : Nat) {A B : Option Addr} {n c m d : Nat} {ss ts : List SlV} (hS : St w0 w ks) (hij : i ≠ j) (hi : ks[i]? = some (CkR 28 A n c ss)) (hj : ks[j]? = some (CkR 28 B m d ts)) (hn : n ≤ 1000000) (hm : m ≤ 1000000) :
  Ret Tryz.prog 85 [.slice A n c, .slice B m d] w (fun v w' => ∃ A' c', v = .slice A' (n + m) c' ∧ St w0 w' (ks.set i (CkR 28 A' (n + m) c' (ss ++ ts)))) := by
 have hil : i < ks.length := (List.getElem?_eq_some_iff.1 hi).1
 have htl : ts.length = m := (hS.rdR j hj).1
 have geti : ∀ k, (ks.set i k)[i]? = some k := fun k => by simp [hil]
 have getj : ∀ k, (ks.set i k)[j]? = some (CkR 28 B m d ts) := fun k => by rw [List.getElem?_set_ne hij]; exact hj
 refine Ret.of_cd Tryz.func85 rfl Tryz.ntmps85 rfl (post1 rfl) (Cd.seq (Cd.region (Ops.ms rfl rfl rfl (Ops.n (tQ (Cd.seq (Cd.region (Ops.ms rfl rfl rfl (Ops.ms rfl rfl rfl ?_)))))))))
 refine Ops.n (tQ (Cd.seq (Cd.seq (Cd.region (Ops.mi rfl rfl rfl (Ops.n (tQ (Cd.block ?_))))))))
 refine Cd.loop (α := Nat × Option Addr × Nat) (fun z => [(1, .slice B m d), (5, .slice z.2.1 (n + z.1) z.2.2), (6, .int .i64 (z.1 : Int))]) (fun z w' => z.1 ≤ m ∧ St w0 w' (ks.set i (CkR 28 z.2.1 (n + z.1) z.2.2 (ss ++ ts.take z.1)))) (fun z => m - z.1) (0, A, c) ⟨rfl, rfl, rfl, trivial⟩ ⟨Nat.zero_le _, by
  show St w0 w (ks.set i (CkR 28 A (n + 0) c (ss ++ ts.take 0)))
  rw [List.take_zero, List.append_nil, Nat.add_zero, set_id hi]; exact hS⟩ ?_
 rintro ⟨q, A5, c5⟩ e w1 ⟨hq, hS1⟩
 dsimp only at hq hS1 ⊢
 refine Cd.seq (Cd.seq (Cd.region (Ops.mi rfl rfl rfl (Ops.ms rfl rfl rfl (Ops.len rfl rfl (Ops.lss rfl rfl rfl (Ops.n (tQ ?_))))))))
 refine Cd.cond_p _ rfl (fun h1 => ?_) (fun h1 => ?_)
 ·have hR1 : RdR w1 B m ts := hS1.rdR j (getj _)
  refine Cd.skip (tQ (Cd.seq (Cd.block (Cd.region (Ops.ms rfl rfl rfl (Ops.ms rfl rfl rfl (Ops.mi rfl rfl rfl (Ops.idx hR1.2 rfl rfl rfl (by omega) (by omega) (Ops.ld_sl hR1 rfl (by omega) rfl rfl ?_)))))))))
  refine Ops.bs1R (St.refl w1) rfl rfl rfl ?_
  intro A7 w2 hT2
  have hS2 := hS1.later hT2.below
  refine Ops.appR i hS2 (geti _) (hT2.rdR 0 rfl) rfl rfl rfl (by omega) (by omega) rfl ?_
  intro A8 c8 w3 hS3
  rw [List.set_set] at hS3
  have htk : ts.take (q + 1) = ts.take q ++ [⟨(rg ts (q : Int)).a, (rg ts (q : Int)).n, (rg ts (q : Int)).c⟩] := by
   rw [List.take_succ_eq_append_getElem (by omega)]
   congr 2
   simp [rg, List.getD_eq_getElem?_getD, List.getElem?_eq_getElem (show q < ts.length by omega)]
  refine Ops.ms rfl rfl rfl (Ops.n (blockQ_n (tQ (Cd.region (Ops.mi rfl rfl rfl (Ops.add rfl rfl rfl (by omega) (Ops.mi rfl rfl rfl (Ops.n (tQ ?_)))))))))
  refine ⟨(q + 1, A8, c8), by show m - (q + 1) < m - q; omega, ⟨rfl, rfl, rfl, trivial⟩, by show q + 1 ≤ m; omega, ?_⟩
  show St w0 w3 (ks.set i (CkR 28 A8 (n + (q + 1)) c8 (ss ++ ts.take (q + 1))))
  rw [htk, ← List.append_assoc, ← Nat.add_assoc]
  exact hS3
 ·have hqm : q = m := by omega
  subst hqm
  rw [List.take_of_length_le (by omega)] at hS1
  refine Cd.exit (thenQ_x (thenQ_x (blockQ_x (tQ (Cd.seq (Cd.region (Ops.ms rfl rfl rfl (Ops.ms rfl rfl rfl (Ops.n ?_)))))))))
  refine tQ (Cd.ret (ret1_s rfl ?_))
  exact ⟨A5, c5, rfl, hS1⟩
structure RowsS (w : World) (ks : List Ck) (n : Nat) (rs : List SlV) (xss : List (List Int)) : Prop where
 rl : rs.length = n
 len : xss.length = n
 at_ : ∀ j, j < n → (RdI w (rs.getD j slNil).a (rs.getD j slNil).n (xss.getD j []) ∧ (rs.getD j slNil).n ≤ (rs.getD j slNil).c ∧ (rs.getD j slNil).c ≤ maxLen) ∨ CkI 2 (rs.getD j slNil).a (rs.getD j slNil).n (rs.getD j slNil).c (xss.getD j []) ∈ ks
theorem RowsS.W {w w' : World} {ks ms : List Ck} {n : Nat} {rs : List SlV} {xss : List (List Int)} (h : RowsS w ks n rs xss) (hS : St w w' ms) (hsub : ∀ k ∈ ks, k ∈ ms) : RowsW w' n rs xss := by
 refine ⟨h.rl, h.len, fun j hj => ?_, fun j hj => ?_⟩
 ·rcases h.at_ j hj with ⟨h1, _⟩ | h1
  ·exact hS.oldI h1
  ·obtain ⟨i, hi⟩ := List.mem_iff_getElem?.1 (hsub _ h1)
   exact hS.rdI i hi
 ·rcases h.at_ j hj with ⟨_, h2⟩ | h1
  ·exact h2
  ·obtain ⟨i, hi⟩ := List.mem_iff_getElem?.1 (hsub _ h1)
   exact hS.cap i hi
/-
 The complex of any lists, walked on both sides.
-/
def NegL (ls : List (List Int)) : Prop := ∃ l ∈ ls, ∃ x ∈ l, x < 0
instance (ls : List (List Int)) : Decidable (NegL ls) := by unfold NegL; exact inferInstance
def coV (ls : List (List Int)) : Int := if NegL ls then 0 else cxV (ls.map cs)
def coL (ls : List (List Int)) : List (List Int) := if NegL ls then [] else cxL (ls.map cs)
def coK (ls : List (List Int)) : Int := if NegL ls then 1 else cxK (ls.map cs)
theorem NegL.take {ls : List (List Int)} {i : Nat} (h : i < ls.length) (h1 : ¬ NegL (ls.take i)) (h2 : ∀ x ∈ gl ls (i : Int), ¬ x < 0) : ¬ NegL (ls.take (i + 1)) := by
 rw [take_succ_gl h]
 rintro ⟨l, hl, x, hx, h3⟩
 rcases List.mem_append.1 hl with hl | hl
 ·exact h1 ⟨l, hl, x, hx, h3⟩
 ·obtain rfl : l = gl ls (i : Int) := by simpa using hl
  exact h2 x hx h3
theorem specComplexOf_c (A : Option Addr) (n c : Nat) (rs : List SlV) (ls : List (List Int)) (w : World) (hR : RowsI w A n rs ls) (hn : n ≤ 1000) (hr : ∀ l ∈ ls, l.length ≤ 1000) :
  Ret Tryz.prog 120 [.slice A n c] w (AnsC (coV ls) (coL ls) (coK ls) w) := by
 have hll : ls.length = n := hR.len
 refine Ret.of_cd Tryz.func120 rfl Tryz.ntmps120 rfl (postc2 rfl rfl) (Cd.seq (Cd.region (Ops.new2 (St.refl w) rfl ?_)))
 intro A2 w1 hS1
 have hS1 : St w w1 [cxZ A2] := hS1
 refine Ops.mi rfl rfl rfl (Ops.n (tQ (Cd.seq (Cd.region (Ops.bs0 hS1 rfl ?_)))))
 intro A4 w2 hS2
 have hS2 : St w w2 ([cxZ A2, CkR 28 A4 0 0 []] ++ rowsCk 2 [] ((ls.take 0).map cs)) := hS2.swap
 unfold coV coL coK
 refine Ops.ms rfl rfl rfl (Ops.n (tQ (Cd.seq (Cd.seq (Cd.region (Ops.mi rfl rfl rfl (Ops.n (tQ (Cd.block ?_)))))))))
 refine Cd.loop (α := Nat × (Option Addr × Nat) × List SlV) (fun z => [(0, .slice A n c), (2, .pointer A2), (4, .slice z.2.1.1 z.1 z.2.1.2), (5, .int .i64 (z.1 : Int))]) (fun z w' => z.1 ≤ n ∧ ¬ NegL (ls.take z.1) ∧ z.2.2.length = z.1 ∧ St w w' ([cxZ A2, CkR 28 z.2.1.1 z.1 z.2.1.2 z.2.2] ++ rowsCk 2 z.2.2 ((ls.take z.1).map cs))) (fun z => n - z.1) (0, (A4, 0), []) ⟨rfl, rfl, rfl, rfl, trivial⟩ ⟨Nat.zero_le _, by simp [NegL], rfl, hS2⟩ ?_
 clear hS1 hS2
 rintro ⟨i, ⟨A4, c4⟩, rs4⟩ e w3 ⟨hi, hN, hrl4, hS3⟩
 dsimp only at hi hN hrl4 hS3 ⊢
 refine Cd.seq (Cd.seq (Cd.region (Ops.mi rfl rfl rfl (Ops.ms rfl rfl rfl (Ops.len rfl rfl (Ops.lss rfl rfl rfl (Ops.n (tQ ?_))))))))
 refine Cd.cond_p _ rfl (fun h3 => ?_) (fun h3 => ?_)
 ·have hil : i < ls.length := by omega
  have hlen := hr (gl ls (i : Int)) (by rw [gl_mem hil]; exact List.getElem_mem _)
  refine Cd.skip (tQ (Cd.seq (Cd.block (Cd.seq (Cd.region (Ops.bs0 (St.refl w3) rfl ?_))))))
  intro A6 w4 hT4
  have hT4 : St w3 w4 [CkI 2 A6 (cs ((gl ls (i : Int)).take 0)).length 0 (cs ((gl ls (i : Int)).take 0))] := by rw [List.take_zero, cs_nil]; exact hT4
  refine Ops.ms rfl rfl rfl (Ops.n (tQ (Cd.seq (Cd.seq (Cd.region (Ops.mi rfl rfl rfl (Ops.n (tQ (Cd.block ?_)))))))))
  refine Cd.loop (α := Nat × Option Addr × Nat) (fun z => [(0, .slice A n c), (2, .pointer A2), (4, .slice A4 i c4), (5, .int .i64 (i : Int)), (6, .slice z.2.1 (cs ((gl ls (i : Int)).take z.1)).length z.2.2), (7, .int .i64 (z.1 : Int))]) (fun z w' => z.1 ≤ (gl ls (i : Int)).length ∧ (∀ x ∈ (gl ls (i : Int)).take z.1, ¬ x < 0) ∧ St w3 w' [CkI 2 z.2.1 (cs ((gl ls (i : Int)).take z.1)).length z.2.2 (cs ((gl ls (i : Int)).take z.1))]) (fun z => (gl ls (i : Int)).length - z.1) (0, A6, 0) ⟨rfl, rfl, rfl, rfl, by show Value.slice A6 0 0 = .slice A6 (cs ((gl ls (i : Int)).take 0)).length 0; rw [List.take_zero, cs_nil]; rfl, rfl, trivial⟩ ⟨Nat.zero_le _, by simp, hT4⟩ ?_
  clear hT4
  rintro ⟨k, A6, c6⟩ e w5 ⟨hk, hP, hT5⟩
  dsimp only at hk hP hT5 ⊢
  have hS5 := hS3.later hT5.below
  have hM := hS5.oldRows hR
  have hrow := hM.at_ (i := (i : Int)) (by omega) (by omega)
  have hrl := hrow.1
  have hcl := cs_len ((gl ls (i : Int)).take k)
  have hcl2 : ((gl ls (i : Int)).take k).length ≤ 1000 := by simp; omega
  refine Cd.seq (Cd.seq (Cd.region (Ops.mi rfl rfl rfl (Ops.ms rfl rfl rfl (Ops.mi rfl rfl rfl (Ops.idx hM.top.2 rfl rfl rfl (by omega) (by omega) (Ops.ld_sl hM.top rfl (by omega) rfl rfl (Ops.len rfl rfl (Ops.lss rfl rfl rfl ?_)))))))))
  refine Ops.n (tQ ?_)
  refine Cd.cond_p _ rfl (fun h4 => ?_) (fun h4 => ?_)
  ·have hkl : k < (gl ls (i : Int)).length := by omega
   refine Cd.skip (tQ (Cd.seq (Cd.block (Cd.seq (Cd.seq (Cd.region (Ops.ms rfl rfl rfl (Ops.mi rfl rfl rfl (Ops.idx hM.top.2 rfl rfl rfl (by omega) (by omega) ?_)))))))))
   refine Ops.ld_sl hM.top rfl (by omega) rfl rfl (Ops.mi rfl rfl rfl (Ops.idx hrow.2 rfl rfl rfl (by omega) (by omega) (Ops.ld_int hrow rfl (by omega) rfl rfl (Ops.lss rfl rfl rfl (Ops.n (tQ ?_))))))
   refine Cd.cond_p _ rfl (fun h5 => ?_) (fun h5 => ?_)
   ·have hneg : NegL ls := ⟨gl ls (i : Int), by rw [gl_mem hil]; exact List.getElem_mem _, gi (gl ls (i : Int)) (k : Int), by rw [gi_mem hkl]; exact List.getElem_mem _, h5⟩
    rw [if_pos hneg, if_pos hneg, if_pos hneg]
    refine Cd.seq (Cd.region (Ops.bldZ2 (by exact inferInstance) (by exact inferInstance) rfl rfl rfl (Ops.st_agg 2 0 hS5 rfl rfl rfl rfl rfl rfl rfl ?_)))
    intro w9 hS9
    refine Ops.mi rfl rfl rfl (Ops.n (tQ (Cd.ret (thenQ_r (blockQ_r (thenQ_r (thenQ_r (blockQ_r (thenQ_r ?_)))))))))
    refine blockQ_r (thenQ_r (thenQ_r (blockQ_r (thenQ_r ?_))))
    skip
    refine retc2_r rfl (hS9.rd 0 rfl) rfl ?_
    exact AnsC.none hS9
   ·have htk := take_succ_gi hkl
    have hcc := cs_cs ((gl ls (i : Int)).take k) (gi (gl ls (i : Int)) (k : Int))
    rw [← htk] at hcc
    refine Cd.skip (tQ (Cd.region (Ops.ms rfl rfl rfl (Ops.ms rfl rfl rfl (Ops.mi rfl rfl rfl (Ops.idx hM.top.2 rfl rfl rfl (by omega) (by omega) (Ops.ld_sl hM.top rfl (by omega) rfl rfl (Ops.mi rfl rfl rfl (Ops.idx hrow.2 rfl rfl rfl (by omega) (by omega) ?_)))))))))
    refine Ops.ld_int hrow rfl (by omega) rfl rfl (Ops.call (l17Insert_c A6 _ c6 (cs ((gl ls (i : Int)).take k)) (gi (gl ls (i : Int)) (k : Int)) _ (hT5.rdI 0 rfl) (hT5.cap 0 rfl).1 (by omega) (cs_SA _)) rfl rfl rfl ?_)
    rintro _ w6 ⟨A7, c7, rfl, hb6, hor⟩
    rw [hcc] at hor ⊢
    have hT6 : St w3 w6 [CkI 2 A7 (cs ((gl ls (i : Int)).take (k + 1))).length c7 (cs ((gl ls (i : Int)).take (k + 1)))] := by
     rcases hor with ⟨rfl, rfl, he⟩ | hst
     ·rw [he]; exact hT5.later hb6
     ·exact (hT5.call hst).sub (List.sublist_append_left _ _)
    refine Ops.ms rfl rfl rfl (Ops.n (blockQ_n (tQ (Cd.region (Ops.mi rfl rfl rfl (Ops.add rfl rfl rfl (by omega) (Ops.mi rfl rfl rfl (Ops.n (tQ ?_)))))))))
    refine ⟨(k + 1, A7, c7), by show (gl ls (i : Int)).length - (k + 1) < (gl ls (i : Int)).length - k; omega, ⟨rfl, rfl, rfl, rfl, rfl, rfl, trivial⟩, by show k + 1 ≤ _; omega, ?_, hT6⟩
    show ∀ x ∈ (gl ls (i : Int)).take (k + 1), ¬ x < 0
    rw [htk]
    intro x hx
    rcases List.mem_append.1 hx with hx | hx
    ·exact hP x hx
    ·obtain rfl : x = gi (gl ls (i : Int)) (k : Int) := by simpa using hx
     exact h5
  ·rw [List.take_of_length_le (by omega)] at hP hT5 ⊢
   have hcl3 := cs_len (gl ls (i : Int))
   have hS5 := hS3.call hT5
   refine Cd.exit (thenQ_x (thenQ_x (blockQ_x (tQ (Cd.region (Ops.ms rfl rfl rfl (Ops.ms rfl rfl rfl (Ops.bs1R hS5 rfl rfl rfl ?_))))))))
   intro A7 w6 hS6
   refine Ops.appR 3 hS6 rfl (hS6.rdR 0 rfl) rfl rfl rfl (by omega) (by omega) rfl ?_
   intro A8 c8 w7 hS7
   have hS7 := hS7.tail
   have hsucc : (ls.take (i + 1)).map cs = (ls.take i).map cs ++ [cs (gl ls (i : Int))] := by rw [take_succ_gl hil, List.map_append]; rfl
   refine Ops.ms rfl rfl rfl (Ops.n (blockQ_n (tQ (Cd.region (Ops.mi rfl rfl rfl (Ops.add rfl rfl rfl (by omega) (Ops.mi rfl rfl rfl (Ops.n (tQ ?_)))))))))
   refine ⟨(i + 1, (A8, c8), rs4 ++ [⟨A6, (cs (gl ls (i : Int))).length, c6⟩]), by show n - (i + 1) < n - i; omega, ⟨rfl, rfl, rfl, rfl, trivial⟩, by show i + 1 ≤ n; omega, NegL.take hil hN hP, by show (rs4 ++ [_]).length = i + 1; rw [List.length_append, hrl4]; rfl, ?_⟩
   show St w w7 ([cxZ A2, CkR 28 A8 (i + 1) c8 (rs4 ++ [⟨A6, (cs (gl ls (i : Int))).length, c6⟩])] ++ rowsCk 2 (rs4 ++ [⟨A6, (cs (gl ls (i : Int))).length, c6⟩]) ((ls.take (i + 1)).map cs))
   rw [hsucc, rowsCk_append (by rw [List.length_map, List.length_take, hrl4]; omega), ← List.append_assoc]
   exact hS7.perm (List.perm_append_comm (l₁ := [CkI 2 A6 (cs (gl ls (i : Int))).length c6 (cs (gl ls (i : Int)))]))
 ·have hin : i = n := by omega
  subst hin
  rw [List.take_of_length_le (by omega)] at hN hS3
  rw [if_neg hN, if_neg hN, if_neg hN]
  have hfl : (ls.map cs).flatten.length ≤ 1000 * (ls.map cs).length := flat_le2 fun l hl => by
   obtain ⟨l0, hl0, rfl⟩ := List.mem_map.1 hl
   exact Nat.le_trans (cs_len l0) (hr l0 hl0)
  rw [List.length_map] at hfl
  have hS4 : St w w3 (mat 28 2 A4 (ls.map cs).length c4 rs4 (ls.map cs)) := by rw [List.length_map, hll]; exact hS3.tail
  have hI : RowsI w3 A4 i rs4 (ls.map cs) := by
   have := St.rowsI (ks := []) (by rwa [List.append_nil]) (show (ls.map cs).length = _ from rfl) (w := w3) (A := A4) (rs := rs4)
   rwa [List.length_map, hll] at this
  refine Cd.exit (thenQ_x (thenQ_x (blockQ_x (tQ (Cd.seq (Cd.region (Ops.ms rfl rfl rfl ?_)))))))
  refine Ops.call (l17Make_c A4 _ c4 rs4 (ls.map cs) _ hI (by omega) (by omega) (fun l hl => by obtain ⟨l0, _, rfl⟩ := List.mem_map.1 hl; exact cs_SA l0)) rfl rfl rfl ?_
  rintro _ w6 ⟨A6, c6, rs6, rfl, hrl6, hst6⟩
  have hS6 := (hS3.sub (List.sublist_append_left _ _)).call2 hst6
  refine Ops.extract rfl rfl rfl (Ops.extract rfl rfl rfl (Ops.st_agg 2 0 hS6 rfl rfl rfl rfl rfl rfl rfl ?_))
  intro w7 hS7
  refine Ops.mi rfl rfl rfl (Ops.n (tQ (Cd.ret ?_)))
  skip
  refine retc2_r rfl (hS7.rd 0 rfl) rfl ?_
  exact ⟨A6, c6, rs6, rfl, hrl6, hS7.sub (List.Sublist.cons _ (List.sublist_cons_self _ _))⟩
end Go.Proofs.YtiblelgfkakmiaaGreatDoor.Vc
/-
 Plain mathematics: polynomials told by their coefficients, and what becomes of numbers of faces.
-/
namespace Go.Proofs.YtiblelgfkakmiaaGreatDoor.Vc
def sumN : Nat → (Nat → Int) → Int
 | 0, _ => 0
 | n + 1, g => sumN n g + g n
theorem sumN_congr {g h : Nat → Int} : ∀ {n : Nat}, (∀ i, i < n → g i = h i) → sumN n g = sumN n h
 | 0, _ => rfl
 | n + 1, H => by unfold sumN; rw [sumN_congr (n := n) fun i hi => H i (by omega), H n (by omega)]
theorem sumN_front (g : Nat → Int) : ∀ n : Nat, sumN (n + 1) g = g 0 + sumN n fun i => g (i + 1)
 | 0 => by simp [sumN]
 | n + 1 => by
  have := sumN_front g n
  rw [sumN, this, sumN]
  omega
theorem sumN_add (g h : Nat → Int) : ∀ n : Nat, sumN n (fun i => g i + h i) = sumN n g + sumN n h
 | 0 => rfl
 | n + 1 => by unfold sumN; rw [sumN_add g h n]; show _ + _ + (g n + h n) = _; omega
theorem sumN_mul (a : Int) (g : Nat → Int) : ∀ n : Nat, sumN n (fun i => a * g i) = a * sumN n g
 | 0 => by simp [sumN]
 | n + 1 => by unfold sumN; rw [sumN_mul a g n, Int.mul_add]
theorem sumN_zero : ∀ n : Nat, sumN n (fun _ => 0) = 0
 | 0 => rfl
 | n + 1 => by unfold sumN; rw [sumN_zero n]; rfl
def pX (p : Nat → Int) : Nat → Int
 | 0 => 0
 | n + 1 => p n
def pD (p : Nat → Int) : Nat → Int := fun n => p n - pX p n
def p1 : Nat → Int := fun n => if n = 0 then 1 else 0
def pDn : Nat → Nat → Int
 | 0 => p1
 | m + 1 => pD (pDn m)
def pW : List Int → Nat → Nat → Int
 | [], _ => fun _ => 0
 | a :: r, m => fun n => a * pDn m n + pX (pW r (m - 1)) n
theorem pX_D (p : Nat → Int) : pX (pD p) = pD (pX p) := by
 funext n
 match n with
 | 0 => rfl
 | 1 => show pD p 0 = pX p 1 - pX (pX p) 1; rfl
 | n + 2 => rfl
theorem pX_zero : pX (fun _ => 0) = fun _ => 0 := by funext n; cases n <;> rfl
theorem pW_D : ∀ {f : List Int} {m : Nat}, f.length ≤ m + 1 → pW f (m + 1) = pD (pW f m)
 | [], m, _ => by funext n; cases n <;> rfl
 | a :: r, m, h => by
  have e : pX (pW r m) = pD (pX (pW r (m - 1))) := by
   match r, m, h with
   | [], m, _ => funext n; match n with
    | 0 => rfl
    | 1 => rfl
    | n + 2 => rfl
   | b :: s, m + 1, h =>
    show pX (pW (b :: s) (m + 1)) = pD (pX (pW (b :: s) m))
    rw [pW_D (f := b :: s) (m := m) (by simpa using h), pX_D]
  funext n
  show a * pD (pDn m) n + pX (pW r m) n = (a * pDn m n + pX (pW r (m - 1)) n) - pX (fun n => a * pDn m n + pX (pW r (m - 1)) n) n
  rw [e]
  cases n with
  | zero => simp [pD, pX]
  | succ n => simp only [pD, pX, Int.mul_sub]; omega
theorem pDn_deg : ∀ {m n : Nat}, m < n → pDn m n = 0
 | 0, n, h => by simp [pDn, p1]; omega
 | m + 1, n + 1, h => by
  show pDn m (n + 1) - pDn m n = 0
  rw [pDn_deg (m := m) (by omega), pDn_deg (m := m) (by omega)]; rfl
def conv (p q : Nat → Int) (n : Nat) : Int := sumN (n + 1) fun i => p i * q (n - i)
theorem conv_add (p p' q : Nat → Int) (n : Nat) : conv (fun i => p i + p' i) q n = conv p q n + conv p' q n := by
 unfold conv
 rw [← sumN_add]
 exact sumN_congr fun i _ => Int.add_mul _ _ _
theorem conv_mul (a : Int) (p q : Nat → Int) (n : Nat) : conv (fun i => a * p i) q n = a * conv p q n := by
 unfold conv
 rw [← sumN_mul]
 exact sumN_congr fun i _ => Int.mul_assoc _ _ _
theorem conv_zero (q : Nat → Int) (n : Nat) : conv (fun _ => 0) q n = 0 := by
 unfold conv
 rw [sumN_congr (h := fun _ => 0) fun i _ => Int.zero_mul _]
 exact sumN_zero _
theorem conv_X (p q : Nat → Int) (n : Nat) : conv (pX p) q n = pX (conv p q) n := by
 cases n with
 | zero => simp [conv, sumN, pX]
 | succ n =>
  show sumN (n + 1 + 1) _ = sumN (n + 1) _
  rw [sumN_front]
  simp only [pX, Int.zero_mul, Int.zero_add]
  exact sumN_congr fun i hi => by rw [show n + 1 - (i + 1) = n - i by omega]
theorem conv_D (p q : Nat → Int) (n : Nat) : conv (pD p) q n = pD (conv p q) n := by
 have h : conv (pD p) q n + conv (pX p) q n = conv p q n := by
  rw [← conv_add]
  congr 1
  funext i
  show p i - pX p i + pX p i = p i
  omega
 rw [conv_X] at h
 show _ = conv p q n - pX (conv p q) n
 omega
theorem conv_one (q : Nat → Int) (n : Nat) : conv p1 q n = q n := by
 unfold conv
 rw [sumN_front, sumN_congr (h := fun _ => 0) (n := n) fun i _ => by simp [p1], sumN_zero]
 simp [p1]
theorem conv_Dn {g : List Int} {k : Nat} (hg : g.length ≤ k + 1) : ∀ m n : Nat, conv (pDn m) (pW g k) n = pW g (m + k) n
 | 0, n => by rw [Nat.zero_add]; exact conv_one _ n
 | m + 1, n => by
  show conv (pD (pDn m)) (pW g k) n = _
  rw [conv_D, show conv (pDn m) (pW g k) = pW g (m + k) from funext (conv_Dn hg m), show m + 1 + k = m + k + 1 by omega, pW_D (by omega)]
/-! lists of coefficients -/
def addL : List Int → List Int → List Int
 | [], g => g
 | f, [] => f
 | a :: f, b :: g => (a + b) :: addL f g
def cvl : List Int → List Int → List Int
 | [], _ => []
 | a :: r, g => addL (g.map (a * ·)) (0 :: cvl r g)
theorem addL_len : ∀ f g : List Int, (addL f g).length = max f.length g.length
 | [], g => by simp [addL]
 | a :: f, [] => by simp [addL]
 | a :: f, b :: g => by simp [addL, addL_len f g]
theorem addL_at : ∀ (f g : List Int) (n : Nat), (addL f g).getD n 0 = f.getD n 0 + g.getD n 0
 | [], g, n => by simp [addL]
 | a :: f, [], n => by simp [addL]
 | a :: f, b :: g, 0 => by simp [addL]
 | a :: f, b :: g, n + 1 => by simpa [addL] using addL_at f g n
theorem getD_map (a : Int) (g : List Int) (n : Nat) : (g.map (a * ·)).getD n 0 = a * g.getD n 0 := by
 simp only [List.getD_eq_getElem?_getD, List.getElem?_map]
 cases g[n]? <;> simp
theorem getD_cons0 (l : List Int) : (fun n => ((0 : Int) :: l).getD n 0) = pX fun n => l.getD n 0 := by
 funext n; cases n <;> rfl
theorem pW_add : ∀ (f g : List Int) (m n : Nat), pW (addL f g) m n = pW f m n + pW g m n
 | [], g, m, n => by show _ = 0 + _; simp [addL]
 | a :: f, [], m, n => by show _ = _ + 0; simp [addL]
 | a :: f, b :: g, m, n => by
  show (a + b) * pDn m n + pX (pW (addL f g) (m - 1)) n = (a * pDn m n + pX (pW f (m - 1)) n) + (b * pDn m n + pX (pW g (m - 1)) n)
  cases n with
  | zero => simp only [pX, Int.add_mul]; omega
  | succ n => simp only [pX, Int.add_mul, pW_add f g (m - 1) n]; omega
theorem pW_smul (a : Int) : ∀ (g : List Int) (m n : Nat), pW (g.map (a * ·)) m n = a * pW g m n
 | [], m, n => by show 0 = a * 0; simp
 | b :: g, m, n => by
  show (a * b) * pDn m n + pX (pW (g.map (a * ·)) (m - 1)) n = a * (b * pDn m n + pX (pW g (m - 1)) n)
  cases n with
  | zero => simp only [pX, Int.mul_add, Int.mul_assoc]; simp
  | succ n => simp only [pX, Int.mul_add, Int.mul_assoc, pW_smul a g (m - 1) n]
def hP (f : List Int) : List Int := (List.range f.length).map (pW f (f.length - 1))
theorem sumN_X (p : Nat → Int) (n : Nat) : sumN (n + 1) (pX p) = sumN n p := by
 rw [sumN_front]
 show 0 + sumN n p = _
 omega
theorem sumN_D (p : Nat → Int) (n : Nat) : sumN (n + 1) (pD p) = p n := by
 induction n with
 | zero => simp [sumN, pD, pX]
 | succ n ih => rw [sumN, ih]; show p n + (p (n + 1) - p n) = _; omega
/-
 Plain mathematics of complexes: the join of two, and its numbers of faces.
-/
def jnL (V : Int) (F G : List (List Int)) : List (List Int) := F.flatMap fun a => G.map fun b => a ++ b.map (V + ·)
def jnS (V : Int) (F G : List (List Int)) : List (List Int) := if F = [] ∨ G = [] then F ++ G else jnL V F G
theorem jnL_mem {V : Int} {F G : List (List Int)} {x : List Int} : x ∈ jnL V F G ↔ ∃ a ∈ F, ∃ b ∈ G, x = a ++ b.map (V + ·) := by
 unfold jnL
 rw [List.mem_flatMap]
 constructor
 ·rintro ⟨a, ha, h⟩
  obtain ⟨b, hb, rfl⟩ := List.mem_map.1 h
  exact ⟨a, ha, b, hb, rfl⟩
 ·rintro ⟨a, ha, b, hb, rfl⟩
  exact ⟨a, ha, List.mem_map.2 ⟨b, hb, rfl⟩⟩
theorem len_prod {α β γ : Type} (A : List α) (B : List β) (f : α → β → γ) : (A.flatMap fun y => B.map fun z => f y z).length = A.length * B.length := by
 induction A with
 | nil => simp
 | cons a r ih => rw [List.flatMap_cons, List.length_append, List.length_map, ih, List.length_cons, Nat.add_mul, Nat.one_mul, Nat.add_comm]
def jnF (V : Int) (F G : List (List Int)) (k : Nat) : List (List Int) := (List.range (k + 1)).flatMap fun i => (fcs F i).flatMap fun y => (fcs G (k - i)).map fun z => y ++ z.map (V + ·)
theorem jn_dpt {V : Int} {F G : List (List Int)} (hF : F ≠ []) (hG : G ≠ []) : dpt (jnL V F G) = dpt F + dpt G := by
 obtain ⟨a, ha, h1⟩ := dpt_ex hF
 obtain ⟨b, hb, h2⟩ := dpt_ex hG
 have h3 := dpt_le (jnL_mem.2 ⟨a, ha, b, hb, rfl⟩ : a ++ b.map (V + ·) ∈ jnL V F G)
 rw [List.length_append, List.length_map] at h3
 have h4 : dpt (jnL V F G) ≤ dpt F + dpt G := dpt_bd fun x hx => by
  obtain ⟨a, ha, b, hb, rfl⟩ := jnL_mem.1 hx
  have := dpt_le ha
  have := dpt_le hb
  rw [List.length_append, List.length_map]; omega
 omega
theorem jnS_sa {V W : Int} {F G : List (List Int)} (hF : Cplx V F) (hG : Cplx W G) : ∀ l ∈ jnS V F G, SA l := fun l hl => by
 unfold jnS at hl
 split at hl
 ·rcases List.mem_append.1 hl with h | h
  ·exact (hF.row l h).2.1
  ·exact (hG.row l h).2.1
 ·obtain ⟨a, ha, b, hb, rfl⟩ := jnL_mem.1 hl
  refine List.pairwise_append.2 ⟨(hF.row a ha).2.1, List.pairwise_map.2 ((hG.row b hb).2.1.imp fun h => by omega), fun x hx y hy => ?_⟩
  obtain ⟨z, hz, rfl⟩ := List.mem_map.1 hy
  have h1 := (hF.row a ha).2.2 x hx
  have h2 := (hG.row b hb).2.2 z hz
  omega
end Go.Proofs.YtiblelgfkakmiaaGreatDoor.Vc
/-
 Joins of complexes, walked in the program.
-/
namespace Go.Proofs.YtiblelgfkakmiaaGreatDoor.Vc
open Go.RowKit
def JnBig (F G : List (List Int)) : Prop := F ≠ [] ∧ G ≠ [] ∧ 400 < F.length * G.length
instance (F G : List (List Int)) : Decidable (JnBig F G) := by unfold JnBig; exact inferInstance
def jnV (V : Int) (F G : List (List Int)) : Int := if JnBig F G then 0 else cxV (jnS V F G)
def jnLs (V : Int) (F G : List (List Int)) : List (List Int) := if JnBig F G then [] else cxL (jnS V F G)
def jnK (V : Int) (F G : List (List Int)) : Int := if JnBig F G then 3 else cxK (jnS V F G)
def jnG (V : Int) (F G : List (List Int)) (i k : Nat) : List (List Int) := jnL V (F.take i) G ++ (G.take k).map fun b => gl F (i : Int) ++ b.map (V + ·)
theorem jnG_zero (V : Int) (F G : List (List Int)) (i : Nat) : jnG V F G i 0 = jnL V (F.take i) G := by simp [jnG]
theorem jnG_all {V : Int} {F G : List (List Int)} {i : Nat} (h : i < F.length) : jnG V F G i G.length = jnG V F G (i + 1) 0 := by
 rw [jnG_zero]
 unfold jnG jnL
 rw [List.take_length, take_succ_gl h, List.flatMap_append]
 simp
theorem jnG_succ {V : Int} {F G : List (List Int)} {i k : Nat} (h : k < G.length) : jnG V F G i (k + 1) = jnG V F G i k ++ [gl F (i : Int) ++ (gl G (k : Int)).map (V + ·)] := by
 unfold jnG
 rw [take_succ_gl h, List.map_append, List.append_assoc]; rfl
theorem jnG_end (V : Int) (F G : List (List Int)) : jnG V F G F.length 0 = jnL V F G := by rw [jnG_zero, List.take_length]
theorem jnL_len (V : Int) (F G : List (List Int)) : (jnL V F G).length = F.length * G.length := len_prod F G _
theorem jnG_len {V : Int} {F G : List (List Int)} {i k : Nat} (hi : i < F.length) (hk : k ≤ G.length) : (jnG V F G i k).length ≤ F.length * G.length := by
 unfold jnG
 rw [List.length_append, jnL_len, List.length_map, List.length_take, List.length_take, Nat.min_eq_left (by omega), Nat.min_eq_left hk]
 have h1 : (i + 1) * G.length ≤ F.length * G.length := Nat.mul_le_mul_right _ (by omega)
 rw [Nat.add_mul, Nat.one_mul] at h1
 omega
theorem jn_small {F G : List (List Int)} (hF : F ≠ []) (hG : G ≠ []) (h : ¬ JnBig F G) : F.length * G.length ≤ 400 := Nat.le_of_not_lt fun h' => h ⟨hF, hG, h'⟩
theorem Cplx.jn {V W : Int} {F G : List (List Int)} (hF : Cplx V F) (hG : Cplx W G) (h : ¬ JnBig F G) : (jnS V F G).length ≤ 800 ∧ (∀ l ∈ jnS V F G, SA l ∧ l.length ≤ 12) ∧ (jnS V F G).flatten.length ≤ 9600 := by
 have h2 : ∀ l ∈ jnS V F G, SA l ∧ l.length ≤ 12 := fun l hl => by
  refine ⟨jnS_sa hF hG l hl, ?_⟩
  unfold jnS at hl
  split at hl
  ·rcases List.mem_append.1 hl with h | h
   ·have := (hF.row l h).1; omega
   ·have := (hG.row l h).1; omega
  ·obtain ⟨a, ha, b, hb, rfl⟩ := jnL_mem.1 hl
   have := (hF.row a ha).1
   have := (hG.row b hb).1
   rw [List.length_append, List.length_map]; omega
 have h1 : (jnS V F G).length ≤ 800 := by
  have := hF.f
  have := hG.f
  unfold jnS
  split
  ·rw [List.length_append]; omega
  ·rename_i h3
   rw [jnL_len]
   have := jn_small (fun e => h3 (.inl e)) (fun e => h3 (.inr e)) h
   omega
 refine ⟨h1, h2, ?_⟩
 have := flat_le2 (b := 12) fun l hl => (h2 l hl).2
 omega
set_option maxHeartbeats 1000000 in
theorem joined_c (V : Int) (A : Option Addr) (n c : Nat) (rs : List SlV) (F : List (List Int)) (W : Int) (B : Option Addr) (m d : Nat) (ts : List SlV) (G : List (List Int)) (w : World) (hT : Tab w) (hR : RowsI w A n rs F) (hQ : RowsI w B m ts G) (hF : Cplx V F) (hG : Cplx W G) :
    Ret Tryz.prog 44 [.agg #[.int .i64 V, .slice A n c], .agg #[.int .i64 W, .slice B m d]] w (AnsC (jnV V F G) (jnLs V F G) (jnK V F G) w) := by
  have hFl := hR.len
  have hGl := hQ.len
  have hn4 := hF.f
  have hm4 := hG.f
  have hV := hF.v
  refine Ret.of_cd Tryz.func44 rfl Tryz.ntmps44 rfl (postc2 rfl rfl) (Cd.seq (Cd.region (Ops.box2 (St.refl w) rfl rfl ?_)))
  intro A2 w1 hS1
  refine Ops.box2 hS1 rfl rfl ?_
  intro A3 w2 hS2
  refine Ops.new2 hS2 rfl ?_
  intro A4 w3 hS3
  have hS3 : St w w3 [cxZ A4, cxB A3 W B m d, cxB A2 V A n c] := hS3
  clear hS1 hS2
  refine Ops.mi rfl rfl rfl (Ops.n (tQ (Cd.seq (Cd.seq (Cd.region (Ops.fld (hS3.rd 2 rfl) rfl rfl rfl rfl inferInstance (Ops.ldf_s (hS3.rd 2 rfl) rfl rfl rfl rfl rfl (Ops.len rfl rfl (Ops.eql rfl rfl rfl ?_)))))))))
  refine Ops.n (tQ ?_)
  refine Cd.cond_p _ rfl (fun h1 => ?_) (fun h1 => ?_)
  · have hF0 : F = [] := List.eq_nil_of_length_eq_zero (by omega)
    have hbig : ¬ JnBig F G := fun h => h.1 hF0
    obtain ⟨hL1, hL2, hL3⟩ := hF.jn hG hbig
    have hjs : jnS V F G = G := by unfold jnS; rw [if_pos (.inl hF0), hF0]; rfl
    rw [hjs] at hL1 hL2 hL3
    unfold jnV jnLs jnK
    rw [if_neg hbig, if_neg hbig, if_neg hbig, hjs]
    refine Cd.region (Ops.ld_agg 1 (hS3.rd 1 rfl) rfl rfl rfl (Ops.ld_agg 1 (hS3.rd 2 rfl) rfl rfl rfl (Ops.st_agg 2 2 hS3 rfl rfl rfl rfl rfl rfl rfl ?_)))
    intro w4 hS4
    refine Ops.st_agg 2 1 hS4 rfl rfl rfl rfl rfl rfl rfl ?_
    intro w5 hS5
    have hS4 : St w w5 [cxZ A4, cxB A3 V A n c, cxB A2 W B m d] := hS5
    clear hS5 hS3
    refine Ops.n (tQ (Cd.seq (Cd.region (Ops.fld (hS4.rd 2 rfl) rfl rfl rfl rfl inferInstance (Ops.ldf_s (hS4.rd 2 rfl) rfl rfl rfl rfl rfl (Ops.ms rfl rfl rfl (Ops.n (tQ (Cd.seq ?_)))))))))
    refine Cd.seq (Cd.region (Ops.fld (hS4.rd 1 rfl) rfl rfl rfl rfl inferInstance (Ops.ldf_s (hS4.rd 1 rfl) rfl rfl rfl rfl rfl (Ops.len rfl rfl (Ops.gtr rfl rfl rfl (Ops.n (tQ (Cd.cond_pf rfl (by omega) ?_))))))))
    have hC := complexOf_c B m d ts G w5 (hT.later hS4.below) (hS4.oldRows hQ) (by omega) (fun l hl => by have := (hL2 l hl).2; omega)
    rw [map_cs_id fun l hl => (hL2 l hl).1] at hC
    refine Cd.skip (tQ (Cd.seq (Cd.region (Ops.ms rfl rfl rfl (Ops.call hC rfl rfl rfl ?_)))))
    rintro _ w6 ⟨A9, c9, rs9, rfl, hrl9, hst6⟩
    have hS6 := hS4.call2 hst6
    refine Ops.extract rfl rfl rfl (Ops.extract rfl rfl rfl (Ops.st_agg 2 0 hS6 rfl rfl rfl rfl rfl rfl rfl ?_))
    intro w7 hS7
    refine Ops.mi rfl rfl rfl (Ops.n (tQ (Cd.ret ?_)))
    skip
    refine retc2_r rfl (hS7.rd 0 rfl) rfl ?_
    exact ⟨A9, c9, rs9, rfl, hrl9, hS7.sub (List.Sublist.cons _ (List.Sublist.cons _ (List.sublist_cons_self _ _)))⟩
  · have hF0 : F ≠ [] := fun e => h1 (by rw [e] at hFl; simp at hFl; omega)
    refine Cd.skip (tQ (Cd.seq (Cd.region (Ops.fld (hS3.rd 2 rfl) rfl rfl rfl rfl inferInstance (Ops.ldf_s (hS3.rd 2 rfl) rfl rfl rfl rfl rfl (Ops.ms rfl rfl rfl (Ops.n (tQ (Cd.seq ?_)))))))))
    refine Cd.seq (Cd.region (Ops.fld (hS3.rd 1 rfl) rfl rfl rfl rfl inferInstance (Ops.ldf_s (hS3.rd 1 rfl) rfl rfl rfl rfl rfl (Ops.len rfl rfl (Ops.gtr rfl rfl rfl (Ops.n (tQ ?_)))))))
    refine Cd.cond_p _ rfl (fun h2 => ?_) (fun h2 => ?_)
    · have hG0 : G ≠ [] := fun e => by rw [e] at hGl; simp at hGl; omega
      have hnm : (n : Int) * m = ((n * m : Nat) : Int) := (Int.natCast_mul _ _).symm
      have hnm2 : n * m ≤ 400 * 400 := Nat.mul_le_mul (by omega) (by omega)
      refine Cd.seq (Cd.seq (Cd.region (Ops.fld (hS3.rd 2 rfl) rfl rfl rfl rfl inferInstance (Ops.ldf_s (hS3.rd 2 rfl) rfl rfl rfl rfl rfl (Ops.len rfl rfl (Ops.fld (hS3.rd 1 rfl) rfl rfl rfl rfl inferInstance (Ops.ldf_s (hS3.rd 1 rfl) rfl rfl rfl rfl rfl (Ops.len rfl rfl (Ops.mul rfl rfl rfl (by omega) ?_)))))))))
      rw [hnm]
      refine Ops.gtr rfl rfl rfl (Ops.n (tQ ?_))
      refine Cd.cond_p _ rfl (fun h3 => ?_) (fun h3 => ?_)
      · have hbig : JnBig F G := ⟨hF0, hG0, by rw [hFl, hGl]; omega⟩
        unfold jnV jnLs jnK
        rw [if_pos hbig, if_pos hbig, if_pos hbig]
        refine Cd.seq (Cd.region (Ops.bldZ2 (by exact inferInstance) (by exact inferInstance) rfl rfl rfl (Ops.st_agg 2 0 hS3 rfl rfl rfl rfl rfl rfl rfl ?_)))
        intro w9 hS9
        refine Ops.mi rfl rfl rfl (Ops.n (tQ (Cd.ret (thenQ_r (thenQ_r ?_)))))
        skip
        refine retc2_r rfl (hS9.rd 0 rfl) rfl ?_
        exact AnsC.none hS9
      · have hbig : ¬ JnBig F G := fun h => h3 (by have := h.2.2; rw [hFl, hGl] at this; omega)
        obtain ⟨hL1, hL2, hL3⟩ := hF.jn hG hbig
        have hjs : jnS V F G = jnL V F G := by unfold jnS; rw [if_neg (by simp [hF0, hG0])]
        rw [hjs] at hL1 hL2 hL3
        unfold jnV jnLs jnK
        rw [if_neg hbig, if_neg hbig, if_neg hbig, hjs]
        have hFG : F.length * G.length ≤ 400 := jn_small hF0 hG0 hbig
        refine Cd.skip (tQ (Cd.seq (Cd.region (Ops.ms rfl rfl rfl (Ops.n (tQ (Cd.seq (Cd.region (Ops.fld (hS3.rd 2 rfl) rfl rfl rfl rfl inferInstance ?_)))))))))
        refine Ops.ldf_s (hS3.rd 2 rfl) rfl rfl rfl rfl rfl (Ops.len rfl rfl (Ops.mi rfl rfl rfl (Ops.n (tQ (Cd.block ?_)))))
        have hS5 : St w w3 ([cxZ A4, cxB A3 W B m d, cxB A2 V A n c, CkR 28 none (jnG V F G 0 0).length 0 []] ++ rowsCk 2 [] (jnG V F G 0 0)) := by
          rw [jnG_zero]
          exact (hS3.nil 28).perm (List.perm_append_comm (l₁ := [CkR 28 none 0 0 []]) (l₂ := [_, _, _]))
        have hlen00 : (jnG V F G 0 0).length = 0 := by rw [jnG_zero]; rfl
        refine Cd.loop (α := Nat × (Option Addr × Nat) × List SlV) (fun z => [(2, .pointer A2), (3, .pointer A3), (4, .pointer A4), (6, .slice z.2.1.1 (jnG V F G z.1 0).length z.2.1.2), (36, .slice A n c), (37, .int .i64 (n : Int)), (38, .int .i64 (z.1 : Int))])
          (fun z w' => z.1 ≤ n ∧ z.2.2.length = (jnG V F G z.1 0).length ∧ St w w' ([cxZ A4, cxB A3 W B m d, cxB A2 V A n c, CkR 28 z.2.1.1 (jnG V F G z.1 0).length z.2.1.2 z.2.2] ++ rowsCk 2 z.2.2 (jnG V F G z.1 0))) (fun z => n - z.1) (0, (none, 0), []) ⟨rfl, rfl, rfl, by show Value.slice none 0 0 = .slice none (jnG V F G 0 0).length 0; rw [hlen00], rfl, rfl, rfl, trivial⟩ ⟨Nat.zero_le _, by show 0 = _; rw [hlen00], hS5⟩ ?_
        clear hS5 hS3
        rintro ⟨i, ⟨A6, c6⟩, rs6⟩ e w4 ⟨hi, hrl6, hS4⟩
        dsimp only at hi hrl6 hS4 ⊢
        refine Cd.seq (Cd.region (Ops.lss rfl rfl rfl (Ops.n (tQ (Cd.seq ?_)))))
        refine Cd.cond_p _ rfl (fun h4 => ?_) (fun h4 => ?_)
        · have hiF : i < F.length := by omega
          have hM := hS4.oldRows hR
          have hrowA := hR.at_ (i := (i : Int)) (by omega) (by omega)
          have hrlA := hrowA.1
          have hfA := (hF.at_ hiF).1
          refine Cd.skip (tQ (Cd.seq (Cd.block (Cd.seq (Cd.region (Ops.idx hM.top.2 rfl rfl rfl (by omega) (by omega) (Ops.ld_sl hM.top rfl (by omega) rfl rfl (Ops.ms rfl rfl rfl (Ops.n ?_)))))))))
          refine tQ (Cd.seq (Cd.region (Ops.fld (hS4.rd 1 rfl) rfl rfl rfl rfl inferInstance (Ops.ldf_s (hS4.rd 1 rfl) rfl rfl rfl rfl rfl (Ops.len rfl rfl (Ops.mi rfl rfl rfl (Ops.n (tQ (Cd.block ?_)))))))))
          refine Cd.loop (α := Nat × (Option Addr × Nat) × List SlV) (fun z => [(2, .pointer A2), (3, .pointer A3), (4, .pointer A4), (6, .slice z.2.1.1 (jnG V F G i z.1).length z.2.1.2), (8, .slice (rg rs (i : Int)).a (rg rs (i : Int)).n (rg rs (i : Int)).c), (36, .slice A n c), (37, .int .i64 (n : Int)), (38, .int .i64 (i : Int)), (43, .slice B m d), (44, .int .i64 (m : Int)), (45, .int .i64 (z.1 : Int))])
            (fun z w' => z.1 ≤ m ∧ z.2.2.length = (jnG V F G i z.1).length ∧ St w w' ([cxZ A4, cxB A3 W B m d, cxB A2 V A n c, CkR 28 z.2.1.1 (jnG V F G i z.1).length z.2.1.2 z.2.2] ++ rowsCk 2 z.2.2 (jnG V F G i z.1))) (fun z => m - z.1) (0, (A6, c6), rs6) ⟨rfl, rfl, rfl, rfl, rfl, rfl, rfl, rfl, rfl, rfl, rfl, trivial⟩ ⟨Nat.zero_le _, hrl6, hS4⟩ ?_
          clear hS4 hrl6 hM
          rintro ⟨k, ⟨A6, c6⟩, rs6⟩ e w4 ⟨hk, hrl6, hS4⟩
          dsimp only at hk hrl6 hS4 ⊢
          have hll := jnG_len (V := V) hiF (show k ≤ G.length by omega)
          refine Cd.seq (Cd.region (Ops.lss rfl rfl rfl (Ops.n (tQ (Cd.seq ?_)))))
          refine Cd.cond_p _ rfl (fun h5 => ?_) (fun h5 => ?_)
          · have hkG : k < G.length := by omega
            have hM := hS4.oldRows hQ
            have hrowB := hQ.at_ (i := (k : Int)) (by omega) (by omega)
            have hrlB := hrowB.1
            have hfB := hG.at_ hkG
            have hGv := hG.v
            refine Cd.skip (tQ (Cd.seq (Cd.block (Cd.seq (Cd.region (Ops.idx hM.top.2 rfl rfl rfl (by omega) (by omega) (Ops.ld_sl hM.top rfl (by omega) rfl rfl (Ops.ms rfl rfl rfl (Ops.n ?_)))))))))
            refine tQ (Cd.seq (Cd.region (Ops.ms rfl rfl rfl (Ops.call (Clone_c _ _ _ (gl F (i : Int)) _ (hS4.oldI hrowA) (by omega)) rfl rfl rfl ?_))))
            rintro _ w5 ⟨A11, c11, rfl, hT5⟩
            have hS5 : St w w5 (CkI 2 A11 ((rg rs (i : Int)).n + 0) c11 (gl F (i : Int) ++ ((gl G (k : Int)).take 0).map (V + ·)) :: ([cxZ A4, cxB A3 W B m d, cxB A2 V A n c, CkR 28 A6 (jnG V F G i k).length c6 rs6] ++ rowsCk 2 rs6 (jnG V F G i k))) := by
              rw [List.take_zero, List.map_nil, List.append_nil]
              exact hS4.call hT5
            refine Ops.ms rfl rfl rfl (Ops.n (tQ (Cd.seq (Cd.seq (Cd.region (Ops.ms rfl rfl rfl (Ops.len rfl rfl (Ops.mi rfl rfl rfl (Ops.n ?_)))))))))
            refine tQ (Cd.block ?_)
            refine Cd.loop (α := Nat × Option Addr × Nat) (fun z => [(2, .pointer A2), (3, .pointer A3), (4, .pointer A4), (6, .slice A6 (jnG V F G i k).length c6), (8, .slice (rg rs (i : Int)).a (rg rs (i : Int)).n (rg rs (i : Int)).c), (11, .slice z.2.1 ((rg rs (i : Int)).n + z.1) z.2.2), (36, .slice A n c), (37, .int .i64 (n : Int)), (38, .int .i64 (i : Int)), (43, .slice B m d), (44, .int .i64 (m : Int)), (45, .int .i64 (k : Int)), (51, .slice (rg ts (k : Int)).a (rg ts (k : Int)).n (rg ts (k : Int)).c), (52, .int .i64 ((rg ts (k : Int)).n : Int)), (53, .int .i64 (z.1 : Int))])
              (fun z w' => z.1 ≤ (rg ts (k : Int)).n ∧ St w w' (CkI 2 z.2.1 ((rg rs (i : Int)).n + z.1) z.2.2 (gl F (i : Int) ++ ((gl G (k : Int)).take z.1).map (V + ·)) :: ([cxZ A4, cxB A3 W B m d, cxB A2 V A n c, CkR 28 A6 (jnG V F G i k).length c6 rs6] ++ rowsCk 2 rs6 (jnG V F G i k)))) (fun z => (rg ts (k : Int)).n - z.1) (0, A11, c11) ⟨rfl, rfl, rfl, rfl, rfl, rfl, rfl, rfl, rfl, rfl, rfl, rfl, rfl, rfl, rfl, trivial⟩ ⟨Nat.zero_le _, hS5⟩ ?_
            clear hS5 hT5 hS4 hM
            rintro ⟨j, A11, c11⟩ e w6 ⟨hj, hS6⟩
            dsimp only at hj hS6 ⊢
            refine Cd.seq (Cd.region (Ops.lss rfl rfl rfl (Ops.n (tQ (Cd.seq ?_)))))
            refine Cd.cond_p _ rfl (fun h6 => ?_) (fun h6 => ?_)
            · have hB6 := hS6.oldI hrowB
              have hgv := hfB.2.2 (gi (gl G (k : Int)) (j : Int)) (by rw [gi_mem (show j < (gl G (k : Int)).length by omega)]; exact List.getElem_mem _)
              refine Cd.skip (tQ (Cd.seq (Cd.block (Cd.seq (Cd.region (Ops.idx hB6.2 rfl rfl rfl (by omega) (by omega) (Ops.ld_int hB6 rfl (by omega) rfl rfl (Ops.mi rfl rfl rfl (Ops.n ?_)))))))))
              refine tQ (Cd.region (Ops.ms rfl rfl rfl (Ops.fld (hS6.rd 3 rfl) rfl rfl rfl rfl inferInstance (Ops.ldf_i (hS6.rd 3 rfl) rfl rfl rfl rfl rfl (Ops.mi rfl rfl rfl (Ops.add rfl rfl rfl (by omega) (Ops.bs1I hS6 rfl rfl rfl ?_)))))))
              intro A12 w7 hS7
              refine Ops.appI 1 hS7 rfl (hS7.rdI 0 rfl) rfl rfl rfl (by omega) (by omega) rfl ?_
              intro A13 c13 w8 hS8
              have hS8 := hS8.tail
              have htk : ((gl G (k : Int)).take (j + 1)).map (V + ·) = ((gl G (k : Int)).take j).map (V + ·) ++ [V + gi (gl G (k : Int)) (j : Int)] := by rw [take_succ_gi (by omega), List.map_append]; rfl
              refine Ops.ms rfl rfl rfl (Ops.n (blockQ_n (tQ (Cd.region (Ops.add rfl rfl rfl (by omega) (Ops.mi rfl rfl rfl (Ops.n (tQ ?_))))))))
              refine ⟨(j + 1, A13, c13), by show (rg ts (k : Int)).n - (j + 1) < (rg ts (k : Int)).n - j; omega, ⟨rfl, rfl, rfl, rfl, rfl, rfl, rfl, rfl, rfl, rfl, rfl, rfl, rfl, rfl, rfl, trivial⟩, by show j + 1 ≤ _; omega, ?_⟩
              show St w w8 (CkI 2 A13 ((rg rs (i : Int)).n + (j + 1)) c13 (gl F (i : Int) ++ ((gl G (k : Int)).take (j + 1)).map (V + ·)) :: _)
              rw [htk, ← List.append_assoc, ← Nat.add_assoc]
              exact hS8
            · rw [List.take_of_length_le (by omega)] at hS6
              have hjn : j = (gl G (k : Int)).length := by omega
              have hl : (rg rs (i : Int)).n + j = (gl F (i : Int) ++ (gl G (k : Int)).map (V + ·)).length := by rw [List.length_append, List.length_map]; omega
              rw [hl] at hS6 ⊢
              have hsucc := jnG_succ (V := V) (F := F) (i := i) hkG
              have hl1 : (jnG V F G i (k + 1)).length = (jnG V F G i k).length + 1 := by rw [hsucc, List.length_append]; rfl
              generalize hrow : gl F (i : Int) ++ (gl G (k : Int)).map (V + ·) = row at *
              refine Cd.exit (thenQ_x (thenQ_x (blockQ_x (tQ (Cd.region (Ops.ms rfl rfl rfl (Ops.ms rfl rfl rfl (Ops.bs1R hS6 rfl rfl rfl ?_))))))))
              intro A14 w7 hS7
              refine Ops.appR 5 hS7 rfl (hS7.rdR 0 rfl) rfl rfl rfl (by omega) (by omega) rfl ?_
              intro A15 c15 w8 hS8
              have hS8 : St w w8 (CkI 2 A11 row.length c11 row :: ([cxZ A4, cxB A3 W B m d, cxB A2 V A n c, CkR 28 A15 ((jnG V F G i k).length + 1) c15 (rs6 ++ [⟨A11, row.length, c11⟩])] ++ rowsCk 2 rs6 (jnG V F G i k))) := hS8.tail
              refine Ops.ms rfl rfl rfl (Ops.n (blockQ_n (tQ (Cd.region (Ops.add rfl rfl rfl (by omega) (Ops.mi rfl rfl rfl (Ops.n (tQ ?_))))))))
              refine ⟨(k + 1, (A15, c15), rs6 ++ [⟨A11, row.length, c11⟩]), by show m - (k + 1) < m - k; omega, ⟨rfl, rfl, rfl, by show Value.slice A15 ((jnG V F G i k).length + 1) c15 = .slice A15 (jnG V F G i (k + 1)).length c15; rw [hl1], rfl, rfl, rfl, rfl, rfl, rfl, rfl, trivial⟩, by show k + 1 ≤ m; omega, by show (rs6 ++ [_]).length = _; rw [hl1, List.length_append, hrl6]; rfl, ?_⟩
              show St w w8 ([cxZ A4, cxB A3 W B m d, cxB A2 V A n c, CkR 28 A15 (jnG V F G i (k + 1)).length c15 (rs6 ++ [⟨A11, row.length, c11⟩])] ++ rowsCk 2 (rs6 ++ [⟨A11, row.length, c11⟩]) (jnG V F G i (k + 1)))
              rw [hl1, hsucc, rowsCk_append hrl6, ← List.append_assoc]
              exact hS8.perm (List.perm_append_comm (l₁ := [CkI 2 A11 row.length c11 row]))
          · have hkm : k = G.length := by omega
            rw [hkm, jnG_all hiF] at hrl6 hS4 ⊢
            refine Cd.exit (thenQ_x (thenQ_x (blockQ_x (blockQ_n (tQ (Cd.region (Ops.add rfl rfl rfl (by omega) (Ops.mi rfl rfl rfl (Ops.n ?_)))))))))
            refine tQ ?_
            exact ⟨(i + 1, (A6, c6), rs6), by show n - (i + 1) < n - i; omega, ⟨rfl, rfl, rfl, rfl, rfl, rfl, rfl, trivial⟩, by show i + 1 ≤ n; omega, hrl6, hS4⟩
        · have hin : i = F.length := by omega
          rw [hin, jnG_end] at hrl6 hS4 ⊢
          have hM : St w w4 (mat 28 2 A6 (jnL V F G).length c6 rs6 (jnL V F G)) := hS4.tail.tail.tail
          have hC := complexOf_c A6 _ c6 rs6 (jnL V F G) w4 (hT.later hS4.below) (St.rowsI (ks := []) (by rwa [List.append_nil]) rfl) (by omega) (fun l hl => by have := (hL2 l hl).2; omega)
          rw [map_cs_id fun l hl => (hL2 l hl).1] at hC
          have hS4 : St w w4 [cxZ A4, cxB A3 W B m d, cxB A2 V A n c] := hS4.sub (List.Sublist.cons_cons _ (List.Sublist.cons_cons _ (List.Sublist.cons_cons _ (List.nil_sublist _))))
          refine Cd.exit (thenQ_x (thenQ_x (blockQ_x (tQ (Cd.seq (Cd.region (Ops.ms rfl rfl rfl (Ops.call hC rfl rfl rfl ?_))))))))
          rintro _ w6 ⟨A9, c9, rs9, rfl, hrl9, hst6⟩
          have hS6 := hS4.call2 hst6
          refine Ops.extract rfl rfl rfl (Ops.extract rfl rfl rfl (Ops.st_agg 2 0 hS6 rfl rfl rfl rfl rfl rfl rfl ?_))
          intro w7 hS7
          refine Ops.mi rfl rfl rfl (Ops.n (tQ (Cd.ret ?_)))
          skip
          refine retc2_r rfl (hS7.rd 0 rfl) rfl ?_
          exact ⟨A9, c9, rs9, rfl, hrl9, hS7.sub (List.Sublist.cons _ (List.Sublist.cons _ (List.sublist_cons_self _ _)))⟩
    · have hG0 : G = [] := List.eq_nil_of_length_eq_zero (by omega)
      have hbig : ¬ JnBig F G := fun h => h.2.1 hG0
      obtain ⟨hL1, hL2, hL3⟩ := hF.jn hG hbig
      have hjs : jnS V F G = F := by unfold jnS; rw [if_pos (.inr hG0), hG0, List.append_nil]
      rw [hjs] at hL1 hL2 hL3
      unfold jnV jnLs jnK
      rw [if_neg hbig, if_neg hbig, if_neg hbig, hjs]
      have hC := complexOf_c A n c rs F w3 (hT.later hS3.below) (hS3.oldRows hR) (by omega) (fun l hl => by have := (hL2 l hl).2; omega)
      rw [map_cs_id fun l hl => (hL2 l hl).1] at hC
      have hS4 := hS3
      refine Cd.skip (tQ (Cd.seq (Cd.region (Ops.ms rfl rfl rfl (Ops.call hC rfl rfl rfl ?_)))))
      rintro _ w6 ⟨A9, c9, rs9, rfl, hrl9, hst6⟩
      have hS6 := hS4.call2 hst6
      refine Ops.extract rfl rfl rfl (Ops.extract rfl rfl rfl (Ops.st_agg 2 0 hS6 rfl rfl rfl rfl rfl rfl rfl ?_))
      intro w7 hS7
      refine Ops.mi rfl rfl rfl (Ops.n (tQ (Cd.ret ?_)))
      skip
      refine retc2_r rfl (hS7.rd 0 rfl) rfl ?_
      exact ⟨A9, c9, rs9, rfl, hrl9, hS7.sub (List.Sublist.cons _ (List.Sublist.cons _ (List.sublist_cons_self _ _)))⟩
end Go.Proofs.YtiblelgfkakmiaaGreatDoor.Vc
