/-
  The texts G7, G8, Q2, K1, G9 in one. Conditions: as each part states them.
-/
import Derived.Test.YtgobjpcankaicaaZf
import Derived.Test.YtgobjpcankaicaaZb
import Derived.Test.YtgobjpcankaicaaZd
import Derived.Test.YtgobjpcankaicaaZe
/-
  The walk of the program's test of a move. Conditions: as each states them.
-/
namespace Go.Proofs.Ytgobjpcankaicaa.Vc
open Go.RowKit

theorem fits_c (Ab A : Option Addr) (n c F : Nat) (rs : List SlV) (M : List (List Int)) (i f : Nat) (w : World) (hB : Rd w Ab 1 (fun _ => .slice A n c)) (hR : RowsI w A n rs M) (hs : Shp n F M) (hg : Rng n F M) (hn : n ≤ 1000) (hi : i < n) (hf : f < F) (hc : 0 ≤ cell M i f) :
    Ret Try.prog 195 [.pointer Ab, .int .i64 (i : Int), .int .i64 (f : Int)] w (fun v w' => v = .bool (okI M i f) ∧ St w w' []) := by
  have hlen := hs.1
  have hrow := hR.at_ (i := (i : Int)) (by omega) (by omega)
  have hrn := hR.shp hs (k := (i : Int)) (by omega) (by omega)
  have hgF := hg i f hi (by omega) (by omega)
  refine Ret.of_cd Try.func195 rfl Try.ntmps195 rfl (post1 rfl) ?_
  refine Cd.seq ?_
  refine Cd.region ?_
  refine Ops.mv_bool rfl rfl rfl ?_
  refine Ops.nil ?_
  refine thenQ_n ?_
  refine Cd.seq ?_
  refine Cd.region ?_
  refine Ops.mv_ptr rfl rfl rfl ?_
  -- stop: NILCHECK t11 -> 12
  refine Ops.nilp hB (by decide) rfl rfl ?_
  refine Ops.fld hB rfl rfl rfl rfl inferInstance ?_
  refine Ops.ldf_s hB rfl rfl rfl rfl rfl ?_
  refine Ops.mv_int rfl rfl rfl ?_
  -- stop: INDEXADDR 22 t14 t15 -> 16
  refine Ops.idx hR.top.2 rfl rfl rfl (by omega) (by omega) ?_
  refine Ops.ld_sl hR.top rfl (by omega) rfl rfl ?_
  refine Ops.mv_int rfl rfl rfl ?_
  -- stop: INDEXADDR 33 t17 t18 -> 19
  refine Ops.idx hrow.2 rfl rfl rfl (by omega) (by omega) ?_
  refine Ops.ld_int hrow rfl (by omega) rfl rfl ?_
  refine Ops.mv_int rfl rfl rfl ?_
  refine Ops.nil ?_
  refine thenQ_n ?_
  refine Cd.seq ?_
  refine Cd.seq ?_
  refine Cd.region ?_
  refine Ops.mv_ptr rfl rfl rfl ?_
  -- stop: NILCHECK t21 -> 22
  refine Ops.nilp hB (by decide) rfl rfl ?_
  refine Ops.fld hB rfl rfl rfl rfl inferInstance ?_
  refine Ops.ldf_s hB rfl rfl rfl rfl rfl ?_
  refine Ops.call (sizeR_c _ _ _ _) rfl rfl rfl ?_
  rintro _ w ⟨rfl, rfl⟩
  refine Ops.mv_int rfl rfl rfl ?_
  refine Ops.nil ?_
  refine thenQ_n ?_
  refine Cd.block ?_
  -- stop: loop
  refine Cd.loop (α := Nat) (fun k => [(0, .pointer Ab), (1, .int .i64 (i : Int)), (2, .int .i64 (f : Int)), (7, .int .i64 (cell M i f)), (25, .int .i64 (n : Int)), (26, .int .i64 (k : Int))]) (fun k w' => St w w' [] ∧ k ≤ n ∧ ∀ k', k' < k → ¬ (-1 ≤ (k' : Int) - i ∧ (k' : Int) - i ≤ 1) → ¬ BadP M i k' f (cell M i f)) (fun k => n - k) 0 ⟨rfl, rfl, rfl, rfl, rfl, rfl, trivial⟩ ⟨St.refl w, Nat.zero_le _, fun k' h => by omega⟩ ?_
  rintro k e w1 ⟨hS1, hk, hK⟩
  have hB1 := hB.below hS1.below
  have hR1 := hS1.oldRows hR
  have more : ∀ (hb : ¬ (-1 ≤ (k : Int) - i ∧ (k : Int) - i ≤ 1) → ¬ BadP M i k f (cell M i f)), ∀ k', k' < k + 1 → ¬ (-1 ≤ (k' : Int) - i ∧ (k' : Int) - i ≤ 1) → ¬ BadP M i k' f (cell M i f) := fun hb k' hk' hik => by
    by_cases ek : k' = k
    · subst ek; exact hb hik
    · exact hK k' (by omega) hik
  refine Cd.seq ?_
  refine Cd.region ?_
  refine Ops.lss rfl rfl rfl ?_
  refine Ops.nil ?_
  refine thenQ_n ?_
  refine Cd.seq ?_
  -- stop: cond
  refine Cd.cond_p _ rfl (fun h1 => ?_) (fun h1 => ?_)
  · refine Cd.skip ?_
    refine thenQ_n ?_
    refine Cd.seq ?_
    refine Cd.block ?_
    refine Cd.seq ?_
    refine Cd.region ?_
    refine Ops.mv_int rfl rfl rfl ?_
    refine Ops.mv_int rfl rfl rfl ?_
    refine Ops.nil ?_
    refine thenQ_n ?_
    refine Cd.seq ?_
    refine Cd.seq ?_
    refine Cd.region ?_
    refine Ops.mv_int rfl rfl rfl ?_
    refine Ops.mv_int rfl rfl rfl ?_
    refine Ops.sub rfl rfl rfl (by omega) ?_
    -- stop: CALL impl.within(t31, -1, 1) -> 32
    refine Ops.call (within_c _ _ _ _) rfl rfl rfl ?_
    rintro _ w1 ⟨rfl, rfl⟩
    refine Ops.nil ?_
    refine thenQ_n ?_
    -- stop: cond
    refine Cd.cond_p _ rfl (fun h2 => ?_) (fun h2 => ?_)
    · refine Cd.exit ?_
      refine thenQ_x ?_
      refine blockQ_x ?_
      refine thenQ_n ?_
      refine Cd.region ?_
      refine Ops.add rfl rfl rfl (by omega) ?_
      refine Ops.mv_int rfl rfl rfl ?_
      refine Ops.nil ?_
      refine thenQ_n ?_
      -- stop: round
      exact ⟨k + 1, by omega, ⟨rfl, rfl, rfl, rfl, rfl, rfl, trivial⟩, hS1, by omega, more (fun h => absurd h2 h)⟩
    · have hrk := hR1.at_ (i := (k : Int)) (by omega) h1
      have hkn := hR1.shp hs (k := (k : Int)) (by omega) h1
      have hri := hR1.at_ (i := (i : Int)) (by omega) (by omega)
      have bad : BadP M i k f (cell M i f) → okI M i f = false := fun hb => decide_eq_false (fun h => h k (by omega) h2 hb)
      have hxF : gi (gl M (k : Nat)) (f : Nat) < (F : Int) := hg k f (by omega) (by omega) (by omega)
      have hyF : gi (gl M (k : Nat)) (cell M i f) < (F : Int) := hg k (cell M i f) (by omega) hc hgF
      refine Cd.skip ?_
      refine thenQ_n ?_
      refine Cd.seq ?_
      -- stop: draw
      refine Cd.draw [.ex (.pointer (Ab)), .ex (.pointer (Ab)), .ex (.pointer (ptrAt (Ab) 0)), .ex (.slice (A) (n) (c)), .ex (.int .i64 ((k : Int))), .ex (.pointer (ptrAt (A) ((k : Int)).toNat)), .ex (.slice ((rg (rs) ((k : Int))).a) ((rg (rs) ((k : Int))).n) ((rg (rs) ((k : Int))).c)), .ex (.int .i64 ((f : Int))), .ex (.pointer (ptrAt ((rg (rs) ((k : Int))).a) ((f : Int)).toNat)), .ex (.int .i64 (gi (gl M k) ((f : Int)))), .ex (.pointer (Ab)), .ex (.pointer (Ab)), .ex (.pointer (ptrAt (Ab) 0)), .ex (.slice (A) (n) (c)), .ex (.int .i64 ((k : Int))), .ex (.pointer (ptrAt (A) ((k : Int)).toNat)), .ex (.slice ((rg (rs) ((k : Int))).a) ((rg (rs) ((k : Int))).n) ((rg (rs) ((k : Int))).c)), .ex (.int .i64 (cell M i f)), .ex (.pointer (ptrAt ((rg (rs) ((k : Int))).a) (cell M i f).toNat)), .ex (.int .i64 (gi (gl M k) (cell M i f))), .ex (.int .i64 (gi (gl M k) ((f : Int)))), .ex (.int .i64 (gi (gl M k) (cell M i f)))] (by kernel_rfl) (by kernel_rfl) rfl (List.forall_mem_cons.2 ⟨Yd.lasts_ex _, (List.forall_mem_cons.2 ⟨Yd.lasts_ex _, (List.forall_mem_cons.2 ⟨Yd.lasts_ex _, (List.forall_mem_cons.2 ⟨Yd.lasts_ex _, (List.forall_mem_cons.2 ⟨Yd.lasts_ex _, (List.forall_mem_cons.2 ⟨Yd.lasts_ex _, (List.forall_mem_cons.2 ⟨Yd.lasts_ex _, (List.forall_mem_cons.2 ⟨Yd.lasts_ex _, (List.forall_mem_cons.2 ⟨Yd.lasts_ex _, (List.forall_mem_cons.2 ⟨Yd.lasts_ex _, (List.forall_mem_cons.2 ⟨Yd.lasts_ex _, (List.forall_mem_cons.2 ⟨Yd.lasts_ex _, (List.forall_mem_cons.2 ⟨Yd.lasts_ex _, (List.forall_mem_cons.2 ⟨Yd.lasts_ex _, (List.forall_mem_cons.2 ⟨Yd.lasts_ex _, (List.forall_mem_cons.2 ⟨Yd.lasts_ex _, (List.forall_mem_cons.2 ⟨Yd.lasts_ex _, (List.forall_mem_cons.2 ⟨Yd.lasts_ex _, (List.forall_mem_cons.2 ⟨Yd.lasts_ex _, (List.forall_mem_cons.2 ⟨Yd.lasts_ex _, (List.forall_mem_cons.2 ⟨Yd.lasts_ex _, (List.forall_mem_cons.2 ⟨Yd.lasts_ex _, (fun _ h => by cases h)⟩)⟩)⟩)⟩)⟩)⟩)⟩)⟩)⟩)⟩)⟩)⟩)⟩)⟩)⟩)⟩)⟩)⟩)⟩)⟩)⟩)⟩) ⟨?_, ?_, ?_, ?_, ?_, ?_, ?_, ?_, ?_, ?_, ?_, ?_, ?_, ?_, ?_, ?_, ?_, ?_, ?_, ?_, ?_, ?_, trivial⟩ ?_
      · intro e1 w1 hb hp hun
        refine Ops.mv_ptr rfl rfl rfl ?_
        refine Ops.nil ?_
        exact After.dn (Below.refl _ _) (by exact rfl)
      · intro e1 w1 hb hp hun
        refine Ops.nilp (hB1.below hb) (Nat.succ_pos _) rfl rfl ?_
        refine Ops.nil ?_
        exact After.dn (Below.refl _ _) (by exact rfl)
      · intro e1 w1 hb hp hun
        refine Ops.fld (hB1.below hb) rfl rfl rfl rfl inferInstance ?_
        refine Ops.nil ?_
        exact After.dn (Below.refl _ _) (by exact rfl)
      · intro e1 w1 hb hp hun
        refine Ops.ldf_s (hB1.below hb) rfl rfl rfl rfl rfl ?_
        refine Ops.nil ?_
        exact After.dn (Below.refl _ _) (by exact rfl)
      · intro e1 w1 hb hp hun
        refine Ops.mv_int rfl rfl rfl ?_
        refine Ops.nil ?_
        exact After.dn (Below.refl _ _) (by exact rfl)
      · intro e1 w1 hb hp hun
        refine Ops.idx (hR1.top.later hb).2 rfl rfl rfl (by omega) (by omega) ?_
        refine Ops.nil ?_
        exact After.dn (Below.refl _ _) (by exact rfl)
      · intro e1 w1 hb hp hun
        refine Ops.ld_sl (hR1.top.later hb) rfl (by omega) rfl rfl ?_
        refine Ops.nil ?_
        exact After.dn (Below.refl _ _) (by exact rfl)
      · intro e1 w1 hb hp hun
        refine Ops.mv_int rfl rfl rfl ?_
        refine Ops.nil ?_
        exact After.dn (Below.refl _ _) (by exact rfl)
      · intro e1 w1 hb hp hun
        refine Ops.idx (hrk.later hb).2 rfl rfl rfl (by omega) (by omega) ?_
        refine Ops.nil ?_
        exact After.dn (Below.refl _ _) (by exact rfl)
      · intro e1 w1 hb hp hun
        refine Ops.ld_int (hrk.later hb) rfl (by omega) rfl rfl ?_
        refine Ops.nil ?_
        exact After.dn (Below.refl _ _) (by exact rfl)
      · intro e1 w1 hb hp hun
        refine Ops.mv_ptr rfl rfl rfl ?_
        refine Ops.nil ?_
        exact After.dn (Below.refl _ _) (by exact rfl)
      · intro e1 w1 hb hp hun
        refine Ops.nilp (hB1.below hb) (Nat.succ_pos _) rfl rfl ?_
        refine Ops.nil ?_
        exact After.dn (Below.refl _ _) (by exact rfl)
      · intro e1 w1 hb hp hun
        refine Ops.fld (hB1.below hb) rfl rfl rfl rfl inferInstance ?_
        refine Ops.nil ?_
        exact After.dn (Below.refl _ _) (by exact rfl)
      · intro e1 w1 hb hp hun
        refine Ops.ldf_s (hB1.below hb) rfl rfl rfl rfl rfl ?_
        refine Ops.nil ?_
        exact After.dn (Below.refl _ _) (by exact rfl)
      · intro e1 w1 hb hp hun
        refine Ops.mv_int rfl rfl rfl ?_
        refine Ops.nil ?_
        exact After.dn (Below.refl _ _) (by exact rfl)
      · intro e1 w1 hb hp hun
        refine Ops.idx (hR1.top.later hb).2 rfl rfl rfl (by omega) (by omega) ?_
        refine Ops.nil ?_
        exact After.dn (Below.refl _ _) (by exact rfl)
      · intro e1 w1 hb hp hun
        refine Ops.ld_sl (hR1.top.later hb) rfl (by omega) rfl rfl ?_
        refine Ops.nil ?_
        exact After.dn (Below.refl _ _) (by exact rfl)
      · intro e1 w1 hb hp hun
        refine Ops.mv_int rfl rfl rfl ?_
        refine Ops.nil ?_
        exact After.dn (Below.refl _ _) (by exact rfl)
      · intro e1 w1 hb hp hun
        refine Ops.idx (hrk.later hb).2 rfl rfl rfl (by omega) (by omega) ?_
        refine Ops.nil ?_
        exact After.dn (Below.refl _ _) (by exact rfl)
      · intro e1 w1 hb hp hun
        refine Ops.ld_int (hrk.later hb) rfl (by omega) rfl rfl ?_
        refine Ops.nil ?_
        exact After.dn (Below.refl _ _) (by exact rfl)
      · intro e1 w1 hb hp hun
        refine Ops.mv_int rfl rfl rfl ?_
        refine Ops.nil ?_
        exact After.dn (Below.refl _ _) (by exact rfl)
      · intro e1 w1 hb hp hun
        refine Ops.mv_int rfl rfl rfl ?_
        refine Ops.nil ?_
        exact After.dn (Below.refl _ _) (by exact rfl)
      intro u w2 hb2 _
      have hS2 := hS1.later hb2
      have hR2 := hS2.oldRows hR
      have hB2 := hB.below hS2.below
      have hri2 := hR2.at_ (i := (i : Int)) (by omega) (by omega)
      refine thenQ_n ?_
      refine Cd.seq ?_
      refine Cd.region ?_
      refine Ops.mv_int rfl rfl rfl ?_
      refine Ops.mv_int rfl rfl rfl ?_
      refine Ops.eql rfl rfl rfl ?_
      refine Ops.mv_bool rfl rfl rfl ?_
      -- stop: guard 56
      refine Ops.split_p 56 rfl (fun hxg => ?_) (fun hxg => ?_)
      · refine Ops.skipg rfl rfl rfl rfl rfl ?_
        refine Ops.skipg rfl rfl rfl rfl rfl ?_
        refine Ops.skipg rfl rfl rfl rfl rfl ?_
        refine Ops.skipu rfl rfl rfl rfl ?_
        refine Ops.skipu rfl rfl rfl rfl ?_
        refine Ops.skipg rfl rfl rfl rfl rfl ?_
        refine Ops.skipg rfl rfl rfl rfl rfl ?_
        refine Ops.skipu rfl rfl rfl rfl ?_
        refine Ops.skipu rfl rfl rfl rfl ?_
        refine Ops.skipu rfl rfl rfl rfl ?_
        refine Ops.skipu rfl rfl rfl rfl ?_
        refine Ops.skipu rfl rfl rfl rfl ?_
        refine Ops.skipu rfl rfl rfl rfl ?_
        refine Ops.skipu rfl rfl rfl rfl ?_
        refine Ops.skipu rfl rfl rfl rfl ?_
        refine Ops.skipu rfl rfl rfl rfl ?_
        refine Ops.skipu rfl rfl rfl rfl ?_
        refine Ops.skipu rfl rfl rfl rfl ?_
        refine Ops.skipg rfl rfl rfl rfl rfl ?_
        refine Ops.skipg rfl rfl rfl rfl rfl ?_
        refine Ops.skipu rfl rfl rfl rfl ?_
        refine Ops.skipu rfl rfl rfl rfl ?_
        refine Ops.skipu rfl rfl rfl rfl ?_
        refine Ops.skipu rfl rfl rfl rfl ?_
        refine Ops.skipu rfl rfl rfl rfl ?_
        refine Ops.skipu rfl rfl rfl rfl ?_
        refine Ops.skipu rfl rfl rfl rfl ?_
        refine Ops.skipu rfl rfl rfl rfl ?_
        refine Ops.skipu rfl rfl rfl rfl ?_
        refine Ops.skipu rfl rfl rfl rfl ?_
        refine Ops.skipu rfl rfl rfl rfl ?_
        refine Ops.skipu rfl rfl rfl rfl ?_
        refine Ops.skipg rfl rfl rfl rfl rfl ?_
        refine Ops.pick_t rfl rfl rfl ?_
        refine Ops.mv_bool rfl rfl rfl ?_
        refine Ops.skipg rfl rfl rfl rfl rfl ?_
        refine Ops.skipg rfl rfl rfl rfl rfl ?_
        refine Ops.skipg rfl rfl rfl rfl rfl ?_
        refine Ops.skipu rfl rfl rfl rfl ?_
        refine Ops.skipu rfl rfl rfl rfl ?_
        refine Ops.skipg rfl rfl rfl rfl rfl ?_
        refine Ops.skipg rfl rfl rfl rfl rfl ?_
        refine Ops.skipu rfl rfl rfl rfl ?_
        refine Ops.skipu rfl rfl rfl rfl ?_
        refine Ops.skipu rfl rfl rfl rfl ?_
        refine Ops.skipu rfl rfl rfl rfl ?_
        refine Ops.skipu rfl rfl rfl rfl ?_
        refine Ops.skipu rfl rfl rfl rfl ?_
        refine Ops.skipu rfl rfl rfl rfl ?_
        refine Ops.skipu rfl rfl rfl rfl ?_
        refine Ops.skipu rfl rfl rfl rfl ?_
        refine Ops.skipu rfl rfl rfl rfl ?_
        refine Ops.skipu rfl rfl rfl rfl ?_
        refine Ops.skipg rfl rfl rfl rfl rfl ?_
        refine Ops.skipg rfl rfl rfl rfl rfl ?_
        refine Ops.skipu rfl rfl rfl rfl ?_
        refine Ops.skipu rfl rfl rfl rfl ?_
        refine Ops.skipu rfl rfl rfl rfl ?_
        refine Ops.skipu rfl rfl rfl rfl ?_
        refine Ops.skipu rfl rfl rfl rfl ?_
        refine Ops.skipu rfl rfl rfl rfl ?_
        refine Ops.skipu rfl rfl rfl rfl ?_
        refine Ops.skipu rfl rfl rfl rfl ?_
        refine Ops.skipu rfl rfl rfl rfl ?_
        refine Ops.skipu rfl rfl rfl rfl ?_
        refine Ops.skipu rfl rfl rfl rfl ?_
        refine Ops.skipu rfl rfl rfl rfl ?_
        refine Ops.skipg rfl rfl rfl rfl rfl ?_
        refine Ops.pick_t rfl rfl rfl ?_
        refine Ops.nil ?_
        refine thenQ_n ?_
        -- stop: cond
        refine Cd.cond_t rfl ?_
        refine Cd.seq ?_
        refine Cd.region ?_
        refine Ops.mv_bool rfl rfl rfl ?_
        refine Ops.nil ?_
        refine thenQ_n ?_
        refine Cd.ret ?_
        refine blockQ_r ?_
        refine thenQ_r ?_
        refine thenQ_r ?_
        refine blockQ_r ?_
        refine thenQ_r ?_
        refine ret1_b rfl ?_
        -- stop: end
        exact ⟨by rw [bad (.inl hxg)], hS2⟩
      · refine Ops.rung rfl rfl rfl ?_
        refine Ops.mv_int rfl rfl rfl ?_
        refine Ops.rung rfl rfl rfl ?_
        refine Ops.geq rfl rfl rfl ?_
        refine Ops.rung rfl rfl rfl ?_
        refine Ops.mv_bool rfl rfl rfl ?_
        -- stop: guard 59
        refine Ops.split_p 59 rfl (fun hx => ?_) (fun hx => ?_)
        · refine Ops.rung rfl rfl rfl ?_
          refine Ops.mv_int rfl rfl rfl ?_
          refine Ops.rung rfl rfl rfl ?_
          refine Ops.geq rfl rfl rfl ?_
          refine Ops.rung rfl rfl rfl ?_
          refine Ops.pick_t rfl rfl rfl ?_
          refine Ops.rung rfl rfl rfl ?_
          refine Ops.mv_bool rfl rfl rfl ?_
          -- stop: guard 63
          refine Ops.split_p 63 rfl (fun hy => ?_) (fun hy => ?_)
          · skip
            refine Ops.rung rfl rfl rfl ?_
            refine Ops.mv_ptr rfl rfl rfl ?_
            refine Ops.rung rfl rfl rfl ?_
            -- stop: NILCHECK t64 -> 65
            refine Ops.nilp hB2 (by decide) rfl rfl ?_
            refine Ops.rung rfl rfl rfl ?_
            -- stop: FIELDADDR 136 t65 0 -> 66
            refine Ops.fld hB2 rfl rfl rfl rfl inferInstance ?_
            refine Ops.rung rfl rfl rfl ?_
            -- stop: LOAD 22 t66 -> 67
            refine Ops.ldf_s hB2 rfl rfl rfl rfl rfl ?_
            refine Ops.rung rfl rfl rfl ?_
            refine Ops.mv_int rfl rfl rfl ?_
            refine Ops.rung rfl rfl rfl ?_
            -- stop: INDEXADDR 22 t67 t68 -> 69
            refine Ops.idx hR2.top.2 rfl rfl rfl (by omega) (by omega) ?_
            refine Ops.rung rfl rfl rfl ?_
            -- stop: LOAD 33 t69 -> 70
            refine Ops.ld_sl hR2.top rfl (by omega) rfl rfl ?_
            refine Ops.rung rfl rfl rfl ?_
            refine Ops.mv_int rfl rfl rfl ?_
            refine Ops.rung rfl rfl rfl ?_
            -- stop: INDEXADDR 33 t70 t71 -> 72
            refine Ops.idx hri2.2 rfl rfl rfl (by omega) (by omega) ?_
            refine Ops.rung rfl rfl rfl ?_
            -- stop: LOAD 2 t72 -> 73
            refine Ops.ld_int hri2 rfl (by omega) rfl rfl ?_
            refine Ops.rung rfl rfl rfl ?_
            refine Ops.geq rfl rfl rfl ?_
            refine Ops.rung rfl rfl rfl ?_
            refine Ops.pick_t rfl rfl rfl ?_
            refine Ops.rung rfl rfl rfl ?_
            refine Ops.mv_bool rfl rfl rfl ?_
            -- stop: guard 76
            refine Ops.split_p 76 rfl (fun ha0 => ?_) (fun ha0 => ?_)
            · skip
              refine Ops.rung rfl rfl rfl ?_
              refine Ops.mv_ptr rfl rfl rfl ?_
              refine Ops.rung rfl rfl rfl ?_
              -- stop: NILCHECK t77 -> 78
              refine Ops.nilp hB2 (by decide) rfl rfl ?_
              refine Ops.rung rfl rfl rfl ?_
              -- stop: FIELDADDR 136 t78 0 -> 79
              refine Ops.fld hB2 rfl rfl rfl rfl inferInstance ?_
              refine Ops.rung rfl rfl rfl ?_
              -- stop: LOAD 22 t79 -> 80
              refine Ops.ldf_s hB2 rfl rfl rfl rfl rfl ?_
              refine Ops.rung rfl rfl rfl ?_
              refine Ops.mv_int rfl rfl rfl ?_
              refine Ops.rung rfl rfl rfl ?_
              -- stop: INDEXADDR 22 t80 t81 -> 82
              refine Ops.idx hR2.top.2 rfl rfl rfl (by omega) (by omega) ?_
              refine Ops.rung rfl rfl rfl ?_
              -- stop: LOAD 33 t82 -> 83
              refine Ops.ld_sl hR2.top rfl (by omega) rfl rfl ?_
              refine Ops.rung rfl rfl rfl ?_
              refine Ops.mv_int rfl rfl rfl ?_
              refine Ops.rung rfl rfl rfl ?_
              -- stop: INDEXADDR 33 t83 t84 -> 85
              refine Ops.idx hri2.2 rfl rfl rfl (by omega) (by omega) ?_
              refine Ops.rung rfl rfl rfl ?_
              -- stop: LOAD 2 t85 -> 86
              refine Ops.ld_int hri2 rfl (by omega) rfl rfl ?_
              refine Ops.rung rfl rfl rfl ?_
              refine Ops.mv_int rfl rfl rfl ?_
              refine Ops.rung rfl rfl rfl ?_
              refine Ops.neq rfl rfl rfl ?_
              refine Ops.rung rfl rfl rfl ?_
              refine Ops.pick_t rfl rfl rfl ?_
              refine Ops.pick_f rfl rfl rfl ?_
              refine Ops.mv_bool rfl rfl rfl ?_
              -- stop: guard 91
              refine Ops.split_p 91 rfl (fun hay => ?_) (fun hay => ?_)
              · refine Ops.skipg rfl rfl rfl rfl rfl ?_
                refine Ops.skipg rfl rfl rfl rfl rfl ?_
                refine Ops.skipg rfl rfl rfl rfl rfl ?_
                refine Ops.skipu rfl rfl rfl rfl ?_
                refine Ops.skipu rfl rfl rfl rfl ?_
                refine Ops.skipg rfl rfl rfl rfl rfl ?_
                refine Ops.skipg rfl rfl rfl rfl rfl ?_
                refine Ops.skipu rfl rfl rfl rfl ?_
                refine Ops.skipu rfl rfl rfl rfl ?_
                refine Ops.skipu rfl rfl rfl rfl ?_
                refine Ops.skipu rfl rfl rfl rfl ?_
                refine Ops.skipu rfl rfl rfl rfl ?_
                refine Ops.skipu rfl rfl rfl rfl ?_
                refine Ops.skipu rfl rfl rfl rfl ?_
                refine Ops.skipu rfl rfl rfl rfl ?_
                refine Ops.skipu rfl rfl rfl rfl ?_
                refine Ops.skipu rfl rfl rfl rfl ?_
                refine Ops.skipu rfl rfl rfl rfl ?_
                refine Ops.skipg rfl rfl rfl rfl rfl ?_
                refine Ops.skipg rfl rfl rfl rfl rfl ?_
                refine Ops.skipu rfl rfl rfl rfl ?_
                refine Ops.skipu rfl rfl rfl rfl ?_
                refine Ops.skipu rfl rfl rfl rfl ?_
                refine Ops.skipu rfl rfl rfl rfl ?_
                refine Ops.skipu rfl rfl rfl rfl ?_
                refine Ops.skipu rfl rfl rfl rfl ?_
                refine Ops.skipu rfl rfl rfl rfl ?_
                refine Ops.skipu rfl rfl rfl rfl ?_
                refine Ops.skipu rfl rfl rfl rfl ?_
                refine Ops.skipu rfl rfl rfl rfl ?_
                refine Ops.skipu rfl rfl rfl rfl ?_
                refine Ops.skipu rfl rfl rfl rfl ?_
                refine Ops.skipg rfl rfl rfl rfl rfl ?_
                refine Ops.pick_t rfl rfl rfl ?_
                refine Ops.nil ?_
                refine thenQ_n ?_
                -- stop: cond
                refine Cd.cond_t rfl ?_
                refine Cd.seq ?_
                refine Cd.region ?_
                refine Ops.mv_bool rfl rfl rfl ?_
                refine Ops.nil ?_
                refine thenQ_n ?_
                refine Cd.ret ?_
                refine blockQ_r ?_
                refine thenQ_r ?_
                refine thenQ_r ?_
                refine blockQ_r ?_
                refine thenQ_r ?_
                refine ret1_b rfl ?_
                -- stop: end
                exact ⟨by rw [bad (.inr (.inl ⟨hx, hy, ha0, hay⟩))], hS2⟩
              · skip
                refine Ops.rung rfl rfl rfl ?_
                refine Ops.mv_int rfl rfl rfl ?_
                refine Ops.rung rfl rfl rfl ?_
                refine Ops.geq rfl rfl rfl ?_
                refine Ops.rung rfl rfl rfl ?_
                refine Ops.mv_bool rfl rfl rfl ?_
                -- stop: guard 94
                refine Ops.split_p 94 rfl (fun _ => ?_) (fun h => absurd hx h) --t
                refine Ops.rung rfl rfl rfl ?_
                refine Ops.mv_int rfl rfl rfl ?_
                refine Ops.rung rfl rfl rfl ?_
                refine Ops.geq rfl rfl rfl ?_
                refine Ops.rung rfl rfl rfl ?_
                refine Ops.pick_t rfl rfl rfl ?_
                refine Ops.rung rfl rfl rfl ?_
                refine Ops.mv_bool rfl rfl rfl ?_
                -- stop: guard 98
                refine Ops.split_p 98 rfl (fun _ => ?_) (fun h => absurd hy h) --t
                refine Ops.rung rfl rfl rfl ?_
                refine Ops.mv_ptr rfl rfl rfl ?_
                refine Ops.rung rfl rfl rfl ?_
                -- stop: NILCHECK t99 -> 100
                refine Ops.nilp hB2 (by decide) rfl rfl ?_
                refine Ops.rung rfl rfl rfl ?_
                -- stop: FIELDADDR 136 t100 0 -> 101
                refine Ops.fld hB2 rfl rfl rfl rfl inferInstance ?_
                refine Ops.rung rfl rfl rfl ?_
                -- stop: LOAD 22 t101 -> 102
                refine Ops.ldf_s hB2 rfl rfl rfl rfl rfl ?_
                refine Ops.rung rfl rfl rfl ?_
                refine Ops.mv_int rfl rfl rfl ?_
                refine Ops.rung rfl rfl rfl ?_
                -- stop: INDEXADDR 22 t102 t103 -> 104
                refine Ops.idx hR2.top.2 rfl rfl rfl (by omega) (by omega) ?_
                refine Ops.rung rfl rfl rfl ?_
                -- stop: LOAD 33 t104 -> 105
                refine Ops.ld_sl hR2.top rfl (by omega) rfl rfl ?_
                refine Ops.rung rfl rfl rfl ?_
                refine Ops.mv_int rfl rfl rfl ?_
                refine Ops.rung rfl rfl rfl ?_
                -- stop: INDEXADDR 33 t105 t106 -> 107
                refine Ops.idx hri2.2 rfl rfl rfl (by omega) (by omega) ?_
                refine Ops.rung rfl rfl rfl ?_
                -- stop: LOAD 2 t107 -> 108
                refine Ops.ld_int hri2 rfl (by omega) rfl rfl ?_
                refine Ops.rung rfl rfl rfl ?_
                refine Ops.geq rfl rfl rfl ?_
                refine Ops.rung rfl rfl rfl ?_
                refine Ops.pick_t rfl rfl rfl ?_
                refine Ops.rung rfl rfl rfl ?_
                refine Ops.mv_bool rfl rfl rfl ?_
                -- stop: guard 111
                refine Ops.split_p 111 rfl (fun hb0 => ?_) (fun hb0 => ?_)
                · skip
                  refine Ops.rung rfl rfl rfl ?_
                  refine Ops.mv_ptr rfl rfl rfl ?_
                  refine Ops.rung rfl rfl rfl ?_
                  -- stop: NILCHECK t112 -> 113
                  refine Ops.nilp hB2 (by decide) rfl rfl ?_
                  refine Ops.rung rfl rfl rfl ?_
                  -- stop: FIELDADDR 136 t113 0 -> 114
                  refine Ops.fld hB2 rfl rfl rfl rfl inferInstance ?_
                  refine Ops.rung rfl rfl rfl ?_
                  -- stop: LOAD 22 t114 -> 115
                  refine Ops.ldf_s hB2 rfl rfl rfl rfl rfl ?_
                  refine Ops.rung rfl rfl rfl ?_
                  refine Ops.mv_int rfl rfl rfl ?_
                  refine Ops.rung rfl rfl rfl ?_
                  -- stop: INDEXADDR 22 t115 t116 -> 117
                  refine Ops.idx hR2.top.2 rfl rfl rfl (by omega) (by omega) ?_
                  refine Ops.rung rfl rfl rfl ?_
                  -- stop: LOAD 33 t117 -> 118
                  refine Ops.ld_sl hR2.top rfl (by omega) rfl rfl ?_
                  refine Ops.rung rfl rfl rfl ?_
                  refine Ops.mv_int rfl rfl rfl ?_
                  refine Ops.rung rfl rfl rfl ?_
                  -- stop: INDEXADDR 33 t118 t119 -> 120
                  refine Ops.idx hri2.2 rfl rfl rfl (by omega) (by omega) ?_
                  refine Ops.rung rfl rfl rfl ?_
                  -- stop: LOAD 2 t120 -> 121
                  refine Ops.ld_int hri2 rfl (by omega) rfl rfl ?_
                  refine Ops.rung rfl rfl rfl ?_
                  refine Ops.mv_int rfl rfl rfl ?_
                  refine Ops.rung rfl rfl rfl ?_
                  refine Ops.neq rfl rfl rfl ?_
                  refine Ops.rung rfl rfl rfl ?_
                  refine Ops.pick_t rfl rfl rfl ?_
                  refine Ops.pick_f rfl rfl rfl ?_
                  refine Ops.nil ?_
                  refine thenQ_n ?_
                  -- stop: cond
                  refine Cd.cond_p _ rfl (fun hbx => ?_) (fun hbx => ?_)
                  · refine Cd.seq ?_
                    refine Cd.region ?_
                    refine Ops.mv_bool rfl rfl rfl ?_
                    refine Ops.nil ?_
                    refine thenQ_n ?_
                    refine Cd.ret ?_
                    refine blockQ_r ?_
                    refine thenQ_r ?_
                    refine thenQ_r ?_
                    refine blockQ_r ?_
                    refine thenQ_r ?_
                    refine ret1_b rfl ?_
                    -- stop: end
                    exact ⟨by rw [bad (.inr (.inr ⟨hx, hy, hb0, hbx⟩))], hS2⟩
                  · refine Cd.skip ?_
                    refine blockQ_n ?_
                    refine thenQ_n ?_
                    refine Cd.region ?_
                    refine Ops.add rfl rfl rfl (by omega) ?_
                    refine Ops.mv_int rfl rfl rfl ?_
                    refine Ops.nil ?_
                    refine thenQ_n ?_
                    -- stop: round
                    exact ⟨k + 1, by omega, ⟨rfl, rfl, rfl, rfl, rfl, rfl, trivial⟩, hS2, by omega, more (fun _ hb => by
                      rcases hb with hb | ⟨b1, b2, b3, b4⟩ | ⟨b1, b2, b3, b4⟩
                      · exact hxg hb
                      · exact hay b4
                      · exact hbx b4)⟩
                · refine Ops.skipg rfl rfl rfl rfl rfl ?_
                  refine Ops.skipg rfl rfl rfl rfl rfl ?_
                  refine Ops.skipg rfl rfl rfl rfl rfl ?_
                  refine Ops.skipg rfl rfl rfl rfl rfl ?_
                  refine Ops.skipg rfl rfl rfl rfl rfl ?_
                  refine Ops.skipg rfl rfl rfl rfl rfl ?_
                  refine Ops.skipg rfl rfl rfl rfl rfl ?_
                  refine Ops.skipg rfl rfl rfl rfl rfl ?_
                  refine Ops.skipg rfl rfl rfl rfl rfl ?_
                  refine Ops.skipg rfl rfl rfl rfl rfl ?_
                  refine Ops.skipg rfl rfl rfl rfl rfl ?_
                  refine Ops.skipg rfl rfl rfl rfl rfl ?_
                  refine Ops.rung rfl rfl rfl ?_
                  refine Ops.pick_f rfl rfl rfl ?_
                  refine Ops.pick_f rfl rfl rfl ?_
                  refine Ops.nil ?_
                  refine thenQ_n ?_
                  -- stop: cond
                  refine Cd.cond_f rfl ?_
                  refine Cd.skip ?_
                  refine blockQ_n ?_
                  refine thenQ_n ?_
                  refine Cd.region ?_
                  refine Ops.add rfl rfl rfl (by omega) ?_
                  refine Ops.mv_int rfl rfl rfl ?_
                  refine Ops.nil ?_
                  refine thenQ_n ?_
                  -- stop: round
                  exact ⟨k + 1, by omega, ⟨rfl, rfl, rfl, rfl, rfl, rfl, trivial⟩, hS2, by omega, more (fun _ hb => by
                    rcases hb with hb | ⟨b1, b2, b3, b4⟩ | ⟨b1, b2, b3, b4⟩
                    · exact hxg hb
                    · exact hay b4
                    · exact hb0 b3)⟩
            · skip
              refine Ops.skipg rfl rfl rfl rfl rfl ?_
              refine Ops.skipg rfl rfl rfl rfl rfl ?_
              refine Ops.skipg rfl rfl rfl rfl rfl ?_
              refine Ops.skipg rfl rfl rfl rfl rfl ?_
              refine Ops.skipg rfl rfl rfl rfl rfl ?_
              refine Ops.skipg rfl rfl rfl rfl rfl ?_
              refine Ops.skipg rfl rfl rfl rfl rfl ?_
              refine Ops.skipg rfl rfl rfl rfl rfl ?_
              refine Ops.skipg rfl rfl rfl rfl rfl ?_
              refine Ops.skipg rfl rfl rfl rfl rfl ?_
              refine Ops.skipg rfl rfl rfl rfl rfl ?_
              refine Ops.skipg rfl rfl rfl rfl rfl ?_
              refine Ops.rung rfl rfl rfl ?_
              refine Ops.pick_f rfl rfl rfl ?_
              refine Ops.pick_f rfl rfl rfl ?_
              refine Ops.mv_bool rfl rfl rfl ?_
              refine Ops.rung rfl rfl rfl ?_
              refine Ops.mv_int rfl rfl rfl ?_
              refine Ops.rung rfl rfl rfl ?_
              refine Ops.geq rfl rfl rfl ?_
              refine Ops.rung rfl rfl rfl ?_
              refine Ops.mv_bool rfl rfl rfl ?_
              -- stop: guard 94
              refine Ops.split_p 94 rfl (fun _ => ?_) (fun h => absurd hx h) --t
              refine Ops.rung rfl rfl rfl ?_
              refine Ops.mv_int rfl rfl rfl ?_
              refine Ops.rung rfl rfl rfl ?_
              refine Ops.geq rfl rfl rfl ?_
              refine Ops.rung rfl rfl rfl ?_
              refine Ops.pick_t rfl rfl rfl ?_
              refine Ops.rung rfl rfl rfl ?_
              refine Ops.mv_bool rfl rfl rfl ?_
              -- stop: guard 98
              refine Ops.split_p 98 rfl (fun _ => ?_) (fun h => absurd hy h) --t
              refine Ops.rung rfl rfl rfl ?_
              refine Ops.mv_ptr rfl rfl rfl ?_
              refine Ops.rung rfl rfl rfl ?_
              -- stop: NILCHECK t99 -> 100
              refine Ops.nilp hB2 (by decide) rfl rfl ?_
              refine Ops.rung rfl rfl rfl ?_
              -- stop: FIELDADDR 136 t100 0 -> 101
              refine Ops.fld hB2 rfl rfl rfl rfl inferInstance ?_
              refine Ops.rung rfl rfl rfl ?_
              -- stop: LOAD 22 t101 -> 102
              refine Ops.ldf_s hB2 rfl rfl rfl rfl rfl ?_
              refine Ops.rung rfl rfl rfl ?_
              refine Ops.mv_int rfl rfl rfl ?_
              refine Ops.rung rfl rfl rfl ?_
              -- stop: INDEXADDR 22 t102 t103 -> 104
              refine Ops.idx hR2.top.2 rfl rfl rfl (by omega) (by omega) ?_
              refine Ops.rung rfl rfl rfl ?_
              -- stop: LOAD 33 t104 -> 105
              refine Ops.ld_sl hR2.top rfl (by omega) rfl rfl ?_
              refine Ops.rung rfl rfl rfl ?_
              refine Ops.mv_int rfl rfl rfl ?_
              refine Ops.rung rfl rfl rfl ?_
              -- stop: INDEXADDR 33 t105 t106 -> 107
              refine Ops.idx hri2.2 rfl rfl rfl (by omega) (by omega) ?_
              refine Ops.rung rfl rfl rfl ?_
              -- stop: LOAD 2 t107 -> 108
              refine Ops.ld_int hri2 rfl (by omega) rfl rfl ?_
              refine Ops.rung rfl rfl rfl ?_
              refine Ops.geq rfl rfl rfl ?_
              refine Ops.rung rfl rfl rfl ?_
              refine Ops.pick_t rfl rfl rfl ?_
              refine Ops.rung rfl rfl rfl ?_
              refine Ops.mv_bool rfl rfl rfl ?_
              -- stop: guard 111
              refine Ops.split_p 111 rfl (fun hb0 => ?_) (fun hb0 => ?_)
              · skip
                refine Ops.rung rfl rfl rfl ?_
                refine Ops.mv_ptr rfl rfl rfl ?_
                refine Ops.rung rfl rfl rfl ?_
                -- stop: NILCHECK t112 -> 113
                refine Ops.nilp hB2 (by decide) rfl rfl ?_
                refine Ops.rung rfl rfl rfl ?_
                -- stop: FIELDADDR 136 t113 0 -> 114
                refine Ops.fld hB2 rfl rfl rfl rfl inferInstance ?_
                refine Ops.rung rfl rfl rfl ?_
                -- stop: LOAD 22 t114 -> 115
                refine Ops.ldf_s hB2 rfl rfl rfl rfl rfl ?_
                refine Ops.rung rfl rfl rfl ?_
                refine Ops.mv_int rfl rfl rfl ?_
                refine Ops.rung rfl rfl rfl ?_
                -- stop: INDEXADDR 22 t115 t116 -> 117
                refine Ops.idx hR2.top.2 rfl rfl rfl (by omega) (by omega) ?_
                refine Ops.rung rfl rfl rfl ?_
                -- stop: LOAD 33 t117 -> 118
                refine Ops.ld_sl hR2.top rfl (by omega) rfl rfl ?_
                refine Ops.rung rfl rfl rfl ?_
                refine Ops.mv_int rfl rfl rfl ?_
                refine Ops.rung rfl rfl rfl ?_
                -- stop: INDEXADDR 33 t118 t119 -> 120
                refine Ops.idx hri2.2 rfl rfl rfl (by omega) (by omega) ?_
                refine Ops.rung rfl rfl rfl ?_
                -- stop: LOAD 2 t120 -> 121
                refine Ops.ld_int hri2 rfl (by omega) rfl rfl ?_
                refine Ops.rung rfl rfl rfl ?_
                refine Ops.mv_int rfl rfl rfl ?_
                refine Ops.rung rfl rfl rfl ?_
                refine Ops.neq rfl rfl rfl ?_
                refine Ops.rung rfl rfl rfl ?_
                refine Ops.pick_t rfl rfl rfl ?_
                refine Ops.pick_f rfl rfl rfl ?_
                refine Ops.nil ?_
                refine thenQ_n ?_
                -- stop: cond
                refine Cd.cond_p _ rfl (fun hbx => ?_) (fun hbx => ?_)
                · refine Cd.seq ?_
                  refine Cd.region ?_
                  refine Ops.mv_bool rfl rfl rfl ?_
                  refine Ops.nil ?_
                  refine thenQ_n ?_
                  refine Cd.ret ?_
                  refine blockQ_r ?_
                  refine thenQ_r ?_
                  refine thenQ_r ?_
                  refine blockQ_r ?_
                  refine thenQ_r ?_
                  refine ret1_b rfl ?_
                  -- stop: end
                  exact ⟨by rw [bad (.inr (.inr ⟨hx, hy, hb0, hbx⟩))], hS2⟩
                · refine Cd.skip ?_
                  refine blockQ_n ?_
                  refine thenQ_n ?_
                  refine Cd.region ?_
                  refine Ops.add rfl rfl rfl (by omega) ?_
                  refine Ops.mv_int rfl rfl rfl ?_
                  refine Ops.nil ?_
                  refine thenQ_n ?_
                  -- stop: round
                  exact ⟨k + 1, by omega, ⟨rfl, rfl, rfl, rfl, rfl, rfl, trivial⟩, hS2, by omega, more (fun _ hb => by
                    rcases hb with hb | ⟨b1, b2, b3, b4⟩ | ⟨b1, b2, b3, b4⟩
                    · exact hxg hb
                    · exact ha0 b3
                    · exact hbx b4)⟩
              · refine Ops.skipg rfl rfl rfl rfl rfl ?_
                refine Ops.skipg rfl rfl rfl rfl rfl ?_
                refine Ops.skipg rfl rfl rfl rfl rfl ?_
                refine Ops.skipg rfl rfl rfl rfl rfl ?_
                refine Ops.skipg rfl rfl rfl rfl rfl ?_
                refine Ops.skipg rfl rfl rfl rfl rfl ?_
                refine Ops.skipg rfl rfl rfl rfl rfl ?_
                refine Ops.skipg rfl rfl rfl rfl rfl ?_
                refine Ops.skipg rfl rfl rfl rfl rfl ?_
                refine Ops.skipg rfl rfl rfl rfl rfl ?_
                refine Ops.skipg rfl rfl rfl rfl rfl ?_
                refine Ops.skipg rfl rfl rfl rfl rfl ?_
                refine Ops.rung rfl rfl rfl ?_
                refine Ops.pick_f rfl rfl rfl ?_
                refine Ops.pick_f rfl rfl rfl ?_
                refine Ops.nil ?_
                refine thenQ_n ?_
                -- stop: cond
                refine Cd.cond_f rfl ?_
                refine Cd.skip ?_
                refine blockQ_n ?_
                refine thenQ_n ?_
                refine Cd.region ?_
                refine Ops.add rfl rfl rfl (by omega) ?_
                refine Ops.mv_int rfl rfl rfl ?_
                refine Ops.nil ?_
                refine thenQ_n ?_
                -- stop: round
                exact ⟨k + 1, by omega, ⟨rfl, rfl, rfl, rfl, rfl, rfl, trivial⟩, hS2, by omega, more (fun _ hb => by
                  rcases hb with hb | ⟨b1, b2, b3, b4⟩ | ⟨b1, b2, b3, b4⟩
                  · exact hxg hb
                  · exact ha0 b3
                  · exact hb0 b3)⟩
          · refine Ops.skipg rfl rfl rfl rfl rfl ?_
            refine Ops.skipg rfl rfl rfl rfl rfl ?_
            refine Ops.skipg rfl rfl rfl rfl rfl ?_
            refine Ops.skipg rfl rfl rfl rfl rfl ?_
            refine Ops.skipg rfl rfl rfl rfl rfl ?_
            refine Ops.skipg rfl rfl rfl rfl rfl ?_
            refine Ops.skipg rfl rfl rfl rfl rfl ?_
            refine Ops.skipg rfl rfl rfl rfl rfl ?_
            refine Ops.skipg rfl rfl rfl rfl rfl ?_
            refine Ops.skipg rfl rfl rfl rfl rfl ?_
            refine Ops.skipg rfl rfl rfl rfl rfl ?_
            refine Ops.rung rfl rfl rfl ?_
            refine Ops.pick_f rfl rfl rfl ?_
            refine Ops.rung rfl rfl rfl ?_
            refine Ops.mv_bool rfl rfl rfl ?_
            refine Ops.skipg rfl rfl rfl rfl rfl ?_
            refine Ops.skipg rfl rfl rfl rfl rfl ?_
            refine Ops.skipg rfl rfl rfl rfl rfl ?_
            refine Ops.skipg rfl rfl rfl rfl rfl ?_
            refine Ops.skipg rfl rfl rfl rfl rfl ?_
            refine Ops.skipg rfl rfl rfl rfl rfl ?_
            refine Ops.skipg rfl rfl rfl rfl rfl ?_
            refine Ops.skipg rfl rfl rfl rfl rfl ?_
            refine Ops.skipg rfl rfl rfl rfl rfl ?_
            refine Ops.skipg rfl rfl rfl rfl rfl ?_
            refine Ops.skipg rfl rfl rfl rfl rfl ?_
            refine Ops.skipg rfl rfl rfl rfl rfl ?_
            refine Ops.rung rfl rfl rfl ?_
            refine Ops.pick_f rfl rfl rfl ?_
            refine Ops.pick_f rfl rfl rfl ?_
            refine Ops.mv_bool rfl rfl rfl ?_
            refine Ops.rung rfl rfl rfl ?_
            refine Ops.mv_int rfl rfl rfl ?_
            refine Ops.rung rfl rfl rfl ?_
            refine Ops.geq rfl rfl rfl ?_
            refine Ops.rung rfl rfl rfl ?_
            refine Ops.mv_bool rfl rfl rfl ?_
            -- stop: guard 94
            refine Ops.split_p 94 rfl (fun _ => ?_) (fun h => absurd hx h) --t
            refine Ops.rung rfl rfl rfl ?_
            refine Ops.mv_int rfl rfl rfl ?_
            refine Ops.rung rfl rfl rfl ?_
            refine Ops.geq rfl rfl rfl ?_
            refine Ops.rung rfl rfl rfl ?_
            refine Ops.pick_t rfl rfl rfl ?_
            refine Ops.rung rfl rfl rfl ?_
            refine Ops.mv_bool rfl rfl rfl ?_
            -- stop: guard 98
            refine Ops.split_p 98 rfl (fun h => absurd h hy) (fun _ => ?_) --f
            refine Ops.skipg rfl rfl rfl rfl rfl ?_
            refine Ops.skipg rfl rfl rfl rfl rfl ?_
            refine Ops.skipg rfl rfl rfl rfl rfl ?_
            refine Ops.skipg rfl rfl rfl rfl rfl ?_
            refine Ops.skipg rfl rfl rfl rfl rfl ?_
            refine Ops.skipg rfl rfl rfl rfl rfl ?_
            refine Ops.skipg rfl rfl rfl rfl rfl ?_
            refine Ops.skipg rfl rfl rfl rfl rfl ?_
            refine Ops.skipg rfl rfl rfl rfl rfl ?_
            refine Ops.skipg rfl rfl rfl rfl rfl ?_
            refine Ops.skipg rfl rfl rfl rfl rfl ?_
            refine Ops.rung rfl rfl rfl ?_
            refine Ops.pick_f rfl rfl rfl ?_
            refine Ops.rung rfl rfl rfl ?_
            refine Ops.mv_bool rfl rfl rfl ?_
            refine Ops.skipg rfl rfl rfl rfl rfl ?_
            refine Ops.skipg rfl rfl rfl rfl rfl ?_
            refine Ops.skipg rfl rfl rfl rfl rfl ?_
            refine Ops.skipg rfl rfl rfl rfl rfl ?_
            refine Ops.skipg rfl rfl rfl rfl rfl ?_
            refine Ops.skipg rfl rfl rfl rfl rfl ?_
            refine Ops.skipg rfl rfl rfl rfl rfl ?_
            refine Ops.skipg rfl rfl rfl rfl rfl ?_
            refine Ops.skipg rfl rfl rfl rfl rfl ?_
            refine Ops.skipg rfl rfl rfl rfl rfl ?_
            refine Ops.skipg rfl rfl rfl rfl rfl ?_
            refine Ops.skipg rfl rfl rfl rfl rfl ?_
            refine Ops.rung rfl rfl rfl ?_
            refine Ops.pick_f rfl rfl rfl ?_
            refine Ops.pick_f rfl rfl rfl ?_
            refine Ops.nil ?_
            refine thenQ_n ?_
            -- stop: cond
            refine Cd.cond_f rfl ?_
            refine Cd.skip ?_
            refine blockQ_n ?_
            refine thenQ_n ?_
            refine Cd.region ?_
            refine Ops.add rfl rfl rfl (by omega) ?_
            refine Ops.mv_int rfl rfl rfl ?_
            refine Ops.nil ?_
            refine thenQ_n ?_
            -- stop: round
            exact ⟨k + 1, by omega, ⟨rfl, rfl, rfl, rfl, rfl, rfl, trivial⟩, hS2, by omega, more (fun _ hb => by
              rcases hb with hb | ⟨b1, b2, b3, b4⟩ | ⟨b1, b2, b3, b4⟩
              · exact hxg hb
              · exact hy b2
              · exact hy b2)⟩
        · refine Ops.skipg rfl rfl rfl rfl rfl ?_
          refine Ops.skipg rfl rfl rfl rfl rfl ?_
          refine Ops.rung rfl rfl rfl ?_
          refine Ops.pick_f rfl rfl rfl ?_
          refine Ops.rung rfl rfl rfl ?_
          refine Ops.mv_bool rfl rfl rfl ?_
          refine Ops.skipg rfl rfl rfl rfl rfl ?_
          refine Ops.skipg rfl rfl rfl rfl rfl ?_
          refine Ops.skipg rfl rfl rfl rfl rfl ?_
          refine Ops.skipg rfl rfl rfl rfl rfl ?_
          refine Ops.skipg rfl rfl rfl rfl rfl ?_
          refine Ops.skipg rfl rfl rfl rfl rfl ?_
          refine Ops.skipg rfl rfl rfl rfl rfl ?_
          refine Ops.skipg rfl rfl rfl rfl rfl ?_
          refine Ops.skipg rfl rfl rfl rfl rfl ?_
          refine Ops.skipg rfl rfl rfl rfl rfl ?_
          refine Ops.skipg rfl rfl rfl rfl rfl ?_
          refine Ops.rung rfl rfl rfl ?_
          refine Ops.pick_f rfl rfl rfl ?_
          refine Ops.rung rfl rfl rfl ?_
          refine Ops.mv_bool rfl rfl rfl ?_
          refine Ops.skipg rfl rfl rfl rfl rfl ?_
          refine Ops.skipg rfl rfl rfl rfl rfl ?_
          refine Ops.skipg rfl rfl rfl rfl rfl ?_
          refine Ops.skipg rfl rfl rfl rfl rfl ?_
          refine Ops.skipg rfl rfl rfl rfl rfl ?_
          refine Ops.skipg rfl rfl rfl rfl rfl ?_
          refine Ops.skipg rfl rfl rfl rfl rfl ?_
          refine Ops.skipg rfl rfl rfl rfl rfl ?_
          refine Ops.skipg rfl rfl rfl rfl rfl ?_
          refine Ops.skipg rfl rfl rfl rfl rfl ?_
          refine Ops.skipg rfl rfl rfl rfl rfl ?_
          refine Ops.skipg rfl rfl rfl rfl rfl ?_
          refine Ops.rung rfl rfl rfl ?_
          refine Ops.pick_f rfl rfl rfl ?_
          refine Ops.pick_f rfl rfl rfl ?_
          refine Ops.mv_bool rfl rfl rfl ?_
          refine Ops.rung rfl rfl rfl ?_
          refine Ops.mv_int rfl rfl rfl ?_
          refine Ops.rung rfl rfl rfl ?_
          refine Ops.geq rfl rfl rfl ?_
          refine Ops.rung rfl rfl rfl ?_
          refine Ops.mv_bool rfl rfl rfl ?_
          -- stop: guard 94
          refine Ops.split_p 94 rfl (fun h => absurd h hx) (fun _ => ?_) --f
          refine Ops.skipg rfl rfl rfl rfl rfl ?_
          refine Ops.skipg rfl rfl rfl rfl rfl ?_
          refine Ops.rung rfl rfl rfl ?_
          refine Ops.pick_f rfl rfl rfl ?_
          refine Ops.rung rfl rfl rfl ?_
          refine Ops.mv_bool rfl rfl rfl ?_
          refine Ops.skipg rfl rfl rfl rfl rfl ?_
          refine Ops.skipg rfl rfl rfl rfl rfl ?_
          refine Ops.skipg rfl rfl rfl rfl rfl ?_
          refine Ops.skipg rfl rfl rfl rfl rfl ?_
          refine Ops.skipg rfl rfl rfl rfl rfl ?_
          refine Ops.skipg rfl rfl rfl rfl rfl ?_
          refine Ops.skipg rfl rfl rfl rfl rfl ?_
          refine Ops.skipg rfl rfl rfl rfl rfl ?_
          refine Ops.skipg rfl rfl rfl rfl rfl ?_
          refine Ops.skipg rfl rfl rfl rfl rfl ?_
          refine Ops.skipg rfl rfl rfl rfl rfl ?_
          refine Ops.rung rfl rfl rfl ?_
          refine Ops.pick_f rfl rfl rfl ?_
          refine Ops.rung rfl rfl rfl ?_
          refine Ops.mv_bool rfl rfl rfl ?_
          refine Ops.skipg rfl rfl rfl rfl rfl ?_
          refine Ops.skipg rfl rfl rfl rfl rfl ?_
          refine Ops.skipg rfl rfl rfl rfl rfl ?_
          refine Ops.skipg rfl rfl rfl rfl rfl ?_
          refine Ops.skipg rfl rfl rfl rfl rfl ?_
          refine Ops.skipg rfl rfl rfl rfl rfl ?_
          refine Ops.skipg rfl rfl rfl rfl rfl ?_
          refine Ops.skipg rfl rfl rfl rfl rfl ?_
          refine Ops.skipg rfl rfl rfl rfl rfl ?_
          refine Ops.skipg rfl rfl rfl rfl rfl ?_
          refine Ops.skipg rfl rfl rfl rfl rfl ?_
          refine Ops.skipg rfl rfl rfl rfl rfl ?_
          refine Ops.rung rfl rfl rfl ?_
          refine Ops.pick_f rfl rfl rfl ?_
          refine Ops.pick_f rfl rfl rfl ?_
          refine Ops.nil ?_
          refine thenQ_n ?_
          -- stop: cond
          refine Cd.cond_f rfl ?_
          refine Cd.skip ?_
          refine blockQ_n ?_
          refine thenQ_n ?_
          refine Cd.region ?_
          refine Ops.add rfl rfl rfl (by omega) ?_
          refine Ops.mv_int rfl rfl rfl ?_
          refine Ops.nil ?_
          refine thenQ_n ?_
          -- stop: round
          exact ⟨k + 1, by omega, ⟨rfl, rfl, rfl, rfl, rfl, rfl, trivial⟩, hS2, by omega, more (fun _ hb => by
            rcases hb with hb | ⟨b1, b2, b3, b4⟩ | ⟨b1, b2, b3, b4⟩
            · exact hxg hb
            · exact hx b1
            · exact hx b1)⟩
  · refine Cd.exit ?_
    refine thenQ_x ?_
    refine thenQ_x ?_
    refine blockQ_x ?_
    refine thenQ_n ?_
    refine Cd.seq ?_
    refine Cd.region ?_
    refine Ops.mv_bool rfl rfl rfl ?_
    refine Ops.nil ?_
    refine thenQ_n ?_
    refine Cd.ret ?_
    refine ret1_b rfl ?_
    -- stop: end
    refine ⟨?_, hS1⟩
    rw [show okI M i f = true from decide_eq_true (fun k' hk' hik => hK k' (by omega) hik)]
end Go.Proofs.Ytgobjpcankaicaa.Vc
/-
  The walk of the program's search for rooted forms. Conditions: as each states them.
-/
namespace Go.Proofs.Ytgobjpcankaicaa.Vc
open Go.RowKit

theorem Rd.first {w : World} {A : Option Addr} {n : Nat} {f : Nat → Value} (h : Rd w A (n + 1) f) : Rd w A 1 (fun _ => f 0) := fun j hj => by
  obtain rfl : j = 0 := by omega
  exact h 0 (by omega)

theorem set_same {α : Type} {l : List α} {i : Nat} {x : α} (h : l[i]? = some x) : l.set i x = l := by
  apply List.ext_getElem?
  intro j
  rw [List.getElem?_set]
  split
  · rename_i e; subst e
    rw [if_pos (List.getElem?_eq_some_iff.1 h).1, h]
  · rfl
/-- what is put is taken back -/
theorem put_undo {n F : Nat} {M : List (List Int)} (h : Shp n F M) {r q g : Nat} (hr : r < n) (hq : q < F) (hg : g < F) (hqg : q ≠ g) (h1 : cell M r q = -1) (h2 : cell M r g = -1) : setc (setc (put M r q g) r q (-1)) r g (-1) = M := by
  have hl := h.1
  have hrow := h.row hr
  have e : ∀ (p : List Int), gl (M.set r p) r = p := fun p => by rw [gl_set (by omega), if_pos rfl]
  have g1 : (gl M (r : Nat))[q]? = some (-1) := by rw [List.getElem?_eq_getElem (by omega), ← gi_mem (by omega)]; exact congrArg some h1
  have g2 : (gl M (r : Nat))[g]? = some (-1) := by rw [List.getElem?_eq_getElem (by omega), ← gi_mem (by omega)]; exact congrArg some h2
  unfold put setc
  simp only [e, List.set_set]
  have e2 : ((((gl M (r : Nat)).set q (g : Int)).set g (q : Int)).set q (-1)).set g (-1) = gl M (r : Nat) := by
    apply List.ext_getElem?
    intro j
    simp only [List.getElem?_set, List.length_set]
    by_cases ej : g = j
    · subst ej; rw [if_pos rfl, if_pos (by omega), g2]
    · rw [if_neg ej]
      by_cases ej2 : q = j
      · subst ej2; rw [if_pos rfl, if_pos (by omega), g1]
      · rw [if_neg ej2, if_neg ej, if_neg ej2]
  rw [e2]
  exact set_same (by rw [List.getElem?_eq_getElem (by omega), gl_mem (by omega)])

theorem perm_lr {α : Type} (a b c : List α) : (a ++ (b ++ c)).Perm (b ++ (a ++ c)) := by
  rw [← List.append_assoc, ← List.append_assoc]
  exact List.Perm.append_right _ List.perm_append_comm
/-- what the builder owns -/
def bdK (Ab : Option Addr) (A : Option Addr) (n c F used : Nat) (Al : Option Addr) (nl cl : Nat) (outs : List SlV) (rs : List SlV) (M : List (List Int)) (ks : List Ck) : List Ck :=
  Bx 136 4 Ab [.slice A n c, .int .i64 (F : Int), .int .i64 (used : Int), .slice Al nl cl] :: CkR 24 Al nl cl outs :: (mat 33 2 A n c rs M ++ ks)

theorem build_c (n F : Nat) (hn5 : n ≤ 5) (hF : 2 ≤ F ∧ F ≤ 400) (Ab A : Option Addr) (c : Nat) (rs : List SlV) : ∀ (fuel at_ met : Nat) (M : List (List Int)), Inv n F M met at_ → F * n + 1 ≤ fuel + at_ → ∀ (w0 w : World) (ks : List Ck) (Al : Option Addr) (nl cl : Nat) (outs : List SlV) (f i : Nat), at_ = f * n + i → i ≤ n →
    St w0 w (bdK Ab A n c F met Al nl cl outs rs M ks) → nl + (grow n F okI (fun L => decide (Mani L)) fuel at_ met M).length ≤ 4000000000000 →
    Ret Try.prog 155 [.pointer Ab, .int .i64 (f : Int), .int .i64 (i : Int)] w (fun v w' => ∃ A' c', ∃ new : List MatV, v = .tuple #[] ∧ (∀ m ∈ new, m.ok) ∧ new.map (·.xss) = grow n F okI (fun L => decide (Mani L)) fuel at_ met M ∧
      St w0 w' (bdK Ab A n c F met A' (nl + new.length) c' (outs ++ new.map (·.top)) rs M (matsCk 33 2 new ++ ks))) := by
  intro fuel
  induction fuel using Nat.strongRecOn with
  | _ fuel ih =>
  intro at_ met M hI hfuel w0 w ks Al nl cl outs f i hat hi hS hB
  have hn0 := hI.n0
  have hmet := hI.metF
  have hlen := hI.shp.1
  have hle := hI.le
  unfold bdK at hS
  refine Ret.of_cd Try.func155 rfl Try.ntmps155 rfl (post0 rfl) ?_
  skip
  -- stop: join
  refine Cd.join (α := Nat × Nat) (fun z => [(0, .pointer Ab), (1, .int .i64 (z.1 : Int)), (2, .int .i64 (z.2 : Int))]) (fun z w' => w' = w ∧ at_ = z.1 * n + z.2 ∧ z.2 < n) ?_ ?_
  · refine Cd.seq ?_
    refine Cd.region ?_
    refine Ops.mv_int rfl rfl rfl ?_
    refine Ops.mv_ptr rfl rfl rfl ?_
    -- stop: NILCHECK t10 -> 11
    refine Ops.nilp (hS.rd 0 rfl) (Nat.succ_pos _) rfl rfl ?_
    refine Ops.fld (hS.rd 0 rfl) rfl rfl rfl rfl inferInstance ?_
    refine Ops.ldf_s (hS.rd 0 rfl) rfl rfl rfl rfl rfl ?_
    refine Ops.call (sizeR_c _ _ _ _) rfl rfl rfl ?_
    rintro _ w ⟨rfl, rfl⟩
    refine Ops.eql rfl rfl rfl ?_
    refine Ops.nil ?_
    refine thenQ_n ?_
    -- stop: cond
    have hfF : f * n ≤ 2000 := by
      have h1 : met * n ≤ F * n := Nat.mul_le_mul_right n hmet
      have h2 : F * n ≤ F * 5 := Nat.mul_le_mul_left F hn5
      omega
    have hfn : f ≤ f * n := Nat.le_mul_of_pos_right f hn0
    refine Cd.cond_p _ rfl (fun h1 => ?_) (fun h1 => ?_)
    · refine Cd.region ?_
      refine Ops.mv_int rfl rfl rfl ?_
      refine Ops.add rfl rfl rfl (by omega) ?_
      refine Ops.mv_int rfl rfl rfl ?_
      refine Ops.mv_int rfl rfl rfl ?_
      refine Ops.nil ?_
      refine thenQ_n ?_
      -- stop: round
      exact ⟨(f + 1, 0), ⟨rfl, rfl, rfl, trivial⟩, rfl, by show at_ = (f + 1) * n + 0; rw [Nat.succ_mul]; omega, hn0⟩
    · refine Cd.skip ?_
      refine thenQ_n ?_
      -- stop: round
      exact ⟨(f, i), ⟨rfl, rfl, rfl, trivial⟩, rfl, hat, by show i < n; omega⟩
  rintro ⟨q, r⟩ e w ⟨rfl, haq, hrn⟩
  dsimp only at haq hrn ⊢
  have hr : at_ % n = r := by rw [haq, Nat.add_comm, Nat.add_mul_mod_self_right, Nat.mod_eq_of_lt hrn]
  have hq : at_ / n = q := by rw [haq, Nat.add_comm, Nat.add_mul_div_right _ _ hn0, Nat.div_eq_of_lt hrn, Nat.zero_add]
  clear hat hi
  refine Cd.seq ?_
  refine Cd.seq ?_
  refine Cd.region ?_
  refine Ops.mv_int rfl rfl rfl ?_
  refine Ops.mv_ptr rfl rfl rfl ?_
  -- stop: NILCHECK t19 -> 20
  refine Ops.nilp (hS.rd 0 rfl) (Nat.succ_pos _) rfl rfl ?_
  refine Ops.fld (hS.rd 0 rfl) rfl rfl rfl rfl inferInstance ?_
  refine Ops.ldf_i (hS.rd 0 rfl) rfl rfl rfl rfl rfl ?_
  refine Ops.eql rfl rfl rfl ?_
  refine Ops.mv_bool rfl rfl rfl ?_
  -- stop: guard 24
  refine Ops.split_p 24 rfl (fun h1 => ?_) (fun h1 => ?_)
  · have hr0 : r = 0 := by
      have : q = met := by omega
      subst this
      omega
    have hqm : q = met := by omega
    subst hqm
    subst hr0
    obtain ⟨f', rfl⟩ : ∃ f', fuel = f' + 1 := ⟨fuel - 1, by have : q * n ≤ F * n := Nat.mul_le_mul_right n hmet; omega⟩
    have hgr : grow n F okI (fun L => decide (Mani L)) (f' + 1) at_ q M = if q = F ∧ (fun (L : List (List Int)) => decide (Mani L)) M = true then [M] else [] := by
      show (if _ then _ else _) = _
      rw [if_pos (by omega)]
    rw [hgr] at hB ⊢
    refine Ops.skipg rfl rfl rfl rfl rfl ?_
    refine Ops.skipg rfl rfl rfl rfl rfl ?_
    refine Ops.skipg rfl rfl rfl rfl rfl ?_
    refine Ops.skipg rfl rfl rfl rfl rfl ?_
    refine Ops.skipg rfl rfl rfl rfl rfl ?_
    refine Ops.skipg rfl rfl rfl rfl rfl ?_
    refine Ops.pick_t rfl rfl rfl ?_
    refine Ops.nil ?_
    refine thenQ_n ?_
    -- stop: cond
    refine Cd.cond_t rfl ?_
    refine Cd.seq ?_
    refine Cd.seq ?_
    refine Cd.region ?_
    refine Ops.mv_ptr rfl rfl rfl ?_
    -- stop: NILCHECK t32 -> 33
    refine Ops.nilp (hS.rd 0 rfl) (Nat.succ_pos _) rfl rfl ?_
    refine Ops.fld (hS.rd 0 rfl) rfl rfl rfl rfl inferInstance ?_
    refine Ops.ldf_s (hS.rd 0 rfl) rfl rfl rfl rfl rfl ?_
    refine Ops.bld1 (by exact inferInstance) (by exact rfl) rfl rfl rfl ?_
    refine Ops.new1 hS rfl ?_
    intro A6 w6 hS6
    refine Ops.st_agg 1 0 hS6 rfl rfl rfl rfl rfl rfl rfl ?_
    intro w7 hS7
    have hS7 : St w0 w7 (Bx 24 1 A6 [.slice A n c] :: Bx 136 4 Ab [.slice A n c, .int .i64 (F : Int), .int .i64 (q : Int), .slice Al nl cl] :: CkR 24 Al nl cl outs :: (mat 33 2 A n c rs M ++ ks)) := hS7
    refine Ops.nil ?_
    refine thenQ_n ?_
    refine Cd.seq ?_
    refine Cd.region ?_
    refine Ops.mv_int rfl rfl rfl ?_
    refine Ops.mv_ptr rfl rfl rfl ?_
    -- stop: NILCHECK t38 -> 39
    refine Ops.nilp (hS7.rd 1 rfl) (Nat.succ_pos _) rfl rfl ?_
    refine Ops.fld (hS7.rd 1 rfl) rfl rfl rfl rfl inferInstance ?_
    refine Ops.ldf_i (hS7.rd 1 rfl) rfl rfl rfl rfl rfl ?_
    refine Ops.eql rfl rfl rfl ?_
    refine Ops.mv_bool rfl rfl rfl ?_
    -- stop: guard 43
    refine Ops.split_p 43 rfl (fun h2 => ?_) (fun h2 => ?_)
    · have hcap := hS7.cap 3 rfl
      have hM7 : ∀ {w'}, St w0 w' (Bx 24 1 A6 [.slice A n c] :: Bx 136 4 Ab [.slice A n c, .int .i64 (F : Int), .int .i64 (q : Int), .slice Al nl cl] :: CkR 24 Al nl cl outs :: (mat 33 2 A n c rs M ++ ks)) → RowsI w' A n rs M := fun h => h.tail.tail.tail.rowsI hlen
      refine Ops.rung rfl rfl rfl ?_
      -- stop: LOAD 24 t6 -> 44
      refine Ops.ld_agg 0 (hS7.rd 0 rfl) rfl rfl rfl ?_
      refine Ops.rung rfl rfl rfl ?_
      -- stop: CALL impl.isManiplex(t44) -> 45
      refine Ops.call (isManiplex_c A n c rs M _ (hM7 hS7) hcap.1 hcap.2) rfl rfl rfl ?_
      rintro _ w8 ⟨rfl, hst⟩
      have hS8 := hS7.later hst.below
      refine Ops.pick_t rfl rfl rfl ?_
      refine Ops.nil ?_
      refine thenQ_n ?_
      -- stop: cond
      have hqF : q = F := by omega
      have hB6 := hS8.rd 0 rfl
      have hBb := hS8.rd 1 rfl
      refine Cd.cond_p _ rfl (fun h3 => ?_) (fun h3 => ?_)
      · rw [if_pos ⟨hqF, decide_eq_true h3⟩] at hB ⊢
        simp only [List.length_singleton] at hB
        skip
        -- stop: draw
        refine Cd.drawN [8, 11] [.ex (.pointer (Ab)), .ex (.pointer (Ab)), .ex (.pointer (Ab)), .ex (.pointer (ptrAt (Ab) 3)), .ex (.slice (Al) (nl) (cl)), .ex (.agg #[.slice (A) (n) (c)]), .pr (fun v w' => ∃ A7 c7 rs7, v = .agg #[.slice A7 n c7] ∧ rs7.length = n ∧ St w0 w' ((Bx 24 1 A6 [.slice A n c] :: Bx 136 4 Ab [.slice A n c, .int .i64 (F : Int), .int .i64 (q : Int), .slice Al nl cl] :: CkR 24 Al nl cl outs :: (mat 33 2 A n c rs M ++ ks)) ++ mat 33 2 A7 n c7 rs7 M)), .pr (fun v w' => ∃ A7 c7 rs7 A9, v = .slice A9 1 1 ∧ rs7.length = n ∧ St w0 w' (CkR 24 A9 1 1 [⟨A7, n, c7⟩] :: ((Bx 24 1 A6 [.slice A n c] :: Bx 136 4 Ab [.slice A n c, .int .i64 (F : Int), .int .i64 (q : Int), .slice Al nl cl] :: CkR 24 Al nl cl outs :: (mat 33 2 A n c rs M ++ ks)) ++ mat 33 2 A7 n c7 rs7 M))), .pr (fun v w' => ∃ A7 c7 rs7 A10 c10, v = .slice A10 (nl + 1) c10 ∧ rs7.length = n ∧ St w0 w' ((Bx 24 1 A6 [.slice A n c] :: Bx 136 4 Ab [.slice A n c, .int .i64 (F : Int), .int .i64 (q : Int), .slice Al nl cl] :: CkR 24 A10 (nl + 1) c10 (outs ++ [⟨A7, n, c7⟩]) :: (mat 33 2 A n c rs M ++ ks)) ++ mat 33 2 A7 n c7 rs7 M)), .ex (.pointer (Ab)), .ex (.pointer (ptrAt (Ab) 3)), .pr (fun _ w' => ∃ A7 c7 rs7 A10 c10, rs7.length = n ∧ St w0 w' ((Bx 24 1 A6 [.slice A n c] :: Bx 136 4 Ab [.slice A n c, .int .i64 (F : Int), .int .i64 (q : Int), .slice A10 (nl + 1) c10] :: CkR 24 A10 (nl + 1) c10 (outs ++ [⟨A7, n, c7⟩]) :: (mat 33 2 A n c rs M ++ ks)) ++ mat 33 2 A7 n c7 rs7 M))] (by kernel_rfl) (by kernel_rfl) (List.forall_mem_cons.2 ⟨Yd.lasts_ex _, (List.forall_mem_cons.2 ⟨Yd.lasts_ex _, (List.forall_mem_cons.2 ⟨Yd.lasts_ex _, (List.forall_mem_cons.2 ⟨Yd.lasts_ex _, (List.forall_mem_cons.2 ⟨Yd.lasts_ex _, (List.forall_mem_cons.2 ⟨Yd.lasts_ex _, (List.forall_mem_cons.2 ⟨Yd.lasts_pr (fun v w w' h hb => by obtain ⟨A7, c7, rs7, hv, hl, hT⟩ := h; exact ⟨A7, c7, rs7, hv, hl, hT.later hb⟩), (List.forall_mem_cons.2 ⟨Yd.lasts_pr (fun v w w' h hb => by obtain ⟨A7, c7, rs7, A9, hv, hl, hT⟩ := h; exact ⟨A7, c7, rs7, A9, hv, hl, hT.later hb⟩), (List.forall_mem_cons.2 ⟨Yd.lasts_pr (fun v w w' h hb => by obtain ⟨A7, c7, rs7, A10, c10, hv, hl, hT⟩ := h; exact ⟨A7, c7, rs7, A10, c10, hv, hl, hT.later hb⟩), (List.forall_mem_cons.2 ⟨Yd.lasts_ex _, (List.forall_mem_cons.2 ⟨Yd.lasts_ex _, (List.forall_mem_cons.2 ⟨Yd.lasts_pr (fun v w w' h hb => by obtain ⟨A7, c7, rs7, A10, c10, hl, hT⟩ := h; exact ⟨A7, c7, rs7, A10, c10, hl, hT.later hb⟩), (fun _ h => by cases h)⟩)⟩)⟩)⟩)⟩)⟩)⟩)⟩)⟩)⟩)⟩)⟩) ⟨?_, ?_, ?_, ?_, ?_, ?_, ?_, ?_, ?_, ?_, ?_, ?_, trivial⟩ ?_
        · intro e1 w1 cc hlo hhi hb0 hp hun hq
          show Ops _ _ _ _ _ _ _
          refine Ops.mv_ptr rfl rfl rfl ?_
          refine Ops.nil ?_
          exact AfterN.dn rfl (Below.refl _ _) (by exact rfl)
        · intro e1 w1 cc hlo hhi hb0 hp hun hq
          show Ops _ _ _ _ _ _ _
          refine Ops.mv_ptr rfl rfl rfl ?_
          refine Ops.nil ?_
          exact AfterN.dn rfl (Below.refl _ _) (by exact rfl)
        · intro e1 w1 cc hlo hhi hb0 hp hun hq
          show Ops _ _ _ _ _ _ _
          replace hlo := le_of_lo hlo (b := 0) (by kernel_rfl)
          replace hhi := le_of_hi hhi (b := 0) (by kernel_rfl)
          obtain rfl : cc = 0 := by omega
          have hb := hb0 rfl
          refine Ops.nilp (hBb.below hb) (Nat.succ_pos _) rfl rfl ?_
          refine Ops.nil ?_
          exact AfterN.dn rfl (Below.refl _ _) (by exact rfl)
        · intro e1 w1 cc hlo hhi hb0 hp hun hq
          show Ops _ _ _ _ _ _ _
          replace hlo := le_of_lo hlo (b := 0) (by kernel_rfl)
          replace hhi := le_of_hi hhi (b := 0) (by kernel_rfl)
          obtain rfl : cc = 0 := by omega
          have hb := hb0 rfl
          refine Ops.fld (hBb.below hb) rfl rfl rfl rfl inferInstance ?_
          refine Ops.nil ?_
          exact AfterN.dn rfl (Below.refl _ _) (by exact rfl)
        · intro e1 w1 cc hlo hhi hb0 hp hun hq
          show Ops _ _ _ _ _ _ _
          replace hlo := le_of_lo hlo (b := 0) (by kernel_rfl)
          replace hhi := le_of_hi hhi (b := 0) (by kernel_rfl)
          obtain rfl : cc = 0 := by omega
          have hb := hb0 rfl
          refine Ops.ldf_s (hBb.below hb) rfl rfl rfl rfl rfl ?_
          refine Ops.nil ?_
          exact AfterN.dn rfl (Below.refl _ _) (by exact rfl)
        · intro e1 w1 cc hlo hhi hb0 hp hun hq
          show Ops _ _ _ _ _ _ _
          replace hlo := le_of_lo hlo (b := 0) (by kernel_rfl)
          replace hhi := le_of_hi hhi (b := 0) (by kernel_rfl)
          obtain rfl : cc = 0 := by omega
          have hb := hb0 rfl
          refine Ops.ld_agg 0 (hB6.below hb) rfl rfl rfl ?_
          refine Ops.nil ?_
          exact AfterN.dn rfl (Below.refl _ _) (by exact rfl)
        · intro e1 w1 cc hlo hhi hb0 hp hun hq
          show Ops _ _ _ _ _ _ _
          replace hlo := le_of_lo hlo (b := 0) (by kernel_rfl)
          replace hhi := le_of_hi hhi (b := 0) (by kernel_rfl)
          obtain rfl : cc = 0 := by omega
          have hb := hb0 rfl
          refine Ops.call (cloneManiplex_c A n c rs M _ (hM7 (hS8.later hb)) (by omega) (fun i hi => by have := (hM7 (hS8.later hb)).shp hI.shp (k := (i : Int)) (by omega) (by omega); simp only [rg, Int.toNat_natCast] at this; omega)) rfl rfl rfl ?_
          rintro _ w2 ⟨A7, c7, rs7, rfl, hl7, hst⟩
          refine Ops.nil ?_
          exact AfterN.dn rfl hst.below ⟨A7, c7, rs7, rfl, hl7, (hS8.later hb).call2 hst⟩
        · intro e1 w1 cc hlo hhi hb0 hp hun hq
          show Ops _ _ _ _ _ _ _
          replace hlo := le_of_lo hlo (b := 0) (by kernel_rfl)
          replace hhi := le_of_hi hhi (b := 0) (by kernel_rfl)
          obtain rfl : cc = 0 := by omega
          have hb := hb0 rfl
          obtain ⟨A7, c7, rs7, h53, hl7, hT⟩ := (hp 6 _ _ (by kernel_rfl) rfl rfl (by kernel_rfl))
          have hb := hb0 rfl
          refine Ops.bs1A (St.refl _) (by exact h53) rfl rfl ?_
          intro A9 w9 hst
          refine Ops.nil ?_
          exact AfterN.dn rfl hst.below ⟨A7, c7, rs7, A9, rfl, hl7, hT.call hst⟩
        · intro e1 w1 cc hlo hhi hb0 hp hun hq
          show Ops _ _ _ _ _ _ _
          replace hlo := le_of_lo hlo (b := 0) (by kernel_rfl)
          replace hhi := le_of_hi hhi (b := 0) (by kernel_rfl)
          obtain rfl : cc = 0 := by omega
          have hb := hb0 rfl
          obtain ⟨A7, c7, rs7, A9, h54, hl7, hT⟩ := (hp 7 _ _ (by kernel_rfl) rfl rfl (by kernel_rfl))
          refine Ops.appR 3 hT rfl (hT.rdR 0 rfl) rfl (by exact h54) rfl (by omega) (by omega) rfl ?_
          intro A10 c10 w10 hT10
          refine Ops.nil ?_
          exact AfterT.dn rfl ⟨A7, c7, rs7, A10, c10, rfl, hl7, hT10.tail⟩
        · intro e1 w1 cc hlo hhi hb0 hp hun hq
          show Ops _ _ _ _ _ _ _
          replace hlo := le_of_lo hlo (b := 1) (by kernel_rfl)
          replace hhi := le_of_hi hhi (b := 1) (by kernel_rfl)
          obtain rfl : cc = 1 := by omega
          have hph := hp 8 _ _ (by kernel_rfl) rfl rfl (by kernel_rfl)
          obtain ⟨A7, c7, rs7, A10, c10, h55, hl7, hT⟩ := hph
          refine Ops.nilp ((hT.rd 1 rfl)) (Nat.succ_pos _) rfl rfl ?_
          refine Ops.nil ?_
          exact AfterN.dn rfl (Below.refl _ _) (by exact rfl)
        · intro e1 w1 cc hlo hhi hb0 hp hun hq
          show Ops _ _ _ _ _ _ _
          replace hlo := le_of_lo hlo (b := 1) (by kernel_rfl)
          replace hhi := le_of_hi hhi (b := 1) (by kernel_rfl)
          obtain rfl : cc = 1 := by omega
          have hph := hp 8 _ _ (by kernel_rfl) rfl rfl (by kernel_rfl)
          obtain ⟨A7, c7, rs7, A10, c10, h55, hl7, hT⟩ := hph
          refine Ops.fld ((hT.rd 1 rfl)) rfl rfl rfl rfl inferInstance ?_
          refine Ops.nil ?_
          exact AfterN.dn rfl (Below.refl _ _) (by exact rfl)
        · intro e1 w1 cc hlo hhi hb0 hp hun hq
          show Ops _ _ _ _ _ _ _
          replace hlo := le_of_lo hlo (b := 1) (by kernel_rfl)
          replace hhi := le_of_hi hhi (b := 1) (by kernel_rfl)
          obtain rfl : cc = 1 := by omega
          have hph := hp 8 _ _ (by kernel_rfl) rfl rfl (by kernel_rfl)
          obtain ⟨A7, c7, rs7, A10, c10, h55, hl7, hT⟩ := hph
          refine Ops.stf 1 hT rfl rfl (by exact h55) rfl rfl ?_
          intro w11 hT11
          refine Ops.nil ?_
          exact AfterT.st rfl ⟨A7, c7, rs7, A10, c10, hl7, hT11⟩
        intro u w9 _ hu
        obtain ⟨A7, c7, rs7, A10, c10, hl7, hT⟩ := hu 11 _ rfl (by kernel_rfl)
        refine thenQ_n ?_
        refine Cd.ret ?_
        refine thenQ_r ?_
        refine ret0_r ?_
        -- stop: end
        refine ⟨A10, c10, [⟨⟨A7, n, c7⟩, rs7, M⟩], rfl, (fun m hm => by simp at hm; subst hm; exact hlen), rfl, ?_⟩
        have hT := hT.tail
        unfold bdK
        simp only [matsCk, MatV.cks, List.flatMap_cons, List.flatMap_nil, List.append_nil, List.map_cons, List.map_nil, List.length_singleton]
        refine hT.perm ?_
        refine List.Perm.cons _ (List.Perm.cons _ ?_)
        show ((mat 33 2 A n c rs M ++ ks) ++ mat 33 2 A7 n c7 rs7 M).Perm _
        rw [List.append_assoc]
        exact List.Perm.append_left _ List.perm_append_comm
      · rw [if_neg (fun h => h3 (of_decide_eq_true h.2))]
        refine Cd.skip ?_
        refine thenQ_n ?_
        refine Cd.ret ?_
        refine thenQ_r ?_
        refine ret0_r ?_
        -- stop: end
        exact ⟨Al, cl, [], rfl, (fun m hm => by cases hm), rfl, by simpa [matsCk, bdK] using hS8.tail⟩
    · rw [if_neg (fun h => h2 (by rw [h.1]))]
      refine Ops.skipg rfl rfl rfl rfl rfl ?_
      refine Ops.skipg rfl rfl rfl rfl rfl ?_
      refine Ops.pick_f rfl rfl rfl ?_
      refine Ops.nil ?_
      refine thenQ_n ?_
      -- stop: cond
      refine Cd.cond_f rfl ?_
      refine Cd.skip ?_
      refine thenQ_n ?_
      refine Cd.ret ?_
      refine thenQ_r ?_
      refine ret0_r ?_
      -- stop: end
      exact ⟨Al, cl, [], rfl, (fun m hm => by cases hm), rfl, by simpa [matsCk, bdK] using hS7.tail⟩
  · have hqm : q < met := by
      apply Classical.byContradiction
      intro h
      have h3 : (met + 1) * n ≤ q * n := Nat.mul_le_mul_right n (by omega)
      rw [Nat.succ_mul] at h3
      omega
    have haM : at_ ≠ met * n := by
      have h3 : (q + 1) * n ≤ met * n := Nat.mul_le_mul_right n (by omega)
      rw [Nat.succ_mul] at h3
      omega
    have hmnF : met * n ≤ F * n := Nat.mul_le_mul_right n hmet
    obtain ⟨f', rfl⟩ : ∃ f', fuel = f' + 1 := ⟨fuel - 1, by omega⟩
    refine Ops.rung rfl rfl rfl ?_
    refine Ops.mv_int rfl rfl rfl ?_
    refine Ops.rung rfl rfl rfl ?_
    refine Ops.mv_ptr rfl rfl rfl ?_
    refine Ops.rung rfl rfl rfl ?_
    -- stop: NILCHECK t26 -> 27
    refine Ops.nilp (hS.rd 0 rfl) (Nat.succ_pos _) rfl rfl ?_
    refine Ops.rung rfl rfl rfl ?_
    -- stop: FIELDADDR 136 t27 1 -> 28
    refine Ops.fld (hS.rd 0 rfl) rfl rfl rfl rfl inferInstance ?_
    refine Ops.rung rfl rfl rfl ?_
    -- stop: LOAD 2 t28 -> 29
    refine Ops.ldf_i (hS.rd 0 rfl) rfl rfl rfl rfl rfl ?_
    refine Ops.rung rfl rfl rfl ?_
    refine Ops.eql rfl rfl rfl ?_
    refine Ops.pick_f rfl rfl rfl ?_
    refine Ops.nil ?_
    refine thenQ_n ?_
    -- stop: cond
    refine Cd.cond_pf rfl (by omega) ?_
    have hR := hS.tail.tail.rowsI hlen
    have hrow := hR.at_ (i := (r : Int)) (by omega) (by omega)
    have hrw := hR.shp hI.shp (k := (r : Int)) (by omega) (by omega)
    refine Cd.skip ?_
    refine thenQ_n ?_
    refine Cd.seq ?_
    refine Cd.seq ?_
    refine Cd.region ?_
    refine Ops.mv_ptr rfl rfl rfl ?_
    -- stop: NILCHECK t58 -> 59
    refine Ops.nilp (hS.rd 0 rfl) (Nat.succ_pos _) rfl rfl ?_
    refine Ops.fld (hS.rd 0 rfl) rfl rfl rfl rfl inferInstance ?_
    refine Ops.ldf_s (hS.rd 0 rfl) rfl rfl rfl rfl rfl ?_
    refine Ops.mv_int rfl rfl rfl ?_
    -- stop: INDEXADDR 22 t61 t62 -> 63
    refine Ops.idx hR.top.2 rfl rfl rfl (by omega) (by omega) ?_
    refine Ops.ld_sl hR.top rfl (by omega) rfl rfl ?_
    refine Ops.mv_int rfl rfl rfl ?_
    -- stop: INDEXADDR 33 t64 t65 -> 66
    refine Ops.idx hrow.2 rfl rfl rfl (by omega) (by omega) ?_
    refine Ops.ld_int hrow rfl (by omega) rfl rfl ?_
    refine Ops.geq rfl rfl rfl ?_
    refine Ops.nil ?_
    refine thenQ_n ?_
    -- stop: cond
    refine Cd.cond_p _ rfl (fun h2 => ?_) (fun h2 => ?_)
    · have hk : 0 ≤ cell M (at_ % n) (at_ / n : Nat) := by rw [hr, hq]; exact h2
      have hgr : grow n F okI (fun L => decide (Mani L)) (f' + 1) at_ met M = grow n F okI (fun L => decide (Mani L)) f' (at_ + 1) met M := by
        show (if _ then _ else _) = _
        rw [if_neg haM, if_pos hk]
      rw [hgr] at hB ⊢
      refine Cd.seq ?_
      refine Cd.region ?_
      refine Ops.mv_ptr rfl rfl rfl ?_
      refine Ops.mv_int rfl rfl rfl ?_
      refine Ops.mv_int rfl rfl rfl ?_
      refine Ops.add rfl rfl rfl (by omega) ?_
      -- stop: CALL impl.builder).build(t69, t70, t72) -> 73
      refine Ops.call (ih f' (by omega) (at_ + 1) met M (hI.next haM hk) (by omega) w0 w ks Al nl cl outs q (r + 1) (by omega) (by omega) hS hB) rfl rfl rfl ?_
      rintro _ w2 ⟨A', c', new, rfl, hok, hx, hT⟩
      refine Ops.nil ?_
      refine thenQ_n ?_
      refine Cd.ret ?_
      refine thenQ_r ?_
      refine ret0_r ?_
      -- stop: end
      exact ⟨A', c', new, rfl, hok, hx, hT⟩
    · have hun : ¬ 0 ≤ cell M (at_ % n) (at_ / n : Nat) := by rw [hr, hq]; exact h2
      have hgr : grow n F okI (fun L => decide (Mani L)) (f' + 1) at_ met M = (List.range' (q + 1) (min met (F - 1) - q)).flatMap (body n F okI (fun L => decide (Mani L)) f' at_ met M) := by
        rw [grow_body haM hun, hq]
      rw [hgr] at hB ⊢
      refine Cd.skip ?_
      refine thenQ_n ?_
      refine Cd.seq ?_
      refine Cd.region ?_
      refine Ops.mv_ptr rfl rfl rfl ?_
      -- stop: NILCHECK t74 -> 75
      refine Ops.nilp (hS.rd 0 rfl) (Nat.succ_pos _) rfl rfl ?_
      refine Ops.fld (hS.rd 0 rfl) rfl rfl rfl rfl inferInstance ?_
      refine Ops.ldf_i (hS.rd 0 rfl) rfl rfl rfl rfl rfl ?_
      refine Ops.mv_int rfl rfl rfl ?_
      refine Ops.nil ?_
      refine thenQ_n ?_
      refine Cd.seq ?_
      refine Cd.region ?_
      refine Ops.mv_int rfl rfl rfl ?_
      refine Ops.add rfl rfl rfl (by omega) ?_
      refine Ops.mv_int rfl rfl rfl ?_
      refine Ops.nil ?_
      refine thenQ_n ?_
      refine Cd.block ?_
      -- stop: loop
      refine Cd.loop (α := Nat × Option Addr × Nat × List MatV) (fun z => [(0, .pointer Ab), (1, .int .i64 (q : Int)), (2, .int .i64 (r : Int)), (7, .int .i64 (met : Int)), (8, .int .i64 (z.1 : Int))])
        (fun z w' => St w0 w' (bdK Ab A n c F met z.2.1 (nl + z.2.2.2.length) z.2.2.1 (outs ++ z.2.2.2.map (·.top)) rs M (matsCk 33 2 z.2.2.2 ++ ks)) ∧ q + 1 ≤ z.1 ∧ z.1 ≤ q + 1 + (min met (F - 1) - q) ∧ (∀ m ∈ z.2.2.2, m.ok) ∧ z.2.2.2.map (·.xss) = (List.range' (q + 1) (z.1 - (q + 1))).flatMap (body n F okI (fun L => decide (Mani L)) f' at_ met M))
        (fun z => q + 2 + (min met (F - 1) - q) - z.1) (q + 1, Al, cl, []) ⟨rfl, rfl, rfl, rfl, rfl, trivial⟩ ⟨by simpa [matsCk, bdK] using hS, Nat.le_refl _, Nat.le_add_right _ _, (fun m hm => by cases hm), by simp⟩ ?_
      rintro ⟨g, Ag, cg, new⟩ e w4 ⟨hS4, hg1, hg2, hnew, hxs⟩
      dsimp only at hS4 hg1 hg2 hnew hxs ⊢
      unfold bdK at hS4
      have hexit : ∀ {w5 : World}, St w0 w5 (bdK Ab A n c F met Ag (nl + new.length) cg (outs ++ new.map (·.top)) rs M (matsCk 33 2 new ++ ks)) → g = q + 1 + (min met (F - 1) - q) → ∃ A' c', ∃ new' : List MatV, (Value.tuple #[] : Value) = .tuple #[] ∧ (∀ m ∈ new', m.ok) ∧ new'.map (·.xss) = (List.range' (q + 1) (min met (F - 1) - q)).flatMap (body n F okI (fun L => decide (Mani L)) f' at_ met M) ∧ St w0 w5 (bdK Ab A n c F met A' (nl + new'.length) c' (outs ++ new'.map (·.top)) rs M (matsCk 33 2 new' ++ ks)) := fun h hge => ⟨Ag, cg, new, rfl, hnew, by rw [hxs]; congr 2; omega, h⟩
      refine Cd.seq ?_
      refine Cd.seq ?_
      refine Cd.region ?_
      refine Ops.mv_int rfl rfl rfl ?_
      refine Ops.mv_int rfl rfl rfl ?_
      refine Ops.leq rfl rfl rfl ?_
      refine Ops.mv_bool rfl rfl rfl ?_
      -- stop: guard 83
      refine Ops.split_p 83 rfl (fun h3 => ?_) (fun h3 => ?_)
      · refine Ops.rung rfl rfl rfl ?_
        refine Ops.mv_int rfl rfl rfl ?_
        refine Ops.rung rfl rfl rfl ?_
        refine Ops.mv_ptr rfl rfl rfl ?_
        refine Ops.rung rfl rfl rfl ?_
        -- stop: NILCHECK t85 -> 86
        refine Ops.nilp (hS4.rd 0 rfl) (Nat.succ_pos _) rfl rfl ?_
        refine Ops.rung rfl rfl rfl ?_
        -- stop: FIELDADDR 136 t86 1 -> 87
        refine Ops.fld (hS4.rd 0 rfl) rfl rfl rfl rfl inferInstance ?_
        refine Ops.rung rfl rfl rfl ?_
        -- stop: LOAD 2 t87 -> 88
        refine Ops.ldf_i (hS4.rd 0 rfl) rfl rfl rfl rfl rfl ?_
        refine Ops.rung rfl rfl rfl ?_
        refine Ops.lss rfl rfl rfl ?_
        refine Ops.pick_t rfl rfl rfl ?_
        refine Ops.nil ?_
        refine thenQ_n ?_
        -- stop: cond
        refine Cd.cond_p _ rfl (fun h4 => ?_) (fun h4 => ?_)
        · have hgm : g < q + 1 + (min met (F - 1) - q) := by omega
          have hR4 := hS4.tail.tail.rowsI hlen
          have hrsl : rs.length = n := hR4.top.1
          have hrow := hR4.at_ (i := (r : Int)) (by omega) (by omega)
          have hrnF := hR4.shp hI.shp (k := (r : Int)) (by omega) (by omega)
          have hstep := range_step (body n F okI (fun L => decide (Mani L)) f' at_ met M) hg1 hgm
          have hrest := range_rest (body n F okI (fun L => decide (Mani L)) f' at_ met M) hg1 hgm
          have hnl : new.length = ((List.range' (q + 1) (g - (q + 1))).flatMap (body n F okI (fun L => decide (Mani L)) f' at_ met M)).length := by rw [← hxs]; simp
          refine Cd.skip ?_
          refine thenQ_n ?_
          refine Cd.seq ?_
          refine Cd.block ?_
          refine Cd.seq ?_
          refine Cd.seq ?_
          refine Cd.region ?_
          refine Ops.mv_ptr rfl rfl rfl ?_
          -- stop: NILCHECK t93 -> 94
          refine Ops.nilp (hS4.rd 0 rfl) (Nat.succ_pos _) rfl rfl ?_
          refine Ops.fld (hS4.rd 0 rfl) rfl rfl rfl rfl inferInstance ?_
          refine Ops.ldf_s (hS4.rd 0 rfl) rfl rfl rfl rfl rfl ?_
          refine Ops.mv_int rfl rfl rfl ?_
          -- stop: INDEXADDR 22 t96 t97 -> 98
          refine Ops.idx hR4.top.2 rfl rfl rfl (by omega) (by omega) ?_
          refine Ops.ld_sl hR4.top rfl (by omega) rfl rfl ?_
          refine Ops.mv_int rfl rfl rfl ?_
          -- stop: INDEXADDR 33 t99 t100 -> 101
          refine Ops.idx hrow.2 rfl rfl rfl (by omega) (by omega) ?_
          refine Ops.ld_int hrow rfl (by omega) rfl rfl ?_
          refine Ops.geq rfl rfl rfl ?_
          refine Ops.nil ?_
          refine thenQ_n ?_
          -- stop: cond
          refine Cd.cond_p _ rfl (fun h5 => ?_) (fun h5 => ?_)
          · have hbd : body n F okI (fun L => decide (Mani L)) f' at_ met M g = [] := by unfold body; rw [hr, if_pos (show 0 ≤ cell M r g from h5)]
            refine Cd.exit ?_
            refine thenQ_x ?_
            refine blockQ_x ?_
            refine thenQ_n ?_
            refine Cd.region ?_
            refine Ops.mv_int rfl rfl rfl ?_
            refine Ops.add rfl rfl rfl (by omega) ?_
            refine Ops.mv_int rfl rfl rfl ?_
            refine Ops.nil ?_
            refine thenQ_n ?_
            -- stop: round
            refine ⟨(g + 1, Ag, cg, new), by show _ - (g + 1) < _ - g; omega, ⟨rfl, rfl, rfl, rfl, rfl, trivial⟩, hS4, by show q + 1 ≤ g + 1; omega, by show g + 1 ≤ _; omega, hnew, ?_⟩
            show new.map _ = (List.range' (q + 1) (g + 1 - (q + 1))).flatMap _
            rw [hstep, hbd, List.append_nil, hxs]
          · have hI7 := hI.put haM hun (g := g) (by omega) (by omega) (by omega) (by rw [hr]; exact h5)
            rw [hr, hq] at hI7
            have hbd : body n F okI (fun L => decide (Mani L)) f' at_ met M g = if okI (put M r q g) r q = true then grow n F okI (fun L => decide (Mani L)) f' (at_ + 1) (max met (g + 1)) (put M r q g) else [] := by
              unfold body
              rw [hr, hq, if_neg (show ¬ 0 ≤ cell M r g from h5)]
            have hsh6 := hI.shp.setc hrn q (g : Int)
            have hundo : setc (setc (put M r q g) r q (-1)) r g (-1) = M := put_undo hI.shp hrn (by omega) (by omega) (by omega) ((hI.cells r q hrn (by omega) (by omega)).resolve_right (fun h => h2 h.1)) ((hI.cells r g hrn (by omega) (by omega)).resolve_right (fun h => h5 h.1))
            have hcq : 0 ≤ cell (put M r q g) r q := by
              rw [cell_put hI.shp hrn (by omega) (by omega) (by omega), if_neg (by omega), if_pos ⟨rfl, rfl⟩]; omega
            refine Cd.skip ?_
            refine thenQ_n ?_
            refine Cd.seq ?_
            -- stop: draw
            refine Cd.drawN [19, 21] [.ex (.pointer (Ab)), .ex (.pointer (Ab)), .ex (.pointer (ptrAt (Ab) 0)), .ex (.slice (A) (n) (c)), .ex (.int .i64 ((r : Int))), .ex (.pointer (ptrAt (A) ((r : Int)).toNat)), .ex (.slice ((rg (rs) ((r : Int))).a) ((rg (rs) ((r : Int))).n) ((rg (rs) ((r : Int))).c)), .ex (.int .i64 ((q : Int))), .ex (.pointer (Ab)), .ex (.pointer (Ab)), .ex (.pointer (ptrAt (Ab) 0)), .ex (.slice (A) (n) (c)), .ex (.int .i64 ((r : Int))), .ex (.pointer (ptrAt (A) ((r : Int)).toNat)), .ex (.slice ((rg (rs) ((r : Int))).a) ((rg (rs) ((r : Int))).n) ((rg (rs) ((r : Int))).c)), .ex (.int .i64 ((g : Int))), .ex (.int .i64 ((g : Int))), .ex (.int .i64 ((q : Int))), .ex (.pointer (ptrAt ((rg (rs) ((r : Int))).a) ((q : Int)).toNat)), .pr (fun _ w' => St w0 w' (bdK Ab A n c F met Ag (nl + new.length) cg (outs ++ new.map (·.top)) rs (setc M r q g) (matsCk 33 2 new ++ ks))), .ex (.pointer (ptrAt ((rg (rs) ((r : Int))).a) ((g : Int)).toNat)), .pr (fun _ w' => St w0 w' (bdK Ab A n c F met Ag (nl + new.length) cg (outs ++ new.map (·.top)) rs (put M r q g) (matsCk 33 2 new ++ ks)))] (by kernel_rfl) (by kernel_rfl) (List.forall_mem_cons.2 ⟨Yd.lasts_ex _, (List.forall_mem_cons.2 ⟨Yd.lasts_ex _, (List.forall_mem_cons.2 ⟨Yd.lasts_ex _, (List.forall_mem_cons.2 ⟨Yd.lasts_ex _, (List.forall_mem_cons.2 ⟨Yd.lasts_ex _, (List.forall_mem_cons.2 ⟨Yd.lasts_ex _, (List.forall_mem_cons.2 ⟨Yd.lasts_ex _, (List.forall_mem_cons.2 ⟨Yd.lasts_ex _, (List.forall_mem_cons.2 ⟨Yd.lasts_ex _, (List.forall_mem_cons.2 ⟨Yd.lasts_ex _, (List.forall_mem_cons.2 ⟨Yd.lasts_ex _, (List.forall_mem_cons.2 ⟨Yd.lasts_ex _, (List.forall_mem_cons.2 ⟨Yd.lasts_ex _, (List.forall_mem_cons.2 ⟨Yd.lasts_ex _, (List.forall_mem_cons.2 ⟨Yd.lasts_ex _, (List.forall_mem_cons.2 ⟨Yd.lasts_ex _, (List.forall_mem_cons.2 ⟨Yd.lasts_ex _, (List.forall_mem_cons.2 ⟨Yd.lasts_ex _, (List.forall_mem_cons.2 ⟨Yd.lasts_ex _, (List.forall_mem_cons.2 ⟨Yd.lasts_pr (fun v w w' h hb => h.later hb), (List.forall_mem_cons.2 ⟨Yd.lasts_ex _, (List.forall_mem_cons.2 ⟨Yd.lasts_pr (fun v w w' h hb => h.later hb), (fun _ h => by cases h)⟩)⟩)⟩)⟩)⟩)⟩)⟩)⟩)⟩)⟩)⟩)⟩)⟩)⟩)⟩)⟩)⟩)⟩)⟩)⟩)⟩)⟩) ⟨?_, ?_, ?_, ?_, ?_, ?_, ?_, ?_, ?_, ?_, ?_, ?_, ?_, ?_, ?_, ?_, ?_, ?_, ?_, ?_, ?_, ?_, trivial⟩ ?_
            · intro e1 w1 cc hlo hhi hb0 hp hun hq
              show Ops _ _ _ _ _ _ _
              refine Ops.mv_ptr rfl rfl rfl ?_
              refine Ops.nil ?_
              exact AfterN.dn rfl (Below.refl _ _) (by exact rfl)
            · intro e1 w1 cc hlo hhi hb0 hp hun hq
              show Ops _ _ _ _ _ _ _
              replace hlo := le_of_lo hlo (b := 0) (by kernel_rfl)
              replace hhi := le_of_hi hhi (b := 0) (by kernel_rfl)
              obtain rfl : cc = 0 := by omega
              have hb := hb0 rfl
              refine Ops.nilp ((hS4.rd 0 rfl).below hb) (Nat.succ_pos _) rfl rfl ?_
              refine Ops.nil ?_
              exact AfterN.dn rfl (Below.refl _ _) (by exact rfl)
            · intro e1 w1 cc hlo hhi hb0 hp hun hq
              show Ops _ _ _ _ _ _ _
              replace hlo := le_of_lo hlo (b := 0) (by kernel_rfl)
              replace hhi := le_of_hi hhi (b := 0) (by kernel_rfl)
              obtain rfl : cc = 0 := by omega
              have hb := hb0 rfl
              refine Ops.fld ((hS4.rd 0 rfl).below hb) rfl rfl rfl rfl inferInstance ?_
              refine Ops.nil ?_
              exact AfterN.dn rfl (Below.refl _ _) (by exact rfl)
            · intro e1 w1 cc hlo hhi hb0 hp hun hq
              show Ops _ _ _ _ _ _ _
              replace hlo := le_of_lo hlo (b := 0) (by kernel_rfl)
              replace hhi := le_of_hi hhi (b := 0) (by kernel_rfl)
              obtain rfl : cc = 0 := by omega
              have hb := hb0 rfl
              refine Ops.ldf_s ((hS4.rd 0 rfl).below hb) rfl rfl rfl rfl rfl ?_
              refine Ops.nil ?_
              exact AfterN.dn rfl (Below.refl _ _) (by exact rfl)
            · intro e1 w1 cc hlo hhi hb0 hp hun hq
              show Ops _ _ _ _ _ _ _
              refine Ops.mv_int rfl rfl rfl ?_
              refine Ops.nil ?_
              exact AfterN.dn rfl (Below.refl _ _) (by exact rfl)
            · intro e1 w1 cc hlo hhi hb0 hp hun hq
              show Ops _ _ _ _ _ _ _
              replace hlo := le_of_lo hlo (b := 0) (by kernel_rfl)
              replace hhi := le_of_hi hhi (b := 0) (by kernel_rfl)
              obtain rfl : cc = 0 := by omega
              have hb := hb0 rfl
              refine Ops.idx (hR4.top.later hb).2 rfl rfl rfl (by omega) (by omega) ?_
              refine Ops.nil ?_
              exact AfterN.dn rfl (Below.refl _ _) (by exact rfl)
            · intro e1 w1 cc hlo hhi hb0 hp hun hq
              show Ops _ _ _ _ _ _ _
              replace hlo := le_of_lo hlo (b := 0) (by kernel_rfl)
              replace hhi := le_of_hi hhi (b := 0) (by kernel_rfl)
              obtain rfl : cc = 0 := by omega
              have hb := hb0 rfl
              refine Ops.ld_sl (hR4.top.later hb) rfl (by omega) rfl rfl ?_
              refine Ops.nil ?_
              exact AfterN.dn rfl (Below.refl _ _) (by exact rfl)
            · intro e1 w1 cc hlo hhi hb0 hp hun hq
              show Ops _ _ _ _ _ _ _
              refine Ops.mv_int rfl rfl rfl ?_
              refine Ops.nil ?_
              exact AfterN.dn rfl (Below.refl _ _) (by exact rfl)
            · intro e1 w1 cc hlo hhi hb0 hp hun hq
              show Ops _ _ _ _ _ _ _
              refine Ops.mv_ptr rfl rfl rfl ?_
              refine Ops.nil ?_
              exact AfterN.dn rfl (Below.refl _ _) (by exact rfl)
            · intro e1 w1 cc hlo hhi hb0 hp hun hq
              show Ops _ _ _ _ _ _ _
              replace hlo := le_of_lo hlo (b := 0) (by kernel_rfl)
              replace hhi := le_of_hi hhi (b := 0) (by kernel_rfl)
              obtain rfl : cc = 0 := by omega
              have hb := hb0 rfl
              refine Ops.nilp ((hS4.rd 0 rfl).below hb) (Nat.succ_pos _) rfl rfl ?_
              refine Ops.nil ?_
              exact AfterN.dn rfl (Below.refl _ _) (by exact rfl)
            · intro e1 w1 cc hlo hhi hb0 hp hun hq
              show Ops _ _ _ _ _ _ _
              replace hlo := le_of_lo hlo (b := 0) (by kernel_rfl)
              replace hhi := le_of_hi hhi (b := 0) (by kernel_rfl)
              obtain rfl : cc = 0 := by omega
              have hb := hb0 rfl
              refine Ops.fld ((hS4.rd 0 rfl).below hb) rfl rfl rfl rfl inferInstance ?_
              refine Ops.nil ?_
              exact AfterN.dn rfl (Below.refl _ _) (by exact rfl)
            · intro e1 w1 cc hlo hhi hb0 hp hun hq
              show Ops _ _ _ _ _ _ _
              replace hlo := le_of_lo hlo (b := 0) (by kernel_rfl)
              replace hhi := le_of_hi hhi (b := 0) (by kernel_rfl)
              obtain rfl : cc = 0 := by omega
              have hb := hb0 rfl
              refine Ops.ldf_s ((hS4.rd 0 rfl).below hb) rfl rfl rfl rfl rfl ?_
              refine Ops.nil ?_
              exact AfterN.dn rfl (Below.refl _ _) (by exact rfl)
            · intro e1 w1 cc hlo hhi hb0 hp hun hq
              show Ops _ _ _ _ _ _ _
              refine Ops.mv_int rfl rfl rfl ?_
              refine Ops.nil ?_
              exact AfterN.dn rfl (Below.refl _ _) (by exact rfl)
            · intro e1 w1 cc hlo hhi hb0 hp hun hq
              show Ops _ _ _ _ _ _ _
              replace hlo := le_of_lo hlo (b := 0) (by kernel_rfl)
              replace hhi := le_of_hi hhi (b := 0) (by kernel_rfl)
              obtain rfl : cc = 0 := by omega
              have hb := hb0 rfl
              refine Ops.idx (hR4.top.later hb).2 rfl rfl rfl (by omega) (by omega) ?_
              refine Ops.nil ?_
              exact AfterN.dn rfl (Below.refl _ _) (by exact rfl)
            · intro e1 w1 cc hlo hhi hb0 hp hun hq
              show Ops _ _ _ _ _ _ _
              replace hlo := le_of_lo hlo (b := 0) (by kernel_rfl)
              replace hhi := le_of_hi hhi (b := 0) (by kernel_rfl)
              obtain rfl : cc = 0 := by omega
              have hb := hb0 rfl
              refine Ops.ld_sl (hR4.top.later hb) rfl (by omega) rfl rfl ?_
              refine Ops.nil ?_
              exact AfterN.dn rfl (Below.refl _ _) (by exact rfl)
            · intro e1 w1 cc hlo hhi hb0 hp hun hq
              show Ops _ _ _ _ _ _ _
              refine Ops.mv_int rfl rfl rfl ?_
              refine Ops.nil ?_
              exact AfterN.dn rfl (Below.refl _ _) (by exact rfl)
            · intro e1 w1 cc hlo hhi hb0 hp hun hq
              show Ops _ _ _ _ _ _ _
              refine Ops.mv_int rfl rfl rfl ?_
              refine Ops.nil ?_
              exact AfterN.dn rfl (Below.refl _ _) (by exact rfl)
            · intro e1 w1 cc hlo hhi hb0 hp hun hq
              show Ops _ _ _ _ _ _ _
              refine Ops.mv_int rfl rfl rfl ?_
              refine Ops.nil ?_
              exact AfterN.dn rfl (Below.refl _ _) (by exact rfl)
            · intro e1 w1 cc hlo hhi hb0 hp hun hq
              show Ops _ _ _ _ _ _ _
              replace hlo := le_of_lo hlo (b := 0) (by kernel_rfl)
              replace hhi := le_of_hi hhi (b := 0) (by kernel_rfl)
              obtain rfl : cc = 0 := by omega
              have hb := hb0 rfl
              refine Ops.idx (hrow.later hb).2 rfl rfl rfl (by omega) (by omega) ?_
              refine Ops.nil ?_
              exact AfterN.dn rfl (Below.refl _ _) (by exact rfl)
            · intro e1 w1 cc hlo hhi hb0 hp hun hq
              show Ops _ _ _ _ _ _ _
              replace hlo := le_of_lo hlo (b := 0) (by kernel_rfl)
              replace hhi := le_of_hi hhi (b := 0) (by kernel_rfl)
              obtain rfl : cc = 0 := by omega
              have hb := hb0 rfl
              refine Ops.st_row (pre := [Bx 136 4 Ab [.slice A n c, .int .i64 (F : Int), .int .i64 (met : Int), .slice Ag (nl + new.length) cg], CkR 24 Ag (nl + new.length) cg (outs ++ new.map (·.top))]) r (f := (q : Int)) (hS4.later hb) (by omega) (by omega) rfl rfl (by omega) ?_
              intro w6 hS6
              refine Ops.nil ?_
              exact AfterT.st rfl hS6
            · intro e1 w1 cc hlo hhi hb0 hp hun hq
              show Ops _ _ _ _ _ _ _
              replace hlo := le_of_lo hlo (b := 1) (by kernel_rfl)
              replace hhi := le_of_hi hhi (b := 1) (by kernel_rfl)
              obtain rfl : cc = 1 := by omega
              have hph := hp 19 _ _ (by kernel_rfl) rfl rfl (by kernel_rfl)
              have hrow6 := ((show St w0 _ (_ :: _ :: (mat 33 2 A n c rs (setc M r q g) ++ _)) from hph).tail.tail.rowsI hsh6.1).at_ (i := (r : Int)) (by omega) (by omega)
              have hl6 := hsh6.1
              refine Ops.idx (hrow6).2 rfl rfl rfl (by omega) (by omega) ?_
              refine Ops.nil ?_
              exact AfterN.dn rfl (Below.refl _ _) (by exact rfl)
            · intro e1 w1 cc hlo hhi hb0 hp hun hq
              show Ops _ _ _ _ _ _ _
              replace hlo := le_of_lo hlo (b := 1) (by kernel_rfl)
              replace hhi := le_of_hi hhi (b := 1) (by kernel_rfl)
              obtain rfl : cc = 1 := by omega
              have hph := hp 19 _ _ (by kernel_rfl) rfl rfl (by kernel_rfl)
              have hrow6 := ((show St w0 _ (_ :: _ :: (mat 33 2 A n c rs (setc M r q g) ++ _)) from hph).tail.tail.rowsI hsh6.1).at_ (i := (r : Int)) (by omega) (by omega)
              have hl6 := hsh6.1
              refine Ops.st_row (pre := [Bx 136 4 Ab [.slice A n c, .int .i64 (F : Int), .int .i64 (met : Int), .slice Ag (nl + new.length) cg], CkR 24 Ag (nl + new.length) cg (outs ++ new.map (·.top))]) r (f := (g : Int)) hph (by omega) (by omega) rfl rfl (by omega) ?_
              intro w7 hS7
              refine Ops.nil ?_
              exact AfterT.st rfl hS7
            intro u w5 _ hu
            have hS5 := hu 21 _ rfl (by kernel_rfl)
            generalize hM' : put M r q g = M' at *
            have hl7 := hI7.shp.1
            unfold bdK at hS5
            have hmx : max (met : Int) ((g : Int) + 1) = ((max met (g + 1) : Nat) : Int) := by omega
            refine thenQ_n ?_
            refine Cd.seq ?_
            refine Cd.region ?_
            refine Ops.mv_ptr rfl rfl rfl ?_
            refine Ops.mv_int rfl rfl rfl ?_
            refine Ops.mv_int rfl rfl rfl ?_
            refine Ops.add rfl rfl rfl (by omega) ?_
            -- stop: BUILTIN max(t125, t127) -> 128
            refine Ops.maxI rfl rfl rfl ?_
            rw [hmx]
            refine Ops.nilp (hS5.rd 0 rfl) (Nat.succ_pos _) rfl rfl ?_
            refine Ops.fld (hS5.rd 0 rfl) rfl rfl rfl rfl inferInstance ?_
            refine Ops.stf 0 hS5 rfl rfl rfl rfl rfl ?_
            intro w6 hS6
            have hS6 : St w0 w6 (bdK Ab A n c F (max met (g + 1)) Ag (nl + new.length) cg (outs ++ new.map (·.top)) rs M' (matsCk 33 2 new ++ ks)) := hS6
            refine Ops.nil ?_
            refine thenQ_n ?_
            -- stop: join
            refine Cd.join (α := Option Addr × Nat × List MatV) (fun z => [(0, .pointer Ab), (1, .int .i64 (q : Int)), (2, .int .i64 (r : Int)), (7, .int .i64 (met : Int)), (8, .int .i64 (g : Int))])
              (fun z w' => St w0 w' (bdK Ab A n c F (max met (g + 1)) z.1 (nl + new.length + z.2.2.length) z.2.1 (outs ++ new.map (·.top) ++ z.2.2.map (·.top)) rs M' (matsCk 33 2 z.2.2 ++ (matsCk 33 2 new ++ ks))) ∧ (∀ m ∈ z.2.2, m.ok) ∧ z.2.2.map (·.xss) = body n F okI (fun L => decide (Mani L)) f' at_ met M g) ?_ ?_
            · refine Cd.seq ?_
              refine Cd.region ?_
              refine Ops.mv_ptr rfl rfl rfl ?_
              refine Ops.mv_int rfl rfl rfl ?_
              refine Ops.mv_int rfl rfl rfl ?_
              -- stop: CALL impl.builder).fits(t131, t132, t133) -> 134
              have hS6' := hS6
              unfold bdK at hS6'
              refine Ops.call (fits_c Ab A n c F rs M' r q _ (Rd.first (hS6'.rd 0 rfl)) (hS6'.tail.tail.rowsI hl7) hI7.shp hI7.rng (by omega) hrn (by omega) hcq) rfl rfl rfl ?_
              rintro _ w7 ⟨rfl, hst⟩
              have hS7 := hS6.later hst.below
              refine Ops.nil ?_
              refine thenQ_n ?_
              -- stop: cond
              refine Cd.cond rfl (fun h7 => ?_) (fun h7 => ?_)
              · rw [if_pos h7] at hbd
                rw [hbd] at hrest
                refine Cd.region ?_
                refine Ops.mv_ptr rfl rfl rfl ?_
                refine Ops.mv_int rfl rfl rfl ?_
                refine Ops.mv_int rfl rfl rfl ?_
                refine Ops.add rfl rfl rfl (by omega) ?_
                -- stop: CALL impl.builder).build(t135, t136, t138) -> 139
                refine Ops.call (ih f' (by omega) (at_ + 1) (max met (g + 1)) M' hI7 (by omega) w0 w7 (matsCk 33 2 new ++ ks) Ag (nl + new.length) cg (outs ++ new.map (·.top)) q (r + 1) (by omega) (by omega) hS7 (by omega)) rfl rfl rfl ?_
                rintro _ w8 ⟨A9, c9, new9, rfl, hok9, hx9, hS8⟩
                refine Ops.nil ?_
                refine thenQ_n ?_
                -- stop: round
                exact ⟨(A9, c9, new9), ⟨rfl, rfl, rfl, rfl, rfl, trivial⟩, hS8, hok9, by rw [hbd]; exact hx9⟩
              · rw [if_neg (by rw [h7]; simp)] at hbd
                refine Cd.skip ?_
                refine thenQ_n ?_
                -- stop: round
                exact ⟨(Ag, cg, []), ⟨rfl, rfl, rfl, rfl, rfl, trivial⟩, by simpa [matsCk] using hS7, (fun m hm => by cases hm), by rw [hbd]; rfl⟩
            · rintro ⟨A9, c9, new9⟩ e w8 ⟨hS8, hok9, hx9⟩
              dsimp only at hS8 hok9 hx9 ⊢
              have hsh9 := hI7.shp.setc hrn q (-1)
              unfold bdK at hS8
              have hR8 := hS8.tail.tail.rowsI hl7
              have hrow8 := hR8.at_ (i := (r : Int)) (by omega) (by omega)
              refine Cd.seq ?_
              -- stop: draw
              refine Cd.drawN [17, 19] [.ex (.pointer (Ab)), .ex (.pointer (Ab)), .ex (.pointer (ptrAt (Ab) 0)), .ex (.slice (A) (n) (c)), .ex (.int .i64 ((r : Int))), .ex (.pointer (ptrAt (A) ((r : Int)).toNat)), .ex (.slice ((rg (rs) ((r : Int))).a) ((rg (rs) ((r : Int))).n) ((rg (rs) ((r : Int))).c)), .ex (.int .i64 ((q : Int))), .ex (.pointer (Ab)), .ex (.pointer (Ab)), .ex (.pointer (ptrAt (Ab) 0)), .ex (.slice (A) (n) (c)), .ex (.int .i64 ((r : Int))), .ex (.pointer (ptrAt (A) ((r : Int)).toNat)), .ex (.slice ((rg (rs) ((r : Int))).a) ((rg (rs) ((r : Int))).n) ((rg (rs) ((r : Int))).c)), .ex (.int .i64 ((g : Int))), .ex (.pointer (ptrAt ((rg (rs) ((r : Int))).a) ((q : Int)).toNat)), .pr (fun _ w' => St w0 w' (bdK Ab A n c F (max met (g + 1)) A9 (nl + new.length + new9.length) c9 (outs ++ new.map (·.top) ++ new9.map (·.top)) rs (setc M' r q (-1)) (matsCk 33 2 new9 ++ (matsCk 33 2 new ++ ks)))), .ex (.pointer (ptrAt ((rg (rs) ((r : Int))).a) ((g : Int)).toNat)), .pr (fun _ w' => St w0 w' (bdK Ab A n c F (max met (g + 1)) A9 (nl + new.length + new9.length) c9 (outs ++ new.map (·.top) ++ new9.map (·.top)) rs (setc (setc M' r q (-1)) r g (-1)) (matsCk 33 2 new9 ++ (matsCk 33 2 new ++ ks))))] (by kernel_rfl) (by kernel_rfl) (List.forall_mem_cons.2 ⟨Yd.lasts_ex _, (List.forall_mem_cons.2 ⟨Yd.lasts_ex _, (List.forall_mem_cons.2 ⟨Yd.lasts_ex _, (List.forall_mem_cons.2 ⟨Yd.lasts_ex _, (List.forall_mem_cons.2 ⟨Yd.lasts_ex _, (List.forall_mem_cons.2 ⟨Yd.lasts_ex _, (List.forall_mem_cons.2 ⟨Yd.lasts_ex _, (List.forall_mem_cons.2 ⟨Yd.lasts_ex _, (List.forall_mem_cons.2 ⟨Yd.lasts_ex _, (List.forall_mem_cons.2 ⟨Yd.lasts_ex _, (List.forall_mem_cons.2 ⟨Yd.lasts_ex _, (List.forall_mem_cons.2 ⟨Yd.lasts_ex _, (List.forall_mem_cons.2 ⟨Yd.lasts_ex _, (List.forall_mem_cons.2 ⟨Yd.lasts_ex _, (List.forall_mem_cons.2 ⟨Yd.lasts_ex _, (List.forall_mem_cons.2 ⟨Yd.lasts_ex _, (List.forall_mem_cons.2 ⟨Yd.lasts_ex _, (List.forall_mem_cons.2 ⟨Yd.lasts_pr (fun v w w' h hb => h.later hb), (List.forall_mem_cons.2 ⟨Yd.lasts_ex _, (List.forall_mem_cons.2 ⟨Yd.lasts_pr (fun v w w' h hb => h.later hb), (fun _ h => by cases h)⟩)⟩)⟩)⟩)⟩)⟩)⟩)⟩)⟩)⟩)⟩)⟩)⟩)⟩)⟩)⟩)⟩)⟩)⟩)⟩) ⟨?_, ?_, ?_, ?_, ?_, ?_, ?_, ?_, ?_, ?_, ?_, ?_, ?_, ?_, ?_, ?_, ?_, ?_, ?_, ?_, trivial⟩ ?_
              · intro e1 w1 cc hlo hhi hb0 hp hun hq
                show Ops _ _ _ _ _ _ _
                refine Ops.mv_ptr rfl rfl rfl ?_
                refine Ops.nil ?_
                exact AfterN.dn rfl (Below.refl _ _) (by exact rfl)
              · intro e1 w1 cc hlo hhi hb0 hp hun hq
                show Ops _ _ _ _ _ _ _
                replace hlo := le_of_lo hlo (b := 0) (by kernel_rfl)
                replace hhi := le_of_hi hhi (b := 0) (by kernel_rfl)
                obtain rfl : cc = 0 := by omega
                have hb := hb0 rfl
                refine Ops.nilp ((hS8.rd 0 rfl).below hb) (Nat.succ_pos _) rfl rfl ?_
                refine Ops.nil ?_
                exact AfterN.dn rfl (Below.refl _ _) (by exact rfl)
              · intro e1 w1 cc hlo hhi hb0 hp hun hq
                show Ops _ _ _ _ _ _ _
                replace hlo := le_of_lo hlo (b := 0) (by kernel_rfl)
                replace hhi := le_of_hi hhi (b := 0) (by kernel_rfl)
                obtain rfl : cc = 0 := by omega
                have hb := hb0 rfl
                refine Ops.fld ((hS8.rd 0 rfl).below hb) rfl rfl rfl rfl inferInstance ?_
                refine Ops.nil ?_
                exact AfterN.dn rfl (Below.refl _ _) (by exact rfl)
              · intro e1 w1 cc hlo hhi hb0 hp hun hq
                show Ops _ _ _ _ _ _ _
                replace hlo := le_of_lo hlo (b := 0) (by kernel_rfl)
                replace hhi := le_of_hi hhi (b := 0) (by kernel_rfl)
                obtain rfl : cc = 0 := by omega
                have hb := hb0 rfl
                refine Ops.ldf_s ((hS8.rd 0 rfl).below hb) rfl rfl rfl rfl rfl ?_
                refine Ops.nil ?_
                exact AfterN.dn rfl (Below.refl _ _) (by exact rfl)
              · intro e1 w1 cc hlo hhi hb0 hp hun hq
                show Ops _ _ _ _ _ _ _
                refine Ops.mv_int rfl rfl rfl ?_
                refine Ops.nil ?_
                exact AfterN.dn rfl (Below.refl _ _) (by exact rfl)
              · intro e1 w1 cc hlo hhi hb0 hp hun hq
                show Ops _ _ _ _ _ _ _
                replace hlo := le_of_lo hlo (b := 0) (by kernel_rfl)
                replace hhi := le_of_hi hhi (b := 0) (by kernel_rfl)
                obtain rfl : cc = 0 := by omega
                have hb := hb0 rfl
                refine Ops.idx (hR8.top.later hb).2 rfl rfl rfl (by omega) (by omega) ?_
                refine Ops.nil ?_
                exact AfterN.dn rfl (Below.refl _ _) (by exact rfl)
              · intro e1 w1 cc hlo hhi hb0 hp hun hq
                show Ops _ _ _ _ _ _ _
                replace hlo := le_of_lo hlo (b := 0) (by kernel_rfl)
                replace hhi := le_of_hi hhi (b := 0) (by kernel_rfl)
                obtain rfl : cc = 0 := by omega
                have hb := hb0 rfl
                refine Ops.ld_sl (hR8.top.later hb) rfl (by omega) rfl rfl ?_
                refine Ops.nil ?_
                exact AfterN.dn rfl (Below.refl _ _) (by exact rfl)
              · intro e1 w1 cc hlo hhi hb0 hp hun hq
                show Ops _ _ _ _ _ _ _
                refine Ops.mv_int rfl rfl rfl ?_
                refine Ops.nil ?_
                exact AfterN.dn rfl (Below.refl _ _) (by exact rfl)
              · intro e1 w1 cc hlo hhi hb0 hp hun hq
                show Ops _ _ _ _ _ _ _
                refine Ops.mv_ptr rfl rfl rfl ?_
                refine Ops.nil ?_
                exact AfterN.dn rfl (Below.refl _ _) (by exact rfl)
              · intro e1 w1 cc hlo hhi hb0 hp hun hq
                show Ops _ _ _ _ _ _ _
                replace hlo := le_of_lo hlo (b := 0) (by kernel_rfl)
                replace hhi := le_of_hi hhi (b := 0) (by kernel_rfl)
                obtain rfl : cc = 0 := by omega
                have hb := hb0 rfl
                refine Ops.nilp ((hS8.rd 0 rfl).below hb) (Nat.succ_pos _) rfl rfl ?_
                refine Ops.nil ?_
                exact AfterN.dn rfl (Below.refl _ _) (by exact rfl)
              · intro e1 w1 cc hlo hhi hb0 hp hun hq
                show Ops _ _ _ _ _ _ _
                replace hlo := le_of_lo hlo (b := 0) (by kernel_rfl)
                replace hhi := le_of_hi hhi (b := 0) (by kernel_rfl)
                obtain rfl : cc = 0 := by omega
                have hb := hb0 rfl
                refine Ops.fld ((hS8.rd 0 rfl).below hb) rfl rfl rfl rfl inferInstance ?_
                refine Ops.nil ?_
                exact AfterN.dn rfl (Below.refl _ _) (by exact rfl)
              · intro e1 w1 cc hlo hhi hb0 hp hun hq
                show Ops _ _ _ _ _ _ _
                replace hlo := le_of_lo hlo (b := 0) (by kernel_rfl)
                replace hhi := le_of_hi hhi (b := 0) (by kernel_rfl)
                obtain rfl : cc = 0 := by omega
                have hb := hb0 rfl
                refine Ops.ldf_s ((hS8.rd 0 rfl).below hb) rfl rfl rfl rfl rfl ?_
                refine Ops.nil ?_
                exact AfterN.dn rfl (Below.refl _ _) (by exact rfl)
              · intro e1 w1 cc hlo hhi hb0 hp hun hq
                show Ops _ _ _ _ _ _ _
                refine Ops.mv_int rfl rfl rfl ?_
                refine Ops.nil ?_
                exact AfterN.dn rfl (Below.refl _ _) (by exact rfl)
              · intro e1 w1 cc hlo hhi hb0 hp hun hq
                show Ops _ _ _ _ _ _ _
                replace hlo := le_of_lo hlo (b := 0) (by kernel_rfl)
                replace hhi := le_of_hi hhi (b := 0) (by kernel_rfl)
                obtain rfl : cc = 0 := by omega
                have hb := hb0 rfl
                refine Ops.idx (hR8.top.later hb).2 rfl rfl rfl (by omega) (by omega) ?_
                refine Ops.nil ?_
                exact AfterN.dn rfl (Below.refl _ _) (by exact rfl)
              · intro e1 w1 cc hlo hhi hb0 hp hun hq
                show Ops _ _ _ _ _ _ _
                replace hlo := le_of_lo hlo (b := 0) (by kernel_rfl)
                replace hhi := le_of_hi hhi (b := 0) (by kernel_rfl)
                obtain rfl : cc = 0 := by omega
                have hb := hb0 rfl
                refine Ops.ld_sl (hR8.top.later hb) rfl (by omega) rfl rfl ?_
                refine Ops.nil ?_
                exact AfterN.dn rfl (Below.refl _ _) (by exact rfl)
              · intro e1 w1 cc hlo hhi hb0 hp hun hq
                show Ops _ _ _ _ _ _ _
                refine Ops.mv_int rfl rfl rfl ?_
                refine Ops.nil ?_
                exact AfterN.dn rfl (Below.refl _ _) (by exact rfl)
              · intro e1 w1 cc hlo hhi hb0 hp hun hq
                show Ops _ _ _ _ _ _ _
                replace hlo := le_of_lo hlo (b := 0) (by kernel_rfl)
                replace hhi := le_of_hi hhi (b := 0) (by kernel_rfl)
                obtain rfl : cc = 0 := by omega
                have hb := hb0 rfl
                refine Ops.idx (hrow8.later hb).2 rfl rfl rfl (by omega) (by omega) ?_
                refine Ops.nil ?_
                exact AfterN.dn rfl (Below.refl _ _) (by exact rfl)
              · intro e1 w1 cc hlo hhi hb0 hp hun hq
                show Ops _ _ _ _ _ _ _
                replace hlo := le_of_lo hlo (b := 0) (by kernel_rfl)
                replace hhi := le_of_hi hhi (b := 0) (by kernel_rfl)
                obtain rfl : cc = 0 := by omega
                have hb := hb0 rfl
                refine Ops.st_row (pre := [Bx 136 4 Ab [.slice A n c, .int .i64 (F : Int), .int .i64 (((max met (g + 1) : Nat) : Int)), .slice A9 (nl + new.length + new9.length) c9], CkR 24 A9 (nl + new.length + new9.length) c9 (outs ++ new.map (·.top) ++ new9.map (·.top))]) r (f := (q : Int)) (hS8.later hb) (by omega) (by omega) rfl rfl (by omega) ?_
                intro w6 hS6
                refine Ops.nil ?_
                exact AfterT.st rfl hS6
              · intro e1 w1 cc hlo hhi hb0 hp hun hq
                show Ops _ _ _ _ _ _ _
                replace hlo := le_of_lo hlo (b := 1) (by kernel_rfl)
                replace hhi := le_of_hi hhi (b := 1) (by kernel_rfl)
                obtain rfl : cc = 1 := by omega
                have hph := hp 17 _ _ (by kernel_rfl) rfl rfl (by kernel_rfl)
                have hrow6 := ((show St w0 _ (_ :: _ :: (mat 33 2 A n c rs (setc M' r q (-1)) ++ _)) from hph).tail.tail.rowsI hsh9.1).at_ (i := (r : Int)) (by omega) (by omega)
                have hl6 := hsh9.1
                refine Ops.idx (hrow6).2 rfl rfl rfl (by omega) (by omega) ?_
                refine Ops.nil ?_
                exact AfterN.dn rfl (Below.refl _ _) (by exact rfl)
              · intro e1 w1 cc hlo hhi hb0 hp hun hq
                show Ops _ _ _ _ _ _ _
                replace hlo := le_of_lo hlo (b := 1) (by kernel_rfl)
                replace hhi := le_of_hi hhi (b := 1) (by kernel_rfl)
                obtain rfl : cc = 1 := by omega
                have hph := hp 17 _ _ (by kernel_rfl) rfl rfl (by kernel_rfl)
                have hrow6 := ((show St w0 _ (_ :: _ :: (mat 33 2 A n c rs (setc M' r q (-1)) ++ _)) from hph).tail.tail.rowsI hsh9.1).at_ (i := (r : Int)) (by omega) (by omega)
                have hl6 := hsh9.1
                refine Ops.st_row (pre := [Bx 136 4 Ab [.slice A n c, .int .i64 (F : Int), .int .i64 (((max met (g + 1) : Nat) : Int)), .slice A9 (nl + new.length + new9.length) c9], CkR 24 A9 (nl + new.length + new9.length) c9 (outs ++ new.map (·.top) ++ new9.map (·.top))]) r (f := (g : Int)) hph (by omega) (by omega) rfl rfl (by omega) ?_
                intro w7 hS7
                refine Ops.nil ?_
                exact AfterT.st rfl hS7
              intro u w9 _ hu
              have hS9 : St w0 w9 (bdK Ab A n c F (max met (g + 1)) A9 (nl + new.length + new9.length) c9 (outs ++ new.map (·.top) ++ new9.map (·.top)) rs (setc (setc M' r q (-1)) r g (-1)) (matsCk 33 2 new9 ++ (matsCk 33 2 new ++ ks))) := hu 19 _ rfl (by kernel_rfl)
              rw [hundo] at hS9
              unfold bdK at hS9
              refine thenQ_n ?_
              refine Cd.region ?_
              refine Ops.mv_ptr rfl rfl rfl ?_
              refine Ops.mv_int rfl rfl rfl ?_
              -- stop: NILCHECK t158 -> 160
              refine Ops.nilp (hS9.rd 0 rfl) (Nat.succ_pos _) rfl rfl ?_
              refine Ops.fld (hS9.rd 0 rfl) rfl rfl rfl rfl inferInstance ?_
              refine Ops.stf 0 hS9 rfl rfl rfl rfl rfl ?_
              intro w10 hS10
              have hS10 : St w0 w10 (bdK Ab A n c F met A9 (nl + new.length + new9.length) c9 (outs ++ new.map (·.top) ++ new9.map (·.top)) rs M (matsCk 33 2 new9 ++ (matsCk 33 2 new ++ ks))) := hS10
              refine Ops.nil ?_
              refine blockQ_n ?_
              refine thenQ_n ?_
              refine Cd.region ?_
              refine Ops.mv_int rfl rfl rfl ?_
              refine Ops.add rfl rfl rfl (by omega) ?_
              refine Ops.mv_int rfl rfl rfl ?_
              refine Ops.nil ?_
              refine thenQ_n ?_
              -- stop: round
              refine ⟨(g + 1, A9, c9, new ++ new9), by show _ - (g + 1) < _ - g; omega, ⟨rfl, rfl, rfl, rfl, rfl, trivial⟩, ?_, by show q + 1 ≤ g + 1; omega, by show g + 1 ≤ _; omega, fun m hm => ?_, ?_⟩
              · show St w0 w10 (bdK Ab A n c F met A9 (nl + (new ++ new9).length) c9 (outs ++ (new ++ new9).map (·.top)) rs M (matsCk _ _ (new ++ new9) ++ ks))
                rw [List.length_append, List.map_append, matsCk_append, ← Nat.add_assoc, ← List.append_assoc]
                refine hS10.perm ?_
                unfold bdK
                exact List.Perm.cons _ (List.Perm.cons _ (List.Perm.append_left _ (by rw [List.append_assoc]; exact perm_lr _ _ _)))
              · rcases List.mem_append.1 hm with hm | hm
                · exact hnew m hm
                · exact hok9 m hm
              · show (new ++ new9).map _ = (List.range' (q + 1) (g + 1 - (q + 1))).flatMap _
                rw [hstep, List.map_append, hxs, hx9]
        · refine Cd.exit ?_
          refine thenQ_x ?_
          refine thenQ_x ?_
          refine blockQ_x ?_
          refine ret0_n ?_
          -- stop: end
          have hge : g = q + 1 + (min met (F - 1) - q) := by omega
          exact hexit hS4 hge
      · refine Ops.skipg rfl rfl rfl rfl rfl ?_
        refine Ops.skipg rfl rfl rfl rfl rfl ?_
        refine Ops.skipg rfl rfl rfl rfl rfl ?_
        refine Ops.skipg rfl rfl rfl rfl rfl ?_
        refine Ops.skipg rfl rfl rfl rfl rfl ?_
        refine Ops.skipg rfl rfl rfl rfl rfl ?_
        refine Ops.pick_f rfl rfl rfl ?_
        refine Ops.nil ?_
        refine thenQ_n ?_
        -- stop: cond
        refine Cd.cond_f rfl ?_
        refine Cd.exit ?_
        refine thenQ_x ?_
        refine thenQ_x ?_
        refine blockQ_x ?_
        refine ret0_n ?_
        -- stop: end
        have hge : g = q + 1 + (min met (F - 1) - q) := by omega
        exact hexit hS4 hge
end Go.Proofs.Ytgobjpcankaicaa.Vc
/-
  The walks of all coverings of a maniplex by itself and of its orbits of flags. Conditions: as each states them.
-/
namespace Go.Proofs.Ytgobjpcankaicaa.Vc
open Go.RowKit

theorem isNone_ne {A : Option Addr} : (!A.isNone) = decide (A ≠ none) := by cases A <;> simp

theorem coveringsOf_c (A : Option Addr) (n c : Nat) (rs : List SlV) (xss : List (List Int)) (N : Nat) (w : World) (hR : RowsI w A n rs xss) (hM : Mani xss) (hN : N = (gl xss 0).length) :
    Ret Try.prog 116 [.agg #[.slice A n c], .agg #[.slice A n c]] w (fun v w' => ∃ A' c', ∃ rs' : List SlV, ∃ ps : List (List Int), v = .slice A' ps.length c' ∧ rs'.length = ps.length ∧ ps.length ≤ N ∧ AllCov N xss ps ∧ St w w' (mat 33 2 A' ps.length c' rs' ps)) := by
  have hn := hM.1
  have hN2 := hM.2.1
  have hxl := hR.len
  have hr0 : (rg rs 0).n = N := by rw [hN]; exact (hR.rowLen (by omega) (by omega)).symm
  refine Ret.of_cd Try.func116 rfl Try.ntmps116 rfl (post1 rfl) ?_
  refine Cd.seq ?_
  refine Cd.region ?_
  -- stop: BOX 24 t0=m -> 2
  refine Ops.box1 (St.refl w) rfl rfl ?_
  intro Ab w1 hS1
  refine Ops.box1 hS1 rfl rfl ?_
  intro Ac w2 hS2
  refine Ops.mv_sl rfl rfl rfl ?_
  refine Ops.nil ?_
  refine thenQ_n ?_
  refine Cd.seq ?_
  refine Cd.region ?_
  refine Ops.mv_sl rfl rfl rfl ?_
  refine Ops.nil ?_
  refine thenQ_n ?_
  refine Cd.seq ?_
  refine Cd.seq ?_
  refine Cd.region ?_
  -- stop: CALL impl.Maniplex).flags(t3=k) -> 8
  refine Ops.call (flags_c Ac A n c rs xss _ _ (hS2.rd 0 rfl) rfl (hS2.oldRows hR) (by omega)) rfl rfl rfl ?_
  rintro _ w2 ⟨rfl, rfl⟩
  rw [hr0]
  have hS3 := (hS2.nil 33).perm (List.perm_append_comm (l₁ := [_]) (l₂ := [_, _]))
  refine Ops.mv_int rfl rfl rfl ?_
  refine Ops.nil ?_
  refine thenQ_n ?_
  refine Cd.block ?_
  -- stop: loop
  refine Cd.loop (α := Nat × Option Addr × Nat × List SlV × List (List Int)) (fun z => [(2, .pointer Ab), (3, .pointer Ac), (5, .slice z.2.1 z.2.2.2.2.length z.2.2.1), (8, .int .i64 (N : Int)), (9, .int .i64 (z.1 : Int))])
    (fun z w' => St w w' (Bx 24 1 Ac [.slice A n c] :: Bx 24 1 Ab [.slice A n c] :: mat 33 2 z.2.1 z.2.2.2.2.length z.2.2.1 z.2.2.2.1 z.2.2.2.2) ∧ z.1 ≤ N ∧ z.2.2.2.1.length = z.2.2.2.2.length ∧ z.2.2.2.2.length ≤ z.1 ∧ (∀ p ∈ z.2.2.2.2, Cov N xss p) ∧ ∀ p, Cov N xss p → gi p 0 < z.1 → p ∈ z.2.2.2.2)
    (fun z => N - z.1) (0, none, 0, [], []) ⟨rfl, rfl, rfl, rfl, rfl, trivial⟩ ⟨hS3, Nat.zero_le _, rfl, Nat.le_refl _, (by intro p hp; cases hp), (by intro p hp h; have := (hp.rng 0 (by omega) (by omega)).1; have h : gi p 0 < ((0 : Nat) : Int) := h; omega)⟩ ?_
  rintro ⟨f, A3, c3, rs', ps⟩ e w3 ⟨hS3, hf, hrl, hpl, hcov, hall⟩
  dsimp only at hS3 hf hrl hpl hcov hall ⊢
  refine Cd.seq ?_
  refine Cd.region ?_
  refine Ops.lss rfl rfl rfl ?_
  refine Ops.nil ?_
  refine thenQ_n ?_
  refine Cd.seq ?_
  -- stop: cond
  refine Cd.cond_p _ rfl (fun h1 => ?_) (fun h1 => ?_)
  · refine Cd.skip ?_
    refine thenQ_n ?_
    refine Cd.seq ?_
    refine Cd.block ?_
    refine Cd.seq ?_
    refine Cd.region ?_
    refine Ops.mv_int rfl rfl rfl ?_
    refine Ops.mv_int rfl rfl rfl ?_
    refine Ops.nil ?_
    refine thenQ_n ?_
    refine Cd.seq ?_
    refine Cd.region ?_
    -- stop: LOAD 24 t2=m -> 12
    refine Ops.ld_agg 0 (hS3.rd 1 rfl) rfl rfl rfl ?_
    refine Ops.ld_agg 0 (hS3.rd 0 rfl) rfl rfl rfl ?_
    refine Ops.mv_int rfl rfl rfl ?_
    -- stop: CALL impl.coveringTo(t12, t13, t14) -> 15
    refine Ops.call (coveringTo_c A n c rs xss N (f : Int) _ (hS3.oldRows hR) hM hN (by omega) (by omega)) rfl rfl rfl ?_
    intro v w4 hv
    obtain ⟨A4, n4, c4, rfl, hw⟩ : ∃ A4 n4 c4, v = .slice A4 n4 c4 ∧ ((A4 ≠ none ∧ N = n4 ∧ ∃ L, Cov N xss L ∧ gi L 0 = f ∧ St w3 w4 [CkI 2 A4 N c4 L]) ∨ (¬ A4 ≠ none ∧ (∀ q, Cov N xss q → gi q 0 = f → False) ∧ St w3 w4 [])) := by
      rcases hv with ⟨a, c', L, rfl, h1, h2, h3⟩ | ⟨rfl, h1, h2⟩
      · exact ⟨_, _, _, rfl, .inl ⟨by simp, rfl, L, h1, h2, h3⟩⟩
      · exact ⟨_, _, _, rfl, .inr ⟨by simp, h1, h2⟩⟩
    refine Ops.mv_sl rfl rfl rfl ?_
    refine Ops.nil ?_
    refine thenQ_n ?_
    refine Cd.seq ?_
    refine Cd.region ?_
    refine Ops.mv_sl rfl rfl rfl ?_
    -- stop: BINOP neq 33 t16 0 33 -> 17
    refine Ops.neqNil rfl rfl rfl ?_
    rw [isNone_ne]
    refine Ops.nil ?_
    refine thenQ_n ?_
    -- stop: cond
    refine Cd.cond_p _ rfl (fun h2 => ?_) (fun h2 => ?_)
    · obtain ⟨_, rfl, L, hL, hL0, hst⟩ := hw.resolve_right (fun h => h.1 h2)
      have hS4 := hS3.call hst
      refine Cd.region ?_
      refine Ops.mv_sl rfl rfl rfl ?_
      refine Ops.mv_sl rfl rfl rfl ?_
      -- stop: BUILDSLICE 22 1 [('pair', [0, ('app', 'Go.Operand.tmp', [19])])] -> 20
      refine Ops.bs1R hS4 rfl rfl rfl ?_
      intro A7 w5 hS5
      refine Ops.appR 4 hS5 rfl (hS5.rdR 0 rfl) rfl rfl rfl (by omega) (by omega) rfl ?_
      intro A8 c8 w6 hS6
      have hS6 : St w w6 (CkI 2 A4 N c4 L :: Bx 24 1 Ac [.slice A n c] :: Bx 24 1 Ab [.slice A n c] :: CkR 33 A8 (ps.length + 1) c8 (rs' ++ [⟨A4, N, c4⟩]) :: rowsCk 2 rs' ps) := hS6.tail
      have hdl : (ps ++ [L]).length = ps.length + 1 := by simp
      refine Ops.mv_sl rfl rfl rfl ?_
      refine Ops.nil ?_
      refine blockQ_n ?_
      refine thenQ_n ?_
      refine Cd.region ?_
      refine Ops.add rfl rfl rfl (by omega) ?_
      refine Ops.mv_int rfl rfl rfl ?_
      refine Ops.nil ?_
      refine thenQ_n ?_
      -- stop: round
      refine ⟨(f + 1, A8, c8, rs' ++ [⟨A4, N, c4⟩], ps ++ [L]), by show N - (f + 1) < N - f; omega, ⟨rfl, rfl, by show Value.slice _ _ _ = .slice _ _ _; rw [hdl], rfl, rfl, trivial⟩, ?_, by show f + 1 ≤ N; omega, by simp [hrl], by show (ps ++ [L]).length ≤ f + 1; omega, fun p hp => ?_, fun p hp hlt => ?_⟩
      · show St w w6 (_ :: _ :: CkR 33 A8 (ps ++ [L]).length c8 (rs' ++ [⟨A4, N, c4⟩]) :: rowsCk 2 (rs' ++ [⟨A4, N, c4⟩]) (ps ++ [L]))
        rw [hdl, rowsCk_append hrl]
        exact hS6.perm (List.perm_append_comm (l₁ := [_]) (l₂ := _ :: _ :: _ :: rowsCk 2 rs' ps))
      · rcases List.mem_append.1 hp with hp | hp
        · exact hcov p hp
        · simp at hp; subst hp; exact hL
      · by_cases e : gi p 0 = f
        · rw [hp.one hL hM hN (by rw [e, hL0])]
          simp
        · have hlt : gi p 0 < ((f + 1 : Nat) : Int) := hlt
          exact List.mem_append_left _ (hall p hp (by omega))
    · obtain ⟨_, hno, hst⟩ := hw.resolve_left (fun h => h2 h.1)
      have hS4 := hS3.later hst.below
      refine Cd.skip ?_
      refine blockQ_n ?_
      refine thenQ_n ?_
      refine Cd.region ?_
      refine Ops.add rfl rfl rfl (by omega) ?_
      refine Ops.mv_int rfl rfl rfl ?_
      refine Ops.nil ?_
      refine thenQ_n ?_
      -- stop: round
      exact ⟨(f + 1, A3, c3, rs', ps), by show N - (f + 1) < N - f; omega, ⟨rfl, rfl, rfl, rfl, rfl, trivial⟩, hS4, by show f + 1 ≤ N; omega, hrl, by show ps.length ≤ f + 1; omega, hcov, fun p hp hlt => by
        have hlt : gi p 0 < ((f + 1 : Nat) : Int) := hlt
        by_cases e : gi p 0 = f
        · exact (hno p hp e).elim
        · exact hall p hp (by omega)⟩
  · refine Cd.exit ?_
    refine thenQ_x ?_
    refine thenQ_x ?_
    refine blockQ_x ?_
    refine thenQ_n ?_
    refine Cd.seq ?_
    refine Cd.region ?_
    refine Ops.mv_sl rfl rfl rfl ?_
    refine Ops.mv_sl rfl rfl rfl ?_
    refine Ops.nil ?_
    refine thenQ_n ?_
    refine Cd.ret ?_
    refine ret1_s rfl ?_
    -- stop: end
    exact ⟨A3, c3, rs', ps, rfl, hrl, by omega, ⟨hcov, fun p hp => hall p hp (by have := (hp.rng 0 (by omega) (by omega)).2; omega)⟩, hS3.tail.tail⟩

theorem flagOrbits_c (A0 A : Option Addr) (n c : Nat) (rs : List SlV) (xss : List (List Int)) (N : Nat) (w : World) (hB : Rd w A0 1 (fun _ => .slice A n c)) (hR : RowsI w A n rs xss) (hM : Mani xss) (hN : N = (gl xss 0).length) :
    Ret Try.prog 71 [.pointer A0] w (fun v w' => ∃ A', v = .tuple #[.slice A' N N, .int .i64 (((fset N xss N).length : Nat) : Int)] ∧ St w w' []) := by
  have hn := hM.1
  have hN2 := hM.2.1
  have hxl := hR.len
  have hr0 : (rg rs 0).n = N := by rw [hN]; exact (hR.rowLen (by omega) (by omega)).symm
  refine Ret.of_cd Try.func71 rfl Try.ntmps71 rfl (post2 rfl) ?_
  refine Cd.seq ?_
  refine Cd.region ?_
  refine Ops.mv_sl rfl rfl rfl ?_
  refine Ops.mv_int rfl rfl rfl ?_
  refine Ops.nil ?_
  refine thenQ_n ?_
  refine Cd.seq ?_
  -- stop: draw
  refine Cd.draw [.ex (.pointer (A0)), .ex (.int .i64 (((rg rs 0).n : Int))), .ex (.pointer (A0)), .ex (.pointer (A0)), .ex (.agg #[.slice (A) (n) (c)]), .ex (.pointer (A0)), .ex (.pointer (A0)), .ex (.agg #[.slice (A) (n) (c)]), .pr (fun v w' => ∃ A' c', ∃ rs' : List SlV, ∃ ps : List (List Int), v = .slice A' ps.length c' ∧ ps.length ≤ N ∧ AllCov N xss ps ∧ RowsI w' A' ps.length rs' ps), .pr (fun v _ => ∃ A', v = .tuple #[.slice A' N N, .int .i64 (((fset N xss N).length : Nat) : Int)]), .pr (fun v _ => ∃ A', v = .slice A' N N), .ex (.int .i64 (((fset N xss N).length : Nat) : Int)), .pr (fun v _ => ∃ A', v = .slice A' N N), .ex (.int .i64 (((fset N xss N).length : Nat) : Int))] (by kernel_rfl) (by kernel_rfl) rfl (List.forall_mem_cons.2 ⟨Yd.lasts_ex _, (List.forall_mem_cons.2 ⟨Yd.lasts_ex _, (List.forall_mem_cons.2 ⟨Yd.lasts_ex _, (List.forall_mem_cons.2 ⟨Yd.lasts_ex _, (List.forall_mem_cons.2 ⟨Yd.lasts_ex _, (List.forall_mem_cons.2 ⟨Yd.lasts_ex _, (List.forall_mem_cons.2 ⟨Yd.lasts_ex _, (List.forall_mem_cons.2 ⟨Yd.lasts_ex _, (List.forall_mem_cons.2 ⟨Yd.lasts_pr (fun v w w' h hb => by obtain ⟨A', c', rs', ps, hv, hpl, hall, hr⟩ := h; exact ⟨A', c', rs', ps, hv, hpl, hall, hr.later hb⟩), (List.forall_mem_cons.2 ⟨Yd.lasts_pr (fun _ _ _ h _ => h), (List.forall_mem_cons.2 ⟨Yd.lasts_pr (fun _ _ _ h _ => h), (List.forall_mem_cons.2 ⟨Yd.lasts_ex _, (List.forall_mem_cons.2 ⟨Yd.lasts_pr (fun _ _ _ h _ => h), (List.forall_mem_cons.2 ⟨Yd.lasts_ex _, (fun _ h => by cases h)⟩)⟩)⟩)⟩)⟩)⟩)⟩)⟩)⟩)⟩)⟩)⟩)⟩)⟩) ⟨?_, ?_, ?_, ?_, ?_, ?_, ?_, ?_, ?_, ?_, ?_, ?_, ?_, ?_, trivial⟩ ?_
  · intro e1 w1 hb hp hun
    refine Ops.mv_ptr rfl rfl rfl ?_
    refine Ops.nil ?_
    exact After.dn (Below.refl _ _) (by exact rfl)
  · intro e1 w1 hb hp hun
    refine Ops.call (flags_c _ _ _ _ _ _ _ _ (hB.below hb) rfl (hR.later hb) (by omega)) rfl rfl rfl ?_
    rintro _ w2 ⟨rfl, hst⟩
    subst hst
    refine Ops.nil ?_
    exact After.dn (Below.refl _ _) (by exact rfl)
  · intro e1 w1 hb hp hun
    refine Ops.mv_ptr rfl rfl rfl ?_
    refine Ops.nil ?_
    exact After.dn (Below.refl _ _) (by exact rfl)
  · intro e1 w1 hb hp hun
    refine Ops.nilp (hB.below hb) (Nat.succ_pos _) rfl rfl ?_
    refine Ops.nil ?_
    exact After.dn (Below.refl _ _) (by exact rfl)
  · intro e1 w1 hb hp hun
    refine Ops.ld_agg 0 (hB.below hb) rfl rfl rfl ?_
    refine Ops.nil ?_
    exact After.dn (Below.refl _ _) (by exact rfl)
  · intro e1 w1 hb hp hun
    refine Ops.mv_ptr rfl rfl rfl ?_
    refine Ops.nil ?_
    exact After.dn (Below.refl _ _) (by exact rfl)
  · intro e1 w1 hb hp hun
    refine Ops.nilp (hB.below hb) (Nat.succ_pos _) rfl rfl ?_
    refine Ops.nil ?_
    exact After.dn (Below.refl _ _) (by exact rfl)
  · intro e1 w1 hb hp hun
    refine Ops.ld_agg 0 (hB.below hb) rfl rfl rfl ?_
    refine Ops.nil ?_
    exact After.dn (Below.refl _ _) (by exact rfl)
  · intro e1 w1 hb hp hun
    refine Ops.call (coveringsOf_c A n c rs xss N _ (hR.later hb) hM hN) rfl rfl rfl ?_
    rintro _ w2 ⟨A', c', rs', ps, rfl, hrl, hpl, hall, hst⟩
    refine Ops.nil ?_
    exact After.dn hst.below ⟨A', c', rs', ps, rfl, hpl, hall, hst.rowsI1 rfl⟩
  · intro e1 w1 hb hp hun
    obtain ⟨A', c', rs', ps, h12, hpl, hall, hr⟩ := (hp 8 (by decide) rfl _ _ rfl rfl)
    refine Ops.call (orbitLabels_c A' ps.length c' rs' ps N _ hr (by omega) hall.sys (hall.inj hM hN) (by omega)) rfl (by rw [hr0]; exact congrArg (fun v => [Value.int .i64 (N : Int), v]) h12) rfl ?_
    rintro _ w2 ⟨A2, rfl, hst⟩
    refine Ops.nil ?_
    exact After.dn hst.below ⟨A2, by rw [hall.orbits hM hN N (Nat.le_refl _)]⟩
  · intro e1 w1 hb hp hun
    obtain ⟨A', h13⟩ := (hp 9 (by decide) rfl _ _ rfl rfl)
    refine Ops.extract (by exact h13) rfl rfl ?_
    refine Ops.nil ?_
    exact After.dn (Below.refl _ _) ⟨A', rfl⟩
  · intro e1 w1 hb hp hun
    obtain ⟨A', h13⟩ := (hp 9 (by decide) rfl _ _ rfl rfl)
    refine Ops.extract (by exact h13) rfl rfl ?_
    refine Ops.nil ?_
    exact After.dn (Below.refl _ _) (by exact rfl)
  · intro e1 w1 hb hp hun
    obtain ⟨A', h14⟩ := (hp 10 (by decide) rfl _ _ rfl rfl)
    refine Ops.mv_sl rfl (by exact h14) rfl ?_
    refine Ops.nil ?_
    exact After.dn (Below.refl _ _) ⟨A', rfl⟩
  · intro e1 w1 hb hp hun
    refine Ops.mv_int rfl rfl rfl ?_
    refine Ops.nil ?_
    exact After.dn (Below.refl _ _) (by exact rfl)
  intro u w6 hb6 hu
  have hS6 := (St.refl w).later hb6
  obtain ⟨A', h2⟩ := hu 12 _ rfl
  rw [pin2 u h2 h2]
  refine thenQ_n ?_
  refine Cd.ret ?_
  refine ret2_si rfl rfl ?_
  -- stop: end
  exact ⟨A', rfl, hS6⟩
end Go.Proofs.Ytgobjpcankaicaa.Vc
/-
  The reference's list of a rank and a number of flags, with the numbers of orbits. Conditions: the rank and the number are within their bounds.
-/
namespace Go.Proofs.Ytgobjpcankaicaa.Vc
open Go.RowKit

section
variable {P : Program} {N : Nat} {ops : Array Oper} {K : Env → World → Prop} {rest : List Oper} {e : Env} {w0 w w' : World} {ks : List Ck} {d : Nat} {ty : TypeId} {pos : String} {af : Array Edge}
theorem Ops.appFR {t el : TypeId} {z : Value} {b : Nat} [hU : Und P t (.slice el)] [Inf P el z 1 b] {x y : Operand} (i : Nat) {A : Option Addr} {n c : Nat} {xs : List SlV} {A' : Option Addr} {m c' : Nat} {ys : List SlV} (hfull : n = c) (hS : St w0 w ks) (hk : ks[i]? = some (CkR el A n c xs)) (hR : RdR w A' m ys) (hx : ev e x = .slice A n c) (hy : ev e y = .slice A' m c') {z0 : Value} (hz : z.cells = #[z0])
    (h63 : n + m ≤ 9223372036854775807) (hbytes : (n + m) * b ≤ 140737488355328) (hb : Nat.blt d N = true)
    (hK : ∀ A2 c2 w', Below w.heap.size w w' → St w0 w' (ks.set i (CkR el A2 (n + m) c2 (xs ++ ys))) → Ops P N ops K rest (upd e d (.slice A2 (n + m) c2)) w') :
    Ops P N ops K (⟨some d, .call ⟨.builtin .append, #[x, y], #[t, t]⟩, ty, pos, af, none⟩ :: rest) e w :=
  .appF i hfull hS hk hR.2 hx hy rfl hz (fun _ _ => rfl) (by simpa [maxLen] using h63) hbytes hb fun A2 c2 w' hb' h => hK A2 c2 w' hb' (by
    rw [map_range_R hR.1] at h
    simpa [CkR] using h)
theorem ret2_ss {R : Value → World → Prop} {t u : Nat} {A A' : Option Addr} {n c n' c' : Nat} (h : e t = .slice A n c) (h2 : e u = .slice A' n' c') (hR : R (.tuple #[.slice A n c, .slice A' n' c']) w) : ret2 t u R .ret e w := by show R (.tuple #[e t, e u]) w; rw [h, h2]; exact hR
end
theorem pin (u : Nat → Value) {i : Nat} {v : Value} (h : u i = v) : u = fun k => if k = i then v else u k := by
  funext k
  split
  · rename_i e; rw [e, h]
  · rfl
theorem RdR.take {w : World} {A : Option Addr} {n l : Nat} {xs : List SlV} (h : RdR w A n xs) (hl : l ≤ n) : RdR w A l (xs.take l) := by
  refine ⟨by rw [List.length_take, h.1]; omega, fun k hk => ?_⟩
  obtain ⟨q, h1, h2⟩ := h.2 k (by omega)
  exact ⟨q, h1, by rw [h2]; simp [List.getElem?_take, hk, List.getD_eq_getElem?_getD]⟩
theorem RdR.drop {w : World} {A : Option Addr} {n c l : Nat} {xs : List SlV} (h : RdR w A n xs) (hl : l ≤ n) (hc : n ≤ c) : RdR w (cutAt A c l) (n - l) (xs.drop l) := by
  have := h.cut (l := l) (h := n) (c := c) hl (Nat.le_refl _) hc
  rwa [List.take_of_length_le (by rw [List.length_drop, h.1]; omega)] at this

/-! matrices chosen and put in order -/
theorem matsCk_sub {t1 t2 : TypeId} {l l' : List MatV} (h : l.Sublist l') : (matsCk t1 t2 l).Sublist (matsCk t1 t2 l') := by
  induction h with
  | slnil => exact List.Sublist.refl _
  | cons a _ ih => exact ih.trans (List.sublist_append_right _ _)
  | cons_cons a _ ih => exact List.Sublist.append (List.Sublist.refl _) ih
theorem matsCk_perm {t1 t2 : TypeId} {l l' : List MatV} (h : l.Perm l') : (matsCk t1 t2 l).Perm (matsCk t1 t2 l') := h.flatMap_right _
def insV (m : MatV) (l : List MatV) : List MatV := l.take (atM m.xss (l.map (·.xss))) ++ m :: l.drop (atM m.xss (l.map (·.xss)))
theorem insV_xss (m : MatV) (l : List MatV) : (insV m l).map (·.xss) = insM m.xss (l.map (·.xss)) := by simp [insV, insM, List.map_take, List.map_drop]
theorem insV_perm (m : MatV) (l : List MatV) : (insV m l).Perm (m :: l) := ins_perm m l _
def selV (F : Nat) (ms : List MatV) : List MatV := ms.filter fun m => decide (Own1 F m.xss)
theorem fset_pos (N : Nat) (xss : Mx) : ∀ k, 0 < k → 0 < (fset N xss k).length
  | k + 1, _ => by
    simp only [fset]
    split
    · rename_i h; exact List.length_pos_of_mem h
    · simp
theorem orbN_zero {F : Nat} {L : Mx} (hF : 0 < F) : orbN F L = 0 ↔ ¬ Own1 F L := by
  unfold orbN
  split
  · rename_i h
    have := fset_pos F L F hF
    exact ⟨fun e => by omega, fun h' => absurd h h'⟩
  · rename_i h; exact ⟨fun _ => h, fun _ => rfl⟩
def orbI (F : Nat) (m : MatV) : Int := (orbN F m.xss : Int)
theorem top_at {ms : List MatV} {j : Nat} (hj : j < ms.length) : rg (ms.map (·.top)) (j : Int) = (ms[j]).top := by
  simp [rg, List.getD_eq_getElem?_getD, List.getElem?_eq_getElem hj]
theorem selV_snoc {F : Nat} {ms : List MatV} {i : Nat} (hi : i < ms.length) : selV F (ms.take (i + 1)) = if Own1 F (ms[i]).xss then selV F (ms.take i) ++ [ms[i]] else selV F (ms.take i) := by
  unfold selV
  rw [List.take_succ_eq_append_getElem hi, List.filter_append]
  by_cases h : Own1 F (ms[i]).xss <;> simp [h]

theorem l19List_c (n F : Nat) (hn : 1 ≤ n ∧ n ≤ 4) (hF : 2 ≤ F ∧ F ≤ 12) (w : World) :
    Ret Try.prog 68 [.int .i64 (n : Int), .int .i64 (F : Int)] w (fun v w' => ∃ A c A2 c2, ∃ ms : List MatV, v = .tuple #[.slice A ms.length c, .slice A2 ms.length c2] ∧ ms.map (·.xss) = listL n F ∧ (∀ m ∈ ms, m.ok) ∧
      St w w' (CkR 24 A ms.length c (ms.map (·.top)) :: CkI 2 A2 ms.length c2 (ms.map (orbI F)) :: matsCk 33 2 ms)) := by
  refine Ret.of_cd Try.func68 rfl Try.ntmps68 rfl (post2 rfl) ?_
  refine Cd.seq ?_
  refine Cd.region ?_
  refine Ops.mv_sl rfl rfl rfl ?_
  refine Ops.mv_sl rfl rfl rfl ?_
  refine Ops.nil ?_
  refine thenQ_n ?_
  refine Cd.seq ?_
  refine Cd.region ?_
  refine Ops.mv_int rfl rfl rfl ?_
  refine Ops.mv_int rfl rfl rfl ?_
  -- stop: CALL spec.l19Rooted(t14, t15) -> 16
  refine Ops.call (l19Rooted_c n F hn hF w) rfl rfl rfl ?_
  rintro _ w1 ⟨A6, c6, all, rfl, hok, hall, hst⟩
  have hsm := forms_small hn hF (F * n + 1)
  rw [← hall, List.length_map] at hsm
  have hman : ∀ m ∈ all, Mani m.xss ∧ Inv n F m.xss F (F * n) := fun m hm => forms_mani (by omega) (by omega) (by rw [formsL, ← hall]; exact List.mem_map_of_mem hm)
  have hlen : ∀ m ∈ all, m.xss.length = n := fun m hm => (hman m hm).2.shp.1
  have htn : ∀ m ∈ all, m.top.n = n := fun m hm => by rw [← hok m hm]; exact hlen m hm
  have hgF : ∀ m ∈ all, F = (gl m.xss 0).length := fun m hm => ((hman m hm).2.shp.row (i := 0) (by omega)).symm
  have hRR := hst.rdR 0 rfl
  have hmr : ∀ m ∈ all, RowsI w1 m.top.a n m.rs m.xss := fun m hm => by
    have := hst.matAt (c := m.top.c) (t1 := 33) (t2 := 2) ((MatV.sub_ hm).trans (List.sublist_cons_self _ _)) (hok m hm)
    rw [htn m hm] at this
    exact this
  have hcap : ∀ m ∈ all, n ≤ m.top.c := fun m hm => by
    have h1 := hst.own (CkR 33 m.top.a m.top.n m.top.c m.rs) (by
      refine List.mem_cons_of_mem _ ?_
      exact List.mem_flatMap.2 ⟨m, hm, by simp [MatV.cks, mat]⟩)
    have h2 : m.top.n ≤ m.top.c := h1.cap.1
    rw [htn m hm] at h2
    exact h2
  refine Ops.bs0 (St.refl w1) rfl ?_
  intro A7 w2 hS2
  refine Ops.bs0 hS2 rfl ?_
  intro A8 w3 hS3
  have hS3 : St w1 w3 [CkI 2 A8 0 0 [], CkR 24 A7 0 0 []] := hS3
  have hS3 := hS3.swap
  refine Ops.mv_sl rfl rfl rfl ?_
  refine Ops.mv_sl rfl rfl rfl ?_
  refine Ops.mv_sl rfl rfl rfl ?_
  refine Ops.nil ?_
  refine thenQ_n ?_
  refine Cd.seq ?_
  refine Cd.seq ?_
  refine Cd.region ?_
  refine Ops.mv_int rfl rfl rfl ?_
  refine Ops.nil ?_
  refine thenQ_n ?_
  refine Cd.block ?_
  -- stop: loop
  refine Cd.loop (α := Nat × (Option Addr × Nat) × (Option Addr × Nat) × List MatV) (fun s => [(6, .slice A6 all.length c6), (7, .slice s.2.1.1 s.2.2.2.length s.2.1.2), (8, .slice s.2.2.1.1 s.2.2.2.length s.2.2.1.2), (9, .int .i64 (s.1 : Int))])
    (fun s w' => St w1 w' [CkR 24 s.2.1.1 s.2.2.2.length s.2.1.2 (s.2.2.2.map (·.top)), CkI 2 s.2.2.1.1 s.2.2.2.length s.2.2.1.2 (s.2.2.2.map (orbI F))] ∧ s.1 ≤ all.length ∧ s.2.2.2.Perm (selV F (all.take s.1)) ∧ s.2.2.2.map (·.xss) = ordM ((selV F (all.take s.1)).map (·.xss))) (fun s => all.length - s.1)
    (0, (A7, 0), (A8, 0), []) ⟨rfl, rfl, rfl, rfl, trivial⟩ ⟨hS3, Nat.zero_le _, List.Perm.refl _, rfl⟩ ?_
  rintro ⟨i, ⟨B7, c7⟩, ⟨B8, c8⟩, outs⟩ e w4 ⟨hS4, hi, hperm, hord⟩
  dsimp only at hS4 hi hperm hord ⊢
  have hsubm : ∀ m ∈ outs, m ∈ all := fun m hm => List.mem_of_mem_take (List.mem_filter.1 (hperm.mem_iff.1 hm)).1
  have houts : outs.length ≤ i := by
    have h1 := hperm.length_eq
    have h2 := List.length_filter_le (fun m : MatV => decide (Own1 F m.xss)) (all.take i)
    have h3 : (selV F (all.take i)).length ≤ (all.take i).length := h2
    rw [List.length_take] at h3
    omega
  refine Cd.seq ?_
  refine Cd.seq ?_
  refine Cd.region ?_
  refine Ops.mv_int rfl rfl rfl ?_
  refine Ops.mv_sl rfl rfl rfl ?_
  refine Ops.len rfl rfl ?_
  refine Ops.lss rfl rfl rfl ?_
  refine Ops.nil ?_
  refine thenQ_n ?_
  -- stop: cond
  refine Cd.cond_p _ rfl (fun h1 => ?_) (fun h1 => ?_)
  · have hi' : i < all.length := by omega
    have hm := List.getElem_mem hi'
    have hti := top_at hi'
    have hRR4 := hRR.later hS4.below
    have hX := (hmr _ hm).later hS4.below
    have hsn := selV_snoc (F := F) hi'
    have hXm := (hman _ hm).1
    have hXF := hgF _ hm
    have hXc := hcap _ hm
    refine Cd.skip ?_
    refine thenQ_n ?_
    refine Cd.seq ?_
    refine Cd.block ?_
    refine Cd.seq ?_
    refine Cd.region ?_
    refine Ops.mv_sl rfl rfl rfl ?_
    refine Ops.mv_int rfl rfl rfl ?_
    -- stop: INDEXADDR 51 t25 t26 -> 27
    refine Ops.idx hRR4.2 rfl rfl rfl (by omega) (by omega) ?_
    refine Ops.ld_ag hRR4 rfl (by omega) rfl ?_
    rw [hti, htn _ hm]
    generalize hXe : all[i] = X at *
    have hXt : (⟨X.top.a, n, X.top.c⟩ : SlV) = X.top := by rw [← htn _ hm]
    refine Ops.call (l19Orbits_c X.top.a n X.top.c X.rs X.xss F _ hX hXm hXF) rfl rfl rfl ?_
    rintro _ w5 ⟨rfl, hst5⟩
    have hS5 := hS4.later hst5.below
    refine Ops.mv_int rfl rfl rfl ?_
    refine Ops.nil ?_
    refine thenQ_n ?_
    refine Cd.seq ?_
    refine Cd.seq ?_
    refine Cd.region ?_
    refine Ops.mv_int rfl rfl rfl ?_
    refine Ops.eql rfl rfl rfl ?_
    refine Ops.nil ?_
    refine thenQ_n ?_
    -- stop: cond
    refine Cd.cond_p _ rfl (fun h2 => ?_) (fun h2 => ?_)
    · have hno : ¬ Own1 F X.xss := (orbN_zero (by omega)).1 (by omega)
      rw [if_neg hno] at hsn
      refine Cd.exit ?_
      refine thenQ_x ?_
      refine blockQ_x ?_
      refine thenQ_n ?_
      refine Cd.region ?_
      refine Ops.mv_int rfl rfl rfl ?_
      refine Ops.add rfl rfl rfl (by omega) ?_
      refine Ops.mv_int rfl rfl rfl ?_
      refine Ops.nil ?_
      refine thenQ_n ?_
      -- stop: round
      exact ⟨(i + 1, (B7, c7), (B8, c8), outs), by show all.length - (i + 1) < all.length - i; omega, ⟨rfl, rfl, rfl, rfl, trivial⟩, hS5, hi', by show outs.Perm (selV F (all.take (i + 1))); rw [hsn]; exact hperm, by show outs.map _ = ordM ((selV F (all.take (i + 1))).map _); rw [hsn]; exact hord⟩
    · have hyes : Own1 F X.xss := Classical.byContradiction fun h => h2 (by rw [(orbN_zero (by omega)).2 h]; rfl)
      rw [if_pos hyes] at hsn
      have hX5 := hX.later hst5.below
      have hlast : ∀ {A9 c9 A10 c10 w9}, St w1 w9 [CkR 24 A9 (insV X outs).length c9 ((insV X outs).map (·.top)), CkI 2 A10 (insV X outs).length c10 ((insV X outs).map (orbI F))] →
          St w1 w9 [CkR 24 A9 (insV X outs).length c9 ((insV X outs).map (·.top)), CkI 2 A10 (insV X outs).length c10 ((insV X outs).map (orbI F))] ∧ i + 1 ≤ all.length ∧ (insV X outs).Perm (selV F (all.take (i + 1))) ∧ (insV X outs).map (·.xss) = ordM ((selV F (all.take (i + 1))).map (·.xss)) := fun hs => by
        refine ⟨hs, hi', ?_, ?_⟩
        · rw [hsn]
          exact (insV_perm X outs).trans ((hperm.cons X).trans (List.perm_append_comm (l₁ := [X])))
        · rw [hsn, insV_xss, hord, List.map_append, List.map_singleton, ordM_snoc]
      have hinl : (insV X outs).length = outs.length + 1 := (insV_perm X outs).length_eq
      refine Cd.skip ?_
      refine thenQ_n ?_
      refine Cd.seq ?_
      refine Cd.region ?_
      refine Ops.mv_int rfl rfl rfl ?_
      refine Ops.nil ?_
      refine thenQ_n ?_
      -- stop: join
      refine Cd.join (α := Nat) (fun a => [(6, .slice A6 all.length c6), (7, .slice B7 outs.length c7), (8, .slice B8 outs.length c8), (9, .int .i64 (i : Int)), (10, .int .i64 (orbN F X.xss : Int)), (11, .int .i64 (a : Int))])
        (fun a w' => St w5 w' [] ∧ a ≤ outs.length ∧ a = atM X.xss (outs.map (·.xss))) ?_ ?_
      · refine Cd.block ?_
        -- stop: loop
        refine Cd.loop (α := Nat) (fun a => [(6, .slice A6 all.length c6), (7, .slice B7 outs.length c7), (8, .slice B8 outs.length c8), (9, .int .i64 (i : Int)), (10, .int .i64 (orbN F X.xss : Int)), (11, .int .i64 (a : Int))])
          (fun a w' => St w5 w' [] ∧ a ≤ outs.length ∧ a + atM X.xss ((outs.map (·.xss)).drop a) = atM X.xss (outs.map (·.xss))) (fun a => outs.length - a) 0 ⟨rfl, rfl, rfl, rfl, rfl, rfl, trivial⟩ ⟨St.refl w5, Nat.zero_le _, Nat.zero_add _⟩ ?_
        rintro a e w6 ⟨hS6, ha, hat⟩
        have hT6 := (hS5.rdR 0 rfl).later hS6.below
        have hA6 := (hRR4.later hst5.below).later hS6.below
        have hX6 := hX5.later hS6.below
        by_cases hlt : a < outs.length --dup 2
        · have hmo := hsubm _ (List.getElem_mem hlt)
          have hY6 := (((hmr _ hmo).later hS4.below).later hst5.below).later hS6.below
          have hto := top_at hlt
          have hton := htn _ hmo
          generalize hYe : outs[a] = Y at *
          refine Cd.seq ?_
          refine Cd.seq ?_
          -- stop: draw
          refine Cd.draw [.ex (.int .i64 ((a : Int))), .ex (.slice (B7) (outs.length) (c7)), .ex (.int .i64 (((outs.length : Nat) : Int))), .ex (.bool (true)), .ex (.bool (true)), .ex (.slice (B7) (outs.length) (c7)), .ex (.int .i64 ((a : Int))), .ex (.pointer (ptrAt (B7) ((a : Int)).toNat)), .ex (.agg #[.slice Y.top.a n Y.top.c]), .ex (.slice (A6) (all.length) (c6)), .ex (.int .i64 ((i : Int))), .ex (.pointer (ptrAt (A6) ((i : Int)).toNat)), .ex (.agg #[.slice X.top.a n X.top.c]), .ex (.bool (decide (lexCC Y.xss X.xss < 0))), .ex (.bool (decide (lexCC Y.xss X.xss < 0)))] (by kernel_rfl) (by kernel_rfl) rfl (List.forall_mem_cons.2 ⟨Yd.lasts_ex _, (List.forall_mem_cons.2 ⟨Yd.lasts_ex _, (List.forall_mem_cons.2 ⟨Yd.lasts_ex _, (List.forall_mem_cons.2 ⟨Yd.lasts_ex _, (List.forall_mem_cons.2 ⟨Yd.lasts_ex _, (List.forall_mem_cons.2 ⟨Yd.lasts_ex _, (List.forall_mem_cons.2 ⟨Yd.lasts_ex _, (List.forall_mem_cons.2 ⟨Yd.lasts_ex _, (List.forall_mem_cons.2 ⟨Yd.lasts_ex _, (List.forall_mem_cons.2 ⟨Yd.lasts_ex _, (List.forall_mem_cons.2 ⟨Yd.lasts_ex _, (List.forall_mem_cons.2 ⟨Yd.lasts_ex _, (List.forall_mem_cons.2 ⟨Yd.lasts_ex _, (List.forall_mem_cons.2 ⟨Yd.lasts_ex _, (List.forall_mem_cons.2 ⟨Yd.lasts_ex _, (fun _ h => by cases h)⟩)⟩)⟩)⟩)⟩)⟩)⟩)⟩)⟩)⟩)⟩)⟩)⟩)⟩)⟩) ⟨?_, ?_, ?_, ?_, ?_, ?_, ?_, ?_, ?_, ?_, ?_, ?_, ?_, ?_, ?_, trivial⟩ ?_
          · intro e1 w1 hb hp hun
            refine Ops.mv_int rfl rfl rfl ?_
            refine Ops.nil ?_
            exact After.dn (Below.refl _ _) (by exact rfl)
          · intro e1 w1 hb hp hun
            refine Ops.mv_sl rfl rfl rfl ?_
            refine Ops.nil ?_
            exact After.dn (Below.refl _ _) (by exact rfl)
          · intro e1 w1 hb hp hun
            refine Ops.len rfl rfl ?_
            refine Ops.nil ?_
            exact After.dn (Below.refl _ _) (by exact rfl)
          · intro e1 w1 hb hp hun
            refine Ops.lss rfl rfl rfl ?_
            refine Ops.nil ?_
            exact After.dn (Below.refl _ _) (by exact congrArg Value.bool (decide_eq_true (by omega)))
          · intro e1 w1 hb hp hun
            refine Ops.mv_bool rfl rfl rfl ?_
            refine Ops.nil ?_
            exact After.dn (Below.refl _ _) (by exact rfl)
          · intro e1 w1 hb hp hun
            refine Ops.rung rfl rfl rfl ?_
            refine Ops.mv_sl rfl rfl rfl ?_
            refine Ops.nil ?_
            exact After.dn (Below.refl _ _) (by exact rfl)
          · intro e1 w1 hb hp hun
            refine Ops.rung rfl rfl rfl ?_
            refine Ops.mv_int rfl rfl rfl ?_
            refine Ops.nil ?_
            exact After.dn (Below.refl _ _) (by exact rfl)
          · intro e1 w1 hb hp hun
            refine Ops.rung rfl rfl rfl ?_
            refine Ops.idx (hT6.later hb).2 rfl rfl rfl (by omega) (by omega) ?_
            refine Ops.nil ?_
            exact After.dn (Below.refl _ _) (by exact rfl)
          · intro e1 w1 hb hp hun
            refine Ops.rung rfl rfl rfl ?_
            refine Ops.ld_ag (hT6.later hb) rfl (by omega) rfl ?_
            rw [hto, hton]
            refine Ops.nil ?_
            exact After.dn (Below.refl _ _) (by exact rfl)
          · intro e1 w1 hb hp hun
            refine Ops.rung rfl rfl rfl ?_
            refine Ops.mv_sl rfl rfl rfl ?_
            refine Ops.nil ?_
            exact After.dn (Below.refl _ _) (by exact rfl)
          · intro e1 w1 hb hp hun
            refine Ops.rung rfl rfl rfl ?_
            refine Ops.mv_int rfl rfl rfl ?_
            refine Ops.nil ?_
            exact After.dn (Below.refl _ _) (by exact rfl)
          · intro e1 w1 hb hp hun
            refine Ops.rung rfl rfl rfl ?_
            refine Ops.idx (hA6.later hb).2 rfl rfl rfl (by omega) (by omega) ?_
            refine Ops.nil ?_
            exact After.dn (Below.refl _ _) (by exact rfl)
          · intro e1 w1 hb hp hun
            refine Ops.rung rfl rfl rfl ?_
            refine Ops.ld_ag (hA6.later hb) rfl (by omega) rfl ?_
            rw [hti, htn _ hm]
            refine Ops.nil ?_
            exact After.dn (Below.refl _ _) (by exact rfl)
          · intro e1 w1 hb hp hun
            refine Ops.rung rfl rfl rfl ?_
            refine Ops.call (l19Less_c Y.top.a n Y.top.c Y.rs Y.xss X.top.a X.top.c X.rs X.xss _ (hY6.later hb) (hX6.later hb) (by omega)) rfl rfl rfl ?_
            rintro _ w2 ⟨rfl, hst⟩
            refine Ops.nil ?_
            exact After.dn hst.below (by exact rfl)
          · intro e1 w1 hb hp hun
            refine Ops.pick_t rfl rfl rfl ?_
            refine Ops.nil ?_
            exact After.dn (Below.refl _ _) (by exact rfl)
          intro uu w7 hb7 _
          have hS7 := hS6.later hb7
          rw [atM_drop (by rw [List.length_map]; exact hlt), List.getElem_map, hYe] at hat
          refine thenQ_n ?_
          -- stop: cond
          refine Cd.cond_p _ rfl (fun h5 => ?_) (fun h5 => ?_)
          · rw [if_pos h5] at hat
            refine Cd.skip ?_
            refine thenQ_n ?_
            refine Cd.block ?_
            refine Cd.region ?_
            refine Ops.mv_int rfl rfl rfl ?_
            refine Ops.add rfl rfl rfl (by omega) ?_
            refine Ops.mv_int rfl rfl rfl ?_
            refine Ops.nil ?_
            refine blockQ_n ?_
            refine thenQ_n ?_
            -- stop: round
            exact ⟨a + 1, by show outs.length - (a + 1) < outs.length - a; omega, ⟨rfl, rfl, rfl, rfl, rfl, rfl, trivial⟩, hS7, hlt, by omega⟩
          · rw [if_neg h5] at hat
            refine Cd.exit ?_
            refine thenQ_x ?_
            refine thenQ_x ?_
            refine blockQ_x ?_
            refine thenQ_n ?_
            -- stop: round
            exact ⟨a, ⟨rfl, rfl, rfl, rfl, rfl, rfl, trivial⟩, hS7, ha, by omega⟩
        · refine Cd.seq ?_
          refine Cd.seq ?_
          -- stop: draw
          refine Cd.draw [.ex (.int .i64 ((a : Int))), .ex (.slice (B7) (outs.length) (c7)), .ex (.int .i64 (((outs.length : Nat) : Int))), .ex (.bool (false)), .ex (.bool (false)), .ex (undef), .ex (undef), .ex (undef), .ex (undef), .ex (undef), .ex (undef), .ex (undef), .ex (undef), .ex (undef), .ex (.bool (false))] (by kernel_rfl) (by kernel_rfl) rfl (List.forall_mem_cons.2 ⟨Yd.lasts_ex _, (List.forall_mem_cons.2 ⟨Yd.lasts_ex _, (List.forall_mem_cons.2 ⟨Yd.lasts_ex _, (List.forall_mem_cons.2 ⟨Yd.lasts_ex _, (List.forall_mem_cons.2 ⟨Yd.lasts_ex _, (List.forall_mem_cons.2 ⟨Yd.lasts_ex _, (List.forall_mem_cons.2 ⟨Yd.lasts_ex _, (List.forall_mem_cons.2 ⟨Yd.lasts_ex _, (List.forall_mem_cons.2 ⟨Yd.lasts_ex _, (List.forall_mem_cons.2 ⟨Yd.lasts_ex _, (List.forall_mem_cons.2 ⟨Yd.lasts_ex _, (List.forall_mem_cons.2 ⟨Yd.lasts_ex _, (List.forall_mem_cons.2 ⟨Yd.lasts_ex _, (List.forall_mem_cons.2 ⟨Yd.lasts_ex _, (List.forall_mem_cons.2 ⟨Yd.lasts_ex _, (fun _ h => by cases h)⟩)⟩)⟩)⟩)⟩)⟩)⟩)⟩)⟩)⟩)⟩)⟩)⟩)⟩)⟩) ⟨?_, ?_, ?_, ?_, ?_, ?_, ?_, ?_, ?_, ?_, ?_, ?_, ?_, ?_, ?_, trivial⟩ ?_
          · intro e1 w1 hb hp hun
            refine Ops.mv_int rfl rfl rfl ?_
            refine Ops.nil ?_
            exact After.dn (Below.refl _ _) (by exact rfl)
          · intro e1 w1 hb hp hun
            refine Ops.mv_sl rfl rfl rfl ?_
            refine Ops.nil ?_
            exact After.dn (Below.refl _ _) (by exact rfl)
          · intro e1 w1 hb hp hun
            refine Ops.len rfl rfl ?_
            refine Ops.nil ?_
            exact After.dn (Below.refl _ _) (by exact rfl)
          · intro e1 w1 hb hp hun
            refine Ops.lss rfl rfl rfl ?_
            refine Ops.nil ?_
            exact After.dn (Below.refl _ _) (by exact congrArg Value.bool (decide_eq_false (by omega)))
          · intro e1 w1 hb hp hun
            refine Ops.mv_bool rfl rfl rfl ?_
            refine Ops.nil ?_
            exact After.dn (Below.refl _ _) (by exact rfl)
          · intro e1 w1 hb hp hun
            refine Ops.skipg rfl rfl rfl rfl rfl ?_
            refine Ops.nil ?_
            exact After.dn (Below.refl _ _) (by exact rfl)
          · intro e1 w1 hb hp hun
            refine Ops.skipg rfl rfl rfl rfl rfl ?_
            refine Ops.nil ?_
            exact After.dn (Below.refl _ _) (by exact rfl)
          · intro e1 w1 hb hp hun
            refine Ops.skipg rfl rfl rfl rfl rfl ?_
            refine Ops.nil ?_
            exact After.dn (Below.refl _ _) (by exact rfl)
          · intro e1 w1 hb hp hun
            refine Ops.skipg rfl rfl rfl rfl rfl ?_
            refine Ops.nil ?_
            exact After.dn (Below.refl _ _) (by exact rfl)
          · intro e1 w1 hb hp hun
            refine Ops.skipg rfl rfl rfl rfl rfl ?_
            refine Ops.nil ?_
            exact After.dn (Below.refl _ _) (by exact rfl)
          · intro e1 w1 hb hp hun
            refine Ops.skipg rfl rfl rfl rfl rfl ?_
            refine Ops.nil ?_
            exact After.dn (Below.refl _ _) (by exact rfl)
          · intro e1 w1 hb hp hun
            refine Ops.skipg rfl rfl rfl rfl rfl ?_
            refine Ops.nil ?_
            exact After.dn (Below.refl _ _) (by exact rfl)
          · intro e1 w1 hb hp hun
            refine Ops.skipg rfl rfl rfl rfl rfl ?_
            refine Ops.nil ?_
            exact After.dn (Below.refl _ _) (by exact rfl)
          · intro e1 w1 hb hp hun
            refine Ops.skipg rfl rfl rfl rfl rfl ?_
            refine Ops.nil ?_
            exact After.dn (Below.refl _ _) (by exact rfl)
          · intro e1 w1 hb hp hun
            refine Ops.pick_f rfl rfl rfl ?_
            refine Ops.nil ?_
            exact After.dn (Below.refl _ _) (by exact rfl)
          intro uu w7 hb7 _
          have hS7 := hS6.later hb7
          rw [List.drop_of_length_le (by rw [List.length_map]; omega)] at hat
          refine thenQ_n ?_
          -- stop: cond
          refine Cd.cond_f rfl ?_
          refine Cd.exit ?_
          refine thenQ_x ?_
          refine thenQ_x ?_
          refine blockQ_x ?_
          refine thenQ_n ?_
          -- stop: round
          exact ⟨a, ⟨rfl, rfl, rfl, rfl, rfl, rfl, trivial⟩, hS7, ha, hat⟩
      · rintro a e w6 ⟨hS6, ha, hat⟩
        have hSk := hS5.later hS6.below
        have hA6 := (hRR4.later hst5.below).later hS6.below
        refine Cd.seq ?_
        -- stop: draw
        refine Cd.draw [.ex (.slice (A6) (all.length) (c6)), .ex (.int .i64 ((i : Int))), .ex (.pointer (ptrAt (A6) ((i : Int)).toNat)), .ex (.agg #[.slice X.top.a n X.top.c]), .pr (fun v w' => ∃ A9, v = .slice A9 1 1 ∧ St w1 w' [CkR 24 A9 1 1 [X.top], CkR 24 B7 outs.length c7 (outs.map (·.top)), CkI 2 B8 outs.length c8 (outs.map (orbI F))]), .ex (.slice (B7) (outs.length) (c7)), .ex (.int .i64 ((a : Int))), .ex (.slice (cutAt B7 c7 a) (outs.length - a) (c7 - a)), .pr (fun v w' => ∃ A9 c9, v = .slice A9 (1 + (outs.length - a)) c9 ∧ St w1 w' [CkR 24 A9 (1 + (outs.length - a)) c9 ([X.top] ++ (outs.map (·.top)).drop a), CkR 24 B7 outs.length c7 (outs.map (·.top)), CkI 2 B8 outs.length c8 (outs.map (orbI F))]), .pr (fun v w' => ∃ A9 c9, v = .slice A9 (1 + (outs.length - a)) c9 ∧ St w1 w' [CkR 24 A9 (1 + (outs.length - a)) c9 ([X.top] ++ (outs.map (·.top)).drop a), CkR 24 B7 outs.length c7 (outs.map (·.top)), CkI 2 B8 outs.length c8 (outs.map (orbI F))])] (by kernel_rfl) (by kernel_rfl) rfl (List.forall_mem_cons.2 ⟨Yd.lasts_ex _, (List.forall_mem_cons.2 ⟨Yd.lasts_ex _, (List.forall_mem_cons.2 ⟨Yd.lasts_ex _, (List.forall_mem_cons.2 ⟨Yd.lasts_ex _, (List.forall_mem_cons.2 ⟨Yd.lasts_pr (fun v w w' h hb => by obtain ⟨A9, hv, hT⟩ := h; exact ⟨A9, hv, hT.later hb⟩), (List.forall_mem_cons.2 ⟨Yd.lasts_ex _, (List.forall_mem_cons.2 ⟨Yd.lasts_ex _, (List.forall_mem_cons.2 ⟨Yd.lasts_ex _, (List.forall_mem_cons.2 ⟨Yd.lasts_pr (fun v w w' h hb => by obtain ⟨A9, c9, hv, hT⟩ := h; exact ⟨A9, c9, hv, hT.later hb⟩), (List.forall_mem_cons.2 ⟨Yd.lasts_pr (fun v w w' h hb => by obtain ⟨A9, c9, hv, hT⟩ := h; exact ⟨A9, c9, hv, hT.later hb⟩), (fun _ h => by cases h)⟩)⟩)⟩)⟩)⟩)⟩)⟩)⟩)⟩)⟩) ⟨?_, ?_, ?_, ?_, ?_, ?_, ?_, ?_, ?_, ?_, trivial⟩ ?_
        · intro e1 w1 hb hp hun
          refine Ops.mv_sl rfl rfl rfl ?_
          refine Ops.nil ?_
          exact After.dn (Below.refl _ _) (by exact rfl)
        · intro e1 w1 hb hp hun
          refine Ops.mv_int rfl rfl rfl ?_
          refine Ops.nil ?_
          exact After.dn (Below.refl _ _) (by exact rfl)
        · intro e1 w1 hb hp hun
          refine Ops.idx (hA6.later hb).2 rfl rfl rfl (by omega) (by omega) ?_
          refine Ops.nil ?_
          exact After.dn (Below.refl _ _) (by exact rfl)
        · intro e1 w1 hb hp hun
          refine Ops.ld_ag (hA6.later hb) rfl (by omega) rfl ?_
          rw [hti, htn _ hm]
          refine Ops.nil ?_
          exact After.dn (Below.refl _ _) (by exact rfl)
        · intro e1 w1 hb hp hun
          refine Ops.bs1A (St.refl _) rfl rfl rfl ?_
          intro A9 w9 hst
          refine Ops.nil ?_
          exact After.dn hst.below ⟨A9, rfl, by rw [hXt] at hst; exact (hSk.later hb).call hst⟩
        · intro e1 w1 hb hp hun
          refine Ops.mv_sl rfl rfl rfl ?_
          refine Ops.nil ?_
          exact After.dn (Below.refl _ _) (by exact rfl)
        · intro e1 w1 hb hp hun
          refine Ops.mv_int rfl rfl rfl ?_
          refine Ops.nil ?_
          exact After.dn (Below.refl _ _) (by exact rfl)
        · intro e1 w1 hb hp hun
          refine Ops.cut_l rfl rfl rfl (by omega) ?_
          refine Ops.nil ?_
          exact After.dn (Below.refl _ _) (by exact rfl)
        · intro e1 w1 hb hp hun
          obtain ⟨A9, h53, hT⟩ := (hp 4 (by decide) rfl _ _ rfl rfl)
          refine Ops.appFR 0 rfl hT rfl ((hT.rdR 1 rfl).drop (l := a) ha (hT.cap 1 rfl).1) (by exact h53) rfl rfl (by omega) (by omega) rfl ?_
          intro A10 c10 w9 hbl hst
          refine Ops.nil ?_
          exact After.dn hbl ⟨A10, c10, rfl, hst⟩
        · intro e1 w1 hb hp hun
          obtain ⟨A9, c9, h57, hT⟩ := (hp 8 (by decide) rfl _ _ rfl rfl)
          refine Ops.mv_sl rfl (by exact h57) rfl ?_
          refine Ops.nil ?_
          exact After.dn (Below.refl _ _) ⟨A9, c9, rfl, hT⟩
        intro uu w7 _ hu
        obtain ⟨A9, c9, h12, hS7⟩ := hu 9 _ rfl
        rw [pin uu h12]
        refine thenQ_n ?_
        refine Cd.seq ?_
        refine Cd.region ?_
        -- stop: BUILDSLICE 51 0 [] -> 58
        refine Ops.bs0 hS7 rfl ?_
        intro A10 w8 hS8
        have hS8 : St w1 w8 [CkR 24 A10 0 0 [], CkR 24 A9 (1 + (outs.length - a)) c9 ([X.top] ++ (outs.map (·.top)).drop a), CkR 24 B7 outs.length c7 (outs.map (·.top)), CkI 2 B8 outs.length c8 (outs.map (orbI F))] := hS8
        have hcp7 : outs.length ≤ c7 ∧ c7 ≤ maxLen := hS8.cap 2 rfl
        refine Ops.mv_sl rfl rfl rfl ?_
        refine Ops.mv_int rfl rfl rfl ?_
        -- stop: SLICE 51 t59 none some t60 none -> 61
        refine Ops.cut_h rfl rfl rfl (by omega) ?_
        refine Ops.appR 0 hS8 rfl ((hS8.rdR 2 rfl).take (l := a) ha) rfl rfl rfl (by omega) (by omega) rfl ?_
        intro A11 c11 w9 hS9
        refine Ops.mv_sl rfl rfl rfl ?_
        -- stop: BUILTIN append(t62, t63) -> 64
        refine Ops.appR 0 hS9 rfl (hS9.rdR 1 rfl) rfl rfl rfl (by omega) (by omega) rfl ?_
        intro A12 c12 w10 hS10
        have hS10 : St w1 w10 [CkR 24 A12 (0 + a + (1 + (outs.length - a))) c12 (([] ++ (outs.map (·.top)).take a) ++ ([X.top] ++ (outs.map (·.top)).drop a)), CkR 24 A9 (1 + (outs.length - a)) c9 ([X.top] ++ (outs.map (·.top)).drop a), CkR 24 B7 outs.length c7 (outs.map (·.top)), CkI 2 B8 outs.length c8 (outs.map (orbI F))] := hS10
        have hS11 : St w1 w10 [CkR 24 A12 (0 + a + (1 + (outs.length - a))) c12 (([] ++ (outs.map (·.top)).take a) ++ ([X.top] ++ (outs.map (·.top)).drop a)), CkI 2 B8 outs.length c8 (outs.map (orbI F))] := hS10.sub (List.Sublist.cons_cons _ ((List.sublist_cons_self _ _).trans (List.sublist_cons_self _ _)))
        have e1 : 0 + a + (1 + (outs.length - a)) = (insV X outs).length := by omega
        have e2 : ([] ++ (outs.map (·.top)).take a) ++ ([X.top] ++ (outs.map (·.top)).drop a) = (insV X outs).map (·.top) := by rw [hat]; simp [insV, List.map_take, List.map_drop]
        have e3 : ([] ++ (outs.map (orbI F)).take a) ++ ([(orbN F X.xss : Int)] ++ (outs.map (orbI F)).drop a) = (insV X outs).map (orbI F) := by rw [hat]; simp [insV, List.map_take, List.map_drop, orbI]
        rw [e1, e2] at hS11
        refine Ops.mv_sl rfl rfl rfl ?_
        refine Ops.nil ?_
        refine thenQ_n ?_
        refine Cd.seq ?_
        refine Cd.region ?_
        refine Ops.mv_int rfl rfl rfl ?_
        -- stop: BUILDSLICE 33 1 [('pair', [0, ('app', 'Go.Operand.tmp', [65])])] -> 66
        refine Ops.bs1I hS11 rfl rfl rfl ?_
        intro A13 w11 hS12
        have hS12 : St w1 w11 [CkI 2 A13 1 1 [(orbN F X.xss : Int)], CkR 24 A12 (insV X outs).length c12 ((insV X outs).map (·.top)), CkI 2 B8 outs.length c8 (outs.map (orbI F))] := hS12
        have hcp8 : outs.length ≤ c8 ∧ c8 ≤ maxLen := hS12.cap 2 rfl
        refine Ops.mv_sl rfl rfl rfl ?_
        refine Ops.mv_int rfl rfl rfl ?_
        -- stop: SLICE 33 t67 some t68 none none -> 69
        refine Ops.cut_l rfl rfl rfl (by omega) ?_
        refine Ops.appI 0 hS12 rfl ((hS12.rdI 2 rfl).drop (l := a) ha hcp8.1) rfl rfl rfl (by omega) (by omega) rfl ?_
        intro A14 c14 w12 hS13
        refine Ops.mv_sl rfl rfl rfl ?_
        refine Ops.nil ?_
        refine thenQ_n ?_
        refine Cd.region ?_
        -- stop: BUILDSLICE 33 0 [] -> 71
        refine Ops.bs0 hS13 rfl ?_
        intro A15 w13 hS14
        have hS14 : St w1 w13 [CkI 2 A15 0 0 [], CkI 2 A14 (1 + (outs.length - a)) c14 ([(orbN F X.xss : Int)] ++ (outs.map (orbI F)).drop a), CkR 24 A12 (insV X outs).length c12 ((insV X outs).map (·.top)), CkI 2 B8 outs.length c8 (outs.map (orbI F))] := hS14
        refine Ops.mv_sl rfl rfl rfl ?_
        refine Ops.mv_int rfl rfl rfl ?_
        -- stop: SLICE 33 t72 none some t73 none -> 74
        refine Ops.cut_h rfl rfl rfl (by omega) ?_
        refine Ops.appI 0 hS14 rfl ((hS14.rdI 3 rfl).take (l := a) ha) rfl rfl rfl (by omega) (by omega) rfl ?_
        intro A16 c16 w14 hS15
        refine Ops.mv_sl rfl rfl rfl ?_
        -- stop: BUILTIN append(t75, t76) -> 77
        refine Ops.appI 0 hS15 rfl (hS15.rdI 1 rfl) rfl rfl rfl (by omega) (by omega) rfl ?_
        intro A17 c17 w15 hS16
        have hS16 : St w1 w15 [CkI 2 A17 (0 + a + (1 + (outs.length - a))) c17 (([] ++ (outs.map (orbI F)).take a) ++ ([(orbN F X.xss : Int)] ++ (outs.map (orbI F)).drop a)), CkI 2 A14 (1 + (outs.length - a)) c14 ([(orbN F X.xss : Int)] ++ (outs.map (orbI F)).drop a), CkR 24 A12 (insV X outs).length c12 ((insV X outs).map (·.top)), CkI 2 B8 outs.length c8 (outs.map (orbI F))] := hS16
        have hS17 : St w1 w15 [CkI 2 A17 (0 + a + (1 + (outs.length - a))) c17 (([] ++ (outs.map (orbI F)).take a) ++ ([(orbN F X.xss : Int)] ++ (outs.map (orbI F)).drop a)), CkR 24 A12 (insV X outs).length c12 ((insV X outs).map (·.top))] := hS16.sub (List.Sublist.cons_cons _ ((List.Sublist.cons_cons _ (List.nil_sublist _)).cons _))
        rw [e1, e3] at hS17
        rw [e1]
        refine Ops.mv_sl rfl rfl rfl ?_
        refine Ops.nil ?_
        refine blockQ_n ?_
        refine thenQ_n ?_
        refine Cd.region ?_
        refine Ops.mv_int rfl rfl rfl ?_
        refine Ops.add rfl rfl rfl (by omega) ?_
        refine Ops.mv_int rfl rfl rfl ?_
        refine Ops.nil ?_
        refine thenQ_n ?_
        -- stop: round
        exact ⟨(i + 1, (A12, c12), (A17, c17), insV X outs), by show all.length - (i + 1) < all.length - i; omega, ⟨rfl, rfl, rfl, rfl, trivial⟩, hlast hS17.swap⟩
  · have hin : i = all.length := by omega
    subst hin
    rw [List.take_length] at hperm hord
    have hfin : outs.map (·.xss) = listL n F := by
      rw [hord, listL, ownL, formsL, ← hall, selV, List.filter_map]
      rfl
    refine Cd.exit ?_
    refine thenQ_x ?_
    refine thenQ_x ?_
    refine blockQ_x ?_
    refine thenQ_n ?_
    refine Cd.seq ?_
    refine Cd.region ?_
    refine Ops.mv_sl rfl rfl rfl ?_
    refine Ops.mv_sl rfl rfl rfl ?_
    refine Ops.mv_sl rfl rfl rfl ?_
    refine Ops.mv_sl rfl rfl rfl ?_
    refine Ops.nil ?_
    refine thenQ_n ?_
    refine Cd.ret ?_
    refine ret2_ss rfl rfl ?_
    -- stop: end
    refine ⟨B7, c7, B8, c8, outs, rfl, hfin, fun m hm => hok m (hsubm m hm), ?_⟩
    have hj := hst.call hS4
    refine (hj.sub (?_ : List.Sublist ([CkR 24 B7 outs.length c7 (outs.map (·.top)), CkI 2 B8 outs.length c8 (outs.map (orbI F))] ++ matsCk 33 2 (selV F all)) _)).perm ?_
    · exact List.Sublist.append (List.Sublist.refl _) ((matsCk_sub List.filter_sublist).trans (List.sublist_cons_self _ _))
    · exact List.Perm.append_left _ (matsCk_perm hperm.symm)
end Go.Proofs.Ytgobjpcankaicaa.Vc
/-
  The walks of the program's list of rooted forms, of its count, and of the law over both. Conditions: as each states them.
-/
namespace Go.Proofs.Ytgobjpcankaicaa.Vc
open Go.RowKit
section
variable {P : Program} {N : Nat} {ops : Array Oper} {K : Env → World → Prop} {rest : List Oper} {e : Env} {w0 w w' : World} {ks : List Ck} {d : Nat} {ty : TypeId} {pos : String} {af : Array Edge}
theorem Ops.bld4b {t : TypeId} {f0 f1 f2 f3 : Field} {z0 z1 z2 z3 y0 y1 y2 y3 : Value} {b b0 b1 b2 b3 : Nat} [Und P t (.struct #[f0, f1, f2, f3])] [Inf P t (.agg #[z0, z1, z2, z3]) 4 b] (I0 : Inf P f0.type y0 1 b0) (I1 : Inf P f1.type y1 1 b1) (I2 : Inf P f2.type y2 1 b2) (I3 : Inf P f3.type y3 1 b3)
    (ho : f0.offset = 0 ∧ f1.offset = 1 ∧ f2.offset = 2 ∧ f3.offset = 3) {x1 x2 : Operand} {v1 v2 : Value} (h1 : ev e x1 = v1) (h2 : ev e x2 = v2) (c1 : v1.oneCell' = true) (c2 : v2.oneCell' = true) (hb : Nat.blt d N = true)
    (hK : Ops P N ops K rest (upd e d (.agg #[z0, v1, v2, z3])) w) : Ops P N ops K (⟨some d, .build t #[(1, x1), (2, x2)], ty, pos, af, none⟩ :: rest) e w := by
  obtain ⟨inf, hi, hz0, hs, hby⟩ := Inf.get P t
  obtain ⟨i0, g0, _, s0, _⟩ := I0.get P f0.type
  obtain ⟨i1, g1, _, s1, _⟩ := I1.get P f1.type
  obtain ⟨i2, g2, _, s2, _⟩ := I2.get P f2.type
  obtain ⟨i3, g3, _, s3, _⟩ := I3.get P f3.type
  have e1 : v1.cells = #[v1] := by cases v1 <;> simp [Value.oneCell'] at c1 <;> rfl
  have e2 : v2.cells = #[v2] := by cases v2 <;> simp [Value.oneCell'] at c2 <;> rfl
  have ez : (Value.agg #[z0, z1, z2, z3]).cells = #[z0, z1, z2, z3] := rfl
  obtain ⟨o0, o1, o2, o3⟩ := ho
  refine .val (w' := w) ?_ hb hK
  simp [execOp, Instr.build, run_underlying (Und.out (P := P) (t := t)), sizeOf, typeInfo, zeroValue, hi, hz0, g0, g1, g2, g3, s0, s1, s2, s3, o0, o1, o2, o3, h1, h2, e1, e2, ez, Instr.fill]
theorem Ops.box4 {el : TypeId} {x : Operand} {v0 v1 v2 v3 : Value} (hS : St w0 w ks) (hx : ev e x = .agg #[v0, v1, v2, v3]) (hb : Nat.blt d N = true)
    (hK : ∀ A w', St w0 w' (Bx el 4 A [v0, v1, v2, v3] :: ks) → Ops P N ops K rest (upd e d (.pointer A)) w') (hM : isM [v0, v1, v2, v3] = false := by rfl) : Ops P N ops K (⟨some d, .box el x, ty, pos, af, none⟩ :: rest) e w := .box_agg hS hx hb rfl hK hM
end

/-- what the builder owns while its moves grow -/
def rfK (Ab A : Option Addr) (k c F : Nat) (rs : List SlV) : List Ck :=
  Bx 136 4 Ab [.slice A k c, .int .i64 (F : Int), .int .i64 (1 : Int), .slice none 0 0] :: CkR 33 A k c rs :: rowsCk 2 rs (List.replicate k (List.replicate F (-1)))

theorem rootedForms_c (n F : Nat) (hn : 1 ≤ n ∧ n ≤ 4) (hF : 2 ≤ F ∧ F ≤ 12) (w : World) :
    Ret Try.prog 110 [.int .i64 (n : Int), .int .i64 (F : Int)] w (fun v w' => ∃ A' c', ∃ new : List MatV, v = .slice A' new.length c' ∧ (∀ m ∈ new, m.ok) ∧ new.map (·.xss) = forms n F (F * n + 1) 0 1 (blank n F) ∧
      St w w' (CkR 24 A' new.length c' (new.map (·.top)) :: matsCk 33 2 new)) := by
  refine Ret.of_cd Try.func110 rfl Try.ntmps110 rfl (post1 rfl) ?_
  refine Cd.seq ?_
  refine Cd.region ?_
  refine Ops.mv_sl rfl rfl rfl ?_
  refine Ops.nil ?_
  refine thenQ_n ?_
  refine Cd.seq ?_
  refine Cd.region ?_
  refine Ops.mv_int rfl rfl rfl ?_
  -- stop: BUILD 136 [('pair', [1, ('app', 'Go.Operand.tmp', [6])]), ('pair', [2, ('app', 'Go.Operand.const', [('app', 'Go.Value.int', ['Go.IntKind.i64', 1])])])] -> 7
  refine Ops.bld4b (by exact inferInstance) (by exact inferInstance) (by exact inferInstance) (by exact inferInstance) ⟨rfl, rfl, rfl, rfl⟩ rfl rfl rfl rfl rfl ?_
  refine Ops.box4 (St.refl w) rfl rfl ?_
  intro Ab w1 hS1
  refine Ops.mv_ptr rfl rfl rfl ?_
  refine Ops.nil ?_
  refine thenQ_n ?_
  refine Cd.seq ?_
  refine Cd.seq ?_
  refine Cd.region ?_
  refine Ops.mv_int rfl rfl rfl ?_
  refine Ops.mv_int rfl rfl rfl ?_
  refine Ops.nil ?_
  refine thenQ_n ?_
  refine Cd.block ?_
  -- stop: loop
  have hS0 : St w w1 (rfK Ab none 0 0 F []) := (hS1.nil 33).perm (List.perm_append_comm (l₁ := [_]) (l₂ := [_]))
  refine Cd.loop (α := Nat × Option Addr × Nat × List SlV) (fun s => [(1, .int .i64 (F : Int)), (5, .pointer Ab), (9, .int .i64 (n : Int)), (10, .int .i64 (s.1 : Int))]) (fun s w' => St w w' (rfK Ab s.2.1 s.1 s.2.2.1 F s.2.2.2) ∧ s.1 ≤ n ∧ s.2.2.2.length = s.1) (fun s => n - s.1) (0, none, 0, []) ⟨rfl, rfl, rfl, rfl, trivial⟩ ⟨hS0, Nat.zero_le _, rfl⟩ ?_
  rintro ⟨k, A3, c3, rs⟩ e w4 ⟨hS4, hk, hlen⟩
  dsimp only at hS4 hk hlen ⊢
  refine Cd.seq ?_
  refine Cd.region ?_
  refine Ops.lss rfl rfl rfl ?_
  refine Ops.nil ?_
  refine thenQ_n ?_
  refine Cd.seq ?_
  -- stop: cond
  refine Cd.cond_p _ rfl (fun h1 => ?_) (fun h1 => ?_)
  · have hk' : k < n := by omega
    refine Cd.skip ?_
    refine thenQ_n ?_
    refine Cd.seq ?_
    refine Cd.block ?_
    -- stop: draw
    have hB := (show St w w4 (_ :: _) from hS4).rd 0 rfl
    refine Cd.drawN [9, 12] [.ex (.pointer (Ab)), .ex (.pointer (Ab)), .ex (.pointer (Ab)), .ex (.pointer (ptrAt (Ab) 0)), .ex (.slice (A3) (k) (c3)), .pr (fun v w' => ∃ A9, v = .slice A9 1 1 ∧ St w w' (CkI 2 A9 1 1 [-1] :: rfK Ab A3 k c3 F rs)), .ex (.int .i64 ((F : Int))), .pr (fun v w' => ∃ A4, v = .slice A4 F F ∧ St w w' (CkI 2 A4 F F (List.replicate F (-1)) :: rfK Ab A3 k c3 F rs)), .pr (fun v w' => ∃ A4 A9, v = .slice A9 1 1 ∧ St w w' (CkR 33 A9 1 1 [⟨A4, F, F⟩] :: CkI 2 A4 F F (List.replicate F (-1)) :: rfK Ab A3 k c3 F rs)), .pr (fun v w' => ∃ A4 A10 c10, v = .slice A10 (k + 1) c10 ∧ St w w' (CkI 2 A4 F F (List.replicate F (-1)) :: Bx 136 4 Ab [.slice A3 k c3, .int .i64 (F : Int), .int .i64 (1 : Int), .slice none 0 0] :: CkR 33 A10 (k + 1) c10 (rs ++ [⟨A4, F, F⟩]) :: rowsCk 2 rs (List.replicate k (List.replicate F (-1))))), .ex (.pointer (Ab)), .ex (.pointer (ptrAt (Ab) 0)), .pr (fun _ w' => ∃ A4 A10 c10, St w w' (CkI 2 A4 F F (List.replicate F (-1)) :: Bx 136 4 Ab [.slice A10 (k + 1) c10, .int .i64 (F : Int), .int .i64 (1 : Int), .slice none 0 0] :: CkR 33 A10 (k + 1) c10 (rs ++ [⟨A4, F, F⟩]) :: rowsCk 2 rs (List.replicate k (List.replicate F (-1)))))] (by kernel_rfl) (by kernel_rfl) (List.forall_mem_cons.2 ⟨Yd.lasts_ex _, (List.forall_mem_cons.2 ⟨Yd.lasts_ex _, (List.forall_mem_cons.2 ⟨Yd.lasts_ex _, (List.forall_mem_cons.2 ⟨Yd.lasts_ex _, (List.forall_mem_cons.2 ⟨Yd.lasts_ex _, (List.forall_mem_cons.2 ⟨Yd.lasts_pr (fun v w w' h hb => by obtain ⟨A9, hv, hT⟩ := h; exact ⟨A9, hv, hT.later hb⟩), (List.forall_mem_cons.2 ⟨Yd.lasts_ex _, (List.forall_mem_cons.2 ⟨Yd.lasts_pr (fun v w w' h hb => by obtain ⟨A4, hv, hT⟩ := h; exact ⟨A4, hv, hT.later hb⟩), (List.forall_mem_cons.2 ⟨Yd.lasts_pr (fun v w w' h hb => by obtain ⟨A4, A9, hv, hT⟩ := h; exact ⟨A4, A9, hv, hT.later hb⟩), (List.forall_mem_cons.2 ⟨Yd.lasts_pr (fun v w w' h hb => by obtain ⟨A4, A10, c10, hv, hT⟩ := h; exact ⟨A4, A10, c10, hv, hT.later hb⟩), (List.forall_mem_cons.2 ⟨Yd.lasts_ex _, (List.forall_mem_cons.2 ⟨Yd.lasts_ex _, (List.forall_mem_cons.2 ⟨Yd.lasts_pr (fun v w w' h hb => by obtain ⟨A4, A10, c10, hT⟩ := h; exact ⟨A4, A10, c10, hT.later hb⟩), (fun _ h => by cases h)⟩)⟩)⟩)⟩)⟩)⟩)⟩)⟩)⟩)⟩)⟩)⟩)⟩) ⟨?_, ?_, ?_, ?_, ?_, ?_, ?_, ?_, ?_, ?_, ?_, ?_, ?_, trivial⟩ ?_
    · intro e1 w1 cc hlo hhi hb0 hp hun hq
      show Ops _ _ _ _ _ _ _
      refine Ops.mv_ptr rfl rfl rfl ?_
      refine Ops.nil ?_
      exact AfterN.dn rfl (Below.refl _ _) (by exact rfl)
    · intro e1 w1 cc hlo hhi hb0 hp hun hq
      show Ops _ _ _ _ _ _ _
      refine Ops.mv_ptr rfl rfl rfl ?_
      refine Ops.nil ?_
      exact AfterN.dn rfl (Below.refl _ _) (by exact rfl)
    · intro e1 w1 cc hlo hhi hb0 hp hun hq
      show Ops _ _ _ _ _ _ _
      replace hlo := le_of_lo hlo (b := 0) (by kernel_rfl)
      replace hhi := le_of_hi hhi (b := 0) (by kernel_rfl)
      obtain rfl : cc = 0 := by omega
      have hb := hb0 rfl
      refine Ops.nilp (hB.below hb) (Nat.succ_pos _) rfl rfl ?_
      refine Ops.nil ?_
      exact AfterN.dn rfl (Below.refl _ _) (by exact rfl)
    · intro e1 w1 cc hlo hhi hb0 hp hun hq
      show Ops _ _ _ _ _ _ _
      replace hlo := le_of_lo hlo (b := 0) (by kernel_rfl)
      replace hhi := le_of_hi hhi (b := 0) (by kernel_rfl)
      obtain rfl : cc = 0 := by omega
      have hb := hb0 rfl
      refine Ops.fld (hB.below hb) rfl rfl rfl rfl inferInstance ?_
      refine Ops.nil ?_
      exact AfterN.dn rfl (Below.refl _ _) (by exact rfl)
    · intro e1 w1 cc hlo hhi hb0 hp hun hq
      show Ops _ _ _ _ _ _ _
      replace hlo := le_of_lo hlo (b := 0) (by kernel_rfl)
      replace hhi := le_of_hi hhi (b := 0) (by kernel_rfl)
      obtain rfl : cc = 0 := by omega
      have hb := hb0 rfl
      refine Ops.ldf_s (hB.below hb) rfl rfl rfl rfl rfl ?_
      refine Ops.nil ?_
      exact AfterN.dn rfl (Below.refl _ _) (by exact rfl)
    · intro e1 w1 cc hlo hhi hb0 hp hun hq
      show Ops _ _ _ _ _ _ _
      replace hlo := le_of_lo hlo (b := 0) (by kernel_rfl)
      replace hhi := le_of_hi hhi (b := 0) (by kernel_rfl)
      obtain rfl : cc = 0 := by omega
      have hb := hb0 rfl
      refine Ops.bs1I (St.refl _) rfl rfl rfl ?_
      intro A9 w9 hst
      refine Ops.nil ?_
      exact AfterN.dn rfl hst.below ⟨A9, rfl, (hS4.later hb).call hst⟩
    · intro e1 w1 cc hlo hhi hb0 hp hun hq
      show Ops _ _ _ _ _ _ _
      refine Ops.mv_int rfl rfl rfl ?_
      refine Ops.nil ?_
      exact AfterN.dn rfl (Below.refl _ _) (by exact rfl)
    · intro e1 w1 cc hlo hhi hb0 hp hun hq
      show Ops _ _ _ _ _ _ _
      replace hlo := le_of_lo hlo (b := 0) (by kernel_rfl)
      replace hhi := le_of_hi hhi (b := 0) (by kernel_rfl)
      obtain rfl : cc = 0 := by omega
      have hb := hb0 rfl
      obtain ⟨A9, h17, hT⟩ := (hp 5 _ _ (by kernel_rfl) rfl rfl (by kernel_rfl))
      have hb := hb0 rfl
      refine Ops.call (Repeat_c A9 1 (-1) F _ (hT.rdI 0 rfl) (by omega)) rfl (by exact congrArg (fun v => [v, Value.int .i64 (F : Int)]) h17) rfl ?_
      rintro _ w2 ⟨A4, rfl, hst⟩
      refine Ops.nil ?_
      exact AfterN.dn rfl hst.below ⟨A4, rfl, hT.tail.call hst⟩
    · intro e1 w1 cc hlo hhi hb0 hp hun hq
      show Ops _ _ _ _ _ _ _
      replace hlo := le_of_lo hlo (b := 0) (by kernel_rfl)
      replace hhi := le_of_hi hhi (b := 0) (by kernel_rfl)
      obtain rfl : cc = 0 := by omega
      have hb := hb0 rfl
      obtain ⟨A4, h19, hT⟩ := (hp 7 _ _ (by kernel_rfl) rfl rfl (by kernel_rfl))
      have hb := hb0 rfl
      refine Ops.bs1R (St.refl _) (by exact h19) rfl rfl ?_
      intro A9 w9 hst
      refine Ops.nil ?_
      exact AfterN.dn rfl hst.below ⟨A4, A9, rfl, hT.call hst⟩
    · intro e1 w1 cc hlo hhi hb0 hp hun hq
      show Ops _ _ _ _ _ _ _
      replace hlo := le_of_lo hlo (b := 0) (by kernel_rfl)
      replace hhi := le_of_hi hhi (b := 0) (by kernel_rfl)
      obtain rfl : cc = 0 := by omega
      have hb := hb0 rfl
      obtain ⟨A4, A9, h20, hT⟩ := (hp 8 _ _ (by kernel_rfl) rfl rfl (by kernel_rfl))
      unfold rfK at hT
      refine Ops.appR 3 hT rfl (hT.rdR 0 rfl) rfl (by exact h20) rfl (by omega) (by omega) rfl ?_
      intro A10 c10 w10 hT10
      refine Ops.nil ?_
      exact AfterT.dn rfl ⟨A4, A10, c10, rfl, hT10.tail⟩
    · intro e1 w1 cc hlo hhi hb0 hp hun hq
      show Ops _ _ _ _ _ _ _
      replace hlo := le_of_lo hlo (b := 1) (by kernel_rfl)
      replace hhi := le_of_hi hhi (b := 1) (by kernel_rfl)
      obtain rfl : cc = 1 := by omega
      have hph := hp 9 _ _ (by kernel_rfl) rfl rfl (by kernel_rfl)
      obtain ⟨A4, A10, c10, h21, hT⟩ := hph
      refine Ops.nilp ((hT.rd 1 rfl)) (Nat.succ_pos _) rfl rfl ?_
      refine Ops.nil ?_
      exact AfterN.dn rfl (Below.refl _ _) (by exact rfl)
    · intro e1 w1 cc hlo hhi hb0 hp hun hq
      show Ops _ _ _ _ _ _ _
      replace hlo := le_of_lo hlo (b := 1) (by kernel_rfl)
      replace hhi := le_of_hi hhi (b := 1) (by kernel_rfl)
      obtain rfl : cc = 1 := by omega
      have hph := hp 9 _ _ (by kernel_rfl) rfl rfl (by kernel_rfl)
      obtain ⟨A4, A10, c10, h21, hT⟩ := hph
      refine Ops.fld ((hT.rd 1 rfl)) rfl rfl rfl rfl inferInstance ?_
      refine Ops.nil ?_
      exact AfterN.dn rfl (Below.refl _ _) (by exact rfl)
    · intro e1 w1 cc hlo hhi hb0 hp hun hq
      show Ops _ _ _ _ _ _ _
      replace hlo := le_of_lo hlo (b := 1) (by kernel_rfl)
      replace hhi := le_of_hi hhi (b := 1) (by kernel_rfl)
      obtain rfl : cc = 1 := by omega
      have hph := hp 9 _ _ (by kernel_rfl) rfl rfl (by kernel_rfl)
      obtain ⟨A4, A10, c10, h21, hT⟩ := hph
      refine Ops.stf 1 hT rfl rfl (by exact h21) rfl rfl ?_
      intro w11 hT11
      refine Ops.nil ?_
      exact AfterT.st rfl ⟨A4, A10, c10, hT11⟩
    intro u w5 _ hu
    obtain ⟨A4, A10, c10, hT⟩ := hu 12 _ rfl (by kernel_rfl)
    refine blockQ_n ?_
    refine thenQ_n ?_
    refine Cd.region ?_
    refine Ops.add rfl rfl rfl (by omega) ?_
    refine Ops.mv_int rfl rfl rfl ?_
    refine Ops.nil ?_
    refine thenQ_n ?_
    -- stop: round
    refine ⟨(k + 1, A10, c10, rs ++ [⟨A4, F, F⟩]), by show n - (k + 1) < n - k; omega, ⟨rfl, rfl, rfl, rfl, trivial⟩, ?_, hk', by simp [hlen]⟩
    show St w w5 (_ :: CkR _ A10 (k + 1) c10 (rs ++ [_]) :: rowsCk _ (rs ++ [_]) (List.replicate (k + 1) (List.replicate F (-1))))
    rw [List.replicate_succ', rowsCk_append (by simp [hlen])]
    refine hT.perm ?_
    exact List.perm_append_comm (l₁ := [_]) (l₂ := _ :: _ :: rowsCk 2 rs (List.replicate k (List.replicate F (-1))))
  · have hkn : k = n := by omega
    subst hkn
    have hI := Inv.blank (n := k) (F := F) (by omega) (by omega)
    have hfe := growI_forms (F * k + 1) hI
    have hS5 : St w w4 (bdK Ab A3 k c3 F 1 none 0 0 [] rs (blank k F) []) := by
      have := (hS4.nil 24).perm (List.Perm.swap _ _ _)
      unfold bdK
      rw [List.append_nil]
      exact this
    refine Cd.exit ?_
    refine thenQ_x ?_
    refine thenQ_x ?_
    refine blockQ_x ?_
    refine thenQ_n ?_
    refine Cd.seq ?_
    refine Cd.region ?_
    refine Ops.mv_ptr rfl rfl rfl ?_
    -- stop: CALL impl.builder).build(t25, 0, 0) -> 26
    refine Ops.call (build_c k F (by omega) ⟨by omega, by omega⟩ Ab A3 c3 rs (F * k + 1) 0 1 (blank k F) hI (by omega) w w4 [] none 0 0 [] 0 0 (by omega) (by omega) hS5 (by rw [hfe]; have := forms_small hn hF (F * k + 1); omega)) rfl rfl rfl ?_
    rintro _ w6 ⟨A', c', new, rfl, hok, hx, hS6⟩
    rw [hfe] at hx
    rw [Nat.zero_add, List.nil_append] at hS6
    unfold bdK at hS6
    refine Ops.nil ?_
    refine thenQ_n ?_
    refine Cd.seq ?_
    refine Cd.region ?_
    refine Ops.mv_ptr rfl rfl rfl ?_
    -- stop: NILCHECK t27 -> 28
    refine Ops.nilp (hS6.rd 0 rfl) (Nat.succ_pos _) rfl rfl ?_
    refine Ops.fld (hS6.rd 0 rfl) rfl rfl rfl rfl inferInstance ?_
    refine Ops.ldf_s (hS6.rd 0 rfl) rfl rfl rfl rfl rfl ?_
    refine Ops.mv_sl rfl rfl rfl ?_
    refine Ops.nil ?_
    refine thenQ_n ?_
    refine Cd.ret ?_
    refine ret1_s rfl ?_
    -- stop: end
    refine ⟨A', c', new, rfl, hok, hx, ?_⟩
    refine hS6.sub ?_
    rw [List.append_nil]
    exact (List.Sublist.cons_cons _ (List.sublist_append_right _ _)).cons _

end Go.Proofs.Ytgobjpcankaicaa.Vc
