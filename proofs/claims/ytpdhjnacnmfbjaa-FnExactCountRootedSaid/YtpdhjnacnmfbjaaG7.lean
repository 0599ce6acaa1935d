/-
  The walk of the program's test of a move. Conditions: as each states them.
-/
import Derived.Test.YtpdhjnacnmfbjaaG6
namespace Go.Proofs.Ytpdhjnacnmfbjaa.Vc
open Go.RowKit

theorem fits_c (Ab A : Option Addr) (n c F : Nat) (rs : List SlV) (M : List (List Int)) (i f : Nat) (w : World) (hB : Rd w Ab 1 (fun _ => .slice A n c)) (hR : RowsI w A n rs M) (hs : Shp n F M) (hg : Rng n F M) (hn : n ≤ 1000) (hi : i < n) (hf : f < F) (hc : 0 ≤ cell M i f) :
    Ret Try.prog 115 [.pointer Ab, .int .i64 (i : Int), .int .i64 (f : Int)] w (fun v w' => v = .bool (okI M i f) ∧ St w w' []) := by
  have hlen := hs.1
  have hrow := hR.at_ (i := (i : Int)) (by omega) (by omega)
  have hrn := hR.shp hs (k := (i : Int)) (by omega) (by omega)
  have hgF := hg i f hi (by omega) (by omega)
  refine Ret.of_cd Try.func115 rfl Try.ntmps115 rfl (post1 rfl) ?_
  refine Cd.seq ?_
  refine Cd.region ?_
  refine Ops.mv_bool rfl rfl rfl ?_
  refine Ops.nil ?_
  refine thenQ_n ?_
  refine Cd.seq ?_
  refine Cd.region ?_
  refine Ops.mv_ptr rfl rfl rfl ?_
  -- stop: NILCHECK t11 -> 12
  refine Ops.nilp hB (by decide) rfl rfl ?_
  refine Ops.fld hB rfl rfl rfl rfl inferInstance ?_
  refine Ops.ldf_s hB rfl rfl rfl rfl rfl ?_
  refine Ops.mv_int rfl rfl rfl ?_
  -- stop: INDEXADDR 25 t14 t15 -> 16
  refine Ops.idx hR.top.2 rfl rfl rfl (by omega) (by omega) ?_
  refine Ops.ld_sl hR.top rfl (by omega) rfl rfl ?_
  refine Ops.mv_int rfl rfl rfl ?_
  -- stop: INDEXADDR 39 t17 t18 -> 19
  refine Ops.idx hrow.2 rfl rfl rfl (by omega) (by omega) ?_
  refine Ops.ld_int hrow rfl (by omega) rfl rfl ?_
  refine Ops.mv_int rfl rfl rfl ?_
  refine Ops.nil ?_
  refine thenQ_n ?_
  refine Cd.seq ?_
  refine Cd.seq ?_
  refine Cd.region ?_
  refine Ops.mv_ptr rfl rfl rfl ?_
  -- stop: NILCHECK t21 -> 22
  refine Ops.nilp hB (by decide) rfl rfl ?_
  refine Ops.fld hB rfl rfl rfl rfl inferInstance ?_
  refine Ops.ldf_s hB rfl rfl rfl rfl rfl ?_
  refine Ops.call (sizeR_c _ _ _ _) rfl rfl rfl ?_
  rintro _ w ⟨rfl, rfl⟩
  refine Ops.mv_int rfl rfl rfl ?_
  refine Ops.nil ?_
  refine thenQ_n ?_
  refine Cd.block ?_
  -- stop: loop
  refine Cd.loop (α := Nat) (fun k => [(0, .pointer Ab), (1, .int .i64 (i : Int)), (2, .int .i64 (f : Int)), (7, .int .i64 (cell M i f)), (25, .int .i64 (n : Int)), (26, .int .i64 (k : Int))]) (fun k w' => St w w' [] ∧ k ≤ n ∧ ∀ k', k' < k → ¬ (-1 ≤ (k' : Int) - i ∧ (k' : Int) - i ≤ 1) → ¬ BadP M i k' f (cell M i f)) (fun k => n - k) 0 ⟨rfl, rfl, rfl, rfl, rfl, rfl, trivial⟩ ⟨St.refl w, Nat.zero_le _, fun k' h => by omega⟩ ?_
  rintro k e w1 ⟨hS1, hk, hK⟩
  have hB1 := hB.below hS1.below
  have hR1 := hS1.oldRows hR
  have more : ∀ (hb : ¬ (-1 ≤ (k : Int) - i ∧ (k : Int) - i ≤ 1) → ¬ BadP M i k f (cell M i f)), ∀ k', k' < k + 1 → ¬ (-1 ≤ (k' : Int) - i ∧ (k' : Int) - i ≤ 1) → ¬ BadP M i k' f (cell M i f) := fun hb k' hk' hik => by
    by_cases ek : k' = k
    · subst ek; exact hb hik
    · exact hK k' (by omega) hik
  refine Cd.seq ?_
  refine Cd.region ?_
  refine Ops.lss rfl rfl rfl ?_
  refine Ops.nil ?_
  refine thenQ_n ?_
  refine Cd.seq ?_
  -- stop: cond
  refine Cd.cond_p _ rfl (fun h1 => ?_) (fun h1 => ?_)
  · refine Cd.skip ?_
    refine thenQ_n ?_
    refine Cd.seq ?_
    refine Cd.block ?_
    refine Cd.seq ?_
    refine Cd.region ?_
    refine Ops.mv_int rfl rfl rfl ?_
    refine Ops.mv_int rfl rfl rfl ?_
    refine Ops.nil ?_
    refine thenQ_n ?_
    refine Cd.seq ?_
    refine Cd.seq ?_
    refine Cd.region ?_
    refine Ops.mv_int rfl rfl rfl ?_
    refine Ops.mv_int rfl rfl rfl ?_
    refine Ops.sub rfl rfl rfl (by omega) ?_
    -- stop: CALL impl.within(t31, -1, 1) -> 32
    refine Ops.call (within_c _ _ _ _) rfl rfl rfl ?_
    rintro _ w1 ⟨rfl, rfl⟩
    refine Ops.nil ?_
    refine thenQ_n ?_
    -- stop: cond
    refine Cd.cond_p _ rfl (fun h2 => ?_) (fun h2 => ?_)
    · refine Cd.exit ?_
      refine thenQ_x ?_
      refine blockQ_x ?_
      refine thenQ_n ?_
      refine Cd.region ?_
      refine Ops.add rfl rfl rfl (by omega) ?_
      refine Ops.mv_int rfl rfl rfl ?_
      refine Ops.nil ?_
      refine thenQ_n ?_
      -- stop: round
      exact ⟨k + 1, by omega, ⟨rfl, rfl, rfl, rfl, rfl, rfl, trivial⟩, hS1, by omega, more (fun h => absurd h2 h)⟩
    · have hrk := hR1.at_ (i := (k : Int)) (by omega) h1
      have hkn := hR1.shp hs (k := (k : Int)) (by omega) h1
      have hri := hR1.at_ (i := (i : Int)) (by omega) (by omega)
      have bad : BadP M i k f (cell M i f) → okI M i f = false := fun hb => decide_eq_false (fun h => h k (by omega) h2 hb)
      have hxF : gi (gl M (k : Nat)) (f : Nat) < (F : Int) := hg k f (by omega) (by omega) (by omega)
      have hyF : gi (gl M (k : Nat)) (cell M i f) < (F : Int) := hg k (cell M i f) (by omega) hc hgF
      refine Cd.skip ?_
      refine thenQ_n ?_
      refine Cd.seq ?_
      -- stop: draw
      refine Cd.draw [.ex (.pointer (Ab)), .ex (.pointer (Ab)), .ex (.pointer (ptrAt (Ab) 0)), .ex (.slice (A) (n) (c)), .ex (.int .i64 ((k : Int))), .ex (.pointer (ptrAt (A) ((k : Int)).toNat)), .ex (.slice ((rg (rs) ((k : Int))).a) ((rg (rs) ((k : Int))).n) ((rg (rs) ((k : Int))).c)), .ex (.int .i64 ((f : Int))), .ex (.pointer (ptrAt ((rg (rs) ((k : Int))).a) ((f : Int)).toNat)), .ex (.int .i64 (gi (gl M k) ((f : Int)))), .ex (.pointer (Ab)), .ex (.pointer (Ab)), .ex (.pointer (ptrAt (Ab) 0)), .ex (.slice (A) (n) (c)), .ex (.int .i64 ((k : Int))), .ex (.pointer (ptrAt (A) ((k : Int)).toNat)), .ex (.slice ((rg (rs) ((k : Int))).a) ((rg (rs) ((k : Int))).n) ((rg (rs) ((k : Int))).c)), .ex (.int .i64 (cell M i f)), .ex (.pointer (ptrAt ((rg (rs) ((k : Int))).a) (cell M i f).toNat)), .ex (.int .i64 (gi (gl M k) (cell M i f))), .ex (.int .i64 (gi (gl M k) ((f : Int)))), .ex (.int .i64 (gi (gl M k) (cell M i f)))] (by kernel_rfl) (by kernel_rfl) rfl (List.forall_mem_cons.2 ⟨Yd.lasts_ex _, (List.forall_mem_cons.2 ⟨Yd.lasts_ex _, (List.forall_mem_cons.2 ⟨Yd.lasts_ex _, (List.forall_mem_cons.2 ⟨Yd.lasts_ex _, (List.forall_mem_cons.2 ⟨Yd.lasts_ex _, (List.forall_mem_cons.2 ⟨Yd.lasts_ex _, (List.forall_mem_cons.2 ⟨Yd.lasts_ex _, (List.forall_mem_cons.2 ⟨Yd.lasts_ex _, (List.forall_mem_cons.2 ⟨Yd.lasts_ex _, (List.forall_mem_cons.2 ⟨Yd.lasts_ex _, (List.forall_mem_cons.2 ⟨Yd.lasts_ex _, (List.forall_mem_cons.2 ⟨Yd.lasts_ex _, (List.forall_mem_cons.2 ⟨Yd.lasts_ex _, (List.forall_mem_cons.2 ⟨Yd.lasts_ex _, (List.forall_mem_cons.2 ⟨Yd.lasts_ex _, (List.forall_mem_cons.2 ⟨Yd.lasts_ex _, (List.forall_mem_cons.2 ⟨Yd.lasts_ex _, (List.forall_mem_cons.2 ⟨Yd.lasts_ex _, (List.forall_mem_cons.2 ⟨Yd.lasts_ex _, (List.forall_mem_cons.2 ⟨Yd.lasts_ex _, (List.forall_mem_cons.2 ⟨Yd.lasts_ex _, (List.forall_mem_cons.2 ⟨Yd.lasts_ex _, (fun _ h => by cases h)⟩)⟩)⟩)⟩)⟩)⟩)⟩)⟩)⟩)⟩)⟩)⟩)⟩)⟩)⟩)⟩)⟩)⟩)⟩)⟩)⟩)⟩) ⟨?_, ?_, ?_, ?_, ?_, ?_, ?_, ?_, ?_, ?_, ?_, ?_, ?_, ?_, ?_, ?_, ?_, ?_, ?_, ?_, ?_, ?_, trivial⟩ ?_
      · intro e1 w1 hb hp hun
        refine Ops.mv_ptr rfl rfl rfl ?_
        refine Ops.nil ?_
        exact After.dn (Below.refl _ _) (by exact rfl)
      · intro e1 w1 hb hp hun
        refine Ops.nilp (hB1.below hb) (Nat.succ_pos _) rfl rfl ?_
        refine Ops.nil ?_
        exact After.dn (Below.refl _ _) (by exact rfl)
      · intro e1 w1 hb hp hun
        refine Ops.fld (hB1.below hb) rfl rfl rfl rfl inferInstance ?_
        refine Ops.nil ?_
        exact After.dn (Below.refl _ _) (by exact rfl)
      · intro e1 w1 hb hp hun
        refine Ops.ldf_s (hB1.below hb) rfl rfl rfl rfl rfl ?_
        refine Ops.nil ?_
        exact After.dn (Below.refl _ _) (by exact rfl)
      · intro e1 w1 hb hp hun
        refine Ops.mv_int rfl rfl rfl ?_
        refine Ops.nil ?_
        exact After.dn (Below.refl _ _) (by exact rfl)
      · intro e1 w1 hb hp hun
        refine Ops.idx (hR1.top.later hb).2 rfl rfl rfl (by omega) (by omega) ?_
        refine Ops.nil ?_
        exact After.dn (Below.refl _ _) (by exact rfl)
      · intro e1 w1 hb hp hun
        refine Ops.ld_sl (hR1.top.later hb) rfl (by omega) rfl rfl ?_
        refine Ops.nil ?_
        exact After.dn (Below.refl _ _) (by exact rfl)
      · intro e1 w1 hb hp hun
        refine Ops.mv_int rfl rfl rfl ?_
        refine Ops.nil ?_
        exact After.dn (Below.refl _ _) (by exact rfl)
      · intro e1 w1 hb hp hun
        refine Ops.idx (hrk.later hb).2 rfl rfl rfl (by omega) (by omega) ?_
        refine Ops.nil ?_
        exact After.dn (Below.refl _ _) (by exact rfl)
      · intro e1 w1 hb hp hun
        refine Ops.ld_int (hrk.later hb) rfl (by omega) rfl rfl ?_
        refine Ops.nil ?_
        exact After.dn (Below.refl _ _) (by exact rfl)
      · intro e1 w1 hb hp hun
        refine Ops.mv_ptr rfl rfl rfl ?_
        refine Ops.nil ?_
        exact After.dn (Below.refl _ _) (by exact rfl)
      · intro e1 w1 hb hp hun
        refine Ops.nilp (hB1.below hb) (Nat.succ_pos _) rfl rfl ?_
        refine Ops.nil ?_
        exact After.dn (Below.refl _ _) (by exact rfl)
      · intro e1 w1 hb hp hun
        refine Ops.fld (hB1.below hb) rfl rfl rfl rfl inferInstance ?_
        refine Ops.nil ?_
        exact After.dn (Below.refl _ _) (by exact rfl)
      · intro e1 w1 hb hp hun
        refine Ops.ldf_s (hB1.below hb) rfl rfl rfl rfl rfl ?_
        refine Ops.nil ?_
        exact After.dn (Below.refl _ _) (by exact rfl)
      · intro e1 w1 hb hp hun
        refine Ops.mv_int rfl rfl rfl ?_
        refine Ops.nil ?_
        exact After.dn (Below.refl _ _) (by exact rfl)
      · intro e1 w1 hb hp hun
        refine Ops.idx (hR1.top.later hb).2 rfl rfl rfl (by omega) (by omega) ?_
        refine Ops.nil ?_
        exact After.dn (Below.refl _ _) (by exact rfl)
      · intro e1 w1 hb hp hun
        refine Ops.ld_sl (hR1.top.later hb) rfl (by omega) rfl rfl ?_
        refine Ops.nil ?_
        exact After.dn (Below.refl _ _) (by exact rfl)
      · intro e1 w1 hb hp hun
        refine Ops.mv_int rfl rfl rfl ?_
        refine Ops.nil ?_
        exact After.dn (Below.refl _ _) (by exact rfl)
      · intro e1 w1 hb hp hun
        refine Ops.idx (hrk.later hb).2 rfl rfl rfl (by omega) (by omega) ?_
        refine Ops.nil ?_
        exact After.dn (Below.refl _ _) (by exact rfl)
      · intro e1 w1 hb hp hun
        refine Ops.ld_int (hrk.later hb) rfl (by omega) rfl rfl ?_
        refine Ops.nil ?_
        exact After.dn (Below.refl _ _) (by exact rfl)
      · intro e1 w1 hb hp hun
        refine Ops.mv_int rfl rfl rfl ?_
        refine Ops.nil ?_
        exact After.dn (Below.refl _ _) (by exact rfl)
      · intro e1 w1 hb hp hun
        refine Ops.mv_int rfl rfl rfl ?_
        refine Ops.nil ?_
        exact After.dn (Below.refl _ _) (by exact rfl)
      intro u w2 hb2 _
      have hS2 := hS1.later hb2
      have hR2 := hS2.oldRows hR
      have hB2 := hB.below hS2.below
      have hri2 := hR2.at_ (i := (i : Int)) (by omega) (by omega)
      refine thenQ_n ?_
      refine Cd.seq ?_
      refine Cd.region ?_
      refine Ops.mv_int rfl rfl rfl ?_
      refine Ops.mv_int rfl rfl rfl ?_
      refine Ops.eql rfl rfl rfl ?_
      refine Ops.mv_bool rfl rfl rfl ?_
      -- stop: guard 56
      refine Ops.split_p 56 rfl (fun hxg => ?_) (fun hxg => ?_)
      · refine Ops.skipg rfl rfl rfl rfl rfl ?_
        refine Ops.skipg rfl rfl rfl rfl rfl ?_
        refine Ops.skipg rfl rfl rfl rfl rfl ?_
        refine Ops.skipu rfl rfl rfl rfl ?_
        refine Ops.skipu rfl rfl rfl rfl ?_
        refine Ops.skipg rfl rfl rfl rfl rfl ?_
        refine Ops.skipg rfl rfl rfl rfl rfl ?_
        refine Ops.skipu rfl rfl rfl rfl ?_
        refine Ops.skipu rfl rfl rfl rfl ?_
        refine Ops.skipu rfl rfl rfl rfl ?_
        refine Ops.skipu rfl rfl rfl rfl ?_
        refine Ops.skipu rfl rfl rfl rfl ?_
        refine Ops.skipu rfl rfl rfl rfl ?_
        refine Ops.skipu rfl rfl rfl rfl ?_
        refine Ops.skipu rfl rfl rfl rfl ?_
        refine Ops.skipu rfl rfl rfl rfl ?_
        refine Ops.skipu rfl rfl rfl rfl ?_
        refine Ops.skipu rfl rfl rfl rfl ?_
        refine Ops.skipg rfl rfl rfl rfl rfl ?_
        refine Ops.skipg rfl rfl rfl rfl rfl ?_
        refine Ops.skipu rfl rfl rfl rfl ?_
        refine Ops.skipu rfl rfl rfl rfl ?_
        refine Ops.skipu rfl rfl rfl rfl ?_
        refine Ops.skipu rfl rfl rfl rfl ?_
        refine Ops.skipu rfl rfl rfl rfl ?_
        refine Ops.skipu rfl rfl rfl rfl ?_
        refine Ops.skipu rfl rfl rfl rfl ?_
        refine Ops.skipu rfl rfl rfl rfl ?_
        refine Ops.skipu rfl rfl rfl rfl ?_
        refine Ops.skipu rfl rfl rfl rfl ?_
        refine Ops.skipu rfl rfl rfl rfl ?_
        refine Ops.skipu rfl rfl rfl rfl ?_
        refine Ops.skipg rfl rfl rfl rfl rfl ?_
        refine Ops.pick_t rfl rfl rfl ?_
        refine Ops.mv_bool rfl rfl rfl ?_
        refine Ops.skipg rfl rfl rfl rfl rfl ?_
        refine Ops.skipg rfl rfl rfl rfl rfl ?_
        refine Ops.skipg rfl rfl rfl rfl rfl ?_
        refine Ops.skipu rfl rfl rfl rfl ?_
        refine Ops.skipu rfl rfl rfl rfl ?_
        refine Ops.skipg rfl rfl rfl rfl rfl ?_
        refine Ops.skipg rfl rfl rfl rfl rfl ?_
        refine Ops.skipu rfl rfl rfl rfl ?_
        refine Ops.skipu rfl rfl rfl rfl ?_
        refine Ops.skipu rfl rfl rfl rfl ?_
        refine Ops.skipu rfl rfl rfl rfl ?_
        refine Ops.skipu rfl rfl rfl rfl ?_
        refine Ops.skipu rfl rfl rfl rfl ?_
        refine Ops.skipu rfl rfl rfl rfl ?_
        refine Ops.skipu rfl rfl rfl rfl ?_
        refine Ops.skipu rfl rfl rfl rfl ?_
        refine Ops.skipu rfl rfl rfl rfl ?_
        refine Ops.skipu rfl rfl rfl rfl ?_
        refine Ops.skipg rfl rfl rfl rfl rfl ?_
        refine Ops.skipg rfl rfl rfl rfl rfl ?_
        refine Ops.skipu rfl rfl rfl rfl ?_
        refine Ops.skipu rfl rfl rfl rfl ?_
        refine Ops.skipu rfl rfl rfl rfl ?_
        refine Ops.skipu rfl rfl rfl rfl ?_
        refine Ops.skipu rfl rfl rfl rfl ?_
        refine Ops.skipu rfl rfl rfl rfl ?_
        refine Ops.skipu rfl rfl rfl rfl ?_
        refine Ops.skipu rfl rfl rfl rfl ?_
        refine Ops.skipu rfl rfl rfl rfl ?_
        refine Ops.skipu rfl rfl rfl rfl ?_
        refine Ops.skipu rfl rfl rfl rfl ?_
        refine Ops.skipu rfl rfl rfl rfl ?_
        refine Ops.skipg rfl rfl rfl rfl rfl ?_
        refine Ops.pick_t rfl rfl rfl ?_
        refine Ops.nil ?_
        refine thenQ_n ?_
        -- stop: cond
        refine Cd.cond_t rfl ?_
        refine Cd.seq ?_
        refine Cd.region ?_
        refine Ops.mv_bool rfl rfl rfl ?_
        refine Ops.nil ?_
        refine thenQ_n ?_
        refine Cd.ret ?_
        refine blockQ_r ?_
        refine thenQ_r ?_
        refine thenQ_r ?_
        refine blockQ_r ?_
        refine thenQ_r ?_
        refine ret1_b rfl ?_
        -- stop: end
        exact ⟨by rw [bad (.inl hxg)], hS2⟩
      · refine Ops.rung rfl rfl rfl ?_
        refine Ops.mv_int rfl rfl rfl ?_
        refine Ops.rung rfl rfl rfl ?_
        refine Ops.geq rfl rfl rfl ?_
        refine Ops.rung rfl rfl rfl ?_
        refine Ops.mv_bool rfl rfl rfl ?_
        -- stop: guard 59
        refine Ops.split_p 59 rfl (fun hx => ?_) (fun hx => ?_)
        · refine Ops.rung rfl rfl rfl ?_
          refine Ops.mv_int rfl rfl rfl ?_
          refine Ops.rung rfl rfl rfl ?_
          refine Ops.geq rfl rfl rfl ?_
          refine Ops.rung rfl rfl rfl ?_
          refine Ops.pick_t rfl rfl rfl ?_
          refine Ops.rung rfl rfl rfl ?_
          refine Ops.mv_bool rfl rfl rfl ?_
          -- stop: guard 63
          refine Ops.split_p 63 rfl (fun hy => ?_) (fun hy => ?_)
          · skip
            refine Ops.rung rfl rfl rfl ?_
            refine Ops.mv_ptr rfl rfl rfl ?_
            refine Ops.rung rfl rfl rfl ?_
            -- stop: NILCHECK t64 -> 65
            refine Ops.nilp hB2 (by decide) rfl rfl ?_
            refine Ops.rung rfl rfl rfl ?_
            -- stop: FIELDADDR 82 t65 0 -> 66
            refine Ops.fld hB2 rfl rfl rfl rfl inferInstance ?_
            refine Ops.rung rfl rfl rfl ?_
            -- stop: LOAD 25 t66 -> 67
            refine Ops.ldf_s hB2 rfl rfl rfl rfl rfl ?_
            refine Ops.rung rfl rfl rfl ?_
            refine Ops.mv_int rfl rfl rfl ?_
            refine Ops.rung rfl rfl rfl ?_
            -- stop: INDEXADDR 25 t67 t68 -> 69
            refine Ops.idx hR2.top.2 rfl rfl rfl (by omega) (by omega) ?_
            refine Ops.rung rfl rfl rfl ?_
            -- stop: LOAD 39 t69 -> 70
            refine Ops.ld_sl hR2.top rfl (by omega) rfl rfl ?_
            refine Ops.rung rfl rfl rfl ?_
            refine Ops.mv_int rfl rfl rfl ?_
            refine Ops.rung rfl rfl rfl ?_
            -- stop: INDEXADDR 39 t70 t71 -> 72
            refine Ops.idx hri2.2 rfl rfl rfl (by omega) (by omega) ?_
            refine Ops.rung rfl rfl rfl ?_
            -- stop: LOAD 2 t72 -> 73
            refine Ops.ld_int hri2 rfl (by omega) rfl rfl ?_
            refine Ops.rung rfl rfl rfl ?_
            refine Ops.geq rfl rfl rfl ?_
            refine Ops.rung rfl rfl rfl ?_
            refine Ops.pick_t rfl rfl rfl ?_
            refine Ops.rung rfl rfl rfl ?_
            refine Ops.mv_bool rfl rfl rfl ?_
            -- stop: guard 76
            refine Ops.split_p 76 rfl (fun ha0 => ?_) (fun ha0 => ?_)
            · skip
              refine Ops.rung rfl rfl rfl ?_
              refine Ops.mv_ptr rfl rfl rfl ?_
              refine Ops.rung rfl rfl rfl ?_
              -- stop: NILCHECK t77 -> 78
              refine Ops.nilp hB2 (by decide) rfl rfl ?_
              refine Ops.rung rfl rfl rfl ?_
              -- stop: FIELDADDR 82 t78 0 -> 79
              refine Ops.fld hB2 rfl rfl rfl rfl inferInstance ?_
              refine Ops.rung rfl rfl rfl ?_
              -- stop: LOAD 25 t79 -> 80
              refine Ops.ldf_s hB2 rfl rfl rfl rfl rfl ?_
              refine Ops.rung rfl rfl rfl ?_
              refine Ops.mv_int rfl rfl rfl ?_
              refine Ops.rung rfl rfl rfl ?_
              -- stop: INDEXADDR 25 t80 t81 -> 82
              refine Ops.idx hR2.top.2 rfl rfl rfl (by omega) (by omega) ?_
              refine Ops.rung rfl rfl rfl ?_
              -- stop: LOAD 39 t82 -> 83
              refine Ops.ld_sl hR2.top rfl (by omega) rfl rfl ?_
              refine Ops.rung rfl rfl rfl ?_
              refine Ops.mv_int rfl rfl rfl ?_
              refine Ops.rung rfl rfl rfl ?_
              -- stop: INDEXADDR 39 t83 t84 -> 85
              refine Ops.idx hri2.2 rfl rfl rfl (by omega) (by omega) ?_
              refine Ops.rung rfl rfl rfl ?_
              -- stop: LOAD 2 t85 -> 86
              refine Ops.ld_int hri2 rfl (by omega) rfl rfl ?_
              refine Ops.rung rfl rfl rfl ?_
              refine Ops.mv_int rfl rfl rfl ?_
              refine Ops.rung rfl rfl rfl ?_
              refine Ops.neq rfl rfl rfl ?_
              refine Ops.rung rfl rfl rfl ?_
              refine Ops.pick_t rfl rfl rfl ?_
              refine Ops.pick_f rfl rfl rfl ?_
              refine Ops.mv_bool rfl rfl rfl ?_
              -- stop: guard 91
              refine Ops.split_p 91 rfl (fun hay => ?_) (fun hay => ?_)
              · refine Ops.skipg rfl rfl rfl rfl rfl ?_
                refine Ops.skipg rfl rfl rfl rfl rfl ?_
                refine Ops.skipg rfl rfl rfl rfl rfl ?_
                refine Ops.skipu rfl rfl rfl rfl ?_
                refine Ops.skipu rfl rfl rfl rfl ?_
                refine Ops.skipg rfl rfl rfl rfl rfl ?_
                refine Ops.skipg rfl rfl rfl rfl rfl ?_
                refine Ops.skipu rfl rfl rfl rfl ?_
                refine Ops.skipu rfl rfl rfl rfl ?_
                refine Ops.skipu rfl rfl rfl rfl ?_
                refine Ops.skipu rfl rfl rfl rfl ?_
                refine Ops.skipu rfl rfl rfl rfl ?_
                refine Ops.skipu rfl rfl rfl rfl ?_
                refine Ops.skipu rfl rfl rfl rfl ?_
                refine Ops.skipu rfl rfl rfl rfl ?_
                refine Ops.skipu rfl rfl rfl rfl ?_
                refine Ops.skipu rfl rfl rfl rfl ?_
                refine Ops.skipu rfl rfl rfl rfl ?_
                refine Ops.skipg rfl rfl rfl rfl rfl ?_
                refine Ops.skipg rfl rfl rfl rfl rfl ?_
                refine Ops.skipu rfl rfl rfl rfl ?_
                refine Ops.skipu rfl rfl rfl rfl ?_
                refine Ops.skipu rfl rfl rfl rfl ?_
                refine Ops.skipu rfl rfl rfl rfl ?_
                refine Ops.skipu rfl rfl rfl rfl ?_
                refine Ops.skipu rfl rfl rfl rfl ?_
                refine Ops.skipu rfl rfl rfl rfl ?_
                refine Ops.skipu rfl rfl rfl rfl ?_
                refine Ops.skipu rfl rfl rfl rfl ?_
                refine Ops.skipu rfl rfl rfl rfl ?_
                refine Ops.skipu rfl rfl rfl rfl ?_
                refine Ops.skipu rfl rfl rfl rfl ?_
                refine Ops.skipg rfl rfl rfl rfl rfl ?_
                refine Ops.pick_t rfl rfl rfl ?_
                refine Ops.nil ?_
                refine thenQ_n ?_
                -- stop: cond
                refine Cd.cond_t rfl ?_
                refine Cd.seq ?_
                refine Cd.region ?_
                refine Ops.mv_bool rfl rfl rfl ?_
                refine Ops.nil ?_
                refine thenQ_n ?_
                refine Cd.ret ?_
                refine blockQ_r ?_
                refine thenQ_r ?_
                refine thenQ_r ?_
                refine blockQ_r ?_
                refine thenQ_r ?_
                refine ret1_b rfl ?_
                -- stop: end
                exact ⟨by rw [bad (.inr (.inl ⟨hx, hy, ha0, hay⟩))], hS2⟩
              · skip
                refine Ops.rung rfl rfl rfl ?_
                refine Ops.mv_int rfl rfl rfl ?_
                refine Ops.rung rfl rfl rfl ?_
                refine Ops.geq rfl rfl rfl ?_
                refine Ops.rung rfl rfl rfl ?_
                refine Ops.mv_bool rfl rfl rfl ?_
                -- stop: guard 94
                refine Ops.split_p 94 rfl (fun _ => ?_) (fun h => absurd hx h) --t
                refine Ops.rung rfl rfl rfl ?_
                refine Ops.mv_int rfl rfl rfl ?_
                refine Ops.rung rfl rfl rfl ?_
                refine Ops.geq rfl rfl rfl ?_
                refine Ops.rung rfl rfl rfl ?_
                refine Ops.pick_t rfl rfl rfl ?_
                refine Ops.rung rfl rfl rfl ?_
                refine Ops.mv_bool rfl rfl rfl ?_
                -- stop: guard 98
                refine Ops.split_p 98 rfl (fun _ => ?_) (fun h => absurd hy h) --t
                refine Ops.rung rfl rfl rfl ?_
                refine Ops.mv_ptr rfl rfl rfl ?_
                refine Ops.rung rfl rfl rfl ?_
                -- stop: NILCHECK t99 -> 100
                refine Ops.nilp hB2 (by decide) rfl rfl ?_
                refine Ops.rung rfl rfl rfl ?_
                -- stop: FIELDADDR 82 t100 0 -> 101
                refine Ops.fld hB2 rfl rfl rfl rfl inferInstance ?_
                refine Ops.rung rfl rfl rfl ?_
                -- stop: LOAD 25 t101 -> 102
                refine Ops.ldf_s hB2 rfl rfl rfl rfl rfl ?_
                refine Ops.rung rfl rfl rfl ?_
                refine Ops.mv_int rfl rfl rfl ?_
                refine Ops.rung rfl rfl rfl ?_
                -- stop: INDEXADDR 25 t102 t103 -> 104
                refine Ops.idx hR2.top.2 rfl rfl rfl (by omega) (by omega) ?_
                refine Ops.rung rfl rfl rfl ?_
                -- stop: LOAD 39 t104 -> 105
                refine Ops.ld_sl hR2.top rfl (by omega) rfl rfl ?_
                refine Ops.rung rfl rfl rfl ?_
                refine Ops.mv_int rfl rfl rfl ?_
                refine Ops.rung rfl rfl rfl ?_
                -- stop: INDEXADDR 39 t105 t106 -> 107
                refine Ops.idx hri2.2 rfl rfl rfl (by omega) (by omega) ?_
                refine Ops.rung rfl rfl rfl ?_
                -- stop: LOAD 2 t107 -> 108
                refine Ops.ld_int hri2 rfl (by omega) rfl rfl ?_
                refine Ops.rung rfl rfl rfl ?_
                refine Ops.geq rfl rfl rfl ?_
                refine Ops.rung rfl rfl rfl ?_
                refine Ops.pick_t rfl rfl rfl ?_
                refine Ops.rung rfl rfl rfl ?_
                refine Ops.mv_bool rfl rfl rfl ?_
                -- stop: guard 111
                refine Ops.split_p 111 rfl (fun hb0 => ?_) (fun hb0 => ?_)
                · skip
                  refine Ops.rung rfl rfl rfl ?_
                  refine Ops.mv_ptr rfl rfl rfl ?_
                  refine Ops.rung rfl rfl rfl ?_
                  -- stop: NILCHECK t112 -> 113
                  refine Ops.nilp hB2 (by decide) rfl rfl ?_
                  refine Ops.rung rfl rfl rfl ?_
                  -- stop: FIELDADDR 82 t113 0 -> 114
                  refine Ops.fld hB2 rfl rfl rfl rfl inferInstance ?_
                  refine Ops.rung rfl rfl rfl ?_
                  -- stop: LOAD 25 t114 -> 115
                  refine Ops.ldf_s hB2 rfl rfl rfl rfl rfl ?_
                  refine Ops.rung rfl rfl rfl ?_
                  refine Ops.mv_int rfl rfl rfl ?_
                  refine Ops.rung rfl rfl rfl ?_
                  -- stop: INDEXADDR 25 t115 t116 -> 117
                  refine Ops.idx hR2.top.2 rfl rfl rfl (by omega) (by omega) ?_
                  refine Ops.rung rfl rfl rfl ?_
                  -- stop: LOAD 39 t117 -> 118
                  refine Ops.ld_sl hR2.top rfl (by omega) rfl rfl ?_
                  refine Ops.rung rfl rfl rfl ?_
                  refine Ops.mv_int rfl rfl rfl ?_
                  refine Ops.rung rfl rfl rfl ?_
                  -- stop: INDEXADDR 39 t118 t119 -> 120
                  refine Ops.idx hri2.2 rfl rfl rfl (by omega) (by omega) ?_
                  refine Ops.rung rfl rfl rfl ?_
                  -- stop: LOAD 2 t120 -> 121
                  refine Ops.ld_int hri2 rfl (by omega) rfl rfl ?_
                  refine Ops.rung rfl rfl rfl ?_
                  refine Ops.mv_int rfl rfl rfl ?_
                  refine Ops.rung rfl rfl rfl ?_
                  refine Ops.neq rfl rfl rfl ?_
                  refine Ops.rung rfl rfl rfl ?_
                  refine Ops.pick_t rfl rfl rfl ?_
                  refine Ops.pick_f rfl rfl rfl ?_
                  refine Ops.nil ?_
                  refine thenQ_n ?_
                  -- stop: cond
                  refine Cd.cond_p _ rfl (fun hbx => ?_) (fun hbx => ?_)
                  · refine Cd.seq ?_
                    refine Cd.region ?_
                    refine Ops.mv_bool rfl rfl rfl ?_
                    refine Ops.nil ?_
                    refine thenQ_n ?_
                    refine Cd.ret ?_
                    refine blockQ_r ?_
                    refine thenQ_r ?_
                    refine thenQ_r ?_
                    refine blockQ_r ?_
                    refine thenQ_r ?_
                    refine ret1_b rfl ?_
                    -- stop: end
                    exact ⟨by rw [bad (.inr (.inr ⟨hx, hy, hb0, hbx⟩))], hS2⟩
                  · refine Cd.skip ?_
                    refine blockQ_n ?_
                    refine thenQ_n ?_
                    refine Cd.region ?_
                    refine Ops.add rfl rfl rfl (by omega) ?_
                    refine Ops.mv_int rfl rfl rfl ?_
                    refine Ops.nil ?_
                    refine thenQ_n ?_
                    -- stop: round
                    exact ⟨k + 1, by omega, ⟨rfl, rfl, rfl, rfl, rfl, rfl, trivial⟩, hS2, by omega, more (fun _ hb => by
                      rcases hb with hb | ⟨b1, b2, b3, b4⟩ | ⟨b1, b2, b3, b4⟩
                      · exact hxg hb
                      · exact hay b4
                      · exact hbx b4)⟩
                · refine Ops.skipg rfl rfl rfl rfl rfl ?_
                  refine Ops.skipg rfl rfl rfl rfl rfl ?_
                  refine Ops.skipg rfl rfl rfl rfl rfl ?_
                  refine Ops.skipg rfl rfl rfl rfl rfl ?_
                  refine Ops.skipg rfl rfl rfl rfl rfl ?_
                  refine Ops.skipg rfl rfl rfl rfl rfl ?_
                  refine Ops.skipg rfl rfl rfl rfl rfl ?_
                  refine Ops.skipg rfl rfl rfl rfl rfl ?_
                  refine Ops.skipg rfl rfl rfl rfl rfl ?_
                  refine Ops.skipg rfl rfl rfl rfl rfl ?_
                  refine Ops.skipg rfl rfl rfl rfl rfl ?_
                  refine Ops.skipg rfl rfl rfl rfl rfl ?_
                  refine Ops.rung rfl rfl rfl ?_
                  refine Ops.pick_f rfl rfl rfl ?_
                  refine Ops.pick_f rfl rfl rfl ?_
                  refine Ops.nil ?_
                  refine thenQ_n ?_
                  -- stop: cond
                  refine Cd.cond_f rfl ?_
                  refine Cd.skip ?_
                  refine blockQ_n ?_
                  refine thenQ_n ?_
                  refine Cd.region ?_
                  refine Ops.add rfl rfl rfl (by omega) ?_
                  refine Ops.mv_int rfl rfl rfl ?_
                  refine Ops.nil ?_
                  refine thenQ_n ?_
                  -- stop: round
                  exact ⟨k + 1, by omega, ⟨rfl, rfl, rfl, rfl, rfl, rfl, trivial⟩, hS2, by omega, more (fun _ hb => by
                    rcases hb with hb | ⟨b1, b2, b3, b4⟩ | ⟨b1, b2, b3, b4⟩
                    · exact hxg hb
                    · exact hay b4
                    · exact hb0 b3)⟩
            · skip
              refine Ops.skipg rfl rfl rfl rfl rfl ?_
              refine Ops.skipg rfl rfl rfl rfl rfl ?_
              refine Ops.skipg rfl rfl rfl rfl rfl ?_
              refine Ops.skipg rfl rfl rfl rfl rfl ?_
              refine Ops.skipg rfl rfl rfl rfl rfl ?_
              refine Ops.skipg rfl rfl rfl rfl rfl ?_
              refine Ops.skipg rfl rfl rfl rfl rfl ?_
              refine Ops.skipg rfl rfl rfl rfl rfl ?_
              refine Ops.skipg rfl rfl rfl rfl rfl ?_
              refine Ops.skipg rfl rfl rfl rfl rfl ?_
              refine Ops.skipg rfl rfl rfl rfl rfl ?_
              refine Ops.skipg rfl rfl rfl rfl rfl ?_
              refine Ops.rung rfl rfl rfl ?_
              refine Ops.pick_f rfl rfl rfl ?_
              refine Ops.pick_f rfl rfl rfl ?_
              refine Ops.mv_bool rfl rfl rfl ?_
              refine Ops.rung rfl rfl rfl ?_
              refine Ops.mv_int rfl rfl rfl ?_
              refine Ops.rung rfl rfl rfl ?_
              refine Ops.geq rfl rfl rfl ?_
              refine Ops.rung rfl rfl rfl ?_
              refine Ops.mv_bool rfl rfl rfl ?_
              -- stop: guard 94
              refine Ops.split_p 94 rfl (fun _ => ?_) (fun h => absurd hx h) --t
              refine Ops.rung rfl rfl rfl ?_
              refine Ops.mv_int rfl rfl rfl ?_
              refine Ops.rung rfl rfl rfl ?_
              refine Ops.geq rfl rfl rfl ?_
              refine Ops.rung rfl rfl rfl ?_
              refine Ops.pick_t rfl rfl rfl ?_
              refine Ops.rung rfl rfl rfl ?_
              refine Ops.mv_bool rfl rfl rfl ?_
              -- stop: guard 98
              refine Ops.split_p 98 rfl (fun _ => ?_) (fun h => absurd hy h) --t
              refine Ops.rung rfl rfl rfl ?_
              refine Ops.mv_ptr rfl rfl rfl ?_
              refine Ops.rung rfl rfl rfl ?_
              -- stop: NILCHECK t99 -> 100
              refine Ops.nilp hB2 (by decide) rfl rfl ?_
              refine Ops.rung rfl rfl rfl ?_
              -- stop: FIELDADDR 82 t100 0 -> 101
              refine Ops.fld hB2 rfl rfl rfl rfl inferInstance ?_
              refine Ops.rung rfl rfl rfl ?_
              -- stop: LOAD 25 t101 -> 102
              refine Ops.ldf_s hB2 rfl rfl rfl rfl rfl ?_
              refine Ops.rung rfl rfl rfl ?_
              refine Ops.mv_int rfl rfl rfl ?_
              refine Ops.rung rfl rfl rfl ?_
              -- stop: INDEXADDR 25 t102 t103 -> 104
              refine Ops.idx hR2.top.2 rfl rfl rfl (by omega) (by omega) ?_
              refine Ops.rung rfl rfl rfl ?_
              -- stop: LOAD 39 t104 -> 105
              refine Ops.ld_sl hR2.top rfl (by omega) rfl rfl ?_
              refine Ops.rung rfl rfl rfl ?_
              refine Ops.mv_int rfl rfl rfl ?_
              refine Ops.rung rfl rfl rfl ?_
              -- stop: INDEXADDR 39 t105 t106 -> 107
              refine Ops.idx hri2.2 rfl rfl rfl (by omega) (by omega) ?_
              refine Ops.rung rfl rfl rfl ?_
              -- stop: LOAD 2 t107 -> 108
              refine Ops.ld_int hri2 rfl (by omega) rfl rfl ?_
              refine Ops.rung rfl rfl rfl ?_
              refine Ops.geq rfl rfl rfl ?_
              refine Ops.rung rfl rfl rfl ?_
              refine Ops.pick_t rfl rfl rfl ?_
              refine Ops.rung rfl rfl rfl ?_
              refine Ops.mv_bool rfl rfl rfl ?_
              -- stop: guard 111
              refine Ops.split_p 111 rfl (fun hb0 => ?_) (fun hb0 => ?_)
              · skip
                refine Ops.rung rfl rfl rfl ?_
                refine Ops.mv_ptr rfl rfl rfl ?_
                refine Ops.rung rfl rfl rfl ?_
                -- stop: NILCHECK t112 -> 113
                refine Ops.nilp hB2 (by decide) rfl rfl ?_
                refine Ops.rung rfl rfl rfl ?_
                -- stop: FIELDADDR 82 t113 0 -> 114
                refine Ops.fld hB2 rfl rfl rfl rfl inferInstance ?_
                refine Ops.rung rfl rfl rfl ?_
                -- stop: LOAD 25 t114 -> 115
                refine Ops.ldf_s hB2 rfl rfl rfl rfl rfl ?_
                refine Ops.rung rfl rfl rfl ?_
                refine Ops.mv_int rfl rfl rfl ?_
                refine Ops.rung rfl rfl rfl ?_
                -- stop: INDEXADDR 25 t115 t116 -> 117
                refine Ops.idx hR2.top.2 rfl rfl rfl (by omega) (by omega) ?_
                refine Ops.rung rfl rfl rfl ?_
                -- stop: LOAD 39 t117 -> 118
                refine Ops.ld_sl hR2.top rfl (by omega) rfl rfl ?_
                refine Ops.rung rfl rfl rfl ?_
                refine Ops.mv_int rfl rfl rfl ?_
                refine Ops.rung rfl rfl rfl ?_
                -- stop: INDEXADDR 39 t118 t119 -> 120
                refine Ops.idx hri2.2 rfl rfl rfl (by omega) (by omega) ?_
                refine Ops.rung rfl rfl rfl ?_
                -- stop: LOAD 2 t120 -> 121
                refine Ops.ld_int hri2 rfl (by omega) rfl rfl ?_
                refine Ops.rung rfl rfl rfl ?_
                refine Ops.mv_int rfl rfl rfl ?_
                refine Ops.rung rfl rfl rfl ?_
                refine Ops.neq rfl rfl rfl ?_
                refine Ops.rung rfl rfl rfl ?_
                refine Ops.pick_t rfl rfl rfl ?_
                refine Ops.pick_f rfl rfl rfl ?_
                refine Ops.nil ?_
                refine thenQ_n ?_
                -- stop: cond
                refine Cd.cond_p _ rfl (fun hbx => ?_) (fun hbx => ?_)
                · refine Cd.seq ?_
                  refine Cd.region ?_
                  refine Ops.mv_bool rfl rfl rfl ?_
                  refine Ops.nil ?_
                  refine thenQ_n ?_
                  refine Cd.ret ?_
                  refine blockQ_r ?_
                  refine thenQ_r ?_
                  refine thenQ_r ?_
                  refine blockQ_r ?_
                  refine thenQ_r ?_
                  refine ret1_b rfl ?_
                  -- stop: end
                  exact ⟨by rw [bad (.inr (.inr ⟨hx, hy, hb0, hbx⟩))], hS2⟩
                · refine Cd.skip ?_
                  refine blockQ_n ?_
                  refine thenQ_n ?_
                  refine Cd.region ?_
                  refine Ops.add rfl rfl rfl (by omega) ?_
                  refine Ops.mv_int rfl rfl rfl ?_
                  refine Ops.nil ?_
                  refine thenQ_n ?_
                  -- stop: round
                  exact ⟨k + 1, by omega, ⟨rfl, rfl, rfl, rfl, rfl, rfl, trivial⟩, hS2, by omega, more (fun _ hb => by
                    rcases hb with hb | ⟨b1, b2, b3, b4⟩ | ⟨b1, b2, b3, b4⟩
                    · exact hxg hb
                    · exact ha0 b3
                    · exact hbx b4)⟩
              · refine Ops.skipg rfl rfl rfl rfl rfl ?_
                refine Ops.skipg rfl rfl rfl rfl rfl ?_
                refine Ops.skipg rfl rfl rfl rfl rfl ?_
                refine Ops.skipg rfl rfl rfl rfl rfl ?_
                refine Ops.skipg rfl rfl rfl rfl rfl ?_
                refine Ops.skipg rfl rfl rfl rfl rfl ?_
                refine Ops.skipg rfl rfl rfl rfl rfl ?_
                refine Ops.skipg rfl rfl rfl rfl rfl ?_
                refine Ops.skipg rfl rfl rfl rfl rfl ?_
                refine Ops.skipg rfl rfl rfl rfl rfl ?_
                refine Ops.skipg rfl rfl rfl rfl rfl ?_
                refine Ops.skipg rfl rfl rfl rfl rfl ?_
                refine Ops.rung rfl rfl rfl ?_
                refine Ops.pick_f rfl rfl rfl ?_
                refine Ops.pick_f rfl rfl rfl ?_
                refine Ops.nil ?_
                refine thenQ_n ?_
                -- stop: cond
                refine Cd.cond_f rfl ?_
                refine Cd.skip ?_
                refine blockQ_n ?_
                refine thenQ_n ?_
                refine Cd.region ?_
                refine Ops.add rfl rfl rfl (by omega) ?_
                refine Ops.mv_int rfl rfl rfl ?_
                refine Ops.nil ?_
                refine thenQ_n ?_
                -- stop: round
                exact ⟨k + 1, by omega, ⟨rfl, rfl, rfl, rfl, rfl, rfl, trivial⟩, hS2, by omega, more (fun _ hb => by
                  rcases hb with hb | ⟨b1, b2, b3, b4⟩ | ⟨b1, b2, b3, b4⟩
                  · exact hxg hb
                  · exact ha0 b3
                  · exact hb0 b3)⟩
          · refine Ops.skipg rfl rfl rfl rfl rfl ?_
            refine Ops.skipg rfl rfl rfl rfl rfl ?_
            refine Ops.skipg rfl rfl rfl rfl rfl ?_
            refine Ops.skipg rfl rfl rfl rfl rfl ?_
            refine Ops.skipg rfl rfl rfl rfl rfl ?_
            refine Ops.skipg rfl rfl rfl rfl rfl ?_
            refine Ops.skipg rfl rfl rfl rfl rfl ?_
            refine Ops.skipg rfl rfl rfl rfl rfl ?_
            refine Ops.skipg rfl rfl rfl rfl rfl ?_
            refine Ops.skipg rfl rfl rfl rfl rfl ?_
            refine Ops.skipg rfl rfl rfl rfl rfl ?_
            refine Ops.rung rfl rfl rfl ?_
            refine Ops.pick_f rfl rfl rfl ?_
            refine Ops.rung rfl rfl rfl ?_
            refine Ops.mv_bool rfl rfl rfl ?_
            refine Ops.skipg rfl rfl rfl rfl rfl ?_
            refine Ops.skipg rfl rfl rfl rfl rfl ?_
            refine Ops.skipg rfl rfl rfl rfl rfl ?_
            refine Ops.skipg rfl rfl rfl rfl rfl ?_
            refine Ops.skipg rfl rfl rfl rfl rfl ?_
            refine Ops.skipg rfl rfl rfl rfl rfl ?_
            refine Ops.skipg rfl rfl rfl rfl rfl ?_
            refine Ops.skipg rfl rfl rfl rfl rfl ?_
            refine Ops.skipg rfl rfl rfl rfl rfl ?_
            refine Ops.skipg rfl rfl rfl rfl rfl ?_
            refine Ops.skipg rfl rfl rfl rfl rfl ?_
            refine Ops.skipg rfl rfl rfl rfl rfl ?_
            refine Ops.rung rfl rfl rfl ?_
            refine Ops.pick_f rfl rfl rfl ?_
            refine Ops.pick_f rfl rfl rfl ?_
            refine Ops.mv_bool rfl rfl rfl ?_
            refine Ops.rung rfl rfl rfl ?_
            refine Ops.mv_int rfl rfl rfl ?_
            refine Ops.rung rfl rfl rfl ?_
            refine Ops.geq rfl rfl rfl ?_
            refine Ops.rung rfl rfl rfl ?_
            refine Ops.mv_bool rfl rfl rfl ?_
            -- stop: guard 94
            refine Ops.split_p 94 rfl (fun _ => ?_) (fun h => absurd hx h) --t
            refine Ops.rung rfl rfl rfl ?_
            refine Ops.mv_int rfl rfl rfl ?_
            refine Ops.rung rfl rfl rfl ?_
            refine Ops.geq rfl rfl rfl ?_
            refine Ops.rung rfl rfl rfl ?_
            refine Ops.pick_t rfl rfl rfl ?_
            refine Ops.rung rfl rfl rfl ?_
            refine Ops.mv_bool rfl rfl rfl ?_
            -- stop: guard 98
            refine Ops.split_p 98 rfl (fun h => absurd h hy) (fun _ => ?_) --f
            refine Ops.skipg rfl rfl rfl rfl rfl ?_
            refine Ops.skipg rfl rfl rfl rfl rfl ?_
            refine Ops.skipg rfl rfl rfl rfl rfl ?_
            refine Ops.skipg rfl rfl rfl rfl rfl ?_
            refine Ops.skipg rfl rfl rfl rfl rfl ?_
            refine Ops.skipg rfl rfl rfl rfl rfl ?_
            refine Ops.skipg rfl rfl rfl rfl rfl ?_
            refine Ops.skipg rfl rfl rfl rfl rfl ?_
            refine Ops.skipg rfl rfl rfl rfl rfl ?_
            refine Ops.skipg rfl rfl rfl rfl rfl ?_
            refine Ops.skipg rfl rfl rfl rfl rfl ?_
            refine Ops.rung rfl rfl rfl ?_
            refine Ops.pick_f rfl rfl rfl ?_
            refine Ops.rung rfl rfl rfl ?_
            refine Ops.mv_bool rfl rfl rfl ?_
            refine Ops.skipg rfl rfl rfl rfl rfl ?_
            refine Ops.skipg rfl rfl rfl rfl rfl ?_
            refine Ops.skipg rfl rfl rfl rfl rfl ?_
            refine Ops.skipg rfl rfl rfl rfl rfl ?_
            refine Ops.skipg rfl rfl rfl rfl rfl ?_
            refine Ops.skipg rfl rfl rfl rfl rfl ?_
            refine Ops.skipg rfl rfl rfl rfl rfl ?_
            refine Ops.skipg rfl rfl rfl rfl rfl ?_
            refine Ops.skipg rfl rfl rfl rfl rfl ?_
            refine Ops.skipg rfl rfl rfl rfl rfl ?_
            refine Ops.skipg rfl rfl rfl rfl rfl ?_
            refine Ops.skipg rfl rfl rfl rfl rfl ?_
            refine Ops.rung rfl rfl rfl ?_
            refine Ops.pick_f rfl rfl rfl ?_
            refine Ops.pick_f rfl rfl rfl ?_
            refine Ops.nil ?_
            refine thenQ_n ?_
            -- stop: cond
            refine Cd.cond_f rfl ?_
            refine Cd.skip ?_
            refine blockQ_n ?_
            refine thenQ_n ?_
            refine Cd.region ?_
            refine Ops.add rfl rfl rfl (by omega) ?_
            refine Ops.mv_int rfl rfl rfl ?_
            refine Ops.nil ?_
            refine thenQ_n ?_
            -- stop: round
            exact ⟨k + 1, by omega, ⟨rfl, rfl, rfl, rfl, rfl, rfl, trivial⟩, hS2, by omega, more (fun _ hb => by
              rcases hb with hb | ⟨b1, b2, b3, b4⟩ | ⟨b1, b2, b3, b4⟩
              · exact hxg hb
              · exact hy b2
              · exact hy b2)⟩
        · refine Ops.skipg rfl rfl rfl rfl rfl ?_
          refine Ops.skipg rfl rfl rfl rfl rfl ?_
          refine Ops.rung rfl rfl rfl ?_
          refine Ops.pick_f rfl rfl rfl ?_
          refine Ops.rung rfl rfl rfl ?_
          refine Ops.mv_bool rfl rfl rfl ?_
          refine Ops.skipg rfl rfl rfl rfl rfl ?_
          refine Ops.skipg rfl rfl rfl rfl rfl ?_
          refine Ops.skipg rfl rfl rfl rfl rfl ?_
          refine Ops.skipg rfl rfl rfl rfl rfl ?_
          refine Ops.skipg rfl rfl rfl rfl rfl ?_
          refine Ops.skipg rfl rfl rfl rfl rfl ?_
          refine Ops.skipg rfl rfl rfl rfl rfl ?_
          refine Ops.skipg rfl rfl rfl rfl rfl ?_
          refine Ops.skipg rfl rfl rfl rfl rfl ?_
          refine Ops.skipg rfl rfl rfl rfl rfl ?_
          refine Ops.skipg rfl rfl rfl rfl rfl ?_
          refine Ops.rung rfl rfl rfl ?_
          refine Ops.pick_f rfl rfl rfl ?_
          refine Ops.rung rfl rfl rfl ?_
          refine Ops.mv_bool rfl rfl rfl ?_
          refine Ops.skipg rfl rfl rfl rfl rfl ?_
          refine Ops.skipg rfl rfl rfl rfl rfl ?_
          refine Ops.skipg rfl rfl rfl rfl rfl ?_
          refine Ops.skipg rfl rfl rfl rfl rfl ?_
          refine Ops.skipg rfl rfl rfl rfl rfl ?_
          refine Ops.skipg rfl rfl rfl rfl rfl ?_
          refine Ops.skipg rfl rfl rfl rfl rfl ?_
          refine Ops.skipg rfl rfl rfl rfl rfl ?_
          refine Ops.skipg rfl rfl rfl rfl rfl ?_
          refine Ops.skipg rfl rfl rfl rfl rfl ?_
          refine Ops.skipg rfl rfl rfl rfl rfl ?_
          refine Ops.skipg rfl rfl rfl rfl rfl ?_
          refine Ops.rung rfl rfl rfl ?_
          refine Ops.pick_f rfl rfl rfl ?_
          refine Ops.pick_f rfl rfl rfl ?_
          refine Ops.mv_bool rfl rfl rfl ?_
          refine Ops.rung rfl rfl rfl ?_
          refine Ops.mv_int rfl rfl rfl ?_
          refine Ops.rung rfl rfl rfl ?_
          refine Ops.geq rfl rfl rfl ?_
          refine Ops.rung rfl rfl rfl ?_
          refine Ops.mv_bool rfl rfl rfl ?_
          -- stop: guard 94
          refine Ops.split_p 94 rfl (fun h => absurd h hx) (fun _ => ?_) --f
          refine Ops.skipg rfl rfl rfl rfl rfl ?_
          refine Ops.skipg rfl rfl rfl rfl rfl ?_
          refine Ops.rung rfl rfl rfl ?_
          refine Ops.pick_f rfl rfl rfl ?_
          refine Ops.rung rfl rfl rfl ?_
          refine Ops.mv_bool rfl rfl rfl ?_
          refine Ops.skipg rfl rfl rfl rfl rfl ?_
          refine Ops.skipg rfl rfl rfl rfl rfl ?_
          refine Ops.skipg rfl rfl rfl rfl rfl ?_
          refine Ops.skipg rfl rfl rfl rfl rfl ?_
          refine Ops.skipg rfl rfl rfl rfl rfl ?_
          refine Ops.skipg rfl rfl rfl rfl rfl ?_
          refine Ops.skipg rfl rfl rfl rfl rfl ?_
          refine Ops.skipg rfl rfl rfl rfl rfl ?_
          refine Ops.skipg rfl rfl rfl rfl rfl ?_
          refine Ops.skipg rfl rfl rfl rfl rfl ?_
          refine Ops.skipg rfl rfl rfl rfl rfl ?_
          refine Ops.rung rfl rfl rfl ?_
          refine Ops.pick_f rfl rfl rfl ?_
          refine Ops.rung rfl rfl rfl ?_
          refine Ops.mv_bool rfl rfl rfl ?_
          refine Ops.skipg rfl rfl rfl rfl rfl ?_
          refine Ops.skipg rfl rfl rfl rfl rfl ?_
          refine Ops.skipg rfl rfl rfl rfl rfl ?_
          refine Ops.skipg rfl rfl rfl rfl rfl ?_
          refine Ops.skipg rfl rfl rfl rfl rfl ?_
          refine Ops.skipg rfl rfl rfl rfl rfl ?_
          refine Ops.skipg rfl rfl rfl rfl rfl ?_
          refine Ops.skipg rfl rfl rfl rfl rfl ?_
          refine Ops.skipg rfl rfl rfl rfl rfl ?_
          refine Ops.skipg rfl rfl rfl rfl rfl ?_
          refine Ops.skipg rfl rfl rfl rfl rfl ?_
          refine Ops.skipg rfl rfl rfl rfl rfl ?_
          refine Ops.rung rfl rfl rfl ?_
          refine Ops.pick_f rfl rfl rfl ?_
          refine Ops.pick_f rfl rfl rfl ?_
          refine Ops.nil ?_
          refine thenQ_n ?_
          -- stop: cond
          refine Cd.cond_f rfl ?_
          refine Cd.skip ?_
          refine blockQ_n ?_
          refine thenQ_n ?_
          refine Cd.region ?_
          refine Ops.add rfl rfl rfl (by omega) ?_
          refine Ops.mv_int rfl rfl rfl ?_
          refine Ops.nil ?_
          refine thenQ_n ?_
          -- stop: round
          exact ⟨k + 1, by omega, ⟨rfl, rfl, rfl, rfl, rfl, rfl, trivial⟩, hS2, by omega, more (fun _ hb => by
            rcases hb with hb | ⟨b1, b2, b3, b4⟩ | ⟨b1, b2, b3, b4⟩
            · exact hxg hb
            · exact hx b1
            · exact hx b1)⟩
  · refine Cd.exit ?_
    refine thenQ_x ?_
    refine thenQ_x ?_
    refine blockQ_x ?_
    refine thenQ_n ?_
    refine Cd.seq ?_
    refine Cd.region ?_
    refine Ops.mv_bool rfl rfl rfl ?_
    refine Ops.nil ?_
    refine thenQ_n ?_
    refine Cd.ret ?_
    refine ret1_b rfl ?_
    -- stop: end
    refine ⟨?_, hS1⟩
    rw [show okI M i f = true from decide_eq_true (fun k' hk' hik => hK k' (by omega) hik)]
end Go.Proofs.Ytpdhjnacnmfbjaa.Vc
