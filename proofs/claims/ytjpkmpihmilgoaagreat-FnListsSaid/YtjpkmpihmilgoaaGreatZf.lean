/-
  The texts G7, G8, G9 in one. Conditions: as each part states them.
-/
import Derived.Test.YtjpkmpihmilgoaaGreatZe
/-
  The walk of the program's test of a move. Conditions: as each states them.
-/
namespace Go.Proofs.YtjpkmpihmilgoaaGreat.Vc
open Go.RowKit

theorem fits_c (Ab A : Option Addr) (n c F : Nat) (rs : List SlV) (M : List (List Int)) (i f : Nat) (w : World) (hB : Rd w Ab 1 (fun _ => .slice A n c)) (hR : RowsI w A n rs M) (hs : Shp n F M) (hg : Rng n F M) (hn : n ≤ 1000) (hi : i < n) (hf : f < F) (hc : 0 ≤ cell M i f) :
    Ret Tryz.prog 139 [.pointer Ab, .int .i64 (i : Int), .int .i64 (f : Int)] w (fun v w' => v = .bool (okI M i f) ∧ St w w' []) := by
  have hlen := hs.1
  have hrow := hR.at_ (i := (i : Int)) (by omega) (by omega)
  have hrn := hR.shp hs (k := (i : Int)) (by omega) (by omega)
  have hgF := hg i f hi (by omega) (by omega)
  refine Ret.of_cd Tryz.func139 rfl Tryz.ntmps139 rfl (post1 rfl) ?_
  refine Cd.seq ?_
  refine Cd.region ?_
  refine Ops.mv_bool rfl rfl rfl ?_
  refine Ops.nil ?_
  refine thenQ_n ?_
  refine Cd.seq ?_
  refine Cd.region ?_
  refine Ops.mv_ptr rfl rfl rfl ?_
  refine Ops.nilp hB (by decide) rfl rfl ?_
  refine Ops.fld hB rfl rfl rfl rfl inferInstance ?_
  refine Ops.ldf_s hB rfl rfl rfl rfl rfl ?_
  refine Ops.mv_int rfl rfl rfl ?_
  refine Ops.idx hR.top.2 rfl rfl rfl (by omega) (by omega) ?_
  refine Ops.ld_sl hR.top rfl (by omega) rfl rfl ?_
  refine Ops.mv_int rfl rfl rfl ?_
  refine Ops.idx hrow.2 rfl rfl rfl (by omega) (by omega) ?_
  refine Ops.ld_int hrow rfl (by omega) rfl rfl ?_
  refine Ops.mv_int rfl rfl rfl ?_
  refine Ops.nil ?_
  refine thenQ_n ?_
  refine Cd.seq ?_
  refine Cd.seq ?_
  refine Cd.region ?_
  refine Ops.mv_ptr rfl rfl rfl ?_
  refine Ops.nilp hB (by decide) rfl rfl ?_
  refine Ops.fld hB rfl rfl rfl rfl inferInstance ?_
  refine Ops.ldf_s hB rfl rfl rfl rfl rfl ?_
  refine Ops.call (sizeR_c _ _ _ _) rfl rfl rfl ?_
  rintro _ w ⟨rfl, rfl⟩
  refine Ops.mv_int rfl rfl rfl ?_
  refine Ops.nil ?_
  refine thenQ_n ?_
  refine Cd.block ?_
  refine Cd.loop (α := Nat) (fun k => [(0, .pointer Ab), (1, .int .i64 (i : Int)), (2, .int .i64 (f : Int)), (7, .int .i64 (cell M i f)), (25, .int .i64 (n : Int)), (26, .int .i64 (k : Int))]) (fun k w' => St w w' [] ∧ k ≤ n ∧ ∀ k', k' < k → ¬ (-1 ≤ (k' : Int) - i ∧ (k' : Int) - i ≤ 1) → ¬ BadP M i k' f (cell M i f)) (fun k => n - k) 0 ⟨rfl, rfl, rfl, rfl, rfl, rfl, trivial⟩ ⟨St.refl w, Nat.zero_le _, fun k' h => by omega⟩ ?_
  rintro k e w1 ⟨hS1, hk, hK⟩
  have hB1 := hB.below hS1.below
  have hR1 := hS1.oldRows hR
  have more : ∀ (hb : ¬ (-1 ≤ (k : Int) - i ∧ (k : Int) - i ≤ 1) → ¬ BadP M i k f (cell M i f)), ∀ k', k' < k + 1 → ¬ (-1 ≤ (k' : Int) - i ∧ (k' : Int) - i ≤ 1) → ¬ BadP M i k' f (cell M i f) := fun hb k' hk' hik => by
    by_cases ek : k' = k
    · subst ek; exact hb hik
    · exact hK k' (by omega) hik
  refine Cd.seq ?_
  refine Cd.region ?_
  refine Ops.lss rfl rfl rfl ?_
  refine Ops.nil ?_
  refine thenQ_n ?_
  refine Cd.seq ?_
  refine Cd.cond_p _ rfl (fun h1 => ?_) (fun h1 => ?_)
  · refine Cd.skip ?_
    refine thenQ_n ?_
    refine Cd.seq ?_
    refine Cd.block ?_
    refine Cd.seq ?_
    refine Cd.region ?_
    refine Ops.mv_int rfl rfl rfl ?_
    refine Ops.mv_int rfl rfl rfl ?_
    refine Ops.nil ?_
    refine thenQ_n ?_
    refine Cd.seq ?_
    refine Cd.seq ?_
    refine Cd.region ?_
    refine Ops.mv_int rfl rfl rfl ?_
    refine Ops.mv_int rfl rfl rfl ?_
    refine Ops.sub rfl rfl rfl (by omega) ?_
    refine Ops.call (within_c _ _ _ _) rfl rfl rfl ?_
    rintro _ w1 ⟨rfl, rfl⟩
    refine Ops.nil ?_
    refine thenQ_n ?_
    refine Cd.cond_p _ rfl (fun h2 => ?_) (fun h2 => ?_)
    · refine Cd.exit ?_
      refine thenQ_x ?_
      refine blockQ_x ?_
      refine thenQ_n ?_
      refine Cd.region ?_
      refine Ops.add rfl rfl rfl (by omega) ?_
      refine Ops.mv_int rfl rfl rfl ?_
      refine Ops.nil ?_
      refine thenQ_n ?_
      exact ⟨k + 1, by omega, ⟨rfl, rfl, rfl, rfl, rfl, rfl, trivial⟩, hS1, by omega, more (fun h => absurd h2 h)⟩
    · have hrk := hR1.at_ (i := (k : Int)) (by omega) h1
      have hkn := hR1.shp hs (k := (k : Int)) (by omega) h1
      have hri := hR1.at_ (i := (i : Int)) (by omega) (by omega)
      have bad : BadP M i k f (cell M i f) → okI M i f = false := fun hb => decide_eq_false (fun h => h k (by omega) h2 hb)
      have hxF : gi (gl M (k : Nat)) (f : Nat) < (F : Int) := hg k f (by omega) (by omega) (by omega)
      have hyF : gi (gl M (k : Nat)) (cell M i f) < (F : Int) := hg k (cell M i f) (by omega) hc hgF
      refine Cd.skip ?_
      refine thenQ_n ?_
      refine Cd.seq ?_
      refine Cd.draw [.ex (.pointer (Ab)), .ex (.pointer (Ab)), .ex (.pointer (ptrAt (Ab) 0)), .ex (.slice (A) (n) (c)), .ex (.int .i64 ((k : Int))), .ex (.pointer (ptrAt (A) ((k : Int)).toNat)), .ex (.slice ((rg (rs) ((k : Int))).a) ((rg (rs) ((k : Int))).n) ((rg (rs) ((k : Int))).c)), .ex (.int .i64 ((f : Int))), .ex (.pointer (ptrAt ((rg (rs) ((k : Int))).a) ((f : Int)).toNat)), .ex (.int .i64 (gi (gl M k) ((f : Int)))), .ex (.pointer (Ab)), .ex (.pointer (Ab)), .ex (.pointer (ptrAt (Ab) 0)), .ex (.slice (A) (n) (c)), .ex (.int .i64 ((k : Int))), .ex (.pointer (ptrAt (A) ((k : Int)).toNat)), .ex (.slice ((rg (rs) ((k : Int))).a) ((rg (rs) ((k : Int))).n) ((rg (rs) ((k : Int))).c)), .ex (.int .i64 (cell M i f)), .ex (.pointer (ptrAt ((rg (rs) ((k : Int))).a) (cell M i f).toNat)), .ex (.int .i64 (gi (gl M k) (cell M i f))), .ex (.int .i64 (gi (gl M k) ((f : Int)))), .ex (.int .i64 (gi (gl M k) (cell M i f)))] (by kernel_rfl) (by kernel_rfl) rfl (List.forall_mem_cons.2 ⟨Yd.lasts_ex _, (List.forall_mem_cons.2 ⟨Yd.lasts_ex _, (List.forall_mem_cons.2 ⟨Yd.lasts_ex _, (List.forall_mem_cons.2 ⟨Yd.lasts_ex _, (List.forall_mem_cons.2 ⟨Yd.lasts_ex _, (List.forall_mem_cons.2 ⟨Yd.lasts_ex _, (List.forall_mem_cons.2 ⟨Yd.lasts_ex _, (List.forall_mem_cons.2 ⟨Yd.lasts_ex _, (List.forall_mem_cons.2 ⟨Yd.lasts_ex _, (List.forall_mem_cons.2 ⟨Yd.lasts_ex _, (List.forall_mem_cons.2 ⟨Yd.lasts_ex _, (List.forall_mem_cons.2 ⟨Yd.lasts_ex _, (List.forall_mem_cons.2 ⟨Yd.lasts_ex _, (List.forall_mem_cons.2 ⟨Yd.lasts_ex _, (List.forall_mem_cons.2 ⟨Yd.lasts_ex _, (List.forall_mem_cons.2 ⟨Yd.lasts_ex _, (List.forall_mem_cons.2 ⟨Yd.lasts_ex _, (List.forall_mem_cons.2 ⟨Yd.lasts_ex _, (List.forall_mem_cons.2 ⟨Yd.lasts_ex _, (List.forall_mem_cons.2 ⟨Yd.lasts_ex _, (List.forall_mem_cons.2 ⟨Yd.lasts_ex _, (List.forall_mem_cons.2 ⟨Yd.lasts_ex _, (fun _ h => by cases h)⟩)⟩)⟩)⟩)⟩)⟩)⟩)⟩)⟩)⟩)⟩)⟩)⟩)⟩)⟩)⟩)⟩)⟩)⟩)⟩)⟩)⟩) ⟨?_, ?_, ?_, ?_, ?_, ?_, ?_, ?_, ?_, ?_, ?_, ?_, ?_, ?_, ?_, ?_, ?_, ?_, ?_, ?_, ?_, ?_, trivial⟩ ?_
      · intro e1 w1 hb hp hun
        refine Ops.mv_ptr rfl rfl rfl ?_
        refine Ops.nil ?_
        exact After.dn (Below.refl _ _) (by exact rfl)
      · intro e1 w1 hb hp hun
        refine Ops.nilp (hB1.below hb) (Nat.succ_pos _) rfl rfl ?_
        refine Ops.nil ?_
        exact After.dn (Below.refl _ _) (by exact rfl)
      · intro e1 w1 hb hp hun
        refine Ops.fld (hB1.below hb) rfl rfl rfl rfl inferInstance ?_
        refine Ops.nil ?_
        exact After.dn (Below.refl _ _) (by exact rfl)
      · intro e1 w1 hb hp hun
        refine Ops.ldf_s (hB1.below hb) rfl rfl rfl rfl rfl ?_
        refine Ops.nil ?_
        exact After.dn (Below.refl _ _) (by exact rfl)
      · intro e1 w1 hb hp hun
        refine Ops.mv_int rfl rfl rfl ?_
        refine Ops.nil ?_
        exact After.dn (Below.refl _ _) (by exact rfl)
      · intro e1 w1 hb hp hun
        refine Ops.idx (hR1.top.later hb).2 rfl rfl rfl (by omega) (by omega) ?_
        refine Ops.nil ?_
        exact After.dn (Below.refl _ _) (by exact rfl)
      · intro e1 w1 hb hp hun
        refine Ops.ld_sl (hR1.top.later hb) rfl (by omega) rfl rfl ?_
        refine Ops.nil ?_
        exact After.dn (Below.refl _ _) (by exact rfl)
      · intro e1 w1 hb hp hun
        refine Ops.mv_int rfl rfl rfl ?_
        refine Ops.nil ?_
        exact After.dn (Below.refl _ _) (by exact rfl)
      · intro e1 w1 hb hp hun
        refine Ops.idx (hrk.later hb).2 rfl rfl rfl (by omega) (by omega) ?_
        refine Ops.nil ?_
        exact After.dn (Below.refl _ _) (by exact rfl)
      · intro e1 w1 hb hp hun
        refine Ops.ld_int (hrk.later hb) rfl (by omega) rfl rfl ?_
        refine Ops.nil ?_
        exact After.dn (Below.refl _ _) (by exact rfl)
      · intro e1 w1 hb hp hun
        refine Ops.mv_ptr rfl rfl rfl ?_
        refine Ops.nil ?_
        exact After.dn (Below.refl _ _) (by exact rfl)
      · intro e1 w1 hb hp hun
        refine Ops.nilp (hB1.below hb) (Nat.succ_pos _) rfl rfl ?_
        refine Ops.nil ?_
        exact After.dn (Below.refl _ _) (by exact rfl)
      · intro e1 w1 hb hp hun
        refine Ops.fld (hB1.below hb) rfl rfl rfl rfl inferInstance ?_
        refine Ops.nil ?_
        exact After.dn (Below.refl _ _) (by exact rfl)
      · intro e1 w1 hb hp hun
        refine Ops.ldf_s (hB1.below hb) rfl rfl rfl rfl rfl ?_
        refine Ops.nil ?_
        exact After.dn (Below.refl _ _) (by exact rfl)
      · intro e1 w1 hb hp hun
        refine Ops.mv_int rfl rfl rfl ?_
        refine Ops.nil ?_
        exact After.dn (Below.refl _ _) (by exact rfl)
      · intro e1 w1 hb hp hun
        refine Ops.idx (hR1.top.later hb).2 rfl rfl rfl (by omega) (by omega) ?_
        refine Ops.nil ?_
        exact After.dn (Below.refl _ _) (by exact rfl)
      · intro e1 w1 hb hp hun
        refine Ops.ld_sl (hR1.top.later hb) rfl (by omega) rfl rfl ?_
        refine Ops.nil ?_
        exact After.dn (Below.refl _ _) (by exact rfl)
      · intro e1 w1 hb hp hun
        refine Ops.mv_int rfl rfl rfl ?_
        refine Ops.nil ?_
        exact After.dn (Below.refl _ _) (by exact rfl)
      · intro e1 w1 hb hp hun
        refine Ops.idx (hrk.later hb).2 rfl rfl rfl (by omega) (by omega) ?_
        refine Ops.nil ?_
        exact After.dn (Below.refl _ _) (by exact rfl)
      · intro e1 w1 hb hp hun
        refine Ops.ld_int (hrk.later hb) rfl (by omega) rfl rfl ?_
        refine Ops.nil ?_
        exact After.dn (Below.refl _ _) (by exact rfl)
      · intro e1 w1 hb hp hun
        refine Ops.mv_int rfl rfl rfl ?_
        refine Ops.nil ?_
        exact After.dn (Below.refl _ _) (by exact rfl)
      · intro e1 w1 hb hp hun
        refine Ops.mv_int rfl rfl rfl ?_
        refine Ops.nil ?_
        exact After.dn (Below.refl _ _) (by exact rfl)
      intro u w2 hb2 _
      have hS2 := hS1.later hb2
      have hR2 := hS2.oldRows hR
      have hB2 := hB.below hS2.below
      have hri2 := hR2.at_ (i := (i : Int)) (by omega) (by omega)
      refine thenQ_n ?_
      refine Cd.seq ?_
      refine Cd.region ?_
      refine Ops.mv_int rfl rfl rfl ?_
      refine Ops.mv_int rfl rfl rfl ?_
      refine Ops.eql rfl rfl rfl ?_
      refine Ops.mv_bool rfl rfl rfl ?_
      refine Ops.split_p 56 rfl (fun hxg => ?_) (fun hxg => ?_)
      · refine Ops.skipg rfl rfl rfl rfl rfl ?_
        refine Ops.skipg rfl rfl rfl rfl rfl ?_
        refine Ops.skipg rfl rfl rfl rfl rfl ?_
        refine Ops.skipu rfl rfl rfl rfl ?_
        refine Ops.skipu rfl rfl rfl rfl ?_
        refine Ops.skipg rfl rfl rfl rfl rfl ?_
        refine Ops.skipg rfl rfl rfl rfl rfl ?_
        refine Ops.skipu rfl rfl rfl rfl ?_
        refine Ops.skipu rfl rfl rfl rfl ?_
        refine Ops.skipu rfl rfl rfl rfl ?_
        refine Ops.skipu rfl rfl rfl rfl ?_
        refine Ops.skipu rfl rfl rfl rfl ?_
        refine Ops.skipu rfl rfl rfl rfl ?_
        refine Ops.skipu rfl rfl rfl rfl ?_
        refine Ops.skipu rfl rfl rfl rfl ?_
        refine Ops.skipu rfl rfl rfl rfl ?_
        refine Ops.skipu rfl rfl rfl rfl ?_
        refine Ops.skipu rfl rfl rfl rfl ?_
        refine Ops.skipg rfl rfl rfl rfl rfl ?_
        refine Ops.skipg rfl rfl rfl rfl rfl ?_
        refine Ops.skipu rfl rfl rfl rfl ?_
        refine Ops.skipu rfl rfl rfl rfl ?_
        refine Ops.skipu rfl rfl rfl rfl ?_
        refine Ops.skipu rfl rfl rfl rfl ?_
        refine Ops.skipu rfl rfl rfl rfl ?_
        refine Ops.skipu rfl rfl rfl rfl ?_
        refine Ops.skipu rfl rfl rfl rfl ?_
        refine Ops.skipu rfl rfl rfl rfl ?_
        refine Ops.skipu rfl rfl rfl rfl ?_
        refine Ops.skipu rfl rfl rfl rfl ?_
        refine Ops.skipu rfl rfl rfl rfl ?_
        refine Ops.skipu rfl rfl rfl rfl ?_
        refine Ops.skipg rfl rfl rfl rfl rfl ?_
        refine Ops.pick_t rfl rfl rfl ?_
        refine Ops.mv_bool rfl rfl rfl ?_
        refine Ops.skipg rfl rfl rfl rfl rfl ?_
        refine Ops.skipg rfl rfl rfl rfl rfl ?_
        refine Ops.skipg rfl rfl rfl rfl rfl ?_
        refine Ops.skipu rfl rfl rfl rfl ?_
        refine Ops.skipu rfl rfl rfl rfl ?_
        refine Ops.skipg rfl rfl rfl rfl rfl ?_
        refine Ops.skipg rfl rfl rfl rfl rfl ?_
        refine Ops.skipu rfl rfl rfl rfl ?_
        refine Ops.skipu rfl rfl rfl rfl ?_
        refine Ops.skipu rfl rfl rfl rfl ?_
        refine Ops.skipu rfl rfl rfl rfl ?_
        refine Ops.skipu rfl rfl rfl rfl ?_
        refine Ops.skipu rfl rfl rfl rfl ?_
        refine Ops.skipu rfl rfl rfl rfl ?_
        refine Ops.skipu rfl rfl rfl rfl ?_
        refine Ops.skipu rfl rfl rfl rfl ?_
        refine Ops.skipu rfl rfl rfl rfl ?_
        refine Ops.skipu rfl rfl rfl rfl ?_
        refine Ops.skipg rfl rfl rfl rfl rfl ?_
        refine Ops.skipg rfl rfl rfl rfl rfl ?_
        refine Ops.skipu rfl rfl rfl rfl ?_
        refine Ops.skipu rfl rfl rfl rfl ?_
        refine Ops.skipu rfl rfl rfl rfl ?_
        refine Ops.skipu rfl rfl rfl rfl ?_
        refine Ops.skipu rfl rfl rfl rfl ?_
        refine Ops.skipu rfl rfl rfl rfl ?_
        refine Ops.skipu rfl rfl rfl rfl ?_
        refine Ops.skipu rfl rfl rfl rfl ?_
        refine Ops.skipu rfl rfl rfl rfl ?_
        refine Ops.skipu rfl rfl rfl rfl ?_
        refine Ops.skipu rfl rfl rfl rfl ?_
        refine Ops.skipu rfl rfl rfl rfl ?_
        refine Ops.skipg rfl rfl rfl rfl rfl ?_
        refine Ops.pick_t rfl rfl rfl ?_
        refine Ops.nil ?_
        refine thenQ_n ?_
        refine Cd.cond_t rfl ?_
        refine Cd.seq ?_
        refine Cd.region ?_
        refine Ops.mv_bool rfl rfl rfl ?_
        refine Ops.nil ?_
        refine thenQ_n ?_
        refine Cd.ret ?_
        refine blockQ_r ?_
        refine thenQ_r ?_
        refine thenQ_r ?_
        refine blockQ_r ?_
        refine thenQ_r ?_
        refine ret1_b rfl ?_
        exact ⟨by rw [bad (.inl hxg)], hS2⟩
      · refine Ops.rung rfl rfl rfl ?_
        refine Ops.mv_int rfl rfl rfl ?_
        refine Ops.rung rfl rfl rfl ?_
        refine Ops.geq rfl rfl rfl ?_
        refine Ops.rung rfl rfl rfl ?_
        refine Ops.mv_bool rfl rfl rfl ?_
        refine Ops.split_p 59 rfl (fun hx => ?_) (fun hx => ?_)
        · refine Ops.rung rfl rfl rfl ?_
          refine Ops.mv_int rfl rfl rfl ?_
          refine Ops.rung rfl rfl rfl ?_
          refine Ops.geq rfl rfl rfl ?_
          refine Ops.rung rfl rfl rfl ?_
          refine Ops.pick_t rfl rfl rfl ?_
          refine Ops.rung rfl rfl rfl ?_
          refine Ops.mv_bool rfl rfl rfl ?_
          refine Ops.split_p 63 rfl (fun hy => ?_) (fun hy => ?_)
          · skip
            refine Ops.rung rfl rfl rfl ?_
            refine Ops.mv_ptr rfl rfl rfl ?_
            refine Ops.rung rfl rfl rfl ?_
            refine Ops.nilp hB2 (by decide) rfl rfl ?_
            refine Ops.rung rfl rfl rfl ?_
            refine Ops.fld hB2 rfl rfl rfl rfl inferInstance ?_
            refine Ops.rung rfl rfl rfl ?_
            refine Ops.ldf_s hB2 rfl rfl rfl rfl rfl ?_
            refine Ops.rung rfl rfl rfl ?_
            refine Ops.mv_int rfl rfl rfl ?_
            refine Ops.rung rfl rfl rfl ?_
            refine Ops.idx hR2.top.2 rfl rfl rfl (by omega) (by omega) ?_
            refine Ops.rung rfl rfl rfl ?_
            refine Ops.ld_sl hR2.top rfl (by omega) rfl rfl ?_
            refine Ops.rung rfl rfl rfl ?_
            refine Ops.mv_int rfl rfl rfl ?_
            refine Ops.rung rfl rfl rfl ?_
            refine Ops.idx hri2.2 rfl rfl rfl (by omega) (by omega) ?_
            refine Ops.rung rfl rfl rfl ?_
            refine Ops.ld_int hri2 rfl (by omega) rfl rfl ?_
            refine Ops.rung rfl rfl rfl ?_
            refine Ops.geq rfl rfl rfl ?_
            refine Ops.rung rfl rfl rfl ?_
            refine Ops.pick_t rfl rfl rfl ?_
            refine Ops.rung rfl rfl rfl ?_
            refine Ops.mv_bool rfl rfl rfl ?_
            refine Ops.split_p 76 rfl (fun ha0 => ?_) (fun ha0 => ?_)
            · skip
              refine Ops.rung rfl rfl rfl ?_
              refine Ops.mv_ptr rfl rfl rfl ?_
              refine Ops.rung rfl rfl rfl ?_
              refine Ops.nilp hB2 (by decide) rfl rfl ?_
              refine Ops.rung rfl rfl rfl ?_
              refine Ops.fld hB2 rfl rfl rfl rfl inferInstance ?_
              refine Ops.rung rfl rfl rfl ?_
              refine Ops.ldf_s hB2 rfl rfl rfl rfl rfl ?_
              refine Ops.rung rfl rfl rfl ?_
              refine Ops.mv_int rfl rfl rfl ?_
              refine Ops.rung rfl rfl rfl ?_
              refine Ops.idx hR2.top.2 rfl rfl rfl (by omega) (by omega) ?_
              refine Ops.rung rfl rfl rfl ?_
              refine Ops.ld_sl hR2.top rfl (by omega) rfl rfl ?_
              refine Ops.rung rfl rfl rfl ?_
              refine Ops.mv_int rfl rfl rfl ?_
              refine Ops.rung rfl rfl rfl ?_
              refine Ops.idx hri2.2 rfl rfl rfl (by omega) (by omega) ?_
              refine Ops.rung rfl rfl rfl ?_
              refine Ops.ld_int hri2 rfl (by omega) rfl rfl ?_
              refine Ops.rung rfl rfl rfl ?_
              refine Ops.mv_int rfl rfl rfl ?_
              refine Ops.rung rfl rfl rfl ?_
              refine Ops.neq rfl rfl rfl ?_
              refine Ops.rung rfl rfl rfl ?_
              refine Ops.pick_t rfl rfl rfl ?_
              refine Ops.pick_f rfl rfl rfl ?_
              refine Ops.mv_bool rfl rfl rfl ?_
              refine Ops.split_p 91 rfl (fun hay => ?_) (fun hay => ?_)
              · refine Ops.skipg rfl rfl rfl rfl rfl ?_
                refine Ops.skipg rfl rfl rfl rfl rfl ?_
                refine Ops.skipg rfl rfl rfl rfl rfl ?_
                refine Ops.skipu rfl rfl rfl rfl ?_
                refine Ops.skipu rfl rfl rfl rfl ?_
                refine Ops.skipg rfl rfl rfl rfl rfl ?_
                refine Ops.skipg rfl rfl rfl rfl rfl ?_
                refine Ops.skipu rfl rfl rfl rfl ?_
                refine Ops.skipu rfl rfl rfl rfl ?_
                refine Ops.skipu rfl rfl rfl rfl ?_
                refine Ops.skipu rfl rfl rfl rfl ?_
                refine Ops.skipu rfl rfl rfl rfl ?_
                refine Ops.skipu rfl rfl rfl rfl ?_
                refine Ops.skipu rfl rfl rfl rfl ?_
                refine Ops.skipu rfl rfl rfl rfl ?_
                refine Ops.skipu rfl rfl rfl rfl ?_
                refine Ops.skipu rfl rfl rfl rfl ?_
                refine Ops.skipu rfl rfl rfl rfl ?_
                refine Ops.skipg rfl rfl rfl rfl rfl ?_
                refine Ops.skipg rfl rfl rfl rfl rfl ?_
                refine Ops.skipu rfl rfl rfl rfl ?_
                refine Ops.skipu rfl rfl rfl rfl ?_
                refine Ops.skipu rfl rfl rfl rfl ?_
                refine Ops.skipu rfl rfl rfl rfl ?_
                refine Ops.skipu rfl rfl rfl rfl ?_
                refine Ops.skipu rfl rfl rfl rfl ?_
                refine Ops.skipu rfl rfl rfl rfl ?_
                refine Ops.skipu rfl rfl rfl rfl ?_
                refine Ops.skipu rfl rfl rfl rfl ?_
                refine Ops.skipu rfl rfl rfl rfl ?_
                refine Ops.skipu rfl rfl rfl rfl ?_
                refine Ops.skipu rfl rfl rfl rfl ?_
                refine Ops.skipg rfl rfl rfl rfl rfl ?_
                refine Ops.pick_t rfl rfl rfl ?_
                refine Ops.nil ?_
                refine thenQ_n ?_
                refine Cd.cond_t rfl ?_
                refine Cd.seq ?_
                refine Cd.region ?_
                refine Ops.mv_bool rfl rfl rfl ?_
                refine Ops.nil ?_
                refine thenQ_n ?_
                refine Cd.ret ?_
                refine blockQ_r ?_
                refine thenQ_r ?_
                refine thenQ_r ?_
                refine blockQ_r ?_
                refine thenQ_r ?_
                refine ret1_b rfl ?_
                exact ⟨by rw [bad (.inr (.inl ⟨hx, hy, ha0, hay⟩))], hS2⟩
              · skip
                refine Ops.rung rfl rfl rfl ?_
                refine Ops.mv_int rfl rfl rfl ?_
                refine Ops.rung rfl rfl rfl ?_
                refine Ops.geq rfl rfl rfl ?_
                refine Ops.rung rfl rfl rfl ?_
                refine Ops.mv_bool rfl rfl rfl ?_
                refine Ops.split_p 94 rfl (fun _ => ?_) (fun h => absurd hx h) --t
                refine Ops.rung rfl rfl rfl ?_
                refine Ops.mv_int rfl rfl rfl ?_
                refine Ops.rung rfl rfl rfl ?_
                refine Ops.geq rfl rfl rfl ?_
                refine Ops.rung rfl rfl rfl ?_
                refine Ops.pick_t rfl rfl rfl ?_
                refine Ops.rung rfl rfl rfl ?_
                refine Ops.mv_bool rfl rfl rfl ?_
                refine Ops.split_p 98 rfl (fun _ => ?_) (fun h => absurd hy h) --t
                refine Ops.rung rfl rfl rfl ?_
                refine Ops.mv_ptr rfl rfl rfl ?_
                refine Ops.rung rfl rfl rfl ?_
                refine Ops.nilp hB2 (by decide) rfl rfl ?_
                refine Ops.rung rfl rfl rfl ?_
                refine Ops.fld hB2 rfl rfl rfl rfl inferInstance ?_
                refine Ops.rung rfl rfl rfl ?_
                refine Ops.ldf_s hB2 rfl rfl rfl rfl rfl ?_
                refine Ops.rung rfl rfl rfl ?_
                refine Ops.mv_int rfl rfl rfl ?_
                refine Ops.rung rfl rfl rfl ?_
                refine Ops.idx hR2.top.2 rfl rfl rfl (by omega) (by omega) ?_
                refine Ops.rung rfl rfl rfl ?_
                refine Ops.ld_sl hR2.top rfl (by omega) rfl rfl ?_
                refine Ops.rung rfl rfl rfl ?_
                refine Ops.mv_int rfl rfl rfl ?_
                refine Ops.rung rfl rfl rfl ?_
                refine Ops.idx hri2.2 rfl rfl rfl (by omega) (by omega) ?_
                refine Ops.rung rfl rfl rfl ?_
                refine Ops.ld_int hri2 rfl (by omega) rfl rfl ?_
                refine Ops.rung rfl rfl rfl ?_
                refine Ops.geq rfl rfl rfl ?_
                refine Ops.rung rfl rfl rfl ?_
                refine Ops.pick_t rfl rfl rfl ?_
                refine Ops.rung rfl rfl rfl ?_
                refine Ops.mv_bool rfl rfl rfl ?_
                refine Ops.split_p 111 rfl (fun hb0 => ?_) (fun hb0 => ?_)
                · skip
                  refine Ops.rung rfl rfl rfl ?_
                  refine Ops.mv_ptr rfl rfl rfl ?_
                  refine Ops.rung rfl rfl rfl ?_
                  refine Ops.nilp hB2 (by decide) rfl rfl ?_
                  refine Ops.rung rfl rfl rfl ?_
                  refine Ops.fld hB2 rfl rfl rfl rfl inferInstance ?_
                  refine Ops.rung rfl rfl rfl ?_
                  refine Ops.ldf_s hB2 rfl rfl rfl rfl rfl ?_
                  refine Ops.rung rfl rfl rfl ?_
                  refine Ops.mv_int rfl rfl rfl ?_
                  refine Ops.rung rfl rfl rfl ?_
                  refine Ops.idx hR2.top.2 rfl rfl rfl (by omega) (by omega) ?_
                  refine Ops.rung rfl rfl rfl ?_
                  refine Ops.ld_sl hR2.top rfl (by omega) rfl rfl ?_
                  refine Ops.rung rfl rfl rfl ?_
                  refine Ops.mv_int rfl rfl rfl ?_
                  refine Ops.rung rfl rfl rfl ?_
                  refine Ops.idx hri2.2 rfl rfl rfl (by omega) (by omega) ?_
                  refine Ops.rung rfl rfl rfl ?_
                  refine Ops.ld_int hri2 rfl (by omega) rfl rfl ?_
                  refine Ops.rung rfl rfl rfl ?_
                  refine Ops.mv_int rfl rfl rfl ?_
                  refine Ops.rung rfl rfl rfl ?_
                  refine Ops.neq rfl rfl rfl ?_
                  refine Ops.rung rfl rfl rfl ?_
                  refine Ops.pick_t rfl rfl rfl ?_
                  refine Ops.pick_f rfl rfl rfl ?_
                  refine Ops.nil ?_
                  refine thenQ_n ?_
                  refine Cd.cond_p _ rfl (fun hbx => ?_) (fun hbx => ?_)
                  · refine Cd.seq ?_
                    refine Cd.region ?_
                    refine Ops.mv_bool rfl rfl rfl ?_
                    refine Ops.nil ?_
                    refine thenQ_n ?_
                    refine Cd.ret ?_
                    refine blockQ_r ?_
                    refine thenQ_r ?_
                    refine thenQ_r ?_
                    refine blockQ_r ?_
                    refine thenQ_r ?_
                    refine ret1_b rfl ?_
                    exact ⟨by rw [bad (.inr (.inr ⟨hx, hy, hb0, hbx⟩))], hS2⟩
                  · refine Cd.skip ?_
                    refine blockQ_n ?_
                    refine thenQ_n ?_
                    refine Cd.region ?_
                    refine Ops.add rfl rfl rfl (by omega) ?_
                    refine Ops.mv_int rfl rfl rfl ?_
                    refine Ops.nil ?_
                    refine thenQ_n ?_
                    exact ⟨k + 1, by omega, ⟨rfl, rfl, rfl, rfl, rfl, rfl, trivial⟩, hS2, by omega, more (fun _ hb => by
                      rcases hb with hb | ⟨b1, b2, b3, b4⟩ | ⟨b1, b2, b3, b4⟩
                      · exact hxg hb
                      · exact hay b4
                      · exact hbx b4)⟩
                · refine Ops.skipg rfl rfl rfl rfl rfl ?_
                  refine Ops.skipg rfl rfl rfl rfl rfl ?_
                  refine Ops.skipg rfl rfl rfl rfl rfl ?_
                  refine Ops.skipg rfl rfl rfl rfl rfl ?_
                  refine Ops.skipg rfl rfl rfl rfl rfl ?_
                  refine Ops.skipg rfl rfl rfl rfl rfl ?_
                  refine Ops.skipg rfl rfl rfl rfl rfl ?_
                  refine Ops.skipg rfl rfl rfl rfl rfl ?_
                  refine Ops.skipg rfl rfl rfl rfl rfl ?_
                  refine Ops.skipg rfl rfl rfl rfl rfl ?_
                  refine Ops.skipg rfl rfl rfl rfl rfl ?_
                  refine Ops.skipg rfl rfl rfl rfl rfl ?_
                  refine Ops.rung rfl rfl rfl ?_
                  refine Ops.pick_f rfl rfl rfl ?_
                  refine Ops.pick_f rfl rfl rfl ?_
                  refine Ops.nil ?_
                  refine thenQ_n ?_
                  refine Cd.cond_f rfl ?_
                  refine Cd.skip ?_
                  refine blockQ_n ?_
                  refine thenQ_n ?_
                  refine Cd.region ?_
                  refine Ops.add rfl rfl rfl (by omega) ?_
                  refine Ops.mv_int rfl rfl rfl ?_
                  refine Ops.nil ?_
                  refine thenQ_n ?_
                  exact ⟨k + 1, by omega, ⟨rfl, rfl, rfl, rfl, rfl, rfl, trivial⟩, hS2, by omega, more (fun _ hb => by
                    rcases hb with hb | ⟨b1, b2, b3, b4⟩ | ⟨b1, b2, b3, b4⟩
                    · exact hxg hb
                    · exact hay b4
                    · exact hb0 b3)⟩
            · skip
              refine Ops.skipg rfl rfl rfl rfl rfl ?_
              refine Ops.skipg rfl rfl rfl rfl rfl ?_
              refine Ops.skipg rfl rfl rfl rfl rfl ?_
              refine Ops.skipg rfl rfl rfl rfl rfl ?_
              refine Ops.skipg rfl rfl rfl rfl rfl ?_
              refine Ops.skipg rfl rfl rfl rfl rfl ?_
              refine Ops.skipg rfl rfl rfl rfl rfl ?_
              refine Ops.skipg rfl rfl rfl rfl rfl ?_
              refine Ops.skipg rfl rfl rfl rfl rfl ?_
              refine Ops.skipg rfl rfl rfl rfl rfl ?_
              refine Ops.skipg rfl rfl rfl rfl rfl ?_
              refine Ops.skipg rfl rfl rfl rfl rfl ?_
              refine Ops.rung rfl rfl rfl ?_
              refine Ops.pick_f rfl rfl rfl ?_
              refine Ops.pick_f rfl rfl rfl ?_
              refine Ops.mv_bool rfl rfl rfl ?_
              refine Ops.rung rfl rfl rfl ?_
              refine Ops.mv_int rfl rfl rfl ?_
              refine Ops.rung rfl rfl rfl ?_
              refine Ops.geq rfl rfl rfl ?_
              refine Ops.rung rfl rfl rfl ?_
              refine Ops.mv_bool rfl rfl rfl ?_
              refine Ops.split_p 94 rfl (fun _ => ?_) (fun h => absurd hx h) --t
              refine Ops.rung rfl rfl rfl ?_
              refine Ops.mv_int rfl rfl rfl ?_
              refine Ops.rung rfl rfl rfl ?_
              refine Ops.geq rfl rfl rfl ?_
              refine Ops.rung rfl rfl rfl ?_
              refine Ops.pick_t rfl rfl rfl ?_
              refine Ops.rung rfl rfl rfl ?_
              refine Ops.mv_bool rfl rfl rfl ?_
              refine Ops.split_p 98 rfl (fun _ => ?_) (fun h => absurd hy h) --t
              refine Ops.rung rfl rfl rfl ?_
              refine Ops.mv_ptr rfl rfl rfl ?_
              refine Ops.rung rfl rfl rfl ?_
              refine Ops.nilp hB2 (by decide) rfl rfl ?_
              refine Ops.rung rfl rfl rfl ?_
              refine Ops.fld hB2 rfl rfl rfl rfl inferInstance ?_
              refine Ops.rung rfl rfl rfl ?_
              refine Ops.ldf_s hB2 rfl rfl rfl rfl rfl ?_
              refine Ops.rung rfl rfl rfl ?_
              refine Ops.mv_int rfl rfl rfl ?_
              refine Ops.rung rfl rfl rfl ?_
              refine Ops.idx hR2.top.2 rfl rfl rfl (by omega) (by omega) ?_
              refine Ops.rung rfl rfl rfl ?_
              refine Ops.ld_sl hR2.top rfl (by omega) rfl rfl ?_
              refine Ops.rung rfl rfl rfl ?_
              refine Ops.mv_int rfl rfl rfl ?_
              refine Ops.rung rfl rfl rfl ?_
              refine Ops.idx hri2.2 rfl rfl rfl (by omega) (by omega) ?_
              refine Ops.rung rfl rfl rfl ?_
              refine Ops.ld_int hri2 rfl (by omega) rfl rfl ?_
              refine Ops.rung rfl rfl rfl ?_
              refine Ops.geq rfl rfl rfl ?_
              refine Ops.rung rfl rfl rfl ?_
              refine Ops.pick_t rfl rfl rfl ?_
              refine Ops.rung rfl rfl rfl ?_
              refine Ops.mv_bool rfl rfl rfl ?_
              refine Ops.split_p 111 rfl (fun hb0 => ?_) (fun hb0 => ?_)
              · skip
                refine Ops.rung rfl rfl rfl ?_
                refine Ops.mv_ptr rfl rfl rfl ?_
                refine Ops.rung rfl rfl rfl ?_
                refine Ops.nilp hB2 (by decide) rfl rfl ?_
                refine Ops.rung rfl rfl rfl ?_
                refine Ops.fld hB2 rfl rfl rfl rfl inferInstance ?_
                refine Ops.rung rfl rfl rfl ?_
                refine Ops.ldf_s hB2 rfl rfl rfl rfl rfl ?_
                refine Ops.rung rfl rfl rfl ?_
                refine Ops.mv_int rfl rfl rfl ?_
                refine Ops.rung rfl rfl rfl ?_
                refine Ops.idx hR2.top.2 rfl rfl rfl (by omega) (by omega) ?_
                refine Ops.rung rfl rfl rfl ?_
                refine Ops.ld_sl hR2.top rfl (by omega) rfl rfl ?_
                refine Ops.rung rfl rfl rfl ?_
                refine Ops.mv_int rfl rfl rfl ?_
                refine Ops.rung rfl rfl rfl ?_
                refine Ops.idx hri2.2 rfl rfl rfl (by omega) (by omega) ?_
                refine Ops.rung rfl rfl rfl ?_
                refine Ops.ld_int hri2 rfl (by omega) rfl rfl ?_
                refine Ops.rung rfl rfl rfl ?_
                refine Ops.mv_int rfl rfl rfl ?_
                refine Ops.rung rfl rfl rfl ?_
                refine Ops.neq rfl rfl rfl ?_
                refine Ops.rung rfl rfl rfl ?_
                refine Ops.pick_t rfl rfl rfl ?_
                refine Ops.pick_f rfl rfl rfl ?_
                refine Ops.nil ?_
                refine thenQ_n ?_
                refine Cd.cond_p _ rfl (fun hbx => ?_) (fun hbx => ?_)
                · refine Cd.seq ?_
                  refine Cd.region ?_
                  refine Ops.mv_bool rfl rfl rfl ?_
                  refine Ops.nil ?_
                  refine thenQ_n ?_
                  refine Cd.ret ?_
                  refine blockQ_r ?_
                  refine thenQ_r ?_
                  refine thenQ_r ?_
                  refine blockQ_r ?_
                  refine thenQ_r ?_
                  refine ret1_b rfl ?_
                  exact ⟨by rw [bad (.inr (.inr ⟨hx, hy, hb0, hbx⟩))], hS2⟩
                · refine Cd.skip ?_
                  refine blockQ_n ?_
                  refine thenQ_n ?_
                  refine Cd.region ?_
                  refine Ops.add rfl rfl rfl (by omega) ?_
                  refine Ops.mv_int rfl rfl rfl ?_
                  refine Ops.nil ?_
                  refine thenQ_n ?_
                  exact ⟨k + 1, by omega, ⟨rfl, rfl, rfl, rfl, rfl, rfl, trivial⟩, hS2, by omega, more (fun _ hb => by
                    rcases hb with hb | ⟨b1, b2, b3, b4⟩ | ⟨b1, b2, b3, b4⟩
                    · exact hxg hb
                    · exact ha0 b3
                    · exact hbx b4)⟩
              · refine Ops.skipg rfl rfl rfl rfl rfl ?_
                refine Ops.skipg rfl rfl rfl rfl rfl ?_
                refine Ops.skipg rfl rfl rfl rfl rfl ?_
                refine Ops.skipg rfl rfl rfl rfl rfl ?_
                refine Ops.skipg rfl rfl rfl rfl rfl ?_
                refine Ops.skipg rfl rfl rfl rfl rfl ?_
                refine Ops.skipg rfl rfl rfl rfl rfl ?_
                refine Ops.skipg rfl rfl rfl rfl rfl ?_
                refine Ops.skipg rfl rfl rfl rfl rfl ?_
                refine Ops.skipg rfl rfl rfl rfl rfl ?_
                refine Ops.skipg rfl rfl rfl rfl rfl ?_
                refine Ops.skipg rfl rfl rfl rfl rfl ?_
                refine Ops.rung rfl rfl rfl ?_
                refine Ops.pick_f rfl rfl rfl ?_
                refine Ops.pick_f rfl rfl rfl ?_
                refine Ops.nil ?_
                refine thenQ_n ?_
                refine Cd.cond_f rfl ?_
                refine Cd.skip ?_
                refine blockQ_n ?_
                refine thenQ_n ?_
                refine Cd.region ?_
                refine Ops.add rfl rfl rfl (by omega) ?_
                refine Ops.mv_int rfl rfl rfl ?_
                refine Ops.nil ?_
                refine thenQ_n ?_
                exact ⟨k + 1, by omega, ⟨rfl, rfl, rfl, rfl, rfl, rfl, trivial⟩, hS2, by omega, more (fun _ hb => by
                  rcases hb with hb | ⟨b1, b2, b3, b4⟩ | ⟨b1, b2, b3, b4⟩
                  · exact hxg hb
                  · exact ha0 b3
                  · exact hb0 b3)⟩
          · refine Ops.skipg rfl rfl rfl rfl rfl ?_
            refine Ops.skipg rfl rfl rfl rfl rfl ?_
            refine Ops.skipg rfl rfl rfl rfl rfl ?_
            refine Ops.skipg rfl rfl rfl rfl rfl ?_
            refine Ops.skipg rfl rfl rfl rfl rfl ?_
            refine Ops.skipg rfl rfl rfl rfl rfl ?_
            refine Ops.skipg rfl rfl rfl rfl rfl ?_
            refine Ops.skipg rfl rfl rfl rfl rfl ?_
            refine Ops.skipg rfl rfl rfl rfl rfl ?_
            refine Ops.skipg rfl rfl rfl rfl rfl ?_
            refine Ops.skipg rfl rfl rfl rfl rfl ?_
            refine Ops.rung rfl rfl rfl ?_
            refine Ops.pick_f rfl rfl rfl ?_
            refine Ops.rung rfl rfl rfl ?_
            refine Ops.mv_bool rfl rfl rfl ?_
            refine Ops.skipg rfl rfl rfl rfl rfl ?_
            refine Ops.skipg rfl rfl rfl rfl rfl ?_
            refine Ops.skipg rfl rfl rfl rfl rfl ?_
            refine Ops.skipg rfl rfl rfl rfl rfl ?_
            refine Ops.skipg rfl rfl rfl rfl rfl ?_
            refine Ops.skipg rfl rfl rfl rfl rfl ?_
            refine Ops.skipg rfl rfl rfl rfl rfl ?_
            refine Ops.skipg rfl rfl rfl rfl rfl ?_
            refine Ops.skipg rfl rfl rfl rfl rfl ?_
            refine Ops.skipg rfl rfl rfl rfl rfl ?_
            refine Ops.skipg rfl rfl rfl rfl rfl ?_
            refine Ops.skipg rfl rfl rfl rfl rfl ?_
            refine Ops.rung rfl rfl rfl ?_
            refine Ops.pick_f rfl rfl rfl ?_
            refine Ops.pick_f rfl rfl rfl ?_
            refine Ops.mv_bool rfl rfl rfl ?_
            refine Ops.rung rfl rfl rfl ?_
            refine Ops.mv_int rfl rfl rfl ?_
            refine Ops.rung rfl rfl rfl ?_
            refine Ops.geq rfl rfl rfl ?_
            refine Ops.rung rfl rfl rfl ?_
            refine Ops.mv_bool rfl rfl rfl ?_
            refine Ops.split_p 94 rfl (fun _ => ?_) (fun h => absurd hx h) --t
            refine Ops.rung rfl rfl rfl ?_
            refine Ops.mv_int rfl rfl rfl ?_
            refine Ops.rung rfl rfl rfl ?_
            refine Ops.geq rfl rfl rfl ?_
            refine Ops.rung rfl rfl rfl ?_
            refine Ops.pick_t rfl rfl rfl ?_
            refine Ops.rung rfl rfl rfl ?_
            refine Ops.mv_bool rfl rfl rfl ?_
            refine Ops.split_p 98 rfl (fun h => absurd h hy) (fun _ => ?_) --f
            refine Ops.skipg rfl rfl rfl rfl rfl ?_
            refine Ops.skipg rfl rfl rfl rfl rfl ?_
            refine Ops.skipg rfl rfl rfl rfl rfl ?_
            refine Ops.skipg rfl rfl rfl rfl rfl ?_
            refine Ops.skipg rfl rfl rfl rfl rfl ?_
            refine Ops.skipg rfl rfl rfl rfl rfl ?_
            refine Ops.skipg rfl rfl rfl rfl rfl ?_
            refine Ops.skipg rfl rfl rfl rfl rfl ?_
            refine Ops.skipg rfl rfl rfl rfl rfl ?_
            refine Ops.skipg rfl rfl rfl rfl rfl ?_
            refine Ops.skipg rfl rfl rfl rfl rfl ?_
            refine Ops.rung rfl rfl rfl ?_
            refine Ops.pick_f rfl rfl rfl ?_
            refine Ops.rung rfl rfl rfl ?_
            refine Ops.mv_bool rfl rfl rfl ?_
            refine Ops.skipg rfl rfl rfl rfl rfl ?_
            refine Ops.skipg rfl rfl rfl rfl rfl ?_
            refine Ops.skipg rfl rfl rfl rfl rfl ?_
            refine Ops.skipg rfl rfl rfl rfl rfl ?_
            refine Ops.skipg rfl rfl rfl rfl rfl ?_
            refine Ops.skipg rfl rfl rfl rfl rfl ?_
            refine Ops.skipg rfl rfl rfl rfl rfl ?_
            refine Ops.skipg rfl rfl rfl rfl rfl ?_
            refine Ops.skipg rfl rfl rfl rfl rfl ?_
            refine Ops.skipg rfl rfl rfl rfl rfl ?_
            refine Ops.skipg rfl rfl rfl rfl rfl ?_
            refine Ops.skipg rfl rfl rfl rfl rfl ?_
            refine Ops.rung rfl rfl rfl ?_
            refine Ops.pick_f rfl rfl rfl ?_
            refine Ops.pick_f rfl rfl rfl ?_
            refine Ops.nil ?_
            refine thenQ_n ?_
            refine Cd.cond_f rfl ?_
            refine Cd.skip ?_
            refine blockQ_n ?_
            refine thenQ_n ?_
            refine Cd.region ?_
            refine Ops.add rfl rfl rfl (by omega) ?_
            refine Ops.mv_int rfl rfl rfl ?_
            refine Ops.nil ?_
            refine thenQ_n ?_
            exact ⟨k + 1, by omega, ⟨rfl, rfl, rfl, rfl, rfl, rfl, trivial⟩, hS2, by omega, more (fun _ hb => by
              rcases hb with hb | ⟨b1, b2, b3, b4⟩ | ⟨b1, b2, b3, b4⟩
              · exact hxg hb
              · exact hy b2
              · exact hy b2)⟩
        · refine Ops.skipg rfl rfl rfl rfl rfl ?_
          refine Ops.skipg rfl rfl rfl rfl rfl ?_
          refine Ops.rung rfl rfl rfl ?_
          refine Ops.pick_f rfl rfl rfl ?_
          refine Ops.rung rfl rfl rfl ?_
          refine Ops.mv_bool rfl rfl rfl ?_
          refine Ops.skipg rfl rfl rfl rfl rfl ?_
          refine Ops.skipg rfl rfl rfl rfl rfl ?_
          refine Ops.skipg rfl rfl rfl rfl rfl ?_
          refine Ops.skipg rfl rfl rfl rfl rfl ?_
          refine Ops.skipg rfl rfl rfl rfl rfl ?_
          refine Ops.skipg rfl rfl rfl rfl rfl ?_
          refine Ops.skipg rfl rfl rfl rfl rfl ?_
          refine Ops.skipg rfl rfl rfl rfl rfl ?_
          refine Ops.skipg rfl rfl rfl rfl rfl ?_
          refine Ops.skipg rfl rfl rfl rfl rfl ?_
          refine Ops.skipg rfl rfl rfl rfl rfl ?_
          refine Ops.rung rfl rfl rfl ?_
          refine Ops.pick_f rfl rfl rfl ?_
          refine Ops.rung rfl rfl rfl ?_
          refine Ops.mv_bool rfl rfl rfl ?_
          refine Ops.skipg rfl rfl rfl rfl rfl ?_
          refine Ops.skipg rfl rfl rfl rfl rfl ?_
          refine Ops.skipg rfl rfl rfl rfl rfl ?_
          refine Ops.skipg rfl rfl rfl rfl rfl ?_
          refine Ops.skipg rfl rfl rfl rfl rfl ?_
          refine Ops.skipg rfl rfl rfl rfl rfl ?_
          refine Ops.skipg rfl rfl rfl rfl rfl ?_
          refine Ops.skipg rfl rfl rfl rfl rfl ?_
          refine Ops.skipg rfl rfl rfl rfl rfl ?_
          refine Ops.skipg rfl rfl rfl rfl rfl ?_
          refine Ops.skipg rfl rfl rfl rfl rfl ?_
          refine Ops.skipg rfl rfl rfl rfl rfl ?_
          refine Ops.rung rfl rfl rfl ?_
          refine Ops.pick_f rfl rfl rfl ?_
          refine Ops.pick_f rfl rfl rfl ?_
          refine Ops.mv_bool rfl rfl rfl ?_
          refine Ops.rung rfl rfl rfl ?_
          refine Ops.mv_int rfl rfl rfl ?_
          refine Ops.rung rfl rfl rfl ?_
          refine Ops.geq rfl rfl rfl ?_
          refine Ops.rung rfl rfl rfl ?_
          refine Ops.mv_bool rfl rfl rfl ?_
          refine Ops.split_p 94 rfl (fun h => absurd h hx) (fun _ => ?_) --f
          refine Ops.skipg rfl rfl rfl rfl rfl ?_
          refine Ops.skipg rfl rfl rfl rfl rfl ?_
          refine Ops.rung rfl rfl rfl ?_
          refine Ops.pick_f rfl rfl rfl ?_
          refine Ops.rung rfl rfl rfl ?_
          refine Ops.mv_bool rfl rfl rfl ?_
          refine Ops.skipg rfl rfl rfl rfl rfl ?_
          refine Ops.skipg rfl rfl rfl rfl rfl ?_
          refine Ops.skipg rfl rfl rfl rfl rfl ?_
          refine Ops.skipg rfl rfl rfl rfl rfl ?_
          refine Ops.skipg rfl rfl rfl rfl rfl ?_
          refine Ops.skipg rfl rfl rfl rfl rfl ?_
          refine Ops.skipg rfl rfl rfl rfl rfl ?_
          refine Ops.skipg rfl rfl rfl rfl rfl ?_
          refine Ops.skipg rfl rfl rfl rfl rfl ?_
          refine Ops.skipg rfl rfl rfl rfl rfl ?_
          refine Ops.skipg rfl rfl rfl rfl rfl ?_
          refine Ops.rung rfl rfl rfl ?_
          refine Ops.pick_f rfl rfl rfl ?_
          refine Ops.rung rfl rfl rfl ?_
          refine Ops.mv_bool rfl rfl rfl ?_
          refine Ops.skipg rfl rfl rfl rfl rfl ?_
          refine Ops.skipg rfl rfl rfl rfl rfl ?_
          refine Ops.skipg rfl rfl rfl rfl rfl ?_
          refine Ops.skipg rfl rfl rfl rfl rfl ?_
          refine Ops.skipg rfl rfl rfl rfl rfl ?_
          refine Ops.skipg rfl rfl rfl rfl rfl ?_
          refine Ops.skipg rfl rfl rfl rfl rfl ?_
          refine Ops.skipg rfl rfl rfl rfl rfl ?_
          refine Ops.skipg rfl rfl rfl rfl rfl ?_
          refine Ops.skipg rfl rfl rfl rfl rfl ?_
          refine Ops.skipg rfl rfl rfl rfl rfl ?_
          refine Ops.skipg rfl rfl rfl rfl rfl ?_
          refine Ops.rung rfl rfl rfl ?_
          refine Ops.pick_f rfl rfl rfl ?_
          refine Ops.pick_f rfl rfl rfl ?_
          refine Ops.nil ?_
          refine thenQ_n ?_
          refine Cd.cond_f rfl ?_
          refine Cd.skip ?_
          refine blockQ_n ?_
          refine thenQ_n ?_
          refine Cd.region ?_
          refine Ops.add rfl rfl rfl (by omega) ?_
          refine Ops.mv_int rfl rfl rfl ?_
          refine Ops.nil ?_
          refine thenQ_n ?_
          exact ⟨k + 1, by omega, ⟨rfl, rfl, rfl, rfl, rfl, rfl, trivial⟩, hS2, by omega, more (fun _ hb => by
            rcases hb with hb | ⟨b1, b2, b3, b4⟩ | ⟨b1, b2, b3, b4⟩
            · exact hxg hb
            · exact hx b1
            · exact hx b1)⟩
  · refine Cd.exit ?_
    refine thenQ_x ?_
    refine thenQ_x ?_
    refine blockQ_x ?_
    refine thenQ_n ?_
    refine Cd.seq ?_
    refine Cd.region ?_
    refine Ops.mv_bool rfl rfl rfl ?_
    refine Ops.nil ?_
    refine thenQ_n ?_
    refine Cd.ret ?_
    refine ret1_b rfl ?_
    refine ⟨?_, hS1⟩
    rw [show okI M i f = true from decide_eq_true (fun k' hk' hik => hK k' (by omega) hik)]
end Go.Proofs.YtjpkmpihmilgoaaGreat.Vc
/-
  The walk of the program's search for rooted forms. Conditions: as each states them.
-/
namespace Go.Proofs.YtjpkmpihmilgoaaGreat.Vc
open Go.RowKit

theorem Rd.first {w : World} {A : Option Addr} {n : Nat} {f : Nat → Value} (h : Rd w A (n + 1) f) : Rd w A 1 (fun _ => f 0) := fun j hj => by
  obtain rfl : j = 0 := by omega
  exact h 0 (by omega)

theorem set_same {α : Type} {l : List α} {i : Nat} {x : α} (h : l[i]? = some x) : l.set i x = l := by
  apply List.ext_getElem?
  intro j
  rw [List.getElem?_set]
  split
  · rename_i e; subst e
    rw [if_pos (List.getElem?_eq_some_iff.1 h).1, h]
  · rfl
/-- what is put is taken back -/
theorem put_undo {n F : Nat} {M : List (List Int)} (h : Shp n F M) {r q g : Nat} (hr : r < n) (hq : q < F) (hg : g < F) (hqg : q ≠ g) (h1 : cell M r q = -1) (h2 : cell M r g = -1) : setc (setc (put M r q g) r q (-1)) r g (-1) = M := by
  have hl := h.1
  have hrow := h.row hr
  have e : ∀ (p : List Int), gl (M.set r p) r = p := fun p => by rw [gl_set (by omega), if_pos rfl]
  have g1 : (gl M (r : Nat))[q]? = some (-1) := by rw [List.getElem?_eq_getElem (by omega), ← gi_mem (by omega)]; exact congrArg some h1
  have g2 : (gl M (r : Nat))[g]? = some (-1) := by rw [List.getElem?_eq_getElem (by omega), ← gi_mem (by omega)]; exact congrArg some h2
  unfold put setc
  simp only [e, List.set_set]
  have e2 : ((((gl M (r : Nat)).set q (g : Int)).set g (q : Int)).set q (-1)).set g (-1) = gl M (r : Nat) := by
    apply List.ext_getElem?
    intro j
    simp only [List.getElem?_set, List.length_set]
    by_cases ej : g = j
    · subst ej; rw [if_pos rfl, if_pos (by omega), g2]
    · rw [if_neg ej]
      by_cases ej2 : q = j
      · subst ej2; rw [if_pos rfl, if_pos (by omega), g1]
      · rw [if_neg ej2, if_neg ej, if_neg ej2]
  rw [e2]
  exact set_same (by rw [List.getElem?_eq_getElem (by omega), gl_mem (by omega)])

theorem perm_lr {α : Type} (a b c : List α) : (a ++ (b ++ c)).Perm (b ++ (a ++ c)) := by
  rw [← List.append_assoc, ← List.append_assoc]
  exact List.Perm.append_right _ List.perm_append_comm
/-- what the builder owns -/
def bdK (Ab : Option Addr) (A : Option Addr) (n c F used : Nat) (Al : Option Addr) (nl cl : Nat) (outs : List SlV) (rs : List SlV) (M : List (List Int)) (ks : List Ck) : List Ck :=
  Bx 113 4 Ab [.slice A n c, .int .i64 (F : Int), .int .i64 (used : Int), .slice Al nl cl] :: CkR 32 Al nl cl outs :: (mat 34 2 A n c rs M ++ ks)

theorem build_c (n F : Nat) (hn5 : n ≤ 5) (hF : 2 ≤ F ∧ F ≤ 400) (Ab A : Option Addr) (c : Nat) (rs : List SlV) : ∀ (fuel at_ met : Nat) (M : List (List Int)), Inv n F M met at_ → F * n + 1 ≤ fuel + at_ → ∀ (w0 w : World) (ks : List Ck) (Al : Option Addr) (nl cl : Nat) (outs : List SlV) (f i : Nat), at_ = f * n + i → i ≤ n →
    St w0 w (bdK Ab A n c F met Al nl cl outs rs M ks) → nl + (grow n F okI (fun L => decide (Mani L)) fuel at_ met M).length ≤ 4000000000000 →
    Ret Tryz.prog 99 [.pointer Ab, .int .i64 (f : Int), .int .i64 (i : Int)] w (fun v w' => ∃ A' c', ∃ new : List MatV, v = .tuple #[] ∧ (∀ m ∈ new, m.ok) ∧ new.map (·.xss) = grow n F okI (fun L => decide (Mani L)) fuel at_ met M ∧
      St w0 w' (bdK Ab A n c F met A' (nl + new.length) c' (outs ++ new.map (·.top)) rs M (matsCk 34 2 new ++ ks))) := by
  intro fuel
  induction fuel using Nat.strongRecOn with
  | _ fuel ih =>
  intro at_ met M hI hfuel w0 w ks Al nl cl outs f i hat hi hS hB
  have hn0 := hI.n0
  have hmet := hI.metF
  have hlen := hI.shp.1
  have hle := hI.le
  unfold bdK at hS
  refine Ret.of_cd Tryz.func99 rfl Tryz.ntmps99 rfl (post0 rfl) ?_
  skip
  refine Cd.join (α := Nat × Nat) (fun z => [(0, .pointer Ab), (1, .int .i64 (z.1 : Int)), (2, .int .i64 (z.2 : Int))]) (fun z w' => w' = w ∧ at_ = z.1 * n + z.2 ∧ z.2 < n) ?_ ?_
  · refine Cd.seq ?_
    refine Cd.region ?_
    refine Ops.mv_int rfl rfl rfl ?_
    refine Ops.mv_ptr rfl rfl rfl ?_
    refine Ops.nilp (hS.rd 0 rfl) (Nat.succ_pos _) rfl rfl ?_
    refine Ops.fld (hS.rd 0 rfl) rfl rfl rfl rfl inferInstance ?_
    refine Ops.ldf_s (hS.rd 0 rfl) rfl rfl rfl rfl rfl ?_
    refine Ops.call (sizeR_c _ _ _ _) rfl rfl rfl ?_
    rintro _ w ⟨rfl, rfl⟩
    refine Ops.eql rfl rfl rfl ?_
    refine Ops.nil ?_
    refine thenQ_n ?_
    have hfF : f * n ≤ 2000 := by
      have h1 : met * n ≤ F * n := Nat.mul_le_mul_right n hmet
      have h2 : F * n ≤ F * 5 := Nat.mul_le_mul_left F hn5
      omega
    have hfn : f ≤ f * n := Nat.le_mul_of_pos_right f hn0
    refine Cd.cond_p _ rfl (fun h1 => ?_) (fun h1 => ?_)
    · refine Cd.region ?_
      refine Ops.mv_int rfl rfl rfl ?_
      refine Ops.add rfl rfl rfl (by omega) ?_
      refine Ops.mv_int rfl rfl rfl ?_
      refine Ops.mv_int rfl rfl rfl ?_
      refine Ops.nil ?_
      refine thenQ_n ?_
      exact ⟨(f + 1, 0), ⟨rfl, rfl, rfl, trivial⟩, rfl, by show at_ = (f + 1) * n + 0; rw [Nat.succ_mul]; omega, hn0⟩
    · refine Cd.skip ?_
      refine thenQ_n ?_
      exact ⟨(f, i), ⟨rfl, rfl, rfl, trivial⟩, rfl, hat, by show i < n; omega⟩
  rintro ⟨q, r⟩ e w ⟨rfl, haq, hrn⟩
  dsimp only at haq hrn ⊢
  have hr : at_ % n = r := by rw [haq, Nat.add_comm, Nat.add_mul_mod_self_right, Nat.mod_eq_of_lt hrn]
  have hq : at_ / n = q := by rw [haq, Nat.add_comm, Nat.add_mul_div_right _ _ hn0, Nat.div_eq_of_lt hrn, Nat.zero_add]
  clear hat hi
  refine Cd.seq ?_
  refine Cd.seq ?_
  refine Cd.region ?_
  refine Ops.mv_int rfl rfl rfl ?_
  refine Ops.mv_ptr rfl rfl rfl ?_
  refine Ops.nilp (hS.rd 0 rfl) (Nat.succ_pos _) rfl rfl ?_
  refine Ops.fld (hS.rd 0 rfl) rfl rfl rfl rfl inferInstance ?_
  refine Ops.ldf_i (hS.rd 0 rfl) rfl rfl rfl rfl rfl ?_
  refine Ops.eql rfl rfl rfl ?_
  refine Ops.mv_bool rfl rfl rfl ?_
  refine Ops.split_p 24 rfl (fun h1 => ?_) (fun h1 => ?_)
  · have hr0 : r = 0 := by
      have : q = met := by omega
      subst this
      omega
    have hqm : q = met := by omega
    subst hqm
    subst hr0
    obtain ⟨f', rfl⟩ : ∃ f', fuel = f' + 1 := ⟨fuel - 1, by have : q * n ≤ F * n := Nat.mul_le_mul_right n hmet; omega⟩
    have hgr : grow n F okI (fun L => decide (Mani L)) (f' + 1) at_ q M = if q = F ∧ (fun (L : List (List Int)) => decide (Mani L)) M = true then [M] else [] := by
      show (if _ then _ else _) = _
      rw [if_pos (by omega)]
    rw [hgr] at hB ⊢
    refine Ops.skipg rfl rfl rfl rfl rfl ?_
    refine Ops.skipg rfl rfl rfl rfl rfl ?_
    refine Ops.skipg rfl rfl rfl rfl rfl ?_
    refine Ops.skipg rfl rfl rfl rfl rfl ?_
    refine Ops.skipg rfl rfl rfl rfl rfl ?_
    refine Ops.skipg rfl rfl rfl rfl rfl ?_
    refine Ops.pick_t rfl rfl rfl ?_
    refine Ops.nil ?_
    refine thenQ_n ?_
    refine Cd.cond_t rfl ?_
    refine Cd.seq ?_
    refine Cd.seq ?_
    refine Cd.region ?_
    refine Ops.mv_ptr rfl rfl rfl ?_
    refine Ops.nilp (hS.rd 0 rfl) (Nat.succ_pos _) rfl rfl ?_
    refine Ops.fld (hS.rd 0 rfl) rfl rfl rfl rfl inferInstance ?_
    refine Ops.ldf_s (hS.rd 0 rfl) rfl rfl rfl rfl rfl ?_
    refine Ops.bld1 (by exact inferInstance) (by exact rfl) rfl rfl rfl ?_
    refine Ops.new1 hS rfl ?_
    intro A6 w6 hS6
    refine Ops.st_agg 1 0 hS6 rfl rfl rfl rfl rfl rfl rfl ?_
    intro w7 hS7
    have hS7 : St w0 w7 (Bx 32 1 A6 [.slice A n c] :: Bx 113 4 Ab [.slice A n c, .int .i64 (F : Int), .int .i64 (q : Int), .slice Al nl cl] :: CkR 32 Al nl cl outs :: (mat 34 2 A n c rs M ++ ks)) := hS7
    refine Ops.nil ?_
    refine thenQ_n ?_
    refine Cd.seq ?_
    refine Cd.region ?_
    refine Ops.mv_int rfl rfl rfl ?_
    refine Ops.mv_ptr rfl rfl rfl ?_
    refine Ops.nilp (hS7.rd 1 rfl) (Nat.succ_pos _) rfl rfl ?_
    refine Ops.fld (hS7.rd 1 rfl) rfl rfl rfl rfl inferInstance ?_
    refine Ops.ldf_i (hS7.rd 1 rfl) rfl rfl rfl rfl rfl ?_
    refine Ops.eql rfl rfl rfl ?_
    refine Ops.mv_bool rfl rfl rfl ?_
    refine Ops.split_p 43 rfl (fun h2 => ?_) (fun h2 => ?_)
    · have hcap := hS7.cap 3 rfl
      have hM7 : ∀ {w'}, St w0 w' (Bx 32 1 A6 [.slice A n c] :: Bx 113 4 Ab [.slice A n c, .int .i64 (F : Int), .int .i64 (q : Int), .slice Al nl cl] :: CkR 32 Al nl cl outs :: (mat 34 2 A n c rs M ++ ks)) → RowsI w' A n rs M := fun h => h.tail.tail.tail.rowsI hlen
      refine Ops.rung rfl rfl rfl ?_
      refine Ops.ld_agg 0 (hS7.rd 0 rfl) rfl rfl rfl ?_
      refine Ops.rung rfl rfl rfl ?_
      refine Ops.call (isManiplex_c A n c rs M _ (hM7 hS7) hcap.1 hcap.2) rfl rfl rfl ?_
      rintro _ w8 ⟨rfl, hst⟩
      have hS8 := hS7.later hst.below
      refine Ops.pick_t rfl rfl rfl ?_
      refine Ops.nil ?_
      refine thenQ_n ?_
      have hqF : q = F := by omega
      have hB6 := hS8.rd 0 rfl
      have hBb := hS8.rd 1 rfl
      refine Cd.cond_p _ rfl (fun h3 => ?_) (fun h3 => ?_)
      · rw [if_pos ⟨hqF, decide_eq_true h3⟩] at hB ⊢
        simp only [List.length_singleton] at hB
        skip
        refine Cd.drawN [8, 11] [.ex (.pointer (Ab)), .ex (.pointer (Ab)), .ex (.pointer (Ab)), .ex (.pointer (ptrAt (Ab) 3)), .ex (.slice (Al) (nl) (cl)), .ex (.agg #[.slice (A) (n) (c)]), .pr (fun v w' => ∃ A7 c7 rs7, v = .agg #[.slice A7 n c7] ∧ rs7.length = n ∧ St w0 w' ((Bx 32 1 A6 [.slice A n c] :: Bx 113 4 Ab [.slice A n c, .int .i64 (F : Int), .int .i64 (q : Int), .slice Al nl cl] :: CkR 32 Al nl cl outs :: (mat 34 2 A n c rs M ++ ks)) ++ mat 34 2 A7 n c7 rs7 M)), .pr (fun v w' => ∃ A7 c7 rs7 A9, v = .slice A9 1 1 ∧ rs7.length = n ∧ St w0 w' (CkR 32 A9 1 1 [⟨A7, n, c7⟩] :: ((Bx 32 1 A6 [.slice A n c] :: Bx 113 4 Ab [.slice A n c, .int .i64 (F : Int), .int .i64 (q : Int), .slice Al nl cl] :: CkR 32 Al nl cl outs :: (mat 34 2 A n c rs M ++ ks)) ++ mat 34 2 A7 n c7 rs7 M))), .pr (fun v w' => ∃ A7 c7 rs7 A10 c10, v = .slice A10 (nl + 1) c10 ∧ rs7.length = n ∧ St w0 w' ((Bx 32 1 A6 [.slice A n c] :: Bx 113 4 Ab [.slice A n c, .int .i64 (F : Int), .int .i64 (q : Int), .slice Al nl cl] :: CkR 32 A10 (nl + 1) c10 (outs ++ [⟨A7, n, c7⟩]) :: (mat 34 2 A n c rs M ++ ks)) ++ mat 34 2 A7 n c7 rs7 M)), .ex (.pointer (Ab)), .ex (.pointer (ptrAt (Ab) 3)), .pr (fun _ w' => ∃ A7 c7 rs7 A10 c10, rs7.length = n ∧ St w0 w' ((Bx 32 1 A6 [.slice A n c] :: Bx 113 4 Ab [.slice A n c, .int .i64 (F : Int), .int .i64 (q : Int), .slice A10 (nl + 1) c10] :: CkR 32 A10 (nl + 1) c10 (outs ++ [⟨A7, n, c7⟩]) :: (mat 34 2 A n c rs M ++ ks)) ++ mat 34 2 A7 n c7 rs7 M))] (by kernel_rfl) (by kernel_rfl) (List.forall_mem_cons.2 ⟨Yd.lasts_ex _, (List.forall_mem_cons.2 ⟨Yd.lasts_ex _, (List.forall_mem_cons.2 ⟨Yd.lasts_ex _, (List.forall_mem_cons.2 ⟨Yd.lasts_ex _, (List.forall_mem_cons.2 ⟨Yd.lasts_ex _, (List.forall_mem_cons.2 ⟨Yd.lasts_ex _, (List.forall_mem_cons.2 ⟨Yd.lasts_pr (fun v w w' h hb => by obtain ⟨A7, c7, rs7, hv, hl, hT⟩ := h; exact ⟨A7, c7, rs7, hv, hl, hT.later hb⟩), (List.forall_mem_cons.2 ⟨Yd.lasts_pr (fun v w w' h hb => by obtain ⟨A7, c7, rs7, A9, hv, hl, hT⟩ := h; exact ⟨A7, c7, rs7, A9, hv, hl, hT.later hb⟩), (List.forall_mem_cons.2 ⟨Yd.lasts_pr (fun v w w' h hb => by obtain ⟨A7, c7, rs7, A10, c10, hv, hl, hT⟩ := h; exact ⟨A7, c7, rs7, A10, c10, hv, hl, hT.later hb⟩), (List.forall_mem_cons.2 ⟨Yd.lasts_ex _, (List.forall_mem_cons.2 ⟨Yd.lasts_ex _, (List.forall_mem_cons.2 ⟨Yd.lasts_pr (fun v w w' h hb => by obtain ⟨A7, c7, rs7, A10, c10, hl, hT⟩ := h; exact ⟨A7, c7, rs7, A10, c10, hl, hT.later hb⟩), (fun _ h => by cases h)⟩)⟩)⟩)⟩)⟩)⟩)⟩)⟩)⟩)⟩)⟩)⟩) ⟨?_, ?_, ?_, ?_, ?_, ?_, ?_, ?_, ?_, ?_, ?_, ?_, trivial⟩ ?_
        · intro e1 w1 cc hlo hhi hb0 hp hun hq
          show Ops _ _ _ _ _ _ _
          refine Ops.mv_ptr rfl rfl rfl ?_
          refine Ops.nil ?_
          exact AfterN.dn rfl (Below.refl _ _) (by exact rfl)
        · intro e1 w1 cc hlo hhi hb0 hp hun hq
          show Ops _ _ _ _ _ _ _
          refine Ops.mv_ptr rfl rfl rfl ?_
          refine Ops.nil ?_
          exact AfterN.dn rfl (Below.refl _ _) (by exact rfl)
        · intro e1 w1 cc hlo hhi hb0 hp hun hq
          show Ops _ _ _ _ _ _ _
          replace hlo := le_of_lo hlo (b := 0) (by kernel_rfl)
          replace hhi := le_of_hi hhi (b := 0) (by kernel_rfl)
          obtain rfl : cc = 0 := by omega
          have hb := hb0 rfl
          refine Ops.nilp (hBb.below hb) (Nat.succ_pos _) rfl rfl ?_
          refine Ops.nil ?_
          exact AfterN.dn rfl (Below.refl _ _) (by exact rfl)
        · intro e1 w1 cc hlo hhi hb0 hp hun hq
          show Ops _ _ _ _ _ _ _
          replace hlo := le_of_lo hlo (b := 0) (by kernel_rfl)
          replace hhi := le_of_hi hhi (b := 0) (by kernel_rfl)
          obtain rfl : cc = 0 := by omega
          have hb := hb0 rfl
          refine Ops.fld (hBb.below hb) rfl rfl rfl rfl inferInstance ?_
          refine Ops.nil ?_
          exact AfterN.dn rfl (Below.refl _ _) (by exact rfl)
        · intro e1 w1 cc hlo hhi hb0 hp hun hq
          show Ops _ _ _ _ _ _ _
          replace hlo := le_of_lo hlo (b := 0) (by kernel_rfl)
          replace hhi := le_of_hi hhi (b := 0) (by kernel_rfl)
          obtain rfl : cc = 0 := by omega
          have hb := hb0 rfl
          refine Ops.ldf_s (hBb.below hb) rfl rfl rfl rfl rfl ?_
          refine Ops.nil ?_
          exact AfterN.dn rfl (Below.refl _ _) (by exact rfl)
        · intro e1 w1 cc hlo hhi hb0 hp hun hq
          show Ops _ _ _ _ _ _ _
          replace hlo := le_of_lo hlo (b := 0) (by kernel_rfl)
          replace hhi := le_of_hi hhi (b := 0) (by kernel_rfl)
          obtain rfl : cc = 0 := by omega
          have hb := hb0 rfl
          refine Ops.ld_agg 0 (hB6.below hb) rfl rfl rfl ?_
          refine Ops.nil ?_
          exact AfterN.dn rfl (Below.refl _ _) (by exact rfl)
        · intro e1 w1 cc hlo hhi hb0 hp hun hq
          show Ops _ _ _ _ _ _ _
          replace hlo := le_of_lo hlo (b := 0) (by kernel_rfl)
          replace hhi := le_of_hi hhi (b := 0) (by kernel_rfl)
          obtain rfl : cc = 0 := by omega
          have hb := hb0 rfl
          refine Ops.call (cloneManiplex_c A n c rs M _ (hM7 (hS8.later hb)) (by omega) (fun i hi => by have := (hM7 (hS8.later hb)).shp hI.shp (k := (i : Int)) (by omega) (by omega); simp only [rg, Int.toNat_natCast] at this; omega)) rfl rfl rfl ?_
          rintro _ w2 ⟨A7, c7, rs7, rfl, hl7, hst⟩
          refine Ops.nil ?_
          exact AfterN.dn rfl hst.below ⟨A7, c7, rs7, rfl, hl7, (hS8.later hb).call2 hst⟩
        · intro e1 w1 cc hlo hhi hb0 hp hun hq
          show Ops _ _ _ _ _ _ _
          replace hlo := le_of_lo hlo (b := 0) (by kernel_rfl)
          replace hhi := le_of_hi hhi (b := 0) (by kernel_rfl)
          obtain rfl : cc = 0 := by omega
          have hb := hb0 rfl
          obtain ⟨A7, c7, rs7, h53, hl7, hT⟩ := (hp 6 _ _ (by kernel_rfl) rfl rfl (by kernel_rfl))
          have hb := hb0 rfl
          refine Ops.bs1A (St.refl _) (by exact h53) rfl rfl ?_
          intro A9 w9 hst
          refine Ops.nil ?_
          exact AfterN.dn rfl hst.below ⟨A7, c7, rs7, A9, rfl, hl7, hT.call hst⟩
        · intro e1 w1 cc hlo hhi hb0 hp hun hq
          show Ops _ _ _ _ _ _ _
          replace hlo := le_of_lo hlo (b := 0) (by kernel_rfl)
          replace hhi := le_of_hi hhi (b := 0) (by kernel_rfl)
          obtain rfl : cc = 0 := by omega
          have hb := hb0 rfl
          obtain ⟨A7, c7, rs7, A9, h54, hl7, hT⟩ := (hp 7 _ _ (by kernel_rfl) rfl rfl (by kernel_rfl))
          refine Ops.appR 3 hT rfl (hT.rdR 0 rfl) rfl (by exact h54) rfl (by omega) (by omega) rfl ?_
          intro A10 c10 w10 hT10
          refine Ops.nil ?_
          exact AfterT.dn rfl ⟨A7, c7, rs7, A10, c10, rfl, hl7, hT10.tail⟩
        · intro e1 w1 cc hlo hhi hb0 hp hun hq
          show Ops _ _ _ _ _ _ _
          replace hlo := le_of_lo hlo (b := 1) (by kernel_rfl)
          replace hhi := le_of_hi hhi (b := 1) (by kernel_rfl)
          obtain rfl : cc = 1 := by omega
          have hph := hp 8 _ _ (by kernel_rfl) rfl rfl (by kernel_rfl)
          obtain ⟨A7, c7, rs7, A10, c10, h55, hl7, hT⟩ := hph
          refine Ops.nilp ((hT.rd 1 rfl)) (Nat.succ_pos _) rfl rfl ?_
          refine Ops.nil ?_
          exact AfterN.dn rfl (Below.refl _ _) (by exact rfl)
        · intro e1 w1 cc hlo hhi hb0 hp hun hq
          show Ops _ _ _ _ _ _ _
          replace hlo := le_of_lo hlo (b := 1) (by kernel_rfl)
          replace hhi := le_of_hi hhi (b := 1) (by kernel_rfl)
          obtain rfl : cc = 1 := by omega
          have hph := hp 8 _ _ (by kernel_rfl) rfl rfl (by kernel_rfl)
          obtain ⟨A7, c7, rs7, A10, c10, h55, hl7, hT⟩ := hph
          refine Ops.fld ((hT.rd 1 rfl)) rfl rfl rfl rfl inferInstance ?_
          refine Ops.nil ?_
          exact AfterN.dn rfl (Below.refl _ _) (by exact rfl)
        · intro e1 w1 cc hlo hhi hb0 hp hun hq
          show Ops _ _ _ _ _ _ _
          replace hlo := le_of_lo hlo (b := 1) (by kernel_rfl)
          replace hhi := le_of_hi hhi (b := 1) (by kernel_rfl)
          obtain rfl : cc = 1 := by omega
          have hph := hp 8 _ _ (by kernel_rfl) rfl rfl (by kernel_rfl)
          obtain ⟨A7, c7, rs7, A10, c10, h55, hl7, hT⟩ := hph
          refine Ops.stf 1 hT rfl rfl (by exact h55) rfl rfl ?_
          intro w11 hT11
          refine Ops.nil ?_
          exact AfterT.st rfl ⟨A7, c7, rs7, A10, c10, hl7, hT11⟩
        intro u w9 _ hu
        obtain ⟨A7, c7, rs7, A10, c10, hl7, hT⟩ := hu 11 _ rfl (by kernel_rfl)
        refine thenQ_n ?_
        refine Cd.ret ?_
        refine thenQ_r ?_
        refine ret0_r ?_
        refine ⟨A10, c10, [⟨⟨A7, n, c7⟩, rs7, M⟩], rfl, (fun m hm => by simp at hm; subst hm; exact hlen), rfl, ?_⟩
        have hT := hT.tail
        unfold bdK
        simp only [matsCk, MatV.cks, List.flatMap_cons, List.flatMap_nil, List.append_nil, List.map_cons, List.map_nil, List.length_singleton]
        refine hT.perm ?_
        refine List.Perm.cons _ (List.Perm.cons _ ?_)
        show ((mat 34 2 A n c rs M ++ ks) ++ mat 34 2 A7 n c7 rs7 M).Perm _
        rw [List.append_assoc]
        exact List.Perm.append_left _ List.perm_append_comm
      · rw [if_neg (fun h => h3 (of_decide_eq_true h.2))]
        refine Cd.skip ?_
        refine thenQ_n ?_
        refine Cd.ret ?_
        refine thenQ_r ?_
        refine ret0_r ?_
        exact ⟨Al, cl, [], rfl, (fun m hm => by cases hm), rfl, by simpa [matsCk, bdK] using hS8.tail⟩
    · rw [if_neg (fun h => h2 (by rw [h.1]))]
      refine Ops.skipg rfl rfl rfl rfl rfl ?_
      refine Ops.skipg rfl rfl rfl rfl rfl ?_
      refine Ops.pick_f rfl rfl rfl ?_
      refine Ops.nil ?_
      refine thenQ_n ?_
      refine Cd.cond_f rfl ?_
      refine Cd.skip ?_
      refine thenQ_n ?_
      refine Cd.ret ?_
      refine thenQ_r ?_
      refine ret0_r ?_
      exact ⟨Al, cl, [], rfl, (fun m hm => by cases hm), rfl, by simpa [matsCk, bdK] using hS7.tail⟩
  · have hqm : q < met := by
      apply Classical.byContradiction
      intro h
      have h3 : (met + 1) * n ≤ q * n := Nat.mul_le_mul_right n (by omega)
      rw [Nat.succ_mul] at h3
      omega
    have haM : at_ ≠ met * n := by
      have h3 : (q + 1) * n ≤ met * n := Nat.mul_le_mul_right n (by omega)
      rw [Nat.succ_mul] at h3
      omega
    have hmnF : met * n ≤ F * n := Nat.mul_le_mul_right n hmet
    obtain ⟨f', rfl⟩ : ∃ f', fuel = f' + 1 := ⟨fuel - 1, by omega⟩
    refine Ops.rung rfl rfl rfl ?_
    refine Ops.mv_int rfl rfl rfl ?_
    refine Ops.rung rfl rfl rfl ?_
    refine Ops.mv_ptr rfl rfl rfl ?_
    refine Ops.rung rfl rfl rfl ?_
    refine Ops.nilp (hS.rd 0 rfl) (Nat.succ_pos _) rfl rfl ?_
    refine Ops.rung rfl rfl rfl ?_
    refine Ops.fld (hS.rd 0 rfl) rfl rfl rfl rfl inferInstance ?_
    refine Ops.rung rfl rfl rfl ?_
    refine Ops.ldf_i (hS.rd 0 rfl) rfl rfl rfl rfl rfl ?_
    refine Ops.rung rfl rfl rfl ?_
    refine Ops.eql rfl rfl rfl ?_
    refine Ops.pick_f rfl rfl rfl ?_
    refine Ops.nil ?_
    refine thenQ_n ?_
    refine Cd.cond_pf rfl (by omega) ?_
    have hR := hS.tail.tail.rowsI hlen
    have hrow := hR.at_ (i := (r : Int)) (by omega) (by omega)
    have hrw := hR.shp hI.shp (k := (r : Int)) (by omega) (by omega)
    refine Cd.skip ?_
    refine thenQ_n ?_
    refine Cd.seq ?_
    refine Cd.seq ?_
    refine Cd.region ?_
    refine Ops.mv_ptr rfl rfl rfl ?_
    refine Ops.nilp (hS.rd 0 rfl) (Nat.succ_pos _) rfl rfl ?_
    refine Ops.fld (hS.rd 0 rfl) rfl rfl rfl rfl inferInstance ?_
    refine Ops.ldf_s (hS.rd 0 rfl) rfl rfl rfl rfl rfl ?_
    refine Ops.mv_int rfl rfl rfl ?_
    refine Ops.idx hR.top.2 rfl rfl rfl (by omega) (by omega) ?_
    refine Ops.ld_sl hR.top rfl (by omega) rfl rfl ?_
    refine Ops.mv_int rfl rfl rfl ?_
    refine Ops.idx hrow.2 rfl rfl rfl (by omega) (by omega) ?_
    refine Ops.ld_int hrow rfl (by omega) rfl rfl ?_
    refine Ops.geq rfl rfl rfl ?_
    refine Ops.nil ?_
    refine thenQ_n ?_
    refine Cd.cond_p _ rfl (fun h2 => ?_) (fun h2 => ?_)
    · have hk : 0 ≤ cell M (at_ % n) (at_ / n : Nat) := by rw [hr, hq]; exact h2
      have hgr : grow n F okI (fun L => decide (Mani L)) (f' + 1) at_ met M = grow n F okI (fun L => decide (Mani L)) f' (at_ + 1) met M := by
        show (if _ then _ else _) = _
        rw [if_neg haM, if_pos hk]
      rw [hgr] at hB ⊢
      refine Cd.seq ?_
      refine Cd.region ?_
      refine Ops.mv_ptr rfl rfl rfl ?_
      refine Ops.mv_int rfl rfl rfl ?_
      refine Ops.mv_int rfl rfl rfl ?_
      refine Ops.add rfl rfl rfl (by omega) ?_
      refine Ops.call (ih f' (by omega) (at_ + 1) met M (hI.next haM hk) (by omega) w0 w ks Al nl cl outs q (r + 1) (by omega) (by omega) hS hB) rfl rfl rfl ?_
      rintro _ w2 ⟨A', c', new, rfl, hok, hx, hT⟩
      refine Ops.nil ?_
      refine thenQ_n ?_
      refine Cd.ret ?_
      refine thenQ_r ?_
      refine ret0_r ?_
      exact ⟨A', c', new, rfl, hok, hx, hT⟩
    · have hun : ¬ 0 ≤ cell M (at_ % n) (at_ / n : Nat) := by rw [hr, hq]; exact h2
      have hgr : grow n F okI (fun L => decide (Mani L)) (f' + 1) at_ met M = (List.range' (q + 1) (min met (F - 1) - q)).flatMap (body n F okI (fun L => decide (Mani L)) f' at_ met M) := by
        rw [grow_body haM hun, hq]
      rw [hgr] at hB ⊢
      refine Cd.skip ?_
      refine thenQ_n ?_
      refine Cd.seq ?_
      refine Cd.region ?_
      refine Ops.mv_ptr rfl rfl rfl ?_
      refine Ops.nilp (hS.rd 0 rfl) (Nat.succ_pos _) rfl rfl ?_
      refine Ops.fld (hS.rd 0 rfl) rfl rfl rfl rfl inferInstance ?_
      refine Ops.ldf_i (hS.rd 0 rfl) rfl rfl rfl rfl rfl ?_
      refine Ops.mv_int rfl rfl rfl ?_
      refine Ops.nil ?_
      refine thenQ_n ?_
      refine Cd.seq ?_
      refine Cd.region ?_
      refine Ops.mv_int rfl rfl rfl ?_
      refine Ops.add rfl rfl rfl (by omega) ?_
      refine Ops.mv_int rfl rfl rfl ?_
      refine Ops.nil ?_
      refine thenQ_n ?_
      refine Cd.block ?_
      refine Cd.loop (α := Nat × Option Addr × Nat × List MatV) (fun z => [(0, .pointer Ab), (1, .int .i64 (q : Int)), (2, .int .i64 (r : Int)), (7, .int .i64 (met : Int)), (8, .int .i64 (z.1 : Int))])
        (fun z w' => St w0 w' (bdK Ab A n c F met z.2.1 (nl + z.2.2.2.length) z.2.2.1 (outs ++ z.2.2.2.map (·.top)) rs M (matsCk 34 2 z.2.2.2 ++ ks)) ∧ q + 1 ≤ z.1 ∧ z.1 ≤ q + 1 + (min met (F - 1) - q) ∧ (∀ m ∈ z.2.2.2, m.ok) ∧ z.2.2.2.map (·.xss) = (List.range' (q + 1) (z.1 - (q + 1))).flatMap (body n F okI (fun L => decide (Mani L)) f' at_ met M))
        (fun z => q + 2 + (min met (F - 1) - q) - z.1) (q + 1, Al, cl, []) ⟨rfl, rfl, rfl, rfl, rfl, trivial⟩ ⟨by simpa [matsCk, bdK] using hS, Nat.le_refl _, Nat.le_add_right _ _, (fun m hm => by cases hm), by simp⟩ ?_
      rintro ⟨g, Ag, cg, new⟩ e w4 ⟨hS4, hg1, hg2, hnew, hxs⟩
      dsimp only at hS4 hg1 hg2 hnew hxs ⊢
      unfold bdK at hS4
      have hexit : ∀ {w5 : World}, St w0 w5 (bdK Ab A n c F met Ag (nl + new.length) cg (outs ++ new.map (·.top)) rs M (matsCk 34 2 new ++ ks)) → g = q + 1 + (min met (F - 1) - q) → ∃ A' c', ∃ new' : List MatV, (Value.tuple #[] : Value) = .tuple #[] ∧ (∀ m ∈ new', m.ok) ∧ new'.map (·.xss) = (List.range' (q + 1) (min met (F - 1) - q)).flatMap (body n F okI (fun L => decide (Mani L)) f' at_ met M) ∧ St w0 w5 (bdK Ab A n c F met A' (nl + new'.length) c' (outs ++ new'.map (·.top)) rs M (matsCk 34 2 new' ++ ks)) := fun h hge => ⟨Ag, cg, new, rfl, hnew, by rw [hxs]; congr 2; omega, h⟩
      refine Cd.seq ?_
      refine Cd.seq ?_
      refine Cd.region ?_
      refine Ops.mv_int rfl rfl rfl ?_
      refine Ops.mv_int rfl rfl rfl ?_
      refine Ops.leq rfl rfl rfl ?_
      refine Ops.mv_bool rfl rfl rfl ?_
      refine Ops.split_p 83 rfl (fun h3 => ?_) (fun h3 => ?_)
      · refine Ops.rung rfl rfl rfl ?_
        refine Ops.mv_int rfl rfl rfl ?_
        refine Ops.rung rfl rfl rfl ?_
        refine Ops.mv_ptr rfl rfl rfl ?_
        refine Ops.rung rfl rfl rfl ?_
        refine Ops.nilp (hS4.rd 0 rfl) (Nat.succ_pos _) rfl rfl ?_
        refine Ops.rung rfl rfl rfl ?_
        refine Ops.fld (hS4.rd 0 rfl) rfl rfl rfl rfl inferInstance ?_
        refine Ops.rung rfl rfl rfl ?_
        refine Ops.ldf_i (hS4.rd 0 rfl) rfl rfl rfl rfl rfl ?_
        refine Ops.rung rfl rfl rfl ?_
        refine Ops.lss rfl rfl rfl ?_
        refine Ops.pick_t rfl rfl rfl ?_
        refine Ops.nil ?_
        refine thenQ_n ?_
        refine Cd.cond_p _ rfl (fun h4 => ?_) (fun h4 => ?_)
        · have hgm : g < q + 1 + (min met (F - 1) - q) := by omega
          have hR4 := hS4.tail.tail.rowsI hlen
          have hrsl : rs.length = n := hR4.top.1
          have hrow := hR4.at_ (i := (r : Int)) (by omega) (by omega)
          have hrnF := hR4.shp hI.shp (k := (r : Int)) (by omega) (by omega)
          have hstep := range_step (body n F okI (fun L => decide (Mani L)) f' at_ met M) hg1 hgm
          have hrest := range_rest (body n F okI (fun L => decide (Mani L)) f' at_ met M) hg1 hgm
          have hnl : new.length = ((List.range' (q + 1) (g - (q + 1))).flatMap (body n F okI (fun L => decide (Mani L)) f' at_ met M)).length := by rw [← hxs]; simp
          refine Cd.skip ?_
          refine thenQ_n ?_
          refine Cd.seq ?_
          refine Cd.block ?_
          refine Cd.seq ?_
          refine Cd.seq ?_
          refine Cd.region ?_
          refine Ops.mv_ptr rfl rfl rfl ?_
          refine Ops.nilp (hS4.rd 0 rfl) (Nat.succ_pos _) rfl rfl ?_
          refine Ops.fld (hS4.rd 0 rfl) rfl rfl rfl rfl inferInstance ?_
          refine Ops.ldf_s (hS4.rd 0 rfl) rfl rfl rfl rfl rfl ?_
          refine Ops.mv_int rfl rfl rfl ?_
          refine Ops.idx hR4.top.2 rfl rfl rfl (by omega) (by omega) ?_
          refine Ops.ld_sl hR4.top rfl (by omega) rfl rfl ?_
          refine Ops.mv_int rfl rfl rfl ?_
          refine Ops.idx hrow.2 rfl rfl rfl (by omega) (by omega) ?_
          refine Ops.ld_int hrow rfl (by omega) rfl rfl ?_
          refine Ops.geq rfl rfl rfl ?_
          refine Ops.nil ?_
          refine thenQ_n ?_
          refine Cd.cond_p _ rfl (fun h5 => ?_) (fun h5 => ?_)
          · have hbd : body n F okI (fun L => decide (Mani L)) f' at_ met M g = [] := by unfold body; rw [hr, if_pos (show 0 ≤ cell M r g from h5)]
            refine Cd.exit ?_
            refine thenQ_x ?_
            refine blockQ_x ?_
            refine thenQ_n ?_
            refine Cd.region ?_
            refine Ops.mv_int rfl rfl rfl ?_
            refine Ops.add rfl rfl rfl (by omega) ?_
            refine Ops.mv_int rfl rfl rfl ?_
            refine Ops.nil ?_
            refine thenQ_n ?_
            refine ⟨(g + 1, Ag, cg, new), by show _ - (g + 1) < _ - g; omega, ⟨rfl, rfl, rfl, rfl, rfl, trivial⟩, hS4, by show q + 1 ≤ g + 1; omega, by show g + 1 ≤ _; omega, hnew, ?_⟩
            show new.map _ = (List.range' (q + 1) (g + 1 - (q + 1))).flatMap _
            rw [hstep, hbd, List.append_nil, hxs]
          · have hI7 := hI.put haM hun (g := g) (by omega) (by omega) (by omega) (by rw [hr]; exact h5)
            rw [hr, hq] at hI7
            have hbd : body n F okI (fun L => decide (Mani L)) f' at_ met M g = if okI (put M r q g) r q = true then grow n F okI (fun L => decide (Mani L)) f' (at_ + 1) (max met (g + 1)) (put M r q g) else [] := by
              unfold body
              rw [hr, hq, if_neg (show ¬ 0 ≤ cell M r g from h5)]
            have hsh6 := hI.shp.setc hrn q (g : Int)
            have hundo : setc (setc (put M r q g) r q (-1)) r g (-1) = M := put_undo hI.shp hrn (by omega) (by omega) (by omega) ((hI.cells r q hrn (by omega) (by omega)).resolve_right (fun h => h2 h.1)) ((hI.cells r g hrn (by omega) (by omega)).resolve_right (fun h => h5 h.1))
            have hcq : 0 ≤ cell (put M r q g) r q := by
              rw [cell_put hI.shp hrn (by omega) (by omega) (by omega), if_neg (by omega), if_pos ⟨rfl, rfl⟩]; omega
            refine Cd.skip ?_
            refine thenQ_n ?_
            refine Cd.seq ?_
            refine Cd.drawN [19, 21] [.ex (.pointer (Ab)), .ex (.pointer (Ab)), .ex (.pointer (ptrAt (Ab) 0)), .ex (.slice (A) (n) (c)), .ex (.int .i64 ((r : Int))), .ex (.pointer (ptrAt (A) ((r : Int)).toNat)), .ex (.slice ((rg (rs) ((r : Int))).a) ((rg (rs) ((r : Int))).n) ((rg (rs) ((r : Int))).c)), .ex (.int .i64 ((q : Int))), .ex (.pointer (Ab)), .ex (.pointer (Ab)), .ex (.pointer (ptrAt (Ab) 0)), .ex (.slice (A) (n) (c)), .ex (.int .i64 ((r : Int))), .ex (.pointer (ptrAt (A) ((r : Int)).toNat)), .ex (.slice ((rg (rs) ((r : Int))).a) ((rg (rs) ((r : Int))).n) ((rg (rs) ((r : Int))).c)), .ex (.int .i64 ((g : Int))), .ex (.int .i64 ((g : Int))), .ex (.int .i64 ((q : Int))), .ex (.pointer (ptrAt ((rg (rs) ((r : Int))).a) ((q : Int)).toNat)), .pr (fun _ w' => St w0 w' (bdK Ab A n c F met Ag (nl + new.length) cg (outs ++ new.map (·.top)) rs (setc M r q g) (matsCk 34 2 new ++ ks))), .ex (.pointer (ptrAt ((rg (rs) ((r : Int))).a) ((g : Int)).toNat)), .pr (fun _ w' => St w0 w' (bdK Ab A n c F met Ag (nl + new.length) cg (outs ++ new.map (·.top)) rs (put M r q g) (matsCk 34 2 new ++ ks)))] (by kernel_rfl) (by kernel_rfl) (List.forall_mem_cons.2 ⟨Yd.lasts_ex _, (List.forall_mem_cons.2 ⟨Yd.lasts_ex _, (List.forall_mem_cons.2 ⟨Yd.lasts_ex _, (List.forall_mem_cons.2 ⟨Yd.lasts_ex _, (List.forall_mem_cons.2 ⟨Yd.lasts_ex _, (List.forall_mem_cons.2 ⟨Yd.lasts_ex _, (List.forall_mem_cons.2 ⟨Yd.lasts_ex _, (List.forall_mem_cons.2 ⟨Yd.lasts_ex _, (List.forall_mem_cons.2 ⟨Yd.lasts_ex _, (List.forall_mem_cons.2 ⟨Yd.lasts_ex _, (List.forall_mem_cons.2 ⟨Yd.lasts_ex _, (List.forall_mem_cons.2 ⟨Yd.lasts_ex _, (List.forall_mem_cons.2 ⟨Yd.lasts_ex _, (List.forall_mem_cons.2 ⟨Yd.lasts_ex _, (List.forall_mem_cons.2 ⟨Yd.lasts_ex _, (List.forall_mem_cons.2 ⟨Yd.lasts_ex _, (List.forall_mem_cons.2 ⟨Yd.lasts_ex _, (List.forall_mem_cons.2 ⟨Yd.lasts_ex _, (List.forall_mem_cons.2 ⟨Yd.lasts_ex _, (List.forall_mem_cons.2 ⟨Yd.lasts_pr (fun v w w' h hb => h.later hb), (List.forall_mem_cons.2 ⟨Yd.lasts_ex _, (List.forall_mem_cons.2 ⟨Yd.lasts_pr (fun v w w' h hb => h.later hb), (fun _ h => by cases h)⟩)⟩)⟩)⟩)⟩)⟩)⟩)⟩)⟩)⟩)⟩)⟩)⟩)⟩)⟩)⟩)⟩)⟩)⟩)⟩)⟩)⟩) ⟨?_, ?_, ?_, ?_, ?_, ?_, ?_, ?_, ?_, ?_, ?_, ?_, ?_, ?_, ?_, ?_, ?_, ?_, ?_, ?_, ?_, ?_, trivial⟩ ?_
            · intro e1 w1 cc hlo hhi hb0 hp hun hq
              show Ops _ _ _ _ _ _ _
              refine Ops.mv_ptr rfl rfl rfl ?_
              refine Ops.nil ?_
              exact AfterN.dn rfl (Below.refl _ _) (by exact rfl)
            · intro e1 w1 cc hlo hhi hb0 hp hun hq
              show Ops _ _ _ _ _ _ _
              replace hlo := le_of_lo hlo (b := 0) (by kernel_rfl)
              replace hhi := le_of_hi hhi (b := 0) (by kernel_rfl)
              obtain rfl : cc = 0 := by omega
              have hb := hb0 rfl
              refine Ops.nilp ((hS4.rd 0 rfl).below hb) (Nat.succ_pos _) rfl rfl ?_
              refine Ops.nil ?_
              exact AfterN.dn rfl (Below.refl _ _) (by exact rfl)
            · intro e1 w1 cc hlo hhi hb0 hp hun hq
              show Ops _ _ _ _ _ _ _
              replace hlo := le_of_lo hlo (b := 0) (by kernel_rfl)
              replace hhi := le_of_hi hhi (b := 0) (by kernel_rfl)
              obtain rfl : cc = 0 := by omega
              have hb := hb0 rfl
              refine Ops.fld ((hS4.rd 0 rfl).below hb) rfl rfl rfl rfl inferInstance ?_
              refine Ops.nil ?_
              exact AfterN.dn rfl (Below.refl _ _) (by exact rfl)
            · intro e1 w1 cc hlo hhi hb0 hp hun hq
              show Ops _ _ _ _ _ _ _
              replace hlo := le_of_lo hlo (b := 0) (by kernel_rfl)
              replace hhi := le_of_hi hhi (b := 0) (by kernel_rfl)
              obtain rfl : cc = 0 := by omega
              have hb := hb0 rfl
              refine Ops.ldf_s ((hS4.rd 0 rfl).below hb) rfl rfl rfl rfl rfl ?_
              refine Ops.nil ?_
              exact AfterN.dn rfl (Below.refl _ _) (by exact rfl)
            · intro e1 w1 cc hlo hhi hb0 hp hun hq
              show Ops _ _ _ _ _ _ _
              refine Ops.mv_int rfl rfl rfl ?_
              refine Ops.nil ?_
              exact AfterN.dn rfl (Below.refl _ _) (by exact rfl)
            · intro e1 w1 cc hlo hhi hb0 hp hun hq
              show Ops _ _ _ _ _ _ _
              replace hlo := le_of_lo hlo (b := 0) (by kernel_rfl)
              replace hhi := le_of_hi hhi (b := 0) (by kernel_rfl)
              obtain rfl : cc = 0 := by omega
              have hb := hb0 rfl
              refine Ops.idx (hR4.top.later hb).2 rfl rfl rfl (by omega) (by omega) ?_
              refine Ops.nil ?_
              exact AfterN.dn rfl (Below.refl _ _) (by exact rfl)
            · intro e1 w1 cc hlo hhi hb0 hp hun hq
              show Ops _ _ _ _ _ _ _
              replace hlo := le_of_lo hlo (b := 0) (by kernel_rfl)
              replace hhi := le_of_hi hhi (b := 0) (by kernel_rfl)
              obtain rfl : cc = 0 := by omega
              have hb := hb0 rfl
              refine Ops.ld_sl (hR4.top.later hb) rfl (by omega) rfl rfl ?_
              refine Ops.nil ?_
              exact AfterN.dn rfl (Below.refl _ _) (by exact rfl)
            · intro e1 w1 cc hlo hhi hb0 hp hun hq
              show Ops _ _ _ _ _ _ _
              refine Ops.mv_int rfl rfl rfl ?_
              refine Ops.nil ?_
              exact AfterN.dn rfl (Below.refl _ _) (by exact rfl)
            · intro e1 w1 cc hlo hhi hb0 hp hun hq
              show Ops _ _ _ _ _ _ _
              refine Ops.mv_ptr rfl rfl rfl ?_
              refine Ops.nil ?_
              exact AfterN.dn rfl (Below.refl _ _) (by exact rfl)
            · intro e1 w1 cc hlo hhi hb0 hp hun hq
              show Ops _ _ _ _ _ _ _
              replace hlo := le_of_lo hlo (b := 0) (by kernel_rfl)
              replace hhi := le_of_hi hhi (b := 0) (by kernel_rfl)
              obtain rfl : cc = 0 := by omega
              have hb := hb0 rfl
              refine Ops.nilp ((hS4.rd 0 rfl).below hb) (Nat.succ_pos _) rfl rfl ?_
              refine Ops.nil ?_
              exact AfterN.dn rfl (Below.refl _ _) (by exact rfl)
            · intro e1 w1 cc hlo hhi hb0 hp hun hq
              show Ops _ _ _ _ _ _ _
              replace hlo := le_of_lo hlo (b := 0) (by kernel_rfl)
              replace hhi := le_of_hi hhi (b := 0) (by kernel_rfl)
              obtain rfl : cc = 0 := by omega
              have hb := hb0 rfl
              refine Ops.fld ((hS4.rd 0 rfl).below hb) rfl rfl rfl rfl inferInstance ?_
              refine Ops.nil ?_
              exact AfterN.dn rfl (Below.refl _ _) (by exact rfl)
            · intro e1 w1 cc hlo hhi hb0 hp hun hq
              show Ops _ _ _ _ _ _ _
              replace hlo := le_of_lo hlo (b := 0) (by kernel_rfl)
              replace hhi := le_of_hi hhi (b := 0) (by kernel_rfl)
              obtain rfl : cc = 0 := by omega
              have hb := hb0 rfl
              refine Ops.ldf_s ((hS4.rd 0 rfl).below hb) rfl rfl rfl rfl rfl ?_
              refine Ops.nil ?_
              exact AfterN.dn rfl (Below.refl _ _) (by exact rfl)
            · intro e1 w1 cc hlo hhi hb0 hp hun hq
              show Ops _ _ _ _ _ _ _
              refine Ops.mv_int rfl rfl rfl ?_
              refine Ops.nil ?_
              exact AfterN.dn rfl (Below.refl _ _) (by exact rfl)
            · intro e1 w1 cc hlo hhi hb0 hp hun hq
              show Ops _ _ _ _ _ _ _
              replace hlo := le_of_lo hlo (b := 0) (by kernel_rfl)
              replace hhi := le_of_hi hhi (b := 0) (by kernel_rfl)
              obtain rfl : cc = 0 := by omega
              have hb := hb0 rfl
              refine Ops.idx (hR4.top.later hb).2 rfl rfl rfl (by omega) (by omega) ?_
              refine Ops.nil ?_
              exact AfterN.dn rfl (Below.refl _ _) (by exact rfl)
            · intro e1 w1 cc hlo hhi hb0 hp hun hq
              show Ops _ _ _ _ _ _ _
              replace hlo := le_of_lo hlo (b := 0) (by kernel_rfl)
              replace hhi := le_of_hi hhi (b := 0) (by kernel_rfl)
              obtain rfl : cc = 0 := by omega
              have hb := hb0 rfl
              refine Ops.ld_sl (hR4.top.later hb) rfl (by omega) rfl rfl ?_
              refine Ops.nil ?_
              exact AfterN.dn rfl (Below.refl _ _) (by exact rfl)
            · intro e1 w1 cc hlo hhi hb0 hp hun hq
              show Ops _ _ _ _ _ _ _
              refine Ops.mv_int rfl rfl rfl ?_
              refine Ops.nil ?_
              exact AfterN.dn rfl (Below.refl _ _) (by exact rfl)
            · intro e1 w1 cc hlo hhi hb0 hp hun hq
              show Ops _ _ _ _ _ _ _
              refine Ops.mv_int rfl rfl rfl ?_
              refine Ops.nil ?_
              exact AfterN.dn rfl (Below.refl _ _) (by exact rfl)
            · intro e1 w1 cc hlo hhi hb0 hp hun hq
              show Ops _ _ _ _ _ _ _
              refine Ops.mv_int rfl rfl rfl ?_
              refine Ops.nil ?_
              exact AfterN.dn rfl (Below.refl _ _) (by exact rfl)
            · intro e1 w1 cc hlo hhi hb0 hp hun hq
              show Ops _ _ _ _ _ _ _
              replace hlo := le_of_lo hlo (b := 0) (by kernel_rfl)
              replace hhi := le_of_hi hhi (b := 0) (by kernel_rfl)
              obtain rfl : cc = 0 := by omega
              have hb := hb0 rfl
              refine Ops.idx (hrow.later hb).2 rfl rfl rfl (by omega) (by omega) ?_
              refine Ops.nil ?_
              exact AfterN.dn rfl (Below.refl _ _) (by exact rfl)
            · intro e1 w1 cc hlo hhi hb0 hp hun hq
              show Ops _ _ _ _ _ _ _
              replace hlo := le_of_lo hlo (b := 0) (by kernel_rfl)
              replace hhi := le_of_hi hhi (b := 0) (by kernel_rfl)
              obtain rfl : cc = 0 := by omega
              have hb := hb0 rfl
              refine Ops.st_row (pre := [Bx 113 4 Ab [.slice A n c, .int .i64 (F : Int), .int .i64 (met : Int), .slice Ag (nl + new.length) cg], CkR 32 Ag (nl + new.length) cg (outs ++ new.map (·.top))]) r (f := (q : Int)) (hS4.later hb) (by omega) (by omega) rfl rfl (by omega) ?_
              intro w6 hS6
              refine Ops.nil ?_
              exact AfterT.st rfl hS6
            · intro e1 w1 cc hlo hhi hb0 hp hun hq
              show Ops _ _ _ _ _ _ _
              replace hlo := le_of_lo hlo (b := 1) (by kernel_rfl)
              replace hhi := le_of_hi hhi (b := 1) (by kernel_rfl)
              obtain rfl : cc = 1 := by omega
              have hph := hp 19 _ _ (by kernel_rfl) rfl rfl (by kernel_rfl)
              have hrow6 := ((show St w0 _ (_ :: _ :: (mat 34 2 A n c rs (setc M r q g) ++ _)) from hph).tail.tail.rowsI hsh6.1).at_ (i := (r : Int)) (by omega) (by omega)
              have hl6 := hsh6.1
              refine Ops.idx (hrow6).2 rfl rfl rfl (by omega) (by omega) ?_
              refine Ops.nil ?_
              exact AfterN.dn rfl (Below.refl _ _) (by exact rfl)
            · intro e1 w1 cc hlo hhi hb0 hp hun hq
              show Ops _ _ _ _ _ _ _
              replace hlo := le_of_lo hlo (b := 1) (by kernel_rfl)
              replace hhi := le_of_hi hhi (b := 1) (by kernel_rfl)
              obtain rfl : cc = 1 := by omega
              have hph := hp 19 _ _ (by kernel_rfl) rfl rfl (by kernel_rfl)
              have hrow6 := ((show St w0 _ (_ :: _ :: (mat 34 2 A n c rs (setc M r q g) ++ _)) from hph).tail.tail.rowsI hsh6.1).at_ (i := (r : Int)) (by omega) (by omega)
              have hl6 := hsh6.1
              refine Ops.st_row (pre := [Bx 113 4 Ab [.slice A n c, .int .i64 (F : Int), .int .i64 (met : Int), .slice Ag (nl + new.length) cg], CkR 32 Ag (nl + new.length) cg (outs ++ new.map (·.top))]) r (f := (g : Int)) hph (by omega) (by omega) rfl rfl (by omega) ?_
              intro w7 hS7
              refine Ops.nil ?_
              exact AfterT.st rfl hS7
            intro u w5 _ hu
            have hS5 := hu 21 _ rfl (by kernel_rfl)
            generalize hM' : put M r q g = M' at *
            have hl7 := hI7.shp.1
            unfold bdK at hS5
            have hmx : max (met : Int) ((g : Int) + 1) = ((max met (g + 1) : Nat) : Int) := by omega
            refine thenQ_n ?_
            refine Cd.seq ?_
            refine Cd.region ?_
            refine Ops.mv_ptr rfl rfl rfl ?_
            refine Ops.mv_int rfl rfl rfl ?_
            refine Ops.mv_int rfl rfl rfl ?_
            refine Ops.add rfl rfl rfl (by omega) ?_
            refine Ops.maxI rfl rfl rfl ?_
            rw [hmx]
            refine Ops.nilp (hS5.rd 0 rfl) (Nat.succ_pos _) rfl rfl ?_
            refine Ops.fld (hS5.rd 0 rfl) rfl rfl rfl rfl inferInstance ?_
            refine Ops.stf 0 hS5 rfl rfl rfl rfl rfl ?_
            intro w6 hS6
            have hS6 : St w0 w6 (bdK Ab A n c F (max met (g + 1)) Ag (nl + new.length) cg (outs ++ new.map (·.top)) rs M' (matsCk 34 2 new ++ ks)) := hS6
            refine Ops.nil ?_
            refine thenQ_n ?_
            refine Cd.join (α := Option Addr × Nat × List MatV) (fun z => [(0, .pointer Ab), (1, .int .i64 (q : Int)), (2, .int .i64 (r : Int)), (7, .int .i64 (met : Int)), (8, .int .i64 (g : Int))])
              (fun z w' => St w0 w' (bdK Ab A n c F (max met (g + 1)) z.1 (nl + new.length + z.2.2.length) z.2.1 (outs ++ new.map (·.top) ++ z.2.2.map (·.top)) rs M' (matsCk 34 2 z.2.2 ++ (matsCk 34 2 new ++ ks))) ∧ (∀ m ∈ z.2.2, m.ok) ∧ z.2.2.map (·.xss) = body n F okI (fun L => decide (Mani L)) f' at_ met M g) ?_ ?_
            · refine Cd.seq ?_
              refine Cd.region ?_
              refine Ops.mv_ptr rfl rfl rfl ?_
              refine Ops.mv_int rfl rfl rfl ?_
              refine Ops.mv_int rfl rfl rfl ?_
              have hS6' := hS6
              unfold bdK at hS6'
              refine Ops.call (fits_c Ab A n c F rs M' r q _ (Rd.first (hS6'.rd 0 rfl)) (hS6'.tail.tail.rowsI hl7) hI7.shp hI7.rng (by omega) hrn (by omega) hcq) rfl rfl rfl ?_
              rintro _ w7 ⟨rfl, hst⟩
              have hS7 := hS6.later hst.below
              refine Ops.nil ?_
              refine thenQ_n ?_
              refine Cd.cond rfl (fun h7 => ?_) (fun h7 => ?_)
              · rw [if_pos h7] at hbd
                rw [hbd] at hrest
                refine Cd.region ?_
                refine Ops.mv_ptr rfl rfl rfl ?_
                refine Ops.mv_int rfl rfl rfl ?_
                refine Ops.mv_int rfl rfl rfl ?_
                refine Ops.add rfl rfl rfl (by omega) ?_
                refine Ops.call (ih f' (by omega) (at_ + 1) (max met (g + 1)) M' hI7 (by omega) w0 w7 (matsCk 34 2 new ++ ks) Ag (nl + new.length) cg (outs ++ new.map (·.top)) q (r + 1) (by omega) (by omega) hS7 (by omega)) rfl rfl rfl ?_
                rintro _ w8 ⟨A9, c9, new9, rfl, hok9, hx9, hS8⟩
                refine Ops.nil ?_
                refine thenQ_n ?_
                exact ⟨(A9, c9, new9), ⟨rfl, rfl, rfl, rfl, rfl, trivial⟩, hS8, hok9, by rw [hbd]; exact hx9⟩
              · rw [if_neg (by rw [h7]; simp)] at hbd
                refine Cd.skip ?_
                refine thenQ_n ?_
                exact ⟨(Ag, cg, []), ⟨rfl, rfl, rfl, rfl, rfl, trivial⟩, by simpa [matsCk] using hS7, (fun m hm => by cases hm), by rw [hbd]; rfl⟩
            · rintro ⟨A9, c9, new9⟩ e w8 ⟨hS8, hok9, hx9⟩
              dsimp only at hS8 hok9 hx9 ⊢
              have hsh9 := hI7.shp.setc hrn q (-1)
              unfold bdK at hS8
              have hR8 := hS8.tail.tail.rowsI hl7
              have hrow8 := hR8.at_ (i := (r : Int)) (by omega) (by omega)
              refine Cd.seq ?_
              refine Cd.drawN [17, 19] [.ex (.pointer (Ab)), .ex (.pointer (Ab)), .ex (.pointer (ptrAt (Ab) 0)), .ex (.slice (A) (n) (c)), .ex (.int .i64 ((r : Int))), .ex (.pointer (ptrAt (A) ((r : Int)).toNat)), .ex (.slice ((rg (rs) ((r : Int))).a) ((rg (rs) ((r : Int))).n) ((rg (rs) ((r : Int))).c)), .ex (.int .i64 ((q : Int))), .ex (.pointer (Ab)), .ex (.pointer (Ab)), .ex (.pointer (ptrAt (Ab) 0)), .ex (.slice (A) (n) (c)), .ex (.int .i64 ((r : Int))), .ex (.pointer (ptrAt (A) ((r : Int)).toNat)), .ex (.slice ((rg (rs) ((r : Int))).a) ((rg (rs) ((r : Int))).n) ((rg (rs) ((r : Int))).c)), .ex (.int .i64 ((g : Int))), .ex (.pointer (ptrAt ((rg (rs) ((r : Int))).a) ((q : Int)).toNat)), .pr (fun _ w' => St w0 w' (bdK Ab A n c F (max met (g + 1)) A9 (nl + new.length + new9.length) c9 (outs ++ new.map (·.top) ++ new9.map (·.top)) rs (setc M' r q (-1)) (matsCk 34 2 new9 ++ (matsCk 34 2 new ++ ks)))), .ex (.pointer (ptrAt ((rg (rs) ((r : Int))).a) ((g : Int)).toNat)), .pr (fun _ w' => St w0 w' (bdK Ab A n c F (max met (g + 1)) A9 (nl + new.length + new9.length) c9 (outs ++ new.map (·.top) ++ new9.map (·.top)) rs (setc (setc M' r q (-1)) r g (-1)) (matsCk 34 2 new9 ++ (matsCk 34 2 new ++ ks))))] (by kernel_rfl) (by kernel_rfl) (List.forall_mem_cons.2 ⟨Yd.lasts_ex _, (List.forall_mem_cons.2 ⟨Yd.lasts_ex _, (List.forall_mem_cons.2 ⟨Yd.lasts_ex _, (List.forall_mem_cons.2 ⟨Yd.lasts_ex _, (List.forall_mem_cons.2 ⟨Yd.lasts_ex _, (List.forall_mem_cons.2 ⟨Yd.lasts_ex _, (List.forall_mem_cons.2 ⟨Yd.lasts_ex _, (List.forall_mem_cons.2 ⟨Yd.lasts_ex _, (List.forall_mem_cons.2 ⟨Yd.lasts_ex _, (List.forall_mem_cons.2 ⟨Yd.lasts_ex _, (List.forall_mem_cons.2 ⟨Yd.lasts_ex _, (List.forall_mem_cons.2 ⟨Yd.lasts_ex _, (List.forall_mem_cons.2 ⟨Yd.lasts_ex _, (List.forall_mem_cons.2 ⟨Yd.lasts_ex _, (List.forall_mem_cons.2 ⟨Yd.lasts_ex _, (List.forall_mem_cons.2 ⟨Yd.lasts_ex _, (List.forall_mem_cons.2 ⟨Yd.lasts_ex _, (List.forall_mem_cons.2 ⟨Yd.lasts_pr (fun v w w' h hb => h.later hb), (List.forall_mem_cons.2 ⟨Yd.lasts_ex _, (List.forall_mem_cons.2 ⟨Yd.lasts_pr (fun v w w' h hb => h.later hb), (fun _ h => by cases h)⟩)⟩)⟩)⟩)⟩)⟩)⟩)⟩)⟩)⟩)⟩)⟩)⟩)⟩)⟩)⟩)⟩)⟩)⟩)⟩) ⟨?_, ?_, ?_, ?_, ?_, ?_, ?_, ?_, ?_, ?_, ?_, ?_, ?_, ?_, ?_, ?_, ?_, ?_, ?_, ?_, trivial⟩ ?_
              · intro e1 w1 cc hlo hhi hb0 hp hun hq
                show Ops _ _ _ _ _ _ _
                refine Ops.mv_ptr rfl rfl rfl ?_
                refine Ops.nil ?_
                exact AfterN.dn rfl (Below.refl _ _) (by exact rfl)
              · intro e1 w1 cc hlo hhi hb0 hp hun hq
                show Ops _ _ _ _ _ _ _
                replace hlo := le_of_lo hlo (b := 0) (by kernel_rfl)
                replace hhi := le_of_hi hhi (b := 0) (by kernel_rfl)
                obtain rfl : cc = 0 := by omega
                have hb := hb0 rfl
                refine Ops.nilp ((hS8.rd 0 rfl).below hb) (Nat.succ_pos _) rfl rfl ?_
                refine Ops.nil ?_
                exact AfterN.dn rfl (Below.refl _ _) (by exact rfl)
              · intro e1 w1 cc hlo hhi hb0 hp hun hq
                show Ops _ _ _ _ _ _ _
                replace hlo := le_of_lo hlo (b := 0) (by kernel_rfl)
                replace hhi := le_of_hi hhi (b := 0) (by kernel_rfl)
                obtain rfl : cc = 0 := by omega
                have hb := hb0 rfl
                refine Ops.fld ((hS8.rd 0 rfl).below hb) rfl rfl rfl rfl inferInstance ?_
                refine Ops.nil ?_
                exact AfterN.dn rfl (Below.refl _ _) (by exact rfl)
              · intro e1 w1 cc hlo hhi hb0 hp hun hq
                show Ops _ _ _ _ _ _ _
                replace hlo := le_of_lo hlo (b := 0) (by kernel_rfl)
                replace hhi := le_of_hi hhi (b := 0) (by kernel_rfl)
                obtain rfl : cc = 0 := by omega
                have hb := hb0 rfl
                refine Ops.ldf_s ((hS8.rd 0 rfl).below hb) rfl rfl rfl rfl rfl ?_
                refine Ops.nil ?_
                exact AfterN.dn rfl (Below.refl _ _) (by exact rfl)
              · intro e1 w1 cc hlo hhi hb0 hp hun hq
                show Ops _ _ _ _ _ _ _
                refine Ops.mv_int rfl rfl rfl ?_
                refine Ops.nil ?_
                exact AfterN.dn rfl (Below.refl _ _) (by exact rfl)
              · intro e1 w1 cc hlo hhi hb0 hp hun hq
                show Ops _ _ _ _ _ _ _
                replace hlo := le_of_lo hlo (b := 0) (by kernel_rfl)
                replace hhi := le_of_hi hhi (b := 0) (by kernel_rfl)
                obtain rfl : cc = 0 := by omega
                have hb := hb0 rfl
                refine Ops.idx (hR8.top.later hb).2 rfl rfl rfl (by omega) (by omega) ?_
                refine Ops.nil ?_
                exact AfterN.dn rfl (Below.refl _ _) (by exact rfl)
              · intro e1 w1 cc hlo hhi hb0 hp hun hq
                show Ops _ _ _ _ _ _ _
                replace hlo := le_of_lo hlo (b := 0) (by kernel_rfl)
                replace hhi := le_of_hi hhi (b := 0) (by kernel_rfl)
                obtain rfl : cc = 0 := by omega
                have hb := hb0 rfl
                refine Ops.ld_sl (hR8.top.later hb) rfl (by omega) rfl rfl ?_
                refine Ops.nil ?_
                exact AfterN.dn rfl (Below.refl _ _) (by exact rfl)
              · intro e1 w1 cc hlo hhi hb0 hp hun hq
                show Ops _ _ _ _ _ _ _
                refine Ops.mv_int rfl rfl rfl ?_
                refine Ops.nil ?_
                exact AfterN.dn rfl (Below.refl _ _) (by exact rfl)
              · intro e1 w1 cc hlo hhi hb0 hp hun hq
                show Ops _ _ _ _ _ _ _
                refine Ops.mv_ptr rfl rfl rfl ?_
                refine Ops.nil ?_
                exact AfterN.dn rfl (Below.refl _ _) (by exact rfl)
              · intro e1 w1 cc hlo hhi hb0 hp hun hq
                show Ops _ _ _ _ _ _ _
                replace hlo := le_of_lo hlo (b := 0) (by kernel_rfl)
                replace hhi := le_of_hi hhi (b := 0) (by kernel_rfl)
                obtain rfl : cc = 0 := by omega
                have hb := hb0 rfl
                refine Ops.nilp ((hS8.rd 0 rfl).below hb) (Nat.succ_pos _) rfl rfl ?_
                refine Ops.nil ?_
                exact AfterN.dn rfl (Below.refl _ _) (by exact rfl)
              · intro e1 w1 cc hlo hhi hb0 hp hun hq
                show Ops _ _ _ _ _ _ _
                replace hlo := le_of_lo hlo (b := 0) (by kernel_rfl)
                replace hhi := le_of_hi hhi (b := 0) (by kernel_rfl)
                obtain rfl : cc = 0 := by omega
                have hb := hb0 rfl
                refine Ops.fld ((hS8.rd 0 rfl).below hb) rfl rfl rfl rfl inferInstance ?_
                refine Ops.nil ?_
                exact AfterN.dn rfl (Below.refl _ _) (by exact rfl)
              · intro e1 w1 cc hlo hhi hb0 hp hun hq
                show Ops _ _ _ _ _ _ _
                replace hlo := le_of_lo hlo (b := 0) (by kernel_rfl)
                replace hhi := le_of_hi hhi (b := 0) (by kernel_rfl)
                obtain rfl : cc = 0 := by omega
                have hb := hb0 rfl
                refine Ops.ldf_s ((hS8.rd 0 rfl).below hb) rfl rfl rfl rfl rfl ?_
                refine Ops.nil ?_
                exact AfterN.dn rfl (Below.refl _ _) (by exact rfl)
              · intro e1 w1 cc hlo hhi hb0 hp hun hq
                show Ops _ _ _ _ _ _ _
                refine Ops.mv_int rfl rfl rfl ?_
                refine Ops.nil ?_
                exact AfterN.dn rfl (Below.refl _ _) (by exact rfl)
              · intro e1 w1 cc hlo hhi hb0 hp hun hq
                show Ops _ _ _ _ _ _ _
                replace hlo := le_of_lo hlo (b := 0) (by kernel_rfl)
                replace hhi := le_of_hi hhi (b := 0) (by kernel_rfl)
                obtain rfl : cc = 0 := by omega
                have hb := hb0 rfl
                refine Ops.idx (hR8.top.later hb).2 rfl rfl rfl (by omega) (by omega) ?_
                refine Ops.nil ?_
                exact AfterN.dn rfl (Below.refl _ _) (by exact rfl)
              · intro e1 w1 cc hlo hhi hb0 hp hun hq
                show Ops _ _ _ _ _ _ _
                replace hlo := le_of_lo hlo (b := 0) (by kernel_rfl)
                replace hhi := le_of_hi hhi (b := 0) (by kernel_rfl)
                obtain rfl : cc = 0 := by omega
                have hb := hb0 rfl
                refine Ops.ld_sl (hR8.top.later hb) rfl (by omega) rfl rfl ?_
                refine Ops.nil ?_
                exact AfterN.dn rfl (Below.refl _ _) (by exact rfl)
              · intro e1 w1 cc hlo hhi hb0 hp hun hq
                show Ops _ _ _ _ _ _ _
                refine Ops.mv_int rfl rfl rfl ?_
                refine Ops.nil ?_
                exact AfterN.dn rfl (Below.refl _ _) (by exact rfl)
              · intro e1 w1 cc hlo hhi hb0 hp hun hq
                show Ops _ _ _ _ _ _ _
                replace hlo := le_of_lo hlo (b := 0) (by kernel_rfl)
                replace hhi := le_of_hi hhi (b := 0) (by kernel_rfl)
                obtain rfl : cc = 0 := by omega
                have hb := hb0 rfl
                refine Ops.idx (hrow8.later hb).2 rfl rfl rfl (by omega) (by omega) ?_
                refine Ops.nil ?_
                exact AfterN.dn rfl (Below.refl _ _) (by exact rfl)
              · intro e1 w1 cc hlo hhi hb0 hp hun hq
                show Ops _ _ _ _ _ _ _
                replace hlo := le_of_lo hlo (b := 0) (by kernel_rfl)
                replace hhi := le_of_hi hhi (b := 0) (by kernel_rfl)
                obtain rfl : cc = 0 := by omega
                have hb := hb0 rfl
                refine Ops.st_row (pre := [Bx 113 4 Ab [.slice A n c, .int .i64 (F : Int), .int .i64 (((max met (g + 1) : Nat) : Int)), .slice A9 (nl + new.length + new9.length) c9], CkR 32 A9 (nl + new.length + new9.length) c9 (outs ++ new.map (·.top) ++ new9.map (·.top))]) r (f := (q : Int)) (hS8.later hb) (by omega) (by omega) rfl rfl (by omega) ?_
                intro w6 hS6
                refine Ops.nil ?_
                exact AfterT.st rfl hS6
              · intro e1 w1 cc hlo hhi hb0 hp hun hq
                show Ops _ _ _ _ _ _ _
                replace hlo := le_of_lo hlo (b := 1) (by kernel_rfl)
                replace hhi := le_of_hi hhi (b := 1) (by kernel_rfl)
                obtain rfl : cc = 1 := by omega
                have hph := hp 17 _ _ (by kernel_rfl) rfl rfl (by kernel_rfl)
                have hrow6 := ((show St w0 _ (_ :: _ :: (mat 34 2 A n c rs (setc M' r q (-1)) ++ _)) from hph).tail.tail.rowsI hsh9.1).at_ (i := (r : Int)) (by omega) (by omega)
                have hl6 := hsh9.1
                refine Ops.idx (hrow6).2 rfl rfl rfl (by omega) (by omega) ?_
                refine Ops.nil ?_
                exact AfterN.dn rfl (Below.refl _ _) (by exact rfl)
              · intro e1 w1 cc hlo hhi hb0 hp hun hq
                show Ops _ _ _ _ _ _ _
                replace hlo := le_of_lo hlo (b := 1) (by kernel_rfl)
                replace hhi := le_of_hi hhi (b := 1) (by kernel_rfl)
                obtain rfl : cc = 1 := by omega
                have hph := hp 17 _ _ (by kernel_rfl) rfl rfl (by kernel_rfl)
                have hrow6 := ((show St w0 _ (_ :: _ :: (mat 34 2 A n c rs (setc M' r q (-1)) ++ _)) from hph).tail.tail.rowsI hsh9.1).at_ (i := (r : Int)) (by omega) (by omega)
                have hl6 := hsh9.1
                refine Ops.st_row (pre := [Bx 113 4 Ab [.slice A n c, .int .i64 (F : Int), .int .i64 (((max met (g + 1) : Nat) : Int)), .slice A9 (nl + new.length + new9.length) c9], CkR 32 A9 (nl + new.length + new9.length) c9 (outs ++ new.map (·.top) ++ new9.map (·.top))]) r (f := (g : Int)) hph (by omega) (by omega) rfl rfl (by omega) ?_
                intro w7 hS7
                refine Ops.nil ?_
                exact AfterT.st rfl hS7
              intro u w9 _ hu
              have hS9 : St w0 w9 (bdK Ab A n c F (max met (g + 1)) A9 (nl + new.length + new9.length) c9 (outs ++ new.map (·.top) ++ new9.map (·.top)) rs (setc (setc M' r q (-1)) r g (-1)) (matsCk 34 2 new9 ++ (matsCk 34 2 new ++ ks))) := hu 19 _ rfl (by kernel_rfl)
              rw [hundo] at hS9
              unfold bdK at hS9
              refine thenQ_n ?_
              refine Cd.region ?_
              refine Ops.mv_ptr rfl rfl rfl ?_
              refine Ops.mv_int rfl rfl rfl ?_
              refine Ops.nilp (hS9.rd 0 rfl) (Nat.succ_pos _) rfl rfl ?_
              refine Ops.fld (hS9.rd 0 rfl) rfl rfl rfl rfl inferInstance ?_
              refine Ops.stf 0 hS9 rfl rfl rfl rfl rfl ?_
              intro w10 hS10
              have hS10 : St w0 w10 (bdK Ab A n c F met A9 (nl + new.length + new9.length) c9 (outs ++ new.map (·.top) ++ new9.map (·.top)) rs M (matsCk 34 2 new9 ++ (matsCk 34 2 new ++ ks))) := hS10
              refine Ops.nil ?_
              refine blockQ_n ?_
              refine thenQ_n ?_
              refine Cd.region ?_
              refine Ops.mv_int rfl rfl rfl ?_
              refine Ops.add rfl rfl rfl (by omega) ?_
              refine Ops.mv_int rfl rfl rfl ?_
              refine Ops.nil ?_
              refine thenQ_n ?_
              refine ⟨(g + 1, A9, c9, new ++ new9), by show _ - (g + 1) < _ - g; omega, ⟨rfl, rfl, rfl, rfl, rfl, trivial⟩, ?_, by show q + 1 ≤ g + 1; omega, by show g + 1 ≤ _; omega, fun m hm => ?_, ?_⟩
              · show St w0 w10 (bdK Ab A n c F met A9 (nl + (new ++ new9).length) c9 (outs ++ (new ++ new9).map (·.top)) rs M (matsCk _ _ (new ++ new9) ++ ks))
                rw [List.length_append, List.map_append, matsCk_append, ← Nat.add_assoc, ← List.append_assoc]
                refine hS10.perm ?_
                unfold bdK
                exact List.Perm.cons _ (List.Perm.cons _ (List.Perm.append_left _ (by rw [List.append_assoc]; exact perm_lr _ _ _)))
              · rcases List.mem_append.1 hm with hm | hm
                · exact hnew m hm
                · exact hok9 m hm
              · show (new ++ new9).map _ = (List.range' (q + 1) (g + 1 - (q + 1))).flatMap _
                rw [hstep, List.map_append, hxs, hx9]
        · refine Cd.exit ?_
          refine thenQ_x ?_
          refine thenQ_x ?_
          refine blockQ_x ?_
          refine ret0_n ?_
          have hge : g = q + 1 + (min met (F - 1) - q) := by omega
          exact hexit hS4 hge
      · refine Ops.skipg rfl rfl rfl rfl rfl ?_
        refine Ops.skipg rfl rfl rfl rfl rfl ?_
        refine Ops.skipg rfl rfl rfl rfl rfl ?_
        refine Ops.skipg rfl rfl rfl rfl rfl ?_
        refine Ops.skipg rfl rfl rfl rfl rfl ?_
        refine Ops.skipg rfl rfl rfl rfl rfl ?_
        refine Ops.pick_f rfl rfl rfl ?_
        refine Ops.nil ?_
        refine thenQ_n ?_
        refine Cd.cond_f rfl ?_
        refine Cd.exit ?_
        refine thenQ_x ?_
        refine thenQ_x ?_
        refine blockQ_x ?_
        refine ret0_n ?_
        have hge : g = q + 1 + (min met (F - 1) - q) := by omega
        exact hexit hS4 hge
end Go.Proofs.YtjpkmpihmilgoaaGreat.Vc
/-
  The walks of the program's list of rooted forms, of its count, and of the law over both. Conditions: as each states them.
-/
namespace Go.Proofs.YtjpkmpihmilgoaaGreat.Vc
open Go.RowKit
section
variable {P : Program} {N : Nat} {ops : Array Oper} {K : Env → World → Prop} {rest : List Oper} {e : Env} {w0 w w' : World} {ks : List Ck} {d : Nat} {ty : TypeId} {pos : String} {af : Array Edge}
theorem Ops.bld4b {t : TypeId} {f0 f1 f2 f3 : Field} {z0 z1 z2 z3 y0 y1 y2 y3 : Value} {b b0 b1 b2 b3 : Nat} [Und P t (.struct #[f0, f1, f2, f3])] [Inf P t (.agg #[z0, z1, z2, z3]) 4 b] (I0 : Inf P f0.type y0 1 b0) (I1 : Inf P f1.type y1 1 b1) (I2 : Inf P f2.type y2 1 b2) (I3 : Inf P f3.type y3 1 b3)
    (ho : f0.offset = 0 ∧ f1.offset = 1 ∧ f2.offset = 2 ∧ f3.offset = 3) {x1 x2 : Operand} {v1 v2 : Value} (h1 : ev e x1 = v1) (h2 : ev e x2 = v2) (c1 : v1.oneCell' = true) (c2 : v2.oneCell' = true) (hb : Nat.blt d N = true)
    (hK : Ops P N ops K rest (upd e d (.agg #[z0, v1, v2, z3])) w) : Ops P N ops K (⟨some d, .build t #[(1, x1), (2, x2)], ty, pos, af, none⟩ :: rest) e w := by
  obtain ⟨inf, hi, hz0, hs, hby⟩ := Inf.get P t
  obtain ⟨i0, g0, _, s0, _⟩ := I0.get P f0.type
  obtain ⟨i1, g1, _, s1, _⟩ := I1.get P f1.type
  obtain ⟨i2, g2, _, s2, _⟩ := I2.get P f2.type
  obtain ⟨i3, g3, _, s3, _⟩ := I3.get P f3.type
  have e1 : v1.cells = #[v1] := by cases v1 <;> simp [Value.oneCell'] at c1 <;> rfl
  have e2 : v2.cells = #[v2] := by cases v2 <;> simp [Value.oneCell'] at c2 <;> rfl
  have ez : (Value.agg #[z0, z1, z2, z3]).cells = #[z0, z1, z2, z3] := rfl
  obtain ⟨o0, o1, o2, o3⟩ := ho
  refine .val (w' := w) ?_ hb hK
  simp [execOp, Instr.build, run_underlying (Und.out (P := P) (t := t)), sizeOf, typeInfo, zeroValue, hi, hz0, g0, g1, g2, g3, s0, s1, s2, s3, o0, o1, o2, o3, h1, h2, e1, e2, ez, Instr.fill]
theorem Ops.box4 {el : TypeId} {x : Operand} {v0 v1 v2 v3 : Value} (hS : St w0 w ks) (hx : ev e x = .agg #[v0, v1, v2, v3]) (hb : Nat.blt d N = true)
    (hK : ∀ A w', St w0 w' (Bx el 4 A [v0, v1, v2, v3] :: ks) → Ops P N ops K rest (upd e d (.pointer A)) w') (hM : isM [v0, v1, v2, v3] = false := by rfl) : Ops P N ops K (⟨some d, .box el x, ty, pos, af, none⟩ :: rest) e w := .box_agg hS hx hb rfl hK hM
end

/-- what the builder owns while its moves grow -/
def rfK (Ab A : Option Addr) (k c F : Nat) (rs : List SlV) : List Ck :=
  Bx 113 4 Ab [.slice A k c, .int .i64 (F : Int), .int .i64 (1 : Int), .slice none 0 0] :: CkR 34 A k c rs :: rowsCk 2 rs (List.replicate k (List.replicate F (-1)))

theorem rootedForms_c (n F : Nat) (hn : 1 ≤ n ∧ n ≤ 4) (hF : 2 ≤ F ∧ F ≤ 12) (w : World) :
    Ret Tryz.prog 51 [.int .i64 (n : Int), .int .i64 (F : Int)] w (fun v w' => ∃ A' c', ∃ new : List MatV, v = .slice A' new.length c' ∧ (∀ m ∈ new, m.ok) ∧ new.map (·.xss) = forms n F (F * n + 1) 0 1 (blank n F) ∧
      St w w' (CkR 32 A' new.length c' (new.map (·.top)) :: matsCk 34 2 new)) := by
  refine Ret.of_cd Tryz.func51 rfl Tryz.ntmps51 rfl (post1 rfl) ?_
  refine Cd.seq ?_
  refine Cd.region ?_
  refine Ops.mv_sl rfl rfl rfl ?_
  refine Ops.nil ?_
  refine thenQ_n ?_
  refine Cd.seq ?_
  refine Cd.region ?_
  refine Ops.mv_int rfl rfl rfl ?_
  refine Ops.bld4b (by exact inferInstance) (by exact inferInstance) (by exact inferInstance) (by exact inferInstance) ⟨rfl, rfl, rfl, rfl⟩ rfl rfl rfl rfl rfl ?_
  refine Ops.box4 (St.refl w) rfl rfl ?_
  intro Ab w1 hS1
  refine Ops.mv_ptr rfl rfl rfl ?_
  refine Ops.nil ?_
  refine thenQ_n ?_
  refine Cd.seq ?_
  refine Cd.seq ?_
  refine Cd.region ?_
  refine Ops.mv_int rfl rfl rfl ?_
  refine Ops.mv_int rfl rfl rfl ?_
  refine Ops.nil ?_
  refine thenQ_n ?_
  refine Cd.block ?_
  have hS0 : St w w1 (rfK Ab none 0 0 F []) := (hS1.nil 34).perm (List.perm_append_comm (l₁ := [_]) (l₂ := [_]))
  refine Cd.loop (α := Nat × Option Addr × Nat × List SlV) (fun s => [(1, .int .i64 (F : Int)), (5, .pointer Ab), (9, .int .i64 (n : Int)), (10, .int .i64 (s.1 : Int))]) (fun s w' => St w w' (rfK Ab s.2.1 s.1 s.2.2.1 F s.2.2.2) ∧ s.1 ≤ n ∧ s.2.2.2.length = s.1) (fun s => n - s.1) (0, none, 0, []) ⟨rfl, rfl, rfl, rfl, trivial⟩ ⟨hS0, Nat.zero_le _, rfl⟩ ?_
  rintro ⟨k, A3, c3, rs⟩ e w4 ⟨hS4, hk, hlen⟩
  dsimp only at hS4 hk hlen ⊢
  refine Cd.seq ?_
  refine Cd.region ?_
  refine Ops.lss rfl rfl rfl ?_
  refine Ops.nil ?_
  refine thenQ_n ?_
  refine Cd.seq ?_
  refine Cd.cond_p _ rfl (fun h1 => ?_) (fun h1 => ?_)
  · have hk' : k < n := by omega
    refine Cd.skip ?_
    refine thenQ_n ?_
    refine Cd.seq ?_
    refine Cd.block ?_
    have hB := (show St w w4 (_ :: _) from hS4).rd 0 rfl
    refine Cd.drawN [9, 12] [.ex (.pointer (Ab)), .ex (.pointer (Ab)), .ex (.pointer (Ab)), .ex (.pointer (ptrAt (Ab) 0)), .ex (.slice (A3) (k) (c3)), .pr (fun v w' => ∃ A9, v = .slice A9 1 1 ∧ St w w' (CkI 2 A9 1 1 [-1] :: rfK Ab A3 k c3 F rs)), .ex (.int .i64 ((F : Int))), .pr (fun v w' => ∃ A4, v = .slice A4 F F ∧ St w w' (CkI 2 A4 F F (List.replicate F (-1)) :: rfK Ab A3 k c3 F rs)), .pr (fun v w' => ∃ A4 A9, v = .slice A9 1 1 ∧ St w w' (CkR 34 A9 1 1 [⟨A4, F, F⟩] :: CkI 2 A4 F F (List.replicate F (-1)) :: rfK Ab A3 k c3 F rs)), .pr (fun v w' => ∃ A4 A10 c10, v = .slice A10 (k + 1) c10 ∧ St w w' (CkI 2 A4 F F (List.replicate F (-1)) :: Bx 113 4 Ab [.slice A3 k c3, .int .i64 (F : Int), .int .i64 (1 : Int), .slice none 0 0] :: CkR 34 A10 (k + 1) c10 (rs ++ [⟨A4, F, F⟩]) :: rowsCk 2 rs (List.replicate k (List.replicate F (-1))))), .ex (.pointer (Ab)), .ex (.pointer (ptrAt (Ab) 0)), .pr (fun _ w' => ∃ A4 A10 c10, St w w' (CkI 2 A4 F F (List.replicate F (-1)) :: Bx 113 4 Ab [.slice A10 (k + 1) c10, .int .i64 (F : Int), .int .i64 (1 : Int), .slice none 0 0] :: CkR 34 A10 (k + 1) c10 (rs ++ [⟨A4, F, F⟩]) :: rowsCk 2 rs (List.replicate k (List.replicate F (-1)))))] (by kernel_rfl) (by kernel_rfl) (List.forall_mem_cons.2 ⟨Yd.lasts_ex _, (List.forall_mem_cons.2 ⟨Yd.lasts_ex _, (List.forall_mem_cons.2 ⟨Yd.lasts_ex _, (List.forall_mem_cons.2 ⟨Yd.lasts_ex _, (List.forall_mem_cons.2 ⟨Yd.lasts_ex _, (List.forall_mem_cons.2 ⟨Yd.lasts_pr (fun v w w' h hb => by obtain ⟨A9, hv, hT⟩ := h; exact ⟨A9, hv, hT.later hb⟩), (List.forall_mem_cons.2 ⟨Yd.lasts_ex _, (List.forall_mem_cons.2 ⟨Yd.lasts_pr (fun v w w' h hb => by obtain ⟨A4, hv, hT⟩ := h; exact ⟨A4, hv, hT.later hb⟩), (List.forall_mem_cons.2 ⟨Yd.lasts_pr (fun v w w' h hb => by obtain ⟨A4, A9, hv, hT⟩ := h; exact ⟨A4, A9, hv, hT.later hb⟩), (List.forall_mem_cons.2 ⟨Yd.lasts_pr (fun v w w' h hb => by obtain ⟨A4, A10, c10, hv, hT⟩ := h; exact ⟨A4, A10, c10, hv, hT.later hb⟩), (List.forall_mem_cons.2 ⟨Yd.lasts_ex _, (List.forall_mem_cons.2 ⟨Yd.lasts_ex _, (List.forall_mem_cons.2 ⟨Yd.lasts_pr (fun v w w' h hb => by obtain ⟨A4, A10, c10, hT⟩ := h; exact ⟨A4, A10, c10, hT.later hb⟩), (fun _ h => by cases h)⟩)⟩)⟩)⟩)⟩)⟩)⟩)⟩)⟩)⟩)⟩)⟩)⟩) ⟨?_, ?_, ?_, ?_, ?_, ?_, ?_, ?_, ?_, ?_, ?_, ?_, ?_, trivial⟩ ?_
    · intro e1 w1 cc hlo hhi hb0 hp hun hq
      show Ops _ _ _ _ _ _ _
      refine Ops.mv_ptr rfl rfl rfl ?_
      refine Ops.nil ?_
      exact AfterN.dn rfl (Below.refl _ _) (by exact rfl)
    · intro e1 w1 cc hlo hhi hb0 hp hun hq
      show Ops _ _ _ _ _ _ _
      refine Ops.mv_ptr rfl rfl rfl ?_
      refine Ops.nil ?_
      exact AfterN.dn rfl (Below.refl _ _) (by exact rfl)
    · intro e1 w1 cc hlo hhi hb0 hp hun hq
      show Ops _ _ _ _ _ _ _
      replace hlo := le_of_lo hlo (b := 0) (by kernel_rfl)
      replace hhi := le_of_hi hhi (b := 0) (by kernel_rfl)
      obtain rfl : cc = 0 := by omega
      have hb := hb0 rfl
      refine Ops.nilp (hB.below hb) (Nat.succ_pos _) rfl rfl ?_
      refine Ops.nil ?_
      exact AfterN.dn rfl (Below.refl _ _) (by exact rfl)
    · intro e1 w1 cc hlo hhi hb0 hp hun hq
      show Ops _ _ _ _ _ _ _
      replace hlo := le_of_lo hlo (b := 0) (by kernel_rfl)
      replace hhi := le_of_hi hhi (b := 0) (by kernel_rfl)
      obtain rfl : cc = 0 := by omega
      have hb := hb0 rfl
      refine Ops.fld (hB.below hb) rfl rfl rfl rfl inferInstance ?_
      refine Ops.nil ?_
      exact AfterN.dn rfl (Below.refl _ _) (by exact rfl)
    · intro e1 w1 cc hlo hhi hb0 hp hun hq
      show Ops _ _ _ _ _ _ _
      replace hlo := le_of_lo hlo (b := 0) (by kernel_rfl)
      replace hhi := le_of_hi hhi (b := 0) (by kernel_rfl)
      obtain rfl : cc = 0 := by omega
      have hb := hb0 rfl
      refine Ops.ldf_s (hB.below hb) rfl rfl rfl rfl rfl ?_
      refine Ops.nil ?_
      exact AfterN.dn rfl (Below.refl _ _) (by exact rfl)
    · intro e1 w1 cc hlo hhi hb0 hp hun hq
      show Ops _ _ _ _ _ _ _
      replace hlo := le_of_lo hlo (b := 0) (by kernel_rfl)
      replace hhi := le_of_hi hhi (b := 0) (by kernel_rfl)
      obtain rfl : cc = 0 := by omega
      have hb := hb0 rfl
      refine Ops.bs1I (St.refl _) rfl rfl rfl ?_
      intro A9 w9 hst
      refine Ops.nil ?_
      exact AfterN.dn rfl hst.below ⟨A9, rfl, (hS4.later hb).call hst⟩
    · intro e1 w1 cc hlo hhi hb0 hp hun hq
      show Ops _ _ _ _ _ _ _
      refine Ops.mv_int rfl rfl rfl ?_
      refine Ops.nil ?_
      exact AfterN.dn rfl (Below.refl _ _) (by exact rfl)
    · intro e1 w1 cc hlo hhi hb0 hp hun hq
      show Ops _ _ _ _ _ _ _
      replace hlo := le_of_lo hlo (b := 0) (by kernel_rfl)
      replace hhi := le_of_hi hhi (b := 0) (by kernel_rfl)
      obtain rfl : cc = 0 := by omega
      have hb := hb0 rfl
      obtain ⟨A9, h17, hT⟩ := (hp 5 _ _ (by kernel_rfl) rfl rfl (by kernel_rfl))
      have hb := hb0 rfl
      refine Ops.call (Repeat_c A9 1 (-1) F _ (hT.rdI 0 rfl) (by omega)) rfl (by exact congrArg (fun v => [v, Value.int .i64 (F : Int)]) h17) rfl ?_
      rintro _ w2 ⟨A4, rfl, hst⟩
      refine Ops.nil ?_
      exact AfterN.dn rfl hst.below ⟨A4, rfl, hT.tail.call hst⟩
    · intro e1 w1 cc hlo hhi hb0 hp hun hq
      show Ops _ _ _ _ _ _ _
      replace hlo := le_of_lo hlo (b := 0) (by kernel_rfl)
      replace hhi := le_of_hi hhi (b := 0) (by kernel_rfl)
      obtain rfl : cc = 0 := by omega
      have hb := hb0 rfl
      obtain ⟨A4, h19, hT⟩ := (hp 7 _ _ (by kernel_rfl) rfl rfl (by kernel_rfl))
      have hb := hb0 rfl
      refine Ops.bs1R (St.refl _) (by exact h19) rfl rfl ?_
      intro A9 w9 hst
      refine Ops.nil ?_
      exact AfterN.dn rfl hst.below ⟨A4, A9, rfl, hT.call hst⟩
    · intro e1 w1 cc hlo hhi hb0 hp hun hq
      show Ops _ _ _ _ _ _ _
      replace hlo := le_of_lo hlo (b := 0) (by kernel_rfl)
      replace hhi := le_of_hi hhi (b := 0) (by kernel_rfl)
      obtain rfl : cc = 0 := by omega
      have hb := hb0 rfl
      obtain ⟨A4, A9, h20, hT⟩ := (hp 8 _ _ (by kernel_rfl) rfl rfl (by kernel_rfl))
      unfold rfK at hT
      refine Ops.appR 3 hT rfl (hT.rdR 0 rfl) rfl (by exact h20) rfl (by omega) (by omega) rfl ?_
      intro A10 c10 w10 hT10
      refine Ops.nil ?_
      exact AfterT.dn rfl ⟨A4, A10, c10, rfl, hT10.tail⟩
    · intro e1 w1 cc hlo hhi hb0 hp hun hq
      show Ops _ _ _ _ _ _ _
      replace hlo := le_of_lo hlo (b := 1) (by kernel_rfl)
      replace hhi := le_of_hi hhi (b := 1) (by kernel_rfl)
      obtain rfl : cc = 1 := by omega
      have hph := hp 9 _ _ (by kernel_rfl) rfl rfl (by kernel_rfl)
      obtain ⟨A4, A10, c10, h21, hT⟩ := hph
      refine Ops.nilp ((hT.rd 1 rfl)) (Nat.succ_pos _) rfl rfl ?_
      refine Ops.nil ?_
      exact AfterN.dn rfl (Below.refl _ _) (by exact rfl)
    · intro e1 w1 cc hlo hhi hb0 hp hun hq
      show Ops _ _ _ _ _ _ _
      replace hlo := le_of_lo hlo (b := 1) (by kernel_rfl)
      replace hhi := le_of_hi hhi (b := 1) (by kernel_rfl)
      obtain rfl : cc = 1 := by omega
      have hph := hp 9 _ _ (by kernel_rfl) rfl rfl (by kernel_rfl)
      obtain ⟨A4, A10, c10, h21, hT⟩ := hph
      refine Ops.fld ((hT.rd 1 rfl)) rfl rfl rfl rfl inferInstance ?_
      refine Ops.nil ?_
      exact AfterN.dn rfl (Below.refl _ _) (by exact rfl)
    · intro e1 w1 cc hlo hhi hb0 hp hun hq
      show Ops _ _ _ _ _ _ _
      replace hlo := le_of_lo hlo (b := 1) (by kernel_rfl)
      replace hhi := le_of_hi hhi (b := 1) (by kernel_rfl)
      obtain rfl : cc = 1 := by omega
      have hph := hp 9 _ _ (by kernel_rfl) rfl rfl (by kernel_rfl)
      obtain ⟨A4, A10, c10, h21, hT⟩ := hph
      refine Ops.stf 1 hT rfl rfl (by exact h21) rfl rfl ?_
      intro w11 hT11
      refine Ops.nil ?_
      exact AfterT.st rfl ⟨A4, A10, c10, hT11⟩
    intro u w5 _ hu
    obtain ⟨A4, A10, c10, hT⟩ := hu 12 _ rfl (by kernel_rfl)
    refine blockQ_n ?_
    refine thenQ_n ?_
    refine Cd.region ?_
    refine Ops.add rfl rfl rfl (by omega) ?_
    refine Ops.mv_int rfl rfl rfl ?_
    refine Ops.nil ?_
    refine thenQ_n ?_
    refine ⟨(k + 1, A10, c10, rs ++ [⟨A4, F, F⟩]), by show n - (k + 1) < n - k; omega, ⟨rfl, rfl, rfl, rfl, trivial⟩, ?_, hk', by simp [hlen]⟩
    show St w w5 (_ :: CkR _ A10 (k + 1) c10 (rs ++ [_]) :: rowsCk _ (rs ++ [_]) (List.replicate (k + 1) (List.replicate F (-1))))
    rw [List.replicate_succ', rowsCk_append (by simp [hlen])]
    refine hT.perm ?_
    exact List.perm_append_comm (l₁ := [_]) (l₂ := _ :: _ :: rowsCk 2 rs (List.replicate k (List.replicate F (-1))))
  · have hkn : k = n := by omega
    subst hkn
    have hI := Inv.blank (n := k) (F := F) (by omega) (by omega)
    have hfe := growI_forms (F * k + 1) hI
    have hS5 : St w w4 (bdK Ab A3 k c3 F 1 none 0 0 [] rs (blank k F) []) := by
      have := (hS4.nil 32).perm (List.Perm.swap _ _ _)
      unfold bdK
      rw [List.append_nil]
      exact this
    refine Cd.exit ?_
    refine thenQ_x ?_
    refine thenQ_x ?_
    refine blockQ_x ?_
    refine thenQ_n ?_
    refine Cd.seq ?_
    refine Cd.region ?_
    refine Ops.mv_ptr rfl rfl rfl ?_
    refine Ops.call (build_c k F (by omega) ⟨by omega, by omega⟩ Ab A3 c3 rs (F * k + 1) 0 1 (blank k F) hI (by omega) w w4 [] none 0 0 [] 0 0 (by omega) (by omega) hS5 (by rw [hfe]; have := forms_small hn hF (F * k + 1); omega)) rfl rfl rfl ?_
    rintro _ w6 ⟨A', c', new, rfl, hok, hx, hS6⟩
    rw [hfe] at hx
    rw [Nat.zero_add, List.nil_append] at hS6
    unfold bdK at hS6
    refine Ops.nil ?_
    refine thenQ_n ?_
    refine Cd.seq ?_
    refine Cd.region ?_
    refine Ops.mv_ptr rfl rfl rfl ?_
    refine Ops.nilp (hS6.rd 0 rfl) (Nat.succ_pos _) rfl rfl ?_
    refine Ops.fld (hS6.rd 0 rfl) rfl rfl rfl rfl inferInstance ?_
    refine Ops.ldf_s (hS6.rd 0 rfl) rfl rfl rfl rfl rfl ?_
    refine Ops.mv_sl rfl rfl rfl ?_
    refine Ops.nil ?_
    refine thenQ_n ?_
    refine Cd.ret ?_
    refine ret1_s rfl ?_
    refine ⟨A', c', new, rfl, hok, hx, ?_⟩
    refine hS6.sub ?_
    rw [List.append_nil]
    exact (List.Sublist.cons_cons _ (List.sublist_append_right _ _)).cons _

theorem implCountRooted_c (rank flags : Int) (w : World) : Ret Tryz.prog 12 [.int .i64 rank, .int .i64 flags] w (fun v w' => v = .tuple #[.int .i64 (cnt1 rank flags), .int .i64 (cnt2 rank flags)] ∧ St w w' []) := by
  refine Ret.of_cd Tryz.func12 rfl Tryz.ntmps12 rfl (post2 rfl) ?_
  refine Cd.seq ?_
  refine Cd.region ?_
  refine Ops.mv_int rfl rfl rfl ?_
  refine Ops.mv_int rfl rfl rfl ?_
  refine Ops.nil ?_
  refine thenQ_n ?_
  refine Cd.seq ?_
  refine Cd.seq ?_
  refine Cd.region ?_
  refine Ops.mv_int rfl rfl rfl ?_
  refine Ops.mv_int rfl rfl rfl ?_
  refine Ops.call (isSmall_c rank flags _) rfl rfl rfl ?_
  rintro _ w ⟨rfl, rfl⟩
  first | refine Ops.not_p rfl rfl ?_ | refine Ops.not rfl rfl ?_
  refine Ops.nil ?_
  refine thenQ_n ?_
  refine Cd.cond_p _ rfl (fun h => ?_) (fun h => ?_)
  · have hs : ¬ Small rank flags := h
    refine Cd.seq ?_
    refine Cd.region ?_
    refine Ops.mv_int rfl rfl rfl ?_
    refine Ops.mv_int rfl rfl rfl ?_
    refine Ops.nil ?_
    refine thenQ_n ?_
    refine Cd.ret ?_
    refine thenQ_r ?_
    refine ret2_ii rfl rfl ?_
    exact ⟨by rw [cnt1, cnt2, if_neg hs, if_neg hs], St.refl _⟩
  · have hs : Small rank flags := Classical.not_not.1 h
    obtain ⟨n, rfl⟩ : ∃ n : Nat, rank = n := ⟨rank.toNat, by have := hs.1; omega⟩
    obtain ⟨F, rfl⟩ : ∃ F : Nat, flags = F := ⟨flags.toNat, by have := hs.2; omega⟩
    have hs1 := hs.1
    have hs2 := hs.2
    refine Cd.skip ?_
    refine thenQ_n ?_
    refine Cd.seq ?_
    refine Cd.region ?_
    refine Ops.mv_int rfl rfl rfl ?_
    refine Ops.mv_int rfl rfl rfl ?_
    refine Ops.call (rootedForms_c n F (by omega) (by omega) _) rfl rfl rfl ?_
    rintro _ w2 ⟨A', c', new, rfl, hok, hx, hS⟩
    refine Ops.call (sizeM_c _ _ _ _) rfl rfl rfl ?_
    rintro _ w2 ⟨rfl, rfl⟩
    refine Ops.mv_int rfl rfl rfl ?_
    refine Ops.mv_int rfl rfl rfl ?_
    refine Ops.nil ?_
    refine thenQ_n ?_
    refine Cd.ret ?_
    refine ret2_ii rfl rfl ?_
    refine ⟨?_, hS.none⟩
    rw [cnt1, cnt2, if_pos hs, if_pos hs, Int.toNat_natCast, Int.toNat_natCast, ← hx, List.length_map]

end Go.Proofs.YtjpkmpihmilgoaaGreat.Vc
