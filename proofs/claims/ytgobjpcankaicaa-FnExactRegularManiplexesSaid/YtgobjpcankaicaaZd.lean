/-
  The texts B6, B7, Drn, Agg, G1, G2, G3, Gct, G4, G5 in one. Conditions: as each part states them.
-/
import Derived.Test.YtgobjpcankaicaaZc
import Derived.Test.YtgobjpcankaicaaZb
import Derived.KernelRfl
/-
  The walk of isManiplex. Conditions: as each states them.
-/
namespace Go.Proofs.Ytgobjpcankaicaa.Vc
open Go.RowKit

theorem rg_cut {rs : List SlV} {l m : Nat} {j : Nat} (hj : j < m) : rg ((rs.drop l).take m) (j : Int) = rg rs ((l + j : Nat) : Int) := by
  have e : (((l + j : Nat) : Int)).toNat = l + j := by omega
  rw [rg, rg, e]
  simp [List.getD_eq_getElem?_getD, List.getElem?_take, hj]

theorem isManiplex_c (A : Option Addr) (n c : Nat) (rs : List SlV) (xss : List (List Int)) (w : World) (hR : RowsI w A n rs xss) (hn : n ≤ c) (hc : c ≤ 9223372036854775807) :
    Ret Try.prog 122 [.agg #[.slice A n c]] w (fun v w' => v = .bool (decide (Mani xss)) ∧ St w w' []) := by
  have hxl := hR.len
  have r0 : 0 < n → (gl xss 0).length = (rg rs 0).n := fun h => hR.rowLen (by omega) (by omega)
  refine Ret.of_cd Try.func122 rfl Try.ntmps122 rfl (post1 rfl) ?_
  refine Cd.seq ?_
  refine Cd.region ?_
  -- stop: BOX 24 t0=app -> 1
  refine Ops.box1 (St.refl w) rfl rfl ?_
  intro Ab w1 hS
  refine Ops.mv_bool rfl rfl rfl ?_
  refine Ops.nil ?_
  refine thenQ_n ?_
  refine Cd.seq ?_
  refine Cd.seq ?_
  refine Cd.region ?_
  -- stop: CALL impl.Maniplex).rank(t1=toArray) -> 12
  refine Ops.call (rank_c _ _ _ _ _ _ (hS.rd 0 rfl) rfl) rfl rfl rfl ?_
  rintro _ _ ⟨rfl, rfl⟩
  skip
  -- stop: CALL impl.within(t12, 1, 5) -> 13
  refine Ops.call (within_c _ _ _ _) rfl rfl rfl ?_
  rintro _ _ ⟨rfl, rfl⟩
  first | refine Ops.not_p rfl rfl ?_ | refine Ops.not rfl rfl ?_
  refine Ops.mv_bool rfl rfl rfl ?_
  -- stop: guard 15
  refine Ops.split_p 15 rfl (fun h1 => ?_) (fun h1 => ?_)
  · refine Ops.skipg rfl rfl rfl rfl rfl ?_
    refine Ops.skipg rfl rfl rfl rfl rfl ?_
    refine Ops.skipg rfl rfl rfl rfl rfl ?_
    refine Ops.pick_t rfl rfl rfl ?_
    refine Ops.nil ?_
    refine thenQ_n ?_
    -- stop: cond
    refine Cd.cond_t rfl ?_
    refine Cd.seq ?_
    refine Cd.region ?_
    refine Ops.mv_bool rfl rfl rfl ?_
    refine Ops.nil ?_
    refine thenQ_n ?_
    refine Cd.ret ?_
    refine thenQ_r ?_
    refine ret1_b rfl ?_
    -- stop: end
    exact ⟨by rw [decide_eq_false (fun h : Mani xss => by have := h.1; omega)], hS.none⟩
  have hM := hS.oldRows hR
  have r0 := r0 (by omega)
  refine Ops.rung rfl rfl rfl ?_
  -- stop: CALL impl.Maniplex).flags(t1=toArray) -> 16
  refine Ops.call (flags_c _ _ _ _ _ _ _ _ (hS.rd 0 rfl) rfl hM (by omega)) rfl rfl rfl ?_
  rintro _ _ ⟨rfl, rfl⟩
  refine Ops.rung rfl rfl rfl ?_
  -- stop: CALL impl.within(t16, 2, 400) -> 17
  refine Ops.call (within_c _ _ _ _) rfl rfl rfl ?_
  rintro _ _ ⟨rfl, rfl⟩
  refine Ops.rung rfl rfl rfl ?_
  first | refine Ops.not_p rfl rfl ?_ | refine Ops.not rfl rfl ?_
  refine Ops.pick_f rfl rfl rfl ?_
  refine Ops.nil ?_
  refine thenQ_n ?_
  -- stop: cond
  refine Cd.cond_p _ rfl (fun h3 => ?_) (fun h3 => ?_)
  · refine Cd.seq ?_
    refine Cd.region ?_
    refine Ops.mv_bool rfl rfl rfl ?_
    refine Ops.nil ?_
    refine thenQ_n ?_
    refine Cd.ret ?_
    refine thenQ_r ?_
    refine ret1_b rfl ?_
    -- stop: end
    exact ⟨by rw [decide_eq_false (fun h : Mani xss => by have := h.2.1; omega)], hS.none⟩
  refine Cd.skip ?_
  refine thenQ_n ?_
  refine Cd.seq ?_
  refine Cd.seq ?_
  refine Cd.region ?_
  -- stop: FIELDADDR 24 t1=toArray 0 -> 20
  refine Ops.fld (hS.rd 0 rfl) rfl rfl rfl rfl inferInstance ?_
  refine Ops.ldf_s (hS.rd 0 rfl) rfl rfl rfl rfl rfl ?_
  refine Ops.len rfl rfl ?_
  refine Ops.mv_int rfl rfl rfl ?_
  refine Ops.nil ?_
  refine thenQ_n ?_
  refine Cd.block ?_
  -- stop: loop
  refine Cd.loop (α := Nat) (fun k => [(1, .pointer Ab), (21, .slice A n c), (22, .int .i64 (n : Int)), (23, .int .i64 (k : Int))]) (fun k w' => St w w' [Bx 24 1 Ab [.slice A n c]] ∧ k ≤ n ∧ Part xss k) (fun k => n - k) 0 ⟨rfl, rfl, rfl, rfl, trivial⟩ ⟨hS, Nat.zero_le _, fun p hp => by simp at hp⟩ ?_
  rintro k e w2 ⟨hS2, hk, hP⟩
  have hM := hS2.oldRows hR
  refine Cd.seq ?_
  refine Cd.region ?_
  refine Ops.lss rfl rfl rfl ?_
  refine Ops.nil ?_
  refine thenQ_n ?_
  refine Cd.seq ?_
  -- stop: cond
  refine Cd.cond_p _ rfl (fun h5 => ?_) (fun h5 => ?_)
  · have hkx : k < xss.length := by omega
    have rk := hR.rowLen (k := (k : Int)) (by omega) (by omega)
    have hrow := hM.at_ (i := k) (by omega) h5
    refine Cd.skip ?_
    refine thenQ_n ?_
    refine Cd.seq ?_
    refine Cd.block ?_
    refine Cd.seq ?_
    refine Cd.region ?_
    -- stop: INDEXADDR 22 t21 t23 -> 25
    refine Ops.idx hM.top.2 rfl rfl rfl (by omega) h5 ?_
    refine Ops.ld_sl hM.top rfl (by omega) rfl rfl ?_
    refine Ops.mv_sl rfl rfl rfl ?_
    refine Ops.nil ?_
    refine thenQ_n ?_
    refine Cd.seq ?_
    refine Cd.region ?_
    refine Ops.mv_sl rfl rfl rfl ?_
    -- stop: CALL impl.isFreeInvolution(t27) -> 28
    refine Ops.call (isFreeInvolution_c _ _ _ _ _ hrow) rfl rfl rfl ?_
    rintro _ w3 ⟨rfl, hst⟩
    have hS3 := hS2.later hst.below
    have hM := hS3.oldRows hR
    first | refine Ops.not_p rfl rfl ?_ | refine Ops.not rfl rfl ?_
    refine Ops.mv_bool rfl rfl rfl ?_
    -- stop: guard 30
    refine Ops.split_p 30 rfl (fun h6 => ?_) (fun h6 => ?_)
    · refine Ops.skipg rfl rfl rfl rfl rfl ?_
      refine Ops.skipg rfl rfl rfl rfl rfl ?_
      refine Ops.skipg rfl rfl rfl rfl rfl ?_
      refine Ops.skipg rfl rfl rfl rfl rfl ?_
      refine Ops.pick_t rfl rfl rfl ?_
      refine Ops.nil ?_
      refine thenQ_n ?_
      -- stop: cond
      refine Cd.cond_t rfl ?_
      refine Cd.seq ?_
      refine Cd.region ?_
      refine Ops.mv_bool rfl rfl rfl ?_
      refine Ops.nil ?_
      refine thenQ_n ?_
      refine Cd.ret ?_
      refine blockQ_r ?_
      refine thenQ_r ?_
      refine thenQ_r ?_
      refine blockQ_r ?_
      refine thenQ_r ?_
      refine ret1_b rfl ?_
      -- stop: end
      exact ⟨by rw [decide_eq_false (fun h : Mani xss => h6 ⟨(h.2.2.1.at_ hkx).2.1, (h.2.2.1.at_ hkx).2.2⟩)], hS3.none⟩
    · have h6 := Classical.not_not.1 h6
      refine Ops.rung rfl rfl rfl ?_
      refine Ops.mv_sl rfl rfl rfl ?_
      refine Ops.rung rfl rfl rfl ?_
      -- stop: CALL impl.size[int64](t31) -> 32
      refine Ops.call (sizeI_c _ _ _ _) rfl rfl rfl ?_
      rintro _ _ ⟨rfl, rfl⟩
      refine Ops.rung rfl rfl rfl ?_
      -- stop: CALL impl.Maniplex).flags(t1=toArray) -> 33
      refine Ops.call (flags_c _ _ _ _ _ _ _ _ (hS3.rd 0 rfl) rfl hM (by omega)) rfl rfl rfl ?_
      rintro _ _ ⟨rfl, rfl⟩
      refine Ops.rung rfl rfl rfl ?_
      refine Ops.neq rfl rfl rfl ?_
      refine Ops.pick_f rfl rfl rfl ?_
      refine Ops.nil ?_
      refine thenQ_n ?_
      -- stop: cond
      refine Cd.cond_p _ rfl (fun h7 => ?_) (fun h7 => ?_)
      · refine Cd.seq ?_
        refine Cd.region ?_
        refine Ops.mv_bool rfl rfl rfl ?_
        refine Ops.nil ?_
        refine thenQ_n ?_
        refine Cd.ret ?_
        refine blockQ_r ?_
        refine thenQ_r ?_
        refine thenQ_r ?_
        refine blockQ_r ?_
        refine thenQ_r ?_
        refine ret1_b rfl ?_
        -- stop: end
        exact ⟨by rw [decide_eq_false (fun h : Mani xss => h7 (by have := (h.2.2.1.at_ hkx).1; omega))], hS3.none⟩
      · refine Cd.skip ?_
        refine blockQ_n ?_
        refine thenQ_n ?_
        refine Cd.region ?_
        refine Ops.add rfl rfl rfl (by omega) ?_
        refine Ops.mv_int rfl rfl rfl ?_
        refine Ops.nil ?_
        refine thenQ_n ?_
        -- stop: round
        exact ⟨k + 1, by omega, ⟨rfl, rfl, rfl, rfl, trivial⟩, hS3, by omega, hP.step hkx (by omega) h6.1 h6.2⟩
  · have hr1 := hP.all (by omega)
    have hs := hr1.sys
    have hrk : ∀ i : Int, 0 ≤ i → i < n → (rg rs i).n = (rg rs 0).n := fun i h0 h1 => by
      have e1 := hR.rowLen h0 h1
      have e2 := (hr1 _ (gl_in h0 (by omega))).1
      omega
    refine Cd.exit ?_
    refine thenQ_x ?_
    refine thenQ_x ?_
    refine blockQ_x ?_
    refine thenQ_n ?_
    refine Cd.seq ?_
    refine Cd.seq ?_
    refine Cd.region ?_
    -- stop: FIELDADDR 24 t1=toArray 0 -> 37
    refine Ops.fld (hS2.rd 0 rfl) rfl rfl rfl rfl inferInstance ?_
    refine Ops.ldf_s (hS2.rd 0 rfl) rfl rfl rfl rfl rfl ?_
    refine Ops.len rfl rfl ?_
    refine Ops.mv_int rfl rfl rfl ?_
    refine Ops.nil ?_
    refine thenQ_n ?_
    refine Cd.block ?_
    -- stop: loop
    refine Cd.loop (α := Nat) (fun i => [(1, .pointer Ab), (38, .slice A n c), (39, .int .i64 (n : Int)), (40, .int .i64 (i : Int))]) (fun i w' => St w w' [Bx 24 1 Ab [.slice A n c]] ∧ i ≤ n ∧ ∀ i', i' < i → ∀ k, k < n → i' + 2 ≤ k → ∀ f, f < (gl xss 0).length → Comm xss i' k f) (fun i => n - i) 0 ⟨rfl, rfl, rfl, rfl, trivial⟩ ⟨hS2, Nat.zero_le _, fun i' hi' => by omega⟩ ?_
    rintro i e w3 ⟨hS3, hi, hC⟩
    have hM := hS3.oldRows hR
    refine Cd.seq ?_
    refine Cd.region ?_
    refine Ops.lss rfl rfl rfl ?_
    refine Ops.nil ?_
    refine thenQ_n ?_
    refine Cd.seq ?_
    -- stop: cond
    refine Cd.cond_p _ rfl (fun h6 => ?_) (fun h6 => ?_)
    · refine Cd.skip ?_
      refine thenQ_n ?_
      refine Cd.seq ?_
      refine Cd.block ?_
      refine Cd.seq ?_
      refine Cd.region ?_
      refine Ops.mv_int rfl rfl rfl ?_
      -- stop: INDEXADDR 22 t38 t40 -> 43
      refine Ops.idx hM.top.2 rfl rfl rfl (by omega) h6 ?_
      refine Ops.ld_sl hM.top rfl (by omega) rfl rfl ?_
      refine Ops.mv_int rfl rfl rfl ?_
      refine Ops.mv_sl rfl rfl rfl ?_
      refine Ops.nil ?_
      refine thenQ_n ?_
      refine Cd.seq ?_
      refine Cd.region ?_
      -- stop: FIELDADDR 24 t1=toArray 0 -> 45
      refine Ops.fld (hS3.rd 0 rfl) rfl rfl rfl rfl inferInstance ?_
      refine Ops.ldf_s (hS3.rd 0 rfl) rfl rfl rfl rfl rfl ?_
      refine Ops.mv_int rfl rfl rfl ?_
      refine Ops.add rfl rfl rfl (by omega) ?_
      -- stop: FIELDADDR 24 t1=toArray 0 -> 49
      refine Ops.fld (hS3.rd 0 rfl) rfl rfl rfl rfl inferInstance ?_
      refine Ops.ldf_s (hS3.rd 0 rfl) rfl rfl rfl rfl rfl ?_
      refine Ops.len rfl rfl ?_
      -- stop: BUILTIN min(t48, t51) -> 52
      refine Ops.minI rfl rfl rfl ?_
      obtain ⟨l, hl, hl1, hl2⟩ : ∃ l : Nat, min ((i : Int) + 2) (n : Int) = (l : Int) ∧ l ≤ n ∧ (l = i + 2 ∨ (l = n ∧ n ≤ i + 2)) := ⟨min (i + 2) n, by omega, by omega, by omega⟩
      rw [hl]
      refine Ops.cut_l rfl rfl rfl (by omega) ?_
      rw [Int.toNat_natCast]
      refine Ops.len rfl rfl ?_
      refine Ops.mv_int rfl rfl rfl ?_
      refine Ops.nil ?_
      refine thenQ_n ?_
      refine Cd.block ?_
      -- stop: loop
      refine Cd.loop (α := Nat) (fun j => [(1, .pointer Ab), (38, .slice A n c), (39, .int .i64 (n : Int)), (40, .int .i64 (i : Int)), (6, .slice (rg rs i).a (rg rs i).n (rg rs i).c), (53, .slice (cutAt A c l) (n - l) (c - l)), (54, .int .i64 ((n - l : Nat) : Int)), (55, .int .i64 (j : Int))]) (fun j w' => St w w' [Bx 24 1 Ab [.slice A n c]] ∧ j ≤ n - l ∧ ∀ k', k' < l + j → k' < n → i + 2 ≤ k' → ∀ f, f < (gl xss 0).length → Comm xss i k' f) (fun j => n - l - j) 0 ⟨rfl, rfl, rfl, rfl, rfl, rfl, rfl, rfl, trivial⟩ ⟨hS3, Nat.zero_le _, fun k' h1 _ _ => by omega⟩ ?_
      rintro j e w4 ⟨hS4, hj, hC4⟩
      have hM := hS4.oldRows hR
      have hcut := hM.top.cut (c := c) hl1 (Nat.le_refl n) hn
      refine Cd.seq ?_
      refine Cd.region ?_
      refine Ops.lss rfl rfl rfl ?_
      refine Ops.nil ?_
      refine thenQ_n ?_
      refine Cd.seq ?_
      -- stop: cond
      refine Cd.cond_p _ rfl (fun h7 => ?_) (fun h7 => ?_)
      · have hjl : j < n - l := by omega
        have hk : l + j < n := by omega
        have hik : i + 2 ≤ l + j := by omega
        refine Cd.skip ?_
        refine thenQ_n ?_
        refine Cd.seq ?_
        refine Cd.block ?_
        refine Cd.seq ?_
        refine Cd.region ?_
        -- stop: INDEXADDR 22 t53 t55 -> 57
        refine Ops.idx hcut.2 rfl rfl rfl (by omega) h7 ?_
        refine Ops.ld_sl hcut rfl (by omega) rfl rfl ?_
        rw [rg_cut hjl]
        generalize hke : l + j = k at hk hik
        have rki := hrk i (by omega) h6
        have rkk := hrk k (by omega) (by omega)
        refine Ops.mv_sl rfl rfl rfl ?_
        refine Ops.nil ?_
        refine thenQ_n ?_
        refine Cd.seq ?_
        refine Cd.region ?_
        -- stop: CALL impl.Maniplex).flags(t1=toArray) -> 59
        refine Ops.call (flags_c _ _ _ _ _ _ _ _ (hS4.rd 0 rfl) rfl hM (by omega)) rfl rfl rfl ?_
        rintro _ w4 ⟨rfl, rfl⟩
        refine Ops.mv_int rfl rfl rfl ?_
        refine Ops.nil ?_
        refine thenQ_n ?_
        refine Cd.block ?_
        -- stop: loop
        refine Cd.loop (α := Nat) (fun f => [(1, .pointer Ab), (38, .slice A n c), (39, .int .i64 (n : Int)), (40, .int .i64 (i : Int)), (6, .slice (rg rs i).a (rg rs i).n (rg rs i).c), (53, .slice (cutAt A c l) (n - l) (c - l)), (54, .int .i64 ((n - l : Nat) : Int)), (55, .int .i64 (j : Int)), (8, .slice (rg rs k).a (rg rs k).n (rg rs k).c), (59, .int .i64 ((rg rs 0).n : Int)), (60, .int .i64 (f : Int))]) (fun f w' => St w w' [Bx 24 1 Ab [.slice A n c]] ∧ f ≤ (gl xss 0).length ∧ ∀ f', f' < f → Comm xss i k f') (fun f => (gl xss 0).length - f) 0 ⟨rfl, rfl, rfl, rfl, rfl, rfl, rfl, rfl, rfl, rfl, rfl, trivial⟩ ⟨hS4, Nat.zero_le _, fun f' hf' => by omega⟩ ?_
        rintro f e w5 ⟨hS5, hf, hC5⟩
        have hM := hS5.oldRows hR
        have hri := hM.at_ (i := i) (by omega) h6
        have hrk' := hM.at_ (i := k) (by omega) (by omega)
        refine Cd.seq ?_
        refine Cd.region ?_
        refine Ops.lss rfl rfl rfl ?_
        refine Ops.nil ?_
        refine thenQ_n ?_
        refine Cd.seq ?_
        -- stop: cond
        refine Cd.cond_p _ rfl (fun h8 => ?_) (fun h8 => ?_)
        · have hii := (hs _ (gl_in (k := (i : Int)) (by omega) (by omega))).2 (f : Int) (by omega) (by omega)
          have hkk := (hs _ (gl_in (k := (k : Int)) (by omega) (by omega))).2 (f : Int) (by omega) (by omega)
          refine Cd.skip ?_
          refine thenQ_n ?_
          refine Cd.seq ?_
          refine Cd.block ?_
          refine Cd.seq ?_
          refine Cd.region ?_
          refine Ops.mv_int rfl rfl rfl ?_
          refine Ops.mv_int rfl rfl rfl ?_
          refine Ops.nil ?_
          refine thenQ_n ?_
          refine Cd.seq ?_
          -- stop: draw
          by_cases h10 : gi (gl xss i) f = gi (gl xss k) f
          · --dup 3
            refine Cd.draw [.ex (.slice ((rg rs i).a) ((rg rs i).n) ((rg rs i).c)), .ex (.int .i64 ((f : Int))), .ex (.pointer (ptrAt ((rg rs i).a) ((f : Int)).toNat)), .ex (.int .i64 (gi (gl xss i) ((f : Int)))), .ex (.slice ((rg rs k).a) ((rg rs k).n) ((rg rs k).c)), .ex (.int .i64 ((f : Int))), .ex (.pointer (ptrAt ((rg rs k).a) ((f : Int)).toNat)), .ex (.int .i64 (gi (gl xss k) ((f : Int)))), .ex (.bool (true)), .ex (.bool (true)), .ex (undef), .ex (undef), .ex (undef), .ex (undef), .ex (undef), .ex (undef), .ex (undef), .ex (undef), .ex (undef), .ex (undef), .ex (undef), .ex (undef), .ex (undef), .ex (undef), .ex (undef), .ex (.bool (true))] (by kernel_rfl) (by kernel_rfl) rfl (List.forall_mem_cons.2 ⟨Yd.lasts_ex _, (List.forall_mem_cons.2 ⟨Yd.lasts_ex _, (List.forall_mem_cons.2 ⟨Yd.lasts_ex _, (List.forall_mem_cons.2 ⟨Yd.lasts_ex _, (List.forall_mem_cons.2 ⟨Yd.lasts_ex _, (List.forall_mem_cons.2 ⟨Yd.lasts_ex _, (List.forall_mem_cons.2 ⟨Yd.lasts_ex _, (List.forall_mem_cons.2 ⟨Yd.lasts_ex _, (List.forall_mem_cons.2 ⟨Yd.lasts_ex _, (List.forall_mem_cons.2 ⟨Yd.lasts_ex _, (List.forall_mem_cons.2 ⟨Yd.lasts_ex _, (List.forall_mem_cons.2 ⟨Yd.lasts_ex _, (List.forall_mem_cons.2 ⟨Yd.lasts_ex _, (List.forall_mem_cons.2 ⟨Yd.lasts_ex _, (List.forall_mem_cons.2 ⟨Yd.lasts_ex _, (List.forall_mem_cons.2 ⟨Yd.lasts_ex _, (List.forall_mem_cons.2 ⟨Yd.lasts_ex _, (List.forall_mem_cons.2 ⟨Yd.lasts_ex _, (List.forall_mem_cons.2 ⟨Yd.lasts_ex _, (List.forall_mem_cons.2 ⟨Yd.lasts_ex _, (List.forall_mem_cons.2 ⟨Yd.lasts_ex _, (List.forall_mem_cons.2 ⟨Yd.lasts_ex _, (List.forall_mem_cons.2 ⟨Yd.lasts_ex _, (List.forall_mem_cons.2 ⟨Yd.lasts_ex _, (List.forall_mem_cons.2 ⟨Yd.lasts_ex _, (List.forall_mem_cons.2 ⟨Yd.lasts_ex _, (fun _ h => by cases h)⟩)⟩)⟩)⟩)⟩)⟩)⟩)⟩)⟩)⟩)⟩)⟩)⟩)⟩)⟩)⟩)⟩)⟩)⟩)⟩)⟩)⟩)⟩)⟩)⟩)⟩) ⟨?_, ?_, ?_, ?_, ?_, ?_, ?_, ?_, ?_, ?_, ?_, ?_, ?_, ?_, ?_, ?_, ?_, ?_, ?_, ?_, ?_, ?_, ?_, ?_, ?_, ?_, trivial⟩ ?_
            · intro e1 w1 hb hp hun
              refine Ops.mv_sl rfl rfl rfl ?_
              refine Ops.nil ?_
              exact After.dn (Below.refl _ _) (by exact rfl)
            · intro e1 w1 hb hp hun
              refine Ops.mv_int rfl rfl rfl ?_
              refine Ops.nil ?_
              exact After.dn (Below.refl _ _) (by exact rfl)
            · intro e1 w1 hb hp hun
              refine Ops.idx (hri.later hb).2 rfl rfl rfl (by omega) (by omega) ?_
              refine Ops.nil ?_
              exact After.dn (Below.refl _ _) (by exact rfl)
            · intro e1 w1 hb hp hun
              refine Ops.ld_int (hri.later hb) rfl (by omega) rfl rfl ?_
              refine Ops.nil ?_
              exact After.dn (Below.refl _ _) (by exact rfl)
            · intro e1 w1 hb hp hun
              refine Ops.mv_sl rfl rfl rfl ?_
              refine Ops.nil ?_
              exact After.dn (Below.refl _ _) (by exact rfl)
            · intro e1 w1 hb hp hun
              refine Ops.mv_int rfl rfl rfl ?_
              refine Ops.nil ?_
              exact After.dn (Below.refl _ _) (by exact rfl)
            · intro e1 w1 hb hp hun
              refine Ops.idx (hrk'.later hb).2 rfl rfl rfl (by omega) (by omega) ?_
              refine Ops.nil ?_
              exact After.dn (Below.refl _ _) (by exact rfl)
            · intro e1 w1 hb hp hun
              refine Ops.ld_int (hrk'.later hb) rfl (by omega) rfl rfl ?_
              refine Ops.nil ?_
              exact After.dn (Below.refl _ _) (by exact rfl)
            · intro e1 w1 hb hp hun
              refine Ops.eql rfl rfl rfl ?_
              refine Ops.nil ?_
              exact After.dn (Below.refl _ _) (by exact congrArg Value.bool (decide_eq_true h10))
            · intro e1 w1 hb hp hun
              refine Ops.mv_bool rfl rfl rfl ?_
              refine Ops.nil ?_
              exact After.dn (Below.refl _ _) (by exact rfl)
            · intro e1 w1 hb hp hun
              refine Ops.skipg rfl rfl rfl rfl rfl ?_
              refine Ops.nil ?_
              exact After.dn (Below.refl _ _) (by exact rfl)
            · intro e1 w1 hb hp hun
              refine Ops.skipg rfl rfl rfl rfl rfl ?_
              refine Ops.nil ?_
              exact After.dn (Below.refl _ _) (by exact rfl)
            · intro e1 w1 hb hp hun
              refine Ops.skipg rfl rfl rfl rfl rfl ?_
              refine Ops.nil ?_
              exact After.dn (Below.refl _ _) (by exact rfl)
            · intro e1 w1 hb hp hun
              refine Ops.skipg rfl rfl rfl rfl rfl ?_
              refine Ops.nil ?_
              exact After.dn (Below.refl _ _) (by exact rfl)
            · intro e1 w1 hb hp hun
              refine Ops.skipg rfl rfl rfl rfl rfl ?_
              refine Ops.nil ?_
              exact After.dn (Below.refl _ _) (by exact rfl)
            · intro e1 w1 hb hp hun
              refine Ops.skipg rfl rfl rfl rfl rfl ?_
              refine Ops.nil ?_
              exact After.dn (Below.refl _ _) (by exact rfl)
            · intro e1 w1 hb hp hun
              refine Ops.skipg rfl rfl rfl rfl rfl ?_
              refine Ops.nil ?_
              exact After.dn (Below.refl _ _) (by exact rfl)
            · intro e1 w1 hb hp hun
              refine Ops.skipg rfl rfl rfl rfl rfl ?_
              refine Ops.nil ?_
              exact After.dn (Below.refl _ _) (by exact rfl)
            · intro e1 w1 hb hp hun
              refine Ops.skipg rfl rfl rfl rfl rfl ?_
              refine Ops.nil ?_
              exact After.dn (Below.refl _ _) (by exact rfl)
            · intro e1 w1 hb hp hun
              refine Ops.skipg rfl rfl rfl rfl rfl ?_
              refine Ops.nil ?_
              exact After.dn (Below.refl _ _) (by exact rfl)
            · intro e1 w1 hb hp hun
              refine Ops.skipg rfl rfl rfl rfl rfl ?_
              refine Ops.nil ?_
              exact After.dn (Below.refl _ _) (by exact rfl)
            · intro e1 w1 hb hp hun
              refine Ops.skipg rfl rfl rfl rfl rfl ?_
              refine Ops.nil ?_
              exact After.dn (Below.refl _ _) (by exact rfl)
            · intro e1 w1 hb hp hun
              refine Ops.skipg rfl rfl rfl rfl rfl ?_
              refine Ops.nil ?_
              exact After.dn (Below.refl _ _) (by exact rfl)
            · intro e1 w1 hb hp hun
              refine Ops.skipg rfl rfl rfl rfl rfl ?_
              refine Ops.nil ?_
              exact After.dn (Below.refl _ _) (by exact rfl)
            · intro e1 w1 hb hp hun
              refine Ops.skipg rfl rfl rfl rfl rfl ?_
              refine Ops.nil ?_
              exact After.dn (Below.refl _ _) (by exact rfl)
            · intro e1 w1 hb hp hun
              refine Ops.pick_t rfl rfl rfl ?_
              refine Ops.nil ?_
              exact After.dn (Below.refl _ _) (by exact rfl)
            intro u w6 hb6 _
            have hS6 := hS5.later hb6
            refine thenQ_n ?_
            -- stop: cond
            refine Cd.cond_t rfl ?_
            refine Cd.seq ?_
            refine Cd.region ?_
            refine Ops.mv_bool rfl rfl rfl ?_
            refine Ops.nil ?_
            refine thenQ_n ?_
            refine Cd.ret ?_
            refine blockQ_r ?_
            refine thenQ_r ?_
            refine thenQ_r ?_
            refine blockQ_r ?_
            refine blockQ_r ?_
            refine thenQ_r ?_
            refine thenQ_r ?_
            refine blockQ_r ?_
            refine blockQ_r ?_
            refine thenQ_r ?_
            refine thenQ_r ?_
            refine blockQ_r ?_
            refine thenQ_r ?_
            refine ret1_b rfl ?_
            -- stop: end
            exact ⟨by rw [decide_eq_false (fun h : Mani xss => (h.2.2.2.1 i (by omega) k (by omega) hik f (by omega)).2 h10)], hS6.none⟩
          · by_cases h9 : gi (gl xss k) (gi (gl xss i) f) = gi (gl xss i) (gi (gl xss k) f)
            · refine Cd.draw [.ex (.slice ((rg rs i).a) ((rg rs i).n) ((rg rs i).c)), .ex (.int .i64 ((f : Int))), .ex (.pointer (ptrAt ((rg rs i).a) ((f : Int)).toNat)), .ex (.int .i64 (gi (gl xss i) ((f : Int)))), .ex (.slice ((rg rs k).a) ((rg rs k).n) ((rg rs k).c)), .ex (.int .i64 ((f : Int))), .ex (.pointer (ptrAt ((rg rs k).a) ((f : Int)).toNat)), .ex (.int .i64 (gi (gl xss k) ((f : Int)))), .ex (.bool (false)), .ex (.bool (false)), .ex (.slice ((rg rs k).a) ((rg rs k).n) ((rg rs k).c)), .ex (.slice ((rg rs i).a) ((rg rs i).n) ((rg rs i).c)), .ex (.int .i64 ((f : Int))), .ex (.pointer (ptrAt ((rg rs i).a) ((f : Int)).toNat)), .ex (.int .i64 (gi (gl xss i) ((f : Int)))), .ex (.pointer (ptrAt ((rg rs k).a) (gi (gl xss i) ((f : Int))).toNat)), .ex (.int .i64 (gi (gl xss k) (gi (gl xss i) ((f : Int))))), .ex (.slice ((rg rs i).a) ((rg rs i).n) ((rg rs i).c)), .ex (.slice ((rg rs k).a) ((rg rs k).n) ((rg rs k).c)), .ex (.int .i64 ((f : Int))), .ex (.pointer (ptrAt ((rg rs k).a) ((f : Int)).toNat)), .ex (.int .i64 (gi (gl xss k) ((f : Int)))), .ex (.pointer (ptrAt ((rg rs i).a) (gi (gl xss k) ((f : Int))).toNat)), .ex (.int .i64 (gi (gl xss i) (gi (gl xss k) ((f : Int))))), .ex (.bool (false)), .ex (.bool (false))] (by kernel_rfl) (by kernel_rfl) rfl (List.forall_mem_cons.2 ⟨Yd.lasts_ex _, (List.forall_mem_cons.2 ⟨Yd.lasts_ex _, (List.forall_mem_cons.2 ⟨Yd.lasts_ex _, (List.forall_mem_cons.2 ⟨Yd.lasts_ex _, (List.forall_mem_cons.2 ⟨Yd.lasts_ex _, (List.forall_mem_cons.2 ⟨Yd.lasts_ex _, (List.forall_mem_cons.2 ⟨Yd.lasts_ex _, (List.forall_mem_cons.2 ⟨Yd.lasts_ex _, (List.forall_mem_cons.2 ⟨Yd.lasts_ex _, (List.forall_mem_cons.2 ⟨Yd.lasts_ex _, (List.forall_mem_cons.2 ⟨Yd.lasts_ex _, (List.forall_mem_cons.2 ⟨Yd.lasts_ex _, (List.forall_mem_cons.2 ⟨Yd.lasts_ex _, (List.forall_mem_cons.2 ⟨Yd.lasts_ex _, (List.forall_mem_cons.2 ⟨Yd.lasts_ex _, (List.forall_mem_cons.2 ⟨Yd.lasts_ex _, (List.forall_mem_cons.2 ⟨Yd.lasts_ex _, (List.forall_mem_cons.2 ⟨Yd.lasts_ex _, (List.forall_mem_cons.2 ⟨Yd.lasts_ex _, (List.forall_mem_cons.2 ⟨Yd.lasts_ex _, (List.forall_mem_cons.2 ⟨Yd.lasts_ex _, (List.forall_mem_cons.2 ⟨Yd.lasts_ex _, (List.forall_mem_cons.2 ⟨Yd.lasts_ex _, (List.forall_mem_cons.2 ⟨Yd.lasts_ex _, (List.forall_mem_cons.2 ⟨Yd.lasts_ex _, (List.forall_mem_cons.2 ⟨Yd.lasts_ex _, (fun _ h => by cases h)⟩)⟩)⟩)⟩)⟩)⟩)⟩)⟩)⟩)⟩)⟩)⟩)⟩)⟩)⟩)⟩)⟩)⟩)⟩)⟩)⟩)⟩)⟩)⟩)⟩)⟩) ⟨?_, ?_, ?_, ?_, ?_, ?_, ?_, ?_, ?_, ?_, ?_, ?_, ?_, ?_, ?_, ?_, ?_, ?_, ?_, ?_, ?_, ?_, ?_, ?_, ?_, ?_, trivial⟩ ?_
              · intro e1 w1 hb hp hun
                refine Ops.mv_sl rfl rfl rfl ?_
                refine Ops.nil ?_
                exact After.dn (Below.refl _ _) (by exact rfl)
              · intro e1 w1 hb hp hun
                refine Ops.mv_int rfl rfl rfl ?_
                refine Ops.nil ?_
                exact After.dn (Below.refl _ _) (by exact rfl)
              · intro e1 w1 hb hp hun
                refine Ops.idx (hri.later hb).2 rfl rfl rfl (by omega) (by omega) ?_
                refine Ops.nil ?_
                exact After.dn (Below.refl _ _) (by exact rfl)
              · intro e1 w1 hb hp hun
                refine Ops.ld_int (hri.later hb) rfl (by omega) rfl rfl ?_
                refine Ops.nil ?_
                exact After.dn (Below.refl _ _) (by exact rfl)
              · intro e1 w1 hb hp hun
                refine Ops.mv_sl rfl rfl rfl ?_
                refine Ops.nil ?_
                exact After.dn (Below.refl _ _) (by exact rfl)
              · intro e1 w1 hb hp hun
                refine Ops.mv_int rfl rfl rfl ?_
                refine Ops.nil ?_
                exact After.dn (Below.refl _ _) (by exact rfl)
              · intro e1 w1 hb hp hun
                refine Ops.idx (hrk'.later hb).2 rfl rfl rfl (by omega) (by omega) ?_
                refine Ops.nil ?_
                exact After.dn (Below.refl _ _) (by exact rfl)
              · intro e1 w1 hb hp hun
                refine Ops.ld_int (hrk'.later hb) rfl (by omega) rfl rfl ?_
                refine Ops.nil ?_
                exact After.dn (Below.refl _ _) (by exact rfl)
              · intro e1 w1 hb hp hun
                refine Ops.eql rfl rfl rfl ?_
                refine Ops.nil ?_
                exact After.dn (Below.refl _ _) (by exact congrArg Value.bool (decide_eq_false h10))
              · intro e1 w1 hb hp hun
                refine Ops.mv_bool rfl rfl rfl ?_
                refine Ops.nil ?_
                exact After.dn (Below.refl _ _) (by exact rfl)
              · intro e1 w1 hb hp hun
                refine Ops.rung rfl rfl rfl ?_
                refine Ops.mv_sl rfl rfl rfl ?_
                refine Ops.nil ?_
                exact After.dn (Below.refl _ _) (by exact rfl)
              · intro e1 w1 hb hp hun
                refine Ops.rung rfl rfl rfl ?_
                refine Ops.mv_sl rfl rfl rfl ?_
                refine Ops.nil ?_
                exact After.dn (Below.refl _ _) (by exact rfl)
              · intro e1 w1 hb hp hun
                refine Ops.rung rfl rfl rfl ?_
                refine Ops.mv_int rfl rfl rfl ?_
                refine Ops.nil ?_
                exact After.dn (Below.refl _ _) (by exact rfl)
              · intro e1 w1 hb hp hun
                refine Ops.rung rfl rfl rfl ?_
                refine Ops.idx (hri.later hb).2 rfl rfl rfl (by omega) (by omega) ?_
                refine Ops.nil ?_
                exact After.dn (Below.refl _ _) (by exact rfl)
              · intro e1 w1 hb hp hun
                refine Ops.rung rfl rfl rfl ?_
                refine Ops.ld_int (hri.later hb) rfl (by omega) rfl rfl ?_
                refine Ops.nil ?_
                exact After.dn (Below.refl _ _) (by exact rfl)
              · intro e1 w1 hb hp hun
                refine Ops.rung rfl rfl rfl ?_
                refine Ops.idx (hrk'.later hb).2 rfl rfl rfl (by omega) (by omega) ?_
                refine Ops.nil ?_
                exact After.dn (Below.refl _ _) (by exact rfl)
              · intro e1 w1 hb hp hun
                refine Ops.rung rfl rfl rfl ?_
                refine Ops.ld_int (hrk'.later hb) rfl (by omega) rfl rfl ?_
                refine Ops.nil ?_
                exact After.dn (Below.refl _ _) (by exact rfl)
              · intro e1 w1 hb hp hun
                refine Ops.rung rfl rfl rfl ?_
                refine Ops.mv_sl rfl rfl rfl ?_
                refine Ops.nil ?_
                exact After.dn (Below.refl _ _) (by exact rfl)
              · intro e1 w1 hb hp hun
                refine Ops.rung rfl rfl rfl ?_
                refine Ops.mv_sl rfl rfl rfl ?_
                refine Ops.nil ?_
                exact After.dn (Below.refl _ _) (by exact rfl)
              · intro e1 w1 hb hp hun
                refine Ops.rung rfl rfl rfl ?_
                refine Ops.mv_int rfl rfl rfl ?_
                refine Ops.nil ?_
                exact After.dn (Below.refl _ _) (by exact rfl)
              · intro e1 w1 hb hp hun
                refine Ops.rung rfl rfl rfl ?_
                refine Ops.idx (hrk'.later hb).2 rfl rfl rfl (by omega) (by omega) ?_
                refine Ops.nil ?_
                exact After.dn (Below.refl _ _) (by exact rfl)
              · intro e1 w1 hb hp hun
                refine Ops.rung rfl rfl rfl ?_
                refine Ops.ld_int (hrk'.later hb) rfl (by omega) rfl rfl ?_
                refine Ops.nil ?_
                exact After.dn (Below.refl _ _) (by exact rfl)
              · intro e1 w1 hb hp hun
                refine Ops.rung rfl rfl rfl ?_
                refine Ops.idx (hri.later hb).2 rfl rfl rfl (by omega) (by omega) ?_
                refine Ops.nil ?_
                exact After.dn (Below.refl _ _) (by exact rfl)
              · intro e1 w1 hb hp hun
                refine Ops.rung rfl rfl rfl ?_
                refine Ops.ld_int (hri.later hb) rfl (by omega) rfl rfl ?_
                refine Ops.nil ?_
                exact After.dn (Below.refl _ _) (by exact rfl)
              · intro e1 w1 hb hp hun
                refine Ops.rung rfl rfl rfl ?_
                refine Ops.neq rfl rfl rfl ?_
                refine Ops.nil ?_
                exact After.dn (Below.refl _ _) (by exact congrArg Value.bool (decide_eq_false (fun h => h h9)))
              · intro e1 w1 hb hp hun
                refine Ops.pick_f rfl rfl rfl ?_
                refine Ops.nil ?_
                exact After.dn (Below.refl _ _) (by exact rfl)
              intro u w6 hb6 _
              have hS6 := hS5.later hb6
              refine thenQ_n ?_
              -- stop: cond
              refine Cd.cond_f rfl ?_
              refine Cd.skip ?_
              refine blockQ_n ?_
              refine thenQ_n ?_
              refine Cd.region ?_
              refine Ops.add rfl rfl rfl (by omega) ?_
              refine Ops.mv_int rfl rfl rfl ?_
              refine Ops.nil ?_
              refine thenQ_n ?_
              -- stop: round
              refine ⟨f + 1, by omega, ⟨rfl, rfl, rfl, rfl, rfl, rfl, rfl, rfl, rfl, rfl, rfl, trivial⟩, hS6, by omega, fun f' hf' => ?_⟩
              by_cases ef : f' = f
              · subst ef; exact ⟨h9, h10⟩
              · exact hC5 f' (by omega)
            · refine Cd.draw [.ex (.slice ((rg rs i).a) ((rg rs i).n) ((rg rs i).c)), .ex (.int .i64 ((f : Int))), .ex (.pointer (ptrAt ((rg rs i).a) ((f : Int)).toNat)), .ex (.int .i64 (gi (gl xss i) ((f : Int)))), .ex (.slice ((rg rs k).a) ((rg rs k).n) ((rg rs k).c)), .ex (.int .i64 ((f : Int))), .ex (.pointer (ptrAt ((rg rs k).a) ((f : Int)).toNat)), .ex (.int .i64 (gi (gl xss k) ((f : Int)))), .ex (.bool (false)), .ex (.bool (false)), .ex (.slice ((rg rs k).a) ((rg rs k).n) ((rg rs k).c)), .ex (.slice ((rg rs i).a) ((rg rs i).n) ((rg rs i).c)), .ex (.int .i64 ((f : Int))), .ex (.pointer (ptrAt ((rg rs i).a) ((f : Int)).toNat)), .ex (.int .i64 (gi (gl xss i) ((f : Int)))), .ex (.pointer (ptrAt ((rg rs k).a) (gi (gl xss i) ((f : Int))).toNat)), .ex (.int .i64 (gi (gl xss k) (gi (gl xss i) ((f : Int))))), .ex (.slice ((rg rs i).a) ((rg rs i).n) ((rg rs i).c)), .ex (.slice ((rg rs k).a) ((rg rs k).n) ((rg rs k).c)), .ex (.int .i64 ((f : Int))), .ex (.pointer (ptrAt ((rg rs k).a) ((f : Int)).toNat)), .ex (.int .i64 (gi (gl xss k) ((f : Int)))), .ex (.pointer (ptrAt ((rg rs i).a) (gi (gl xss k) ((f : Int))).toNat)), .ex (.int .i64 (gi (gl xss i) (gi (gl xss k) ((f : Int))))), .ex (.bool (true)), .ex (.bool (true))] (by kernel_rfl) (by kernel_rfl) rfl (List.forall_mem_cons.2 ⟨Yd.lasts_ex _, (List.forall_mem_cons.2 ⟨Yd.lasts_ex _, (List.forall_mem_cons.2 ⟨Yd.lasts_ex _, (List.forall_mem_cons.2 ⟨Yd.lasts_ex _, (List.forall_mem_cons.2 ⟨Yd.lasts_ex _, (List.forall_mem_cons.2 ⟨Yd.lasts_ex _, (List.forall_mem_cons.2 ⟨Yd.lasts_ex _, (List.forall_mem_cons.2 ⟨Yd.lasts_ex _, (List.forall_mem_cons.2 ⟨Yd.lasts_ex _, (List.forall_mem_cons.2 ⟨Yd.lasts_ex _, (List.forall_mem_cons.2 ⟨Yd.lasts_ex _, (List.forall_mem_cons.2 ⟨Yd.lasts_ex _, (List.forall_mem_cons.2 ⟨Yd.lasts_ex _, (List.forall_mem_cons.2 ⟨Yd.lasts_ex _, (List.forall_mem_cons.2 ⟨Yd.lasts_ex _, (List.forall_mem_cons.2 ⟨Yd.lasts_ex _, (List.forall_mem_cons.2 ⟨Yd.lasts_ex _, (List.forall_mem_cons.2 ⟨Yd.lasts_ex _, (List.forall_mem_cons.2 ⟨Yd.lasts_ex _, (List.forall_mem_cons.2 ⟨Yd.lasts_ex _, (List.forall_mem_cons.2 ⟨Yd.lasts_ex _, (List.forall_mem_cons.2 ⟨Yd.lasts_ex _, (List.forall_mem_cons.2 ⟨Yd.lasts_ex _, (List.forall_mem_cons.2 ⟨Yd.lasts_ex _, (List.forall_mem_cons.2 ⟨Yd.lasts_ex _, (List.forall_mem_cons.2 ⟨Yd.lasts_ex _, (fun _ h => by cases h)⟩)⟩)⟩)⟩)⟩)⟩)⟩)⟩)⟩)⟩)⟩)⟩)⟩)⟩)⟩)⟩)⟩)⟩)⟩)⟩)⟩)⟩)⟩)⟩)⟩)⟩) ⟨?_, ?_, ?_, ?_, ?_, ?_, ?_, ?_, ?_, ?_, ?_, ?_, ?_, ?_, ?_, ?_, ?_, ?_, ?_, ?_, ?_, ?_, ?_, ?_, ?_, ?_, trivial⟩ ?_
              · intro e1 w1 hb hp hun
                refine Ops.mv_sl rfl rfl rfl ?_
                refine Ops.nil ?_
                exact After.dn (Below.refl _ _) (by exact rfl)
              · intro e1 w1 hb hp hun
                refine Ops.mv_int rfl rfl rfl ?_
                refine Ops.nil ?_
                exact After.dn (Below.refl _ _) (by exact rfl)
              · intro e1 w1 hb hp hun
                refine Ops.idx (hri.later hb).2 rfl rfl rfl (by omega) (by omega) ?_
                refine Ops.nil ?_
                exact After.dn (Below.refl _ _) (by exact rfl)
              · intro e1 w1 hb hp hun
                refine Ops.ld_int (hri.later hb) rfl (by omega) rfl rfl ?_
                refine Ops.nil ?_
                exact After.dn (Below.refl _ _) (by exact rfl)
              · intro e1 w1 hb hp hun
                refine Ops.mv_sl rfl rfl rfl ?_
                refine Ops.nil ?_
                exact After.dn (Below.refl _ _) (by exact rfl)
              · intro e1 w1 hb hp hun
                refine Ops.mv_int rfl rfl rfl ?_
                refine Ops.nil ?_
                exact After.dn (Below.refl _ _) (by exact rfl)
              · intro e1 w1 hb hp hun
                refine Ops.idx (hrk'.later hb).2 rfl rfl rfl (by omega) (by omega) ?_
                refine Ops.nil ?_
                exact After.dn (Below.refl _ _) (by exact rfl)
              · intro e1 w1 hb hp hun
                refine Ops.ld_int (hrk'.later hb) rfl (by omega) rfl rfl ?_
                refine Ops.nil ?_
                exact After.dn (Below.refl _ _) (by exact rfl)
              · intro e1 w1 hb hp hun
                refine Ops.eql rfl rfl rfl ?_
                refine Ops.nil ?_
                exact After.dn (Below.refl _ _) (by exact congrArg Value.bool (decide_eq_false h10))
              · intro e1 w1 hb hp hun
                refine Ops.mv_bool rfl rfl rfl ?_
                refine Ops.nil ?_
                exact After.dn (Below.refl _ _) (by exact rfl)
              · intro e1 w1 hb hp hun
                refine Ops.rung rfl rfl rfl ?_
                refine Ops.mv_sl rfl rfl rfl ?_
                refine Ops.nil ?_
                exact After.dn (Below.refl _ _) (by exact rfl)
              · intro e1 w1 hb hp hun
                refine Ops.rung rfl rfl rfl ?_
                refine Ops.mv_sl rfl rfl rfl ?_
                refine Ops.nil ?_
                exact After.dn (Below.refl _ _) (by exact rfl)
              · intro e1 w1 hb hp hun
                refine Ops.rung rfl rfl rfl ?_
                refine Ops.mv_int rfl rfl rfl ?_
                refine Ops.nil ?_
                exact After.dn (Below.refl _ _) (by exact rfl)
              · intro e1 w1 hb hp hun
                refine Ops.rung rfl rfl rfl ?_
                refine Ops.idx (hri.later hb).2 rfl rfl rfl (by omega) (by omega) ?_
                refine Ops.nil ?_
                exact After.dn (Below.refl _ _) (by exact rfl)
              · intro e1 w1 hb hp hun
                refine Ops.rung rfl rfl rfl ?_
                refine Ops.ld_int (hri.later hb) rfl (by omega) rfl rfl ?_
                refine Ops.nil ?_
                exact After.dn (Below.refl _ _) (by exact rfl)
              · intro e1 w1 hb hp hun
                refine Ops.rung rfl rfl rfl ?_
                refine Ops.idx (hrk'.later hb).2 rfl rfl rfl (by omega) (by omega) ?_
                refine Ops.nil ?_
                exact After.dn (Below.refl _ _) (by exact rfl)
              · intro e1 w1 hb hp hun
                refine Ops.rung rfl rfl rfl ?_
                refine Ops.ld_int (hrk'.later hb) rfl (by omega) rfl rfl ?_
                refine Ops.nil ?_
                exact After.dn (Below.refl _ _) (by exact rfl)
              · intro e1 w1 hb hp hun
                refine Ops.rung rfl rfl rfl ?_
                refine Ops.mv_sl rfl rfl rfl ?_
                refine Ops.nil ?_
                exact After.dn (Below.refl _ _) (by exact rfl)
              · intro e1 w1 hb hp hun
                refine Ops.rung rfl rfl rfl ?_
                refine Ops.mv_sl rfl rfl rfl ?_
                refine Ops.nil ?_
                exact After.dn (Below.refl _ _) (by exact rfl)
              · intro e1 w1 hb hp hun
                refine Ops.rung rfl rfl rfl ?_
                refine Ops.mv_int rfl rfl rfl ?_
                refine Ops.nil ?_
                exact After.dn (Below.refl _ _) (by exact rfl)
              · intro e1 w1 hb hp hun
                refine Ops.rung rfl rfl rfl ?_
                refine Ops.idx (hrk'.later hb).2 rfl rfl rfl (by omega) (by omega) ?_
                refine Ops.nil ?_
                exact After.dn (Below.refl _ _) (by exact rfl)
              · intro e1 w1 hb hp hun
                refine Ops.rung rfl rfl rfl ?_
                refine Ops.ld_int (hrk'.later hb) rfl (by omega) rfl rfl ?_
                refine Ops.nil ?_
                exact After.dn (Below.refl _ _) (by exact rfl)
              · intro e1 w1 hb hp hun
                refine Ops.rung rfl rfl rfl ?_
                refine Ops.idx (hri.later hb).2 rfl rfl rfl (by omega) (by omega) ?_
                refine Ops.nil ?_
                exact After.dn (Below.refl _ _) (by exact rfl)
              · intro e1 w1 hb hp hun
                refine Ops.rung rfl rfl rfl ?_
                refine Ops.ld_int (hri.later hb) rfl (by omega) rfl rfl ?_
                refine Ops.nil ?_
                exact After.dn (Below.refl _ _) (by exact rfl)
              · intro e1 w1 hb hp hun
                refine Ops.rung rfl rfl rfl ?_
                refine Ops.neq rfl rfl rfl ?_
                refine Ops.nil ?_
                exact After.dn (Below.refl _ _) (by exact congrArg Value.bool (decide_eq_true h9))
              · intro e1 w1 hb hp hun
                refine Ops.pick_f rfl rfl rfl ?_
                refine Ops.nil ?_
                exact After.dn (Below.refl _ _) (by exact rfl)
              intro u w6 hb6 _
              have hS6 := hS5.later hb6
              refine thenQ_n ?_
              -- stop: cond
              refine Cd.cond_t rfl ?_
              refine Cd.seq ?_
              refine Cd.region ?_
              refine Ops.mv_bool rfl rfl rfl ?_
              refine Ops.nil ?_
              refine thenQ_n ?_
              refine Cd.ret ?_
              refine blockQ_r ?_
              refine thenQ_r ?_
              refine thenQ_r ?_
              refine blockQ_r ?_
              refine blockQ_r ?_
              refine thenQ_r ?_
              refine thenQ_r ?_
              refine blockQ_r ?_
              refine blockQ_r ?_
              refine thenQ_r ?_
              refine thenQ_r ?_
              refine blockQ_r ?_
              refine thenQ_r ?_
              refine ret1_b rfl ?_
              -- stop: end
              exact ⟨by rw [decide_eq_false (fun h : Mani xss => h9 (h.2.2.2.1 i (by omega) k (by omega) hik f (by omega)).1)], hS6.none⟩
        · refine Cd.exit ?_
          refine thenQ_x ?_
          refine thenQ_x ?_
          refine blockQ_x ?_
          refine blockQ_n ?_
          refine thenQ_n ?_
          refine Cd.region ?_
          refine Ops.add rfl rfl rfl (by omega) ?_
          refine Ops.mv_int rfl rfl rfl ?_
          refine Ops.nil ?_
          refine thenQ_n ?_
          -- stop: round
          refine ⟨j + 1, by omega, ⟨rfl, rfl, rfl, rfl, rfl, rfl, rfl, rfl, trivial⟩, hS5, by omega, fun k' hk' hkn hik' f' hf' => ?_⟩
          by_cases ek : k' = k
          · subst ek; exact hC5 f' (by omega)
          · exact hC4 k' (by omega) hkn hik' f' hf'
      · refine Cd.exit ?_
        refine thenQ_x ?_
        refine thenQ_x ?_
        refine blockQ_x ?_
        refine blockQ_n ?_
        refine thenQ_n ?_
        refine Cd.region ?_
        refine Ops.add rfl rfl rfl (by omega) ?_
        refine Ops.mv_int rfl rfl rfl ?_
        refine Ops.nil ?_
        refine thenQ_n ?_
        -- stop: round
        refine ⟨i + 1, by omega, ⟨rfl, rfl, rfl, rfl, trivial⟩, hS4, by omega, fun i' hi' k' hk' hik' f' hf' => ?_⟩
        by_cases ei : i' = i
        · subst ei; exact hC4 k' (by omega) hk' hik' f' hf'
        · exact hC i' (by omega) k' hk' hik' f' hf'
    · have hB := hS3.rd 0 rfl
      refine Cd.exit ?_
      refine thenQ_x ?_
      refine thenQ_x ?_
      refine blockQ_x ?_
      refine thenQ_n ?_
      refine Cd.seq ?_
      -- stop: draw
      refine Cd.draw [.ex (.int .i64 (((rg rs 0).n : Int))), .ex (.pointer (ptrAt (Ab) 0)), .ex (.slice (A) (n) (c)), .pr (fun v _ => ∃ A', v = .tuple #[.slice A' (gl xss 0).length (gl xss 0).length, .int .i64 (lab (gl xss 0).length xss (gl xss 0).length).2]), .pr (fun v _ => ∃ A', v = .tuple #[.slice A' (gl xss 0).length (gl xss 0).length, .int .i64 (lab (gl xss 0).length xss (gl xss 0).length).2]), .pr (fun v _ => ∃ A', v = .slice A' (gl xss 0).length (gl xss 0).length), .ex (.int .i64 ((lab (gl xss 0).length xss (gl xss 0).length).2)), .pr (fun v _ => ∃ A', v = .slice A' (gl xss 0).length (gl xss 0).length), .ex (.int .i64 ((lab (gl xss 0).length xss (gl xss 0).length).2))] (by kernel_rfl) (by kernel_rfl) rfl (List.forall_mem_cons.2 ⟨Yd.lasts_ex _, (List.forall_mem_cons.2 ⟨Yd.lasts_ex _, (List.forall_mem_cons.2 ⟨Yd.lasts_ex _, (List.forall_mem_cons.2 ⟨Yd.lasts_pr (fun _ _ _ h _ => h), (List.forall_mem_cons.2 ⟨Yd.lasts_pr (fun _ _ _ h _ => h), (List.forall_mem_cons.2 ⟨Yd.lasts_pr (fun _ _ _ h _ => h), (List.forall_mem_cons.2 ⟨Yd.lasts_ex _, (List.forall_mem_cons.2 ⟨Yd.lasts_pr (fun _ _ _ h _ => h), (List.forall_mem_cons.2 ⟨Yd.lasts_ex _, (fun _ h => by cases h)⟩)⟩)⟩)⟩)⟩)⟩)⟩)⟩)⟩) ⟨?_, ?_, ?_, ?_, ?_, ?_, ?_, ?_, ?_, trivial⟩ ?_
      · intro e1 w1 hb hp hun
        refine Ops.call (flags_c _ _ _ _ _ _ _ _ (hB.below hb) rfl (hM.later hb) (by omega)) rfl rfl rfl ?_
        rintro _ w2 ⟨rfl, hst⟩
        subst hst
        refine Ops.nil ?_
        exact After.dn (Below.refl _ _) (by exact rfl)
      · intro e1 w1 hb hp hun
        refine Ops.fld (hB.below hb) rfl rfl rfl rfl inferInstance ?_
        refine Ops.nil ?_
        exact After.dn (Below.refl _ _) (by exact rfl)
      · intro e1 w1 hb hp hun
        refine Ops.ldf_s (hB.below hb) rfl rfl rfl rfl rfl ?_
        refine Ops.nil ?_
        exact After.dn (Below.refl _ _) (by exact rfl)
      · intro e1 w1 hb hp hun
        refine Ops.call (orbitLabels_c A n c rs xss (gl xss 0).length _ (hM.later hb) (by omega) hs hr1.inj (by omega)) rfl (by rw [r0]; rfl) rfl ?_
        rintro _ w2 ⟨A', rfl, hst⟩
        refine Ops.nil ?_
        exact After.dn hst.below ⟨A', rfl⟩
      · intro e1 w1 hb hp hun
        obtain ⟨A', h96⟩ := (hp 3 (by decide) rfl _ _ rfl rfl)
        refine Ops.mv_tup rfl (by exact h96) rfl ?_
        refine Ops.nil ?_
        exact After.dn (Below.refl _ _) ⟨A', rfl⟩
      · intro e1 w1 hb hp hun
        obtain ⟨A', h92⟩ := (hp 4 (by decide) rfl _ _ rfl rfl)
        refine Ops.extract (by exact h92) rfl rfl ?_
        refine Ops.nil ?_
        exact After.dn (Below.refl _ _) ⟨A', rfl⟩
      · intro e1 w1 hb hp hun
        obtain ⟨A', h92⟩ := (hp 4 (by decide) rfl _ _ rfl rfl)
        refine Ops.extract (by exact h92) rfl rfl ?_
        refine Ops.nil ?_
        exact After.dn (Below.refl _ _) (by exact rfl)
      · intro e1 w1 hb hp hun
        obtain ⟨A', h97⟩ := (hp 5 (by decide) rfl _ _ rfl rfl)
        refine Ops.mv_sl rfl (by exact h97) rfl ?_
        refine Ops.nil ?_
        exact After.dn (Below.refl _ _) ⟨A', rfl⟩
      · intro e1 w1 hb hp hun
        refine Ops.mv_int rfl rfl rfl ?_
        refine Ops.nil ?_
        exact After.dn (Below.refl _ _) (by exact rfl)
      intro u w6 hb6 _
      have hS6 := hS3.later hb6
      refine thenQ_n ?_
      refine Cd.seq ?_
      refine Cd.region ?_
      refine Ops.mv_int rfl rfl rfl ?_
      refine Ops.eql rfl rfl rfl ?_
      refine Ops.mv_bool rfl rfl rfl ?_
      refine Ops.nil ?_
      refine thenQ_n ?_
      refine Cd.ret ?_
      refine ret1_b rfl ?_
      -- stop: end
      refine ⟨?_, hS6.none⟩
      congr 1
      have ho := orbit_all hs (by omega)
      have hl := lab_one hs (by omega)
      exact decide_eq_decide.2 ⟨fun h => ⟨by omega, by omega, hr1, fun i' hi' k' hk' hik' f' hf' => hC i' (by omega) k' (by omega) hik' f' hf', ho.2 (hl.1 h)⟩, fun h => hl.2 (ho.1 h.2.2.2.2)⟩
end Go.Proofs.Ytgobjpcankaicaa.Vc
/-
  The walks of the desk's small functions. Conditions: as each states them.
-/
namespace Go.Proofs.Ytgobjpcankaicaa.Vc
open Go.RowKit
section
variable {P : Program} {N : Nat} {ops : Array Oper} {K : Env → World → Prop} {rest : List Oper} {e : Env} {w : World} {d : Nat} {ty : TypeId} {pos : String} {af : Array Edge} {x y : Operand} {xt yt : TypeId}
theorem run_equal_bool [Und P xt .bool] (a b : Bool) : (Op.equal xt (.bool a) (.bool b)).run P w = .ok (a == b) w :=
  run_equalIn_bool w 9999 xt a b Und.out
theorem Ops.neqB [Und P xt .bool] {a b : Bool} (hx : ev e x = .bool a) (hy : ev e y = .bool b) (hb : Nat.blt d N = true) (hK : Ops P N ops K rest (upd e d (.bool (!(a == b)))) w) :
    Ops P N ops K (⟨some d, .binOp .neq xt x y yt, ty, pos, af, none⟩ :: rest) e w :=
  .val (by simp [execOp, hx, hy, eqGuard, binOp, run_equal_bool]) hb hK
theorem Ops.eqlB [Und P xt .bool] {a b : Bool} (hx : ev e x = .bool a) (hy : ev e y = .bool b) (hb : Nat.blt d N = true) (hK : Ops P N ops K rest (upd e d (.bool (a == b))) w) :
    Ops P N ops K (⟨some d, .binOp .eql xt x y yt, ty, pos, af, none⟩ :: rest) e w :=
  .val (by simp [execOp, hx, hy, eqGuard, binOp, run_equal_bool]) hb hK
end

theorem szGo_fits : ∀ (ns : List Nat) (l : Int), 0 ≤ l → 0 ≤ szGo ns l → szGo ns l ≤ l ∧ ∀ n ∈ ns, (n : Int) ≤ l
  | [], l, _, _ => ⟨by simp [szGo], fun n hn => by cases hn⟩
  | m :: r, l, h0, h => by
    simp only [szGo] at h ⊢
    split at h
    · omega
    · rename_i h1
      rw [if_neg h1]
      have hle := szI_le m l h0
      have ih := szGo_fits r (szI m l) (by omega) h
      refine ⟨by omega, fun n hn => ?_⟩
      rcases List.mem_cons.1 hn with rfl | hn
      · unfold szI at h1; split at h1 <;> omega
      · have := ih.2 n hn; omega
theorem szSS_fits {ns : List Nat} {l : Int} (h0 : 0 ≤ l) (h : 0 ≤ szSS ns l) : szSS ns l ≤ l ∧ (ns.length : Int) ≤ l ∧ ∀ n ∈ ns, (n : Int) ≤ l := by
  unfold szSS at h ⊢
  split at h
  · omega
  · rename_i h1
    rw [if_neg h1]
    have := szGo_fits ns (l - ns.length) (by omega) h
    exact ⟨by omega, by omega, fun n hn => by have := this.2 n hn; omega⟩
theorem szSS_neg {ns : List Nat} {l : Int} (h : szSS ns l < 0) : szSS ns l = -1 := by
  have key : ∀ (ns : List Nat) (l : Int), 0 ≤ l → szGo ns l < 0 → szGo ns l = -1 := by
    intro ns
    induction ns with
    | nil => intro l h0 h; simp [szGo] at h; omega
    | cons n r ih =>
      intro l h0
      simp only [szGo]
      split
      · intro _; rfl
      · exact ih _ (by omega)
  unfold szSS at h ⊢
  split
  · rfl
  · rename_i h1
    rw [if_neg h1] at h
    exact key _ _ (by omega) h
theorem fits_of {n : Nat} {rs : List SlV} {l : Int} (hl : rs.length = n) (h0 : 0 ≤ l ∧ l ≤ 1048576) (h : 0 ≤ szSS (lens rs) l) : Fits n rs := by
  have h1 := szSS_fits h0.1 h
  refine ⟨by have := h1.2.1; simp [lens] at this; omega, fun i hi => ?_⟩
  have := h1.2.2 (rs.getD i slNil).n (by
    simp only [lens, List.mem_map]
    exact ⟨rs[i]'(by omega), List.getElem_mem _, by simp [List.getD_eq_getElem?_getD, List.getElem?_eq_getElem (show i < rs.length by omega)]⟩)
  omega

theorem eqDesk_c (A1 : Option Addr) (n1 c1 : Nat) (rs1 : List SlV) (x1 : List (List Int)) (A2 : Option Addr) (n2 c2 : Nat) (rs2 : List SlV) (x2 : List (List Int)) (B1 : Option Addr) (m1 d1 : Nat) (ts1 : List SlV) (y1 : List (List Int)) (B2 : Option Addr) (m2 d2 : Nat) (ts2 : List SlV) (y2 : List (List Int)) (w : World) (hR1 : RowsI w A1 n1 rs1 x1) (hR2 : RowsI w A2 n2 rs2 x2) (hT1 : RowsI w B1 m1 ts1 y1) (hT2 : RowsI w B2 m2 ts2 y2) (hn1 : n1 ≤ 9223372036854775807) (hn2 : n2 ≤ 9223372036854775807) :
    Ret Try.prog 16 [.agg #[.slice A1 n1 c1, .slice A2 n2 c2], .agg #[.slice B1 m1 d1, .slice B2 m2 d2]] w (fun v w' => v = .bool (decide (x1 = y1 ∧ x2 = y2)) ∧ St w w' []) := by
  refine Ret.of_cd Try.func16 rfl Try.ntmps16 rfl (post1 rfl) ?_
  refine Cd.seq ?_
  refine Cd.region ?_
  -- stop: BOX 26 t0=a -> 2
  refine Ops.box2 (St.refl w) rfl rfl ?_
  intro Ab w1 hS1
  refine Ops.box2 hS1 rfl rfl ?_
  intro Ac w2 hS
  refine Ops.mv_bool rfl rfl rfl ?_
  refine Ops.nil ?_
  refine thenQ_n ?_
  refine Cd.seq ?_
  refine Cd.seq ?_
  refine Cd.region ?_
  -- stop: FIELDADDR 26 t2=a 0 -> 5
  refine Ops.fld (hS.rd 1 rfl) rfl rfl rfl rfl inferInstance ?_
  refine Ops.ld_aggf 0 (hS.rd 1 rfl) rfl rfl rfl rfl ?_
  refine Ops.fld (hS.rd 0 rfl) rfl rfl rfl rfl inferInstance ?_
  refine Ops.ld_aggf 0 (hS.rd 0 rfl) rfl rfl rfl rfl ?_
  refine Ops.call (eqManiplex_c A1 n1 c1 rs1 x1 B1 m1 d1 ts1 y1 _ (hS.oldRows hR1) (hS.oldRows hT1) hn1) rfl rfl rfl ?_
  rintro _ w3 ⟨rfl, hst⟩
  have hS := hS.later hst.below
  first | refine Ops.not_p rfl rfl ?_ | refine Ops.not rfl rfl ?_
  refine Ops.nil ?_
  refine thenQ_n ?_
  -- stop: cond
  refine Cd.cond_p _ rfl (fun h1 => ?_) (fun h1 => ?_)
  · refine Cd.seq ?_
    refine Cd.region ?_
    refine Ops.mv_bool rfl rfl rfl ?_
    refine Ops.nil ?_
    refine thenQ_n ?_
    refine Cd.ret ?_
    refine thenQ_r ?_
    refine ret1_b rfl ?_
    -- stop: end
    exact ⟨by rw [decide_eq_false (fun h => h1 h.1)], hS.none⟩
  have h1 := Classical.not_not.1 h1
  refine Cd.skip ?_
  refine thenQ_n ?_
  refine Cd.seq ?_
  refine Cd.seq ?_
  refine Cd.region ?_
  -- stop: FIELDADDR 26 t2=a 1 -> 11
  refine Ops.fld (hS.rd 1 rfl) rfl rfl rfl rfl inferInstance ?_
  refine Ops.ld_aggf 0 (hS.rd 1 rfl) rfl rfl rfl rfl ?_
  refine Ops.fld (hS.rd 0 rfl) rfl rfl rfl rfl inferInstance ?_
  refine Ops.ld_aggf 0 (hS.rd 0 rfl) rfl rfl rfl rfl ?_
  refine Ops.call (eqManiplex_c A2 n2 c2 rs2 x2 B2 m2 d2 ts2 y2 _ (hS.oldRows hR2) (hS.oldRows hT2) hn2) rfl rfl rfl ?_
  rintro _ w4 ⟨rfl, hst⟩
  have hS := hS.later hst.below
  first | refine Ops.not_p rfl rfl ?_ | refine Ops.not rfl rfl ?_
  refine Ops.nil ?_
  refine thenQ_n ?_
  -- stop: cond
  refine Cd.cond_p _ rfl (fun h2 => ?_) (fun h2 => ?_)
  · refine Cd.seq ?_
    refine Cd.region ?_
    refine Ops.mv_bool rfl rfl rfl ?_
    refine Ops.nil ?_
    refine thenQ_n ?_
    refine Cd.ret ?_
    refine thenQ_r ?_
    refine ret1_b rfl ?_
    -- stop: end
    exact ⟨by rw [decide_eq_false (fun h => h2 h.2)], hS.none⟩
  · refine Cd.skip ?_
    refine thenQ_n ?_
    refine Cd.seq ?_
    refine Cd.region ?_
    refine Ops.mv_bool rfl rfl rfl ?_
    refine Ops.nil ?_
    refine thenQ_n ?_
    refine Cd.ret ?_
    refine ret1_b rfl ?_
    -- stop: end
    exact ⟨by rw [decide_eq_true ⟨h1, Classical.not_not.1 h2⟩], hS.none⟩
end Go.Proofs.Ytgobjpcankaicaa.Vc
/-
  A statement whose order Go leaves open, with any operations that turn memory: each world's property holds till the next of them. Conditions: as each rule names them.
-/
namespace Go.Proofs.Ytgobjpcankaicaa.Vc
open Go.RowKit

def dsl (l : List Oper) : List Nat := l.filterMap (·.dst)
theorem filterMap_inj {α β : Type} (f : α → Option β) : ∀ (l : List α), (l.filterMap f).Nodup → ∀ (i j : Nat) (a b : α) (d : β), l[i]? = some a → l[j]? = some b → f a = some d → f b = some d → i = j
  | [], _, i, j, a, b, d, hi, _, _, _ => by simp at hi
  | x :: l, hn, i, j, a, b, d, hi, hj, ha, hb => by
    have mem : ∀ (k : Nat) (c : α), l[k]? = some c → f c = some d → d ∈ l.filterMap f := fun k c hk hc => List.mem_filterMap.2 ⟨c, List.mem_of_getElem? hk, hc⟩
    cases hx : f x with
    | none =>
      rw [List.filterMap_cons, hx] at hn
      cases i with
      | zero => simp at hi; subst hi; rw [hx] at ha; cases ha
      | succ i =>
        cases j with
        | zero => simp at hj; subst hj; rw [hx] at hb; cases hb
        | succ j => rw [filterMap_inj f l hn i j a b d (by simpa using hi) (by simpa using hj) ha hb]
    | some y =>
      rw [List.filterMap_cons, hx] at hn
      simp only [List.nodup_cons] at hn
      cases i with
      | zero =>
        simp at hi; subst hi
        rw [hx] at ha; cases ha
        cases j with
        | zero => rfl
        | succ j => exact absurd (mem j b (by simpa using hj) hb) hn.1
      | succ i =>
        cases j with
        | zero =>
          simp at hj; subst hj
          rw [hx] at hb; cases hb
          exact absurd (mem i a (by simpa using hi) ha) hn.1
        | succ j => rw [filterMap_inj f l hn.2 i j a b d (by simpa using hi) (by simpa using hj) ha hb]

def valOf (o : Oper) (e : Env) : Value := match o.dst with
  | some d => e d
  | none => undef
def isEx : Yd → Bool
  | .ex _ => true
  | .pr _ => false
def drawOkN (N : Nat) (l : List Oper) (ys : List Yd) (ms : List Nat) : Bool :=
  l.all (fun o => match o.dst with | some d => Nat.blt d N | none => true) && decide ((dsl l).Nodup) && (l.zipIdx.all fun p => (aft p.1).all fun ed => Nat.blt ed.on p.2) && Nat.beq l.length ys.length && (l.zip ys).all (fun p => p.1.dst.isSome || !isEx p.2) && decide ms.Nodup && ms.all (fun m => Nat.blt m l.length) && (ys.zipIdx.all fun p => !(isEx p.1) || !(ms.contains p.2))
def loOf (l : List Oper) (ms : List Nat) (k : Nat) : Nat := ms.countP fun m => ancOf l l.length k m
def hiOf (l : List Oper) (ms : List Nat) (k : Nat) : Nat := ms.countP fun m => !(ancOf l l.length m k) && !(Nat.beq m k)
def phOf (l : List Oper) (ms : List Nat) (k : Nat) : Nat := ms.countP fun m => Nat.beq m k || ancOf l l.length k m
/-- one that turns, in order with all that turn -/
def chainAt (l : List Oper) (ms : List Nat) (m : Nat) : Bool := ms.all fun m' => Nat.beq m' m || ancOf l l.length m m' || ancOf l l.length m' m
def Yd.at_ (c ph : Nat) : Yd → Value → World → Prop
  | .ex v, u, _ => u = v
  | .pr p, u, w => c = ph → p u w
def endFrN : List Oper → List Yd → (Nat → Value) → Nat → List (Nat × Value)
  | o :: l, y :: ys, u, i => match o.dst, y with
    | some d, .ex v => (d, v) :: endFrN l ys u (i + 1)
    | some d, .pr _ => (d, u i) :: endFrN l ys u (i + 1)
    | none, _ => endFrN l ys u (i + 1)
  | _, _, _, _ => []
def depFrN (l : List Oper) (ys : List Yd) : List Edge → List (Nat × Value)
  | [] => []
  | ed :: r => match ys[ed.on]?, (l[ed.on]?).bind (·.dst) with
    | some (.ex v), some d => (d, v) :: depFrN l ys r
    | _, _ => depFrN l ys r

theorem le_of_lo {a b c : Nat} (h : a ≤ c) (e : a = b) : b ≤ c := e ▸ h
theorem le_of_hi {a b c : Nat} (h : c ≤ a) (e : a = b) : c ≤ b := e ▸ h
section
variable {P : Program} {N : Nat} {e : Env} {w : World}
def AfterN (o : Oper) (y : Yd) (e1 : Env) (w1 : World) : Env → World → Prop := fun e2 w2 => Below w1.heap.size w1 w2 ∧ y.holds (valOf o e2) w2 ∧ ∀ j, o.dst ≠ some j → e2 j = e1 j
def AfterT (o : Oper) (y : Yd) (e1 : Env) : Env → World → Prop := fun e2 w2 => y.holds (valOf o e2) w2 ∧ ∀ j, o.dst ≠ some j → e2 j = e1 j
theorem upd_at (e1 : Env) (d : Nat) (v : Value) : upd e1 d v d = v := by unfold upd; rw [Nat.beq_refl]; rfl
theorem upd_ne (e1 : Env) {d j : Nat} (v : Value) (h : j ≠ d) : upd e1 d v j = e1 j := by
  have : Nat.beq j d = false := by
    cases hb : Nat.beq j d with
    | false => rfl
    | true => exact absurd (Nat.eq_of_beq_eq_true hb) h
  unfold upd; rw [this]; rfl
theorem AfterN.dn {o : Oper} {y : Yd} {e1 : Env} {w1 w2 : World} {d : Nat} {v : Value} (hd : o.dst = some d) (hb : Below w1.heap.size w1 w2) (hv : y.holds v w2) : AfterN o y e1 w1 (upd e1 d v) w2 := by
  refine ⟨hb, ?_, fun j hj => upd_ne e1 v (fun h => hj (by rw [hd, h]))⟩
  unfold valOf; rw [hd]
  show y.holds (upd e1 d v d) w2
  rw [upd_at]; exact hv
theorem AfterT.dn {o : Oper} {y : Yd} {e1 : Env} {w2 : World} {d : Nat} {v : Value} (hd : o.dst = some d) (hv : y.holds v w2) : AfterT o y e1 (upd e1 d v) w2 := by
  refine ⟨?_, fun j hj => upd_ne e1 v (fun h => hj (by rw [hd, h]))⟩
  unfold valOf; rw [hd]
  show y.holds (upd e1 d v d) w2
  rw [upd_at]; exact hv
theorem AfterT.st {o : Oper} {y : Yd} {e1 : Env} {w2 : World} (hd : o.dst = none) (hv : y.holds undef w2) : AfterT o y e1 e1 w2 := by
  refine ⟨?_, fun j _ => rfl⟩
  unfold valOf; rw [hd]; exact hv

def StepN (P : Program) (N : Nat) (l : List Oper) (ys : List Yd) (ms : List Nat) (e : Env) (w : World) (i : Nat) (o : Oper) : Prop :=
  ∀ (e1 : Env) (w1 : World) (c : Nat), loOf l ms i ≤ c → c ≤ hiOf l ms i → (c = 0 → Below w.heap.size w w1) →
    (∀ (j : Nat) (y : Yd) (o' : Oper), ancOf l l.length i j = true → ys[j]? = some y → l[j]? = some o' → y.at_ c (phOf l ms j) (valOf o' e1) w1) →
    (∀ (j : Nat) (o' : Oper), l[j]? = some o' → ancOf l l.length j i = true → valOf o' e1 = valOf o' e) →
    (∀ (m : Nat) (y : Yd) (o' : Oper), memb ms m = true → chainAt l ms m = true → phOf l ms m = c → ys[m]? = some y → l[m]? = some o' → y.at_ c (phOf l ms m) (valOf o' e1) w1) →
    bif memb ms i then Ops P N l.toArray (AfterT o (ys.getD i (.pr fun _ _ => True)) (ext (mix e1 e (dsl l)) (depFrN l ys (aft o)))) [o] (ext (mix e1 e (dsl l)) (depFrN l ys (aft o))) w1
    else Ops P N l.toArray (AfterN o (ys.getD i (.pr fun _ _ => True)) (ext (mix e1 e (dsl l)) (depFrN l ys (aft o))) w1) [o] (ext (mix e1 e (dsl l)) (depFrN l ys (aft o))) w1
def StepsN (P : Program) (N : Nat) (l : List Oper) (ys : List Yd) (ms : List Nat) (e : Env) (w : World) : Nat → List Oper → Prop
  | _, [] => True
  | i, o :: r => StepN P N l ys ms e w i o ∧ StepsN P N l ys ms e w (i + 1) r
theorem StepsN.get {l : List Oper} {ys : List Yd} {ms : List Nat} : ∀ {r : List Oper} {i : Nat}, StepsN P N l ys ms e w i r → ∀ k o, r[k]? = some o → StepN P N l ys ms e w (i + k) o
  | [], _, _, k, o, hk => by simp at hk
  | x :: r, i, h, 0, o, hk => by simp at hk; subst hk; exact h.1
  | x :: r, i, h, k + 1, o, hk => by
    have := StepsN.get h.2 k o (by simpa using hk)
    rw [show i + 1 + k = i + (k + 1) by omega] at this
    exact this

theorem depFrN_mt {l : List Oper} {ys : List Yd} {e1 : Env} : ∀ (af : List Edge), (∀ ed ∈ af, ∀ (v : Value) (o' : Oper), ys[ed.on]? = some (.ex v) → l[ed.on]? = some o' → valOf o' e1 = v) → Mt e1 (depFrN l ys af)
  | [], _ => trivial
  | ed :: r, h => by
    have hr := depFrN_mt r (fun x hx => h x (List.mem_cons_of_mem _ hx))
    unfold depFrN
    split
    · rename_i v d hy hd
      refine ⟨?_, hr⟩
      cases ho : l[ed.on]? with
      | none => rw [ho] at hd; cases hd
      | some o' =>
        rw [ho] at hd
        have hd' : o'.dst = some d := hd
        have := h ed (by simp) v o' hy ho
        unfold valOf at this
        rw [hd'] at this
        exact this
    · exact hr

theorem endFrN_eq {e1 e : Env} : ∀ (l : List Oper) (ys : List Yd) (i : Nat), l.length = ys.length → (dsl l).Nodup → (∀ (k : Nat) (v : Value) (o : Oper), ys[k]? = some (.ex v) → l[k]? = some o → valOf o e1 = v ∨ o.dst = none) →
    ∃ u : Nat → Value, ext e (endFrN l ys u i) = mix e1 e (dsl l) ∧ (∀ (k : Nat) (o : Oper), l[k]? = some o → u (i + k) = valOf o e1)
  | [], [], i, _, _, _ => ⟨fun _ => undef, by funext j; rfl, fun k o h => by simp at h⟩
  | [], y :: ys, i, hl, _, _ => by simp at hl
  | o :: l, [], i, hl, _, _ => by simp at hl
  | o :: l, y :: ys, i, hl, hn, h => by
    have hn' : (dsl l).Nodup := by
      unfold dsl at hn ⊢
      rw [List.filterMap_cons] at hn
      split at hn
      · exact hn
      · exact (List.nodup_cons.1 hn).2
    obtain ⟨u, hu, hu2⟩ := endFrN_eq (e1 := e1) (e := e) l ys (i + 1) (by simpa using hl) hn' (fun k v o' hy ho => h (k + 1) v o' (by simpa using hy) (by simpa using ho))
    have cng : ∀ (l : List Oper) (ys : List Yd) (i : Nat) (u u' : Nat → Value), (∀ k, i ≤ k → u k = u' k) → endFrN l ys u i = endFrN l ys u' i := by
      intro l
      induction l with
      | nil => intros; rfl
      | cons o l ih =>
        intro ys i u u' hk
        cases ys with
        | nil => rfl
        | cons y ys =>
          have h1 := ih ys (i + 1) u u' (fun k hk' => hk k (by omega))
          simp only [endFrN]
          rw [h1, hk i (by omega)]
    have hc := cng l ys (i + 1) (fun k => if k = i then valOf o e1 else u k) u (fun k hk => by show (if k = i then _ else _) = _; rw [if_neg (by omega)])
    refine ⟨fun k => if k = i then valOf o e1 else u k, ?_, fun k o' hk => ?_⟩
    · cases hd : o.dst with
      | none =>
        have e1' : dsl (o :: l) = dsl l := by unfold dsl; rw [List.filterMap_cons, hd]
        simp only [endFrN, hd, hc, hu, e1']
      | some d =>
        have e1' : dsl (o :: l) = d :: dsl l := by unfold dsl; rw [List.filterMap_cons, hd]
        have hval : valOf o e1 = e1 d := by unfold valOf; rw [hd]
        have hstep : ∀ v, v = e1 d → upd (mix e1 e (dsl l)) d v = mix e1 e (d :: dsl l) := by
          intro v hv
          funext j
          simp only [upd, mix, memb]
          cases hb : Nat.beq j d with
          | true => rw [Nat.eq_of_beq_eq_true hb, hv]; rfl
          | false => rfl
        rw [e1']
        cases y with
        | ex v =>
          have h0 := h 0 v o rfl rfl
          simp only [endFrN, hd, ext, hc, hu]
          refine hstep v ?_
          rcases h0 with h0 | h0
          · rw [← h0, hval]
          · rw [hd] at h0; cases h0
        | pr p =>
          simp only [endFrN, hd, ext, hc, hu, if_pos]
          exact hstep _ hval
    · cases k with
      | zero => simp at hk; subst hk; simp
      | succ k =>
        have := hu2 k o' (by simpa using hk)
        show (if i + (k + 1) = i then _ else u (i + (k + 1))) = _
        rw [if_neg (by omega), ← this]; congr 1; omega

theorem countP_le_of {ms : List Nat} {p q : Nat → Bool} (h : ∀ m ∈ ms, p m = true → q m = true) : ms.countP p ≤ ms.countP q := List.countP_mono_left h

theorem Cd.drawN {id : Nat} {l : List Oper} {Q : Post} (ms : List Nat) (ys : List Yd) (hm : P.follows .mixedOrders = true) (hok : drawOkN N l ys ms = true) (hlasts : ∀ y ∈ ys, y.lasts)
    (hsteps : StepsN P N l ys ms e w 0 l) (hend : ∀ u w1, (ms = [] → Below w.heap.size w w1) → (∀ (k : Nat) (p : Value → World → Prop), ys[k]? = some (Yd.pr p) → phOf l ms k = ms.length → p (u k) w1) → Q .normal (ext e (endFrN l ys u 0)) w1) : Cd P N (.region id l.toArray true) Q e w := .mk' fun a ha => by
  simp only [drawOkN, Bool.and_eq_true, List.all_eq_true, decide_eq_true_eq] at hok
  obtain ⟨⟨⟨⟨⟨⟨⟨h1, h2⟩, h3⟩, hlen⟩, hnone⟩, hmn⟩, hml⟩, hmy⟩ := hok
  have hlen' : l.length = ys.length := Nat.eq_of_beq_eq_true hlen
  have hback : ∀ (i : Nat) (o : Oper), l[i]? = some o → ∀ ed ∈ aft o, ed.on < i := by
    intro i o ho ed hed
    have := h3 (o, i) (by
      obtain ⟨hi, hio⟩ := List.getElem?_eq_some_iff.1 ho
      rw [List.mem_iff_getElem?]
      exact ⟨i, by simp [ho]⟩)
    simpa [Nat.blt_eq] using this ed hed
  have hdN : ∀ (i : Nat) (o : Oper) (d : Nat), l[i]? = some o → o.dst = some d → d < N := by
    intro i o d ho hd
    have := h1 o (List.mem_of_getElem? ho)
    rw [hd] at this
    simpa [Nat.blt_eq] using this
  have hexd : ∀ (i : Nat) (o : Oper) (v : Value), l[i]? = some o → ys[i]? = some (.ex v) → o.dst ≠ none := by
    intro i o v ho hy hd
    have := hnone (o, .ex v) (by
      rw [List.mem_iff_getElem?]
      exact ⟨i, by rw [List.getElem?_zip_eq_some]; exact ⟨ho, hy⟩⟩)
    simp [hd, isEx] at this
  have hmpr : ∀ (m : Nat) (y : Yd), m ∈ ms → ys[m]? = some y → ∃ p, y = .pr p := by
    intro m y hmm hy
    have := hmy (y, m) (by
      obtain ⟨hi, hio⟩ := List.getElem?_eq_some_iff.1 hy
      rw [List.mem_iff_getElem?]
      exact ⟨m, by simp [hy]⟩)
    cases y with
    | ex v => simp [isEx, hmm] at this
    | pr p => exact ⟨p, rfl⟩
  refine wp_region_any hm ?_
  let cnt : Array Bool → Nat := fun listed => ms.countP fun m => listed.getD m false
  have key : ∀ (fuel : Nat) (listed : Array Bool) (a1 : Act) (e1 : Env) (w1 : World), Rep N a1 e1 → (cnt listed = 0 → Below w.heap.size w w1) → (∀ j, memb (dsl l) j = false → e1 j = e j) → listed.size = l.length →
      (∀ (i : Nat) (y : Yd) (o : Oper), listed.getD i false = true → ys[i]? = some y → l[i]? = some o → y.at_ (cnt listed) (phOf l ms i) (valOf o e1) w1) → (∀ (i : Nat) (o : Oper), listed.getD i false = true → l[i]? = some o → ∀ ed ∈ aft o, listed.getD ed.on false = true) → (∀ (i : Nat) (o : Oper), listed.getD i false = false → l[i]? = some o → valOf o e1 = valOf o e) → (l.length - fuel ≤ (List.range l.length).countP fun i => listed.getD i false) →
      wpAny P .any l.toArray (low N Q) fuel listed a1 w1 := by
    have hfin : ∀ (listed : Array Bool) (a1 : Act) (e1 : Env) (w1 : World), Rep N a1 e1 → (cnt listed = 0 → Below w.heap.size w w1) → (∀ j, memb (dsl l) j = false → e1 j = e j) →
        (∀ (i : Nat) (y : Yd) (o : Oper), listed.getD i false = true → ys[i]? = some y → l[i]? = some o → y.at_ (cnt listed) (phOf l ms i) (valOf o e1) w1) → (∀ i, i < l.length → listed.getD i false = true) → low N Q .normal a1 w1 := by
      intro listed a1 e1 w1 hr hb hag hS hall
      have hcnt : cnt listed = ms.length := by
        show ms.countP _ = ms.length
        rw [List.countP_eq_length]
        intro m hmm
        exact hall m (by simpa [Nat.blt_eq] using hml m hmm)
      obtain ⟨u, hu, hu2⟩ := endFrN_eq (e1 := e1) (e := e) l ys 0 hlen' h2 (fun k v o hy ho => .inl (hS k _ o (hall k (List.getElem?_eq_some_iff.1 ho).1) hy ho))
      refine ⟨e1, hr, ?_⟩
      have := hend u w1 (fun h0 => hb (by rw [hcnt, h0]; rfl)) (fun k p hk hph => by
        have hkl : k < l.length := by rw [hlen']; exact (List.getElem?_eq_some_iff.1 hk).1
        have h5 := hS k _ l[k] (hall k hkl) hk (List.getElem?_eq_getElem hkl)
        have h6 := hu2 k l[k] (List.getElem?_eq_getElem hkl)
        rw [Nat.zero_add] at h6
        rw [h6]; exact h5 (by rw [hcnt, hph]))
      rw [hu, mix_eq hag] at this
      exact this
    have hready : ∀ (listed : Array Bool), listed.size = l.length → Region.ready .any l.toArray listed = [] → ∀ i, i < l.length → listed.getD i false = true := by
      intro listed hsz hnil i
      induction i using Nat.strongRecOn with
      | _ i ih =>
        intro hi
        cases hli : listed.getD i false with
        | true => rfl
        | false =>
          exfalso
          have : i ∈ Region.ready .any l.toArray listed := by
            rw [mem_ready]
            refine ⟨?_, l[i], by simp [hi], fun ed hed hbd => ih ed.on (hback i _ (List.getElem?_eq_getElem hi) ed (mem_aft.2 ⟨hed, hbd⟩)) (by have := hback i _ (List.getElem?_eq_getElem hi) ed (mem_aft.2 ⟨hed, hbd⟩); omega)⟩
            rw [Array.getD_eq_getD_getElem?, Array.getElem?_eq_getElem (by omega)] at hli ⊢
            exact hli
          rw [hnil] at this
          cases this
    intro fuel
    induction fuel with
    | zero =>
      intro listed a1 e1 w1 hr hb hag hsz hS hcl hun0 hcnt
      have hall : ∀ i, i < l.length → listed.getD i false = true := by
        have h4 : (List.range l.length).countP (fun i => listed.getD i false) = (List.range l.length).length := by
          have := List.countP_le_length (p := fun i => listed.getD i false) (l := List.range l.length)
          simp at this hcnt ⊢; omega
        rw [List.countP_eq_length] at h4
        intro i hi
        exact h4 i (by simpa using hi)
      refine ⟨?_, hfin listed a1 e1 w1 hr hb hag hS hall⟩
      rw [List.eq_nil_iff_forall_not_mem]
      intro i hi
      obtain ⟨h5, o, ho, _⟩ := mem_ready.1 hi
      have hil : i < l.length := by
        rcases Nat.lt_or_ge i l.length with h | h
        · exact h
        · simp [List.getElem?_eq_none h] at ho
      have h6 := hall i hil
      rw [Array.getD_eq_getD_getElem?, Array.getElem?_eq_getElem (by omega)] at h5 h6
      simp at h5 h6
      rw [h5] at h6; cases h6
    | succ fuel ih =>
      intro listed a1 e1 w1 hr hb hag hsz hS hcl hun0 hcnt
      refine ⟨fun hnil => hfin listed a1 e1 w1 hr hb hag hS (hready listed hsz hnil), fun i hi => ?_⟩
      obtain ⟨hun, o, ho, haf⟩ := mem_ready.1 hi
      have ho' : l[i]? = some o := by simpa using ho
      have hil : i < l.length := (List.getElem?_eq_some_iff.1 ho').1
      have hrd : ∀ ed ∈ aft o, listed.getD ed.on false = true := fun ed hed => haf ed (mem_aft.1 hed).1 (mem_aft.1 hed).2
      have hun' : listed.getD i false = false := by
        have h5 := hun
        rw [Array.getD_eq_getD_getElem?, Array.getElem?_eq_getElem (by omega)] at h5 ⊢
        exact h5
      have hgs : ∀ k, (listed.setIfInBounds i true).getD k false = if k = i then true else listed.getD k false := by
        intro k
        rw [Array.getD_eq_getD_getElem?, Array.getElem?_setIfInBounds]
        by_cases hki : k = i
        · subst hki; rw [if_pos rfl, if_pos (by omega), if_pos rfl]; rfl
        · rw [if_neg (fun e => hki e.symm), if_neg hki, ← Array.getD_eq_getD_getElem?]
      have hlo : loOf l ms i ≤ cnt listed := countP_le_of fun m _ h => ancOf_ready hcl ho' hrd _ _ h
      have hhi : cnt listed ≤ hiOf l ms i := countP_le_of fun m _ h => by
        have hne : Nat.beq m i = false := by
          cases hb : Nat.beq m i with
          | false => rfl
          | true => rw [Nat.eq_of_beq_eq_true hb, hun'] at h; cases h
        have han : ancOf l l.length m i = false := by
          cases hb : ancOf l l.length m i with
          | false => rfl
          | true => have := ancOf_listed hcl _ _ _ hb h; rw [hun'] at this; cases this
        simp [hne, han]
      have hph : ∀ (j : Nat), listed.getD j false = true → phOf l ms j ≤ cnt listed := fun j hj => countP_le_of fun m _ h => by
        rw [Bool.or_eq_true] at h
        rcases h with h | h
        · rw [Nat.eq_of_beq_eq_true h]; exact hj
        · exact ancOf_listed hcl _ _ _ h hj
      have hst := hsteps.get i o ho' e1 w1 (cnt listed)
      rw [Nat.zero_add] at hst
      have hst := hst hlo hhi hb (fun j y o' han hy hoj => hS j y o' (ancOf_ready hcl ho' hrd _ _ han) hy hoj) (fun j o' hj han => by
        refine hun0 j o' ?_ hj
        cases hlj : listed.getD j false with
        | false => rfl
        | true => have := ancOf_listed hcl _ _ _ han hlj; rw [hun'] at this; cases this) (fun m y o' hm hch hphm hy hom => by
        refine hS m y o' ?_ hy hom
        cases hlm : listed.getD m false with
        | true => rfl
        | false =>
          exfalso
          have h8 := countP_one (fun k => listed.getD k false) (fun k => if k = m then true else listed.getD k false) m hlm (fun k => rfl) ms hmn (memb_iff.1 hm)
          have h9 : ms.countP (fun k => if k = m then true else listed.getD k false) ≤ phOf l ms m := countP_le_of fun m' hm' h => by
            by_cases e : m' = m
            · rw [e, Nat.beq_refl]; rfl
            · rw [if_neg e] at h
              simp only [chainAt, List.all_eq_true] at hch
              have h10 := hch m' hm'
              cases h11 : ancOf l l.length m m' with
              | true => rw [Bool.or_true]
              | false =>
                rw [h11, Bool.or_false, Bool.or_eq_true] at h10
                rcases h10 with h10 | h10
                · exact absurd (Nat.eq_of_beq_eq_true h10) e
                · have := ancOf_listed hcl _ _ _ h10 h
                  rw [hlm] at this; cases this
          have h12 : ms.countP (fun k => listed.getD k false) = cnt listed := rfl
          omega)
      rw [mix_eq hag, ext_of_mt (depFrN_mt (aft o) (fun ed hed v o' hy hoj => hS ed.on _ o' (hrd ed hed) hy hoj))] at hst
      let turns : Prop := memb ms i = true
      let KK : Env → World → Prop := fun e2 w2 => (memb ms i = false → Below w1.heap.size w1 w2) ∧ (ys.getD i (.pr fun _ _ => True)).holds (valOf o e2) w2 ∧ ∀ j, o.dst ≠ some j → e2 j = e1 j
      have hwl' : ∃ K : Env → World → Prop, (∀ e2 w2, K e2 w2 → KK e2 w2) ∧ Ops P N l.toArray K [o] e1 w1 := by
        cases hmi : memb ms i with
        | true =>
          rw [hmi] at hst
          exact ⟨_, fun e2 w2 h => ⟨fun h0 => (by rw [hmi] at h0; cases h0), h.1, h.2⟩, hst⟩
        | false =>
          rw [hmi] at hst
          exact ⟨_, fun e2 w2 h => ⟨fun _ => h.1, h.2.1, h.2.2⟩, hst⟩
      obtain ⟨K, hKK, hst'⟩ := hwl'
      have hwl := hst'.run a1 hr
      have hcnt' : cnt (listed.setIfInBounds i true) = if memb ms i = true then cnt listed + 1 else cnt listed := by
        show ms.countP _ = _
        by_cases hmi : memb ms i = true
        · rw [if_pos hmi]
          exact countP_one (fun m => listed.getD m false) (fun m => (listed.setIfInBounds i true).getD m false) i hun' hgs ms hmn (memb_iff.1 hmi)
        · rw [if_neg hmi]
          refine List.countP_congr fun m hmm => ?_
          rw [hgs, if_neg (fun e => hmi (memb_iff.2 (by rw [← e]; exact hmm)))]
      have hnext : ∀ a2 w2, (∃ e2, Rep N a2 e2 ∧ K e2 w2) → wpAny P .any l.toArray (low N Q) fuel (listed.setIfInBounds i true) a2 w2 := by
        intro a2 w2 ⟨e2, hr2, hK2⟩
        obtain ⟨hbl, hy2, hag2⟩ := hKK _ _ hK2
        have hother : ∀ (k : Nat) (o' : Oper), l[k]? = some o' → k ≠ i → valOf o' e2 = valOf o' e1 := by
          intro k o' hok hki
          unfold valOf
          cases hd : o'.dst with
          | none => rfl
          | some d => exact hag2 d (fun h => hki (filterMap_inj _ l h2 k i o' o d hok ho' hd h))
        refine ih _ a2 e2 w2 hr2 (fun h0 => ?_) (fun j hj => ?_) (by simpa using hsz) (fun k y o' hk hy hok => ?_) (fun k o' hk hok ed hed => ?_) (fun k o' hk hok => ?_) ?_
        · rw [hcnt'] at h0
          by_cases hmi : memb ms i = true
          · rw [if_pos hmi] at h0; omega
          · rw [if_neg hmi] at h0
            have := hbl (by simpa using hmi)
            exact (hb h0).trans (this.mono (hb h0).size)
        · have hne : o.dst ≠ some j := by
            intro hd
            have : memb (dsl l) j = true := by rw [memb_iff]; exact List.mem_filterMap.2 ⟨o, List.mem_of_getElem? ho', hd⟩
            rw [this] at hj; cases hj
          rw [hag2 j hne]; exact hag j hj
        · by_cases hki : k = i
          · subst hki
            rw [ho'] at hok
            cases hok
            have : ys.getD k (.pr fun _ _ => True) = y := by simp [List.getD_eq_getElem?_getD, hy]
            rw [this] at hy2
            cases y with
            | ex v => exact hy2
            | pr p => exact fun _ => hy2
          · have hk' : listed.getD k false = true := by rw [hgs, if_neg hki] at hk; exact hk
            have h7 := hS k y o' hk' hy hok
            rw [hother k o' hok hki]
            cases y with
            | ex v => exact h7
            | pr p =>
              intro hc
              rw [hcnt'] at hc
              by_cases hmi : memb ms i = true
              · rw [if_pos hmi] at hc
                have := hph k hk'
                omega
              · rw [if_neg hmi] at hc
                have hl := hlasts _ (List.mem_of_getElem? hy)
                exact hl _ _ _ (h7 hc) (hbl (by simpa using hmi))
        · rw [hgs]
          by_cases hei : ed.on = i
          · rw [if_pos hei]
          · rw [if_neg hei]
            by_cases hki : k = i
            · subst hki
              rw [ho'] at hok; cases hok
              exact hrd ed hed
            · rw [hgs, if_neg hki] at hk
              exact hcl k o' hk hok ed hed
        · rw [hgs] at hk
          by_cases hki : k = i
          · rw [if_pos hki] at hk; cases hk
          · rw [if_neg hki] at hk
            rw [hother k o' hok hki]
            exact hun0 k o' hk hok
        · have hcount : (List.range l.length).countP (fun k => (listed.setIfInBounds i true).getD k false) = (List.range l.length).countP (fun k => listed.getD k false) + 1 :=
            countP_one (fun k => listed.getD k false) (fun k => (listed.setIfInBounds i true).getD k false) i hun' hgs _ List.nodup_range (by simpa using hil)
          rw [hcount]; omega
      unfold wpOp
      rw [ho]
      unfold wpList at hwl
      show if _ then _ else _
      by_cases hw : Region.wanted o (yielded l.toArray a1.tmps) = true
      · rw [if_pos hw] at hwl ⊢
        rcases hwl with h5 | ⟨_, a0, w0, h5⟩
        · refine .inl (Oper.wp_conv h5 (fun a2 w2 hx => ?_) (fun x a w hx hq => hx hq.1))
          exact hnext a2 w2 hx.2
        · exact absurd h5.1 (by simp)
      · rw [if_neg hw] at hwl ⊢
        exact hnext _ _ hwl.2
  refine key l.length (Array.replicate l.length false) a e _ ha (fun _ => ⟨⟨rfl, rfl, rfl, Nat.le_refl _, fun _ _ => rfl⟩, Nat.le_add_right _ _⟩) (fun _ _ => rfl) (by simp) (fun i y o hi => ?_) (fun i o hi => ?_) (fun _ _ _ _ => rfl) (by omega)
  · exfalso
    rw [Array.getD_eq_getD_getElem?, Array.getElem?_replicate] at hi
    split at hi <;> simp at hi
  · exfalso
    rw [Array.getD_eq_getD_getElem?, Array.getElem?_replicate] at hi
    split at hi <;> simp at hi
end
end Go.Proofs.Ytgobjpcankaicaa.Vc
/-
  Structs built, slices of structs, comparisons with nil, rows of a matrix turned. Conditions: as each rule names them.
-/
namespace Go.Proofs.Ytgobjpcankaicaa.Vc
open Go.RowKit
section
variable {P : Program} {N : Nat} {ops : Array Oper} {K : Env → World → Prop} {rest : List Oper} {e : Env} {w0 w w' : World} {ks : List Ck} {d : Nat} {ty : TypeId} {pos : String} {af : Array Edge}

theorem Ops.bld1 {t : TypeId} {f0 : Field} {z0 zf : Value} {b bf : Nat} [Und P t (.struct #[f0])] [Inf P t (.agg #[z0]) 1 b] {x0 : Operand} {v0 : Value} (hI : Inf P f0.type zf 1 bf) (ho : f0.offset = 0) (h0 : ev e x0 = v0) (c0 : v0.oneCell' = true) (hb : Nat.blt d N = true)
    (hK : Ops P N ops K rest (upd e d (.agg #[v0])) w) : Ops P N ops K (⟨some d, .build t #[(0, x0)], ty, pos, af, none⟩ :: rest) e w := by
  obtain ⟨inf, hi, hz0, hs, hby⟩ := Inf.get P t
  obtain ⟨inf', hi', hz0', hs', hby'⟩ := hI.get P f0.type
  have e0 : v0.cells = #[v0] := by cases v0 <;> simp [Value.oneCell'] at c0 <;> rfl
  have ez : (Value.agg #[z0]).cells = #[z0] := rfl
  refine .val (w' := w) ?_ hb hK
  simp [execOp, Instr.build, run_underlying (Und.out (P := P) (t := t)), sizeOf, typeInfo, zeroValue, hi, hz0, hi', hs', ho, h0, e0, ez, Instr.fill]

theorem Ops.bs1A {t el : TypeId} {z z0 : Value} {b : Nat} [Und P t (.slice el)] [Inf P el z 1 b] {x0 : Operand} {A0 : Option Addr} {n0 c0 : Nat} (hS : St w0 w ks) (h0 : ev e x0 = .agg #[.slice A0 n0 c0]) (hz : z.cells = #[z0]) (hb : Nat.blt d N = true)
    (hK : ∀ A w', St w0 w' (CkR el A 1 1 [⟨A0, n0, c0⟩] :: ks) → Ops P N ops K rest (upd e d (.slice A 1 1)) w') : Ops P N ops K (⟨some d, .buildSlice t 1 #[(0, x0)], ty, pos, af, none⟩ :: rest) e w := by
  obtain ⟨inf, hi, hz0, hs, hby⟩ := Inf.get P el
  refine .val (w' := w.alloc (.cells #[.slice A0 n0 c0] el)) ?_ hb (hK _ _ (hS.alloc [.slice A0 n0 c0] el (by simp [maxLen]) rfl))
  simp [execOp, Instr.buildSlice, run_underlying (Und.out (P := P) (t := t)), sizeOf, typeInfo, zeroValue, hi, hs, hz0, hz, Instr.fill, newRow, h0, arr_range, List.range_succ, Value.cells]

theorem Ops.maxI {x y : Operand} {t t' : TypeId} {i j : Int} (hx : ev e x = .int .i64 i) (hy : ev e y = .int .i64 j) (hb : Nat.blt d N = true) (hK : Ops P N ops K rest (upd e d (.int .i64 (max i j))) w) :
    Ops P N ops K (⟨some d, .call ⟨.builtin .max, #[x, y], #[t, t']⟩, ty, pos, af, none⟩ :: rest) e w := by
  have hm : (if i < j then j else i) = max i j := by split <;> omega
  refine .val (w' := w) ?_ hb hK
  simp [execOp, resolve, invoke, builtin, hx, hy, Builtin.max_, Builtin.max2, hm]

theorem Ops.eqNil {t t' el : TypeId} [Und P t (.slice el)] {x y : Operand} {A : Option Addr} {n c : Nat} (hx : ev e x = .slice A n c) (hy : ev e y = .slice none 0 0) (hb : Nat.blt d N = true) (hK : Ops P N ops K rest (upd e d (.bool A.isNone)) w) :
    Ops P N ops K (⟨some d, .binOp .eql t x y t', ty, pos, af, none⟩ :: rest) e w := by
  have hr : (Op.equal t (.slice A n c) (.slice none 0 0)).run P w = .ok A.isNone w := by
    show (Op.equalIn (9999 + 1) t (.slice A n c) (.slice none 0 0)).run P w = _
    rw [Op.equalIn]
    cases A <;> simp [run_underlying (Und.out (P := P) (t := t))]
  exact .val (by simp [execOp, hx, hy, eqGuard, binOp, hr]) hb hK
end

/-! a row of a matrix of one's own -/
theorem rowsCk_set {t : TypeId} : ∀ {rs : List SlV} {xss : List (List Int)} {i : Nat} {xs : List Int}, rs.length = xss.length → i < rs.length → (rowsCk t rs xss).set i (CkI t (rs.getD i slNil).a (rs.getD i slNil).n (rs.getD i slNil).c xs) = rowsCk t rs (xss.set i xs)
  | [], _, _, _, _, h => by simp at h
  | r :: rs, [], _, _, h, _ => by simp at h
  | r :: rs, x :: xss, 0, xs, _, _ => rfl
  | r :: rs, x :: xss, i + 1, xs, h, hi => by
    have := rowsCk_set (t := t) (rs := rs) (xss := xss) (i := i) (xs := xs) (by simpa using h) (by simpa using hi)
    simpa [rowsCk] using this
theorem mat_get {t1 t2 : TypeId} {A : Option Addr} {n c : Nat} {rs : List SlV} {xss : List (List Int)} {pre ks : List Ck} {i : Nat} (hr : rs.length = xss.length) (hi : i < rs.length) :
    (pre ++ (mat t1 t2 A n c rs xss ++ ks))[pre.length + 1 + i]? = some (CkI t2 (rs.getD i slNil).a (rs.getD i slNil).n (rs.getD i slNil).c (xss.getD i [])) := by
  rw [List.getElem?_append_right (by omega), show pre.length + 1 + i - pre.length = i + 1 by omega, List.getElem?_append_left (by simp [mat, rowsCk_length hr]; omega)]
  simpa [mat] using rowsCk_get (t := t2) hr hi
theorem mat_set {t1 t2 : TypeId} {A : Option Addr} {n c : Nat} {rs : List SlV} {xss : List (List Int)} {pre ks : List Ck} {i : Nat} {xs : List Int} (hr : rs.length = xss.length) (hi : i < rs.length) :
    (pre ++ (mat t1 t2 A n c rs xss ++ ks)).set (pre.length + 1 + i) (CkI t2 (rs.getD i slNil).a (rs.getD i slNil).n (rs.getD i slNil).c xs) = pre ++ (mat t1 t2 A n c rs (xss.set i xs) ++ ks) := by
  rw [List.set_append_right _ _ (by omega), show pre.length + 1 + i - pre.length = i + 1 by omega, List.set_append_left _ _ (by simp [mat, rowsCk_length hr]; omega)]
  congr 2
  simp only [mat, List.set_cons_succ]
  rw [rowsCk_set hr hi]

section
variable {P : Program} {N : Nat} {ops : Array Oper} {K : Env → World → Prop} {rest : List Oper} {e : Env} {w0 w w' : World} {ks pre : List Ck} {ty : TypeId} {pos : String} {af : Array Edge}
/-- a store into row i of a matrix of one's own -/
theorem Ops.st_row {t t1 t2 : TypeId} {z : Value} {b : Nat} [Inf P t z 1 b] {a x : Operand} {A : Option Addr} {n c : Nat} {rs : List SlV} {xss : List (List Int)} (i : Nat) {f u : Int} (hS : St w0 w (pre ++ (mat t1 t2 A n c rs xss ++ ks))) (hr : rs.length = xss.length) (hi : i < rs.length) (ha : ev e a = .pointer (ptrAt (rg rs i).a f.toNat)) (hx : ev e x = .int .i64 u) (hj : f.toNat < (rg rs i).n)
    (hK : ∀ w', St w0 w' (pre ++ (mat t1 t2 A n c rs (xss.set i ((gl xss i).set f.toNat u)) ++ ks)) → Ops P N ops K rest e w') : Ops P N ops K (⟨none, .store t a x, ty, pos, af, none⟩ :: rest) e w :=
  .st_int (pre.length + 1 + i) hS (mat_get hr hi) ha hx hj fun w' h => hK w' (by
    have e1 : gl xss i = xss.getD i [] := by simp [gl]
    rw [e1, ← mat_set (pre := pre) (ks := ks) hr hi]; exact h)
end

/-- whole matrices, each told by its slice, its rows' slices, and its numbers -/
structure MatV where
  top : SlV
  rs : List SlV
  xss : List (List Int)
def MatV.ok (m : MatV) : Prop := m.xss.length = m.top.n
def MatV.cks (t1 t2 : TypeId) (m : MatV) : List Ck := mat t1 t2 m.top.a m.top.n m.top.c m.rs m.xss
def matsCk (t1 t2 : TypeId) (ms : List MatV) : List Ck := ms.flatMap (MatV.cks t1 t2)
theorem matsCk_append (t1 t2 : TypeId) (ms ms' : List MatV) : matsCk t1 t2 (ms ++ ms') = matsCk t1 t2 ms ++ matsCk t1 t2 ms' := by simp [matsCk, List.flatMap_append]
end Go.Proofs.Ytgobjpcankaicaa.Vc
/-
  The walks of copies and of the reference's tests of partial moves. Conditions: as each states them.
-/
namespace Go.Proofs.Ytgobjpcankaicaa.Vc
open Go.RowKit

theorem l01Own_c (A : Option Addr) (n c : Nat) (xs : List Int) (w : World) (hR : RdI w A n xs) (hn : n ≤ 1000000000) : Ret Try.prog 97 [.slice A n c] w (fun v w' => ∃ A' c', v = .slice A' n c' ∧ St w w' [CkI 2 A' n c' xs]) := by
  refine Ret.of_cd Try.func97 rfl Try.ntmps97 rfl (post1 rfl) ?_
  refine Cd.seq ?_
  refine Cd.region ?_
  refine Ops.mv_sl rfl rfl rfl ?_
  refine Ops.nil ?_
  refine thenQ_n ?_
  refine Cd.seq ?_
  refine Cd.region ?_
  -- stop: BUILDSLICE 33 0 [] -> 3
  refine Ops.bs0 (St.refl w) rfl ?_
  intro A1 w1 hS1
  have hS1 : St w w1 [CkI 2 A1 0 0 []] := hS1
  refine Ops.mv_sl rfl rfl rfl ?_
  -- stop: BUILTIN append(t3, t4) -> 5
  refine Ops.appI 0 hS1 rfl (hS1.oldI hR) rfl rfl rfl (by omega) (by omega) rfl ?_
  intro A2 c2 w2 hS2
  rw [Nat.zero_add] at hS2 ⊢
  refine Ops.mv_sl rfl rfl rfl ?_
  refine Ops.nil ?_
  refine thenQ_n ?_
  refine Cd.ret ?_
  refine ret1_s rfl ?_
  -- stop: end
  exact ⟨A2, c2, rfl, hS2⟩

theorem l01Own2_c (A : Option Addr) (n c : Nat) (rs : List SlV) (xss : List (List Int)) (w : World) (hR : RowsI w A n rs xss) (hn : n ≤ 1000000000) (hr : ∀ i, i < n → (rs.getD i slNil).n ≤ 1000000000) :
    Ret Try.prog 133 [.slice A n c] w (fun v w' => ∃ A' c' rs', v = .slice A' n c' ∧ rs'.length = n ∧ St w w' (mat 33 2 A' n c' rs' xss)) := by
  refine Ret.of_cd Try.func133 rfl Try.ntmps133 rfl (post1 rfl) ?_
  refine Cd.seq ?_
  refine Cd.region ?_
  refine Ops.mv_sl rfl rfl rfl ?_
  refine Ops.nil ?_
  refine thenQ_n ?_
  refine Cd.seq ?_
  refine Cd.region ?_
  -- stop: BUILDSLICE 22 0 [] -> 5
  refine Ops.bs0 (St.refl w) rfl ?_
  intro A1 w1 hS1
  have hS1 : St w w1 [CkR 33 A1 0 0 []] := hS1
  refine Ops.mv_sl rfl rfl rfl ?_
  refine Ops.nil ?_
  refine thenQ_n ?_
  refine Cd.seq ?_
  refine Cd.seq ?_
  refine Cd.region ?_
  refine Ops.mv_int rfl rfl rfl ?_
  refine Ops.nil ?_
  refine thenQ_n ?_
  refine Cd.block ?_
  -- stop: loop
  refine Cd.loop (α := Nat × Option Addr × Nat × List SlV) (fun s => [(0, .slice A n c), (3, .slice s.2.1 s.1 s.2.2.1), (4, .int .i64 (s.1 : Int))]) (fun s w' => St w w' (CkR 33 s.2.1 s.1 s.2.2.1 s.2.2.2 :: rowsCk 2 s.2.2.2 (xss.take s.1)) ∧ s.1 ≤ n ∧ s.2.2.2.length = s.1) (fun s => n - s.1) (0, A1, 0, []) ⟨rfl, rfl, rfl, trivial⟩ ⟨hS1, Nat.zero_le _, rfl⟩ ?_
  rintro ⟨k, A3, c3, rs1⟩ e w2 ⟨hS2, hk, hlen⟩
  dsimp only at hS2 hk hlen ⊢
  refine Cd.seq ?_
  refine Cd.seq ?_
  refine Cd.region ?_
  refine Ops.mv_int rfl rfl rfl ?_
  refine Ops.mv_sl rfl rfl rfl ?_
  refine Ops.len rfl rfl ?_
  refine Ops.lss rfl rfl rfl ?_
  refine Ops.nil ?_
  refine thenQ_n ?_
  -- stop: cond
  refine Cd.cond_p _ rfl (fun h1 => ?_) (fun h1 => ?_)
  · have hk' : k < n := by omega
    have hx : k < xss.length := by rw [hR.len]; exact hk'
    refine Cd.skip ?_
    refine thenQ_n ?_
    refine Cd.seq ?_
    refine Cd.block ?_
    refine Cd.region ?_
    refine Ops.mv_sl rfl rfl rfl ?_
    refine Ops.mv_sl rfl rfl rfl ?_
    refine Ops.mv_int rfl rfl rfl ?_
    -- stop: INDEXADDR 22 t13 t14 -> 15
    refine Ops.idx (hS2.oldR hR.top).2 rfl rfl rfl (by omega) h1 ?_
    refine Ops.ld_sl (hS2.oldR hR.top) rfl (by omega) rfl rfl ?_
    refine Ops.call (l01Own_c _ _ _ _ _ (hS2.oldI (hR.at_ (i := k) (by omega) h1)) (hr k hk')) rfl rfl rfl ?_
    rintro _ w3 ⟨A4, c4, rfl, hS3⟩
    have hS3 := hS2.call hS3
    refine Ops.bs1R hS3 rfl rfl rfl ?_
    intro A5 w4 hS4
    refine Ops.appR 2 hS4 rfl (hS4.rdR 0 rfl) rfl rfl rfl (by omega) (by omega) rfl ?_
    intro A6 c6 w5 hS5
    refine Ops.mv_sl rfl rfl rfl ?_
    refine Ops.nil ?_
    refine blockQ_n ?_
    refine thenQ_n ?_
    refine Cd.region ?_
    refine Ops.mv_int rfl rfl rfl ?_
    refine Ops.add rfl rfl rfl (by omega) ?_
    refine Ops.mv_int rfl rfl rfl ?_
    refine Ops.nil ?_
    refine thenQ_n ?_
    -- stop: round
    refine ⟨(k + 1, A6, c6, rs1 ++ [⟨A4, (rg rs k).n, c4⟩]), by show n - (k + 1) < n - k; omega, ⟨rfl, rfl, rfl, trivial⟩, ?_, hk', by simp [hlen]⟩
    have e2 : gl xss k = xss[k] := by simp [gl, List.getD_eq_getElem?_getD, List.getElem?_eq_getElem hx]
    show St w w5 (CkR _ A6 (k + 1) c6 (rs1 ++ [_]) :: rowsCk _ (rs1 ++ [_]) (xss.take (k + 1)))
    rw [List.take_succ_eq_append_getElem hx, rowsCk_append (by simp [hlen]; omega)]
    have h5 : St w w5 (CkI 2 A4 (rg rs k).n c4 (gl xss k) :: CkR 33 A6 (k + 1) c6 (rs1 ++ [⟨A4, (rg rs k).n, c4⟩]) :: rowsCk 2 rs1 (xss.take k)) := hS5.tail
    rw [e2] at h5
    refine h5.perm ?_
    refine (List.Perm.swap _ _ _).trans (List.Perm.cons _ ?_)
    exact List.perm_append_comm (l₁ := [_])
  · refine Cd.exit ?_
    refine thenQ_x ?_
    refine thenQ_x ?_
    refine blockQ_x ?_
    refine thenQ_n ?_
    refine Cd.seq ?_
    refine Cd.region ?_
    refine Ops.mv_sl rfl rfl rfl ?_
    refine Ops.mv_sl rfl rfl rfl ?_
    refine Ops.nil ?_
    refine thenQ_n ?_
    refine Cd.ret ?_
    refine ret1_s rfl ?_
    -- stop: end
    have : k = n := by omega
    subst this
    rw [← hR.len, List.take_length] at hS2
    exact ⟨A3, c3, rs1, rfl, hlen, by rw [← hR.len]; exact hS2⟩

theorem RowsI.shp {w : World} {A : Option Addr} {n F : Nat} {rs : List SlV} {M : List (List Int)} (hR : RowsI w A n rs M) (hs : Shp n F M) {k : Int} (h0 : 0 ≤ k) (h1 : k < n) : (rg rs k).n = F := by
  rw [← hR.rowLen h0 h1]
  exact hs.2 _ (gl_in h0 (by rw [hs.1]; exact h1))

theorem l19Known_c (A : Option Addr) (n c F : Nat) (rs : List SlV) (M : List (List Int)) (i : Nat) (f : Int) (w : World) (hR : RowsI w A n rs M) (hs : Shp n F M) (hi : i < n) (hf : f < F) :
    Ret Try.prog 224 [.slice A n c, .int .i64 (i : Int), .int .i64 f] w (fun v w' => v = .int .i64 (kn M i f) ∧ w' = w) := by
  have hn := hR.shp hs (k := (i : Int)) (by omega) (by omega)
  refine Ret.of_cd Try.func224 rfl Try.ntmps224 rfl (post1 rfl) ?_
  refine Cd.seq ?_
  refine Cd.region ?_
  refine Ops.mv_int rfl rfl rfl ?_
  refine Ops.nil ?_
  refine thenQ_n ?_
  refine Cd.seq ?_
  refine Cd.seq ?_
  refine Cd.region ?_
  refine Ops.mv_int rfl rfl rfl ?_
  refine Ops.lss rfl rfl rfl ?_
  refine Ops.nil ?_
  refine thenQ_n ?_
  -- stop: cond
  refine Cd.cond_p _ rfl (fun h => ?_) (fun h => ?_)
  · refine Cd.seq ?_
    refine Cd.region ?_
    refine Ops.mv_int rfl rfl rfl ?_
    refine Ops.nil ?_
    refine thenQ_n ?_
    refine Cd.ret ?_
    refine thenQ_r ?_
    refine ret1_i rfl ?_
    -- stop: end
    exact ⟨by unfold kn; rw [if_pos h], rfl⟩
  · refine Cd.skip ?_
    refine thenQ_n ?_
    refine Cd.seq ?_
    refine Cd.region ?_
    refine Ops.mv_sl rfl rfl rfl ?_
    refine Ops.mv_int rfl rfl rfl ?_
    -- stop: INDEXADDR 22 t9 t10 -> 11
    refine Ops.idx hR.top.2 rfl rfl rfl (by omega) (by omega) ?_
    refine Ops.ld_sl hR.top rfl (by omega) rfl rfl ?_
    refine Ops.mv_int rfl rfl rfl ?_
    -- stop: INDEXADDR 33 t12 t13 -> 14
    refine Ops.idx (hR.at_ (i := i) (by omega) (by omega)).2 rfl rfl rfl (by omega) (by omega) ?_
    refine Ops.ld_int (hR.at_ (i := i) (by omega) (by omega)) rfl (by omega) rfl rfl ?_
    refine Ops.mv_int rfl rfl rfl ?_
    refine Ops.nil ?_
    refine thenQ_n ?_
    refine Cd.ret ?_
    refine ret1_i rfl ?_
    -- stop: end
    exact ⟨by unfold kn; rw [if_neg h]; rfl, rfl⟩

/-- partial moves whose numbers are flags, or below 0 -/
def Rng (n F : Nat) (M : List (List Int)) : Prop := ∀ (i : Nat) (f : Int), i < n → 0 ≤ f → f < F → cell M i f < F
theorem Inv.rng {n F : Nat} {M : List (List Int)} {met at_ : Nat} (h : Inv n F M met at_) : Rng n F M := fun i f hi h0 hf => by
  have := h.metF
  rcases h.cells i f hi h0 hf with h1 | h1
  · omega
  · omega

theorem l19Fits_c (A : Option Addr) (n c F : Nat) (rs : List SlV) (M : List (List Int)) (f : Nat) (w : World) (hR : RowsI w A n rs M) (hs : Shp n F M) (hg : Rng n F M) (hn : n ≤ 1000) (hf : f < F) :
    Ret Try.prog 191 [.slice A n c, .int .i64 (f : Int)] w (fun v w' => v = .bool (decide (FitsAll M (f : Int))) ∧ St w w' []) := by
  have hlen := hs.1
  refine Ret.of_cd Try.func191 rfl Try.ntmps191 rfl (post1 rfl) ?_
  refine Cd.seq ?_
  refine Cd.region ?_
  refine Ops.mv_bool rfl rfl rfl ?_
  refine Ops.nil ?_
  refine thenQ_n ?_
  refine Cd.seq ?_
  refine Cd.region ?_
  refine Ops.mv_sl rfl rfl rfl ?_
  refine Ops.len rfl rfl ?_
  refine Ops.mv_int rfl rfl rfl ?_
  refine Ops.nil ?_
  refine thenQ_n ?_
  refine Cd.seq ?_
  refine Cd.seq ?_
  refine Cd.region ?_
  refine Ops.mv_int rfl rfl rfl ?_
  refine Ops.nil ?_
  refine thenQ_n ?_
  refine Cd.block ?_
  -- stop: loop
  refine Cd.loop (α := Nat) (fun i => [(0, .slice A n c), (1, .int .i64 (f : Int)), (5, .int .i64 (n : Int)), (6, .int .i64 (i : Int))]) (fun i w' => St w w' [] ∧ i ≤ n ∧ ∀ i', i' < i → ∀ k, k < n → i' + 2 ≤ k → FitsP M i' k f) (fun i => n - i) 0 ⟨rfl, rfl, rfl, rfl, trivial⟩ ⟨St.refl w, Nat.zero_le _, fun i' h => by omega⟩ ?_
  rintro i e w1 ⟨hS1, hi, hI⟩
  refine Cd.seq ?_
  refine Cd.seq ?_
  refine Cd.region ?_
  refine Ops.mv_int rfl rfl rfl ?_
  refine Ops.mv_int rfl rfl rfl ?_
  refine Ops.lss rfl rfl rfl ?_
  refine Ops.nil ?_
  refine thenQ_n ?_
  -- stop: cond
  refine Cd.cond_p _ rfl (fun h1 => ?_) (fun h1 => ?_)
  · refine Cd.skip ?_
    refine thenQ_n ?_
    refine Cd.seq ?_
    refine Cd.block ?_
    refine Cd.seq ?_
    refine Cd.region ?_
    refine Ops.mv_int rfl rfl rfl ?_
    refine Ops.add rfl rfl rfl (by omega) ?_
    refine Ops.mv_int rfl rfl rfl ?_
    refine Ops.nil ?_
    refine thenQ_n ?_
    refine Cd.block ?_
    -- stop: loop
    refine Cd.loop (α := Nat) (fun k => [(0, .slice A n c), (1, .int .i64 (f : Int)), (5, .int .i64 (n : Int)), (6, .int .i64 (i : Int)), (7, .int .i64 (k : Int))]) (fun k w' => St w w' [] ∧ i + 2 ≤ k ∧ ∀ k', k' < k → k' < n → i + 2 ≤ k' → FitsP M i k' f) (fun k => n + 1 - k) (i + 2) ⟨rfl, rfl, rfl, rfl, rfl, trivial⟩ ⟨hS1, Nat.le_refl _, fun k' _ _ _ => by omega⟩ ?_
    rintro k e w2 ⟨hS2, hik, hK⟩
    refine Cd.seq ?_
    refine Cd.seq ?_
    refine Cd.region ?_
    refine Ops.mv_int rfl rfl rfl ?_
    refine Ops.mv_int rfl rfl rfl ?_
    refine Ops.lss rfl rfl rfl ?_
    refine Ops.nil ?_
    refine thenQ_n ?_
    -- stop: cond
    refine Cd.cond_p _ rfl (fun h2 => ?_) (fun h2 => ?_)
    · have hM := hS2.oldRows hR
      have hri := hM.at_ (i := i) (by omega) h1
      have hrk := hM.at_ (i := k) (by omega) h2
      have ni := hM.shp hs (k := (i : Int)) (by omega) h1
      have nk := hM.shp hs (k := (k : Int)) (by omega) h2
      refine Cd.skip ?_
      refine thenQ_n ?_
      refine Cd.seq ?_
      refine Cd.block ?_
      refine Cd.seq ?_
      -- stop: draw
      refine Cd.draw [.ex (.slice (A) (n) (c)), .ex (.int .i64 ((i : Int))), .ex (.pointer (ptrAt (A) ((i : Int)).toNat)), .ex (.slice ((rg (rs) ((i : Int))).a) ((rg (rs) ((i : Int))).n) ((rg (rs) ((i : Int))).c)), .ex (.int .i64 ((f : Int))), .ex (.pointer (ptrAt ((rg (rs) ((i : Int))).a) ((f : Int)).toNat)), .ex (.int .i64 (gi (gl M i) ((f : Int)))), .ex (.slice (A) (n) (c)), .ex (.int .i64 ((k : Int))), .ex (.pointer (ptrAt (A) ((k : Int)).toNat)), .ex (.slice ((rg (rs) ((k : Int))).a) ((rg (rs) ((k : Int))).n) ((rg (rs) ((k : Int))).c)), .ex (.int .i64 ((f : Int))), .ex (.pointer (ptrAt ((rg (rs) ((k : Int))).a) ((f : Int)).toNat)), .ex (.int .i64 (gi (gl M k) ((f : Int)))), .ex (.int .i64 (gi (gl M i) ((f : Int)))), .ex (.int .i64 (gi (gl M k) ((f : Int))))] (by kernel_rfl) (by kernel_rfl) rfl (List.forall_mem_cons.2 ⟨Yd.lasts_ex _, (List.forall_mem_cons.2 ⟨Yd.lasts_ex _, (List.forall_mem_cons.2 ⟨Yd.lasts_ex _, (List.forall_mem_cons.2 ⟨Yd.lasts_ex _, (List.forall_mem_cons.2 ⟨Yd.lasts_ex _, (List.forall_mem_cons.2 ⟨Yd.lasts_ex _, (List.forall_mem_cons.2 ⟨Yd.lasts_ex _, (List.forall_mem_cons.2 ⟨Yd.lasts_ex _, (List.forall_mem_cons.2 ⟨Yd.lasts_ex _, (List.forall_mem_cons.2 ⟨Yd.lasts_ex _, (List.forall_mem_cons.2 ⟨Yd.lasts_ex _, (List.forall_mem_cons.2 ⟨Yd.lasts_ex _, (List.forall_mem_cons.2 ⟨Yd.lasts_ex _, (List.forall_mem_cons.2 ⟨Yd.lasts_ex _, (List.forall_mem_cons.2 ⟨Yd.lasts_ex _, (List.forall_mem_cons.2 ⟨Yd.lasts_ex _, (fun _ h => by cases h)⟩)⟩)⟩)⟩)⟩)⟩)⟩)⟩)⟩)⟩)⟩)⟩)⟩)⟩)⟩)⟩) ⟨?_, ?_, ?_, ?_, ?_, ?_, ?_, ?_, ?_, ?_, ?_, ?_, ?_, ?_, ?_, ?_, trivial⟩ ?_
      · intro e1 w1 hb hp hun
        refine Ops.mv_sl rfl rfl rfl ?_
        refine Ops.nil ?_
        exact After.dn (Below.refl _ _) (by exact rfl)
      · intro e1 w1 hb hp hun
        refine Ops.mv_int rfl rfl rfl ?_
        refine Ops.nil ?_
        exact After.dn (Below.refl _ _) (by exact rfl)
      · intro e1 w1 hb hp hun
        refine Ops.idx (hM.top.later hb).2 rfl rfl rfl (by omega) (by omega) ?_
        refine Ops.nil ?_
        exact After.dn (Below.refl _ _) (by exact rfl)
      · intro e1 w1 hb hp hun
        refine Ops.ld_sl (hM.top.later hb) rfl (by omega) rfl rfl ?_
        refine Ops.nil ?_
        exact After.dn (Below.refl _ _) (by exact rfl)
      · intro e1 w1 hb hp hun
        refine Ops.mv_int rfl rfl rfl ?_
        refine Ops.nil ?_
        exact After.dn (Below.refl _ _) (by exact rfl)
      · intro e1 w1 hb hp hun
        refine Ops.idx (hri.later hb).2 rfl rfl rfl (by omega) (by omega) ?_
        refine Ops.nil ?_
        exact After.dn (Below.refl _ _) (by exact rfl)
      · intro e1 w1 hb hp hun
        refine Ops.ld_int (hri.later hb) rfl (by omega) rfl rfl ?_
        refine Ops.nil ?_
        exact After.dn (Below.refl _ _) (by exact rfl)
      · intro e1 w1 hb hp hun
        refine Ops.mv_sl rfl rfl rfl ?_
        refine Ops.nil ?_
        exact After.dn (Below.refl _ _) (by exact rfl)
      · intro e1 w1 hb hp hun
        refine Ops.mv_int rfl rfl rfl ?_
        refine Ops.nil ?_
        exact After.dn (Below.refl _ _) (by exact rfl)
      · intro e1 w1 hb hp hun
        refine Ops.idx (hM.top.later hb).2 rfl rfl rfl (by omega) (by omega) ?_
        refine Ops.nil ?_
        exact After.dn (Below.refl _ _) (by exact rfl)
      · intro e1 w1 hb hp hun
        refine Ops.ld_sl (hM.top.later hb) rfl (by omega) rfl rfl ?_
        refine Ops.nil ?_
        exact After.dn (Below.refl _ _) (by exact rfl)
      · intro e1 w1 hb hp hun
        refine Ops.mv_int rfl rfl rfl ?_
        refine Ops.nil ?_
        exact After.dn (Below.refl _ _) (by exact rfl)
      · intro e1 w1 hb hp hun
        refine Ops.idx (hrk.later hb).2 rfl rfl rfl (by omega) (by omega) ?_
        refine Ops.nil ?_
        exact After.dn (Below.refl _ _) (by exact rfl)
      · intro e1 w1 hb hp hun
        refine Ops.ld_int (hrk.later hb) rfl (by omega) rfl rfl ?_
        refine Ops.nil ?_
        exact After.dn (Below.refl _ _) (by exact rfl)
      · intro e1 w1 hb hp hun
        refine Ops.mv_int rfl rfl rfl ?_
        refine Ops.nil ?_
        exact After.dn (Below.refl _ _) (by exact rfl)
      · intro e1 w1 hb hp hun
        refine Ops.mv_int rfl rfl rfl ?_
        refine Ops.nil ?_
        exact After.dn (Below.refl _ _) (by exact rfl)
      intro u w3 hb3 _
      have hS3 := hS2.later hb3
      have hM := hS3.oldRows hR
      refine thenQ_n ?_
      -- stop: join
      refine Cd.join (α := Unit) (fun _ => [(0, .slice A n c), (1, .int .i64 (f : Int)), (5, .int .i64 (n : Int)), (6, .int .i64 (i : Int)), (7, .int .i64 (k : Int)), (8, .int .i64 (cell M i f)), (9, .int .i64 (cell M k f))]) (fun _ w' => w' = w3 ∧ (0 ≤ cell M i f → cell M i f ≠ cell M k f)) ?_ ?_
      · refine Cd.seq ?_
        refine Cd.region ?_
        refine Ops.mv_int rfl rfl rfl ?_
        refine Ops.geq rfl rfl rfl ?_
        refine Ops.mv_bool rfl rfl rfl ?_
        -- stop: guard 42
        refine Ops.split_p 42 rfl (fun h3 => ?_) (fun h3 => ?_)
        · refine Ops.rung rfl rfl rfl ?_
          refine Ops.mv_int rfl rfl rfl ?_
          refine Ops.rung rfl rfl rfl ?_
          refine Ops.mv_int rfl rfl rfl ?_
          refine Ops.rung rfl rfl rfl ?_
          refine Ops.eql rfl rfl rfl ?_
          refine Ops.pick_t rfl rfl rfl ?_
          refine Ops.nil ?_
          refine thenQ_n ?_
          -- stop: cond
          refine Cd.cond_p _ rfl (fun h4 => ?_) (fun h4 => ?_)
          · refine Cd.seq ?_
            refine Cd.region ?_
            refine Ops.mv_bool rfl rfl rfl ?_
            refine Ops.nil ?_
            refine thenQ_n ?_
            refine Cd.ret ?_
            refine thenQ_r ?_
            refine blockQ_r ?_
            refine thenQ_r ?_
            refine thenQ_r ?_
            refine blockQ_r ?_
            refine blockQ_r ?_
            refine thenQ_r ?_
            refine thenQ_r ?_
            refine blockQ_r ?_
            refine thenQ_r ?_
            refine ret1_b rfl ?_
            -- stop: end
            exact ⟨by rw [decide_eq_false (fun hF : FitsAll M f => (hF i (by omega) k (by omega) hik).1 h3 h4)], hS3⟩
          · refine Cd.skip ?_
            refine thenQ_n ?_
            -- stop: round
            exact ⟨(), ⟨rfl, rfl, rfl, rfl, rfl, rfl, rfl, trivial⟩, rfl, fun _ => h4⟩
        · refine Ops.skipg rfl rfl rfl rfl rfl ?_
          refine Ops.skipg rfl rfl rfl rfl rfl ?_
          refine Ops.skipg rfl rfl rfl rfl rfl ?_
          refine Ops.pick_f rfl rfl rfl ?_
          refine Ops.nil ?_
          refine thenQ_n ?_
          -- stop: cond
          refine Cd.cond_f rfl ?_
          refine Cd.skip ?_
          refine thenQ_n ?_
          -- stop: round
          exact ⟨(), ⟨rfl, rfl, rfl, rfl, rfl, rfl, rfl, trivial⟩, rfl, fun h => absurd h h3⟩
      rintro _ e w3 ⟨rfl, hne⟩
      have gi1 := hg i f (by omega) (by omega) (by omega)
      have gk1 := hg k f (by omega) (by omega) (by omega)
      refine Cd.seq ?_
      refine Cd.region ?_
      refine Ops.mv_sl rfl rfl rfl ?_
      refine Ops.mv_int rfl rfl rfl ?_
      refine Ops.mv_int rfl rfl rfl ?_
      -- stop: CALL spec.l19Known(t47, t48, t49) -> 50
      refine Ops.call (l19Known_c A n c F rs M k _ _ hM hs (by omega) gi1) rfl rfl rfl ?_
      rintro _ w4 ⟨rfl, rfl⟩
      refine Ops.mv_sl rfl rfl rfl ?_
      refine Ops.mv_int rfl rfl rfl ?_
      refine Ops.mv_int rfl rfl rfl ?_
      -- stop: CALL spec.l19Known(t51, t52, t53) -> 54
      refine Ops.call (l19Known_c A n c F rs M i _ _ hM hs (by omega) gk1) rfl rfl rfl ?_
      rintro _ w5 ⟨rfl, rfl⟩
      have good : ∀ {w' : World} {e' : Env}, (0 ≤ kn M k (cell M i f) → 0 ≤ kn M i (cell M k f) → kn M k (cell M i f) = kn M i (cell M k f)) → ∀ k', k' < k + 1 → k' < n → i + 2 ≤ k' → FitsP M i k' f := fun hk k' hk' hkn hik' => by
        by_cases ek : k' = k
        · subst ek; exact ⟨hne, hk⟩
        · exact hK k' (by omega) hkn hik'
      refine Ops.mv_int rfl rfl rfl ?_
      refine Ops.mv_int rfl rfl rfl ?_
      refine Ops.nil ?_
      refine thenQ_n ?_
      refine Cd.seq ?_
      refine Cd.region ?_
      refine Ops.mv_int rfl rfl rfl ?_
      refine Ops.geq rfl rfl rfl ?_
      refine Ops.mv_bool rfl rfl rfl ?_
      -- stop: guard 57
      refine Ops.split_p 57 rfl (fun h3 => ?_) (fun h3 => ?_)
      · refine Ops.rung rfl rfl rfl ?_
        refine Ops.mv_int rfl rfl rfl ?_
        refine Ops.rung rfl rfl rfl ?_
        refine Ops.geq rfl rfl rfl ?_
        refine Ops.pick_t rfl rfl rfl ?_
        refine Ops.mv_bool rfl rfl rfl ?_
        -- stop: guard 61
        refine Ops.split_p 61 rfl (fun h4 => ?_) (fun h4 => ?_)
        · refine Ops.rung rfl rfl rfl ?_
          refine Ops.mv_int rfl rfl rfl ?_
          refine Ops.rung rfl rfl rfl ?_
          refine Ops.mv_int rfl rfl rfl ?_
          refine Ops.rung rfl rfl rfl ?_
          refine Ops.neq rfl rfl rfl ?_
          refine Ops.pick_t rfl rfl rfl ?_
          refine Ops.nil ?_
          refine thenQ_n ?_
          -- stop: cond
          refine Cd.cond_p _ rfl (fun h5 => ?_) (fun h5 => ?_)
          · refine Cd.seq ?_
            refine Cd.region ?_
            refine Ops.mv_bool rfl rfl rfl ?_
            refine Ops.nil ?_
            refine thenQ_n ?_
            refine Cd.ret ?_
            refine blockQ_r ?_
            refine thenQ_r ?_
            refine thenQ_r ?_
            refine blockQ_r ?_
            refine blockQ_r ?_
            refine thenQ_r ?_
            refine thenQ_r ?_
            refine blockQ_r ?_
            refine thenQ_r ?_
            refine ret1_b rfl ?_
            -- stop: end
            exact ⟨by rw [decide_eq_false (fun hF : FitsAll M f => h5 ((hF i (by omega) k (by omega) hik).2 h3 h4))], hS3⟩
          · refine Cd.skip ?_
            refine blockQ_n ?_
            refine thenQ_n ?_
            refine Cd.region ?_
            refine Ops.mv_int rfl rfl rfl ?_
            refine Ops.add rfl rfl rfl (by omega) ?_
            refine Ops.mv_int rfl rfl rfl ?_
            refine Ops.nil ?_
            refine thenQ_n ?_
            -- stop: round
            exact ⟨k + 1, by omega, ⟨rfl, rfl, rfl, rfl, rfl, trivial⟩, hS3, by omega, good (w' := w) (e' := e) (fun _ _ => Classical.not_not.1 h5)⟩
        · refine Ops.skipg rfl rfl rfl rfl rfl ?_
          refine Ops.skipg rfl rfl rfl rfl rfl ?_
          refine Ops.skipg rfl rfl rfl rfl rfl ?_
          refine Ops.pick_f rfl rfl rfl ?_
          refine Ops.nil ?_
          refine thenQ_n ?_
          -- stop: cond
          refine Cd.cond_f rfl ?_
          refine Cd.skip ?_
          refine blockQ_n ?_
          refine thenQ_n ?_
          refine Cd.region ?_
          refine Ops.mv_int rfl rfl rfl ?_
          refine Ops.add rfl rfl rfl (by omega) ?_
          refine Ops.mv_int rfl rfl rfl ?_
          refine Ops.nil ?_
          refine thenQ_n ?_
          -- stop: round
          exact ⟨k + 1, by omega, ⟨rfl, rfl, rfl, rfl, rfl, trivial⟩, hS3, by omega, good (w' := w) (e' := e) (fun _ h => absurd h h4)⟩
      · refine Ops.skipg rfl rfl rfl rfl rfl ?_
        refine Ops.skipg rfl rfl rfl rfl rfl ?_
        refine Ops.pick_f rfl rfl rfl ?_
        refine Ops.mv_bool rfl rfl rfl ?_
        refine Ops.skipg rfl rfl rfl rfl rfl ?_
        refine Ops.skipg rfl rfl rfl rfl rfl ?_
        refine Ops.skipg rfl rfl rfl rfl rfl ?_
        refine Ops.pick_f rfl rfl rfl ?_
        refine Ops.nil ?_
        refine thenQ_n ?_
        -- stop: cond
        refine Cd.cond_f rfl ?_
        refine Cd.skip ?_
        refine blockQ_n ?_
        refine thenQ_n ?_
        refine Cd.region ?_
        refine Ops.mv_int rfl rfl rfl ?_
        refine Ops.add rfl rfl rfl (by omega) ?_
        refine Ops.mv_int rfl rfl rfl ?_
        refine Ops.nil ?_
        refine thenQ_n ?_
        -- stop: round
        exact ⟨k + 1, by omega, ⟨rfl, rfl, rfl, rfl, rfl, trivial⟩, hS3, by omega, good (w' := w) (e' := e) (fun h => absurd h h3)⟩
    · refine Cd.exit ?_
      refine thenQ_x ?_
      refine thenQ_x ?_
      refine blockQ_x ?_
      refine blockQ_n ?_
      refine thenQ_n ?_
      refine Cd.region ?_
      refine Ops.mv_int rfl rfl rfl ?_
      refine Ops.add rfl rfl rfl (by omega) ?_
      refine Ops.mv_int rfl rfl rfl ?_
      refine Ops.nil ?_
      refine thenQ_n ?_
      -- stop: round
      refine ⟨i + 1, by omega, ⟨rfl, rfl, rfl, rfl, trivial⟩, hS2, by omega, fun i' hi' k' hk' hik' => ?_⟩
      by_cases ei : i' = i
      · subst ei; exact hK k' (by omega) hk' hik'
      · exact hI i' (by omega) k' hk' hik'
  · refine Cd.exit ?_
    refine thenQ_x ?_
    refine thenQ_x ?_
    refine blockQ_x ?_
    refine thenQ_n ?_
    refine Cd.seq ?_
    refine Cd.region ?_
    refine Ops.mv_bool rfl rfl rfl ?_
    refine Ops.nil ?_
    refine thenQ_n ?_
    refine Cd.ret ?_
    refine ret1_b rfl ?_
    -- stop: end
    exact ⟨by rw [decide_eq_true (show FitsAll M f from fun i' hi' k' hk' hik' => hI i' (by omega) k' (by omega) hik')], hS1⟩
end Go.Proofs.Ytgobjpcankaicaa.Vc
/-
  The walk of the reference's search for rooted forms. Conditions: as each states them.
-/
namespace Go.Proofs.Ytgobjpcankaicaa.Vc
open Go.RowKit

theorem perm_mid {α : Type} (a b c : List α) (x : α) : (a ++ (x :: (b ++ c))).Perm (x :: (b ++ (a ++ c))) :=
  List.perm_middle.trans (List.Perm.cons _ (by rw [← List.append_assoc, ← List.append_assoc]; exact List.Perm.append_right c List.perm_append_comm))

theorem perm_four {α : Type} (a b c d : List α) : (a ++ (b ++ (c ++ d))).Perm (b ++ ((c ++ a) ++ d)) := by
  have h1 := List.Perm.append_right (c ++ d) (List.perm_append_comm (l₁ := a) (l₂ := b))
  rw [List.append_assoc, List.append_assoc] at h1
  have h2 := List.Perm.append_right d (List.perm_append_comm (l₁ := a) (l₂ := c))
  rw [List.append_assoc] at h2
  exact h1.trans (List.Perm.append_left _ h2)

/-- known places are passed -/
theorem grow_skip {n F : Nat} {ok : List (List Int) → Nat → Nat → Bool} {fin : List (List Int) → Bool} {M : List (List Int)} {met : Nat} : ∀ (s fuel at_ : Nat), at_ + s ≤ met * n → (∀ a, at_ ≤ a → a < at_ + s → 0 ≤ cell M (a % n) (a / n : Nat)) → grow n F ok fin (fuel + s) at_ met M = grow n F ok fin fuel (at_ + s) met M
  | 0, fuel, at_, _, _ => rfl
  | s + 1, fuel, at_, hle, hk => by
    rw [← Nat.add_assoc]
    show (if _ then _ else _) = _
    rw [if_neg (by omega), if_pos (hk at_ (Nat.le_refl _) (by omega)), grow_skip s fuel (at_ + 1) (by omega) (fun a h1 h2 => hk a (by omega) (by omega))]
    congr 1; omega
theorem Inv.upto {n F : Nat} {M : List (List Int)} {met at_ : Nat} (h : Inv n F M met at_) : ∀ (b : Nat), at_ ≤ b → b ≤ met * n → (∀ a, a < b → 0 ≤ cell M (a % n) (a / n : Nat)) → Inv n F M met b := fun b _ hb hk =>
  ⟨h.shp, h.n0, h.met1, h.metF, h.cells, hk, h.con, hb⟩

/-- what the loop over g has found -/
def body (n F : Nat) (ok : List (List Int) → Nat → Nat → Bool) (fin : List (List Int) → Bool) (k at_ met : Nat) (M : List (List Int)) (g : Nat) : List (List (List Int)) :=
  if 0 ≤ cell M (at_ % n) (g : Nat) then [] else if ok (put M (at_ % n) (at_ / n) g) (at_ % n) (at_ / n) = true then grow n F ok fin k (at_ + 1) (max met (g + 1)) (put M (at_ % n) (at_ / n) g) else []
theorem grow_body {n F : Nat} {ok : List (List Int) → Nat → Nat → Bool} {fin : List (List Int) → Bool} {k at_ met : Nat} {M : List (List Int)} (ha : at_ ≠ met * n) (hk : ¬ 0 ≤ cell M (at_ % n) (at_ / n : Nat)) :
    grow n F ok fin (k + 1) at_ met M = (List.range' (at_ / n + 1) (min met (F - 1) - at_ / n)).flatMap (body n F ok fin k at_ met M) := by
  show (if _ then _ else _) = _
  rw [if_neg ha, if_neg hk]; rfl
theorem range_step {α : Type} (f : Nat → List α) {s c g : Nat} (h1 : s ≤ g) (h2 : g < s + c) : (List.range' s (g + 1 - s)).flatMap f = (List.range' s (g - s)).flatMap f ++ f g := by
  rw [show g + 1 - s = (g - s) + 1 by omega, List.range'_concat, List.flatMap_append]
  simp [show s + (g - s) = g by omega]
theorem range_rest {α : Type} (f : Nat → List α) {s c g : Nat} (h1 : s ≤ g) (h2 : g < s + c) : ((List.range' s (g - s)).flatMap f).length + (f g).length ≤ ((List.range' s c).flatMap f).length := by
  have e : List.range' s c = List.range' s (g + 1 - s) ++ List.range' (g + 1) (c - (g + 1 - s)) := by
    rw [show c = (g + 1 - s) + (c - (g + 1 - s)) by omega, ← List.range'_append_1]
    congr 2 <;> omega
  rw [e, List.flatMap_append, range_step f h1 h2]
  simp only [List.length_append]
  omega
end Go.Proofs.Ytgobjpcankaicaa.Vc
/-
  The walk of the reference's search for rooted forms. Conditions: as each states them.
-/
namespace Go.Proofs.Ytgobjpcankaicaa.Vc
open Go.RowKit

theorem l19Grow_c (n F : Nat) (hn5 : n ≤ 5) (hF : 2 ≤ F ∧ F ≤ 400) : ∀ (fuel at_ met : Nat) (M : List (List Int)), Inv n F M met at_ → F * n + 1 ≤ fuel + at_ → ∀ (w0 w : World) (ks : List Ck) (Ao : Option Addr) (no co : Nat) (outs : List SlV) (A : Option Addr) (c : Nat) (rs : List SlV),
    St w0 w (CkR 24 Ao no co outs :: (mat 33 2 A n c rs M ++ ks)) → no + (grow n F (okS F) (fun _ => true) fuel at_ met M).length ≤ 4000000000000 →
    Ret Try.prog 153 [.slice A n c, .int .i64 (F : Int), .int .i64 (met : Int), .slice Ao no co] w (fun v w' => ∃ A' c', ∃ new : List MatV, v = .slice A' (no + new.length) c' ∧ (∀ m ∈ new, m.ok) ∧ new.map (·.xss) = grow n F (okS F) (fun _ => true) fuel at_ met M ∧
      St w0 w' (CkR 24 A' (no + new.length) c' (outs ++ new.map (·.top)) :: (mat 33 2 A n c rs M ++ (matsCk 33 2 new ++ ks)))) := by
  intro fuel
  induction fuel using Nat.strongRecOn with
  | _ fuel ih =>
  intro at_ met M hI hfuel w0 w ks Ao no co outs A c rs hS hB
  have hn0 := hI.n0
  have hmet := hI.metF
  have hlen := hI.shp.1
  have hmn : met * n ≤ 2000 := Nat.le_trans (Nat.mul_le_mul hI.metF hn5) (by have : F * 5 ≤ 400 * 5 := Nat.mul_le_mul_right 5 hF.2
                                                                             omega)
  have hMn : ((met : Int) * (n : Int)) = ((met * n : Nat) : Int) := rfl
  have unOut : ∀ {w' : World} {o : Ck} {ks' : List Ck}, St w0 w' (o :: (mat 33 2 A n c rs M ++ ks')) → RowsI w' A n rs M := fun h => h.tail.rowsI hlen
  refine Ret.of_cd Try.func153 rfl Try.ntmps153 rfl (post1 rfl) ?_
  refine Cd.seq ?_
  refine Cd.region ?_
  refine Ops.mv_sl rfl rfl rfl ?_
  refine Ops.nil ?_
  refine thenQ_n ?_
  refine Cd.seq ?_
  refine Cd.region ?_
  refine Ops.mv_sl rfl rfl rfl ?_
  refine Ops.len rfl rfl ?_
  refine Ops.mv_int rfl rfl rfl ?_
  refine Ops.nil ?_
  refine thenQ_n ?_
  refine Cd.seq ?_
  refine Cd.region ?_
  refine Ops.mv_int rfl rfl rfl ?_
  refine Ops.nil ?_
  refine thenQ_n ?_
  refine Cd.seq ?_
  refine Cd.block ?_
  -- stop: loop
  refine Cd.loop (α := Nat) (fun a => [(0, .slice A n c), (1, .int .i64 (F : Int)), (2, .int .i64 (met : Int)), (3, .slice Ao no co), (9, .int .i64 (n : Int)), (10, .int .i64 (a : Int))]) (fun a w' => Below w.heap.size w w' ∧ a ≤ met * n ∧ ∀ b, b < a → 0 ≤ cell M (b % n) (b / n : Nat)) (fun a => met * n - a) 0 ⟨rfl, rfl, rfl, rfl, rfl, rfl, trivial⟩ ⟨Below.refl _ _, Nat.zero_le _, fun b hb => by omega⟩ ?_
  rintro a e w1 ⟨hb1, ha, hk⟩
  have hS1 := hS.later hb1
  have hR := unOut hS1
  refine Cd.seq ?_
  refine Cd.seq ?_
  -- stop: draw
  by_cases h1 : (a : Int) < ((met * n : Nat) : Int)
  · have hpos : a % n < n ∧ a / n < met := ⟨Nat.mod_lt _ hn0, Nat.div_lt_of_lt_mul (by rw [Nat.mul_comm]; omega)⟩
    have hrow := hR.at_ (i := ((a % n : Nat) : Int)) (Int.natCast_nonneg _) (by omega)
    have hrn := hR.shp hI.shp (k := ((a % n : Nat) : Int)) (Int.natCast_nonneg _) (by omega)
    generalize hr : a % n = r at *
    generalize hq : a / n = q at *
    have hmod : (a : Int) % (n : Int) = ((r : Nat) : Int) := by rw [← hr]; rfl
    have hdiv : (a : Int) / (n : Int) = ((q : Nat) : Int) := by rw [← hq]; rfl
    by_cases h2 : 0 ≤ cell M r (q : Int)
    · --dup 3
      refine Cd.draw [.ex (.int .i64 ((a : Int))), .ex (.int .i64 ((met : Int))), .ex (.int .i64 ((n : Int))), .ex (.int .i64 (((met * n : Nat) : Int))), .ex (.bool (true)), .ex (.bool (true)), .ex (.slice (A) (n) (c)), .ex (.int .i64 ((a : Int))), .ex (.int .i64 ((n : Int))), .ex (.int .i64 ((r : Int))), .ex (.pointer (ptrAt (A) ((r : Int)).toNat)), .ex (.slice ((rg (rs) ((r : Int))).a) ((rg (rs) ((r : Int))).n) ((rg (rs) ((r : Int))).c)), .ex (.int .i64 ((a : Int))), .ex (.int .i64 ((n : Int))), .ex (.int .i64 ((q : Int))), .ex (.pointer (ptrAt ((rg (rs) ((r : Int))).a) ((q : Int)).toNat)), .ex (.int .i64 (gi (gl M r) ((q : Int)))), .ex (.bool (true)), .ex (.bool (true))] (by kernel_rfl) (by kernel_rfl) rfl (List.forall_mem_cons.2 ⟨Yd.lasts_ex _, (List.forall_mem_cons.2 ⟨Yd.lasts_ex _, (List.forall_mem_cons.2 ⟨Yd.lasts_ex _, (List.forall_mem_cons.2 ⟨Yd.lasts_ex _, (List.forall_mem_cons.2 ⟨Yd.lasts_ex _, (List.forall_mem_cons.2 ⟨Yd.lasts_ex _, (List.forall_mem_cons.2 ⟨Yd.lasts_ex _, (List.forall_mem_cons.2 ⟨Yd.lasts_ex _, (List.forall_mem_cons.2 ⟨Yd.lasts_ex _, (List.forall_mem_cons.2 ⟨Yd.lasts_ex _, (List.forall_mem_cons.2 ⟨Yd.lasts_ex _, (List.forall_mem_cons.2 ⟨Yd.lasts_ex _, (List.forall_mem_cons.2 ⟨Yd.lasts_ex _, (List.forall_mem_cons.2 ⟨Yd.lasts_ex _, (List.forall_mem_cons.2 ⟨Yd.lasts_ex _, (List.forall_mem_cons.2 ⟨Yd.lasts_ex _, (List.forall_mem_cons.2 ⟨Yd.lasts_ex _, (List.forall_mem_cons.2 ⟨Yd.lasts_ex _, (List.forall_mem_cons.2 ⟨Yd.lasts_ex _, (fun _ h => by cases h)⟩)⟩)⟩)⟩)⟩)⟩)⟩)⟩)⟩)⟩)⟩)⟩)⟩)⟩)⟩)⟩)⟩)⟩)⟩) ⟨?_, ?_, ?_, ?_, ?_, ?_, ?_, ?_, ?_, ?_, ?_, ?_, ?_, ?_, ?_, ?_, ?_, ?_, ?_, trivial⟩ ?_
      · intro e1 w1 hb hp hun
        refine Ops.mv_int rfl rfl rfl ?_
        refine Ops.nil ?_
        exact After.dn (Below.refl _ _) (by exact rfl)
      · intro e1 w1 hb hp hun
        refine Ops.mv_int rfl rfl rfl ?_
        refine Ops.nil ?_
        exact After.dn (Below.refl _ _) (by exact rfl)
      · intro e1 w1 hb hp hun
        refine Ops.mv_int rfl rfl rfl ?_
        refine Ops.nil ?_
        exact After.dn (Below.refl _ _) (by exact rfl)
      · intro e1 w1 hb hp hun
        refine Ops.mul rfl rfl rfl (by rw [hMn]; omega) ?_
        refine Ops.nil ?_
        exact After.dn (Below.refl _ _) (by exact rfl)
      · intro e1 w1 hb hp hun
        refine Ops.lss rfl rfl rfl ?_
        refine Ops.nil ?_
        exact After.dn (Below.refl _ _) (by exact congrArg Value.bool (decide_eq_true h1))
      · intro e1 w1 hb hp hun
        refine Ops.mv_bool rfl rfl rfl ?_
        refine Ops.nil ?_
        exact After.dn (Below.refl _ _) (by exact rfl)
      · intro e1 w1 hb hp hun
        refine Ops.rung rfl rfl rfl ?_
        refine Ops.mv_sl rfl rfl rfl ?_
        refine Ops.nil ?_
        exact After.dn (Below.refl _ _) (by exact rfl)
      · intro e1 w1 hb hp hun
        refine Ops.rung rfl rfl rfl ?_
        refine Ops.mv_int rfl rfl rfl ?_
        refine Ops.nil ?_
        exact After.dn (Below.refl _ _) (by exact rfl)
      · intro e1 w1 hb hp hun
        refine Ops.rung rfl rfl rfl ?_
        refine Ops.mv_int rfl rfl rfl ?_
        refine Ops.nil ?_
        exact After.dn (Below.refl _ _) (by exact rfl)
      · intro e1 w1 hb hp hun
        refine Ops.rung rfl rfl rfl ?_
        refine Ops.rem rfl rfl rfl (by omega) ?_
        rw [hmod]
        refine Ops.nil ?_
        exact After.dn (Below.refl _ _) (by exact rfl)
      · intro e1 w1 hb hp hun
        refine Ops.rung rfl rfl rfl ?_
        refine Ops.idx (hR.top.later hb).2 rfl rfl rfl (by omega) (by omega) ?_
        refine Ops.nil ?_
        exact After.dn (Below.refl _ _) (by exact rfl)
      · intro e1 w1 hb hp hun
        refine Ops.rung rfl rfl rfl ?_
        refine Ops.ld_sl (hR.top.later hb) rfl (by omega) rfl rfl ?_
        refine Ops.nil ?_
        exact After.dn (Below.refl _ _) (by exact rfl)
      · intro e1 w1 hb hp hun
        refine Ops.rung rfl rfl rfl ?_
        refine Ops.mv_int rfl rfl rfl ?_
        refine Ops.nil ?_
        exact After.dn (Below.refl _ _) (by exact rfl)
      · intro e1 w1 hb hp hun
        refine Ops.rung rfl rfl rfl ?_
        refine Ops.mv_int rfl rfl rfl ?_
        refine Ops.nil ?_
        exact After.dn (Below.refl _ _) (by exact rfl)
      · intro e1 w1 hb hp hun
        refine Ops.rung rfl rfl rfl ?_
        refine Ops.quo rfl rfl rfl (by omega) ?_
        rw [hdiv]
        refine Ops.nil ?_
        exact After.dn (Below.refl _ _) (by exact rfl)
      · intro e1 w1 hb hp hun
        refine Ops.rung rfl rfl rfl ?_
        refine Ops.idx (hrow.later hb).2 rfl rfl rfl (by omega) (by omega) ?_
        refine Ops.nil ?_
        exact After.dn (Below.refl _ _) (by exact rfl)
      · intro e1 w1 hb hp hun
        refine Ops.rung rfl rfl rfl ?_
        refine Ops.ld_int (hrow.later hb) rfl (by omega) rfl rfl ?_
        refine Ops.nil ?_
        exact After.dn (Below.refl _ _) (by exact rfl)
      · intro e1 w1 hb hp hun
        refine Ops.rung rfl rfl rfl ?_
        refine Ops.geq rfl rfl rfl ?_
        refine Ops.nil ?_
        exact After.dn (Below.refl _ _) (by exact congrArg Value.bool (decide_eq_true h2))
      · intro e1 w1 hb hp hun
        refine Ops.pick_t rfl rfl rfl ?_
        refine Ops.nil ?_
        exact After.dn (Below.refl _ _) (by exact rfl)
      intro u w2 hb2 _
      have hb2 := hb1.trans (hb2.mono hb1.size)
      refine thenQ_n ?_
      -- stop: cond
      refine Cd.cond_t rfl ?_
      refine Cd.skip ?_
      refine thenQ_n ?_
      refine Cd.block ?_
      refine Cd.region ?_
      refine Ops.mv_int rfl rfl rfl ?_
      refine Ops.add rfl rfl rfl (by omega) ?_
      refine Ops.mv_int rfl rfl rfl ?_
      refine Ops.nil ?_
      refine blockQ_n ?_
      refine thenQ_n ?_
      -- stop: round
      refine ⟨a + 1, by omega, ⟨rfl, rfl, rfl, rfl, rfl, rfl, trivial⟩, hb2, by omega, fun b hb => ?_⟩
      by_cases eb : b = a
      · subst eb; rw [hr, hq]; exact h2
      · exact hk b (by omega)
    · refine Cd.draw [.ex (.int .i64 ((a : Int))), .ex (.int .i64 ((met : Int))), .ex (.int .i64 ((n : Int))), .ex (.int .i64 (((met * n : Nat) : Int))), .ex (.bool (true)), .ex (.bool (true)), .ex (.slice (A) (n) (c)), .ex (.int .i64 ((a : Int))), .ex (.int .i64 ((n : Int))), .ex (.int .i64 ((r : Int))), .ex (.pointer (ptrAt (A) ((r : Int)).toNat)), .ex (.slice ((rg (rs) ((r : Int))).a) ((rg (rs) ((r : Int))).n) ((rg (rs) ((r : Int))).c)), .ex (.int .i64 ((a : Int))), .ex (.int .i64 ((n : Int))), .ex (.int .i64 ((q : Int))), .ex (.pointer (ptrAt ((rg (rs) ((r : Int))).a) ((q : Int)).toNat)), .ex (.int .i64 (gi (gl M r) ((q : Int)))), .ex (.bool (false)), .ex (.bool (false))] (by kernel_rfl) (by kernel_rfl) rfl (List.forall_mem_cons.2 ⟨Yd.lasts_ex _, (List.forall_mem_cons.2 ⟨Yd.lasts_ex _, (List.forall_mem_cons.2 ⟨Yd.lasts_ex _, (List.forall_mem_cons.2 ⟨Yd.lasts_ex _, (List.forall_mem_cons.2 ⟨Yd.lasts_ex _, (List.forall_mem_cons.2 ⟨Yd.lasts_ex _, (List.forall_mem_cons.2 ⟨Yd.lasts_ex _, (List.forall_mem_cons.2 ⟨Yd.lasts_ex _, (List.forall_mem_cons.2 ⟨Yd.lasts_ex _, (List.forall_mem_cons.2 ⟨Yd.lasts_ex _, (List.forall_mem_cons.2 ⟨Yd.lasts_ex _, (List.forall_mem_cons.2 ⟨Yd.lasts_ex _, (List.forall_mem_cons.2 ⟨Yd.lasts_ex _, (List.forall_mem_cons.2 ⟨Yd.lasts_ex _, (List.forall_mem_cons.2 ⟨Yd.lasts_ex _, (List.forall_mem_cons.2 ⟨Yd.lasts_ex _, (List.forall_mem_cons.2 ⟨Yd.lasts_ex _, (List.forall_mem_cons.2 ⟨Yd.lasts_ex _, (List.forall_mem_cons.2 ⟨Yd.lasts_ex _, (fun _ h => by cases h)⟩)⟩)⟩)⟩)⟩)⟩)⟩)⟩)⟩)⟩)⟩)⟩)⟩)⟩)⟩)⟩)⟩)⟩)⟩) ⟨?_, ?_, ?_, ?_, ?_, ?_, ?_, ?_, ?_, ?_, ?_, ?_, ?_, ?_, ?_, ?_, ?_, ?_, ?_, trivial⟩ ?_
      · intro e1 w1 hb hp hun
        refine Ops.mv_int rfl rfl rfl ?_
        refine Ops.nil ?_
        exact After.dn (Below.refl _ _) (by exact rfl)
      · intro e1 w1 hb hp hun
        refine Ops.mv_int rfl rfl rfl ?_
        refine Ops.nil ?_
        exact After.dn (Below.refl _ _) (by exact rfl)
      · intro e1 w1 hb hp hun
        refine Ops.mv_int rfl rfl rfl ?_
        refine Ops.nil ?_
        exact After.dn (Below.refl _ _) (by exact rfl)
      · intro e1 w1 hb hp hun
        refine Ops.mul rfl rfl rfl (by rw [hMn]; omega) ?_
        refine Ops.nil ?_
        exact After.dn (Below.refl _ _) (by exact rfl)
      · intro e1 w1 hb hp hun
        refine Ops.lss rfl rfl rfl ?_
        refine Ops.nil ?_
        exact After.dn (Below.refl _ _) (by exact congrArg Value.bool (decide_eq_true h1))
      · intro e1 w1 hb hp hun
        refine Ops.mv_bool rfl rfl rfl ?_
        refine Ops.nil ?_
        exact After.dn (Below.refl _ _) (by exact rfl)
      · intro e1 w1 hb hp hun
        refine Ops.rung rfl rfl rfl ?_
        refine Ops.mv_sl rfl rfl rfl ?_
        refine Ops.nil ?_
        exact After.dn (Below.refl _ _) (by exact rfl)
      · intro e1 w1 hb hp hun
        refine Ops.rung rfl rfl rfl ?_
        refine Ops.mv_int rfl rfl rfl ?_
        refine Ops.nil ?_
        exact After.dn (Below.refl _ _) (by exact rfl)
      · intro e1 w1 hb hp hun
        refine Ops.rung rfl rfl rfl ?_
        refine Ops.mv_int rfl rfl rfl ?_
        refine Ops.nil ?_
        exact After.dn (Below.refl _ _) (by exact rfl)
      · intro e1 w1 hb hp hun
        refine Ops.rung rfl rfl rfl ?_
        refine Ops.rem rfl rfl rfl (by omega) ?_
        rw [hmod]
        refine Ops.nil ?_
        exact After.dn (Below.refl _ _) (by exact rfl)
      · intro e1 w1 hb hp hun
        refine Ops.rung rfl rfl rfl ?_
        refine Ops.idx (hR.top.later hb).2 rfl rfl rfl (by omega) (by omega) ?_
        refine Ops.nil ?_
        exact After.dn (Below.refl _ _) (by exact rfl)
      · intro e1 w1 hb hp hun
        refine Ops.rung rfl rfl rfl ?_
        refine Ops.ld_sl (hR.top.later hb) rfl (by omega) rfl rfl ?_
        refine Ops.nil ?_
        exact After.dn (Below.refl _ _) (by exact rfl)
      · intro e1 w1 hb hp hun
        refine Ops.rung rfl rfl rfl ?_
        refine Ops.mv_int rfl rfl rfl ?_
        refine Ops.nil ?_
        exact After.dn (Below.refl _ _) (by exact rfl)
      · intro e1 w1 hb hp hun
        refine Ops.rung rfl rfl rfl ?_
        refine Ops.mv_int rfl rfl rfl ?_
        refine Ops.nil ?_
        exact After.dn (Below.refl _ _) (by exact rfl)
      · intro e1 w1 hb hp hun
        refine Ops.rung rfl rfl rfl ?_
        refine Ops.quo rfl rfl rfl (by omega) ?_
        rw [hdiv]
        refine Ops.nil ?_
        exact After.dn (Below.refl _ _) (by exact rfl)
      · intro e1 w1 hb hp hun
        refine Ops.rung rfl rfl rfl ?_
        refine Ops.idx (hrow.later hb).2 rfl rfl rfl (by omega) (by omega) ?_
        refine Ops.nil ?_
        exact After.dn (Below.refl _ _) (by exact rfl)
      · intro e1 w1 hb hp hun
        refine Ops.rung rfl rfl rfl ?_
        refine Ops.ld_int (hrow.later hb) rfl (by omega) rfl rfl ?_
        refine Ops.nil ?_
        exact After.dn (Below.refl _ _) (by exact rfl)
      · intro e1 w1 hb hp hun
        refine Ops.rung rfl rfl rfl ?_
        refine Ops.geq rfl rfl rfl ?_
        refine Ops.nil ?_
        exact After.dn (Below.refl _ _) (by exact congrArg Value.bool (decide_eq_false h2))
      · intro e1 w1 hb hp hun
        refine Ops.pick_t rfl rfl rfl ?_
        refine Ops.nil ?_
        exact After.dn (Below.refl _ _) (by exact rfl)
      intro u w2 hb2 _
      have hS2 := hS1.later hb2
      refine thenQ_n ?_
      -- stop: cond
      refine Cd.cond_f rfl ?_
      refine Cd.exit ?_
      refine thenQ_x ?_
      refine thenQ_x ?_
      refine blockQ_x ?_
      refine thenQ_n ?_
      refine Cd.seq ?_
      refine Cd.seq ?_
      refine Cd.region ?_
      refine Ops.mv_int rfl rfl rfl ?_
      refine Ops.mv_int rfl rfl rfl ?_
      refine Ops.mv_int rfl rfl rfl ?_
      -- stop: BINOP mul 2 t41 t42 2 -> 43
      refine Ops.mul rfl rfl rfl (by rw [hMn]; omega) ?_
      refine Ops.eql rfl rfl rfl ?_
      refine Ops.nil ?_
      refine thenQ_n ?_
      -- stop: cond
      refine Cd.cond_pf rfl (by rw [hMn]; omega) ?_
      refine Cd.skip ?_
      refine thenQ_n ?_
      refine Cd.seq ?_
      -- stop: draw
      refine Cd.draw [.ex (.int .i64 ((a : Int))), .ex (.int .i64 ((n : Int))), .ex (.int .i64 ((q : Int))), .ex (.int .i64 ((a : Int))), .ex (.int .i64 ((n : Int))), .ex (.int .i64 ((r : Int))), .ex (.int .i64 ((q : Int))), .ex (.int .i64 ((r : Int)))] (by kernel_rfl) (by kernel_rfl) rfl (List.forall_mem_cons.2 ⟨Yd.lasts_ex _, (List.forall_mem_cons.2 ⟨Yd.lasts_ex _, (List.forall_mem_cons.2 ⟨Yd.lasts_ex _, (List.forall_mem_cons.2 ⟨Yd.lasts_ex _, (List.forall_mem_cons.2 ⟨Yd.lasts_ex _, (List.forall_mem_cons.2 ⟨Yd.lasts_ex _, (List.forall_mem_cons.2 ⟨Yd.lasts_ex _, (List.forall_mem_cons.2 ⟨Yd.lasts_ex _, (fun _ h => by cases h)⟩)⟩)⟩)⟩)⟩)⟩)⟩)⟩) ⟨?_, ?_, ?_, ?_, ?_, ?_, ?_, ?_, trivial⟩ ?_
      · intro e1 w1 hb hp hun
        refine Ops.mv_int rfl rfl rfl ?_
        refine Ops.nil ?_
        exact After.dn (Below.refl _ _) (by exact rfl)
      · intro e1 w1 hb hp hun
        refine Ops.mv_int rfl rfl rfl ?_
        refine Ops.nil ?_
        exact After.dn (Below.refl _ _) (by exact rfl)
      · intro e1 w1 hb hp hun
        refine Ops.quo rfl rfl rfl (by omega) ?_
        rw [hdiv]
        refine Ops.nil ?_
        exact After.dn (Below.refl _ _) (by exact rfl)
      · intro e1 w1 hb hp hun
        refine Ops.mv_int rfl rfl rfl ?_
        refine Ops.nil ?_
        exact After.dn (Below.refl _ _) (by exact rfl)
      · intro e1 w1 hb hp hun
        refine Ops.mv_int rfl rfl rfl ?_
        refine Ops.nil ?_
        exact After.dn (Below.refl _ _) (by exact rfl)
      · intro e1 w1 hb hp hun
        refine Ops.rem rfl rfl rfl (by omega) ?_
        rw [hmod]
        refine Ops.nil ?_
        exact After.dn (Below.refl _ _) (by exact rfl)
      · intro e1 w1 hb hp hun
        refine Ops.mv_int rfl rfl rfl ?_
        refine Ops.nil ?_
        exact After.dn (Below.refl _ _) (by exact rfl)
      · intro e1 w1 hb hp hun
        refine Ops.mv_int rfl rfl rfl ?_
        refine Ops.nil ?_
        exact After.dn (Below.refl _ _) (by exact rfl)
      intro u w3 hb3 _
      have hS3 := hS2.later hb3
      refine thenQ_n ?_
      refine Cd.seq ?_
      refine Cd.seq ?_
      refine Cd.region ?_
      refine Ops.mv_int rfl rfl rfl ?_
      refine Ops.add rfl rfl rfl (by omega) ?_
      refine Ops.mv_int rfl rfl rfl ?_
      refine Ops.nil ?_
      refine thenQ_n ?_
      refine Cd.block ?_
      -- stop: loop
      have hIa := hI.upto a (by
          apply Classical.byContradiction
          intro hlt
          exact h2 (by rw [← hr, ← hq]; exact hI.known a (by omega))) (by omega) hk
      have haM : a ≠ met * n := by omega
      have hmnF : met * n ≤ F * n := Nat.mul_le_mul_right n hmet
      have hat : at_ ≤ a := by
        apply Classical.byContradiction
        intro hlt
        exact h2 (by rw [← hr, ← hq]; exact hI.known a (by omega))
      obtain ⟨f', rfl⟩ : ∃ f', fuel = f' + 1 + (a - at_) := ⟨fuel - 1 - (a - at_), by omega⟩
      have hun : ¬ 0 ≤ cell M (a % n) (a / n : Nat) := by rw [hr, hq]; exact h2
      have hgr : grow n F (okS F) (fun _ => true) (f' + 1 + (a - at_)) at_ met M = (List.range' (q + 1) (min met (F - 1) - q)).flatMap (body n F (okS F) (fun _ => true) f' a met M) := by
        rw [grow_skip (a - at_) (f' + 1) at_ (by omega) (fun b h1 h2 => hk b (by omega)), show at_ + (a - at_) = a by omega, grow_body haM hun, hq]
      rw [hgr] at hB ⊢
      refine Cd.loop (α := Nat × Option Addr × Nat × List MatV) (fun z => [(0, .slice A n c), (1, .int .i64 (F : Int)), (2, .int .i64 (met : Int)), (3, .slice z.2.1 (no + z.2.2.2.length) z.2.2.1), (9, .int .i64 (n : Int)), (11, .int .i64 (q : Int)), (12, .int .i64 (r : Int)), (13, .int .i64 (z.1 : Int))])
        (fun z w' => St w0 w' (CkR 24 z.2.1 (no + z.2.2.2.length) z.2.2.1 (outs ++ z.2.2.2.map (·.top)) :: (mat 33 2 A n c rs M ++ (matsCk 33 2 z.2.2.2 ++ ks))) ∧ q + 1 ≤ z.1 ∧ z.1 ≤ q + 1 + (min met (F - 1) - q) ∧ (∀ m ∈ z.2.2.2, m.ok) ∧ z.2.2.2.map (·.xss) = (List.range' (q + 1) (z.1 - (q + 1))).flatMap (body n F (okS F) (fun _ => true) f' a met M))
        (fun z => q + 2 + (min met (F - 1) - q) - z.1) (q + 1, Ao, co, []) ⟨rfl, rfl, rfl, rfl, rfl, rfl, rfl, rfl, trivial⟩ ⟨by simpa [matsCk] using hS3, Nat.le_refl _, Nat.le_add_right _ _, (fun m hm => by cases hm), by simp⟩ ?_
      rintro ⟨g, Ag, cg, new⟩ e w4 ⟨hS4, hg1, hg2, hnew, hxs⟩
      dsimp only at hS4 hg1 hg2 hnew hxs ⊢
      refine Cd.seq ?_
      refine Cd.seq ?_
      refine Cd.region ?_
      refine Ops.mv_int rfl rfl rfl ?_
      refine Ops.mv_int rfl rfl rfl ?_
      refine Ops.leq rfl rfl rfl ?_
      refine Ops.mv_bool rfl rfl rfl ?_
      -- stop: guard 66
      refine Ops.split_p 66 rfl (fun h3 => ?_) (fun h3 => ?_)
      · refine Ops.rung rfl rfl rfl ?_
        refine Ops.mv_int rfl rfl rfl ?_
        refine Ops.rung rfl rfl rfl ?_
        refine Ops.mv_int rfl rfl rfl ?_
        refine Ops.rung rfl rfl rfl ?_
        refine Ops.lss rfl rfl rfl ?_
        refine Ops.pick_t rfl rfl rfl ?_
        refine Ops.nil ?_
        refine thenQ_n ?_
        -- stop: cond
        refine Cd.cond_p _ rfl (fun h4 => ?_) (fun h4 => ?_)
        · have hgm : g < q + 1 + (min met (F - 1) - q) := by omega
          have hR4 := unOut hS4
          have hrow := hR4.at_ (i := (r : Int)) (by omega) (by omega)
          have hstep := range_step (body n F (okS F) (fun _ => true) f' a met M) hg1 hgm
          have hrest := range_rest (body n F (okS F) (fun _ => true) f' a met M) hg1 hgm
          have hnl : new.length = ((List.range' (q + 1) (g - (q + 1))).flatMap (body n F (okS F) (fun _ => true) f' a met M)).length := by rw [← hxs]; simp
          refine Cd.skip ?_
          refine thenQ_n ?_
          refine Cd.seq ?_
          refine Cd.block ?_
          refine Cd.seq ?_
          refine Cd.seq ?_
          refine Cd.region ?_
          refine Ops.mv_sl rfl rfl rfl ?_
          refine Ops.mv_int rfl rfl rfl ?_
          -- stop: INDEXADDR 22 t73 t74 -> 75
          refine Ops.idx hR4.top.2 rfl rfl rfl (by omega) (by omega) ?_
          refine Ops.ld_sl hR4.top rfl (by omega) rfl rfl ?_
          refine Ops.mv_int rfl rfl rfl ?_
          -- stop: INDEXADDR 33 t76 t77 -> 78
          refine Ops.idx hrow.2 rfl rfl rfl (by omega) (by omega) ?_
          refine Ops.ld_int hrow rfl (by omega) rfl rfl ?_
          refine Ops.geq rfl rfl rfl ?_
          refine Ops.nil ?_
          refine thenQ_n ?_
          -- stop: cond
          refine Cd.cond_p _ rfl (fun h5 => ?_) (fun h5 => ?_)
          · have hbd : body n F (okS F) (fun _ => true) f' a met M g = [] := by unfold body; rw [hr, if_pos (show 0 ≤ cell M r g from h5)]
            refine Cd.exit ?_
            refine thenQ_x ?_
            refine blockQ_x ?_
            refine thenQ_n ?_
            refine Cd.region ?_
            refine Ops.mv_int rfl rfl rfl ?_
            refine Ops.add rfl rfl rfl (by omega) ?_
            refine Ops.mv_int rfl rfl rfl ?_
            refine Ops.nil ?_
            refine thenQ_n ?_
            -- stop: round
            refine ⟨(g + 1, Ag, cg, new), by show _ - (g + 1) < _ - g; omega, ⟨rfl, rfl, rfl, rfl, rfl, rfl, rfl, rfl, trivial⟩, hS4, by show q + 1 ≤ g + 1; omega, by show g + 1 ≤ _; omega, hnew, ?_⟩
            show new.map _ = (List.range' (q + 1) (g + 1 - (q + 1))).flatMap _
            rw [hstep, hbd, List.append_nil, hxs]
          · refine Cd.skip ?_
            refine thenQ_n ?_
            refine Cd.seq ?_
            refine Cd.region ?_
            refine Ops.mv_sl rfl rfl rfl ?_
            -- stop: CALL spec.l01Own2(t81) -> 82
            refine Ops.call (l01Own2_c A n c rs M _ hR4 (by omega) (fun i hi => by have := hR4.shp hI.shp (k := (i : Int)) (by omega) (by omega); simp only [rg, Int.toNat_natCast] at this; omega)) rfl rfl rfl ?_
            rintro _ w5 ⟨A5, c5, rs5, rfl, hl5, hst⟩
            have hS5 := hS4.call hst
            have hR5 := hS5.rowsI hlen
            have hrow5 := hR5.at_ (i := (r : Int)) (by omega) (by omega)
            have hn5 := hR5.shp hI.shp (k := (r : Int)) (by omega) (by omega)
            refine Ops.mv_sl rfl rfl rfl ?_
            refine Ops.nil ?_
            refine thenQ_n ?_
            refine Cd.seq ?_
            refine Cd.region ?_
            refine Ops.mv_sl rfl rfl rfl ?_
            refine Ops.mv_int rfl rfl rfl ?_
            -- stop: INDEXADDR 22 t83 t84 -> 85
            refine Ops.idx hR5.top.2 rfl rfl rfl (by omega) (by omega) ?_
            refine Ops.ld_sl hR5.top rfl (by omega) rfl rfl ?_
            refine Ops.mv_int rfl rfl rfl ?_
            refine Ops.mv_int rfl rfl rfl ?_
            -- stop: INDEXADDR 33 t86 t87 -> 89
            refine Ops.idx hrow5.2 rfl rfl rfl (by omega) (by omega) ?_
            refine Ops.st_row (pre := []) r (f := (q : Int)) hS5 (by omega) (by omega) rfl rfl (by omega) ?_
            intro w6 hS6
            have hS6 : St w0 w6 (mat 33 2 A5 n c5 rs5 (setc M r q g) ++ (CkR 24 Ag (no + new.length) cg (outs ++ new.map (·.top)) :: (mat 33 2 A n c rs M ++ (matsCk 33 2 new ++ ks)))) := hS6
            have hsh6 := hI.shp.setc hpos.1 q (g : Int)
            have hR6 := hS6.rowsI hsh6.1
            have hrow6 := hR6.at_ (i := (r : Int)) (by omega) (by omega)
            have hl6 := hsh6.1
            refine Ops.nil ?_
            refine thenQ_n ?_
            refine Cd.seq ?_
            refine Cd.region ?_
            refine Ops.mv_sl rfl rfl rfl ?_
            refine Ops.mv_int rfl rfl rfl ?_
            -- stop: INDEXADDR 22 t90 t91 -> 92
            refine Ops.idx hR6.top.2 rfl rfl rfl (by omega) (by omega) ?_
            refine Ops.ld_sl hR6.top rfl (by omega) rfl rfl ?_
            refine Ops.mv_int rfl rfl rfl ?_
            refine Ops.mv_int rfl rfl rfl ?_
            -- stop: INDEXADDR 33 t93 t94 -> 96
            refine Ops.idx hrow6.2 rfl rfl rfl (by omega) (by omega) ?_
            refine Ops.st_row (pre := []) r (f := (g : Int)) hS6 (by omega) (by omega) rfl rfl (by omega) ?_
            intro w7 hS7
            have hS7 : St w0 w7 (mat 33 2 A5 n c5 rs5 (put M r q g) ++ (CkR 24 Ag (no + new.length) cg (outs ++ new.map (·.top)) :: (mat 33 2 A n c rs M ++ (matsCk 33 2 new ++ ks)))) := hS7
            have hI7 := hIa.put haM hun (g := g) (by omega) (by omega) (by omega) (by rw [hr]; exact h5)
            rw [hr, hq] at hI7
            have hbd : body n F (okS F) (fun _ => true) f' a met M g = if okS F (put M r q g) r q = true then grow n F (okS F) (fun _ => true) f' (a + 1) (max met (g + 1)) (put M r q g) else [] := by
              unfold body
              rw [hr, hq, if_neg (show ¬ 0 ≤ cell M r g from h5)]
            generalize hM' : put M r q g = M' at *
            have hl7 := hI7.shp.1
            refine Ops.nil ?_
            refine thenQ_n ?_
            refine Cd.seq ?_
            refine Cd.region ?_
            refine Ops.mv_bool rfl rfl rfl ?_
            refine Ops.nil ?_
            refine thenQ_n ?_
            -- stop: join
            refine Cd.join (α := Bool) (fun z => [(0, .slice A n c), (1, .int .i64 (F : Int)), (2, .int .i64 (met : Int)), (3, .slice Ag (no + new.length) cg), (9, .int .i64 (n : Int)), (11, .int .i64 (q : Int)), (12, .int .i64 (r : Int)), (13, .int .i64 (g : Int)), (14, .slice A5 n c5), (15, .bool z)])
              (fun z w' => St w0 w' (mat 33 2 A5 n c5 rs5 M' ++ (CkR 24 Ag (no + new.length) cg (outs ++ new.map (·.top)) :: (mat 33 2 A n c rs M ++ (matsCk 33 2 new ++ ks)))) ∧ z = okS F M' r q) ?_ ?_
            · refine Cd.seq ?_
              refine Cd.region ?_
              refine Ops.mv_int rfl rfl rfl ?_
              refine Ops.nil ?_
              refine thenQ_n ?_
              refine Cd.block ?_
              -- stop: loop
              refine Cd.loop (α := Nat × Bool) (fun z => [(0, .slice A n c), (1, .int .i64 (F : Int)), (2, .int .i64 (met : Int)), (3, .slice Ag (no + new.length) cg), (9, .int .i64 (n : Int)), (11, .int .i64 (q : Int)), (12, .int .i64 (r : Int)), (13, .int .i64 (g : Int)), (14, .slice A5 n c5), (15, .bool z.2), (16, .int .i64 (z.1 : Int))])
                (fun z w' => St w0 w' (mat 33 2 A5 n c5 rs5 M' ++ (CkR 24 Ag (no + new.length) cg (outs ++ new.map (·.top)) :: (mat 33 2 A n c rs M ++ (matsCk 33 2 new ++ ks)))) ∧ z.1 ≤ F ∧ z.2 = decide (∀ e', e' < z.1 → FitsAll M' (e' : Nat)))
                (fun z => F - z.1) (0, true) ⟨rfl, rfl, rfl, rfl, rfl, rfl, rfl, rfl, rfl, rfl, rfl, trivial⟩ ⟨hS7, Nat.zero_le _, (decide_eq_true (fun e' he => absurd he (by omega))).symm⟩ ?_
              rintro ⟨ee, good⟩ e w8 ⟨hS8, hee, hgood⟩
              dsimp only at hS8 hee hgood ⊢
              refine Cd.seq ?_
              refine Cd.seq ?_
              refine Cd.region ?_
              refine Ops.mv_int rfl rfl rfl ?_
              refine Ops.mv_int rfl rfl rfl ?_
              refine Ops.lss rfl rfl rfl ?_
              refine Ops.mv_bool rfl rfl rfl ?_
              -- stop: guard 100
              refine Ops.split_p 100 rfl (fun h6 => ?_) (fun h6 => ?_)
              · refine Ops.rung rfl rfl rfl ?_
                refine Ops.mv_bool rfl rfl rfl ?_
                refine Ops.pick_t rfl rfl rfl ?_
                refine Ops.nil ?_
                refine thenQ_n ?_
                -- stop: cond
                refine Cd.cond rfl (fun h7 => ?_) (fun h7 => ?_)
                · refine Cd.skip ?_
                  refine thenQ_n ?_
                  refine Cd.seq ?_
                  refine Cd.block ?_
                  refine Cd.region ?_
                  refine Ops.mv_sl rfl rfl rfl ?_
                  refine Ops.mv_int rfl rfl rfl ?_
                  -- stop: CALL spec.l19Fits(t105, t106) -> 107
                  refine Ops.call (l19Fits_c A5 n c5 F rs5 M' ee _ (hS8.rowsI hl7) hI7.shp hI7.rng (by omega) (by omega)) rfl rfl rfl ?_
                  rintro _ w9 ⟨rfl, hst⟩
                  refine Ops.mv_bool rfl rfl rfl ?_
                  refine Ops.nil ?_
                  refine blockQ_n ?_
                  refine thenQ_n ?_
                  refine Cd.region ?_
                  refine Ops.mv_int rfl rfl rfl ?_
                  refine Ops.add rfl rfl rfl (by omega) ?_
                  refine Ops.mv_int rfl rfl rfl ?_
                  refine Ops.nil ?_
                  refine thenQ_n ?_
                  -- stop: round
                  refine ⟨(ee + 1, decide (FitsAll M' (ee : Int))), by show F - (ee + 1) < F - ee; omega, ⟨rfl, rfl, rfl, rfl, rfl, rfl, rfl, rfl, rfl, rfl, rfl, trivial⟩, hS8.later hst.below, by show ee + 1 ≤ F; omega, ?_⟩
                  rw [h7] at hgood
                  have hall := of_decide_eq_true hgood.symm
                  refine decide_eq_decide.2 ⟨fun hf e' he' => ?_, fun hf => hf ee (by omega)⟩
                  by_cases ee' : e' = ee
                  · subst ee'; exact hf
                  · exact hall e' (by omega)
                · refine Cd.exit ?_
                  refine thenQ_x ?_
                  refine thenQ_x ?_
                  refine blockQ_x ?_
                  refine thenQ_n ?_
                  -- stop: round
                  refine ⟨false, ⟨rfl, rfl, rfl, rfl, rfl, rfl, rfl, rfl, rfl, by rw [← h7]; rfl, trivial⟩, hS8, ?_⟩
                  rw [h7] at hgood
                  have hnot := of_decide_eq_false hgood.symm
                  exact (decide_eq_false (fun hf => hnot (fun e' he' => hf e' (by omega)))).symm
              · refine Ops.skipg rfl rfl rfl rfl rfl ?_
                refine Ops.pick_f rfl rfl rfl ?_
                refine Ops.nil ?_
                refine thenQ_n ?_
                -- stop: cond
                refine Cd.cond_f rfl ?_
                refine Cd.exit ?_
                refine thenQ_x ?_
                refine thenQ_x ?_
                refine blockQ_x ?_
                refine thenQ_n ?_
                -- stop: round
                have : ee = F := by omega
                subst this
                exact ⟨good, ⟨rfl, rfl, rfl, rfl, rfl, rfl, rfl, rfl, rfl, rfl, trivial⟩, hS8, hgood⟩
            · rintro good e w8 ⟨hS8, hgood⟩
              refine Cd.seq ?_
              refine Cd.region ?_
              refine Ops.mv_bool rfl rfl rfl ?_
              refine Ops.nil ?_
              refine thenQ_n ?_
              -- stop: cond
              refine Cd.cond rfl (fun h7 => ?_) (fun h7 => ?_)
              · rw [h7] at hgood
                rw [← hgood, if_pos rfl] at hbd
                rw [hbd] at hrest hstep
                have hmx : max (met : Int) ((g : Int) + 1) = ((max met (g + 1) : Nat) : Int) := by omega
                refine Cd.region ?_
                refine Ops.mv_sl rfl rfl rfl ?_
                refine Ops.mv_int rfl rfl rfl ?_
                refine Ops.mv_int rfl rfl rfl ?_
                refine Ops.mv_int rfl rfl rfl ?_
                refine Ops.add rfl rfl rfl (by omega) ?_
                -- stop: BUILTIN max(t111, t113) -> 114
                refine Ops.maxI rfl rfl rfl ?_
                rw [hmx]
                refine Ops.mv_sl rfl rfl rfl ?_
                -- stop: CALL spec.l19Grow(t109, t110, t114, t115) -> 116
                refine Ops.call (ih f' (by omega) (a + 1) (max met (g + 1)) M' hI7 (by omega) w0 w8 (mat 33 2 A n c rs M ++ (matsCk 33 2 new ++ ks)) Ag (no + new.length) cg (outs ++ new.map (·.top)) A5 c5 rs5 (hS8.perm List.perm_middle) (by omega)) rfl rfl rfl ?_
                rintro _ w9 ⟨A9, c9, new9, rfl, hok9, hx9, hS9⟩
                refine Ops.mv_sl rfl rfl rfl ?_
                refine Ops.nil ?_
                refine blockQ_n ?_
                refine thenQ_n ?_
                refine Cd.region ?_
                refine Ops.mv_int rfl rfl rfl ?_
                refine Ops.add rfl rfl rfl (by omega) ?_
                refine Ops.mv_int rfl rfl rfl ?_
                refine Ops.nil ?_
                refine thenQ_n ?_
                -- stop: round
                refine ⟨(g + 1, A9, c9, new ++ new9), by show _ - (g + 1) < _ - g; omega, ⟨rfl, rfl, rfl, by show Value.slice _ _ _ = Value.slice _ _ _; rw [List.length_append, Nat.add_assoc], rfl, rfl, rfl, rfl, trivial⟩, ?_, by show q + 1 ≤ g + 1; omega, by show g + 1 ≤ _; omega, fun m hm => ?_, ?_⟩
                · show St w0 w9 (CkR _ A9 (no + (new ++ new9).length) c9 (outs ++ (new ++ new9).map (·.top)) :: (mat _ _ A n c rs M ++ (matsCk _ _ (new ++ new9) ++ ks)))
                  rw [List.length_append, List.map_append, matsCk_append, ← Nat.add_assoc, ← List.append_assoc]
                  exact (hS9.sub (List.Sublist.cons_cons _ (List.sublist_append_right _ _))).perm (List.Perm.cons _ (perm_four _ _ _ _))
                · rcases List.mem_append.1 hm with hm | hm
                  · exact hnew m hm
                  · exact hok9 m hm
                · show (new ++ new9).map _ = (List.range' (q + 1) (g + 1 - (q + 1))).flatMap _
                  rw [hstep, List.map_append, hxs, hx9]
              · rw [h7] at hgood
                rw [← hgood, if_neg (by simp)] at hbd
                refine Cd.skip ?_
                refine blockQ_n ?_
                refine thenQ_n ?_
                refine Cd.region ?_
                refine Ops.mv_int rfl rfl rfl ?_
                refine Ops.add rfl rfl rfl (by omega) ?_
                refine Ops.mv_int rfl rfl rfl ?_
                refine Ops.nil ?_
                refine thenQ_n ?_
                -- stop: round
                refine ⟨(g + 1, Ag, cg, new), by show _ - (g + 1) < _ - g; omega, ⟨rfl, rfl, rfl, rfl, rfl, rfl, rfl, rfl, trivial⟩, hS8.unmat, by show q + 1 ≤ g + 1; omega, by show g + 1 ≤ _; omega, hnew, ?_⟩
                show new.map _ = (List.range' (q + 1) (g + 1 - (q + 1))).flatMap _
                rw [hstep, hbd, List.append_nil, hxs]
        · refine Cd.exit ?_
          refine thenQ_x ?_
          refine thenQ_x ?_
          refine blockQ_x ?_
          refine thenQ_n ?_
          refine Cd.seq ?_
          refine Cd.region ?_
          refine Ops.mv_sl rfl rfl rfl ?_
          refine Ops.mv_sl rfl rfl rfl ?_
          refine Ops.nil ?_
          refine thenQ_n ?_
          refine Cd.ret ?_
          refine ret1_s rfl ?_
          -- stop: end
          have hge : g = q + 1 + (min met (F - 1) - q) := by omega
          refine ⟨Ag, cg, new, rfl, hnew, ?_, hS4⟩
          rw [hxs]; congr 2; omega
      · refine Ops.skipg rfl rfl rfl rfl rfl ?_
        refine Ops.skipg rfl rfl rfl rfl rfl ?_
        refine Ops.skipg rfl rfl rfl rfl rfl ?_
        refine Ops.pick_f rfl rfl rfl ?_
        refine Ops.nil ?_
        refine thenQ_n ?_
        -- stop: cond
        refine Cd.cond_f rfl ?_
        refine Cd.exit ?_
        refine thenQ_x ?_
        refine thenQ_x ?_
        refine blockQ_x ?_
        refine thenQ_n ?_
        refine Cd.seq ?_
        refine Cd.region ?_
        refine Ops.mv_sl rfl rfl rfl ?_
        refine Ops.mv_sl rfl rfl rfl ?_
        refine Ops.nil ?_
        refine thenQ_n ?_
        refine Cd.ret ?_
        refine ret1_s rfl ?_
        -- stop: end
        have hge : g = q + 1 + (min met (F - 1) - q) := by omega
        refine ⟨Ag, cg, new, rfl, hnew, ?_, hS4⟩
        rw [hxs]; congr 2; omega
  · refine Cd.draw [.ex (.int .i64 ((a : Int))), .ex (.int .i64 ((met : Int))), .ex (.int .i64 ((n : Int))), .ex (.int .i64 (((met * n : Nat) : Int))), .ex (.bool (false)), .ex (.bool (false)), .ex (undef), .ex (undef), .ex (undef), .ex (undef), .ex (undef), .ex (undef), .ex (undef), .ex (undef), .ex (undef), .ex (undef), .ex (undef), .ex (undef), .ex (.bool (false))] (by kernel_rfl) (by kernel_rfl) rfl (List.forall_mem_cons.2 ⟨Yd.lasts_ex _, (List.forall_mem_cons.2 ⟨Yd.lasts_ex _, (List.forall_mem_cons.2 ⟨Yd.lasts_ex _, (List.forall_mem_cons.2 ⟨Yd.lasts_ex _, (List.forall_mem_cons.2 ⟨Yd.lasts_ex _, (List.forall_mem_cons.2 ⟨Yd.lasts_ex _, (List.forall_mem_cons.2 ⟨Yd.lasts_ex _, (List.forall_mem_cons.2 ⟨Yd.lasts_ex _, (List.forall_mem_cons.2 ⟨Yd.lasts_ex _, (List.forall_mem_cons.2 ⟨Yd.lasts_ex _, (List.forall_mem_cons.2 ⟨Yd.lasts_ex _, (List.forall_mem_cons.2 ⟨Yd.lasts_ex _, (List.forall_mem_cons.2 ⟨Yd.lasts_ex _, (List.forall_mem_cons.2 ⟨Yd.lasts_ex _, (List.forall_mem_cons.2 ⟨Yd.lasts_ex _, (List.forall_mem_cons.2 ⟨Yd.lasts_ex _, (List.forall_mem_cons.2 ⟨Yd.lasts_ex _, (List.forall_mem_cons.2 ⟨Yd.lasts_ex _, (List.forall_mem_cons.2 ⟨Yd.lasts_ex _, (fun _ h => by cases h)⟩)⟩)⟩)⟩)⟩)⟩)⟩)⟩)⟩)⟩)⟩)⟩)⟩)⟩)⟩)⟩)⟩)⟩)⟩) ⟨?_, ?_, ?_, ?_, ?_, ?_, ?_, ?_, ?_, ?_, ?_, ?_, ?_, ?_, ?_, ?_, ?_, ?_, ?_, trivial⟩ ?_
    · intro e1 w1 hb hp hun
      refine Ops.mv_int rfl rfl rfl ?_
      refine Ops.nil ?_
      exact After.dn (Below.refl _ _) (by exact rfl)
    · intro e1 w1 hb hp hun
      refine Ops.mv_int rfl rfl rfl ?_
      refine Ops.nil ?_
      exact After.dn (Below.refl _ _) (by exact rfl)
    · intro e1 w1 hb hp hun
      refine Ops.mv_int rfl rfl rfl ?_
      refine Ops.nil ?_
      exact After.dn (Below.refl _ _) (by exact rfl)
    · intro e1 w1 hb hp hun
      refine Ops.mul rfl rfl rfl (by rw [hMn]; omega) ?_
      refine Ops.nil ?_
      exact After.dn (Below.refl _ _) (by exact rfl)
    · intro e1 w1 hb hp hun
      refine Ops.lss rfl rfl rfl ?_
      refine Ops.nil ?_
      exact After.dn (Below.refl _ _) (by exact congrArg Value.bool (decide_eq_false h1))
    · intro e1 w1 hb hp hun
      refine Ops.mv_bool rfl rfl rfl ?_
      refine Ops.nil ?_
      exact After.dn (Below.refl _ _) (by exact rfl)
    · intro e1 w1 hb hp hun
      refine Ops.skipg rfl rfl rfl rfl rfl ?_
      refine Ops.nil ?_
      exact After.dn (Below.refl _ _) (by exact rfl)
    · intro e1 w1 hb hp hun
      refine Ops.skipg rfl rfl rfl rfl rfl ?_
      refine Ops.nil ?_
      exact After.dn (Below.refl _ _) (by exact rfl)
    · intro e1 w1 hb hp hun
      refine Ops.skipg rfl rfl rfl rfl rfl ?_
      refine Ops.nil ?_
      exact After.dn (Below.refl _ _) (by exact rfl)
    · intro e1 w1 hb hp hun
      refine Ops.skipg rfl rfl rfl rfl rfl ?_
      refine Ops.nil ?_
      exact After.dn (Below.refl _ _) (by exact rfl)
    · intro e1 w1 hb hp hun
      refine Ops.skipg rfl rfl rfl rfl rfl ?_
      refine Ops.nil ?_
      exact After.dn (Below.refl _ _) (by exact rfl)
    · intro e1 w1 hb hp hun
      refine Ops.skipg rfl rfl rfl rfl rfl ?_
      refine Ops.nil ?_
      exact After.dn (Below.refl _ _) (by exact rfl)
    · intro e1 w1 hb hp hun
      refine Ops.skipg rfl rfl rfl rfl rfl ?_
      refine Ops.nil ?_
      exact After.dn (Below.refl _ _) (by exact rfl)
    · intro e1 w1 hb hp hun
      refine Ops.skipg rfl rfl rfl rfl rfl ?_
      refine Ops.nil ?_
      exact After.dn (Below.refl _ _) (by exact rfl)
    · intro e1 w1 hb hp hun
      refine Ops.skipg rfl rfl rfl rfl rfl ?_
      refine Ops.nil ?_
      exact After.dn (Below.refl _ _) (by exact rfl)
    · intro e1 w1 hb hp hun
      refine Ops.skipg rfl rfl rfl rfl rfl ?_
      refine Ops.nil ?_
      exact After.dn (Below.refl _ _) (by exact rfl)
    · intro e1 w1 hb hp hun
      refine Ops.skipg rfl rfl rfl rfl rfl ?_
      refine Ops.nil ?_
      exact After.dn (Below.refl _ _) (by exact rfl)
    · intro e1 w1 hb hp hun
      refine Ops.skipg rfl rfl rfl rfl rfl ?_
      refine Ops.nil ?_
      exact After.dn (Below.refl _ _) (by exact rfl)
    · intro e1 w1 hb hp hun
      refine Ops.pick_f rfl rfl rfl ?_
      refine Ops.nil ?_
      exact After.dn (Below.refl _ _) (by exact rfl)
    intro u w2 hb2 _
    have hS2 := hS1.later hb2
    have haE : a = met * n := by omega
    have hIa := hI.upto a (by have := hI.le; omega) (by omega) hk
    obtain ⟨f', rfl⟩ : ∃ f', fuel = f' + 1 + (a - at_) := ⟨fuel - 1 - (a - at_), by have := hI.le; have : met * n ≤ F * n := Nat.mul_le_mul_right n hmet; omega⟩
    have hgr : grow n F (okS F) (fun _ => true) (f' + 1 + (a - at_)) at_ met M = if met = F ∧ (fun (_ : List (List Int)) => true) M = true then [M] else [] := by
      rw [grow_skip (a - at_) (f' + 1) at_ (by have := hI.le; omega) (fun b h1 h2 => hk b (by omega)), show at_ + (a - at_) = met * n by have := hI.le; omega]
      show (if _ then _ else _) = _
      rw [if_pos rfl]
    rw [hgr] at hB ⊢
    refine thenQ_n ?_
    -- stop: cond
    refine Cd.cond_f rfl ?_
    refine Cd.exit ?_
    refine thenQ_x ?_
    refine thenQ_x ?_
    refine blockQ_x ?_
    refine thenQ_n ?_
    refine Cd.seq ?_
    refine Cd.seq ?_
    refine Cd.region ?_
    refine Ops.mv_int rfl rfl rfl ?_
    refine Ops.mv_int rfl rfl rfl ?_
    refine Ops.mv_int rfl rfl rfl ?_
    -- stop: BINOP mul 2 t41 t42 2 -> 43
    refine Ops.mul rfl rfl rfl (by rw [hMn]; omega) ?_
    refine Ops.eql rfl rfl rfl ?_
    refine Ops.nil ?_
    refine thenQ_n ?_
    -- stop: cond
    refine Cd.cond_pt rfl (by rw [hMn]; omega) ?_
    refine Cd.seq ?_
    refine Cd.seq ?_
    refine Cd.region ?_
    refine Ops.mv_int rfl rfl rfl ?_
    refine Ops.mv_int rfl rfl rfl ?_
    refine Ops.eql rfl rfl rfl ?_
    refine Ops.nil ?_
    refine thenQ_n ?_
    -- stop: cond
    refine Cd.cond_p _ rfl (fun h2 => ?_) (fun h2 => ?_)
    · have hmF : met = F := by omega
      rw [if_pos ⟨hmF, rfl⟩] at hB ⊢
      have hR2 := unOut hS2
      refine Cd.region ?_
      refine Ops.mv_sl rfl rfl rfl ?_
      refine Ops.mv_sl rfl rfl rfl ?_
      -- stop: CALL spec.l01Own2(t49) -> 50
      refine Ops.call (l01Own2_c A n c rs M _ hR2 (by omega) (fun i hi => by have := hR2.shp hI.shp (k := (i : Int)) (by omega) (by omega); simp only [rg, Int.toNat_natCast] at this; omega)) rfl rfl rfl ?_
      rintro _ w3 ⟨A3, c3, rs3, rfl, hl3, hst⟩
      have hS3 := (hS2.call hst).perm (perm_mid _ _ _ _)
      refine Ops.bld1 (by exact inferInstance) (by exact rfl) rfl rfl rfl ?_
      refine Ops.bs1A hS3 rfl rfl rfl ?_
      intro A4 w4 hS4
      refine Ops.appR 1 hS4 rfl (hS4.rdR 0 rfl) rfl rfl rfl (by simp at hB; omega) (by simp at hB; omega) rfl ?_
      intro A5 c5 w5 hS5
      refine Ops.mv_sl rfl rfl rfl ?_
      refine Ops.nil ?_
      refine thenQ_n ?_
      refine Cd.seq ?_
      refine Cd.region ?_
      refine Ops.mv_sl rfl rfl rfl ?_
      refine Ops.mv_sl rfl rfl rfl ?_
      refine Ops.nil ?_
      refine thenQ_n ?_
      refine Cd.ret ?_
      refine thenQ_r ?_
      refine ret1_s rfl ?_
      -- stop: end
      refine ⟨A5, c5, [⟨⟨A3, n, c3⟩, rs3, M⟩], rfl, fun m hm => ?_, rfl, ?_⟩
      · simp at hm; subst hm; exact hlen
      · have h6 := hS5.tail
        simpa [matsCk, MatV.cks] using h6
    · rw [if_neg (fun h => h2 (by rw [h.1]))]
      refine Cd.skip ?_
      refine thenQ_n ?_
      refine Cd.seq ?_
      refine Cd.region ?_
      refine Ops.mv_sl rfl rfl rfl ?_
      refine Ops.mv_sl rfl rfl rfl ?_
      refine Ops.nil ?_
      refine thenQ_n ?_
      refine Cd.ret ?_
      refine thenQ_r ?_
      refine ret1_s rfl ?_
      -- stop: end
      exact ⟨Ao, co, [], rfl, (fun m hm => by cases hm), rfl, by simpa [matsCk] using hS2⟩
end Go.Proofs.Ytgobjpcankaicaa.Vc
/-
  Plain mathematics: how many rooted forms there can be. Conditions: as each states them. No program in sight.
-/
namespace Go.Proofs.Ytgobjpcankaicaa.Vc

def dft : Nat → Nat
  | 0 => 1
  | 1 => 0
  | u + 2 => (u + 1) * dft u
def prod : List Nat → Nat
  | [] => 1
  | x :: l => x * prod l
def phi (M : List (List Int)) : Nat := prod (M.map fun p => dft (unl p))
theorem prod_set : ∀ (l : List Nat) (i k x : Nat) (h : i < l.length), l[i] = k * x → prod l = k * prod (l.set i x)
  | [], i, _, _, h, _ => by simp at h
  | y :: l, 0, k, x, _, e => by
    simp at e; subst e
    simp [prod, Nat.mul_assoc]
  | y :: l, i + 1, k, x, h, e => by
    have := prod_set l i k x (by simpa using h) (by simpa using e)
    simp only [prod, List.set_cons_succ, this]
    rw [Nat.mul_left_comm]
theorem prod_one : ∀ (l : List Nat), (∀ x ∈ l, x = 1) → prod l = 1
  | [], _ => rfl
  | x :: l, h => by simp [prod, h x (by simp), prod_one l (fun y hy => h y (by simp [hy]))]

theorem sum_le {α : Type} (f : Nat → List α) (p : Nat → Bool) (X : Nat) : ∀ (l : List Nat), (∀ g ∈ l, (f g).length ≤ if p g = true then X else 0) → (l.flatMap f).length ≤ l.countP p * X
  | [], _ => by simp
  | g :: l, h => by
    have h1 := h g (by simp)
    have h2 := sum_le f p X l (fun x hx => h x (by simp [hx]))
    rw [List.flatMap_cons, List.length_append, List.countP_cons]
    by_cases hp : p g = true
    · rw [if_pos hp] at h1 ⊢
      rw [Nat.add_mul, Nat.one_mul]; omega
    · rw [if_neg hp] at h1 ⊢
      rw [Nat.add_zero]
      omega

/-- the unknown places of a row behind one that is unknown -/
theorem behind_le {p : List Int} {q c : Nat} (hq : q < p.length) (hn : gi p q < 0) (hc : q + 1 + c ≤ p.length) : (List.range' (q + 1) c).countP (fun g => decide (gi p (g : Nat) < 0)) + 1 ≤ unl p := by
  have e1 : (List.range' (q + 1) c).map (fun g => gi p (g : Nat)) = (p.drop (q + 1)).take c := by
    apply List.ext_getElem
    · simp; omega
    · intro i h1 h2
      have hi : i < c := by simpa using h1
      rw [List.getElem_map, List.getElem_range', gi_mem (by omega)]
      simp
  have e2 : (List.range' (q + 1) c).countP (fun g => decide (gi p (g : Nat) < 0)) = ((p.drop (q + 1)).take c).countP (fun x => decide (x < 0)) := by
    rw [← e1, List.countP_map]; rfl
  have e3 : ((p.drop (q + 1)).take c).countP (fun x => decide (x < 0)) ≤ (p.drop (q + 1)).countP (fun x => decide (x < 0)) := (List.take_sublist _ _).countP_le
  have e4 : unl p = (p.take (q + 1)).countP (fun x => decide (x < 0)) + (p.drop (q + 1)).countP (fun x => decide (x < 0)) := by
    unfold unl
    rw [← List.countP_append, List.take_append_drop]
  have e5 : 0 < (p.take (q + 1)).countP (fun x => decide (x < 0)) := List.countP_pos_iff.2 ⟨gi p q, by rw [take_succ_gi hq]; simp, by simpa using hn⟩
  omega

section
variable {n F : Nat} {M : List (List Int)} {met at_ : Nat}
theorem phi_put (h : Shp n F M) {r q g : Nat} (hr : r < n) (hq : q < F) (hg : g < F) (hqg : q ≠ g) (h1 : cell M r q < 0) (h2 : cell M r g < 0) {u : Nat} (hu : unl (gl M r) = u + 2) : phi (put M r q g) = prod ((M.map fun p => dft (unl p)).set r (dft u)) ∧ phi M = (u + 1) * prod ((M.map fun p => dft (unl p)).set r (dft u)) := by
  have hl := h.1
  have hrow := h.row hr
  have hp1 : unl ((gl M r).set q (g : Int)) + 1 = unl (gl M r) := by
    have := unl_set (L := gl M r) (x := (q : Int)) (c := (g : Int)) (by omega) (by omega) h1 (by omega)
    rwa [Int.toNat_natCast] at this
  have e2 : gi ((gl M r).set q (g : Int)) g = gi (gl M r) g := by
    have := gi_set (S := gl M r) (x := (q : Int)) (y := (g : Int)) (b := (g : Int)) (by omega) (by omega) (by omega)
    rw [Int.toNat_natCast, if_neg (by omega)] at this
    exact this
  have hp2 : unl (((gl M r).set q (g : Int)).set g (q : Int)) + 1 = unl ((gl M r).set q (g : Int)) := by
    have := unl_set (L := (gl M r).set q (g : Int)) (x := (g : Int)) (c := (q : Int)) (by omega) (by simp; omega) (by rw [e2]; exact h2) (by omega)
    rwa [Int.toNat_natCast] at this
  have hu2 : unl (((gl M r).set q (g : Int)).set g (q : Int)) = u := by omega
  have hput : put M r q g = M.set r (((gl M r).set q (g : Int)).set g (q : Int)) := by
    unfold put setc
    rw [gl_set (by omega), if_pos rfl, List.set_set]
  have hgr : M[r]'(by omega) = gl M r := (gl_mem (by omega)).symm
  unfold phi
  rw [hput, List.map_set, hu2]
  refine ⟨rfl, ?_⟩
  refine prod_set _ r (u + 1) (dft u) (by simp; omega) ?_
  rw [List.getElem_map, hgr, hu]; rfl

theorem grow_le_phi : ∀ (k at_ met : Nat) (M : List (List Int)), Inv n F M met at_ → (grow n F (fun _ _ _ => true) (fun _ => true) k at_ met M).length ≤ phi M
  | 0, _, _, _, _ => by simp [grow]
  | k + 1, at_, met, M, h => by
    simp only [grow]
    split
    · rename_i ha
      split
      · rename_i hm
        have hm1 := hm.1
        subst hm1
        have hI : Inv n met M met (met * n) := by rw [← ha]; exact h
        have : phi M = 1 := prod_one _ (fun x hx => by
          obtain ⟨p, hp, rfl⟩ := List.mem_map.1 hx
          obtain ⟨i, hi, rfl⟩ := List.mem_iff_getElem.1 hp
          have hin : i < n := by rw [← h.shp.1]; exact hi
          have e : M[i] = gl M i := (gl_mem hi).symm
          have : unl M[i] = 0 := by
            rw [e]
            refine List.countP_eq_zero.2 fun x hx => ?_
            obtain ⟨j, hj, rfl⟩ := List.mem_iff_getElem.1 hx
            have := hI.full (i := i) (f := (j : Int)) hin (by omega) (by rw [h.shp.row hin] at hj; omega)
            rw [← gi_mem hj]
            have h3 : 0 ≤ gi (gl M i) (j : Int) := this
            simp; omega
          rw [this]; rfl)
        simp [this]
      · simp
    · rename_i ha
      split
      · rename_i hk
        exact grow_le_phi k _ _ _ (h.next ha hk)
      · rename_i hk
        have hp := h.pos ha
        have hF := h.metF
        have hrow := h.shp.row hp.1
        have hqF : at_ / n < F := by omega
        have hrg := fun g hg => range_mem h ha (g := g) hg
        have hput := fun g (h1 : at_ / n < g) (h2 : g ≤ met) (h3 : g < F) h4 => h.put ha hk (g := g) h1 h2 h3 h4
        generalize hr : at_ % n = r at *
        generalize hq : at_ / n = q at *
        have hkn : gi (gl M (r : Nat)) (q : Nat) < 0 := Int.not_le.1 hk
        have hm1 := h.met1
        have hbeh := behind_le (p := gl M (r : Nat)) (q := q) (c := min met (F - 1) - q) (by omega) hkn (by omega)
        obtain ⟨u, hu⟩ : ∃ u, unl (gl M (r : Nat)) = u + 1 := ⟨unl (gl M (r : Nat)) - 1, by omega⟩
        refine Nat.le_trans (sum_le _ (fun g => decide (gi (gl M (r : Nat)) (g : Nat) < 0)) (prod ((M.map fun p => dft (unl p)).set r (dft (u - 1)))) _ (fun g hg => ?_)) ?_
        · have hgr := hrg g hg
          by_cases hgc : 0 ≤ cell M r (g : Nat)
          · rw [if_pos hgc]; exact Nat.zero_le _
          · have hgn : gi (gl M (r : Nat)) (g : Nat) < 0 := Int.not_le.1 hgc
            rw [if_neg hgc, if_pos trivial, if_pos (decide_eq_true hgn)]
            have hcnt : 0 < (List.range' (q + 1) (min met (F - 1) - q)).countP (fun g => decide (gi (gl M (r : Nat)) (g : Nat) < 0)) := List.countP_pos_iff.2 ⟨g, hg, decide_eq_true hgn⟩
            obtain ⟨u', rfl⟩ : ∃ u', u = u' + 1 := ⟨u - 1, by omega⟩
            have hphi := phi_put h.shp hp.1 hqF hgr.2.2 (by omega) (by omega) (by omega) hu
            rw [show u' + 1 - 1 = u' by omega, ← hphi.1]
            exact grow_le_phi k _ _ _ (hput g hgr.1 hgr.2.1 hgr.2.2 hgc)
        · by_cases hu0 : u = 0
          · have : (List.range' (q + 1) (min met (F - 1) - q)).countP (fun g => decide (gi (gl M (r : Nat)) (g : Nat) < 0)) = 0 := by omega
            rw [this, Nat.zero_mul]; exact Nat.zero_le _
          · obtain ⟨u', rfl⟩ : ∃ u', u = u' + 1 := ⟨u - 1, by omega⟩
            rw [show u' + 1 - 1 = u' by omega]
            have hfac : phi M = (u' + 1) * prod ((M.map fun p => dft (unl p)).set r (dft u')) := by
              unfold phi
              have hl := h.shp.1
              refine prod_set _ r (u' + 1) (dft u') (by simp; omega) ?_
              rw [List.getElem_map, show M[r]'(by omega) = gl M r from (gl_mem (by omega)).symm, hu]; rfl
            rw [hfac]
            exact Nat.mul_le_mul_right _ (by omega)

/-- two moves that should commute meet at flag 0 -/
def bad0 (n : Nat) (M : List (List Int)) : Bool := (List.range n).any fun i => (List.range n).any fun k => decide (i + 2 ≤ k ∧ 0 ≤ cell M i 0 ∧ cell M i 0 = cell M k 0)
/-- a bound that looks at j places first -/
def wt (n F : Nat) : Nat → Nat → Nat → List (List Int) → Nat
  | 0, _, _, M => if bad0 n M = true then 0 else phi M
  | j + 1, at_, met, M =>
    if at_ = met * n then 1
    else if 0 ≤ cell M (at_ % n) (at_ / n : Nat) then wt n F j (at_ + 1) met M
    else ((List.range' (at_ / n + 1) (min met (F - 1) - at_ / n)).map fun g => if 0 ≤ cell M (at_ % n) (g : Nat) then 0 else wt n F j (at_ + 1) (max met (g + 1)) (put M (at_ % n) (at_ / n) g)).sum

theorem forms_bad (h : Inv n F M met at_) (hb : bad0 n M = true) (k : Nat) : forms n F k at_ met M = [] := by
  unfold forms
  rw [List.filter_eq_nil_iff]
  intro L hL hV
  have h1 := grow_leaf k _ _ _ h L hL
  have hV := of_decide_eq_true hV
  simp only [bad0, List.any_eq_true, decide_eq_true_eq, List.mem_range] at hb
  obtain ⟨i, hi, k', hk', hik, h0, he⟩ := hb
  have hF : 0 < F := by have := h.met1; have := h.metF; omega
  have h2 := hV.cells h1.2 hi hk' hik (f := 0) (by omega) (by omega)
  rw [h1.1 i 0 hi (by omega) (by omega) h0, h1.1 k' 0 hk' (by omega) (by omega) (by rw [← he]; exact h0)] at h2
  exact h2.2 he
theorem sum_le2 {α : Type} (f : Nat → List α) (c : Nat → Nat) : ∀ (l : List Nat), (∀ g ∈ l, (f g).length ≤ c g) → (l.flatMap f).length ≤ (l.map c).sum
  | [], _ => by simp
  | g :: l, h => by
    have h1 := h g (by simp)
    have h2 := sum_le2 f c l (fun x hx => h x (by simp [hx]))
    rw [List.flatMap_cons, List.length_append, List.map_cons, List.sum_cons]
    omega
theorem forms_le_wt : ∀ (j k at_ met : Nat) (M : List (List Int)), Inv n F M met at_ → (forms n F k at_ met M).length ≤ wt n F j at_ met M
  | 0, k, at_, met, M, h => by
    simp only [wt]
    split
    · rename_i hb; rw [forms_bad h hb]; simp
    · exact Nat.le_trans (List.length_filter_le _ _) (grow_le_phi k _ _ _ h)
  | j + 1, 0, at_, met, M, h => by simp [forms, grow]
  | j + 1, k + 1, at_, met, M, h => by
    simp only [forms, grow, wt]
    split
    · refine Nat.le_trans (List.length_filter_le _ _) ?_
      split <;> simp
    · rename_i ha
      split
      · rename_i hk
        exact forms_le_wt j k _ _ _ (h.next ha hk)
      · rename_i hk
        rw [filter_flatMap']
        refine sum_le2 _ _ _ (fun g hg => ?_)
        have hr := range_mem h ha hg
        split
        · simp
        · rename_i hgc
          rw [if_pos trivial]
          exact forms_le_wt j k _ _ _ (h.put ha hk hr.1 hr.2.1 hr.2.2 hgc)
end

theorem wt_small : ((List.range' 1 4).all fun n => (List.range' 2 11).all fun F => Nat.ble (wt n F 4 0 1 (blank n F)) 4000000000000) = true := by kernel_rfl
theorem forms_small {n F : Nat} (hn : 1 ≤ n ∧ n ≤ 4) (hF : 2 ≤ F ∧ F ≤ 12) (k : Nat) : (forms n F k 0 1 (blank n F)).length ≤ 4000000000000 := by
  have h := wt_small
  rw [List.all_eq_true] at h
  have h1 := h n (by rw [List.mem_range'_1]; omega)
  rw [List.all_eq_true] at h1
  have h2 := h1 F (by rw [List.mem_range'_1]; omega)
  exact Nat.le_trans (forms_le_wt 4 k 0 1 _ (Inv.blank (by omega) (by omega))) (Nat.le_of_ble_eq_true h2)
end Go.Proofs.Ytgobjpcankaicaa.Vc
/-
  The walks of the reference's list of rooted forms and of its count. Conditions: as each states them.
-/
namespace Go.Proofs.Ytgobjpcankaicaa.Vc
open Go.RowKit

theorem l19Rooted_c (n F : Nat) (hn : 1 ≤ n ∧ n ≤ 4) (hF : 2 ≤ F ∧ F ≤ 12) (w : World) :
    Ret Try.prog 107 [.int .i64 (n : Int), .int .i64 (F : Int)] w (fun v w' => ∃ A' c', ∃ new : List MatV, v = .slice A' new.length c' ∧ (∀ m ∈ new, m.ok) ∧ new.map (·.xss) = forms n F (F * n + 1) 0 1 (blank n F) ∧
      St w w' (CkR 24 A' new.length c' (new.map (·.top)) :: matsCk 33 2 new)) := by
  refine Ret.of_cd Try.func107 rfl Try.ntmps107 rfl (post1 rfl) ?_
  refine Cd.seq ?_
  refine Cd.region ?_
  refine Ops.mv_sl rfl rfl rfl ?_
  refine Ops.nil ?_
  refine thenQ_n ?_
  refine Cd.seq ?_
  refine Cd.region ?_
  -- stop: BUILDSLICE 22 0 [] -> 9
  refine Ops.bs0 (St.refl w) rfl ?_
  intro A1 w1 hS1
  have hS1 : St w w1 [CkR 33 A1 0 0 []] := hS1
  refine Ops.mv_sl rfl rfl rfl ?_
  refine Ops.nil ?_
  refine thenQ_n ?_
  refine Cd.seq ?_
  refine Cd.seq ?_
  refine Cd.region ?_
  refine Ops.mv_int rfl rfl rfl ?_
  refine Ops.nil ?_
  refine thenQ_n ?_
  refine Cd.block ?_
  -- stop: loop
  refine Cd.loop (α := Nat × Option Addr × Nat × List SlV) (fun s => [(0, .int .i64 (n : Int)), (1, .int .i64 (F : Int)), (5, .slice s.2.1 s.1 s.2.2.1), (6, .int .i64 (s.1 : Int))]) (fun s w' => St w w' (CkR 33 s.2.1 s.1 s.2.2.1 s.2.2.2 :: rowsCk 2 s.2.2.2 (List.replicate s.1 (List.replicate F (-1)))) ∧ s.1 ≤ n ∧ s.2.2.2.length = s.1) (fun s => n - s.1) (0, A1, 0, []) ⟨rfl, rfl, rfl, rfl, trivial⟩ ⟨hS1, Nat.zero_le _, rfl⟩ ?_
  rintro ⟨i, A5, c5, rs⟩ e w2 ⟨hS2, hi, hlen⟩
  dsimp only at hS2 hi hlen ⊢
  refine Cd.seq ?_
  refine Cd.seq ?_
  refine Cd.region ?_
  refine Ops.mv_int rfl rfl rfl ?_
  refine Ops.mv_int rfl rfl rfl ?_
  refine Ops.lss rfl rfl rfl ?_
  refine Ops.nil ?_
  refine thenQ_n ?_
  -- stop: cond
  refine Cd.cond_p _ rfl (fun h1 => ?_) (fun h1 => ?_)
  · refine Cd.skip ?_
    refine thenQ_n ?_
    refine Cd.seq ?_
    refine Cd.block ?_
    refine Cd.seq ?_
    refine Cd.region ?_
    -- stop: BUILDSLICE 33 0 [] -> 15
    refine Ops.bs0 hS2 rfl ?_
    intro A7 w3 hS3
    have hS3 : St w w3 (CkI 2 A7 0 0 (List.replicate 0 (-1)) :: CkR 33 A5 i c5 rs :: rowsCk 2 rs (List.replicate i (List.replicate F (-1)))) := hS3
    refine Ops.mv_sl rfl rfl rfl ?_
    refine Ops.nil ?_
    refine thenQ_n ?_
    refine Cd.seq ?_
    refine Cd.seq ?_
    refine Cd.region ?_
    refine Ops.mv_int rfl rfl rfl ?_
    refine Ops.nil ?_
    refine thenQ_n ?_
    refine Cd.block ?_
    -- stop: loop
    refine Cd.loop (α := Nat × Option Addr × Nat) (fun s => [(0, .int .i64 (n : Int)), (1, .int .i64 (F : Int)), (5, .slice A5 i c5), (6, .int .i64 (i : Int)), (7, .slice s.2.1 s.1 s.2.2), (8, .int .i64 (s.1 : Int))]) (fun s w' => St w w' (CkI 2 s.2.1 s.1 s.2.2 (List.replicate s.1 (-1)) :: CkR 33 A5 i c5 rs :: rowsCk 2 rs (List.replicate i (List.replicate F (-1)))) ∧ s.1 ≤ F) (fun s => F - s.1) (0, A7, 0) ⟨rfl, rfl, rfl, rfl, rfl, rfl, trivial⟩ ⟨hS3, Nat.zero_le _⟩ ?_
    rintro ⟨f, A8, c8⟩ e w4 ⟨hS4, hf⟩
    dsimp only at hS4 hf ⊢
    refine Cd.seq ?_
    refine Cd.seq ?_
    refine Cd.region ?_
    refine Ops.mv_int rfl rfl rfl ?_
    refine Ops.mv_int rfl rfl rfl ?_
    refine Ops.lss rfl rfl rfl ?_
    refine Ops.nil ?_
    refine thenQ_n ?_
    -- stop: cond
    refine Cd.cond_p _ rfl (fun h2 => ?_) (fun h2 => ?_)
    · refine Cd.skip ?_
      refine thenQ_n ?_
      refine Cd.seq ?_
      refine Cd.block ?_
      refine Cd.region ?_
      refine Ops.mv_sl rfl rfl rfl ?_
      -- stop: BUILDSLICE 33 1 [('pair', [0, ('app', 'Go.Operand.const', [('app', 'Go.Value.int', ['Go.IntKind.i64', -1])])])] -> 22
      refine Ops.bs1I hS4 rfl rfl rfl ?_
      intro A9 w5 hS5
      refine Ops.appI 1 hS5 rfl (hS5.rdI 0 rfl) rfl rfl rfl (by omega) (by omega) rfl ?_
      intro A10 c10 w6 hS6
      refine Ops.mv_sl rfl rfl rfl ?_
      refine Ops.nil ?_
      refine blockQ_n ?_
      refine thenQ_n ?_
      refine Cd.region ?_
      refine Ops.mv_int rfl rfl rfl ?_
      refine Ops.add rfl rfl rfl (by omega) ?_
      refine Ops.mv_int rfl rfl rfl ?_
      refine Ops.nil ?_
      refine thenQ_n ?_
      -- stop: round
      refine ⟨(f + 1, A10, c10), by show F - (f + 1) < F - f; omega, ⟨rfl, rfl, rfl, rfl, rfl, rfl, trivial⟩, ?_, by show f + 1 ≤ F; omega⟩
      have h7 := hS6.tail
      show St w w6 (CkI _ A10 (f + 1) c10 (List.replicate (f + 1) (-1)) :: _)
      rw [List.replicate_succ']
      exact h7
    · refine Cd.exit ?_
      refine thenQ_x ?_
      refine thenQ_x ?_
      refine blockQ_x ?_
      refine thenQ_n ?_
      refine Cd.region ?_
      refine Ops.mv_sl rfl rfl rfl ?_
      refine Ops.mv_sl rfl rfl rfl ?_
      -- stop: BUILDSLICE 22 1 [('pair', [0, ('app', 'Go.Operand.tmp', [25])])] -> 26
      have hfF : f = F := by omega
      subst hfF
      refine Ops.bs1R hS4 rfl rfl rfl ?_
      intro A9 w5 hS5
      refine Ops.appR 2 hS5 rfl (hS5.rdR 0 rfl) rfl rfl rfl (by omega) (by omega) rfl ?_
      intro A10 c10 w6 hS6
      refine Ops.mv_sl rfl rfl rfl ?_
      refine Ops.nil ?_
      refine blockQ_n ?_
      refine thenQ_n ?_
      refine Cd.region ?_
      refine Ops.mv_int rfl rfl rfl ?_
      refine Ops.add rfl rfl rfl (by omega) ?_
      refine Ops.mv_int rfl rfl rfl ?_
      refine Ops.nil ?_
      refine thenQ_n ?_
      -- stop: round
      refine ⟨(i + 1, A10, c10, rs ++ [⟨A8, f, c8⟩]), by show n - (i + 1) < n - i; omega, ⟨rfl, rfl, rfl, rfl, trivial⟩, ?_, by show i + 1 ≤ n; omega, by simp [hlen]⟩
      have h7 : St w w6 (CkI 2 A8 f c8 (List.replicate f (-1)) :: CkR 33 A10 (i + 1) c10 (rs ++ [⟨A8, f, c8⟩]) :: rowsCk 2 rs (List.replicate i (List.replicate f (-1)))) := hS6.tail
      show St w w6 (CkR _ A10 (i + 1) c10 (rs ++ [_]) :: rowsCk _ (rs ++ [_]) (List.replicate (i + 1) (List.replicate f (-1))))
      rw [List.replicate_succ', rowsCk_append (by simp [hlen])]
      refine h7.perm ?_
      refine (List.Perm.swap _ _ _).trans (List.Perm.cons _ ?_)
      exact List.perm_append_comm (l₁ := [_])
  · have hin : i = n := by omega
    subst hin
    have hI := Inv.blank (n := i) (F := F) (by omega) (by omega)
    have hfe := growS_forms (n := i) (F := F) (by omega) ⟨by omega, by omega⟩ (F * i + 1) hI (fun e he => blank_fits e he)
    have hS3 : St w w2 (CkR 24 none 0 0 [] :: (mat 33 2 A5 i c5 rs (blank i F) ++ [])) := by rw [List.append_nil]; exact hS2.nil _
    refine Cd.exit ?_
    refine thenQ_x ?_
    refine thenQ_x ?_
    refine blockQ_x ?_
    refine thenQ_n ?_
    refine Cd.seq ?_
    refine Cd.region ?_
    refine Ops.mv_sl rfl rfl rfl ?_
    refine Ops.mv_int rfl rfl rfl ?_
    -- stop: CALL spec.l19Grow(t28, t29, 1, 0) -> 30
    refine Ops.call (l19Grow_c i F (by omega) ⟨by omega, by omega⟩ (F * i + 1) 0 1 (blank i F) hI (by omega) w w2 [] none 0 0 [] A5 c5 rs hS3 (by rw [hfe]; have := forms_small hn hF (F * i + 1); omega)) rfl rfl rfl ?_
    rintro _ w3 ⟨A', c', new, rfl, hok, hx, hS4⟩
    refine Ops.mv_sl rfl rfl rfl ?_
    refine Ops.nil ?_
    refine thenQ_n ?_
    refine Cd.ret ?_
    refine ret1_s rfl ?_
    -- stop: end
    rw [hfe] at hx
    rw [Nat.zero_add, List.nil_append] at hS4
    rw [Nat.zero_add]
    exact ⟨A', c', new, rfl, hok, hx, by have := hS4.sub (List.Sublist.cons_cons _ (List.sublist_append_right _ _)); rwa [List.append_nil] at this⟩

def Small (rank flags : Int) : Prop := (1 ≤ rank ∧ rank ≤ 4) ∧ (2 ≤ flags ∧ flags ≤ 12)
instance (rank flags : Int) : Decidable (Small rank flags) := by unfold Small; exact inferInstance
theorem l19Code_c (rank flags : Int) (w : World) : Ret Try.prog 67 [.int .i64 rank, .int .i64 flags] w (fun v w' => v = .int .i64 (if Small rank flags then 0 else 2) ∧ w' = w) := by
  refine Ret.of_cd Try.func67 rfl Try.ntmps67 rfl (post1 rfl) ?_
  refine Cd.seq ?_
  refine Cd.region ?_
  refine Ops.mv_int rfl rfl rfl ?_
  refine Ops.nil ?_
  refine thenQ_n ?_
  refine Cd.seq ?_
  refine Cd.seq ?_
  refine Cd.region ?_
  refine Ops.mv_int rfl rfl rfl ?_
  -- stop: CALL spec.l01In(t5, 1, 4) -> 6
  refine Ops.call (l01In_c _ _ _ _) rfl rfl rfl ?_
  rintro _ w ⟨rfl, rfl⟩
  first | refine Ops.not_p rfl rfl ?_ | refine Ops.not rfl rfl ?_
  refine Ops.mv_bool rfl rfl rfl ?_
  -- stop: guard 8
  refine Ops.split_p 8 rfl (fun h => ?_) (fun h => ?_)
  · refine Ops.skipg rfl rfl rfl rfl rfl ?_
    refine Ops.skipg rfl rfl rfl rfl rfl ?_
    refine Ops.skipg rfl rfl rfl rfl rfl ?_
    refine Ops.pick_t rfl rfl rfl ?_
    refine Ops.nil ?_
    refine thenQ_n ?_
    -- stop: cond
    refine Cd.cond_t rfl ?_
    refine Cd.seq ?_
    refine Cd.region ?_
    refine Ops.mv_int rfl rfl rfl ?_
    refine Ops.nil ?_
    refine thenQ_n ?_
    refine Cd.ret ?_
    refine thenQ_r ?_
    refine ret1_i rfl ?_
    -- stop: end
    exact ⟨by rw [if_neg (fun hs : Small rank flags => h hs.1)], rfl⟩
  · refine Ops.rung rfl rfl rfl ?_
    refine Ops.mv_int rfl rfl rfl ?_
    refine Ops.rung rfl rfl rfl ?_
    -- stop: CALL spec.l01In(t9, 2, 12) -> 10
    refine Ops.call (l01In_c _ _ _ _) rfl rfl rfl ?_
    rintro _ w ⟨rfl, rfl⟩
    refine Ops.rung rfl rfl rfl ?_
    first | refine Ops.not_p rfl rfl ?_ | refine Ops.not rfl rfl ?_
    refine Ops.pick_f rfl rfl rfl ?_
    refine Ops.nil ?_
    refine thenQ_n ?_
    -- stop: cond
    refine Cd.cond_p _ rfl (fun h2 => ?_) (fun h2 => ?_)
    · refine Cd.seq ?_
      refine Cd.region ?_
      refine Ops.mv_int rfl rfl rfl ?_
      refine Ops.nil ?_
      refine thenQ_n ?_
      refine Cd.ret ?_
      refine thenQ_r ?_
      refine ret1_i rfl ?_
      -- stop: end
      exact ⟨by rw [if_neg (fun hs : Small rank flags => h2 hs.2)], rfl⟩
    · refine Cd.skip ?_
      refine thenQ_n ?_
      refine Cd.seq ?_
      refine Cd.region ?_
      refine Ops.mv_int rfl rfl rfl ?_
      refine Ops.nil ?_
      refine thenQ_n ?_
      refine Cd.ret ?_
      refine ret1_i rfl ?_
      -- stop: end
      exact ⟨by rw [if_pos (show Small rank flags from ⟨Classical.not_not.1 h, Classical.not_not.1 h2⟩)], rfl⟩

/-- the answer: how many, and the code -/
def cnt1 (rank flags : Int) : Int := if Small rank flags then ((forms rank.toNat flags.toNat (flags.toNat * rank.toNat + 1) 0 1 (blank rank.toNat flags.toNat)).length : Int) else 0
def cnt2 (rank flags : Int) : Int := if Small rank flags then 0 else 2
end Go.Proofs.Ytgobjpcankaicaa.Vc
/-
  The walks of the program's copies and of its test of a move. Conditions: as each states them.
-/
namespace Go.Proofs.Ytgobjpcankaicaa.Vc
open Go.RowKit

theorem Clone_c (A : Option Addr) (n c : Nat) (xs : List Int) (w : World) (hR : RdI w A n xs) (hn : n ≤ 1000000000) : Ret Try.prog 104 [.slice A n c] w (fun v w' => ∃ A' c', v = .slice A' n c' ∧ St w w' [CkI 2 A' n c' xs]) := by
  cases hA : A with
  | none =>
    subst hA
    have hn0 : n = 0 := by
      apply Classical.byContradiction
      intro h
      obtain ⟨p, hp, _⟩ := hR.2 0 (by omega)
      simp [ptrAt] at hp
    subst hn0
    have hx : xs = [] := List.eq_nil_of_length_eq_zero hR.1
    subst hx
    refine Ret.of_cd Try.func104 rfl Try.ntmps104 rfl (post1 rfl) ?_
    refine Cd.seq ?_
    refine Cd.region ?_
    refine Ops.mv_sl rfl rfl rfl ?_
    refine Ops.nil ?_
    refine thenQ_n ?_
    refine Cd.seq ?_
    refine Cd.seq ?_
    refine Cd.region ?_
    refine Ops.mv_sl rfl rfl rfl ?_
    -- stop: BINOP eql 33 t3 0 33 -> 4
    refine Ops.eqNil rfl rfl rfl ?_
    refine Ops.nil ?_
    refine thenQ_n ?_
    -- stop: cond
    refine Cd.cond_t rfl ?_
    refine Cd.seq ?_
    refine Cd.region ?_
    refine Ops.mv_sl rfl rfl rfl ?_
    refine Ops.nil ?_
    refine thenQ_n ?_
    refine Cd.ret ?_
    refine thenQ_r ?_
    refine ret1_s rfl ?_
    -- stop: end
    exact ⟨none, 0, rfl, (St.refl w).nil _⟩
  | some a =>
    subst hA
    refine Ret.of_cd Try.func104 rfl Try.ntmps104 rfl (post1 rfl) ?_
    refine Cd.seq ?_
    refine Cd.region ?_
    refine Ops.mv_sl rfl rfl rfl ?_
    refine Ops.nil ?_
    refine thenQ_n ?_
    refine Cd.seq ?_
    refine Cd.seq ?_
    refine Cd.region ?_
    refine Ops.mv_sl rfl rfl rfl ?_
    -- stop: BINOP eql 33 t3 0 33 -> 4
    refine Ops.eqNil rfl rfl rfl ?_
    refine Ops.nil ?_
    refine thenQ_n ?_
    -- stop: cond
    refine Cd.cond_f rfl ?_
    refine Cd.skip ?_
    refine thenQ_n ?_
    refine Cd.seq ?_
    refine Cd.region ?_
    -- stop: BUILDSLICE 33 0 [] -> 5
    refine Ops.bs0 (St.refl w) rfl ?_
    intro A1 w1 hS1
    have hS1 : St w w1 [CkI 2 A1 0 0 []] := hS1
    refine Ops.mv_sl rfl rfl rfl ?_
    -- stop: BUILTIN append(t5, t6) -> 7
    refine Ops.appI 0 hS1 rfl (hS1.oldI hR) rfl rfl rfl (by omega) (by omega) rfl ?_
    intro A2 c2 w2 hS2
    rw [Nat.zero_add] at hS2 ⊢
    refine Ops.mv_sl rfl rfl rfl ?_
    refine Ops.nil ?_
    refine thenQ_n ?_
    refine Cd.ret ?_
    refine ret1_s rfl ?_
    -- stop: end
    exact ⟨A2, c2, rfl, hS2⟩

theorem isSmall_c (rank flags : Int) (w : World) : Ret Try.prog 72 [.int .i64 rank, .int .i64 flags] w (fun v w' => v = .bool (decide (Small rank flags)) ∧ w' = w) := by
  refine Ret.of_cd Try.func72 rfl Try.ntmps72 rfl (post1 rfl) ?_
  refine Cd.seq ?_
  refine Cd.region ?_
  refine Ops.mv_bool rfl rfl rfl ?_
  refine Ops.nil ?_
  refine thenQ_n ?_
  refine Cd.seq ?_
  refine Cd.region ?_
  refine Ops.mv_int rfl rfl rfl ?_
  -- stop: CALL impl.within(t5, 1, 4) -> 6
  refine Ops.call (within_c _ _ _ _) rfl rfl rfl ?_
  rintro _ w ⟨rfl, rfl⟩
  refine Ops.mv_bool rfl rfl rfl ?_
  -- stop: guard 7
  refine Ops.split_p 7 rfl (fun h => ?_) (fun h => ?_)
  · refine Ops.rung rfl rfl rfl ?_
    refine Ops.mv_int rfl rfl rfl ?_
    refine Ops.rung rfl rfl rfl ?_
    -- stop: CALL impl.within(t8, 2, 12) -> 9
    refine Ops.call (within_c _ _ _ _) rfl rfl rfl ?_
    rintro _ w ⟨rfl, rfl⟩
    refine Ops.pick_t rfl rfl rfl ?_
    refine Ops.mv_bool rfl rfl rfl ?_
    refine Ops.nil ?_
    refine thenQ_n ?_
    refine Cd.ret ?_
    refine ret1_b rfl ?_
    -- stop: end
    exact ⟨by simp [Small, h], rfl⟩
  · refine Ops.skipg rfl rfl rfl rfl rfl ?_
    refine Ops.skipg rfl rfl rfl rfl rfl ?_
    refine Ops.pick_f rfl rfl rfl ?_
    refine Ops.mv_bool rfl rfl rfl ?_
    refine Ops.nil ?_
    refine thenQ_n ?_
    refine Cd.ret ?_
    refine ret1_b rfl ?_
    -- stop: end
    exact ⟨by simp [Small, h], rfl⟩

theorem sizeM_c (A : Option Addr) (n c : Nat) (w : World) : Ret Try.prog 70 [.slice A n c] w (fun v w' => v = .int .i64 (n : Int) ∧ w' = w) := by
  refine Ret.of_cd Try.func70 rfl Try.ntmps70 rfl (post1 rfl) ?_
  refine Cd.seq ?_
  refine Cd.region ?_
  refine Ops.mv_int rfl rfl rfl ?_
  refine Ops.nil ?_
  refine thenQ_n ?_
  refine Cd.seq ?_
  refine Cd.region ?_
  refine Ops.mv_sl rfl rfl rfl ?_
  refine Ops.len rfl rfl ?_
  refine Ops.mv_int rfl rfl rfl ?_
  refine Ops.nil ?_
  refine thenQ_n ?_
  refine Cd.ret ?_
  refine ret1_i rfl ?_
  -- stop: end
  exact ⟨rfl, rfl⟩
end Go.Proofs.Ytgobjpcankaicaa.Vc
