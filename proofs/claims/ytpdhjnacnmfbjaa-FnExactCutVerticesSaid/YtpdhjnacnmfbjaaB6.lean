/-
  The walk of isManiplex. Conditions: as each states them.
-/
import Derived.Test.YtpdhjnacnmfbjaaB5
namespace Go.Proofs.Ytpdhjnacnmfbjaa.Vc
open Go.RowKit

theorem rg_cut {rs : List SlV} {l m : Nat} {j : Nat} (hj : j < m) : rg ((rs.drop l).take m) (j : Int) = rg rs ((l + j : Nat) : Int) := by
  have e : (((l + j : Nat) : Int)).toNat = l + j := by omega
  rw [rg, rg, e]
  simp [List.getD_eq_getElem?_getD, List.getElem?_take, hj]

theorem isManiplex_c (A : Option Addr) (n c : Nat) (rs : List SlV) (xss : List (List Int)) (w : World) (hR : RowsI w A n rs xss) (hn : n ≤ c) (hc : c ≤ 9223372036854775807) :
    Ret Try.prog 59 [.agg #[.slice A n c]] w (fun v w' => v = .bool (decide (Mani xss)) ∧ St w w' []) := by
  have hxl := hR.len
  have r0 : 0 < n → (gl xss 0).length = (rg rs 0).n := fun h => hR.rowLen (by omega) (by omega)
  refine Ret.of_cd Try.func59 rfl Try.ntmps59 rfl (post1 rfl) ?_
  refine Cd.seq ?_
  refine Cd.region ?_
  -- stop: BOX 32 t0=app -> 1
  refine Ops.box1 (St.refl w) rfl rfl ?_
  intro Ab w1 hS
  refine Ops.mv_bool rfl rfl rfl ?_
  refine Ops.nil ?_
  refine thenQ_n ?_
  refine Cd.seq ?_
  refine Cd.seq ?_
  refine Cd.region ?_
  -- stop: CALL impl.Maniplex).rank(t1=toArray) -> 12
  refine Ops.call (rank_c _ _ _ _ _ _ (hS.rd 0 rfl) rfl) rfl rfl rfl ?_
  rintro _ _ ⟨rfl, rfl⟩
  skip
  -- stop: CALL impl.within(t12, 1, 5) -> 13
  refine Ops.call (within_c _ _ _ _) rfl rfl rfl ?_
  rintro _ _ ⟨rfl, rfl⟩
  first | refine Ops.not_p rfl rfl ?_ | refine Ops.not rfl rfl ?_
  refine Ops.mv_bool rfl rfl rfl ?_
  -- stop: guard 15
  refine Ops.split_p 15 rfl (fun h1 => ?_) (fun h1 => ?_)
  · refine Ops.skipg rfl rfl rfl rfl rfl ?_
    refine Ops.skipg rfl rfl rfl rfl rfl ?_
    refine Ops.skipg rfl rfl rfl rfl rfl ?_
    refine Ops.pick_t rfl rfl rfl ?_
    refine Ops.nil ?_
    refine thenQ_n ?_
    -- stop: cond
    refine Cd.cond_t rfl ?_
    refine Cd.seq ?_
    refine Cd.region ?_
    refine Ops.mv_bool rfl rfl rfl ?_
    refine Ops.nil ?_
    refine thenQ_n ?_
    refine Cd.ret ?_
    refine thenQ_r ?_
    refine ret1_b rfl ?_
    -- stop: end
    exact ⟨by rw [decide_eq_false (fun h : Mani xss => by have := h.1; omega)], hS.none⟩
  have hM := hS.oldRows hR
  have r0 := r0 (by omega)
  refine Ops.rung rfl rfl rfl ?_
  -- stop: CALL impl.Maniplex).flags(t1=toArray) -> 16
  refine Ops.call (flags_c _ _ _ _ _ _ _ _ (hS.rd 0 rfl) rfl hM (by omega)) rfl rfl rfl ?_
  rintro _ _ ⟨rfl, rfl⟩
  refine Ops.rung rfl rfl rfl ?_
  -- stop: CALL impl.within(t16, 2, 400) -> 17
  refine Ops.call (within_c _ _ _ _) rfl rfl rfl ?_
  rintro _ _ ⟨rfl, rfl⟩
  refine Ops.rung rfl rfl rfl ?_
  first | refine Ops.not_p rfl rfl ?_ | refine Ops.not rfl rfl ?_
  refine Ops.pick_f rfl rfl rfl ?_
  refine Ops.nil ?_
  refine thenQ_n ?_
  -- stop: cond
  refine Cd.cond_p _ rfl (fun h3 => ?_) (fun h3 => ?_)
  · refine Cd.seq ?_
    refine Cd.region ?_
    refine Ops.mv_bool rfl rfl rfl ?_
    refine Ops.nil ?_
    refine thenQ_n ?_
    refine Cd.ret ?_
    refine thenQ_r ?_
    refine ret1_b rfl ?_
    -- stop: end
    exact ⟨by rw [decide_eq_false (fun h : Mani xss => by have := h.2.1; omega)], hS.none⟩
  refine Cd.skip ?_
  refine thenQ_n ?_
  refine Cd.seq ?_
  refine Cd.seq ?_
  refine Cd.region ?_
  -- stop: FIELDADDR 32 t1=toArray 0 -> 20
  refine Ops.fld (hS.rd 0 rfl) rfl rfl rfl rfl inferInstance ?_
  refine Ops.ldf_s (hS.rd 0 rfl) rfl rfl rfl rfl rfl ?_
  refine Ops.len rfl rfl ?_
  refine Ops.mv_int rfl rfl rfl ?_
  refine Ops.nil ?_
  refine thenQ_n ?_
  refine Cd.block ?_
  -- stop: loop
  refine Cd.loop (α := Nat) (fun k => [(1, .pointer Ab), (21, .slice A n c), (22, .int .i64 (n : Int)), (23, .int .i64 (k : Int))]) (fun k w' => St w w' [Bx 32 1 Ab [.slice A n c]] ∧ k ≤ n ∧ Part xss k) (fun k => n - k) 0 ⟨rfl, rfl, rfl, rfl, trivial⟩ ⟨hS, Nat.zero_le _, fun p hp => by simp at hp⟩ ?_
  rintro k e w2 ⟨hS2, hk, hP⟩
  have hM := hS2.oldRows hR
  refine Cd.seq ?_
  refine Cd.region ?_
  refine Ops.lss rfl rfl rfl ?_
  refine Ops.nil ?_
  refine thenQ_n ?_
  refine Cd.seq ?_
  -- stop: cond
  refine Cd.cond_p _ rfl (fun h5 => ?_) (fun h5 => ?_)
  · have hkx : k < xss.length := by omega
    have rk := hR.rowLen (k := (k : Int)) (by omega) (by omega)
    have hrow := hM.at_ (i := k) (by omega) h5
    refine Cd.skip ?_
    refine thenQ_n ?_
    refine Cd.seq ?_
    refine Cd.block ?_
    refine Cd.seq ?_
    refine Cd.region ?_
    -- stop: INDEXADDR 25 t21 t23 -> 25
    refine Ops.idx hM.top.2 rfl rfl rfl (by omega) h5 ?_
    refine Ops.ld_sl hM.top rfl (by omega) rfl rfl ?_
    refine Ops.mv_sl rfl rfl rfl ?_
    refine Ops.nil ?_
    refine thenQ_n ?_
    refine Cd.seq ?_
    refine Cd.region ?_
    refine Ops.mv_sl rfl rfl rfl ?_
    -- stop: CALL impl.isFreeInvolution(t27) -> 28
    refine Ops.call (isFreeInvolution_c _ _ _ _ _ hrow) rfl rfl rfl ?_
    rintro _ w3 ⟨rfl, hst⟩
    have hS3 := hS2.later hst.below
    have hM := hS3.oldRows hR
    first | refine Ops.not_p rfl rfl ?_ | refine Ops.not rfl rfl ?_
    refine Ops.mv_bool rfl rfl rfl ?_
    -- stop: guard 30
    refine Ops.split_p 30 rfl (fun h6 => ?_) (fun h6 => ?_)
    · refine Ops.skipg rfl rfl rfl rfl rfl ?_
      refine Ops.skipg rfl rfl rfl rfl rfl ?_
      refine Ops.skipg rfl rfl rfl rfl rfl ?_
      refine Ops.skipg rfl rfl rfl rfl rfl ?_
      refine Ops.pick_t rfl rfl rfl ?_
      refine Ops.nil ?_
      refine thenQ_n ?_
      -- stop: cond
      refine Cd.cond_t rfl ?_
      refine Cd.seq ?_
      refine Cd.region ?_
      refine Ops.mv_bool rfl rfl rfl ?_
      refine Ops.nil ?_
      refine thenQ_n ?_
      refine Cd.ret ?_
      refine blockQ_r ?_
      refine thenQ_r ?_
      refine thenQ_r ?_
      refine blockQ_r ?_
      refine thenQ_r ?_
      refine ret1_b rfl ?_
      -- stop: end
      exact ⟨by rw [decide_eq_false (fun h : Mani xss => h6 ⟨(h.2.2.1.at_ hkx).2.1, (h.2.2.1.at_ hkx).2.2⟩)], hS3.none⟩
    · have h6 := Classical.not_not.1 h6
      refine Ops.rung rfl rfl rfl ?_
      refine Ops.mv_sl rfl rfl rfl ?_
      refine Ops.rung rfl rfl rfl ?_
      -- stop: CALL impl.size[int64](t31) -> 32
      refine Ops.call (sizeI_c _ _ _ _) rfl rfl rfl ?_
      rintro _ _ ⟨rfl, rfl⟩
      refine Ops.rung rfl rfl rfl ?_
      -- stop: CALL impl.Maniplex).flags(t1=toArray) -> 33
      refine Ops.call (flags_c _ _ _ _ _ _ _ _ (hS3.rd 0 rfl) rfl hM (by omega)) rfl rfl rfl ?_
      rintro _ _ ⟨rfl, rfl⟩
      refine Ops.rung rfl rfl rfl ?_
      refine Ops.neq rfl rfl rfl ?_
      refine Ops.pick_f rfl rfl rfl ?_
      refine Ops.nil ?_
      refine thenQ_n ?_
      -- stop: cond
      refine Cd.cond_p _ rfl (fun h7 => ?_) (fun h7 => ?_)
      · refine Cd.seq ?_
        refine Cd.region ?_
        refine Ops.mv_bool rfl rfl rfl ?_
        refine Ops.nil ?_
        refine thenQ_n ?_
        refine Cd.ret ?_
        refine blockQ_r ?_
        refine thenQ_r ?_
        refine thenQ_r ?_
        refine blockQ_r ?_
        refine thenQ_r ?_
        refine ret1_b rfl ?_
        -- stop: end
        exact ⟨by rw [decide_eq_false (fun h : Mani xss => h7 (by have := (h.2.2.1.at_ hkx).1; omega))], hS3.none⟩
      · refine Cd.skip ?_
        refine blockQ_n ?_
        refine thenQ_n ?_
        refine Cd.region ?_
        refine Ops.add rfl rfl rfl (by omega) ?_
        refine Ops.mv_int rfl rfl rfl ?_
        refine Ops.nil ?_
        refine thenQ_n ?_
        -- stop: round
        exact ⟨k + 1, by omega, ⟨rfl, rfl, rfl, rfl, trivial⟩, hS3, by omega, hP.step hkx (by omega) h6.1 h6.2⟩
  · have hr1 := hP.all (by omega)
    have hs := hr1.sys
    have hrk : ∀ i : Int, 0 ≤ i → i < n → (rg rs i).n = (rg rs 0).n := fun i h0 h1 => by
      have e1 := hR.rowLen h0 h1
      have e2 := (hr1 _ (gl_in h0 (by omega))).1
      omega
    refine Cd.exit ?_
    refine thenQ_x ?_
    refine thenQ_x ?_
    refine blockQ_x ?_
    refine thenQ_n ?_
    refine Cd.seq ?_
    refine Cd.seq ?_
    refine Cd.region ?_
    -- stop: FIELDADDR 32 t1=toArray 0 -> 37
    refine Ops.fld (hS2.rd 0 rfl) rfl rfl rfl rfl inferInstance ?_
    refine Ops.ldf_s (hS2.rd 0 rfl) rfl rfl rfl rfl rfl ?_
    refine Ops.len rfl rfl ?_
    refine Ops.mv_int rfl rfl rfl ?_
    refine Ops.nil ?_
    refine thenQ_n ?_
    refine Cd.block ?_
    -- stop: loop
    refine Cd.loop (α := Nat) (fun i => [(1, .pointer Ab), (38, .slice A n c), (39, .int .i64 (n : Int)), (40, .int .i64 (i : Int))]) (fun i w' => St w w' [Bx 32 1 Ab [.slice A n c]] ∧ i ≤ n ∧ ∀ i', i' < i → ∀ k, k < n → i' + 2 ≤ k → ∀ f, f < (gl xss 0).length → Comm xss i' k f) (fun i => n - i) 0 ⟨rfl, rfl, rfl, rfl, trivial⟩ ⟨hS2, Nat.zero_le _, fun i' hi' => by omega⟩ ?_
    rintro i e w3 ⟨hS3, hi, hC⟩
    have hM := hS3.oldRows hR
    refine Cd.seq ?_
    refine Cd.region ?_
    refine Ops.lss rfl rfl rfl ?_
    refine Ops.nil ?_
    refine thenQ_n ?_
    refine Cd.seq ?_
    -- stop: cond
    refine Cd.cond_p _ rfl (fun h6 => ?_) (fun h6 => ?_)
    · refine Cd.skip ?_
      refine thenQ_n ?_
      refine Cd.seq ?_
      refine Cd.block ?_
      refine Cd.seq ?_
      refine Cd.region ?_
      refine Ops.mv_int rfl rfl rfl ?_
      -- stop: INDEXADDR 25 t38 t40 -> 43
      refine Ops.idx hM.top.2 rfl rfl rfl (by omega) h6 ?_
      refine Ops.ld_sl hM.top rfl (by omega) rfl rfl ?_
      refine Ops.mv_int rfl rfl rfl ?_
      refine Ops.mv_sl rfl rfl rfl ?_
      refine Ops.nil ?_
      refine thenQ_n ?_
      refine Cd.seq ?_
      refine Cd.region ?_
      -- stop: FIELDADDR 32 t1=toArray 0 -> 45
      refine Ops.fld (hS3.rd 0 rfl) rfl rfl rfl rfl inferInstance ?_
      refine Ops.ldf_s (hS3.rd 0 rfl) rfl rfl rfl rfl rfl ?_
      refine Ops.mv_int rfl rfl rfl ?_
      refine Ops.add rfl rfl rfl (by omega) ?_
      -- stop: FIELDADDR 32 t1=toArray 0 -> 49
      refine Ops.fld (hS3.rd 0 rfl) rfl rfl rfl rfl inferInstance ?_
      refine Ops.ldf_s (hS3.rd 0 rfl) rfl rfl rfl rfl rfl ?_
      refine Ops.len rfl rfl ?_
      -- stop: BUILTIN min(t48, t51) -> 52
      refine Ops.minI rfl rfl rfl ?_
      obtain ⟨l, hl, hl1, hl2⟩ : ∃ l : Nat, min ((i : Int) + 2) (n : Int) = (l : Int) ∧ l ≤ n ∧ (l = i + 2 ∨ (l = n ∧ n ≤ i + 2)) := ⟨min (i + 2) n, by omega, by omega, by omega⟩
      rw [hl]
      refine Ops.cut_l rfl rfl rfl (by omega) ?_
      rw [Int.toNat_natCast]
      refine Ops.len rfl rfl ?_
      refine Ops.mv_int rfl rfl rfl ?_
      refine Ops.nil ?_
      refine thenQ_n ?_
      refine Cd.block ?_
      -- stop: loop
      refine Cd.loop (α := Nat) (fun j => [(1, .pointer Ab), (38, .slice A n c), (39, .int .i64 (n : Int)), (40, .int .i64 (i : Int)), (6, .slice (rg rs i).a (rg rs i).n (rg rs i).c), (53, .slice (cutAt A c l) (n - l) (c - l)), (54, .int .i64 ((n - l : Nat) : Int)), (55, .int .i64 (j : Int))]) (fun j w' => St w w' [Bx 32 1 Ab [.slice A n c]] ∧ j ≤ n - l ∧ ∀ k', k' < l + j → k' < n → i + 2 ≤ k' → ∀ f, f < (gl xss 0).length → Comm xss i k' f) (fun j => n - l - j) 0 ⟨rfl, rfl, rfl, rfl, rfl, rfl, rfl, rfl, trivial⟩ ⟨hS3, Nat.zero_le _, fun k' h1 _ _ => by omega⟩ ?_
      rintro j e w4 ⟨hS4, hj, hC4⟩
      have hM := hS4.oldRows hR
      have hcut := hM.top.cut (c := c) hl1 (Nat.le_refl n) hn
      refine Cd.seq ?_
      refine Cd.region ?_
      refine Ops.lss rfl rfl rfl ?_
      refine Ops.nil ?_
      refine thenQ_n ?_
      refine Cd.seq ?_
      -- stop: cond
      refine Cd.cond_p _ rfl (fun h7 => ?_) (fun h7 => ?_)
      · have hjl : j < n - l := by omega
        have hk : l + j < n := by omega
        have hik : i + 2 ≤ l + j := by omega
        refine Cd.skip ?_
        refine thenQ_n ?_
        refine Cd.seq ?_
        refine Cd.block ?_
        refine Cd.seq ?_
        refine Cd.region ?_
        -- stop: INDEXADDR 25 t53 t55 -> 57
        refine Ops.idx hcut.2 rfl rfl rfl (by omega) h7 ?_
        refine Ops.ld_sl hcut rfl (by omega) rfl rfl ?_
        rw [rg_cut hjl]
        generalize hke : l + j = k at hk hik
        have rki := hrk i (by omega) h6
        have rkk := hrk k (by omega) (by omega)
        refine Ops.mv_sl rfl rfl rfl ?_
        refine Ops.nil ?_
        refine thenQ_n ?_
        refine Cd.seq ?_
        refine Cd.region ?_
        -- stop: CALL impl.Maniplex).flags(t1=toArray) -> 59
        refine Ops.call (flags_c _ _ _ _ _ _ _ _ (hS4.rd 0 rfl) rfl hM (by omega)) rfl rfl rfl ?_
        rintro _ w4 ⟨rfl, rfl⟩
        refine Ops.mv_int rfl rfl rfl ?_
        refine Ops.nil ?_
        refine thenQ_n ?_
        refine Cd.block ?_
        -- stop: loop
        refine Cd.loop (α := Nat) (fun f => [(1, .pointer Ab), (38, .slice A n c), (39, .int .i64 (n : Int)), (40, .int .i64 (i : Int)), (6, .slice (rg rs i).a (rg rs i).n (rg rs i).c), (53, .slice (cutAt A c l) (n - l) (c - l)), (54, .int .i64 ((n - l : Nat) : Int)), (55, .int .i64 (j : Int)), (8, .slice (rg rs k).a (rg rs k).n (rg rs k).c), (59, .int .i64 ((rg rs 0).n : Int)), (60, .int .i64 (f : Int))]) (fun f w' => St w w' [Bx 32 1 Ab [.slice A n c]] ∧ f ≤ (gl xss 0).length ∧ ∀ f', f' < f → Comm xss i k f') (fun f => (gl xss 0).length - f) 0 ⟨rfl, rfl, rfl, rfl, rfl, rfl, rfl, rfl, rfl, rfl, rfl, trivial⟩ ⟨hS4, Nat.zero_le _, fun f' hf' => by omega⟩ ?_
        rintro f e w5 ⟨hS5, hf, hC5⟩
        have hM := hS5.oldRows hR
        have hri := hM.at_ (i := i) (by omega) h6
        have hrk' := hM.at_ (i := k) (by omega) (by omega)
        refine Cd.seq ?_
        refine Cd.region ?_
        refine Ops.lss rfl rfl rfl ?_
        refine Ops.nil ?_
        refine thenQ_n ?_
        refine Cd.seq ?_
        -- stop: cond
        refine Cd.cond_p _ rfl (fun h8 => ?_) (fun h8 => ?_)
        · have hii := (hs _ (gl_in (k := (i : Int)) (by omega) (by omega))).2 (f : Int) (by omega) (by omega)
          have hkk := (hs _ (gl_in (k := (k : Int)) (by omega) (by omega))).2 (f : Int) (by omega) (by omega)
          refine Cd.skip ?_
          refine thenQ_n ?_
          refine Cd.seq ?_
          refine Cd.block ?_
          refine Cd.seq ?_
          refine Cd.region ?_
          refine Ops.mv_int rfl rfl rfl ?_
          refine Ops.mv_int rfl rfl rfl ?_
          refine Ops.nil ?_
          refine thenQ_n ?_
          refine Cd.seq ?_
          -- stop: draw
          by_cases h10 : gi (gl xss i) f = gi (gl xss k) f
          · --dup 3
            refine Cd.draw [.ex (.slice ((rg rs i).a) ((rg rs i).n) ((rg rs i).c)), .ex (.int .i64 ((f : Int))), .ex (.pointer (ptrAt ((rg rs i).a) ((f : Int)).toNat)), .ex (.int .i64 (gi (gl xss i) ((f : Int)))), .ex (.slice ((rg rs k).a) ((rg rs k).n) ((rg rs k).c)), .ex (.int .i64 ((f : Int))), .ex (.pointer (ptrAt ((rg rs k).a) ((f : Int)).toNat)), .ex (.int .i64 (gi (gl xss k) ((f : Int)))), .ex (.bool (true)), .ex (.bool (true)), .ex (undef), .ex (undef), .ex (undef), .ex (undef), .ex (undef), .ex (undef), .ex (undef), .ex (undef), .ex (undef), .ex (undef), .ex (undef), .ex (undef), .ex (undef), .ex (undef), .ex (undef), .ex (.bool (true))] (by kernel_rfl) (by kernel_rfl) rfl (List.forall_mem_cons.2 ⟨Yd.lasts_ex _, (List.forall_mem_cons.2 ⟨Yd.lasts_ex _, (List.forall_mem_cons.2 ⟨Yd.lasts_ex _, (List.forall_mem_cons.2 ⟨Yd.lasts_ex _, (List.forall_mem_cons.2 ⟨Yd.lasts_ex _, (List.forall_mem_cons.2 ⟨Yd.lasts_ex _, (List.forall_mem_cons.2 ⟨Yd.lasts_ex _, (List.forall_mem_cons.2 ⟨Yd.lasts_ex _, (List.forall_mem_cons.2 ⟨Yd.lasts_ex _, (List.forall_mem_cons.2 ⟨Yd.lasts_ex _, (List.forall_mem_cons.2 ⟨Yd.lasts_ex _, (List.forall_mem_cons.2 ⟨Yd.lasts_ex _, (List.forall_mem_cons.2 ⟨Yd.lasts_ex _, (List.forall_mem_cons.2 ⟨Yd.lasts_ex _, (List.forall_mem_cons.2 ⟨Yd.lasts_ex _, (List.forall_mem_cons.2 ⟨Yd.lasts_ex _, (List.forall_mem_cons.2 ⟨Yd.lasts_ex _, (List.forall_mem_cons.2 ⟨Yd.lasts_ex _, (List.forall_mem_cons.2 ⟨Yd.lasts_ex _, (List.forall_mem_cons.2 ⟨Yd.lasts_ex _, (List.forall_mem_cons.2 ⟨Yd.lasts_ex _, (List.forall_mem_cons.2 ⟨Yd.lasts_ex _, (List.forall_mem_cons.2 ⟨Yd.lasts_ex _, (List.forall_mem_cons.2 ⟨Yd.lasts_ex _, (List.forall_mem_cons.2 ⟨Yd.lasts_ex _, (List.forall_mem_cons.2 ⟨Yd.lasts_ex _, (fun _ h => by cases h)⟩)⟩)⟩)⟩)⟩)⟩)⟩)⟩)⟩)⟩)⟩)⟩)⟩)⟩)⟩)⟩)⟩)⟩)⟩)⟩)⟩)⟩)⟩)⟩)⟩)⟩) ⟨?_, ?_, ?_, ?_, ?_, ?_, ?_, ?_, ?_, ?_, ?_, ?_, ?_, ?_, ?_, ?_, ?_, ?_, ?_, ?_, ?_, ?_, ?_, ?_, ?_, ?_, trivial⟩ ?_
            · intro e1 w1 hb hp hun
              refine Ops.mv_sl rfl rfl rfl ?_
              refine Ops.nil ?_
              exact After.dn (Below.refl _ _) (by exact rfl)
            · intro e1 w1 hb hp hun
              refine Ops.mv_int rfl rfl rfl ?_
              refine Ops.nil ?_
              exact After.dn (Below.refl _ _) (by exact rfl)
            · intro e1 w1 hb hp hun
              refine Ops.idx (hri.later hb).2 rfl rfl rfl (by omega) (by omega) ?_
              refine Ops.nil ?_
              exact After.dn (Below.refl _ _) (by exact rfl)
            · intro e1 w1 hb hp hun
              refine Ops.ld_int (hri.later hb) rfl (by omega) rfl rfl ?_
              refine Ops.nil ?_
              exact After.dn (Below.refl _ _) (by exact rfl)
            · intro e1 w1 hb hp hun
              refine Ops.mv_sl rfl rfl rfl ?_
              refine Ops.nil ?_
              exact After.dn (Below.refl _ _) (by exact rfl)
            · intro e1 w1 hb hp hun
              refine Ops.mv_int rfl rfl rfl ?_
              refine Ops.nil ?_
              exact After.dn (Below.refl _ _) (by exact rfl)
            · intro e1 w1 hb hp hun
              refine Ops.idx (hrk'.later hb).2 rfl rfl rfl (by omega) (by omega) ?_
              refine Ops.nil ?_
              exact After.dn (Below.refl _ _) (by exact rfl)
            · intro e1 w1 hb hp hun
              refine Ops.ld_int (hrk'.later hb) rfl (by omega) rfl rfl ?_
              refine Ops.nil ?_
              exact After.dn (Below.refl _ _) (by exact rfl)
            · intro e1 w1 hb hp hun
              refine Ops.eql rfl rfl rfl ?_
              refine Ops.nil ?_
              exact After.dn (Below.refl _ _) (by exact congrArg Value.bool (decide_eq_true h10))
            · intro e1 w1 hb hp hun
              refine Ops.mv_bool rfl rfl rfl ?_
              refine Ops.nil ?_
              exact After.dn (Below.refl _ _) (by exact rfl)
            · intro e1 w1 hb hp hun
              refine Ops.skipg rfl rfl rfl rfl rfl ?_
              refine Ops.nil ?_
              exact After.dn (Below.refl _ _) (by exact rfl)
            · intro e1 w1 hb hp hun
              refine Ops.skipg rfl rfl rfl rfl rfl ?_
              refine Ops.nil ?_
              exact After.dn (Below.refl _ _) (by exact rfl)
            · intro e1 w1 hb hp hun
              refine Ops.skipg rfl rfl rfl rfl rfl ?_
              refine Ops.nil ?_
              exact After.dn (Below.refl _ _) (by exact rfl)
            · intro e1 w1 hb hp hun
              refine Ops.skipg rfl rfl rfl rfl rfl ?_
              refine Ops.nil ?_
              exact After.dn (Below.refl _ _) (by exact rfl)
            · intro e1 w1 hb hp hun
              refine Ops.skipg rfl rfl rfl rfl rfl ?_
              refine Ops.nil ?_
              exact After.dn (Below.refl _ _) (by exact rfl)
            · intro e1 w1 hb hp hun
              refine Ops.skipg rfl rfl rfl rfl rfl ?_
              refine Ops.nil ?_
              exact After.dn (Below.refl _ _) (by exact rfl)
            · intro e1 w1 hb hp hun
              refine Ops.skipg rfl rfl rfl rfl rfl ?_
              refine Ops.nil ?_
              exact After.dn (Below.refl _ _) (by exact rfl)
            · intro e1 w1 hb hp hun
              refine Ops.skipg rfl rfl rfl rfl rfl ?_
              refine Ops.nil ?_
              exact After.dn (Below.refl _ _) (by exact rfl)
            · intro e1 w1 hb hp hun
              refine Ops.skipg rfl rfl rfl rfl rfl ?_
              refine Ops.nil ?_
              exact After.dn (Below.refl _ _) (by exact rfl)
            · intro e1 w1 hb hp hun
              refine Ops.skipg rfl rfl rfl rfl rfl ?_
              refine Ops.nil ?_
              exact After.dn (Below.refl _ _) (by exact rfl)
            · intro e1 w1 hb hp hun
              refine Ops.skipg rfl rfl rfl rfl rfl ?_
              refine Ops.nil ?_
              exact After.dn (Below.refl _ _) (by exact rfl)
            · intro e1 w1 hb hp hun
              refine Ops.skipg rfl rfl rfl rfl rfl ?_
              refine Ops.nil ?_
              exact After.dn (Below.refl _ _) (by exact rfl)
            · intro e1 w1 hb hp hun
              refine Ops.skipg rfl rfl rfl rfl rfl ?_
              refine Ops.nil ?_
              exact After.dn (Below.refl _ _) (by exact rfl)
            · intro e1 w1 hb hp hun
              refine Ops.skipg rfl rfl rfl rfl rfl ?_
              refine Ops.nil ?_
              exact After.dn (Below.refl _ _) (by exact rfl)
            · intro e1 w1 hb hp hun
              refine Ops.skipg rfl rfl rfl rfl rfl ?_
              refine Ops.nil ?_
              exact After.dn (Below.refl _ _) (by exact rfl)
            · intro e1 w1 hb hp hun
              refine Ops.pick_t rfl rfl rfl ?_
              refine Ops.nil ?_
              exact After.dn (Below.refl _ _) (by exact rfl)
            intro u w6 hb6 _
            have hS6 := hS5.later hb6
            refine thenQ_n ?_
            -- stop: cond
            refine Cd.cond_t rfl ?_
            refine Cd.seq ?_
            refine Cd.region ?_
            refine Ops.mv_bool rfl rfl rfl ?_
            refine Ops.nil ?_
            refine thenQ_n ?_
            refine Cd.ret ?_
            refine blockQ_r ?_
            refine thenQ_r ?_
            refine thenQ_r ?_
            refine blockQ_r ?_
            refine blockQ_r ?_
            refine thenQ_r ?_
            refine thenQ_r ?_
            refine blockQ_r ?_
            refine blockQ_r ?_
            refine thenQ_r ?_
            refine thenQ_r ?_
            refine blockQ_r ?_
            refine thenQ_r ?_
            refine ret1_b rfl ?_
            -- stop: end
            exact ⟨by rw [decide_eq_false (fun h : Mani xss => (h.2.2.2.1 i (by omega) k (by omega) hik f (by omega)).2 h10)], hS6.none⟩
          · by_cases h9 : gi (gl xss k) (gi (gl xss i) f) = gi (gl xss i) (gi (gl xss k) f)
            · refine Cd.draw [.ex (.slice ((rg rs i).a) ((rg rs i).n) ((rg rs i).c)), .ex (.int .i64 ((f : Int))), .ex (.pointer (ptrAt ((rg rs i).a) ((f : Int)).toNat)), .ex (.int .i64 (gi (gl xss i) ((f : Int)))), .ex (.slice ((rg rs k).a) ((rg rs k).n) ((rg rs k).c)), .ex (.int .i64 ((f : Int))), .ex (.pointer (ptrAt ((rg rs k).a) ((f : Int)).toNat)), .ex (.int .i64 (gi (gl xss k) ((f : Int)))), .ex (.bool (false)), .ex (.bool (false)), .ex (.slice ((rg rs k).a) ((rg rs k).n) ((rg rs k).c)), .ex (.slice ((rg rs i).a) ((rg rs i).n) ((rg rs i).c)), .ex (.int .i64 ((f : Int))), .ex (.pointer (ptrAt ((rg rs i).a) ((f : Int)).toNat)), .ex (.int .i64 (gi (gl xss i) ((f : Int)))), .ex (.pointer (ptrAt ((rg rs k).a) (gi (gl xss i) ((f : Int))).toNat)), .ex (.int .i64 (gi (gl xss k) (gi (gl xss i) ((f : Int))))), .ex (.slice ((rg rs i).a) ((rg rs i).n) ((rg rs i).c)), .ex (.slice ((rg rs k).a) ((rg rs k).n) ((rg rs k).c)), .ex (.int .i64 ((f : Int))), .ex (.pointer (ptrAt ((rg rs k).a) ((f : Int)).toNat)), .ex (.int .i64 (gi (gl xss k) ((f : Int)))), .ex (.pointer (ptrAt ((rg rs i).a) (gi (gl xss k) ((f : Int))).toNat)), .ex (.int .i64 (gi (gl xss i) (gi (gl xss k) ((f : Int))))), .ex (.bool (false)), .ex (.bool (false))] (by kernel_rfl) (by kernel_rfl) rfl (List.forall_mem_cons.2 ⟨Yd.lasts_ex _, (List.forall_mem_cons.2 ⟨Yd.lasts_ex _, (List.forall_mem_cons.2 ⟨Yd.lasts_ex _, (List.forall_mem_cons.2 ⟨Yd.lasts_ex _, (List.forall_mem_cons.2 ⟨Yd.lasts_ex _, (List.forall_mem_cons.2 ⟨Yd.lasts_ex _, (List.forall_mem_cons.2 ⟨Yd.lasts_ex _, (List.forall_mem_cons.2 ⟨Yd.lasts_ex _, (List.forall_mem_cons.2 ⟨Yd.lasts_ex _, (List.forall_mem_cons.2 ⟨Yd.lasts_ex _, (List.forall_mem_cons.2 ⟨Yd.lasts_ex _, (List.forall_mem_cons.2 ⟨Yd.lasts_ex _, (List.forall_mem_cons.2 ⟨Yd.lasts_ex _, (List.forall_mem_cons.2 ⟨Yd.lasts_ex _, (List.forall_mem_cons.2 ⟨Yd.lasts_ex _, (List.forall_mem_cons.2 ⟨Yd.lasts_ex _, (List.forall_mem_cons.2 ⟨Yd.lasts_ex _, (List.forall_mem_cons.2 ⟨Yd.lasts_ex _, (List.forall_mem_cons.2 ⟨Yd.lasts_ex _, (List.forall_mem_cons.2 ⟨Yd.lasts_ex _, (List.forall_mem_cons.2 ⟨Yd.lasts_ex _, (List.forall_mem_cons.2 ⟨Yd.lasts_ex _, (List.forall_mem_cons.2 ⟨Yd.lasts_ex _, (List.forall_mem_cons.2 ⟨Yd.lasts_ex _, (List.forall_mem_cons.2 ⟨Yd.lasts_ex _, (List.forall_mem_cons.2 ⟨Yd.lasts_ex _, (fun _ h => by cases h)⟩)⟩)⟩)⟩)⟩)⟩)⟩)⟩)⟩)⟩)⟩)⟩)⟩)⟩)⟩)⟩)⟩)⟩)⟩)⟩)⟩)⟩)⟩)⟩)⟩)⟩) ⟨?_, ?_, ?_, ?_, ?_, ?_, ?_, ?_, ?_, ?_, ?_, ?_, ?_, ?_, ?_, ?_, ?_, ?_, ?_, ?_, ?_, ?_, ?_, ?_, ?_, ?_, trivial⟩ ?_
              · intro e1 w1 hb hp hun
                refine Ops.mv_sl rfl rfl rfl ?_
                refine Ops.nil ?_
                exact After.dn (Below.refl _ _) (by exact rfl)
              · intro e1 w1 hb hp hun
                refine Ops.mv_int rfl rfl rfl ?_
                refine Ops.nil ?_
                exact After.dn (Below.refl _ _) (by exact rfl)
              · intro e1 w1 hb hp hun
                refine Ops.idx (hri.later hb).2 rfl rfl rfl (by omega) (by omega) ?_
                refine Ops.nil ?_
                exact After.dn (Below.refl _ _) (by exact rfl)
              · intro e1 w1 hb hp hun
                refine Ops.ld_int (hri.later hb) rfl (by omega) rfl rfl ?_
                refine Ops.nil ?_
                exact After.dn (Below.refl _ _) (by exact rfl)
              · intro e1 w1 hb hp hun
                refine Ops.mv_sl rfl rfl rfl ?_
                refine Ops.nil ?_
                exact After.dn (Below.refl _ _) (by exact rfl)
              · intro e1 w1 hb hp hun
                refine Ops.mv_int rfl rfl rfl ?_
                refine Ops.nil ?_
                exact After.dn (Below.refl _ _) (by exact rfl)
              · intro e1 w1 hb hp hun
                refine Ops.idx (hrk'.later hb).2 rfl rfl rfl (by omega) (by omega) ?_
                refine Ops.nil ?_
                exact After.dn (Below.refl _ _) (by exact rfl)
              · intro e1 w1 hb hp hun
                refine Ops.ld_int (hrk'.later hb) rfl (by omega) rfl rfl ?_
                refine Ops.nil ?_
                exact After.dn (Below.refl _ _) (by exact rfl)
              · intro e1 w1 hb hp hun
                refine Ops.eql rfl rfl rfl ?_
                refine Ops.nil ?_
                exact After.dn (Below.refl _ _) (by exact congrArg Value.bool (decide_eq_false h10))
              · intro e1 w1 hb hp hun
                refine Ops.mv_bool rfl rfl rfl ?_
                refine Ops.nil ?_
                exact After.dn (Below.refl _ _) (by exact rfl)
              · intro e1 w1 hb hp hun
                refine Ops.rung rfl rfl rfl ?_
                refine Ops.mv_sl rfl rfl rfl ?_
                refine Ops.nil ?_
                exact After.dn (Below.refl _ _) (by exact rfl)
              · intro e1 w1 hb hp hun
                refine Ops.rung rfl rfl rfl ?_
                refine Ops.mv_sl rfl rfl rfl ?_
                refine Ops.nil ?_
                exact After.dn (Below.refl _ _) (by exact rfl)
              · intro e1 w1 hb hp hun
                refine Ops.rung rfl rfl rfl ?_
                refine Ops.mv_int rfl rfl rfl ?_
                refine Ops.nil ?_
                exact After.dn (Below.refl _ _) (by exact rfl)
              · intro e1 w1 hb hp hun
                refine Ops.rung rfl rfl rfl ?_
                refine Ops.idx (hri.later hb).2 rfl rfl rfl (by omega) (by omega) ?_
                refine Ops.nil ?_
                exact After.dn (Below.refl _ _) (by exact rfl)
              · intro e1 w1 hb hp hun
                refine Ops.rung rfl rfl rfl ?_
                refine Ops.ld_int (hri.later hb) rfl (by omega) rfl rfl ?_
                refine Ops.nil ?_
                exact After.dn (Below.refl _ _) (by exact rfl)
              · intro e1 w1 hb hp hun
                refine Ops.rung rfl rfl rfl ?_
                refine Ops.idx (hrk'.later hb).2 rfl rfl rfl (by omega) (by omega) ?_
                refine Ops.nil ?_
                exact After.dn (Below.refl _ _) (by exact rfl)
              · intro e1 w1 hb hp hun
                refine Ops.rung rfl rfl rfl ?_
                refine Ops.ld_int (hrk'.later hb) rfl (by omega) rfl rfl ?_
                refine Ops.nil ?_
                exact After.dn (Below.refl _ _) (by exact rfl)
              · intro e1 w1 hb hp hun
                refine Ops.rung rfl rfl rfl ?_
                refine Ops.mv_sl rfl rfl rfl ?_
                refine Ops.nil ?_
                exact After.dn (Below.refl _ _) (by exact rfl)
              · intro e1 w1 hb hp hun
                refine Ops.rung rfl rfl rfl ?_
                refine Ops.mv_sl rfl rfl rfl ?_
                refine Ops.nil ?_
                exact After.dn (Below.refl _ _) (by exact rfl)
              · intro e1 w1 hb hp hun
                refine Ops.rung rfl rfl rfl ?_
                refine Ops.mv_int rfl rfl rfl ?_
                refine Ops.nil ?_
                exact After.dn (Below.refl _ _) (by exact rfl)
              · intro e1 w1 hb hp hun
                refine Ops.rung rfl rfl rfl ?_
                refine Ops.idx (hrk'.later hb).2 rfl rfl rfl (by omega) (by omega) ?_
                refine Ops.nil ?_
                exact After.dn (Below.refl _ _) (by exact rfl)
              · intro e1 w1 hb hp hun
                refine Ops.rung rfl rfl rfl ?_
                refine Ops.ld_int (hrk'.later hb) rfl (by omega) rfl rfl ?_
                refine Ops.nil ?_
                exact After.dn (Below.refl _ _) (by exact rfl)
              · intro e1 w1 hb hp hun
                refine Ops.rung rfl rfl rfl ?_
                refine Ops.idx (hri.later hb).2 rfl rfl rfl (by omega) (by omega) ?_
                refine Ops.nil ?_
                exact After.dn (Below.refl _ _) (by exact rfl)
              · intro e1 w1 hb hp hun
                refine Ops.rung rfl rfl rfl ?_
                refine Ops.ld_int (hri.later hb) rfl (by omega) rfl rfl ?_
                refine Ops.nil ?_
                exact After.dn (Below.refl _ _) (by exact rfl)
              · intro e1 w1 hb hp hun
                refine Ops.rung rfl rfl rfl ?_
                refine Ops.neq rfl rfl rfl ?_
                refine Ops.nil ?_
                exact After.dn (Below.refl _ _) (by exact congrArg Value.bool (decide_eq_false (fun h => h h9)))
              · intro e1 w1 hb hp hun
                refine Ops.pick_f rfl rfl rfl ?_
                refine Ops.nil ?_
                exact After.dn (Below.refl _ _) (by exact rfl)
              intro u w6 hb6 _
              have hS6 := hS5.later hb6
              refine thenQ_n ?_
              -- stop: cond
              refine Cd.cond_f rfl ?_
              refine Cd.skip ?_
              refine blockQ_n ?_
              refine thenQ_n ?_
              refine Cd.region ?_
              refine Ops.add rfl rfl rfl (by omega) ?_
              refine Ops.mv_int rfl rfl rfl ?_
              refine Ops.nil ?_
              refine thenQ_n ?_
              -- stop: round
              refine ⟨f + 1, by omega, ⟨rfl, rfl, rfl, rfl, rfl, rfl, rfl, rfl, rfl, rfl, rfl, trivial⟩, hS6, by omega, fun f' hf' => ?_⟩
              by_cases ef : f' = f
              · subst ef; exact ⟨h9, h10⟩
              · exact hC5 f' (by omega)
            · refine Cd.draw [.ex (.slice ((rg rs i).a) ((rg rs i).n) ((rg rs i).c)), .ex (.int .i64 ((f : Int))), .ex (.pointer (ptrAt ((rg rs i).a) ((f : Int)).toNat)), .ex (.int .i64 (gi (gl xss i) ((f : Int)))), .ex (.slice ((rg rs k).a) ((rg rs k).n) ((rg rs k).c)), .ex (.int .i64 ((f : Int))), .ex (.pointer (ptrAt ((rg rs k).a) ((f : Int)).toNat)), .ex (.int .i64 (gi (gl xss k) ((f : Int)))), .ex (.bool (false)), .ex (.bool (false)), .ex (.slice ((rg rs k).a) ((rg rs k).n) ((rg rs k).c)), .ex (.slice ((rg rs i).a) ((rg rs i).n) ((rg rs i).c)), .ex (.int .i64 ((f : Int))), .ex (.pointer (ptrAt ((rg rs i).a) ((f : Int)).toNat)), .ex (.int .i64 (gi (gl xss i) ((f : Int)))), .ex (.pointer (ptrAt ((rg rs k).a) (gi (gl xss i) ((f : Int))).toNat)), .ex (.int .i64 (gi (gl xss k) (gi (gl xss i) ((f : Int))))), .ex (.slice ((rg rs i).a) ((rg rs i).n) ((rg rs i).c)), .ex (.slice ((rg rs k).a) ((rg rs k).n) ((rg rs k).c)), .ex (.int .i64 ((f : Int))), .ex (.pointer (ptrAt ((rg rs k).a) ((f : Int)).toNat)), .ex (.int .i64 (gi (gl xss k) ((f : Int)))), .ex (.pointer (ptrAt ((rg rs i).a) (gi (gl xss k) ((f : Int))).toNat)), .ex (.int .i64 (gi (gl xss i) (gi (gl xss k) ((f : Int))))), .ex (.bool (true)), .ex (.bool (true))] (by kernel_rfl) (by kernel_rfl) rfl (List.forall_mem_cons.2 ⟨Yd.lasts_ex _, (List.forall_mem_cons.2 ⟨Yd.lasts_ex _, (List.forall_mem_cons.2 ⟨Yd.lasts_ex _, (List.forall_mem_cons.2 ⟨Yd.lasts_ex _, (List.forall_mem_cons.2 ⟨Yd.lasts_ex _, (List.forall_mem_cons.2 ⟨Yd.lasts_ex _, (List.forall_mem_cons.2 ⟨Yd.lasts_ex _, (List.forall_mem_cons.2 ⟨Yd.lasts_ex _, (List.forall_mem_cons.2 ⟨Yd.lasts_ex _, (List.forall_mem_cons.2 ⟨Yd.lasts_ex _, (List.forall_mem_cons.2 ⟨Yd.lasts_ex _, (List.forall_mem_cons.2 ⟨Yd.lasts_ex _, (List.forall_mem_cons.2 ⟨Yd.lasts_ex _, (List.forall_mem_cons.2 ⟨Yd.lasts_ex _, (List.forall_mem_cons.2 ⟨Yd.lasts_ex _, (List.forall_mem_cons.2 ⟨Yd.lasts_ex _, (List.forall_mem_cons.2 ⟨Yd.lasts_ex _, (List.forall_mem_cons.2 ⟨Yd.lasts_ex _, (List.forall_mem_cons.2 ⟨Yd.lasts_ex _, (List.forall_mem_cons.2 ⟨Yd.lasts_ex _, (List.forall_mem_cons.2 ⟨Yd.lasts_ex _, (List.forall_mem_cons.2 ⟨Yd.lasts_ex _, (List.forall_mem_cons.2 ⟨Yd.lasts_ex _, (List.forall_mem_cons.2 ⟨Yd.lasts_ex _, (List.forall_mem_cons.2 ⟨Yd.lasts_ex _, (List.forall_mem_cons.2 ⟨Yd.lasts_ex _, (fun _ h => by cases h)⟩)⟩)⟩)⟩)⟩)⟩)⟩)⟩)⟩)⟩)⟩)⟩)⟩)⟩)⟩)⟩)⟩)⟩)⟩)⟩)⟩)⟩)⟩)⟩)⟩)⟩) ⟨?_, ?_, ?_, ?_, ?_, ?_, ?_, ?_, ?_, ?_, ?_, ?_, ?_, ?_, ?_, ?_, ?_, ?_, ?_, ?_, ?_, ?_, ?_, ?_, ?_, ?_, trivial⟩ ?_
              · intro e1 w1 hb hp hun
                refine Ops.mv_sl rfl rfl rfl ?_
                refine Ops.nil ?_
                exact After.dn (Below.refl _ _) (by exact rfl)
              · intro e1 w1 hb hp hun
                refine Ops.mv_int rfl rfl rfl ?_
                refine Ops.nil ?_
                exact After.dn (Below.refl _ _) (by exact rfl)
              · intro e1 w1 hb hp hun
                refine Ops.idx (hri.later hb).2 rfl rfl rfl (by omega) (by omega) ?_
                refine Ops.nil ?_
                exact After.dn (Below.refl _ _) (by exact rfl)
              · intro e1 w1 hb hp hun
                refine Ops.ld_int (hri.later hb) rfl (by omega) rfl rfl ?_
                refine Ops.nil ?_
                exact After.dn (Below.refl _ _) (by exact rfl)
              · intro e1 w1 hb hp hun
                refine Ops.mv_sl rfl rfl rfl ?_
                refine Ops.nil ?_
                exact After.dn (Below.refl _ _) (by exact rfl)
              · intro e1 w1 hb hp hun
                refine Ops.mv_int rfl rfl rfl ?_
                refine Ops.nil ?_
                exact After.dn (Below.refl _ _) (by exact rfl)
              · intro e1 w1 hb hp hun
                refine Ops.idx (hrk'.later hb).2 rfl rfl rfl (by omega) (by omega) ?_
                refine Ops.nil ?_
                exact After.dn (Below.refl _ _) (by exact rfl)
              · intro e1 w1 hb hp hun
                refine Ops.ld_int (hrk'.later hb) rfl (by omega) rfl rfl ?_
                refine Ops.nil ?_
                exact After.dn (Below.refl _ _) (by exact rfl)
              · intro e1 w1 hb hp hun
                refine Ops.eql rfl rfl rfl ?_
                refine Ops.nil ?_
                exact After.dn (Below.refl _ _) (by exact congrArg Value.bool (decide_eq_false h10))
              · intro e1 w1 hb hp hun
                refine Ops.mv_bool rfl rfl rfl ?_
                refine Ops.nil ?_
                exact After.dn (Below.refl _ _) (by exact rfl)
              · intro e1 w1 hb hp hun
                refine Ops.rung rfl rfl rfl ?_
                refine Ops.mv_sl rfl rfl rfl ?_
                refine Ops.nil ?_
                exact After.dn (Below.refl _ _) (by exact rfl)
              · intro e1 w1 hb hp hun
                refine Ops.rung rfl rfl rfl ?_
                refine Ops.mv_sl rfl rfl rfl ?_
                refine Ops.nil ?_
                exact After.dn (Below.refl _ _) (by exact rfl)
              · intro e1 w1 hb hp hun
                refine Ops.rung rfl rfl rfl ?_
                refine Ops.mv_int rfl rfl rfl ?_
                refine Ops.nil ?_
                exact After.dn (Below.refl _ _) (by exact rfl)
              · intro e1 w1 hb hp hun
                refine Ops.rung rfl rfl rfl ?_
                refine Ops.idx (hri.later hb).2 rfl rfl rfl (by omega) (by omega) ?_
                refine Ops.nil ?_
                exact After.dn (Below.refl _ _) (by exact rfl)
              · intro e1 w1 hb hp hun
                refine Ops.rung rfl rfl rfl ?_
                refine Ops.ld_int (hri.later hb) rfl (by omega) rfl rfl ?_
                refine Ops.nil ?_
                exact After.dn (Below.refl _ _) (by exact rfl)
              · intro e1 w1 hb hp hun
                refine Ops.rung rfl rfl rfl ?_
                refine Ops.idx (hrk'.later hb).2 rfl rfl rfl (by omega) (by omega) ?_
                refine Ops.nil ?_
                exact After.dn (Below.refl _ _) (by exact rfl)
              · intro e1 w1 hb hp hun
                refine Ops.rung rfl rfl rfl ?_
                refine Ops.ld_int (hrk'.later hb) rfl (by omega) rfl rfl ?_
                refine Ops.nil ?_
                exact After.dn (Below.refl _ _) (by exact rfl)
              · intro e1 w1 hb hp hun
                refine Ops.rung rfl rfl rfl ?_
                refine Ops.mv_sl rfl rfl rfl ?_
                refine Ops.nil ?_
                exact After.dn (Below.refl _ _) (by exact rfl)
              · intro e1 w1 hb hp hun
                refine Ops.rung rfl rfl rfl ?_
                refine Ops.mv_sl rfl rfl rfl ?_
                refine Ops.nil ?_
                exact After.dn (Below.refl _ _) (by exact rfl)
              · intro e1 w1 hb hp hun
                refine Ops.rung rfl rfl rfl ?_
                refine Ops.mv_int rfl rfl rfl ?_
                refine Ops.nil ?_
                exact After.dn (Below.refl _ _) (by exact rfl)
              · intro e1 w1 hb hp hun
                refine Ops.rung rfl rfl rfl ?_
                refine Ops.idx (hrk'.later hb).2 rfl rfl rfl (by omega) (by omega) ?_
                refine Ops.nil ?_
                exact After.dn (Below.refl _ _) (by exact rfl)
              · intro e1 w1 hb hp hun
                refine Ops.rung rfl rfl rfl ?_
                refine Ops.ld_int (hrk'.later hb) rfl (by omega) rfl rfl ?_
                refine Ops.nil ?_
                exact After.dn (Below.refl _ _) (by exact rfl)
              · intro e1 w1 hb hp hun
                refine Ops.rung rfl rfl rfl ?_
                refine Ops.idx (hri.later hb).2 rfl rfl rfl (by omega) (by omega) ?_
                refine Ops.nil ?_
                exact After.dn (Below.refl _ _) (by exact rfl)
              · intro e1 w1 hb hp hun
                refine Ops.rung rfl rfl rfl ?_
                refine Ops.ld_int (hri.later hb) rfl (by omega) rfl rfl ?_
                refine Ops.nil ?_
                exact After.dn (Below.refl _ _) (by exact rfl)
              · intro e1 w1 hb hp hun
                refine Ops.rung rfl rfl rfl ?_
                refine Ops.neq rfl rfl rfl ?_
                refine Ops.nil ?_
                exact After.dn (Below.refl _ _) (by exact congrArg Value.bool (decide_eq_true h9))
              · intro e1 w1 hb hp hun
                refine Ops.pick_f rfl rfl rfl ?_
                refine Ops.nil ?_
                exact After.dn (Below.refl _ _) (by exact rfl)
              intro u w6 hb6 _
              have hS6 := hS5.later hb6
              refine thenQ_n ?_
              -- stop: cond
              refine Cd.cond_t rfl ?_
              refine Cd.seq ?_
              refine Cd.region ?_
              refine Ops.mv_bool rfl rfl rfl ?_
              refine Ops.nil ?_
              refine thenQ_n ?_
              refine Cd.ret ?_
              refine blockQ_r ?_
              refine thenQ_r ?_
              refine thenQ_r ?_
              refine blockQ_r ?_
              refine blockQ_r ?_
              refine thenQ_r ?_
              refine thenQ_r ?_
              refine blockQ_r ?_
              refine blockQ_r ?_
              refine thenQ_r ?_
              refine thenQ_r ?_
              refine blockQ_r ?_
              refine thenQ_r ?_
              refine ret1_b rfl ?_
              -- stop: end
              exact ⟨by rw [decide_eq_false (fun h : Mani xss => h9 (h.2.2.2.1 i (by omega) k (by omega) hik f (by omega)).1)], hS6.none⟩
        · refine Cd.exit ?_
          refine thenQ_x ?_
          refine thenQ_x ?_
          refine blockQ_x ?_
          refine blockQ_n ?_
          refine thenQ_n ?_
          refine Cd.region ?_
          refine Ops.add rfl rfl rfl (by omega) ?_
          refine Ops.mv_int rfl rfl rfl ?_
          refine Ops.nil ?_
          refine thenQ_n ?_
          -- stop: round
          refine ⟨j + 1, by omega, ⟨rfl, rfl, rfl, rfl, rfl, rfl, rfl, rfl, trivial⟩, hS5, by omega, fun k' hk' hkn hik' f' hf' => ?_⟩
          by_cases ek : k' = k
          · subst ek; exact hC5 f' (by omega)
          · exact hC4 k' (by omega) hkn hik' f' hf'
      · refine Cd.exit ?_
        refine thenQ_x ?_
        refine thenQ_x ?_
        refine blockQ_x ?_
        refine blockQ_n ?_
        refine thenQ_n ?_
        refine Cd.region ?_
        refine Ops.add rfl rfl rfl (by omega) ?_
        refine Ops.mv_int rfl rfl rfl ?_
        refine Ops.nil ?_
        refine thenQ_n ?_
        -- stop: round
        refine ⟨i + 1, by omega, ⟨rfl, rfl, rfl, rfl, trivial⟩, hS4, by omega, fun i' hi' k' hk' hik' f' hf' => ?_⟩
        by_cases ei : i' = i
        · subst ei; exact hC4 k' (by omega) hk' hik' f' hf'
        · exact hC i' (by omega) k' hk' hik' f' hf'
    · have hB := hS3.rd 0 rfl
      refine Cd.exit ?_
      refine thenQ_x ?_
      refine thenQ_x ?_
      refine blockQ_x ?_
      refine thenQ_n ?_
      refine Cd.seq ?_
      -- stop: draw
      refine Cd.draw [.ex (.int .i64 (((rg rs 0).n : Int))), .ex (.pointer (ptrAt (Ab) 0)), .ex (.slice (A) (n) (c)), .pr (fun v _ => ∃ A', v = .tuple #[.slice A' (gl xss 0).length (gl xss 0).length, .int .i64 (lab (gl xss 0).length xss (gl xss 0).length).2]), .pr (fun v _ => ∃ A', v = .tuple #[.slice A' (gl xss 0).length (gl xss 0).length, .int .i64 (lab (gl xss 0).length xss (gl xss 0).length).2]), .pr (fun v _ => ∃ A', v = .slice A' (gl xss 0).length (gl xss 0).length), .ex (.int .i64 ((lab (gl xss 0).length xss (gl xss 0).length).2)), .pr (fun v _ => ∃ A', v = .slice A' (gl xss 0).length (gl xss 0).length), .ex (.int .i64 ((lab (gl xss 0).length xss (gl xss 0).length).2))] (by kernel_rfl) (by kernel_rfl) rfl (List.forall_mem_cons.2 ⟨Yd.lasts_ex _, (List.forall_mem_cons.2 ⟨Yd.lasts_ex _, (List.forall_mem_cons.2 ⟨Yd.lasts_ex _, (List.forall_mem_cons.2 ⟨Yd.lasts_pr (fun _ _ _ h _ => h), (List.forall_mem_cons.2 ⟨Yd.lasts_pr (fun _ _ _ h _ => h), (List.forall_mem_cons.2 ⟨Yd.lasts_pr (fun _ _ _ h _ => h), (List.forall_mem_cons.2 ⟨Yd.lasts_ex _, (List.forall_mem_cons.2 ⟨Yd.lasts_pr (fun _ _ _ h _ => h), (List.forall_mem_cons.2 ⟨Yd.lasts_ex _, (fun _ h => by cases h)⟩)⟩)⟩)⟩)⟩)⟩)⟩)⟩)⟩) ⟨?_, ?_, ?_, ?_, ?_, ?_, ?_, ?_, ?_, trivial⟩ ?_
      · intro e1 w1 hb hp hun
        refine Ops.call (flags_c _ _ _ _ _ _ _ _ (hB.below hb) rfl (hM.later hb) (by omega)) rfl rfl rfl ?_
        rintro _ w2 ⟨rfl, hst⟩
        subst hst
        refine Ops.nil ?_
        exact After.dn (Below.refl _ _) (by exact rfl)
      · intro e1 w1 hb hp hun
        refine Ops.fld (hB.below hb) rfl rfl rfl rfl inferInstance ?_
        refine Ops.nil ?_
        exact After.dn (Below.refl _ _) (by exact rfl)
      · intro e1 w1 hb hp hun
        refine Ops.ldf_s (hB.below hb) rfl rfl rfl rfl rfl ?_
        refine Ops.nil ?_
        exact After.dn (Below.refl _ _) (by exact rfl)
      · intro e1 w1 hb hp hun
        refine Ops.call (orbitLabels_c A n c rs xss (gl xss 0).length _ (hM.later hb) (by omega) hs hr1.inj (by omega)) rfl (by rw [r0]; rfl) rfl ?_
        rintro _ w2 ⟨A', rfl, hst⟩
        refine Ops.nil ?_
        exact After.dn hst.below ⟨A', rfl⟩
      · intro e1 w1 hb hp hun
        obtain ⟨A', h96⟩ := (hp 3 (by decide) rfl _ _ rfl rfl)
        refine Ops.mv_tup rfl (by exact h96) rfl ?_
        refine Ops.nil ?_
        exact After.dn (Below.refl _ _) ⟨A', rfl⟩
      · intro e1 w1 hb hp hun
        obtain ⟨A', h92⟩ := (hp 4 (by decide) rfl _ _ rfl rfl)
        refine Ops.extract (by exact h92) rfl rfl ?_
        refine Ops.nil ?_
        exact After.dn (Below.refl _ _) ⟨A', rfl⟩
      · intro e1 w1 hb hp hun
        obtain ⟨A', h92⟩ := (hp 4 (by decide) rfl _ _ rfl rfl)
        refine Ops.extract (by exact h92) rfl rfl ?_
        refine Ops.nil ?_
        exact After.dn (Below.refl _ _) (by exact rfl)
      · intro e1 w1 hb hp hun
        obtain ⟨A', h97⟩ := (hp 5 (by decide) rfl _ _ rfl rfl)
        refine Ops.mv_sl rfl (by exact h97) rfl ?_
        refine Ops.nil ?_
        exact After.dn (Below.refl _ _) ⟨A', rfl⟩
      · intro e1 w1 hb hp hun
        refine Ops.mv_int rfl rfl rfl ?_
        refine Ops.nil ?_
        exact After.dn (Below.refl _ _) (by exact rfl)
      intro u w6 hb6 _
      have hS6 := hS3.later hb6
      refine thenQ_n ?_
      refine Cd.seq ?_
      refine Cd.region ?_
      refine Ops.mv_int rfl rfl rfl ?_
      refine Ops.eql rfl rfl rfl ?_
      refine Ops.mv_bool rfl rfl rfl ?_
      refine Ops.nil ?_
      refine thenQ_n ?_
      refine Cd.ret ?_
      refine ret1_b rfl ?_
      -- stop: end
      refine ⟨?_, hS6.none⟩
      congr 1
      have ho := orbit_all hs (by omega)
      have hl := lab_one hs (by omega)
      exact decide_eq_decide.2 ⟨fun h => ⟨by omega, by omega, hr1, fun i' hi' k' hk' hik' f' hf' => hC i' (by omega) k' (by omega) hik' f' hf', ho.2 (hl.1 h)⟩, fun h => hl.2 (ho.1 h.2.2.2.2)⟩
end Go.Proofs.Ytpdhjnacnmfbjaa.Vc
