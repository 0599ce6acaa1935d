/-
  The walks that tell whether moves are a maniplex. Conditions: as each states them.
-/
import Derived.Test.YtpdhjnacnmfbjaaB4
namespace Go.Proofs.Ytpdhjnacnmfbjaa.Vc
open Go.RowKit

def Comm (xss : List (List Int)) (i k f : Nat) : Prop := gi (gl xss k) (gi (gl xss i) f) = gi (gl xss i) (gi (gl xss k) f) ∧ gi (gl xss i) f ≠ gi (gl xss k) f
instance (xss : List (List Int)) (i k f : Nat) : Decidable (Comm xss i k f) := by unfold Comm; exact inferInstance
def Rows1 (xss : List (List Int)) : Prop := ∀ p ∈ xss, p.length = (gl xss 0).length ∧ IsPerm p ∧ IsFree p
instance (xss : List (List Int)) : Decidable (Rows1 xss) := by unfold Rows1; exact inferInstance
def Mani (xss : List (List Int)) : Prop :=
  (1 ≤ xss.length ∧ xss.length ≤ 5) ∧ (2 ≤ (gl xss 0).length ∧ (gl xss 0).length ≤ 400) ∧ Rows1 xss ∧ (∀ i, i < xss.length → ∀ k, k < xss.length → i + 2 ≤ k → ∀ f, f < (gl xss 0).length → Comm xss i k f) ∧ (orbit (gl xss 0).length xss 0).length = (gl xss 0).length
instance (xss : List (List Int)) : Decidable (Mani xss) := by unfold Mani; exact inferInstance

theorem IsPerm.inj {p : List Int} (h : IsPerm p) {x y : Int} (hx : 0 ≤ x) (hx' : x < p.length) (hy : 0 ≤ y) (hy' : y < p.length) (e : gi p x = gi p y) : x = y := by
  obtain ⟨a, rfl⟩ : ∃ a : Nat, x = a := ⟨x.toNat, by omega⟩
  obtain ⟨b, rfl⟩ : ∃ b : Nat, y = b := ⟨y.toNat, by omega⟩
  rw [gi_mem (by omega), gi_mem (by omega)] at e
  have := (List.getElem_inj (h₀ := by omega) (h₁ := by omega) h.2.2).1 e
  omega
theorem Rows1.sys {xss : List (List Int)} (h : Rows1 xss) : Sys (gl xss 0).length xss := fun p hp => by
  have h1 := h p hp
  refine ⟨h1.1, fun x h0 hx => ?_⟩
  have := h1.2.1.range (i := x) h0 (by omega)
  omega
theorem Rows1.inj {xss : List (List Int)} (h : Rows1 xss) : Inj (gl xss 0).length xss := fun p hp x y hx hx' hy hy' e => by
  have h1 := h p hp
  exact h1.2.1.inj hx (by omega) hy (by omega) e

/-- rows told one after another -/
def Part (xss : List (List Int)) (k : Nat) : Prop := ∀ p ∈ xss.take k, p.length = (gl xss 0).length ∧ IsPerm p ∧ IsFree p
theorem Part.step {xss : List (List Int)} {k : Nat} (h : Part xss k) (hk : k < xss.length) (h1 : (gl xss k).length = (gl xss 0).length) (h2 : IsPerm (gl xss k)) (h3 : IsFree (gl xss k)) : Part xss (k + 1) := by
  intro p hp
  rw [take_succ_gl hk, List.mem_append] at hp
  rcases hp with hp | hp
  · exact h p hp
  · simp at hp; subst hp; exact ⟨h1, h2, h3⟩
theorem Part.all {xss : List (List Int)} {k : Nat} (h : Part xss k) (hk : xss.length ≤ k) : Rows1 xss := by
  intro p hp
  refine h p ?_
  rw [List.take_of_length_le hk]; exact hp
theorem Rows1.at_ {xss : List (List Int)} (h : Rows1 xss) {k : Nat} (hk : k < xss.length) : (gl xss k).length = (gl xss 0).length ∧ IsPerm (gl xss k) ∧ IsFree (gl xss k) := h _ (by rw [gl_mem hk]; exact List.getElem_mem _)

theorem l02Is_c (A : Option Addr) (n c : Nat) (rs : List SlV) (xss : List (List Int)) (w : World) (hR : RowsI w A n rs xss) (hn : n ≤ 9223372036854775807) :
    Ret Try.prog 58 [.agg #[.slice A n c]] w (fun v w' => v = .bool (decide (Mani xss)) ∧ St w w' []) := by
  have hxl := hR.len
  have r0 : 0 < n → (gl xss 0).length = (rg rs 0).n := fun h => hR.rowLen (by omega) (by omega)
  refine Ret.of_cd Try.func58 rfl Try.ntmps58 rfl (post1 rfl) ?_
  refine Cd.seq ?_
  refine Cd.region ?_
  -- stop: BOX 32 t0=app -> 1
  refine Ops.box1 (St.refl w) rfl rfl ?_
  intro Ab w1 hS
  refine Ops.mv_bool rfl rfl rfl ?_
  refine Ops.nil ?_
  refine thenQ_n ?_
  refine Cd.seq ?_
  refine Cd.region ?_
  -- stop: FIELDADDR 32 t1=toArray 0 -> 8
  refine Ops.fld (hS.rd 0 rfl) rfl rfl rfl rfl inferInstance ?_
  skip
  -- stop: LOAD 25 t8 -> 9
  refine Ops.ldf_s (hS.rd 0 rfl) rfl rfl rfl rfl rfl ?_
  refine Ops.len rfl rfl ?_
  refine Ops.mv_int rfl rfl rfl ?_
  refine Ops.nil ?_
  refine thenQ_n ?_
  refine Cd.seq ?_
  refine Cd.seq ?_
  refine Cd.region ?_
  refine Ops.mv_int rfl rfl rfl ?_
  refine Ops.lss rfl rfl rfl ?_
  refine Ops.mv_bool rfl rfl rfl ?_
  -- stop: guard 13
  refine Ops.split_p 13 rfl (fun h1 => ?_) (fun h1 => ?_)
  · refine Ops.skipg rfl rfl rfl rfl rfl ?_
    refine Ops.skipg rfl rfl rfl rfl rfl ?_
    refine Ops.pick_t rfl rfl rfl ?_
    refine Ops.mv_bool rfl rfl rfl ?_
    refine Ops.skipg rfl rfl rfl rfl rfl ?_
    refine Ops.skipg rfl rfl rfl rfl rfl ?_
    refine Ops.skipg rfl rfl rfl rfl rfl ?_
    refine Ops.skipg rfl rfl rfl rfl rfl ?_
    refine Ops.skipg rfl rfl rfl rfl rfl ?_
    refine Ops.skipg rfl rfl rfl rfl rfl ?_
    refine Ops.pick_t rfl rfl rfl ?_
    refine Ops.mv_bool rfl rfl rfl ?_
    refine Ops.skipg rfl rfl rfl rfl rfl ?_
    refine Ops.skipg rfl rfl rfl rfl rfl ?_
    refine Ops.skipg rfl rfl rfl rfl rfl ?_
    refine Ops.skipg rfl rfl rfl rfl rfl ?_
    refine Ops.skipg rfl rfl rfl rfl rfl ?_
    refine Ops.skipg rfl rfl rfl rfl rfl ?_
    refine Ops.pick_t rfl rfl rfl ?_
    refine Ops.nil ?_
    refine thenQ_n ?_
    -- stop: cond
    refine Cd.cond_t rfl ?_
    refine Cd.seq ?_
    refine Cd.region ?_
    refine Ops.mv_bool rfl rfl rfl ?_
    refine Ops.nil ?_
    refine thenQ_n ?_
    refine Cd.ret ?_
    refine thenQ_r ?_
    refine ret1_b rfl ?_
    -- stop: end
    exact ⟨by rw [decide_eq_false (fun h : Mani xss => by have := h.1.1; omega)], hS.none⟩
  refine Ops.rung rfl rfl rfl ?_
  refine Ops.mv_int rfl rfl rfl ?_
  refine Ops.rung rfl rfl rfl ?_
  refine Ops.gtr rfl rfl rfl ?_
  refine Ops.pick_f rfl rfl rfl ?_
  refine Ops.mv_bool rfl rfl rfl ?_
  -- stop: guard 17
  refine Ops.split_p 17 rfl (fun h2 => ?_) (fun h2 => ?_)
  · refine Ops.skipg rfl rfl rfl rfl rfl ?_
    refine Ops.skipg rfl rfl rfl rfl rfl ?_
    refine Ops.skipg rfl rfl rfl rfl rfl ?_
    refine Ops.skipg rfl rfl rfl rfl rfl ?_
    refine Ops.skipg rfl rfl rfl rfl rfl ?_
    refine Ops.skipg rfl rfl rfl rfl rfl ?_
    refine Ops.pick_t rfl rfl rfl ?_
    refine Ops.mv_bool rfl rfl rfl ?_
    refine Ops.skipg rfl rfl rfl rfl rfl ?_
    refine Ops.skipg rfl rfl rfl rfl rfl ?_
    refine Ops.skipg rfl rfl rfl rfl rfl ?_
    refine Ops.skipg rfl rfl rfl rfl rfl ?_
    refine Ops.skipg rfl rfl rfl rfl rfl ?_
    refine Ops.skipg rfl rfl rfl rfl rfl ?_
    refine Ops.pick_t rfl rfl rfl ?_
    refine Ops.nil ?_
    refine thenQ_n ?_
    -- stop: cond
    refine Cd.cond_t rfl ?_
    refine Cd.seq ?_
    refine Cd.region ?_
    refine Ops.mv_bool rfl rfl rfl ?_
    refine Ops.nil ?_
    refine thenQ_n ?_
    refine Cd.ret ?_
    refine thenQ_r ?_
    refine ret1_b rfl ?_
    -- stop: end
    exact ⟨by rw [decide_eq_false (fun h : Mani xss => by have := h.1.2; omega)], hS.none⟩
  have hM := hS.oldRows hR
  have r0 := r0 (by omega)
  refine Ops.rung rfl rfl rfl ?_
  -- stop: FIELDADDR 32 t1=toArray 0 -> 18
  refine Ops.fld (hS.rd 0 rfl) rfl rfl rfl rfl inferInstance ?_
  refine Ops.rung rfl rfl rfl ?_
  -- stop: LOAD 25 t18 -> 19
  refine Ops.ldf_s (hS.rd 0 rfl) rfl rfl rfl rfl rfl ?_
  refine Ops.rung rfl rfl rfl ?_
  -- stop: INDEXADDR 25 t19 0 -> 20
  refine Ops.idx hM.top.2 rfl rfl rfl (by omega) (by omega) ?_
  refine Ops.rung rfl rfl rfl ?_
  -- stop: LOAD 39 t20 -> 21
  refine Ops.ld_sl hM.top rfl (by omega) rfl rfl ?_
  refine Ops.rung rfl rfl rfl ?_
  refine Ops.len rfl rfl ?_
  refine Ops.rung rfl rfl rfl ?_
  refine Ops.lss rfl rfl rfl ?_
  refine Ops.pick_f rfl rfl rfl ?_
  refine Ops.mv_bool rfl rfl rfl ?_
  -- stop: guard 25
  refine Ops.split_p 25 rfl (fun h3 => ?_) (fun h3 => ?_)
  · refine Ops.skipg rfl rfl rfl rfl rfl ?_
    refine Ops.skipg rfl rfl rfl rfl rfl ?_
    refine Ops.skipg rfl rfl rfl rfl rfl ?_
    refine Ops.skipg rfl rfl rfl rfl rfl ?_
    refine Ops.skipg rfl rfl rfl rfl rfl ?_
    refine Ops.skipg rfl rfl rfl rfl rfl ?_
    refine Ops.pick_t rfl rfl rfl ?_
    refine Ops.nil ?_
    refine thenQ_n ?_
    -- stop: cond
    refine Cd.cond_t rfl ?_
    refine Cd.seq ?_
    refine Cd.region ?_
    refine Ops.mv_bool rfl rfl rfl ?_
    refine Ops.nil ?_
    refine thenQ_n ?_
    refine Cd.ret ?_
    refine thenQ_r ?_
    refine ret1_b rfl ?_
    -- stop: end
    exact ⟨by rw [decide_eq_false (fun h : Mani xss => by have := h.2.1.1; omega)], hS.none⟩
  refine Ops.rung rfl rfl rfl ?_
  -- stop: FIELDADDR 32 t1=toArray 0 -> 26
  refine Ops.fld (hS.rd 0 rfl) rfl rfl rfl rfl inferInstance ?_
  refine Ops.rung rfl rfl rfl ?_
  -- stop: LOAD 25 t26 -> 27
  refine Ops.ldf_s (hS.rd 0 rfl) rfl rfl rfl rfl rfl ?_
  refine Ops.rung rfl rfl rfl ?_
  -- stop: INDEXADDR 25 t27 0 -> 28
  refine Ops.idx hM.top.2 rfl rfl rfl (by omega) (by omega) ?_
  refine Ops.rung rfl rfl rfl ?_
  -- stop: LOAD 39 t28 -> 29
  refine Ops.ld_sl hM.top rfl (by omega) rfl rfl ?_
  refine Ops.rung rfl rfl rfl ?_
  refine Ops.len rfl rfl ?_
  refine Ops.rung rfl rfl rfl ?_
  refine Ops.gtr rfl rfl rfl ?_
  refine Ops.pick_f rfl rfl rfl ?_
  refine Ops.nil ?_
  refine thenQ_n ?_
  -- stop: cond
  refine Cd.cond_p _ rfl (fun h4 => ?_) (fun h4 => ?_)
  · refine Cd.seq ?_
    refine Cd.region ?_
    refine Ops.mv_bool rfl rfl rfl ?_
    refine Ops.nil ?_
    refine thenQ_n ?_
    refine Cd.ret ?_
    refine thenQ_r ?_
    refine ret1_b rfl ?_
    -- stop: end
    exact ⟨by rw [decide_eq_false (fun h : Mani xss => by have := h.2.1.2; omega)], hS.none⟩
  refine Cd.skip ?_
  refine thenQ_n ?_
  refine Cd.seq ?_
  refine Cd.seq ?_
  refine Cd.region ?_
  refine Ops.mv_int rfl rfl rfl ?_
  refine Ops.nil ?_
  refine thenQ_n ?_
  refine Cd.block ?_
  -- stop: loop
  refine Cd.loop (α := Nat) (fun k => [(1, .pointer Ab), (3, .int .i64 (n : Int)), (4, .int .i64 (k : Int))]) (fun k w' => St w w' [Bx 32 1 Ab [.slice A n c]] ∧ k ≤ n ∧ Part xss k) (fun k => n - k) 0 ⟨rfl, rfl, rfl, trivial⟩ ⟨hS, Nat.zero_le _, fun p hp => by simp at hp⟩ ?_
  rintro k e w2 ⟨hS2, hk, hP⟩
  have hM := hS2.oldRows hR
  have hB := hS2.rd 0 rfl
  refine Cd.seq ?_
  refine Cd.seq ?_
  refine Cd.region ?_
  refine Ops.mv_int rfl rfl rfl ?_
  refine Ops.mv_int rfl rfl rfl ?_
  refine Ops.lss rfl rfl rfl ?_
  refine Ops.nil ?_
  refine thenQ_n ?_
  -- stop: cond
  refine Cd.cond_p _ rfl (fun h5 => ?_) (fun h5 => ?_)
  · have hkx : k < xss.length := by omega
    have rk := hR.rowLen (k := (k : Int)) (by omega) (by omega)
    have hrow := hM.at_ (i := k) (by omega) h5
    refine Cd.skip ?_
    refine thenQ_n ?_
    refine Cd.seq ?_
    refine Cd.block ?_
    refine Cd.seq ?_
    -- stop: draw
    by_cases h6 : ((rg rs k).n : Int) = (rg rs 0).n
    · by_cases h7 : IsPerm (gl xss k)
      · by_cases h8 : IsFree (gl xss k)
        · --dup 4
          refine Cd.draw [.ex (.pointer (ptrAt (Ab) 0)), .ex (.slice (A) (n) (c)), .ex (.int .i64 ((k : Int))), .ex (.pointer (ptrAt (A) ((k : Int)).toNat)), .ex (.slice ((rg (rs) ((k : Int))).a) ((rg (rs) ((k : Int))).n) ((rg (rs) ((k : Int))).c)), .ex (.int .i64 ((((rg (rs) ((k : Int))).n : Nat) : Int))), .ex (.pointer (ptrAt (Ab) 0)), .ex (.slice (A) (n) (c)), .ex (.pointer (ptrAt (A) ((0 : Int)).toNat)), .ex (.slice ((rg (rs) ((0 : Int))).a) ((rg (rs) ((0 : Int))).n) ((rg (rs) ((0 : Int))).c)), .ex (.int .i64 ((((rg (rs) ((0 : Int))).n : Nat) : Int))), .ex (.bool (false)), .ex (.bool (false)), .ex (.pointer (ptrAt (Ab) 0)), .ex (.slice (A) (n) (c)), .ex (.int .i64 ((k : Int))), .ex (.pointer (ptrAt (A) ((k : Int)).toNat)), .ex (.slice ((rg (rs) ((k : Int))).a) ((rg (rs) ((k : Int))).n) ((rg (rs) ((k : Int))).c)), .ex (.bool (decide (IsPerm (gl xss k)))), .ex (.bool (false)), .ex (.bool (false)), .ex (.bool (false)), .ex (.pointer (ptrAt (Ab) 0)), .ex (.slice (A) (n) (c)), .ex (.int .i64 ((k : Int))), .ex (.pointer (ptrAt (A) ((k : Int)).toNat)), .ex (.slice ((rg (rs) ((k : Int))).a) ((rg (rs) ((k : Int))).n) ((rg (rs) ((k : Int))).c)), .ex (.bool (decide (IsFree (gl xss k)))), .ex (.bool (false)), .ex (.bool (false))] (by kernel_rfl) (by kernel_rfl) rfl (List.forall_mem_cons.2 ⟨Yd.lasts_ex _, (List.forall_mem_cons.2 ⟨Yd.lasts_ex _, (List.forall_mem_cons.2 ⟨Yd.lasts_ex _, (List.forall_mem_cons.2 ⟨Yd.lasts_ex _, (List.forall_mem_cons.2 ⟨Yd.lasts_ex _, (List.forall_mem_cons.2 ⟨Yd.lasts_ex _, (List.forall_mem_cons.2 ⟨Yd.lasts_ex _, (List.forall_mem_cons.2 ⟨Yd.lasts_ex _, (List.forall_mem_cons.2 ⟨Yd.lasts_ex _, (List.forall_mem_cons.2 ⟨Yd.lasts_ex _, (List.forall_mem_cons.2 ⟨Yd.lasts_ex _, (List.forall_mem_cons.2 ⟨Yd.lasts_ex _, (List.forall_mem_cons.2 ⟨Yd.lasts_ex _, (List.forall_mem_cons.2 ⟨Yd.lasts_ex _, (List.forall_mem_cons.2 ⟨Yd.lasts_ex _, (List.forall_mem_cons.2 ⟨Yd.lasts_ex _, (List.forall_mem_cons.2 ⟨Yd.lasts_ex _, (List.forall_mem_cons.2 ⟨Yd.lasts_ex _, (List.forall_mem_cons.2 ⟨Yd.lasts_ex _, (List.forall_mem_cons.2 ⟨Yd.lasts_ex _, (List.forall_mem_cons.2 ⟨Yd.lasts_ex _, (List.forall_mem_cons.2 ⟨Yd.lasts_ex _, (List.forall_mem_cons.2 ⟨Yd.lasts_ex _, (List.forall_mem_cons.2 ⟨Yd.lasts_ex _, (List.forall_mem_cons.2 ⟨Yd.lasts_ex _, (List.forall_mem_cons.2 ⟨Yd.lasts_ex _, (List.forall_mem_cons.2 ⟨Yd.lasts_ex _, (List.forall_mem_cons.2 ⟨Yd.lasts_ex _, (List.forall_mem_cons.2 ⟨Yd.lasts_ex _, (List.forall_mem_cons.2 ⟨Yd.lasts_ex _, (fun _ h => by cases h)⟩)⟩)⟩)⟩)⟩)⟩)⟩)⟩)⟩)⟩)⟩)⟩)⟩)⟩)⟩)⟩)⟩)⟩)⟩)⟩)⟩)⟩)⟩)⟩)⟩)⟩)⟩)⟩)⟩)⟩) ⟨?_, ?_, ?_, ?_, ?_, ?_, ?_, ?_, ?_, ?_, ?_, ?_, ?_, ?_, ?_, ?_, ?_, ?_, ?_, ?_, ?_, ?_, ?_, ?_, ?_, ?_, ?_, ?_, ?_, ?_, trivial⟩ ?_
          · intro e1 w1 hb hp hun
            refine Ops.fld (hB.below hb) rfl rfl rfl rfl inferInstance ?_
            refine Ops.nil ?_
            exact After.dn (Below.refl _ _) (by exact rfl)
          · intro e1 w1 hb hp hun
            refine Ops.ldf_s (hB.below hb) rfl rfl rfl rfl rfl ?_
            refine Ops.nil ?_
            exact After.dn (Below.refl _ _) (by exact rfl)
          · intro e1 w1 hb hp hun
            refine Ops.mv_int rfl rfl rfl ?_
            refine Ops.nil ?_
            exact After.dn (Below.refl _ _) (by exact rfl)
          · intro e1 w1 hb hp hun
            refine Ops.idx (hM.top.later hb).2 rfl rfl rfl (by omega) (by omega) ?_
            refine Ops.nil ?_
            exact After.dn (Below.refl _ _) (by exact rfl)
          · intro e1 w1 hb hp hun
            refine Ops.ld_sl (hM.top.later hb) rfl (by omega) rfl rfl ?_
            refine Ops.nil ?_
            exact After.dn (Below.refl _ _) (by exact rfl)
          · intro e1 w1 hb hp hun
            refine Ops.len rfl rfl ?_
            refine Ops.nil ?_
            exact After.dn (Below.refl _ _) (by exact rfl)
          · intro e1 w1 hb hp hun
            refine Ops.fld (hB.below hb) rfl rfl rfl rfl inferInstance ?_
            refine Ops.nil ?_
            exact After.dn (Below.refl _ _) (by exact rfl)
          · intro e1 w1 hb hp hun
            refine Ops.ldf_s (hB.below hb) rfl rfl rfl rfl rfl ?_
            refine Ops.nil ?_
            exact After.dn (Below.refl _ _) (by exact rfl)
          · intro e1 w1 hb hp hun
            refine Ops.idx (hM.top.later hb).2 rfl rfl rfl (by omega) (by omega) ?_
            refine Ops.nil ?_
            exact After.dn (Below.refl _ _) (by exact rfl)
          · intro e1 w1 hb hp hun
            refine Ops.ld_sl (hM.top.later hb) rfl (by omega) rfl rfl ?_
            refine Ops.nil ?_
            exact After.dn (Below.refl _ _) (by exact rfl)
          · intro e1 w1 hb hp hun
            refine Ops.len rfl rfl ?_
            refine Ops.nil ?_
            exact After.dn (Below.refl _ _) (by exact rfl)
          · intro e1 w1 hb hp hun
            refine Ops.neq rfl rfl rfl ?_
            refine Ops.nil ?_
            exact After.dn (Below.refl _ _) (by exact congrArg Value.bool (decide_eq_false (by omega)))
          · intro e1 w1 hb hp hun
            refine Ops.mv_bool rfl rfl rfl ?_
            refine Ops.nil ?_
            exact After.dn (Below.refl _ _) (by exact rfl)
          · intro e1 w1 hb hp hun
            refine Ops.rung rfl rfl rfl ?_
            refine Ops.fld (hB.below hb) rfl rfl rfl rfl inferInstance ?_
            refine Ops.nil ?_
            exact After.dn (Below.refl _ _) (by exact rfl)
          · intro e1 w1 hb hp hun
            refine Ops.rung rfl rfl rfl ?_
            refine Ops.ldf_s (hB.below hb) rfl rfl rfl rfl rfl ?_
            refine Ops.nil ?_
            exact After.dn (Below.refl _ _) (by exact rfl)
          · intro e1 w1 hb hp hun
            refine Ops.rung rfl rfl rfl ?_
            refine Ops.mv_int rfl rfl rfl ?_
            refine Ops.nil ?_
            exact After.dn (Below.refl _ _) (by exact rfl)
          · intro e1 w1 hb hp hun
            refine Ops.rung rfl rfl rfl ?_
            refine Ops.idx (hM.top.later hb).2 rfl rfl rfl (by omega) (by omega) ?_
            refine Ops.nil ?_
            exact After.dn (Below.refl _ _) (by exact rfl)
          · intro e1 w1 hb hp hun
            refine Ops.rung rfl rfl rfl ?_
            refine Ops.ld_sl (hM.top.later hb) rfl (by omega) rfl rfl ?_
            refine Ops.nil ?_
            exact After.dn (Below.refl _ _) (by exact rfl)
          · intro e1 w1 hb hp hun
            refine Ops.rung rfl rfl rfl ?_
            refine Ops.call (l01Perm_c _ _ _ _ _ (hrow.later hb)) rfl rfl rfl ?_
            rintro _ w2 ⟨rfl, hst⟩
            refine Ops.nil ?_
            exact After.dn hst.below (by exact rfl)
          · intro e1 w1 hb hp hun
            refine Ops.rung rfl rfl rfl ?_
            refine Ops.not_p rfl rfl ?_
            refine Ops.nil ?_
            exact After.dn (Below.refl _ _) (by exact congrArg Value.bool (decide_eq_false (fun h => h h7)))
          · intro e1 w1 hb hp hun
            refine Ops.pick_f rfl rfl rfl ?_
            refine Ops.nil ?_
            exact After.dn (Below.refl _ _) (by exact rfl)
          · intro e1 w1 hb hp hun
            refine Ops.mv_bool rfl rfl rfl ?_
            refine Ops.nil ?_
            exact After.dn (Below.refl _ _) (by exact rfl)
          · intro e1 w1 hb hp hun
            refine Ops.rung rfl rfl rfl ?_
            refine Ops.fld (hB.below hb) rfl rfl rfl rfl inferInstance ?_
            refine Ops.nil ?_
            exact After.dn (Below.refl _ _) (by exact rfl)
          · intro e1 w1 hb hp hun
            refine Ops.rung rfl rfl rfl ?_
            refine Ops.ldf_s (hB.below hb) rfl rfl rfl rfl rfl ?_
            refine Ops.nil ?_
            exact After.dn (Below.refl _ _) (by exact rfl)
          · intro e1 w1 hb hp hun
            refine Ops.rung rfl rfl rfl ?_
            refine Ops.mv_int rfl rfl rfl ?_
            refine Ops.nil ?_
            exact After.dn (Below.refl _ _) (by exact rfl)
          · intro e1 w1 hb hp hun
            refine Ops.rung rfl rfl rfl ?_
            refine Ops.idx (hM.top.later hb).2 rfl rfl rfl (by omega) (by omega) ?_
            refine Ops.nil ?_
            exact After.dn (Below.refl _ _) (by exact rfl)
          · intro e1 w1 hb hp hun
            refine Ops.rung rfl rfl rfl ?_
            refine Ops.ld_sl (hM.top.later hb) rfl (by omega) rfl rfl ?_
            refine Ops.nil ?_
            exact After.dn (Below.refl _ _) (by exact rfl)
          · intro e1 w1 hb hp hun
            refine Ops.rung rfl rfl rfl ?_
            refine Ops.call (l01Free_c _ _ _ _ _ (hrow.later hb) h7) rfl rfl rfl ?_
            rintro _ w2 ⟨rfl, hst⟩
            subst hst
            refine Ops.nil ?_
            exact After.dn (Below.refl _ _) (by exact rfl)
          · intro e1 w1 hb hp hun
            refine Ops.rung rfl rfl rfl ?_
            refine Ops.not_p rfl rfl ?_
            refine Ops.nil ?_
            exact After.dn (Below.refl _ _) (by exact congrArg Value.bool (decide_eq_false (fun h => h h8)))
          · intro e1 w1 hb hp hun
            refine Ops.pick_f rfl rfl rfl ?_
            refine Ops.nil ?_
            exact After.dn (Below.refl _ _) (by exact rfl)
          intro u w3 hb3 _
          have hS3 := hS2.later hb3
          refine thenQ_n ?_
          -- stop: cond
          refine Cd.cond_f rfl ?_
          refine Cd.skip ?_
          refine blockQ_n ?_
          refine thenQ_n ?_
          refine Cd.region ?_
          refine Ops.mv_int rfl rfl rfl ?_
          refine Ops.add rfl rfl rfl (by omega) ?_
          refine Ops.mv_int rfl rfl rfl ?_
          refine Ops.nil ?_
          refine thenQ_n ?_
          -- stop: round
          exact ⟨k + 1, by omega, ⟨rfl, rfl, rfl, trivial⟩, hS3, by omega, hP.step hkx (by omega) h7 h8⟩
        · refine Cd.draw [.ex (.pointer (ptrAt (Ab) 0)), .ex (.slice (A) (n) (c)), .ex (.int .i64 ((k : Int))), .ex (.pointer (ptrAt (A) ((k : Int)).toNat)), .ex (.slice ((rg (rs) ((k : Int))).a) ((rg (rs) ((k : Int))).n) ((rg (rs) ((k : Int))).c)), .ex (.int .i64 ((((rg (rs) ((k : Int))).n : Nat) : Int))), .ex (.pointer (ptrAt (Ab) 0)), .ex (.slice (A) (n) (c)), .ex (.pointer (ptrAt (A) ((0 : Int)).toNat)), .ex (.slice ((rg (rs) ((0 : Int))).a) ((rg (rs) ((0 : Int))).n) ((rg (rs) ((0 : Int))).c)), .ex (.int .i64 ((((rg (rs) ((0 : Int))).n : Nat) : Int))), .ex (.bool (false)), .ex (.bool (false)), .ex (.pointer (ptrAt (Ab) 0)), .ex (.slice (A) (n) (c)), .ex (.int .i64 ((k : Int))), .ex (.pointer (ptrAt (A) ((k : Int)).toNat)), .ex (.slice ((rg (rs) ((k : Int))).a) ((rg (rs) ((k : Int))).n) ((rg (rs) ((k : Int))).c)), .ex (.bool (decide (IsPerm (gl xss k)))), .ex (.bool (false)), .ex (.bool (false)), .ex (.bool (false)), .ex (.pointer (ptrAt (Ab) 0)), .ex (.slice (A) (n) (c)), .ex (.int .i64 ((k : Int))), .ex (.pointer (ptrAt (A) ((k : Int)).toNat)), .ex (.slice ((rg (rs) ((k : Int))).a) ((rg (rs) ((k : Int))).n) ((rg (rs) ((k : Int))).c)), .ex (.bool (decide (IsFree (gl xss k)))), .ex (.bool (true)), .ex (.bool (true))] (by kernel_rfl) (by kernel_rfl) rfl (List.forall_mem_cons.2 ⟨Yd.lasts_ex _, (List.forall_mem_cons.2 ⟨Yd.lasts_ex _, (List.forall_mem_cons.2 ⟨Yd.lasts_ex _, (List.forall_mem_cons.2 ⟨Yd.lasts_ex _, (List.forall_mem_cons.2 ⟨Yd.lasts_ex _, (List.forall_mem_cons.2 ⟨Yd.lasts_ex _, (List.forall_mem_cons.2 ⟨Yd.lasts_ex _, (List.forall_mem_cons.2 ⟨Yd.lasts_ex _, (List.forall_mem_cons.2 ⟨Yd.lasts_ex _, (List.forall_mem_cons.2 ⟨Yd.lasts_ex _, (List.forall_mem_cons.2 ⟨Yd.lasts_ex _, (List.forall_mem_cons.2 ⟨Yd.lasts_ex _, (List.forall_mem_cons.2 ⟨Yd.lasts_ex _, (List.forall_mem_cons.2 ⟨Yd.lasts_ex _, (List.forall_mem_cons.2 ⟨Yd.lasts_ex _, (List.forall_mem_cons.2 ⟨Yd.lasts_ex _, (List.forall_mem_cons.2 ⟨Yd.lasts_ex _, (List.forall_mem_cons.2 ⟨Yd.lasts_ex _, (List.forall_mem_cons.2 ⟨Yd.lasts_ex _, (List.forall_mem_cons.2 ⟨Yd.lasts_ex _, (List.forall_mem_cons.2 ⟨Yd.lasts_ex _, (List.forall_mem_cons.2 ⟨Yd.lasts_ex _, (List.forall_mem_cons.2 ⟨Yd.lasts_ex _, (List.forall_mem_cons.2 ⟨Yd.lasts_ex _, (List.forall_mem_cons.2 ⟨Yd.lasts_ex _, (List.forall_mem_cons.2 ⟨Yd.lasts_ex _, (List.forall_mem_cons.2 ⟨Yd.lasts_ex _, (List.forall_mem_cons.2 ⟨Yd.lasts_ex _, (List.forall_mem_cons.2 ⟨Yd.lasts_ex _, (List.forall_mem_cons.2 ⟨Yd.lasts_ex _, (fun _ h => by cases h)⟩)⟩)⟩)⟩)⟩)⟩)⟩)⟩)⟩)⟩)⟩)⟩)⟩)⟩)⟩)⟩)⟩)⟩)⟩)⟩)⟩)⟩)⟩)⟩)⟩)⟩)⟩)⟩)⟩)⟩) ⟨?_, ?_, ?_, ?_, ?_, ?_, ?_, ?_, ?_, ?_, ?_, ?_, ?_, ?_, ?_, ?_, ?_, ?_, ?_, ?_, ?_, ?_, ?_, ?_, ?_, ?_, ?_, ?_, ?_, ?_, trivial⟩ ?_
          · intro e1 w1 hb hp hun
            refine Ops.fld (hB.below hb) rfl rfl rfl rfl inferInstance ?_
            refine Ops.nil ?_
            exact After.dn (Below.refl _ _) (by exact rfl)
          · intro e1 w1 hb hp hun
            refine Ops.ldf_s (hB.below hb) rfl rfl rfl rfl rfl ?_
            refine Ops.nil ?_
            exact After.dn (Below.refl _ _) (by exact rfl)
          · intro e1 w1 hb hp hun
            refine Ops.mv_int rfl rfl rfl ?_
            refine Ops.nil ?_
            exact After.dn (Below.refl _ _) (by exact rfl)
          · intro e1 w1 hb hp hun
            refine Ops.idx (hM.top.later hb).2 rfl rfl rfl (by omega) (by omega) ?_
            refine Ops.nil ?_
            exact After.dn (Below.refl _ _) (by exact rfl)
          · intro e1 w1 hb hp hun
            refine Ops.ld_sl (hM.top.later hb) rfl (by omega) rfl rfl ?_
            refine Ops.nil ?_
            exact After.dn (Below.refl _ _) (by exact rfl)
          · intro e1 w1 hb hp hun
            refine Ops.len rfl rfl ?_
            refine Ops.nil ?_
            exact After.dn (Below.refl _ _) (by exact rfl)
          · intro e1 w1 hb hp hun
            refine Ops.fld (hB.below hb) rfl rfl rfl rfl inferInstance ?_
            refine Ops.nil ?_
            exact After.dn (Below.refl _ _) (by exact rfl)
          · intro e1 w1 hb hp hun
            refine Ops.ldf_s (hB.below hb) rfl rfl rfl rfl rfl ?_
            refine Ops.nil ?_
            exact After.dn (Below.refl _ _) (by exact rfl)
          · intro e1 w1 hb hp hun
            refine Ops.idx (hM.top.later hb).2 rfl rfl rfl (by omega) (by omega) ?_
            refine Ops.nil ?_
            exact After.dn (Below.refl _ _) (by exact rfl)
          · intro e1 w1 hb hp hun
            refine Ops.ld_sl (hM.top.later hb) rfl (by omega) rfl rfl ?_
            refine Ops.nil ?_
            exact After.dn (Below.refl _ _) (by exact rfl)
          · intro e1 w1 hb hp hun
            refine Ops.len rfl rfl ?_
            refine Ops.nil ?_
            exact After.dn (Below.refl _ _) (by exact rfl)
          · intro e1 w1 hb hp hun
            refine Ops.neq rfl rfl rfl ?_
            refine Ops.nil ?_
            exact After.dn (Below.refl _ _) (by exact congrArg Value.bool (decide_eq_false (by omega)))
          · intro e1 w1 hb hp hun
            refine Ops.mv_bool rfl rfl rfl ?_
            refine Ops.nil ?_
            exact After.dn (Below.refl _ _) (by exact rfl)
          · intro e1 w1 hb hp hun
            refine Ops.rung rfl rfl rfl ?_
            refine Ops.fld (hB.below hb) rfl rfl rfl rfl inferInstance ?_
            refine Ops.nil ?_
            exact After.dn (Below.refl _ _) (by exact rfl)
          · intro e1 w1 hb hp hun
            refine Ops.rung rfl rfl rfl ?_
            refine Ops.ldf_s (hB.below hb) rfl rfl rfl rfl rfl ?_
            refine Ops.nil ?_
            exact After.dn (Below.refl _ _) (by exact rfl)
          · intro e1 w1 hb hp hun
            refine Ops.rung rfl rfl rfl ?_
            refine Ops.mv_int rfl rfl rfl ?_
            refine Ops.nil ?_
            exact After.dn (Below.refl _ _) (by exact rfl)
          · intro e1 w1 hb hp hun
            refine Ops.rung rfl rfl rfl ?_
            refine Ops.idx (hM.top.later hb).2 rfl rfl rfl (by omega) (by omega) ?_
            refine Ops.nil ?_
            exact After.dn (Below.refl _ _) (by exact rfl)
          · intro e1 w1 hb hp hun
            refine Ops.rung rfl rfl rfl ?_
            refine Ops.ld_sl (hM.top.later hb) rfl (by omega) rfl rfl ?_
            refine Ops.nil ?_
            exact After.dn (Below.refl _ _) (by exact rfl)
          · intro e1 w1 hb hp hun
            refine Ops.rung rfl rfl rfl ?_
            refine Ops.call (l01Perm_c _ _ _ _ _ (hrow.later hb)) rfl rfl rfl ?_
            rintro _ w2 ⟨rfl, hst⟩
            refine Ops.nil ?_
            exact After.dn hst.below (by exact rfl)
          · intro e1 w1 hb hp hun
            refine Ops.rung rfl rfl rfl ?_
            refine Ops.not_p rfl rfl ?_
            refine Ops.nil ?_
            exact After.dn (Below.refl _ _) (by exact congrArg Value.bool (decide_eq_false (fun h => h h7)))
          · intro e1 w1 hb hp hun
            refine Ops.pick_f rfl rfl rfl ?_
            refine Ops.nil ?_
            exact After.dn (Below.refl _ _) (by exact rfl)
          · intro e1 w1 hb hp hun
            refine Ops.mv_bool rfl rfl rfl ?_
            refine Ops.nil ?_
            exact After.dn (Below.refl _ _) (by exact rfl)
          · intro e1 w1 hb hp hun
            refine Ops.rung rfl rfl rfl ?_
            refine Ops.fld (hB.below hb) rfl rfl rfl rfl inferInstance ?_
            refine Ops.nil ?_
            exact After.dn (Below.refl _ _) (by exact rfl)
          · intro e1 w1 hb hp hun
            refine Ops.rung rfl rfl rfl ?_
            refine Ops.ldf_s (hB.below hb) rfl rfl rfl rfl rfl ?_
            refine Ops.nil ?_
            exact After.dn (Below.refl _ _) (by exact rfl)
          · intro e1 w1 hb hp hun
            refine Ops.rung rfl rfl rfl ?_
            refine Ops.mv_int rfl rfl rfl ?_
            refine Ops.nil ?_
            exact After.dn (Below.refl _ _) (by exact rfl)
          · intro e1 w1 hb hp hun
            refine Ops.rung rfl rfl rfl ?_
            refine Ops.idx (hM.top.later hb).2 rfl rfl rfl (by omega) (by omega) ?_
            refine Ops.nil ?_
            exact After.dn (Below.refl _ _) (by exact rfl)
          · intro e1 w1 hb hp hun
            refine Ops.rung rfl rfl rfl ?_
            refine Ops.ld_sl (hM.top.later hb) rfl (by omega) rfl rfl ?_
            refine Ops.nil ?_
            exact After.dn (Below.refl _ _) (by exact rfl)
          · intro e1 w1 hb hp hun
            refine Ops.rung rfl rfl rfl ?_
            refine Ops.call (l01Free_c _ _ _ _ _ (hrow.later hb) h7) rfl rfl rfl ?_
            rintro _ w2 ⟨rfl, hst⟩
            subst hst
            refine Ops.nil ?_
            exact After.dn (Below.refl _ _) (by exact rfl)
          · intro e1 w1 hb hp hun
            refine Ops.rung rfl rfl rfl ?_
            refine Ops.not_p rfl rfl ?_
            refine Ops.nil ?_
            exact After.dn (Below.refl _ _) (by exact congrArg Value.bool (decide_eq_true h8))
          · intro e1 w1 hb hp hun
            refine Ops.pick_f rfl rfl rfl ?_
            refine Ops.nil ?_
            exact After.dn (Below.refl _ _) (by exact rfl)
          intro u w3 hb3 _
          have hS3 := hS2.later hb3
          refine thenQ_n ?_
          -- stop: cond
          refine Cd.cond_t rfl ?_
          refine Cd.seq ?_
          refine Cd.region ?_
          refine Ops.mv_bool rfl rfl rfl ?_
          refine Ops.nil ?_
          refine thenQ_n ?_
          refine Cd.ret ?_
          refine blockQ_r ?_
          refine thenQ_r ?_
          refine thenQ_r ?_
          refine blockQ_r ?_
          refine thenQ_r ?_
          refine ret1_b rfl ?_
          -- stop: end
          exact ⟨by rw [decide_eq_false (fun h : Mani xss => h8 (h.2.2.1.at_ hkx).2.2)], hS3.none⟩
      · refine Cd.draw [.ex (.pointer (ptrAt (Ab) 0)), .ex (.slice (A) (n) (c)), .ex (.int .i64 ((k : Int))), .ex (.pointer (ptrAt (A) ((k : Int)).toNat)), .ex (.slice ((rg (rs) ((k : Int))).a) ((rg (rs) ((k : Int))).n) ((rg (rs) ((k : Int))).c)), .ex (.int .i64 ((((rg (rs) ((k : Int))).n : Nat) : Int))), .ex (.pointer (ptrAt (Ab) 0)), .ex (.slice (A) (n) (c)), .ex (.pointer (ptrAt (A) ((0 : Int)).toNat)), .ex (.slice ((rg (rs) ((0 : Int))).a) ((rg (rs) ((0 : Int))).n) ((rg (rs) ((0 : Int))).c)), .ex (.int .i64 ((((rg (rs) ((0 : Int))).n : Nat) : Int))), .ex (.bool (false)), .ex (.bool (false)), .ex (.pointer (ptrAt (Ab) 0)), .ex (.slice (A) (n) (c)), .ex (.int .i64 ((k : Int))), .ex (.pointer (ptrAt (A) ((k : Int)).toNat)), .ex (.slice ((rg (rs) ((k : Int))).a) ((rg (rs) ((k : Int))).n) ((rg (rs) ((k : Int))).c)), .ex (.bool (decide (IsPerm (gl xss k)))), .ex (.bool (true)), .ex (.bool (true)), .ex (.bool (true)), .ex (undef), .ex (undef), .ex (undef), .ex (undef), .ex (undef), .ex (undef), .ex (undef), .ex (.bool (true))] (by kernel_rfl) (by kernel_rfl) rfl (List.forall_mem_cons.2 ⟨Yd.lasts_ex _, (List.forall_mem_cons.2 ⟨Yd.lasts_ex _, (List.forall_mem_cons.2 ⟨Yd.lasts_ex _, (List.forall_mem_cons.2 ⟨Yd.lasts_ex _, (List.forall_mem_cons.2 ⟨Yd.lasts_ex _, (List.forall_mem_cons.2 ⟨Yd.lasts_ex _, (List.forall_mem_cons.2 ⟨Yd.lasts_ex _, (List.forall_mem_cons.2 ⟨Yd.lasts_ex _, (List.forall_mem_cons.2 ⟨Yd.lasts_ex _, (List.forall_mem_cons.2 ⟨Yd.lasts_ex _, (List.forall_mem_cons.2 ⟨Yd.lasts_ex _, (List.forall_mem_cons.2 ⟨Yd.lasts_ex _, (List.forall_mem_cons.2 ⟨Yd.lasts_ex _, (List.forall_mem_cons.2 ⟨Yd.lasts_ex _, (List.forall_mem_cons.2 ⟨Yd.lasts_ex _, (List.forall_mem_cons.2 ⟨Yd.lasts_ex _, (List.forall_mem_cons.2 ⟨Yd.lasts_ex _, (List.forall_mem_cons.2 ⟨Yd.lasts_ex _, (List.forall_mem_cons.2 ⟨Yd.lasts_ex _, (List.forall_mem_cons.2 ⟨Yd.lasts_ex _, (List.forall_mem_cons.2 ⟨Yd.lasts_ex _, (List.forall_mem_cons.2 ⟨Yd.lasts_ex _, (List.forall_mem_cons.2 ⟨Yd.lasts_ex _, (List.forall_mem_cons.2 ⟨Yd.lasts_ex _, (List.forall_mem_cons.2 ⟨Yd.lasts_ex _, (List.forall_mem_cons.2 ⟨Yd.lasts_ex _, (List.forall_mem_cons.2 ⟨Yd.lasts_ex _, (List.forall_mem_cons.2 ⟨Yd.lasts_ex _, (List.forall_mem_cons.2 ⟨Yd.lasts_ex _, (List.forall_mem_cons.2 ⟨Yd.lasts_ex _, (fun _ h => by cases h)⟩)⟩)⟩)⟩)⟩)⟩)⟩)⟩)⟩)⟩)⟩)⟩)⟩)⟩)⟩)⟩)⟩)⟩)⟩)⟩)⟩)⟩)⟩)⟩)⟩)⟩)⟩)⟩)⟩)⟩) ⟨?_, ?_, ?_, ?_, ?_, ?_, ?_, ?_, ?_, ?_, ?_, ?_, ?_, ?_, ?_, ?_, ?_, ?_, ?_, ?_, ?_, ?_, ?_, ?_, ?_, ?_, ?_, ?_, ?_, ?_, trivial⟩ ?_
        · intro e1 w1 hb hp hun
          refine Ops.fld (hB.below hb) rfl rfl rfl rfl inferInstance ?_
          refine Ops.nil ?_
          exact After.dn (Below.refl _ _) (by exact rfl)
        · intro e1 w1 hb hp hun
          refine Ops.ldf_s (hB.below hb) rfl rfl rfl rfl rfl ?_
          refine Ops.nil ?_
          exact After.dn (Below.refl _ _) (by exact rfl)
        · intro e1 w1 hb hp hun
          refine Ops.mv_int rfl rfl rfl ?_
          refine Ops.nil ?_
          exact After.dn (Below.refl _ _) (by exact rfl)
        · intro e1 w1 hb hp hun
          refine Ops.idx (hM.top.later hb).2 rfl rfl rfl (by omega) (by omega) ?_
          refine Ops.nil ?_
          exact After.dn (Below.refl _ _) (by exact rfl)
        · intro e1 w1 hb hp hun
          refine Ops.ld_sl (hM.top.later hb) rfl (by omega) rfl rfl ?_
          refine Ops.nil ?_
          exact After.dn (Below.refl _ _) (by exact rfl)
        · intro e1 w1 hb hp hun
          refine Ops.len rfl rfl ?_
          refine Ops.nil ?_
          exact After.dn (Below.refl _ _) (by exact rfl)
        · intro e1 w1 hb hp hun
          refine Ops.fld (hB.below hb) rfl rfl rfl rfl inferInstance ?_
          refine Ops.nil ?_
          exact After.dn (Below.refl _ _) (by exact rfl)
        · intro e1 w1 hb hp hun
          refine Ops.ldf_s (hB.below hb) rfl rfl rfl rfl rfl ?_
          refine Ops.nil ?_
          exact After.dn (Below.refl _ _) (by exact rfl)
        · intro e1 w1 hb hp hun
          refine Ops.idx (hM.top.later hb).2 rfl rfl rfl (by omega) (by omega) ?_
          refine Ops.nil ?_
          exact After.dn (Below.refl _ _) (by exact rfl)
        · intro e1 w1 hb hp hun
          refine Ops.ld_sl (hM.top.later hb) rfl (by omega) rfl rfl ?_
          refine Ops.nil ?_
          exact After.dn (Below.refl _ _) (by exact rfl)
        · intro e1 w1 hb hp hun
          refine Ops.len rfl rfl ?_
          refine Ops.nil ?_
          exact After.dn (Below.refl _ _) (by exact rfl)
        · intro e1 w1 hb hp hun
          refine Ops.neq rfl rfl rfl ?_
          refine Ops.nil ?_
          exact After.dn (Below.refl _ _) (by exact congrArg Value.bool (decide_eq_false (by omega)))
        · intro e1 w1 hb hp hun
          refine Ops.mv_bool rfl rfl rfl ?_
          refine Ops.nil ?_
          exact After.dn (Below.refl _ _) (by exact rfl)
        · intro e1 w1 hb hp hun
          refine Ops.rung rfl rfl rfl ?_
          refine Ops.fld (hB.below hb) rfl rfl rfl rfl inferInstance ?_
          refine Ops.nil ?_
          exact After.dn (Below.refl _ _) (by exact rfl)
        · intro e1 w1 hb hp hun
          refine Ops.rung rfl rfl rfl ?_
          refine Ops.ldf_s (hB.below hb) rfl rfl rfl rfl rfl ?_
          refine Ops.nil ?_
          exact After.dn (Below.refl _ _) (by exact rfl)
        · intro e1 w1 hb hp hun
          refine Ops.rung rfl rfl rfl ?_
          refine Ops.mv_int rfl rfl rfl ?_
          refine Ops.nil ?_
          exact After.dn (Below.refl _ _) (by exact rfl)
        · intro e1 w1 hb hp hun
          refine Ops.rung rfl rfl rfl ?_
          refine Ops.idx (hM.top.later hb).2 rfl rfl rfl (by omega) (by omega) ?_
          refine Ops.nil ?_
          exact After.dn (Below.refl _ _) (by exact rfl)
        · intro e1 w1 hb hp hun
          refine Ops.rung rfl rfl rfl ?_
          refine Ops.ld_sl (hM.top.later hb) rfl (by omega) rfl rfl ?_
          refine Ops.nil ?_
          exact After.dn (Below.refl _ _) (by exact rfl)
        · intro e1 w1 hb hp hun
          refine Ops.rung rfl rfl rfl ?_
          refine Ops.call (l01Perm_c _ _ _ _ _ (hrow.later hb)) rfl rfl rfl ?_
          rintro _ w2 ⟨rfl, hst⟩
          refine Ops.nil ?_
          exact After.dn hst.below (by exact rfl)
        · intro e1 w1 hb hp hun
          refine Ops.rung rfl rfl rfl ?_
          refine Ops.not_p rfl rfl ?_
          refine Ops.nil ?_
          exact After.dn (Below.refl _ _) (by exact congrArg Value.bool (decide_eq_true h7))
        · intro e1 w1 hb hp hun
          refine Ops.pick_f rfl rfl rfl ?_
          refine Ops.nil ?_
          exact After.dn (Below.refl _ _) (by exact rfl)
        · intro e1 w1 hb hp hun
          refine Ops.mv_bool rfl rfl rfl ?_
          refine Ops.nil ?_
          exact After.dn (Below.refl _ _) (by exact rfl)
        · intro e1 w1 hb hp hun
          refine Ops.skipg rfl rfl rfl rfl rfl ?_
          refine Ops.nil ?_
          exact After.dn (Below.refl _ _) (by exact rfl)
        · intro e1 w1 hb hp hun
          refine Ops.skipg rfl rfl rfl rfl rfl ?_
          refine Ops.nil ?_
          exact After.dn (Below.refl _ _) (by exact rfl)
        · intro e1 w1 hb hp hun
          refine Ops.skipg rfl rfl rfl rfl rfl ?_
          refine Ops.nil ?_
          exact After.dn (Below.refl _ _) (by exact rfl)
        · intro e1 w1 hb hp hun
          refine Ops.skipg rfl rfl rfl rfl rfl ?_
          refine Ops.nil ?_
          exact After.dn (Below.refl _ _) (by exact rfl)
        · intro e1 w1 hb hp hun
          refine Ops.skipg rfl rfl rfl rfl rfl ?_
          refine Ops.nil ?_
          exact After.dn (Below.refl _ _) (by exact rfl)
        · intro e1 w1 hb hp hun
          refine Ops.skipg rfl rfl rfl rfl rfl ?_
          refine Ops.nil ?_
          exact After.dn (Below.refl _ _) (by exact rfl)
        · intro e1 w1 hb hp hun
          refine Ops.skipg rfl rfl rfl rfl rfl ?_
          refine Ops.nil ?_
          exact After.dn (Below.refl _ _) (by exact rfl)
        · intro e1 w1 hb hp hun
          refine Ops.pick_t rfl rfl rfl ?_
          refine Ops.nil ?_
          exact After.dn (Below.refl _ _) (by exact rfl)
        intro u w3 hb3 _
        have hS3 := hS2.later hb3
        refine thenQ_n ?_
        -- stop: cond
        refine Cd.cond_t rfl ?_
        refine Cd.seq ?_
        refine Cd.region ?_
        refine Ops.mv_bool rfl rfl rfl ?_
        refine Ops.nil ?_
        refine thenQ_n ?_
        refine Cd.ret ?_
        refine blockQ_r ?_
        refine thenQ_r ?_
        refine thenQ_r ?_
        refine blockQ_r ?_
        refine thenQ_r ?_
        refine ret1_b rfl ?_
        -- stop: end
        exact ⟨by rw [decide_eq_false (fun h : Mani xss => h7 (h.2.2.1.at_ hkx).2.1)], hS3.none⟩
    · refine Cd.draw [.ex (.pointer (ptrAt (Ab) 0)), .ex (.slice (A) (n) (c)), .ex (.int .i64 ((k : Int))), .ex (.pointer (ptrAt (A) ((k : Int)).toNat)), .ex (.slice ((rg (rs) ((k : Int))).a) ((rg (rs) ((k : Int))).n) ((rg (rs) ((k : Int))).c)), .ex (.int .i64 ((((rg (rs) ((k : Int))).n : Nat) : Int))), .ex (.pointer (ptrAt (Ab) 0)), .ex (.slice (A) (n) (c)), .ex (.pointer (ptrAt (A) ((0 : Int)).toNat)), .ex (.slice ((rg (rs) ((0 : Int))).a) ((rg (rs) ((0 : Int))).n) ((rg (rs) ((0 : Int))).c)), .ex (.int .i64 ((((rg (rs) ((0 : Int))).n : Nat) : Int))), .ex (.bool (true)), .ex (.bool (true)), .ex (undef), .ex (undef), .ex (undef), .ex (undef), .ex (undef), .ex (undef), .ex (undef), .ex (.bool (true)), .ex (.bool (true)), .ex (undef), .ex (undef), .ex (undef), .ex (undef), .ex (undef), .ex (undef), .ex (undef), .ex (.bool (true))] (by kernel_rfl) (by kernel_rfl) rfl (List.forall_mem_cons.2 ⟨Yd.lasts_ex _, (List.forall_mem_cons.2 ⟨Yd.lasts_ex _, (List.forall_mem_cons.2 ⟨Yd.lasts_ex _, (List.forall_mem_cons.2 ⟨Yd.lasts_ex _, (List.forall_mem_cons.2 ⟨Yd.lasts_ex _, (List.forall_mem_cons.2 ⟨Yd.lasts_ex _, (List.forall_mem_cons.2 ⟨Yd.lasts_ex _, (List.forall_mem_cons.2 ⟨Yd.lasts_ex _, (List.forall_mem_cons.2 ⟨Yd.lasts_ex _, (List.forall_mem_cons.2 ⟨Yd.lasts_ex _, (List.forall_mem_cons.2 ⟨Yd.lasts_ex _, (List.forall_mem_cons.2 ⟨Yd.lasts_ex _, (List.forall_mem_cons.2 ⟨Yd.lasts_ex _, (List.forall_mem_cons.2 ⟨Yd.lasts_ex _, (List.forall_mem_cons.2 ⟨Yd.lasts_ex _, (List.forall_mem_cons.2 ⟨Yd.lasts_ex _, (List.forall_mem_cons.2 ⟨Yd.lasts_ex _, (List.forall_mem_cons.2 ⟨Yd.lasts_ex _, (List.forall_mem_cons.2 ⟨Yd.lasts_ex _, (List.forall_mem_cons.2 ⟨Yd.lasts_ex _, (List.forall_mem_cons.2 ⟨Yd.lasts_ex _, (List.forall_mem_cons.2 ⟨Yd.lasts_ex _, (List.forall_mem_cons.2 ⟨Yd.lasts_ex _, (List.forall_mem_cons.2 ⟨Yd.lasts_ex _, (List.forall_mem_cons.2 ⟨Yd.lasts_ex _, (List.forall_mem_cons.2 ⟨Yd.lasts_ex _, (List.forall_mem_cons.2 ⟨Yd.lasts_ex _, (List.forall_mem_cons.2 ⟨Yd.lasts_ex _, (List.forall_mem_cons.2 ⟨Yd.lasts_ex _, (List.forall_mem_cons.2 ⟨Yd.lasts_ex _, (fun _ h => by cases h)⟩)⟩)⟩)⟩)⟩)⟩)⟩)⟩)⟩)⟩)⟩)⟩)⟩)⟩)⟩)⟩)⟩)⟩)⟩)⟩)⟩)⟩)⟩)⟩)⟩)⟩)⟩)⟩)⟩)⟩) ⟨?_, ?_, ?_, ?_, ?_, ?_, ?_, ?_, ?_, ?_, ?_, ?_, ?_, ?_, ?_, ?_, ?_, ?_, ?_, ?_, ?_, ?_, ?_, ?_, ?_, ?_, ?_, ?_, ?_, ?_, trivial⟩ ?_
      · intro e1 w1 hb hp hun
        refine Ops.fld (hB.below hb) rfl rfl rfl rfl inferInstance ?_
        refine Ops.nil ?_
        exact After.dn (Below.refl _ _) (by exact rfl)
      · intro e1 w1 hb hp hun
        refine Ops.ldf_s (hB.below hb) rfl rfl rfl rfl rfl ?_
        refine Ops.nil ?_
        exact After.dn (Below.refl _ _) (by exact rfl)
      · intro e1 w1 hb hp hun
        refine Ops.mv_int rfl rfl rfl ?_
        refine Ops.nil ?_
        exact After.dn (Below.refl _ _) (by exact rfl)
      · intro e1 w1 hb hp hun
        refine Ops.idx (hM.top.later hb).2 rfl rfl rfl (by omega) (by omega) ?_
        refine Ops.nil ?_
        exact After.dn (Below.refl _ _) (by exact rfl)
      · intro e1 w1 hb hp hun
        refine Ops.ld_sl (hM.top.later hb) rfl (by omega) rfl rfl ?_
        refine Ops.nil ?_
        exact After.dn (Below.refl _ _) (by exact rfl)
      · intro e1 w1 hb hp hun
        refine Ops.len rfl rfl ?_
        refine Ops.nil ?_
        exact After.dn (Below.refl _ _) (by exact rfl)
      · intro e1 w1 hb hp hun
        refine Ops.fld (hB.below hb) rfl rfl rfl rfl inferInstance ?_
        refine Ops.nil ?_
        exact After.dn (Below.refl _ _) (by exact rfl)
      · intro e1 w1 hb hp hun
        refine Ops.ldf_s (hB.below hb) rfl rfl rfl rfl rfl ?_
        refine Ops.nil ?_
        exact After.dn (Below.refl _ _) (by exact rfl)
      · intro e1 w1 hb hp hun
        refine Ops.idx (hM.top.later hb).2 rfl rfl rfl (by omega) (by omega) ?_
        refine Ops.nil ?_
        exact After.dn (Below.refl _ _) (by exact rfl)
      · intro e1 w1 hb hp hun
        refine Ops.ld_sl (hM.top.later hb) rfl (by omega) rfl rfl ?_
        refine Ops.nil ?_
        exact After.dn (Below.refl _ _) (by exact rfl)
      · intro e1 w1 hb hp hun
        refine Ops.len rfl rfl ?_
        refine Ops.nil ?_
        exact After.dn (Below.refl _ _) (by exact rfl)
      · intro e1 w1 hb hp hun
        refine Ops.neq rfl rfl rfl ?_
        refine Ops.nil ?_
        exact After.dn (Below.refl _ _) (by exact congrArg Value.bool (decide_eq_true h6))
      · intro e1 w1 hb hp hun
        refine Ops.mv_bool rfl rfl rfl ?_
        refine Ops.nil ?_
        exact After.dn (Below.refl _ _) (by exact rfl)
      · intro e1 w1 hb hp hun
        refine Ops.skipg rfl rfl rfl rfl rfl ?_
        refine Ops.nil ?_
        exact After.dn (Below.refl _ _) (by exact rfl)
      · intro e1 w1 hb hp hun
        refine Ops.skipg rfl rfl rfl rfl rfl ?_
        refine Ops.nil ?_
        exact After.dn (Below.refl _ _) (by exact rfl)
      · intro e1 w1 hb hp hun
        refine Ops.skipg rfl rfl rfl rfl rfl ?_
        refine Ops.nil ?_
        exact After.dn (Below.refl _ _) (by exact rfl)
      · intro e1 w1 hb hp hun
        refine Ops.skipg rfl rfl rfl rfl rfl ?_
        refine Ops.nil ?_
        exact After.dn (Below.refl _ _) (by exact rfl)
      · intro e1 w1 hb hp hun
        refine Ops.skipg rfl rfl rfl rfl rfl ?_
        refine Ops.nil ?_
        exact After.dn (Below.refl _ _) (by exact rfl)
      · intro e1 w1 hb hp hun
        refine Ops.skipg rfl rfl rfl rfl rfl ?_
        refine Ops.nil ?_
        exact After.dn (Below.refl _ _) (by exact rfl)
      · intro e1 w1 hb hp hun
        refine Ops.skipg rfl rfl rfl rfl rfl ?_
        refine Ops.nil ?_
        exact After.dn (Below.refl _ _) (by exact rfl)
      · intro e1 w1 hb hp hun
        refine Ops.pick_t rfl rfl rfl ?_
        refine Ops.nil ?_
        exact After.dn (Below.refl _ _) (by exact rfl)
      · intro e1 w1 hb hp hun
        refine Ops.mv_bool rfl rfl rfl ?_
        refine Ops.nil ?_
        exact After.dn (Below.refl _ _) (by exact rfl)
      · intro e1 w1 hb hp hun
        refine Ops.skipg rfl rfl rfl rfl rfl ?_
        refine Ops.nil ?_
        exact After.dn (Below.refl _ _) (by exact rfl)
      · intro e1 w1 hb hp hun
        refine Ops.skipg rfl rfl rfl rfl rfl ?_
        refine Ops.nil ?_
        exact After.dn (Below.refl _ _) (by exact rfl)
      · intro e1 w1 hb hp hun
        refine Ops.skipg rfl rfl rfl rfl rfl ?_
        refine Ops.nil ?_
        exact After.dn (Below.refl _ _) (by exact rfl)
      · intro e1 w1 hb hp hun
        refine Ops.skipg rfl rfl rfl rfl rfl ?_
        refine Ops.nil ?_
        exact After.dn (Below.refl _ _) (by exact rfl)
      · intro e1 w1 hb hp hun
        refine Ops.skipg rfl rfl rfl rfl rfl ?_
        refine Ops.nil ?_
        exact After.dn (Below.refl _ _) (by exact rfl)
      · intro e1 w1 hb hp hun
        refine Ops.skipg rfl rfl rfl rfl rfl ?_
        refine Ops.nil ?_
        exact After.dn (Below.refl _ _) (by exact rfl)
      · intro e1 w1 hb hp hun
        refine Ops.skipg rfl rfl rfl rfl rfl ?_
        refine Ops.nil ?_
        exact After.dn (Below.refl _ _) (by exact rfl)
      · intro e1 w1 hb hp hun
        refine Ops.pick_t rfl rfl rfl ?_
        refine Ops.nil ?_
        exact After.dn (Below.refl _ _) (by exact rfl)
      intro u w3 hb3 _
      have hS3 := hS2.later hb3
      refine thenQ_n ?_
      -- stop: cond
      refine Cd.cond_t rfl ?_
      refine Cd.seq ?_
      refine Cd.region ?_
      refine Ops.mv_bool rfl rfl rfl ?_
      refine Ops.nil ?_
      refine thenQ_n ?_
      refine Cd.ret ?_
      refine blockQ_r ?_
      refine thenQ_r ?_
      refine thenQ_r ?_
      refine blockQ_r ?_
      refine thenQ_r ?_
      refine ret1_b rfl ?_
      -- stop: end
      exact ⟨by rw [decide_eq_false (fun h : Mani xss => by have := (h.2.2.1.at_ hkx).1; omega)], hS3.none⟩
  · have hr1 := hP.all (by omega)
    have hs := hr1.sys
    have hrk : ∀ i : Int, 0 ≤ i → i < n → (rg rs i).n = (rg rs 0).n := fun i h0 h1 => by
      have e1 := hR.rowLen h0 h1
      have e2 := (hr1 _ (gl_in h0 (by omega))).1
      omega
    refine Cd.exit ?_
    refine thenQ_x ?_
    refine thenQ_x ?_
    refine blockQ_x ?_
    refine thenQ_n ?_
    refine Cd.seq ?_
    refine Cd.seq ?_
    refine Cd.region ?_
    refine Ops.mv_int rfl rfl rfl ?_
    refine Ops.nil ?_
    refine thenQ_n ?_
    refine Cd.block ?_
    -- stop: loop
    refine Cd.loop (α := Nat) (fun i => [(1, .pointer Ab), (3, .int .i64 (n : Int)), (5, .int .i64 (i : Int))]) (fun i w' => St w w' [Bx 32 1 Ab [.slice A n c]] ∧ i ≤ n ∧ ∀ i', i' < i → ∀ k, k < n → i' + 2 ≤ k → ∀ f, f < (gl xss 0).length → Comm xss i' k f) (fun i => n - i) 0 ⟨rfl, rfl, rfl, trivial⟩ ⟨hS2, Nat.zero_le _, fun i' hi' => by omega⟩ ?_
    rintro i e w3 ⟨hS3, hi, hC⟩
    refine Cd.seq ?_
    refine Cd.seq ?_
    refine Cd.region ?_
    refine Ops.mv_int rfl rfl rfl ?_
    refine Ops.mv_int rfl rfl rfl ?_
    refine Ops.lss rfl rfl rfl ?_
    refine Ops.nil ?_
    refine thenQ_n ?_
    -- stop: cond
    refine Cd.cond_p _ rfl (fun h6 => ?_) (fun h6 => ?_)
    · refine Cd.skip ?_
      refine thenQ_n ?_
      refine Cd.seq ?_
      refine Cd.block ?_
      refine Cd.seq ?_
      refine Cd.region ?_
      refine Ops.mv_int rfl rfl rfl ?_
      refine Ops.add rfl rfl rfl (by omega) ?_
      refine Ops.mv_int rfl rfl rfl ?_
      refine Ops.nil ?_
      refine thenQ_n ?_
      refine Cd.block ?_
      -- stop: loop
      refine Cd.loop (α := Nat) (fun k => [(1, .pointer Ab), (3, .int .i64 (n : Int)), (5, .int .i64 (i : Int)), (6, .int .i64 (k : Int))]) (fun k w' => St w w' [Bx 32 1 Ab [.slice A n c]] ∧ i + 2 ≤ k ∧ ∀ k', k' < k → k' < n → i + 2 ≤ k' → ∀ f, f < (gl xss 0).length → Comm xss i k' f) (fun k => n + 1 - k) (i + 2) ⟨rfl, rfl, rfl, rfl, trivial⟩ ⟨hS3, Nat.le_refl _, fun k' _ _ _ => by omega⟩ ?_
      rintro k e w4 ⟨hS4, hik, hC4⟩
      refine Cd.seq ?_
      refine Cd.seq ?_
      refine Cd.region ?_
      refine Ops.mv_int rfl rfl rfl ?_
      refine Ops.mv_int rfl rfl rfl ?_
      refine Ops.lss rfl rfl rfl ?_
      refine Ops.nil ?_
      refine thenQ_n ?_
      -- stop: cond
      refine Cd.cond_p _ rfl (fun h7 => ?_) (fun h7 => ?_)
      · have rki := hrk i (by omega) h6
        have rkk := hrk k (by omega) h7
        refine Cd.skip ?_
        refine thenQ_n ?_
        refine Cd.seq ?_
        refine Cd.block ?_
        refine Cd.seq ?_
        refine Cd.region ?_
        refine Ops.mv_int rfl rfl rfl ?_
        refine Ops.nil ?_
        refine thenQ_n ?_
        refine Cd.block ?_
        -- stop: loop
        refine Cd.loop (α := Nat) (fun f => [(1, .pointer Ab), (3, .int .i64 (n : Int)), (5, .int .i64 (i : Int)), (6, .int .i64 (k : Int)), (7, .int .i64 (f : Int))]) (fun f w' => St w w' [Bx 32 1 Ab [.slice A n c]] ∧ f ≤ (gl xss 0).length ∧ ∀ f', f' < f → Comm xss i k f') (fun f => (gl xss 0).length - f) 0 ⟨rfl, rfl, rfl, rfl, rfl, trivial⟩ ⟨hS4, Nat.zero_le _, fun f' hf' => by omega⟩ ?_
        rintro f e w5 ⟨hS5, hf, hC5⟩
        have hM := hS5.oldRows hR
        have hB := hS5.rd 0 rfl
        have hri := hM.at_ (i := i) (by omega) h6
        have hrk' := hM.at_ (i := k) (by omega) h7
        refine Cd.seq ?_
        refine Cd.seq ?_
        refine Cd.region ?_
        refine Ops.mv_int rfl rfl rfl ?_
        -- stop: FIELDADDR 32 t1=toArray 0 -> 81
        refine Ops.fld (hS5.rd 0 rfl) rfl rfl rfl rfl inferInstance ?_
        refine Ops.ldf_s (hS5.rd 0 rfl) rfl rfl rfl rfl rfl ?_
        refine Ops.idx hM.top.2 rfl rfl rfl (by omega) (by omega) ?_
        refine Ops.ld_sl hM.top rfl (by omega) rfl rfl ?_
        refine Ops.len rfl rfl ?_
        refine Ops.lss rfl rfl rfl ?_
        refine Ops.nil ?_
        refine thenQ_n ?_
        -- stop: cond
        refine Cd.cond_p _ rfl (fun h8 => ?_) (fun h8 => ?_)
        · have hii := (hs _ (gl_in (k := (i : Int)) (by omega) (by omega))).2 (f : Int) (by omega) (by omega)
          have hkk := (hs _ (gl_in (k := (k : Int)) (by omega) (by omega))).2 (f : Int) (by omega) (by omega)
          refine Cd.skip ?_
          refine thenQ_n ?_
          refine Cd.seq ?_
          refine Cd.block ?_
          refine Cd.seq ?_
          -- stop: draw
          by_cases h9 : gi (gl xss k) (gi (gl xss i) f) = gi (gl xss i) (gi (gl xss k) f)
          · by_cases h10 : gi (gl xss i) f = gi (gl xss k) f
            · --dup 3
              refine Cd.draw [.ex (.pointer (ptrAt (Ab) 0)), .ex (.slice (A) (n) (c)), .ex (.int .i64 ((k : Int))), .ex (.pointer (ptrAt (A) ((k : Int)).toNat)), .ex (.slice ((rg (rs) ((k : Int))).a) ((rg (rs) ((k : Int))).n) ((rg (rs) ((k : Int))).c)), .ex (.pointer (ptrAt (Ab) 0)), .ex (.slice (A) (n) (c)), .ex (.int .i64 ((i : Int))), .ex (.pointer (ptrAt (A) ((i : Int)).toNat)), .ex (.slice ((rg (rs) ((i : Int))).a) ((rg (rs) ((i : Int))).n) ((rg (rs) ((i : Int))).c)), .ex (.int .i64 ((f : Int))), .ex (.pointer (ptrAt ((rg (rs) ((i : Int))).a) ((f : Int)).toNat)), .ex (.int .i64 (gi (gl xss i) ((f : Int)))), .ex (.pointer (ptrAt ((rg (rs) ((k : Int))).a) (gi (gl xss i) ((f : Int))).toNat)), .ex (.int .i64 (gi (gl xss k) (gi (gl xss i) ((f : Int))))), .ex (.pointer (ptrAt (Ab) 0)), .ex (.slice (A) (n) (c)), .ex (.int .i64 ((i : Int))), .ex (.pointer (ptrAt (A) ((i : Int)).toNat)), .ex (.slice ((rg (rs) ((i : Int))).a) ((rg (rs) ((i : Int))).n) ((rg (rs) ((i : Int))).c)), .ex (.pointer (ptrAt (Ab) 0)), .ex (.slice (A) (n) (c)), .ex (.int .i64 ((k : Int))), .ex (.pointer (ptrAt (A) ((k : Int)).toNat)), .ex (.slice ((rg (rs) ((k : Int))).a) ((rg (rs) ((k : Int))).n) ((rg (rs) ((k : Int))).c)), .ex (.int .i64 ((f : Int))), .ex (.pointer (ptrAt ((rg (rs) ((k : Int))).a) ((f : Int)).toNat)), .ex (.int .i64 (gi (gl xss k) ((f : Int)))), .ex (.pointer (ptrAt ((rg (rs) ((i : Int))).a) (gi (gl xss k) ((f : Int))).toNat)), .ex (.int .i64 (gi (gl xss i) (gi (gl xss k) ((f : Int))))), .ex (.bool (false)), .ex (.bool (false)), .ex (.pointer (ptrAt (Ab) 0)), .ex (.slice (A) (n) (c)), .ex (.int .i64 ((i : Int))), .ex (.pointer (ptrAt (A) ((i : Int)).toNat)), .ex (.slice ((rg (rs) ((i : Int))).a) ((rg (rs) ((i : Int))).n) ((rg (rs) ((i : Int))).c)), .ex (.int .i64 ((f : Int))), .ex (.pointer (ptrAt ((rg (rs) ((i : Int))).a) ((f : Int)).toNat)), .ex (.int .i64 (gi (gl xss i) ((f : Int)))), .ex (.pointer (ptrAt (Ab) 0)), .ex (.slice (A) (n) (c)), .ex (.int .i64 ((k : Int))), .ex (.pointer (ptrAt (A) ((k : Int)).toNat)), .ex (.slice ((rg (rs) ((k : Int))).a) ((rg (rs) ((k : Int))).n) ((rg (rs) ((k : Int))).c)), .ex (.int .i64 ((f : Int))), .ex (.pointer (ptrAt ((rg (rs) ((k : Int))).a) ((f : Int)).toNat)), .ex (.int .i64 (gi (gl xss k) ((f : Int)))), .ex (.bool (true)), .ex (.bool (true))] (by kernel_rfl) (by kernel_rfl) rfl (List.forall_mem_cons.2 ⟨Yd.lasts_ex _, (List.forall_mem_cons.2 ⟨Yd.lasts_ex _, (List.forall_mem_cons.2 ⟨Yd.lasts_ex _, (List.forall_mem_cons.2 ⟨Yd.lasts_ex _, (List.forall_mem_cons.2 ⟨Yd.lasts_ex _, (List.forall_mem_cons.2 ⟨Yd.lasts_ex _, (List.forall_mem_cons.2 ⟨Yd.lasts_ex _, (List.forall_mem_cons.2 ⟨Yd.lasts_ex _, (List.forall_mem_cons.2 ⟨Yd.lasts_ex _, (List.forall_mem_cons.2 ⟨Yd.lasts_ex _, (List.forall_mem_cons.2 ⟨Yd.lasts_ex _, (List.forall_mem_cons.2 ⟨Yd.lasts_ex _, (List.forall_mem_cons.2 ⟨Yd.lasts_ex _, (List.forall_mem_cons.2 ⟨Yd.lasts_ex _, (List.forall_mem_cons.2 ⟨Yd.lasts_ex _, (List.forall_mem_cons.2 ⟨Yd.lasts_ex _, (List.forall_mem_cons.2 ⟨Yd.lasts_ex _, (List.forall_mem_cons.2 ⟨Yd.lasts_ex _, (List.forall_mem_cons.2 ⟨Yd.lasts_ex _, (List.forall_mem_cons.2 ⟨Yd.lasts_ex _, (List.forall_mem_cons.2 ⟨Yd.lasts_ex _, (List.forall_mem_cons.2 ⟨Yd.lasts_ex _, (List.forall_mem_cons.2 ⟨Yd.lasts_ex _, (List.forall_mem_cons.2 ⟨Yd.lasts_ex _, (List.forall_mem_cons.2 ⟨Yd.lasts_ex _, (List.forall_mem_cons.2 ⟨Yd.lasts_ex _, (List.forall_mem_cons.2 ⟨Yd.lasts_ex _, (List.forall_mem_cons.2 ⟨Yd.lasts_ex _, (List.forall_mem_cons.2 ⟨Yd.lasts_ex _, (List.forall_mem_cons.2 ⟨Yd.lasts_ex _, (List.forall_mem_cons.2 ⟨Yd.lasts_ex _, (List.forall_mem_cons.2 ⟨Yd.lasts_ex _, (List.forall_mem_cons.2 ⟨Yd.lasts_ex _, (List.forall_mem_cons.2 ⟨Yd.lasts_ex _, (List.forall_mem_cons.2 ⟨Yd.lasts_ex _, (List.forall_mem_cons.2 ⟨Yd.lasts_ex _, (List.forall_mem_cons.2 ⟨Yd.lasts_ex _, (List.forall_mem_cons.2 ⟨Yd.lasts_ex _, (List.forall_mem_cons.2 ⟨Yd.lasts_ex _, (List.forall_mem_cons.2 ⟨Yd.lasts_ex _, (List.forall_mem_cons.2 ⟨Yd.lasts_ex _, (List.forall_mem_cons.2 ⟨Yd.lasts_ex _, (List.forall_mem_cons.2 ⟨Yd.lasts_ex _, (List.forall_mem_cons.2 ⟨Yd.lasts_ex _, (List.forall_mem_cons.2 ⟨Yd.lasts_ex _, (List.forall_mem_cons.2 ⟨Yd.lasts_ex _, (List.forall_mem_cons.2 ⟨Yd.lasts_ex _, (List.forall_mem_cons.2 ⟨Yd.lasts_ex _, (List.forall_mem_cons.2 ⟨Yd.lasts_ex _, (List.forall_mem_cons.2 ⟨Yd.lasts_ex _, (fun _ h => by cases h)⟩)⟩)⟩)⟩)⟩)⟩)⟩)⟩)⟩)⟩)⟩)⟩)⟩)⟩)⟩)⟩)⟩)⟩)⟩)⟩)⟩)⟩)⟩)⟩)⟩)⟩)⟩)⟩)⟩)⟩)⟩)⟩)⟩)⟩)⟩)⟩)⟩)⟩)⟩)⟩)⟩)⟩)⟩)⟩)⟩)⟩)⟩)⟩)⟩)⟩) ⟨?_, ?_, ?_, ?_, ?_, ?_, ?_, ?_, ?_, ?_, ?_, ?_, ?_, ?_, ?_, ?_, ?_, ?_, ?_, ?_, ?_, ?_, ?_, ?_, ?_, ?_, ?_, ?_, ?_, ?_, ?_, ?_, ?_, ?_, ?_, ?_, ?_, ?_, ?_, ?_, ?_, ?_, ?_, ?_, ?_, ?_, ?_, ?_, ?_, ?_, trivial⟩ ?_
              · intro e1 w1 hb hp hun
                refine Ops.fld (hB.below hb) rfl rfl rfl rfl inferInstance ?_
                refine Ops.nil ?_
                exact After.dn (Below.refl _ _) (by exact rfl)
              · intro e1 w1 hb hp hun
                refine Ops.ldf_s (hB.below hb) rfl rfl rfl rfl rfl ?_
                refine Ops.nil ?_
                exact After.dn (Below.refl _ _) (by exact rfl)
              · intro e1 w1 hb hp hun
                refine Ops.mv_int rfl rfl rfl ?_
                refine Ops.nil ?_
                exact After.dn (Below.refl _ _) (by exact rfl)
              · intro e1 w1 hb hp hun
                refine Ops.idx (hM.top.later hb).2 rfl rfl rfl (by omega) (by omega) ?_
                refine Ops.nil ?_
                exact After.dn (Below.refl _ _) (by exact rfl)
              · intro e1 w1 hb hp hun
                refine Ops.ld_sl (hM.top.later hb) rfl (by omega) rfl rfl ?_
                refine Ops.nil ?_
                exact After.dn (Below.refl _ _) (by exact rfl)
              · intro e1 w1 hb hp hun
                refine Ops.fld (hB.below hb) rfl rfl rfl rfl inferInstance ?_
                refine Ops.nil ?_
                exact After.dn (Below.refl _ _) (by exact rfl)
              · intro e1 w1 hb hp hun
                refine Ops.ldf_s (hB.below hb) rfl rfl rfl rfl rfl ?_
                refine Ops.nil ?_
                exact After.dn (Below.refl _ _) (by exact rfl)
              · intro e1 w1 hb hp hun
                refine Ops.mv_int rfl rfl rfl ?_
                refine Ops.nil ?_
                exact After.dn (Below.refl _ _) (by exact rfl)
              · intro e1 w1 hb hp hun
                refine Ops.idx (hM.top.later hb).2 rfl rfl rfl (by omega) (by omega) ?_
                refine Ops.nil ?_
                exact After.dn (Below.refl _ _) (by exact rfl)
              · intro e1 w1 hb hp hun
                refine Ops.ld_sl (hM.top.later hb) rfl (by omega) rfl rfl ?_
                refine Ops.nil ?_
                exact After.dn (Below.refl _ _) (by exact rfl)
              · intro e1 w1 hb hp hun
                refine Ops.mv_int rfl rfl rfl ?_
                refine Ops.nil ?_
                exact After.dn (Below.refl _ _) (by exact rfl)
              · intro e1 w1 hb hp hun
                refine Ops.idx (hri.later hb).2 rfl rfl rfl (by omega) (by omega) ?_
                refine Ops.nil ?_
                exact After.dn (Below.refl _ _) (by exact rfl)
              · intro e1 w1 hb hp hun
                refine Ops.ld_int (hri.later hb) rfl (by omega) rfl rfl ?_
                refine Ops.nil ?_
                exact After.dn (Below.refl _ _) (by exact rfl)
              · intro e1 w1 hb hp hun
                refine Ops.idx (hrk'.later hb).2 rfl rfl rfl (by omega) (by omega) ?_
                refine Ops.nil ?_
                exact After.dn (Below.refl _ _) (by exact rfl)
              · intro e1 w1 hb hp hun
                refine Ops.ld_int (hrk'.later hb) rfl (by omega) rfl rfl ?_
                refine Ops.nil ?_
                exact After.dn (Below.refl _ _) (by exact rfl)
              · intro e1 w1 hb hp hun
                refine Ops.fld (hB.below hb) rfl rfl rfl rfl inferInstance ?_
                refine Ops.nil ?_
                exact After.dn (Below.refl _ _) (by exact rfl)
              · intro e1 w1 hb hp hun
                refine Ops.ldf_s (hB.below hb) rfl rfl rfl rfl rfl ?_
                refine Ops.nil ?_
                exact After.dn (Below.refl _ _) (by exact rfl)
              · intro e1 w1 hb hp hun
                refine Ops.mv_int rfl rfl rfl ?_
                refine Ops.nil ?_
                exact After.dn (Below.refl _ _) (by exact rfl)
              · intro e1 w1 hb hp hun
                refine Ops.idx (hM.top.later hb).2 rfl rfl rfl (by omega) (by omega) ?_
                refine Ops.nil ?_
                exact After.dn (Below.refl _ _) (by exact rfl)
              · intro e1 w1 hb hp hun
                refine Ops.ld_sl (hM.top.later hb) rfl (by omega) rfl rfl ?_
                refine Ops.nil ?_
                exact After.dn (Below.refl _ _) (by exact rfl)
              · intro e1 w1 hb hp hun
                refine Ops.fld (hB.below hb) rfl rfl rfl rfl inferInstance ?_
                refine Ops.nil ?_
                exact After.dn (Below.refl _ _) (by exact rfl)
              · intro e1 w1 hb hp hun
                refine Ops.ldf_s (hB.below hb) rfl rfl rfl rfl rfl ?_
                refine Ops.nil ?_
                exact After.dn (Below.refl _ _) (by exact rfl)
              · intro e1 w1 hb hp hun
                refine Ops.mv_int rfl rfl rfl ?_
                refine Ops.nil ?_
                exact After.dn (Below.refl _ _) (by exact rfl)
              · intro e1 w1 hb hp hun
                refine Ops.idx (hM.top.later hb).2 rfl rfl rfl (by omega) (by omega) ?_
                refine Ops.nil ?_
                exact After.dn (Below.refl _ _) (by exact rfl)
              · intro e1 w1 hb hp hun
                refine Ops.ld_sl (hM.top.later hb) rfl (by omega) rfl rfl ?_
                refine Ops.nil ?_
                exact After.dn (Below.refl _ _) (by exact rfl)
              · intro e1 w1 hb hp hun
                refine Ops.mv_int rfl rfl rfl ?_
                refine Ops.nil ?_
                exact After.dn (Below.refl _ _) (by exact rfl)
              · intro e1 w1 hb hp hun
                refine Ops.idx (hrk'.later hb).2 rfl rfl rfl (by omega) (by omega) ?_
                refine Ops.nil ?_
                exact After.dn (Below.refl _ _) (by exact rfl)
              · intro e1 w1 hb hp hun
                refine Ops.ld_int (hrk'.later hb) rfl (by omega) rfl rfl ?_
                refine Ops.nil ?_
                exact After.dn (Below.refl _ _) (by exact rfl)
              · intro e1 w1 hb hp hun
                refine Ops.idx (hri.later hb).2 rfl rfl rfl (by omega) (by omega) ?_
                refine Ops.nil ?_
                exact After.dn (Below.refl _ _) (by exact rfl)
              · intro e1 w1 hb hp hun
                refine Ops.ld_int (hri.later hb) rfl (by omega) rfl rfl ?_
                refine Ops.nil ?_
                exact After.dn (Below.refl _ _) (by exact rfl)
              · intro e1 w1 hb hp hun
                refine Ops.neq rfl rfl rfl ?_
                refine Ops.nil ?_
                exact After.dn (Below.refl _ _) (by exact congrArg Value.bool (decide_eq_false (fun h => h h9)))
              · intro e1 w1 hb hp hun
                refine Ops.mv_bool rfl rfl rfl ?_
                refine Ops.nil ?_
                exact After.dn (Below.refl _ _) (by exact rfl)
              · intro e1 w1 hb hp hun
                refine Ops.rung rfl rfl rfl ?_
                refine Ops.fld (hB.below hb) rfl rfl rfl rfl inferInstance ?_
                refine Ops.nil ?_
                exact After.dn (Below.refl _ _) (by exact rfl)
              · intro e1 w1 hb hp hun
                refine Ops.rung rfl rfl rfl ?_
                refine Ops.ldf_s (hB.below hb) rfl rfl rfl rfl rfl ?_
                refine Ops.nil ?_
                exact After.dn (Below.refl _ _) (by exact rfl)
              · intro e1 w1 hb hp hun
                refine Ops.rung rfl rfl rfl ?_
                refine Ops.mv_int rfl rfl rfl ?_
                refine Ops.nil ?_
                exact After.dn (Below.refl _ _) (by exact rfl)
              · intro e1 w1 hb hp hun
                refine Ops.rung rfl rfl rfl ?_
                refine Ops.idx (hM.top.later hb).2 rfl rfl rfl (by omega) (by omega) ?_
                refine Ops.nil ?_
                exact After.dn (Below.refl _ _) (by exact rfl)
              · intro e1 w1 hb hp hun
                refine Ops.rung rfl rfl rfl ?_
                refine Ops.ld_sl (hM.top.later hb) rfl (by omega) rfl rfl ?_
                refine Ops.nil ?_
                exact After.dn (Below.refl _ _) (by exact rfl)
              · intro e1 w1 hb hp hun
                refine Ops.rung rfl rfl rfl ?_
                refine Ops.mv_int rfl rfl rfl ?_
                refine Ops.nil ?_
                exact After.dn (Below.refl _ _) (by exact rfl)
              · intro e1 w1 hb hp hun
                refine Ops.rung rfl rfl rfl ?_
                refine Ops.idx (hri.later hb).2 rfl rfl rfl (by omega) (by omega) ?_
                refine Ops.nil ?_
                exact After.dn (Below.refl _ _) (by exact rfl)
              · intro e1 w1 hb hp hun
                refine Ops.rung rfl rfl rfl ?_
                refine Ops.ld_int (hri.later hb) rfl (by omega) rfl rfl ?_
                refine Ops.nil ?_
                exact After.dn (Below.refl _ _) (by exact rfl)
              · intro e1 w1 hb hp hun
                refine Ops.rung rfl rfl rfl ?_
                refine Ops.fld (hB.below hb) rfl rfl rfl rfl inferInstance ?_
                refine Ops.nil ?_
                exact After.dn (Below.refl _ _) (by exact rfl)
              · intro e1 w1 hb hp hun
                refine Ops.rung rfl rfl rfl ?_
                refine Ops.ldf_s (hB.below hb) rfl rfl rfl rfl rfl ?_
                refine Ops.nil ?_
                exact After.dn (Below.refl _ _) (by exact rfl)
              · intro e1 w1 hb hp hun
                refine Ops.rung rfl rfl rfl ?_
                refine Ops.mv_int rfl rfl rfl ?_
                refine Ops.nil ?_
                exact After.dn (Below.refl _ _) (by exact rfl)
              · intro e1 w1 hb hp hun
                refine Ops.rung rfl rfl rfl ?_
                refine Ops.idx (hM.top.later hb).2 rfl rfl rfl (by omega) (by omega) ?_
                refine Ops.nil ?_
                exact After.dn (Below.refl _ _) (by exact rfl)
              · intro e1 w1 hb hp hun
                refine Ops.rung rfl rfl rfl ?_
                refine Ops.ld_sl (hM.top.later hb) rfl (by omega) rfl rfl ?_
                refine Ops.nil ?_
                exact After.dn (Below.refl _ _) (by exact rfl)
              · intro e1 w1 hb hp hun
                refine Ops.rung rfl rfl rfl ?_
                refine Ops.mv_int rfl rfl rfl ?_
                refine Ops.nil ?_
                exact After.dn (Below.refl _ _) (by exact rfl)
              · intro e1 w1 hb hp hun
                refine Ops.rung rfl rfl rfl ?_
                refine Ops.idx (hrk'.later hb).2 rfl rfl rfl (by omega) (by omega) ?_
                refine Ops.nil ?_
                exact After.dn (Below.refl _ _) (by exact rfl)
              · intro e1 w1 hb hp hun
                refine Ops.rung rfl rfl rfl ?_
                refine Ops.ld_int (hrk'.later hb) rfl (by omega) rfl rfl ?_
                refine Ops.nil ?_
                exact After.dn (Below.refl _ _) (by exact rfl)
              · intro e1 w1 hb hp hun
                refine Ops.rung rfl rfl rfl ?_
                refine Ops.eql rfl rfl rfl ?_
                refine Ops.nil ?_
                exact After.dn (Below.refl _ _) (by exact congrArg Value.bool (decide_eq_true h10))
              · intro e1 w1 hb hp hun
                refine Ops.pick_f rfl rfl rfl ?_
                refine Ops.nil ?_
                exact After.dn (Below.refl _ _) (by exact rfl)
              intro u w6 hb6 _
              have hS6 := hS5.later hb6
              refine thenQ_n ?_
              -- stop: cond
              refine Cd.cond_t rfl ?_
              refine Cd.seq ?_
              refine Cd.region ?_
              refine Ops.mv_bool rfl rfl rfl ?_
              refine Ops.nil ?_
              refine thenQ_n ?_
              refine Cd.ret ?_
              refine blockQ_r ?_
              refine thenQ_r ?_
              refine thenQ_r ?_
              refine blockQ_r ?_
              refine blockQ_r ?_
              refine thenQ_r ?_
              refine thenQ_r ?_
              refine blockQ_r ?_
              refine blockQ_r ?_
              refine thenQ_r ?_
              refine thenQ_r ?_
              refine blockQ_r ?_
              refine thenQ_r ?_
              refine ret1_b rfl ?_
              -- stop: end
              exact ⟨by rw [decide_eq_false (fun h : Mani xss => (h.2.2.2.1 i (by omega) k (by omega) hik f (by omega)).2 h10)], hS6.none⟩
            · refine Cd.draw [.ex (.pointer (ptrAt (Ab) 0)), .ex (.slice (A) (n) (c)), .ex (.int .i64 ((k : Int))), .ex (.pointer (ptrAt (A) ((k : Int)).toNat)), .ex (.slice ((rg (rs) ((k : Int))).a) ((rg (rs) ((k : Int))).n) ((rg (rs) ((k : Int))).c)), .ex (.pointer (ptrAt (Ab) 0)), .ex (.slice (A) (n) (c)), .ex (.int .i64 ((i : Int))), .ex (.pointer (ptrAt (A) ((i : Int)).toNat)), .ex (.slice ((rg (rs) ((i : Int))).a) ((rg (rs) ((i : Int))).n) ((rg (rs) ((i : Int))).c)), .ex (.int .i64 ((f : Int))), .ex (.pointer (ptrAt ((rg (rs) ((i : Int))).a) ((f : Int)).toNat)), .ex (.int .i64 (gi (gl xss i) ((f : Int)))), .ex (.pointer (ptrAt ((rg (rs) ((k : Int))).a) (gi (gl xss i) ((f : Int))).toNat)), .ex (.int .i64 (gi (gl xss k) (gi (gl xss i) ((f : Int))))), .ex (.pointer (ptrAt (Ab) 0)), .ex (.slice (A) (n) (c)), .ex (.int .i64 ((i : Int))), .ex (.pointer (ptrAt (A) ((i : Int)).toNat)), .ex (.slice ((rg (rs) ((i : Int))).a) ((rg (rs) ((i : Int))).n) ((rg (rs) ((i : Int))).c)), .ex (.pointer (ptrAt (Ab) 0)), .ex (.slice (A) (n) (c)), .ex (.int .i64 ((k : Int))), .ex (.pointer (ptrAt (A) ((k : Int)).toNat)), .ex (.slice ((rg (rs) ((k : Int))).a) ((rg (rs) ((k : Int))).n) ((rg (rs) ((k : Int))).c)), .ex (.int .i64 ((f : Int))), .ex (.pointer (ptrAt ((rg (rs) ((k : Int))).a) ((f : Int)).toNat)), .ex (.int .i64 (gi (gl xss k) ((f : Int)))), .ex (.pointer (ptrAt ((rg (rs) ((i : Int))).a) (gi (gl xss k) ((f : Int))).toNat)), .ex (.int .i64 (gi (gl xss i) (gi (gl xss k) ((f : Int))))), .ex (.bool (false)), .ex (.bool (false)), .ex (.pointer (ptrAt (Ab) 0)), .ex (.slice (A) (n) (c)), .ex (.int .i64 ((i : Int))), .ex (.pointer (ptrAt (A) ((i : Int)).toNat)), .ex (.slice ((rg (rs) ((i : Int))).a) ((rg (rs) ((i : Int))).n) ((rg (rs) ((i : Int))).c)), .ex (.int .i64 ((f : Int))), .ex (.pointer (ptrAt ((rg (rs) ((i : Int))).a) ((f : Int)).toNat)), .ex (.int .i64 (gi (gl xss i) ((f : Int)))), .ex (.pointer (ptrAt (Ab) 0)), .ex (.slice (A) (n) (c)), .ex (.int .i64 ((k : Int))), .ex (.pointer (ptrAt (A) ((k : Int)).toNat)), .ex (.slice ((rg (rs) ((k : Int))).a) ((rg (rs) ((k : Int))).n) ((rg (rs) ((k : Int))).c)), .ex (.int .i64 ((f : Int))), .ex (.pointer (ptrAt ((rg (rs) ((k : Int))).a) ((f : Int)).toNat)), .ex (.int .i64 (gi (gl xss k) ((f : Int)))), .ex (.bool (false)), .ex (.bool (false))] (by kernel_rfl) (by kernel_rfl) rfl (List.forall_mem_cons.2 ⟨Yd.lasts_ex _, (List.forall_mem_cons.2 ⟨Yd.lasts_ex _, (List.forall_mem_cons.2 ⟨Yd.lasts_ex _, (List.forall_mem_cons.2 ⟨Yd.lasts_ex _, (List.forall_mem_cons.2 ⟨Yd.lasts_ex _, (List.forall_mem_cons.2 ⟨Yd.lasts_ex _, (List.forall_mem_cons.2 ⟨Yd.lasts_ex _, (List.forall_mem_cons.2 ⟨Yd.lasts_ex _, (List.forall_mem_cons.2 ⟨Yd.lasts_ex _, (List.forall_mem_cons.2 ⟨Yd.lasts_ex _, (List.forall_mem_cons.2 ⟨Yd.lasts_ex _, (List.forall_mem_cons.2 ⟨Yd.lasts_ex _, (List.forall_mem_cons.2 ⟨Yd.lasts_ex _, (List.forall_mem_cons.2 ⟨Yd.lasts_ex _, (List.forall_mem_cons.2 ⟨Yd.lasts_ex _, (List.forall_mem_cons.2 ⟨Yd.lasts_ex _, (List.forall_mem_cons.2 ⟨Yd.lasts_ex _, (List.forall_mem_cons.2 ⟨Yd.lasts_ex _, (List.forall_mem_cons.2 ⟨Yd.lasts_ex _, (List.forall_mem_cons.2 ⟨Yd.lasts_ex _, (List.forall_mem_cons.2 ⟨Yd.lasts_ex _, (List.forall_mem_cons.2 ⟨Yd.lasts_ex _, (List.forall_mem_cons.2 ⟨Yd.lasts_ex _, (List.forall_mem_cons.2 ⟨Yd.lasts_ex _, (List.forall_mem_cons.2 ⟨Yd.lasts_ex _, (List.forall_mem_cons.2 ⟨Yd.lasts_ex _, (List.forall_mem_cons.2 ⟨Yd.lasts_ex _, (List.forall_mem_cons.2 ⟨Yd.lasts_ex _, (List.forall_mem_cons.2 ⟨Yd.lasts_ex _, (List.forall_mem_cons.2 ⟨Yd.lasts_ex _, (List.forall_mem_cons.2 ⟨Yd.lasts_ex _, (List.forall_mem_cons.2 ⟨Yd.lasts_ex _, (List.forall_mem_cons.2 ⟨Yd.lasts_ex _, (List.forall_mem_cons.2 ⟨Yd.lasts_ex _, (List.forall_mem_cons.2 ⟨Yd.lasts_ex _, (List.forall_mem_cons.2 ⟨Yd.lasts_ex _, (List.forall_mem_cons.2 ⟨Yd.lasts_ex _, (List.forall_mem_cons.2 ⟨Yd.lasts_ex _, (List.forall_mem_cons.2 ⟨Yd.lasts_ex _, (List.forall_mem_cons.2 ⟨Yd.lasts_ex _, (List.forall_mem_cons.2 ⟨Yd.lasts_ex _, (List.forall_mem_cons.2 ⟨Yd.lasts_ex _, (List.forall_mem_cons.2 ⟨Yd.lasts_ex _, (List.forall_mem_cons.2 ⟨Yd.lasts_ex _, (List.forall_mem_cons.2 ⟨Yd.lasts_ex _, (List.forall_mem_cons.2 ⟨Yd.lasts_ex _, (List.forall_mem_cons.2 ⟨Yd.lasts_ex _, (List.forall_mem_cons.2 ⟨Yd.lasts_ex _, (List.forall_mem_cons.2 ⟨Yd.lasts_ex _, (List.forall_mem_cons.2 ⟨Yd.lasts_ex _, (fun _ h => by cases h)⟩)⟩)⟩)⟩)⟩)⟩)⟩)⟩)⟩)⟩)⟩)⟩)⟩)⟩)⟩)⟩)⟩)⟩)⟩)⟩)⟩)⟩)⟩)⟩)⟩)⟩)⟩)⟩)⟩)⟩)⟩)⟩)⟩)⟩)⟩)⟩)⟩)⟩)⟩)⟩)⟩)⟩)⟩)⟩)⟩)⟩)⟩)⟩)⟩)⟩) ⟨?_, ?_, ?_, ?_, ?_, ?_, ?_, ?_, ?_, ?_, ?_, ?_, ?_, ?_, ?_, ?_, ?_, ?_, ?_, ?_, ?_, ?_, ?_, ?_, ?_, ?_, ?_, ?_, ?_, ?_, ?_, ?_, ?_, ?_, ?_, ?_, ?_, ?_, ?_, ?_, ?_, ?_, ?_, ?_, ?_, ?_, ?_, ?_, ?_, ?_, trivial⟩ ?_
              · intro e1 w1 hb hp hun
                refine Ops.fld (hB.below hb) rfl rfl rfl rfl inferInstance ?_
                refine Ops.nil ?_
                exact After.dn (Below.refl _ _) (by exact rfl)
              · intro e1 w1 hb hp hun
                refine Ops.ldf_s (hB.below hb) rfl rfl rfl rfl rfl ?_
                refine Ops.nil ?_
                exact After.dn (Below.refl _ _) (by exact rfl)
              · intro e1 w1 hb hp hun
                refine Ops.mv_int rfl rfl rfl ?_
                refine Ops.nil ?_
                exact After.dn (Below.refl _ _) (by exact rfl)
              · intro e1 w1 hb hp hun
                refine Ops.idx (hM.top.later hb).2 rfl rfl rfl (by omega) (by omega) ?_
                refine Ops.nil ?_
                exact After.dn (Below.refl _ _) (by exact rfl)
              · intro e1 w1 hb hp hun
                refine Ops.ld_sl (hM.top.later hb) rfl (by omega) rfl rfl ?_
                refine Ops.nil ?_
                exact After.dn (Below.refl _ _) (by exact rfl)
              · intro e1 w1 hb hp hun
                refine Ops.fld (hB.below hb) rfl rfl rfl rfl inferInstance ?_
                refine Ops.nil ?_
                exact After.dn (Below.refl _ _) (by exact rfl)
              · intro e1 w1 hb hp hun
                refine Ops.ldf_s (hB.below hb) rfl rfl rfl rfl rfl ?_
                refine Ops.nil ?_
                exact After.dn (Below.refl _ _) (by exact rfl)
              · intro e1 w1 hb hp hun
                refine Ops.mv_int rfl rfl rfl ?_
                refine Ops.nil ?_
                exact After.dn (Below.refl _ _) (by exact rfl)
              · intro e1 w1 hb hp hun
                refine Ops.idx (hM.top.later hb).2 rfl rfl rfl (by omega) (by omega) ?_
                refine Ops.nil ?_
                exact After.dn (Below.refl _ _) (by exact rfl)
              · intro e1 w1 hb hp hun
                refine Ops.ld_sl (hM.top.later hb) rfl (by omega) rfl rfl ?_
                refine Ops.nil ?_
                exact After.dn (Below.refl _ _) (by exact rfl)
              · intro e1 w1 hb hp hun
                refine Ops.mv_int rfl rfl rfl ?_
                refine Ops.nil ?_
                exact After.dn (Below.refl _ _) (by exact rfl)
              · intro e1 w1 hb hp hun
                refine Ops.idx (hri.later hb).2 rfl rfl rfl (by omega) (by omega) ?_
                refine Ops.nil ?_
                exact After.dn (Below.refl _ _) (by exact rfl)
              · intro e1 w1 hb hp hun
                refine Ops.ld_int (hri.later hb) rfl (by omega) rfl rfl ?_
                refine Ops.nil ?_
                exact After.dn (Below.refl _ _) (by exact rfl)
              · intro e1 w1 hb hp hun
                refine Ops.idx (hrk'.later hb).2 rfl rfl rfl (by omega) (by omega) ?_
                refine Ops.nil ?_
                exact After.dn (Below.refl _ _) (by exact rfl)
              · intro e1 w1 hb hp hun
                refine Ops.ld_int (hrk'.later hb) rfl (by omega) rfl rfl ?_
                refine Ops.nil ?_
                exact After.dn (Below.refl _ _) (by exact rfl)
              · intro e1 w1 hb hp hun
                refine Ops.fld (hB.below hb) rfl rfl rfl rfl inferInstance ?_
                refine Ops.nil ?_
                exact After.dn (Below.refl _ _) (by exact rfl)
              · intro e1 w1 hb hp hun
                refine Ops.ldf_s (hB.below hb) rfl rfl rfl rfl rfl ?_
                refine Ops.nil ?_
                exact After.dn (Below.refl _ _) (by exact rfl)
              · intro e1 w1 hb hp hun
                refine Ops.mv_int rfl rfl rfl ?_
                refine Ops.nil ?_
                exact After.dn (Below.refl _ _) (by exact rfl)
              · intro e1 w1 hb hp hun
                refine Ops.idx (hM.top.later hb).2 rfl rfl rfl (by omega) (by omega) ?_
                refine Ops.nil ?_
                exact After.dn (Below.refl _ _) (by exact rfl)
              · intro e1 w1 hb hp hun
                refine Ops.ld_sl (hM.top.later hb) rfl (by omega) rfl rfl ?_
                refine Ops.nil ?_
                exact After.dn (Below.refl _ _) (by exact rfl)
              · intro e1 w1 hb hp hun
                refine Ops.fld (hB.below hb) rfl rfl rfl rfl inferInstance ?_
                refine Ops.nil ?_
                exact After.dn (Below.refl _ _) (by exact rfl)
              · intro e1 w1 hb hp hun
                refine Ops.ldf_s (hB.below hb) rfl rfl rfl rfl rfl ?_
                refine Ops.nil ?_
                exact After.dn (Below.refl _ _) (by exact rfl)
              · intro e1 w1 hb hp hun
                refine Ops.mv_int rfl rfl rfl ?_
                refine Ops.nil ?_
                exact After.dn (Below.refl _ _) (by exact rfl)
              · intro e1 w1 hb hp hun
                refine Ops.idx (hM.top.later hb).2 rfl rfl rfl (by omega) (by omega) ?_
                refine Ops.nil ?_
                exact After.dn (Below.refl _ _) (by exact rfl)
              · intro e1 w1 hb hp hun
                refine Ops.ld_sl (hM.top.later hb) rfl (by omega) rfl rfl ?_
                refine Ops.nil ?_
                exact After.dn (Below.refl _ _) (by exact rfl)
              · intro e1 w1 hb hp hun
                refine Ops.mv_int rfl rfl rfl ?_
                refine Ops.nil ?_
                exact After.dn (Below.refl _ _) (by exact rfl)
              · intro e1 w1 hb hp hun
                refine Ops.idx (hrk'.later hb).2 rfl rfl rfl (by omega) (by omega) ?_
                refine Ops.nil ?_
                exact After.dn (Below.refl _ _) (by exact rfl)
              · intro e1 w1 hb hp hun
                refine Ops.ld_int (hrk'.later hb) rfl (by omega) rfl rfl ?_
                refine Ops.nil ?_
                exact After.dn (Below.refl _ _) (by exact rfl)
              · intro e1 w1 hb hp hun
                refine Ops.idx (hri.later hb).2 rfl rfl rfl (by omega) (by omega) ?_
                refine Ops.nil ?_
                exact After.dn (Below.refl _ _) (by exact rfl)
              · intro e1 w1 hb hp hun
                refine Ops.ld_int (hri.later hb) rfl (by omega) rfl rfl ?_
                refine Ops.nil ?_
                exact After.dn (Below.refl _ _) (by exact rfl)
              · intro e1 w1 hb hp hun
                refine Ops.neq rfl rfl rfl ?_
                refine Ops.nil ?_
                exact After.dn (Below.refl _ _) (by exact congrArg Value.bool (decide_eq_false (fun h => h h9)))
              · intro e1 w1 hb hp hun
                refine Ops.mv_bool rfl rfl rfl ?_
                refine Ops.nil ?_
                exact After.dn (Below.refl _ _) (by exact rfl)
              · intro e1 w1 hb hp hun
                refine Ops.rung rfl rfl rfl ?_
                refine Ops.fld (hB.below hb) rfl rfl rfl rfl inferInstance ?_
                refine Ops.nil ?_
                exact After.dn (Below.refl _ _) (by exact rfl)
              · intro e1 w1 hb hp hun
                refine Ops.rung rfl rfl rfl ?_
                refine Ops.ldf_s (hB.below hb) rfl rfl rfl rfl rfl ?_
                refine Ops.nil ?_
                exact After.dn (Below.refl _ _) (by exact rfl)
              · intro e1 w1 hb hp hun
                refine Ops.rung rfl rfl rfl ?_
                refine Ops.mv_int rfl rfl rfl ?_
                refine Ops.nil ?_
                exact After.dn (Below.refl _ _) (by exact rfl)
              · intro e1 w1 hb hp hun
                refine Ops.rung rfl rfl rfl ?_
                refine Ops.idx (hM.top.later hb).2 rfl rfl rfl (by omega) (by omega) ?_
                refine Ops.nil ?_
                exact After.dn (Below.refl _ _) (by exact rfl)
              · intro e1 w1 hb hp hun
                refine Ops.rung rfl rfl rfl ?_
                refine Ops.ld_sl (hM.top.later hb) rfl (by omega) rfl rfl ?_
                refine Ops.nil ?_
                exact After.dn (Below.refl _ _) (by exact rfl)
              · intro e1 w1 hb hp hun
                refine Ops.rung rfl rfl rfl ?_
                refine Ops.mv_int rfl rfl rfl ?_
                refine Ops.nil ?_
                exact After.dn (Below.refl _ _) (by exact rfl)
              · intro e1 w1 hb hp hun
                refine Ops.rung rfl rfl rfl ?_
                refine Ops.idx (hri.later hb).2 rfl rfl rfl (by omega) (by omega) ?_
                refine Ops.nil ?_
                exact After.dn (Below.refl _ _) (by exact rfl)
              · intro e1 w1 hb hp hun
                refine Ops.rung rfl rfl rfl ?_
                refine Ops.ld_int (hri.later hb) rfl (by omega) rfl rfl ?_
                refine Ops.nil ?_
                exact After.dn (Below.refl _ _) (by exact rfl)
              · intro e1 w1 hb hp hun
                refine Ops.rung rfl rfl rfl ?_
                refine Ops.fld (hB.below hb) rfl rfl rfl rfl inferInstance ?_
                refine Ops.nil ?_
                exact After.dn (Below.refl _ _) (by exact rfl)
              · intro e1 w1 hb hp hun
                refine Ops.rung rfl rfl rfl ?_
                refine Ops.ldf_s (hB.below hb) rfl rfl rfl rfl rfl ?_
                refine Ops.nil ?_
                exact After.dn (Below.refl _ _) (by exact rfl)
              · intro e1 w1 hb hp hun
                refine Ops.rung rfl rfl rfl ?_
                refine Ops.mv_int rfl rfl rfl ?_
                refine Ops.nil ?_
                exact After.dn (Below.refl _ _) (by exact rfl)
              · intro e1 w1 hb hp hun
                refine Ops.rung rfl rfl rfl ?_
                refine Ops.idx (hM.top.later hb).2 rfl rfl rfl (by omega) (by omega) ?_
                refine Ops.nil ?_
                exact After.dn (Below.refl _ _) (by exact rfl)
              · intro e1 w1 hb hp hun
                refine Ops.rung rfl rfl rfl ?_
                refine Ops.ld_sl (hM.top.later hb) rfl (by omega) rfl rfl ?_
                refine Ops.nil ?_
                exact After.dn (Below.refl _ _) (by exact rfl)
              · intro e1 w1 hb hp hun
                refine Ops.rung rfl rfl rfl ?_
                refine Ops.mv_int rfl rfl rfl ?_
                refine Ops.nil ?_
                exact After.dn (Below.refl _ _) (by exact rfl)
              · intro e1 w1 hb hp hun
                refine Ops.rung rfl rfl rfl ?_
                refine Ops.idx (hrk'.later hb).2 rfl rfl rfl (by omega) (by omega) ?_
                refine Ops.nil ?_
                exact After.dn (Below.refl _ _) (by exact rfl)
              · intro e1 w1 hb hp hun
                refine Ops.rung rfl rfl rfl ?_
                refine Ops.ld_int (hrk'.later hb) rfl (by omega) rfl rfl ?_
                refine Ops.nil ?_
                exact After.dn (Below.refl _ _) (by exact rfl)
              · intro e1 w1 hb hp hun
                refine Ops.rung rfl rfl rfl ?_
                refine Ops.eql rfl rfl rfl ?_
                refine Ops.nil ?_
                exact After.dn (Below.refl _ _) (by exact congrArg Value.bool (decide_eq_false h10))
              · intro e1 w1 hb hp hun
                refine Ops.pick_f rfl rfl rfl ?_
                refine Ops.nil ?_
                exact After.dn (Below.refl _ _) (by exact rfl)
              intro u w6 hb6 _
              have hS6 := hS5.later hb6
              refine thenQ_n ?_
              -- stop: cond
              refine Cd.cond_f rfl ?_
              refine Cd.skip ?_
              refine blockQ_n ?_
              refine thenQ_n ?_
              refine Cd.region ?_
              refine Ops.mv_int rfl rfl rfl ?_
              refine Ops.add rfl rfl rfl (by omega) ?_
              refine Ops.mv_int rfl rfl rfl ?_
              refine Ops.nil ?_
              refine thenQ_n ?_
              -- stop: round
              refine ⟨f + 1, by omega, ⟨rfl, rfl, rfl, rfl, rfl, trivial⟩, hS6, by omega, fun f' hf' => ?_⟩
              by_cases ef : f' = f
              · subst ef; exact ⟨h9, h10⟩
              · exact hC5 f' (by omega)
          · refine Cd.draw [.ex (.pointer (ptrAt (Ab) 0)), .ex (.slice (A) (n) (c)), .ex (.int .i64 ((k : Int))), .ex (.pointer (ptrAt (A) ((k : Int)).toNat)), .ex (.slice ((rg (rs) ((k : Int))).a) ((rg (rs) ((k : Int))).n) ((rg (rs) ((k : Int))).c)), .ex (.pointer (ptrAt (Ab) 0)), .ex (.slice (A) (n) (c)), .ex (.int .i64 ((i : Int))), .ex (.pointer (ptrAt (A) ((i : Int)).toNat)), .ex (.slice ((rg (rs) ((i : Int))).a) ((rg (rs) ((i : Int))).n) ((rg (rs) ((i : Int))).c)), .ex (.int .i64 ((f : Int))), .ex (.pointer (ptrAt ((rg (rs) ((i : Int))).a) ((f : Int)).toNat)), .ex (.int .i64 (gi (gl xss i) ((f : Int)))), .ex (.pointer (ptrAt ((rg (rs) ((k : Int))).a) (gi (gl xss i) ((f : Int))).toNat)), .ex (.int .i64 (gi (gl xss k) (gi (gl xss i) ((f : Int))))), .ex (.pointer (ptrAt (Ab) 0)), .ex (.slice (A) (n) (c)), .ex (.int .i64 ((i : Int))), .ex (.pointer (ptrAt (A) ((i : Int)).toNat)), .ex (.slice ((rg (rs) ((i : Int))).a) ((rg (rs) ((i : Int))).n) ((rg (rs) ((i : Int))).c)), .ex (.pointer (ptrAt (Ab) 0)), .ex (.slice (A) (n) (c)), .ex (.int .i64 ((k : Int))), .ex (.pointer (ptrAt (A) ((k : Int)).toNat)), .ex (.slice ((rg (rs) ((k : Int))).a) ((rg (rs) ((k : Int))).n) ((rg (rs) ((k : Int))).c)), .ex (.int .i64 ((f : Int))), .ex (.pointer (ptrAt ((rg (rs) ((k : Int))).a) ((f : Int)).toNat)), .ex (.int .i64 (gi (gl xss k) ((f : Int)))), .ex (.pointer (ptrAt ((rg (rs) ((i : Int))).a) (gi (gl xss k) ((f : Int))).toNat)), .ex (.int .i64 (gi (gl xss i) (gi (gl xss k) ((f : Int))))), .ex (.bool (true)), .ex (.bool (true)), .ex (undef), .ex (undef), .ex (undef), .ex (undef), .ex (undef), .ex (undef), .ex (undef), .ex (undef), .ex (undef), .ex (undef), .ex (undef), .ex (undef), .ex (undef), .ex (undef), .ex (undef), .ex (undef), .ex (undef), .ex (.bool (true))] (by kernel_rfl) (by kernel_rfl) rfl (List.forall_mem_cons.2 ⟨Yd.lasts_ex _, (List.forall_mem_cons.2 ⟨Yd.lasts_ex _, (List.forall_mem_cons.2 ⟨Yd.lasts_ex _, (List.forall_mem_cons.2 ⟨Yd.lasts_ex _, (List.forall_mem_cons.2 ⟨Yd.lasts_ex _, (List.forall_mem_cons.2 ⟨Yd.lasts_ex _, (List.forall_mem_cons.2 ⟨Yd.lasts_ex _, (List.forall_mem_cons.2 ⟨Yd.lasts_ex _, (List.forall_mem_cons.2 ⟨Yd.lasts_ex _, (List.forall_mem_cons.2 ⟨Yd.lasts_ex _, (List.forall_mem_cons.2 ⟨Yd.lasts_ex _, (List.forall_mem_cons.2 ⟨Yd.lasts_ex _, (List.forall_mem_cons.2 ⟨Yd.lasts_ex _, (List.forall_mem_cons.2 ⟨Yd.lasts_ex _, (List.forall_mem_cons.2 ⟨Yd.lasts_ex _, (List.forall_mem_cons.2 ⟨Yd.lasts_ex _, (List.forall_mem_cons.2 ⟨Yd.lasts_ex _, (List.forall_mem_cons.2 ⟨Yd.lasts_ex _, (List.forall_mem_cons.2 ⟨Yd.lasts_ex _, (List.forall_mem_cons.2 ⟨Yd.lasts_ex _, (List.forall_mem_cons.2 ⟨Yd.lasts_ex _, (List.forall_mem_cons.2 ⟨Yd.lasts_ex _, (List.forall_mem_cons.2 ⟨Yd.lasts_ex _, (List.forall_mem_cons.2 ⟨Yd.lasts_ex _, (List.forall_mem_cons.2 ⟨Yd.lasts_ex _, (List.forall_mem_cons.2 ⟨Yd.lasts_ex _, (List.forall_mem_cons.2 ⟨Yd.lasts_ex _, (List.forall_mem_cons.2 ⟨Yd.lasts_ex _, (List.forall_mem_cons.2 ⟨Yd.lasts_ex _, (List.forall_mem_cons.2 ⟨Yd.lasts_ex _, (List.forall_mem_cons.2 ⟨Yd.lasts_ex _, (List.forall_mem_cons.2 ⟨Yd.lasts_ex _, (List.forall_mem_cons.2 ⟨Yd.lasts_ex _, (List.forall_mem_cons.2 ⟨Yd.lasts_ex _, (List.forall_mem_cons.2 ⟨Yd.lasts_ex _, (List.forall_mem_cons.2 ⟨Yd.lasts_ex _, (List.forall_mem_cons.2 ⟨Yd.lasts_ex _, (List.forall_mem_cons.2 ⟨Yd.lasts_ex _, (List.forall_mem_cons.2 ⟨Yd.lasts_ex _, (List.forall_mem_cons.2 ⟨Yd.lasts_ex _, (List.forall_mem_cons.2 ⟨Yd.lasts_ex _, (List.forall_mem_cons.2 ⟨Yd.lasts_ex _, (List.forall_mem_cons.2 ⟨Yd.lasts_ex _, (List.forall_mem_cons.2 ⟨Yd.lasts_ex _, (List.forall_mem_cons.2 ⟨Yd.lasts_ex _, (List.forall_mem_cons.2 ⟨Yd.lasts_ex _, (List.forall_mem_cons.2 ⟨Yd.lasts_ex _, (List.forall_mem_cons.2 ⟨Yd.lasts_ex _, (List.forall_mem_cons.2 ⟨Yd.lasts_ex _, (List.forall_mem_cons.2 ⟨Yd.lasts_ex _, (fun _ h => by cases h)⟩)⟩)⟩)⟩)⟩)⟩)⟩)⟩)⟩)⟩)⟩)⟩)⟩)⟩)⟩)⟩)⟩)⟩)⟩)⟩)⟩)⟩)⟩)⟩)⟩)⟩)⟩)⟩)⟩)⟩)⟩)⟩)⟩)⟩)⟩)⟩)⟩)⟩)⟩)⟩)⟩)⟩)⟩)⟩)⟩)⟩)⟩)⟩)⟩)⟩) ⟨?_, ?_, ?_, ?_, ?_, ?_, ?_, ?_, ?_, ?_, ?_, ?_, ?_, ?_, ?_, ?_, ?_, ?_, ?_, ?_, ?_, ?_, ?_, ?_, ?_, ?_, ?_, ?_, ?_, ?_, ?_, ?_, ?_, ?_, ?_, ?_, ?_, ?_, ?_, ?_, ?_, ?_, ?_, ?_, ?_, ?_, ?_, ?_, ?_, ?_, trivial⟩ ?_
            · intro e1 w1 hb hp hun
              refine Ops.fld (hB.below hb) rfl rfl rfl rfl inferInstance ?_
              refine Ops.nil ?_
              exact After.dn (Below.refl _ _) (by exact rfl)
            · intro e1 w1 hb hp hun
              refine Ops.ldf_s (hB.below hb) rfl rfl rfl rfl rfl ?_
              refine Ops.nil ?_
              exact After.dn (Below.refl _ _) (by exact rfl)
            · intro e1 w1 hb hp hun
              refine Ops.mv_int rfl rfl rfl ?_
              refine Ops.nil ?_
              exact After.dn (Below.refl _ _) (by exact rfl)
            · intro e1 w1 hb hp hun
              refine Ops.idx (hM.top.later hb).2 rfl rfl rfl (by omega) (by omega) ?_
              refine Ops.nil ?_
              exact After.dn (Below.refl _ _) (by exact rfl)
            · intro e1 w1 hb hp hun
              refine Ops.ld_sl (hM.top.later hb) rfl (by omega) rfl rfl ?_
              refine Ops.nil ?_
              exact After.dn (Below.refl _ _) (by exact rfl)
            · intro e1 w1 hb hp hun
              refine Ops.fld (hB.below hb) rfl rfl rfl rfl inferInstance ?_
              refine Ops.nil ?_
              exact After.dn (Below.refl _ _) (by exact rfl)
            · intro e1 w1 hb hp hun
              refine Ops.ldf_s (hB.below hb) rfl rfl rfl rfl rfl ?_
              refine Ops.nil ?_
              exact After.dn (Below.refl _ _) (by exact rfl)
            · intro e1 w1 hb hp hun
              refine Ops.mv_int rfl rfl rfl ?_
              refine Ops.nil ?_
              exact After.dn (Below.refl _ _) (by exact rfl)
            · intro e1 w1 hb hp hun
              refine Ops.idx (hM.top.later hb).2 rfl rfl rfl (by omega) (by omega) ?_
              refine Ops.nil ?_
              exact After.dn (Below.refl _ _) (by exact rfl)
            · intro e1 w1 hb hp hun
              refine Ops.ld_sl (hM.top.later hb) rfl (by omega) rfl rfl ?_
              refine Ops.nil ?_
              exact After.dn (Below.refl _ _) (by exact rfl)
            · intro e1 w1 hb hp hun
              refine Ops.mv_int rfl rfl rfl ?_
              refine Ops.nil ?_
              exact After.dn (Below.refl _ _) (by exact rfl)
            · intro e1 w1 hb hp hun
              refine Ops.idx (hri.later hb).2 rfl rfl rfl (by omega) (by omega) ?_
              refine Ops.nil ?_
              exact After.dn (Below.refl _ _) (by exact rfl)
            · intro e1 w1 hb hp hun
              refine Ops.ld_int (hri.later hb) rfl (by omega) rfl rfl ?_
              refine Ops.nil ?_
              exact After.dn (Below.refl _ _) (by exact rfl)
            · intro e1 w1 hb hp hun
              refine Ops.idx (hrk'.later hb).2 rfl rfl rfl (by omega) (by omega) ?_
              refine Ops.nil ?_
              exact After.dn (Below.refl _ _) (by exact rfl)
            · intro e1 w1 hb hp hun
              refine Ops.ld_int (hrk'.later hb) rfl (by omega) rfl rfl ?_
              refine Ops.nil ?_
              exact After.dn (Below.refl _ _) (by exact rfl)
            · intro e1 w1 hb hp hun
              refine Ops.fld (hB.below hb) rfl rfl rfl rfl inferInstance ?_
              refine Ops.nil ?_
              exact After.dn (Below.refl _ _) (by exact rfl)
            · intro e1 w1 hb hp hun
              refine Ops.ldf_s (hB.below hb) rfl rfl rfl rfl rfl ?_
              refine Ops.nil ?_
              exact After.dn (Below.refl _ _) (by exact rfl)
            · intro e1 w1 hb hp hun
              refine Ops.mv_int rfl rfl rfl ?_
              refine Ops.nil ?_
              exact After.dn (Below.refl _ _) (by exact rfl)
            · intro e1 w1 hb hp hun
              refine Ops.idx (hM.top.later hb).2 rfl rfl rfl (by omega) (by omega) ?_
              refine Ops.nil ?_
              exact After.dn (Below.refl _ _) (by exact rfl)
            · intro e1 w1 hb hp hun
              refine Ops.ld_sl (hM.top.later hb) rfl (by omega) rfl rfl ?_
              refine Ops.nil ?_
              exact After.dn (Below.refl _ _) (by exact rfl)
            · intro e1 w1 hb hp hun
              refine Ops.fld (hB.below hb) rfl rfl rfl rfl inferInstance ?_
              refine Ops.nil ?_
              exact After.dn (Below.refl _ _) (by exact rfl)
            · intro e1 w1 hb hp hun
              refine Ops.ldf_s (hB.below hb) rfl rfl rfl rfl rfl ?_
              refine Ops.nil ?_
              exact After.dn (Below.refl _ _) (by exact rfl)
            · intro e1 w1 hb hp hun
              refine Ops.mv_int rfl rfl rfl ?_
              refine Ops.nil ?_
              exact After.dn (Below.refl _ _) (by exact rfl)
            · intro e1 w1 hb hp hun
              refine Ops.idx (hM.top.later hb).2 rfl rfl rfl (by omega) (by omega) ?_
              refine Ops.nil ?_
              exact After.dn (Below.refl _ _) (by exact rfl)
            · intro e1 w1 hb hp hun
              refine Ops.ld_sl (hM.top.later hb) rfl (by omega) rfl rfl ?_
              refine Ops.nil ?_
              exact After.dn (Below.refl _ _) (by exact rfl)
            · intro e1 w1 hb hp hun
              refine Ops.mv_int rfl rfl rfl ?_
              refine Ops.nil ?_
              exact After.dn (Below.refl _ _) (by exact rfl)
            · intro e1 w1 hb hp hun
              refine Ops.idx (hrk'.later hb).2 rfl rfl rfl (by omega) (by omega) ?_
              refine Ops.nil ?_
              exact After.dn (Below.refl _ _) (by exact rfl)
            · intro e1 w1 hb hp hun
              refine Ops.ld_int (hrk'.later hb) rfl (by omega) rfl rfl ?_
              refine Ops.nil ?_
              exact After.dn (Below.refl _ _) (by exact rfl)
            · intro e1 w1 hb hp hun
              refine Ops.idx (hri.later hb).2 rfl rfl rfl (by omega) (by omega) ?_
              refine Ops.nil ?_
              exact After.dn (Below.refl _ _) (by exact rfl)
            · intro e1 w1 hb hp hun
              refine Ops.ld_int (hri.later hb) rfl (by omega) rfl rfl ?_
              refine Ops.nil ?_
              exact After.dn (Below.refl _ _) (by exact rfl)
            · intro e1 w1 hb hp hun
              refine Ops.neq rfl rfl rfl ?_
              refine Ops.nil ?_
              exact After.dn (Below.refl _ _) (by exact congrArg Value.bool (decide_eq_true h9))
            · intro e1 w1 hb hp hun
              refine Ops.mv_bool rfl rfl rfl ?_
              refine Ops.nil ?_
              exact After.dn (Below.refl _ _) (by exact rfl)
            · intro e1 w1 hb hp hun
              refine Ops.skipg rfl rfl rfl rfl rfl ?_
              refine Ops.nil ?_
              exact After.dn (Below.refl _ _) (by exact rfl)
            · intro e1 w1 hb hp hun
              refine Ops.skipg rfl rfl rfl rfl rfl ?_
              refine Ops.nil ?_
              exact After.dn (Below.refl _ _) (by exact rfl)
            · intro e1 w1 hb hp hun
              refine Ops.skipg rfl rfl rfl rfl rfl ?_
              refine Ops.nil ?_
              exact After.dn (Below.refl _ _) (by exact rfl)
            · intro e1 w1 hb hp hun
              refine Ops.skipg rfl rfl rfl rfl rfl ?_
              refine Ops.nil ?_
              exact After.dn (Below.refl _ _) (by exact rfl)
            · intro e1 w1 hb hp hun
              refine Ops.skipg rfl rfl rfl rfl rfl ?_
              refine Ops.nil ?_
              exact After.dn (Below.refl _ _) (by exact rfl)
            · intro e1 w1 hb hp hun
              refine Ops.skipg rfl rfl rfl rfl rfl ?_
              refine Ops.nil ?_
              exact After.dn (Below.refl _ _) (by exact rfl)
            · intro e1 w1 hb hp hun
              refine Ops.skipg rfl rfl rfl rfl rfl ?_
              refine Ops.nil ?_
              exact After.dn (Below.refl _ _) (by exact rfl)
            · intro e1 w1 hb hp hun
              refine Ops.skipg rfl rfl rfl rfl rfl ?_
              refine Ops.nil ?_
              exact After.dn (Below.refl _ _) (by exact rfl)
            · intro e1 w1 hb hp hun
              refine Ops.skipg rfl rfl rfl rfl rfl ?_
              refine Ops.nil ?_
              exact After.dn (Below.refl _ _) (by exact rfl)
            · intro e1 w1 hb hp hun
              refine Ops.skipg rfl rfl rfl rfl rfl ?_
              refine Ops.nil ?_
              exact After.dn (Below.refl _ _) (by exact rfl)
            · intro e1 w1 hb hp hun
              refine Ops.skipg rfl rfl rfl rfl rfl ?_
              refine Ops.nil ?_
              exact After.dn (Below.refl _ _) (by exact rfl)
            · intro e1 w1 hb hp hun
              refine Ops.skipg rfl rfl rfl rfl rfl ?_
              refine Ops.nil ?_
              exact After.dn (Below.refl _ _) (by exact rfl)
            · intro e1 w1 hb hp hun
              refine Ops.skipg rfl rfl rfl rfl rfl ?_
              refine Ops.nil ?_
              exact After.dn (Below.refl _ _) (by exact rfl)
            · intro e1 w1 hb hp hun
              refine Ops.skipg rfl rfl rfl rfl rfl ?_
              refine Ops.nil ?_
              exact After.dn (Below.refl _ _) (by exact rfl)
            · intro e1 w1 hb hp hun
              refine Ops.skipg rfl rfl rfl rfl rfl ?_
              refine Ops.nil ?_
              exact After.dn (Below.refl _ _) (by exact rfl)
            · intro e1 w1 hb hp hun
              refine Ops.skipg rfl rfl rfl rfl rfl ?_
              refine Ops.nil ?_
              exact After.dn (Below.refl _ _) (by exact rfl)
            · intro e1 w1 hb hp hun
              refine Ops.skipg rfl rfl rfl rfl rfl ?_
              refine Ops.nil ?_
              exact After.dn (Below.refl _ _) (by exact rfl)
            · intro e1 w1 hb hp hun
              refine Ops.pick_t rfl rfl rfl ?_
              refine Ops.nil ?_
              exact After.dn (Below.refl _ _) (by exact rfl)
            intro u w6 hb6 _
            have hS6 := hS5.later hb6
            refine thenQ_n ?_
            -- stop: cond
            refine Cd.cond_t rfl ?_
            refine Cd.seq ?_
            refine Cd.region ?_
            refine Ops.mv_bool rfl rfl rfl ?_
            refine Ops.nil ?_
            refine thenQ_n ?_
            refine Cd.ret ?_
            refine blockQ_r ?_
            refine thenQ_r ?_
            refine thenQ_r ?_
            refine blockQ_r ?_
            refine blockQ_r ?_
            refine thenQ_r ?_
            refine thenQ_r ?_
            refine blockQ_r ?_
            refine blockQ_r ?_
            refine thenQ_r ?_
            refine thenQ_r ?_
            refine blockQ_r ?_
            refine thenQ_r ?_
            refine ret1_b rfl ?_
            -- stop: end
            exact ⟨by rw [decide_eq_false (fun h : Mani xss => h9 (h.2.2.2.1 i (by omega) k (by omega) hik f (by omega)).1)], hS6.none⟩
        · refine Cd.exit ?_
          refine thenQ_x ?_
          refine thenQ_x ?_
          refine blockQ_x ?_
          refine blockQ_n ?_
          refine thenQ_n ?_
          refine Cd.region ?_
          refine Ops.mv_int rfl rfl rfl ?_
          refine Ops.add rfl rfl rfl (by omega) ?_
          refine Ops.mv_int rfl rfl rfl ?_
          refine Ops.nil ?_
          refine thenQ_n ?_
          -- stop: round
          refine ⟨k + 1, by omega, ⟨rfl, rfl, rfl, rfl, trivial⟩, hS5, by omega, fun k' hk' hkn hik' f' hf' => ?_⟩
          by_cases ek : k' = k
          · subst ek; exact hC5 f' (by omega)
          · exact hC4 k' (by omega) hkn hik' f' hf'
      · refine Cd.exit ?_
        refine thenQ_x ?_
        refine thenQ_x ?_
        refine blockQ_x ?_
        refine blockQ_n ?_
        refine thenQ_n ?_
        refine Cd.region ?_
        refine Ops.mv_int rfl rfl rfl ?_
        refine Ops.add rfl rfl rfl (by omega) ?_
        refine Ops.mv_int rfl rfl rfl ?_
        refine Ops.nil ?_
        refine thenQ_n ?_
        -- stop: round
        refine ⟨i + 1, by omega, ⟨rfl, rfl, rfl, trivial⟩, hS4, by omega, fun i' hi' k' hk' hik' f' hf' => ?_⟩
        by_cases ei : i' = i
        · subst ei; exact hC4 k' (by omega) hk' hik' f' hf'
        · exact hC i' (by omega) k' hk' hik' f' hf'
    · have hM := hS3.oldRows hR
      have hB := hS3.rd 0 rfl
      refine Cd.exit ?_
      refine thenQ_x ?_
      refine thenQ_x ?_
      refine blockQ_x ?_
      refine thenQ_n ?_
      refine Cd.seq ?_
      -- stop: draw
      refine Cd.draw [.ex (.pointer (ptrAt (Ab) 0)), .ex (.slice (A) (n) (c)), .pr (fun v _ => ∃ A' c', v = .slice A' (orbit (gl xss 0).length xss 0).length c'), .ex (.int .i64 (((orbit (gl xss 0).length xss 0).length : Int))), .ex (.pointer (ptrAt (Ab) 0)), .ex (.slice (A) (n) (c)), .ex (.pointer (ptrAt (A) ((0 : Int)).toNat)), .ex (.slice ((rg (rs) ((0 : Int))).a) ((rg (rs) ((0 : Int))).n) ((rg (rs) ((0 : Int))).c)), .ex (.int .i64 ((((rg (rs) ((0 : Int))).n : Nat) : Int))), .ex (.bool (decide ((((orbit (gl xss 0).length xss 0).length : Int)) = ((((rg (rs) ((0 : Int))).n : Nat) : Int))))), .ex (.bool (decide ((((orbit (gl xss 0).length xss 0).length : Int)) = ((((rg (rs) ((0 : Int))).n : Nat) : Int)))))] (by kernel_rfl) (by kernel_rfl) rfl (List.forall_mem_cons.2 ⟨Yd.lasts_ex _, (List.forall_mem_cons.2 ⟨Yd.lasts_ex _, (List.forall_mem_cons.2 ⟨Yd.lasts_pr (fun _ _ _ h _ => h), (List.forall_mem_cons.2 ⟨Yd.lasts_ex _, (List.forall_mem_cons.2 ⟨Yd.lasts_ex _, (List.forall_mem_cons.2 ⟨Yd.lasts_ex _, (List.forall_mem_cons.2 ⟨Yd.lasts_ex _, (List.forall_mem_cons.2 ⟨Yd.lasts_ex _, (List.forall_mem_cons.2 ⟨Yd.lasts_ex _, (List.forall_mem_cons.2 ⟨Yd.lasts_ex _, (List.forall_mem_cons.2 ⟨Yd.lasts_ex _, (fun _ h => by cases h)⟩)⟩)⟩)⟩)⟩)⟩)⟩)⟩)⟩)⟩)⟩) ⟨?_, ?_, ?_, ?_, ?_, ?_, ?_, ?_, ?_, ?_, ?_, trivial⟩ ?_
      · intro e1 w1 hb hp hun
        refine Ops.fld (hB.below hb) rfl rfl rfl rfl inferInstance ?_
        refine Ops.nil ?_
        exact After.dn (Below.refl _ _) (by exact rfl)
      · intro e1 w1 hb hp hun
        refine Ops.ldf_s (hB.below hb) rfl rfl rfl rfl rfl ?_
        refine Ops.nil ?_
        exact After.dn (Below.refl _ _) (by exact rfl)
      · intro e1 w1 hb hp hun
        refine Ops.call (l01Orbit_c _ _ _ _ _ (gl xss 0).length 0 _ (hM.later hb) hn hs (by omega) (by omega) (by omega)) rfl rfl rfl ?_
        rintro _ w2 ⟨A', c', rfl, hst⟩
        refine Ops.nil ?_
        exact After.dn hst.below ⟨A', c', rfl⟩
      · intro e1 w1 hb hp hun
        obtain ⟨A', c', h141⟩ := (hp 2 (by decide) rfl _ _ rfl rfl)
        refine Ops.len (by exact h141) rfl ?_
        refine Ops.nil ?_
        exact After.dn (Below.refl _ _) (by exact rfl)
      · intro e1 w1 hb hp hun
        refine Ops.fld (hB.below hb) rfl rfl rfl rfl inferInstance ?_
        refine Ops.nil ?_
        exact After.dn (Below.refl _ _) (by exact rfl)
      · intro e1 w1 hb hp hun
        refine Ops.ldf_s (hB.below hb) rfl rfl rfl rfl rfl ?_
        refine Ops.nil ?_
        exact After.dn (Below.refl _ _) (by exact rfl)
      · intro e1 w1 hb hp hun
        refine Ops.idx (hM.top.later hb).2 rfl rfl rfl (by omega) (by omega) ?_
        refine Ops.nil ?_
        exact After.dn (Below.refl _ _) (by exact rfl)
      · intro e1 w1 hb hp hun
        refine Ops.ld_sl (hM.top.later hb) rfl (by omega) rfl rfl ?_
        refine Ops.nil ?_
        exact After.dn (Below.refl _ _) (by exact rfl)
      · intro e1 w1 hb hp hun
        refine Ops.len rfl rfl ?_
        refine Ops.nil ?_
        exact After.dn (Below.refl _ _) (by exact rfl)
      · intro e1 w1 hb hp hun
        refine Ops.eql rfl rfl rfl ?_
        refine Ops.nil ?_
        exact After.dn (Below.refl _ _) (by exact rfl)
      · intro e1 w1 hb hp hun
        refine Ops.mv_bool rfl rfl rfl ?_
        refine Ops.nil ?_
        exact After.dn (Below.refl _ _) (by exact rfl)
      intro u w6 hb6 _
      have hS6 := hS3.later hb6
      refine thenQ_n ?_
      refine Cd.ret ?_
      refine ret1_b rfl ?_
      -- stop: end
      refine ⟨?_, hS6.none⟩
      congr 1
      refine decide_eq_decide.2 ⟨fun h => ⟨by omega, by omega, hr1, fun i' hi' k' hk' hik' f' hf' => hC i' (by omega) k' (by omega) hik' f' hf', by omega⟩, fun h => by have := h.2.2.2.2; omega⟩

end Go.Proofs.Ytpdhjnacnmfbjaa.Vc
