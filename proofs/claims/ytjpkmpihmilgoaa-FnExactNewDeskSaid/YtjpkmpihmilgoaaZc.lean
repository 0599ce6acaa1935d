/-
  The texts B5, B6, B7, Drn, Agg, Rc2, Grw in one. Conditions: as each part states them.
-/
import Derived.Test.YtjpkmpihmilgoaaZb
import Derived.Test.YtjpkmpihmilgoaaZa
/-
  The walks that tell whether moves are a maniplex. Conditions: as each states them.
-/
namespace Go.Proofs.Ytjpkmpihmilgoaa.Vc
open Go.RowKit

def Comm (xss : List (List Int)) (i k f : Nat) : Prop := gi (gl xss k) (gi (gl xss i) f) = gi (gl xss i) (gi (gl xss k) f) ∧ gi (gl xss i) f ≠ gi (gl xss k) f
instance (xss : List (List Int)) (i k f : Nat) : Decidable (Comm xss i k f) := by unfold Comm; exact inferInstance
def Rows1 (xss : List (List Int)) : Prop := ∀ p ∈ xss, p.length = (gl xss 0).length ∧ IsPerm p ∧ IsFree p
instance (xss : List (List Int)) : Decidable (Rows1 xss) := by unfold Rows1; exact inferInstance
def Mani (xss : List (List Int)) : Prop :=
  (1 ≤ xss.length ∧ xss.length ≤ 5) ∧ (2 ≤ (gl xss 0).length ∧ (gl xss 0).length ≤ 400) ∧ Rows1 xss ∧ (∀ i, i < xss.length → ∀ k, k < xss.length → i + 2 ≤ k → ∀ f, f < (gl xss 0).length → Comm xss i k f) ∧ (orbit (gl xss 0).length xss 0).length = (gl xss 0).length
instance (xss : List (List Int)) : Decidable (Mani xss) := by unfold Mani; exact inferInstance

theorem IsPerm.inj {p : List Int} (h : IsPerm p) {x y : Int} (hx : 0 ≤ x) (hx' : x < p.length) (hy : 0 ≤ y) (hy' : y < p.length) (e : gi p x = gi p y) : x = y := by
  obtain ⟨a, rfl⟩ : ∃ a : Nat, x = a := ⟨x.toNat, by omega⟩
  obtain ⟨b, rfl⟩ : ∃ b : Nat, y = b := ⟨y.toNat, by omega⟩
  rw [gi_mem (by omega), gi_mem (by omega)] at e
  have := (List.getElem_inj (h₀ := by omega) (h₁ := by omega) h.2.2).1 e
  omega
theorem Rows1.sys {xss : List (List Int)} (h : Rows1 xss) : Sys (gl xss 0).length xss := fun p hp => by
  have h1 := h p hp
  refine ⟨h1.1, fun x h0 hx => ?_⟩
  have := h1.2.1.range (i := x) h0 (by omega)
  omega
theorem Rows1.inj {xss : List (List Int)} (h : Rows1 xss) : Inj (gl xss 0).length xss := fun p hp x y hx hx' hy hy' e => by
  have h1 := h p hp
  exact h1.2.1.inj hx (by omega) hy (by omega) e

/-- rows told one after another -/
def Part (xss : List (List Int)) (k : Nat) : Prop := ∀ p ∈ xss.take k, p.length = (gl xss 0).length ∧ IsPerm p ∧ IsFree p
theorem Part.step {xss : List (List Int)} {k : Nat} (h : Part xss k) (hk : k < xss.length) (h1 : (gl xss k).length = (gl xss 0).length) (h2 : IsPerm (gl xss k)) (h3 : IsFree (gl xss k)) : Part xss (k + 1) := by
  intro p hp
  rw [take_succ_gl hk, List.mem_append] at hp
  rcases hp with hp | hp
  · exact h p hp
  · simp at hp; subst hp; exact ⟨h1, h2, h3⟩
theorem Part.all {xss : List (List Int)} {k : Nat} (h : Part xss k) (hk : xss.length ≤ k) : Rows1 xss := by
  intro p hp
  refine h p ?_
  rw [List.take_of_length_le hk]; exact hp
theorem Rows1.at_ {xss : List (List Int)} (h : Rows1 xss) {k : Nat} (hk : k < xss.length) : (gl xss k).length = (gl xss 0).length ∧ IsPerm (gl xss k) ∧ IsFree (gl xss k) := h _ (by rw [gl_mem hk]; exact List.getElem_mem _)

theorem l02Is_c (A : Option Addr) (n c : Nat) (rs : List SlV) (xss : List (List Int)) (w : World) (hR : RowsI w A n rs xss) (hn : n ≤ 9223372036854775807) :
    Ret Try.prog 24 [.agg #[.slice A n c]] w (fun v w' => v = .bool (decide (Mani xss)) ∧ St w w' []) := by
  have hxl := hR.len
  have r0 : 0 < n → (gl xss 0).length = (rg rs 0).n := fun h => hR.rowLen (by omega) (by omega)
  refine Ret.of_cd Try.func24 rfl Try.ntmps24 rfl (post1 rfl) ?_
  refine Cd.seq ?_
  refine Cd.region ?_
  refine Ops.box1 (St.refl w) rfl rfl ?_
  intro Ab w1 hS
  refine Ops.mv_bool rfl rfl rfl ?_
  refine Ops.nil ?_
  refine thenQ_n ?_
  refine Cd.seq ?_
  refine Cd.region ?_
  refine Ops.fld (hS.rd 0 rfl) rfl rfl rfl rfl inferInstance ?_
  skip
  refine Ops.ldf_s (hS.rd 0 rfl) rfl rfl rfl rfl rfl ?_
  refine Ops.len rfl rfl ?_
  refine Ops.mv_int rfl rfl rfl ?_
  refine Ops.nil ?_
  refine thenQ_n ?_
  refine Cd.seq ?_
  refine Cd.seq ?_
  refine Cd.region ?_
  refine Ops.mv_int rfl rfl rfl ?_
  refine Ops.lss rfl rfl rfl ?_
  refine Ops.mv_bool rfl rfl rfl ?_
  refine Ops.split_p 13 rfl (fun h1 => ?_) (fun h1 => ?_)
  · refine Ops.skipg rfl rfl rfl rfl rfl ?_
    refine Ops.skipg rfl rfl rfl rfl rfl ?_
    refine Ops.pick_t rfl rfl rfl ?_
    refine Ops.mv_bool rfl rfl rfl ?_
    refine Ops.skipg rfl rfl rfl rfl rfl ?_
    refine Ops.skipg rfl rfl rfl rfl rfl ?_
    refine Ops.skipg rfl rfl rfl rfl rfl ?_
    refine Ops.skipg rfl rfl rfl rfl rfl ?_
    refine Ops.skipg rfl rfl rfl rfl rfl ?_
    refine Ops.skipg rfl rfl rfl rfl rfl ?_
    refine Ops.pick_t rfl rfl rfl ?_
    refine Ops.mv_bool rfl rfl rfl ?_
    refine Ops.skipg rfl rfl rfl rfl rfl ?_
    refine Ops.skipg rfl rfl rfl rfl rfl ?_
    refine Ops.skipg rfl rfl rfl rfl rfl ?_
    refine Ops.skipg rfl rfl rfl rfl rfl ?_
    refine Ops.skipg rfl rfl rfl rfl rfl ?_
    refine Ops.skipg rfl rfl rfl rfl rfl ?_
    refine Ops.pick_t rfl rfl rfl ?_
    refine Ops.nil ?_
    refine thenQ_n ?_
    refine Cd.cond_t rfl ?_
    refine Cd.seq ?_
    refine Cd.region ?_
    refine Ops.mv_bool rfl rfl rfl ?_
    refine Ops.nil ?_
    refine thenQ_n ?_
    refine Cd.ret ?_
    refine thenQ_r ?_
    refine ret1_b rfl ?_
    exact ⟨by rw [decide_eq_false (fun h : Mani xss => by have := h.1.1; omega)], hS.none⟩
  refine Ops.rung rfl rfl rfl ?_
  refine Ops.mv_int rfl rfl rfl ?_
  refine Ops.rung rfl rfl rfl ?_
  refine Ops.gtr rfl rfl rfl ?_
  refine Ops.pick_f rfl rfl rfl ?_
  refine Ops.mv_bool rfl rfl rfl ?_
  refine Ops.split_p 17 rfl (fun h2 => ?_) (fun h2 => ?_)
  · refine Ops.skipg rfl rfl rfl rfl rfl ?_
    refine Ops.skipg rfl rfl rfl rfl rfl ?_
    refine Ops.skipg rfl rfl rfl rfl rfl ?_
    refine Ops.skipg rfl rfl rfl rfl rfl ?_
    refine Ops.skipg rfl rfl rfl rfl rfl ?_
    refine Ops.skipg rfl rfl rfl rfl rfl ?_
    refine Ops.pick_t rfl rfl rfl ?_
    refine Ops.mv_bool rfl rfl rfl ?_
    refine Ops.skipg rfl rfl rfl rfl rfl ?_
    refine Ops.skipg rfl rfl rfl rfl rfl ?_
    refine Ops.skipg rfl rfl rfl rfl rfl ?_
    refine Ops.skipg rfl rfl rfl rfl rfl ?_
    refine Ops.skipg rfl rfl rfl rfl rfl ?_
    refine Ops.skipg rfl rfl rfl rfl rfl ?_
    refine Ops.pick_t rfl rfl rfl ?_
    refine Ops.nil ?_
    refine thenQ_n ?_
    refine Cd.cond_t rfl ?_
    refine Cd.seq ?_
    refine Cd.region ?_
    refine Ops.mv_bool rfl rfl rfl ?_
    refine Ops.nil ?_
    refine thenQ_n ?_
    refine Cd.ret ?_
    refine thenQ_r ?_
    refine ret1_b rfl ?_
    exact ⟨by rw [decide_eq_false (fun h : Mani xss => by have := h.1.2; omega)], hS.none⟩
  have hM := hS.oldRows hR
  have r0 := r0 (by omega)
  refine Ops.rung rfl rfl rfl ?_
  refine Ops.fld (hS.rd 0 rfl) rfl rfl rfl rfl inferInstance ?_
  refine Ops.rung rfl rfl rfl ?_
  refine Ops.ldf_s (hS.rd 0 rfl) rfl rfl rfl rfl rfl ?_
  refine Ops.rung rfl rfl rfl ?_
  refine Ops.idx hM.top.2 rfl rfl rfl (by omega) (by omega) ?_
  refine Ops.rung rfl rfl rfl ?_
  refine Ops.ld_sl hM.top rfl (by omega) rfl rfl ?_
  refine Ops.rung rfl rfl rfl ?_
  refine Ops.len rfl rfl ?_
  refine Ops.rung rfl rfl rfl ?_
  refine Ops.lss rfl rfl rfl ?_
  refine Ops.pick_f rfl rfl rfl ?_
  refine Ops.mv_bool rfl rfl rfl ?_
  refine Ops.split_p 25 rfl (fun h3 => ?_) (fun h3 => ?_)
  · refine Ops.skipg rfl rfl rfl rfl rfl ?_
    refine Ops.skipg rfl rfl rfl rfl rfl ?_
    refine Ops.skipg rfl rfl rfl rfl rfl ?_
    refine Ops.skipg rfl rfl rfl rfl rfl ?_
    refine Ops.skipg rfl rfl rfl rfl rfl ?_
    refine Ops.skipg rfl rfl rfl rfl rfl ?_
    refine Ops.pick_t rfl rfl rfl ?_
    refine Ops.nil ?_
    refine thenQ_n ?_
    refine Cd.cond_t rfl ?_
    refine Cd.seq ?_
    refine Cd.region ?_
    refine Ops.mv_bool rfl rfl rfl ?_
    refine Ops.nil ?_
    refine thenQ_n ?_
    refine Cd.ret ?_
    refine thenQ_r ?_
    refine ret1_b rfl ?_
    exact ⟨by rw [decide_eq_false (fun h : Mani xss => by have := h.2.1.1; omega)], hS.none⟩
  refine Ops.rung rfl rfl rfl ?_
  refine Ops.fld (hS.rd 0 rfl) rfl rfl rfl rfl inferInstance ?_
  refine Ops.rung rfl rfl rfl ?_
  refine Ops.ldf_s (hS.rd 0 rfl) rfl rfl rfl rfl rfl ?_
  refine Ops.rung rfl rfl rfl ?_
  refine Ops.idx hM.top.2 rfl rfl rfl (by omega) (by omega) ?_
  refine Ops.rung rfl rfl rfl ?_
  refine Ops.ld_sl hM.top rfl (by omega) rfl rfl ?_
  refine Ops.rung rfl rfl rfl ?_
  refine Ops.len rfl rfl ?_
  refine Ops.rung rfl rfl rfl ?_
  refine Ops.gtr rfl rfl rfl ?_
  refine Ops.pick_f rfl rfl rfl ?_
  refine Ops.nil ?_
  refine thenQ_n ?_
  refine Cd.cond_p _ rfl (fun h4 => ?_) (fun h4 => ?_)
  · refine Cd.seq ?_
    refine Cd.region ?_
    refine Ops.mv_bool rfl rfl rfl ?_
    refine Ops.nil ?_
    refine thenQ_n ?_
    refine Cd.ret ?_
    refine thenQ_r ?_
    refine ret1_b rfl ?_
    exact ⟨by rw [decide_eq_false (fun h : Mani xss => by have := h.2.1.2; omega)], hS.none⟩
  refine Cd.skip ?_
  refine thenQ_n ?_
  refine Cd.seq ?_
  refine Cd.seq ?_
  refine Cd.region ?_
  refine Ops.mv_int rfl rfl rfl ?_
  refine Ops.nil ?_
  refine thenQ_n ?_
  refine Cd.block ?_
  refine Cd.loop (α := Nat) (fun k => [(1, .pointer Ab), (3, .int .i64 (n : Int)), (4, .int .i64 (k : Int))]) (fun k w' => St w w' [Bx 24 1 Ab [.slice A n c]] ∧ k ≤ n ∧ Part xss k) (fun k => n - k) 0 ⟨rfl, rfl, rfl, trivial⟩ ⟨hS, Nat.zero_le _, fun p hp => by simp at hp⟩ ?_
  rintro k e w2 ⟨hS2, hk, hP⟩
  have hM := hS2.oldRows hR
  have hB := hS2.rd 0 rfl
  refine Cd.seq ?_
  refine Cd.seq ?_
  refine Cd.region ?_
  refine Ops.mv_int rfl rfl rfl ?_
  refine Ops.mv_int rfl rfl rfl ?_
  refine Ops.lss rfl rfl rfl ?_
  refine Ops.nil ?_
  refine thenQ_n ?_
  refine Cd.cond_p _ rfl (fun h5 => ?_) (fun h5 => ?_)
  · have hkx : k < xss.length := by omega
    have rk := hR.rowLen (k := (k : Int)) (by omega) (by omega)
    have hrow := hM.at_ (i := k) (by omega) h5
    refine Cd.skip ?_
    refine thenQ_n ?_
    refine Cd.seq ?_
    refine Cd.block ?_
    refine Cd.seq ?_
    by_cases h6 : ((rg rs k).n : Int) = (rg rs 0).n
    · by_cases h7 : IsPerm (gl xss k)
      · by_cases h8 : IsFree (gl xss k)
        · --dup 4
          refine Cd.draw [.ex (.pointer (ptrAt (Ab) 0)), .ex (.slice (A) (n) (c)), .ex (.int .i64 ((k : Int))), .ex (.pointer (ptrAt (A) ((k : Int)).toNat)), .ex (.slice ((rg (rs) ((k : Int))).a) ((rg (rs) ((k : Int))).n) ((rg (rs) ((k : Int))).c)), .ex (.int .i64 ((((rg (rs) ((k : Int))).n : Nat) : Int))), .ex (.pointer (ptrAt (Ab) 0)), .ex (.slice (A) (n) (c)), .ex (.pointer (ptrAt (A) ((0 : Int)).toNat)), .ex (.slice ((rg (rs) ((0 : Int))).a) ((rg (rs) ((0 : Int))).n) ((rg (rs) ((0 : Int))).c)), .ex (.int .i64 ((((rg (rs) ((0 : Int))).n : Nat) : Int))), .ex (.bool (false)), .ex (.bool (false)), .ex (.pointer (ptrAt (Ab) 0)), .ex (.slice (A) (n) (c)), .ex (.int .i64 ((k : Int))), .ex (.pointer (ptrAt (A) ((k : Int)).toNat)), .ex (.slice ((rg (rs) ((k : Int))).a) ((rg (rs) ((k : Int))).n) ((rg (rs) ((k : Int))).c)), .ex (.bool (decide (IsPerm (gl xss k)))), .ex (.bool (false)), .ex (.bool (false)), .ex (.bool (false)), .ex (.pointer (ptrAt (Ab) 0)), .ex (.slice (A) (n) (c)), .ex (.int .i64 ((k : Int))), .ex (.pointer (ptrAt (A) ((k : Int)).toNat)), .ex (.slice ((rg (rs) ((k : Int))).a) ((rg (rs) ((k : Int))).n) ((rg (rs) ((k : Int))).c)), .ex (.bool (decide (IsFree (gl xss k)))), .ex (.bool (false)), .ex (.bool (false))] (by kernel_rfl) (by kernel_rfl) rfl (List.forall_mem_cons.2 ⟨Yd.lasts_ex _, (List.forall_mem_cons.2 ⟨Yd.lasts_ex _, (List.forall_mem_cons.2 ⟨Yd.lasts_ex _, (List.forall_mem_cons.2 ⟨Yd.lasts_ex _, (List.forall_mem_cons.2 ⟨Yd.lasts_ex _, (List.forall_mem_cons.2 ⟨Yd.lasts_ex _, (List.forall_mem_cons.2 ⟨Yd.lasts_ex _, (List.forall_mem_cons.2 ⟨Yd.lasts_ex _, (List.forall_mem_cons.2 ⟨Yd.lasts_ex _, (List.forall_mem_cons.2 ⟨Yd.lasts_ex _, (List.forall_mem_cons.2 ⟨Yd.lasts_ex _, (List.forall_mem_cons.2 ⟨Yd.lasts_ex _, (List.forall_mem_cons.2 ⟨Yd.lasts_ex _, (List.forall_mem_cons.2 ⟨Yd.lasts_ex _, (List.forall_mem_cons.2 ⟨Yd.lasts_ex _, (List.forall_mem_cons.2 ⟨Yd.lasts_ex _, (List.forall_mem_cons.2 ⟨Yd.lasts_ex _, (List.forall_mem_cons.2 ⟨Yd.lasts_ex _, (List.forall_mem_cons.2 ⟨Yd.lasts_ex _, (List.forall_mem_cons.2 ⟨Yd.lasts_ex _, (List.forall_mem_cons.2 ⟨Yd.lasts_ex _, (List.forall_mem_cons.2 ⟨Yd.lasts_ex _, (List.forall_mem_cons.2 ⟨Yd.lasts_ex _, (List.forall_mem_cons.2 ⟨Yd.lasts_ex _, (List.forall_mem_cons.2 ⟨Yd.lasts_ex _, (List.forall_mem_cons.2 ⟨Yd.lasts_ex _, (List.forall_mem_cons.2 ⟨Yd.lasts_ex _, (List.forall_mem_cons.2 ⟨Yd.lasts_ex _, (List.forall_mem_cons.2 ⟨Yd.lasts_ex _, (List.forall_mem_cons.2 ⟨Yd.lasts_ex _, (fun _ h => by cases h)⟩)⟩)⟩)⟩)⟩)⟩)⟩)⟩)⟩)⟩)⟩)⟩)⟩)⟩)⟩)⟩)⟩)⟩)⟩)⟩)⟩)⟩)⟩)⟩)⟩)⟩)⟩)⟩)⟩)⟩) ⟨?_, ?_, ?_, ?_, ?_, ?_, ?_, ?_, ?_, ?_, ?_, ?_, ?_, ?_, ?_, ?_, ?_, ?_, ?_, ?_, ?_, ?_, ?_, ?_, ?_, ?_, ?_, ?_, ?_, ?_, trivial⟩ ?_
          · intro e1 w1 hb hp hun
            refine Ops.fld (hB.below hb) rfl rfl rfl rfl inferInstance ?_
            refine Ops.nil ?_
            exact After.dn (Below.refl _ _) (by exact rfl)
          · intro e1 w1 hb hp hun
            refine Ops.ldf_s (hB.below hb) rfl rfl rfl rfl rfl ?_
            refine Ops.nil ?_
            exact After.dn (Below.refl _ _) (by exact rfl)
          · intro e1 w1 hb hp hun
            refine Ops.mv_int rfl rfl rfl ?_
            refine Ops.nil ?_
            exact After.dn (Below.refl _ _) (by exact rfl)
          · intro e1 w1 hb hp hun
            refine Ops.idx (hM.top.later hb).2 rfl rfl rfl (by omega) (by omega) ?_
            refine Ops.nil ?_
            exact After.dn (Below.refl _ _) (by exact rfl)
          · intro e1 w1 hb hp hun
            refine Ops.ld_sl (hM.top.later hb) rfl (by omega) rfl rfl ?_
            refine Ops.nil ?_
            exact After.dn (Below.refl _ _) (by exact rfl)
          · intro e1 w1 hb hp hun
            refine Ops.len rfl rfl ?_
            refine Ops.nil ?_
            exact After.dn (Below.refl _ _) (by exact rfl)
          · intro e1 w1 hb hp hun
            refine Ops.fld (hB.below hb) rfl rfl rfl rfl inferInstance ?_
            refine Ops.nil ?_
            exact After.dn (Below.refl _ _) (by exact rfl)
          · intro e1 w1 hb hp hun
            refine Ops.ldf_s (hB.below hb) rfl rfl rfl rfl rfl ?_
            refine Ops.nil ?_
            exact After.dn (Below.refl _ _) (by exact rfl)
          · intro e1 w1 hb hp hun
            refine Ops.idx (hM.top.later hb).2 rfl rfl rfl (by omega) (by omega) ?_
            refine Ops.nil ?_
            exact After.dn (Below.refl _ _) (by exact rfl)
          · intro e1 w1 hb hp hun
            refine Ops.ld_sl (hM.top.later hb) rfl (by omega) rfl rfl ?_
            refine Ops.nil ?_
            exact After.dn (Below.refl _ _) (by exact rfl)
          · intro e1 w1 hb hp hun
            refine Ops.len rfl rfl ?_
            refine Ops.nil ?_
            exact After.dn (Below.refl _ _) (by exact rfl)
          · intro e1 w1 hb hp hun
            refine Ops.neq rfl rfl rfl ?_
            refine Ops.nil ?_
            exact After.dn (Below.refl _ _) (by exact congrArg Value.bool (decide_eq_false (by omega)))
          · intro e1 w1 hb hp hun
            refine Ops.mv_bool rfl rfl rfl ?_
            refine Ops.nil ?_
            exact After.dn (Below.refl _ _) (by exact rfl)
          · intro e1 w1 hb hp hun
            refine Ops.rung rfl rfl rfl ?_
            refine Ops.fld (hB.below hb) rfl rfl rfl rfl inferInstance ?_
            refine Ops.nil ?_
            exact After.dn (Below.refl _ _) (by exact rfl)
          · intro e1 w1 hb hp hun
            refine Ops.rung rfl rfl rfl ?_
            refine Ops.ldf_s (hB.below hb) rfl rfl rfl rfl rfl ?_
            refine Ops.nil ?_
            exact After.dn (Below.refl _ _) (by exact rfl)
          · intro e1 w1 hb hp hun
            refine Ops.rung rfl rfl rfl ?_
            refine Ops.mv_int rfl rfl rfl ?_
            refine Ops.nil ?_
            exact After.dn (Below.refl _ _) (by exact rfl)
          · intro e1 w1 hb hp hun
            refine Ops.rung rfl rfl rfl ?_
            refine Ops.idx (hM.top.later hb).2 rfl rfl rfl (by omega) (by omega) ?_
            refine Ops.nil ?_
            exact After.dn (Below.refl _ _) (by exact rfl)
          · intro e1 w1 hb hp hun
            refine Ops.rung rfl rfl rfl ?_
            refine Ops.ld_sl (hM.top.later hb) rfl (by omega) rfl rfl ?_
            refine Ops.nil ?_
            exact After.dn (Below.refl _ _) (by exact rfl)
          · intro e1 w1 hb hp hun
            refine Ops.rung rfl rfl rfl ?_
            refine Ops.call (l01Perm_c _ _ _ _ _ (hrow.later hb)) rfl rfl rfl ?_
            rintro _ w2 ⟨rfl, hst⟩
            refine Ops.nil ?_
            exact After.dn hst.below (by exact rfl)
          · intro e1 w1 hb hp hun
            refine Ops.rung rfl rfl rfl ?_
            refine Ops.not_p rfl rfl ?_
            refine Ops.nil ?_
            exact After.dn (Below.refl _ _) (by exact congrArg Value.bool (decide_eq_false (fun h => h h7)))
          · intro e1 w1 hb hp hun
            refine Ops.pick_f rfl rfl rfl ?_
            refine Ops.nil ?_
            exact After.dn (Below.refl _ _) (by exact rfl)
          · intro e1 w1 hb hp hun
            refine Ops.mv_bool rfl rfl rfl ?_
            refine Ops.nil ?_
            exact After.dn (Below.refl _ _) (by exact rfl)
          · intro e1 w1 hb hp hun
            refine Ops.rung rfl rfl rfl ?_
            refine Ops.fld (hB.below hb) rfl rfl rfl rfl inferInstance ?_
            refine Ops.nil ?_
            exact After.dn (Below.refl _ _) (by exact rfl)
          · intro e1 w1 hb hp hun
            refine Ops.rung rfl rfl rfl ?_
            refine Ops.ldf_s (hB.below hb) rfl rfl rfl rfl rfl ?_
            refine Ops.nil ?_
            exact After.dn (Below.refl _ _) (by exact rfl)
          · intro e1 w1 hb hp hun
            refine Ops.rung rfl rfl rfl ?_
            refine Ops.mv_int rfl rfl rfl ?_
            refine Ops.nil ?_
            exact After.dn (Below.refl _ _) (by exact rfl)
          · intro e1 w1 hb hp hun
            refine Ops.rung rfl rfl rfl ?_
            refine Ops.idx (hM.top.later hb).2 rfl rfl rfl (by omega) (by omega) ?_
            refine Ops.nil ?_
            exact After.dn (Below.refl _ _) (by exact rfl)
          · intro e1 w1 hb hp hun
            refine Ops.rung rfl rfl rfl ?_
            refine Ops.ld_sl (hM.top.later hb) rfl (by omega) rfl rfl ?_
            refine Ops.nil ?_
            exact After.dn (Below.refl _ _) (by exact rfl)
          · intro e1 w1 hb hp hun
            refine Ops.rung rfl rfl rfl ?_
            refine Ops.call (l01Free_c _ _ _ _ _ (hrow.later hb) h7) rfl rfl rfl ?_
            rintro _ w2 ⟨rfl, hst⟩
            subst hst
            refine Ops.nil ?_
            exact After.dn (Below.refl _ _) (by exact rfl)
          · intro e1 w1 hb hp hun
            refine Ops.rung rfl rfl rfl ?_
            refine Ops.not_p rfl rfl ?_
            refine Ops.nil ?_
            exact After.dn (Below.refl _ _) (by exact congrArg Value.bool (decide_eq_false (fun h => h h8)))
          · intro e1 w1 hb hp hun
            refine Ops.pick_f rfl rfl rfl ?_
            refine Ops.nil ?_
            exact After.dn (Below.refl _ _) (by exact rfl)
          intro u w3 hb3 _
          have hS3 := hS2.later hb3
          refine thenQ_n ?_
          refine Cd.cond_f rfl ?_
          refine Cd.skip ?_
          refine blockQ_n ?_
          refine thenQ_n ?_
          refine Cd.region ?_
          refine Ops.mv_int rfl rfl rfl ?_
          refine Ops.add rfl rfl rfl (by omega) ?_
          refine Ops.mv_int rfl rfl rfl ?_
          refine Ops.nil ?_
          refine thenQ_n ?_
          exact ⟨k + 1, by omega, ⟨rfl, rfl, rfl, trivial⟩, hS3, by omega, hP.step hkx (by omega) h7 h8⟩
        · refine Cd.draw [.ex (.pointer (ptrAt (Ab) 0)), .ex (.slice (A) (n) (c)), .ex (.int .i64 ((k : Int))), .ex (.pointer (ptrAt (A) ((k : Int)).toNat)), .ex (.slice ((rg (rs) ((k : Int))).a) ((rg (rs) ((k : Int))).n) ((rg (rs) ((k : Int))).c)), .ex (.int .i64 ((((rg (rs) ((k : Int))).n : Nat) : Int))), .ex (.pointer (ptrAt (Ab) 0)), .ex (.slice (A) (n) (c)), .ex (.pointer (ptrAt (A) ((0 : Int)).toNat)), .ex (.slice ((rg (rs) ((0 : Int))).a) ((rg (rs) ((0 : Int))).n) ((rg (rs) ((0 : Int))).c)), .ex (.int .i64 ((((rg (rs) ((0 : Int))).n : Nat) : Int))), .ex (.bool (false)), .ex (.bool (false)), .ex (.pointer (ptrAt (Ab) 0)), .ex (.slice (A) (n) (c)), .ex (.int .i64 ((k : Int))), .ex (.pointer (ptrAt (A) ((k : Int)).toNat)), .ex (.slice ((rg (rs) ((k : Int))).a) ((rg (rs) ((k : Int))).n) ((rg (rs) ((k : Int))).c)), .ex (.bool (decide (IsPerm (gl xss k)))), .ex (.bool (false)), .ex (.bool (false)), .ex (.bool (false)), .ex (.pointer (ptrAt (Ab) 0)), .ex (.slice (A) (n) (c)), .ex (.int .i64 ((k : Int))), .ex (.pointer (ptrAt (A) ((k : Int)).toNat)), .ex (.slice ((rg (rs) ((k : Int))).a) ((rg (rs) ((k : Int))).n) ((rg (rs) ((k : Int))).c)), .ex (.bool (decide (IsFree (gl xss k)))), .ex (.bool (true)), .ex (.bool (true))] (by kernel_rfl) (by kernel_rfl) rfl (List.forall_mem_cons.2 ⟨Yd.lasts_ex _, (List.forall_mem_cons.2 ⟨Yd.lasts_ex _, (List.forall_mem_cons.2 ⟨Yd.lasts_ex _, (List.forall_mem_cons.2 ⟨Yd.lasts_ex _, (List.forall_mem_cons.2 ⟨Yd.lasts_ex _, (List.forall_mem_cons.2 ⟨Yd.lasts_ex _, (List.forall_mem_cons.2 ⟨Yd.lasts_ex _, (List.forall_mem_cons.2 ⟨Yd.lasts_ex _, (List.forall_mem_cons.2 ⟨Yd.lasts_ex _, (List.forall_mem_cons.2 ⟨Yd.lasts_ex _, (List.forall_mem_cons.2 ⟨Yd.lasts_ex _, (List.forall_mem_cons.2 ⟨Yd.lasts_ex _, (List.forall_mem_cons.2 ⟨Yd.lasts_ex _, (List.forall_mem_cons.2 ⟨Yd.lasts_ex _, (List.forall_mem_cons.2 ⟨Yd.lasts_ex _, (List.forall_mem_cons.2 ⟨Yd.lasts_ex _, (List.forall_mem_cons.2 ⟨Yd.lasts_ex _, (List.forall_mem_cons.2 ⟨Yd.lasts_ex _, (List.forall_mem_cons.2 ⟨Yd.lasts_ex _, (List.forall_mem_cons.2 ⟨Yd.lasts_ex _, (List.forall_mem_cons.2 ⟨Yd.lasts_ex _, (List.forall_mem_cons.2 ⟨Yd.lasts_ex _, (List.forall_mem_cons.2 ⟨Yd.lasts_ex _, (List.forall_mem_cons.2 ⟨Yd.lasts_ex _, (List.forall_mem_cons.2 ⟨Yd.lasts_ex _, (List.forall_mem_cons.2 ⟨Yd.lasts_ex _, (List.forall_mem_cons.2 ⟨Yd.lasts_ex _, (List.forall_mem_cons.2 ⟨Yd.lasts_ex _, (List.forall_mem_cons.2 ⟨Yd.lasts_ex _, (List.forall_mem_cons.2 ⟨Yd.lasts_ex _, (fun _ h => by cases h)⟩)⟩)⟩)⟩)⟩)⟩)⟩)⟩)⟩)⟩)⟩)⟩)⟩)⟩)⟩)⟩)⟩)⟩)⟩)⟩)⟩)⟩)⟩)⟩)⟩)⟩)⟩)⟩)⟩)⟩) ⟨?_, ?_, ?_, ?_, ?_, ?_, ?_, ?_, ?_, ?_, ?_, ?_, ?_, ?_, ?_, ?_, ?_, ?_, ?_, ?_, ?_, ?_, ?_, ?_, ?_, ?_, ?_, ?_, ?_, ?_, trivial⟩ ?_
          · intro e1 w1 hb hp hun
            refine Ops.fld (hB.below hb) rfl rfl rfl rfl inferInstance ?_
            refine Ops.nil ?_
            exact After.dn (Below.refl _ _) (by exact rfl)
          · intro e1 w1 hb hp hun
            refine Ops.ldf_s (hB.below hb) rfl rfl rfl rfl rfl ?_
            refine Ops.nil ?_
            exact After.dn (Below.refl _ _) (by exact rfl)
          · intro e1 w1 hb hp hun
            refine Ops.mv_int rfl rfl rfl ?_
            refine Ops.nil ?_
            exact After.dn (Below.refl _ _) (by exact rfl)
          · intro e1 w1 hb hp hun
            refine Ops.idx (hM.top.later hb).2 rfl rfl rfl (by omega) (by omega) ?_
            refine Ops.nil ?_
            exact After.dn (Below.refl _ _) (by exact rfl)
          · intro e1 w1 hb hp hun
            refine Ops.ld_sl (hM.top.later hb) rfl (by omega) rfl rfl ?_
            refine Ops.nil ?_
            exact After.dn (Below.refl _ _) (by exact rfl)
          · intro e1 w1 hb hp hun
            refine Ops.len rfl rfl ?_
            refine Ops.nil ?_
            exact After.dn (Below.refl _ _) (by exact rfl)
          · intro e1 w1 hb hp hun
            refine Ops.fld (hB.below hb) rfl rfl rfl rfl inferInstance ?_
            refine Ops.nil ?_
            exact After.dn (Below.refl _ _) (by exact rfl)
          · intro e1 w1 hb hp hun
            refine Ops.ldf_s (hB.below hb) rfl rfl rfl rfl rfl ?_
            refine Ops.nil ?_
            exact After.dn (Below.refl _ _) (by exact rfl)
          · intro e1 w1 hb hp hun
            refine Ops.idx (hM.top.later hb).2 rfl rfl rfl (by omega) (by omega) ?_
            refine Ops.nil ?_
            exact After.dn (Below.refl _ _) (by exact rfl)
          · intro e1 w1 hb hp hun
            refine Ops.ld_sl (hM.top.later hb) rfl (by omega) rfl rfl ?_
            refine Ops.nil ?_
            exact After.dn (Below.refl _ _) (by exact rfl)
          · intro e1 w1 hb hp hun
            refine Ops.len rfl rfl ?_
            refine Ops.nil ?_
            exact After.dn (Below.refl _ _) (by exact rfl)
          · intro e1 w1 hb hp hun
            refine Ops.neq rfl rfl rfl ?_
            refine Ops.nil ?_
            exact After.dn (Below.refl _ _) (by exact congrArg Value.bool (decide_eq_false (by omega)))
          · intro e1 w1 hb hp hun
            refine Ops.mv_bool rfl rfl rfl ?_
            refine Ops.nil ?_
            exact After.dn (Below.refl _ _) (by exact rfl)
          · intro e1 w1 hb hp hun
            refine Ops.rung rfl rfl rfl ?_
            refine Ops.fld (hB.below hb) rfl rfl rfl rfl inferInstance ?_
            refine Ops.nil ?_
            exact After.dn (Below.refl _ _) (by exact rfl)
          · intro e1 w1 hb hp hun
            refine Ops.rung rfl rfl rfl ?_
            refine Ops.ldf_s (hB.below hb) rfl rfl rfl rfl rfl ?_
            refine Ops.nil ?_
            exact After.dn (Below.refl _ _) (by exact rfl)
          · intro e1 w1 hb hp hun
            refine Ops.rung rfl rfl rfl ?_
            refine Ops.mv_int rfl rfl rfl ?_
            refine Ops.nil ?_
            exact After.dn (Below.refl _ _) (by exact rfl)
          · intro e1 w1 hb hp hun
            refine Ops.rung rfl rfl rfl ?_
            refine Ops.idx (hM.top.later hb).2 rfl rfl rfl (by omega) (by omega) ?_
            refine Ops.nil ?_
            exact After.dn (Below.refl _ _) (by exact rfl)
          · intro e1 w1 hb hp hun
            refine Ops.rung rfl rfl rfl ?_
            refine Ops.ld_sl (hM.top.later hb) rfl (by omega) rfl rfl ?_
            refine Ops.nil ?_
            exact After.dn (Below.refl _ _) (by exact rfl)
          · intro e1 w1 hb hp hun
            refine Ops.rung rfl rfl rfl ?_
            refine Ops.call (l01Perm_c _ _ _ _ _ (hrow.later hb)) rfl rfl rfl ?_
            rintro _ w2 ⟨rfl, hst⟩
            refine Ops.nil ?_
            exact After.dn hst.below (by exact rfl)
          · intro e1 w1 hb hp hun
            refine Ops.rung rfl rfl rfl ?_
            refine Ops.not_p rfl rfl ?_
            refine Ops.nil ?_
            exact After.dn (Below.refl _ _) (by exact congrArg Value.bool (decide_eq_false (fun h => h h7)))
          · intro e1 w1 hb hp hun
            refine Ops.pick_f rfl rfl rfl ?_
            refine Ops.nil ?_
            exact After.dn (Below.refl _ _) (by exact rfl)
          · intro e1 w1 hb hp hun
            refine Ops.mv_bool rfl rfl rfl ?_
            refine Ops.nil ?_
            exact After.dn (Below.refl _ _) (by exact rfl)
          · intro e1 w1 hb hp hun
            refine Ops.rung rfl rfl rfl ?_
            refine Ops.fld (hB.below hb) rfl rfl rfl rfl inferInstance ?_
            refine Ops.nil ?_
            exact After.dn (Below.refl _ _) (by exact rfl)
          · intro e1 w1 hb hp hun
            refine Ops.rung rfl rfl rfl ?_
            refine Ops.ldf_s (hB.below hb) rfl rfl rfl rfl rfl ?_
            refine Ops.nil ?_
            exact After.dn (Below.refl _ _) (by exact rfl)
          · intro e1 w1 hb hp hun
            refine Ops.rung rfl rfl rfl ?_
            refine Ops.mv_int rfl rfl rfl ?_
            refine Ops.nil ?_
            exact After.dn (Below.refl _ _) (by exact rfl)
          · intro e1 w1 hb hp hun
            refine Ops.rung rfl rfl rfl ?_
            refine Ops.idx (hM.top.later hb).2 rfl rfl rfl (by omega) (by omega) ?_
            refine Ops.nil ?_
            exact After.dn (Below.refl _ _) (by exact rfl)
          · intro e1 w1 hb hp hun
            refine Ops.rung rfl rfl rfl ?_
            refine Ops.ld_sl (hM.top.later hb) rfl (by omega) rfl rfl ?_
            refine Ops.nil ?_
            exact After.dn (Below.refl _ _) (by exact rfl)
          · intro e1 w1 hb hp hun
            refine Ops.rung rfl rfl rfl ?_
            refine Ops.call (l01Free_c _ _ _ _ _ (hrow.later hb) h7) rfl rfl rfl ?_
            rintro _ w2 ⟨rfl, hst⟩
            subst hst
            refine Ops.nil ?_
            exact After.dn (Below.refl _ _) (by exact rfl)
          · intro e1 w1 hb hp hun
            refine Ops.rung rfl rfl rfl ?_
            refine Ops.not_p rfl rfl ?_
            refine Ops.nil ?_
            exact After.dn (Below.refl _ _) (by exact congrArg Value.bool (decide_eq_true h8))
          · intro e1 w1 hb hp hun
            refine Ops.pick_f rfl rfl rfl ?_
            refine Ops.nil ?_
            exact After.dn (Below.refl _ _) (by exact rfl)
          intro u w3 hb3 _
          have hS3 := hS2.later hb3
          refine thenQ_n ?_
          refine Cd.cond_t rfl ?_
          refine Cd.seq ?_
          refine Cd.region ?_
          refine Ops.mv_bool rfl rfl rfl ?_
          refine Ops.nil ?_
          refine thenQ_n ?_
          refine Cd.ret ?_
          refine blockQ_r ?_
          refine thenQ_r ?_
          refine thenQ_r ?_
          refine blockQ_r ?_
          refine thenQ_r ?_
          refine ret1_b rfl ?_
          exact ⟨by rw [decide_eq_false (fun h : Mani xss => h8 (h.2.2.1.at_ hkx).2.2)], hS3.none⟩
      · refine Cd.draw [.ex (.pointer (ptrAt (Ab) 0)), .ex (.slice (A) (n) (c)), .ex (.int .i64 ((k : Int))), .ex (.pointer (ptrAt (A) ((k : Int)).toNat)), .ex (.slice ((rg (rs) ((k : Int))).a) ((rg (rs) ((k : Int))).n) ((rg (rs) ((k : Int))).c)), .ex (.int .i64 ((((rg (rs) ((k : Int))).n : Nat) : Int))), .ex (.pointer (ptrAt (Ab) 0)), .ex (.slice (A) (n) (c)), .ex (.pointer (ptrAt (A) ((0 : Int)).toNat)), .ex (.slice ((rg (rs) ((0 : Int))).a) ((rg (rs) ((0 : Int))).n) ((rg (rs) ((0 : Int))).c)), .ex (.int .i64 ((((rg (rs) ((0 : Int))).n : Nat) : Int))), .ex (.bool (false)), .ex (.bool (false)), .ex (.pointer (ptrAt (Ab) 0)), .ex (.slice (A) (n) (c)), .ex (.int .i64 ((k : Int))), .ex (.pointer (ptrAt (A) ((k : Int)).toNat)), .ex (.slice ((rg (rs) ((k : Int))).a) ((rg (rs) ((k : Int))).n) ((rg (rs) ((k : Int))).c)), .ex (.bool (decide (IsPerm (gl xss k)))), .ex (.bool (true)), .ex (.bool (true)), .ex (.bool (true)), .ex (undef), .ex (undef), .ex (undef), .ex (undef), .ex (undef), .ex (undef), .ex (undef), .ex (.bool (true))] (by kernel_rfl) (by kernel_rfl) rfl (List.forall_mem_cons.2 ⟨Yd.lasts_ex _, (List.forall_mem_cons.2 ⟨Yd.lasts_ex _, (List.forall_mem_cons.2 ⟨Yd.lasts_ex _, (List.forall_mem_cons.2 ⟨Yd.lasts_ex _, (List.forall_mem_cons.2 ⟨Yd.lasts_ex _, (List.forall_mem_cons.2 ⟨Yd.lasts_ex _, (List.forall_mem_cons.2 ⟨Yd.lasts_ex _, (List.forall_mem_cons.2 ⟨Yd.lasts_ex _, (List.forall_mem_cons.2 ⟨Yd.lasts_ex _, (List.forall_mem_cons.2 ⟨Yd.lasts_ex _, (List.forall_mem_cons.2 ⟨Yd.lasts_ex _, (List.forall_mem_cons.2 ⟨Yd.lasts_ex _, (List.forall_mem_cons.2 ⟨Yd.lasts_ex _, (List.forall_mem_cons.2 ⟨Yd.lasts_ex _, (List.forall_mem_cons.2 ⟨Yd.lasts_ex _, (List.forall_mem_cons.2 ⟨Yd.lasts_ex _, (List.forall_mem_cons.2 ⟨Yd.lasts_ex _, (List.forall_mem_cons.2 ⟨Yd.lasts_ex _, (List.forall_mem_cons.2 ⟨Yd.lasts_ex _, (List.forall_mem_cons.2 ⟨Yd.lasts_ex _, (List.forall_mem_cons.2 ⟨Yd.lasts_ex _, (List.forall_mem_cons.2 ⟨Yd.lasts_ex _, (List.forall_mem_cons.2 ⟨Yd.lasts_ex _, (List.forall_mem_cons.2 ⟨Yd.lasts_ex _, (List.forall_mem_cons.2 ⟨Yd.lasts_ex _, (List.forall_mem_cons.2 ⟨Yd.lasts_ex _, (List.forall_mem_cons.2 ⟨Yd.lasts_ex _, (List.forall_mem_cons.2 ⟨Yd.lasts_ex _, (List.forall_mem_cons.2 ⟨Yd.lasts_ex _, (List.forall_mem_cons.2 ⟨Yd.lasts_ex _, (fun _ h => by cases h)⟩)⟩)⟩)⟩)⟩)⟩)⟩)⟩)⟩)⟩)⟩)⟩)⟩)⟩)⟩)⟩)⟩)⟩)⟩)⟩)⟩)⟩)⟩)⟩)⟩)⟩)⟩)⟩)⟩)⟩) ⟨?_, ?_, ?_, ?_, ?_, ?_, ?_, ?_, ?_, ?_, ?_, ?_, ?_, ?_, ?_, ?_, ?_, ?_, ?_, ?_, ?_, ?_, ?_, ?_, ?_, ?_, ?_, ?_, ?_, ?_, trivial⟩ ?_
        · intro e1 w1 hb hp hun
          refine Ops.fld (hB.below hb) rfl rfl rfl rfl inferInstance ?_
          refine Ops.nil ?_
          exact After.dn (Below.refl _ _) (by exact rfl)
        · intro e1 w1 hb hp hun
          refine Ops.ldf_s (hB.below hb) rfl rfl rfl rfl rfl ?_
          refine Ops.nil ?_
          exact After.dn (Below.refl _ _) (by exact rfl)
        · intro e1 w1 hb hp hun
          refine Ops.mv_int rfl rfl rfl ?_
          refine Ops.nil ?_
          exact After.dn (Below.refl _ _) (by exact rfl)
        · intro e1 w1 hb hp hun
          refine Ops.idx (hM.top.later hb).2 rfl rfl rfl (by omega) (by omega) ?_
          refine Ops.nil ?_
          exact After.dn (Below.refl _ _) (by exact rfl)
        · intro e1 w1 hb hp hun
          refine Ops.ld_sl (hM.top.later hb) rfl (by omega) rfl rfl ?_
          refine Ops.nil ?_
          exact After.dn (Below.refl _ _) (by exact rfl)
        · intro e1 w1 hb hp hun
          refine Ops.len rfl rfl ?_
          refine Ops.nil ?_
          exact After.dn (Below.refl _ _) (by exact rfl)
        · intro e1 w1 hb hp hun
          refine Ops.fld (hB.below hb) rfl rfl rfl rfl inferInstance ?_
          refine Ops.nil ?_
          exact After.dn (Below.refl _ _) (by exact rfl)
        · intro e1 w1 hb hp hun
          refine Ops.ldf_s (hB.below hb) rfl rfl rfl rfl rfl ?_
          refine Ops.nil ?_
          exact After.dn (Below.refl _ _) (by exact rfl)
        · intro e1 w1 hb hp hun
          refine Ops.idx (hM.top.later hb).2 rfl rfl rfl (by omega) (by omega) ?_
          refine Ops.nil ?_
          exact After.dn (Below.refl _ _) (by exact rfl)
        · intro e1 w1 hb hp hun
          refine Ops.ld_sl (hM.top.later hb) rfl (by omega) rfl rfl ?_
          refine Ops.nil ?_
          exact After.dn (Below.refl _ _) (by exact rfl)
        · intro e1 w1 hb hp hun
          refine Ops.len rfl rfl ?_
          refine Ops.nil ?_
          exact After.dn (Below.refl _ _) (by exact rfl)
        · intro e1 w1 hb hp hun
          refine Ops.neq rfl rfl rfl ?_
          refine Ops.nil ?_
          exact After.dn (Below.refl _ _) (by exact congrArg Value.bool (decide_eq_false (by omega)))
        · intro e1 w1 hb hp hun
          refine Ops.mv_bool rfl rfl rfl ?_
          refine Ops.nil ?_
          exact After.dn (Below.refl _ _) (by exact rfl)
        · intro e1 w1 hb hp hun
          refine Ops.rung rfl rfl rfl ?_
          refine Ops.fld (hB.below hb) rfl rfl rfl rfl inferInstance ?_
          refine Ops.nil ?_
          exact After.dn (Below.refl _ _) (by exact rfl)
        · intro e1 w1 hb hp hun
          refine Ops.rung rfl rfl rfl ?_
          refine Ops.ldf_s (hB.below hb) rfl rfl rfl rfl rfl ?_
          refine Ops.nil ?_
          exact After.dn (Below.refl _ _) (by exact rfl)
        · intro e1 w1 hb hp hun
          refine Ops.rung rfl rfl rfl ?_
          refine Ops.mv_int rfl rfl rfl ?_
          refine Ops.nil ?_
          exact After.dn (Below.refl _ _) (by exact rfl)
        · intro e1 w1 hb hp hun
          refine Ops.rung rfl rfl rfl ?_
          refine Ops.idx (hM.top.later hb).2 rfl rfl rfl (by omega) (by omega) ?_
          refine Ops.nil ?_
          exact After.dn (Below.refl _ _) (by exact rfl)
        · intro e1 w1 hb hp hun
          refine Ops.rung rfl rfl rfl ?_
          refine Ops.ld_sl (hM.top.later hb) rfl (by omega) rfl rfl ?_
          refine Ops.nil ?_
          exact After.dn (Below.refl _ _) (by exact rfl)
        · intro e1 w1 hb hp hun
          refine Ops.rung rfl rfl rfl ?_
          refine Ops.call (l01Perm_c _ _ _ _ _ (hrow.later hb)) rfl rfl rfl ?_
          rintro _ w2 ⟨rfl, hst⟩
          refine Ops.nil ?_
          exact After.dn hst.below (by exact rfl)
        · intro e1 w1 hb hp hun
          refine Ops.rung rfl rfl rfl ?_
          refine Ops.not_p rfl rfl ?_
          refine Ops.nil ?_
          exact After.dn (Below.refl _ _) (by exact congrArg Value.bool (decide_eq_true h7))
        · intro e1 w1 hb hp hun
          refine Ops.pick_f rfl rfl rfl ?_
          refine Ops.nil ?_
          exact After.dn (Below.refl _ _) (by exact rfl)
        · intro e1 w1 hb hp hun
          refine Ops.mv_bool rfl rfl rfl ?_
          refine Ops.nil ?_
          exact After.dn (Below.refl _ _) (by exact rfl)
        · intro e1 w1 hb hp hun
          refine Ops.skipg rfl rfl rfl rfl rfl ?_
          refine Ops.nil ?_
          exact After.dn (Below.refl _ _) (by exact rfl)
        · intro e1 w1 hb hp hun
          refine Ops.skipg rfl rfl rfl rfl rfl ?_
          refine Ops.nil ?_
          exact After.dn (Below.refl _ _) (by exact rfl)
        · intro e1 w1 hb hp hun
          refine Ops.skipg rfl rfl rfl rfl rfl ?_
          refine Ops.nil ?_
          exact After.dn (Below.refl _ _) (by exact rfl)
        · intro e1 w1 hb hp hun
          refine Ops.skipg rfl rfl rfl rfl rfl ?_
          refine Ops.nil ?_
          exact After.dn (Below.refl _ _) (by exact rfl)
        · intro e1 w1 hb hp hun
          refine Ops.skipg rfl rfl rfl rfl rfl ?_
          refine Ops.nil ?_
          exact After.dn (Below.refl _ _) (by exact rfl)
        · intro e1 w1 hb hp hun
          refine Ops.skipg rfl rfl rfl rfl rfl ?_
          refine Ops.nil ?_
          exact After.dn (Below.refl _ _) (by exact rfl)
        · intro e1 w1 hb hp hun
          refine Ops.skipg rfl rfl rfl rfl rfl ?_
          refine Ops.nil ?_
          exact After.dn (Below.refl _ _) (by exact rfl)
        · intro e1 w1 hb hp hun
          refine Ops.pick_t rfl rfl rfl ?_
          refine Ops.nil ?_
          exact After.dn (Below.refl _ _) (by exact rfl)
        intro u w3 hb3 _
        have hS3 := hS2.later hb3
        refine thenQ_n ?_
        refine Cd.cond_t rfl ?_
        refine Cd.seq ?_
        refine Cd.region ?_
        refine Ops.mv_bool rfl rfl rfl ?_
        refine Ops.nil ?_
        refine thenQ_n ?_
        refine Cd.ret ?_
        refine blockQ_r ?_
        refine thenQ_r ?_
        refine thenQ_r ?_
        refine blockQ_r ?_
        refine thenQ_r ?_
        refine ret1_b rfl ?_
        exact ⟨by rw [decide_eq_false (fun h : Mani xss => h7 (h.2.2.1.at_ hkx).2.1)], hS3.none⟩
    · refine Cd.draw [.ex (.pointer (ptrAt (Ab) 0)), .ex (.slice (A) (n) (c)), .ex (.int .i64 ((k : Int))), .ex (.pointer (ptrAt (A) ((k : Int)).toNat)), .ex (.slice ((rg (rs) ((k : Int))).a) ((rg (rs) ((k : Int))).n) ((rg (rs) ((k : Int))).c)), .ex (.int .i64 ((((rg (rs) ((k : Int))).n : Nat) : Int))), .ex (.pointer (ptrAt (Ab) 0)), .ex (.slice (A) (n) (c)), .ex (.pointer (ptrAt (A) ((0 : Int)).toNat)), .ex (.slice ((rg (rs) ((0 : Int))).a) ((rg (rs) ((0 : Int))).n) ((rg (rs) ((0 : Int))).c)), .ex (.int .i64 ((((rg (rs) ((0 : Int))).n : Nat) : Int))), .ex (.bool (true)), .ex (.bool (true)), .ex (undef), .ex (undef), .ex (undef), .ex (undef), .ex (undef), .ex (undef), .ex (undef), .ex (.bool (true)), .ex (.bool (true)), .ex (undef), .ex (undef), .ex (undef), .ex (undef), .ex (undef), .ex (undef), .ex (undef), .ex (.bool (true))] (by kernel_rfl) (by kernel_rfl) rfl (List.forall_mem_cons.2 ⟨Yd.lasts_ex _, (List.forall_mem_cons.2 ⟨Yd.lasts_ex _, (List.forall_mem_cons.2 ⟨Yd.lasts_ex _, (List.forall_mem_cons.2 ⟨Yd.lasts_ex _, (List.forall_mem_cons.2 ⟨Yd.lasts_ex _, (List.forall_mem_cons.2 ⟨Yd.lasts_ex _, (List.forall_mem_cons.2 ⟨Yd.lasts_ex _, (List.forall_mem_cons.2 ⟨Yd.lasts_ex _, (List.forall_mem_cons.2 ⟨Yd.lasts_ex _, (List.forall_mem_cons.2 ⟨Yd.lasts_ex _, (List.forall_mem_cons.2 ⟨Yd.lasts_ex _, (List.forall_mem_cons.2 ⟨Yd.lasts_ex _, (List.forall_mem_cons.2 ⟨Yd.lasts_ex _, (List.forall_mem_cons.2 ⟨Yd.lasts_ex _, (List.forall_mem_cons.2 ⟨Yd.lasts_ex _, (List.forall_mem_cons.2 ⟨Yd.lasts_ex _, (List.forall_mem_cons.2 ⟨Yd.lasts_ex _, (List.forall_mem_cons.2 ⟨Yd.lasts_ex _, (List.forall_mem_cons.2 ⟨Yd.lasts_ex _, (List.forall_mem_cons.2 ⟨Yd.lasts_ex _, (List.forall_mem_cons.2 ⟨Yd.lasts_ex _, (List.forall_mem_cons.2 ⟨Yd.lasts_ex _, (List.forall_mem_cons.2 ⟨Yd.lasts_ex _, (List.forall_mem_cons.2 ⟨Yd.lasts_ex _, (List.forall_mem_cons.2 ⟨Yd.lasts_ex _, (List.forall_mem_cons.2 ⟨Yd.lasts_ex _, (List.forall_mem_cons.2 ⟨Yd.lasts_ex _, (List.forall_mem_cons.2 ⟨Yd.lasts_ex _, (List.forall_mem_cons.2 ⟨Yd.lasts_ex _, (List.forall_mem_cons.2 ⟨Yd.lasts_ex _, (fun _ h => by cases h)⟩)⟩)⟩)⟩)⟩)⟩)⟩)⟩)⟩)⟩)⟩)⟩)⟩)⟩)⟩)⟩)⟩)⟩)⟩)⟩)⟩)⟩)⟩)⟩)⟩)⟩)⟩)⟩)⟩)⟩) ⟨?_, ?_, ?_, ?_, ?_, ?_, ?_, ?_, ?_, ?_, ?_, ?_, ?_, ?_, ?_, ?_, ?_, ?_, ?_, ?_, ?_, ?_, ?_, ?_, ?_, ?_, ?_, ?_, ?_, ?_, trivial⟩ ?_
      · intro e1 w1 hb hp hun
        refine Ops.fld (hB.below hb) rfl rfl rfl rfl inferInstance ?_
        refine Ops.nil ?_
        exact After.dn (Below.refl _ _) (by exact rfl)
      · intro e1 w1 hb hp hun
        refine Ops.ldf_s (hB.below hb) rfl rfl rfl rfl rfl ?_
        refine Ops.nil ?_
        exact After.dn (Below.refl _ _) (by exact rfl)
      · intro e1 w1 hb hp hun
        refine Ops.mv_int rfl rfl rfl ?_
        refine Ops.nil ?_
        exact After.dn (Below.refl _ _) (by exact rfl)
      · intro e1 w1 hb hp hun
        refine Ops.idx (hM.top.later hb).2 rfl rfl rfl (by omega) (by omega) ?_
        refine Ops.nil ?_
        exact After.dn (Below.refl _ _) (by exact rfl)
      · intro e1 w1 hb hp hun
        refine Ops.ld_sl (hM.top.later hb) rfl (by omega) rfl rfl ?_
        refine Ops.nil ?_
        exact After.dn (Below.refl _ _) (by exact rfl)
      · intro e1 w1 hb hp hun
        refine Ops.len rfl rfl ?_
        refine Ops.nil ?_
        exact After.dn (Below.refl _ _) (by exact rfl)
      · intro e1 w1 hb hp hun
        refine Ops.fld (hB.below hb) rfl rfl rfl rfl inferInstance ?_
        refine Ops.nil ?_
        exact After.dn (Below.refl _ _) (by exact rfl)
      · intro e1 w1 hb hp hun
        refine Ops.ldf_s (hB.below hb) rfl rfl rfl rfl rfl ?_
        refine Ops.nil ?_
        exact After.dn (Below.refl _ _) (by exact rfl)
      · intro e1 w1 hb hp hun
        refine Ops.idx (hM.top.later hb).2 rfl rfl rfl (by omega) (by omega) ?_
        refine Ops.nil ?_
        exact After.dn (Below.refl _ _) (by exact rfl)
      · intro e1 w1 hb hp hun
        refine Ops.ld_sl (hM.top.later hb) rfl (by omega) rfl rfl ?_
        refine Ops.nil ?_
        exact After.dn (Below.refl _ _) (by exact rfl)
      · intro e1 w1 hb hp hun
        refine Ops.len rfl rfl ?_
        refine Ops.nil ?_
        exact After.dn (Below.refl _ _) (by exact rfl)
      · intro e1 w1 hb hp hun
        refine Ops.neq rfl rfl rfl ?_
        refine Ops.nil ?_
        exact After.dn (Below.refl _ _) (by exact congrArg Value.bool (decide_eq_true h6))
      · intro e1 w1 hb hp hun
        refine Ops.mv_bool rfl rfl rfl ?_
        refine Ops.nil ?_
        exact After.dn (Below.refl _ _) (by exact rfl)
      · intro e1 w1 hb hp hun
        refine Ops.skipg rfl rfl rfl rfl rfl ?_
        refine Ops.nil ?_
        exact After.dn (Below.refl _ _) (by exact rfl)
      · intro e1 w1 hb hp hun
        refine Ops.skipg rfl rfl rfl rfl rfl ?_
        refine Ops.nil ?_
        exact After.dn (Below.refl _ _) (by exact rfl)
      · intro e1 w1 hb hp hun
        refine Ops.skipg rfl rfl rfl rfl rfl ?_
        refine Ops.nil ?_
        exact After.dn (Below.refl _ _) (by exact rfl)
      · intro e1 w1 hb hp hun
        refine Ops.skipg rfl rfl rfl rfl rfl ?_
        refine Ops.nil ?_
        exact After.dn (Below.refl _ _) (by exact rfl)
      · intro e1 w1 hb hp hun
        refine Ops.skipg rfl rfl rfl rfl rfl ?_
        refine Ops.nil ?_
        exact After.dn (Below.refl _ _) (by exact rfl)
      · intro e1 w1 hb hp hun
        refine Ops.skipg rfl rfl rfl rfl rfl ?_
        refine Ops.nil ?_
        exact After.dn (Below.refl _ _) (by exact rfl)
      · intro e1 w1 hb hp hun
        refine Ops.skipg rfl rfl rfl rfl rfl ?_
        refine Ops.nil ?_
        exact After.dn (Below.refl _ _) (by exact rfl)
      · intro e1 w1 hb hp hun
        refine Ops.pick_t rfl rfl rfl ?_
        refine Ops.nil ?_
        exact After.dn (Below.refl _ _) (by exact rfl)
      · intro e1 w1 hb hp hun
        refine Ops.mv_bool rfl rfl rfl ?_
        refine Ops.nil ?_
        exact After.dn (Below.refl _ _) (by exact rfl)
      · intro e1 w1 hb hp hun
        refine Ops.skipg rfl rfl rfl rfl rfl ?_
        refine Ops.nil ?_
        exact After.dn (Below.refl _ _) (by exact rfl)
      · intro e1 w1 hb hp hun
        refine Ops.skipg rfl rfl rfl rfl rfl ?_
        refine Ops.nil ?_
        exact After.dn (Below.refl _ _) (by exact rfl)
      · intro e1 w1 hb hp hun
        refine Ops.skipg rfl rfl rfl rfl rfl ?_
        refine Ops.nil ?_
        exact After.dn (Below.refl _ _) (by exact rfl)
      · intro e1 w1 hb hp hun
        refine Ops.skipg rfl rfl rfl rfl rfl ?_
        refine Ops.nil ?_
        exact After.dn (Below.refl _ _) (by exact rfl)
      · intro e1 w1 hb hp hun
        refine Ops.skipg rfl rfl rfl rfl rfl ?_
        refine Ops.nil ?_
        exact After.dn (Below.refl _ _) (by exact rfl)
      · intro e1 w1 hb hp hun
        refine Ops.skipg rfl rfl rfl rfl rfl ?_
        refine Ops.nil ?_
        exact After.dn (Below.refl _ _) (by exact rfl)
      · intro e1 w1 hb hp hun
        refine Ops.skipg rfl rfl rfl rfl rfl ?_
        refine Ops.nil ?_
        exact After.dn (Below.refl _ _) (by exact rfl)
      · intro e1 w1 hb hp hun
        refine Ops.pick_t rfl rfl rfl ?_
        refine Ops.nil ?_
        exact After.dn (Below.refl _ _) (by exact rfl)
      intro u w3 hb3 _
      have hS3 := hS2.later hb3
      refine thenQ_n ?_
      refine Cd.cond_t rfl ?_
      refine Cd.seq ?_
      refine Cd.region ?_
      refine Ops.mv_bool rfl rfl rfl ?_
      refine Ops.nil ?_
      refine thenQ_n ?_
      refine Cd.ret ?_
      refine blockQ_r ?_
      refine thenQ_r ?_
      refine thenQ_r ?_
      refine blockQ_r ?_
      refine thenQ_r ?_
      refine ret1_b rfl ?_
      exact ⟨by rw [decide_eq_false (fun h : Mani xss => by have := (h.2.2.1.at_ hkx).1; omega)], hS3.none⟩
  · have hr1 := hP.all (by omega)
    have hs := hr1.sys
    have hrk : ∀ i : Int, 0 ≤ i → i < n → (rg rs i).n = (rg rs 0).n := fun i h0 h1 => by
      have e1 := hR.rowLen h0 h1
      have e2 := (hr1 _ (gl_in h0 (by omega))).1
      omega
    refine Cd.exit ?_
    refine thenQ_x ?_
    refine thenQ_x ?_
    refine blockQ_x ?_
    refine thenQ_n ?_
    refine Cd.seq ?_
    refine Cd.seq ?_
    refine Cd.region ?_
    refine Ops.mv_int rfl rfl rfl ?_
    refine Ops.nil ?_
    refine thenQ_n ?_
    refine Cd.block ?_
    refine Cd.loop (α := Nat) (fun i => [(1, .pointer Ab), (3, .int .i64 (n : Int)), (5, .int .i64 (i : Int))]) (fun i w' => St w w' [Bx 24 1 Ab [.slice A n c]] ∧ i ≤ n ∧ ∀ i', i' < i → ∀ k, k < n → i' + 2 ≤ k → ∀ f, f < (gl xss 0).length → Comm xss i' k f) (fun i => n - i) 0 ⟨rfl, rfl, rfl, trivial⟩ ⟨hS2, Nat.zero_le _, fun i' hi' => by omega⟩ ?_
    rintro i e w3 ⟨hS3, hi, hC⟩
    refine Cd.seq ?_
    refine Cd.seq ?_
    refine Cd.region ?_
    refine Ops.mv_int rfl rfl rfl ?_
    refine Ops.mv_int rfl rfl rfl ?_
    refine Ops.lss rfl rfl rfl ?_
    refine Ops.nil ?_
    refine thenQ_n ?_
    refine Cd.cond_p _ rfl (fun h6 => ?_) (fun h6 => ?_)
    · refine Cd.skip ?_
      refine thenQ_n ?_
      refine Cd.seq ?_
      refine Cd.block ?_
      refine Cd.seq ?_
      refine Cd.region ?_
      refine Ops.mv_int rfl rfl rfl ?_
      refine Ops.add rfl rfl rfl (by omega) ?_
      refine Ops.mv_int rfl rfl rfl ?_
      refine Ops.nil ?_
      refine thenQ_n ?_
      refine Cd.block ?_
      refine Cd.loop (α := Nat) (fun k => [(1, .pointer Ab), (3, .int .i64 (n : Int)), (5, .int .i64 (i : Int)), (6, .int .i64 (k : Int))]) (fun k w' => St w w' [Bx 24 1 Ab [.slice A n c]] ∧ i + 2 ≤ k ∧ ∀ k', k' < k → k' < n → i + 2 ≤ k' → ∀ f, f < (gl xss 0).length → Comm xss i k' f) (fun k => n + 1 - k) (i + 2) ⟨rfl, rfl, rfl, rfl, trivial⟩ ⟨hS3, Nat.le_refl _, fun k' _ _ _ => by omega⟩ ?_
      rintro k e w4 ⟨hS4, hik, hC4⟩
      refine Cd.seq ?_
      refine Cd.seq ?_
      refine Cd.region ?_
      refine Ops.mv_int rfl rfl rfl ?_
      refine Ops.mv_int rfl rfl rfl ?_
      refine Ops.lss rfl rfl rfl ?_
      refine Ops.nil ?_
      refine thenQ_n ?_
      refine Cd.cond_p _ rfl (fun h7 => ?_) (fun h7 => ?_)
      · have rki := hrk i (by omega) h6
        have rkk := hrk k (by omega) h7
        refine Cd.skip ?_
        refine thenQ_n ?_
        refine Cd.seq ?_
        refine Cd.block ?_
        refine Cd.seq ?_
        refine Cd.region ?_
        refine Ops.mv_int rfl rfl rfl ?_
        refine Ops.nil ?_
        refine thenQ_n ?_
        refine Cd.block ?_
        refine Cd.loop (α := Nat) (fun f => [(1, .pointer Ab), (3, .int .i64 (n : Int)), (5, .int .i64 (i : Int)), (6, .int .i64 (k : Int)), (7, .int .i64 (f : Int))]) (fun f w' => St w w' [Bx 24 1 Ab [.slice A n c]] ∧ f ≤ (gl xss 0).length ∧ ∀ f', f' < f → Comm xss i k f') (fun f => (gl xss 0).length - f) 0 ⟨rfl, rfl, rfl, rfl, rfl, trivial⟩ ⟨hS4, Nat.zero_le _, fun f' hf' => by omega⟩ ?_
        rintro f e w5 ⟨hS5, hf, hC5⟩
        have hM := hS5.oldRows hR
        have hB := hS5.rd 0 rfl
        have hri := hM.at_ (i := i) (by omega) h6
        have hrk' := hM.at_ (i := k) (by omega) h7
        refine Cd.seq ?_
        refine Cd.seq ?_
        refine Cd.region ?_
        refine Ops.mv_int rfl rfl rfl ?_
        refine Ops.fld (hS5.rd 0 rfl) rfl rfl rfl rfl inferInstance ?_
        refine Ops.ldf_s (hS5.rd 0 rfl) rfl rfl rfl rfl rfl ?_
        refine Ops.idx hM.top.2 rfl rfl rfl (by omega) (by omega) ?_
        refine Ops.ld_sl hM.top rfl (by omega) rfl rfl ?_
        refine Ops.len rfl rfl ?_
        refine Ops.lss rfl rfl rfl ?_
        refine Ops.nil ?_
        refine thenQ_n ?_
        refine Cd.cond_p _ rfl (fun h8 => ?_) (fun h8 => ?_)
        · have hii := (hs _ (gl_in (k := (i : Int)) (by omega) (by omega))).2 (f : Int) (by omega) (by omega)
          have hkk := (hs _ (gl_in (k := (k : Int)) (by omega) (by omega))).2 (f : Int) (by omega) (by omega)
          refine Cd.skip ?_
          refine thenQ_n ?_
          refine Cd.seq ?_
          refine Cd.block ?_
          refine Cd.seq ?_
          by_cases h9 : gi (gl xss k) (gi (gl xss i) f) = gi (gl xss i) (gi (gl xss k) f)
          · by_cases h10 : gi (gl xss i) f = gi (gl xss k) f
            · --dup 3
              refine Cd.draw [.ex (.pointer (ptrAt (Ab) 0)), .ex (.slice (A) (n) (c)), .ex (.int .i64 ((k : Int))), .ex (.pointer (ptrAt (A) ((k : Int)).toNat)), .ex (.slice ((rg (rs) ((k : Int))).a) ((rg (rs) ((k : Int))).n) ((rg (rs) ((k : Int))).c)), .ex (.pointer (ptrAt (Ab) 0)), .ex (.slice (A) (n) (c)), .ex (.int .i64 ((i : Int))), .ex (.pointer (ptrAt (A) ((i : Int)).toNat)), .ex (.slice ((rg (rs) ((i : Int))).a) ((rg (rs) ((i : Int))).n) ((rg (rs) ((i : Int))).c)), .ex (.int .i64 ((f : Int))), .ex (.pointer (ptrAt ((rg (rs) ((i : Int))).a) ((f : Int)).toNat)), .ex (.int .i64 (gi (gl xss i) ((f : Int)))), .ex (.pointer (ptrAt ((rg (rs) ((k : Int))).a) (gi (gl xss i) ((f : Int))).toNat)), .ex (.int .i64 (gi (gl xss k) (gi (gl xss i) ((f : Int))))), .ex (.pointer (ptrAt (Ab) 0)), .ex (.slice (A) (n) (c)), .ex (.int .i64 ((i : Int))), .ex (.pointer (ptrAt (A) ((i : Int)).toNat)), .ex (.slice ((rg (rs) ((i : Int))).a) ((rg (rs) ((i : Int))).n) ((rg (rs) ((i : Int))).c)), .ex (.pointer (ptrAt (Ab) 0)), .ex (.slice (A) (n) (c)), .ex (.int .i64 ((k : Int))), .ex (.pointer (ptrAt (A) ((k : Int)).toNat)), .ex (.slice ((rg (rs) ((k : Int))).a) ((rg (rs) ((k : Int))).n) ((rg (rs) ((k : Int))).c)), .ex (.int .i64 ((f : Int))), .ex (.pointer (ptrAt ((rg (rs) ((k : Int))).a) ((f : Int)).toNat)), .ex (.int .i64 (gi (gl xss k) ((f : Int)))), .ex (.pointer (ptrAt ((rg (rs) ((i : Int))).a) (gi (gl xss k) ((f : Int))).toNat)), .ex (.int .i64 (gi (gl xss i) (gi (gl xss k) ((f : Int))))), .ex (.bool (false)), .ex (.bool (false)), .ex (.pointer (ptrAt (Ab) 0)), .ex (.slice (A) (n) (c)), .ex (.int .i64 ((i : Int))), .ex (.pointer (ptrAt (A) ((i : Int)).toNat)), .ex (.slice ((rg (rs) ((i : Int))).a) ((rg (rs) ((i : Int))).n) ((rg (rs) ((i : Int))).c)), .ex (.int .i64 ((f : Int))), .ex (.pointer (ptrAt ((rg (rs) ((i : Int))).a) ((f : Int)).toNat)), .ex (.int .i64 (gi (gl xss i) ((f : Int)))), .ex (.pointer (ptrAt (Ab) 0)), .ex (.slice (A) (n) (c)), .ex (.int .i64 ((k : Int))), .ex (.pointer (ptrAt (A) ((k : Int)).toNat)), .ex (.slice ((rg (rs) ((k : Int))).a) ((rg (rs) ((k : Int))).n) ((rg (rs) ((k : Int))).c)), .ex (.int .i64 ((f : Int))), .ex (.pointer (ptrAt ((rg (rs) ((k : Int))).a) ((f : Int)).toNat)), .ex (.int .i64 (gi (gl xss k) ((f : Int)))), .ex (.bool (true)), .ex (.bool (true))] (by kernel_rfl) (by kernel_rfl) rfl (List.forall_mem_cons.2 ⟨Yd.lasts_ex _, (List.forall_mem_cons.2 ⟨Yd.lasts_ex _, (List.forall_mem_cons.2 ⟨Yd.lasts_ex _, (List.forall_mem_cons.2 ⟨Yd.lasts_ex _, (List.forall_mem_cons.2 ⟨Yd.lasts_ex _, (List.forall_mem_cons.2 ⟨Yd.lasts_ex _, (List.forall_mem_cons.2 ⟨Yd.lasts_ex _, (List.forall_mem_cons.2 ⟨Yd.lasts_ex _, (List.forall_mem_cons.2 ⟨Yd.lasts_ex _, (List.forall_mem_cons.2 ⟨Yd.lasts_ex _, (List.forall_mem_cons.2 ⟨Yd.lasts_ex _, (List.forall_mem_cons.2 ⟨Yd.lasts_ex _, (List.forall_mem_cons.2 ⟨Yd.lasts_ex _, (List.forall_mem_cons.2 ⟨Yd.lasts_ex _, (List.forall_mem_cons.2 ⟨Yd.lasts_ex _, (List.forall_mem_cons.2 ⟨Yd.lasts_ex _, (List.forall_mem_cons.2 ⟨Yd.lasts_ex _, (List.forall_mem_cons.2 ⟨Yd.lasts_ex _, (List.forall_mem_cons.2 ⟨Yd.lasts_ex _, (List.forall_mem_cons.2 ⟨Yd.lasts_ex _, (List.forall_mem_cons.2 ⟨Yd.lasts_ex _, (List.forall_mem_cons.2 ⟨Yd.lasts_ex _, (List.forall_mem_cons.2 ⟨Yd.lasts_ex _, (List.forall_mem_cons.2 ⟨Yd.lasts_ex _, (List.forall_mem_cons.2 ⟨Yd.lasts_ex _, (List.forall_mem_cons.2 ⟨Yd.lasts_ex _, (List.forall_mem_cons.2 ⟨Yd.lasts_ex _, (List.forall_mem_cons.2 ⟨Yd.lasts_ex _, (List.forall_mem_cons.2 ⟨Yd.lasts_ex _, (List.forall_mem_cons.2 ⟨Yd.lasts_ex _, (List.forall_mem_cons.2 ⟨Yd.lasts_ex _, (List.forall_mem_cons.2 ⟨Yd.lasts_ex _, (List.forall_mem_cons.2 ⟨Yd.lasts_ex _, (List.forall_mem_cons.2 ⟨Yd.lasts_ex _, (List.forall_mem_cons.2 ⟨Yd.lasts_ex _, (List.forall_mem_cons.2 ⟨Yd.lasts_ex _, (List.forall_mem_cons.2 ⟨Yd.lasts_ex _, (List.forall_mem_cons.2 ⟨Yd.lasts_ex _, (List.forall_mem_cons.2 ⟨Yd.lasts_ex _, (List.forall_mem_cons.2 ⟨Yd.lasts_ex _, (List.forall_mem_cons.2 ⟨Yd.lasts_ex _, (List.forall_mem_cons.2 ⟨Yd.lasts_ex _, (List.forall_mem_cons.2 ⟨Yd.lasts_ex _, (List.forall_mem_cons.2 ⟨Yd.lasts_ex _, (List.forall_mem_cons.2 ⟨Yd.lasts_ex _, (List.forall_mem_cons.2 ⟨Yd.lasts_ex _, (List.forall_mem_cons.2 ⟨Yd.lasts_ex _, (List.forall_mem_cons.2 ⟨Yd.lasts_ex _, (List.forall_mem_cons.2 ⟨Yd.lasts_ex _, (List.forall_mem_cons.2 ⟨Yd.lasts_ex _, (fun _ h => by cases h)⟩)⟩)⟩)⟩)⟩)⟩)⟩)⟩)⟩)⟩)⟩)⟩)⟩)⟩)⟩)⟩)⟩)⟩)⟩)⟩)⟩)⟩)⟩)⟩)⟩)⟩)⟩)⟩)⟩)⟩)⟩)⟩)⟩)⟩)⟩)⟩)⟩)⟩)⟩)⟩)⟩)⟩)⟩)⟩)⟩)⟩)⟩)⟩)⟩)⟩) ⟨?_, ?_, ?_, ?_, ?_, ?_, ?_, ?_, ?_, ?_, ?_, ?_, ?_, ?_, ?_, ?_, ?_, ?_, ?_, ?_, ?_, ?_, ?_, ?_, ?_, ?_, ?_, ?_, ?_, ?_, ?_, ?_, ?_, ?_, ?_, ?_, ?_, ?_, ?_, ?_, ?_, ?_, ?_, ?_, ?_, ?_, ?_, ?_, ?_, ?_, trivial⟩ ?_
              · intro e1 w1 hb hp hun
                refine Ops.fld (hB.below hb) rfl rfl rfl rfl inferInstance ?_
                refine Ops.nil ?_
                exact After.dn (Below.refl _ _) (by exact rfl)
              · intro e1 w1 hb hp hun
                refine Ops.ldf_s (hB.below hb) rfl rfl rfl rfl rfl ?_
                refine Ops.nil ?_
                exact After.dn (Below.refl _ _) (by exact rfl)
              · intro e1 w1 hb hp hun
                refine Ops.mv_int rfl rfl rfl ?_
                refine Ops.nil ?_
                exact After.dn (Below.refl _ _) (by exact rfl)
              · intro e1 w1 hb hp hun
                refine Ops.idx (hM.top.later hb).2 rfl rfl rfl (by omega) (by omega) ?_
                refine Ops.nil ?_
                exact After.dn (Below.refl _ _) (by exact rfl)
              · intro e1 w1 hb hp hun
                refine Ops.ld_sl (hM.top.later hb) rfl (by omega) rfl rfl ?_
                refine Ops.nil ?_
                exact After.dn (Below.refl _ _) (by exact rfl)
              · intro e1 w1 hb hp hun
                refine Ops.fld (hB.below hb) rfl rfl rfl rfl inferInstance ?_
                refine Ops.nil ?_
                exact After.dn (Below.refl _ _) (by exact rfl)
              · intro e1 w1 hb hp hun
                refine Ops.ldf_s (hB.below hb) rfl rfl rfl rfl rfl ?_
                refine Ops.nil ?_
                exact After.dn (Below.refl _ _) (by exact rfl)
              · intro e1 w1 hb hp hun
                refine Ops.mv_int rfl rfl rfl ?_
                refine Ops.nil ?_
                exact After.dn (Below.refl _ _) (by exact rfl)
              · intro e1 w1 hb hp hun
                refine Ops.idx (hM.top.later hb).2 rfl rfl rfl (by omega) (by omega) ?_
                refine Ops.nil ?_
                exact After.dn (Below.refl _ _) (by exact rfl)
              · intro e1 w1 hb hp hun
                refine Ops.ld_sl (hM.top.later hb) rfl (by omega) rfl rfl ?_
                refine Ops.nil ?_
                exact After.dn (Below.refl _ _) (by exact rfl)
              · intro e1 w1 hb hp hun
                refine Ops.mv_int rfl rfl rfl ?_
                refine Ops.nil ?_
                exact After.dn (Below.refl _ _) (by exact rfl)
              · intro e1 w1 hb hp hun
                refine Ops.idx (hri.later hb).2 rfl rfl rfl (by omega) (by omega) ?_
                refine Ops.nil ?_
                exact After.dn (Below.refl _ _) (by exact rfl)
              · intro e1 w1 hb hp hun
                refine Ops.ld_int (hri.later hb) rfl (by omega) rfl rfl ?_
                refine Ops.nil ?_
                exact After.dn (Below.refl _ _) (by exact rfl)
              · intro e1 w1 hb hp hun
                refine Ops.idx (hrk'.later hb).2 rfl rfl rfl (by omega) (by omega) ?_
                refine Ops.nil ?_
                exact After.dn (Below.refl _ _) (by exact rfl)
              · intro e1 w1 hb hp hun
                refine Ops.ld_int (hrk'.later hb) rfl (by omega) rfl rfl ?_
                refine Ops.nil ?_
                exact After.dn (Below.refl _ _) (by exact rfl)
              · intro e1 w1 hb hp hun
                refine Ops.fld (hB.below hb) rfl rfl rfl rfl inferInstance ?_
                refine Ops.nil ?_
                exact After.dn (Below.refl _ _) (by exact rfl)
              · intro e1 w1 hb hp hun
                refine Ops.ldf_s (hB.below hb) rfl rfl rfl rfl rfl ?_
                refine Ops.nil ?_
                exact After.dn (Below.refl _ _) (by exact rfl)
              · intro e1 w1 hb hp hun
                refine Ops.mv_int rfl rfl rfl ?_
                refine Ops.nil ?_
                exact After.dn (Below.refl _ _) (by exact rfl)
              · intro e1 w1 hb hp hun
                refine Ops.idx (hM.top.later hb).2 rfl rfl rfl (by omega) (by omega) ?_
                refine Ops.nil ?_
                exact After.dn (Below.refl _ _) (by exact rfl)
              · intro e1 w1 hb hp hun
                refine Ops.ld_sl (hM.top.later hb) rfl (by omega) rfl rfl ?_
                refine Ops.nil ?_
                exact After.dn (Below.refl _ _) (by exact rfl)
              · intro e1 w1 hb hp hun
                refine Ops.fld (hB.below hb) rfl rfl rfl rfl inferInstance ?_
                refine Ops.nil ?_
                exact After.dn (Below.refl _ _) (by exact rfl)
              · intro e1 w1 hb hp hun
                refine Ops.ldf_s (hB.below hb) rfl rfl rfl rfl rfl ?_
                refine Ops.nil ?_
                exact After.dn (Below.refl _ _) (by exact rfl)
              · intro e1 w1 hb hp hun
                refine Ops.mv_int rfl rfl rfl ?_
                refine Ops.nil ?_
                exact After.dn (Below.refl _ _) (by exact rfl)
              · intro e1 w1 hb hp hun
                refine Ops.idx (hM.top.later hb).2 rfl rfl rfl (by omega) (by omega) ?_
                refine Ops.nil ?_
                exact After.dn (Below.refl _ _) (by exact rfl)
              · intro e1 w1 hb hp hun
                refine Ops.ld_sl (hM.top.later hb) rfl (by omega) rfl rfl ?_
                refine Ops.nil ?_
                exact After.dn (Below.refl _ _) (by exact rfl)
              · intro e1 w1 hb hp hun
                refine Ops.mv_int rfl rfl rfl ?_
                refine Ops.nil ?_
                exact After.dn (Below.refl _ _) (by exact rfl)
              · intro e1 w1 hb hp hun
                refine Ops.idx (hrk'.later hb).2 rfl rfl rfl (by omega) (by omega) ?_
                refine Ops.nil ?_
                exact After.dn (Below.refl _ _) (by exact rfl)
              · intro e1 w1 hb hp hun
                refine Ops.ld_int (hrk'.later hb) rfl (by omega) rfl rfl ?_
                refine Ops.nil ?_
                exact After.dn (Below.refl _ _) (by exact rfl)
              · intro e1 w1 hb hp hun
                refine Ops.idx (hri.later hb).2 rfl rfl rfl (by omega) (by omega) ?_
                refine Ops.nil ?_
                exact After.dn (Below.refl _ _) (by exact rfl)
              · intro e1 w1 hb hp hun
                refine Ops.ld_int (hri.later hb) rfl (by omega) rfl rfl ?_
                refine Ops.nil ?_
                exact After.dn (Below.refl _ _) (by exact rfl)
              · intro e1 w1 hb hp hun
                refine Ops.neq rfl rfl rfl ?_
                refine Ops.nil ?_
                exact After.dn (Below.refl _ _) (by exact congrArg Value.bool (decide_eq_false (fun h => h h9)))
              · intro e1 w1 hb hp hun
                refine Ops.mv_bool rfl rfl rfl ?_
                refine Ops.nil ?_
                exact After.dn (Below.refl _ _) (by exact rfl)
              · intro e1 w1 hb hp hun
                refine Ops.rung rfl rfl rfl ?_
                refine Ops.fld (hB.below hb) rfl rfl rfl rfl inferInstance ?_
                refine Ops.nil ?_
                exact After.dn (Below.refl _ _) (by exact rfl)
              · intro e1 w1 hb hp hun
                refine Ops.rung rfl rfl rfl ?_
                refine Ops.ldf_s (hB.below hb) rfl rfl rfl rfl rfl ?_
                refine Ops.nil ?_
                exact After.dn (Below.refl _ _) (by exact rfl)
              · intro e1 w1 hb hp hun
                refine Ops.rung rfl rfl rfl ?_
                refine Ops.mv_int rfl rfl rfl ?_
                refine Ops.nil ?_
                exact After.dn (Below.refl _ _) (by exact rfl)
              · intro e1 w1 hb hp hun
                refine Ops.rung rfl rfl rfl ?_
                refine Ops.idx (hM.top.later hb).2 rfl rfl rfl (by omega) (by omega) ?_
                refine Ops.nil ?_
                exact After.dn (Below.refl _ _) (by exact rfl)
              · intro e1 w1 hb hp hun
                refine Ops.rung rfl rfl rfl ?_
                refine Ops.ld_sl (hM.top.later hb) rfl (by omega) rfl rfl ?_
                refine Ops.nil ?_
                exact After.dn (Below.refl _ _) (by exact rfl)
              · intro e1 w1 hb hp hun
                refine Ops.rung rfl rfl rfl ?_
                refine Ops.mv_int rfl rfl rfl ?_
                refine Ops.nil ?_
                exact After.dn (Below.refl _ _) (by exact rfl)
              · intro e1 w1 hb hp hun
                refine Ops.rung rfl rfl rfl ?_
                refine Ops.idx (hri.later hb).2 rfl rfl rfl (by omega) (by omega) ?_
                refine Ops.nil ?_
                exact After.dn (Below.refl _ _) (by exact rfl)
              · intro e1 w1 hb hp hun
                refine Ops.rung rfl rfl rfl ?_
                refine Ops.ld_int (hri.later hb) rfl (by omega) rfl rfl ?_
                refine Ops.nil ?_
                exact After.dn (Below.refl _ _) (by exact rfl)
              · intro e1 w1 hb hp hun
                refine Ops.rung rfl rfl rfl ?_
                refine Ops.fld (hB.below hb) rfl rfl rfl rfl inferInstance ?_
                refine Ops.nil ?_
                exact After.dn (Below.refl _ _) (by exact rfl)
              · intro e1 w1 hb hp hun
                refine Ops.rung rfl rfl rfl ?_
                refine Ops.ldf_s (hB.below hb) rfl rfl rfl rfl rfl ?_
                refine Ops.nil ?_
                exact After.dn (Below.refl _ _) (by exact rfl)
              · intro e1 w1 hb hp hun
                refine Ops.rung rfl rfl rfl ?_
                refine Ops.mv_int rfl rfl rfl ?_
                refine Ops.nil ?_
                exact After.dn (Below.refl _ _) (by exact rfl)
              · intro e1 w1 hb hp hun
                refine Ops.rung rfl rfl rfl ?_
                refine Ops.idx (hM.top.later hb).2 rfl rfl rfl (by omega) (by omega) ?_
                refine Ops.nil ?_
                exact After.dn (Below.refl _ _) (by exact rfl)
              · intro e1 w1 hb hp hun
                refine Ops.rung rfl rfl rfl ?_
                refine Ops.ld_sl (hM.top.later hb) rfl (by omega) rfl rfl ?_
                refine Ops.nil ?_
                exact After.dn (Below.refl _ _) (by exact rfl)
              · intro e1 w1 hb hp hun
                refine Ops.rung rfl rfl rfl ?_
                refine Ops.mv_int rfl rfl rfl ?_
                refine Ops.nil ?_
                exact After.dn (Below.refl _ _) (by exact rfl)
              · intro e1 w1 hb hp hun
                refine Ops.rung rfl rfl rfl ?_
                refine Ops.idx (hrk'.later hb).2 rfl rfl rfl (by omega) (by omega) ?_
                refine Ops.nil ?_
                exact After.dn (Below.refl _ _) (by exact rfl)
              · intro e1 w1 hb hp hun
                refine Ops.rung rfl rfl rfl ?_
                refine Ops.ld_int (hrk'.later hb) rfl (by omega) rfl rfl ?_
                refine Ops.nil ?_
                exact After.dn (Below.refl _ _) (by exact rfl)
              · intro e1 w1 hb hp hun
                refine Ops.rung rfl rfl rfl ?_
                refine Ops.eql rfl rfl rfl ?_
                refine Ops.nil ?_
                exact After.dn (Below.refl _ _) (by exact congrArg Value.bool (decide_eq_true h10))
              · intro e1 w1 hb hp hun
                refine Ops.pick_f rfl rfl rfl ?_
                refine Ops.nil ?_
                exact After.dn (Below.refl _ _) (by exact rfl)
              intro u w6 hb6 _
              have hS6 := hS5.later hb6
              refine thenQ_n ?_
              refine Cd.cond_t rfl ?_
              refine Cd.seq ?_
              refine Cd.region ?_
              refine Ops.mv_bool rfl rfl rfl ?_
              refine Ops.nil ?_
              refine thenQ_n ?_
              refine Cd.ret ?_
              refine blockQ_r ?_
              refine thenQ_r ?_
              refine thenQ_r ?_
              refine blockQ_r ?_
              refine blockQ_r ?_
              refine thenQ_r ?_
              refine thenQ_r ?_
              refine blockQ_r ?_
              refine blockQ_r ?_
              refine thenQ_r ?_
              refine thenQ_r ?_
              refine blockQ_r ?_
              refine thenQ_r ?_
              refine ret1_b rfl ?_
              exact ⟨by rw [decide_eq_false (fun h : Mani xss => (h.2.2.2.1 i (by omega) k (by omega) hik f (by omega)).2 h10)], hS6.none⟩
            · refine Cd.draw [.ex (.pointer (ptrAt (Ab) 0)), .ex (.slice (A) (n) (c)), .ex (.int .i64 ((k : Int))), .ex (.pointer (ptrAt (A) ((k : Int)).toNat)), .ex (.slice ((rg (rs) ((k : Int))).a) ((rg (rs) ((k : Int))).n) ((rg (rs) ((k : Int))).c)), .ex (.pointer (ptrAt (Ab) 0)), .ex (.slice (A) (n) (c)), .ex (.int .i64 ((i : Int))), .ex (.pointer (ptrAt (A) ((i : Int)).toNat)), .ex (.slice ((rg (rs) ((i : Int))).a) ((rg (rs) ((i : Int))).n) ((rg (rs) ((i : Int))).c)), .ex (.int .i64 ((f : Int))), .ex (.pointer (ptrAt ((rg (rs) ((i : Int))).a) ((f : Int)).toNat)), .ex (.int .i64 (gi (gl xss i) ((f : Int)))), .ex (.pointer (ptrAt ((rg (rs) ((k : Int))).a) (gi (gl xss i) ((f : Int))).toNat)), .ex (.int .i64 (gi (gl xss k) (gi (gl xss i) ((f : Int))))), .ex (.pointer (ptrAt (Ab) 0)), .ex (.slice (A) (n) (c)), .ex (.int .i64 ((i : Int))), .ex (.pointer (ptrAt (A) ((i : Int)).toNat)), .ex (.slice ((rg (rs) ((i : Int))).a) ((rg (rs) ((i : Int))).n) ((rg (rs) ((i : Int))).c)), .ex (.pointer (ptrAt (Ab) 0)), .ex (.slice (A) (n) (c)), .ex (.int .i64 ((k : Int))), .ex (.pointer (ptrAt (A) ((k : Int)).toNat)), .ex (.slice ((rg (rs) ((k : Int))).a) ((rg (rs) ((k : Int))).n) ((rg (rs) ((k : Int))).c)), .ex (.int .i64 ((f : Int))), .ex (.pointer (ptrAt ((rg (rs) ((k : Int))).a) ((f : Int)).toNat)), .ex (.int .i64 (gi (gl xss k) ((f : Int)))), .ex (.pointer (ptrAt ((rg (rs) ((i : Int))).a) (gi (gl xss k) ((f : Int))).toNat)), .ex (.int .i64 (gi (gl xss i) (gi (gl xss k) ((f : Int))))), .ex (.bool (false)), .ex (.bool (false)), .ex (.pointer (ptrAt (Ab) 0)), .ex (.slice (A) (n) (c)), .ex (.int .i64 ((i : Int))), .ex (.pointer (ptrAt (A) ((i : Int)).toNat)), .ex (.slice ((rg (rs) ((i : Int))).a) ((rg (rs) ((i : Int))).n) ((rg (rs) ((i : Int))).c)), .ex (.int .i64 ((f : Int))), .ex (.pointer (ptrAt ((rg (rs) ((i : Int))).a) ((f : Int)).toNat)), .ex (.int .i64 (gi (gl xss i) ((f : Int)))), .ex (.pointer (ptrAt (Ab) 0)), .ex (.slice (A) (n) (c)), .ex (.int .i64 ((k : Int))), .ex (.pointer (ptrAt (A) ((k : Int)).toNat)), .ex (.slice ((rg (rs) ((k : Int))).a) ((rg (rs) ((k : Int))).n) ((rg (rs) ((k : Int))).c)), .ex (.int .i64 ((f : Int))), .ex (.pointer (ptrAt ((rg (rs) ((k : Int))).a) ((f : Int)).toNat)), .ex (.int .i64 (gi (gl xss k) ((f : Int)))), .ex (.bool (false)), .ex (.bool (false))] (by kernel_rfl) (by kernel_rfl) rfl (List.forall_mem_cons.2 ⟨Yd.lasts_ex _, (List.forall_mem_cons.2 ⟨Yd.lasts_ex _, (List.forall_mem_cons.2 ⟨Yd.lasts_ex _, (List.forall_mem_cons.2 ⟨Yd.lasts_ex _, (List.forall_mem_cons.2 ⟨Yd.lasts_ex _, (List.forall_mem_cons.2 ⟨Yd.lasts_ex _, (List.forall_mem_cons.2 ⟨Yd.lasts_ex _, (List.forall_mem_cons.2 ⟨Yd.lasts_ex _, (List.forall_mem_cons.2 ⟨Yd.lasts_ex _, (List.forall_mem_cons.2 ⟨Yd.lasts_ex _, (List.forall_mem_cons.2 ⟨Yd.lasts_ex _, (List.forall_mem_cons.2 ⟨Yd.lasts_ex _, (List.forall_mem_cons.2 ⟨Yd.lasts_ex _, (List.forall_mem_cons.2 ⟨Yd.lasts_ex _, (List.forall_mem_cons.2 ⟨Yd.lasts_ex _, (List.forall_mem_cons.2 ⟨Yd.lasts_ex _, (List.forall_mem_cons.2 ⟨Yd.lasts_ex _, (List.forall_mem_cons.2 ⟨Yd.lasts_ex _, (List.forall_mem_cons.2 ⟨Yd.lasts_ex _, (List.forall_mem_cons.2 ⟨Yd.lasts_ex _, (List.forall_mem_cons.2 ⟨Yd.lasts_ex _, (List.forall_mem_cons.2 ⟨Yd.lasts_ex _, (List.forall_mem_cons.2 ⟨Yd.lasts_ex _, (List.forall_mem_cons.2 ⟨Yd.lasts_ex _, (List.forall_mem_cons.2 ⟨Yd.lasts_ex _, (List.forall_mem_cons.2 ⟨Yd.lasts_ex _, (List.forall_mem_cons.2 ⟨Yd.lasts_ex _, (List.forall_mem_cons.2 ⟨Yd.lasts_ex _, (List.forall_mem_cons.2 ⟨Yd.lasts_ex _, (List.forall_mem_cons.2 ⟨Yd.lasts_ex _, (List.forall_mem_cons.2 ⟨Yd.lasts_ex _, (List.forall_mem_cons.2 ⟨Yd.lasts_ex _, (List.forall_mem_cons.2 ⟨Yd.lasts_ex _, (List.forall_mem_cons.2 ⟨Yd.lasts_ex _, (List.forall_mem_cons.2 ⟨Yd.lasts_ex _, (List.forall_mem_cons.2 ⟨Yd.lasts_ex _, (List.forall_mem_cons.2 ⟨Yd.lasts_ex _, (List.forall_mem_cons.2 ⟨Yd.lasts_ex _, (List.forall_mem_cons.2 ⟨Yd.lasts_ex _, (List.forall_mem_cons.2 ⟨Yd.lasts_ex _, (List.forall_mem_cons.2 ⟨Yd.lasts_ex _, (List.forall_mem_cons.2 ⟨Yd.lasts_ex _, (List.forall_mem_cons.2 ⟨Yd.lasts_ex _, (List.forall_mem_cons.2 ⟨Yd.lasts_ex _, (List.forall_mem_cons.2 ⟨Yd.lasts_ex _, (List.forall_mem_cons.2 ⟨Yd.lasts_ex _, (List.forall_mem_cons.2 ⟨Yd.lasts_ex _, (List.forall_mem_cons.2 ⟨Yd.lasts_ex _, (List.forall_mem_cons.2 ⟨Yd.lasts_ex _, (List.forall_mem_cons.2 ⟨Yd.lasts_ex _, (fun _ h => by cases h)⟩)⟩)⟩)⟩)⟩)⟩)⟩)⟩)⟩)⟩)⟩)⟩)⟩)⟩)⟩)⟩)⟩)⟩)⟩)⟩)⟩)⟩)⟩)⟩)⟩)⟩)⟩)⟩)⟩)⟩)⟩)⟩)⟩)⟩)⟩)⟩)⟩)⟩)⟩)⟩)⟩)⟩)⟩)⟩)⟩)⟩)⟩)⟩)⟩)⟩) ⟨?_, ?_, ?_, ?_, ?_, ?_, ?_, ?_, ?_, ?_, ?_, ?_, ?_, ?_, ?_, ?_, ?_, ?_, ?_, ?_, ?_, ?_, ?_, ?_, ?_, ?_, ?_, ?_, ?_, ?_, ?_, ?_, ?_, ?_, ?_, ?_, ?_, ?_, ?_, ?_, ?_, ?_, ?_, ?_, ?_, ?_, ?_, ?_, ?_, ?_, trivial⟩ ?_
              · intro e1 w1 hb hp hun
                refine Ops.fld (hB.below hb) rfl rfl rfl rfl inferInstance ?_
                refine Ops.nil ?_
                exact After.dn (Below.refl _ _) (by exact rfl)
              · intro e1 w1 hb hp hun
                refine Ops.ldf_s (hB.below hb) rfl rfl rfl rfl rfl ?_
                refine Ops.nil ?_
                exact After.dn (Below.refl _ _) (by exact rfl)
              · intro e1 w1 hb hp hun
                refine Ops.mv_int rfl rfl rfl ?_
                refine Ops.nil ?_
                exact After.dn (Below.refl _ _) (by exact rfl)
              · intro e1 w1 hb hp hun
                refine Ops.idx (hM.top.later hb).2 rfl rfl rfl (by omega) (by omega) ?_
                refine Ops.nil ?_
                exact After.dn (Below.refl _ _) (by exact rfl)
              · intro e1 w1 hb hp hun
                refine Ops.ld_sl (hM.top.later hb) rfl (by omega) rfl rfl ?_
                refine Ops.nil ?_
                exact After.dn (Below.refl _ _) (by exact rfl)
              · intro e1 w1 hb hp hun
                refine Ops.fld (hB.below hb) rfl rfl rfl rfl inferInstance ?_
                refine Ops.nil ?_
                exact After.dn (Below.refl _ _) (by exact rfl)
              · intro e1 w1 hb hp hun
                refine Ops.ldf_s (hB.below hb) rfl rfl rfl rfl rfl ?_
                refine Ops.nil ?_
                exact After.dn (Below.refl _ _) (by exact rfl)
              · intro e1 w1 hb hp hun
                refine Ops.mv_int rfl rfl rfl ?_
                refine Ops.nil ?_
                exact After.dn (Below.refl _ _) (by exact rfl)
              · intro e1 w1 hb hp hun
                refine Ops.idx (hM.top.later hb).2 rfl rfl rfl (by omega) (by omega) ?_
                refine Ops.nil ?_
                exact After.dn (Below.refl _ _) (by exact rfl)
              · intro e1 w1 hb hp hun
                refine Ops.ld_sl (hM.top.later hb) rfl (by omega) rfl rfl ?_
                refine Ops.nil ?_
                exact After.dn (Below.refl _ _) (by exact rfl)
              · intro e1 w1 hb hp hun
                refine Ops.mv_int rfl rfl rfl ?_
                refine Ops.nil ?_
                exact After.dn (Below.refl _ _) (by exact rfl)
              · intro e1 w1 hb hp hun
                refine Ops.idx (hri.later hb).2 rfl rfl rfl (by omega) (by omega) ?_
                refine Ops.nil ?_
                exact After.dn (Below.refl _ _) (by exact rfl)
              · intro e1 w1 hb hp hun
                refine Ops.ld_int (hri.later hb) rfl (by omega) rfl rfl ?_
                refine Ops.nil ?_
                exact After.dn (Below.refl _ _) (by exact rfl)
              · intro e1 w1 hb hp hun
                refine Ops.idx (hrk'.later hb).2 rfl rfl rfl (by omega) (by omega) ?_
                refine Ops.nil ?_
                exact After.dn (Below.refl _ _) (by exact rfl)
              · intro e1 w1 hb hp hun
                refine Ops.ld_int (hrk'.later hb) rfl (by omega) rfl rfl ?_
                refine Ops.nil ?_
                exact After.dn (Below.refl _ _) (by exact rfl)
              · intro e1 w1 hb hp hun
                refine Ops.fld (hB.below hb) rfl rfl rfl rfl inferInstance ?_
                refine Ops.nil ?_
                exact After.dn (Below.refl _ _) (by exact rfl)
              · intro e1 w1 hb hp hun
                refine Ops.ldf_s (hB.below hb) rfl rfl rfl rfl rfl ?_
                refine Ops.nil ?_
                exact After.dn (Below.refl _ _) (by exact rfl)
              · intro e1 w1 hb hp hun
                refine Ops.mv_int rfl rfl rfl ?_
                refine Ops.nil ?_
                exact After.dn (Below.refl _ _) (by exact rfl)
              · intro e1 w1 hb hp hun
                refine Ops.idx (hM.top.later hb).2 rfl rfl rfl (by omega) (by omega) ?_
                refine Ops.nil ?_
                exact After.dn (Below.refl _ _) (by exact rfl)
              · intro e1 w1 hb hp hun
                refine Ops.ld_sl (hM.top.later hb) rfl (by omega) rfl rfl ?_
                refine Ops.nil ?_
                exact After.dn (Below.refl _ _) (by exact rfl)
              · intro e1 w1 hb hp hun
                refine Ops.fld (hB.below hb) rfl rfl rfl rfl inferInstance ?_
                refine Ops.nil ?_
                exact After.dn (Below.refl _ _) (by exact rfl)
              · intro e1 w1 hb hp hun
                refine Ops.ldf_s (hB.below hb) rfl rfl rfl rfl rfl ?_
                refine Ops.nil ?_
                exact After.dn (Below.refl _ _) (by exact rfl)
              · intro e1 w1 hb hp hun
                refine Ops.mv_int rfl rfl rfl ?_
                refine Ops.nil ?_
                exact After.dn (Below.refl _ _) (by exact rfl)
              · intro e1 w1 hb hp hun
                refine Ops.idx (hM.top.later hb).2 rfl rfl rfl (by omega) (by omega) ?_
                refine Ops.nil ?_
                exact After.dn (Below.refl _ _) (by exact rfl)
              · intro e1 w1 hb hp hun
                refine Ops.ld_sl (hM.top.later hb) rfl (by omega) rfl rfl ?_
                refine Ops.nil ?_
                exact After.dn (Below.refl _ _) (by exact rfl)
              · intro e1 w1 hb hp hun
                refine Ops.mv_int rfl rfl rfl ?_
                refine Ops.nil ?_
                exact After.dn (Below.refl _ _) (by exact rfl)
              · intro e1 w1 hb hp hun
                refine Ops.idx (hrk'.later hb).2 rfl rfl rfl (by omega) (by omega) ?_
                refine Ops.nil ?_
                exact After.dn (Below.refl _ _) (by exact rfl)
              · intro e1 w1 hb hp hun
                refine Ops.ld_int (hrk'.later hb) rfl (by omega) rfl rfl ?_
                refine Ops.nil ?_
                exact After.dn (Below.refl _ _) (by exact rfl)
              · intro e1 w1 hb hp hun
                refine Ops.idx (hri.later hb).2 rfl rfl rfl (by omega) (by omega) ?_
                refine Ops.nil ?_
                exact After.dn (Below.refl _ _) (by exact rfl)
              · intro e1 w1 hb hp hun
                refine Ops.ld_int (hri.later hb) rfl (by omega) rfl rfl ?_
                refine Ops.nil ?_
                exact After.dn (Below.refl _ _) (by exact rfl)
              · intro e1 w1 hb hp hun
                refine Ops.neq rfl rfl rfl ?_
                refine Ops.nil ?_
                exact After.dn (Below.refl _ _) (by exact congrArg Value.bool (decide_eq_false (fun h => h h9)))
              · intro e1 w1 hb hp hun
                refine Ops.mv_bool rfl rfl rfl ?_
                refine Ops.nil ?_
                exact After.dn (Below.refl _ _) (by exact rfl)
              · intro e1 w1 hb hp hun
                refine Ops.rung rfl rfl rfl ?_
                refine Ops.fld (hB.below hb) rfl rfl rfl rfl inferInstance ?_
                refine Ops.nil ?_
                exact After.dn (Below.refl _ _) (by exact rfl)
              · intro e1 w1 hb hp hun
                refine Ops.rung rfl rfl rfl ?_
                refine Ops.ldf_s (hB.below hb) rfl rfl rfl rfl rfl ?_
                refine Ops.nil ?_
                exact After.dn (Below.refl _ _) (by exact rfl)
              · intro e1 w1 hb hp hun
                refine Ops.rung rfl rfl rfl ?_
                refine Ops.mv_int rfl rfl rfl ?_
                refine Ops.nil ?_
                exact After.dn (Below.refl _ _) (by exact rfl)
              · intro e1 w1 hb hp hun
                refine Ops.rung rfl rfl rfl ?_
                refine Ops.idx (hM.top.later hb).2 rfl rfl rfl (by omega) (by omega) ?_
                refine Ops.nil ?_
                exact After.dn (Below.refl _ _) (by exact rfl)
              · intro e1 w1 hb hp hun
                refine Ops.rung rfl rfl rfl ?_
                refine Ops.ld_sl (hM.top.later hb) rfl (by omega) rfl rfl ?_
                refine Ops.nil ?_
                exact After.dn (Below.refl _ _) (by exact rfl)
              · intro e1 w1 hb hp hun
                refine Ops.rung rfl rfl rfl ?_
                refine Ops.mv_int rfl rfl rfl ?_
                refine Ops.nil ?_
                exact After.dn (Below.refl _ _) (by exact rfl)
              · intro e1 w1 hb hp hun
                refine Ops.rung rfl rfl rfl ?_
                refine Ops.idx (hri.later hb).2 rfl rfl rfl (by omega) (by omega) ?_
                refine Ops.nil ?_
                exact After.dn (Below.refl _ _) (by exact rfl)
              · intro e1 w1 hb hp hun
                refine Ops.rung rfl rfl rfl ?_
                refine Ops.ld_int (hri.later hb) rfl (by omega) rfl rfl ?_
                refine Ops.nil ?_
                exact After.dn (Below.refl _ _) (by exact rfl)
              · intro e1 w1 hb hp hun
                refine Ops.rung rfl rfl rfl ?_
                refine Ops.fld (hB.below hb) rfl rfl rfl rfl inferInstance ?_
                refine Ops.nil ?_
                exact After.dn (Below.refl _ _) (by exact rfl)
              · intro e1 w1 hb hp hun
                refine Ops.rung rfl rfl rfl ?_
                refine Ops.ldf_s (hB.below hb) rfl rfl rfl rfl rfl ?_
                refine Ops.nil ?_
                exact After.dn (Below.refl _ _) (by exact rfl)
              · intro e1 w1 hb hp hun
                refine Ops.rung rfl rfl rfl ?_
                refine Ops.mv_int rfl rfl rfl ?_
                refine Ops.nil ?_
                exact After.dn (Below.refl _ _) (by exact rfl)
              · intro e1 w1 hb hp hun
                refine Ops.rung rfl rfl rfl ?_
                refine Ops.idx (hM.top.later hb).2 rfl rfl rfl (by omega) (by omega) ?_
                refine Ops.nil ?_
                exact After.dn (Below.refl _ _) (by exact rfl)
              · intro e1 w1 hb hp hun
                refine Ops.rung rfl rfl rfl ?_
                refine Ops.ld_sl (hM.top.later hb) rfl (by omega) rfl rfl ?_
                refine Ops.nil ?_
                exact After.dn (Below.refl _ _) (by exact rfl)
              · intro e1 w1 hb hp hun
                refine Ops.rung rfl rfl rfl ?_
                refine Ops.mv_int rfl rfl rfl ?_
                refine Ops.nil ?_
                exact After.dn (Below.refl _ _) (by exact rfl)
              · intro e1 w1 hb hp hun
                refine Ops.rung rfl rfl rfl ?_
                refine Ops.idx (hrk'.later hb).2 rfl rfl rfl (by omega) (by omega) ?_
                refine Ops.nil ?_
                exact After.dn (Below.refl _ _) (by exact rfl)
              · intro e1 w1 hb hp hun
                refine Ops.rung rfl rfl rfl ?_
                refine Ops.ld_int (hrk'.later hb) rfl (by omega) rfl rfl ?_
                refine Ops.nil ?_
                exact After.dn (Below.refl _ _) (by exact rfl)
              · intro e1 w1 hb hp hun
                refine Ops.rung rfl rfl rfl ?_
                refine Ops.eql rfl rfl rfl ?_
                refine Ops.nil ?_
                exact After.dn (Below.refl _ _) (by exact congrArg Value.bool (decide_eq_false h10))
              · intro e1 w1 hb hp hun
                refine Ops.pick_f rfl rfl rfl ?_
                refine Ops.nil ?_
                exact After.dn (Below.refl _ _) (by exact rfl)
              intro u w6 hb6 _
              have hS6 := hS5.later hb6
              refine thenQ_n ?_
              refine Cd.cond_f rfl ?_
              refine Cd.skip ?_
              refine blockQ_n ?_
              refine thenQ_n ?_
              refine Cd.region ?_
              refine Ops.mv_int rfl rfl rfl ?_
              refine Ops.add rfl rfl rfl (by omega) ?_
              refine Ops.mv_int rfl rfl rfl ?_
              refine Ops.nil ?_
              refine thenQ_n ?_
              refine ⟨f + 1, by omega, ⟨rfl, rfl, rfl, rfl, rfl, trivial⟩, hS6, by omega, fun f' hf' => ?_⟩
              by_cases ef : f' = f
              · subst ef; exact ⟨h9, h10⟩
              · exact hC5 f' (by omega)
          · refine Cd.draw [.ex (.pointer (ptrAt (Ab) 0)), .ex (.slice (A) (n) (c)), .ex (.int .i64 ((k : Int))), .ex (.pointer (ptrAt (A) ((k : Int)).toNat)), .ex (.slice ((rg (rs) ((k : Int))).a) ((rg (rs) ((k : Int))).n) ((rg (rs) ((k : Int))).c)), .ex (.pointer (ptrAt (Ab) 0)), .ex (.slice (A) (n) (c)), .ex (.int .i64 ((i : Int))), .ex (.pointer (ptrAt (A) ((i : Int)).toNat)), .ex (.slice ((rg (rs) ((i : Int))).a) ((rg (rs) ((i : Int))).n) ((rg (rs) ((i : Int))).c)), .ex (.int .i64 ((f : Int))), .ex (.pointer (ptrAt ((rg (rs) ((i : Int))).a) ((f : Int)).toNat)), .ex (.int .i64 (gi (gl xss i) ((f : Int)))), .ex (.pointer (ptrAt ((rg (rs) ((k : Int))).a) (gi (gl xss i) ((f : Int))).toNat)), .ex (.int .i64 (gi (gl xss k) (gi (gl xss i) ((f : Int))))), .ex (.pointer (ptrAt (Ab) 0)), .ex (.slice (A) (n) (c)), .ex (.int .i64 ((i : Int))), .ex (.pointer (ptrAt (A) ((i : Int)).toNat)), .ex (.slice ((rg (rs) ((i : Int))).a) ((rg (rs) ((i : Int))).n) ((rg (rs) ((i : Int))).c)), .ex (.pointer (ptrAt (Ab) 0)), .ex (.slice (A) (n) (c)), .ex (.int .i64 ((k : Int))), .ex (.pointer (ptrAt (A) ((k : Int)).toNat)), .ex (.slice ((rg (rs) ((k : Int))).a) ((rg (rs) ((k : Int))).n) ((rg (rs) ((k : Int))).c)), .ex (.int .i64 ((f : Int))), .ex (.pointer (ptrAt ((rg (rs) ((k : Int))).a) ((f : Int)).toNat)), .ex (.int .i64 (gi (gl xss k) ((f : Int)))), .ex (.pointer (ptrAt ((rg (rs) ((i : Int))).a) (gi (gl xss k) ((f : Int))).toNat)), .ex (.int .i64 (gi (gl xss i) (gi (gl xss k) ((f : Int))))), .ex (.bool (true)), .ex (.bool (true)), .ex (undef), .ex (undef), .ex (undef), .ex (undef), .ex (undef), .ex (undef), .ex (undef), .ex (undef), .ex (undef), .ex (undef), .ex (undef), .ex (undef), .ex (undef), .ex (undef), .ex (undef), .ex (undef), .ex (undef), .ex (.bool (true))] (by kernel_rfl) (by kernel_rfl) rfl (List.forall_mem_cons.2 ⟨Yd.lasts_ex _, (List.forall_mem_cons.2 ⟨Yd.lasts_ex _, (List.forall_mem_cons.2 ⟨Yd.lasts_ex _, (List.forall_mem_cons.2 ⟨Yd.lasts_ex _, (List.forall_mem_cons.2 ⟨Yd.lasts_ex _, (List.forall_mem_cons.2 ⟨Yd.lasts_ex _, (List.forall_mem_cons.2 ⟨Yd.lasts_ex _, (List.forall_mem_cons.2 ⟨Yd.lasts_ex _, (List.forall_mem_cons.2 ⟨Yd.lasts_ex _, (List.forall_mem_cons.2 ⟨Yd.lasts_ex _, (List.forall_mem_cons.2 ⟨Yd.lasts_ex _, (List.forall_mem_cons.2 ⟨Yd.lasts_ex _, (List.forall_mem_cons.2 ⟨Yd.lasts_ex _, (List.forall_mem_cons.2 ⟨Yd.lasts_ex _, (List.forall_mem_cons.2 ⟨Yd.lasts_ex _, (List.forall_mem_cons.2 ⟨Yd.lasts_ex _, (List.forall_mem_cons.2 ⟨Yd.lasts_ex _, (List.forall_mem_cons.2 ⟨Yd.lasts_ex _, (List.forall_mem_cons.2 ⟨Yd.lasts_ex _, (List.forall_mem_cons.2 ⟨Yd.lasts_ex _, (List.forall_mem_cons.2 ⟨Yd.lasts_ex _, (List.forall_mem_cons.2 ⟨Yd.lasts_ex _, (List.forall_mem_cons.2 ⟨Yd.lasts_ex _, (List.forall_mem_cons.2 ⟨Yd.lasts_ex _, (List.forall_mem_cons.2 ⟨Yd.lasts_ex _, (List.forall_mem_cons.2 ⟨Yd.lasts_ex _, (List.forall_mem_cons.2 ⟨Yd.lasts_ex _, (List.forall_mem_cons.2 ⟨Yd.lasts_ex _, (List.forall_mem_cons.2 ⟨Yd.lasts_ex _, (List.forall_mem_cons.2 ⟨Yd.lasts_ex _, (List.forall_mem_cons.2 ⟨Yd.lasts_ex _, (List.forall_mem_cons.2 ⟨Yd.lasts_ex _, (List.forall_mem_cons.2 ⟨Yd.lasts_ex _, (List.forall_mem_cons.2 ⟨Yd.lasts_ex _, (List.forall_mem_cons.2 ⟨Yd.lasts_ex _, (List.forall_mem_cons.2 ⟨Yd.lasts_ex _, (List.forall_mem_cons.2 ⟨Yd.lasts_ex _, (List.forall_mem_cons.2 ⟨Yd.lasts_ex _, (List.forall_mem_cons.2 ⟨Yd.lasts_ex _, (List.forall_mem_cons.2 ⟨Yd.lasts_ex _, (List.forall_mem_cons.2 ⟨Yd.lasts_ex _, (List.forall_mem_cons.2 ⟨Yd.lasts_ex _, (List.forall_mem_cons.2 ⟨Yd.lasts_ex _, (List.forall_mem_cons.2 ⟨Yd.lasts_ex _, (List.forall_mem_cons.2 ⟨Yd.lasts_ex _, (List.forall_mem_cons.2 ⟨Yd.lasts_ex _, (List.forall_mem_cons.2 ⟨Yd.lasts_ex _, (List.forall_mem_cons.2 ⟨Yd.lasts_ex _, (List.forall_mem_cons.2 ⟨Yd.lasts_ex _, (List.forall_mem_cons.2 ⟨Yd.lasts_ex _, (fun _ h => by cases h)⟩)⟩)⟩)⟩)⟩)⟩)⟩)⟩)⟩)⟩)⟩)⟩)⟩)⟩)⟩)⟩)⟩)⟩)⟩)⟩)⟩)⟩)⟩)⟩)⟩)⟩)⟩)⟩)⟩)⟩)⟩)⟩)⟩)⟩)⟩)⟩)⟩)⟩)⟩)⟩)⟩)⟩)⟩)⟩)⟩)⟩)⟩)⟩)⟩)⟩) ⟨?_, ?_, ?_, ?_, ?_, ?_, ?_, ?_, ?_, ?_, ?_, ?_, ?_, ?_, ?_, ?_, ?_, ?_, ?_, ?_, ?_, ?_, ?_, ?_, ?_, ?_, ?_, ?_, ?_, ?_, ?_, ?_, ?_, ?_, ?_, ?_, ?_, ?_, ?_, ?_, ?_, ?_, ?_, ?_, ?_, ?_, ?_, ?_, ?_, ?_, trivial⟩ ?_
            · intro e1 w1 hb hp hun
              refine Ops.fld (hB.below hb) rfl rfl rfl rfl inferInstance ?_
              refine Ops.nil ?_
              exact After.dn (Below.refl _ _) (by exact rfl)
            · intro e1 w1 hb hp hun
              refine Ops.ldf_s (hB.below hb) rfl rfl rfl rfl rfl ?_
              refine Ops.nil ?_
              exact After.dn (Below.refl _ _) (by exact rfl)
            · intro e1 w1 hb hp hun
              refine Ops.mv_int rfl rfl rfl ?_
              refine Ops.nil ?_
              exact After.dn (Below.refl _ _) (by exact rfl)
            · intro e1 w1 hb hp hun
              refine Ops.idx (hM.top.later hb).2 rfl rfl rfl (by omega) (by omega) ?_
              refine Ops.nil ?_
              exact After.dn (Below.refl _ _) (by exact rfl)
            · intro e1 w1 hb hp hun
              refine Ops.ld_sl (hM.top.later hb) rfl (by omega) rfl rfl ?_
              refine Ops.nil ?_
              exact After.dn (Below.refl _ _) (by exact rfl)
            · intro e1 w1 hb hp hun
              refine Ops.fld (hB.below hb) rfl rfl rfl rfl inferInstance ?_
              refine Ops.nil ?_
              exact After.dn (Below.refl _ _) (by exact rfl)
            · intro e1 w1 hb hp hun
              refine Ops.ldf_s (hB.below hb) rfl rfl rfl rfl rfl ?_
              refine Ops.nil ?_
              exact After.dn (Below.refl _ _) (by exact rfl)
            · intro e1 w1 hb hp hun
              refine Ops.mv_int rfl rfl rfl ?_
              refine Ops.nil ?_
              exact After.dn (Below.refl _ _) (by exact rfl)
            · intro e1 w1 hb hp hun
              refine Ops.idx (hM.top.later hb).2 rfl rfl rfl (by omega) (by omega) ?_
              refine Ops.nil ?_
              exact After.dn (Below.refl _ _) (by exact rfl)
            · intro e1 w1 hb hp hun
              refine Ops.ld_sl (hM.top.later hb) rfl (by omega) rfl rfl ?_
              refine Ops.nil ?_
              exact After.dn (Below.refl _ _) (by exact rfl)
            · intro e1 w1 hb hp hun
              refine Ops.mv_int rfl rfl rfl ?_
              refine Ops.nil ?_
              exact After.dn (Below.refl _ _) (by exact rfl)
            · intro e1 w1 hb hp hun
              refine Ops.idx (hri.later hb).2 rfl rfl rfl (by omega) (by omega) ?_
              refine Ops.nil ?_
              exact After.dn (Below.refl _ _) (by exact rfl)
            · intro e1 w1 hb hp hun
              refine Ops.ld_int (hri.later hb) rfl (by omega) rfl rfl ?_
              refine Ops.nil ?_
              exact After.dn (Below.refl _ _) (by exact rfl)
            · intro e1 w1 hb hp hun
              refine Ops.idx (hrk'.later hb).2 rfl rfl rfl (by omega) (by omega) ?_
              refine Ops.nil ?_
              exact After.dn (Below.refl _ _) (by exact rfl)
            · intro e1 w1 hb hp hun
              refine Ops.ld_int (hrk'.later hb) rfl (by omega) rfl rfl ?_
              refine Ops.nil ?_
              exact After.dn (Below.refl _ _) (by exact rfl)
            · intro e1 w1 hb hp hun
              refine Ops.fld (hB.below hb) rfl rfl rfl rfl inferInstance ?_
              refine Ops.nil ?_
              exact After.dn (Below.refl _ _) (by exact rfl)
            · intro e1 w1 hb hp hun
              refine Ops.ldf_s (hB.below hb) rfl rfl rfl rfl rfl ?_
              refine Ops.nil ?_
              exact After.dn (Below.refl _ _) (by exact rfl)
            · intro e1 w1 hb hp hun
              refine Ops.mv_int rfl rfl rfl ?_
              refine Ops.nil ?_
              exact After.dn (Below.refl _ _) (by exact rfl)
            · intro e1 w1 hb hp hun
              refine Ops.idx (hM.top.later hb).2 rfl rfl rfl (by omega) (by omega) ?_
              refine Ops.nil ?_
              exact After.dn (Below.refl _ _) (by exact rfl)
            · intro e1 w1 hb hp hun
              refine Ops.ld_sl (hM.top.later hb) rfl (by omega) rfl rfl ?_
              refine Ops.nil ?_
              exact After.dn (Below.refl _ _) (by exact rfl)
            · intro e1 w1 hb hp hun
              refine Ops.fld (hB.below hb) rfl rfl rfl rfl inferInstance ?_
              refine Ops.nil ?_
              exact After.dn (Below.refl _ _) (by exact rfl)
            · intro e1 w1 hb hp hun
              refine Ops.ldf_s (hB.below hb) rfl rfl rfl rfl rfl ?_
              refine Ops.nil ?_
              exact After.dn (Below.refl _ _) (by exact rfl)
            · intro e1 w1 hb hp hun
              refine Ops.mv_int rfl rfl rfl ?_
              refine Ops.nil ?_
              exact After.dn (Below.refl _ _) (by exact rfl)
            · intro e1 w1 hb hp hun
              refine Ops.idx (hM.top.later hb).2 rfl rfl rfl (by omega) (by omega) ?_
              refine Ops.nil ?_
              exact After.dn (Below.refl _ _) (by exact rfl)
            · intro e1 w1 hb hp hun
              refine Ops.ld_sl (hM.top.later hb) rfl (by omega) rfl rfl ?_
              refine Ops.nil ?_
              exact After.dn (Below.refl _ _) (by exact rfl)
            · intro e1 w1 hb hp hun
              refine Ops.mv_int rfl rfl rfl ?_
              refine Ops.nil ?_
              exact After.dn (Below.refl _ _) (by exact rfl)
            · intro e1 w1 hb hp hun
              refine Ops.idx (hrk'.later hb).2 rfl rfl rfl (by omega) (by omega) ?_
              refine Ops.nil ?_
              exact After.dn (Below.refl _ _) (by exact rfl)
            · intro e1 w1 hb hp hun
              refine Ops.ld_int (hrk'.later hb) rfl (by omega) rfl rfl ?_
              refine Ops.nil ?_
              exact After.dn (Below.refl _ _) (by exact rfl)
            · intro e1 w1 hb hp hun
              refine Ops.idx (hri.later hb).2 rfl rfl rfl (by omega) (by omega) ?_
              refine Ops.nil ?_
              exact After.dn (Below.refl _ _) (by exact rfl)
            · intro e1 w1 hb hp hun
              refine Ops.ld_int (hri.later hb) rfl (by omega) rfl rfl ?_
              refine Ops.nil ?_
              exact After.dn (Below.refl _ _) (by exact rfl)
            · intro e1 w1 hb hp hun
              refine Ops.neq rfl rfl rfl ?_
              refine Ops.nil ?_
              exact After.dn (Below.refl _ _) (by exact congrArg Value.bool (decide_eq_true h9))
            · intro e1 w1 hb hp hun
              refine Ops.mv_bool rfl rfl rfl ?_
              refine Ops.nil ?_
              exact After.dn (Below.refl _ _) (by exact rfl)
            · intro e1 w1 hb hp hun
              refine Ops.skipg rfl rfl rfl rfl rfl ?_
              refine Ops.nil ?_
              exact After.dn (Below.refl _ _) (by exact rfl)
            · intro e1 w1 hb hp hun
              refine Ops.skipg rfl rfl rfl rfl rfl ?_
              refine Ops.nil ?_
              exact After.dn (Below.refl _ _) (by exact rfl)
            · intro e1 w1 hb hp hun
              refine Ops.skipg rfl rfl rfl rfl rfl ?_
              refine Ops.nil ?_
              exact After.dn (Below.refl _ _) (by exact rfl)
            · intro e1 w1 hb hp hun
              refine Ops.skipg rfl rfl rfl rfl rfl ?_
              refine Ops.nil ?_
              exact After.dn (Below.refl _ _) (by exact rfl)
            · intro e1 w1 hb hp hun
              refine Ops.skipg rfl rfl rfl rfl rfl ?_
              refine Ops.nil ?_
              exact After.dn (Below.refl _ _) (by exact rfl)
            · intro e1 w1 hb hp hun
              refine Ops.skipg rfl rfl rfl rfl rfl ?_
              refine Ops.nil ?_
              exact After.dn (Below.refl _ _) (by exact rfl)
            · intro e1 w1 hb hp hun
              refine Ops.skipg rfl rfl rfl rfl rfl ?_
              refine Ops.nil ?_
              exact After.dn (Below.refl _ _) (by exact rfl)
            · intro e1 w1 hb hp hun
              refine Ops.skipg rfl rfl rfl rfl rfl ?_
              refine Ops.nil ?_
              exact After.dn (Below.refl _ _) (by exact rfl)
            · intro e1 w1 hb hp hun
              refine Ops.skipg rfl rfl rfl rfl rfl ?_
              refine Ops.nil ?_
              exact After.dn (Below.refl _ _) (by exact rfl)
            · intro e1 w1 hb hp hun
              refine Ops.skipg rfl rfl rfl rfl rfl ?_
              refine Ops.nil ?_
              exact After.dn (Below.refl _ _) (by exact rfl)
            · intro e1 w1 hb hp hun
              refine Ops.skipg rfl rfl rfl rfl rfl ?_
              refine Ops.nil ?_
              exact After.dn (Below.refl _ _) (by exact rfl)
            · intro e1 w1 hb hp hun
              refine Ops.skipg rfl rfl rfl rfl rfl ?_
              refine Ops.nil ?_
              exact After.dn (Below.refl _ _) (by exact rfl)
            · intro e1 w1 hb hp hun
              refine Ops.skipg rfl rfl rfl rfl rfl ?_
              refine Ops.nil ?_
              exact After.dn (Below.refl _ _) (by exact rfl)
            · intro e1 w1 hb hp hun
              refine Ops.skipg rfl rfl rfl rfl rfl ?_
              refine Ops.nil ?_
              exact After.dn (Below.refl _ _) (by exact rfl)
            · intro e1 w1 hb hp hun
              refine Ops.skipg rfl rfl rfl rfl rfl ?_
              refine Ops.nil ?_
              exact After.dn (Below.refl _ _) (by exact rfl)
            · intro e1 w1 hb hp hun
              refine Ops.skipg rfl rfl rfl rfl rfl ?_
              refine Ops.nil ?_
              exact After.dn (Below.refl _ _) (by exact rfl)
            · intro e1 w1 hb hp hun
              refine Ops.skipg rfl rfl rfl rfl rfl ?_
              refine Ops.nil ?_
              exact After.dn (Below.refl _ _) (by exact rfl)
            · intro e1 w1 hb hp hun
              refine Ops.pick_t rfl rfl rfl ?_
              refine Ops.nil ?_
              exact After.dn (Below.refl _ _) (by exact rfl)
            intro u w6 hb6 _
            have hS6 := hS5.later hb6
            refine thenQ_n ?_
            refine Cd.cond_t rfl ?_
            refine Cd.seq ?_
            refine Cd.region ?_
            refine Ops.mv_bool rfl rfl rfl ?_
            refine Ops.nil ?_
            refine thenQ_n ?_
            refine Cd.ret ?_
            refine blockQ_r ?_
            refine thenQ_r ?_
            refine thenQ_r ?_
            refine blockQ_r ?_
            refine blockQ_r ?_
            refine thenQ_r ?_
            refine thenQ_r ?_
            refine blockQ_r ?_
            refine blockQ_r ?_
            refine thenQ_r ?_
            refine thenQ_r ?_
            refine blockQ_r ?_
            refine thenQ_r ?_
            refine ret1_b rfl ?_
            exact ⟨by rw [decide_eq_false (fun h : Mani xss => h9 (h.2.2.2.1 i (by omega) k (by omega) hik f (by omega)).1)], hS6.none⟩
        · refine Cd.exit ?_
          refine thenQ_x ?_
          refine thenQ_x ?_
          refine blockQ_x ?_
          refine blockQ_n ?_
          refine thenQ_n ?_
          refine Cd.region ?_
          refine Ops.mv_int rfl rfl rfl ?_
          refine Ops.add rfl rfl rfl (by omega) ?_
          refine Ops.mv_int rfl rfl rfl ?_
          refine Ops.nil ?_
          refine thenQ_n ?_
          refine ⟨k + 1, by omega, ⟨rfl, rfl, rfl, rfl, trivial⟩, hS5, by omega, fun k' hk' hkn hik' f' hf' => ?_⟩
          by_cases ek : k' = k
          · subst ek; exact hC5 f' (by omega)
          · exact hC4 k' (by omega) hkn hik' f' hf'
      · refine Cd.exit ?_
        refine thenQ_x ?_
        refine thenQ_x ?_
        refine blockQ_x ?_
        refine blockQ_n ?_
        refine thenQ_n ?_
        refine Cd.region ?_
        refine Ops.mv_int rfl rfl rfl ?_
        refine Ops.add rfl rfl rfl (by omega) ?_
        refine Ops.mv_int rfl rfl rfl ?_
        refine Ops.nil ?_
        refine thenQ_n ?_
        refine ⟨i + 1, by omega, ⟨rfl, rfl, rfl, trivial⟩, hS4, by omega, fun i' hi' k' hk' hik' f' hf' => ?_⟩
        by_cases ei : i' = i
        · subst ei; exact hC4 k' (by omega) hk' hik' f' hf'
        · exact hC i' (by omega) k' hk' hik' f' hf'
    · have hM := hS3.oldRows hR
      have hB := hS3.rd 0 rfl
      refine Cd.exit ?_
      refine thenQ_x ?_
      refine thenQ_x ?_
      refine blockQ_x ?_
      refine thenQ_n ?_
      refine Cd.seq ?_
      refine Cd.draw [.ex (.pointer (ptrAt (Ab) 0)), .ex (.slice (A) (n) (c)), .pr (fun v _ => ∃ A' c', v = .slice A' (orbit (gl xss 0).length xss 0).length c'), .ex (.int .i64 (((orbit (gl xss 0).length xss 0).length : Int))), .ex (.pointer (ptrAt (Ab) 0)), .ex (.slice (A) (n) (c)), .ex (.pointer (ptrAt (A) ((0 : Int)).toNat)), .ex (.slice ((rg (rs) ((0 : Int))).a) ((rg (rs) ((0 : Int))).n) ((rg (rs) ((0 : Int))).c)), .ex (.int .i64 ((((rg (rs) ((0 : Int))).n : Nat) : Int))), .ex (.bool (decide ((((orbit (gl xss 0).length xss 0).length : Int)) = ((((rg (rs) ((0 : Int))).n : Nat) : Int))))), .ex (.bool (decide ((((orbit (gl xss 0).length xss 0).length : Int)) = ((((rg (rs) ((0 : Int))).n : Nat) : Int)))))] (by kernel_rfl) (by kernel_rfl) rfl (List.forall_mem_cons.2 ⟨Yd.lasts_ex _, (List.forall_mem_cons.2 ⟨Yd.lasts_ex _, (List.forall_mem_cons.2 ⟨Yd.lasts_pr (fun _ _ _ h _ => h), (List.forall_mem_cons.2 ⟨Yd.lasts_ex _, (List.forall_mem_cons.2 ⟨Yd.lasts_ex _, (List.forall_mem_cons.2 ⟨Yd.lasts_ex _, (List.forall_mem_cons.2 ⟨Yd.lasts_ex _, (List.forall_mem_cons.2 ⟨Yd.lasts_ex _, (List.forall_mem_cons.2 ⟨Yd.lasts_ex _, (List.forall_mem_cons.2 ⟨Yd.lasts_ex _, (List.forall_mem_cons.2 ⟨Yd.lasts_ex _, (fun _ h => by cases h)⟩)⟩)⟩)⟩)⟩)⟩)⟩)⟩)⟩)⟩)⟩) ⟨?_, ?_, ?_, ?_, ?_, ?_, ?_, ?_, ?_, ?_, ?_, trivial⟩ ?_
      · intro e1 w1 hb hp hun
        refine Ops.fld (hB.below hb) rfl rfl rfl rfl inferInstance ?_
        refine Ops.nil ?_
        exact After.dn (Below.refl _ _) (by exact rfl)
      · intro e1 w1 hb hp hun
        refine Ops.ldf_s (hB.below hb) rfl rfl rfl rfl rfl ?_
        refine Ops.nil ?_
        exact After.dn (Below.refl _ _) (by exact rfl)
      · intro e1 w1 hb hp hun
        refine Ops.call (l01Orbit_c _ _ _ _ _ (gl xss 0).length 0 _ (hM.later hb) hn hs (by omega) (by omega) (by omega)) rfl rfl rfl ?_
        rintro _ w2 ⟨A', c', rfl, hst⟩
        refine Ops.nil ?_
        exact After.dn hst.below ⟨A', c', rfl⟩
      · intro e1 w1 hb hp hun
        obtain ⟨A', c', h141⟩ := (hp 2 (by decide) rfl _ _ rfl rfl)
        refine Ops.len (by exact h141) rfl ?_
        refine Ops.nil ?_
        exact After.dn (Below.refl _ _) (by exact rfl)
      · intro e1 w1 hb hp hun
        refine Ops.fld (hB.below hb) rfl rfl rfl rfl inferInstance ?_
        refine Ops.nil ?_
        exact After.dn (Below.refl _ _) (by exact rfl)
      · intro e1 w1 hb hp hun
        refine Ops.ldf_s (hB.below hb) rfl rfl rfl rfl rfl ?_
        refine Ops.nil ?_
        exact After.dn (Below.refl _ _) (by exact rfl)
      · intro e1 w1 hb hp hun
        refine Ops.idx (hM.top.later hb).2 rfl rfl rfl (by omega) (by omega) ?_
        refine Ops.nil ?_
        exact After.dn (Below.refl _ _) (by exact rfl)
      · intro e1 w1 hb hp hun
        refine Ops.ld_sl (hM.top.later hb) rfl (by omega) rfl rfl ?_
        refine Ops.nil ?_
        exact After.dn (Below.refl _ _) (by exact rfl)
      · intro e1 w1 hb hp hun
        refine Ops.len rfl rfl ?_
        refine Ops.nil ?_
        exact After.dn (Below.refl _ _) (by exact rfl)
      · intro e1 w1 hb hp hun
        refine Ops.eql rfl rfl rfl ?_
        refine Ops.nil ?_
        exact After.dn (Below.refl _ _) (by exact rfl)
      · intro e1 w1 hb hp hun
        refine Ops.mv_bool rfl rfl rfl ?_
        refine Ops.nil ?_
        exact After.dn (Below.refl _ _) (by exact rfl)
      intro u w6 hb6 _
      have hS6 := hS3.later hb6
      refine thenQ_n ?_
      refine Cd.ret ?_
      refine ret1_b rfl ?_
      refine ⟨?_, hS6.none⟩
      congr 1
      refine decide_eq_decide.2 ⟨fun h => ⟨by omega, by omega, hr1, fun i' hi' k' hk' hik' f' hf' => hC i' (by omega) k' (by omega) hik' f' hf', by omega⟩, fun h => by have := h.2.2.2.2; omega⟩

end Go.Proofs.Ytjpkmpihmilgoaa.Vc
/-
  The walk of isManiplex. Conditions: as each states them.
-/
namespace Go.Proofs.Ytjpkmpihmilgoaa.Vc
open Go.RowKit

theorem rg_cut {rs : List SlV} {l m : Nat} {j : Nat} (hj : j < m) : rg ((rs.drop l).take m) (j : Int) = rg rs ((l + j : Nat) : Int) := by
  have e : (((l + j : Nat) : Int)).toNat = l + j := by omega
  rw [rg, rg, e]
  simp [List.getD_eq_getElem?_getD, List.getElem?_take, hj]

theorem isManiplex_c (A : Option Addr) (n c : Nat) (rs : List SlV) (xss : List (List Int)) (w : World) (hR : RowsI w A n rs xss) (hn : n ≤ c) (hc : c ≤ 9223372036854775807) :
    Ret Try.prog 31 [.agg #[.slice A n c]] w (fun v w' => v = .bool (decide (Mani xss)) ∧ St w w' []) := by
  have hxl := hR.len
  have r0 : 0 < n → (gl xss 0).length = (rg rs 0).n := fun h => hR.rowLen (by omega) (by omega)
  refine Ret.of_cd Try.func31 rfl Try.ntmps31 rfl (post1 rfl) ?_
  refine Cd.seq ?_
  refine Cd.region ?_
  refine Ops.box1 (St.refl w) rfl rfl ?_
  intro Ab w1 hS
  refine Ops.mv_bool rfl rfl rfl ?_
  refine Ops.nil ?_
  refine thenQ_n ?_
  refine Cd.seq ?_
  refine Cd.seq ?_
  refine Cd.region ?_
  refine Ops.call (rank_c _ _ _ _ _ _ (hS.rd 0 rfl) rfl) rfl rfl rfl ?_
  rintro _ _ ⟨rfl, rfl⟩
  skip
  refine Ops.call (within_c _ _ _ _) rfl rfl rfl ?_
  rintro _ _ ⟨rfl, rfl⟩
  first | refine Ops.not_p rfl rfl ?_ | refine Ops.not rfl rfl ?_
  refine Ops.mv_bool rfl rfl rfl ?_
  refine Ops.split_p 15 rfl (fun h1 => ?_) (fun h1 => ?_)
  · refine Ops.skipg rfl rfl rfl rfl rfl ?_
    refine Ops.skipg rfl rfl rfl rfl rfl ?_
    refine Ops.skipg rfl rfl rfl rfl rfl ?_
    refine Ops.pick_t rfl rfl rfl ?_
    refine Ops.nil ?_
    refine thenQ_n ?_
    refine Cd.cond_t rfl ?_
    refine Cd.seq ?_
    refine Cd.region ?_
    refine Ops.mv_bool rfl rfl rfl ?_
    refine Ops.nil ?_
    refine thenQ_n ?_
    refine Cd.ret ?_
    refine thenQ_r ?_
    refine ret1_b rfl ?_
    exact ⟨by rw [decide_eq_false (fun h : Mani xss => by have := h.1; omega)], hS.none⟩
  have hM := hS.oldRows hR
  have r0 := r0 (by omega)
  refine Ops.rung rfl rfl rfl ?_
  refine Ops.call (flags_c _ _ _ _ _ _ _ _ (hS.rd 0 rfl) rfl hM (by omega)) rfl rfl rfl ?_
  rintro _ _ ⟨rfl, rfl⟩
  refine Ops.rung rfl rfl rfl ?_
  refine Ops.call (within_c _ _ _ _) rfl rfl rfl ?_
  rintro _ _ ⟨rfl, rfl⟩
  refine Ops.rung rfl rfl rfl ?_
  first | refine Ops.not_p rfl rfl ?_ | refine Ops.not rfl rfl ?_
  refine Ops.pick_f rfl rfl rfl ?_
  refine Ops.nil ?_
  refine thenQ_n ?_
  refine Cd.cond_p _ rfl (fun h3 => ?_) (fun h3 => ?_)
  · refine Cd.seq ?_
    refine Cd.region ?_
    refine Ops.mv_bool rfl rfl rfl ?_
    refine Ops.nil ?_
    refine thenQ_n ?_
    refine Cd.ret ?_
    refine thenQ_r ?_
    refine ret1_b rfl ?_
    exact ⟨by rw [decide_eq_false (fun h : Mani xss => by have := h.2.1; omega)], hS.none⟩
  refine Cd.skip ?_
  refine thenQ_n ?_
  refine Cd.seq ?_
  refine Cd.seq ?_
  refine Cd.region ?_
  refine Ops.fld (hS.rd 0 rfl) rfl rfl rfl rfl inferInstance ?_
  refine Ops.ldf_s (hS.rd 0 rfl) rfl rfl rfl rfl rfl ?_
  refine Ops.len rfl rfl ?_
  refine Ops.mv_int rfl rfl rfl ?_
  refine Ops.nil ?_
  refine thenQ_n ?_
  refine Cd.block ?_
  refine Cd.loop (α := Nat) (fun k => [(1, .pointer Ab), (21, .slice A n c), (22, .int .i64 (n : Int)), (23, .int .i64 (k : Int))]) (fun k w' => St w w' [Bx 24 1 Ab [.slice A n c]] ∧ k ≤ n ∧ Part xss k) (fun k => n - k) 0 ⟨rfl, rfl, rfl, rfl, trivial⟩ ⟨hS, Nat.zero_le _, fun p hp => by simp at hp⟩ ?_
  rintro k e w2 ⟨hS2, hk, hP⟩
  have hM := hS2.oldRows hR
  refine Cd.seq ?_
  refine Cd.region ?_
  refine Ops.lss rfl rfl rfl ?_
  refine Ops.nil ?_
  refine thenQ_n ?_
  refine Cd.seq ?_
  refine Cd.cond_p _ rfl (fun h5 => ?_) (fun h5 => ?_)
  · have hkx : k < xss.length := by omega
    have rk := hR.rowLen (k := (k : Int)) (by omega) (by omega)
    have hrow := hM.at_ (i := k) (by omega) h5
    refine Cd.skip ?_
    refine thenQ_n ?_
    refine Cd.seq ?_
    refine Cd.block ?_
    refine Cd.seq ?_
    refine Cd.region ?_
    refine Ops.idx hM.top.2 rfl rfl rfl (by omega) h5 ?_
    refine Ops.ld_sl hM.top rfl (by omega) rfl rfl ?_
    refine Ops.mv_sl rfl rfl rfl ?_
    refine Ops.nil ?_
    refine thenQ_n ?_
    refine Cd.seq ?_
    refine Cd.region ?_
    refine Ops.mv_sl rfl rfl rfl ?_
    refine Ops.call (isFreeInvolution_c _ _ _ _ _ hrow) rfl rfl rfl ?_
    rintro _ w3 ⟨rfl, hst⟩
    have hS3 := hS2.later hst.below
    have hM := hS3.oldRows hR
    first | refine Ops.not_p rfl rfl ?_ | refine Ops.not rfl rfl ?_
    refine Ops.mv_bool rfl rfl rfl ?_
    refine Ops.split_p 30 rfl (fun h6 => ?_) (fun h6 => ?_)
    · refine Ops.skipg rfl rfl rfl rfl rfl ?_
      refine Ops.skipg rfl rfl rfl rfl rfl ?_
      refine Ops.skipg rfl rfl rfl rfl rfl ?_
      refine Ops.skipg rfl rfl rfl rfl rfl ?_
      refine Ops.pick_t rfl rfl rfl ?_
      refine Ops.nil ?_
      refine thenQ_n ?_
      refine Cd.cond_t rfl ?_
      refine Cd.seq ?_
      refine Cd.region ?_
      refine Ops.mv_bool rfl rfl rfl ?_
      refine Ops.nil ?_
      refine thenQ_n ?_
      refine Cd.ret ?_
      refine blockQ_r ?_
      refine thenQ_r ?_
      refine thenQ_r ?_
      refine blockQ_r ?_
      refine thenQ_r ?_
      refine ret1_b rfl ?_
      exact ⟨by rw [decide_eq_false (fun h : Mani xss => h6 ⟨(h.2.2.1.at_ hkx).2.1, (h.2.2.1.at_ hkx).2.2⟩)], hS3.none⟩
    · have h6 := Classical.not_not.1 h6
      refine Ops.rung rfl rfl rfl ?_
      refine Ops.mv_sl rfl rfl rfl ?_
      refine Ops.rung rfl rfl rfl ?_
      refine Ops.call (sizeI_c _ _ _ _) rfl rfl rfl ?_
      rintro _ _ ⟨rfl, rfl⟩
      refine Ops.rung rfl rfl rfl ?_
      refine Ops.call (flags_c _ _ _ _ _ _ _ _ (hS3.rd 0 rfl) rfl hM (by omega)) rfl rfl rfl ?_
      rintro _ _ ⟨rfl, rfl⟩
      refine Ops.rung rfl rfl rfl ?_
      refine Ops.neq rfl rfl rfl ?_
      refine Ops.pick_f rfl rfl rfl ?_
      refine Ops.nil ?_
      refine thenQ_n ?_
      refine Cd.cond_p _ rfl (fun h7 => ?_) (fun h7 => ?_)
      · refine Cd.seq ?_
        refine Cd.region ?_
        refine Ops.mv_bool rfl rfl rfl ?_
        refine Ops.nil ?_
        refine thenQ_n ?_
        refine Cd.ret ?_
        refine blockQ_r ?_
        refine thenQ_r ?_
        refine thenQ_r ?_
        refine blockQ_r ?_
        refine thenQ_r ?_
        refine ret1_b rfl ?_
        exact ⟨by rw [decide_eq_false (fun h : Mani xss => h7 (by have := (h.2.2.1.at_ hkx).1; omega))], hS3.none⟩
      · refine Cd.skip ?_
        refine blockQ_n ?_
        refine thenQ_n ?_
        refine Cd.region ?_
        refine Ops.add rfl rfl rfl (by omega) ?_
        refine Ops.mv_int rfl rfl rfl ?_
        refine Ops.nil ?_
        refine thenQ_n ?_
        exact ⟨k + 1, by omega, ⟨rfl, rfl, rfl, rfl, trivial⟩, hS3, by omega, hP.step hkx (by omega) h6.1 h6.2⟩
  · have hr1 := hP.all (by omega)
    have hs := hr1.sys
    have hrk : ∀ i : Int, 0 ≤ i → i < n → (rg rs i).n = (rg rs 0).n := fun i h0 h1 => by
      have e1 := hR.rowLen h0 h1
      have e2 := (hr1 _ (gl_in h0 (by omega))).1
      omega
    refine Cd.exit ?_
    refine thenQ_x ?_
    refine thenQ_x ?_
    refine blockQ_x ?_
    refine thenQ_n ?_
    refine Cd.seq ?_
    refine Cd.seq ?_
    refine Cd.region ?_
    refine Ops.fld (hS2.rd 0 rfl) rfl rfl rfl rfl inferInstance ?_
    refine Ops.ldf_s (hS2.rd 0 rfl) rfl rfl rfl rfl rfl ?_
    refine Ops.len rfl rfl ?_
    refine Ops.mv_int rfl rfl rfl ?_
    refine Ops.nil ?_
    refine thenQ_n ?_
    refine Cd.block ?_
    refine Cd.loop (α := Nat) (fun i => [(1, .pointer Ab), (38, .slice A n c), (39, .int .i64 (n : Int)), (40, .int .i64 (i : Int))]) (fun i w' => St w w' [Bx 24 1 Ab [.slice A n c]] ∧ i ≤ n ∧ ∀ i', i' < i → ∀ k, k < n → i' + 2 ≤ k → ∀ f, f < (gl xss 0).length → Comm xss i' k f) (fun i => n - i) 0 ⟨rfl, rfl, rfl, rfl, trivial⟩ ⟨hS2, Nat.zero_le _, fun i' hi' => by omega⟩ ?_
    rintro i e w3 ⟨hS3, hi, hC⟩
    have hM := hS3.oldRows hR
    refine Cd.seq ?_
    refine Cd.region ?_
    refine Ops.lss rfl rfl rfl ?_
    refine Ops.nil ?_
    refine thenQ_n ?_
    refine Cd.seq ?_
    refine Cd.cond_p _ rfl (fun h6 => ?_) (fun h6 => ?_)
    · refine Cd.skip ?_
      refine thenQ_n ?_
      refine Cd.seq ?_
      refine Cd.block ?_
      refine Cd.seq ?_
      refine Cd.region ?_
      refine Ops.mv_int rfl rfl rfl ?_
      refine Ops.idx hM.top.2 rfl rfl rfl (by omega) h6 ?_
      refine Ops.ld_sl hM.top rfl (by omega) rfl rfl ?_
      refine Ops.mv_int rfl rfl rfl ?_
      refine Ops.mv_sl rfl rfl rfl ?_
      refine Ops.nil ?_
      refine thenQ_n ?_
      refine Cd.seq ?_
      refine Cd.region ?_
      refine Ops.fld (hS3.rd 0 rfl) rfl rfl rfl rfl inferInstance ?_
      refine Ops.ldf_s (hS3.rd 0 rfl) rfl rfl rfl rfl rfl ?_
      refine Ops.mv_int rfl rfl rfl ?_
      refine Ops.add rfl rfl rfl (by omega) ?_
      refine Ops.fld (hS3.rd 0 rfl) rfl rfl rfl rfl inferInstance ?_
      refine Ops.ldf_s (hS3.rd 0 rfl) rfl rfl rfl rfl rfl ?_
      refine Ops.len rfl rfl ?_
      refine Ops.minI rfl rfl rfl ?_
      obtain ⟨l, hl, hl1, hl2⟩ : ∃ l : Nat, min ((i : Int) + 2) (n : Int) = (l : Int) ∧ l ≤ n ∧ (l = i + 2 ∨ (l = n ∧ n ≤ i + 2)) := ⟨min (i + 2) n, by omega, by omega, by omega⟩
      rw [hl]
      refine Ops.cut_l rfl rfl rfl (by omega) ?_
      rw [Int.toNat_natCast]
      refine Ops.len rfl rfl ?_
      refine Ops.mv_int rfl rfl rfl ?_
      refine Ops.nil ?_
      refine thenQ_n ?_
      refine Cd.block ?_
      refine Cd.loop (α := Nat) (fun j => [(1, .pointer Ab), (38, .slice A n c), (39, .int .i64 (n : Int)), (40, .int .i64 (i : Int)), (6, .slice (rg rs i).a (rg rs i).n (rg rs i).c), (53, .slice (cutAt A c l) (n - l) (c - l)), (54, .int .i64 ((n - l : Nat) : Int)), (55, .int .i64 (j : Int))]) (fun j w' => St w w' [Bx 24 1 Ab [.slice A n c]] ∧ j ≤ n - l ∧ ∀ k', k' < l + j → k' < n → i + 2 ≤ k' → ∀ f, f < (gl xss 0).length → Comm xss i k' f) (fun j => n - l - j) 0 ⟨rfl, rfl, rfl, rfl, rfl, rfl, rfl, rfl, trivial⟩ ⟨hS3, Nat.zero_le _, fun k' h1 _ _ => by omega⟩ ?_
      rintro j e w4 ⟨hS4, hj, hC4⟩
      have hM := hS4.oldRows hR
      have hcut := hM.top.cut (c := c) hl1 (Nat.le_refl n) hn
      refine Cd.seq ?_
      refine Cd.region ?_
      refine Ops.lss rfl rfl rfl ?_
      refine Ops.nil ?_
      refine thenQ_n ?_
      refine Cd.seq ?_
      refine Cd.cond_p _ rfl (fun h7 => ?_) (fun h7 => ?_)
      · have hjl : j < n - l := by omega
        have hk : l + j < n := by omega
        have hik : i + 2 ≤ l + j := by omega
        refine Cd.skip ?_
        refine thenQ_n ?_
        refine Cd.seq ?_
        refine Cd.block ?_
        refine Cd.seq ?_
        refine Cd.region ?_
        refine Ops.idx hcut.2 rfl rfl rfl (by omega) h7 ?_
        refine Ops.ld_sl hcut rfl (by omega) rfl rfl ?_
        rw [rg_cut hjl]
        generalize hke : l + j = k at hk hik
        have rki := hrk i (by omega) h6
        have rkk := hrk k (by omega) (by omega)
        refine Ops.mv_sl rfl rfl rfl ?_
        refine Ops.nil ?_
        refine thenQ_n ?_
        refine Cd.seq ?_
        refine Cd.region ?_
        refine Ops.call (flags_c _ _ _ _ _ _ _ _ (hS4.rd 0 rfl) rfl hM (by omega)) rfl rfl rfl ?_
        rintro _ w4 ⟨rfl, rfl⟩
        refine Ops.mv_int rfl rfl rfl ?_
        refine Ops.nil ?_
        refine thenQ_n ?_
        refine Cd.block ?_
        refine Cd.loop (α := Nat) (fun f => [(1, .pointer Ab), (38, .slice A n c), (39, .int .i64 (n : Int)), (40, .int .i64 (i : Int)), (6, .slice (rg rs i).a (rg rs i).n (rg rs i).c), (53, .slice (cutAt A c l) (n - l) (c - l)), (54, .int .i64 ((n - l : Nat) : Int)), (55, .int .i64 (j : Int)), (8, .slice (rg rs k).a (rg rs k).n (rg rs k).c), (59, .int .i64 ((rg rs 0).n : Int)), (60, .int .i64 (f : Int))]) (fun f w' => St w w' [Bx 24 1 Ab [.slice A n c]] ∧ f ≤ (gl xss 0).length ∧ ∀ f', f' < f → Comm xss i k f') (fun f => (gl xss 0).length - f) 0 ⟨rfl, rfl, rfl, rfl, rfl, rfl, rfl, rfl, rfl, rfl, rfl, trivial⟩ ⟨hS4, Nat.zero_le _, fun f' hf' => by omega⟩ ?_
        rintro f e w5 ⟨hS5, hf, hC5⟩
        have hM := hS5.oldRows hR
        have hri := hM.at_ (i := i) (by omega) h6
        have hrk' := hM.at_ (i := k) (by omega) (by omega)
        refine Cd.seq ?_
        refine Cd.region ?_
        refine Ops.lss rfl rfl rfl ?_
        refine Ops.nil ?_
        refine thenQ_n ?_
        refine Cd.seq ?_
        refine Cd.cond_p _ rfl (fun h8 => ?_) (fun h8 => ?_)
        · have hii := (hs _ (gl_in (k := (i : Int)) (by omega) (by omega))).2 (f : Int) (by omega) (by omega)
          have hkk := (hs _ (gl_in (k := (k : Int)) (by omega) (by omega))).2 (f : Int) (by omega) (by omega)
          refine Cd.skip ?_
          refine thenQ_n ?_
          refine Cd.seq ?_
          refine Cd.block ?_
          refine Cd.seq ?_
          refine Cd.region ?_
          refine Ops.mv_int rfl rfl rfl ?_
          refine Ops.mv_int rfl rfl rfl ?_
          refine Ops.nil ?_
          refine thenQ_n ?_
          refine Cd.seq ?_
          by_cases h10 : gi (gl xss i) f = gi (gl xss k) f
          · --dup 3
            refine Cd.draw [.ex (.slice ((rg rs i).a) ((rg rs i).n) ((rg rs i).c)), .ex (.int .i64 ((f : Int))), .ex (.pointer (ptrAt ((rg rs i).a) ((f : Int)).toNat)), .ex (.int .i64 (gi (gl xss i) ((f : Int)))), .ex (.slice ((rg rs k).a) ((rg rs k).n) ((rg rs k).c)), .ex (.int .i64 ((f : Int))), .ex (.pointer (ptrAt ((rg rs k).a) ((f : Int)).toNat)), .ex (.int .i64 (gi (gl xss k) ((f : Int)))), .ex (.bool (true)), .ex (.bool (true)), .ex (undef), .ex (undef), .ex (undef), .ex (undef), .ex (undef), .ex (undef), .ex (undef), .ex (undef), .ex (undef), .ex (undef), .ex (undef), .ex (undef), .ex (undef), .ex (undef), .ex (undef), .ex (.bool (true))] (by kernel_rfl) (by kernel_rfl) rfl (List.forall_mem_cons.2 ⟨Yd.lasts_ex _, (List.forall_mem_cons.2 ⟨Yd.lasts_ex _, (List.forall_mem_cons.2 ⟨Yd.lasts_ex _, (List.forall_mem_cons.2 ⟨Yd.lasts_ex _, (List.forall_mem_cons.2 ⟨Yd.lasts_ex _, (List.forall_mem_cons.2 ⟨Yd.lasts_ex _, (List.forall_mem_cons.2 ⟨Yd.lasts_ex _, (List.forall_mem_cons.2 ⟨Yd.lasts_ex _, (List.forall_mem_cons.2 ⟨Yd.lasts_ex _, (List.forall_mem_cons.2 ⟨Yd.lasts_ex _, (List.forall_mem_cons.2 ⟨Yd.lasts_ex _, (List.forall_mem_cons.2 ⟨Yd.lasts_ex _, (List.forall_mem_cons.2 ⟨Yd.lasts_ex _, (List.forall_mem_cons.2 ⟨Yd.lasts_ex _, (List.forall_mem_cons.2 ⟨Yd.lasts_ex _, (List.forall_mem_cons.2 ⟨Yd.lasts_ex _, (List.forall_mem_cons.2 ⟨Yd.lasts_ex _, (List.forall_mem_cons.2 ⟨Yd.lasts_ex _, (List.forall_mem_cons.2 ⟨Yd.lasts_ex _, (List.forall_mem_cons.2 ⟨Yd.lasts_ex _, (List.forall_mem_cons.2 ⟨Yd.lasts_ex _, (List.forall_mem_cons.2 ⟨Yd.lasts_ex _, (List.forall_mem_cons.2 ⟨Yd.lasts_ex _, (List.forall_mem_cons.2 ⟨Yd.lasts_ex _, (List.forall_mem_cons.2 ⟨Yd.lasts_ex _, (List.forall_mem_cons.2 ⟨Yd.lasts_ex _, (fun _ h => by cases h)⟩)⟩)⟩)⟩)⟩)⟩)⟩)⟩)⟩)⟩)⟩)⟩)⟩)⟩)⟩)⟩)⟩)⟩)⟩)⟩)⟩)⟩)⟩)⟩)⟩)⟩) ⟨?_, ?_, ?_, ?_, ?_, ?_, ?_, ?_, ?_, ?_, ?_, ?_, ?_, ?_, ?_, ?_, ?_, ?_, ?_, ?_, ?_, ?_, ?_, ?_, ?_, ?_, trivial⟩ ?_
            · intro e1 w1 hb hp hun
              refine Ops.mv_sl rfl rfl rfl ?_
              refine Ops.nil ?_
              exact After.dn (Below.refl _ _) (by exact rfl)
            · intro e1 w1 hb hp hun
              refine Ops.mv_int rfl rfl rfl ?_
              refine Ops.nil ?_
              exact After.dn (Below.refl _ _) (by exact rfl)
            · intro e1 w1 hb hp hun
              refine Ops.idx (hri.later hb).2 rfl rfl rfl (by omega) (by omega) ?_
              refine Ops.nil ?_
              exact After.dn (Below.refl _ _) (by exact rfl)
            · intro e1 w1 hb hp hun
              refine Ops.ld_int (hri.later hb) rfl (by omega) rfl rfl ?_
              refine Ops.nil ?_
              exact After.dn (Below.refl _ _) (by exact rfl)
            · intro e1 w1 hb hp hun
              refine Ops.mv_sl rfl rfl rfl ?_
              refine Ops.nil ?_
              exact After.dn (Below.refl _ _) (by exact rfl)
            · intro e1 w1 hb hp hun
              refine Ops.mv_int rfl rfl rfl ?_
              refine Ops.nil ?_
              exact After.dn (Below.refl _ _) (by exact rfl)
            · intro e1 w1 hb hp hun
              refine Ops.idx (hrk'.later hb).2 rfl rfl rfl (by omega) (by omega) ?_
              refine Ops.nil ?_
              exact After.dn (Below.refl _ _) (by exact rfl)
            · intro e1 w1 hb hp hun
              refine Ops.ld_int (hrk'.later hb) rfl (by omega) rfl rfl ?_
              refine Ops.nil ?_
              exact After.dn (Below.refl _ _) (by exact rfl)
            · intro e1 w1 hb hp hun
              refine Ops.eql rfl rfl rfl ?_
              refine Ops.nil ?_
              exact After.dn (Below.refl _ _) (by exact congrArg Value.bool (decide_eq_true h10))
            · intro e1 w1 hb hp hun
              refine Ops.mv_bool rfl rfl rfl ?_
              refine Ops.nil ?_
              exact After.dn (Below.refl _ _) (by exact rfl)
            · intro e1 w1 hb hp hun
              refine Ops.skipg rfl rfl rfl rfl rfl ?_
              refine Ops.nil ?_
              exact After.dn (Below.refl _ _) (by exact rfl)
            · intro e1 w1 hb hp hun
              refine Ops.skipg rfl rfl rfl rfl rfl ?_
              refine Ops.nil ?_
              exact After.dn (Below.refl _ _) (by exact rfl)
            · intro e1 w1 hb hp hun
              refine Ops.skipg rfl rfl rfl rfl rfl ?_
              refine Ops.nil ?_
              exact After.dn (Below.refl _ _) (by exact rfl)
            · intro e1 w1 hb hp hun
              refine Ops.skipg rfl rfl rfl rfl rfl ?_
              refine Ops.nil ?_
              exact After.dn (Below.refl _ _) (by exact rfl)
            · intro e1 w1 hb hp hun
              refine Ops.skipg rfl rfl rfl rfl rfl ?_
              refine Ops.nil ?_
              exact After.dn (Below.refl _ _) (by exact rfl)
            · intro e1 w1 hb hp hun
              refine Ops.skipg rfl rfl rfl rfl rfl ?_
              refine Ops.nil ?_
              exact After.dn (Below.refl _ _) (by exact rfl)
            · intro e1 w1 hb hp hun
              refine Ops.skipg rfl rfl rfl rfl rfl ?_
              refine Ops.nil ?_
              exact After.dn (Below.refl _ _) (by exact rfl)
            · intro e1 w1 hb hp hun
              refine Ops.skipg rfl rfl rfl rfl rfl ?_
              refine Ops.nil ?_
              exact After.dn (Below.refl _ _) (by exact rfl)
            · intro e1 w1 hb hp hun
              refine Ops.skipg rfl rfl rfl rfl rfl ?_
              refine Ops.nil ?_
              exact After.dn (Below.refl _ _) (by exact rfl)
            · intro e1 w1 hb hp hun
              refine Ops.skipg rfl rfl rfl rfl rfl ?_
              refine Ops.nil ?_
              exact After.dn (Below.refl _ _) (by exact rfl)
            · intro e1 w1 hb hp hun
              refine Ops.skipg rfl rfl rfl rfl rfl ?_
              refine Ops.nil ?_
              exact After.dn (Below.refl _ _) (by exact rfl)
            · intro e1 w1 hb hp hun
              refine Ops.skipg rfl rfl rfl rfl rfl ?_
              refine Ops.nil ?_
              exact After.dn (Below.refl _ _) (by exact rfl)
            · intro e1 w1 hb hp hun
              refine Ops.skipg rfl rfl rfl rfl rfl ?_
              refine Ops.nil ?_
              exact After.dn (Below.refl _ _) (by exact rfl)
            · intro e1 w1 hb hp hun
              refine Ops.skipg rfl rfl rfl rfl rfl ?_
              refine Ops.nil ?_
              exact After.dn (Below.refl _ _) (by exact rfl)
            · intro e1 w1 hb hp hun
              refine Ops.skipg rfl rfl rfl rfl rfl ?_
              refine Ops.nil ?_
              exact After.dn (Below.refl _ _) (by exact rfl)
            · intro e1 w1 hb hp hun
              refine Ops.pick_t rfl rfl rfl ?_
              refine Ops.nil ?_
              exact After.dn (Below.refl _ _) (by exact rfl)
            intro u w6 hb6 _
            have hS6 := hS5.later hb6
            refine thenQ_n ?_
            refine Cd.cond_t rfl ?_
            refine Cd.seq ?_
            refine Cd.region ?_
            refine Ops.mv_bool rfl rfl rfl ?_
            refine Ops.nil ?_
            refine thenQ_n ?_
            refine Cd.ret ?_
            refine blockQ_r ?_
            refine thenQ_r ?_
            refine thenQ_r ?_
            refine blockQ_r ?_
            refine blockQ_r ?_
            refine thenQ_r ?_
            refine thenQ_r ?_
            refine blockQ_r ?_
            refine blockQ_r ?_
            refine thenQ_r ?_
            refine thenQ_r ?_
            refine blockQ_r ?_
            refine thenQ_r ?_
            refine ret1_b rfl ?_
            exact ⟨by rw [decide_eq_false (fun h : Mani xss => (h.2.2.2.1 i (by omega) k (by omega) hik f (by omega)).2 h10)], hS6.none⟩
          · by_cases h9 : gi (gl xss k) (gi (gl xss i) f) = gi (gl xss i) (gi (gl xss k) f)
            · refine Cd.draw [.ex (.slice ((rg rs i).a) ((rg rs i).n) ((rg rs i).c)), .ex (.int .i64 ((f : Int))), .ex (.pointer (ptrAt ((rg rs i).a) ((f : Int)).toNat)), .ex (.int .i64 (gi (gl xss i) ((f : Int)))), .ex (.slice ((rg rs k).a) ((rg rs k).n) ((rg rs k).c)), .ex (.int .i64 ((f : Int))), .ex (.pointer (ptrAt ((rg rs k).a) ((f : Int)).toNat)), .ex (.int .i64 (gi (gl xss k) ((f : Int)))), .ex (.bool (false)), .ex (.bool (false)), .ex (.slice ((rg rs k).a) ((rg rs k).n) ((rg rs k).c)), .ex (.slice ((rg rs i).a) ((rg rs i).n) ((rg rs i).c)), .ex (.int .i64 ((f : Int))), .ex (.pointer (ptrAt ((rg rs i).a) ((f : Int)).toNat)), .ex (.int .i64 (gi (gl xss i) ((f : Int)))), .ex (.pointer (ptrAt ((rg rs k).a) (gi (gl xss i) ((f : Int))).toNat)), .ex (.int .i64 (gi (gl xss k) (gi (gl xss i) ((f : Int))))), .ex (.slice ((rg rs i).a) ((rg rs i).n) ((rg rs i).c)), .ex (.slice ((rg rs k).a) ((rg rs k).n) ((rg rs k).c)), .ex (.int .i64 ((f : Int))), .ex (.pointer (ptrAt ((rg rs k).a) ((f : Int)).toNat)), .ex (.int .i64 (gi (gl xss k) ((f : Int)))), .ex (.pointer (ptrAt ((rg rs i).a) (gi (gl xss k) ((f : Int))).toNat)), .ex (.int .i64 (gi (gl xss i) (gi (gl xss k) ((f : Int))))), .ex (.bool (false)), .ex (.bool (false))] (by kernel_rfl) (by kernel_rfl) rfl (List.forall_mem_cons.2 ⟨Yd.lasts_ex _, (List.forall_mem_cons.2 ⟨Yd.lasts_ex _, (List.forall_mem_cons.2 ⟨Yd.lasts_ex _, (List.forall_mem_cons.2 ⟨Yd.lasts_ex _, (List.forall_mem_cons.2 ⟨Yd.lasts_ex _, (List.forall_mem_cons.2 ⟨Yd.lasts_ex _, (List.forall_mem_cons.2 ⟨Yd.lasts_ex _, (List.forall_mem_cons.2 ⟨Yd.lasts_ex _, (List.forall_mem_cons.2 ⟨Yd.lasts_ex _, (List.forall_mem_cons.2 ⟨Yd.lasts_ex _, (List.forall_mem_cons.2 ⟨Yd.lasts_ex _, (List.forall_mem_cons.2 ⟨Yd.lasts_ex _, (List.forall_mem_cons.2 ⟨Yd.lasts_ex _, (List.forall_mem_cons.2 ⟨Yd.lasts_ex _, (List.forall_mem_cons.2 ⟨Yd.lasts_ex _, (List.forall_mem_cons.2 ⟨Yd.lasts_ex _, (List.forall_mem_cons.2 ⟨Yd.lasts_ex _, (List.forall_mem_cons.2 ⟨Yd.lasts_ex _, (List.forall_mem_cons.2 ⟨Yd.lasts_ex _, (List.forall_mem_cons.2 ⟨Yd.lasts_ex _, (List.forall_mem_cons.2 ⟨Yd.lasts_ex _, (List.forall_mem_cons.2 ⟨Yd.lasts_ex _, (List.forall_mem_cons.2 ⟨Yd.lasts_ex _, (List.forall_mem_cons.2 ⟨Yd.lasts_ex _, (List.forall_mem_cons.2 ⟨Yd.lasts_ex _, (List.forall_mem_cons.2 ⟨Yd.lasts_ex _, (fun _ h => by cases h)⟩)⟩)⟩)⟩)⟩)⟩)⟩)⟩)⟩)⟩)⟩)⟩)⟩)⟩)⟩)⟩)⟩)⟩)⟩)⟩)⟩)⟩)⟩)⟩)⟩)⟩) ⟨?_, ?_, ?_, ?_, ?_, ?_, ?_, ?_, ?_, ?_, ?_, ?_, ?_, ?_, ?_, ?_, ?_, ?_, ?_, ?_, ?_, ?_, ?_, ?_, ?_, ?_, trivial⟩ ?_
              · intro e1 w1 hb hp hun
                refine Ops.mv_sl rfl rfl rfl ?_
                refine Ops.nil ?_
                exact After.dn (Below.refl _ _) (by exact rfl)
              · intro e1 w1 hb hp hun
                refine Ops.mv_int rfl rfl rfl ?_
                refine Ops.nil ?_
                exact After.dn (Below.refl _ _) (by exact rfl)
              · intro e1 w1 hb hp hun
                refine Ops.idx (hri.later hb).2 rfl rfl rfl (by omega) (by omega) ?_
                refine Ops.nil ?_
                exact After.dn (Below.refl _ _) (by exact rfl)
              · intro e1 w1 hb hp hun
                refine Ops.ld_int (hri.later hb) rfl (by omega) rfl rfl ?_
                refine Ops.nil ?_
                exact After.dn (Below.refl _ _) (by exact rfl)
              · intro e1 w1 hb hp hun
                refine Ops.mv_sl rfl rfl rfl ?_
                refine Ops.nil ?_
                exact After.dn (Below.refl _ _) (by exact rfl)
              · intro e1 w1 hb hp hun
                refine Ops.mv_int rfl rfl rfl ?_
                refine Ops.nil ?_
                exact After.dn (Below.refl _ _) (by exact rfl)
              · intro e1 w1 hb hp hun
                refine Ops.idx (hrk'.later hb).2 rfl rfl rfl (by omega) (by omega) ?_
                refine Ops.nil ?_
                exact After.dn (Below.refl _ _) (by exact rfl)
              · intro e1 w1 hb hp hun
                refine Ops.ld_int (hrk'.later hb) rfl (by omega) rfl rfl ?_
                refine Ops.nil ?_
                exact After.dn (Below.refl _ _) (by exact rfl)
              · intro e1 w1 hb hp hun
                refine Ops.eql rfl rfl rfl ?_
                refine Ops.nil ?_
                exact After.dn (Below.refl _ _) (by exact congrArg Value.bool (decide_eq_false h10))
              · intro e1 w1 hb hp hun
                refine Ops.mv_bool rfl rfl rfl ?_
                refine Ops.nil ?_
                exact After.dn (Below.refl _ _) (by exact rfl)
              · intro e1 w1 hb hp hun
                refine Ops.rung rfl rfl rfl ?_
                refine Ops.mv_sl rfl rfl rfl ?_
                refine Ops.nil ?_
                exact After.dn (Below.refl _ _) (by exact rfl)
              · intro e1 w1 hb hp hun
                refine Ops.rung rfl rfl rfl ?_
                refine Ops.mv_sl rfl rfl rfl ?_
                refine Ops.nil ?_
                exact After.dn (Below.refl _ _) (by exact rfl)
              · intro e1 w1 hb hp hun
                refine Ops.rung rfl rfl rfl ?_
                refine Ops.mv_int rfl rfl rfl ?_
                refine Ops.nil ?_
                exact After.dn (Below.refl _ _) (by exact rfl)
              · intro e1 w1 hb hp hun
                refine Ops.rung rfl rfl rfl ?_
                refine Ops.idx (hri.later hb).2 rfl rfl rfl (by omega) (by omega) ?_
                refine Ops.nil ?_
                exact After.dn (Below.refl _ _) (by exact rfl)
              · intro e1 w1 hb hp hun
                refine Ops.rung rfl rfl rfl ?_
                refine Ops.ld_int (hri.later hb) rfl (by omega) rfl rfl ?_
                refine Ops.nil ?_
                exact After.dn (Below.refl _ _) (by exact rfl)
              · intro e1 w1 hb hp hun
                refine Ops.rung rfl rfl rfl ?_
                refine Ops.idx (hrk'.later hb).2 rfl rfl rfl (by omega) (by omega) ?_
                refine Ops.nil ?_
                exact After.dn (Below.refl _ _) (by exact rfl)
              · intro e1 w1 hb hp hun
                refine Ops.rung rfl rfl rfl ?_
                refine Ops.ld_int (hrk'.later hb) rfl (by omega) rfl rfl ?_
                refine Ops.nil ?_
                exact After.dn (Below.refl _ _) (by exact rfl)
              · intro e1 w1 hb hp hun
                refine Ops.rung rfl rfl rfl ?_
                refine Ops.mv_sl rfl rfl rfl ?_
                refine Ops.nil ?_
                exact After.dn (Below.refl _ _) (by exact rfl)
              · intro e1 w1 hb hp hun
                refine Ops.rung rfl rfl rfl ?_
                refine Ops.mv_sl rfl rfl rfl ?_
                refine Ops.nil ?_
                exact After.dn (Below.refl _ _) (by exact rfl)
              · intro e1 w1 hb hp hun
                refine Ops.rung rfl rfl rfl ?_
                refine Ops.mv_int rfl rfl rfl ?_
                refine Ops.nil ?_
                exact After.dn (Below.refl _ _) (by exact rfl)
              · intro e1 w1 hb hp hun
                refine Ops.rung rfl rfl rfl ?_
                refine Ops.idx (hrk'.later hb).2 rfl rfl rfl (by omega) (by omega) ?_
                refine Ops.nil ?_
                exact After.dn (Below.refl _ _) (by exact rfl)
              · intro e1 w1 hb hp hun
                refine Ops.rung rfl rfl rfl ?_
                refine Ops.ld_int (hrk'.later hb) rfl (by omega) rfl rfl ?_
                refine Ops.nil ?_
                exact After.dn (Below.refl _ _) (by exact rfl)
              · intro e1 w1 hb hp hun
                refine Ops.rung rfl rfl rfl ?_
                refine Ops.idx (hri.later hb).2 rfl rfl rfl (by omega) (by omega) ?_
                refine Ops.nil ?_
                exact After.dn (Below.refl _ _) (by exact rfl)
              · intro e1 w1 hb hp hun
                refine Ops.rung rfl rfl rfl ?_
                refine Ops.ld_int (hri.later hb) rfl (by omega) rfl rfl ?_
                refine Ops.nil ?_
                exact After.dn (Below.refl _ _) (by exact rfl)
              · intro e1 w1 hb hp hun
                refine Ops.rung rfl rfl rfl ?_
                refine Ops.neq rfl rfl rfl ?_
                refine Ops.nil ?_
                exact After.dn (Below.refl _ _) (by exact congrArg Value.bool (decide_eq_false (fun h => h h9)))
              · intro e1 w1 hb hp hun
                refine Ops.pick_f rfl rfl rfl ?_
                refine Ops.nil ?_
                exact After.dn (Below.refl _ _) (by exact rfl)
              intro u w6 hb6 _
              have hS6 := hS5.later hb6
              refine thenQ_n ?_
              refine Cd.cond_f rfl ?_
              refine Cd.skip ?_
              refine blockQ_n ?_
              refine thenQ_n ?_
              refine Cd.region ?_
              refine Ops.add rfl rfl rfl (by omega) ?_
              refine Ops.mv_int rfl rfl rfl ?_
              refine Ops.nil ?_
              refine thenQ_n ?_
              refine ⟨f + 1, by omega, ⟨rfl, rfl, rfl, rfl, rfl, rfl, rfl, rfl, rfl, rfl, rfl, trivial⟩, hS6, by omega, fun f' hf' => ?_⟩
              by_cases ef : f' = f
              · subst ef; exact ⟨h9, h10⟩
              · exact hC5 f' (by omega)
            · refine Cd.draw [.ex (.slice ((rg rs i).a) ((rg rs i).n) ((rg rs i).c)), .ex (.int .i64 ((f : Int))), .ex (.pointer (ptrAt ((rg rs i).a) ((f : Int)).toNat)), .ex (.int .i64 (gi (gl xss i) ((f : Int)))), .ex (.slice ((rg rs k).a) ((rg rs k).n) ((rg rs k).c)), .ex (.int .i64 ((f : Int))), .ex (.pointer (ptrAt ((rg rs k).a) ((f : Int)).toNat)), .ex (.int .i64 (gi (gl xss k) ((f : Int)))), .ex (.bool (false)), .ex (.bool (false)), .ex (.slice ((rg rs k).a) ((rg rs k).n) ((rg rs k).c)), .ex (.slice ((rg rs i).a) ((rg rs i).n) ((rg rs i).c)), .ex (.int .i64 ((f : Int))), .ex (.pointer (ptrAt ((rg rs i).a) ((f : Int)).toNat)), .ex (.int .i64 (gi (gl xss i) ((f : Int)))), .ex (.pointer (ptrAt ((rg rs k).a) (gi (gl xss i) ((f : Int))).toNat)), .ex (.int .i64 (gi (gl xss k) (gi (gl xss i) ((f : Int))))), .ex (.slice ((rg rs i).a) ((rg rs i).n) ((rg rs i).c)), .ex (.slice ((rg rs k).a) ((rg rs k).n) ((rg rs k).c)), .ex (.int .i64 ((f : Int))), .ex (.pointer (ptrAt ((rg rs k).a) ((f : Int)).toNat)), .ex (.int .i64 (gi (gl xss k) ((f : Int)))), .ex (.pointer (ptrAt ((rg rs i).a) (gi (gl xss k) ((f : Int))).toNat)), .ex (.int .i64 (gi (gl xss i) (gi (gl xss k) ((f : Int))))), .ex (.bool (true)), .ex (.bool (true))] (by kernel_rfl) (by kernel_rfl) rfl (List.forall_mem_cons.2 ⟨Yd.lasts_ex _, (List.forall_mem_cons.2 ⟨Yd.lasts_ex _, (List.forall_mem_cons.2 ⟨Yd.lasts_ex _, (List.forall_mem_cons.2 ⟨Yd.lasts_ex _, (List.forall_mem_cons.2 ⟨Yd.lasts_ex _, (List.forall_mem_cons.2 ⟨Yd.lasts_ex _, (List.forall_mem_cons.2 ⟨Yd.lasts_ex _, (List.forall_mem_cons.2 ⟨Yd.lasts_ex _, (List.forall_mem_cons.2 ⟨Yd.lasts_ex _, (List.forall_mem_cons.2 ⟨Yd.lasts_ex _, (List.forall_mem_cons.2 ⟨Yd.lasts_ex _, (List.forall_mem_cons.2 ⟨Yd.lasts_ex _, (List.forall_mem_cons.2 ⟨Yd.lasts_ex _, (List.forall_mem_cons.2 ⟨Yd.lasts_ex _, (List.forall_mem_cons.2 ⟨Yd.lasts_ex _, (List.forall_mem_cons.2 ⟨Yd.lasts_ex _, (List.forall_mem_cons.2 ⟨Yd.lasts_ex _, (List.forall_mem_cons.2 ⟨Yd.lasts_ex _, (List.forall_mem_cons.2 ⟨Yd.lasts_ex _, (List.forall_mem_cons.2 ⟨Yd.lasts_ex _, (List.forall_mem_cons.2 ⟨Yd.lasts_ex _, (List.forall_mem_cons.2 ⟨Yd.lasts_ex _, (List.forall_mem_cons.2 ⟨Yd.lasts_ex _, (List.forall_mem_cons.2 ⟨Yd.lasts_ex _, (List.forall_mem_cons.2 ⟨Yd.lasts_ex _, (List.forall_mem_cons.2 ⟨Yd.lasts_ex _, (fun _ h => by cases h)⟩)⟩)⟩)⟩)⟩)⟩)⟩)⟩)⟩)⟩)⟩)⟩)⟩)⟩)⟩)⟩)⟩)⟩)⟩)⟩)⟩)⟩)⟩)⟩)⟩)⟩) ⟨?_, ?_, ?_, ?_, ?_, ?_, ?_, ?_, ?_, ?_, ?_, ?_, ?_, ?_, ?_, ?_, ?_, ?_, ?_, ?_, ?_, ?_, ?_, ?_, ?_, ?_, trivial⟩ ?_
              · intro e1 w1 hb hp hun
                refine Ops.mv_sl rfl rfl rfl ?_
                refine Ops.nil ?_
                exact After.dn (Below.refl _ _) (by exact rfl)
              · intro e1 w1 hb hp hun
                refine Ops.mv_int rfl rfl rfl ?_
                refine Ops.nil ?_
                exact After.dn (Below.refl _ _) (by exact rfl)
              · intro e1 w1 hb hp hun
                refine Ops.idx (hri.later hb).2 rfl rfl rfl (by omega) (by omega) ?_
                refine Ops.nil ?_
                exact After.dn (Below.refl _ _) (by exact rfl)
              · intro e1 w1 hb hp hun
                refine Ops.ld_int (hri.later hb) rfl (by omega) rfl rfl ?_
                refine Ops.nil ?_
                exact After.dn (Below.refl _ _) (by exact rfl)
              · intro e1 w1 hb hp hun
                refine Ops.mv_sl rfl rfl rfl ?_
                refine Ops.nil ?_
                exact After.dn (Below.refl _ _) (by exact rfl)
              · intro e1 w1 hb hp hun
                refine Ops.mv_int rfl rfl rfl ?_
                refine Ops.nil ?_
                exact After.dn (Below.refl _ _) (by exact rfl)
              · intro e1 w1 hb hp hun
                refine Ops.idx (hrk'.later hb).2 rfl rfl rfl (by omega) (by omega) ?_
                refine Ops.nil ?_
                exact After.dn (Below.refl _ _) (by exact rfl)
              · intro e1 w1 hb hp hun
                refine Ops.ld_int (hrk'.later hb) rfl (by omega) rfl rfl ?_
                refine Ops.nil ?_
                exact After.dn (Below.refl _ _) (by exact rfl)
              · intro e1 w1 hb hp hun
                refine Ops.eql rfl rfl rfl ?_
                refine Ops.nil ?_
                exact After.dn (Below.refl _ _) (by exact congrArg Value.bool (decide_eq_false h10))
              · intro e1 w1 hb hp hun
                refine Ops.mv_bool rfl rfl rfl ?_
                refine Ops.nil ?_
                exact After.dn (Below.refl _ _) (by exact rfl)
              · intro e1 w1 hb hp hun
                refine Ops.rung rfl rfl rfl ?_
                refine Ops.mv_sl rfl rfl rfl ?_
                refine Ops.nil ?_
                exact After.dn (Below.refl _ _) (by exact rfl)
              · intro e1 w1 hb hp hun
                refine Ops.rung rfl rfl rfl ?_
                refine Ops.mv_sl rfl rfl rfl ?_
                refine Ops.nil ?_
                exact After.dn (Below.refl _ _) (by exact rfl)
              · intro e1 w1 hb hp hun
                refine Ops.rung rfl rfl rfl ?_
                refine Ops.mv_int rfl rfl rfl ?_
                refine Ops.nil ?_
                exact After.dn (Below.refl _ _) (by exact rfl)
              · intro e1 w1 hb hp hun
                refine Ops.rung rfl rfl rfl ?_
                refine Ops.idx (hri.later hb).2 rfl rfl rfl (by omega) (by omega) ?_
                refine Ops.nil ?_
                exact After.dn (Below.refl _ _) (by exact rfl)
              · intro e1 w1 hb hp hun
                refine Ops.rung rfl rfl rfl ?_
                refine Ops.ld_int (hri.later hb) rfl (by omega) rfl rfl ?_
                refine Ops.nil ?_
                exact After.dn (Below.refl _ _) (by exact rfl)
              · intro e1 w1 hb hp hun
                refine Ops.rung rfl rfl rfl ?_
                refine Ops.idx (hrk'.later hb).2 rfl rfl rfl (by omega) (by omega) ?_
                refine Ops.nil ?_
                exact After.dn (Below.refl _ _) (by exact rfl)
              · intro e1 w1 hb hp hun
                refine Ops.rung rfl rfl rfl ?_
                refine Ops.ld_int (hrk'.later hb) rfl (by omega) rfl rfl ?_
                refine Ops.nil ?_
                exact After.dn (Below.refl _ _) (by exact rfl)
              · intro e1 w1 hb hp hun
                refine Ops.rung rfl rfl rfl ?_
                refine Ops.mv_sl rfl rfl rfl ?_
                refine Ops.nil ?_
                exact After.dn (Below.refl _ _) (by exact rfl)
              · intro e1 w1 hb hp hun
                refine Ops.rung rfl rfl rfl ?_
                refine Ops.mv_sl rfl rfl rfl ?_
                refine Ops.nil ?_
                exact After.dn (Below.refl _ _) (by exact rfl)
              · intro e1 w1 hb hp hun
                refine Ops.rung rfl rfl rfl ?_
                refine Ops.mv_int rfl rfl rfl ?_
                refine Ops.nil ?_
                exact After.dn (Below.refl _ _) (by exact rfl)
              · intro e1 w1 hb hp hun
                refine Ops.rung rfl rfl rfl ?_
                refine Ops.idx (hrk'.later hb).2 rfl rfl rfl (by omega) (by omega) ?_
                refine Ops.nil ?_
                exact After.dn (Below.refl _ _) (by exact rfl)
              · intro e1 w1 hb hp hun
                refine Ops.rung rfl rfl rfl ?_
                refine Ops.ld_int (hrk'.later hb) rfl (by omega) rfl rfl ?_
                refine Ops.nil ?_
                exact After.dn (Below.refl _ _) (by exact rfl)
              · intro e1 w1 hb hp hun
                refine Ops.rung rfl rfl rfl ?_
                refine Ops.idx (hri.later hb).2 rfl rfl rfl (by omega) (by omega) ?_
                refine Ops.nil ?_
                exact After.dn (Below.refl _ _) (by exact rfl)
              · intro e1 w1 hb hp hun
                refine Ops.rung rfl rfl rfl ?_
                refine Ops.ld_int (hri.later hb) rfl (by omega) rfl rfl ?_
                refine Ops.nil ?_
                exact After.dn (Below.refl _ _) (by exact rfl)
              · intro e1 w1 hb hp hun
                refine Ops.rung rfl rfl rfl ?_
                refine Ops.neq rfl rfl rfl ?_
                refine Ops.nil ?_
                exact After.dn (Below.refl _ _) (by exact congrArg Value.bool (decide_eq_true h9))
              · intro e1 w1 hb hp hun
                refine Ops.pick_f rfl rfl rfl ?_
                refine Ops.nil ?_
                exact After.dn (Below.refl _ _) (by exact rfl)
              intro u w6 hb6 _
              have hS6 := hS5.later hb6
              refine thenQ_n ?_
              refine Cd.cond_t rfl ?_
              refine Cd.seq ?_
              refine Cd.region ?_
              refine Ops.mv_bool rfl rfl rfl ?_
              refine Ops.nil ?_
              refine thenQ_n ?_
              refine Cd.ret ?_
              refine blockQ_r ?_
              refine thenQ_r ?_
              refine thenQ_r ?_
              refine blockQ_r ?_
              refine blockQ_r ?_
              refine thenQ_r ?_
              refine thenQ_r ?_
              refine blockQ_r ?_
              refine blockQ_r ?_
              refine thenQ_r ?_
              refine thenQ_r ?_
              refine blockQ_r ?_
              refine thenQ_r ?_
              refine ret1_b rfl ?_
              exact ⟨by rw [decide_eq_false (fun h : Mani xss => h9 (h.2.2.2.1 i (by omega) k (by omega) hik f (by omega)).1)], hS6.none⟩
        · refine Cd.exit ?_
          refine thenQ_x ?_
          refine thenQ_x ?_
          refine blockQ_x ?_
          refine blockQ_n ?_
          refine thenQ_n ?_
          refine Cd.region ?_
          refine Ops.add rfl rfl rfl (by omega) ?_
          refine Ops.mv_int rfl rfl rfl ?_
          refine Ops.nil ?_
          refine thenQ_n ?_
          refine ⟨j + 1, by omega, ⟨rfl, rfl, rfl, rfl, rfl, rfl, rfl, rfl, trivial⟩, hS5, by omega, fun k' hk' hkn hik' f' hf' => ?_⟩
          by_cases ek : k' = k
          · subst ek; exact hC5 f' (by omega)
          · exact hC4 k' (by omega) hkn hik' f' hf'
      · refine Cd.exit ?_
        refine thenQ_x ?_
        refine thenQ_x ?_
        refine blockQ_x ?_
        refine blockQ_n ?_
        refine thenQ_n ?_
        refine Cd.region ?_
        refine Ops.add rfl rfl rfl (by omega) ?_
        refine Ops.mv_int rfl rfl rfl ?_
        refine Ops.nil ?_
        refine thenQ_n ?_
        refine ⟨i + 1, by omega, ⟨rfl, rfl, rfl, rfl, trivial⟩, hS4, by omega, fun i' hi' k' hk' hik' f' hf' => ?_⟩
        by_cases ei : i' = i
        · subst ei; exact hC4 k' (by omega) hk' hik' f' hf'
        · exact hC i' (by omega) k' hk' hik' f' hf'
    · have hB := hS3.rd 0 rfl
      refine Cd.exit ?_
      refine thenQ_x ?_
      refine thenQ_x ?_
      refine blockQ_x ?_
      refine thenQ_n ?_
      refine Cd.seq ?_
      refine Cd.draw [.ex (.int .i64 (((rg rs 0).n : Int))), .ex (.pointer (ptrAt (Ab) 0)), .ex (.slice (A) (n) (c)), .pr (fun v _ => ∃ A', v = .tuple #[.slice A' (gl xss 0).length (gl xss 0).length, .int .i64 (lab (gl xss 0).length xss (gl xss 0).length).2]), .pr (fun v _ => ∃ A', v = .tuple #[.slice A' (gl xss 0).length (gl xss 0).length, .int .i64 (lab (gl xss 0).length xss (gl xss 0).length).2]), .pr (fun v _ => ∃ A', v = .slice A' (gl xss 0).length (gl xss 0).length), .ex (.int .i64 ((lab (gl xss 0).length xss (gl xss 0).length).2)), .pr (fun v _ => ∃ A', v = .slice A' (gl xss 0).length (gl xss 0).length), .ex (.int .i64 ((lab (gl xss 0).length xss (gl xss 0).length).2))] (by kernel_rfl) (by kernel_rfl) rfl (List.forall_mem_cons.2 ⟨Yd.lasts_ex _, (List.forall_mem_cons.2 ⟨Yd.lasts_ex _, (List.forall_mem_cons.2 ⟨Yd.lasts_ex _, (List.forall_mem_cons.2 ⟨Yd.lasts_pr (fun _ _ _ h _ => h), (List.forall_mem_cons.2 ⟨Yd.lasts_pr (fun _ _ _ h _ => h), (List.forall_mem_cons.2 ⟨Yd.lasts_pr (fun _ _ _ h _ => h), (List.forall_mem_cons.2 ⟨Yd.lasts_ex _, (List.forall_mem_cons.2 ⟨Yd.lasts_pr (fun _ _ _ h _ => h), (List.forall_mem_cons.2 ⟨Yd.lasts_ex _, (fun _ h => by cases h)⟩)⟩)⟩)⟩)⟩)⟩)⟩)⟩)⟩) ⟨?_, ?_, ?_, ?_, ?_, ?_, ?_, ?_, ?_, trivial⟩ ?_
      · intro e1 w1 hb hp hun
        refine Ops.call (flags_c _ _ _ _ _ _ _ _ (hB.below hb) rfl (hM.later hb) (by omega)) rfl rfl rfl ?_
        rintro _ w2 ⟨rfl, hst⟩
        subst hst
        refine Ops.nil ?_
        exact After.dn (Below.refl _ _) (by exact rfl)
      · intro e1 w1 hb hp hun
        refine Ops.fld (hB.below hb) rfl rfl rfl rfl inferInstance ?_
        refine Ops.nil ?_
        exact After.dn (Below.refl _ _) (by exact rfl)
      · intro e1 w1 hb hp hun
        refine Ops.ldf_s (hB.below hb) rfl rfl rfl rfl rfl ?_
        refine Ops.nil ?_
        exact After.dn (Below.refl _ _) (by exact rfl)
      · intro e1 w1 hb hp hun
        refine Ops.call (orbitLabels_c A n c rs xss (gl xss 0).length _ (hM.later hb) (by omega) hs hr1.inj (by omega)) rfl (by rw [r0]; rfl) rfl ?_
        rintro _ w2 ⟨A', rfl, hst⟩
        refine Ops.nil ?_
        exact After.dn hst.below ⟨A', rfl⟩
      · intro e1 w1 hb hp hun
        obtain ⟨A', h96⟩ := (hp 3 (by decide) rfl _ _ rfl rfl)
        refine Ops.mv_tup rfl (by exact h96) rfl ?_
        refine Ops.nil ?_
        exact After.dn (Below.refl _ _) ⟨A', rfl⟩
      · intro e1 w1 hb hp hun
        obtain ⟨A', h92⟩ := (hp 4 (by decide) rfl _ _ rfl rfl)
        refine Ops.extract (by exact h92) rfl rfl ?_
        refine Ops.nil ?_
        exact After.dn (Below.refl _ _) ⟨A', rfl⟩
      · intro e1 w1 hb hp hun
        obtain ⟨A', h92⟩ := (hp 4 (by decide) rfl _ _ rfl rfl)
        refine Ops.extract (by exact h92) rfl rfl ?_
        refine Ops.nil ?_
        exact After.dn (Below.refl _ _) (by exact rfl)
      · intro e1 w1 hb hp hun
        obtain ⟨A', h97⟩ := (hp 5 (by decide) rfl _ _ rfl rfl)
        refine Ops.mv_sl rfl (by exact h97) rfl ?_
        refine Ops.nil ?_
        exact After.dn (Below.refl _ _) ⟨A', rfl⟩
      · intro e1 w1 hb hp hun
        refine Ops.mv_int rfl rfl rfl ?_
        refine Ops.nil ?_
        exact After.dn (Below.refl _ _) (by exact rfl)
      intro u w6 hb6 _
      have hS6 := hS3.later hb6
      refine thenQ_n ?_
      refine Cd.seq ?_
      refine Cd.region ?_
      refine Ops.mv_int rfl rfl rfl ?_
      refine Ops.eql rfl rfl rfl ?_
      refine Ops.mv_bool rfl rfl rfl ?_
      refine Ops.nil ?_
      refine thenQ_n ?_
      refine Cd.ret ?_
      refine ret1_b rfl ?_
      refine ⟨?_, hS6.none⟩
      congr 1
      have ho := orbit_all hs (by omega)
      have hl := lab_one hs (by omega)
      exact decide_eq_decide.2 ⟨fun h => ⟨by omega, by omega, hr1, fun i' hi' k' hk' hik' f' hf' => hC i' (by omega) k' (by omega) hik' f' hf', ho.2 (hl.1 h)⟩, fun h => hl.2 (ho.1 h.2.2.2.2)⟩
end Go.Proofs.Ytjpkmpihmilgoaa.Vc
/-
  The walks of the desk's small functions. Conditions: as each states them.
-/
namespace Go.Proofs.Ytjpkmpihmilgoaa.Vc
open Go.RowKit
section
variable {P : Program} {N : Nat} {ops : Array Oper} {K : Env → World → Prop} {rest : List Oper} {e : Env} {w : World} {d : Nat} {ty : TypeId} {pos : String} {af : Array Edge} {x y : Operand} {xt yt : TypeId}
end

theorem eqDesk_c (A1 : Option Addr) (n1 c1 : Nat) (rs1 : List SlV) (x1 : List (List Int)) (A2 : Option Addr) (n2 c2 : Nat) (rs2 : List SlV) (x2 : List (List Int)) (B1 : Option Addr) (m1 d1 : Nat) (ts1 : List SlV) (y1 : List (List Int)) (B2 : Option Addr) (m2 d2 : Nat) (ts2 : List SlV) (y2 : List (List Int)) (w : World) (hR1 : RowsI w A1 n1 rs1 x1) (hR2 : RowsI w A2 n2 rs2 x2) (hT1 : RowsI w B1 m1 ts1 y1) (hT2 : RowsI w B2 m2 ts2 y2) (hn1 : n1 ≤ 9223372036854775807) (hn2 : n2 ≤ 9223372036854775807) :
    Ret Try.prog 6 [.agg #[.slice A1 n1 c1, .slice A2 n2 c2], .agg #[.slice B1 m1 d1, .slice B2 m2 d2]] w (fun v w' => v = .bool (decide (x1 = y1 ∧ x2 = y2)) ∧ St w w' []) := by
  refine Ret.of_cd Try.func6 rfl Try.ntmps6 rfl (post1 rfl) ?_
  refine Cd.seq ?_
  refine Cd.region ?_
  refine Ops.box2 (St.refl w) rfl rfl ?_
  intro Ab w1 hS1
  refine Ops.box2 hS1 rfl rfl ?_
  intro Ac w2 hS
  refine Ops.mv_bool rfl rfl rfl ?_
  refine Ops.nil ?_
  refine thenQ_n ?_
  refine Cd.seq ?_
  refine Cd.seq ?_
  refine Cd.region ?_
  refine Ops.fld (hS.rd 1 rfl) rfl rfl rfl rfl inferInstance ?_
  refine Ops.ld_aggf 0 (hS.rd 1 rfl) rfl rfl rfl rfl ?_
  refine Ops.fld (hS.rd 0 rfl) rfl rfl rfl rfl inferInstance ?_
  refine Ops.ld_aggf 0 (hS.rd 0 rfl) rfl rfl rfl rfl ?_
  refine Ops.call (eqManiplex_c A1 n1 c1 rs1 x1 B1 m1 d1 ts1 y1 _ (hS.oldRows hR1) (hS.oldRows hT1) hn1) rfl rfl rfl ?_
  rintro _ w3 ⟨rfl, hst⟩
  have hS := hS.later hst.below
  first | refine Ops.not_p rfl rfl ?_ | refine Ops.not rfl rfl ?_
  refine Ops.nil ?_
  refine thenQ_n ?_
  refine Cd.cond_p _ rfl (fun h1 => ?_) (fun h1 => ?_)
  · refine Cd.seq ?_
    refine Cd.region ?_
    refine Ops.mv_bool rfl rfl rfl ?_
    refine Ops.nil ?_
    refine thenQ_n ?_
    refine Cd.ret ?_
    refine thenQ_r ?_
    refine ret1_b rfl ?_
    exact ⟨by rw [decide_eq_false (fun h => h1 h.1)], hS.none⟩
  have h1 := Classical.not_not.1 h1
  refine Cd.skip ?_
  refine thenQ_n ?_
  refine Cd.seq ?_
  refine Cd.seq ?_
  refine Cd.region ?_
  refine Ops.fld (hS.rd 1 rfl) rfl rfl rfl rfl inferInstance ?_
  refine Ops.ld_aggf 0 (hS.rd 1 rfl) rfl rfl rfl rfl ?_
  refine Ops.fld (hS.rd 0 rfl) rfl rfl rfl rfl inferInstance ?_
  refine Ops.ld_aggf 0 (hS.rd 0 rfl) rfl rfl rfl rfl ?_
  refine Ops.call (eqManiplex_c A2 n2 c2 rs2 x2 B2 m2 d2 ts2 y2 _ (hS.oldRows hR2) (hS.oldRows hT2) hn2) rfl rfl rfl ?_
  rintro _ w4 ⟨rfl, hst⟩
  have hS := hS.later hst.below
  first | refine Ops.not_p rfl rfl ?_ | refine Ops.not rfl rfl ?_
  refine Ops.nil ?_
  refine thenQ_n ?_
  refine Cd.cond_p _ rfl (fun h2 => ?_) (fun h2 => ?_)
  · refine Cd.seq ?_
    refine Cd.region ?_
    refine Ops.mv_bool rfl rfl rfl ?_
    refine Ops.nil ?_
    refine thenQ_n ?_
    refine Cd.ret ?_
    refine thenQ_r ?_
    refine ret1_b rfl ?_
    exact ⟨by rw [decide_eq_false (fun h => h2 h.2)], hS.none⟩
  · refine Cd.skip ?_
    refine thenQ_n ?_
    refine Cd.seq ?_
    refine Cd.region ?_
    refine Ops.mv_bool rfl rfl rfl ?_
    refine Ops.nil ?_
    refine thenQ_n ?_
    refine Cd.ret ?_
    refine ret1_b rfl ?_
    exact ⟨by rw [decide_eq_true ⟨h1, Classical.not_not.1 h2⟩], hS.none⟩
end Go.Proofs.Ytjpkmpihmilgoaa.Vc
/-
  A statement whose order Go leaves open, with any operations that turn memory: each world's property holds till the next of them. Conditions: as each rule names them.
-/
namespace Go.Proofs.Ytjpkmpihmilgoaa.Vc
open Go.RowKit

def dsl (l : List Oper) : List Nat := l.filterMap (·.dst)
theorem filterMap_inj {α β : Type} (f : α → Option β) : ∀ (l : List α), (l.filterMap f).Nodup → ∀ (i j : Nat) (a b : α) (d : β), l[i]? = some a → l[j]? = some b → f a = some d → f b = some d → i = j
  | [], _, i, j, a, b, d, hi, _, _, _ => by simp at hi
  | x :: l, hn, i, j, a, b, d, hi, hj, ha, hb => by
    have mem : ∀ (k : Nat) (c : α), l[k]? = some c → f c = some d → d ∈ l.filterMap f := fun k c hk hc => List.mem_filterMap.2 ⟨c, List.mem_of_getElem? hk, hc⟩
    cases hx : f x with
    | none =>
      rw [List.filterMap_cons, hx] at hn
      cases i with
      | zero => simp at hi; subst hi; rw [hx] at ha; cases ha
      | succ i =>
        cases j with
        | zero => simp at hj; subst hj; rw [hx] at hb; cases hb
        | succ j => rw [filterMap_inj f l hn i j a b d (by simpa using hi) (by simpa using hj) ha hb]
    | some y =>
      rw [List.filterMap_cons, hx] at hn
      simp only [List.nodup_cons] at hn
      cases i with
      | zero =>
        simp at hi; subst hi
        rw [hx] at ha; cases ha
        cases j with
        | zero => rfl
        | succ j => exact absurd (mem j b (by simpa using hj) hb) hn.1
      | succ i =>
        cases j with
        | zero =>
          simp at hj; subst hj
          rw [hx] at hb; cases hb
          exact absurd (mem i a (by simpa using hi) ha) hn.1
        | succ j => rw [filterMap_inj f l hn.2 i j a b d (by simpa using hi) (by simpa using hj) ha hb]

def valOf (o : Oper) (e : Env) : Value := match o.dst with
  | some d => e d
  | none => undef
def isEx : Yd → Bool
  | .ex _ => true
  | .pr _ => false
def drawOkN (N : Nat) (l : List Oper) (ys : List Yd) (ms : List Nat) : Bool :=
  l.all (fun o => match o.dst with | some d => Nat.blt d N | none => true) && decide ((dsl l).Nodup) && (l.zipIdx.all fun p => (aft p.1).all fun ed => Nat.blt ed.on p.2) && Nat.beq l.length ys.length && (l.zip ys).all (fun p => p.1.dst.isSome || !isEx p.2) && decide ms.Nodup && ms.all (fun m => Nat.blt m l.length) && (ys.zipIdx.all fun p => !(isEx p.1) || !(ms.contains p.2))
def loOf (l : List Oper) (ms : List Nat) (k : Nat) : Nat := ms.countP fun m => ancOf l l.length k m
def hiOf (l : List Oper) (ms : List Nat) (k : Nat) : Nat := ms.countP fun m => !(ancOf l l.length m k) && !(Nat.beq m k)
def phOf (l : List Oper) (ms : List Nat) (k : Nat) : Nat := ms.countP fun m => Nat.beq m k || ancOf l l.length k m
/-- one that turns, in order with all that turn -/
def chainAt (l : List Oper) (ms : List Nat) (m : Nat) : Bool := ms.all fun m' => Nat.beq m' m || ancOf l l.length m m' || ancOf l l.length m' m
def Yd.at_ (c ph : Nat) : Yd → Value → World → Prop
  | .ex v, u, _ => u = v
  | .pr p, u, w => c = ph → p u w
def endFrN : List Oper → List Yd → (Nat → Value) → Nat → List (Nat × Value)
  | o :: l, y :: ys, u, i => match o.dst, y with
    | some d, .ex v => (d, v) :: endFrN l ys u (i + 1)
    | some d, .pr _ => (d, u i) :: endFrN l ys u (i + 1)
    | none, _ => endFrN l ys u (i + 1)
  | _, _, _, _ => []
def depFrN (l : List Oper) (ys : List Yd) : List Edge → List (Nat × Value)
  | [] => []
  | ed :: r => match ys[ed.on]?, (l[ed.on]?).bind (·.dst) with
    | some (.ex v), some d => (d, v) :: depFrN l ys r
    | _, _ => depFrN l ys r

theorem le_of_lo {a b c : Nat} (h : a ≤ c) (e : a = b) : b ≤ c := e ▸ h
theorem le_of_hi {a b c : Nat} (h : c ≤ a) (e : a = b) : c ≤ b := e ▸ h
section
variable {P : Program} {N : Nat} {e : Env} {w : World}
def AfterN (o : Oper) (y : Yd) (e1 : Env) (w1 : World) : Env → World → Prop := fun e2 w2 => Below w1.heap.size w1 w2 ∧ y.holds (valOf o e2) w2 ∧ ∀ j, o.dst ≠ some j → e2 j = e1 j
def AfterT (o : Oper) (y : Yd) (e1 : Env) : Env → World → Prop := fun e2 w2 => y.holds (valOf o e2) w2 ∧ ∀ j, o.dst ≠ some j → e2 j = e1 j
theorem upd_at (e1 : Env) (d : Nat) (v : Value) : upd e1 d v d = v := by unfold upd; rw [Nat.beq_refl]; rfl
theorem upd_ne (e1 : Env) {d j : Nat} (v : Value) (h : j ≠ d) : upd e1 d v j = e1 j := by
  have : Nat.beq j d = false := by
    cases hb : Nat.beq j d with
    | false => rfl
    | true => exact absurd (Nat.eq_of_beq_eq_true hb) h
  unfold upd; rw [this]; rfl
theorem AfterN.dn {o : Oper} {y : Yd} {e1 : Env} {w1 w2 : World} {d : Nat} {v : Value} (hd : o.dst = some d) (hb : Below w1.heap.size w1 w2) (hv : y.holds v w2) : AfterN o y e1 w1 (upd e1 d v) w2 := by
  refine ⟨hb, ?_, fun j hj => upd_ne e1 v (fun h => hj (by rw [hd, h]))⟩
  unfold valOf; rw [hd]
  show y.holds (upd e1 d v d) w2
  rw [upd_at]; exact hv
theorem AfterT.dn {o : Oper} {y : Yd} {e1 : Env} {w2 : World} {d : Nat} {v : Value} (hd : o.dst = some d) (hv : y.holds v w2) : AfterT o y e1 (upd e1 d v) w2 := by
  refine ⟨?_, fun j hj => upd_ne e1 v (fun h => hj (by rw [hd, h]))⟩
  unfold valOf; rw [hd]
  show y.holds (upd e1 d v d) w2
  rw [upd_at]; exact hv
theorem AfterT.st {o : Oper} {y : Yd} {e1 : Env} {w2 : World} (hd : o.dst = none) (hv : y.holds undef w2) : AfterT o y e1 e1 w2 := by
  refine ⟨?_, fun j _ => rfl⟩
  unfold valOf; rw [hd]; exact hv

def StepN (P : Program) (N : Nat) (l : List Oper) (ys : List Yd) (ms : List Nat) (e : Env) (w : World) (i : Nat) (o : Oper) : Prop :=
  ∀ (e1 : Env) (w1 : World) (c : Nat), loOf l ms i ≤ c → c ≤ hiOf l ms i → (c = 0 → Below w.heap.size w w1) →
    (∀ (j : Nat) (y : Yd) (o' : Oper), ancOf l l.length i j = true → ys[j]? = some y → l[j]? = some o' → y.at_ c (phOf l ms j) (valOf o' e1) w1) →
    (∀ (j : Nat) (o' : Oper), l[j]? = some o' → ancOf l l.length j i = true → valOf o' e1 = valOf o' e) →
    (∀ (m : Nat) (y : Yd) (o' : Oper), memb ms m = true → chainAt l ms m = true → phOf l ms m = c → ys[m]? = some y → l[m]? = some o' → y.at_ c (phOf l ms m) (valOf o' e1) w1) →
    bif memb ms i then Ops P N l.toArray (AfterT o (ys.getD i (.pr fun _ _ => True)) (ext (mix e1 e (dsl l)) (depFrN l ys (aft o)))) [o] (ext (mix e1 e (dsl l)) (depFrN l ys (aft o))) w1
    else Ops P N l.toArray (AfterN o (ys.getD i (.pr fun _ _ => True)) (ext (mix e1 e (dsl l)) (depFrN l ys (aft o))) w1) [o] (ext (mix e1 e (dsl l)) (depFrN l ys (aft o))) w1
def StepsN (P : Program) (N : Nat) (l : List Oper) (ys : List Yd) (ms : List Nat) (e : Env) (w : World) : Nat → List Oper → Prop
  | _, [] => True
  | i, o :: r => StepN P N l ys ms e w i o ∧ StepsN P N l ys ms e w (i + 1) r
theorem StepsN.get {l : List Oper} {ys : List Yd} {ms : List Nat} : ∀ {r : List Oper} {i : Nat}, StepsN P N l ys ms e w i r → ∀ k o, r[k]? = some o → StepN P N l ys ms e w (i + k) o
  | [], _, _, k, o, hk => by simp at hk
  | x :: r, i, h, 0, o, hk => by simp at hk; subst hk; exact h.1
  | x :: r, i, h, k + 1, o, hk => by
    have := StepsN.get h.2 k o (by simpa using hk)
    rw [show i + 1 + k = i + (k + 1) by omega] at this
    exact this

theorem depFrN_mt {l : List Oper} {ys : List Yd} {e1 : Env} : ∀ (af : List Edge), (∀ ed ∈ af, ∀ (v : Value) (o' : Oper), ys[ed.on]? = some (.ex v) → l[ed.on]? = some o' → valOf o' e1 = v) → Mt e1 (depFrN l ys af)
  | [], _ => trivial
  | ed :: r, h => by
    have hr := depFrN_mt r (fun x hx => h x (List.mem_cons_of_mem _ hx))
    unfold depFrN
    split
    · rename_i v d hy hd
      refine ⟨?_, hr⟩
      cases ho : l[ed.on]? with
      | none => rw [ho] at hd; cases hd
      | some o' =>
        rw [ho] at hd
        have hd' : o'.dst = some d := hd
        have := h ed (by simp) v o' hy ho
        unfold valOf at this
        rw [hd'] at this
        exact this
    · exact hr

theorem endFrN_eq {e1 e : Env} : ∀ (l : List Oper) (ys : List Yd) (i : Nat), l.length = ys.length → (dsl l).Nodup → (∀ (k : Nat) (v : Value) (o : Oper), ys[k]? = some (.ex v) → l[k]? = some o → valOf o e1 = v ∨ o.dst = none) →
    ∃ u : Nat → Value, ext e (endFrN l ys u i) = mix e1 e (dsl l) ∧ (∀ (k : Nat) (o : Oper), l[k]? = some o → u (i + k) = valOf o e1)
  | [], [], i, _, _, _ => ⟨fun _ => undef, by funext j; rfl, fun k o h => by simp at h⟩
  | [], y :: ys, i, hl, _, _ => by simp at hl
  | o :: l, [], i, hl, _, _ => by simp at hl
  | o :: l, y :: ys, i, hl, hn, h => by
    have hn' : (dsl l).Nodup := by
      unfold dsl at hn ⊢
      rw [List.filterMap_cons] at hn
      split at hn
      · exact hn
      · exact (List.nodup_cons.1 hn).2
    obtain ⟨u, hu, hu2⟩ := endFrN_eq (e1 := e1) (e := e) l ys (i + 1) (by simpa using hl) hn' (fun k v o' hy ho => h (k + 1) v o' (by simpa using hy) (by simpa using ho))
    have cng : ∀ (l : List Oper) (ys : List Yd) (i : Nat) (u u' : Nat → Value), (∀ k, i ≤ k → u k = u' k) → endFrN l ys u i = endFrN l ys u' i := by
      intro l
      induction l with
      | nil => intros; rfl
      | cons o l ih =>
        intro ys i u u' hk
        cases ys with
        | nil => rfl
        | cons y ys =>
          have h1 := ih ys (i + 1) u u' (fun k hk' => hk k (by omega))
          simp only [endFrN]
          rw [h1, hk i (by omega)]
    have hc := cng l ys (i + 1) (fun k => if k = i then valOf o e1 else u k) u (fun k hk => by show (if k = i then _ else _) = _; rw [if_neg (by omega)])
    refine ⟨fun k => if k = i then valOf o e1 else u k, ?_, fun k o' hk => ?_⟩
    · cases hd : o.dst with
      | none =>
        have e1' : dsl (o :: l) = dsl l := by unfold dsl; rw [List.filterMap_cons, hd]
        simp only [endFrN, hd, hc, hu, e1']
      | some d =>
        have e1' : dsl (o :: l) = d :: dsl l := by unfold dsl; rw [List.filterMap_cons, hd]
        have hval : valOf o e1 = e1 d := by unfold valOf; rw [hd]
        have hstep : ∀ v, v = e1 d → upd (mix e1 e (dsl l)) d v = mix e1 e (d :: dsl l) := by
          intro v hv
          funext j
          simp only [upd, mix, memb]
          cases hb : Nat.beq j d with
          | true => rw [Nat.eq_of_beq_eq_true hb, hv]; rfl
          | false => rfl
        rw [e1']
        cases y with
        | ex v =>
          have h0 := h 0 v o rfl rfl
          simp only [endFrN, hd, ext, hc, hu]
          refine hstep v ?_
          rcases h0 with h0 | h0
          · rw [← h0, hval]
          · rw [hd] at h0; cases h0
        | pr p =>
          simp only [endFrN, hd, ext, hc, hu, if_pos]
          exact hstep _ hval
    · cases k with
      | zero => simp at hk; subst hk; simp
      | succ k =>
        have := hu2 k o' (by simpa using hk)
        show (if i + (k + 1) = i then _ else u (i + (k + 1))) = _
        rw [if_neg (by omega), ← this]; congr 1; omega

theorem countP_le_of {ms : List Nat} {p q : Nat → Bool} (h : ∀ m ∈ ms, p m = true → q m = true) : ms.countP p ≤ ms.countP q := List.countP_mono_left h

theorem Cd.drawN {id : Nat} {l : List Oper} {Q : Post} (ms : List Nat) (ys : List Yd) (hm : P.follows .mixedOrders = true) (hok : drawOkN N l ys ms = true) (hlasts : ∀ y ∈ ys, y.lasts)
    (hsteps : StepsN P N l ys ms e w 0 l) (hend : ∀ u w1, (ms = [] → Below w.heap.size w w1) → (∀ (k : Nat) (p : Value → World → Prop), ys[k]? = some (Yd.pr p) → phOf l ms k = ms.length → p (u k) w1) → Q .normal (ext e (endFrN l ys u 0)) w1) : Cd P N (.region id l.toArray true) Q e w := .mk' fun a ha => by
  simp only [drawOkN, Bool.and_eq_true, List.all_eq_true, decide_eq_true_eq] at hok
  obtain ⟨⟨⟨⟨⟨⟨⟨h1, h2⟩, h3⟩, hlen⟩, hnone⟩, hmn⟩, hml⟩, hmy⟩ := hok
  have hlen' : l.length = ys.length := Nat.eq_of_beq_eq_true hlen
  have hback : ∀ (i : Nat) (o : Oper), l[i]? = some o → ∀ ed ∈ aft o, ed.on < i := by
    intro i o ho ed hed
    have := h3 (o, i) (by
      obtain ⟨hi, hio⟩ := List.getElem?_eq_some_iff.1 ho
      rw [List.mem_iff_getElem?]
      exact ⟨i, by simp [ho]⟩)
    simpa [Nat.blt_eq] using this ed hed
  have hdN : ∀ (i : Nat) (o : Oper) (d : Nat), l[i]? = some o → o.dst = some d → d < N := by
    intro i o d ho hd
    have := h1 o (List.mem_of_getElem? ho)
    rw [hd] at this
    simpa [Nat.blt_eq] using this
  have hexd : ∀ (i : Nat) (o : Oper) (v : Value), l[i]? = some o → ys[i]? = some (.ex v) → o.dst ≠ none := by
    intro i o v ho hy hd
    have := hnone (o, .ex v) (by
      rw [List.mem_iff_getElem?]
      exact ⟨i, by rw [List.getElem?_zip_eq_some]; exact ⟨ho, hy⟩⟩)
    simp [hd, isEx] at this
  have hmpr : ∀ (m : Nat) (y : Yd), m ∈ ms → ys[m]? = some y → ∃ p, y = .pr p := by
    intro m y hmm hy
    have := hmy (y, m) (by
      obtain ⟨hi, hio⟩ := List.getElem?_eq_some_iff.1 hy
      rw [List.mem_iff_getElem?]
      exact ⟨m, by simp [hy]⟩)
    cases y with
    | ex v => simp [isEx, hmm] at this
    | pr p => exact ⟨p, rfl⟩
  refine wp_region_any hm ?_
  let cnt : Array Bool → Nat := fun listed => ms.countP fun m => listed.getD m false
  have key : ∀ (fuel : Nat) (listed : Array Bool) (a1 : Act) (e1 : Env) (w1 : World), Rep N a1 e1 → (cnt listed = 0 → Below w.heap.size w w1) → (∀ j, memb (dsl l) j = false → e1 j = e j) → listed.size = l.length →
      (∀ (i : Nat) (y : Yd) (o : Oper), listed.getD i false = true → ys[i]? = some y → l[i]? = some o → y.at_ (cnt listed) (phOf l ms i) (valOf o e1) w1) → (∀ (i : Nat) (o : Oper), listed.getD i false = true → l[i]? = some o → ∀ ed ∈ aft o, listed.getD ed.on false = true) → (∀ (i : Nat) (o : Oper), listed.getD i false = false → l[i]? = some o → valOf o e1 = valOf o e) → (l.length - fuel ≤ (List.range l.length).countP fun i => listed.getD i false) →
      wpAny P .any l.toArray (low N Q) fuel listed a1 w1 := by
    have hfin : ∀ (listed : Array Bool) (a1 : Act) (e1 : Env) (w1 : World), Rep N a1 e1 → (cnt listed = 0 → Below w.heap.size w w1) → (∀ j, memb (dsl l) j = false → e1 j = e j) →
        (∀ (i : Nat) (y : Yd) (o : Oper), listed.getD i false = true → ys[i]? = some y → l[i]? = some o → y.at_ (cnt listed) (phOf l ms i) (valOf o e1) w1) → (∀ i, i < l.length → listed.getD i false = true) → low N Q .normal a1 w1 := by
      intro listed a1 e1 w1 hr hb hag hS hall
      have hcnt : cnt listed = ms.length := by
        show ms.countP _ = ms.length
        rw [List.countP_eq_length]
        intro m hmm
        exact hall m (by simpa [Nat.blt_eq] using hml m hmm)
      obtain ⟨u, hu, hu2⟩ := endFrN_eq (e1 := e1) (e := e) l ys 0 hlen' h2 (fun k v o hy ho => .inl (hS k _ o (hall k (List.getElem?_eq_some_iff.1 ho).1) hy ho))
      refine ⟨e1, hr, ?_⟩
      have := hend u w1 (fun h0 => hb (by rw [hcnt, h0]; rfl)) (fun k p hk hph => by
        have hkl : k < l.length := by rw [hlen']; exact (List.getElem?_eq_some_iff.1 hk).1
        have h5 := hS k _ l[k] (hall k hkl) hk (List.getElem?_eq_getElem hkl)
        have h6 := hu2 k l[k] (List.getElem?_eq_getElem hkl)
        rw [Nat.zero_add] at h6
        rw [h6]; exact h5 (by rw [hcnt, hph]))
      rw [hu, mix_eq hag] at this
      exact this
    have hready : ∀ (listed : Array Bool), listed.size = l.length → Region.ready .any l.toArray listed = [] → ∀ i, i < l.length → listed.getD i false = true := by
      intro listed hsz hnil i
      induction i using Nat.strongRecOn with
      | _ i ih =>
        intro hi
        cases hli : listed.getD i false with
        | true => rfl
        | false =>
          exfalso
          have : i ∈ Region.ready .any l.toArray listed := by
            rw [mem_ready]
            refine ⟨?_, l[i], by simp [hi], fun ed hed hbd => ih ed.on (hback i _ (List.getElem?_eq_getElem hi) ed (mem_aft.2 ⟨hed, hbd⟩)) (by have := hback i _ (List.getElem?_eq_getElem hi) ed (mem_aft.2 ⟨hed, hbd⟩); omega)⟩
            rw [Array.getD_eq_getD_getElem?, Array.getElem?_eq_getElem (by omega)] at hli ⊢
            exact hli
          rw [hnil] at this
          cases this
    intro fuel
    induction fuel with
    | zero =>
      intro listed a1 e1 w1 hr hb hag hsz hS hcl hun0 hcnt
      have hall : ∀ i, i < l.length → listed.getD i false = true := by
        have h4 : (List.range l.length).countP (fun i => listed.getD i false) = (List.range l.length).length := by
          have := List.countP_le_length (p := fun i => listed.getD i false) (l := List.range l.length)
          simp at this hcnt ⊢; omega
        rw [List.countP_eq_length] at h4
        intro i hi
        exact h4 i (by simpa using hi)
      refine ⟨?_, hfin listed a1 e1 w1 hr hb hag hS hall⟩
      rw [List.eq_nil_iff_forall_not_mem]
      intro i hi
      obtain ⟨h5, o, ho, _⟩ := mem_ready.1 hi
      have hil : i < l.length := by
        rcases Nat.lt_or_ge i l.length with h | h
        · exact h
        · simp [List.getElem?_eq_none h] at ho
      have h6 := hall i hil
      rw [Array.getD_eq_getD_getElem?, Array.getElem?_eq_getElem (by omega)] at h5 h6
      simp at h5 h6
      rw [h5] at h6; cases h6
    | succ fuel ih =>
      intro listed a1 e1 w1 hr hb hag hsz hS hcl hun0 hcnt
      refine ⟨fun hnil => hfin listed a1 e1 w1 hr hb hag hS (hready listed hsz hnil), fun i hi => ?_⟩
      obtain ⟨hun, o, ho, haf⟩ := mem_ready.1 hi
      have ho' : l[i]? = some o := by simpa using ho
      have hil : i < l.length := (List.getElem?_eq_some_iff.1 ho').1
      have hrd : ∀ ed ∈ aft o, listed.getD ed.on false = true := fun ed hed => haf ed (mem_aft.1 hed).1 (mem_aft.1 hed).2
      have hun' : listed.getD i false = false := by
        have h5 := hun
        rw [Array.getD_eq_getD_getElem?, Array.getElem?_eq_getElem (by omega)] at h5 ⊢
        exact h5
      have hgs : ∀ k, (listed.setIfInBounds i true).getD k false = if k = i then true else listed.getD k false := by
        intro k
        rw [Array.getD_eq_getD_getElem?, Array.getElem?_setIfInBounds]
        by_cases hki : k = i
        · subst hki; rw [if_pos rfl, if_pos (by omega), if_pos rfl]; rfl
        · rw [if_neg (fun e => hki e.symm), if_neg hki, ← Array.getD_eq_getD_getElem?]
      have hlo : loOf l ms i ≤ cnt listed := countP_le_of fun m _ h => ancOf_ready hcl ho' hrd _ _ h
      have hhi : cnt listed ≤ hiOf l ms i := countP_le_of fun m _ h => by
        have hne : Nat.beq m i = false := by
          cases hb : Nat.beq m i with
          | false => rfl
          | true => rw [Nat.eq_of_beq_eq_true hb, hun'] at h; cases h
        have han : ancOf l l.length m i = false := by
          cases hb : ancOf l l.length m i with
          | false => rfl
          | true => have := ancOf_listed hcl _ _ _ hb h; rw [hun'] at this; cases this
        simp [hne, han]
      have hph : ∀ (j : Nat), listed.getD j false = true → phOf l ms j ≤ cnt listed := fun j hj => countP_le_of fun m _ h => by
        rw [Bool.or_eq_true] at h
        rcases h with h | h
        · rw [Nat.eq_of_beq_eq_true h]; exact hj
        · exact ancOf_listed hcl _ _ _ h hj
      have hst := hsteps.get i o ho' e1 w1 (cnt listed)
      rw [Nat.zero_add] at hst
      have hst := hst hlo hhi hb (fun j y o' han hy hoj => hS j y o' (ancOf_ready hcl ho' hrd _ _ han) hy hoj) (fun j o' hj han => by
        refine hun0 j o' ?_ hj
        cases hlj : listed.getD j false with
        | false => rfl
        | true => have := ancOf_listed hcl _ _ _ han hlj; rw [hun'] at this; cases this) (fun m y o' hm hch hphm hy hom => by
        refine hS m y o' ?_ hy hom
        cases hlm : listed.getD m false with
        | true => rfl
        | false =>
          exfalso
          have h8 := countP_one (fun k => listed.getD k false) (fun k => if k = m then true else listed.getD k false) m hlm (fun k => rfl) ms hmn (memb_iff.1 hm)
          have h9 : ms.countP (fun k => if k = m then true else listed.getD k false) ≤ phOf l ms m := countP_le_of fun m' hm' h => by
            by_cases e : m' = m
            · rw [e, Nat.beq_refl]; rfl
            · rw [if_neg e] at h
              simp only [chainAt, List.all_eq_true] at hch
              have h10 := hch m' hm'
              cases h11 : ancOf l l.length m m' with
              | true => rw [Bool.or_true]
              | false =>
                rw [h11, Bool.or_false, Bool.or_eq_true] at h10
                rcases h10 with h10 | h10
                · exact absurd (Nat.eq_of_beq_eq_true h10) e
                · have := ancOf_listed hcl _ _ _ h10 h
                  rw [hlm] at this; cases this
          have h12 : ms.countP (fun k => listed.getD k false) = cnt listed := rfl
          omega)
      rw [mix_eq hag, ext_of_mt (depFrN_mt (aft o) (fun ed hed v o' hy hoj => hS ed.on _ o' (hrd ed hed) hy hoj))] at hst
      let turns : Prop := memb ms i = true
      let KK : Env → World → Prop := fun e2 w2 => (memb ms i = false → Below w1.heap.size w1 w2) ∧ (ys.getD i (.pr fun _ _ => True)).holds (valOf o e2) w2 ∧ ∀ j, o.dst ≠ some j → e2 j = e1 j
      have hwl' : ∃ K : Env → World → Prop, (∀ e2 w2, K e2 w2 → KK e2 w2) ∧ Ops P N l.toArray K [o] e1 w1 := by
        cases hmi : memb ms i with
        | true =>
          rw [hmi] at hst
          exact ⟨_, fun e2 w2 h => ⟨fun h0 => (by rw [hmi] at h0; cases h0), h.1, h.2⟩, hst⟩
        | false =>
          rw [hmi] at hst
          exact ⟨_, fun e2 w2 h => ⟨fun _ => h.1, h.2.1, h.2.2⟩, hst⟩
      obtain ⟨K, hKK, hst'⟩ := hwl'
      have hwl := hst'.run a1 hr
      have hcnt' : cnt (listed.setIfInBounds i true) = if memb ms i = true then cnt listed + 1 else cnt listed := by
        show ms.countP _ = _
        by_cases hmi : memb ms i = true
        · rw [if_pos hmi]
          exact countP_one (fun m => listed.getD m false) (fun m => (listed.setIfInBounds i true).getD m false) i hun' hgs ms hmn (memb_iff.1 hmi)
        · rw [if_neg hmi]
          refine List.countP_congr fun m hmm => ?_
          rw [hgs, if_neg (fun e => hmi (memb_iff.2 (by rw [← e]; exact hmm)))]
      have hnext : ∀ a2 w2, (∃ e2, Rep N a2 e2 ∧ K e2 w2) → wpAny P .any l.toArray (low N Q) fuel (listed.setIfInBounds i true) a2 w2 := by
        intro a2 w2 ⟨e2, hr2, hK2⟩
        obtain ⟨hbl, hy2, hag2⟩ := hKK _ _ hK2
        have hother : ∀ (k : Nat) (o' : Oper), l[k]? = some o' → k ≠ i → valOf o' e2 = valOf o' e1 := by
          intro k o' hok hki
          unfold valOf
          cases hd : o'.dst with
          | none => rfl
          | some d => exact hag2 d (fun h => hki (filterMap_inj _ l h2 k i o' o d hok ho' hd h))
        refine ih _ a2 e2 w2 hr2 (fun h0 => ?_) (fun j hj => ?_) (by simpa using hsz) (fun k y o' hk hy hok => ?_) (fun k o' hk hok ed hed => ?_) (fun k o' hk hok => ?_) ?_
        · rw [hcnt'] at h0
          by_cases hmi : memb ms i = true
          · rw [if_pos hmi] at h0; omega
          · rw [if_neg hmi] at h0
            have := hbl (by simpa using hmi)
            exact (hb h0).trans (this.mono (hb h0).size)
        · have hne : o.dst ≠ some j := by
            intro hd
            have : memb (dsl l) j = true := by rw [memb_iff]; exact List.mem_filterMap.2 ⟨o, List.mem_of_getElem? ho', hd⟩
            rw [this] at hj; cases hj
          rw [hag2 j hne]; exact hag j hj
        · by_cases hki : k = i
          · subst hki
            rw [ho'] at hok
            cases hok
            have : ys.getD k (.pr fun _ _ => True) = y := by simp [List.getD_eq_getElem?_getD, hy]
            rw [this] at hy2
            cases y with
            | ex v => exact hy2
            | pr p => exact fun _ => hy2
          · have hk' : listed.getD k false = true := by rw [hgs, if_neg hki] at hk; exact hk
            have h7 := hS k y o' hk' hy hok
            rw [hother k o' hok hki]
            cases y with
            | ex v => exact h7
            | pr p =>
              intro hc
              rw [hcnt'] at hc
              by_cases hmi : memb ms i = true
              · rw [if_pos hmi] at hc
                have := hph k hk'
                omega
              · rw [if_neg hmi] at hc
                have hl := hlasts _ (List.mem_of_getElem? hy)
                exact hl _ _ _ (h7 hc) (hbl (by simpa using hmi))
        · rw [hgs]
          by_cases hei : ed.on = i
          · rw [if_pos hei]
          · rw [if_neg hei]
            by_cases hki : k = i
            · subst hki
              rw [ho'] at hok; cases hok
              exact hrd ed hed
            · rw [hgs, if_neg hki] at hk
              exact hcl k o' hk hok ed hed
        · rw [hgs] at hk
          by_cases hki : k = i
          · rw [if_pos hki] at hk; cases hk
          · rw [if_neg hki] at hk
            rw [hother k o' hok hki]
            exact hun0 k o' hk hok
        · have hcount : (List.range l.length).countP (fun k => (listed.setIfInBounds i true).getD k false) = (List.range l.length).countP (fun k => listed.getD k false) + 1 :=
            countP_one (fun k => listed.getD k false) (fun k => (listed.setIfInBounds i true).getD k false) i hun' hgs _ List.nodup_range (by simpa using hil)
          rw [hcount]; omega
      unfold wpOp
      rw [ho]
      unfold wpList at hwl
      show if _ then _ else _
      by_cases hw : Region.wanted o (yielded l.toArray a1.tmps) = true
      · rw [if_pos hw] at hwl ⊢
        rcases hwl with h5 | ⟨_, a0, w0, h5⟩
        · refine .inl (Oper.wp_conv h5 (fun a2 w2 hx => ?_) (fun x a w hx hq => hx hq.1))
          exact hnext a2 w2 hx.2
        · exact absurd h5.1 (by simp)
      · rw [if_neg hw] at hwl ⊢
        exact hnext _ _ hwl.2
  refine key l.length (Array.replicate l.length false) a e _ ha (fun _ => ⟨⟨rfl, rfl, rfl, Nat.le_refl _, fun _ _ => rfl⟩, fun _ => Nat.le_add_right _ _⟩) (fun _ _ => rfl) (by simp) (fun i y o hi => ?_) (fun i o hi => ?_) (fun _ _ _ _ => rfl) (by omega)
  · exfalso
    rw [Array.getD_eq_getD_getElem?, Array.getElem?_replicate] at hi
    split at hi <;> simp at hi
  · exfalso
    rw [Array.getD_eq_getD_getElem?, Array.getElem?_replicate] at hi
    split at hi <;> simp at hi
end
end Go.Proofs.Ytjpkmpihmilgoaa.Vc
/-
  Structs built, slices of structs, comparisons with nil, rows of a matrix turned. Conditions: as each rule names them.
-/
namespace Go.Proofs.Ytjpkmpihmilgoaa.Vc
open Go.RowKit
section
variable {P : Program} {N : Nat} {ops : Array Oper} {K : Env → World → Prop} {rest : List Oper} {e : Env} {w0 w w' : World} {ks : List Ck} {d : Nat} {ty : TypeId} {pos : String} {af : Array Edge}

theorem Ops.bld1 {t : TypeId} {f0 : Field} {z0 zf : Value} {b bf : Nat} [Und P t (.struct #[f0])] [Inf P t (.agg #[z0]) 1 b] {x0 : Operand} {v0 : Value} (hI : Inf P f0.type zf 1 bf) (ho : f0.offset = 0) (h0 : ev e x0 = v0) (c0 : v0.oneCell' = true) (hb : Nat.blt d N = true)
    (hK : Ops P N ops K rest (upd e d (.agg #[v0])) w) : Ops P N ops K (⟨some d, .build t #[(0, x0)], ty, pos, af, none⟩ :: rest) e w := by
  obtain ⟨inf, hi, hz0, hs, hby⟩ := Inf.get P t
  obtain ⟨inf', hi', hz0', hs', hby'⟩ := hI.get P f0.type
  have e0 : v0.cells = #[v0] := by cases v0 <;> simp [Value.oneCell'] at c0 <;> rfl
  have ez : (Value.agg #[z0]).cells = #[z0] := rfl
  refine .val (w' := w) ?_ hb hK
  simp [execOp, Instr.build, run_underlying (Und.out (P := P) (t := t)), sizeOf, typeInfo, zeroValue, hi, hz0, hi', hs', ho, h0, e0, ez, Instr.fill]

theorem Ops.maxI {x y : Operand} {t t' : TypeId} {i j : Int} (hx : ev e x = .int .i64 i) (hy : ev e y = .int .i64 j) (hb : Nat.blt d N = true) (hK : Ops P N ops K rest (upd e d (.int .i64 (max i j))) w) :
    Ops P N ops K (⟨some d, .call ⟨.builtin .max, #[x, y], #[t, t']⟩, ty, pos, af, none⟩ :: rest) e w := by
  have hm : (if i < j then j else i) = max i j := by split <;> omega
  refine .val (w' := w) ?_ hb hK
  simp [execOp, resolve, invoke, builtin, hx, hy, Builtin.max_, Builtin.max2, hm]

theorem Ops.eqNil {t t' el : TypeId} [Und P t (.slice el)] {x y : Operand} {A : Option Addr} {n c : Nat} (hx : ev e x = .slice A n c) (hy : ev e y = .slice none 0 0) (hb : Nat.blt d N = true) (hK : Ops P N ops K rest (upd e d (.bool A.isNone)) w) :
    Ops P N ops K (⟨some d, .binOp .eql t x y t', ty, pos, af, none⟩ :: rest) e w := by
  have hr : (Op.equal t (.slice A n c) (.slice none 0 0)).run P w = .ok A.isNone w := by
    show (Op.equalIn (9999 + 1) t (.slice A n c) (.slice none 0 0)).run P w = _
    rw [Op.equalIn]
    cases A <;> simp [run_underlying (Und.out (P := P) (t := t))]
  exact .val (by simp [execOp, hx, hy, eqGuard, binOp, hr]) hb hK
end

/-! a row of a matrix of one's own -/
theorem rowsCk_set {t : TypeId} : ∀ {rs : List SlV} {xss : List (List Int)} {i : Nat} {xs : List Int}, rs.length = xss.length → i < rs.length → (rowsCk t rs xss).set i (CkI t (rs.getD i slNil).a (rs.getD i slNil).n (rs.getD i slNil).c xs) = rowsCk t rs (xss.set i xs)
  | [], _, _, _, _, h => by simp at h
  | r :: rs, [], _, _, h, _ => by simp at h
  | r :: rs, x :: xss, 0, xs, _, _ => rfl
  | r :: rs, x :: xss, i + 1, xs, h, hi => by
    have := rowsCk_set (t := t) (rs := rs) (xss := xss) (i := i) (xs := xs) (by simpa using h) (by simpa using hi)
    simpa [rowsCk] using this
theorem mat_get {t1 t2 : TypeId} {A : Option Addr} {n c : Nat} {rs : List SlV} {xss : List (List Int)} {pre ks : List Ck} {i : Nat} (hr : rs.length = xss.length) (hi : i < rs.length) :
    (pre ++ (mat t1 t2 A n c rs xss ++ ks))[pre.length + 1 + i]? = some (CkI t2 (rs.getD i slNil).a (rs.getD i slNil).n (rs.getD i slNil).c (xss.getD i [])) := by
  rw [List.getElem?_append_right (by omega), show pre.length + 1 + i - pre.length = i + 1 by omega, List.getElem?_append_left (by simp [mat, rowsCk_length hr]; omega)]
  simpa [mat] using rowsCk_get (t := t2) hr hi
theorem mat_set {t1 t2 : TypeId} {A : Option Addr} {n c : Nat} {rs : List SlV} {xss : List (List Int)} {pre ks : List Ck} {i : Nat} {xs : List Int} (hr : rs.length = xss.length) (hi : i < rs.length) :
    (pre ++ (mat t1 t2 A n c rs xss ++ ks)).set (pre.length + 1 + i) (CkI t2 (rs.getD i slNil).a (rs.getD i slNil).n (rs.getD i slNil).c xs) = pre ++ (mat t1 t2 A n c rs (xss.set i xs) ++ ks) := by
  rw [List.set_append_right _ _ (by omega), show pre.length + 1 + i - pre.length = i + 1 by omega, List.set_append_left _ _ (by simp [mat, rowsCk_length hr]; omega)]
  congr 2
  simp only [mat, List.set_cons_succ]
  rw [rowsCk_set hr hi]

section
variable {P : Program} {N : Nat} {ops : Array Oper} {K : Env → World → Prop} {rest : List Oper} {e : Env} {w0 w w' : World} {ks pre : List Ck} {ty : TypeId} {pos : String} {af : Array Edge}
/-- a store into row i of a matrix of one's own -/
theorem Ops.st_row {t t1 t2 : TypeId} {z : Value} {b : Nat} [Inf P t z 1 b] {a x : Operand} {A : Option Addr} {n c : Nat} {rs : List SlV} {xss : List (List Int)} (i : Nat) {f u : Int} (hS : St w0 w (pre ++ (mat t1 t2 A n c rs xss ++ ks))) (hr : rs.length = xss.length) (hi : i < rs.length) (ha : ev e a = .pointer (ptrAt (rg rs i).a f.toNat)) (hx : ev e x = .int .i64 u) (hj : f.toNat < (rg rs i).n)
    (hK : ∀ w', St w0 w' (pre ++ (mat t1 t2 A n c rs (xss.set i ((gl xss i).set f.toNat u)) ++ ks)) → Ops P N ops K rest e w') : Ops P N ops K (⟨none, .store t a x, ty, pos, af, none⟩ :: rest) e w :=
  .st_int (pre.length + 1 + i) hS (mat_get hr hi) ha hx hj fun w' h => hK w' (by
    have e1 : gl xss i = xss.getD i [] := by simp [gl]
    rw [e1, ← mat_set (pre := pre) (ks := ks) hr hi]; exact h)
end

/-- whole matrices, each told by its slice, its rows' slices, and its numbers -/
structure MatV where
  top : SlV
  rs : List SlV
  xss : List (List Int)
def MatV.ok (m : MatV) : Prop := m.xss.length = m.top.n
def MatV.cks (t1 t2 : TypeId) (m : MatV) : List Ck := mat t1 t2 m.top.a m.top.n m.top.c m.rs m.xss
def matsCk (t1 t2 : TypeId) (ms : List MatV) : List Ck := ms.flatMap (MatV.cks t1 t2)
end Go.Proofs.Ytjpkmpihmilgoaa.Vc
/-
  A call with two results of which the first lies in memory; a struct of one slice built of nothing. Conditions: as each rule names them.
-/
namespace Go.Proofs.Ytjpkmpihmilgoaa.Vc
open Go.RowKit
section
variable {P : Program} {N : Nat} {ops : Array Oper} {K : Env → World → Prop} {rest : List Oper} {e : Env} {w0 w w' : World} {ks : List Ck} {d : Nat} {ty : TypeId} {pos : String} {af : Array Edge}
def retc2 (a n u : Nat) (R : Value → World → Prop) : Post
  | .normal, e, w => ∃ A f, e a = .pointer A ∧ Rd w A n f ∧ R (.tuple #[.agg ((List.range n).map f).toArray, e u]) w
  | .ret, e, w => ∃ A f, e a = .pointer A ∧ Rd w A n f ∧ R (.tuple #[.agg ((List.range n).map f).toArray, e u]) w
  | _, _, _ => False
theorem retc2_r {a n u : Nat} {R : Value → World → Prop} {A : Option Addr} {f : Nat → Value} {v : Value} (h : e a = .pointer A) (hR : Rd w A n f) (hv : e u = v) (h2 : R (.tuple #[.agg ((List.range n).map f).toArray, v]) w) : retc2 a n u R .ret e w := ⟨A, f, h, hR, by rw [hv]; exact h2⟩
theorem postc2 {fn : Func} {R : Value → World → Prop} {a t n b u : Nat} {fs : Array Field} {z : Value} [Und P t (.struct fs)] [Inf P t z n b] (hr : fn.results = #[.cell a t, .tmp u]) (hn' : Nat.blt 0 n = true) : ∀ x a1 e w, Rep N a1 e → retc2 a n u R x e w → bodyPost P fn (fun x w' => ∃ v, x = .returned v ∧ R v w') x a1 w := by
  intro x a1 e w he q
  have hn : 0 < n := by simpa [Nat.blt_eq] using hn'
  have hg := he.get a
  have hh := he.get u
  have key : ∀ (A : Option Addr) (f : Nat → Value), e a = .pointer A → Rd w A n f → (results fn a1.tmps).run P w = .ok (.tuple #[.agg ((List.range n).map f).toArray, e u]) w := by
    intro A f hA hR
    obtain ⟨q, rfl, hl⟩ := run_loadAgg (P := P) (t := t) hn hR
    rw [Array.getD_eq_getD_getElem?] at hg hh
    simp [results, hr, hg, hh, hA, asAddr, hl]
  cases x <;> first
    | exact q.elim
    | (obtain ⟨A, f, hA, hR, h2⟩ := q
       exact ⟨he.defers, _, key A f hA hR, _, rfl, h2⟩)
end
end Go.Proofs.Ytjpkmpihmilgoaa.Vc
/-
  Plain mathematics of rooted forms: a tree of partial moves, and two ways of cutting it that keep the same leaves. Conditions: as each states them. No program in sight.
-/
namespace Go.Proofs.Ytjpkmpihmilgoaa.Vc

def cell (M : List (List Int)) (i : Nat) (f : Int) : Int := gi (gl M i) f
def setc (M : List (List Int)) (i f : Nat) (v : Int) : List (List Int) := M.set i ((gl M i).set f v)
def put (M : List (List Int)) (i f g : Nat) : List (List Int) := setc (setc M i f g) i g f
def Shp (n F : Nat) (M : List (List Int)) : Prop := M.length = n ∧ ∀ p ∈ M, p.length = F

section
variable {n F : Nat} {M : List (List Int)}
theorem Shp.row (h : Shp n F M) {i : Nat} (hi : i < n) : (gl M i).length = F := h.2 _ (by rw [gl_mem (by rw [h.1]; exact hi)]; exact List.getElem_mem _)
theorem gl_set {i k : Nat} {p : List Int} (hi : i < M.length) : gl (M.set i p) k = if i = k then p else gl M k := by
  simp only [gl, Int.toNat_natCast, List.getD_eq_getElem?_getD, List.getElem?_set]
  by_cases e : i = k
  · subst e; simp [hi]
  · simp [e]
theorem Shp.setc (h : Shp n F M) {i : Nat} (hi : i < n) (f : Nat) (v : Int) : Shp n F (setc M i f v) := by
  refine ⟨by simp [Vc.setc, h.1], fun p hp => ?_⟩
  rcases List.mem_or_eq_of_mem_set hp with hp | rfl
  · exact h.2 p hp
  · simpa using h.row hi
theorem cell_setc (h : Shp n F M) {i : Nat} (hi : i < n) {f : Nat} (hf : f < F) {v : Int} {k : Nat} {x : Int} (hx : 0 ≤ x) : cell (setc M i f v) k x = if i = k ∧ (f : Int) = x then v else cell M k x := by
  simp only [cell, setc]
  rw [gl_set (by rw [h.1]; exact hi)]
  by_cases e : i = k
  · subst e
    rw [if_pos rfl]
    have := gi_set (S := gl M i) (x := (f : Int)) (y := x) (b := v) (by omega) (by rw [h.row hi]; omega) hx
    rw [Int.toNat_natCast] at this
    rw [this]
    by_cases e2 : (f : Int) = x <;> simp [e2]
  · simp [e]
theorem cell_put (h : Shp n F M) {i : Nat} (hi : i < n) {f g : Nat} (hf : f < F) (hg : g < F) {k : Nat} {x : Int} (hx : 0 ≤ x) : cell (put M i f g) k x = if i = k ∧ (g : Int) = x then (f : Int) else if i = k ∧ (f : Int) = x then (g : Int) else cell M k x := by
  rw [put, cell_setc (h.setc hi f g) hi hg hx, cell_setc h hi hf hx]
theorem Shp.put (h : Shp n F M) {i : Nat} (hi : i < n) (f g : Nat) : Shp n F (put M i f g) := (h.setc hi f g).setc hi g f
end

inductive Con (n : Nat) (M : List (List Int)) : Int → Prop where
  | zero : Con n M 0
  | step {y : Int} {i : Nat} : Con n M y → i < n → 0 ≤ y → 0 ≤ cell M i y → Con n M (cell M i y)

def Ext (n F : Nat) (M L : List (List Int)) : Prop := ∀ (i : Nat) (f : Int), i < n → 0 ≤ f → f < F → 0 ≤ cell M i f → cell L i f = cell M i f
theorem Ext.refl (n F : Nat) (M : List (List Int)) : Ext n F M M := fun _ _ _ _ _ _ => rfl
theorem Ext.trans {n F : Nat} {M L K : List (List Int)} (h : Ext n F M L) (h' : Ext n F L K) : Ext n F M K := fun i f hi h0 h1 h2 => by
  have e := h i f hi h0 h1 h2
  rw [h' i f hi h0 h1 (by rw [e]; exact h2), e]
theorem Ext.put {n F : Nat} {M : List (List Int)} (h : Shp n F M) {i f g : Nat} (hi : i < n) (hf : f < F) (hg : g < F) (h1 : cell M i f < 0) (h2 : cell M i g < 0) : Ext n F M (put M i f g) := fun k x hk h0 hx hc => by
  rw [cell_put h hi hf hg h0]
  split
  · rename_i e; obtain ⟨rfl, rfl⟩ := e; omega
  · split
    · rename_i e; obtain ⟨rfl, rfl⟩ := e; omega
    · rfl

structure Inv (n F : Nat) (M : List (List Int)) (met at_ : Nat) : Prop where
  shp : Shp n F M
  n0 : 0 < n
  met1 : 1 ≤ met
  metF : met ≤ F
  cells : ∀ (i : Nat) (f : Int), i < n → 0 ≤ f → f < F → cell M i f = -1 ∨ (0 ≤ cell M i f ∧ cell M i f < met ∧ f < met ∧ cell M i (cell M i f) = f ∧ cell M i f ≠ f)
  known : ∀ a : Nat, a < at_ → 0 ≤ cell M (a % n) (a / n : Nat)
  con : ∀ f : Nat, f < met → Con n M f
  le : at_ ≤ met * n

section
variable {n F : Nat} {M : List (List Int)} {met at_ : Nat}
theorem Inv.pos (h : Inv n F M met at_) (ha : at_ ≠ met * n) : at_ % n < n ∧ at_ / n < met := by
  have := h.le
  have hn := h.n0
  exact ⟨Nat.mod_lt _ hn, Nat.div_lt_of_lt_mul (by rw [Nat.mul_comm]; omega)⟩
theorem Inv.next (h : Inv n F M met at_) (ha : at_ ≠ met * n) (hk : 0 ≤ cell M (at_ % n) (at_ / n : Nat)) : Inv n F M met (at_ + 1) :=
  ⟨h.shp, h.n0, h.met1, h.metF, h.cells, fun a hlt => by
    by_cases e : a = at_
    · subst e; exact hk
    · exact h.known a (by omega), h.con, by have := h.le; omega⟩
theorem Con.ext {L : List (List Int)} (hM : ∀ (i : Nat) (f : Int), i < n → 0 ≤ f → 0 ≤ cell M i f → cell L i f = cell M i f) {x : Int} (h : Con n M x) : Con n L x := by
  induction h with
  | zero => exact .zero
  | @step y i hy hi h0 hc ih =>
    have e := hM i y hi h0 hc
    rw [← e]
    exact .step ih hi h0 (by rw [e]; exact hc)
theorem Inv.put {g : Nat} (h : Inv n F M met at_) (ha : at_ ≠ met * n) (hk : ¬ 0 ≤ cell M (at_ % n) (at_ / n : Nat)) (h1 : at_ / n < g) (h2 : g ≤ met) (h3 : g < F) (hg : ¬ 0 ≤ cell M (at_ % n) g) :
    Inv n F (put M (at_ % n) (at_ / n) g) (max met (g + 1)) (at_ + 1) := by
  obtain ⟨hi, hf⟩ := h.pos ha
  have hback : ∀ a, a < at_ → 0 ≤ cell M (a % n) (a / n : Nat) := h.known
  have hself : ∀ a, a = at_ → a % n = at_ % n ∧ a / n = at_ / n := fun a e => by subst e; exact ⟨rfl, rfl⟩
  generalize at_ / n = q at *
  generalize at_ % n = r at *
  have hfF : q < F := by have := h.metF; omega
  have hc : ∀ (k : Nat) (x : Int), 0 ≤ x → cell (Vc.put M r q g) k x = if r = k ∧ (g : Int) = x then ((q : Nat) : Int) else if r = k ∧ ((q : Nat) : Int) = x then (g : Int) else cell M k x := fun k x hx => cell_put h.shp hi hfF h3 hx
  have ext : ∀ (k : Nat) (x : Int), k < n → 0 ≤ x → 0 ≤ cell M k x → cell (Vc.put M r q g) k x = cell M k x := fun k x _ hx hcx => by
    rw [hc k x hx]
    split
    · rename_i e; obtain ⟨rfl, rfl⟩ := e; omega
    · split
      · rename_i e; obtain ⟨rfl, rfl⟩ := e; omega
      · rfl
  refine ⟨h.shp.put hi _ _, h.n0, by have := h.met1; omega, by have := h.metF; omega, fun k x hk hx hxF => ?_, fun a hlt => ?_, fun x hx => ?_, ?_⟩
  · rw [hc k x hx]
    split
    · rename_i e
      obtain ⟨rfl, rfl⟩ := e
      refine .inr ⟨by omega, by omega, by omega, ?_, by omega⟩
      rw [hc _ _ (by omega), if_neg (by omega), if_pos ⟨rfl, rfl⟩]
    · rename_i e1
      split
      · rename_i e
        obtain ⟨rfl, rfl⟩ := e
        refine .inr ⟨by omega, by omega, by omega, ?_, by omega⟩
        rw [hc _ _ (by omega), if_pos ⟨rfl, rfl⟩]
      · rename_i e2
        rcases h.cells k x hk hx hxF with h4 | ⟨h4, h5, h6, h7, h8⟩
        · exact .inl h4
        · refine .inr ⟨h4, by omega, by omega, ?_, h8⟩
          rw [ext k _ hk h4 (by rw [h7]; exact hx), h7]
  · by_cases e : a = at_
    · rw [(hself a e).1, (hself a e).2, hc _ _ (by omega)]
      split
      · omega
      · rw [if_pos ⟨rfl, rfl⟩]; omega
    · have := hback a (by omega)
      rw [ext _ _ (Nat.mod_lt _ h.n0) (Int.natCast_nonneg _) this]; exact this
  · by_cases hlt : x < met
    · exact (h.con x hlt).ext (fun k y hk h0 hcy => ext k y hk h0 hcy)
    · have hxg : x = g := by omega
      subst hxg
      have h0 := (h.con _ hf).ext (L := Vc.put M r q x) (fun k y hk h0 hcy => ext k y hk h0 hcy)
      have e : cell (Vc.put M r q x) r ((q : Nat) : Int) = (x : Int) := by rw [hc _ _ (by omega), if_neg (by omega), if_pos ⟨rfl, rfl⟩]
      have := Con.step h0 hi (by omega) (by rw [e]; omega)
      rw [e] at this; exact this
  · have := h.le
    have h5 : met * n ≤ (max met (g + 1)) * n := Nat.mul_le_mul_right n (by omega)
    omega

/-- the tree: 'ok' cuts, 'fin' judges the whole -/
def grow (n F : Nat) (ok : List (List Int) → Nat → Nat → Bool) (fin : List (List Int) → Bool) : Nat → Nat → Nat → List (List Int) → List (List (List Int))
  | 0, _, _, _ => []
  | k + 1, at_, met, M =>
    if at_ = met * n then (if met = F ∧ fin M = true then [M] else [])
    else if 0 ≤ cell M (at_ % n) (at_ / n : Nat) then grow n F ok fin k (at_ + 1) met M
    else (List.range' (at_ / n + 1) (min met (F - 1) - at_ / n)).flatMap fun g =>
      if 0 ≤ cell M (at_ % n) (g : Nat) then [] else if ok (put M (at_ % n) (at_ / n) g) (at_ % n) (at_ / n) = true then grow n F ok fin k (at_ + 1) (max met (g + 1)) (put M (at_ % n) (at_ / n) g) else []

theorem range_mem (h : Inv n F M met at_) (ha : at_ ≠ met * n) {g : Nat} (hg : g ∈ List.range' (at_ / n + 1) (min met (F - 1) - at_ / n)) : at_ / n < g ∧ g ≤ met ∧ g < F := by
  rw [List.mem_range'_1] at hg
  have := (h.pos ha).2
  have := h.met1
  have := h.metF
  omega
end

theorem grow_leaf {n F : Nat} {ok : List (List Int) → Nat → Nat → Bool} {fin : List (List Int) → Bool} : ∀ (k at_ met : Nat) (M : List (List Int)), Inv n F M met at_ → ∀ L ∈ grow n F ok fin k at_ met M, Ext n F M L ∧ Inv n F L F (F * n)
  | 0, _, _, _, _, L, hL => by simp [grow] at hL
  | k + 1, at_, met, M, h, L, hL => by
    simp only [grow] at hL
    split at hL
    · rename_i ha
      split at hL
      · rename_i hm
        simp at hL; subst hL
        refine ⟨Ext.refl _ _ _, ?_⟩
        have h1 := hm.1
        subst h1
        rw [← ha]; exact h
      · simp at hL
    · rename_i ha
      split at hL
      · rename_i hk
        exact grow_leaf k _ _ _ (h.next ha hk) L hL
      · rename_i hk
        rw [List.mem_flatMap] at hL
        obtain ⟨g, hg, hL⟩ := hL
        have hr := range_mem h ha hg
        split at hL
        · simp at hL
        · rename_i hgc
          split at hL
          · have h1 := h.put ha hk hr.1 hr.2.1 hr.2.2 hgc
            have hp := h.pos ha
            have h2 := grow_leaf k _ _ _ h1 L hL
            exact ⟨(Ext.put h.shp hp.1 (by have := h.metF; omega) hr.2.2 (by omega) (by omega)).trans h2.1, h2.2⟩
          · simp at hL

theorem filter_flatMap' {α β : Type} (p : β → Bool) (f : α → List β) : ∀ (l : List α), (l.flatMap f).filter p = l.flatMap fun a => (f a).filter p
  | [] => rfl
  | a :: l => by simp [List.filter_append, filter_flatMap' p f l]

/-! what is asked of partial moves -/
def kn (M : List (List Int)) (i : Nat) (x : Int) : Int := if x < 0 then -1 else cell M i x
/-- at one flag, all pairs of moves that commute -/
def FitsP (M : List (List Int)) (i k : Nat) (f : Int) : Prop := (0 ≤ cell M i f → cell M i f ≠ cell M k f) ∧ (0 ≤ kn M k (cell M i f) → 0 ≤ kn M i (cell M k f) → kn M k (cell M i f) = kn M i (cell M k f))
instance (M : List (List Int)) (i k : Nat) (f : Int) : Decidable (FitsP M i k f) := by unfold FitsP; exact inferInstance
def FitsAll (M : List (List Int)) (f : Int) : Prop := ∀ i, i < M.length → ∀ k, k < M.length → i + 2 ≤ k → FitsP M i k f
instance (M : List (List Int)) (f : Int) : Decidable (FitsAll M f) := by unfold FitsAll; exact inferInstance
def okS (F : Nat) (M : List (List Int)) (_ _ : Nat) : Bool := decide (∀ e, e < F → FitsAll M (e : Nat))
/-- at one place, the moves that commute with one -/
def BadP (M : List (List Int)) (i k : Nat) (f g : Int) : Prop := cell M k f = g ∨ (0 ≤ cell M k f ∧ 0 ≤ cell M k g ∧ 0 ≤ cell M i (cell M k f) ∧ cell M i (cell M k f) ≠ cell M k g) ∨ (0 ≤ cell M k f ∧ 0 ≤ cell M k g ∧ 0 ≤ cell M i (cell M k g) ∧ cell M i (cell M k g) ≠ cell M k f)
instance (M : List (List Int)) (i k : Nat) (f g : Int) : Decidable (BadP M i k f g) := by unfold BadP; exact inferInstance
def okI (M : List (List Int)) (i f : Nat) : Bool := decide (∀ k, k < M.length → ¬ (-1 ≤ (k : Int) - i ∧ (k : Int) - i ≤ 1) → ¬ BadP M i k f (cell M i f))
end Go.Proofs.Ytjpkmpihmilgoaa.Vc
