/-
  The walks of the smallest functions. Conditions: as each states them.
-/
import Derived.Test.YtpdhjnacnmfbjaaMop
import Derived.Test.YtpdhjnacnmfbjaaInst
namespace Go.Proofs.Ytpdhjnacnmfbjaa.Vc
open Go.RowKit

theorem l01In_c (n lo hi : Int) (w : World) : Ret Try.prog 86 [.int .i64 n, .int .i64 lo, .int .i64 hi] w (fun v w' => v = .bool (decide (lo ≤ n ∧ n ≤ hi)) ∧ w' = w) := by
  refine Ret.of_cd Try.func86 rfl Try.ntmps86 rfl (post1 rfl) ?_
  refine Cd.seq ?_
  refine Cd.region ?_
  refine Ops.mv_bool rfl rfl rfl ?_
  refine Ops.nil ?_
  refine thenQ_n ?_
  refine Cd.seq ?_
  refine Cd.region ?_
  refine Ops.mv_int rfl rfl rfl ?_
  refine Ops.mv_int rfl rfl rfl ?_
  refine Ops.geq rfl rfl rfl ?_
  refine Ops.mv_bool rfl rfl rfl ?_
  -- stop: guard 10
  refine Ops.split_p 10 rfl (fun h => ?_) (fun h => ?_)
  · refine Ops.rung rfl rfl rfl ?_
    refine Ops.mv_int rfl rfl rfl ?_
    refine Ops.rung rfl rfl rfl ?_
    refine Ops.mv_int rfl rfl rfl ?_
    refine Ops.rung rfl rfl rfl ?_
    refine Ops.leq rfl rfl rfl ?_
    refine Ops.pick_t rfl rfl rfl ?_
    refine Ops.mv_bool rfl rfl rfl ?_
    refine Ops.nil ?_
    refine thenQ_n ?_
    refine Cd.ret ?_
    refine ret1_b rfl ?_
    -- stop: end
    exact ⟨by simp [h], rfl⟩
  · refine Ops.skipg rfl rfl rfl rfl rfl ?_
    refine Ops.skipg rfl rfl rfl rfl rfl ?_
    refine Ops.skipg rfl rfl rfl rfl rfl ?_
    refine Ops.pick_f rfl rfl rfl ?_
    refine Ops.mv_bool rfl rfl rfl ?_
    refine Ops.nil ?_
    refine thenQ_n ?_
    refine Cd.ret ?_
    refine ret1_b rfl ?_
    -- stop: end
    exact ⟨by simp [h], rfl⟩

theorem within_c (n lo hi : Int) (w : World) : Ret Try.prog 88 [.int .i64 n, .int .i64 lo, .int .i64 hi] w (fun v w' => v = .bool (decide (lo ≤ n ∧ n ≤ hi)) ∧ w' = w) := by
  refine Ret.of_cd Try.func88 rfl Try.ntmps88 rfl (post1 rfl) ?_
  refine Cd.seq ?_
  refine Cd.region ?_
  refine Ops.mv_bool rfl rfl rfl ?_
  refine Ops.nil ?_
  refine thenQ_n ?_
  refine Cd.seq ?_
  refine Cd.region ?_
  refine Ops.mv_int rfl rfl rfl ?_
  refine Ops.mv_int rfl rfl rfl ?_
  refine Ops.geq rfl rfl rfl ?_
  refine Ops.mv_bool rfl rfl rfl ?_
  -- stop: guard 10
  refine Ops.split_p 10 rfl (fun h => ?_) (fun h => ?_)
  · refine Ops.rung rfl rfl rfl ?_
    refine Ops.mv_int rfl rfl rfl ?_
    refine Ops.rung rfl rfl rfl ?_
    refine Ops.mv_int rfl rfl rfl ?_
    refine Ops.rung rfl rfl rfl ?_
    refine Ops.leq rfl rfl rfl ?_
    refine Ops.pick_t rfl rfl rfl ?_
    refine Ops.mv_bool rfl rfl rfl ?_
    refine Ops.nil ?_
    refine thenQ_n ?_
    refine Cd.ret ?_
    refine ret1_b rfl ?_
    -- stop: end
    exact ⟨by simp [h], rfl⟩
  · refine Ops.skipg rfl rfl rfl rfl rfl ?_
    refine Ops.skipg rfl rfl rfl rfl rfl ?_
    refine Ops.skipg rfl rfl rfl rfl rfl ?_
    refine Ops.pick_f rfl rfl rfl ?_
    refine Ops.mv_bool rfl rfl rfl ?_
    refine Ops.nil ?_
    refine thenQ_n ?_
    refine Cd.ret ?_
    refine ret1_b rfl ?_
    -- stop: end
    exact ⟨by simp [h], rfl⟩

def IsPerm (p : List Int) : Prop := p.length ≤ 400 ∧ (∀ x ∈ p, 0 ≤ x ∧ x < p.length) ∧ p.Nodup
instance (p : List Int) : Decidable (IsPerm p) := by unfold IsPerm; exact inferInstance

/-- the places that k elements have marked -/
def Seen (p : List Int) (k : Nat) (S : List Bool) : Prop :=
  S.length = p.length ∧ (∀ x ∈ p.take k, 0 ≤ x ∧ x < p.length) ∧ (p.take k).Nodup ∧ ∀ x : Int, 0 ≤ x → x < p.length → (gb S x = true ↔ x ∈ p.take k)

theorem gi_mem {p : List Int} {k : Nat} (h : k < p.length) : gi p k = p[k] := by simp [gi, List.getD_eq_getElem?_getD, List.getElem?_eq_getElem h]
theorem take_succ_gi {p : List Int} {k : Nat} (h : k < p.length) : p.take (k + 1) = p.take k ++ [gi p k] := by rw [gi_mem h, List.take_succ_eq_append_getElem h]
theorem gb_set {S : List Bool} {x y : Int} {b : Bool} (hx : 0 ≤ x) (hx' : x < S.length) (hy : 0 ≤ y) : gb (S.set x.toNat b) y = if x = y then b else gb S y := by
  simp only [gb, List.getD_eq_getElem?_getD, List.getElem?_set]
  by_cases e : x = y
  · subst e; rw [if_pos rfl, if_pos rfl, if_pos (by omega)]; rfl
  · rw [if_neg (by omega), if_neg e]
theorem gi_set {S : List Int} {x y : Int} {b : Int} (hx : 0 ≤ x) (hx' : x < S.length) (hy : 0 ≤ y) : gi (S.set x.toNat b) y = if x = y then b else gi S y := by
  simp only [gi, List.getD_eq_getElem?_getD, List.getElem?_set]
  by_cases e : x = y
  · subst e; rw [if_pos rfl, if_pos rfl, if_pos (by omega)]; rfl
  · rw [if_neg (by omega), if_neg e]

theorem Seen.zero (p : List Int) : Seen p 0 (List.replicate p.length false) := ⟨by simp, by simp, by simp, fun x h0 h1 => by
  simp [gb, List.getD_eq_getElem?_getD, List.getElem?_replicate]; split <;> simp⟩
theorem Seen.bad {p : List Int} {k : Nat} {S : List Bool} (h : Seen p k S) (hk : k < p.length) (hb : ¬ (0 ≤ gi p k ∧ gi p k ≤ p.length - 1)) : ¬ IsPerm p := fun hp => by
  have := hp.2.1 (gi p k) (by rw [gi_mem hk]; exact List.getElem_mem hk)
  omega
theorem Seen.twice {p : List Int} {k : Nat} {S : List Bool} (h : Seen p k S) (hk : k < p.length) (h0 : 0 ≤ gi p k ∧ gi p k ≤ p.length - 1) (hb : gb S (gi p k) = true) : ¬ IsPerm p := fun hp => by
  have h1 := (h.2.2.2 (gi p k) h0.1 (by omega)).1 hb
  have h2 : (p.take (k + 1)).Nodup := hp.2.2.sublist (List.take_sublist _ _)
  rw [take_succ_gi hk, List.nodup_append] at h2
  exact h2.2.2 _ h1 _ (by simp) rfl
theorem Seen.step {p : List Int} {k : Nat} {S : List Bool} (h : Seen p k S) (hk : k < p.length) (h0 : 0 ≤ gi p k ∧ gi p k ≤ p.length - 1) (hb : gb S (gi p k) = false) : Seen p (k + 1) (S.set (gi p k).toNat true) := by
  obtain ⟨h1, h2, h3, h4⟩ := h
  have h5 : ¬ gi p k ∈ p.take k := fun hm => by have := (h4 _ h0.1 (by omega)).2 hm; rw [hb] at this; cases this
  refine ⟨by simpa using h1, ?_, ?_, fun x hx hx' => ?_⟩
  · rw [take_succ_gi hk]
    intro x hx
    rcases List.mem_append.1 hx with hx | hx
    · exact h2 x hx
    · simp at hx; subst hx; omega
  · rw [take_succ_gi hk, List.nodup_append]
    refine ⟨h3, by simp, fun a ha b hb' => ?_⟩
    simp at hb'
    subst hb'
    intro e
    subst e
    exact h5 ha
  · rw [gb_set h0.1 (by omega) hx, take_succ_gi hk, List.mem_append]
    by_cases e : gi p k = x
    · simp [e]
    · rw [if_neg e, h4 x hx hx']
      simp
      intro h; exact absurd h.symm e
theorem Seen.done {p : List Int} {k : Nat} {S : List Bool} (h : Seen p k S) (hk : ¬ k < p.length) (hl : p.length ≤ 400) : IsPerm p := by
  obtain ⟨h1, h2, h3, h4⟩ := h
  rw [List.take_of_length_le (by omega)] at h2 h3
  exact ⟨hl, h2, h3⟩

theorem l01Perm_c (A : Option Addr) (n c : Nat) (p : List Int) (w : World) (hR : RdI w A n p) : Ret Try.prog 91 [.slice A n c] w (fun v w' => v = .bool (decide (IsPerm p)) ∧ St w w' []) := by
  have hl := hR.1
  subst hl
  refine Ret.of_cd Try.func91 rfl Try.ntmps91 rfl (post1 rfl) ?_
  refine Cd.seq ?_
  refine Cd.region ?_
  refine Ops.mv_bool rfl rfl rfl ?_
  refine Ops.nil ?_
  refine thenQ_n ?_
  refine Cd.seq ?_
  refine Cd.seq ?_
  refine Cd.region ?_
  refine Ops.mv_sl rfl rfl rfl ?_
  refine Ops.len rfl rfl ?_
  refine Ops.gtr rfl rfl rfl ?_
  refine Ops.nil ?_
  refine thenQ_n ?_
  -- stop: cond
  refine Cd.cond_p _ rfl (fun h => ?_) (fun h => ?_)
  · refine Cd.seq ?_
    refine Cd.region ?_
    refine Ops.mv_bool rfl rfl rfl ?_
    refine Ops.nil ?_
    refine thenQ_n ?_
    refine Cd.ret ?_
    refine thenQ_r ?_
    refine ret1_b rfl ?_
    -- stop: end
    exact ⟨by rw [decide_eq_false (fun hp : IsPerm p => by have := hp.1; omega)], St.refl _⟩
  refine Cd.skip ?_
  refine thenQ_n ?_
  refine Cd.seq ?_
  refine Cd.region ?_
  refine Ops.mv_sl rfl rfl rfl ?_
  refine Ops.len rfl rfl ?_
  -- stop: MAKESLICE 86 t9 t9 -> 10
  refine Ops.mkB p.length (St.refl w) rfl rfl (by omega) ?_
  intro A1 w1 hS1
  refine Ops.mv_sl rfl rfl rfl ?_
  refine Ops.nil ?_
  refine thenQ_n ?_
  refine Cd.seq ?_
  refine Cd.seq ?_
  refine Cd.region ?_
  refine Ops.mv_int rfl rfl rfl ?_
  refine Ops.nil ?_
  refine thenQ_n ?_
  refine Cd.block ?_
  -- stop: loop
  refine Cd.loop (α := Nat × List Bool) (fun s => [(0, .slice A p.length c), (3, .slice A1 p.length p.length), (4, .int .i64 (s.1 : Int))]) (fun s w' => St w w' [CkB 4 A1 p.length p.length s.2] ∧ s.1 ≤ p.length ∧ Seen p s.1 s.2) (fun s => p.length - s.1) (0, List.replicate p.length false) ⟨rfl, rfl, rfl, trivial⟩ ⟨hS1, Nat.zero_le _, Seen.zero p⟩ ?_
  rintro ⟨k, S⟩ e w2 ⟨hS2, hk, hI⟩
  dsimp only at hS2 hk hI ⊢
  refine Cd.seq ?_
  refine Cd.seq ?_
  refine Cd.region ?_
  refine Ops.mv_int rfl rfl rfl ?_
  refine Ops.mv_sl rfl rfl rfl ?_
  refine Ops.len rfl rfl ?_
  refine Ops.lss rfl rfl rfl ?_
  refine Ops.nil ?_
  refine thenQ_n ?_
  -- stop: cond
  refine Cd.cond_p _ rfl (fun h1 => ?_) (fun h1 => ?_)
  · refine Cd.skip ?_
    refine thenQ_n ?_
    refine Cd.seq ?_
    refine Cd.block ?_
    refine Cd.seq ?_
    refine Cd.seq ?_
    refine Cd.region ?_
    refine Ops.mv_sl rfl rfl rfl ?_
    refine Ops.mv_int rfl rfl rfl ?_
    -- stop: INDEXADDR 39 t17 t18 -> 19
    refine Ops.idx (hS2.oldI hR).2 rfl rfl rfl (by omega) h1 ?_
    refine Ops.ld_int (hS2.oldI hR) rfl (by omega) rfl rfl ?_
    refine Ops.mv_sl rfl rfl rfl ?_
    refine Ops.len rfl rfl ?_
    refine Ops.sub rfl rfl rfl (by omega) ?_
    -- stop: CALL spec.l01In(t20, 0, t23) -> 24
    refine Ops.call (l01In_c _ _ _ _) rfl rfl rfl ?_
    rintro _ _ ⟨rfl, rfl⟩
    first | refine Ops.not_p rfl rfl ?_ | refine Ops.not rfl rfl ?_
    refine Ops.mv_bool rfl rfl rfl ?_
    -- stop: guard 26
    refine Ops.split_p 26 rfl (fun h2 => ?_) (fun h2 => ?_)
    · refine Ops.skipg rfl rfl rfl rfl rfl ?_
      refine Ops.skipg rfl rfl rfl rfl rfl ?_
      refine Ops.skipg rfl rfl rfl rfl rfl ?_
      refine Ops.skipg rfl rfl rfl rfl rfl ?_
      refine Ops.skipg rfl rfl rfl rfl rfl ?_
      refine Ops.skipg rfl rfl rfl rfl rfl ?_
      refine Ops.skipg rfl rfl rfl rfl rfl ?_
      refine Ops.pick_t rfl rfl rfl ?_
      refine Ops.nil ?_
      refine thenQ_n ?_
      -- stop: cond
      refine Cd.cond_t rfl ?_
      refine Cd.seq ?_
      refine Cd.region ?_
      refine Ops.mv_bool rfl rfl rfl ?_
      refine Ops.nil ?_
      refine thenQ_n ?_
      refine Cd.ret ?_
      refine thenQ_r ?_
      refine blockQ_r ?_
      refine thenQ_r ?_
      refine thenQ_r ?_
      refine blockQ_r ?_
      refine thenQ_r ?_
      refine ret1_b rfl ?_
      -- stop: end
      exact ⟨by rw [decide_eq_false (hI.bad (by omega) (by omega))], hS2.none⟩
    · refine Ops.rung rfl rfl rfl ?_
      refine Ops.mv_sl rfl rfl rfl ?_
      refine Ops.rung rfl rfl rfl ?_
      refine Ops.mv_sl rfl rfl rfl ?_
      refine Ops.rung rfl rfl rfl ?_
      refine Ops.mv_int rfl rfl rfl ?_
      refine Ops.rung rfl rfl rfl ?_
      -- stop: INDEXADDR 39 t28 t29 -> 30
      refine Ops.idx (hS2.oldI hR).2 rfl rfl rfl (by omega) h1 ?_
      refine Ops.rung rfl rfl rfl ?_
      -- stop: LOAD 2 t30 -> 31
      refine Ops.ld_int (hS2.oldI hR) rfl (by omega) rfl rfl ?_
      refine Ops.rung rfl rfl rfl ?_
      -- stop: INDEXADDR 86 t27 t31 -> 32
      refine Ops.idx (hS2.rdB 0 rfl).2 rfl rfl rfl (by omega) (by omega) ?_
      refine Ops.rung rfl rfl rfl ?_
      -- stop: LOAD 4 t32 -> 33
      refine Ops.ld_bool (hS2.rdB 0 rfl) rfl (by omega) rfl rfl ?_
      refine Ops.pick_f rfl rfl rfl ?_
      refine Ops.nil ?_
      refine thenQ_n ?_
      -- stop: cond
      refine Cd.cond rfl (fun h3 => ?_) (fun h3 => ?_)
      · refine Cd.seq ?_
        refine Cd.region ?_
        refine Ops.mv_bool rfl rfl rfl ?_
        refine Ops.nil ?_
        refine thenQ_n ?_
        refine Cd.ret ?_
        refine thenQ_r ?_
        refine blockQ_r ?_
        refine thenQ_r ?_
        refine thenQ_r ?_
        refine blockQ_r ?_
        refine thenQ_r ?_
        refine ret1_b rfl ?_
        -- stop: end
        exact ⟨by rw [decide_eq_false (hI.twice (by omega) (by omega) h3)], hS2.none⟩
      · refine Cd.skip ?_
        refine thenQ_n ?_
        refine Cd.region ?_
        refine Ops.mv_sl rfl rfl rfl ?_
        refine Ops.mv_sl rfl rfl rfl ?_
        refine Ops.mv_int rfl rfl rfl ?_
        -- stop: INDEXADDR 39 t36 t37 -> 38
        refine Ops.idx (hS2.oldI hR).2 rfl rfl rfl (by omega) h1 ?_
        refine Ops.ld_int (hS2.oldI hR) rfl (by omega) rfl rfl ?_
        refine Ops.idx (hS2.rdB 0 rfl).2 rfl rfl rfl (by omega) (by omega) ?_
        refine Ops.st_bool 0 hS2 rfl rfl rfl (by omega) ?_
        intro w3 hS3
        refine Ops.nil ?_
        refine blockQ_n ?_
        refine thenQ_n ?_
        refine Cd.region ?_
        refine Ops.mv_int rfl rfl rfl ?_
        refine Ops.add rfl rfl rfl (by omega) ?_
        refine Ops.mv_int rfl rfl rfl ?_
        refine Ops.nil ?_
        refine thenQ_n ?_
        -- stop: round
        exact ⟨(k + 1, S.set (gi p k).toNat true), by show p.length - (k + 1) < p.length - k; omega, ⟨rfl, rfl, rfl, trivial⟩, hS3, by show k + 1 ≤ _; omega, hI.step (by omega) (by omega) h3⟩
  · refine Cd.exit ?_
    refine thenQ_x ?_
    refine thenQ_x ?_
    refine blockQ_x ?_
    refine thenQ_n ?_
    refine Cd.seq ?_
    refine Cd.region ?_
    refine Ops.mv_bool rfl rfl rfl ?_
    refine Ops.nil ?_
    refine thenQ_n ?_
    refine Cd.ret ?_
    refine ret1_b rfl ?_
    -- stop: end
    exact ⟨by rw [decide_eq_true (hI.done (by omega) (by omega))], hS2.none⟩
end Go.Proofs.Ytpdhjnacnmfbjaa.Vc
