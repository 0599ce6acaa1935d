/-
  The texts B1, Law, B2, Orb, B3, Drn, Drp, Rep, Lab, B4, B5, B6, B7, Agg, Rc2, Src, Sr2, Sr3, Dr0, Grw, Grv in one. Conditions: as each part states them.
-/
import Derived.Test.YtopgfgdgfjddpaaGreatDoorZa
import Derived.Test.YtopgfgdgfjddpaaGreatDoorInst
/-
 The walks of the smallest functions.
-/
namespace Go.Proofs.YtopgfgdgfjddpaaGreatDoor.Vc
open Go.RowKit
theorem l01In_c (n lo hi : Int) (w : World) : Ret Tryz.prog 72 [.int .i64 n, .int .i64 lo, .int .i64 hi] w (fun v w' => v = .bool (decide (lo ≤ n ∧ n ≤ hi)) ∧ w' = w) := by
 refine Ret.of_cd Tryz.func72 O Tryz.ntmps72 O (post1 O) (Gbo O ?_)
 refine Ops.split_p 10 O (fun h => ?_) (fun h => ?_)
 ·refine Ops.g O O O (Gdo O (Ops.g O O O (Gdo O (Ops.g O O O (Gdr O ?_)))))
  refine ret1_b O ?_
  exact ⟨by simp [h], O⟩
 refine Ops.k O O O O O (Ops.k O O O O O (Ops.k O O O O O (Gdr O ?_)))
 refine ret1_b O ?_
 exact ⟨by simp [h], O⟩
theorem within_c (n lo hi : Int) (w : World) : Ret Tryz.prog 74 [.int .i64 n, .int .i64 lo, .int .i64 hi] w (fun v w' => v = .bool (decide (lo ≤ n ∧ n ≤ hi)) ∧ w' = w) := by
 refine Ret.of_cd Tryz.func74 O Tryz.ntmps74 O (post1 O) (Gbo O ?_)
 refine Ops.split_p 10 O (fun h => ?_) (fun h => ?_)
 ·refine Ops.g O O O (Gdo O (Ops.g O O O (Gdo O (Ops.g O O O (Gdr O ?_)))))
  refine ret1_b O ?_
  exact ⟨by simp [h], O⟩
 refine Ops.k O O O O O (Ops.k O O O O O (Ops.k O O O O O (Gdr O ?_)))
 refine ret1_b O ?_
 exact ⟨by simp [h], O⟩
def IsPerm (p : List Int) : Prop := p.length ≤ 400 ∧ (∀ x ∈ p, 0 ≤ x ∧ x < p.length) ∧ p.Nodup
instance (p : List Int) : Decidable (IsPerm p) := by unfold IsPerm; exact inferInstance
def Seen (p : List Int) (k : Nat) (S : List Bool) : Prop :=
 S.length = p.length ∧ (∀ x ∈ p.take k, 0 ≤ x ∧ x < p.length) ∧ (p.take k).Nodup ∧ ∀ x : Int, 0 ≤ x → x < p.length → (gb S x = true ↔ x ∈ p.take k)
theorem gi_mem {p : List Int} {k : Nat} (h : k < p.length) : gi p k = p[k] := by simp [gi, List.getD_eq_getElem?_getD, List.getElem?_eq_getElem h]
theorem take_succ_gi {p : List Int} {k : Nat} (h : k < p.length) : p.take (k + 1) = p.take k ++ [gi p k] := by rw [gi_mem h, List.take_succ_eq_append_getElem h]
theorem gb_set {S : List Bool} {x y : Int} {b : Bool} (hx : 0 ≤ x) (hx' : x < S.length) (hy : 0 ≤ y) : gb (S.set x.toNat b) y = if x = y then b else gb S y := by
 simp only [gb, List.getD_eq_getElem?_getD, List.getElem?_set]
 by_cases e : x = y
 ·subst e; rw [if_pos rfl, if_pos rfl, if_pos (by omega)]; rfl
 rw [if_neg (by omega), if_neg e]
theorem gi_set {S : List Int} {x y : Int} {b : Int} (hx : 0 ≤ x) (hx' : x < S.length) (hy : 0 ≤ y) : gi (S.set x.toNat b) y = if x = y then b else gi S y := by
 simp only [gi, List.getD_eq_getElem?_getD, List.getElem?_set]
 by_cases e : x = y
 ·subst e; rw [if_pos rfl, if_pos rfl, if_pos (by omega)]; rfl
 rw [if_neg (by omega), if_neg e]
theorem Seen.zero (p : List Int) : Seen p 0 (List.replicate p.length false) := ⟨by simp, by simp, by simp, fun x h0 h1 => by
 simp [gb, List.getD_eq_getElem?_getD, List.getElem?_replicate]; split <;> simp⟩
theorem Seen.bad {p : List Int} {k : Nat} {S : List Bool} (h : Seen p k S) (hk : k < p.length) (hb : ¬ (0 ≤ gi p k ∧ gi p k ≤ p.length - 1)) : ¬ IsPerm p := fun hp => by
 have := hp.2.1 (gi p k) (by rw [gi_mem hk]; exact List.getElem_mem hk)
 omega
theorem Seen.twice {p : List Int} {k : Nat} {S : List Bool} (h : Seen p k S) (hk : k < p.length) (h0 : 0 ≤ gi p k ∧ gi p k ≤ p.length - 1) (hb : gb S (gi p k) = true) : ¬ IsPerm p := fun hp => by
 have h1 := (h.2.2.2 (gi p k) h0.1 (by omega)).1 hb
 have h2 : (p.take (k + 1)).Nodup := hp.2.2.sublist (List.take_sublist _ _)
 rw [take_succ_gi hk, List.nodup_append] at h2
 exact h2.2.2 _ h1 _ (by simp) O
theorem Seen.step {p : List Int} {k : Nat} {S : List Bool} (h : Seen p k S) (hk : k < p.length) (h0 : 0 ≤ gi p k ∧ gi p k ≤ p.length - 1) (hb : gb S (gi p k) = false) : Seen p (k + 1) (S.set (gi p k).toNat true) := by
 obtain ⟨h1, h2, h3, h4⟩ := h
 have h5 : ¬ gi p k ∈ p.take k := fun hm => by have := (h4 _ h0.1 (by omega)).2 hm; rw [hb] at this; cases this
 refine ⟨by simpa using h1, ?_, ?_, fun x hx hx' => ?_⟩
 ·rw [take_succ_gi hk]
  intro x hx
  rcases List.mem_append.1 hx with hx | hx
  ·exact h2 x hx
  simp at hx; subst hx; omega
 ·rw [take_succ_gi hk, List.nodup_append]
  refine ⟨h3, by simp, fun a ha b hb' => ?_⟩
  simp at hb'
  subst hb'
  intro e
  subst e
  exact h5 ha
 rw [gb_set h0.1 (by omega) hx, take_succ_gi hk, List.mem_append]
 by_cases e : gi p k = x
 ·simp [e]
 rw [if_neg e, h4 x hx hx']
 simp
 intro h; exact absurd h.symm e
theorem Seen.done {p : List Int} {k : Nat} {S : List Bool} (h : Seen p k S) (hk : ¬ k < p.length) (hl : p.length ≤ 400) : IsPerm p := by
 obtain ⟨h1, h2, h3, h4⟩ := h
 rw [List.take_of_length_le (by omega)] at h2 h3
 exact ⟨hl, h2, h3⟩
theorem l01Perm_c (A : Option Addr) (n c : Nat) (p : List Int) (w : World) (hR : RdI w A n p) : Ret Tryz.prog 170 [.slice A n c] w (fun v w' => v = .bool (decide (IsPerm p)) ∧ St w w' []) := by
 have hl := hR.1
 subst hl
 refine Ret.of_cd Tryz.func170 O Tryz.ntmps170 O (post1 O) ?_
 refine Gbo O (Ops.len O O (Gdc O ?_))
 refine Cd.cond_p _ O (fun h => ?_) (fun h => ?_)
 ·refine Gar O (ret1_b O ?_)
  exact ⟨by rw [decide_eq_false (fun hp : IsPerm p => by have := hp.1; omega)], St.refl _⟩
 refine Gao O (Ops.len O O ?_)
 refine Ops.mkB p.length (St.refl w) O O (by omega) ?_
 intro A1 w1 hS1
 refine Gdc O ?_
 refine Cd.loop (α := Nat × List Bool) (fun s => [(0, .slice A p.length c), (3, .slice A1 p.length p.length), (4, .int .i64 (s.1 : Int))]) (fun s w' => St w w' [CkB 4 A1 p.length p.length s.2] ∧ s.1 ≤ p.length ∧ Seen p s.1 s.2) (fun s => p.length - s.1) (0, List.replicate p.length false) ⟨O, O, O, trivial⟩ ⟨hS1, Nat.zero_le _, Seen.zero p⟩ ?_
 rintro ⟨k, S⟩ e w2 ⟨hS2, hk, hI⟩
 dsimp only at hS2 hk hI ⊢
 refine Gbo O (Ops.len O O (Gdc O ?_))
 refine Cd.cond_p _ O (fun h1 => ?_) (fun h1 => ?_)
 ·refine Gao O (Ops.idx (hS2.oldI hR).2 O O O (by omega) h1 (Ops.ld_int (hS2.oldI hR) O (by omega) O O ?_))
  refine Gdo O (Ops.len O O (Ops.sub O O O (by omega) ?_))
  refine Ops.call (l01In_c _ _ _ _) O O O ?_
  rintro _ _ ⟨rfl, rfl⟩
  first | refine Ops.not_p rfl rfl ?_ | refine Ops.not rfl rfl ?_
  refine Gdo O ?_
  refine Ops.split_p 26 O (fun h2 => ?_) (fun h2 => ?_)
  ·refine Ops.k O O O O O (Ops.k O O O O O (Ops.k O O O O O (Ops.k O O O O O (Ops.k O O O O O (Ops.k O O O O O (Ops.k O O O O O (Gdc O ?_)))))))
   refine Cd.cond_t O ?_
   refine Gar O (thenQ_r (Qk_ret ?_))
   refine ret1_b O ?_
   exact ⟨by rw [decide_eq_false (hI.bad (by omega) (by omega))], hS2.none⟩
  refine Ops.g O O O (Gdo O (Ops.g O O O (Gdo O (Ops.g O O O (Gdo O (Ops.g O O O ?_))))))
  refine Ops.idx (hS2.oldI hR).2 O O O (by omega) h1 (Ops.g O O O (Ops.ld_int (hS2.oldI hR) O (by omega) O O (Ops.g O O O (Ops.idx (hS2.rdB 0 O).2 O O O (by omega) (by omega) (Ops.g O O O (Ops.ld_bool (hS2.rdB 0 O) O (by omega) O O (Gdc O ?_)))))))
  refine Cd.cond O (fun h3 => ?_) (fun h3 => ?_)
  ·refine Gar O (thenQ_r (Qk_ret ?_))
   refine ret1_b O ?_
   exact ⟨by rw [decide_eq_false (hI.twice (by omega) (by omega) h3)], hS2.none⟩
  refine Gao O (Ops.idx (hS2.oldI hR).2 O O O (by omega) h1 (Ops.ld_int (hS2.oldI hR) O (by omega) O O (Ops.idx (hS2.rdB 0 O).2 O O O (by omega) (by omega) (Ops.st_bool 0 hS2 O O O (by omega) ?_))))
  intro w3 hS3
  refine Gdo O (Ops.add O O O (by omega) (Gdn O (tQ ?_)))
  exact ⟨(k + 1, S.set (gi p k).toNat true), by show p.length - (k + 1) < p.length - k; omega, ⟨O, O, O, trivial⟩, hS3, by show k + 1 ≤ _; omega, hI.step (by omega) (by omega) h3⟩
 refine Gax O (thenQ_x (Gfr O ?_))
 refine ret1_b O ?_
 exact ⟨by rw [decide_eq_true (hI.done (by omega) (by omega))], hS2.none⟩
/-
 The walks of the helpers of the laws: sizes, copies, comparisons.
-/
def fill {α : Type} (k : Nat) (xs : List α) (d : α) : List α := xs.take k ++ List.replicate (xs.length - k) d
theorem gl_mem {p : List (List Int)} {k : Nat} (h : k < p.length) : gl p k = p[k] := by simp [gl, List.getD_eq_getElem?_getD, List.getElem?_eq_getElem h]
theorem take_succ_gl {p : List (List Int)} {k : Nat} (h : k < p.length) : p.take (k + 1) = p.take k ++ [gl p k] := by rw [gl_mem h, List.take_succ_eq_append_getElem h]
/-
 The walks of the small functions of the first two layers.
-/
theorem sizeI_c (A : Option Addr) (n c : Nat) (w : World) : Ret Tryz.prog 138 [.slice A n c] w (fun v w' => v = .int .i64 (n : Int) ∧ w' = w) := by
 refine Ret.of_cd Tryz.func138 O Tryz.ntmps138 O (post1 O) ?_
 refine Gbo O (Ops.len O O (Gdr O ?_))
 refine ret1_i O ?_
 exact ⟨O, O⟩
theorem sizeR_c (A : Option Addr) (n c : Nat) (w : World) : Ret Tryz.prog 152 [.slice A n c] w (fun v w' => v = .int .i64 (n : Int) ∧ w' = w) := by
 refine Ret.of_cd Tryz.func152 O Tryz.ntmps152 O (post1 O) ?_
 refine Gbo O (Ops.len O O (Gdr O ?_))
 refine ret1_i O ?_
 exact ⟨O, O⟩
theorem isPermutation_c (A : Option Addr) (n c : Nat) (p : List Int) (w : World) (hR : RdI w A n p) : Ret Tryz.prog 214 [.slice A n c] w (fun v w' => v = .bool (decide (IsPerm p)) ∧ St w w' []) := by
 have hl := hR.1
 subst hl
 refine Ret.of_cd Tryz.func214 O Tryz.ntmps214 O (post1 O) ?_
 refine Gbo O (Ops.len O O (Gdc O ?_))
 refine Cd.cond_p _ O (fun h => ?_) (fun h => ?_)
 ·refine Gar O (ret1_b O ?_)
  exact ⟨by rw [decide_eq_false (fun hp : IsPerm p => by have := hp.1; omega)], St.refl _⟩
 refine Gao O (Ops.len O O ?_)
 refine Ops.mkB p.length (St.refl w) O O (by omega) ?_
 intro A1 w1 hS1
 refine Gdo O (Ops.len O O (Gdc O ?_))
 refine Cd.loop (α := Nat × List Bool) (fun s => [(0, .slice A p.length c), (3, .slice A1 p.length p.length), (12, .slice A p.length c), (13, .int .i64 (p.length : Int)), (14, .int .i64 (s.1 : Int))]) (fun s w' => St w w' [CkB 4 A1 p.length p.length s.2] ∧ s.1 ≤ p.length ∧ Seen p s.1 s.2) (fun s => p.length - s.1) (0, List.replicate p.length false) ⟨O, O, O, O, O, trivial⟩ ⟨hS1, Nat.zero_le _, Seen.zero p⟩ ?_
 rintro ⟨k, S⟩ e w2 ⟨hS2, hk, hI⟩
 dsimp only at hS2 hk hI ⊢
 refine Gbc O ?_
 refine Cd.cond_p _ O (fun h1 => ?_) (fun h1 => ?_)
 ·refine Gao O (Ops.idx (hS2.oldI hR).2 O O O (by omega) h1 (Ops.ld_int (hS2.oldI hR) O (by omega) O O (Gdo O (Ops.call (sizeI_c _ _ _ _) O O O ?_))))
  rintro _ _ ⟨rfl, rfl⟩
  refine Ops.sub O O O (by omega) (Ops.call (within_c _ _ _ _) O O O ?_)
  rintro _ _ ⟨rfl, rfl⟩
  first | refine Ops.not_p rfl rfl ?_ | refine Ops.not rfl rfl ?_
  refine Gdo O ?_
  refine Ops.split_p 24 O (fun h2 => ?_) (fun h2 => ?_)
  ·refine Ops.k O O O O O (Ops.k O O O O O (Ops.k O O O O O (Ops.k O O O O O (Gdc O ?_))))
   refine Cd.cond_t O ?_
   refine Gar O (thenQ_r (Qk_ret ?_))
   refine ret1_b O ?_
   exact ⟨by rw [decide_eq_false (hI.bad (by omega) (by omega))], hS2.none⟩
  refine Ops.g O O O (Gdo O (Ops.g O O O (Gdo O (Ops.g O O O ?_))))
  refine Ops.idx (hS2.rdB 0 O).2 O O O (by omega) (by omega) (Ops.g O O O (Ops.ld_bool (hS2.rdB 0 O) O (by omega) O O (Gdc O ?_)))
  refine Cd.cond O (fun h3 => ?_) (fun h3 => ?_)
  ·refine Gar O (thenQ_r (Qk_ret ?_))
   refine ret1_b O ?_
   exact ⟨by rw [decide_eq_false (hI.twice (by omega) (by omega) h3)], hS2.none⟩
  refine Gao O (Ops.idx (hS2.rdB 0 O).2 O O O (by omega) (by omega) (Ops.st_bool 0 hS2 O O O (by omega) ?_))
  intro w3 hS3
  refine Gdo O (Ops.add O O O (by omega) (Gdn O (tQ ?_)))
  exact ⟨(k + 1, S.set (gi p k).toNat true), by show p.length - (k + 1) < p.length - k; omega, ⟨O, O, O, O, O, trivial⟩, hS3, by show k + 1 ≤ _; omega, hI.step (by omega) (by omega) h3⟩
 refine Gax O (thenQ_x (Gfr O ?_))
 refine ret1_b O ?_
 exact ⟨by rw [decide_eq_true (hI.done (by omega) (by omega))], hS2.none⟩
def IsFree (p : List Int) : Prop := ∀ i : Nat, i < p.length → gi p i ≠ i ∧ gi p (gi p i) = i
instance (p : List Int) : Decidable (IsFree p) := by unfold IsFree; exact inferInstance
theorem IsPerm.range {p : List Int} (h : IsPerm p) {i : Int} (h0 : 0 ≤ i) (h1 : i < p.length) : 0 ≤ gi p i ∧ gi p i < p.length := by
 have e : gi p i = p[i.toNat]'(by omega) := by simp [gi, List.getD_eq_getElem?_getD, List.getElem?_eq_getElem (show i.toNat < p.length by omega)]
 rw [e]
 exact h.2.1 _ (List.getElem_mem _)
theorem l01Free_c (A : Option Addr) (n c : Nat) (p : List Int) (w : World) (hR : RdI w A n p) (hp : IsPerm p) : Ret Tryz.prog 171 [.slice A n c] w (fun v w' => v = .bool (decide (IsFree p)) ∧ w' = w) := by
 have hl := hR.1
 subst hl
 have hp1 := hp.1
 refine Ret.of_cd Tryz.func171 O Tryz.ntmps171 O (post1 O) (Gbc O ?_)
 refine Cd.loop (α := Nat) (fun k => [(0, .slice A p.length c), (3, .int .i64 (k : Int))]) (fun k w' => w' = w ∧ k ≤ p.length ∧ ∀ i, i < k → gi p i ≠ i ∧ gi p (gi p i) = i) (fun k => p.length - k) 0 ⟨O, O, trivial⟩ ⟨O, Nat.zero_le _, fun i hi => by omega⟩ ?_
 rintro k e w2 ⟨rfl, hk, hI⟩
 refine Gbo O (Ops.len O O (Gdc O ?_))
 refine Cd.cond_p _ O (fun h1 => ?_) (fun h1 => ?_)
 ·have hr := hp.range (i := k) (by omega) h1
  refine Gao O (Ops.idx hR.2 O O O (by omega) h1 (Ops.ld_int hR O (by omega) O O (Gdo O ?_)))
  refine Ops.split_p 16 O (fun h2 => ?_) (fun h2 => ?_)
  ·refine Ops.k O O O O O (Ops.k O O O O O (Ops.k O O O O O (Ops.k O O O O O (Ops.k O O O O O (Ops.k O O O O O (Ops.k O O O O O (Ops.k O O O O O (Ops.k O O O O O (Gdc O ?_)))))))))
   refine Cd.cond_t O ?_
   refine Gar O (thenQ_r (Qk_ret ?_))
   refine ret1_b O ?_
   exact ⟨by rw [decide_eq_false (fun hf : IsFree p => (hf k (by omega)).1 h2)], O⟩
  refine Ops.g O O O (Gdo O (Ops.g O O O (Gdo O (Ops.g O O O (Gdo O (Ops.g O O O ?_))))))
  refine Ops.idx hR.2 O O O (by omega) h1 (Ops.g O O O (Ops.ld_int hR O (by omega) O O (Ops.g O O O (Ops.idx hR.2 O O O (by omega) (by omega) (Ops.g O O O (Ops.ld_int hR O (by omega) O O ?_))))))
  refine Ops.g O O O (Gdo O (Ops.g O O O (Gdc O ?_)))
  refine Cd.cond_p _ O (fun h3 => ?_) (fun h3 => ?_)
  ·refine Gar O (thenQ_r (Qk_ret ?_))
   refine ret1_b O ?_
   exact ⟨by rw [decide_eq_false (fun hf : IsFree p => h3 (hf k (by omega)).2)], O⟩
  refine Gao O (Ops.add O O O (by omega) (Gdn O (tQ ?_)))
  refine ⟨k + 1, by omega, ⟨O, O, trivial⟩, O, by omega, fun i hi => ?_⟩
  by_cases e : i = k
  ·subst e; exact ⟨h2, Classical.not_not.1 h3⟩
  exact hI i (by omega)
 refine Gax O (thenQ_x (Gfr O ?_))
 refine ret1_b O ?_
 exact ⟨by rw [decide_eq_true (show IsFree p from fun i hi => hI i (by omega))], O⟩
theorem isFreeInvolution_c (A : Option Addr) (n c : Nat) (p : List Int) (w : World) (hR : RdI w A n p) : Ret Tryz.prog 156 [.slice A n c] w (fun v w' => v = .bool (decide (IsPerm p ∧ IsFree p)) ∧ St w w' []) := by
 have hl := hR.1
 subst hl
 refine Ret.of_cd Tryz.func156 O Tryz.ntmps156 O (post1 O) (Gbo O (Ops.call (isPermutation_c _ _ _ _ _ hR) O O O ?_))
 rintro _ w1 ⟨rfl, hS1⟩
 first | refine Ops.not_p rfl rfl ?_ | refine Ops.not rfl rfl ?_
 refine Gdc O ?_
 refine Cd.cond_p _ O (fun hp => ?_) (fun hp => ?_)
 ·refine Gar O (ret1_b O ?_)
  exact ⟨by rw [decide_eq_false (fun h => hp h.1)], hS1⟩
 have hp := Classical.not_not.1 hp
 have hp1 := hp.1
 refine Gao O (Ops.len O O (Gdc O ?_))
 refine Cd.loop (α := Nat) (fun k => [(0, .slice A p.length c), (8, .slice A p.length c), (9, .int .i64 (p.length : Int)), (10, .int .i64 (k : Int))]) (fun k w' => St w w' [] ∧ k ≤ p.length ∧ ∀ i, i < k → gi p i ≠ i ∧ gi p (gi p i) = i) (fun k => p.length - k) 0 ⟨O, O, O, O, trivial⟩ ⟨hS1, Nat.zero_le _, fun i hi => by omega⟩ ?_
 rintro k e w2 ⟨hS2, hk, hI⟩
 refine Gbc O ?_
 refine Cd.cond_p _ O (fun h1 => ?_) (fun h1 => ?_)
 ·have hr := hp.range (i := k) (by omega) h1
  have hA := hS2.oldI hR
  refine Gao O (Ops.idx hA.2 O O O (by omega) h1 (Ops.ld_int hA O (by omega) O O (Gdo O ?_)))
  refine Ops.split_p 18 O (fun h2 => ?_) (fun h2 => ?_)
  ·refine Ops.k O O O O O (Ops.k O O O O O (Ops.k O O O O O (Ops.k O O O O O (Ops.k O O O O O (Ops.k O O O O O (Gdc O ?_))))))
   refine Cd.cond_t O ?_
   refine Gar O (thenQ_r (Qk_ret ?_))
   refine ret1_b O ?_
   exact ⟨by rw [decide_eq_false (fun hf : IsPerm p ∧ IsFree p => (hf.2 k (by omega)).1 h2)], hS2⟩
  refine Ops.g O O O (Gdo O (Ops.g O O O (Gdo O (Ops.g O O O ?_))))
  refine Ops.idx hA.2 O O O (by omega) (by omega) (Ops.g O O O (Ops.ld_int hA O (by omega) O O ?_))
  refine Ops.g O O O (Gdo O (Ops.g O O O (Gdc O ?_)))
  refine Cd.cond_p _ O (fun h3 => ?_) (fun h3 => ?_)
  ·refine Gar O (thenQ_r (Qk_ret ?_))
   refine ret1_b O ?_
   exact ⟨by rw [decide_eq_false (fun hf : IsPerm p ∧ IsFree p => h3 (hf.2 k (by omega)).2)], hS2⟩
  refine Gao O (Ops.add O O O (by omega) (Gdn O (tQ ?_)))
  refine ⟨k + 1, by omega, ⟨O, O, O, O, trivial⟩, hS2, by omega, fun i hi => ?_⟩
  by_cases e : i = k
  ·subst e; exact ⟨h2, Classical.not_not.1 h3⟩
  exact hI i (by omega)
 refine Gax O (thenQ_x (Gfr O ?_))
 refine ret1_b O ?_
 exact ⟨by rw [decide_eq_true (show IsPerm p ∧ IsFree p from ⟨hp, fun i hi => hI i (by omega)⟩)], hS2⟩
theorem rank_c (A Am : Option Addr) (n c : Nat) (f : Nat → Value) (w : World) (hR : Rd w A 1 f) (hf : f 0 = .slice Am n c) : Ret Tryz.prog 122 [.pointer A] w (fun v w' => v = .int .i64 (n : Int) ∧ w' = w) := by
 refine Ret.of_cd Tryz.func122 O Tryz.ntmps122 O (post1 O) (Gbo O ?_)
 refine Ops.nilp hR (by decide) O O ?_
 refine Ops.fld hR O O O O inferInstance (Ops.ldf_s hR O O hf O O (Ops.call (sizeR_c _ _ _ _) O O O ?_))
 rintro _ _ ⟨rfl, rfl⟩
 refine Gdr O (ret1_i O ?_)
 exact ⟨O, O⟩
theorem flags_c (A Am : Option Addr) (n c : Nat) (rs : List SlV) (xss : List (List Int)) (f : Nat → Value) (w : World) (hR : Rd w A 1 f) (hf : f 0 = .slice Am n c) (hM : RowsI w Am n rs xss) (hn : 0 < n) : Ret Tryz.prog 98 [.pointer A] w (fun v w' => v = .int .i64 ((rg rs 0).n : Int) ∧ w' = w) := by
 refine Ret.of_cd Tryz.func98 O Tryz.ntmps98 O (post1 O) (Gbo O ?_)
 refine Ops.nilp hR (by decide) O O ?_
 refine Ops.fld hR O O O O inferInstance (Ops.ldf_s hR O O hf O O (Ops.idx hM.top.2 O O O (by omega) (by omega) (Ops.ld_sl hM.top O (by omega) O O (Ops.call (sizeI_c _ _ _ _) O O O ?_))))
 rintro _ _ ⟨rfl, rfl⟩
 refine Gdr O (ret1_i O ?_)
 exact ⟨O, O⟩
end Go.Proofs.YtopgfgdgfjddpaaGreatDoor.Vc
/-
 Plain mathematics of orbits: what a search through moves finds, and in which order.
-/
namespace Go.Proofs.YtopgfgdgfjddpaaGreatDoor.Vc
theorem nodup_le : ∀ (n : Nat) (l : List Nat), l.Nodup → (∀ x ∈ l, x < n) → l.length ≤ n
 | 0, l, _, h => by
  cases l with
  | nil => simp
  | cons a l => exact absurd (h a (by simp)) (by omega)
 | n + 1, l, hn, h => by
  have h1 := nodup_le n (l.erase n) (hn.erase n) (fun x hx => by
   have h2 := (hn.mem_erase_iff).1 hx
   have := h x h2.2
   omega)
  have := List.length_erase_le (a := n) (l := l)
  rw [List.length_erase] at h1
  split at h1 <;> omega
theorem nodup_le_int {N : Nat} {l : List Int} (hn : l.Nodup) (h : ∀ x ∈ l, 0 ≤ x ∧ x < N) : l.length ≤ N := by
 have := nodup_le N (l.map Int.toNat) (by
  rw [List.nodup_iff_pairwise_ne, List.pairwise_map]
  refine List.Pairwise.imp_of_mem ?_ hn
  intro a b ha hb hab e
  have := h a ha
  have := h b hb
  omega) (fun x hx => by
  obtain ⟨y, hy, rfl⟩ := List.mem_map.1 hx
  have := h y hy
  omega)
 simpa using this
def Sys (N : Nat) (xss : List (List Int)) : Prop := ∀ p ∈ xss, p.length = N ∧ ∀ x : Int, 0 ≤ x → x < N → 0 ≤ gi p x ∧ gi p x < N
inductive Reach (xss : List (List Int)) (x : Int) : Int → Prop where
 | refl : Reach xss x x
 | step {y : Int} {p : List Int} : Reach xss x y → p ∈ xss → Reach xss x (gi p y)
theorem Reach.trans {xss : List (List Int)} {x y z : Int} (h : Reach xss x y) (h' : Reach xss y z) : Reach xss x z := by
 induction h' with
 | refl => exact h
 | step _ hp ih => exact .step ih hp
def push1 (out : List Int) (y : Int) : List Int := if y ∈ out then out else out ++ [y]
def expand (xss : List (List Int)) (x : Int) (out : List Int) : List Int := xss.foldl (fun o p => push1 o (gi p x)) out
def bfs (xss : List (List Int)) : Nat → Nat → List Int → List Int
 | 0, _, out => out
 | f + 1, i, out => if i < out.length then bfs xss f (i + 1) (expand xss (gi out i) out) else out
def orbit (N : Nat) (xss : List (List Int)) (pt : Int) : List Int := bfs xss (N + 1) 0 [pt]
theorem push1_mem {out : List Int} {y z : Int} : z ∈ push1 out y ↔ z ∈ out ∨ z = y := by
 unfold push1
 split
 ·constructor
  ·exact Or.inl
  rintro (h | rfl)
  ·exact h
  assumption
 simp
theorem push1_nodup {out : List Int} {y : Int} (h : out.Nodup) : (push1 out y).Nodup := by
 unfold push1
 split
 ·exact h
 rename_i hy
 rw [List.nodup_append]
 refine ⟨h, by simp, fun a ha b hb => ?_⟩
 simp at hb; subst hb
 rintro rfl; exact hy ha
theorem push1_prefix (out : List Int) (y : Int) : out <+: push1 out y := by
 unfold push1
 split
 ·exact List.prefix_rfl
 exact List.prefix_append _ _
structure Good (N : Nat) (xss : List (List Int)) (pt : Int) (out : List Int) : Prop where
 nodup : out.Nodup
 range : ∀ x ∈ out, 0 ≤ x ∧ x < (N : Int)
 reach : ∀ x ∈ out, Reach xss pt x
theorem Good.push {N : Nat} {xss : List (List Int)} {pt : Int} {out : List Int} (h : Good N xss pt out) (hs : Sys N xss) {x : Int} (hx : x ∈ out) {p : List Int} (hp : p ∈ xss) : Good N xss pt (push1 out (gi p x)) :=
 ⟨push1_nodup h.nodup, fun z hz => by
  rcases push1_mem.1 hz with hz | rfl
  ·exact h.range z hz
  ·exact (hs p hp).2 x (h.range x hx).1 (h.range x hx).2, fun z hz => by
  rcases push1_mem.1 hz with hz | rfl
  ·exact h.reach z hz
  exact .step (h.reach x hx) hp⟩
theorem Good.len {N : Nat} {xss : List (List Int)} {pt : Int} {out : List Int} (h : Good N xss pt out) : out.length ≤ N := nodup_le_int h.nodup h.range
theorem foldl_push {N : Nat} {xss : List (List Int)} {pt : Int} (hs : Sys N xss) {x : Int} : ∀ (ps : List (List Int)) (out : List Int), (∀ p ∈ ps, p ∈ xss) → Good N xss pt out → x ∈ out →
  Good N xss pt (ps.foldl (fun o p => push1 o (gi p x)) out) ∧ out <+: ps.foldl (fun o p => push1 o (gi p x)) out ∧ ∀ p ∈ ps, gi p x ∈ ps.foldl (fun o p => push1 o (gi p x)) out
 | [], out, _, h, _ => ⟨h, List.prefix_rfl, fun p hp => by cases hp⟩
 | q :: ps, out, hps, h, hx => by
  have h1 := h.push hs hx (hps q (by simp))
  have hpre := push1_prefix out (gi q x)
  obtain ⟨g1, g2, g3⟩ := foldl_push hs ps (push1 out (gi q x)) (fun p hp => hps p (by simp [hp])) h1 (hpre.subset hx)
  refine ⟨g1, hpre.trans g2, fun p hp => ?_⟩
  rcases List.mem_cons.1 hp with rfl | hp
  ·exact g2.subset (push1_mem.2 (Or.inr O))
  ·exact g3 p hp
theorem gi_in {out : List Int} {i : Nat} (h : i < out.length) : gi out (i : Int) ∈ out := by rw [gi_mem h]; exact List.getElem_mem h
theorem gi_prefix {a b : List Int} (h : a <+: b) {i : Nat} (hi : i < a.length) : gi b (i : Int) = gi a (i : Int) := by
 rw [gi_mem hi, gi_mem (Nat.lt_of_lt_of_le hi h.length_le)]
 obtain ⟨t, rfl⟩ := h
 rw [List.getElem_append_left hi]
theorem bfs_spec {N : Nat} {xss : List (List Int)} {pt : Int} (hs : Sys N xss) : ∀ (f i : Nat) (out : List Int), Good N xss pt out → N < f + i → (∀ j, j < i → j < out.length → ∀ p ∈ xss, gi p (gi out (j : Int)) ∈ out) →
    Good N xss pt (bfs xss f i out) ∧ out <+: bfs xss f i out ∧ ∀ x ∈ bfs xss f i out, ∀ p ∈ xss, gi p x ∈ bfs xss f i out
  | 0, i, out, h, hf, hc => by
      simp only [bfs]
      refine ⟨h, List.prefix_rfl, fun x hx p hp => ?_⟩
      obtain ⟨j, hj, rfl⟩ := List.mem_iff_getElem.1 hx
      have := h.len
      have := hc j (by omega) hj p hp
      rw [gi_mem hj] at this
      exact this
  | f + 1, i, out, h, hf, hc => by
    simp only [bfs]
    split
    · rename_i hi
      obtain ⟨g1, g2, g3⟩ := foldl_push hs xss out (fun p hp => hp) h (gi_in hi)
      replace g2 : out <+: expand xss (gi out i) out := g2
      obtain ⟨k1, k2, k3⟩ := bfs_spec hs f (i + 1) (expand xss (gi out i) out) g1 (by omega) (fun j hj hjl p hp => by
        by_cases hji : j = i
        · subst hji
          show gi p (gi (expand xss _ out) _) ∈ expand xss _ out
          rw [gi_prefix g2 hi]
          exact g3 p hp
        · have hjo : j < out.length := by omega
          show gi p (gi (expand xss _ out) _) ∈ expand xss _ out
          rw [gi_prefix g2 hjo]
          exact g2.subset (hc j (by omega) hjo p hp))
      exact ⟨k1, g2.trans k2, k3⟩
    · rename_i hi
      refine ⟨h, List.prefix_rfl, fun x hx p hp => ?_⟩
      obtain ⟨j, hj, rfl⟩ := List.mem_iff_getElem.1 hx
      have := hc j (by omega) hj p hp
      rw [gi_mem hj] at this
      exact this
theorem good_one {N : Nat} {xss : List (List Int)} {pt : Int} (h0 : 0 ≤ pt) (h1 : pt < N) : Good N xss pt [pt] :=
 ⟨by simp, fun x hx => by simp at hx; subst hx; exact ⟨h0, h1⟩, fun x hx => by simp at hx; subst hx; exact .refl⟩
theorem orbit_spec {N : Nat} {xss : List (List Int)} {pt : Int} (hs : Sys N xss) (h0 : 0 ≤ pt) (h1 : pt < N) :
  Good N xss pt (orbit N xss pt) ∧ [pt] <+: orbit N xss pt ∧ ∀ x, x ∈ orbit N xss pt ↔ Reach xss pt x := by
 obtain ⟨g1, g2, g3⟩ := bfs_spec (N := N) hs (N + 1) 0 [pt] (good_one h0 h1) (by omega) (fun j hj => by omega)
 refine ⟨g1, g2, fun x => ⟨g1.reach x, fun hr => ?_⟩⟩
 induction hr with
 | refl => exact g2.subset (by simp)
 | step _ hp ih => exact g3 _ ih _ hp
end Go.Proofs.YtopgfgdgfjddpaaGreatDoor.Vc
/-
 The walk of the search for an orbit.
-/
namespace Go.Proofs.YtopgfgdgfjddpaaGreatDoor.Vc
open Go.RowKit
def Marked (M : Nat) (S : List Bool) (out : List Int) : Prop := S.length = M ∧ ∀ x : Int, 0 ≤ x → x < M → (gb S x = true ↔ x ∈ out)
theorem Marked.init {M : Nat} {pt : Int} (h0 : 0 ≤ pt) (h1 : pt < M) : Marked M ((List.replicate M false).set pt.toNat true) [pt] := by
 refine ⟨by simp, fun x hx hx' => ?_⟩
 rw [gb_set h0 (by simpa using h1) hx]
 by_cases e : pt = x
 ·simp [e]
 rw [if_neg e]
 have : x ≠ pt := fun h => e h.symm
 simp [gb, List.getD_eq_getElem?_getD, List.getElem?_replicate, this]
 split <;> simp
theorem Marked.push {M : Nat} {S : List Bool} {out : List Int} {y : Int} (h : Marked M S out) (h0 : 0 ≤ y) (h1 : y < M) : Marked M (S.set y.toNat true) (out ++ [y]) := by
 refine ⟨by simpa using h.1, fun x hx hx' => ?_⟩
 rw [gb_set h0 (by rw [h.1]; exact h1) hx, List.mem_append]
 by_cases e : y = x
 ·simp [e]
 rw [if_neg e, h.2 x hx hx']
 have : x ≠ y := fun h => e h.symm
 simp [this]
theorem bfs_out {xss : List (List Int)} {f i : Nat} {out : List Int} (h : ¬ i < out.length) : bfs xss f i out = out := by
 cases f with
 | zero => rfl
 | succ f => simp only [bfs]; rw [if_neg h]
theorem RowsI.rowLen {w : World} {A : Option Addr} {n : Nat} {rs : List SlV} {xss : List (List Int)} (h : RowsI w A n rs xss) {k : Int} (h0 : 0 ≤ k) (h1 : k < n) : (gl xss k).length = (rg rs k).n := (h.at_ h0 h1).1
theorem gl_in {xss : List (List Int)} {k : Int} (h0 : 0 ≤ k) (h : k < xss.length) : gl xss k ∈ xss := by
 obtain ⟨j, rfl⟩ : ∃ j : Nat, k = j := ⟨k.toNat, by omega⟩
 rw [gl_mem (by omega)]; exact List.getElem_mem _
theorem l01Orbit_c (A : Option Addr) (n c : Nat) (rs : List SlV) (xss : List (List Int)) (N : Nat) (pt : Int) (w : World) (hR : RowsI w A n rs xss) (hn : n ≤ 9223372036854775807) (hs : Sys N xss) (hN : N ≤ 1000000000) (h0 : 0 ≤ pt) (h1 : pt < N) :
  Ret Tryz.prog 172 [.slice A n c, .int .i64 pt] w (fun v w' => ∃ A' c', v = .slice A' (orbit N xss pt).length c' ∧ St w w' [CkI 2 A' (orbit N xss pt).length c' (orbit N xss pt)]) := by
 have hrl : ∀ k : Int, 0 ≤ k → k < n → (rg rs k).n = N := fun k hk0 hk => by
  rw [← hR.rowLen hk0 hk]
  exact (hs _ (gl_in hk0 (by rw [hR.len]; exact hk))).1
 refine Ret.of_cd Tryz.func172 O Tryz.ntmps172 O (post1 O) (Gbo O (Ops.bs1I (St.refl w) O O O ?_))
 intro A1 w1 hS1
 refine Gdj 2 O ?_
 refine Cd.join (α := Nat) (fun s => [(0, .slice A n c), (1, .int .i64 pt), (5, .slice A1 1 1), (6, .int .i64 (s : Int))]) (fun s w' => w' = w1 ∧ s ≤ N ∧ (0 < n → s = N)) ?_ ?_
 ·refine Gbo O (Ops.len O O (Gdc O ?_))
  refine Cd.cond_p _ O (fun h2 => ?_) (fun h2 => ?_)
  ·refine Gao O (Ops.idx (hS1.oldR hR.top).2 O O O (by omega) (by omega) (Ops.ld_sl (hS1.oldR hR.top) O (by omega) O O ?_))
   refine Ops.len O O (Gdn O (tQ ?_))
   exact ⟨N, ⟨O, O, O, by rw [hrl 0 (by omega) (by omega)]; rfl, trivial⟩, O, Nat.le_refl _, fun _ => O⟩
  refine Gan O (tQ ?_)
  exact ⟨0, ⟨O, O, O, O, trivial⟩, O, Nat.zero_le _, fun h => by omega⟩
 rintro s e1 w2 ⟨rfl, hsN, hs0⟩
 have hpt : n = 0 → N = N := fun _ => O
 refine Gao O (Ops.add O O O (by omega) (Ops.add O O O (by omega) ?_))
 refine Ops.mkB (s + pt.toNat + 1) hS1 (by show Value.int .i64 _ = Value.int .i64 _; congr 1; omega) O (by omega) ?_
 intro A2 w3 hS3
 refine Gdo O (Ops.idx (hS3.rdB 0 O).2 O O O (by omega) (by omega) (Ops.st_bool 0 hS3 O O O (by omega) ?_))
 intro w4 hS4
 refine Gdc O ?_
 refine Cd.loop (α := Nat × List Int × Option Addr × Nat × List Bool) (fun q => [(0, .slice A n c), (5, .slice q.2.2.1 q.2.1.length q.2.2.2.1), (7, .slice A2 (s + pt.toNat + 1) (s + pt.toNat + 1)), (8, .int .i64 (q.1 : Int))]) (fun q w' => St w w' [CkB 4 A2 (s + pt.toNat + 1) (s + pt.toNat + 1) q.2.2.2.2, CkI 2 q.2.2.1 q.2.1.length q.2.2.2.1 q.2.1] ∧ q.1 ≤ q.2.1.length ∧ Good N xss pt q.2.1 ∧ Marked (s + pt.toNat + 1) q.2.2.2.2 q.2.1 ∧ bfs xss (N + 1 - q.1) q.1 q.2.1 = orbit N xss pt) (fun q => N + 1 - q.1) (0, [pt], A1, 1, (List.replicate (s + pt.toNat + 1) false).set pt.toNat true) ⟨O, O, O, O, trivial⟩ ⟨hS4, Nat.zero_le _, good_one h0 h1, Marked.init h0 (by omega), O⟩ ?_
 rintro ⟨i, out, Ao, co, S⟩ e2 w5 ⟨hS5, hi, hg, hm, hb⟩
 dsimp only at hS5 hi hg hm hb ⊢
 have hlen := hg.len
 refine Gbo O (Ops.len O O (Gdc O ?_))
 refine Cd.cond_p _ O (fun h2 => ?_) (fun h2 => ?_)
 ·refine Gac O ?_
  refine Cd.loop (α := Nat × List Int × Option Addr × Nat × List Bool) (fun q => [(0, .slice A n c), (5, .slice q.2.2.1 q.2.1.length q.2.2.2.1), (7, .slice A2 (s + pt.toNat + 1) (s + pt.toNat + 1)), (8, .int .i64 (i : Int)), (9, .int .i64 (q.1 : Int))]) (fun q w' => St w w' [CkB 4 A2 (s + pt.toNat + 1) (s + pt.toNat + 1) q.2.2.2.2, CkI 2 q.2.2.1 q.2.1.length q.2.2.2.1 q.2.1] ∧ q.1 ≤ n ∧ Good N xss pt q.2.1 ∧ Marked (s + pt.toNat + 1) q.2.2.2.2 q.2.1 ∧ out <+: q.2.1 ∧ (xss.drop q.1).foldl (fun o p => push1 o (gi p (gi out i))) q.2.1 = expand xss (gi out i) out) (fun q => n - q.1) (0, out, Ao, co, S) ⟨O, O, O, O, O, trivial⟩ ⟨hS5, Nat.zero_le _, hg, hm, List.prefix_rfl, O⟩ ?_
  rintro ⟨k, out', Ao', co', S'⟩ e3 w6 ⟨hS6, hk, hg', hm', hp', hf⟩
  dsimp only at hS6 hk hg' hm' hp' hf ⊢
  have hlen' := hg'.len
  refine Gbo O (Ops.len O O (Gdc O ?_))
  refine Cd.cond_p _ O (fun h3 => ?_) (fun h3 => ?_)
  ·have hio : i < out'.length := by have := hp'.length_le; omega
   have hgi : gi out' i = gi out i := gi_prefix hp' (by omega)
   have hxi := hg.range _ (gi_in (i := i) (by omega))
   have hmem : gl xss k ∈ xss := gl_in (by omega) (by rw [hR.len]; omega)
   have hy := (hs _ hmem).2 (gi out i) hxi.1 hxi.2
   have hrk := hrl k (by omega) (by omega)
   have hsN : s = N := hs0 (by omega)
   have hT := (hS6.oldRows hR)
   have hO := hS6.rdI 1 O
   have hrow := hT.at_ (i := k) (by omega) (by omega)
   refine Gac O ?_
   refine Cd.draw [xS (A) (n) (c), xI ((k : Int)), xP (ptrAt (A) ((k : Int)).toNat), xS ((rg (rs) ((k : Int))).a) ((rg (rs) ((k : Int))).n) ((rg (rs) ((k : Int))).c), xS (Ao') (out'.length) (co'), xI ((i : Int)), xP (ptrAt (Ao') ((i : Int)).toNat), xI (gi (out') ((i : Int))), xP (ptrAt ((rg (rs) ((k : Int))).a) (gi (out') ((i : Int))).toNat), xI (gi (gl xss k) (gi (out') ((i : Int)))), xI (gi (gl xss k) (gi (out') ((i : Int))))] (by kernel_rfl) (by kernel_rfl) O (exL O) ?_ ?_
   ·exact ⟨Dr O, Dr O, fun _ _ hb _ _ => Ops.idx (hT.top.later hb).2 O O O (by omega) (by omega) (Az O), fun _ _ hb _ _ => Ops.ld_sl (hT.top.later hb) O (by omega) O O (Az O), Dr O, Dr O, fun _ _ hb _ _ => Ops.idx (hO.later hb).2 O O O (by omega) (by omega) (Az O), fun _ _ hb _ _ => Ops.ld_int (hO.later hb) O (by omega) O O (Az O), fun _ _ hb _ _ => Ops.idx (hrow.later hb).2 O O O (by rw [hgi]; omega) (by rw [hgi, hrk]; omega) (Az O), fun _ _ hb _ _ => Ops.ld_int (hrow.later hb) O (by omega) O O (Az O), Dr O, trivial⟩
   intro u w7 hb7 _
   have hS7 := hS6.later hb7
   rw [hgi]
   have hfold : (xss.drop (k + 1)).foldl (fun o p => push1 o (gi p (gi out i))) (push1 out' (gi (gl xss k) (gi out i))) = expand xss (gi out i) out := by
    rw [← hf, List.drop_eq_getElem_cons (show k < xss.length by rw [hR.len]; omega), List.foldl_cons, gl_mem (by rw [hR.len]; omega)]
   refine Geo O (Ops.idx (hS7.rdB 0 O).2 O O O (by omega) (by omega) (Ops.ld_bool (hS7.rdB 0 O) O (by omega) O O ?_))
   first | refine Ops.not_p rfl rfl ?_ | refine Ops.not rfl rfl ?_
   refine Gdc O ?_
   refine Cd.cond O (fun h4 => ?_) (fun h4 => ?_)
   ·have hnin : ¬ gi (gl xss k) (gi out i) ∈ out' := fun hin => by
     have := (hm'.2 _ hy.1 (by omega)).2 hin
     rw [this] at h4; cases h4
    have hpush : push1 out' (gi (gl xss k) (gi out i)) = out' ++ [gi (gl xss k) (gi out i)] := by unfold push1; rw [if_neg hnin]
    have hg7 := hg'.push hs (hp'.subset (gi_in (i := i) (by omega))) hmem
    have hp7 := hp'.trans (push1_prefix out' (gi (gl xss k) (gi out i)))
    rw [hpush] at hfold hg7 hp7
    have hlen7 := hg7.len
    simp only [List.length_append, List.length_singleton] at hlen7
    refine Gao O (Ops.idx (hS7.rdB 0 O).2 O O O (by omega) (by omega) (Ops.st_bool 0 hS7 O O O (by omega) ?_))
    intro w8 hS8
    refine Gdo O (Ops.bs1I hS8 O O O ?_)
    intro A3 w9 hS9
    refine Ops.appI 2 hS9 O (hS9.rdI 0 O) O O O (by omega) (by omega) O ?_
    intro A4 c4 w10 hS10
    refine Gdo O (Ops.add O O O (by omega) (Gdn O (tQ ?_)))
    refine ⟨(k + 1, out' ++ [gi (gl xss k) (gi out i)], A4, c4, S'.set (gi (gl xss k) (gi out i)).toNat true), by show n - (k + 1) < n - k; omega, ⟨O, by rw [List.length_append]; rfl, O, O, O, trivial⟩, ?_, by show k + 1 ≤ n; omega, hg7, hm'.push hy.1 (by omega), hp7, hfold⟩
    have h11 := hS10.tail
    simp only [List.length_append, List.length_singleton]
    exact h11
   have hin : gi (gl xss k) (gi out i) ∈ out' := (hm'.2 _ hy.1 (by omega)).1 (by simpa using h4)
   have hpush : push1 out' (gi (gl xss k) (gi out i)) = out' := by unfold push1; rw [if_pos hin]
   rw [hpush] at hfold
   refine Gao O (Ops.add O O O (by omega) (Gdn O (tQ ?_)))
   exact ⟨(k + 1, out', Ao', co', S'), by show n - (k + 1) < n - k; omega, ⟨O, O, O, O, O, trivial⟩, hS7, by show k + 1 ≤ n; omega, hg', hm', hp', hfold⟩
  refine Gax O (thenQ_x (Gfo O (Ops.add O O O (by omega) (Gdn O (tQ ?_)))))
  have hk' : k = n := by omega
  rw [hk', ← hR.len, List.drop_length, List.foldl_nil] at hf
  refine ⟨(i + 1, out', Ao', co', S'), by show N + 1 - (i + 1) < N + 1 - i; omega, ⟨O, O, O, O, trivial⟩, hS6, ?_, hg', hm', ?_⟩
  ·have := hp'.length_le; show i + 1 ≤ out'.length; omega
  show bfs xss (N + 1 - (i + 1)) (i + 1) out' = orbit N xss pt
  rw [← hb, hf]
  have e : N + 1 - i = (N + 1 - (i + 1)) + 1 := by omega
  rw [e]
  simp only [bfs]
  rw [if_pos (by omega)]
 refine Gax O (thenQ_x (Gfr O ?_))
 refine ret1_s O ?_
 rw [bfs_out (by omega)] at hb
 exact ⟨Ao, co, by rw [hb], by rw [← hb]; exact hS5.tail⟩
/-
 A statement whose order Go leaves open, with any operations that turn memory: each world's property holds till the next of them.
-/
def dsl (l : List Oper) : List Nat := l.filterMap (·.dst)
theorem filterMap_inj {α β : Type} (f : α → Option β) : ∀ (l : List α), (l.filterMap f).Nodup → ∀ (i j : Nat) (a b : α) (d : β), l[i]? = some a → l[j]? = some b → f a = some d → f b = some d → i = j
 | [], _, i, j, a, b, d, hi, _, _, _ => by simp at hi
 | x :: l, hn, i, j, a, b, d, hi, hj, ha, hb => by
  have mem : ∀ (k : Nat) (c : α), l[k]? = some c → f c = some d → d ∈ l.filterMap f := fun k c hk hc => List.mem_filterMap.2 ⟨c, List.mem_of_getElem? hk, hc⟩
  cases hx : f x with
  | none =>
   rw [List.filterMap_cons, hx] at hn
   cases i with
   | zero => simp at hi; subst hi; rw [hx] at ha; cases ha
   | succ i =>
    cases j with
    | zero => simp at hj; subst hj; rw [hx] at hb; cases hb
    | succ j => rw [filterMap_inj f l hn i j a b d (by simpa using hi) (by simpa using hj) ha hb]
  | some y =>
   rw [List.filterMap_cons, hx] at hn
   simp only [List.nodup_cons] at hn
   cases i with
   | zero =>
    simp at hi; subst hi
    rw [hx] at ha; cases ha
    cases j with
    | zero => rfl
    | succ j => exact absurd (mem j b (by simpa using hj) hb) hn.1
   | succ i =>
    cases j with
    | zero =>
     simp at hj; subst hj
     rw [hx] at hb; cases hb
     exact absurd (mem i a (by simpa using hi) ha) hn.1
    | succ j => rw [filterMap_inj f l hn.2 i j a b d (by simpa using hi) (by simpa using hj) ha hb]
def valOf (o : Oper) (e : Env) : Value := match o.dst with
 | some d => e d
 | none => undef
def isEx : Yd → Bool
 | .ex _ => true
 | .pr _ => false
def loOf (l : List Oper) (ms : List Nat) (k : Nat) : Nat := ms.countP fun m => ancOf l l.length k m
def hiOf (l : List Oper) (ms : List Nat) (k : Nat) : Nat := ms.countP fun m => !(ancOf l l.length m k) && !(Nat.beq m k)
def phOf (l : List Oper) (ms : List Nat) (k : Nat) : Nat := ms.countP fun m => Nat.beq m k || ancOf l l.length k m
def chainAt (l : List Oper) (ms : List Nat) (m : Nat) : Bool := ms.all fun m' => Nat.beq m' m || ancOf l l.length m m' || ancOf l l.length m' m
def Yd.at_ (c ph : Nat) : Yd → Value → World → Prop
 | .ex v, u, _ => u = v
 | .pr p, u, w => c = ph → p u w
theorem le_of_hi {a b c : Nat} (h : c ≤ a) (e : a = b) : c ≤ b := e ▸ h
theorem cc_of {a b c d : Nat} (h : a ≤ c) (k : c ≤ d) (e : a = b := by kernel_rfl) (f : d = b := by kernel_rfl) : c = b := by omega
section
variable {P : Program} {N : Nat} {e : Env} {w : World}
theorem upd_at (e1 : Env) (d : Nat) (v : Value) : upd e1 d v d = v := by unfold upd; rw [Nat.beq_refl]; rfl
theorem upd_ne (e1 : Env) {d j : Nat} (v : Value) (h : j ≠ d) : upd e1 d v j = e1 j := by
 have : Nat.beq j d = false := by
  cases hb : Nat.beq j d with
  | false => rfl
  | true => exact absurd (Nat.eq_of_beq_eq_true hb) h
 unfold upd; rw [this]; rfl
theorem countP_le_of {ms : List Nat} {p q : Nat → Bool} (h : ∀ m ∈ ms, p m = true → q m = true) : ms.countP p ≤ ms.countP q := List.countP_mono_left h
end
/-
 As the statement whose order Go leaves open, with properties of two operations' values together.
-/
inductive Ye where
 | ex (v : Value)
 | pr (p : Value → World → Prop)
 | p2 (j : Nat) (p : Value → Value → World → Prop)
 | al (q : Value → Prop) (p : Value → World → Prop)
def vl (l : List Oper) (e : Env) (k : Nat) : Value := match l[k]? with
 | some o => valOf o e
 | none => undef
def Ye.holds (uu : Nat → Value) : Ye → Value → World → Prop
 | .ex v, u, _ => u = v
 | .pr p, u, w => p u w
 | .p2 j p, u, w => p (uu j) u w
 | .al q p, u, w => q u ∧ p u w
def Ye.lasts : Ye → Prop
 | .ex _ => True
 | .pr p => ∀ v w w', p v w → Below w.heap.size w w' → p v w'
 | .p2 _ p => ∀ a v w w', p a v w → Below w.heap.size w w' → p a v w'
 | .al _ p => ∀ v w w', p v w → Below w.heap.size w w' → p v w'
theorem Ye.lasts_ex (v : Value) : (Ye.ex v).lasts := True.intro
theorem ly {v : Value} {l : List Ye} (h : ∀ y ∈ l, y.lasts) : ∀ y ∈ Ye.ex v :: l, y.lasts := List.forall_mem_cons.2 ⟨True.intro, h⟩
theorem Ye.lasts_pr {p : Value → World → Prop} (h : ∀ v w w', p v w → Below w.heap.size w w' → p v w') : (Ye.pr p).lasts := h
abbrev yU : Ye := .ex undef
abbrev yI (i : Int) : Ye := .ex (.int .i64 i)
abbrev yB (b : Bool) : Ye := .ex (.bool b)
abbrev yP (a : Option Addr) : Ye := .ex (.pointer a)
abbrev yS (a : Option Addr) (n c : Nat) : Ye := .ex (.slice a n c)
def isExP : Ye → Bool
 | .ex _ => true
 | .pr _ => false
 | .p2 .. => false
 | .al .. => false
def drawOkP (N : Nat) (l : List Oper) (ys : List Ye) (ms : List Nat) : Bool :=
 l.all (fun o => match o.dst with | some d => Nat.blt d N | none => true) && decide ((dsl l).Nodup) && (l.zipIdx.all fun p => (aft p.1).all fun ed => Nat.blt ed.on p.2) && Nat.beq l.length ys.length && (l.zip ys).all (fun p => p.1.dst.isSome || !isExP p.2) && decide ms.Nodup && ms.all (fun m => Nat.blt m l.length) && (ys.zipIdx.all fun p => !(isExP p.1) || !(ms.contains p.2)) && (ys.zipIdx.all fun p => match p.1 with | .p2 j _ => ancOf l l.length p.2 j && Nat.blt j l.length | _ => true)
def Ye.at_ (c ph : Nat) (uu : Nat → Value) : Ye → Value → World → Prop
 | .ex v, u, _ => u = v
 | .pr p, u, w => c = ph → p u w
 | .p2 j p, u, w => c = ph → p (uu j) u w
 | .al q p, u, w => q u ∧ (c = ph → p u w)
def endFrP : List Oper → List Ye → (Nat → Value) → Nat → List (Nat × Value)
 | o :: l, y :: ys, u, i => match o.dst, y with
  | some d, .ex v => (d, v) :: endFrP l ys u (i + 1)
  | some d, .pr _ => (d, u i) :: endFrP l ys u (i + 1)
  | some d, .p2 .. => (d, u i) :: endFrP l ys u (i + 1)
  | some d, .al .. => (d, u i) :: endFrP l ys u (i + 1)
  | none, _ => endFrP l ys u (i + 1)
 | _, _, _, _ => []
def depFrP (l : List Oper) (ys : List Ye) : List Edge → List (Nat × Value)
 | [] => []
 | ed :: r => match ys[ed.on]?, (l[ed.on]?).bind (·.dst) with
  | some (.ex v), some d => (d, v) :: depFrP l ys r
  | _, _ => depFrP l ys r
section
variable {P : Program} {N : Nat} {e : Env} {w : World}
def AfterP (o : Oper) (y : Ye) (uu : Nat → Value) (e1 : Env) (w1 : World) : Env → World → Prop := fun e2 w2 => Below w1.heap.size w1 w2 ∧ y.holds uu (valOf o e2) w2 ∧ ∀ j, o.dst ≠ some j → e2 j = e1 j
def AfterU (o : Oper) (y : Ye) (uu : Nat → Value) (e1 : Env) : Env → World → Prop := fun e2 w2 => y.holds uu (valOf o e2) w2 ∧ ∀ j, o.dst ≠ some j → e2 j = e1 j
theorem AfterP.dn {o : Oper} {y : Ye} {uu : Nat → Value} {e1 : Env} {w1 w2 : World} {d : Nat} {v : Value} (hd : o.dst = some d) (hb : Below w1.heap.size w1 w2) (hv : y.holds uu v w2) : AfterP o y uu e1 w1 (upd e1 d v) w2 := by
 refine ⟨hb, ?_, fun j hj => upd_ne e1 v (fun h => hj (by rw [hd, h]))⟩
 unfold valOf; rw [hd]
 show y.holds uu (upd e1 d v d) w2
 rw [upd_at]; exact hv
theorem p0_ {o : Oper} {y : Ye} {uu : Nat → Value} {e1 : Env} {w1 : World} {d : Nat} {v : Value} (hd : o.dst = some d) (hv : y.holds uu v w1) : AfterP o y uu e1 w1 (upd e1 d v) w1 := AfterP.dn hd (Below.refl _ _) hv
theorem AfterU.dn {o : Oper} {y : Ye} {uu : Nat → Value} {e1 : Env} {w2 : World} {d : Nat} {v : Value} (hd : o.dst = some d) (hv : y.holds uu v w2) : AfterU o y uu e1 (upd e1 d v) w2 := by
 refine ⟨?_, fun j hj => upd_ne e1 v (fun h => hj (by rw [hd, h]))⟩
 unfold valOf; rw [hd]
 show y.holds uu (upd e1 d v d) w2
 rw [upd_at]; exact hv
theorem AfterU.st {o : Oper} {y : Ye} {uu : Nat → Value} {e1 : Env} {w2 : World} (hd : o.dst = none) (hv : y.holds uu undef w2) : AfterU o y uu e1 e1 w2 := by
 refine ⟨?_, fun j _ => O⟩
 unfold valOf; rw [hd]; exact hv
def StepP (P : Program) (N : Nat) (l : List Oper) (ys : List Ye) (ms : List Nat) (e : Env) (w : World) (i : Nat) (o : Oper) : Prop :=
 ∀ (e1 : Env) (w1 : World) (c : Nat), loOf l ms i ≤ c → c ≤ hiOf l ms i → (c = 0 → Below w.heap.size w w1) → (∀ (j : Nat) (y : Ye) (o' : Oper), ancOf l l.length i j = true → ys[j]? = some y → l[j]? = some o' → y.at_ c (phOf l ms j) (vl l e1) (valOf o' e1) w1) → (∀ (j : Nat) (o' : Oper), l[j]? = some o' → ancOf l l.length j i = true → valOf o' e1 = valOf o' e) → (∀ (m : Nat) (y : Ye) (o' : Oper), memb ms m = true → chainAt l ms m = true → phOf l ms m = c → ys[m]? = some y → l[m]? = some o' → y.at_ c (phOf l ms m) (vl l e1) (valOf o' e1) w1) →
  bif memb ms i then Ops P N l.toArray (AfterU o (ys.getD i (.pr fun _ _ => True)) (vl l e1) (ext (mix e1 e (dsl l)) (depFrP l ys (aft o)))) [o] (ext (mix e1 e (dsl l)) (depFrP l ys (aft o))) w1
  else Ops P N l.toArray (AfterP o (ys.getD i (.pr fun _ _ => True)) (vl l e1) (ext (mix e1 e (dsl l)) (depFrP l ys (aft o))) w1) [o] (ext (mix e1 e (dsl l)) (depFrP l ys (aft o))) w1
theorem DkP {ops : Array Oper} {o : Oper} {y : Ye} {uu : Nat → Value} {e1 : Env} {w1 : World} {d : Nat} {v : Value} (h : stpG ops N e1 o = some (d, v)) (hv : y.holds uu v w1) : Ops P N ops (AfterP o y uu e1 w1) [o] e1 w1 := .stpG h (AfterP.dn (stpG_dst h) (Below.refl _ _) hv)
theorem AzP {ops : Array Oper} {o : Oper} {y : Ye} {uu : Nat → Value} {e1 : Env} {w1 : World} {d : Nat} {v : Value} (hd : o.dst = some d) (hv : y.holds uu v w1) : Ops P N ops (AfterP o y uu e1 w1) [] (upd e1 d v) w1 := Ops.n (AfterP.dn hd (Below.refl _ _) hv)
theorem DrP {l : List Oper} {ys : List Ye} {ms : List Nat} {i : Nat} {o : Oper} {d : Nat} {v : Value} (h : ((memb ms i, (ys.getD i (.pr fun _ _ => True))), fun e1 => stpG l.toArray N (ext (mix e1 e (dsl l)) (depFrP l ys (aft o))) o) = ((false, .ex v), fun _ => some (d, v))) : StepP P N l ys ms e w i o := fun e1 w1 c _ _ _ _ _ _ => by
 have h1 := congrFun (Prod.mk.inj h).2 e1
 rw [(Prod.mk.inj (Prod.mk.inj h).1).1, (Prod.mk.inj (Prod.mk.inj h).1).2]
 exact DkP h1 O
theorem cP {l : List Oper} {ys : List Ye} {ms : List Nat} {i : Nat} {o : Oper} (h : ∀ (e1 : Env) (w1 : World), Below w.heap.size w w1 → (∀ (j : Nat) (y : Ye) (o' : Oper), ancOf l l.length i j = true → ys[j]? = some y → l[j]? = some o' → y.at_ 0 (phOf l ms j) (vl l e1) (valOf o' e1) w1) → (∀ (j : Nat) (o' : Oper), l[j]? = some o' → ancOf l l.length j i = true → valOf o' e1 = valOf o' e) → (∀ (m : Nat) (y : Ye) (o' : Oper), memb ms m = true → chainAt l ms m = true → phOf l ms m = 0 → ys[m]? = some y → l[m]? = some o' → y.at_ 0 (phOf l ms m) (vl l e1) (valOf o' e1) w1) →
  Ops P N l.toArray (AfterP o (ys.getD i (.pr fun _ _ => True)) (vl l e1) (ext (mix e1 e (dsl l)) (depFrP l ys (aft o))) w1) [o] (ext (mix e1 e (dsl l)) (depFrP l ys (aft o))) w1) (ht : memb ms i = false := by kernel_rfl) (hh : hiOf l ms i = 0 := by kernel_rfl) : StepP P N l ys ms e w i o := fun e1 w1 c _ hhi hb hp hun hq => by
 obtain rfl : c = 0 := by omega
 rw [ht]; exact h e1 w1 (hb rfl) hp hun hq
theorem cPT {l : List Oper} {ys : List Ye} {ms : List Nat} {i : Nat} {o : Oper} (h : ∀ (e1 : Env) (w1 : World), Below w.heap.size w w1 → (∀ (j : Nat) (y : Ye) (o' : Oper), ancOf l l.length i j = true → ys[j]? = some y → l[j]? = some o' → y.at_ 0 (phOf l ms j) (vl l e1) (valOf o' e1) w1) → (∀ (j : Nat) (o' : Oper), l[j]? = some o' → ancOf l l.length j i = true → valOf o' e1 = valOf o' e) → (∀ (m : Nat) (y : Ye) (o' : Oper), memb ms m = true → chainAt l ms m = true → phOf l ms m = 0 → ys[m]? = some y → l[m]? = some o' → y.at_ 0 (phOf l ms m) (vl l e1) (valOf o' e1) w1) →
  Ops P N l.toArray (AfterU o (ys.getD i (.pr fun _ _ => True)) (vl l e1) (ext (mix e1 e (dsl l)) (depFrP l ys (aft o)))) [o] (ext (mix e1 e (dsl l)) (depFrP l ys (aft o))) w1) (ht : memb ms i = true := by kernel_rfl) (hh : hiOf l ms i = 0 := by kernel_rfl) : StepP P N l ys ms e w i o := fun e1 w1 c _ hhi hb hp hun hq => by
 obtain rfl : c = 0 := by omega
 rw [ht]; exact h e1 w1 (hb rfl) hp hun hq
theorem dP {l : List Oper} {ys : List Ye} {ms : List Nat} {i : Nat} {o : Oper} (b : Nat) (h : ∀ (e1 : Env) (w1 : World), (∀ (j : Nat) (y : Ye) (o' : Oper), ancOf l l.length i j = true → ys[j]? = some y → l[j]? = some o' → y.at_ b (phOf l ms j) (vl l e1) (valOf o' e1) w1) → (∀ (j : Nat) (o' : Oper), l[j]? = some o' → ancOf l l.length j i = true → valOf o' e1 = valOf o' e) → (∀ (m : Nat) (y : Ye) (o' : Oper), memb ms m = true → chainAt l ms m = true → phOf l ms m = b → ys[m]? = some y → l[m]? = some o' → y.at_ b (phOf l ms m) (vl l e1) (valOf o' e1) w1) →
  Ops P N l.toArray (AfterP o (ys.getD i (.pr fun _ _ => True)) (vl l e1) (ext (mix e1 e (dsl l)) (depFrP l ys (aft o))) w1) [o] (ext (mix e1 e (dsl l)) (depFrP l ys (aft o))) w1) (ht : memb ms i = false := by kernel_rfl) (hl : loOf l ms i = b := by kernel_rfl) (hh : hiOf l ms i = b := by kernel_rfl) : StepP P N l ys ms e w i o := fun e1 w1 c hlo hhi _ hp hun hq => by
 obtain rfl : c = b := by omega
 rw [ht]; exact h e1 w1 hp hun hq
theorem dPT {l : List Oper} {ys : List Ye} {ms : List Nat} {i : Nat} {o : Oper} (b : Nat) (h : ∀ (e1 : Env) (w1 : World), (∀ (j : Nat) (y : Ye) (o' : Oper), ancOf l l.length i j = true → ys[j]? = some y → l[j]? = some o' → y.at_ b (phOf l ms j) (vl l e1) (valOf o' e1) w1) → (∀ (j : Nat) (o' : Oper), l[j]? = some o' → ancOf l l.length j i = true → valOf o' e1 = valOf o' e) → (∀ (m : Nat) (y : Ye) (o' : Oper), memb ms m = true → chainAt l ms m = true → phOf l ms m = b → ys[m]? = some y → l[m]? = some o' → y.at_ b (phOf l ms m) (vl l e1) (valOf o' e1) w1) →
  Ops P N l.toArray (AfterU o (ys.getD i (.pr fun _ _ => True)) (vl l e1) (ext (mix e1 e (dsl l)) (depFrP l ys (aft o)))) [o] (ext (mix e1 e (dsl l)) (depFrP l ys (aft o))) w1) (ht : memb ms i = true := by kernel_rfl) (hl : loOf l ms i = b := by kernel_rfl) (hh : hiOf l ms i = b := by kernel_rfl) : StepP P N l ys ms e w i o := fun e1 w1 c hlo hhi _ hp hun hq => by
 obtain rfl : c = b := by omega
 rw [ht]; exact h e1 w1 hp hun hq
theorem aP {l : List Oper} {ys : List Ye} {ms : List Nat} {i : Nat} {o : Oper} (h : ∀ (e1 : Env) (w1 : World), Ops P N l.toArray (AfterP o (ys.getD i (.pr fun _ _ => True)) (vl l e1) (ext (mix e1 e (dsl l)) (depFrP l ys (aft o))) w1) [o] (ext (mix e1 e (dsl l)) (depFrP l ys (aft o))) w1) (ht : memb ms i = false := by kernel_rfl) : StepP P N l ys ms e w i o := fun e1 w1 c _ _ _ _ _ _ => by
 rw [ht]; exact h e1 w1
def StepsP (P : Program) (N : Nat) (l : List Oper) (ys : List Ye) (ms : List Nat) (e : Env) (w : World) : Nat → List Oper → Prop
 | _, [] => True
 | i, o :: r => StepP P N l ys ms e w i o ∧ StepsP P N l ys ms e w (i + 1) r
theorem StepsP.get {l : List Oper} {ys : List Ye} {ms : List Nat} : ∀ {r : List Oper} {i : Nat}, StepsP P N l ys ms e w i r → ∀ k o, r[k]? = some o → StepP P N l ys ms e w (i + k) o
 | [], _, _, k, o, hk => by simp at hk
 | x :: r, i, h, 0, o, hk => by simp at hk; subst hk; exact h.1
 | x :: r, i, h, k + 1, o, hk => by
  have := StepsP.get h.2 k o (by simpa using hk)
  rw [show i + 1 + k = i + (k + 1) by omega] at this
  exact this
theorem depFrP_mt {l : List Oper} {ys : List Ye} {e1 : Env} : ∀ (af : List Edge), (∀ ed ∈ af, ∀ (v : Value) (o' : Oper), ys[ed.on]? = some (.ex v) → l[ed.on]? = some o' → valOf o' e1 = v) → Mt e1 (depFrP l ys af)
 | [], _ => trivial
 | ed :: r, h => by
  have hr := depFrP_mt r (fun x hx => h x (List.mem_cons_of_mem _ hx))
  unfold depFrP
  split
  ·rename_i v d hy hd
   refine ⟨?_, hr⟩
   cases ho : l[ed.on]? with
   | none => rw [ho] at hd; cases hd
   | some o' =>
    rw [ho] at hd
    have hd' : o'.dst = some d := hd
    have := h ed (by simp) v o' hy ho
    unfold valOf at this
    rw [hd'] at this
    exact this
  ·exact hr
theorem endFrP_eq {e1 e : Env} : ∀ (l : List Oper) (ys : List Ye) (i : Nat), l.length = ys.length → (dsl l).Nodup → (∀ (k : Nat) (v : Value) (o : Oper), ys[k]? = some (.ex v) → l[k]? = some o → valOf o e1 = v ∨ o.dst = none) →
  ∃ u : Nat → Value, ext e (endFrP l ys u i) = mix e1 e (dsl l) ∧ (∀ (k : Nat) (o : Oper), l[k]? = some o → u (i + k) = valOf o e1)
 | [], [], i, _, _, _ => ⟨fun _ => undef, by funext j; rfl, fun k o h => by simp at h⟩
 | [], y :: ys, i, hl, _, _ => by simp at hl
 | o :: l, [], i, hl, _, _ => by simp at hl
 | o :: l, y :: ys, i, hl, hn, h => by
  have hn' : (dsl l).Nodup := by
   unfold dsl at hn ⊢
   rw [List.filterMap_cons] at hn
   split at hn
   ·exact hn
   ·exact (List.nodup_cons.1 hn).2
  obtain ⟨u, hu, hu2⟩ := endFrP_eq (e1 := e1) (e := e) l ys (i + 1) (by simpa using hl) hn' (fun k v o' hy ho => h (k + 1) v o' (by simpa using hy) (by simpa using ho))
  have cng : ∀ (l : List Oper) (ys : List Ye) (i : Nat) (u u' : Nat → Value), (∀ k, i ≤ k → u k = u' k) → endFrP l ys u i = endFrP l ys u' i := by
   intro l
   induction l with
   | nil => intros; rfl
   | cons o l ih =>
    intro ys i u u' hk
    cases ys with
    | nil => rfl
    | cons y ys =>
     have h1 := ih ys (i + 1) u u' (fun k hk' => hk k (by omega))
     simp only [endFrP]
     rw [h1, hk i (by omega)]
  have hc := cng l ys (i + 1) (fun k => if k = i then valOf o e1 else u k) u (fun k hk => by show (if k = i then _ else _) = _; rw [if_neg (by omega)])
  refine ⟨fun k => if k = i then valOf o e1 else u k, ?_, fun k o' hk => ?_⟩
  ·cases hd : o.dst with
   | none =>
    have e1' : dsl (o :: l) = dsl l := by unfold dsl; rw [List.filterMap_cons, hd]
    simp only [endFrP, hd, hc, hu, e1']
   | some d =>
    have e1' : dsl (o :: l) = d :: dsl l := by unfold dsl; rw [List.filterMap_cons, hd]
    have hval : valOf o e1 = e1 d := by unfold valOf; rw [hd]
    have hstep : ∀ v, v = e1 d → upd (mix e1 e (dsl l)) d v = mix e1 e (d :: dsl l) := by
     intro v hv
     funext j
     simp only [upd, mix, memb]
     cases hb : Nat.beq j d with
     | true => rw [Nat.eq_of_beq_eq_true hb, hv]; rfl
     | false => rfl
    rw [e1']
    cases y with
    | ex v =>
     have h0 := h 0 v o O O
     simp only [endFrP, hd, ext, hc, hu]
     refine hstep v ?_
     rcases h0 with h0 | h0
     ·rw [← h0, hval]
     ·rw [hd] at h0; cases h0
    | pr p =>
     simp only [endFrP, hd, ext, hc, hu, if_pos]
     exact hstep _ hval
    | p2 j p =>
     simp only [endFrP, hd, ext, hc, hu, if_pos]
     exact hstep _ hval
    | al q p =>
     simp only [endFrP, hd, ext, hc, hu, if_pos]
     exact hstep _ hval
  ·cases k with
   | zero => simp at hk; subst hk; simp
   | succ k =>
    have := hu2 k o' (by simpa using hk)
    show (if i + (k + 1) = i then _ else u (i + (k + 1))) = _
    rw [if_neg (by omega), ← this]; congr 1; omega
theorem Cd.drawP {id : Nat} {l : List Oper} {Q : Post} (ms : List Nat) (ys : List Ye) (hm : P.follows .mixedOrders = true) (hok : drawOkP N l ys ms = true) (hlasts : ∀ y ∈ ys, y.lasts)
    (hsteps : StepsP P N l ys ms e w 0 l) (hend : ∀ u w1, (ms = [] → Below w.heap.size w w1) → (∀ (k : Nat) (p : Value → World → Prop), ys[k]? = some (Ye.pr p) → phOf l ms k = ms.length → p (u k) w1) → (∀ (k j : Nat) (p : Value → Value → World → Prop), ys[k]? = some (Ye.p2 j p) → phOf l ms k = ms.length → p (u j) (u k) w1) → (∀ (k : Nat) (q : Value → Prop) (p : Value → World → Prop), ys[k]? = some (Ye.al q p) → q (u k) ∧ (phOf l ms k = ms.length → p (u k) w1)) → Q .normal (ext e (endFrP l ys u 0)) w1) : Cd P N (.region id l.toArray true) Q e w := .mk' fun a ha => by
  simp only [drawOkP, Bool.and_eq_true, List.all_eq_true, decide_eq_true_eq] at hok
  obtain ⟨⟨⟨⟨⟨⟨⟨⟨h1, h2⟩, h3⟩, hlen⟩, hnone⟩, hmn⟩, hml⟩, hmy⟩, hp2⟩ := hok
  have hp2' : ∀ (k j : Nat) (p : Value → Value → World → Prop), ys[k]? = some (.p2 j p) → ancOf l l.length k j = true ∧ j < l.length := by
    intro k j p hk
    have := hp2 (.p2 j p, k) (by rw [List.mem_iff_getElem?]; exact ⟨k, by simp [hk]⟩)
    simpa [Nat.blt_eq] using this
  have hlen' : l.length = ys.length := Nat.eq_of_beq_eq_true hlen
  have hback : ∀ (i : Nat) (o : Oper), l[i]? = some o → ∀ ed ∈ aft o, ed.on < i := by
    intro i o ho ed hed
    have := h3 (o, i) (by
      obtain ⟨hi, hio⟩ := List.getElem?_eq_some_iff.1 ho
      rw [List.mem_iff_getElem?]
      exact ⟨i, by simp [ho]⟩)
    simpa [Nat.blt_eq] using this ed hed
  have hdN : ∀ (i : Nat) (o : Oper) (d : Nat), l[i]? = some o → o.dst = some d → d < N := by
    intro i o d ho hd
    have := h1 o (List.mem_of_getElem? ho)
    rw [hd] at this
    simpa [Nat.blt_eq] using this
  have hexd : ∀ (i : Nat) (o : Oper) (v : Value), l[i]? = some o → ys[i]? = some (.ex v) → o.dst ≠ none := by
    intro i o v ho hy hd
    have := hnone (o, .ex v) (by
      rw [List.mem_iff_getElem?]
      exact ⟨i, by rw [List.getElem?_zip_eq_some]; exact ⟨ho, hy⟩⟩)
    simp [hd, isExP] at this
  refine wp_region_any hm ?_
  let cnt : Array Bool → Nat := fun listed => ms.countP fun m => listed.getD m false
  have key : ∀ (fuel : Nat) (listed : Array Bool) (a1 : Act) (e1 : Env) (w1 : World), Rep N a1 e1 → (cnt listed = 0 → Below w.heap.size w w1) → (∀ j, memb (dsl l) j = false → e1 j = e j) → listed.size = l.length →
      (∀ (i : Nat) (y : Ye) (o : Oper), listed.getD i false = true → ys[i]? = some y → l[i]? = some o → y.at_ (cnt listed) (phOf l ms i) (vl l e1) (valOf o e1) w1) → (∀ (i : Nat) (o : Oper), listed.getD i false = true → l[i]? = some o → ∀ ed ∈ aft o, listed.getD ed.on false = true) → (∀ (i : Nat) (o : Oper), listed.getD i false = false → l[i]? = some o → valOf o e1 = valOf o e) → (l.length - fuel ≤ (List.range l.length).countP fun i => listed.getD i false) →
      wpAny P .any l.toArray (low N Q) fuel listed a1 w1 := by
    have hfin : ∀ (listed : Array Bool) (a1 : Act) (e1 : Env) (w1 : World), Rep N a1 e1 → (cnt listed = 0 → Below w.heap.size w w1) → (∀ j, memb (dsl l) j = false → e1 j = e j) →
        (∀ (i : Nat) (y : Ye) (o : Oper), listed.getD i false = true → ys[i]? = some y → l[i]? = some o → y.at_ (cnt listed) (phOf l ms i) (vl l e1) (valOf o e1) w1) → (∀ i, i < l.length → listed.getD i false = true) → low N Q .normal a1 w1 := by
      intro listed a1 e1 w1 hr hb hag hS hall
      have hcnt : cnt listed = ms.length := by
        show ms.countP _ = ms.length
        rw [List.countP_eq_length]
        intro m hmm
        exact hall m (by simpa [Nat.blt_eq] using hml m hmm)
      obtain ⟨u, hu, hu2⟩ := endFrP_eq (e1 := e1) (e := e) l ys 0 hlen' h2 (fun k v o hy ho => .inl (hS k _ o (hall k (List.getElem?_eq_some_iff.1 ho).1) hy ho))
      refine ⟨e1, hr, ?_⟩
      have := hend u w1 (fun h0 => hb (by rw [hcnt, h0]; rfl)) (fun k p hk hph => by
        have hkl : k < l.length := by rw [hlen']; exact (List.getElem?_eq_some_iff.1 hk).1
        have h5 := hS k _ l[k] (hall k hkl) hk (List.getElem?_eq_getElem hkl)
        have h6 := hu2 k l[k] (List.getElem?_eq_getElem hkl)
        rw [Nat.zero_add] at h6
        rw [h6]; exact h5 (by rw [hcnt, hph])) (fun k j p hk hph => by
        have hkl : k < l.length := by rw [hlen']; exact (List.getElem?_eq_some_iff.1 hk).1
        have hj := hp2' k j p hk
        have h5 := hS k _ l[k] (hall k hkl) hk (List.getElem?_eq_getElem hkl)
        have h6 := hu2 k l[k] (List.getElem?_eq_getElem hkl)
        have h7 := hu2 j l[j] (List.getElem?_eq_getElem hj.2)
        rw [Nat.zero_add] at h6 h7
        have h8 : vl l e1 j = valOf l[j] e1 := by unfold vl; rw [List.getElem?_eq_getElem hj.2]
        rw [h6, h7, ← h8]; exact h5 (by rw [hcnt, hph])) (fun k q p hk => by
        have hkl : k < l.length := by rw [hlen']; exact (List.getElem?_eq_some_iff.1 hk).1
        have h5 := hS k _ l[k] (hall k hkl) hk (List.getElem?_eq_getElem hkl)
        have h6 := hu2 k l[k] (List.getElem?_eq_getElem hkl)
        rw [Nat.zero_add] at h6
        rw [h6]; exact ⟨h5.1, fun hph => h5.2 (by rw [hcnt, hph])⟩)
      rw [hu, mix_eq hag] at this
      exact this
    have hready : ∀ (listed : Array Bool), listed.size = l.length → Region.ready .any l.toArray listed = [] → ∀ i, i < l.length → listed.getD i false = true := by
      intro listed hsz hnil i
      induction i using Nat.strongRecOn with
      | _ i ih =>
        intro hi
        cases hli : listed.getD i false with
        | true => rfl
        | false =>
          exfalso
          have : i ∈ Region.ready .any l.toArray listed := by
            rw [mem_ready]
            refine ⟨?_, l[i], by simp [hi], fun ed hed hbd => ih ed.on (hback i _ (List.getElem?_eq_getElem hi) ed (mem_aft.2 ⟨hed, hbd⟩)) (by have := hback i _ (List.getElem?_eq_getElem hi) ed (mem_aft.2 ⟨hed, hbd⟩); omega)⟩
            rw [Array.getD_eq_getD_getElem?, Array.getElem?_eq_getElem (by omega)] at hli ⊢
            exact hli
          rw [hnil] at this
          cases this
    intro fuel
    induction fuel with
    | zero =>
      intro listed a1 e1 w1 hr hb hag hsz hS hcl hun0 hcnt
      have hall : ∀ i, i < l.length → listed.getD i false = true := by
        have h4 : (List.range l.length).countP (fun i => listed.getD i false) = (List.range l.length).length := by
          have := List.countP_le_length (p := fun i => listed.getD i false) (l := List.range l.length)
          simp at this hcnt ⊢; omega
        rw [List.countP_eq_length] at h4
        intro i hi
        exact h4 i (by simpa using hi)
      refine ⟨?_, hfin listed a1 e1 w1 hr hb hag hS hall⟩
      rw [List.eq_nil_iff_forall_not_mem]
      intro i hi
      obtain ⟨h5, o, ho, _⟩ := mem_ready.1 hi
      have hil : i < l.length := by
        rcases Nat.lt_or_ge i l.length with h | h
        · exact h
        · simp [List.getElem?_eq_none h] at ho
      have h6 := hall i hil
      rw [Array.getD_eq_getD_getElem?, Array.getElem?_eq_getElem (by omega)] at h5 h6
      simp at h5 h6
      rw [h5] at h6; cases h6
    | succ fuel ih =>
      intro listed a1 e1 w1 hr hb hag hsz hS hcl hun0 hcnt
      refine ⟨fun hnil => hfin listed a1 e1 w1 hr hb hag hS (hready listed hsz hnil), fun i hi => ?_⟩
      obtain ⟨hun, o, ho, haf⟩ := mem_ready.1 hi
      have ho' : l[i]? = some o := by simpa using ho
      have hil : i < l.length := (List.getElem?_eq_some_iff.1 ho').1
      have hrd : ∀ ed ∈ aft o, listed.getD ed.on false = true := fun ed hed => haf ed (mem_aft.1 hed).1 (mem_aft.1 hed).2
      have hun' : listed.getD i false = false := by
        have h5 := hun
        rw [Array.getD_eq_getD_getElem?, Array.getElem?_eq_getElem (by omega)] at h5 ⊢
        exact h5
      have hgs : ∀ k, (listed.setIfInBounds i true).getD k false = if k = i then true else listed.getD k false := by
        intro k
        rw [Array.getD_eq_getD_getElem?, Array.getElem?_setIfInBounds]
        by_cases hki : k = i
        · subst hki; rw [if_pos rfl, if_pos (by omega), if_pos rfl]; rfl
        · rw [if_neg (fun e => hki e.symm), if_neg hki, ← Array.getD_eq_getD_getElem?]
      have hlo : loOf l ms i ≤ cnt listed := countP_le_of fun m _ h => ancOf_ready hcl ho' hrd _ _ h
      have hhi : cnt listed ≤ hiOf l ms i := countP_le_of fun m _ h => by
        have hne : Nat.beq m i = false := by
          cases hb : Nat.beq m i with
          | false => rfl
          | true => rw [Nat.eq_of_beq_eq_true hb, hun'] at h; cases h
        have han : ancOf l l.length m i = false := by
          cases hb : ancOf l l.length m i with
          | false => rfl
          | true => have := ancOf_listed hcl _ _ _ hb h; rw [hun'] at this; cases this
        simp [hne, han]
      have hph : ∀ (j : Nat), listed.getD j false = true → phOf l ms j ≤ cnt listed := fun j hj => countP_le_of fun m _ h => by
        rw [Bool.or_eq_true] at h
        rcases h with h | h
        · rw [Nat.eq_of_beq_eq_true h]; exact hj
        · exact ancOf_listed hcl _ _ _ h hj
      have hst := hsteps.get i o ho' e1 w1 (cnt listed)
      rw [Nat.zero_add] at hst
      have hst := hst hlo hhi hb (fun j y o' han hy hoj => hS j y o' (ancOf_ready hcl ho' hrd _ _ han) hy hoj) (fun j o' hj han => by
        refine hun0 j o' ?_ hj
        cases hlj : listed.getD j false with
        | false => rfl
        | true => have := ancOf_listed hcl _ _ _ han hlj; rw [hun'] at this; cases this) (fun m y o' hm hch hphm hy hom => by
        refine hS m y o' ?_ hy hom
        cases hlm : listed.getD m false with
        | true => rfl
        | false =>
          exfalso
          have h8 := countP_one (fun k => listed.getD k false) (fun k => if k = m then true else listed.getD k false) m hlm (fun k => O) ms hmn (memb_iff.1 hm)
          have h9 : ms.countP (fun k => if k = m then true else listed.getD k false) ≤ phOf l ms m := countP_le_of fun m' hm' h => by
            by_cases e : m' = m
            · rw [e, Nat.beq_refl]; rfl
            · rw [if_neg e] at h
              simp only [chainAt, List.all_eq_true] at hch
              have h10 := hch m' hm'
              cases h11 : ancOf l l.length m m' with
              | true => rw [Bool.or_true]
              | false =>
                rw [h11, Bool.or_false, Bool.or_eq_true] at h10
                rcases h10 with h10 | h10
                · exact absurd (Nat.eq_of_beq_eq_true h10) e
                · have := ancOf_listed hcl _ _ _ h10 h
                  rw [hlm] at this; cases this
          have h12 : ms.countP (fun k => listed.getD k false) = cnt listed := O
          omega)
      rw [mix_eq hag, ext_of_mt (depFrP_mt (aft o) (fun ed hed v o' hy hoj => hS ed.on _ o' (hrd ed hed) hy hoj))] at hst
      let turns : Prop := memb ms i = true
      let KK : Env → World → Prop := fun e2 w2 => (memb ms i = false → Below w1.heap.size w1 w2) ∧ (ys.getD i (.pr fun _ _ => True)).holds (vl l e1) (valOf o e2) w2 ∧ ∀ j, o.dst ≠ some j → e2 j = e1 j
      have hwl' : ∃ K : Env → World → Prop, (∀ e2 w2, K e2 w2 → KK e2 w2) ∧ Ops P N l.toArray K [o] e1 w1 := by
        cases hmi : memb ms i with
        | true =>
          rw [hmi] at hst
          exact ⟨_, fun e2 w2 h => ⟨fun h0 => (by rw [hmi] at h0; cases h0), h.1, h.2⟩, hst⟩
        | false =>
          rw [hmi] at hst
          exact ⟨_, fun e2 w2 h => ⟨fun _ => h.1, h.2.1, h.2.2⟩, hst⟩
      obtain ⟨K, hKK, hst'⟩ := hwl'
      have hwl := hst'.run a1 hr
      have hcnt' : cnt (listed.setIfInBounds i true) = if memb ms i = true then cnt listed + 1 else cnt listed := by
        show ms.countP _ = _
        by_cases hmi : memb ms i = true
        · rw [if_pos hmi]
          exact countP_one (fun m => listed.getD m false) (fun m => (listed.setIfInBounds i true).getD m false) i hun' hgs ms hmn (memb_iff.1 hmi)
        · rw [if_neg hmi]
          refine List.countP_congr fun m hmm => ?_
          rw [hgs, if_neg (fun e => hmi (memb_iff.2 (by rw [← e]; exact hmm)))]
      have hnext : ∀ a2 w2, (∃ e2, Rep N a2 e2 ∧ K e2 w2) → wpAny P .any l.toArray (low N Q) fuel (listed.setIfInBounds i true) a2 w2 := by
        intro a2 w2 ⟨e2, hr2, hK2⟩
        obtain ⟨hbl, hy2, hag2⟩ := hKK _ _ hK2
        have hother : ∀ (k : Nat) (o' : Oper), l[k]? = some o' → k ≠ i → valOf o' e2 = valOf o' e1 := by
          intro k o' hok hki
          unfold valOf
          cases hd : o'.dst with
          | none => rfl
          | some d => exact hag2 d (fun h => hki (filterMap_inj _ l h2 k i o' o d hok ho' hd h))
        have hvl : ∀ j, j ≠ i → vl l e2 j = vl l e1 j := by
          intro j hj
          unfold vl
          cases hoj : l[j]? with
          | none => rfl
          | some o' => exact hother j o' hoj hj
        refine ih _ a2 e2 w2 hr2 (fun h0 => ?_) (fun j hj => ?_) (by simpa using hsz) (fun k y o' hk hy hok => ?_) (fun k o' hk hok ed hed => ?_) (fun k o' hk hok => ?_) ?_
        · rw [hcnt'] at h0
          by_cases hmi : memb ms i = true
          · rw [if_pos hmi] at h0; omega
          · rw [if_neg hmi] at h0
            have := hbl (by simpa using hmi)
            exact (hb h0).trans (this.mono (hb h0).size)
        · have hne : o.dst ≠ some j := by
            intro hd
            have : memb (dsl l) j = true := by rw [memb_iff]; exact List.mem_filterMap.2 ⟨o, List.mem_of_getElem? ho', hd⟩
            rw [this] at hj; cases hj
          rw [hag2 j hne]; exact hag j hj
        · by_cases hki : k = i
          · subst hki
            rw [ho'] at hok
            cases hok
            have : ys.getD k (.pr fun _ _ => True) = y := by simp [List.getD_eq_getElem?_getD, hy]
            rw [this] at hy2
            cases y with
            | ex v => exact hy2
            | pr p => exact fun _ => hy2
            | p2 j p =>
              have hj := hp2' k j p hy
              have hlj : listed.getD j false = true := ancOf_ready hcl ho' hrd _ _ hj.1
              have hji : j ≠ k := fun e => by rw [e, hun'] at hlj; cases hlj
              exact fun _ => by rw [hvl j hji]; exact hy2
            | al q p => exact ⟨hy2.1, fun _ => hy2.2⟩
          · have hk' : listed.getD k false = true := by rw [hgs, if_neg hki] at hk; exact hk
            have h7 := hS k y o' hk' hy hok
            rw [hother k o' hok hki]
            cases y with
            | ex v => exact h7
            | pr p =>
              intro hc
              rw [hcnt'] at hc
              by_cases hmi : memb ms i = true
              · rw [if_pos hmi] at hc
                have := hph k hk'
                omega
              · rw [if_neg hmi] at hc
                have hl := hlasts _ (List.mem_of_getElem? hy)
                exact hl _ _ _ (h7 hc) (hbl (by simpa using hmi))
            | p2 j p =>
              have hj := hp2' k j p hy
              have hlj : listed.getD j false = true := ancOf_listed hcl _ _ _ hj.1 hk'
              have hji : j ≠ i := fun e => by rw [e, hun'] at hlj; cases hlj
              intro hc
              rw [hvl j hji]
              rw [hcnt'] at hc
              by_cases hmi : memb ms i = true
              · rw [if_pos hmi] at hc
                have := hph k hk'
                omega
              · rw [if_neg hmi] at hc
                have hl := hlasts _ (List.mem_of_getElem? hy)
                exact hl _ _ _ _ (h7 hc) (hbl (by simpa using hmi))
            | al q p =>
              refine ⟨h7.1, fun hc => ?_⟩
              rw [hcnt'] at hc
              by_cases hmi : memb ms i = true
              · rw [if_pos hmi] at hc
                have := hph k hk'
                omega
              · rw [if_neg hmi] at hc
                have hl := hlasts _ (List.mem_of_getElem? hy)
                exact hl _ _ _ (h7.2 hc) (hbl (by simpa using hmi))
        · rw [hgs]
          by_cases hei : ed.on = i
          · rw [if_pos hei]
          · rw [if_neg hei]
            by_cases hki : k = i
            · subst hki
              rw [ho'] at hok; cases hok
              exact hrd ed hed
            · rw [hgs, if_neg hki] at hk
              exact hcl k o' hk hok ed hed
        · rw [hgs] at hk
          by_cases hki : k = i
          · rw [if_pos hki] at hk; cases hk
          · rw [if_neg hki] at hk
            rw [hother k o' hok hki]
            exact hun0 k o' hk hok
        · have hcount : (List.range l.length).countP (fun k => (listed.setIfInBounds i true).getD k false) = (List.range l.length).countP (fun k => listed.getD k false) + 1 :=
            countP_one (fun k => listed.getD k false) (fun k => (listed.setIfInBounds i true).getD k false) i hun' hgs _ List.nodup_range (by simpa using hil)
          rw [hcount]; omega
      unfold wpOp
      rw [ho]
      unfold wpList at hwl
      show if _ then _ else _
      by_cases hw : Region.wanted o (yielded l.toArray a1.tmps) = true
      · rw [if_pos hw] at hwl ⊢
        rcases hwl with h5 | ⟨_, a0, w0, h5⟩
        · refine .inl (Oper.wp_conv h5 (fun a2 w2 hx => ?_) (fun x a w hx hq => hx hq.1))
          exact hnext a2 w2 hx.2
        · exact absurd h5.1 (by simp)
      · rw [if_neg hw] at hwl ⊢
        exact hnext _ _ hwl.2
  refine key l.length (Array.replicate l.length false) a e _ ha (fun _ => ⟨⟨O, O, O, Nat.le_refl _, fun _ _ => O⟩, fun _ => Nat.le_add_right _ _⟩) (fun _ _ => O) (by simp) (fun i y o hi => ?_) (fun i o hi => ?_) (fun _ _ _ _ => O) (by omega)
  · exfalso
    rw [Array.getD_eq_getD_getElem?, Array.getElem?_replicate] at hi
    split at hi <;> simp at hi
  · exfalso
    rw [Array.getD_eq_getD_getElem?, Array.getElem?_replicate] at hi
    split at hi <;> simp at hi
end
/-
 The walk of slices.Repeat, of small products.
-/
theorem Mul64_c (x y : Int) (w : World) (hx : 0 ≤ x ∧ x ≤ 1048576) (hy : 0 ≤ y ∧ y ≤ 1048576) : Ret Tryz.prog 241 [.int .u64 x, .int .u64 y] w (fun v w' => v = .tuple #[.int .u64 0, .int .u64 (x * y)] ∧ w' = w) := by
 have hxy : 0 ≤ x * y ∧ x * y ≤ 1099511627776 := ⟨Int.mul_nonneg hx.1 hy.1, Int.le_trans (Int.mul_le_mul hx.2 hy.2 hy.1 (by omega)) (by decide)⟩
 have ex : x % 4294967296 = x := by omega
 have ey : y % 4294967296 = y := by omega
 have dx : x / 4294967296 = 0 := by omega
 have dy : y / 4294967296 = 0 := by omega
 refine Ret.of_cd Tryz.func241 O Tryz.ntmps241 O (post2 O) (Gbo O (Ops.andU (x) O O O (by omega) (by omega) (Gdo O (Ops.shrU (0) O O O (by omega) (by omega) (Gdo O (Ops.andU (y) O O O (by omega) (by omega) (Gdo O (Ops.shrU (0) O O O (by omega) (by omega) (Gdo O ?_)))))))))
 refine Ops.mulU (x * y) O O O (by simp) (by omega) ?_
 refine Gdo O ?_
 refine Ops.mulU (0) O O O (by simp) (by omega) ?_
 refine Gdo O (Ops.shrU (x * y / 4294967296) O O O (by omega) (by omega) ?_)
 refine Ops.addU (x * y / 4294967296) O O O (by simp) (by omega) ?_
 refine Gdo O (Ops.andU (x * y / 4294967296) O O O (by omega) (by omega) (Gdo O (Ops.shrU (0) O O O (by omega) (by omega) (Gdo O ?_))))
 refine Ops.mulU (0) O O O (by simp) (by omega) ?_
 refine Ops.addU (x * y / 4294967296) O O O (by simp) (by omega) ?_
 refine Gdo O ?_
 refine Ops.mulU (0) O O O (by simp) (by omega) ?_
 refine Gdo O ?_
 refine Ops.addU (0) O O O (by simp) (by omega) ?_
 refine Gdo O (Ops.shrU (0) O O O (by omega) (by omega) ?_)
 refine Ops.addU (0) O O O (by simp) (by omega) ?_
 refine Gdo O ?_
 refine Ops.mulU (x * y) O O O (by simp) (by omega) ?_
 refine Gdr O (ret2_ii O O ?_)
 exact ⟨O, O⟩
theorem Mul_c (x y : Int) (w : World) (hx : 0 ≤ x ∧ x ≤ 1048576) (hy : 0 ≤ y ∧ y ≤ 1048576) : Ret Tryz.prog 215 [.int .u64 x, .int .u64 y] w (fun v w' => v = .tuple #[.int .u64 0, .int .u64 (x * y)] ∧ w' = w) := by
 refine Ret.of_cd Tryz.func215 O Tryz.ntmps215 O (post2 O) (Gbc O (Cd.cond_f O (Gao O (Ops.call (Mul64_c x y w hx hy) O O O ?_))))
 rintro _ _ ⟨rfl, rfl⟩
 refine Gdr O (ret2_ii O O ?_)
 exact ⟨O, O⟩
def rep (a n : Nat) (x v : Int) : List Int := List.replicate a x ++ List.replicate (n - a) v
theorem rep_copy {m n q : Nat} {x v : Int} (hm : m ≤ n) (hq : q ≤ n - m) : ((rep m n x v).map (Value.int .i64)).take m ++ (List.range q).map (fun _ => Value.int .i64 x) ++ ((rep m n x v).map (Value.int .i64)).drop (m + q) = (rep (m + q) n x v).map (Value.int .i64) := by
 have e1 : (rep m n x v).map (Value.int .i64) = List.replicate m (Value.int .i64 x) ++ List.replicate (n - m) (Value.int .i64 v) := by simp [rep]
 have e2 : (List.range q).map (fun _ => Value.int .i64 x) = List.replicate q (Value.int .i64 x) := by
  apply List.ext_getElem <;> simp
 rw [e1, e2, List.take_append_of_le_length (by simp), List.drop_append]
 simp only [rep, List.map_append, List.map_replicate, List.length_replicate, List.take_replicate, List.drop_replicate, Nat.min_self]
 rw [show m - (m + q) = 0 by omega, show m + q - m = q by omega, show n - m - q = n - (m + q) by omega]
 simp
theorem Repeat_c (A : Option Addr) (c : Nat) (x : Int) (n : Nat) (w : World) (hR : RdI w A 1 [x]) (hn : n ≤ 1048576) :
  Ret Tryz.prog 158 [.slice A 1 c, .int .i64 (n : Int)] w (fun v w' => ∃ A', v = .slice A' n n ∧ St w w' [CkI 2 A' n n (List.replicate n x)]) := by
 refine Ret.of_cd Tryz.func158 O Tryz.ntmps158 O (post1 O) (Gbc O (Cd.cond_pf O (by omega) ?_))
 refine Gao O (Ops.len O O ?_)
 refine Ops.convK (i := 1) O O (by decide) ?_
 refine Gdo O (Ops.convK (i := (n : Int)) O O (wrap_u64_in _ (by omega)) (Ops.call (Mul_c 1 n _ (by omega) (by omega)) O O O ?_))
 rintro _ w ⟨rfl, rfl⟩
 rw [Int.one_mul]
 refine Gdo O (Ops.gtr O O O (Gdo O ?_))
 refine Ops.split_p 23 O (fun h => absurd h (by decide)) (fun _ => ?_)
 refine Ops.g O O O (Gdo O (Ops.g O O O (Ops.gtr O O O (Gdc O ?_))))
 refine Cd.cond_pf O (by omega) (Gao O (Ops.convK (i := (n : Int)) O O (IntWalk.i64_in _ (by omega)) (Ops.mkI n (St.refl w) O O (by omega) ?_)))
 intro A1 w1 hS1
 refine Gdo O ?_
 refine Ops.cp 0 0 (min 1 n) hS1 O (hS1.oldI hR).2 (Nat.zero_le _) (by rw [cutAt_zero]; rfl) O (fun _ _ => O) O O ?_
 intro w2 hS2
 refine Gdc O ?_
 have h3 : St w w2 [CkI 2 A1 n n (rep (min 1 n) n x 0)] := by
  have e : ([CkI 2 A1 n n (List.replicate n 0)].set 0 { CkI 2 A1 n n (List.replicate n 0) with vs := (CkI 2 A1 n n (List.replicate n 0)).vs.take 0 ++ (List.range (min 1 n)).map (fun j => Value.int .i64 ([x].getD j 0)) ++ (CkI 2 A1 n n (List.replicate n 0)).vs.drop (0 + min 1 n) }) = [CkI 2 A1 n n (rep (min 1 n) n x 0)] := by
   by_cases h0 : n = 0
   ·subst h0; rfl
   have h1 : min 1 n = 1 := by omega
   rw [h1]
   simp [CkI, rep, List.range_succ]
  rw [← e]; exact hS2
 refine Cd.loop (α := Nat) (fun m => [(7, .slice A1 n n), (8, .int .i64 (m : Int))]) (fun m w' => St w w' [CkI 2 A1 n n (rep m n x 0)] ∧ m ≤ n ∧ (0 < n → 0 < m)) (fun m => n - m) (min 1 n) ⟨O, O, trivial⟩ ⟨h3, by omega, by omega⟩ ?_
 rintro m e w3 ⟨hS3, hm, hm0⟩
 refine Gbo O (Ops.len O O (Gdc O ?_))
 refine Cd.cond_p _ O (fun h4 => ?_) (fun h4 => ?_)
 ·refine Gac O ?_
  have hlen : (rep m n x 0).length = n := hS3.lenI 0 O
  have hR2 : ∀ {w1 : World}, Below w3.heap.size w3 w1 → Rd w1 A1 m (fun _ => .int .i64 x) := fun hb j hj => by
   have h5 := (hS3.later hb).rd 0 O j (by show j < n; omega)
   have h6 : ((rep m n x 0).map (Value.int .i64)).getD j undef = .int .i64 x := by simp [rep, List.getD_eq_getElem?_getD, List.getElem?_append_left, hj]
   obtain ⟨p, hp, hc⟩ := h5
   exact ⟨p, hp, hc.trans (congrArg some h6)⟩
  have hR3 := rep_copy (n := n) (m := m) (q := min m (n - m)) (x := x) (v := 0) hm (by omega)
  refine Cd.drawP [7] [yI ((m : Int)), yS (A1) (n) (n), yI ((m : Int)), yS (cutAt A1 n m) (n - m) (n - m), yS (A1) (n) (n), yI ((m : Int)), yS (A1) (m) (n), .pr (fun v w' => v = .int .i64 ((min m (n - m) : Nat) : Int) ∧ St w w' [CkI 2 A1 n n (rep (m + min m (n - m)) n x 0)]), yI ((m : Int) + ((min m (n - m) : Nat) : Int)), yI ((m : Int) + ((min m (n - m) : Nat) : Int))] (by kernel_rfl) (by kernel_rfl) (ly (ly (ly (ly (ly (ly (ly (List.forall_mem_cons.2 ⟨Ye.lasts_pr (fun v w w' h hb => ⟨h.1, h.2.later hb⟩), (ly (ly (fun _ h => by cases h)))⟩)))))))) ?_ ?_
  ·refine ⟨?_, DrP O, ?_, aP fun _ _ => Ops.cut_l O O O (by omega) (AzP O O), DrP O, ?_, aP fun _ _ => Ops.cut_h O O O (by omega) (AzP O O), ?_, ?_, DrP O, trivial⟩
   ·intro e1 w1 cc hlo hhi hb0 hp hun hq; show Ops _ _ _ _ _ _ _
    refine Ops.mi O (by exact hun 9 _ O (by kernel_rfl)) O (Ops.n (p0_ O (by exact O)))
   ·intro e1 w1 cc hlo hhi hb0 hp hun hq; show Ops _ _ _ _ _ _ _
    refine Ops.mi O (by exact hun 9 _ O (by kernel_rfl)) O (Ops.n (p0_ O (by exact O)))
   ·intro e1 w1 cc hlo hhi hb0 hp hun hq; show Ops _ _ _ _ _ _ _
    refine Ops.mi O (by exact hun 9 _ O (by kernel_rfl)) O (Ops.n (p0_ O (by exact O)))
   ·refine cPT fun e1 w1 hb hp hun hq => ?_
    refine Ops.cp 0 m (min m (n - m)) (hS3.later hb) O (f := fun _ => .int .i64 x) (hR2 hb) (by omega) O O (fun _ _ => O) O O ?_
    intro w5 hS5
    refine Ops.n ?_
    exact AfterU.dn O ⟨O, by show St w w5 [⟨A1, n, n, _, (rep (m + min m (n - m)) n x 0).map (Value.int .i64)⟩]; rw [← hR3]; exact hS5⟩
   refine dP 1 fun e1 w1 hp hun hq => ?_
   have hph := hp 7 _ _ (by kernel_rfl) O O (by kernel_rfl)
   refine Ops.add O (by exact hph.1) O (by omega) (Ops.n (p0_ O (by exact O)))
  intro u w5 _ hu _ _
  have hS5 := (hu 7 _ O (by kernel_rfl)).2
  refine Gen O (tQ ?_)
  exact ⟨m + min m (n - m), by have := hm0 (by omega); omega, ⟨O, by show Value.int .i64 _ = Value.int .i64 _; congr 1, trivial⟩, hS5, by omega, by omega⟩
 refine Gax O (thenQ_x (Gfr O ?_))
 refine ret1_s O ?_
 have : m = n := by omega
 subst this
 refine ⟨A1, O, ?_⟩
 have e : rep m m x 0 = List.replicate m x := by simp [rep]
 rw [← e]; exact hS3
end Go.Proofs.YtopgfgdgfjddpaaGreatDoor.Vc
/-
 Plain mathematics of orbits' labels: a scan that paints one orbit after another, and a search by a stack that paints the same.
-/
namespace Go.Proofs.YtopgfgdgfjddpaaGreatDoor.Vc
theorem sub_len {α : Type} [DecidableEq α] : ∀ (a b : List α), a.Nodup → (∀ x ∈ a, x ∈ b) → a.length ≤ b.length
 | [], _, _, _ => Nat.zero_le _
 | x :: a, b, hn, h => by
  simp only [List.nodup_cons] at hn
  have h1 := sub_len a (b.erase x) hn.2 (fun y hy => by
   rw [List.mem_erase_of_ne (fun e => hn.1 (by rw [← e]; exact hy))]
   exact h y (by simp [hy]))
  have hx := h x (by simp)
  have h2 := List.length_erase_of_mem hx
  have h3 := List.length_pos_of_mem hx
  simp only [List.length_cons]
  omega
theorem sub_all {α : Type} [DecidableEq α] {a b : List α} (hn : a.Nodup) (h : ∀ x ∈ a, x ∈ b) (hl : b.length ≤ a.length) : ∀ x ∈ b, x ∈ a := by
 intro y hy
 apply Classical.byContradiction
 intro hya
 have := sub_len (y :: a) b (by simp [hya, hn]) (fun x hx => by
  rcases List.mem_cons.1 hx with rfl | hx
  ·exact hy
  exact h x hx)
 simp at this
 omega
def Inj (N : Nat) (xss : List (List Int)) : Prop := ∀ p ∈ xss, ∀ x y : Int, 0 ≤ x → x < N → 0 ≤ y → y < N → gi p x = gi p y → x = y
theorem Reach.range {N : Nat} {xss : List (List Int)} (hs : Sys N xss) {x y : Int} (h0 : 0 ≤ x) (h1 : x < N) (h : Reach xss x y) : 0 ≤ y ∧ y < N := by
 induction h with
 | refl => exact ⟨h0, h1⟩
 | step _ hp ih => exact (hs _ hp).2 _ ih.1 ih.2
theorem Reach.back {N : Nat} {xss : List (List Int)} (hs : Sys N xss) (hi : Inj N xss) {x : Int} (h0 : 0 ≤ x) (h1 : x < N) {p : List Int} (hp : p ∈ xss) : Reach xss (gi p x) x := by
  have hy := (hs p hp).2 x h0 h1
  obtain ⟨g, _, hm⟩ := orbit_spec hs hy.1 hy.2
  have key := sub_all (a := (orbit N xss (gi p x)).map (gi p)) (b := orbit N xss (gi p x)) (by
      rw [List.nodup_iff_pairwise_ne, List.pairwise_map]
      refine List.Pairwise.imp_of_mem ?_ g.nodup
      intro a b ha hb hab e
      exact hab (hi p hp a b (g.range a ha).1 (g.range a ha).2 (g.range b hb).1 (g.range b hb).2 e))
    (fun z hz => by
      obtain ⟨u, hu, rfl⟩ := List.mem_map.1 hz
      exact (hm _).2 (.step ((hm u).1 hu) hp)) (by simp)
  obtain ⟨u, hu, e⟩ := List.mem_map.1 (key (gi p x) ((hm _).2 .refl))
  have := hi p hp u x (g.range u hu).1 (g.range u hu).2 h0 h1 e
  subst this
  exact (hm u).1 hu
theorem Reach.symm {N : Nat} {xss : List (List Int)} (hs : Sys N xss) (hi : Inj N xss) {x y : Int} (h0 : 0 ≤ x) (h1 : x < N) (h : Reach xss x y) : Reach xss y x := by
 induction h with
 | refl => exact .refl
 | step hr hp ih =>
  have hy := hr.range hs h0 h1
  exact (Reach.back hs hi hy.1 hy.2 hp).trans ih
def paint (L : List Int) (c : Int) : List Int → List Int
 | [] => L
 | x :: xs => paint (L.set x.toNat c) c xs
theorem paint_length : ∀ (xs L : List Int) (c : Int), (paint L c xs).length = L.length
 | [], _, _ => rfl
 | x :: xs, L, c => by rw [paint, paint_length xs]; simp
theorem gi_paint {N : Nat} : ∀ (xs L : List Int) (c : Int), L.length = N → (∀ x ∈ xs, 0 ≤ x ∧ x < N) → ∀ x : Int, 0 ≤ x → gi (paint L c xs) x = if x ∈ xs then c else gi L x
 | [], _, _, _, _, x, _ => by simp [paint]
 | y :: xs, L, c, hl, h, x, hx => by
  have hy := h y (by simp)
  rw [paint, gi_paint xs (L.set y.toNat c) c (by simpa using hl) (fun z hz => h z (by simp [hz])) x hx, gi_set hy.1 (by rw [hl]; exact hy.2) hx]
  by_cases h1 : x ∈ xs
  ·simp [h1]
  ·rw [if_neg h1]
   by_cases h2 : y = x
   ·subst h2; simp
   ·rw [if_neg h2, if_neg]
    simp only [List.mem_cons, not_or]
    exact ⟨fun e => h2 e.symm, h1⟩
def lab (N : Nat) (xss : List (List Int)) : Nat → List Int × Int
 | 0 => (List.replicate N (-1), 0)
 | i + 1 => if 0 ≤ gi (lab N xss i).1 i then lab N xss i else (paint (lab N xss i).1 (lab N xss i).2 (orbit N xss i), (lab N xss i).2 + 1)
theorem lab_neg {N : Nat} {xss : List (List Int)} {i : Nat} (h : ¬ 0 ≤ gi (lab N xss i).1 i) : lab N xss (i + 1) = (paint (lab N xss i).1 (lab N xss i).2 (orbit N xss i), (lab N xss i).2 + 1) := by
 show (if _ then _ else _) = _
 rw [if_neg h]
theorem lab_pos {N : Nat} {xss : List (List Int)} {i : Nat} (h : 0 ≤ gi (lab N xss i).1 i) : lab N xss (i + 1) = lab N xss i := by
 show (if _ then _ else _) = _
 rw [if_pos h]
theorem lab_length (N : Nat) (xss : List (List Int)) : ∀ i, (lab N xss i).1.length = N
 | 0 => by simp [lab]
 | i + 1 => by
  simp only [lab]
  split
  ·exact lab_length N xss i
  ·rw [paint_length]; exact lab_length N xss i
theorem lab_count (N : Nat) (xss : List (List Int)) : ∀ i, 0 ≤ (lab N xss i).2 ∧ (lab N xss i).2 ≤ i
 | 0 => by simp [lab]
 | i + 1 => by
  have := lab_count N xss i
  simp only [lab]
  split
  ·omega
  ·simp only; omega
theorem gi_rep {N : Nat} {v : Int} {x : Int} (h0 : 0 ≤ x) (h1 : x < N) : gi (List.replicate N v) x = v := by
 simp [gi, List.getD_eq_getElem?_getD, List.getElem?_replicate, show x.toNat < N by omega]
theorem lab_mem {N : Nat} {xss : List (List Int)} (hs : Sys N xss) : ∀ i, i ≤ N → ∀ x : Int, 0 ≤ x → x < N → (0 ≤ gi (lab N xss i).1 x ↔ ∃ j : Nat, j < i ∧ Reach xss j x)
 | 0, _, x, h0, h1 => by
  simp only [lab, gi_rep h0 h1]
  constructor
  ·intro h; omega
  ·rintro ⟨j, hj, _⟩; omega
 | i + 1, hi, x, h0, h1 => by
  have ih := lab_mem hs i (by omega)
  have hc := lab_count N xss i
  have ho := orbit_spec hs (pt := (i : Int)) (by omega) (by omega)
  simp only [lab]
  split
  ·rename_i hl
   rw [ih x h0 h1]
   constructor
   ·rintro ⟨j, hj, hr⟩; exact ⟨j, by omega, hr⟩
   ·rintro ⟨j, hj, hr⟩
    by_cases hji : j = i
    ·subst hji
     obtain ⟨j', hj', hr'⟩ := (ih j (by omega) (by omega)).1 hl
     exact ⟨j', hj', hr'.trans hr⟩
    ·exact ⟨j, by omega, hr⟩
  ·simp only
   rw [gi_paint _ _ _ (lab_length N xss i) ho.1.range x h0]
   by_cases hm : x ∈ orbit N xss i
   ·rw [if_pos hm]
    exact ⟨fun _ => ⟨i, by omega, (ho.2.2 x).1 hm⟩, fun _ => hc.1⟩
   ·rw [if_neg hm, ih x h0 h1]
    constructor
    ·rintro ⟨j, hj, hr⟩; exact ⟨j, by omega, hr⟩
    ·rintro ⟨j, hj, hr⟩
     by_cases hji : j = i
     ·subst hji; exact absurd ((ho.2.2 x).2 hr) hm
     ·exact ⟨j, by omega, hr⟩
theorem lab_one {N : Nat} {xss : List (List Int)} (hs : Sys N xss) (hN : 0 < N) : (lab N xss N).2 = 1 ↔ ∀ x : Int, 0 ≤ x → x < N → Reach xss 0 x := by
  have h1 : (lab N xss 1).2 = 1 := by
    have : ¬ (0 : Int) ≤ gi (lab N xss 0).1 (0 : Nat) := by
      rw [show (lab N xss 0).1 = List.replicate N (-1) from rfl, gi_rep (by omega) (by omega)]; omega
    rw [show (1 : Nat) = 0 + 1 from rfl, lab_neg this]; rfl
  constructor
  · intro hc
    have mono : ∀ i j, i ≤ j → (lab N xss i).2 ≤ (lab N xss j).2 := by
      intro i j hij
      induction j with
      | zero => have : i = 0 := by omega
                subst this; omega
      | succ j ih =>
        by_cases e : i = j + 1
        · subst e; omega
        · have := ih (by omega)
          have h2 : (lab N xss j).2 ≤ (lab N xss (j + 1)).2 := by
            simp only [lab]; split
            · omega
            · simp only; omega
          omega
    have key : ∀ i : Nat, i < N → Reach xss 0 (i : Int) := by
      intro i
      induction i using Nat.strongRecOn with
      | _ i ih =>
        intro hi
        by_cases h0 : i = 0
        · subst h0; exact .refl
        · have hl : 0 ≤ gi (lab N xss i).1 i := by
            apply Classical.byContradiction
            intro hn
            have h2 := mono 1 i (by omega)
            have h3 := mono (i + 1) N (by omega)
            have h4 : (lab N xss (i + 1)).2 = (lab N xss i).2 + 1 := by rw [lab_neg hn]
            omega
          obtain ⟨j, hj, hr⟩ := (lab_mem hs i (by omega) i (by omega) (by omega)).1 hl
          exact (ih j hj (by omega)).trans hr
    intro x h0 h2
    have := key x.toNat (by omega)
    rw [Int.toNat_of_nonneg h0] at this
    exact this
  · intro h
    have key : ∀ i, 1 ≤ i → i ≤ N → (lab N xss i).2 = 1 := by
      intro i
      induction i with
      | zero => intro h; omega
      | succ i ih =>
        intro _ hi
        by_cases e : i = 0
        · subst e; exact h1
        · have hl := (lab_mem hs i (by omega) i (by omega) (by omega)).2 ⟨0, by omega, h i (by omega) (by omega)⟩
          rw [lab_pos hl]
          exact ih (by omega) (by omega)
    exact key N (by omega) (Nat.le_refl _)
theorem orbit_all {N : Nat} {xss : List (List Int)} (hs : Sys N xss) (hN : 0 < N) : (orbit N xss 0).length = N ↔ ∀ x : Int, 0 ≤ x → x < N → Reach xss 0 x := by
 obtain ⟨g, _, hm⟩ := orbit_spec hs (pt := 0) (by omega) (by omega)
 have hrg : ∀ x : Int, x ∈ (List.range N).map (fun i : Nat => (i : Int)) ↔ 0 ≤ x ∧ x < N := by
  intro x
  rw [List.mem_map]
  constructor
  ·rintro ⟨i, hi, rfl⟩
   have : i < N := by simpa using hi
   omega
  intro h; exact ⟨x.toNat, by simp; omega, by omega⟩
 have hrn : ((List.range N).map (fun i : Nat => (i : Int))).Nodup := by
  rw [List.nodup_iff_pairwise_ne, List.pairwise_map]
  refine List.Pairwise.imp ?_ (List.nodup_iff_pairwise_ne.1 List.nodup_range)
  intro a b hab; omega
 constructor
 ·intro hl x h0 h1
  have := sub_all g.nodup (b := (List.range N).map (fun i : Nat => (i : Int))) (fun z hz => (hrg z).2 (g.range z hz)) (by simp [hl]) x ((hrg x).2 ⟨h0, h1⟩)
  exact (hm x).1 this
 intro h
 have h1 := sub_len _ (orbit N xss 0) hrn (fun z hz => by
  have := (hrg z).1 hz
  exact (hm z).2 (h z this.1 this.2))
 have h2 := g.len
 simp at h1
 omega
structure Dfs (N : Nat) (xss : List (List Int)) (i c : Int) (L0 L op : List Int) (bx : Int) (k : Nat) : Prop where
 len : L.length = N
 old : ∀ x : Int, 0 ≤ x → x < N → 0 ≤ gi L0 x → gi L x = gi L0 x
 new : ∀ x : Int, 0 ≤ x → x < N → gi L0 x < 0 → gi L x = gi L0 x ∨ (gi L x = c ∧ Reach xss i x)
 start : gi L i = c
 opn : ∀ x ∈ op, 0 ≤ x ∧ x < N ∧ gi L0 x < 0 ∧ gi L x = c
 clo : ∀ x : Int, 0 ≤ x → x < N → gi L0 x < 0 → gi L x = c → x ∉ op → ∀ p ∈ (if x = bx then xss.take k else xss), 0 ≤ gi L (gi p x)
section
variable {N : Nat} {xss : List (List Int)} {i c : Int} {L0 L op : List Int} {bx : Int} {k : Nat}
theorem Dfs.init (hl : L0.length = N) (h0 : 0 ≤ i) (h1 : i < N) (hi : gi L0 i < 0) (hc : 0 ≤ c) : Dfs N xss i c L0 (L0.set i.toNat c) [i] (-1) 0 where
 len := by simpa using hl
 old x hx _ h := by
  rw [gi_set h0 (by rw [hl]; exact h1) hx]
  split
  ·rename_i e; subst e; omega
  rfl
 new x hx _ h := by
  rw [gi_set h0 (by rw [hl]; exact h1) hx]
  split
  ·rename_i e; subst e; exact .inr ⟨rfl, .refl⟩
  exact .inl O
 start := by rw [gi_set h0 (by rw [hl]; exact h1) h0, if_pos rfl]
 opn x hx := by
  simp at hx; subst hx
  exact ⟨h0, h1, hi, by rw [gi_set h0 (by rw [hl]; exact h1) h0, if_pos O]⟩
 clo x hx hx' h hc' hno := by
  rw [gi_set h0 (by rw [hl]; exact h1) hx] at hc'
  split at hc'
  ·rename_i e; subst e; simp at hno
  omega
theorem Dfs.pop0 {x : Int} (h : Dfs N xss i c L0 L (op ++ [x]) (-1) 0) : Dfs N xss i c L0 L op x 0 where
 len := h.len
 old := h.old
 new := h.new
 start := h.start
 opn y hy := h.opn y (by simp [hy])
 clo y hy hy' h0 hc hno := by
  split
  ·simp
  rename_i hne
  have := h.clo y hy hy' h0 hc (by simp [hno, hne])
  rw [if_neg (by omega)] at this
  exact this
theorem Dfs.rest (h : Dfs N xss i c L0 L op bx xss.length) : Dfs N xss i c L0 L op (-1) 0 where
 len := h.len
 old := h.old
 new := h.new
 start := h.start
 opn := h.opn
 clo y hy hy' h0 hc hno := by
  rw [if_neg (by omega)]
  have := h.clo y hy hy' h0 hc hno
  rw [List.take_length] at this
  simpa using this
theorem Dfs.skip (h : Dfs N xss i c L0 L op bx k) (hk : k < xss.length) (hy : 0 ≤ gi L (gi (gl xss k) bx)) : Dfs N xss i c L0 L op bx (k + 1) where
 len := h.len
 old := h.old
 new := h.new
 start := h.start
 opn := h.opn
 clo y hy' hy'' h0 hc hno p hp := by
  have := h.clo y hy' hy'' h0 hc hno
  split at hp
  ·rename_i e
   rw [if_pos e] at this
   rw [take_succ_gl hk, List.mem_append] at hp
   rcases hp with hp | hp
   ·exact this p hp
   simp at hp; subst hp; subst e; exact hy
  rename_i e
  rw [if_neg e] at this
  exact this p hp
theorem Dfs.push (hs : Sys N xss) (hi0 : 0 ≤ i) (h : Dfs N xss i c L0 L op bx k) (hk : k < xss.length) (hb0 : 0 ≤ bx) (hb1 : bx < N) (hb : gi L0 bx < 0) (hbc : gi L bx = c) (hc0 : 0 ≤ c) (hy : gi L (gi (gl xss k) bx) < 0) :
  Dfs N xss i c L0 (L.set (gi (gl xss k) bx).toNat c) (op ++ [gi (gl xss k) bx]) bx (k + 1) := by
 have hmem : gl xss k ∈ xss := by rw [gl_mem hk]; exact List.getElem_mem _
 have hyr := (hs _ hmem).2 bx hb0 hb1
 have hg : ∀ z : Int, 0 ≤ z → gi (L.set (gi (gl xss k) bx).toNat c) z = if gi (gl xss k) bx = z then c else gi L z := fun z hz => gi_set hyr.1 (by rw [h.len]; exact hyr.2) hz
 have hbr : Reach xss i bx := by
  rcases h.new bx hb0 hb1 hb with h1 | h1
  ·omega
  exact h1.2
 have hy0 : gi L0 (gi (gl xss k) bx) < 0 := by
  apply Classical.byContradiction
  intro hn
  have := h.old _ hyr.1 hyr.2 (by omega)
  omega
 have pos : ∀ z : Int, 0 ≤ z → 0 ≤ gi L z → 0 ≤ gi (L.set (gi (gl xss k) bx).toNat c) z := fun z hz h1 => by
  rw [hg z hz]; split <;> omega
 refine ⟨by simpa using h.len, fun x hx hx' h0 => ?_, fun x hx hx' h0 => ?_, ?_, fun x hx => ?_, fun x hx hx' h0 hc hno p hp => ?_⟩
 ·rw [hg x hx, if_neg (fun e => by subst e; omega)]
  exact h.old x hx hx' h0
 ·rw [hg x hx]
  split
  ·rename_i e; subst e; exact .inr ⟨rfl, .step hbr hmem⟩
  exact h.new x hx hx' h0
 ·rw [hg i hi0]; split
  ·rfl
  exact h.start
 ·rcases List.mem_append.1 hx with hx | hx
  ·have := h.opn x hx
   refine ⟨this.1, this.2.1, this.2.2.1, ?_⟩
   rw [hg x this.1]; split
   ·rfl
   exact this.2.2.2
  simp at hx; subst hx
  exact ⟨hyr.1, hyr.2, hy0, by rw [hg _ hyr.1, if_pos O]⟩
 have hne : gi (gl xss k) bx ≠ x := fun e => hno (by subst e; simp)
 rw [hg x hx, if_neg hne] at hc
 have hno' : x ∉ op := fun hm => hno (by simp [hm])
 have h1 := h.clo x hx hx' h0 hc hno'
 split at hp
 ·rename_i e
  rw [if_pos e] at h1
  rw [take_succ_gl hk, List.mem_append] at hp
  rcases hp with hp | hp
  ·exact pos _ ((hs p (List.mem_of_mem_take hp)).2 x hx hx').1 (h1 p hp)
  simp at hp; subst hp; subst e
  rw [hg _ hyr.1, if_pos rfl]; exact hc0
 rename_i e
 rw [if_neg e] at h1
 exact pos _ ((hs p hp).2 x hx hx').1 (h1 p hp)
theorem Dfs.done (hs : Sys N xss) (hi : Inj N xss) {j : Nat} (hj : j < N) (hneg : ¬ 0 ≤ gi (lab N xss j).1 j) (h : Dfs N xss j (lab N xss j).2 (lab N xss j).1 L [] (-1) 0) : L = (lab N xss (j + 1)).1 := by
 have hc := lab_count N xss j
 have ho := orbit_spec hs (pt := (j : Int)) (by omega) (by omega)
 have hm := lab_mem hs j (by omega)
 rw [lab_neg hneg]
 apply List.ext_getElem
 ·rw [h.len, paint_length, lab_length]
 intro x h1 h2
 have hx : x < N := by rw [← h.len]; exact h1
 have e1 := gi_mem (p := L) (k := x) h1
 have e2 := gi_mem (p := paint (lab N xss j).1 (lab N xss j).2 (orbit N xss j)) (k := x) h2
 rw [← e1]
 show _ = (paint (lab N xss j).1 (lab N xss j).2 (orbit N xss j))[x]
 rw [← e2, gi_paint _ _ _ (lab_length N xss j) ho.1.range x (by omega)]
 -- what is reached was not painted, and is
 have reached : ∀ y, Reach xss j y → gi (lab N xss j).1 y < 0 ∧ gi L y = (lab N xss j).2 := by
  intro y hr
  induction hr with
  | refl => exact ⟨by omega, h.start⟩
  | @step y p hr hp ih =>
   have hy := hr.range hs (by omega) (by omega)
   have hpy := (hs p hp).2 y hy.1 hy.2
   have hneg2 : gi (lab N xss j).1 (gi p y) < 0 := by
    apply Classical.byContradiction
    intro hn
    obtain ⟨m, hmj, hmr⟩ := (hm _ hpy.1 hpy.2).1 (by omega)
    have := (hm y hy.1 hy.2).2 ⟨m, hmj, hmr.trans (Reach.back hs hi hy.1 hy.2 hp)⟩
    omega
   refine ⟨hneg2, ?_⟩
   have h3 := h.clo y hy.1 hy.2 ih.1 ih.2 (by simp) p (by rw [if_neg (by omega)]; exact hp)
   rcases h.new _ hpy.1 hpy.2 hneg2 with h4 | h4
   ·omega
   ·exact h4.1
 split
 ·rename_i hmem
  exact (reached _ ((ho.2.2 _).1 hmem)).2
 ·rename_i hmem
  have hnr : ¬ Reach xss j x := fun hr => hmem ((ho.2.2 _).2 hr)
  by_cases h5 : 0 ≤ gi (lab N xss j).1 x
  ·exact h.old x (by omega) (by omega) h5
  ·rcases h.new x (by omega) (by omega) (by omega) with h6 | h6
   ·exact h6
   ·exact absurd h6.2 hnr
end
def unl (L : List Int) : Nat := L.countP (fun x => decide (x < 0))
theorem unl_set {L : List Int} {x c : Int} (h0 : 0 ≤ x) (h1 : x < L.length) (hx : gi L x < 0) (hc : 0 ≤ c) : unl (L.set x.toNat c) + 1 = unl L := by
 obtain ⟨k, rfl⟩ : ∃ k : Nat, x = k := ⟨x.toNat, by omega⟩
 have hk : k < L.length := by omega
 rw [gi_mem hk] at hx
 simp only [unl, Int.toNat_natCast]
 rw [List.countP_set (h := hk)]
 have : 0 < L.countP (fun x => decide (x < 0)) := List.countP_pos_iff.2 ⟨L[k], List.getElem_mem _, by simpa using hx⟩
 simp [hx, show ¬ c < 0 by omega]
 omega
end Go.Proofs.YtopgfgdgfjddpaaGreatDoor.Vc
/-
 The walk of the labels of orbits.
-/
namespace Go.Proofs.YtopgfgdgfjddpaaGreatDoor.Vc
open Go.RowKit
theorem St.shrink {w0 w : World} {ks : List Ck} {k : Ck} (h : St w0 w ks) (i : Nat) (hk : ks[i]? = some k) (m : Nat) (hm : m ≤ k.n) (hM : isM k.vs = false) : St w0 w (ks.set i { k with n := m, vs := k.vs.take m }) := by
 have hilt := (List.getElem?_eq_some_iff.1 hk).1
 refine ⟨h.below, fun x hx => ?_, ?_⟩
 ·obtain ⟨j, hj, rfl⟩ := List.mem_iff_getElem.1 hx
  have hj' : j < ks.length := by simpa using hj
  rw [List.getElem_set]
  split
  ·obtain ⟨h1, h2, h3, h4⟩ := h.getC hk hM
   refine .ofC (isM_take m hM) ⟨by simp; omega, by show m ≤ k.c; omega, h3, ?_⟩
   rcases h4 with h4 | ⟨g, o, cur, hA, hg, hh, hs, hc⟩
   ·exact .inl h4
   refine .inr ⟨g, o, cur, hA, hg, hh, hs, fun j hj => ?_⟩
   have hj : j < m := hj
   show _ = (k.vs.take m)[j]?
   rw [hc j (by omega), List.getElem?_take, if_pos hj]
  exact h.own _ (List.getElem_mem _)
 rw [filterMap_set Ck.blk ks i k { k with n := m, vs := k.vs.take m } hk rfl]
 exact h.apart
theorem St.shrinkI {w0 w : World} {ks : List Ck} {t : TypeId} {A : Option Addr} {n c : Nat} {xs : List Int} (h : St w0 w ks) (i : Nat) (hk : ks[i]? = some (CkI t A n c xs)) (m : Nat) (hm : m ≤ n) : St w0 w (ks.set i (CkI t A m c (xs.take m))) := by
 have := h.shrink i hk m hm (isM_I _)
 simpa [CkI] using this
theorem concat_cases (op : List Int) (h : 0 < op.length) : ∃ o x, op = o ++ [x] := ⟨op.dropLast, op.getLast (by intro e; simp [e] at h), (List.dropLast_concat_getLast _).symm⟩
theorem orbitLabels_c (A : Option Addr) (n c : Nat) (rs : List SlV) (xss : List (List Int)) (N : Nat) (w : World) (hR : RowsI w A n rs xss) (hn : n ≤ 9223372036854775807) (hs : Sys N xss) (hinj : Inj N xss) (hN : N ≤ 1048576) :
  Ret Tryz.prog 157 [.int .i64 (N : Int), .slice A n c] w (fun v w' => ∃ A', v = .tuple #[.slice A' N N, .int .i64 (lab N xss N).2] ∧ St w w' [CkI 2 A' N N (lab N xss N).1]) := by
 have hrl : ∀ k : Int, 0 ≤ k → k < n → (rg rs k).n = N := fun k hk0 hk => by
  rw [← hR.rowLen hk0 hk]
  exact (hs _ (gl_in hk0 (by rw [hR.len]; exact hk))).1
 refine Ret.of_cd Tryz.func157 O Tryz.ntmps157 O (post2 O) (Gbo O (Ops.bs1I (St.refl w) O O O ?_))
 intro A1 w1 hS1
 refine Gdo O (Ops.call (Repeat_c A1 1 (-1) N w1 (hS1.rdI 0 O) hN) O O O ?_)
 rintro _ w2 ⟨A6, rfl, hS2⟩
 have hS2 := (hS1.call2 hS2).tail
 refine Gdc O ?_
 refine Cd.loop (α := Nat) (fun i => [(1, .slice A n c), (6, .slice A6 N N), (7, .int .i64 (lab N xss i).2), (17, .int .i64 (N : Int)), (18, .int .i64 (i : Int))]) (fun i w' => St w w' [CkI 2 A6 N N (lab N xss i).1] ∧ i ≤ N) (fun i => N - i) 0 ⟨O, O, O, O, O, trivial⟩ ⟨hS2, Nat.zero_le _⟩ ?_
 rintro i e w3 ⟨hS3, hi⟩
 have hcnt := lab_count N xss i
 refine Gbc O ?_
 refine Cd.cond_p _ O (fun h1 => ?_) (fun h1 => ?_)
 ·refine Gao O (Ops.idx (hS3.rdI 0 O).2 O O O (by omega) (by omega) (Ops.ld_int (hS3.rdI 0 O) O (by omega) O O (Gdc O ?_)))
  refine Cd.cond_p _ O (fun h2 => ?_) (fun h2 => ?_)
  ·refine Gao O (Ops.add O O O (by omega) (Gdn O (tQ ?_)))
   exact ⟨i + 1, by omega, ⟨O, O, by rw [lab_pos h2]; rfl, O, O, trivial⟩, by rw [lab_pos h2]; exact hS3, by omega⟩
  refine Gao O (Ops.idx (hS3.rdI 0 O).2 O O O (by omega) (by omega) (Ops.st_int 0 hS3 O O O (by omega) ?_))
  intro w4 hS4
  refine Gdo O (Ops.bs1I hS4 O O O ?_)
  intro A9 w5 hS5
  refine Gdc O ?_
  have hun : unl (lab N xss i).1 ≤ N := by
   have := List.countP_le_length (p := fun x : Int => decide (x < 0)) (l := (lab N xss i).1)
   rw [lab_length] at this; exact this
  have hun1 := unl_set (L := (lab N xss i).1) (x := i) (c := (lab N xss i).2) (by omega) (by rw [lab_length]; omega) (by omega) hcnt.1
  refine Cd.loop (α := List Int × List Int × Option Addr × Nat) (fun q => [(1, .slice A n c), (6, .slice A6 N N), (7, .int .i64 (lab N xss i).2), (9, .slice q.2.2.1 q.2.1.length q.2.2.2), (17, .int .i64 (N : Int)), (18, .int .i64 (i : Int))]) (fun q w' => St w w' [CkI 2 q.2.2.1 q.2.1.length q.2.2.2 q.2.1, CkI 2 A6 N N q.1] ∧ Dfs N xss i (lab N xss i).2 (lab N xss i).1 q.1 q.2.1 (-1) 0 ∧ unl q.1 + q.2.1.length ≤ N) (fun q => unl q.1 + q.2.1.length) ((lab N xss i).1.set (i : Int).toNat (lab N xss i).2, [(i : Int)], A9, 1) ⟨O, O, O, O, O, O, trivial⟩ ⟨hS5, Dfs.init (lab_length N xss i) (by omega) (by omega) (by omega) hcnt.1, by show unl ((lab N xss i).1.set (i : Int).toNat (lab N xss i).2) + 1 ≤ N; omega⟩ ?_
  rintro ⟨L, op, A9, c9⟩ e2 w6 ⟨hS6, hD, hu⟩
  dsimp only at hS6 hD hu ⊢
  refine Gbo O (Ops.len O O (Gdc O ?_))
  refine Cd.cond_p _ O (fun h3 => ?_) (fun h3 => ?_)
  ·obtain ⟨o, x, rfl⟩ := concat_cases op (by omega)
   have hol : (o ++ [x]).length = o.length + 1 := by simp
   have hx : gi (o ++ [x]) (((o ++ [x]).length : Int) - 1) = x := by
    rw [show (((o ++ [x]).length : Nat) : Int) - 1 = ((o.length : Nat) : Int) by omega, gi_mem (by omega)]
    simp
   have hxo := hD.opn x (by simp)
   refine Gao O (Ops.len O O (Ops.sub O O O (by omega) ?_))
   refine Ops.idx (hS6.rdI 0 O).2 O O O (by omega) (by omega) (Ops.ld_int (hS6.rdI 0 O) O (by omega) O O ?_)
   rw [hx]
   refine Gdo O (Ops.len O O (Ops.sub O O O (by omega) ?_))
   refine Ops.cut_h O O O (by have := (hS6.cap 0 O).1; dsimp only at this; omega) ?_
   have hS7 := hS6.shrinkI 0 O o.length (by omega)
   rw [List.take_left] at hS7
   rw [show (((o ++ [x]).length : Nat) : Int) - 1 = ((o.length : Nat) : Int) by omega, Int.toNat_natCast]
   refine Gdo O (Ops.len O O (Gdc O ?_))
   refine Cd.loop (α := Nat × List Int × List Int × Option Addr × Nat) (fun q => [(1, .slice A n c), (6, .slice A6 N N), (7, .int .i64 (lab N xss i).2), (9, .slice q.2.2.2.1 q.2.2.1.length q.2.2.2.2), (10, .int .i64 x), (17, .int .i64 (N : Int)), (18, .int .i64 (i : Int)), (46, .slice A n c), (47, .int .i64 (n : Int)), (48, .int .i64 (q.1 : Int))]) (fun q w' => St w w' [CkI 2 q.2.2.2.1 q.2.2.1.length q.2.2.2.2 q.2.2.1, CkI 2 A6 N N q.2.1] ∧ Dfs N xss i (lab N xss i).2 (lab N xss i).1 q.2.1 q.2.2.1 x q.1 ∧ q.1 ≤ n ∧ gi q.2.1 x = (lab N xss i).2 ∧ unl q.2.1 + q.2.2.1.length = unl L + o.length) (fun q => n - q.1) (0, L, o, A9, c9) ⟨O, O, O, O, O, O, O, O, O, O, trivial⟩ ⟨hS7, hD.pop0, Nat.zero_le _, hxo.2.2.2, O⟩ ?_
   rintro ⟨k, L', o', A', c'⟩ e3 w8 ⟨hS8, hD8, hk, hxc, hu8⟩
   dsimp only at hS8 hD8 hk hxc hu8 ⊢
   refine Gbc O ?_
   refine Cd.cond_p _ O (fun h4 => ?_) (fun h4 => ?_)
   ·have hM := hS8.oldRows hR
    have hrow := hM.at_ (i := k) (by omega) h4
    have hrk := hrl k (by omega) h4
    have hmem : gl xss k ∈ xss := gl_in (by omega) (by rw [hR.len]; exact h4)
    have hy := (hs _ hmem).2 x hxo.1 hxo.2.1
    refine Gao O (Ops.idx hM.top.2 O O O (by omega) h4 (Ops.ld_sl hM.top O (by omega) O O (Gdo O (Ops.idx hrow.2 O O O (by omega) (by omega) (Ops.ld_int hrow O (by omega) O O (Gdo O (Ops.idx (hS8.rdI 1 O).2 O O O (by omega) (by omega) (Ops.ld_int (hS8.rdI 1 O) O (by omega) O O (Gdc O ?_)))))))))
    refine Cd.cond_p _ O (fun h5 => ?_) (fun h5 => ?_)
    ·refine Gao O (Ops.idx (hS8.rdI 1 O).2 O O O (by omega) (by omega) (Ops.st_int 1 hS8 O O O (by omega) ?_))
     intro w9 hS9
     refine Gdo O (Ops.bs1I hS9 O O O ?_)
     intro A10 w10 hS10
     refine Ops.appI 1 hS10 O (hS10.rdI 0 O) O O O (by omega) (by omega) O ?_
     intro A11 c11 w11 hS11
     refine Gdo O (Ops.add O O O (by omega) (Gdn O (tQ ?_)))
     have hu9 := unl_set (L := L') (x := gi (gl xss k) x) (c := (lab N xss i).2) hy.1 (by rw [hD8.len]; exact hy.2) h5 hcnt.1
     refine ⟨(k + 1, L'.set (gi (gl xss k) x).toNat (lab N xss i).2, o' ++ [gi (gl xss k) x], A11, c11), by show n - (k + 1) < n - k; omega, ⟨O, O, O, by rw [List.length_append]; rfl, O, O, O, O, O, O, trivial⟩, ?_, hD8.push hs (by omega) (by rw [hR.len]; omega) hxo.1 hxo.2.1 hxo.2.2.1 hxc hcnt.1 h5, by show k + 1 ≤ n; omega, ?_, ?_⟩
     ·have h11 := hS11.tail
      simp only [List.length_append, List.length_singleton]
      exact h11
     ·show gi (L'.set _ _) x = _
      rw [gi_set hy.1 (by rw [hD8.len]; exact hy.2) hxo.1]
      split
      ·rfl
      exact hxc
     show unl (L'.set _ _) + (o' ++ [_]).length = _
     simp only [List.length_append, List.length_singleton]
     omega
    refine Gao O (Ops.add O O O (by omega) (Gdn O (tQ ?_)))
    exact ⟨(k + 1, L', o', A', c'), by show n - (k + 1) < n - k; omega, ⟨O, O, O, O, O, O, O, O, O, O, trivial⟩, hS8, hD8.skip (by rw [hR.len]; omega) (by omega), by show k + 1 ≤ n; omega, hxc, hu8⟩
   refine Gax O (thenQ_x (Gfn O (tQ ?_)))
   have hk' : k = xss.length := by rw [hR.len]; omega
   subst hk'
   exact ⟨(L', o', A', c'), by show unl L' + o'.length < unl L + (o ++ [x]).length; omega, ⟨O, O, O, O, O, O, trivial⟩, hS8, hD8.rest, by show unl L' + o'.length ≤ N; omega⟩
  have hop : op = [] := List.eq_nil_of_length_eq_zero (by omega)
  subst hop
  have hL := hD.done hs hinj (by omega) h2
  refine Gax O (thenQ_x (Gfo O (Ops.add O O O (by omega) (Gdo O (Ops.add O O O (by omega) (Gdn O (tQ ?_)))))))
  refine ⟨i + 1, by omega, ⟨O, O, by rw [lab_neg h2]; rfl, O, O, trivial⟩, ?_, by omega⟩
  rw [← hL]; exact hS6.tail
 refine Gax O (thenQ_x (Gfr O ?_))
 refine ret2_si O O ?_
 have : i = N := by omega
 subst this
 exact ⟨A6, O, hS3⟩
/-
 The walks that tell whether moves are a maniplex.
-/
def Comm (xss : List (List Int)) (i k f : Nat) : Prop := gi (gl xss k) (gi (gl xss i) f) = gi (gl xss i) (gi (gl xss k) f) ∧ gi (gl xss i) f ≠ gi (gl xss k) f
instance (xss : List (List Int)) (i k f : Nat) : Decidable (Comm xss i k f) := by unfold Comm; exact inferInstance
def Rows1 (xss : List (List Int)) : Prop := ∀ p ∈ xss, p.length = (gl xss 0).length ∧ IsPerm p ∧ IsFree p
instance (xss : List (List Int)) : Decidable (Rows1 xss) := by unfold Rows1; exact inferInstance
def Mani (xss : List (List Int)) : Prop := (1 ≤ xss.length ∧ xss.length ≤ 5) ∧ (2 ≤ (gl xss 0).length ∧ (gl xss 0).length ≤ 400) ∧ Rows1 xss ∧ (∀ i, i < xss.length → ∀ k, k < xss.length → i + 2 ≤ k → ∀ f, f < (gl xss 0).length → Comm xss i k f) ∧ (orbit (gl xss 0).length xss 0).length = (gl xss 0).length
instance (xss : List (List Int)) : Decidable (Mani xss) := by unfold Mani; exact inferInstance
theorem IsPerm.inj {p : List Int} (h : IsPerm p) {x y : Int} (hx : 0 ≤ x) (hx' : x < p.length) (hy : 0 ≤ y) (hy' : y < p.length) (e : gi p x = gi p y) : x = y := by
 obtain ⟨a, rfl⟩ : ∃ a : Nat, x = a := ⟨x.toNat, by omega⟩
 obtain ⟨b, rfl⟩ : ∃ b : Nat, y = b := ⟨y.toNat, by omega⟩
 rw [gi_mem (by omega), gi_mem (by omega)] at e
 have := (List.getElem_inj (h₀ := by omega) (h₁ := by omega) h.2.2).1 e
 omega
theorem Rows1.sys {xss : List (List Int)} (h : Rows1 xss) : Sys (gl xss 0).length xss := fun p hp => by
 have h1 := h p hp
 refine ⟨h1.1, fun x h0 hx => ?_⟩
 have := h1.2.1.range (i := x) h0 (by omega)
 omega
theorem Rows1.inj {xss : List (List Int)} (h : Rows1 xss) : Inj (gl xss 0).length xss := fun p hp x y hx hx' hy hy' e => by
 have h1 := h p hp
 exact h1.2.1.inj hx (by omega) hy (by omega) e
def Part (xss : List (List Int)) (k : Nat) : Prop := ∀ p ∈ xss.take k, p.length = (gl xss 0).length ∧ IsPerm p ∧ IsFree p
theorem Part.step {xss : List (List Int)} {k : Nat} (h : Part xss k) (hk : k < xss.length) (h1 : (gl xss k).length = (gl xss 0).length) (h2 : IsPerm (gl xss k)) (h3 : IsFree (gl xss k)) : Part xss (k + 1) := by
 intro p hp
 rw [take_succ_gl hk, List.mem_append] at hp
 rcases hp with hp | hp
 ·exact h p hp
 simp at hp; subst hp; exact ⟨h1, h2, h3⟩
theorem Part.all {xss : List (List Int)} {k : Nat} (h : Part xss k) (hk : xss.length ≤ k) : Rows1 xss := by
 intro p hp
 refine h p ?_
 rw [List.take_of_length_le hk]; exact hp
theorem Rows1.at_ {xss : List (List Int)} (h : Rows1 xss) {k : Nat} (hk : k < xss.length) : (gl xss k).length = (gl xss 0).length ∧ IsPerm (gl xss k) ∧ IsFree (gl xss k) := h _ (by rw [gl_mem hk]; exact List.getElem_mem _)
theorem l02Is_c (A : Option Addr) (n c : Nat) (rs : List SlV) (xss : List (List Int)) (w : World) (hR : RowsI w A n rs xss) (hn : n ≤ 9223372036854775807) :
  Ret Tryz.prog 110 [.agg #[.slice A n c]] w (fun v w' => v = .bool (decide (Mani xss)) ∧ St w w' []) := by
 have hxl := hR.len
 have r0 : 0 < n → (gl xss 0).length = (rg rs 0).n := fun h => hR.rowLen (by omega) (by omega)
 refine Ret.of_cd Tryz.func110 O Tryz.ntmps110 O (post1 O) (Gbo O (Ops.box1 (St.refl w) O O ?_))
 intro Ab w1 hS
 refine Gdo O (Ops.fld (hS.rd 0 O) O O O O inferInstance (Ops.ldf_s (hS.rd 0 O) O O O O O ?_))
 refine Ops.len O O (Gdo O ?_)
 refine Ops.split_p 13 O (fun h1 => ?_) (fun h1 => ?_)
 ·refine Ops.k O O O O O (Ops.k O O O O O (Gdo O (Ops.k O O O O O (Ops.k O O O O O (Ops.k O O O O O (Ops.k O O O O O (Ops.k O O O O O (Ops.k O O O O O (Gdo O (Ops.k O O O O O (Ops.k O O O O O ?_)))))))))))
  refine Ops.k O O O O O (Ops.k O O O O O (Ops.k O O O O O (Ops.k O O O O O (Gdc O ?_))))
  refine Cd.cond_t O (Gar O (ret1_b O ?_))
  exact ⟨by rw [decide_eq_false (fun h : Mani xss => by have := h.1.1; omega)], hS.none⟩
 refine Ops.g O O O (Gdo O (Ops.g O O O (Gdo O ?_)))
 refine Ops.split_p 17 O (fun h2 => ?_) (fun h2 => ?_)
 ·refine Ops.k O O O O O (Ops.k O O O O O (Ops.k O O O O O (Ops.k O O O O O (Ops.k O O O O O (Ops.k O O O O O (Gdo O (Ops.k O O O O O (Ops.k O O O O O (Ops.k O O O O O (Ops.k O O O O O (Ops.k O O O O O ?_)))))))))))
  refine Ops.k O O O O O (Gdc O ?_)
  refine Cd.cond_t O (Gar O (ret1_b O ?_))
  exact ⟨by rw [decide_eq_false (fun h : Mani xss => by have := h.1.2; omega)], hS.none⟩
 have hM := hS.oldRows hR
 have r0 := r0 (by omega)
 refine Ops.g O O O (Ops.fld (hS.rd 0 O) O O O O inferInstance (Ops.g O O O (Ops.ldf_s (hS.rd 0 O) O O O O O (Ops.g O O O (Ops.idx hM.top.2 O O O (by omega) (by omega) (Ops.g O O O (Ops.ld_sl hM.top O (by omega) O O ?_)))))))
 refine Ops.g O O O (Ops.len O O (Ops.g O O O (Gdo O ?_)))
 refine Ops.split_p 25 O (fun h3 => ?_) (fun h3 => ?_)
 ·refine Ops.k O O O O O (Ops.k O O O O O (Ops.k O O O O O (Ops.k O O O O O (Ops.k O O O O O (Ops.k O O O O O (Gdc O ?_))))))
  refine Cd.cond_t O (Gar O (ret1_b O ?_))
  exact ⟨by rw [decide_eq_false (fun h : Mani xss => by have := h.2.1.1; omega)], hS.none⟩
 refine Ops.g O O O (Ops.fld (hS.rd 0 O) O O O O inferInstance (Ops.g O O O (Ops.ldf_s (hS.rd 0 O) O O O O O (Ops.g O O O (Ops.idx hM.top.2 O O O (by omega) (by omega) (Ops.g O O O (Ops.ld_sl hM.top O (by omega) O O ?_)))))))
 refine Ops.g O O O (Ops.len O O (Ops.g O O O (Gdc O ?_)))
 refine Cd.cond_p _ O (fun h4 => ?_) (fun h4 => ?_)
 ·refine Gar O (ret1_b O ?_)
  exact ⟨by rw [decide_eq_false (fun h : Mani xss => by have := h.2.1.2; omega)], hS.none⟩
 refine Gac O ?_
 refine Cd.loop (α := Nat) (fun k => [(1, .pointer Ab), (3, .int .i64 (n : Int)), (4, .int .i64 (k : Int))]) (fun k w' => St w w' [Bx 24 1 Ab [.slice A n c]] ∧ k ≤ n ∧ Part xss k) (fun k => n - k) 0 ⟨O, O, O, trivial⟩ ⟨hS, Nat.zero_le _, fun p hp => by simp at hp⟩ ?_
 rintro k e w2 ⟨hS2, hk, hP⟩
 have hM := hS2.oldRows hR
 have hB := hS2.rd 0 O
 refine Gbc O ?_
 refine Cd.cond_p _ O (fun h5 => ?_) (fun h5 => ?_)
 ·have hkx : k < xss.length := by omega
  have rk := hR.rowLen (k := (k : Int)) (by omega) (by omega)
  have hrow := hM.at_ (i := k) (by omega) h5
  refine Gac O ?_
  by_cases h6 : ((rg rs k).n : Int) = (rg rs 0).n
  ·by_cases h7 : IsPerm (gl xss k)
   ·by_cases h8 : IsFree (gl xss k)
    ·
     refine Cd.draw [xP (ptrAt (Ab) 0), xS (A) (n) (c), xI ((k : Int)), xP (ptrAt (A) ((k : Int)).toNat), xS ((rg (rs) ((k : Int))).a) ((rg (rs) ((k : Int))).n) ((rg (rs) ((k : Int))).c), xI ((((rg (rs) ((k : Int))).n : Nat) : Int)), xP (ptrAt (Ab) 0), xS (A) (n) (c), xP (ptrAt (A) ((0 : Int)).toNat), xS ((rg (rs) ((0 : Int))).a) ((rg (rs) ((0 : Int))).n) ((rg (rs) ((0 : Int))).c), xI ((((rg (rs) ((0 : Int))).n : Nat) : Int)), xB (false), xB (false), xP (ptrAt (Ab) 0), xS (A) (n) (c), xI ((k : Int)), xP (ptrAt (A) ((k : Int)).toNat), xS ((rg (rs) ((k : Int))).a) ((rg (rs) ((k : Int))).n) ((rg (rs) ((k : Int))).c), xB (decide (IsPerm (gl xss k))), xB (false), xB (false), xB (false), xP (ptrAt (Ab) 0), xS (A) (n) (c), xI ((k : Int)), xP (ptrAt (A) ((k : Int)).toNat), xS ((rg (rs) ((k : Int))).a) ((rg (rs) ((k : Int))).n) ((rg (rs) ((k : Int))).c), xB (decide (IsFree (gl xss k))), xB (false), xB (false)] (by kernel_rfl) (by kernel_rfl) O (exL O) ?_ ?_
     ·refine ⟨fun _ _ hb _ _ => Ops.fld (hB.below hb) O O O O inferInstance (Az O), fun _ _ hb _ _ => Ops.ldf_s (hB.below hb) O O O O O (Az O), Dr O, fun _ _ hb _ _ => Ops.idx (hM.top.later hb).2 O O O (by omega) (by omega) (Az O), fun _ _ hb _ _ => Ops.ld_sl (hM.top.later hb) O (by omega) O O (Az O), fun _ _ _ _ _ => Ops.len O O (Az O), fun _ _ hb _ _ => Ops.fld (hB.below hb) O O O O inferInstance (Az O), fun _ _ hb _ _ => Ops.ldf_s (hB.below hb) O O O O O (Az O), fun _ _ hb _ _ => Ops.idx (hM.top.later hb).2 O O O (by omega) (by omega) (Az O), fun _ _ hb _ _ => Ops.ld_sl (hM.top.later hb) O (by omega) O O (Az O), fun _ _ _ _ _ => Ops.len O O (Az O), fun _ _ _ _ _ => Dk O (by exact congrArg Value.bool (decide_eq_false (by omega))), Dr O, fun _ _ hb _ _ => Ops.g O O O (Ops.fld (hB.below hb) O O O O inferInstance (Az O)), fun _ _ hb _ _ => Ops.g O O O (Ops.ldf_s (hB.below hb) O O O O O (Az O)), Dr O, fun _ _ hb _ _ => Ops.g O O O (Ops.idx (hM.top.later hb).2 O O O (by omega) (by omega) (Az O)), fun _ _ hb _ _ => Ops.g O O O (Ops.ld_sl (hM.top.later hb) O (by omega) O O (Az O)), ?_, fun _ _ _ _ _ => Ops.g O O O (Ops.not_p O O (Az (by exact congrArg Value.bool (decide_eq_false (fun h => h h7))))), Dr O, Dr O, fun _ _ hb _ _ => Ops.g O O O (Ops.fld (hB.below hb) O O O O inferInstance (Az O)), fun _ _ hb _ _ => Ops.g O O O (Ops.ldf_s (hB.below hb) O O O O O (Az O)), Dr O, fun _ _ hb _ _ => Ops.g O O O (Ops.idx (hM.top.later hb).2 O O O (by omega) (by omega) (Az O)), fun _ _ hb _ _ => Ops.g O O O (Ops.ld_sl (hM.top.later hb) O (by omega) O O (Az O)), ?_, fun _ _ _ _ _ => Ops.g O O O (Ops.not_p O O (Az (by exact congrArg Value.bool (decide_eq_false (fun h => h h8))))), Dr O, trivial⟩
      ·intro e1 w1 hb hp hun; refine Ops.g O O O (Ops.call (l01Perm_c _ _ _ _ _ (hrow.later hb)) O O O ?_)
       rintro _ w2 ⟨rfl, hst⟩
       refine Ops.n ?_
       exact After.dn hst.below (by exact O)
      intro e1 w1 hb hp hun
      refine Ops.g O O O (Ops.call (l01Free_c _ _ _ _ _ (hrow.later hb) h7) O O O ?_)
      rintro _ w2 ⟨rfl, hst⟩
      subst hst
      refine Ops.n (d0 (by exact O))
     intro u w3 hb3 _
     have hS3 := hS2.later hb3
     refine Gec O (Cd.cond_f O ?_)
     refine Gao O (Ops.add O O O (by omega) (Gdn O (tQ ?_)))
     exact ⟨k + 1, by omega, ⟨O, O, O, trivial⟩, hS3, by omega, hP.step hkx (by omega) h7 h8⟩
    refine Cd.draw [xP (ptrAt (Ab) 0), xS (A) (n) (c), xI ((k : Int)), xP (ptrAt (A) ((k : Int)).toNat), xS ((rg (rs) ((k : Int))).a) ((rg (rs) ((k : Int))).n) ((rg (rs) ((k : Int))).c), xI ((((rg (rs) ((k : Int))).n : Nat) : Int)), xP (ptrAt (Ab) 0), xS (A) (n) (c), xP (ptrAt (A) ((0 : Int)).toNat), xS ((rg (rs) ((0 : Int))).a) ((rg (rs) ((0 : Int))).n) ((rg (rs) ((0 : Int))).c), xI ((((rg (rs) ((0 : Int))).n : Nat) : Int)), xB (false), xB (false), xP (ptrAt (Ab) 0), xS (A) (n) (c), xI ((k : Int)), xP (ptrAt (A) ((k : Int)).toNat), xS ((rg (rs) ((k : Int))).a) ((rg (rs) ((k : Int))).n) ((rg (rs) ((k : Int))).c), xB (decide (IsPerm (gl xss k))), xB (false), xB (false), xB (false), xP (ptrAt (Ab) 0), xS (A) (n) (c), xI ((k : Int)), xP (ptrAt (A) ((k : Int)).toNat), xS ((rg (rs) ((k : Int))).a) ((rg (rs) ((k : Int))).n) ((rg (rs) ((k : Int))).c), xB (decide (IsFree (gl xss k))), xB (true), xB (true)] (by kernel_rfl) (by kernel_rfl) O (exL O) ?_ ?_
    ·refine ⟨fun _ _ hb _ _ => Ops.fld (hB.below hb) O O O O inferInstance (Az O), fun _ _ hb _ _ => Ops.ldf_s (hB.below hb) O O O O O (Az O), Dr O, fun _ _ hb _ _ => Ops.idx (hM.top.later hb).2 O O O (by omega) (by omega) (Az O), fun _ _ hb _ _ => Ops.ld_sl (hM.top.later hb) O (by omega) O O (Az O), fun _ _ _ _ _ => Ops.len O O (Az O), fun _ _ hb _ _ => Ops.fld (hB.below hb) O O O O inferInstance (Az O), fun _ _ hb _ _ => Ops.ldf_s (hB.below hb) O O O O O (Az O), fun _ _ hb _ _ => Ops.idx (hM.top.later hb).2 O O O (by omega) (by omega) (Az O), fun _ _ hb _ _ => Ops.ld_sl (hM.top.later hb) O (by omega) O O (Az O), fun _ _ _ _ _ => Ops.len O O (Az O), fun _ _ _ _ _ => Dk O (by exact congrArg Value.bool (decide_eq_false (by omega))), Dr O, fun _ _ hb _ _ => Ops.g O O O (Ops.fld (hB.below hb) O O O O inferInstance (Az O)), fun _ _ hb _ _ => Ops.g O O O (Ops.ldf_s (hB.below hb) O O O O O (Az O)), Dr O, fun _ _ hb _ _ => Ops.g O O O (Ops.idx (hM.top.later hb).2 O O O (by omega) (by omega) (Az O)), fun _ _ hb _ _ => Ops.g O O O (Ops.ld_sl (hM.top.later hb) O (by omega) O O (Az O)), ?_, fun _ _ _ _ _ => Ops.g O O O (Ops.not_p O O (Az (by exact congrArg Value.bool (decide_eq_false (fun h => h h7))))), Dr O, Dr O, fun _ _ hb _ _ => Ops.g O O O (Ops.fld (hB.below hb) O O O O inferInstance (Az O)), fun _ _ hb _ _ => Ops.g O O O (Ops.ldf_s (hB.below hb) O O O O O (Az O)), Dr O, fun _ _ hb _ _ => Ops.g O O O (Ops.idx (hM.top.later hb).2 O O O (by omega) (by omega) (Az O)), fun _ _ hb _ _ => Ops.g O O O (Ops.ld_sl (hM.top.later hb) O (by omega) O O (Az O)), ?_, fun _ _ _ _ _ => Ops.g O O O (Ops.not_p O O (Az (by exact congrArg Value.bool (decide_eq_true h8)))), Dr O, trivial⟩
     ·intro e1 w1 hb hp hun; refine Ops.g O O O (Ops.call (l01Perm_c _ _ _ _ _ (hrow.later hb)) O O O ?_)
      rintro _ w2 ⟨rfl, hst⟩
      refine Ops.n ?_
      exact After.dn hst.below (by exact O)
     intro e1 w1 hb hp hun
     refine Ops.g O O O (Ops.call (l01Free_c _ _ _ _ _ (hrow.later hb) h7) O O O ?_)
     rintro _ w2 ⟨rfl, hst⟩
     subst hst
     refine Ops.n (d0 (by exact O))
    intro u w3 hb3 _
    have hS3 := hS2.later hb3
    refine Gec O (Cd.cond_t O ?_)
    refine Gar O (thenQ_r (Qk_ret ?_))
    refine ret1_b O ?_
    exact ⟨by rw [decide_eq_false (fun h : Mani xss => h8 (h.2.2.1.at_ hkx).2.2)], hS3.none⟩
   refine Cd.draw [xP (ptrAt (Ab) 0), xS (A) (n) (c), xI ((k : Int)), xP (ptrAt (A) ((k : Int)).toNat), xS ((rg (rs) ((k : Int))).a) ((rg (rs) ((k : Int))).n) ((rg (rs) ((k : Int))).c), xI ((((rg (rs) ((k : Int))).n : Nat) : Int)), xP (ptrAt (Ab) 0), xS (A) (n) (c), xP (ptrAt (A) ((0 : Int)).toNat), xS ((rg (rs) ((0 : Int))).a) ((rg (rs) ((0 : Int))).n) ((rg (rs) ((0 : Int))).c), xI ((((rg (rs) ((0 : Int))).n : Nat) : Int)), xB (false), xB (false), xP (ptrAt (Ab) 0), xS (A) (n) (c), xI ((k : Int)), xP (ptrAt (A) ((k : Int)).toNat), xS ((rg (rs) ((k : Int))).a) ((rg (rs) ((k : Int))).n) ((rg (rs) ((k : Int))).c), xB (decide (IsPerm (gl xss k))), xB (true), xB (true), xB (true), xU, xU, xU, xU, xU, xU, xU, xB (true)] (by kernel_rfl) (by kernel_rfl) O (exL O) ?_ ?_
   ·refine ⟨fun _ _ hb _ _ => Ops.fld (hB.below hb) O O O O inferInstance (Az O), fun _ _ hb _ _ => Ops.ldf_s (hB.below hb) O O O O O (Az O), Dr O, fun _ _ hb _ _ => Ops.idx (hM.top.later hb).2 O O O (by omega) (by omega) (Az O), fun _ _ hb _ _ => Ops.ld_sl (hM.top.later hb) O (by omega) O O (Az O), fun _ _ _ _ _ => Ops.len O O (Az O), fun _ _ hb _ _ => Ops.fld (hB.below hb) O O O O inferInstance (Az O), fun _ _ hb _ _ => Ops.ldf_s (hB.below hb) O O O O O (Az O), fun _ _ hb _ _ => Ops.idx (hM.top.later hb).2 O O O (by omega) (by omega) (Az O), fun _ _ hb _ _ => Ops.ld_sl (hM.top.later hb) O (by omega) O O (Az O), fun _ _ _ _ _ => Ops.len O O (Az O), fun _ _ _ _ _ => Dk O (by exact congrArg Value.bool (decide_eq_false (by omega))), Dr O, fun _ _ hb _ _ => Ops.g O O O (Ops.fld (hB.below hb) O O O O inferInstance (Az O)), fun _ _ hb _ _ => Ops.g O O O (Ops.ldf_s (hB.below hb) O O O O O (Az O)), Dr O, fun _ _ hb _ _ => Ops.g O O O (Ops.idx (hM.top.later hb).2 O O O (by omega) (by omega) (Az O)), fun _ _ hb _ _ => Ops.g O O O (Ops.ld_sl (hM.top.later hb) O (by omega) O O (Az O)), ?_, fun _ _ _ _ _ => Ops.g O O O (Ops.not_p O O (Az (by exact congrArg Value.bool (decide_eq_true h7)))), Dr O, Dr O, Dr O, Dr O, Dr O, Dr O, Dr O, Dr O, Dr O, Dr O, trivial⟩
    intro e1 w1 hb hp hun
    refine Ops.g O O O (Ops.call (l01Perm_c _ _ _ _ _ (hrow.later hb)) O O O ?_)
    rintro _ w2 ⟨rfl, hst⟩
    refine Ops.n ?_
    exact After.dn hst.below (by exact O)
   intro u w3 hb3 _
   have hS3 := hS2.later hb3
   refine Gec O (Cd.cond_t O ?_)
   refine Gar O (thenQ_r (Qk_ret ?_))
   refine ret1_b O ?_
   exact ⟨by rw [decide_eq_false (fun h : Mani xss => h7 (h.2.2.1.at_ hkx).2.1)], hS3.none⟩
  refine Cd.draw [xP (ptrAt (Ab) 0), xS (A) (n) (c), xI ((k : Int)), xP (ptrAt (A) ((k : Int)).toNat), xS ((rg (rs) ((k : Int))).a) ((rg (rs) ((k : Int))).n) ((rg (rs) ((k : Int))).c), xI ((((rg (rs) ((k : Int))).n : Nat) : Int)), xP (ptrAt (Ab) 0), xS (A) (n) (c), xP (ptrAt (A) ((0 : Int)).toNat), xS ((rg (rs) ((0 : Int))).a) ((rg (rs) ((0 : Int))).n) ((rg (rs) ((0 : Int))).c), xI ((((rg (rs) ((0 : Int))).n : Nat) : Int)), xB (true), xB (true), xU, xU, xU, xU, xU, xU, xU, xB (true), xB (true), xU, xU, xU, xU, xU, xU, xU, xB (true)] (by kernel_rfl) (by kernel_rfl) O (exL O) ?_ ?_
  ·exact ⟨fun _ _ hb _ _ => Ops.fld (hB.below hb) O O O O inferInstance (Az O), fun _ _ hb _ _ => Ops.ldf_s (hB.below hb) O O O O O (Az O), Dr O, fun _ _ hb _ _ => Ops.idx (hM.top.later hb).2 O O O (by omega) (by omega) (Az O), fun _ _ hb _ _ => Ops.ld_sl (hM.top.later hb) O (by omega) O O (Az O), fun _ _ _ _ _ => Ops.len O O (Az O), fun _ _ hb _ _ => Ops.fld (hB.below hb) O O O O inferInstance (Az O), fun _ _ hb _ _ => Ops.ldf_s (hB.below hb) O O O O O (Az O), fun _ _ hb _ _ => Ops.idx (hM.top.later hb).2 O O O (by omega) (by omega) (Az O), fun _ _ hb _ _ => Ops.ld_sl (hM.top.later hb) O (by omega) O O (Az O), fun _ _ _ _ _ => Ops.len O O (Az O), fun _ _ _ _ _ => Dk O (by exact congrArg Value.bool (decide_eq_true h6)), Dr O, Dr O, Dr O, Dr O, Dr O, Dr O, Dr O, Dr O, Dr O, Dr O, Dr O, Dr O, Dr O, Dr O, Dr O, Dr O, Dr O, Dr O, trivial⟩
  intro u w3 hb3 _
  have hS3 := hS2.later hb3
  refine Gec O (Cd.cond_t O ?_)
  refine Gar O (thenQ_r (Qk_ret ?_))
  refine ret1_b O ?_
  exact ⟨by rw [decide_eq_false (fun h : Mani xss => by have := (h.2.2.1.at_ hkx).1; omega)], hS3.none⟩
 have hr1 := hP.all (by omega)
 have hs := hr1.sys
 have hrk : ∀ i : Int, 0 ≤ i → i < n → (rg rs i).n = (rg rs 0).n := fun i h0 h1 => by
  have e1 := hR.rowLen h0 h1
  have e2 := (hr1 _ (gl_in h0 (by omega))).1
  omega
 refine Gax O (thenQ_x (Gfc O ?_))
 refine Cd.loop (α := Nat) (fun i => [(1, .pointer Ab), (3, .int .i64 (n : Int)), (5, .int .i64 (i : Int))]) (fun i w' => St w w' [Bx 24 1 Ab [.slice A n c]] ∧ i ≤ n ∧ ∀ i', i' < i → ∀ k, k < n → i' + 2 ≤ k → ∀ f, f < (gl xss 0).length → Comm xss i' k f) (fun i => n - i) 0 ⟨O, O, O, trivial⟩ ⟨hS2, Nat.zero_le _, fun i' hi' => by omega⟩ ?_
 rintro i e w3 ⟨hS3, hi, hC⟩
 refine Gbc O ?_
 refine Cd.cond_p _ O (fun h6 => ?_) (fun h6 => ?_)
 ·refine Gao O (Ops.add O O O (by omega) (Gdc O ?_))
  refine Cd.loop (α := Nat) (fun k => [(1, .pointer Ab), (3, .int .i64 (n : Int)), (5, .int .i64 (i : Int)), (6, .int .i64 (k : Int))]) (fun k w' => St w w' [Bx 24 1 Ab [.slice A n c]] ∧ i + 2 ≤ k ∧ ∀ k', k' < k → k' < n → i + 2 ≤ k' → ∀ f, f < (gl xss 0).length → Comm xss i k' f) (fun k => n + 1 - k) (i + 2) ⟨O, O, O, O, trivial⟩ ⟨hS3, Nat.le_refl _, fun k' _ _ _ => by omega⟩ ?_
  rintro k e w4 ⟨hS4, hik, hC4⟩
  refine Gbc O ?_
  refine Cd.cond_p _ O (fun h7 => ?_) (fun h7 => ?_)
  ·have rki := hrk i (by omega) h6
   have rkk := hrk k (by omega) h7
   refine Gac O ?_
   refine Cd.loop (α := Nat) (fun f => [(1, .pointer Ab), (3, .int .i64 (n : Int)), (5, .int .i64 (i : Int)), (6, .int .i64 (k : Int)), (7, .int .i64 (f : Int))]) (fun f w' => St w w' [Bx 24 1 Ab [.slice A n c]] ∧ f ≤ (gl xss 0).length ∧ ∀ f', f' < f → Comm xss i k f') (fun f => (gl xss 0).length - f) 0 ⟨O, O, O, O, O, trivial⟩ ⟨hS4, Nat.zero_le _, fun f' hf' => by omega⟩ ?_
   rintro f e w5 ⟨hS5, hf, hC5⟩
   have hM := hS5.oldRows hR
   have hB := hS5.rd 0 O
   have hri := hM.at_ (i := i) (by omega) h6
   have hrk' := hM.at_ (i := k) (by omega) h7
   refine Gbo O (Ops.fld (hS5.rd 0 O) O O O O inferInstance (Ops.ldf_s (hS5.rd 0 O) O O O O O (Ops.idx hM.top.2 O O O (by omega) (by omega) (Ops.ld_sl hM.top O (by omega) O O ?_))))
   refine Ops.len O O (Gdc O ?_)
   refine Cd.cond_p _ O (fun h8 => ?_) (fun h8 => ?_)
   ·have hii := (hs _ (gl_in (k := (i : Int)) (by omega) (by omega))).2 (f : Int) (by omega) (by omega)
    have hkk := (hs _ (gl_in (k := (k : Int)) (by omega) (by omega))).2 (f : Int) (by omega) (by omega)
    refine Gac O ?_
    by_cases h9 : gi (gl xss k) (gi (gl xss i) f) = gi (gl xss i) (gi (gl xss k) f)
    ·by_cases h10 : gi (gl xss i) f = gi (gl xss k) f
     ·
      refine Cd.draw [xP (ptrAt (Ab) 0), xS (A) (n) (c), xI ((k : Int)), xP (ptrAt (A) ((k : Int)).toNat), xS ((rg (rs) ((k : Int))).a) ((rg (rs) ((k : Int))).n) ((rg (rs) ((k : Int))).c), xP (ptrAt (Ab) 0), xS (A) (n) (c), xI ((i : Int)), xP (ptrAt (A) ((i : Int)).toNat), xS ((rg (rs) ((i : Int))).a) ((rg (rs) ((i : Int))).n) ((rg (rs) ((i : Int))).c), xI ((f : Int)), xP (ptrAt ((rg (rs) ((i : Int))).a) ((f : Int)).toNat), xI (gi (gl xss i) ((f : Int))), xP (ptrAt ((rg (rs) ((k : Int))).a) (gi (gl xss i) ((f : Int))).toNat), xI (gi (gl xss k) (gi (gl xss i) ((f : Int)))), xP (ptrAt (Ab) 0), xS (A) (n) (c), xI ((i : Int)), xP (ptrAt (A) ((i : Int)).toNat), xS ((rg (rs) ((i : Int))).a) ((rg (rs) ((i : Int))).n) ((rg (rs) ((i : Int))).c), xP (ptrAt (Ab) 0), xS (A) (n) (c), xI ((k : Int)), xP (ptrAt (A) ((k : Int)).toNat), xS ((rg (rs) ((k : Int))).a) ((rg (rs) ((k : Int))).n) ((rg (rs) ((k : Int))).c), xI ((f : Int)), xP (ptrAt ((rg (rs) ((k : Int))).a) ((f : Int)).toNat), xI (gi (gl xss k) ((f : Int))), xP (ptrAt ((rg (rs) ((i : Int))).a) (gi (gl xss k) ((f : Int))).toNat), xI (gi (gl xss i) (gi (gl xss k) ((f : Int)))), xB (false), xB (false), xP (ptrAt (Ab) 0), xS (A) (n) (c), xI ((i : Int)), xP (ptrAt (A) ((i : Int)).toNat), xS ((rg (rs) ((i : Int))).a) ((rg (rs) ((i : Int))).n) ((rg (rs) ((i : Int))).c), xI ((f : Int)), xP (ptrAt ((rg (rs) ((i : Int))).a) ((f : Int)).toNat), xI (gi (gl xss i) ((f : Int))), xP (ptrAt (Ab) 0), xS (A) (n) (c), xI ((k : Int)), xP (ptrAt (A) ((k : Int)).toNat), xS ((rg (rs) ((k : Int))).a) ((rg (rs) ((k : Int))).n) ((rg (rs) ((k : Int))).c), xI ((f : Int)), xP (ptrAt ((rg (rs) ((k : Int))).a) ((f : Int)).toNat), xI (gi (gl xss k) ((f : Int))), xB (true), xB (true)] (by kernel_rfl) (by kernel_rfl) O (exL O) ?_ ?_
      ·exact ⟨fun _ _ hb _ _ => Ops.fld (hB.below hb) O O O O inferInstance (Az O), fun _ _ hb _ _ => Ops.ldf_s (hB.below hb) O O O O O (Az O), Dr O, fun _ _ hb _ _ => Ops.idx (hM.top.later hb).2 O O O (by omega) (by omega) (Az O), fun _ _ hb _ _ => Ops.ld_sl (hM.top.later hb) O (by omega) O O (Az O), fun _ _ hb _ _ => Ops.fld (hB.below hb) O O O O inferInstance (Az O), fun _ _ hb _ _ => Ops.ldf_s (hB.below hb) O O O O O (Az O), Dr O, fun _ _ hb _ _ => Ops.idx (hM.top.later hb).2 O O O (by omega) (by omega) (Az O), fun _ _ hb _ _ => Ops.ld_sl (hM.top.later hb) O (by omega) O O (Az O), Dr O, fun _ _ hb _ _ => Ops.idx (hri.later hb).2 O O O (by omega) (by omega) (Az O), fun _ _ hb _ _ => Ops.ld_int (hri.later hb) O (by omega) O O (Az O), fun _ _ hb _ _ => Ops.idx (hrk'.later hb).2 O O O (by omega) (by omega) (Az O), fun _ _ hb _ _ => Ops.ld_int (hrk'.later hb) O (by omega) O O (Az O), fun _ _ hb _ _ => Ops.fld (hB.below hb) O O O O inferInstance (Az O), fun _ _ hb _ _ => Ops.ldf_s (hB.below hb) O O O O O (Az O), Dr O, fun _ _ hb _ _ => Ops.idx (hM.top.later hb).2 O O O (by omega) (by omega) (Az O), fun _ _ hb _ _ => Ops.ld_sl (hM.top.later hb) O (by omega) O O (Az O), fun _ _ hb _ _ => Ops.fld (hB.below hb) O O O O inferInstance (Az O), fun _ _ hb _ _ => Ops.ldf_s (hB.below hb) O O O O O (Az O), Dr O, fun _ _ hb _ _ => Ops.idx (hM.top.later hb).2 O O O (by omega) (by omega) (Az O), fun _ _ hb _ _ => Ops.ld_sl (hM.top.later hb) O (by omega) O O (Az O), Dr O, fun _ _ hb _ _ => Ops.idx (hrk'.later hb).2 O O O (by omega) (by omega) (Az O), fun _ _ hb _ _ => Ops.ld_int (hrk'.later hb) O (by omega) O O (Az O), fun _ _ hb _ _ => Ops.idx (hri.later hb).2 O O O (by omega) (by omega) (Az O), fun _ _ hb _ _ => Ops.ld_int (hri.later hb) O (by omega) O O (Az O), fun _ _ _ _ _ => Dk O (by exact congrArg Value.bool (decide_eq_false (fun h => h h9))), Dr O, fun _ _ hb _ _ => Ops.g O O O (Ops.fld (hB.below hb) O O O O inferInstance (Az O)), fun _ _ hb _ _ => Ops.g O O O (Ops.ldf_s (hB.below hb) O O O O O (Az O)), Dr O, fun _ _ hb _ _ => Ops.g O O O (Ops.idx (hM.top.later hb).2 O O O (by omega) (by omega) (Az O)), fun _ _ hb _ _ => Ops.g O O O (Ops.ld_sl (hM.top.later hb) O (by omega) O O (Az O)), Dr O, fun _ _ hb _ _ => Ops.g O O O (Ops.idx (hri.later hb).2 O O O (by omega) (by omega) (Az O)), fun _ _ hb _ _ => Ops.g O O O (Ops.ld_int (hri.later hb) O (by omega) O O (Az O)), fun _ _ hb _ _ => Ops.g O O O (Ops.fld (hB.below hb) O O O O inferInstance (Az O)), fun _ _ hb _ _ => Ops.g O O O (Ops.ldf_s (hB.below hb) O O O O O (Az O)), Dr O, fun _ _ hb _ _ => Ops.g O O O (Ops.idx (hM.top.later hb).2 O O O (by omega) (by omega) (Az O)), fun _ _ hb _ _ => Ops.g O O O (Ops.ld_sl (hM.top.later hb) O (by omega) O O (Az O)), Dr O, fun _ _ hb _ _ => Ops.g O O O (Ops.idx (hrk'.later hb).2 O O O (by omega) (by omega) (Az O)), fun _ _ hb _ _ => Ops.g O O O (Ops.ld_int (hrk'.later hb) O (by omega) O O (Az O)), fun _ _ _ _ _ => Dk O (by exact congrArg Value.bool (decide_eq_true h10)), Dr O, trivial⟩
      intro u w6 hb6 _
      have hS6 := hS5.later hb6
      refine Gec O (Cd.cond_t O ?_)
      refine Gar O (thenQ_r (Qk_ret (thenQ_r (Qk_ret (thenQ_r (Qk_ret ?_))))))
      refine ret1_b O ?_
      exact ⟨by rw [decide_eq_false (fun h : Mani xss => (h.2.2.2.1 i (by omega) k (by omega) hik f (by omega)).2 h10)], hS6.none⟩
     refine Cd.draw [xP (ptrAt (Ab) 0), xS (A) (n) (c), xI ((k : Int)), xP (ptrAt (A) ((k : Int)).toNat), xS ((rg (rs) ((k : Int))).a) ((rg (rs) ((k : Int))).n) ((rg (rs) ((k : Int))).c), xP (ptrAt (Ab) 0), xS (A) (n) (c), xI ((i : Int)), xP (ptrAt (A) ((i : Int)).toNat), xS ((rg (rs) ((i : Int))).a) ((rg (rs) ((i : Int))).n) ((rg (rs) ((i : Int))).c), xI ((f : Int)), xP (ptrAt ((rg (rs) ((i : Int))).a) ((f : Int)).toNat), xI (gi (gl xss i) ((f : Int))), xP (ptrAt ((rg (rs) ((k : Int))).a) (gi (gl xss i) ((f : Int))).toNat), xI (gi (gl xss k) (gi (gl xss i) ((f : Int)))), xP (ptrAt (Ab) 0), xS (A) (n) (c), xI ((i : Int)), xP (ptrAt (A) ((i : Int)).toNat), xS ((rg (rs) ((i : Int))).a) ((rg (rs) ((i : Int))).n) ((rg (rs) ((i : Int))).c), xP (ptrAt (Ab) 0), xS (A) (n) (c), xI ((k : Int)), xP (ptrAt (A) ((k : Int)).toNat), xS ((rg (rs) ((k : Int))).a) ((rg (rs) ((k : Int))).n) ((rg (rs) ((k : Int))).c), xI ((f : Int)), xP (ptrAt ((rg (rs) ((k : Int))).a) ((f : Int)).toNat), xI (gi (gl xss k) ((f : Int))), xP (ptrAt ((rg (rs) ((i : Int))).a) (gi (gl xss k) ((f : Int))).toNat), xI (gi (gl xss i) (gi (gl xss k) ((f : Int)))), xB (false), xB (false), xP (ptrAt (Ab) 0), xS (A) (n) (c), xI ((i : Int)), xP (ptrAt (A) ((i : Int)).toNat), xS ((rg (rs) ((i : Int))).a) ((rg (rs) ((i : Int))).n) ((rg (rs) ((i : Int))).c), xI ((f : Int)), xP (ptrAt ((rg (rs) ((i : Int))).a) ((f : Int)).toNat), xI (gi (gl xss i) ((f : Int))), xP (ptrAt (Ab) 0), xS (A) (n) (c), xI ((k : Int)), xP (ptrAt (A) ((k : Int)).toNat), xS ((rg (rs) ((k : Int))).a) ((rg (rs) ((k : Int))).n) ((rg (rs) ((k : Int))).c), xI ((f : Int)), xP (ptrAt ((rg (rs) ((k : Int))).a) ((f : Int)).toNat), xI (gi (gl xss k) ((f : Int))), xB (false), xB (false)] (by kernel_rfl) (by kernel_rfl) O (exL O) ?_ ?_
     ·exact ⟨fun _ _ hb _ _ => Ops.fld (hB.below hb) O O O O inferInstance (Az O), fun _ _ hb _ _ => Ops.ldf_s (hB.below hb) O O O O O (Az O), Dr O, fun _ _ hb _ _ => Ops.idx (hM.top.later hb).2 O O O (by omega) (by omega) (Az O), fun _ _ hb _ _ => Ops.ld_sl (hM.top.later hb) O (by omega) O O (Az O), fun _ _ hb _ _ => Ops.fld (hB.below hb) O O O O inferInstance (Az O), fun _ _ hb _ _ => Ops.ldf_s (hB.below hb) O O O O O (Az O), Dr O, fun _ _ hb _ _ => Ops.idx (hM.top.later hb).2 O O O (by omega) (by omega) (Az O), fun _ _ hb _ _ => Ops.ld_sl (hM.top.later hb) O (by omega) O O (Az O), Dr O, fun _ _ hb _ _ => Ops.idx (hri.later hb).2 O O O (by omega) (by omega) (Az O), fun _ _ hb _ _ => Ops.ld_int (hri.later hb) O (by omega) O O (Az O), fun _ _ hb _ _ => Ops.idx (hrk'.later hb).2 O O O (by omega) (by omega) (Az O), fun _ _ hb _ _ => Ops.ld_int (hrk'.later hb) O (by omega) O O (Az O), fun _ _ hb _ _ => Ops.fld (hB.below hb) O O O O inferInstance (Az O), fun _ _ hb _ _ => Ops.ldf_s (hB.below hb) O O O O O (Az O), Dr O, fun _ _ hb _ _ => Ops.idx (hM.top.later hb).2 O O O (by omega) (by omega) (Az O), fun _ _ hb _ _ => Ops.ld_sl (hM.top.later hb) O (by omega) O O (Az O), fun _ _ hb _ _ => Ops.fld (hB.below hb) O O O O inferInstance (Az O), fun _ _ hb _ _ => Ops.ldf_s (hB.below hb) O O O O O (Az O), Dr O, fun _ _ hb _ _ => Ops.idx (hM.top.later hb).2 O O O (by omega) (by omega) (Az O), fun _ _ hb _ _ => Ops.ld_sl (hM.top.later hb) O (by omega) O O (Az O), Dr O, fun _ _ hb _ _ => Ops.idx (hrk'.later hb).2 O O O (by omega) (by omega) (Az O), fun _ _ hb _ _ => Ops.ld_int (hrk'.later hb) O (by omega) O O (Az O), fun _ _ hb _ _ => Ops.idx (hri.later hb).2 O O O (by omega) (by omega) (Az O), fun _ _ hb _ _ => Ops.ld_int (hri.later hb) O (by omega) O O (Az O), fun _ _ _ _ _ => Dk O (by exact congrArg Value.bool (decide_eq_false (fun h => h h9))), Dr O, fun _ _ hb _ _ => Ops.g O O O (Ops.fld (hB.below hb) O O O O inferInstance (Az O)), fun _ _ hb _ _ => Ops.g O O O (Ops.ldf_s (hB.below hb) O O O O O (Az O)), Dr O, fun _ _ hb _ _ => Ops.g O O O (Ops.idx (hM.top.later hb).2 O O O (by omega) (by omega) (Az O)), fun _ _ hb _ _ => Ops.g O O O (Ops.ld_sl (hM.top.later hb) O (by omega) O O (Az O)), Dr O, fun _ _ hb _ _ => Ops.g O O O (Ops.idx (hri.later hb).2 O O O (by omega) (by omega) (Az O)), fun _ _ hb _ _ => Ops.g O O O (Ops.ld_int (hri.later hb) O (by omega) O O (Az O)), fun _ _ hb _ _ => Ops.g O O O (Ops.fld (hB.below hb) O O O O inferInstance (Az O)), fun _ _ hb _ _ => Ops.g O O O (Ops.ldf_s (hB.below hb) O O O O O (Az O)), Dr O, fun _ _ hb _ _ => Ops.g O O O (Ops.idx (hM.top.later hb).2 O O O (by omega) (by omega) (Az O)), fun _ _ hb _ _ => Ops.g O O O (Ops.ld_sl (hM.top.later hb) O (by omega) O O (Az O)), Dr O, fun _ _ hb _ _ => Ops.g O O O (Ops.idx (hrk'.later hb).2 O O O (by omega) (by omega) (Az O)), fun _ _ hb _ _ => Ops.g O O O (Ops.ld_int (hrk'.later hb) O (by omega) O O (Az O)), fun _ _ _ _ _ => Dk O (by exact congrArg Value.bool (decide_eq_false h10)), Dr O, trivial⟩
     intro u w6 hb6 _
     have hS6 := hS5.later hb6
     refine Gec O (Cd.cond_f O ?_)
     refine Gao O (Ops.add O O O (by omega) (Gdn O (tQ ?_)))
     refine ⟨f + 1, by omega, ⟨O, O, O, O, O, trivial⟩, hS6, by omega, fun f' hf' => ?_⟩
     by_cases ef : f' = f
     ·subst ef; exact ⟨h9, h10⟩
     exact hC5 f' (by omega)
    refine Cd.draw [xP (ptrAt (Ab) 0), xS (A) (n) (c), xI ((k : Int)), xP (ptrAt (A) ((k : Int)).toNat), xS ((rg (rs) ((k : Int))).a) ((rg (rs) ((k : Int))).n) ((rg (rs) ((k : Int))).c), xP (ptrAt (Ab) 0), xS (A) (n) (c), xI ((i : Int)), xP (ptrAt (A) ((i : Int)).toNat), xS ((rg (rs) ((i : Int))).a) ((rg (rs) ((i : Int))).n) ((rg (rs) ((i : Int))).c), xI ((f : Int)), xP (ptrAt ((rg (rs) ((i : Int))).a) ((f : Int)).toNat), xI (gi (gl xss i) ((f : Int))), xP (ptrAt ((rg (rs) ((k : Int))).a) (gi (gl xss i) ((f : Int))).toNat), xI (gi (gl xss k) (gi (gl xss i) ((f : Int)))), xP (ptrAt (Ab) 0), xS (A) (n) (c), xI ((i : Int)), xP (ptrAt (A) ((i : Int)).toNat), xS ((rg (rs) ((i : Int))).a) ((rg (rs) ((i : Int))).n) ((rg (rs) ((i : Int))).c), xP (ptrAt (Ab) 0), xS (A) (n) (c), xI ((k : Int)), xP (ptrAt (A) ((k : Int)).toNat), xS ((rg (rs) ((k : Int))).a) ((rg (rs) ((k : Int))).n) ((rg (rs) ((k : Int))).c), xI ((f : Int)), xP (ptrAt ((rg (rs) ((k : Int))).a) ((f : Int)).toNat), xI (gi (gl xss k) ((f : Int))), xP (ptrAt ((rg (rs) ((i : Int))).a) (gi (gl xss k) ((f : Int))).toNat), xI (gi (gl xss i) (gi (gl xss k) ((f : Int)))), xB (true), xB (true), xU, xU, xU, xU, xU, xU, xU, xU, xU, xU, xU, xU, xU, xU, xU, xU, xU, xB (true)] (by kernel_rfl) (by kernel_rfl) O (exL O) ?_ ?_
    ·exact ⟨fun _ _ hb _ _ => Ops.fld (hB.below hb) O O O O inferInstance (Az O), fun _ _ hb _ _ => Ops.ldf_s (hB.below hb) O O O O O (Az O), Dr O, fun _ _ hb _ _ => Ops.idx (hM.top.later hb).2 O O O (by omega) (by omega) (Az O), fun _ _ hb _ _ => Ops.ld_sl (hM.top.later hb) O (by omega) O O (Az O), fun _ _ hb _ _ => Ops.fld (hB.below hb) O O O O inferInstance (Az O), fun _ _ hb _ _ => Ops.ldf_s (hB.below hb) O O O O O (Az O), Dr O, fun _ _ hb _ _ => Ops.idx (hM.top.later hb).2 O O O (by omega) (by omega) (Az O), fun _ _ hb _ _ => Ops.ld_sl (hM.top.later hb) O (by omega) O O (Az O), Dr O, fun _ _ hb _ _ => Ops.idx (hri.later hb).2 O O O (by omega) (by omega) (Az O), fun _ _ hb _ _ => Ops.ld_int (hri.later hb) O (by omega) O O (Az O), fun _ _ hb _ _ => Ops.idx (hrk'.later hb).2 O O O (by omega) (by omega) (Az O), fun _ _ hb _ _ => Ops.ld_int (hrk'.later hb) O (by omega) O O (Az O), fun _ _ hb _ _ => Ops.fld (hB.below hb) O O O O inferInstance (Az O), fun _ _ hb _ _ => Ops.ldf_s (hB.below hb) O O O O O (Az O), Dr O, fun _ _ hb _ _ => Ops.idx (hM.top.later hb).2 O O O (by omega) (by omega) (Az O), fun _ _ hb _ _ => Ops.ld_sl (hM.top.later hb) O (by omega) O O (Az O), fun _ _ hb _ _ => Ops.fld (hB.below hb) O O O O inferInstance (Az O), fun _ _ hb _ _ => Ops.ldf_s (hB.below hb) O O O O O (Az O), Dr O, fun _ _ hb _ _ => Ops.idx (hM.top.later hb).2 O O O (by omega) (by omega) (Az O), fun _ _ hb _ _ => Ops.ld_sl (hM.top.later hb) O (by omega) O O (Az O), Dr O, fun _ _ hb _ _ => Ops.idx (hrk'.later hb).2 O O O (by omega) (by omega) (Az O), fun _ _ hb _ _ => Ops.ld_int (hrk'.later hb) O (by omega) O O (Az O), fun _ _ hb _ _ => Ops.idx (hri.later hb).2 O O O (by omega) (by omega) (Az O), fun _ _ hb _ _ => Ops.ld_int (hri.later hb) O (by omega) O O (Az O), fun _ _ _ _ _ => Dk O (by exact congrArg Value.bool (decide_eq_true h9)), Dr O, Dr O, Dr O, Dr O, Dr O, Dr O, Dr O, Dr O, Dr O, Dr O, Dr O, Dr O, Dr O, Dr O, Dr O, Dr O, Dr O, Dr O, Dr O, trivial⟩
    intro u w6 hb6 _
    have hS6 := hS5.later hb6
    refine Gec O (Cd.cond_t O ?_)
    refine Gar O (thenQ_r (Qk_ret (thenQ_r (Qk_ret (thenQ_r (Qk_ret ?_))))))
    refine ret1_b O ?_
    exact ⟨by rw [decide_eq_false (fun h : Mani xss => h9 (h.2.2.2.1 i (by omega) k (by omega) hik f (by omega)).1)], hS6.none⟩
   refine Gax O (thenQ_x (Gfo O (Ops.add O O O (by omega) (Gdn O (tQ ?_)))))
   refine ⟨k + 1, by omega, ⟨O, O, O, O, trivial⟩, hS5, by omega, fun k' hk' hkn hik' f' hf' => ?_⟩
   by_cases ek : k' = k
   ·subst ek; exact hC5 f' (by omega)
   exact hC4 k' (by omega) hkn hik' f' hf'
  refine Gax O (thenQ_x (Gfo O (Ops.add O O O (by omega) (Gdn O (tQ ?_)))))
  refine ⟨i + 1, by omega, ⟨O, O, O, trivial⟩, hS4, by omega, fun i' hi' k' hk' hik' f' hf' => ?_⟩
  by_cases ei : i' = i
  ·subst ei; exact hC4 k' (by omega) hk' hik' f' hf'
  exact hC i' (by omega) k' hk' hik' f' hf'
 have hM := hS3.oldRows hR
 have hB := hS3.rd 0 O
 refine Gax O (thenQ_x (Gfc O ?_))
 refine Cd.draw [xP (ptrAt (Ab) 0), xS (A) (n) (c), .pr (fun v _ => ∃ A' c', v = .slice A' (orbit (gl xss 0).length xss 0).length c'), xI (((orbit (gl xss 0).length xss 0).length : Int)), xP (ptrAt (Ab) 0), xS (A) (n) (c), xP (ptrAt (A) ((0 : Int)).toNat), xS ((rg (rs) ((0 : Int))).a) ((rg (rs) ((0 : Int))).n) ((rg (rs) ((0 : Int))).c), xI ((((rg (rs) ((0 : Int))).n : Nat) : Int)), xB (decide ((((orbit (gl xss 0).length xss 0).length : Int)) = ((((rg (rs) ((0 : Int))).n : Nat) : Int)))), xB (decide ((((orbit (gl xss 0).length xss 0).length : Int)) = ((((rg (rs) ((0 : Int))).n : Nat) : Int))))] (by kernel_rfl) (by kernel_rfl) rfl (lx (lx (List.forall_mem_cons.2 ⟨Yd.lasts_pr (fun _ _ _ h _ => h), (lx (lx (lx (lx (lx (lx (lx (lx (fun _ h => by cases h)))))))))⟩))) ?_ ?_
 ·refine ⟨fun _ _ hb _ _ => Ops.fld (hB.below hb) O O O O inferInstance (Az O), fun _ _ hb _ _ => Ops.ldf_s (hB.below hb) O O O O O (Az O), ?_, ?_, fun _ _ hb _ _ => Ops.fld (hB.below hb) O O O O inferInstance (Az O), fun _ _ hb _ _ => Ops.ldf_s (hB.below hb) O O O O O (Az O), fun _ _ hb _ _ => Ops.idx (hM.top.later hb).2 O O O (by omega) (by omega) (Az O), fun _ _ hb _ _ => Ops.ld_sl (hM.top.later hb) O (by omega) O O (Az O), fun _ _ _ _ _ => Ops.len O O (Az O), Dr O, Dr O, trivial⟩
  ·intro e1 w1 hb hp hun; refine Ops.call (l01Orbit_c _ _ _ _ _ (gl xss 0).length 0 _ (hM.later hb) hn hs (by omega) (by omega) (by omega)) O O O ?_
   rintro _ w2 ⟨A', c', rfl, hst⟩
   refine Ops.n ?_
   exact After.dn hst.below ⟨A', c', O⟩
  intro e1 w1 hb hp hun
  obtain ⟨A', c', h141⟩ := (hp 2 (by decide) rfl _ _ rfl rfl)
  refine Ops.len (by exact h141) O (Az O)
 intro u w6 hb6 _
 have hS6 := hS3.later hb6
 refine Ger O (ret1_b O ?_)
 refine ⟨?_, hS6.none⟩
 congr 1
 refine decide_eq_decide.2 ⟨fun h => ⟨by omega, by omega, hr1, fun i' hi' k' hk' hik' f' hf' => hC i' (by omega) k' (by omega) hik' f' hf', by omega⟩, fun h => by have := h.2.2.2.2; omega⟩
/-
 The walk of isManiplex.
-/
theorem rg_cut {rs : List SlV} {l m : Nat} {j : Nat} (hj : j < m) : rg ((rs.drop l).take m) (j : Int) = rg rs ((l + j : Nat) : Int) := by
 have e : (((l + j : Nat) : Int)).toNat = l + j := by omega
 rw [rg, rg, e]
 simp [List.getD_eq_getElem?_getD, List.getElem?_take, hj]
theorem isManiplex_c (A : Option Addr) (n c : Nat) (rs : List SlV) (xss : List (List Int)) (w : World) (hR : RowsI w A n rs xss) (hn : n ≤ c) (hc : c ≤ 9223372036854775807) :
  Ret Tryz.prog 91 [.agg #[.slice A n c]] w (fun v w' => v = .bool (decide (Mani xss)) ∧ St w w' []) := by
 have hxl := hR.len
 have r0 : 0 < n → (gl xss 0).length = (rg rs 0).n := fun h => hR.rowLen (by omega) (by omega)
 refine Ret.of_cd Tryz.func91 O Tryz.ntmps91 O (post1 O) (Gbo O (Ops.box1 (St.refl w) O O ?_))
 intro Ab w1 hS
 refine Gdo O (Ops.call (rank_c _ _ _ _ _ _ (hS.rd 0 O) O) O O O ?_)
 rintro _ _ ⟨rfl, rfl⟩
 refine Ops.call (within_c _ _ _ _) O O O ?_
 rintro _ _ ⟨rfl, rfl⟩
 first | refine Ops.not_p rfl rfl ?_ | refine Ops.not rfl rfl ?_
 refine Gdo O ?_
 refine Ops.split_p 15 O (fun h1 => ?_) (fun h1 => ?_)
 ·refine Ops.k O O O O O (Ops.k O O O O O (Ops.k O O O O O (Gdc O ?_)))
  refine Cd.cond_t O (Gar O (ret1_b O ?_))
  exact ⟨by rw [decide_eq_false (fun h : Mani xss => by have := h.1; omega)], hS.none⟩
 have hM := hS.oldRows hR
 have r0 := r0 (by omega)
 refine Ops.g O O O (Ops.call (flags_c _ _ _ _ _ _ _ _ (hS.rd 0 O) O hM (by omega)) O O O ?_)
 rintro _ _ ⟨rfl, rfl⟩
 refine Ops.g O O O (Ops.call (within_c _ _ _ _) O O O ?_)
 rintro _ _ ⟨rfl, rfl⟩
 refine Ops.g O O O ?_
 first | refine Ops.not_p rfl rfl ?_ | refine Ops.not rfl rfl ?_
 refine Gdc O ?_
 refine Cd.cond_p _ O (fun h3 => ?_) (fun h3 => ?_)
 ·refine Gar O (ret1_b O ?_)
  exact ⟨by rw [decide_eq_false (fun h : Mani xss => by have := h.2.1; omega)], hS.none⟩
 refine Gao O (Ops.fld (hS.rd 0 O) O O O O inferInstance (Ops.ldf_s (hS.rd 0 O) O O O O O ?_))
 refine Ops.len O O (Gdc O ?_)
 refine Cd.loop (α := Nat) (fun k => [(1, .pointer Ab), (21, .slice A n c), (22, .int .i64 (n : Int)), (23, .int .i64 (k : Int))]) (fun k w' => St w w' [Bx 24 1 Ab [.slice A n c]] ∧ k ≤ n ∧ Part xss k) (fun k => n - k) 0 ⟨O, O, O, O, trivial⟩ ⟨hS, Nat.zero_le _, fun p hp => by simp at hp⟩ ?_
 rintro k e w2 ⟨hS2, hk, hP⟩
 have hM := hS2.oldRows hR
 refine Gbc O ?_
 refine Cd.cond_p _ O (fun h5 => ?_) (fun h5 => ?_)
 ·have hkx : k < xss.length := by omega
  have rk := hR.rowLen (k := (k : Int)) (by omega) (by omega)
  have hrow := hM.at_ (i := k) (by omega) h5
  refine Gao O (Ops.idx hM.top.2 O O O (by omega) h5 (Ops.ld_sl hM.top O (by omega) O O (Gdo O (Ops.call (isFreeInvolution_c _ _ _ _ _ hrow) O O O ?_))))
  rintro _ w3 ⟨rfl, hst⟩
  have hS3 := hS2.later hst.below
  have hM := hS3.oldRows hR
  first | refine Ops.not_p rfl rfl ?_ | refine Ops.not rfl rfl ?_
  refine Gdo O ?_
  refine Ops.split_p 30 O (fun h6 => ?_) (fun h6 => ?_)
  ·refine Ops.k O O O O O (Ops.k O O O O O (Ops.k O O O O O (Ops.k O O O O O (Gdc O ?_))))
   refine Cd.cond_t O ?_
   refine Gar O (thenQ_r (Qk_ret ?_))
   refine ret1_b O ?_
   exact ⟨by rw [decide_eq_false (fun h : Mani xss => h6 ⟨(h.2.2.1.at_ hkx).2.1, (h.2.2.1.at_ hkx).2.2⟩)], hS3.none⟩
  have h6 := Classical.not_not.1 h6
  refine Ops.g O O O (Gdo O (Ops.g O O O ?_))
  refine Ops.call (sizeI_c _ _ _ _) O O O ?_
  rintro _ _ ⟨rfl, rfl⟩
  refine Ops.g O O O (Ops.call (flags_c _ _ _ _ _ _ _ _ (hS3.rd 0 O) O hM (by omega)) O O O ?_)
  rintro _ _ ⟨rfl, rfl⟩
  refine Ops.g O O O (Gdc O ?_)
  refine Cd.cond_p _ O (fun h7 => ?_) (fun h7 => ?_)
  ·refine Gar O (thenQ_r (Qk_ret ?_))
   refine ret1_b O ?_
   exact ⟨by rw [decide_eq_false (fun h : Mani xss => h7 (by have := (h.2.2.1.at_ hkx).1; omega))], hS3.none⟩
  refine Gao O (Ops.add O O O (by omega) (Gdn O (tQ ?_)))
  exact ⟨k + 1, by omega, ⟨O, O, O, O, trivial⟩, hS3, by omega, hP.step hkx (by omega) h6.1 h6.2⟩
 have hr1 := hP.all (by omega)
 have hs := hr1.sys
 have hrk : ∀ i : Int, 0 ≤ i → i < n → (rg rs i).n = (rg rs 0).n := fun i h0 h1 => by
  have e1 := hR.rowLen h0 h1
  have e2 := (hr1 _ (gl_in h0 (by omega))).1
  omega
 refine Gax O (thenQ_x (Gfo O ?_))
 refine Ops.fld (hS2.rd 0 O) O O O O inferInstance (Ops.ldf_s (hS2.rd 0 O) O O O O O ?_)
 refine Ops.len O O (Gdc O ?_)
 refine Cd.loop (α := Nat) (fun i => [(1, .pointer Ab), (38, .slice A n c), (39, .int .i64 (n : Int)), (40, .int .i64 (i : Int))]) (fun i w' => St w w' [Bx 24 1 Ab [.slice A n c]] ∧ i ≤ n ∧ ∀ i', i' < i → ∀ k, k < n → i' + 2 ≤ k → ∀ f, f < (gl xss 0).length → Comm xss i' k f) (fun i => n - i) 0 ⟨O, O, O, O, trivial⟩ ⟨hS2, Nat.zero_le _, fun i' hi' => by omega⟩ ?_
 rintro i e w3 ⟨hS3, hi, hC⟩
 have hM := hS3.oldRows hR
 refine Gbc O ?_
 refine Cd.cond_p _ O (fun h6 => ?_) (fun h6 => ?_)
 ·refine Gao O (Ops.idx hM.top.2 O O O (by omega) h6 (Ops.ld_sl hM.top O (by omega) O O (Gdo O (Ops.fld (hS3.rd 0 O) O O O O inferInstance (Ops.ldf_s (hS3.rd 0 O) O O O O O ?_)))))
  refine Gdo O (Ops.add O O O (by omega) ?_)
  refine Ops.fld (hS3.rd 0 O) O O O O inferInstance (Ops.ldf_s (hS3.rd 0 O) O O O O O (Ops.len O O (Ops.minI O O O ?_)))
  obtain ⟨l, hl, hl1, hl2⟩ : ∃ l : Nat, min ((i : Int) + 2) (n : Int) = (l : Int) ∧ l ≤ n ∧ (l = i + 2 ∨ (l = n ∧ n ≤ i + 2)) := ⟨min (i + 2) n, by omega, by omega, by omega⟩
  rw [hl]
  refine Ops.cut_l O O O (by omega) ?_
  rw [Int.toNat_natCast]
  refine Ops.len O O (Gdc O ?_)
  refine Cd.loop (α := Nat) (fun j => [(1, .pointer Ab), (38, .slice A n c), (39, .int .i64 (n : Int)), (40, .int .i64 (i : Int)), (6, .slice (rg rs i).a (rg rs i).n (rg rs i).c), (53, .slice (cutAt A c l) (n - l) (c - l)), (54, .int .i64 ((n - l : Nat) : Int)), (55, .int .i64 (j : Int))]) (fun j w' => St w w' [Bx 24 1 Ab [.slice A n c]] ∧ j ≤ n - l ∧ ∀ k', k' < l + j → k' < n → i + 2 ≤ k' → ∀ f, f < (gl xss 0).length → Comm xss i k' f) (fun j => n - l - j) 0 ⟨O, O, O, O, O, O, O, O, trivial⟩ ⟨hS3, Nat.zero_le _, fun k' h1 _ _ => by omega⟩ ?_
  rintro j e w4 ⟨hS4, hj, hC4⟩
  have hM := hS4.oldRows hR
  have hcut := hM.top.cut (c := c) hl1 (Nat.le_refl n) hn
  refine Gbc O ?_
  refine Cd.cond_p _ O (fun h7 => ?_) (fun h7 => ?_)
  ·have hjl : j < n - l := by omega
   have hk : l + j < n := by omega
   have hik : i + 2 ≤ l + j := by omega
   refine Gao O (Ops.idx hcut.2 O O O (by omega) h7 (Ops.ld_sl hcut O (by omega) O O ?_))
   rw [rg_cut hjl]
   generalize hke : l + j = k at hk hik
   have rki := hrk i (by omega) h6
   have rkk := hrk k (by omega) (by omega)
   refine Gdo O (Ops.call (flags_c _ _ _ _ _ _ _ _ (hS4.rd 0 O) O hM (by omega)) O O O ?_)
   rintro _ w4 ⟨rfl, rfl⟩
   refine Gdc O ?_
   refine Cd.loop (α := Nat) (fun f => [(1, .pointer Ab), (38, .slice A n c), (39, .int .i64 (n : Int)), (40, .int .i64 (i : Int)), (6, .slice (rg rs i).a (rg rs i).n (rg rs i).c), (53, .slice (cutAt A c l) (n - l) (c - l)), (54, .int .i64 ((n - l : Nat) : Int)), (55, .int .i64 (j : Int)), (8, .slice (rg rs k).a (rg rs k).n (rg rs k).c), (59, .int .i64 ((rg rs 0).n : Int)), (60, .int .i64 (f : Int))]) (fun f w' => St w w' [Bx 24 1 Ab [.slice A n c]] ∧ f ≤ (gl xss 0).length ∧ ∀ f', f' < f → Comm xss i k f') (fun f => (gl xss 0).length - f) 0 ⟨O, O, O, O, O, O, O, O, O, O, O, trivial⟩ ⟨hS4, Nat.zero_le _, fun f' hf' => by omega⟩ ?_
   rintro f e w5 ⟨hS5, hf, hC5⟩
   have hM := hS5.oldRows hR
   have hri := hM.at_ (i := i) (by omega) h6
   have hrk' := hM.at_ (i := k) (by omega) (by omega)
   refine Gbc O ?_
   refine Cd.cond_p _ O (fun h8 => ?_) (fun h8 => ?_)
   ·have hii := (hs _ (gl_in (k := (i : Int)) (by omega) (by omega))).2 (f : Int) (by omega) (by omega)
    have hkk := (hs _ (gl_in (k := (k : Int)) (by omega) (by omega))).2 (f : Int) (by omega) (by omega)
    refine Gac O ?_
    by_cases h10 : gi (gl xss i) f = gi (gl xss k) f
    ·
     refine Cd.draw [xS ((rg rs i).a) ((rg rs i).n) ((rg rs i).c), xI ((f : Int)), xP (ptrAt ((rg rs i).a) ((f : Int)).toNat), xI (gi (gl xss i) ((f : Int))), xS ((rg rs k).a) ((rg rs k).n) ((rg rs k).c), xI ((f : Int)), xP (ptrAt ((rg rs k).a) ((f : Int)).toNat), xI (gi (gl xss k) ((f : Int))), xB (true), xB (true), xU, xU, xU, xU, xU, xU, xU, xU, xU, xU, xU, xU, xU, xU, xU, xB (true)] (by kernel_rfl) (by kernel_rfl) O (exL O) ?_ ?_
     ·exact ⟨Dr O, Dr O, fun _ _ hb _ _ => Ops.idx (hri.later hb).2 O O O (by omega) (by omega) (Az O), fun _ _ hb _ _ => Ops.ld_int (hri.later hb) O (by omega) O O (Az O), Dr O, Dr O, fun _ _ hb _ _ => Ops.idx (hrk'.later hb).2 O O O (by omega) (by omega) (Az O), fun _ _ hb _ _ => Ops.ld_int (hrk'.later hb) O (by omega) O O (Az O), fun _ _ _ _ _ => Dk O (by exact congrArg Value.bool (decide_eq_true h10)), Dr O, Dr O, Dr O, Dr O, Dr O, Dr O, Dr O, Dr O, Dr O, Dr O, Dr O, Dr O, Dr O, Dr O, Dr O, Dr O, Dr O, trivial⟩
     intro u w6 hb6 _
     have hS6 := hS5.later hb6
     refine Gec O (Cd.cond_t O ?_)
     refine Gar O (thenQ_r (Qk_ret (thenQ_r (Qk_ret (thenQ_r (Qk_ret ?_))))))
     refine ret1_b O ?_
     exact ⟨by rw [decide_eq_false (fun h : Mani xss => (h.2.2.2.1 i (by omega) k (by omega) hik f (by omega)).2 h10)], hS6.none⟩
    by_cases h9 : gi (gl xss k) (gi (gl xss i) f) = gi (gl xss i) (gi (gl xss k) f)
    ·refine Cd.draw [xS ((rg rs i).a) ((rg rs i).n) ((rg rs i).c), xI ((f : Int)), xP (ptrAt ((rg rs i).a) ((f : Int)).toNat), xI (gi (gl xss i) ((f : Int))), xS ((rg rs k).a) ((rg rs k).n) ((rg rs k).c), xI ((f : Int)), xP (ptrAt ((rg rs k).a) ((f : Int)).toNat), xI (gi (gl xss k) ((f : Int))), xB (false), xB (false), xS ((rg rs k).a) ((rg rs k).n) ((rg rs k).c), xS ((rg rs i).a) ((rg rs i).n) ((rg rs i).c), xI ((f : Int)), xP (ptrAt ((rg rs i).a) ((f : Int)).toNat), xI (gi (gl xss i) ((f : Int))), xP (ptrAt ((rg rs k).a) (gi (gl xss i) ((f : Int))).toNat), xI (gi (gl xss k) (gi (gl xss i) ((f : Int)))), xS ((rg rs i).a) ((rg rs i).n) ((rg rs i).c), xS ((rg rs k).a) ((rg rs k).n) ((rg rs k).c), xI ((f : Int)), xP (ptrAt ((rg rs k).a) ((f : Int)).toNat), xI (gi (gl xss k) ((f : Int))), xP (ptrAt ((rg rs i).a) (gi (gl xss k) ((f : Int))).toNat), xI (gi (gl xss i) (gi (gl xss k) ((f : Int)))), xB (false), xB (false)] (by kernel_rfl) (by kernel_rfl) O (exL O) ?_ ?_
     ·exact ⟨Dr O, Dr O, fun _ _ hb _ _ => Ops.idx (hri.later hb).2 O O O (by omega) (by omega) (Az O), fun _ _ hb _ _ => Ops.ld_int (hri.later hb) O (by omega) O O (Az O), Dr O, Dr O, fun _ _ hb _ _ => Ops.idx (hrk'.later hb).2 O O O (by omega) (by omega) (Az O), fun _ _ hb _ _ => Ops.ld_int (hrk'.later hb) O (by omega) O O (Az O), fun _ _ _ _ _ => Dk O (by exact congrArg Value.bool (decide_eq_false h10)), Dr O, Dr O, Dr O, Dr O, fun _ _ hb _ _ => Ops.g O O O (Ops.idx (hri.later hb).2 O O O (by omega) (by omega) (Az O)), fun _ _ hb _ _ => Ops.g O O O (Ops.ld_int (hri.later hb) O (by omega) O O (Az O)), fun _ _ hb _ _ => Ops.g O O O (Ops.idx (hrk'.later hb).2 O O O (by omega) (by omega) (Az O)), fun _ _ hb _ _ => Ops.g O O O (Ops.ld_int (hrk'.later hb) O (by omega) O O (Az O)), Dr O, Dr O, Dr O, fun _ _ hb _ _ => Ops.g O O O (Ops.idx (hrk'.later hb).2 O O O (by omega) (by omega) (Az O)), fun _ _ hb _ _ => Ops.g O O O (Ops.ld_int (hrk'.later hb) O (by omega) O O (Az O)), fun _ _ hb _ _ => Ops.g O O O (Ops.idx (hri.later hb).2 O O O (by omega) (by omega) (Az O)), fun _ _ hb _ _ => Ops.g O O O (Ops.ld_int (hri.later hb) O (by omega) O O (Az O)), fun _ _ _ _ _ => Dk O (by exact congrArg Value.bool (decide_eq_false (fun h => h h9))), Dr O, trivial⟩
     intro u w6 hb6 _
     have hS6 := hS5.later hb6
     refine Gec O (Cd.cond_f O ?_)
     refine Gao O (Ops.add O O O (by omega) (Gdn O (tQ ?_)))
     refine ⟨f + 1, by omega, ⟨O, O, O, O, O, O, O, O, O, O, O, trivial⟩, hS6, by omega, fun f' hf' => ?_⟩
     by_cases ef : f' = f
     ·subst ef; exact ⟨h9, h10⟩
     exact hC5 f' (by omega)
    refine Cd.draw [xS ((rg rs i).a) ((rg rs i).n) ((rg rs i).c), xI ((f : Int)), xP (ptrAt ((rg rs i).a) ((f : Int)).toNat), xI (gi (gl xss i) ((f : Int))), xS ((rg rs k).a) ((rg rs k).n) ((rg rs k).c), xI ((f : Int)), xP (ptrAt ((rg rs k).a) ((f : Int)).toNat), xI (gi (gl xss k) ((f : Int))), xB (false), xB (false), xS ((rg rs k).a) ((rg rs k).n) ((rg rs k).c), xS ((rg rs i).a) ((rg rs i).n) ((rg rs i).c), xI ((f : Int)), xP (ptrAt ((rg rs i).a) ((f : Int)).toNat), xI (gi (gl xss i) ((f : Int))), xP (ptrAt ((rg rs k).a) (gi (gl xss i) ((f : Int))).toNat), xI (gi (gl xss k) (gi (gl xss i) ((f : Int)))), xS ((rg rs i).a) ((rg rs i).n) ((rg rs i).c), xS ((rg rs k).a) ((rg rs k).n) ((rg rs k).c), xI ((f : Int)), xP (ptrAt ((rg rs k).a) ((f : Int)).toNat), xI (gi (gl xss k) ((f : Int))), xP (ptrAt ((rg rs i).a) (gi (gl xss k) ((f : Int))).toNat), xI (gi (gl xss i) (gi (gl xss k) ((f : Int)))), xB (true), xB (true)] (by kernel_rfl) (by kernel_rfl) O (exL O) ?_ ?_
    ·exact ⟨Dr O, Dr O, fun _ _ hb _ _ => Ops.idx (hri.later hb).2 O O O (by omega) (by omega) (Az O), fun _ _ hb _ _ => Ops.ld_int (hri.later hb) O (by omega) O O (Az O), Dr O, Dr O, fun _ _ hb _ _ => Ops.idx (hrk'.later hb).2 O O O (by omega) (by omega) (Az O), fun _ _ hb _ _ => Ops.ld_int (hrk'.later hb) O (by omega) O O (Az O), fun _ _ _ _ _ => Dk O (by exact congrArg Value.bool (decide_eq_false h10)), Dr O, Dr O, Dr O, Dr O, fun _ _ hb _ _ => Ops.g O O O (Ops.idx (hri.later hb).2 O O O (by omega) (by omega) (Az O)), fun _ _ hb _ _ => Ops.g O O O (Ops.ld_int (hri.later hb) O (by omega) O O (Az O)), fun _ _ hb _ _ => Ops.g O O O (Ops.idx (hrk'.later hb).2 O O O (by omega) (by omega) (Az O)), fun _ _ hb _ _ => Ops.g O O O (Ops.ld_int (hrk'.later hb) O (by omega) O O (Az O)), Dr O, Dr O, Dr O, fun _ _ hb _ _ => Ops.g O O O (Ops.idx (hrk'.later hb).2 O O O (by omega) (by omega) (Az O)), fun _ _ hb _ _ => Ops.g O O O (Ops.ld_int (hrk'.later hb) O (by omega) O O (Az O)), fun _ _ hb _ _ => Ops.g O O O (Ops.idx (hri.later hb).2 O O O (by omega) (by omega) (Az O)), fun _ _ hb _ _ => Ops.g O O O (Ops.ld_int (hri.later hb) O (by omega) O O (Az O)), fun _ _ _ _ _ => Dk O (by exact congrArg Value.bool (decide_eq_true h9)), Dr O, trivial⟩
    intro u w6 hb6 _
    have hS6 := hS5.later hb6
    refine Gec O (Cd.cond_t O ?_)
    refine Gar O (thenQ_r (Qk_ret (thenQ_r (Qk_ret (thenQ_r (Qk_ret ?_))))))
    refine ret1_b O ?_
    exact ⟨by rw [decide_eq_false (fun h : Mani xss => h9 (h.2.2.2.1 i (by omega) k (by omega) hik f (by omega)).1)], hS6.none⟩
   refine Gax O (thenQ_x (Gfo O (Ops.add O O O (by omega) (Gdn O (tQ ?_)))))
   refine ⟨j + 1, by omega, ⟨O, O, O, O, O, O, O, O, trivial⟩, hS5, by omega, fun k' hk' hkn hik' f' hf' => ?_⟩
   by_cases ek : k' = k
   ·subst ek; exact hC5 f' (by omega)
   exact hC4 k' (by omega) hkn hik' f' hf'
  refine Gax O (thenQ_x (Gfo O (Ops.add O O O (by omega) (Gdn O (tQ ?_)))))
  refine ⟨i + 1, by omega, ⟨O, O, O, O, trivial⟩, hS4, by omega, fun i' hi' k' hk' hik' f' hf' => ?_⟩
  by_cases ei : i' = i
  ·subst ei; exact hC4 k' (by omega) hk' hik' f' hf'
  exact hC i' (by omega) k' hk' hik' f' hf'
 have hB := hS3.rd 0 O
 refine Gax O (thenQ_x (Gfc O ?_))
 refine Cd.draw [xI (((rg rs 0).n : Int)), xP (ptrAt (Ab) 0), xS (A) (n) (c), .pr (fun v _ => ∃ A', v = .tuple #[.slice A' (gl xss 0).length (gl xss 0).length, .int .i64 (lab (gl xss 0).length xss (gl xss 0).length).2]), .pr (fun v _ => ∃ A', v = .tuple #[.slice A' (gl xss 0).length (gl xss 0).length, .int .i64 (lab (gl xss 0).length xss (gl xss 0).length).2]), .pr (fun v _ => ∃ A', v = .slice A' (gl xss 0).length (gl xss 0).length), xI ((lab (gl xss 0).length xss (gl xss 0).length).2), .pr (fun v _ => ∃ A', v = .slice A' (gl xss 0).length (gl xss 0).length), xI ((lab (gl xss 0).length xss (gl xss 0).length).2)] (by kernel_rfl) (by kernel_rfl) rfl (lx (lx (lx (List.forall_mem_cons.2 ⟨Yd.lasts_pr (fun _ _ _ h _ => h), (List.forall_mem_cons.2 ⟨Yd.lasts_pr (fun _ _ _ h _ => h), (List.forall_mem_cons.2 ⟨Yd.lasts_pr (fun _ _ _ h _ => h), (lx (List.forall_mem_cons.2 ⟨Yd.lasts_pr (fun _ _ _ h _ => h), (lx (fun _ h => by cases h))⟩))⟩)⟩)⟩)))) ?_ ?_
 ·refine ⟨?_, fun _ _ hb _ _ => Ops.fld (hB.below hb) O O O O inferInstance (Az O), fun _ _ hb _ _ => Ops.ldf_s (hB.below hb) O O O O O (Az O), ?_, ?_, ?_, ?_, ?_, Dr O, trivial⟩
  ·intro e1 w1 hb hp hun; refine Ops.call (flags_c _ _ _ _ _ _ _ _ (hB.below hb) O (hM.later hb) (by omega)) O O O ?_
   rintro _ w2 ⟨rfl, hst⟩
   subst hst
   refine Ops.n (d0 (by exact O))
  ·intro e1 w1 hb hp hun; refine Ops.call (orbitLabels_c A n c rs xss (gl xss 0).length _ (hM.later hb) (by omega) hs hr1.inj (by omega)) O (by rw [r0]; rfl) O ?_
   rintro _ w2 ⟨A', rfl, hst⟩
   refine Ops.n ?_
   exact After.dn hst.below ⟨A', O⟩
  ·intro e1 w1 hb hp hun
   obtain ⟨A', h96⟩ := (hp 3 (by decide) rfl _ _ rfl rfl)
   refine Ops.mv_tup O (by exact h96) O (Ops.n ?_)
   exact After.dn (Below.refl _ _) ⟨A', O⟩
  ·intro e1 w1 hb hp hun
   obtain ⟨A', h92⟩ := (hp 4 (by decide) rfl _ _ rfl rfl)
   refine Ops.extract (by exact h92) O O (Ops.n ?_)
   exact After.dn (Below.refl _ _) ⟨A', O⟩
  ·intro e1 w1 hb hp hun
   obtain ⟨A', h92⟩ := (hp 4 (by decide) rfl _ _ rfl rfl)
   refine Ops.extract (by exact h92) O O (Az O)
  intro e1 w1 hb hp hun
  obtain ⟨A', h97⟩ := (hp 5 (by decide) rfl _ _ rfl rfl)
  refine Ops.ms O (by exact h97) O (Ops.n ?_)
  exact After.dn (Below.refl _ _) ⟨A', O⟩
 intro u w6 hb6 _
 have hS6 := hS3.later hb6
 refine Ger O (ret1_b O ?_)
 refine ⟨?_, hS6.none⟩
 congr 1
 have ho := orbit_all hs (by omega)
 have hl := lab_one hs (by omega)
 exact decide_eq_decide.2 ⟨fun h => ⟨by omega, by omega, hr1, fun i' hi' k' hk' hik' f' hf' => hC i' (by omega) k' (by omega) hik' f' hf', ho.2 (hl.1 h)⟩, fun h => hl.2 (ho.1 h.2.2.2.2)⟩
/-
 The walks of the desk's small functions.
-/
section
variable {P : Program} {N : Nat} {ops : Array Oper} {K : Env → World → Prop} {rest : List Oper} {e : Env} {w : World} {d : Nat} {ty : TypeId} {pos : String} {af : Array Edge} {x y : Operand} {xt yt : TypeId}
theorem run_equal_bool [Und P xt .bool] (a b : Bool) : (Op.equal xt (.bool a) (.bool b)).run P w = .ok (a == b) w :=
 run_equalIn_bool w 9999 xt a b Und.out
theorem Ops.neqB [Und P xt .bool] {a b : Bool} (hx : ev e x = .bool a) (hy : ev e y = .bool b) (hb : Nat.blt d N = true) (hK : Ops P N ops K rest (upd e d (.bool (!(a == b)))) w) :
  Ops P N ops K (⟨some d, .binOp .neq xt x y yt, ty, pos, af, none⟩ :: rest) e w :=
 .val (by simp [execOp, hx, hy, eqGuard, binOp, run_equal_bool]) hb hK
theorem Ops.eqlB [Und P xt .bool] {a b : Bool} (hx : ev e x = .bool a) (hy : ev e y = .bool b) (hb : Nat.blt d N = true) (hK : Ops P N ops K rest (upd e d (.bool (a == b))) w) :
  Ops P N ops K (⟨some d, .binOp .eql xt x y yt, ty, pos, af, none⟩ :: rest) e w :=
 .val (by simp [execOp, hx, hy, eqGuard, binOp, run_equal_bool]) hb hK
end
/-
 Structs built, slices of structs, comparisons with nil, rows of a matrix turned.
-/
section
variable {P : Program} {N : Nat} {ops : Array Oper} {K : Env → World → Prop} {rest : List Oper} {e : Env} {w0 w w' : World} {ks : List Ck} {d : Nat} {ty : TypeId} {pos : String} {af : Array Edge}
theorem Ops.bld1 {t : TypeId} {f0 : Field} {z0 zf : Value} {b bf : Nat} [Und P t (.struct #[f0])] [Inf P t (.agg #[z0]) 1 b] {x0 : Operand} {v0 : Value} (hI : Inf P f0.type zf 1 bf) (ho : f0.offset = 0) (h0 : ev e x0 = v0) (c0 : v0.oneCell' = true) (hb : Nat.blt d N = true) (hK : Ops P N ops K rest (upd e d (.agg #[v0])) w) : Ops P N ops K (⟨some d, .build t #[(0, x0)], ty, pos, af, none⟩ :: rest) e w := by
 obtain ⟨inf, hi, hz0, hs, hby⟩ := Inf.get P t
 obtain ⟨inf', hi', hz0', hs', hby'⟩ := hI.get P f0.type
 have e0 : v0.cells = #[v0] := by cases v0 <;> simp [Value.oneCell'] at c0 <;> rfl
 have ez : (Value.agg #[z0]).cells = #[z0] := O
 refine .val (w' := w) ?_ hb hK
 simp [execOp, Instr.build, run_underlying (Und.out (P := P) (t := t)), sizeOf, typeInfo, zeroValue, hi, hz0, hi', hs', ho, h0, e0, ez, Instr.fill]
theorem Ops.eqNil {t t' el : TypeId} [Und P t (.slice el)] {x y : Operand} {A : Option Addr} {n c : Nat} (hx : ev e x = .slice A n c) (hy : ev e y = .slice none 0 0) (hb : Nat.blt d N = true) (hK : Ops P N ops K rest (upd e d (.bool A.isNone)) w) :
  Ops P N ops K (⟨some d, .binOp .eql t x y t', ty, pos, af, none⟩ :: rest) e w := by
 have hr : (Op.equal t (.slice A n c) (.slice none 0 0)).run P w = .ok A.isNone w := by
  show (Op.equalIn (9999 + 1) t (.slice A n c) (.slice none 0 0)).run P w = _
  rw [Op.equalIn]
  cases A <;> simp [run_underlying (Und.out (P := P) (t := t))]
 exact .val (by simp [execOp, hx, hy, eqGuard, binOp, hr]) hb hK
end
/-! a row of a matrix of one's own -/
theorem mat_get {t1 t2 : TypeId} {A : Option Addr} {n c : Nat} {rs : List SlV} {xss : List (List Int)} {pre ks : List Ck} {i : Nat} (hr : rs.length = xss.length) (hi : i < rs.length) : (pre ++ (mat t1 t2 A n c rs xss ++ ks))[pre.length + 1 + i]? = some (CkI t2 (rs.getD i slNil).a (rs.getD i slNil).n (rs.getD i slNil).c (xss.getD i [])) := by
 rw [List.getElem?_append_right (by omega), show pre.length + 1 + i - pre.length = i + 1 by omega, List.getElem?_append_left (by simp [mat, rowsCk_length hr]; omega)]
 simpa [mat] using rowsCk_get (t := t2) hr hi
section
variable {P : Program} {N : Nat} {ops : Array Oper} {K : Env → World → Prop} {rest : List Oper} {e : Env} {w0 w w' : World} {ks pre : List Ck} {ty : TypeId} {pos : String} {af : Array Edge}
end
structure MatV where
 top : SlV
 rs : List SlV
 xss : List (List Int)
def MatV.ok (m : MatV) : Prop := m.xss.length = m.top.n
/-
 A call with two results of which the first lies in memory; a struct of one slice built of nothing.
-/
section
variable {P : Program} {N : Nat} {ops : Array Oper} {K : Env → World → Prop} {rest : List Oper} {e : Env} {w0 w w' : World} {ks : List Ck} {d : Nat} {ty : TypeId} {pos : String} {af : Array Edge}
def retc2 (a n u : Nat) (R : Value → World → Prop) : Post
 | .normal, e, w => ∃ A f, e a = .pointer A ∧ Rd w A n f ∧ R (.tuple #[.agg ((List.range n).map f).toArray, e u]) w
 | .ret, e, w => ∃ A f, e a = .pointer A ∧ Rd w A n f ∧ R (.tuple #[.agg ((List.range n).map f).toArray, e u]) w
 | _, _, _ => False
theorem retc2_r {a n u : Nat} {R : Value → World → Prop} {A : Option Addr} {f : Nat → Value} {v : Value} (h : e a = .pointer A) (hR : Rd w A n f) (hv : e u = v) (h2 : R (.tuple #[.agg ((List.range n).map f).toArray, v]) w) : retc2 a n u R .ret e w := ⟨A, f, h, hR, by rw [hv]; exact h2⟩
theorem postc2 {fn : Func} {R : Value → World → Prop} {a t n b u : Nat} {fs : Array Field} {z : Value} [Und P t (.struct fs)] [Inf P t z n b] (hr : fn.results = #[.cell a t, .tmp u]) (hn' : Nat.blt 0 n = true) : ∀ x a1 e w, Rep N a1 e → retc2 a n u R x e w → bodyPost P fn (fun x w' => ∃ v, x = .returned v ∧ R v w') x a1 w := by
  intro x a1 e w he q
  have hn : 0 < n := by simpa [Nat.blt_eq] using hn'
  have hg := he.get a
  have hh := he.get u
  have key : ∀ (A : Option Addr) (f : Nat → Value), e a = .pointer A → Rd w A n f → (results fn a1.tmps).run P w = .ok (.tuple #[.agg ((List.range n).map f).toArray, e u]) w := by
    intro A f hA hR
    obtain ⟨q, rfl, hl⟩ := run_loadAgg (P := P) (t := t) hn hR
    rw [Array.getD_eq_getD_getElem?] at hg hh
    simp [results, hr, hg, hh, hA, asAddr, hl]
  cases x <;> first
    | exact q.elim
    | (obtain ⟨A, f, hA, hR, h2⟩ := q
       exact ⟨he.defers, _, key A f hA hR, _, O, h2⟩)
end
/-
 What the draws rest on: slices of bytes, numbers that wrap, a source of numbers.
-/
section
variable {P : Program} {N : Nat} {ops : Array Oper} {K : Env → World → Prop} {rest : List Oper} {e : Env} {w0 w w' : World} {ks : List Ck} {d : Nat} {ty : TypeId} {pos : String} {af : Array Edge}
theorem Ops.box3' {el : TypeId} {x : Operand} {v0 v1 v2 : Value} (hS : St w0 w ks) (hx : ev e x = .agg #[v0, v1, v2]) (hb : Nat.blt d N = true) (hK : ∀ A w', St w0 w' (Bx el 3 A [v0, v1, v2] :: ks) → Ops P N ops K rest (upd e d (.pointer A)) w') (hM : isM [v0, v1, v2] = false := by rfl) : Ops P N ops K (⟨some d, .box el x, ty, pos, af, none⟩ :: rest) e w := .box_agg hS hx hb rfl hK hM
/-! numbers that wrap -/
variable {x y : Operand} {xt yt : TypeId} {i j : Int}
theorem wrapU (i : Int) : 0 ≤ IntKind.u64.wrap i ∧ IntKind.u64.wrap i ≤ 18446744073709551615 := by rw [IntKind.wrap_u64]; omega
theorem Ops.mulW (hx : ev e x = .int .u64 i) (hy : ev e y = .int .u64 j) (hb : Nat.blt d N = true) (hK : ∀ r : Int, 0 ≤ r ∧ r ≤ 18446744073709551615 → Ops P N ops K rest (upd e d (.int .u64 r)) w) :
  Ops P N ops K (⟨some d, .binOp .mul xt x y yt, ty, pos, af, none⟩ :: rest) e w :=
 .val (by simp [execOp, hx, hy, eqGuard, binOp, Op.intArith]) hb (hK _ (wrapU (i * j)))
theorem Ops.addW (hx : ev e x = .int .u64 i) (hy : ev e y = .int .u64 j) (hb : Nat.blt d N = true) (hK : ∀ r : Int, 0 ≤ r ∧ r ≤ 18446744073709551615 → Ops P N ops K rest (upd e d (.int .u64 r)) w) :
  Ops P N ops K (⟨some d, .binOp .add xt x y yt, ty, pos, af, none⟩ :: rest) e w :=
 .val (by simp [execOp, hx, hy, eqGuard, binOp, Op.intArith]) hb (hK _ (wrapU (i + j)))
theorem bits_and_le (i : Int) : 0 ≤ bits .and .u64 i 16777215 ∧ bits .and .u64 i 16777215 ≤ 16777215 := by
 have h : ∀ a : BitVec 64, (a &&& BitVec.ofInt 64 16777215).toNat ≤ 16777215 := fun a => by
  rw [BitVec.toNat_and]
  exact Nat.and_le_right
 have e : bits .and .u64 i 16777215 = IntKind.u64.wrap ((BitVec.ofInt 64 i &&& BitVec.ofInt 64 16777215).toNat : Int) := O
 have := h (BitVec.ofInt 64 i)
 rw [e, IntKind.wrap_u64]
 omega
theorem Ops.andM (hx : ev e x = .int .u64 i) (hy : ev e y = .int .u64 16777215) (hb : Nat.blt d N = true) (hK : ∀ r : Int, 0 ≤ r ∧ r ≤ 16777215 → Ops P N ops K rest (upd e d (.int .u64 r)) w) :
  Ops P N ops K (⟨some d, .binOp .and xt x y yt, ty, pos, af, none⟩ :: rest) e w :=
 .val (by simp only [execOp, hx, hy, eqGuard, binOp, intBits_and]; simp) hb (hK _ (bits_and_le i))
theorem Ops.shrW {k : IntKind} (hx : ev e x = .int .u64 i) (hy : ev e y = .int k 33) (hb : Nat.blt d N = true) (hK : ∀ r : Int, Ops P N ops K rest (upd e d (.int .u64 r)) w) :
  Ops P N ops K (⟨some d, .binOp .shr xt x y yt, ty, pos, af, none⟩ :: rest) e w := by
 refine .val (v := .int .u64 (i.fdiv (2 ^ 33))) ?_ hb (hK _)
 have e1 : min 33 IntKind.u64.bits = 33 := by decide
 simp [execOp, hx, hy, eqGuard, binOp, Op.shift, e1]
/-! bytes -/
def RdY (w : World) (A : Option Addr) (n : Nat) (bs : List Int) : Prop := bs.length = n ∧ (∀ b ∈ bs, 0 ≤ b ∧ b ≤ 255) ∧ Rd w A n (fun j => .int .u8 (bs.getD j 0))
theorem RdY.below {w w' : World} {A : Option Addr} {n : Nat} {bs : List Int} (h : RdY w A n bs) (hb : Below w.heap.size w w') : RdY w' A n bs := ⟨h.1, h.2.1, Rd.below h.2.2 hb⟩
theorem RdY.at_ {A : Option Addr} {n : Nat} {bs : List Int} (h : RdY w A n bs) {j : Int} (h0 : 0 ≤ j) (h1 : j < n) : 0 ≤ bs.getD j.toNat 0 ∧ bs.getD j.toNat 0 ≤ 255 := by
 have hl : j.toNat < bs.length := by rw [h.1]; omega
 rw [List.getD_eq_getElem?_getD, List.getElem?_eq_getElem hl]
 exact h.2.1 _ (List.getElem_mem hl)
theorem Ops.ld_byte {t : TypeId} {u : TypeDesc} [Und P t u] {A : Option Addr} {n : Nat} {bs : List Int} (hR : RdY w A n bs) (hx : ev e x = .pointer (ptrAt A i.toNat)) (h1 : i.toNat < n) (hp : plainTy u = true) (hb : Nat.blt d N = true) (hK : Ops P N ops K rest (upd e d (.int .u8 (bs.getD i.toNat 0))) w) : Ops P N ops K (⟨some d, .load t x, ty, pos, af, none⟩ :: rest) e w :=
 .ld hR.2.2 hx h1 rfl hp hb hK
/-! literals of numbers -/
def idxI : Nat → List Int → List (Nat × Value)
 | _, [] => []
 | k, v :: r => (k, .int .i64 v) :: idxI (k + 1) r
theorem fill_ints : ∀ (vs : List Int) (k : Nat) (cells : Array Value), k + vs.length ≤ cells.size → ∃ out, Instr.fill (fun i => some (i * 1, 1)) cells (idxI k vs) = some out ∧ out.size = cells.size ∧ (∀ j, j < k → out[j]? = cells[j]?) ∧ (∀ j, j < vs.length → out[k + j]? = vs[j]?.map (Value.int .i64)) ∧ (∀ j, k + vs.length ≤ j → out[j]? = cells[j]?)
 | [], k, cells, _ => ⟨cells, rfl, rfl, fun _ _ => rfl, fun j hj => absurd hj (Nat.not_lt_zero _), fun _ _ => rfl⟩
 | v :: r, k, cells, h => by
  have hk : k < cells.size := by simp at h; omega
  obtain ⟨out, h1, h2, h3, h4, h5⟩ := fill_ints r (k + 1) (cells.setIfInBounds k (.int .i64 v)) (by simp at h ⊢; omega)
  refine ⟨out, ?_, by rw [h2]; simp, fun j hj => ?_, fun j hj => ?_, fun j hj => ?_⟩
  ·show Instr.fill _ cells ((k, .int .i64 v) :: idxI (k + 1) r) = some out
   rw [← h1]
   simp [Instr.fill, Value.cells, show ¬ cells.size < k + 1 by omega]
  ·rw [h3 j (by omega), Array.getElem?_setIfInBounds, if_neg (by omega)]
  ·cases j with
   | zero => rw [Nat.add_zero, h3 k (by omega), Array.getElem?_setIfInBounds, if_pos rfl, if_pos hk]; rfl
   | succ q =>
    have := h4 q (by simpa using hj)
    rw [show k + (q + 1) = k + 1 + q by omega, this]
    rfl
  ·rw [h5 j (by simp at hj ⊢; omega), Array.getElem?_setIfInBounds, if_neg (by simp at hj; omega)]
theorem fill_lit (vs : List Int) (cells : Array Value) (h : cells.size = vs.length) : Instr.fill (fun i => some (i * 1, 1)) cells (idxI 0 vs) = some (vs.map (Value.int .i64)).toArray := by
 obtain ⟨out, h1, h2, _, h4, _⟩ := fill_ints vs 0 cells (by omega)
 rw [h1]
 congr 1
 apply Array.ext'
 apply List.ext_getElem?
 intro j
 by_cases hj : j < vs.length
 ·have := h4 j hj
  rw [Nat.zero_add] at this
  simpa using this
 rw [List.getElem?_eq_none (by simpa [h2, h] using hj), List.getElem?_eq_none (by simpa using hj)]
theorem Ops.bsL {t el : TypeId} {z : Value} {b n : Nat} [Und P t (.slice el)] [Inf P el z 1 b] {ps : Array (Nat × Operand)} (vs : List Int) (hS : St w0 w ks) (hv : (ps.toList.map fun p => (p.1, ev e p.2)) = idxI 0 vs) (hn : vs.length = n) (hn0 : n ≠ 0) (hn1 : n ≤ 1000) (hz : z.cells = #[z]) (hb : Nat.blt d N = true) (hK : ∀ A w', St w0 w' (CkI el A n n vs :: ks) → Ops P N ops K rest (upd e d (.slice A n n)) w') : Ops P N ops K (⟨some d, .buildSlice t n ps, ty, pos, af, none⟩ :: rest) e w := by
 subst hn
 obtain ⟨inf, hi, hz0, hs, hby⟩ := Inf.get P el
 have hA := hS.alloc (vs.map (Value.int .i64)) el (by simp [maxLen]; omega) (isM_I _)
 refine .val (w' := w.alloc (.cells (vs.map (Value.int .i64)).toArray el)) ?_ hb (hK _ _ (by simpa [CkI] using hA))
 have hf := fill_lit vs ((Array.range (vs.length * 1)).map ((#[z] : Array Value)[· % (#[z] : Array Value).size]!)) (by simp)
 have hv' : (ps.map fun p => (p.1, ev e p.2)).toList = idxI 0 vs := by rw [Array.toList_map]; exact hv
 have h24 : ¬ 16777216 < vs.length := by omega
 simp only [Nat.mul_one] at hf
 simp [execOp, Instr.buildSlice, run_underlying (Und.out (P := P) (t := t)), sizeOf, typeInfo, zeroValue, hi, hs, hz0, hz, newRow, hv, h24, hn0]
 simp at hf
 simp [hf]
theorem Ops.bld02 {t : TypeId} {f0 f1 f2 : Field} {z0 z1 z2 y0 y1 y2 : Value} {b b0 b1 b2 : Nat} [Und P t (.struct #[f0, f1, f2])] [Inf P t (.agg #[z0, z1, z2]) 3 b] {x0 x2 : Operand} {v0 v2 : Value} (hI0 : Inf P f0.type y0 1 b0) (hI1 : Inf P f1.type y1 1 b1) (hI2 : Inf P f2.type y2 1 b2) (ho : f0.offset = 0) (ho1 : f1.offset = 1) (ho2 : f2.offset = 2) (h0 : ev e x0 = v0) (h2 : ev e x2 = v2) (c0 : v0.oneCell' = true) (c2 : v2.oneCell' = true) (hb : Nat.blt d N = true) (hK : Ops P N ops K rest (upd e d (.agg #[v0, z1, v2])) w) : Ops P N ops K (⟨some d, .build t #[(0, x0), (2, x2)], ty, pos, af, none⟩ :: rest) e w := by
 obtain ⟨inf, hi, hz0, hs, hby⟩ := Inf.get P t
 obtain ⟨inf0, hi0, _, hs0, _⟩ := hI0.get P f0.type
 obtain ⟨inf1, hi1, _, hs1, _⟩ := hI1.get P f1.type
 obtain ⟨inf2, hi2, _, hs2, _⟩ := hI2.get P f2.type
 have e0 : v0.cells = #[v0] := by cases v0 <;> simp [Value.oneCell'] at c0 <;> rfl
 have e2 : v2.cells = #[v2] := by cases v2 <;> simp [Value.oneCell'] at c2 <;> rfl
 have ez : (Value.agg #[z0, z1, z2]).cells = #[z0, z1, z2] := O
 refine .val (w' := w) ?_ hb hK
 simp [execOp, Instr.build, run_underlying (Und.out (P := P) (t := t)), sizeOf, typeInfo, zeroValue, hi, hz0, hi0, hs0, hi1, hs1, hi2, hs2, ho, ho1, ho2, h0, e0, h2, e2, ez, Instr.fill]
end
/-
 The sources of numbers that the draws and the laws' dice read, walked: each number lies in its range, and the source stays one.
-/
theorem setK_same {ks : List Ck} {i : Nat} {k : Ck} (h : ks[i]? = some k) : ks.set i k = ks := by
 apply List.ext_getElem?
 intro j
 rw [List.getElem?_set]
 split
 ·rename_i e
  subst e
  have hl := (List.getElem?_eq_some_iff.1 h).1
  rw [if_pos hl, h]
 rfl
theorem setK_get {ks : List Ck} {i : Nat} {k k' : Ck} (h : ks[i]? = some k) : (ks.set i k')[i]? = some k' := by
 have hl := (List.getElem?_eq_some_iff.1 h).1
 rw [List.getElem?_set, if_pos rfl, if_pos hl]
def srcK (w0 : World) (As : Option Addr) (k : Ck) : Prop := ∃ (Ac : Option Addr) (nc cc : Nat) (a h : Int) (bs : List Int), k = Bx 118 3 As [.slice Ac nc cc, .int .i64 a, .int .u64 h] ∧ (0 ≤ a ∧ a ≤ nc) ∧ nc ≤ 1000000 ∧ RdY w0 Ac nc bs
theorem srcNext_c {w0 w : World} {ks : List Ck} (i : Nat) {As : Option Addr} {k : Ck} (n : Int) (hS : St w0 w ks) (hk : ks[i]? = some k) (hK : srcK w0 As k) :
  Ret Tryz.prog 135 [.pointer As, .int .i64 n] w (fun v w' => ∃ (r : Int) (k' : Ck), v = .int .i64 r ∧ (0 ≤ r ∧ (1 ≤ n → r < n) ∧ (n < 1 → r = 0)) ∧ srcK w0 As k' ∧ St w0 w' (ks.set i k')) := by
 have hK0 := hK
 obtain ⟨Ac, nc, cc, a, h, bs, rfl, ha, hnc, hY⟩ := hK
 refine Ret.of_cd Tryz.func135 O Tryz.ntmps135 O (post1 O) (Gbc O ?_)
 refine Cd.cond_p _ O (fun h1 => ?_) (fun h1 => ?_)
 ·refine Gar O (ret1_i O ?_)
  exact ⟨0, _, O, ⟨Int.le_refl _, fun h => by omega, fun _ => O⟩, hK0, by rw [setK_same hk]; exact hS⟩
 refine Gao O (Ops.nilp (hS.rd i hk) (Nat.succ_pos 2) O O (Ops.fld (hS.rd i hk) O O O O inferInstance (Ops.ldf_i (k := .u64) (hS.rd i hk) O O O O O ?_)))
 refine Ops.mulW O O O fun r1 hr1 => ?_
 refine Ops.addW O O O fun r2 hr2 => ?_
 refine Ops.nilp (hS.rd i hk) (Nat.succ_pos 2) O O (Ops.fld (hS.rd i hk) O O O O inferInstance (Ops.stf i hS hk O O O O ?_))
 intro w1 hS1
 have hk1 := setK_get (k' := (⟨As, 3, 3, 118, [.slice Ac nc cc, .int .i64 a, .int .u64 r2]⟩ : Ck)) hk
 have hS1 : St w0 w1 (ks.set i (Bx 118 3 As [.slice Ac nc cc, .int .i64 a, .int .u64 r2])) := hS1
 refine Gdo O (Ops.nilp (hS1.rd i hk1) (Nat.succ_pos 2) O O (Ops.fld (hS1.rd i hk1) O O O O inferInstance (Ops.ldf_i (k := .u64) (hS1.rd i hk1) O O O O O ?_)))
 refine Ops.shrW O O O fun r3 => ?_
 refine Ops.andM O O O fun r4 hr4 => ?_
 refine Ops.convK O O (IntWalk.i64_in _ (by omega)) (Gdc O ?_)
 refine Cd.draw [xP (As), xP (As), xP (ptrAt (As) 1), xI (a), xP (As), xP (As), xP (ptrAt (As) 0), xS (Ac) (nc) (cc), xI (((nc : Nat) : Int)), xB (decide ((a) < (((nc : Nat) : Int))))] (by kernel_rfl) (by kernel_rfl) O (exL O) ?_ ?_
 ·exact ⟨Dr O, fun _ _ hb _ _ => Ops.nilp ((hS1.rd i hk1).below hb) (Nat.succ_pos _) O O (Az O), fun _ _ hb _ _ => Ops.fld ((hS1.rd i hk1).below hb) O O O O inferInstance (Az O), fun _ _ hb _ _ => Ops.ldf_i ((hS1.rd i hk1).below hb) O O O O O (Az O), Dr O, fun _ _ hb _ _ => Ops.nilp ((hS1.rd i hk1).below hb) (Nat.succ_pos _) O O (Az O), fun _ _ hb _ _ => Ops.fld ((hS1.rd i hk1).below hb) O O O O inferInstance (Az O), fun _ _ hb _ _ => Ops.ldf_s ((hS1.rd i hk1).below hb) O O O O O (Az O), fun _ _ _ _ _ => Ops.len O O (Az O), Dr O, trivial⟩
 intro u w2 hb2 _
 have hS2 := hS1.later hb2
 have hY2 : RdY w2 Ac nc bs := hY.below hS2.below
 refine Gec O ?_
 refine Cd.cond_p _ O (fun h2 => ?_) (fun h2 => ?_)
 ·have h255 := hY.at_ ha.1 h2
  refine Gac O ?_
  refine Cd.draw [xI (r4), xP (As), xP (As), xP (ptrAt (As) 0), xS (Ac) (nc) (cc), xP (As), xP (As), xP (ptrAt (As) 1), xI (a), xP (ptrAt Ac a.toNat), .ex (.int .u8 (bs.getD a.toNat 0)), xI (bs.getD a.toNat 0), xI ((r4) + (bs.getD a.toNat 0)), xI ((r4) + (bs.getD a.toNat 0))] (by kernel_rfl) (by kernel_rfl) O (exL O) ?_ ?_
  ·refine ⟨fun _ _ _ _ hun => Ops.mi O (by exact hun 13 _ O (by kernel_rfl)) O (Az O), Dr O, fun _ _ hb _ _ => Ops.nilp ((hS2.rd i hk1).below hb) (Nat.succ_pos _) O O (Az O), fun _ _ hb _ _ => Ops.fld ((hS2.rd i hk1).below hb) O O O O inferInstance (Az O), fun _ _ hb _ _ => Ops.ldf_s ((hS2.rd i hk1).below hb) O O O O O (Az O), Dr O, fun _ _ hb _ _ => Ops.nilp ((hS2.rd i hk1).below hb) (Nat.succ_pos _) O O (Az O), fun _ _ hb _ _ => Ops.fld ((hS2.rd i hk1).below hb) O O O O inferInstance (Az O), fun _ _ hb _ _ => Ops.ldf_i ((hS2.rd i hk1).below hb) O O O O O (Az O), ?_, ?_, ?_, fun _ _ _ _ _ => Ops.add O O O (by omega) (Az O), Dr O, trivial⟩
   ·intro e1 w1 hb hp hun; refine Ops.idx (hY2.below hb).2.2 O O O (by omega) (by omega) (Az O)
   ·intro e1 w1 hb hp hun; refine Ops.ld_byte (hY2.below hb) O (by omega) O O (Az O)
   intro e1 w1 hb hp hun
   refine Ops.convK O O (IntWalk.i64_in _ (by omega)) (Az O)
  intro u3 w3 hb3 _
  have hS3 := hS2.later hb3
  refine Geo O (Ops.nilp (hS3.rd i hk1) (Nat.succ_pos 2) O O (Ops.fld (hS3.rd i hk1) O O O O inferInstance (Ops.ldf_i (hS3.rd i hk1) O O O O O (Ops.add O O O (by omega) (Ops.nilp (hS3.rd i hk1) (Nat.succ_pos 2) O O (Ops.fld (hS3.rd i hk1) O O O O inferInstance (Ops.stf i hS3 hk1 O O O O ?_)))))))
  intro w4 hS4
  rw [List.set_set] at hS4
  refine Gdo O (Ops.rem O O O (by omega) (Gdr O (ret1_i O ?_)))
  exact ⟨(r4 + bs.getD a.toNat 0) % n, _, O, ⟨Int.emod_nonneg _ (by omega), fun h => Int.emod_lt_of_pos _ (by omega), fun h => by omega⟩, ⟨Ac, nc, cc, a + 1, r2, bs, O, by omega, hnc, hY⟩, hS4⟩
 refine Gao O (Ops.rem O O O (by omega) (Gdr O (ret1_i O ?_)))
 exact ⟨r4 % n, _, O, ⟨Int.emod_nonneg _ (by omega), fun h => Int.emod_lt_of_pos _ (by omega), fun h => by omega⟩, ⟨Ac, nc, cc, a, r2, bs, O, ha, hnc, hY⟩, hS2⟩
/-
 The sources of numbers begun from a list of bytes, and picks.
-/
theorem l01Pick_c {w0 w : World} {ks : List Ck} (i : Nat) {As : Option Addr} {k : Ck} (A : Option Addr) (n c : Nat) (xs : List Int) (hS : St w0 w ks) (hk : ks[i]? = some k) (hK : srcK w0 As k) (hR : ∀ k' w', St w0 w' (ks.set i k') → RdI w' A n xs) (hn : 0 < n ∧ n ≤ 1000000) :
  Ret Tryz.prog 137 [.pointer As, .slice A n c] w (fun v w' => ∃ (x : Int) (k' : Ck), v = .int .i64 x ∧ x ∈ xs ∧ srcK w0 As k' ∧ St w0 w' (ks.set i k')) := by
 refine Ret.of_cd Tryz.func137 O Tryz.ntmps137 O (post1 O) ?_
 refine Gbo O (Ops.len O O ?_)
 refine Ops.call (srcNext_c i (n : Int) hS hk hK) O O O ?_
 rintro _ w1 ⟨r, k', rfl, ⟨h0, h1, _⟩, hK', hT⟩
 have hR1 := hR k' w1 hT
 have hl := hR1.1
 have h1 := h1 (by omega)
 refine Ops.idx hR1.2 O O O (by omega) (by omega) (Ops.ld_int hR1 O (by omega) O O (Gdr O (ret1_i O ?_)))
 refine ⟨gi xs r, k', O, ?_, hK', hT⟩
 obtain ⟨q, rfl⟩ : ∃ q : Nat, r = q := ⟨r.toNat, by omega⟩
 rw [gi_mem (by omega)]
 exact List.getElem_mem _
/-
 Helpers of the laws: big, likeInts, same9.
-/
theorem big_c (Ac : Option Addr) (nc cc : Nat) (w : World) : Ret Tryz.prog 22 [.slice Ac nc cc] w (fun v w' => v = .bool (decide (4096 < (nc : Int))) ∧ St w w' []) := by
 refine Ret.of_cd Tryz.func22 O Tryz.ntmps22 O (post1 O) ?_
 refine Gbo O (Ops.len O O (Gdr O ?_))
 refine ret1_b O ?_
 exact ⟨O, St.refl w⟩
theorem likeInts_c (A : Option Addr) (n c : Nat) (xs : List Int) (B : Option Addr) (m cB : Nat) (ys : List Int) (w : World) (hX : RdI w A n xs) (hY : RdI w B m ys) (hn : n ≤ 9223372036854775806) :
  Ret Tryz.prog 36 [.slice A n c, .slice B m cB] w (fun v w' => v = .bool (decide (xs = ys)) ∧ St w w' []) := by
 have hxl := hX.1
 have hyl := hY.1
 refine Ret.of_cd Tryz.func36 O Tryz.ntmps36 O (post1 O) ?_
 refine Gbo O (Ops.len O O (Gdo O (Ops.len O O (Gdc O ?_))))
 refine Cd.cond_p _ O (fun h1 => ?_) (fun h1 => ?_)
 ·have hne : xs ≠ ys := fun e => h1 (by rw [← hxl, ← hyl, e])
  refine Gar O (ret1_b O ?_)
  exact ⟨by rw [decide_eq_false hne], St.refl w⟩
 have hnm : n = m := by omega
 subst hnm
 refine Gac O ?_
 refine Cd.loop (α := Nat) (fun i => [(0, .slice A n c), (1, .slice B n cB), (5, .int .i64 (i : Int))]) (fun i w' => St w w' [] ∧ i ≤ n ∧ ∀ j, j < i → xs[j]? = ys[j]?) (fun i => n - i) 0 ⟨O, O, O, trivial⟩ ⟨St.refl w, Nat.zero_le _, fun j hj => absurd hj (Nat.not_lt_zero _)⟩ ?_
 rintro i e w1 ⟨hS1, hi, hj⟩
 have hX1 := hS1.oldI hX
 have hY1 := hS1.oldI hY
 refine Gbo O (Ops.len O O (Gdc O ?_))
 refine Cd.cond_p _ O (fun h2 => ?_) (fun h2 => ?_)
 ·refine Gac O ?_
  refine Cd.draw [xS (A) (n) (c), xI ((i : Int)), xP (ptrAt (A) ((i : Int)).toNat), xI (gi (xs) ((i : Int))), xS (B) (n) (cB), xI ((i : Int)), xP (ptrAt (B) ((i : Int)).toNat), xI (gi (ys) ((i : Int))), xB (decide (¬ (gi (xs) ((i : Int))) = (gi (ys) ((i : Int)))))] (by kernel_rfl) (by kernel_rfl) O (exL O) ?_ ?_
  ·exact ⟨Dr O, Dr O, fun _ _ hb _ _ => Ops.idx (hX1.later hb).2 O O O (by omega) (by omega) (Az O), fun _ _ hb _ _ => Ops.ld_int (hX1.later hb) O (by omega) O O (Az O), Dr O, Dr O, fun _ _ hb _ _ => Ops.idx (hY1.later hb).2 O O O (by omega) (by omega) (Az O), fun _ _ hb _ _ => Ops.ld_int (hY1.later hb) O (by omega) O O (Az O), Dr O, trivial⟩
  intro u w2 hb2 _
  have hS2 := hS1.later hb2
  refine Gec O ?_
  refine Cd.cond_p _ O (fun h3 => ?_) (fun h3 => ?_)
  ·have hne : xs ≠ ys := fun e => h3 (by rw [e])
   refine Gar O (thenQ_r (Qk_ret ?_))
   refine ret1_b O ?_
   exact ⟨by rw [decide_eq_false hne], hS2⟩
  have h3 := Decidable.not_not.1 h3
  rw [gi_mem (by omega), gi_mem (by omega)] at h3
  refine Gao O (Ops.add O O O (by omega) (Gdn O (tQ ?_)))
  refine ⟨i + 1, by show n - (i + 1) < n - i; omega, ⟨O, O, O, trivial⟩, hS2, by omega, fun j hj' => ?_⟩
  by_cases e : j = i
  ·subst e; rw [List.getElem?_eq_getElem (by omega), List.getElem?_eq_getElem (by omega), h3]
  exact hj j (by omega)
 have he : xs = ys := List.ext_getElem? fun j => by
  by_cases hjn : j < n
  ·exact hj j (by omega)
  rw [List.getElem?_eq_none (by omega), List.getElem?_eq_none (by omega)]
 refine Gax O (thenQ_x (Gfr O ?_))
 refine ret1_b O ?_
 exact ⟨by rw [decide_eq_true he], hS1⟩
end Go.Proofs.YtopgfgdgfjddpaaGreatDoor.Vc
/-
 Plain mathematics of rooted forms: a tree of partial moves, and two ways of cutting it that keep the same leaves.
-/
namespace Go.Proofs.YtopgfgdgfjddpaaGreatDoor.Vc
def cell (M : List (List Int)) (i : Nat) (f : Int) : Int := gi (gl M i) f
def setc (M : List (List Int)) (i f : Nat) (v : Int) : List (List Int) := M.set i ((gl M i).set f v)
def put (M : List (List Int)) (i f g : Nat) : List (List Int) := setc (setc M i f g) i g f
def Shp (n F : Nat) (M : List (List Int)) : Prop := M.length = n ∧ ∀ p ∈ M, p.length = F
section
variable {n F : Nat} {M : List (List Int)}
theorem Shp.row (h : Shp n F M) {i : Nat} (hi : i < n) : (gl M i).length = F := h.2 _ (by rw [gl_mem (by rw [h.1]; exact hi)]; exact List.getElem_mem _)
theorem gl_set {i k : Nat} {p : List Int} (hi : i < M.length) : gl (M.set i p) k = if i = k then p else gl M k := by
 simp only [gl, Int.toNat_natCast, List.getD_eq_getElem?_getD, List.getElem?_set]
 by_cases e : i = k
 ·subst e; simp [hi]
 simp [e]
end
inductive Con (n : Nat) (M : List (List Int)) : Int → Prop where
 | zero : Con n M 0
 | step {y : Int} {i : Nat} : Con n M y → i < n → 0 ≤ y → 0 ≤ cell M i y → Con n M (cell M i y)
structure Inv (n F : Nat) (M : List (List Int)) (met at_ : Nat) : Prop where
 shp : Shp n F M
 n0 : 0 < n
 met1 : 1 ≤ met
 metF : met ≤ F
 cells : ∀ (i : Nat) (f : Int), i < n → 0 ≤ f → f < F → cell M i f = -1 ∨ (0 ≤ cell M i f ∧ cell M i f < met ∧ f < met ∧ cell M i (cell M i f) = f ∧ cell M i f ≠ f)
 known : ∀ a : Nat, a < at_ → 0 ≤ cell M (a % n) (a / n : Nat)
 con : ∀ f : Nat, f < met → Con n M f
 le : at_ ≤ met * n
section
variable {n F : Nat} {M : List (List Int)} {met at_ : Nat}
def grow (n F : Nat) (ok : List (List Int) → Nat → Nat → Bool) (fin : List (List Int) → Bool) : Nat → Nat → Nat → List (List Int) → List (List (List Int))
 | 0, _, _, _ => []
 | k + 1, at_, met, M =>
  if at_ = met * n then (if met = F ∧ fin M = true then [M] else [])
  else if 0 ≤ cell M (at_ % n) (at_ / n : Nat) then grow n F ok fin k (at_ + 1) met M
  else (List.range' (at_ / n + 1) (min met (F - 1) - at_ / n)).flatMap fun g =>
   if 0 ≤ cell M (at_ % n) (g : Nat) then [] else if ok (put M (at_ % n) (at_ / n) g) (at_ % n) (at_ / n) = true then grow n F ok fin k (at_ + 1) (max met (g + 1)) (put M (at_ % n) (at_ / n) g) else []
end
/-! what is asked of partial moves -/
def kn (M : List (List Int)) (i : Nat) (x : Int) : Int := if x < 0 then -1 else cell M i x
def FitsP (M : List (List Int)) (i k : Nat) (f : Int) : Prop := (0 ≤ cell M i f → cell M i f ≠ cell M k f) ∧ (0 ≤ kn M k (cell M i f) → 0 ≤ kn M i (cell M k f) → kn M k (cell M i f) = kn M i (cell M k f))
instance (M : List (List Int)) (i k : Nat) (f : Int) : Decidable (FitsP M i k f) := by unfold FitsP; exact inferInstance
def FitsAll (M : List (List Int)) (f : Int) : Prop := ∀ i, i < M.length → ∀ k, k < M.length → i + 2 ≤ k → FitsP M i k f
instance (M : List (List Int)) (f : Int) : Decidable (FitsAll M f) := by unfold FitsAll; exact inferInstance
def BadP (M : List (List Int)) (i k : Nat) (f g : Int) : Prop := cell M k f = g ∨ (0 ≤ cell M k f ∧ 0 ≤ cell M k g ∧ 0 ≤ cell M i (cell M k f) ∧ cell M i (cell M k f) ≠ cell M k g) ∨ (0 ≤ cell M k f ∧ 0 ≤ cell M k g ∧ 0 ≤ cell M i (cell M k g) ∧ cell M i (cell M k g) ≠ cell M k f)
instance (M : List (List Int)) (i k : Nat) (f g : Int) : Decidable (BadP M i k f g) := by unfold BadP; exact inferInstance
/-
 Plain mathematics of rooted forms: both ways of cutting the tree keep the maniplexes, in the same order.
-/
section
variable {n F : Nat} {L M : List (List Int)}
theorem Inv.full (h : Inv n F L F (F * n)) {i : Nat} {f : Int} (hi : i < n) (h0 : 0 ≤ f) (hf : f < F) : 0 ≤ cell L i f := by
 obtain ⟨q, rfl⟩ : ∃ q : Nat, f = q := ⟨f.toNat, by omega⟩
 have h1 : q * n + i < F * n := by
  have : (q + 1) * n ≤ F * n := Nat.mul_le_mul_right n (by omega)
  rw [Nat.succ_mul] at this
  omega
 have h2 := h.known (q * n + i) h1
 rw [Nat.add_comm, Nat.add_mul_mod_self_right, Nat.mod_eq_of_lt hi, Nat.add_mul_div_right _ _ h.n0, Nat.div_eq_of_lt hi, Nat.zero_add] at h2
 exact h2
theorem Inv.inv (h : Inv n F L F (F * n)) {i : Nat} {f : Int} (hi : i < n) (h0 : 0 ≤ f) (hf : f < F) : 0 ≤ cell L i f ∧ cell L i f < F ∧ cell L i (cell L i f) = f ∧ cell L i f ≠ f := by
 have h1 := h.full hi h0 hf
 rcases h.cells i f hi h0 hf with h2 | h2
 ·omega
 exact ⟨h2.1, h2.2.1, h2.2.2.2.1, h2.2.2.2.2⟩
theorem Inv.rows1 (h : Inv n F L F (F * n)) (hF : F ≤ 400) : Rows1 L := by
 intro p hp
 obtain ⟨i, hi, rfl⟩ := List.mem_iff_getElem.1 hp
 have hin : i < n := by rw [← h.shp.1]; exact hi
 have e : L[i] = gl L i := (gl_mem hi).symm
 rw [e]
 have hl := h.shp.row hin
 have hl0 := h.shp.row h.n0
 have hinv : ∀ f : Int, 0 ≤ f → f < F → 0 ≤ gi (gl L i) f ∧ gi (gl L i) f < F ∧ gi (gl L i) (gi (gl L i) f) = f ∧ gi (gl L i) f ≠ f := fun f h0 hf => h.inv hin h0 hf
 refine ⟨by rw [hl, ← hl0]; rfl, ⟨by omega, fun x hx => ?_, ?_⟩, fun k hk => ?_⟩
 ·obtain ⟨k, hk, rfl⟩ := List.mem_iff_getElem.1 hx
  rw [← gi_mem hk]
  have := hinv k (by omega) (by omega)
  omega
 ·rw [List.nodup_iff_pairwise_ne, List.pairwise_iff_getElem]
  intro a b ha hb hab e2
  rw [← gi_mem ha, ← gi_mem hb] at e2
  have e3 := (hinv a (by omega) (by omega)).2.2.1
  have e4 := (hinv b (by omega) (by omega)).2.2.1
  rw [e2, e4] at e3
  omega
 have := hinv k (by omega) (by omega)
 exact ⟨this.2.2.2, this.2.2.1⟩
theorem Con.reach (h : L.length = n) {x : Int} (hc : Con n L x) : Reach L 0 x := by
 induction hc with
 | zero => exact .refl
 | step _ hi _ _ ih => exact .step ih (gl_in (by omega) (by omega))
theorem Inv.mani (h : Inv n F L F (F * n)) (hn : n ≤ 5) (hF : 2 ≤ F ∧ F ≤ 400) (hJ : ∀ e : Nat, e < F → FitsAll L e) : Mani L := by
 have hl0 : (gl L 0).length = F := h.shp.row h.n0
 have hr := h.rows1 hF.2
 have hs := hr.sys
 have hlen := h.shp.1
 have hn0 := h.n0
 refine ⟨⟨by omega, by omega⟩, ⟨by omega, by omega⟩, hr, fun i hi k hk hik f hf => ?_, ?_⟩
 ·have h1 := hJ f (by omega) i hi k hk hik
  have ci := h.inv (i := i) (f := f) (by omega) (by omega) (by omega)
  have ck := h.inv (i := k) (f := f) (by omega) (by omega) (by omega)
  have cki := h.inv (i := k) (f := cell L i f) (by omega) ci.1 ci.2.1
  have cik := h.inv (i := i) (f := cell L k f) (by omega) ck.1 ck.2.1
  have e1 : kn L k (cell L i f) = cell L k (cell L i f) := by unfold kn; rw [if_neg (by omega)]
  have e2 : kn L i (cell L k f) = cell L i (cell L k f) := by unfold kn; rw [if_neg (by omega)]
  have h2 := h1.2
  rw [e1, e2] at h2
  exact ⟨h2 cki.1 cik.1, h1.1 ci.1⟩
 rw [hl0] at hs ⊢
 rw [orbit_all hs (by omega)]
 intro x h0 hx
 have := h.con x.toNat (by omega)
 rw [Int.toNat_of_nonneg h0] at this
 exact this.reach hlen
def forms (n F : Nat) (k at_ met : Nat) (M : List (List Int)) : List (List (List Int)) := (grow n F (fun _ _ _ => true) (fun _ => true) k at_ met M).filter fun L => decide (Mani L)
end
end Go.Proofs.YtopgfgdgfjddpaaGreatDoor.Vc
