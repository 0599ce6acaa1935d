/-
  The texts Po5, Po6, Po7, Pr4, Map in one. Conditions: as each part states them.
-/
import Derived.Test.YtopgfgdgfjddpaaGreatDoorZf
import Derived.Test.YtopgfgdgfjddpaaGreatDoorZe
import Derived.Test.YtopgfgdgfjddpaaGreatDoorZa
import Derived.MapKept
import Derived.Carry
/-
 Plain mathematics of posets: products, as rows of pairs; they are posets and have diamonds.
-/
namespace Go.Proofs.YtopgfgdgfjddpaaGreatDoor.Vc
/-! all faces of a poset -/
def fcR (n : Int) (R : List Int) : List Int := -1 :: (R ++ [n])
def UndP (N : Nat) (B : List (List Int)) (a b : Int) : Prop := a = b ∨ a = 0 ∨ b = (N : Int) + 1 ∨ (0 < a ∧ a < (N : Int) + 1 ∧ 0 < b ∧ b < (N : Int) + 1 ∧ a - 1 ∈ gl B (b - 1))
instance (N : Nat) (B : List (List Int)) (a b : Int) : Decidable (UndP N B a b) := by unfold UndP; infer_instance
theorem fcR_len (n : Int) (R : List Int) : (fcR n R).length = R.length + 2 := by simp [fcR]
theorem fcR_mid (n : Int) (R : List Int) {a : Int} (h0 : 0 < a) (h1 : a < (R.length : Int) + 1) : gi (fcR n R) a = gi R (a - 1) := by
 obtain ⟨k, rfl⟩ : ∃ k : Nat, a = ((k + 1 : Nat) : Int) := ⟨(a - 1).toNat, by omega⟩
 rw [fcR, gi_cn1, show ((k + 1 : Nat) : Int) - 1 = (k : Int) by omega]
 simp only [gi, Int.toNat_natCast, List.getD_eq_getElem?_getD]
 rw [List.getElem?_append_left (by omega)]
theorem fcR_top (n : Int) (R : List Int) : gi (fcR n R) ((R.length : Int) + 1) = n := by
 rw [show ((R.length : Int) + 1) = ((R.length + 1 : Nat) : Int) by omega, fcR, gi_cn1]
 simp [gi, List.getD_eq_getElem?_getD]
theorem lat_of {n : Int} {R : List Int} {B : List (List Int)} (h : PosP n R B) : Lat (R.length + 2) n (gi (fcR n R)) (UndP R.length B) := by
 have hn := h.n1
 have ht := fcR_top n R
 have et : ((R.length + 2 : Nat) : Int) - 1 = (R.length : Int) + 1 := by omega
 have hmid : ∀ a : Int, 0 < a → a < (R.length : Int) + 1 → 0 ≤ gi (fcR n R) a ∧ gi (fcR n R) a ≤ n - 1 := fun a h0 h1 => by
  rw [fcR_mid n R h0 h1]
  exact h.ri (by omega) (by omega)
 have h0 : gi (fcR n R) 0 = -1 := O
 refine ⟨by omega, h0, by rw [et]; exact ht, fun a ha hb => hmid a ha (by omega), fun a => .inl O, fun a b c ha hb hc hab hbc => ?_, fun a b ha hb hab hne => ?_, fun b => .inr (.inl O), fun a => .inr (.inr (.inl et)), by omega⟩
 ·rcases hab with rfl | e | e | ⟨a0, a1, b0, b1, hm⟩
  ·exact hbc
  ·exact .inr (.inl e)
  ·rcases hbc with rfl | e2 | e2 | ⟨b0, b1, _⟩
   ·exact .inr (.inr (.inl e))
   ·omega
   ·exact .inr (.inr (.inl e2))
   omega
  rcases hbc with rfl | e2 | e2 | ⟨_, _, c0, c1, hm2⟩
  ·exact .inr (.inr (.inr ⟨a0, a1, b0, b1, hm⟩))
  ·omega
  ·exact .inr (.inr (.inl e2))
  exact .inr (.inr (.inr ⟨a0, a1, c0, c1, (h.at_ (e := c - 1) (by omega) (by omega)).2.2 _ hm2 _ hm⟩))
 rcases hab with e | e | e | ⟨a0, a1, b0, b1, hm⟩
 ·exact absurd e hne
 ·subst e
  rw [h0]
  by_cases e2 : b = (R.length : Int) + 1
  ·subst e2; omega
  have := hmid b (by omega) (by omega); omega
 ·subst e
  rw [ht]
  by_cases e2 : a = 0
  ·subst e2; omega
  have := hmid a (by omega) (by omega); omega
 rw [fcR_mid n R a0 a1, fcR_mid n R b0 b1]
 exact ((h.at_ (e := b - 1) (by omega) (by omega)).2.1 _ hm).2
theorem lat_pt : Lat 2 0 (gi [-1, 0]) (UndP 0 []) := by
 refine ⟨by omega, O, O, fun a h0 h1 => by omega, fun a => .inl O, fun a b c ha hb hc hab hbc => ?_, fun a b ha hb hab hne => ?_, fun b => .inr (.inl O), fun a => .inr (.inr (.inl O)), by omega⟩
 ·by_cases e : a = 0
  ·exact .inr (.inl e)
  by_cases e2 : c = 1
  ·exact .inr (.inr (.inl e2))
  rcases hab with rfl | e3 | e3 | ⟨_, _, _, _, hm⟩
  ·exact hbc
  ·omega
  ·rcases hbc with rfl | e4 | e4 | ⟨_, _, _, _, hm⟩
   ·exact .inr (.inr (.inl e3))
   ·omega
   ·exact .inr (.inr (.inl e4))
   exact absurd hm (by simp [gl])
  exact absurd hm (by simp [gl])
 rcases hab with e | e | e | ⟨_, _, _, _, hm⟩
 ·exact absurd e hne
 ·subst e
  obtain rfl : b = 1 := by omega
  decide
 ·obtain rfl : b = 1 := e
  obtain rfl : a = 0 := by omega
  decide
 exact absurd hm (by simp [gl])
theorem dia_pt : DiaL 2 (gi [-1, 0]) (UndP 0 []) := fun a b ha hb hu hr => by
 have e : ∀ a : Int, 0 ≤ a ∧ a < (2 : Nat) → gi [-1, 0] a = a - 1 := fun a ha => by
  rcases (show a = 0 ∨ a = 1 by omega) with rfl | rfl <;> rfl
 rw [e a ha, e b hb] at hr
 omega
/-! diamonds -/
def LoP (R : List Int) (i e : Int) : Prop := (e = -1 ∧ i = 0) ∨ ((0 ≤ e ∧ e < R.length) ∧ 0 < i ∧ gi R e = i - 1)
def HiP (n : Int) (R : List Int) (i f : Int) : Prop := (f = -1 ∧ i = n - 1) ∨ ((0 ≤ f ∧ f < R.length) ∧ i < n - 1 ∧ gi R f = i + 1)
def MidP (R : List Int) (B : List (List Int)) (i e f : Int) : List Int := (rngI R.length).filter fun d => decide (gi R d = i ∧ (e < 0 ∨ e ∈ gl B d) ∧ (f < 0 ∨ d ∈ gl B f))
def DiaP (n : Int) (R : List Int) (B : List (List Int)) : Prop := ∀ i e f : Int, 0 ≤ i → i < n → LoP R i e → HiP n R i f → (0 ≤ e → 0 ≤ f → e ∈ gl B f) → (MidP R B i e f).length = 2
theorem MidP_mem {R : List Int} {B : List (List Int)} {i e f d : Int} : d ∈ MidP R B i e f ↔ (0 ≤ d ∧ d < R.length) ∧ gi R d = i ∧ (e < 0 ∨ e ∈ gl B d) ∧ (f < 0 ∨ d ∈ gl B f) := by
 unfold MidP
 rw [List.mem_filter, rngI_mem, decide_eq_true_eq]
theorem two_of {l : List Int} (hn : l.Nodup) (h : l.length = 2) : ∃ x y, x ≠ y ∧ ∀ c, c ∈ l ↔ (c = x ∨ c = y) := by
 match l, h with
 | [x, y], _ => exact ⟨x, y, by simpa using hn, fun c => by simp⟩
theorem MidP_nodup (R : List Int) (B : List (List Int)) (i e f : Int) : (MidP R B i e f).Nodup := ((rngI_SA _).nodup).filter _
theorem dia_of {n : Int} {R : List Int} {B : List (List Int)} (h : PosP n R B) (hd : DiaP n R B) : DiaL (R.length + 2) (gi (fcR n R)) (UndP R.length B) := by
 have L := lat_of h
 have ht := fcR_top n R
 have h0 : gi (fcR n R) 0 = -1 := O
 have hmid : ∀ a : Int, 0 < a → a < (R.length : Int) + 1 → (0 ≤ gi (fcR n R) a ∧ gi (fcR n R) a ≤ n - 1) ∧ gi (fcR n R) a = gi R (a - 1) := fun a h0 h1 => by
  have e := fcR_mid n R h0 h1
  refine ⟨?_, e⟩
  rw [e]
  exact h.ri (by omega) (by omega)
 intro a b ha hb hu hr
 have ra := L.rng ha
 have rb := L.rng hb
 have hn := h.n1
 have hat : a ≠ (R.length : Int) + 1 := fun e => by rw [e, ht] at hr; omega
 have hb0 : b ≠ 0 := fun e => by rw [e, h0] at hr; omega
 have hlo : LoP R (gi (fcR n R) a + 1) (a - 1) := by
  by_cases e : a = 0
  ·subst e; exact .inl ⟨rfl, by rw [h0]; rfl⟩
  have := hmid a (by omega) (by omega)
  exact .inr ⟨by omega, by omega, by omega⟩
 have hhi : HiP n R (gi (fcR n R) a + 1) (if b = (R.length : Int) + 1 then -1 else b - 1) := by
  by_cases e : b = (R.length : Int) + 1
  ·rw [if_pos e]; rw [e, ht] at hr; exact .inl ⟨rfl, by omega⟩
  rw [if_neg e]
  have := hmid b (by omega) (by omega)
  exact .inr ⟨by omega, by omega, by omega⟩
 have hab : 0 ≤ a - 1 → 0 ≤ (if b = (R.length : Int) + 1 then -1 else b - 1) → a - 1 ∈ gl B (if b = (R.length : Int) + 1 then -1 else b - 1) := fun h1 h2 => by
  by_cases e : b = (R.length : Int) + 1
  ·rw [if_pos e] at h2; omega
  rw [if_neg e]
  rcases hu with e2 | e2 | e2 | ⟨_, _, _, _, hm⟩
  ·rw [e2] at hr; omega
  ·omega
  ·exact absurd e2 e
  exact hm
 have h2 := hd _ _ _ (by omega) (by omega) hlo hhi hab
 obtain ⟨x, y, hxy, hc⟩ := two_of (MidP_nodup _ _ _ _ _) h2
 refine ⟨x + 1, y + 1, by omega, fun c => ?_⟩
 have e1 : (c = x + 1 ∨ c = y + 1) ↔ (c - 1 = x ∨ c - 1 = y) := by omega
 rw [e1, ← hc (c - 1), MidP_mem]
 constructor
 ·rintro ⟨hcr, u1, u2, rc⟩
  have c0 : c ≠ 0 := fun e => by rw [e, h0] at rc; omega
  have ct : c ≠ (R.length : Int) + 1 := fun e => by rw [e, ht] at rc; omega
  have hm := hmid c (by omega) (by omega)
  refine ⟨by omega, by omega, ?_, ?_⟩
  ·rcases u1 with e | e | e | ⟨_, _, _, _, h9⟩
   ·rw [e] at rc; omega
   ·left; omega
   ·exact absurd e ct
   exact .inr h9
  by_cases e : b = (R.length : Int) + 1
  ·left; rw [if_pos e]; omega
  rw [if_neg e]
  rcases u2 with e2 | e2 | e2 | ⟨_, _, _, _, h9⟩
  ·rw [e2] at rc; omega
  ·exact absurd e2 c0
  ·exact absurd e2 e
  exact .inr h9
 rintro ⟨hcr, rc, u1, u2⟩
 have hm := hmid c (by omega) (by omega)
 refine ⟨by omega, ?_, ?_, by omega⟩
 ·rcases u1 with e | e
  ·exact .inr (.inl (by omega))
  have : 0 < a := by
   refine Int.not_le.1 fun hle => ?_
   have := ((h.at_ (e := c - 1) (by omega) (by omega)).2.1 _ e).1.1
   omega
  exact .inr (.inr (.inr ⟨this, by omega, by omega, by omega, e⟩))
 by_cases e : b = (R.length : Int) + 1
 ·exact .inr (.inr (.inl e))
 rw [if_neg e] at u2
 rcases u2 with e2 | e2
 ·omega
 exact .inr (.inr (.inr ⟨by omega, by omega, by omega, by omega, e2⟩))
/-! the rows of a product -/
section
variable (m1 m2 : Nat) (rk1 rk2 : Int → Int) (kind : Int)
def prR1 (i : Int) : List (Int × Int) := (rngI m1).flatMap fun a => ((rngI m2).filter fun b => decide (rkP rk1 rk2 kind (a, b) = i ∧ ¬ ExcP m1 m2 kind (a, b))).map fun b => (a, b)
def prL : Nat → List (Int × Int)
 | 0 => []
 | k + 1 => prL k ++ prR1 m1 m2 rk1 rk2 kind (k : Int)
end
section
variable {m1 m2 : Nat} {rk1 rk2 : Int → Int} {kind : Int}
theorem prR1_mem {i : Int} {c : Int × Int} : c ∈ prR1 m1 m2 rk1 rk2 kind i ↔ ElP m1 m2 rk1 rk2 kind i c := by
 unfold prR1 ElP
 rw [List.mem_flatMap]
 constructor
 ·rintro ⟨a, ha, h⟩
  obtain ⟨b, hb, rfl⟩ := List.mem_map.1 h
  rw [List.mem_filter, rngI_mem, decide_eq_true_eq] at hb
  exact ⟨(rngI_mem _ _).1 ha, hb.1, hb.2⟩
 rintro ⟨h1, h2, h3⟩
 exact ⟨c.1, (rngI_mem _ _).2 h1, List.mem_map.2 ⟨c.2, List.mem_filter.2 ⟨(rngI_mem _ _).2 h2, decide_eq_true h3⟩, O⟩⟩
theorem prR1_nodup (i : Int) : (prR1 m1 m2 rk1 rk2 kind i).Nodup := by
 unfold prR1
 refine List.pairwise_flatMap.2 ⟨fun a _ => List.pairwise_map.2 (((rngI_SA m2).nodup.filter _).imp fun h e => h (congrArg Prod.snd e)), (rngI_SA m1).nodup.imp fun h x hx y hy e => h ?_⟩
 obtain ⟨u, _, rfl⟩ := List.mem_map.1 hx
 obtain ⟨v, _, rfl⟩ := List.mem_map.1 hy
 exact congrArg Prod.fst e
theorem prL_mem {k : Nat} {c : Int × Int} : c ∈ prL m1 m2 rk1 rk2 kind k ↔ ∃ i : Nat, i < k ∧ ElP m1 m2 rk1 rk2 kind i c := by
 induction k with
 | zero => simp [prL]
 | succ k ih =>
  rw [prL, List.mem_append, ih, prR1_mem]
  constructor
  ·rintro (⟨i, hi, h⟩ | h)
   ·exact ⟨i, by omega, h⟩
   ·exact ⟨k, by omega, h⟩
  ·rintro ⟨i, hi, h⟩
   by_cases e : i = k
   ·subst e; exact .inr h
   ·exact .inl ⟨i, by omega, h⟩
theorem prL_nodup (k : Nat) : (prL m1 m2 rk1 rk2 kind k).Nodup := by
 induction k with
 | zero => exact List.nodup_nil
 | succ k ih =>
  rw [prL, List.nodup_append]
  refine ⟨ih, prR1_nodup _, fun a ha b hb e => ?_⟩
  subst e
  obtain ⟨i, hi, h⟩ := prL_mem.1 ha
  have h2 := prR1_mem.1 hb
  have := h.2.2.1.symm.trans h2.2.2.1
  omega
theorem prL_asc (k : Nat) : Asc ((prL m1 m2 rk1 rk2 kind k).map (rkP rk1 rk2 kind)) := by
 induction k with
 | zero => exact List.Pairwise.nil
 | succ k ih =>
  rw [prL, List.map_append, Asc, List.pairwise_append]
  refine ⟨ih, List.pairwise_map.2 (List.pairwise_of_forall_mem_list fun a ha b hb => ?_), fun x hx y hy => ?_⟩
  ·rw [(prR1_mem.1 ha).2.2.1, (prR1_mem.1 hb).2.2.1]; exact Int.le_refl _
  ·obtain ⟨a, ha, rfl⟩ := List.mem_map.1 hx
   obtain ⟨b, hb, rfl⟩ := List.mem_map.1 hy
   obtain ⟨i, hi, h⟩ := prL_mem.1 ha
   rw [h.2.2.1, (prR1_mem.1 hb).2.2.1]; omega
end
def gp (L : List (Int × Int)) (i : Int) : Int × Int := L.getD i.toNat (0, 0)
theorem gp_mem {L : List (Int × Int)} {k : Nat} (h : k < L.length) : gp L (k : Int) = L[k] := by simp [gp, List.getD_eq_getElem?_getD, h]
def prBe (und1 und2 : Int → Int → Prop) [DecidableRel und1] [DecidableRel und2] (L : List (Int × Int)) (e : Int) : List Int := (rngI L.length).filter fun f => decide (f < e ∧ und1 (gp L f).1 (gp L e).1 ∧ und2 (gp L f).2 (gp L e).2)
def prB (und1 und2 : Int → Int → Prop) [DecidableRel und1] [DecidableRel und2] (L : List (Int × Int)) : List (List Int) := (rngI L.length).map (prBe und1 und2 L)
section
variable {m1 m2 : Nat} {n1 n2 : Int} {rk1 rk2 : Int → Int} {und1 und2 : Int → Int → Prop} [DecidableRel und1] [DecidableRel und2] {kind : Int}
theorem prB_at {L : List (Int × Int)} {e : Int} (h0 : 0 ≤ e) (h1 : e < L.length) : gl (prB und1 und2 L) e = prBe und1 und2 L e := by
 obtain ⟨k, rfl⟩ : ∃ k : Nat, e = k := ⟨e.toNat, by omega⟩
 rw [gl_mem (by simp [prB, rngI]; omega)]
 unfold prB
 rw [List.getElem_map]
 congr 1
 simp [rngI]
theorem prR_at {L : List (Int × Int)} {e : Int} (h0 : 0 ≤ e) (h1 : e < L.length) : gi (L.map (rkP rk1 rk2 kind)) e = rkP rk1 rk2 kind (gp L e) := by
 obtain ⟨k, rfl⟩ : ∃ k : Nat, e = k := ⟨e.toNat, by omega⟩
 rw [gi_mem (by simp; omega), gp_mem (by omega)]
 simp
theorem prBe_mem (h1 : Lat m1 n1 rk1 und1) (h2 : Lat m2 n2 rk2 und2) {k : Nat} {e d : Int} (he : 0 ≤ e ∧ e < (prL m1 m2 rk1 rk2 kind k).length) : d ∈ prBe und1 und2 (prL m1 m2 rk1 rk2 kind k) e ↔ (0 ≤ d ∧ d < (prL m1 m2 rk1 rk2 kind k).length) ∧ d ≠ e ∧ und1 (gp (prL m1 m2 rk1 rk2 kind k) d).1 (gp (prL m1 m2 rk1 rk2 kind k) e).1 ∧ und2 (gp (prL m1 m2 rk1 rk2 kind k) d).2 (gp (prL m1 m2 rk1 rk2 kind k) e).2 := by
 unfold prBe
 rw [List.mem_filter, rngI_mem, decide_eq_true_eq]
 constructor
 ·rintro ⟨hd, hlt, hu⟩
  exact ⟨hd, by omega, hu⟩
 rintro ⟨hd, hne, hu⟩
 refine ⟨hd, ?_, hu⟩
 obtain ⟨i, rfl⟩ : ∃ i : Nat, d = i := ⟨d.toNat, by omega⟩
 obtain ⟨j, rfl⟩ : ∃ j : Nat, e = j := ⟨e.toNat, by omega⟩
 refine Int.not_le.1 fun hle => ?_
 have ha := prL_asc (m1 := m1) (m2 := m2) (rk1 := rk1) (rk2 := rk2) (kind := kind) k
 have h3 := ha.le (i := j) (j := i) (by omega) (by simp; omega)
 rw [prR_at (by omega) he.2, prR_at (by omega) hd.2] at h3
 have mi := gp_mem (L := prL m1 m2 rk1 rk2 kind k) (k := i) (by omega)
 have mj := gp_mem (L := prL m1 m2 rk1 rk2 kind k) (k := j) (by omega)
 obtain ⟨a, _, ea⟩ := prL_mem.1 (mi ▸ List.getElem_mem _ : gp (prL m1 m2 rk1 rk2 kind k) (i : Int) ∈ prL m1 m2 rk1 rk2 kind k)
 obtain ⟨b, _, eb⟩ := prL_mem.1 (mj ▸ List.getElem_mem _ : gp (prL m1 m2 rk1 rk2 kind k) (j : Int) ∈ prL m1 m2 rk1 rk2 kind k)
 have q1 := h1.rk_le ea.1 eb.1 hu.1
 have q2 := h2.rk_le ea.2.1 eb.2.1 hu.2
 unfold rkP at h3
 have e1 := h1.same ea.1 eb.1 hu.1 (by omega)
 have e2 := h2.same ea.2.1 eb.2.1 hu.2 (by omega)
 have e3 : gp (prL m1 m2 rk1 rk2 kind k) (i : Int) = gp (prL m1 m2 rk1 rk2 kind k) (j : Int) := Prod.ext e1 e2
 rw [mi, mj] at e3
 have := (List.getElem_inj (prL_nodup k)).1 e3
 omega
theorem gp_el {k : Nat} {e : Int} (he : 0 ≤ e ∧ e < (prL m1 m2 rk1 rk2 kind k).length) : ∃ i : Nat, i < k ∧ ElP m1 m2 rk1 rk2 kind i (gp (prL m1 m2 rk1 rk2 kind k) e) ∧ gi ((prL m1 m2 rk1 rk2 kind k).map (rkP rk1 rk2 kind)) e = i := by
 obtain ⟨j, rfl⟩ : ∃ j : Nat, e = j := ⟨e.toNat, by omega⟩
 have mj := gp_mem (L := prL m1 m2 rk1 rk2 kind k) (k := j) (by omega)
 obtain ⟨i, hi, h⟩ := prL_mem.1 (mj ▸ List.getElem_mem _ : gp (prL m1 m2 rk1 rk2 kind k) (j : Int) ∈ prL m1 m2 rk1 rk2 kind k)
 exact ⟨i, hi, h, by rw [prR_at (by omega) (by omega)]; exact h.2.2.1⟩
theorem el_gp {k : Nat} {i : Nat} {c : Int × Int} (hi : i < k) (h : ElP m1 m2 rk1 rk2 kind i c) : ∃ e : Int, (0 ≤ e ∧ e < (prL m1 m2 rk1 rk2 kind k).length) ∧ gp (prL m1 m2 rk1 rk2 kind k) e = c := by
 obtain ⟨j, hj, e⟩ := List.mem_iff_getElem.1 (prL_mem.2 ⟨i, hi, h⟩)
 exact ⟨j, by omega, by rw [gp_mem hj]; exact e⟩
theorem gp_inj {k : Nat} {d e : Int} (hd : 0 ≤ d ∧ d < (prL m1 m2 rk1 rk2 kind k).length) (he : 0 ≤ e ∧ e < (prL m1 m2 rk1 rk2 kind k).length) (h : gp (prL m1 m2 rk1 rk2 kind k) d = gp (prL m1 m2 rk1 rk2 kind k) e) : d = e := by
 obtain ⟨i, rfl⟩ : ∃ i : Nat, d = i := ⟨d.toNat, by omega⟩
 obtain ⟨j, rfl⟩ : ∃ j : Nat, e = j := ⟨e.toNat, by omega⟩
 rw [gp_mem (by omega), gp_mem (by omega)] at h
 have := (List.getElem_inj (prL_nodup k)).1 h
 omega
theorem prod_pos (h1 : Lat m1 n1 rk1 und1) (h2 : Lat m2 n2 rk2 und2) {k : Nat} (hk : 1 ≤ k ∧ k ≤ 5) (hb : (prL m1 m2 rk1 rk2 kind k).length ≤ 500) : PosP k ((prL m1 m2 rk1 rk2 kind k).map (rkP rk1 rk2 kind)) (prB und1 und2 (prL m1 m2 rk1 rk2 kind k)) := by
 have hl : ((prL m1 m2 rk1 rk2 kind k).map (rkP rk1 rk2 kind)).length = (prL m1 m2 rk1 rk2 kind k).length := by simp
 refine ⟨by omega, by rw [hl]; exact hb, by simp [prB, rngI], fun x hx => ?_, prL_asc k, fun e he => ?_, fun e he d hd c hc => ?_⟩
 ·obtain ⟨c, hc, rfl⟩ := List.mem_map.1 hx
  obtain ⟨i, hi, h⟩ := prL_mem.1 hc
  rw [h.2.2.1]; omega
 ·rw [hl] at he
  rw [prB_at (by omega) (by omega)]
  refine ⟨List.Pairwise.filter _ (rngI_SA _), fun d hd => ?_⟩
  have hm := (prBe_mem h1 h2 (by omega)).1 hd
  refine ⟨by rw [hl]; exact hm.1, ?_⟩
  have hlt : d < (e : Int) := by
   unfold prBe at hd
   rw [List.mem_filter, decide_eq_true_eq] at hd
   exact hd.2.1
  obtain ⟨i, _, ei, ri⟩ := gp_el (m1 := m1) (m2 := m2) (rk1 := rk1) (rk2 := rk2) (kind := kind) (k := k) (e := d) hm.1
  obtain ⟨j, _, ej, rj⟩ := gp_el (m1 := m1) (m2 := m2) (rk1 := rk1) (rk2 := rk2) (kind := kind) (k := k) (e := (e : Int)) (by omega)
  rw [prR_at hm.1.1 hm.1.2, prR_at (by omega) (by omega)]
  have q1 := h1.rk_le ei.1 ej.1 hm.2.2.1
  have q2 := h2.rk_le ei.2.1 ej.2.1 hm.2.2.2
  unfold rkP
  refine Int.not_le.1 fun hle => hm.2.1 (gp_inj hm.1 (by omega) (Prod.ext (h1.same ei.1 ej.1 hm.2.2.1 (by omega)) (h2.same ei.2.1 ej.2.1 hm.2.2.2 (by omega))))
 rw [hl] at he
 rw [prB_at (by omega) (by omega)] at hd ⊢
 have hdm := (prBe_mem h1 h2 (by omega)).1 hd
 rw [prB_at hdm.1.1 hdm.1.2] at hc
 have hcm := (prBe_mem h1 h2 hdm.1).1 hc
 have l1 : d < (e : Int) := by unfold prBe at hd; rw [List.mem_filter, decide_eq_true_eq] at hd; exact hd.2.1
 have l2 : c < d := by unfold prBe at hc; rw [List.mem_filter, decide_eq_true_eq] at hc; exact hc.2.1
 obtain ⟨_, _, ec, _⟩ := gp_el (m1 := m1) (m2 := m2) (rk1 := rk1) (rk2 := rk2) (kind := kind) (k := k) (e := c) hcm.1
 obtain ⟨_, _, ed, _⟩ := gp_el (m1 := m1) (m2 := m2) (rk1 := rk1) (rk2 := rk2) (kind := kind) (k := k) (e := d) hdm.1
 obtain ⟨_, _, ee, _⟩ := gp_el (m1 := m1) (m2 := m2) (rk1 := rk1) (rk2 := rk2) (kind := kind) (k := k) (e := (e : Int)) (by omega)
 exact (prBe_mem h1 h2 (by omega)).2 ⟨hcm.1, by omega, h1.trans _ _ _ ec.1 ed.1 ee.1 hcm.2.2.1 hdm.2.2.1, h2.trans _ _ _ ec.2.1 ed.2.1 ee.2.1 hcm.2.2.2 hdm.2.2.2⟩
theorem prod_dia (h1 : Lat m1 n1 rk1 und1) (h2 : Lat m2 n2 rk2 und2) (d1 : DiaL m1 rk1 und1) (d2 : DiaL m2 rk2 und2) (hkd : 0 ≤ kind ∧ kind ≤ 2) {k : Nat} (hk : (k : Int) = rnP n1 n2 kind) (hk2 : 2 ≤ k) (hneg : 1 ≤ n1 ∧ (1 ≤ n2 ∨ kind = 0)) : DiaP k ((prL m1 m2 rk1 rk2 kind k).map (rkP rk1 rk2 kind)) (prB und1 und2 (prL m1 m2 rk1 rk2 kind k)) := by
  have hl : ((prL m1 m2 rk1 rk2 kind k).map (rkP rk1 rk2 kind)).length = (prL m1 m2 rk1 rk2 kind k).length := by simp
  intro i e f hi0 hi1 he hf hef
  have helA : ∀ x : Int, 0 ≤ x ∧ x < (prL m1 m2 rk1 rk2 kind k).length → ElP m1 m2 rk1 rk2 kind (gi ((prL m1 m2 rk1 rk2 kind k).map (rkP rk1 rk2 kind)) x) (gp (prL m1 m2 rk1 rk2 kind k) x) := fun x hx => by
    obtain ⟨j, _, h, r⟩ := gp_el hx
    rw [r]; exact h
  generalize hL : prL m1 m2 rk1 rk2 kind k = L at *
  obtain ⟨x, y, hxy, hc⟩ := prod_two h1 h2 d1 d2 hkd (i := i) hi0 (by omega) (by omega) (if e < 0 then none else some (gp L e)) (if f < 0 then none else some (gp L f)) (by
      rcases he with ⟨h, h'⟩ | ⟨h, h', h''⟩
      · rw [if_pos (by omega)]; exact h'
      rw [hl] at h
      rw [if_neg (by omega)]
      exact ⟨h', by rw [← h'']; exact helA e h⟩)
    (by
      rcases hf with ⟨h, h'⟩ | ⟨h, h', h''⟩
      · rw [if_pos (by omega)]; show i = rnP n1 n2 kind - 1; omega
      rw [hl] at h
      rw [if_neg (by omega)]
      exact ⟨by omega, by rw [← h'']; exact helA f h⟩)
    (by
      intro a ha b hb
      by_cases e0 : e < 0
      · rw [if_pos e0] at ha; cases ha
      by_cases f0 : f < 0
      · rw [if_pos f0] at hb; cases hb
      rw [if_neg e0] at ha; rw [if_neg f0] at hb
      cases ha; cases hb
      have hfr : 0 ≤ f ∧ f < L.length := by
        rcases hf with ⟨h, _⟩ | ⟨h, _⟩
        · omega
        rw [hl] at h; exact h
      have h9 := hef (by omega) (by omega)
      rw [prB_at hfr.1 hfr.2] at h9
      subst hL
      exact ((prBe_mem h1 h2 hfr).1 h9).2.2)
    hneg
  have hgpx : ∀ c, ElP m1 m2 rk1 rk2 kind i c → ∃ d : Int, (0 ≤ d ∧ d < L.length) ∧ gp L d = c := fun c hcE => by
    subst hL
    exact el_gp (i := i.toNat) (by omega) (by rw [Int.toNat_of_nonneg hi0]; exact hcE)
  have hmem : ∀ d : Int, d ∈ MidP (L.map (rkP rk1 rk2 kind)) (prB und1 und2 L) i e f ↔ (0 ≤ d ∧ d < L.length) ∧ (gp L d = x ∨ gp L d = y) := fun d => by
    rw [MidP_mem, hl]
    constructor
    · rintro ⟨hd, rd, u, v⟩
      refine ⟨hd, (hc _).1 ⟨by rw [← rd]; exact helA d hd, fun a ha => ?_, fun b hb => ?_⟩⟩
      · by_cases e0 : e < 0
        · rw [if_pos e0] at ha; cases ha
        rw [if_neg e0] at ha; cases ha
        have h9 := u.resolve_left e0
        rw [prB_at hd.1 hd.2] at h9
        subst hL
        exact ((prBe_mem h1 h2 hd).1 h9).2.2
      by_cases f0 : f < 0
      · rw [if_pos f0] at hb; cases hb
      rw [if_neg f0] at hb; cases hb
      have hfr : 0 ≤ f ∧ f < L.length := by
        rcases hf with ⟨h, _⟩ | ⟨h, _⟩
        · omega
        rw [hl] at h; exact h
      have h9 := v.resolve_left f0
      rw [prB_at hfr.1 hfr.2] at h9
      subst hL
      exact ((prBe_mem h1 h2 hfr).1 h9).2.2
    rintro ⟨hd, hxy2⟩
    obtain ⟨hE, ha, hb⟩ := (hc _).2 hxy2
    have rd : gi (L.map (rkP rk1 rk2 kind)) d = i := by rw [prR_at hd.1 hd.2]; exact hE.2.2.1
    refine ⟨hd, rd, ?_, ?_⟩
    · by_cases e0 : e < 0
      · exact .inl e0
      right
      have h9 := ha (gp L e) (by rw [if_neg e0]; rfl)
      have her : (0 ≤ e ∧ e < L.length) ∧ gi (L.map (rkP rk1 rk2 kind)) e = i - 1 := by
        rcases he with ⟨h, _⟩ | ⟨h, _, h''⟩
        · omega
        rw [hl] at h; exact ⟨h, h''⟩
      rw [prB_at hd.1 hd.2]
      subst hL
      exact (prBe_mem h1 h2 hd).2 ⟨her.1, fun h => by rw [h, rd] at her; omega, h9⟩
    by_cases f0 : f < 0
    · exact .inl f0
    right
    have h9 := hb (gp L f) (by rw [if_neg f0]; rfl)
    have hfr : (0 ≤ f ∧ f < L.length) ∧ gi (L.map (rkP rk1 rk2 kind)) f = i + 1 := by
      rcases hf with ⟨h, _⟩ | ⟨h, _, h''⟩
      · omega
      rw [hl] at h; exact ⟨h, h''⟩
    rw [prB_at hfr.1.1 hfr.1.2]
    subst hL
    exact (prBe_mem h1 h2 hfr.1).2 ⟨hd, fun h => by rw [← h, rd] at hfr; omega, h9⟩
  obtain ⟨dx, hdx, ex⟩ := hgpx x ((hc x).2 (.inl rfl)).1
  obtain ⟨dy, hdy, ey⟩ := hgpx y ((hc y).2 (.inr rfl)).1
  have hne : dx ≠ dy := fun h => hxy (by rw [← ex, ← ey, h])
  have hp : (MidP (L.map (rkP rk1 rk2 kind)) (prB und1 und2 L) i e f).Perm [dx, dy] := by
    refine (List.perm_ext_iff_of_nodup (MidP_nodup _ _ _ _ _) (by simpa using hne)).2 fun d => ?_
    rw [hmem d]
    simp only [List.mem_cons, List.not_mem_nil, or_false]
    constructor
    · rintro ⟨hd, h | h⟩
      · left; subst hL; exact gp_inj hd hdx (h.trans ex.symm)
      right; subst hL; exact gp_inj hd hdy (h.trans ey.symm)
    rintro (rfl | rfl)
    · exact ⟨hdx, .inl ex⟩
    exact ⟨hdy, .inr ey⟩
  rw [hp.length_eq]; rfl
end
/-
 Plain mathematics of posets: in a poset with diamonds each flag has one neighbour for each rank; the maniplex of the flags.
-/
theorem flg_at {n : Nat} {R : List Int} {B : List (List Int)} (hn : 1 ≤ n) {a : Nat} (ha : a < (flgP n R B).length) : (gl (flgP n R B) (a : Int)).length = n ∧ (∀ i : Nat, i < n → (0 ≤ gi (gl (flgP n R B) (a : Int)) (i : Int) ∧ gi (gl (flgP n R B) (a : Int)) (i : Int) < R.length) ∧ gi R (gi (gl (flgP n R B) (a : Int)) (i : Int)) = i) ∧ ∀ i : Nat, i + 1 < n → gi (gl (flgP n R B) (a : Int)) (i : Int) ∈ gl B (gi (gl (flgP n R B) (a : Int)) ((i + 1 : Nat) : Int)) := (flgP_mem hn).1 (by rw [gl_mem ha]; exact List.getElem_mem _)
theorem list_gi {n : Nat} {x y : List Int} (hx : x.length = n) (hy : y.length = n) (h : ∀ i : Nat, i < n → gi x (i : Int) = gi y (i : Int)) : x = y :=
 List.ext_getElem (by omega) fun i h1 h2 => by
  have := h i (by omega)
  rwa [gi_mem h1, gi_mem h2] at this
theorem flg_inj {n : Nat} {R : List Int} {B : List (List Int)} {a b : Nat} (ha : a < (flgP n R B).length) (hb : b < (flgP n R B).length) (h : gl (flgP n R B) (a : Int) = gl (flgP n R B) (b : Int)) : a = b := by
 rw [gl_mem ha, gl_mem hb] at h
 exact (List.getElem_inj (flgP_SL n R B).nodup).1 h
theorem flg_nb {n : Nat} {R : List Int} {B : List (List Int)} (hP : PosP n R B) (hD : DiaP n R B) {a i : Nat} (ha : a < (flgP n R B).length) (hi : i < n) : ∃ b : Nat, b ≠ a ∧ ∀ c : Nat, (AdjP n (flgP n R B) i a c ∧ c ≠ a) ↔ c = b := by
 have hn : 1 ≤ n := by have := hP.n1; omega
 obtain ⟨hl, hr, hc⟩ := flg_at hn ha
 generalize hx : gl (flgP n R B) (a : Int) = x at hl hr hc
 have hlo : LoP R (i : Int) (if i = 0 then -1 else gi x ((i - 1 : Nat) : Int)) := by
  by_cases e : i = 0
  ·rw [if_pos e]; exact .inl ⟨rfl, by omega⟩
  rw [if_neg e]
  have := hr (i - 1) (by omega)
  exact .inr ⟨this.1, by omega, by rw [this.2]; omega⟩
 have hhi : HiP (n : Int) R (i : Int) (if i = n - 1 then -1 else gi x ((i + 1 : Nat) : Int)) := by
  by_cases e : i = n - 1
  ·rw [if_pos e]; exact .inl ⟨rfl, by omega⟩
  rw [if_neg e]
  have := hr (i + 1) (by omega)
  exact .inr ⟨this.1, by omega, by rw [this.2]; omega⟩
 have hlh : 0 ≤ (if i = 0 then -1 else gi x ((i - 1 : Nat) : Int)) → 0 ≤ (if i = n - 1 then -1 else gi x ((i + 1 : Nat) : Int)) → (if i = 0 then -1 else gi x ((i - 1 : Nat) : Int)) ∈ gl B (if i = n - 1 then -1 else gi x ((i + 1 : Nat) : Int)) := fun h1 h2 => by
  by_cases e : i = 0
  ·rw [if_pos e] at h1; omega
  by_cases e2 : i = n - 1
  ·rw [if_pos e2] at h2; omega
  rw [if_neg e, if_neg e2]
  have hm1 := hc (i - 1) (by omega)
  have hm2 := hc i (by omega)
  rw [show i - 1 + 1 = i by omega] at hm1
  have hr2 := hr (i + 1) (by omega)
  exact (hP.at_ hr2.1.1 hr2.1.2).2.2 _ hm2 _ hm1
 have h2 := hD (i : Int) _ _ (by omega) (by omega) hlo hhi hlh
 have hset : ∀ d : Int, d ∈ MidP R B (i : Int) (if i = 0 then -1 else gi x ((i - 1 : Nat) : Int)) (if i = n - 1 then -1 else gi x ((i + 1 : Nat) : Int)) ↔ x.set i d ∈ flgP n R B := fun d => by
  rw [MidP_mem, flgP_mem hn]
  have gs : ∀ k : Nat, gi (x.set i d) (k : Int) = if k = i then d else gi x (k : Int) := fun k => by
   have := gi_set (S := x) (x := (i : Int)) (y := (k : Int)) (b := d) (by omega) (by omega) (by omega)
   rw [Int.toNat_natCast] at this
   rw [this]
   by_cases e : k = i
   ·subst e; simp
   rw [if_neg e, if_neg (by omega)]
  constructor
  ·rintro ⟨hd, rd, u, v⟩
   refine ⟨by rw [List.length_set]; exact hl, fun k hk => ?_, fun k hk => ?_⟩
   ·rw [gs k]
    by_cases e : k = i
    ·rw [if_pos e, e]; exact ⟨hd, rd⟩
    rw [if_neg e]; exact hr k hk
   rw [gs k, gs (k + 1)]
   by_cases e : k = i
   ·rw [if_pos e, if_neg (by omega)]
    rw [if_neg (by omega)] at v
    have := hr (i + 1) (by omega)
    rw [e]
    exact v.resolve_left (by omega)
   rw [if_neg e]
   by_cases e2 : k + 1 = i
   ·rw [if_pos e2]
    rw [if_neg (by omega), show i - 1 = k by omega] at u
    have := hr k (by omega)
    exact u.resolve_left (by omega)
   rw [if_neg e2]; exact hc k hk
  rintro ⟨_, h3, h4⟩
  have h5 := h3 i hi
  rw [gs i, if_pos rfl] at h5
  refine ⟨h5.1, h5.2, ?_, ?_⟩
  ·by_cases e : i = 0
   ·left; rw [if_pos e]; omega
   right
   rw [if_neg e]
   have h6 := h4 (i - 1) (by omega)
   rw [gs (i - 1), show i - 1 + 1 = i by omega, gs i, if_neg (show ¬ i - 1 = i by omega), if_pos rfl] at h6
   exact h6
  by_cases e : i = n - 1
  ·left; rw [if_pos e]; omega
  right
  rw [if_neg e]
  have h6 := h4 i (by omega)
  rw [gs i, gs (i + 1), if_pos rfl, if_neg (by omega)] at h6
  exact h6
 obtain ⟨p, q, hpq, hm⟩ := two_of (MidP_nodup _ _ _ _ _) h2
 have hself : gi x (i : Int) = p ∨ gi x (i : Int) = q := (hm _).1 ((hset _).2 (by
  have e : x.set i (gi x (i : Int)) = x := by
   rw [gi_mem (by omega)]
   exact List.set_getElem_self _
  rw [e, ← hx, gl_mem ha]; exact List.getElem_mem _))
 obtain ⟨d, hd, hdi⟩ : ∃ d, d ≠ gi x (i : Int) ∧ ∀ c, (c = p ∨ c = q) ↔ (c = gi x (i : Int) ∨ c = d) := by
  rcases hself with h | h
  ·exact ⟨q, fun e => hpq (by rw [← h, e]), fun c => by rw [h]⟩
  exact ⟨p, fun e => hpq (by rw [← h, e]), fun c => by rw [h]; exact or_comm⟩
 have hdm : x.set i d ∈ flgP n R B := (hset d).1 ((hm d).2 ((hdi d).2 (.inr O)))
 obtain ⟨b, hb, eb⟩ := List.mem_iff_getElem.1 hdm
 have ebl : gl (flgP n R B) (b : Int) = x.set i d := by rw [gl_mem hb]; exact eb
 have gsd : ∀ (d : Int) (k : Nat), gi (x.set i d) (k : Int) = if k = i then d else gi x (k : Int) := fun d k => by
  have := gi_set (S := x) (x := (i : Int)) (y := (k : Int)) (b := d) (by omega) (by omega) (by omega)
  rw [Int.toNat_natCast] at this
  rw [this]
  by_cases e : k = i
  ·subst e; simp
  rw [if_neg e, if_neg (by omega)]
 have hba : b ≠ a := fun e => by
  subst e
  rw [hx] at ebl
  have := gsd d i
  rw [← ebl, if_pos rfl] at this
  exact hd this.symm
 refine ⟨b, hba, fun c => ⟨fun ⟨⟨_, hcl, hag⟩, hca⟩ => ?_, ?_⟩⟩
 ·
  rw [hx] at hag
  obtain ⟨hl2, hr2, hc2⟩ := flg_at hn hcl
  have ec : gl (flgP n R B) (c : Int) = x.set i (gi (gl (flgP n R B) (c : Int)) (i : Int)) := list_gi hl2 (by rw [List.length_set]; exact hl) fun k hk => by
   rw [gsd]
   by_cases e : k = i
   ·rw [if_pos e, e]
   rw [if_neg e]; exact (hag k hk e).symm
  have hcm : x.set i (gi (gl (flgP n R B) (c : Int)) (i : Int)) ∈ flgP n R B := by rw [← ec, gl_mem hcl]; exact List.getElem_mem _
  rcases (hdi _).1 ((hm _).1 ((hset _).2 hcm)) with h | h
  ·exfalso
   refine hca (flg_inj hcl ha ?_)
   rw [ec, h, hx, gi_mem (by omega)]
   exact List.set_getElem_self _
  rw [h] at ec
  exact flg_inj hcl hb (ec.trans ebl.symm)
 rintro rfl
 exact ⟨⟨ha, hb, fun k hk hne => by rw [ebl, hx, gsd, if_neg hne]⟩, hba⟩
/-! the maniplex of flags -/
open Classical in
noncomputable def nbsP (n : Nat) (fl : List (List Int)) (i : Nat) (a : Nat) : List Int := ((List.range fl.length).filter fun b => decide (AdjP n fl i a b ∧ b ≠ a)).map fun b : Nat => (b : Int)
noncomputable def mvP (n : Nat) (fl : List (List Int)) (i : Nat) : List Int := (List.range fl.length).flatMap (nbsP n fl i)
noncomputable def mnP (n : Nat) (fl : List (List Int)) : List (List Int) := (List.range n).map (mvP n fl)
def NbP (n : Nat) (fl : List (List Int)) : Prop := ∀ a i : Nat, a < fl.length → i < n → ∃ b : Nat, b ≠ a ∧ ∀ c : Nat, (AdjP n fl i a c ∧ c ≠ a) ↔ c = b
open Classical in
theorem nbs_one {n : Nat} {fl : List (List Int)} {i a b : Nat} (h : ∀ c : Nat, (AdjP n fl i a c ∧ c ≠ a) ↔ c = b) : nbsP n fl i a = [(b : Int)] := by
 have hb := ((h b).2 O).1.2.1
 have key : ∀ p : Nat → Bool, (∀ c, p c = true ↔ c = b) → ((List.range fl.length).filter p) = [b] := fun p hp => by
  refine List.Perm.eq_singleton ((List.perm_ext_iff_of_nodup (List.nodup_range.filter _) (by simp)).2 fun c => ?_)
  rw [List.mem_filter, List.mem_range, hp c, List.mem_singleton]
  exact ⟨fun h => h.2, fun h => ⟨by rw [h]; exact hb, h⟩⟩
 unfold nbsP
 exact congrArg (List.map fun b : Nat => (b : Int)) (key _ fun c => decide_eq_true_iff.trans (h c))
open Classical in
noncomputable def ptP (n : Nat) (fl : List (List Int)) (i a : Nat) : Nat := if h : ∃ b : Nat, b ≠ a ∧ ∀ c : Nat, (AdjP n fl i a c ∧ c ≠ a) ↔ c = b then h.choose else 0
theorem NbP.pt {n : Nat} {fl : List (List Int)} (h : NbP n fl) {a i : Nat} (ha : a < fl.length) (hi : i < n) : ptP n fl i a ≠ a ∧ ∀ c : Nat, (AdjP n fl i a c ∧ c ≠ a) ↔ c = ptP n fl i a := by
 have he := h a i ha hi
 unfold ptP
 rw [dif_pos he]
 exact he.choose_spec
theorem NbP.lt {n : Nat} {fl : List (List Int)} (h : NbP n fl) {a i : Nat} (ha : a < fl.length) (hi : i < n) : ptP n fl i a < fl.length := (((h.pt ha hi).2 _).2 rfl).1.2.1
theorem NbP.pp {n : Nat} {fl : List (List Int)} (h : NbP n fl) {a i : Nat} (ha : a < fl.length) (hi : i < n) : ptP n fl i (ptP n fl i a) = a := by
 have h1 := ((h.pt ha hi).2 _).2 O
 exact (((h.pt (h.lt ha hi) hi).2 a).1 ⟨h1.1.symm, fun e => (h.pt ha hi).1 e.symm⟩).symm
theorem mv_pt {n : Nat} {fl : List (List Int)} (h : NbP n fl) {i : Nat} (hi : i < n) : mvP n fl i = (List.range fl.length).map fun a => (ptP n fl i a : Int) := by
 unfold mvP
 have e : ∀ l : List Nat, (∀ a ∈ l, a < fl.length) → l.flatMap (nbsP n fl i) = l.map fun a => (ptP n fl i a : Int) := by
  intro l
  induction l with
  | nil => intro _; rfl
  | cons a r ih =>
   intro hl
   rw [List.flatMap_cons, List.map_cons, ih fun b hb => hl b (List.mem_cons_of_mem _ hb), nbs_one (h.pt (hl a (by simp)) hi).2]; rfl
 exact e _ fun a ha => List.mem_range.1 ha
theorem flg_NbP {n : Nat} {R : List Int} {B : List (List Int)} (hP : PosP n R B) (hD : DiaP n R B) : NbP n (flgP n R B) := fun _ _ ha hi => flg_nb hP hD ha hi
/-
 Plain mathematics of posets: what makes a polytope; the program's way to part flags.
-/
def PurP (n : Nat) (R : List Int) (B : List (List Int)) : Prop := ∀ e : Int, 0 ≤ e → e < R.length → ∃ x ∈ flgP n R B, e ∈ x
def PlyP (n : Nat) (R : List Int) (B : List (List Int)) : Prop := flgP n R B ≠ [] ∧ PurP n R B ∧ DiaP n R B ∧ ConP n (flgP n R B)
/-! what two flags have in common -/
def cmnP (a b : List Int) : List Int := (List.range a.length).map fun k : Nat => if gi a (k : Int) = gi b (k : Int) then gi a (k : Int) else -1
theorem cmnP_len (a b : List Int) : (cmnP a b).length = a.length := by simp [cmnP]
theorem cmnP_at {a b : List Int} {k : Nat} (h : k < a.length) : gi (cmnP a b) (k : Int) = if gi a (k : Int) = gi b (k : Int) then gi a (k : Int) else -1 := by
 rw [gi_mem (by rw [cmnP_len]; exact h)]
 simp [cmnP]
def HasP (n : Nat) (c x : List Int) : Prop := ∀ k : Nat, k < n → gi c (k : Int) ≠ -1 → gi c (k : Int) = gi x (k : Int)
instance (n : Nat) (c x : List Int) : Decidable (HasP n c x) := by unfold HasP; infer_instance
def LkH (n : Nat) (fl : List (List Int)) (c : List Int) (a b : Nat) : Prop := HasP n c (gl fl (a : Int)) ∧ LnkP n fl (fun k => gi c (k : Int) ≠ -1) a b
theorem HasP.of {n : Nat} {fl : List (List Int)} {c : List Int} {a b : Nat} (h : HasP n c (gl fl (a : Int))) (h' : LnkP n fl (fun k => gi c (k : Int) ≠ -1) a b) : HasP n c (gl fl (b : Int)) := fun k hk hne => by
 rw [h'.keep k hk hne]; exact h k hk hne
theorem LkH.per (n : Nat) (fl : List (List Int)) (c : List Int) : Per fl.length (LkH n fl c) :=
 ⟨fun _ _ h => ⟨h.1.of h.2, h.2.symm⟩, fun _ _ _ h h' => ⟨h.1, h.2.trans h'.2⟩, fun _ _ h => h.2.rng⟩
theorem cmn_link {n : Nat} {fl : List (List Int)} (hl : ∀ x ∈ fl, x.length = n ∧ ∀ e ∈ x, 0 ≤ e) {a b : Nat} (ha : a < fl.length) (hb : b < fl.length) :
  LkH n fl (cmnP (gl fl (a : Int)) (gl fl (b : Int))) a a ∧ LkH n fl (cmnP (gl fl (a : Int)) (gl fl (b : Int))) b b ∧ (LkH n fl (cmnP (gl fl (a : Int)) (gl fl (b : Int))) a b ↔ LnkP n fl (fun k => gi (gl fl (a : Int)) (k : Int) = gi (gl fl (b : Int)) (k : Int)) a b) := by
 have hxa := hl _ (by rw [gl_mem ha]; exact List.getElem_mem _ : gl fl (a : Int) ∈ fl)
 have hne : ∀ k : Nat, k < n → (gi (cmnP (gl fl (a : Int)) (gl fl (b : Int))) (k : Int) ≠ -1 ↔ gi (gl fl (a : Int)) (k : Int) = gi (gl fl (b : Int)) (k : Int)) := fun k hk => by
  rw [cmnP_at (by omega)]
  have := hxa.2 _ (gi_in (show k < (gl fl (a : Int)).length by omega))
  split
  ·exact ⟨fun _ => by assumption, fun _ => by omega⟩
  ·rename_i h; exact ⟨fun h' => absurd rfl h', fun h' => absurd h' h⟩
 have h1 : HasP n (cmnP (gl fl (a : Int)) (gl fl (b : Int))) (gl fl (a : Int)) := fun k hk h => by
  have := (hne k hk).1 h
  rw [cmnP_at (by omega), if_pos this]
 have h2 : HasP n (cmnP (gl fl (a : Int)) (gl fl (b : Int))) (gl fl (b : Int)) := fun k hk h => by
  have := (hne k hk).1 h
  rw [cmnP_at (by omega), if_pos this, this]
 have cv : ∀ {S S' : Nat → Prop}, (∀ k, k < n → (S k ↔ S' k)) → ∀ {u v}, LnkP n fl S u v → LnkP n fl S' u v := fun {S S'} hS {u v} h => by
  induction h with
  | refl h => exact .refl h
  | step _ hi hs had ih => exact .step ih hi (fun h => hs ((hS _ hi).2 h)) had
 exact ⟨⟨h1, .refl ha⟩, ⟨h2, .refl hb⟩, fun h => cv hne h.2, fun h => ⟨h1, cv (fun k hk => (hne k hk).symm) h⟩⟩
def AdH (n : Nat) (fl : List (List Int)) (c : List Int) (x y : Nat) : Prop := HasP n c (gl fl (x : Int)) ∧ HasP n c (gl fl (y : Int)) ∧ ∃ i, i < n ∧ AdjP n fl i x y
theorem flg_same {n : Nat} {fl : List (List Int)} (hn : fl.Nodup) (hl : ∀ x ∈ fl, x.length = n) {x y : Nat} (hx : x < fl.length) (hy : y < fl.length) (h : ∀ k : Nat, k < n → gi (gl fl (x : Int)) (k : Int) = gi (gl fl (y : Int)) (k : Int)) : x = y := by
 have e : gl fl (x : Int) = gl fl (y : Int) := list_gi (hl _ (by rw [gl_mem hx]; exact List.getElem_mem _)) (hl _ (by rw [gl_mem hy]; exact List.getElem_mem _)) h
 rw [gl_mem hx, gl_mem hy] at e
 exact (List.getElem_inj hn).1 e
theorem AdH.link {n : Nat} {fl : List (List Int)} (hn : fl.Nodup) (hl : ∀ x ∈ fl, x.length = n) {c : List Int} {x y : Nat} (h : AdH n fl c x y) : LkH n fl c x y := by
 obtain ⟨h1, h2, i, hi, ha⟩ := h
 refine ⟨h1, ?_⟩
 by_cases hc : gi c (i : Int) ≠ -1
 ·have : x = y := flg_same hn hl ha.1 ha.2.1 fun k hk => by
   by_cases e : k = i
   ·subst e; rw [← h1 k hk hc, h2 k hk hc]
   exact ha.2.2 k hk e
  subst this
  exact .refl ha.1
 exact .step (.refl ha.1) hi hc ha
theorem LkH.ind {n : Nat} {fl : List (List Int)} {c : List Int} {f : Nat} (S : Nat → Prop) (hf : S f) (hs : ∀ x y, S x → LkH n fl c f x → AdH n fl c x y → S y) : ∀ x, LkH n fl c f x → S x := fun x h => by
 obtain ⟨h1, h2⟩ := h
 induction h2 with
 | refl _ => exact hf
 | step h hi hS ha ih => exact hs _ _ ih ⟨h1, h⟩ ⟨h1.of h, h1.of (.step h hi hS ha), _, hi, ha⟩
def AdS (n : Nat) (fl : List (List Int)) (S : Nat → Prop) (x y : Nat) : Prop := ∃ i, i < n ∧ ¬ S i ∧ AdjP n fl i x y ∧ y ≠ x
theorem LnkP.ind {n : Nat} {fl : List (List Int)} {S : Nat → Prop} {f : Nat} (T : Nat → Prop) (hf : T f) (hs : ∀ x y, T x → LnkP n fl S f x → AdS n fl S x y → T y) : ∀ x, LnkP n fl S f x → T x := fun x h => by
 induction h with
 | refl _ => exact hf
 | step h hi hS ha ih =>
  rename_i b c i
  by_cases e : c = b
  ·rw [e]; exact ih
  ·exact hs _ _ ih h ⟨_, hi, hS, ha, e⟩
theorem AdS.link {n : Nat} {fl : List (List Int)} {S : Nat → Prop} {x y : Nat} (h : AdS n fl S x y) : LnkP n fl S x y := by
 obtain ⟨i, hi, hS, ha, _⟩ := h
 exact .step (.refl ha.1) hi hS ha
end Go.Proofs.YtopgfgdgfjddpaaGreatDoor.Vc
/-
 The program's tests of posets: pure, diamonds; what flags have in common.
-/
namespace Go.Proofs.YtopgfgdgfjddpaaGreatDoor.Vc
open Go.RowKit
def AnsI (L : List Int) (w : World) (v : Value) (w' : World) : Prop := ∃ A' c', v = .slice A' L.length c' ∧ St w w' [CkI 2 A' L.length c' L]
theorem take_snoc {xs : List Int} {j : Nat} (h : j < xs.length) : xs.take (j + 1) = xs.take j ++ [gi xs (j : Int)] := by
 rw [List.take_succ_eq_append_getElem h, gi_mem h]
theorem isPure_c (n : Int) (A D : Option Addr) (cA N m cD : Nat) (Af : Option Addr) (nf cf : Nat) (rs : List SlV) (fl : List (List Int)) (w : World) (hF : RowsI w Af nf rs fl) (hN : N ≤ 500) (hr : ∀ l ∈ fl, l.length ≤ 1000 ∧ ∀ x ∈ l, 0 ≤ x ∧ x < (N : Int)) (hnf : nf ≤ 100000) :
  Ret Tryz.prog 87 [.agg #[.int .i64 n, .slice A N cA, .slice D m cD], .slice Af nf cf] w (fun v w' => ∃ b : Bool, v = .bool b ∧ (b = true ↔ ∀ x : Int, 0 ≤ x → x < (N : Int) → ∃ l ∈ fl, x ∈ l) ∧ St w w' []) := by
 have hfl := hF.len
 refine Ret.of_cd Tryz.func87 O Tryz.ntmps87 O (post1 O) (Gbo O (Ops.box3T (St.refl w) O O ?_))
 intro A1 w1 hS1
 have h1 : Rd w1 A1 3 (fun j => [Value.int .i64 n, .slice A N cA, .slice D m cD].getD j undef) := hS1.rd 0 O
 refine Gdo O (Ops.fld h1 O O O O inferInstance (Ops.ldf_s h1 O O O O O (Ops.len O O (Ops.mkB (v := false) N hS1 O O (by omega) ?_))))
 intro A5 w2 hS2
 have hS2 : St w w2 [CkB 4 A5 N N (pnt (mk0 N) (fl.take 0).flatten), poB A1 n A N cA D m cD] := hS2
 refine Gdo O (Ops.len O O (Gdc O ?_))
 refine Cd.loop (α := Nat) (fun i => [(2, .pointer A1), (5, .slice A5 N N), (14, .slice Af nf cf), (15, .int .i64 (nf : Int)), (16, .int .i64 (i : Int))]) (fun i w' => i ≤ nf ∧ St w w' [CkB 4 A5 N N (pnt (mk0 N) (fl.take i).flatten), poB A1 n A N cA D m cD]) (fun i => nf - i) 0 ⟨O, O, O, O, O, trivial⟩ ⟨Nat.zero_le _, hS2⟩ ?_
 clear hS2 hS1 h1
 rintro i e w3 ⟨hi, hS⟩
 refine Gbc O ?_
 refine Cd.cond_p _ O (fun h2 => ?_) (fun h2 => ?_)
 ·have hiF : i < fl.length := by omega
  have hM := hS.oldRows hF
  have hro := hM.at_ (i := (i : Int)) (by omega) (by omega)
  have hrn := hro.1
  have hmem : gl fl (i : Int) ∈ fl := by rw [gl_mem hiF]; exact List.getElem_mem _
  have hri := hr _ hmem
  refine Gao O (Ops.idx hM.top.2 O O O (by omega) (by omega) (Ops.ld_sl hM.top O (by omega) O O ?_))
  refine Gdo O (Ops.len O O (Gdc O ?_))
  refine Cd.loop (α := Nat) (fun j => [(2, .pointer A1), (5, .slice A5 N N), (14, .slice Af nf cf), (15, .int .i64 (nf : Int)), (16, .int .i64 (i : Int)), (20, .slice (rg rs (i : Int)).a (rg rs (i : Int)).n (rg rs (i : Int)).c), (21, .int .i64 ((rg rs (i : Int)).n : Int)), (22, .int .i64 (j : Int))]) (fun j w' => j ≤ (rg rs (i : Int)).n ∧ St w w' [CkB 4 A5 N N (pnt (mk0 N) ((fl.take i).flatten ++ (gl fl (i : Int)).take j)), poB A1 n A N cA D m cD]) (fun j => (rg rs (i : Int)).n - j) 0 ⟨O, O, O, O, O, O, O, O, trivial⟩ ⟨Nat.zero_le _, by rw [List.take_zero, List.append_nil]; exact hS⟩ ?_
  clear hro hM hS
  rintro j e w4 ⟨hj, hS⟩
  refine Gbc O ?_
  refine Cd.cond_p _ O (fun h3 => ?_) (fun h3 => ?_)
  ·have hjl : j < (gl fl (i : Int)).length := by omega
   have hro := (hS.oldRows hF).at_ (i := (i : Int)) (by omega) (by omega)
   have hx := hri.2 _ (gi_in hjl)
   have hpl := pnt0_len N ((fl.take i).flatten ++ (gl fl (i : Int)).take j)
   refine Gao O (Ops.idx hro.2 O O O (by omega) (by omega) (Ops.ld_int hro O (by omega) O O (Gdo O (Ops.idx (hS.rdB 0 O).2 O O O (by omega) (by omega) (Ops.st_bool 0 hS O O O (by omega) ?_)))))
   intro w5 hS5
   have hS5 : St w w5 [CkB 4 A5 N N (pnt (mk0 N) ((fl.take i).flatten ++ (gl fl (i : Int)).take (j + 1))), poB A1 n A N cA D m cD] := by
    rw [take_snoc hjl, ← List.append_assoc, pnt_snoc]; exact hS5
   refine Gdo O (Ops.add O O O (by omega) (Gdn O (tQ ?_)))
   exact ⟨j + 1, by show (rg rs (i : Int)).n - (j + 1) < (rg rs (i : Int)).n - j; omega, ⟨O, O, O, O, O, O, O, O, trivial⟩, by omega, hS5⟩
  rw [show (gl fl (i : Int)).take j = gl fl (i : Int) from List.take_of_length_le (by omega)] at hS
  refine Gax O (thenQ_x (Gfo O (Ops.add O O O (by omega) (Gdn O (tQ ?_)))))
  refine ⟨i + 1, by show nf - (i + 1) < nf - i; omega, ⟨O, O, O, O, O, trivial⟩, by omega, ?_⟩
  rw [List.take_succ_eq_append_getElem hiF, List.flatten_append, ← gl_mem hiF]
  simpa using hS
 have hin : i = fl.length := by omega
 rw [hin, List.take_length] at hS
 have hnof := no_false (m := N) (F := fl) (fun l hl => (hr l hl).2)
 refine Gax O (thenQ_x (Gfo O ?_))
 refine Ops.call (ContainsB_c A5 N N _ false _ (hS.rdB 0 O) (by omega)) O O O ?_
 rintro _ _ ⟨rfl, rfl⟩
 first | refine Ops.not_p rfl rfl ?_ | refine Ops.not rfl rfl ?_
 refine Gdr O (ret1_b O ?_)
 refine ⟨_, O, ?_, hS.none⟩
 rw [← hnof]
 simp
def cmnT (a b : List Int) (i : Nat) : List Int := (List.range a.length).map fun k : Nat => if i ≤ k ∨ gi a (k : Int) = gi b (k : Int) then gi a (k : Int) else -1
theorem cmnT_len (a b : List Int) (i : Nat) : (cmnT a b i).length = a.length := by simp [cmnT]
theorem cmnT_at {a b : List Int} {i k : Nat} (h : k < a.length) : gi (cmnT a b i) (k : Int) = if i ≤ k ∨ gi a (k : Int) = gi b (k : Int) then gi a (k : Int) else -1 := by
 rw [gi_mem (by rw [cmnT_len]; exact h)]
 simp [cmnT]
theorem cmnT_0 (a b : List Int) : cmnT a b 0 = a := by
 apply List.ext_getElem (cmnT_len ..)
 intro k h1 h2
 rw [← gi_mem h1, ← gi_mem h2, cmnT_at h2, if_pos (.inl (Nat.zero_le _))]
theorem cmnT_all (a b : List Int) : cmnT a b a.length = cmnP a b := by
 apply List.ext_getElem (by rw [cmnT_len, cmnP_len])
 intro k h1 h2
 have h3 : k < a.length := by rw [cmnT_len] at h1; exact h1
 rw [← gi_mem h1, ← gi_mem h2, cmnT_at h3, cmnP_at h3]
 by_cases c : gi a (k : Int) = gi b (k : Int)
 ·rw [if_pos (.inr c), if_pos c]
 rw [if_neg (by omega), if_neg c]
theorem cmnT_next {a b : List Int} {i : Nat} : cmnT a b (i + 1) = if gi a (i : Int) = gi b (i : Int) then cmnT a b i else (cmnT a b i).set i (-1) := by
  by_cases c : gi a (i : Int) = gi b (i : Int)
  · rw [if_pos c]
    apply List.ext_getElem (by simp [cmnT_len])
    intro k h1 h4
    have h3 : k < a.length := by rw [cmnT_len] at h1; exact h1
    rw [← gi_mem h1, cmnT_at h3, ← gi_mem h4, cmnT_at h3]
    by_cases e : k = i
    · subst e; rw [if_pos (.inr c), if_pos (.inr c)]
    by_cases e2 : i + 1 ≤ k ∨ gi a (k : Int) = gi b (k : Int)
    · rw [if_pos e2, if_pos (by omega)]
    rw [if_neg e2, if_neg (by omega)]
  rw [if_neg c]
  apply List.ext_getElem (by simp [cmnT_len])
  intro k h1 h2
  have h3 : k < a.length := by rw [cmnT_len] at h1; exact h1
  have h4 : k < (cmnT a b i).length := by rw [cmnT_len]; exact h3
  rw [← gi_mem h1, cmnT_at h3, List.getElem_set]
  split
  · rename_i h
    rw [if_neg (fun e => by subst e; rcases h with h | h; · omega
                            exact c h), ← gi_mem h4, cmnT_at h3, if_pos (by omega)]
  rename_i h
  by_cases e : i = k
  · rw [if_pos e]
  rw [if_neg e, ← gi_mem h4, cmnT_at h3, if_neg (fun h' => h (by omega))]
theorem commonOf_c (A A2 : Option Addr) (n c m c2 : Nat) (a b : List Int) (w : World) (hA : RdI w A n a) (hB : RdI w A2 m b) (hm : n = m) (hn : n ≤ 1000) :
  Ret Tryz.prog 153 [.slice A n c, .slice A2 m c2] w (AnsI (cmnP a b) w) := by
 subst hm
 have ha := hA.1
 have hb := hB.1
 refine Ret.of_cd Tryz.func153 O Tryz.ntmps153 O (post1 O) (Gbo O (Ops.call (Clone_c A n c a w hA (by omega)) O O O ?_))
 rintro _ w1 ⟨A5, c5, rfl, hS⟩
 have hS : St w w1 [CkI 2 A5 n c5 (cmnT a b 0)] := by rw [cmnT_0]; exact hS
 refine Gdo O (Ops.len O O (Gdc O ?_))
 refine Cd.loop (α := Nat) (fun i => [(5, .slice A5 n c5), (10, .slice A2 n c2), (11, .int .i64 (n : Int)), (12, .int .i64 (i : Int))]) (fun i w' => i ≤ n ∧ St w w' [CkI 2 A5 n c5 (cmnT a b i)]) (fun i => n - i) 0 ⟨O, O, O, O, trivial⟩ ⟨Nat.zero_le _, hS⟩ ?_
 clear hS
 rintro i e w2 ⟨hi, hS⟩
 have hl := cmnT_len a b i
 refine Gbc O ?_
 refine Cd.cond_p _ O (fun h2 => ?_) (fun h2 => ?_)
 ·have hin : i < a.length := by omega
  have hnx := cmnT_next (a := a) (b := b) (i := i)
  have hat := cmnT_at (b := b) (i := i) hin
  rw [if_pos (.inl (Nat.le_refl _))] at hat
  have hB2 := hS.oldI hB
  have h5 := hS.rdI 0 O
  refine Gao O (Ops.idx hB2.2 O O O (by omega) (by omega) (Ops.ld_int hB2 O (by omega) O O (Gdo O (Ops.idx h5.2 O O O (by omega) (by omega) (Ops.ld_int h5 O (by omega) O O (Gdc O ?_))))))
  rw [hat]
  refine Cd.cond_p _ O (fun h3 => ?_) (fun h3 => ?_)
  ·rw [if_neg h3] at hnx
   refine Gao O (Ops.idx h5.2 O O O (by omega) (by omega) (Ops.st_int 0 hS O O O (by omega) ?_))
   intro w3 hS3
   refine Gdo O (Ops.add O O O (by omega) (Gdn O (tQ ?_)))
   exact ⟨i + 1, by show n - (i + 1) < n - i; omega, ⟨O, O, O, O, trivial⟩, by omega, by rw [hnx]; exact hS3⟩
  rw [if_pos (Classical.not_not.1 h3)] at hnx
  refine Gao O (Ops.add O O O (by omega) (Gdn O (tQ ?_)))
  exact ⟨i + 1, by show n - (i + 1) < n - i; omega, ⟨O, O, O, O, trivial⟩, by omega, by rw [hnx]; exact hS⟩
 have hin : i = a.length := by omega
 rw [hin, cmnT_all] at hS
 have hl2 := cmnP_len a b
 refine Gax O (thenQ_x (Gfr O ?_))
 refine ret1_s O ?_
 exact ⟨A5, c5, by rw [hl2, ha], by rw [hl2, ha]; exact hS⟩
def plcP (xs : List Int) (x : Int) : List Int := (rngI xs.length).filter fun e => decide (gi xs e = x)
theorem plc_next {xs : List Int} {x : Int} {m : Nat} : ((rngI (m + 1)).filter fun e => decide (gi xs e = x)) = if x = gi xs (m : Int) then ((rngI m).filter fun e => decide (gi xs e = x)) ++ [(m : Int)] else ((rngI m).filter fun e => decide (gi xs e = x)) := by
 have : rngI (m + 1) = rngI m ++ [(m : Int)] := by
  unfold rngI
  rw [List.range_succ, List.map_append]; rfl
 rw [this, List.filter_append]
 by_cases c : gi xs (m : Int) = x
 ·rw [if_pos c.symm]; simp [c]
 rw [if_neg (fun h => c h.symm)]; simp [c]
theorem placesOf_c (A : Option Addr) (n c : Nat) (xs : List Int) (x : Int) (w : World) (hA : RdI w A n xs) (hn : n ≤ 100000) :
  Ret Tryz.prog 211 [.slice A n c, .int .i64 x] w (AnsI (plcP xs x) w) := by
 have ha := hA.1
 refine Ret.of_cd Tryz.func211 O Tryz.ntmps211 O (post1 O) ?_
 refine Gbo O (Ops.len O O (Gdc O ?_))
 refine Cd.loop (α := Nat × Option Addr × Nat) (fun z => [(1, .int .i64 x), (5, .slice z.2.1 ((rngI z.1).filter fun e => decide (gi xs e = x)).length z.2.2), (8, .slice A n c), (9, .int .i64 (n : Int)), (10, .int .i64 (z.1 : Int))]) (fun z w' => z.1 ≤ n ∧ St w w' [CkI 2 z.2.1 ((rngI z.1).filter fun e => decide (gi xs e = x)).length z.2.2 ((rngI z.1).filter fun e => decide (gi xs e = x))]) (fun z => n - z.1) (0, none, 0) ⟨O, O, O, O, O, trivial⟩ ⟨Nat.zero_le _, (St.refl w).nil _⟩ ?_
 rintro ⟨i, A5, c5⟩ e w1 ⟨hi, hS⟩
 dsimp only at hi hS ⊢
 have hfl : ((rngI i).filter fun e => decide (gi xs e = x)).length ≤ 100000 := by
  refine Nat.le_trans (List.length_filter_le _ _) ?_
  rw [rngI, List.length_map, List.length_range]; omega
 have hnx := plc_next (xs := xs) (x := x) (m := i)
 refine Gbc O ?_
 refine Cd.cond_p _ O (fun h2 => ?_) (fun h2 => ?_)
 ·have hA1 := hS.oldI hA
  refine Gao O (Ops.idx hA1.2 O O O (by omega) (by omega) (Ops.ld_int hA1 O (by omega) O O (Gdc O ?_)))
  refine Cd.cond_p _ O (fun h3 => ?_) (fun h3 => ?_)
  ·rw [if_pos h3] at hnx
   refine Gao O (Ops.bs1I hS O O O ?_)
   intro A9 w2 hS2
   refine Ops.appI 1 hS2 O (hS2.rdI 0 O) O O O (by omega) (by omega) O ?_
   intro AZ cZ w3 hS3
   have hS3 := hS3.tail
   refine Gdo O (Ops.add O O O (by omega) (Gdn O (tQ ?_)))
   refine ⟨(i + 1, AZ, cZ), by show n - (i + 1) < n - i; omega, ⟨O, ?_, O, O, O, trivial⟩, by show i + 1 ≤ n; omega, ?_⟩
   ·show Value.slice _ _ _ = _
    rw [hnx, List.length_append]; rfl
   show St w w3 [CkI _ _ (((rngI (i + 1)).filter _).length) _ ((rngI (i + 1)).filter _)]
   rw [hnx, List.length_append]
   exact hS3
  rw [if_neg h3] at hnx
  refine Gao O (Ops.add O O O (by omega) (Gdn O (tQ ?_)))
  refine ⟨(i + 1, A5, c5), by show n - (i + 1) < n - i; omega, ⟨O, ?_, O, O, O, trivial⟩, by show i + 1 ≤ n; omega, ?_⟩
  ·show Value.slice _ _ _ = _
   rw [hnx]
  show St w w1 [CkI _ _ (((rngI (i + 1)).filter _).length) _ ((rngI (i + 1)).filter _)]
  rw [hnx]
  exact hS
 have hin : i = xs.length := by omega
 rw [hin] at hS ⊢
 refine Gax O (thenQ_x (Gfr O ?_))
 refine ret1_s O ?_
 exact ⟨A5, c5, O, hS⟩
def rkL (n : Int) (R : List Int) (i : Int) : List Int := if 0 ≤ i ∧ i ≤ n - 1 then plcP R i else [-1]
theorem ofRank_c (P A D : Option Addr) (n : Int) (N cA m cD : Nat) (R : List Int) (i : Int) (w : World) (hP : Rd w P 3 (fun j => [Value.int .i64 n, .slice A N cA, .slice D m cD].getD j undef)) (hR : RdI w A N R) (hN : N ≤ 1000) (hn : 0 ≤ n ∧ n ≤ 100) :
  Ret Tryz.prog 151 [.pointer P, .int .i64 i] w (AnsI (rkL n R i) w) := by
 refine Ret.of_cd Tryz.func151 O Tryz.ntmps151 O (post1 O) (Gbo O ?_)
 refine Ops.nilp hP (by decide) O O ?_
 refine Ops.fld hP O O O O inferInstance (Ops.ldf_i (j := 0) hP (by exact congrArg Value.pointer O) O O O O (Ops.sub O O O (by omega) (Ops.call (within_c _ _ _ _) O O O ?_)))
 rintro _ _ ⟨rfl, rfl⟩
 first | refine Ops.not_p rfl rfl ?_ | refine Ops.not rfl rfl ?_
 refine Gdc O ?_
 refine Cd.cond_p _ O (fun h2 => ?_) (fun h2 => ?_)
 ·refine Gao O (Ops.bs1I (i := -1) (St.refl _) O O O ?_)
  intro A9 w2 hS2
  refine Gdr O (ret1_s O ?_)
  unfold AnsI rkL
  rw [if_neg h2]
  exact ⟨A9, 1, O, hS2⟩
 refine Gao O ?_
 refine Ops.nilp hP (by decide) O O ?_
 refine Ops.fld hP O O O O inferInstance (Ops.ldf_s hP O O O O O (Gdo O (Ops.call (placesOf_c A N cA R i _ hR (by omega)) O O O ?_)))
 rintro _ w2 ⟨A9, c9, rfl, hS2⟩
 refine Gdr O (ret1_s O ?_)
 unfold AnsI rkL
 rw [if_pos (Classical.not_not.1 h2)]
 exact ⟨A9, c9, O, hS2⟩
end Go.Proofs.YtopgfgdgfjddpaaGreatDoor.Vc
/-
 Maps of one's own: made, looked up, written.
-/
namespace Go.Proofs.YtopgfgdgfjddpaaGreatDoor.Vc
open Go.RowKit Go.MapKept
structure KeyT {κ : Type} (d : TypeDesc) (kv : κ → Value) : Prop where
 isKey : ∀ a, IsKey d (kv a)
 inj : ∀ a b, kv a = kv b → a = b
theorem keyS : KeyT .string Value.string := ⟨fun _ => trivial, fun a b h => by injection h⟩
section
variable {κ ν : Type} [DecidableEq κ]
def getA : List (κ × ν) → κ → Option ν
  | [], _ => none
  | (y, v) :: r, x => if y = x then some v else getA r x
def putA : List (κ × ν) → κ → ν → List (κ × ν)
  | [], x, v => [(x, v)]
  | (y, u) :: r, x, v => if y = x then (x, v) :: r else (y, u) :: putA r x v
def fndA : List (κ × ν) → κ → Option (Nat × ν)
  | [], _ => none
  | (y, v) :: r, x => if y = x then some (0, v) else (fndA r x).map fun p => (p.1 + 1, p.2)
theorem fndA_get : ∀ (L : List (κ × ν)) (x : κ), getA L x = (fndA L x).map (·.2)
  | [], _ => rfl
  | (y, v) :: r, x => by
    simp only [getA, fndA]
    split
    · rfl
    · rw [fndA_get r x, Option.map_map]; rfl
theorem fndA_some : ∀ {L : List (κ × ν)} {x : κ} {j : Nat} {v : ν}, fndA L x = some (j, v) → L[j]? = some (x, v) ∧ ∀ u, putA L x u = L.set j (x, u)
  | (y, w) :: r, x, j, v, h => by
    simp only [fndA] at h
    split at h
    · rename_i e
      simp only [Option.some.injEq, Prod.mk.injEq] at h
      obtain ⟨rfl, rfl⟩ := h
      subst e
      exact ⟨O, fun u => by simp [putA]⟩
    · rename_i e
      cases hf : fndA r x with
      | none => simp [hf] at h
      | some p =>
        simp only [hf, Option.map_some, Option.some.injEq, Prod.mk.injEq] at h
        obtain ⟨rfl, rfl⟩ := h
        obtain ⟨h1, h2⟩ := fndA_some (L := r) (x := x) (j := p.1) (v := p.2) hf
        exact ⟨by simpa using h1, fun u => by simp only [putA, if_neg e, h2 u, List.set_cons_succ]⟩
theorem fndA_none : ∀ {L : List (κ × ν)} {x : κ}, fndA L x = none → ∀ u, putA L x u = L ++ [(x, u)]
  | [], x, _, u => rfl
  | (y, w) :: r, x, h, u => by
    simp only [fndA] at h
    split at h
    · cases h
    · rename_i e
      rw [Option.map_eq_none_iff] at h
      simp only [putA, if_neg e, fndA_none h u, List.cons_append]
theorem getA_put (L : List (κ × ν)) (x y : κ) (u : ν) : getA (putA L x u) y = if x = y then some u else getA L y := by
 induction L with
 | nil => simp only [putA, getA]
 | cons p r ih =>
  obtain ⟨z, w⟩ := p
  simp only [putA]
  by_cases e : z = x
  ·subst e
   rw [if_pos rfl]
   simp only [getA]
   split <;> simp_all
  ·rw [if_neg e]
   simp only [getA, ih]
   by_cases e2 : z = y
   ·subst e2
    rw [if_pos rfl, if_neg (fun h => e h.symm), if_pos rfl]
   ·rw [if_neg e2, if_neg e2]
def prV (kv : κ → Value) (vv : ν → Value) (L : List (κ × ν)) : List (Value × Value) := L.map fun p => (kv p.1, vv p.2)
theorem findNow_A {d : TypeDesc} {kv : κ → Value} {vv : ν → Value} (K : KeyT d kv) (x : κ) : ∀ (l : List MapEntry) (L : List (κ × ν)) (i : Nat), l.map (fun e => (e.key, e.val)) = prV kv vv L → Instr.findNow d (kv x) l i = some ((fndA L x).map fun p => (i + p.1, vv p.2))
 | [], [], _, _ => rfl
 | [], _ :: _, _, h => by simp [prV] at h
 | _ :: _, [], _, h => by simp [prV] at h
 | e :: l, (y, v) :: L, i, h => by
  simp only [prV, List.map_cons, List.cons.injEq, Prod.mk.injEq] at h
  obtain ⟨⟨h1, h2⟩, h3⟩ := h
  obtain ⟨r, hr, hiff⟩ := sameNow_of_keys (K.isKey x) (K.isKey y)
  simp only [Instr.findNow, fndA]
  rw [h1, hr]
  cases r with
  | true =>
   have e1 := K.inj _ _ (hiff.1 O)
   subst e1
   simp [h2]
  | false =>
   have hne : ¬ y = x := fun q => by
    have := hiff.2 (by rw [q])
    cases this
   rw [if_neg hne]
   simp only
   rw [findNow_A K x l L (i + 1) h3, Option.map_map]
   congr 2
   funext p
   simp only [Function.comp]
   rw [Nat.add_assoc, Nat.add_comm 1]
end
def CkM (t : TypeId) (g : Nat) (kvs : List (Value × Value)) : Ck := ⟨some ⟨g, 0, none⟩, 0, 0, t, .tuple #[] :: flatM kvs⟩
def RdM (w : World) (g : Nat) (kvs : List (Value × Value)) : Prop := ∃ es cl, w.heap[g]? = some (.map es cl) ∧ es.toList.map (fun e => (e.key, e.val)) = kvs
section
variable {w0 w w' : World} {ks : List Ck} {t : TypeId} {g : Nat} {kvs : List (Value × Value)}
theorem St.ownM (h : St w0 w ks) (i : Nat) (hk : ks[i]? = some (CkM t g kvs)) : w0.heap.size ≤ g ∧ RdM w g kvs := by
 rcases (h.get hk).cases with ⟨_, _, _, g', es, cl, hA, hg, hh, hv⟩ | ⟨hm, _⟩
 ·have hA : some (⟨g, 0, Option.none⟩ : Addr) = some ⟨g', 0, Option.none⟩ := hA
  simp only [Option.some.injEq, Addr.mk.injEq, and_true] at hA
  subst hA
  have hv : (.tuple #[] :: flatM kvs : List Value) = .tuple #[] :: flatM (es.toList.map fun e => (e.key, e.val)) := hv
  simp only [List.cons.injEq, true_and] at hv
  exact ⟨hg, es, cl, hh, (flatM_inj hv).symm⟩
 cases hm
theorem St.rdM (h : St w0 w ks) (i : Nat) (hk : ks[i]? = some (CkM t g kvs)) : RdM w g kvs := (h.ownM i hk).2
theorem St.allocM (h : St w0 w ks) (t : TypeId) : St w0 (w.alloc (.map #[] 0)) (CkM t w.heap.size [] :: ks) := by
 have hb : Below w.heap.size w (w.alloc (.map #[] 0)) := (Below.refl _ _).alloc (Nat.le_refl _) _
 have h1 := h.later hb
 refine ⟨h1.below, fun k hk => ?_, ?_⟩
 ·rcases List.mem_cons.1 hk with rfl | hk
  ·exact .ofM O ⟨O, O, _, #[], 0, O, h.below.size, heap_alloc_new w _, O⟩
  exact h1.own k hk
 simp only [List.filterMap_cons, CkM, Ck.blk, Option.map_some, List.nodup_cons]
 refine ⟨fun hin => ?_, h.apart⟩
 obtain ⟨k', hk', hkb⟩ := List.mem_filterMap.1 hin
 have := ((h.own k' hk').lt hkb).2
 omega
theorem St.turnM {i : Nat} {kvs' : List (Value × Value)} {es' : Array MapEntry} {cl' : Nat} (h : St w0 w ks) (hk : ks[i]? = some (CkM t g kvs)) (hv : es'.toList.map (fun e => (e.key, e.val)) = kvs') : St w0 { w with heap := w.heap.setIfInBounds g (.map es' cl') } (ks.set i (CkM t g kvs')) := by
 obtain ⟨hg, es, cl, hh, _⟩ := h.ownM i hk
 refine h.turn (k := CkM t g kvs) (k' := CkM t g kvs') (g := g) hk O O ⟨⟨O, O, O, by simp, fun x _ hx => ?_⟩, Nat.le_refl _⟩ ?_
 ·exact (heap_set hh).2 x fun e => hx (by rw [e])
 refine .ofM O ⟨O, O, g, es', cl', O, hg, (heap_set hh).1, ?_⟩
 rw [hv]; rfl
end
section
variable {P : Program} {N : Nat} {ops : Array Oper} {K : Env → World → Prop} {rest : List Oper} {e : Env} {w0 w w' : World} {ks : List Ck} {d : Nat} {ty : TypeId} {pos : String} {af : Array Edge}
variable {κ ν : Type} [DecidableEq κ] {kd : TypeDesc} {kv : κ → Value} {vv : ν → Value}
theorem Ops.mkmap {t : TypeId} (hS : St w0 w ks) (hb : Nat.blt d N = true) (hK : ∀ g w', St w0 w' (CkM t g [] :: ks) → Ops P N ops K rest (upd e d (.map (some g))) w') :
  Ops P N ops K (⟨some d, .makeMap t none, ty, pos, af, none⟩ :: rest) e w :=
 .val (w' := w.alloc (.map #[] 0)) (by simp [execOp, run_makeMap]) hb (hK _ _ (hS.allocM t))
theorem run_look {t kt et : TypeId} {z : Value} {s b : Nat} [hU : Und P t (.map kt et)] [hk : Und P kt kd] [Inf P et z s b] (KT : KeyT kd kv) {g : Nat} {L : List (κ × ν)} {x : κ} (hR : RdM w g (prV kv vv L)) (ok : Bool) :
    (Instr.lookup t (.map (some g)) (kv x) ok).run P w = .ok (if ok then .tuple #[((getA L x).map vv).getD z, .bool (getA L x).isSome] else ((getA L x).map vv).getD z) w := by
  obtain ⟨es, cl, hh, hm⟩ := hR
  obtain ⟨inf, hi, hz0, _, _⟩ := Inf.get P et
  have hf := findNow_A (vv := vv) KT x es.toList L 0 hm
  rw [fndA_get]
  unfold Instr.lookup
  simp only [Sem.run_bind, run_underlying hU.out, Result.andThen, MapKept.run_getObj_map hh, MapKept.run_checkKey hk.out (KT.isKey x)]
  cases hfn : fndA L x with
  | none =>
    rw [hfn] at hf
    have hfk := MapKept.run_findKey (P := P) (w := w) hk.out hf
    cases ok <;> simp [hfk, zeroValue, typeInfo, hi, hz0]
  | some p =>
    rw [hfn] at hf
    have hfk := MapKept.run_findKey (P := P) (w := w) hk.out hf
    cases ok <;> simp [hfk]
theorem Ops.look {t kt et : TypeId} {z v : Value} {s b : Nat} [Und P t (.map kt et)] [Und P kt kd] [Inf P et z s b] (KT : KeyT kd kv) {g : Nat} {L : List (κ × ν)} {m ix : Operand} {x : κ} (hR : RdM w g (prV kv vv L)) (hx : ev e m = .map (some g)) (hy : ev e ix = kv x) (hv : ((getA L x).map vv).getD z = v) (hb : Nat.blt d N = true) (hK : Ops P N ops K rest (upd e d v) w) : Ops P N ops K (⟨some d, .lookup t m ix false, ty, pos, af, none⟩ :: rest) e w := by
 subst hv
 refine .val (w' := w) ?_ hb hK
 have := run_look (P := P) (t := t) (x := x) KT hR false
 simp [execOp, hx, hy, this]
theorem Ops.lookIok {t kt et : TypeId} {b : Nat} [Und P t (.map kt et)] [Und P kt kd] [Inf P et (.int .i64 0) 1 b] (KT : KeyT kd kv) {g : Nat} {L : List (κ × Int)} {m ix : Operand} (x : κ) (hR : RdM w g (prV kv (Value.int .i64) L)) (hx : ev e m = .map (some g)) (hy : ev e ix = kv x) (hb : Nat.blt d N = true) (hK : Ops P N ops K rest (upd e d (.tuple #[.int .i64 ((getA L x).getD 0), .bool (getA L x).isSome])) w) : Ops P N ops K (⟨some d, .lookup t m ix true, ty, pos, af, none⟩ :: rest) e w := by
 refine .val (w' := w) ?_ hb hK
 have := run_look (P := P) (t := t) (x := x) KT hR true
 have e1 : ((getA L x).map (Value.int .i64)).getD (.int .i64 0) = .int .i64 ((getA L x).getD 0) := by cases getA L x <;> rfl
 rw [e1] at this
 simp [execOp, hx, hy, this]
theorem run_upd {t kt et T : TypeId} [hU : Und P t (.map kt et)] [hk : Und P kt kd] (KT : KeyT kd kv) {g : Nat} {L : List (κ × ν)} (i : Nat) (x : κ) (u : ν) (hS : St w0 w ks) (hi : ks[i]? = some (CkM T g (prV kv vv L))) :
  ∃ w', (Instr.mapUpdate t (.map (some g)) (kv x) (vv u)).run P w = .ok () w' ∧ St w0 w' (ks.set i (CkM T g (prV kv vv (putA L x u)))) := by
 obtain ⟨_, es, cl, hh, hm⟩ := hS.ownM i hi
 have hf := findNow_A (vv := vv) KT x es.toList L 0 hm
 have hfk := MapKept.run_findKey (P := P) (w := w) hk.out hf
 cases hfn : fndA L x with
 | none =>
  refine ⟨{ w with heap := w.heap.setIfInBounds g (.map (es.push ⟨kv x, vv u, cl⟩) (cl + 1)) }, ?_, hS.turnM hi ?_⟩
  ·simp [Instr.mapUpdate, run_underlying hU.out, MapKept.run_getObj_map hh, MapKept.run_checkKey hk.out (KT.isKey x), hfk, hfn, MapKept.run_setObj_map _ hh, Result.andThen]
  ·rw [fndA_none hfn]
   simp only [Array.toList_push, List.map_append, hm, prV]
   rfl
 | some p =>
  obtain ⟨j, v⟩ := p
  obtain ⟨h1, h2⟩ := fndA_some hfn
  have hjl : j < L.length := (List.getElem?_eq_some_iff.1 h1).1
  have hel : es.toList.length = L.length := by have := congrArg List.length hm; simpa [prV] using this
  have hes : es.size = L.length := by simpa using hel
  have hje : j < es.size := by omega
  have hkey : es[j].key = kv x := by
   have := congrArg (fun l => l[j]?) hm
   simp [prV, h1, hje] at this
   exact this.1
  have hst := MapKept.run_keyThatStays (P := P) (w := w) (KT.isKey x)
  refine ⟨{ w with heap := w.heap.setIfInBounds g (.map (es.modify j fun e => { e with key := kv x, val := vv u }) cl) }, ?_, hS.turnM hi ?_⟩
  ·simp [Instr.mapUpdate, run_underlying hU.out, MapKept.run_getObj_map hh, MapKept.run_checkKey hk.out (KT.isKey x), hfk, hfn, MapKept.run_setObj_map _ hh, Result.andThen, hje, hkey, hst]
  ·rw [h2 u]
   apply List.ext_getElem?
   intro q
   have hq := congrArg (fun l => l[q]?) hm
   simp only [prV, List.getElem?_map, Array.getElem?_toList] at hq
   simp only [prV, List.getElem?_map, List.getElem?_set, Array.getElem?_toList, Array.getElem?_modify]
   by_cases e1 : j = q
   ·subst e1
    simp [hje, hjl]
   ·rw [if_neg e1, if_neg e1]
    exact hq
def updOf : Op → Option (TypeId × Operand × Operand × Operand)
 | .mapUpdate t m k x => some (t, m, k, x)
 | .insert t m k x => some (t, m, k, x)
 | _ => none
theorem Ops.upm {op : Op} {t kt et T : TypeId} {m k x : Operand} [hU : Und P t (.map kt et)] [Und P kt kd] (hop : updOf op = some (t, m, k, x)) (KT : KeyT kd kv) {g : Nat} {L : List (κ × ν)} (i : Nat) {a : κ} {u : ν} (hS : St w0 w ks) (hi : ks[i]? = some (CkM T g (prV kv vv L))) (hm : ev e m = .map (some g)) (hk : ev e k = kv a) (hx : ev e x = vv u) (hK : ∀ w', St w0 w' (ks.set i (CkM T g (prV kv vv (putA L a u)))) → Ops P N ops K rest e w') : Ops P N ops K (⟨none, op, ty, pos, af, none⟩ :: rest) e w := by
 obtain ⟨w', hrun, hS'⟩ := run_upd (P := P) (t := t) KT i a u hS hi
 refine .unit (w' := w') ?_ (hK _ hS')
 cases op <;> simp [updOf] at hop <;> obtain ⟨rfl, rfl, rfl, rfl⟩ := hop <;> simp [execOp, hm, hk, hx, hrun]
end
end Go.Proofs.YtopgfgdgfjddpaaGreatDoor.Vc
