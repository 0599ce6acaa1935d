/-
  The texts Po3, Po4, Po5, Po6, Po7, Pr4, Map in one. Conditions: as each part states them.
-/
import Derived.Test.YtopgfgdgfjddpaaGreatDoorZb
import Derived.Test.YtopgfgdgfjddpaaGreatDoorZe
import Derived.Test.YtopgfgdgfjddpaaGreatDoorZf
import Derived.Test.YtopgfgdgfjddpaaGreatDoorZa
import Derived.MapKept
import Derived.Carry
/-
 Plain mathematics: labels of the parts into which points that hang together fall; flags that hang together.
-/
namespace Go.Proofs.YtopgfgdgfjddpaaGreatDoor.Vc
/-! labels: a point has the least one of its part -/
structure Per (N : Nat) (K : Nat → Nat → Prop) : Prop where
 sym : ∀ a b, K a b → K b a
 trn : ∀ a b c, K a b → K b c → K a c
 rng : ∀ a b, K a b → a < N ∧ b < N
def LblP (N : Nat) (K : Nat → Nat → Prop) (f : Nat) (L : List Int) : Prop :=
 L.length = N ∧ ∀ x : Nat, x < N → (0 ≤ gi L (x : Int) → ∃ r : Nat, gi L (x : Int) = r ∧ r < f ∧ K r x ∧ ∀ c, K c x → r ≤ c) ∧ (gi L (x : Int) < 0 → gi L (x : Int) = -1 ∧ ∀ c, c < f → ¬ K c x)
theorem LblP.zero (N : Nat) (K : Nat → Nat → Prop) : LblP N K 0 (List.replicate N (-1)) :=
 ⟨by simp, fun x hx => by
  rw [gi_rep (by omega) (by omega)]
  exact ⟨fun h => absurd h (by omega), fun _ => ⟨O, fun c hc => absurd hc (by omega)⟩⟩⟩
theorem LblP.skip {N : Nat} {K : Nat → Nat → Prop} (hK : Per N K) {f : Nat} {L : List Int} (h : LblP N K f L) (hf : f < N) (h0 : 0 ≤ gi L (f : Int) ∨ ¬ K f f) : LblP N K (f + 1) L := by
 refine ⟨h.1, fun x hx => ⟨fun h1 => ?_, fun h1 => ?_⟩⟩
 ·obtain ⟨r, h2, h3, h4⟩ := (h.2 x hx).1 h1
  exact ⟨r, h2, by omega, h4⟩
 obtain ⟨h2, h3⟩ := (h.2 x hx).2 h1
 refine ⟨h2, fun c hc hk => ?_⟩
 by_cases e : c = f
 ·subst e
  rcases h0 with h0 | h0
  ·obtain ⟨r, h4, h5, h6, _⟩ := (h.2 c hf).1 h0
   exact h3 r h5 (hK.trn _ _ _ h6 hk)
  exact h0 (hK.trn _ _ _ hk (hK.sym _ _ hk))
 exact h3 c (by omega) hk
theorem LblP.paint {N : Nat} {K : Nat → Nat → Prop} (hK : Per N K) {f : Nat} {L L' : List Int} (h : LblP N K f L) (hf : f < N) (h0 : gi L (f : Int) < 0) (hl : L'.length = N) (hp : ∀ x : Nat, x < N → (K f x → gi L' (x : Int) = f) ∧ (¬ K f x → gi L' (x : Int) = gi L (x : Int))) : LblP N K (f + 1) L' := by
 refine ⟨hl, fun x hx => ?_⟩
 have h9 := (h.2 f hf).2 h0
 by_cases hk : K f x
 ·rw [(hp x hx).1 hk]
  refine ⟨fun _ => ⟨f, O, by omega, hk, fun c hc => ?_⟩, fun h => absurd h (by omega)⟩
  refine Nat.le_of_not_lt fun hlt => h9.2 c hlt (hK.trn _ _ _ hc (hK.sym _ _ hk))
 rw [(hp x hx).2 hk]
 refine ⟨fun h1 => ?_, fun h1 => ?_⟩
 ·obtain ⟨r, h2, h3, h4⟩ := (h.2 x hx).1 h1
  exact ⟨r, h2, by omega, h4⟩
 obtain ⟨h2, h3⟩ := (h.2 x hx).2 h1
 refine ⟨h2, fun c hc hk2 => ?_⟩
 by_cases e : c = f
 ·subst e; exact hk hk2
 exact h3 c (by omega) hk2
theorem LblP.done {N : Nat} {K : Nat → Nat → Prop} (hK : Per N K) {L : List Int} (h : LblP N K N L) {a b : Nat} (ha : K a a) (hb : K b b) : gi L (a : Int) = gi L (b : Int) ↔ K a b := by
 have get : ∀ x, K x x → ∃ r : Nat, gi L (x : Int) = r ∧ K r x ∧ ∀ c, K c x → r ≤ c := fun x hx => by
  have hxN := (hK.rng _ _ hx).1
  rcases Int.lt_or_le (gi L (x : Int)) 0 with h1 | h1
  ·exact absurd hx (((h.2 x hxN).2 h1).2 x hxN)
  obtain ⟨r, h2, _, h4, h5⟩ := (h.2 x hxN).1 h1
  exact ⟨r, h2, h4, h5⟩
 obtain ⟨r, h1, h2, h3⟩ := get a ha
 obtain ⟨s, h4, h5, h6⟩ := get b hb
 rw [h1, h4]
 constructor
 ·intro e
  obtain rfl : r = s := by omega
  exact hK.trn _ _ _ (hK.sym _ _ h2) h5
 intro hk
 have h7 := h3 s (hK.trn _ _ _ h5 (hK.sym _ _ hk))
 have h8 := h6 r (hK.trn _ _ _ h2 hk)
 omega
/-! flags -/
def AdjP (n : Nat) (fl : List (List Int)) (i a b : Nat) : Prop := a < fl.length ∧ b < fl.length ∧ ∀ k : Nat, k < n → k ≠ i → gi (gl fl (a : Int)) (k : Int) = gi (gl fl (b : Int)) (k : Int)
theorem AdjP.symm {n : Nat} {fl : List (List Int)} {i a b : Nat} (h : AdjP n fl i a b) : AdjP n fl i b a := ⟨h.2.1, h.1, fun k hk hne => (h.2.2 k hk hne).symm⟩
inductive LnkP (n : Nat) (fl : List (List Int)) (S : Nat → Prop) (a : Nat) : Nat → Prop where
 | refl : a < fl.length → LnkP n fl S a a
 | step {b c i : Nat} : LnkP n fl S a b → i < n → ¬ S i → AdjP n fl i b c → LnkP n fl S a c
theorem LnkP.trans {n : Nat} {fl : List (List Int)} {S : Nat → Prop} {a b c : Nat} (h : LnkP n fl S a b) (h' : LnkP n fl S b c) : LnkP n fl S a c := by
 induction h' with
 | refl => exact h
 | step _ hi hs ha ih => exact .step ih hi hs ha
theorem LnkP.rng {n : Nat} {fl : List (List Int)} {S : Nat → Prop} {a b : Nat} (h : LnkP n fl S a b) : a < fl.length ∧ b < fl.length := by
 induction h with
 | refl h => exact ⟨h, h⟩
 | step _ _ _ ha ih => exact ⟨ih.1, ha.2.1⟩
theorem LnkP.symm {n : Nat} {fl : List (List Int)} {S : Nat → Prop} {a b : Nat} (h : LnkP n fl S a b) : LnkP n fl S b a := by
 induction h with
 | refl h => exact .refl h
 | step h hi hs ha ih => exact (LnkP.step (.refl ha.2.1) hi hs ha.symm).trans ih
theorem LnkP.per (n : Nat) (fl : List (List Int)) (S : Nat → Prop) : Per fl.length (LnkP n fl S) := ⟨fun _ _ h => h.symm, fun _ _ _ h h' => h.trans h', fun _ _ h => h.rng⟩
theorem LnkP.keep {n : Nat} {fl : List (List Int)} {S : Nat → Prop} {a b : Nat} (h : LnkP n fl S a b) : ∀ k : Nat, k < n → S k → gi (gl fl (b : Int)) (k : Int) = gi (gl fl (a : Int)) (k : Int) := by
 induction h with
 | refl h => exact fun _ _ _ => rfl
 | step h hi hs ha ih =>
  intro k hk hS
  rw [← ha.2.2 k hk (fun e => hs (e ▸ hS)), ih k hk hS]
def ConP (n : Nat) (fl : List (List Int)) : Prop := ∀ a b : Nat, a < b → b < fl.length → LnkP n fl (fun k => gi (gl fl (a : Int)) (k : Int) = gi (gl fl (b : Int)) (k : Int)) a b
/-! a search -/
structure Srch (N : Nat) (K A : Nat → Nat → Prop) (f : Nat) (L0 L : List Int) (Q : List Nat) (k : Nat) : Prop where
 len : L.length = N
 in_ : ∀ x ∈ Q, x < N ∧ gi L0 (x : Int) < 0 ∧ K f x
 lab : ∀ x : Nat, x < N → gi L (x : Int) = if x ∈ Q then (f : Int) else gi L0 (x : Int)
 root : f ∈ Q
 kle : k ≤ Q.length
 done : ∀ p, p < k → ∀ y, A (Q.getD p 0) y → 0 ≤ gi L (y : Int)
 nd : Q.Nodup
theorem Srch.meet {N : Nat} {K A : Nat → Nat → Prop} {f : Nat} {L0 L : List Int} {Q : List Nat} {k : Nat} (h : Srch N K A f L0 L Q k) {y : Nat} (hy : y < N) (hl : gi L (y : Int) < 0) (hk : K f y) : Srch N K A f L0 (L.set y (f : Int)) (Q ++ [y]) k := by
 have hyQ : y ∉ Q := fun hm => by
  have := h.lab y hy
  rw [if_pos hm] at this; omega
 have e : ∀ x : Nat, x < N → gi (L.set y (f : Int)) (x : Int) = if x = y then (f : Int) else gi L (x : Int) := fun x hx => by
  have := gi_set (S := L) (x := (y : Int)) (y := (x : Int)) (b := (f : Int)) (by omega) (by rw [h.len]; omega) (by omega)
  rw [Int.toNat_natCast] at this
  rw [this]
  by_cases e : x = y
  ·subst e; simp
  rw [if_neg e, if_neg (by omega)]
 have hl0 : gi L0 (y : Int) < 0 := by
  have := h.lab y hy
  rw [if_neg hyQ] at this; omega
 refine ⟨by rw [List.length_set]; exact h.len, fun x hx => ?_, fun x hx => ?_, List.mem_append_left _ h.root, by rw [List.length_append]; have := h.kle; omega, fun p hp z hz => ?_, List.nodup_append.2 ⟨h.nd, by simp, fun a ha b hb e => hyQ (by rw [← List.mem_singleton.1 hb, ← e]; exact ha)⟩⟩
 ·rcases List.mem_append.1 hx with hx | hx
  ·exact h.in_ x hx
  obtain rfl := List.mem_singleton.1 hx
  exact ⟨hy, hl0, hk⟩
 ·rw [e x hx]
  by_cases ex : x = y
  ·subst ex; simp
  rw [if_neg ex, h.lab x hx]
  simp [ex]
 have hk := h.kle
 rw [List.getD_eq_getElem?_getD, List.getElem?_append_left (by omega), ← List.getD_eq_getElem?_getD] at hz
 have h2 := h.done p hp z hz
 by_cases hzN : z < N
 ·rw [e z hzN]
  split <;> omega
 have : gi L (z : Int) = gi (L.set y (f : Int)) (z : Int) := by
  simp [gi, List.getD_eq_getElem?_getD, List.getElem?_eq_none (show L.length ≤ z by rw [h.len]; omega), List.getElem?_eq_none (show (L.set y (f : Int)).length ≤ z by rw [List.length_set, h.len]; omega)]
 omega
theorem Srch.next {N : Nat} {K A : Nat → Nat → Prop} {f : Nat} {L0 L : List Int} {Q : List Nat} {k : Nat} (h : Srch N K A f L0 L Q k) (hk : k < Q.length) (hd : ∀ y, A (Q.getD k 0) y → 0 ≤ gi L (y : Int)) : Srch N K A f L0 L Q (k + 1) :=
 ⟨h.len, h.in_, h.lab, h.root, hk, fun p hp y hy => by
  by_cases e : p = k
  ·subst e; exact hd y hy
  exact h.done p (by omega) y hy, h.nd⟩
theorem Srch.qlen {N : Nat} {K A : Nat → Nat → Prop} {f : Nat} {L0 L : List Int} {Q : List Nat} {k : Nat} (h : Srch N K A f L0 L Q k) : Q.length ≤ N := nodup_le N Q h.nd fun x hx => (h.in_ x hx).1
theorem Srch.start {N : Nat} {K A : Nat → Nat → Prop} {f : Nat} {L0 : List Int} (hl : L0.length = N) (hf : f < N) (h0 : gi L0 (f : Int) < 0) (hk : K f f) : Srch N K A f L0 (L0.set f (f : Int)) [f] 0 := by
 refine ⟨by simp [hl], fun x hx => ?_, fun x hx => ?_, by simp, Nat.zero_le _, fun p hp => absurd hp (by omega), by simp⟩
 ·obtain rfl := List.mem_singleton.1 hx
  exact ⟨hf, h0, hk⟩
 have := gi_set (S := L0) (x := (f : Int)) (y := (x : Int)) (b := (f : Int)) (by omega) (by rw [hl]; omega) (by omega)
 rw [Int.toNat_natCast] at this
 rw [this]
 by_cases e : x = f
 ·subst e; simp
 rw [if_neg (by omega), if_neg (by simpa using e)]
theorem Srch.end_ {N : Nat} {K A : Nat → Nat → Prop} (hK : Per N K) {f : Nat} {L0 L : List Int} {Q : List Nat} (h : Srch N K A f L0 L Q Q.length) (hL : LblP N K f L0) (hf : f < N) (h0 : gi L0 (f : Int) < 0) (hA : ∀ S : Nat → Prop, S f → (∀ x y, S x → K f x → A x y → S y) → ∀ x, K f x → S x) (hAK : ∀ x y, A x y → K x y) : LblP N K (f + 1) L := by
 have hQ : ∀ x, K f x → x ∈ Q := hA (fun x => x ∈ Q) h.root fun x y hx hkx ha => by
  obtain ⟨p, hp, e⟩ := List.mem_iff_getElem.1 hx
  have e2 : Q.getD p 0 = x := by rw [List.getD_eq_getElem?_getD, List.getElem?_eq_getElem hp]; exact e
  have h1 := h.done p hp y (by rw [e2]; exact ha)
  have hk := hAK x y ha
  have hyN := (hK.rng _ _ hk).2
  refine Classical.byContradiction fun hn => ?_
  have h2 := h.lab y hyN
  rw [if_neg hn] at h2
  obtain ⟨r, _, h3, h4, _⟩ := (hL.2 y hyN).1 (by omega)
  exact ((hL.2 f hf).2 h0).2 r h3 (hK.trn _ _ _ (hK.trn _ _ _ h4 (hK.sym _ _ hk)) (hK.sym _ _ hkx))
 refine hL.paint hK hf h0 h.len fun x hx => ⟨fun hk => ?_, fun hk => ?_⟩
 ·rw [h.lab x hx, if_pos (hQ x hk)]
 rw [h.lab x hx, if_neg fun hm => hk (h.in_ x hm).2.2]
/-
 Plain mathematics of posets: products of bounded graded posets have diamonds.
-/
structure Lat (m : Nat) (n : Int) (rk : Int → Int) (und : Int → Int → Prop) : Prop where
 two : 2 ≤ m
 r0 : rk 0 = -1
 rt : rk ((m : Int) - 1) = n
 ri : ∀ a : Int, 0 < a → a < (m : Int) - 1 → 0 ≤ rk a ∧ rk a ≤ n - 1
 refl : ∀ a, und a a
 trans : ∀ a b c : Int, 0 ≤ a ∧ a < m → 0 ≤ b ∧ b < m → 0 ≤ c ∧ c < m → und a b → und b c → und a c
 strict : ∀ a b : Int, 0 ≤ a ∧ a < m → 0 ≤ b ∧ b < m → und a b → a ≠ b → rk a < rk b
 bot : ∀ b, und 0 b
 top : ∀ a, und a ((m : Int) - 1)
 n0 : 0 ≤ n
theorem Lat.rng {m : Nat} {n : Int} {rk : Int → Int} {und : Int → Int → Prop} (h : Lat m n rk und) {a : Int} (ha : 0 ≤ a ∧ a < m) : -1 ≤ rk a ∧ rk a ≤ n := by
 have h0 := h.r0
 have ht := h.rt
 have hn := h.n0
 by_cases e : a = 0
 ·subst e; omega
 by_cases e2 : a = (m : Int) - 1
 ·subst e2; omega
 have := h.ri a (by omega) (by omega)
 omega
theorem Lat.zero {m : Nat} {n : Int} {rk : Int → Int} {und : Int → Int → Prop} (h : Lat m n rk und) {a : Int} (ha : 0 ≤ a ∧ a < m) (hr : rk a = -1) : a = 0 := by
 have ht := h.rt
 have hn := h.n0
 refine Classical.byContradiction fun e => ?_
 by_cases e2 : a = (m : Int) - 1
 ·subst e2; omega
 have := h.ri a (by omega) (by omega)
 omega
theorem Lat.whole {m : Nat} {n : Int} {rk : Int → Int} {und : Int → Int → Prop} (h : Lat m n rk und) {a : Int} (ha : 0 ≤ a ∧ a < m) (hr : rk a = n) : a = (m : Int) - 1 := by
 have h0 := h.r0
 have hn := h.n0
 refine Classical.byContradiction fun e => ?_
 by_cases e2 : a = 0
 ·subst e2; omega
 have := h.ri a (by omega) (by omega)
 omega
section
variable {m1 m2 : Nat} {n1 n2 : Int} {rk1 rk2 : Int → Int} {und1 und2 : Int → Int → Prop}
def ExcP (m1 m2 : Nat) (kind : Int) (c : Int × Int) : Prop := (kind = 1 ∧ (c.1 = 0 ∨ c.2 = 0)) ∨ (kind = 2 ∧ (c.1 = (m1 : Int) - 1 ∨ c.2 = (m2 : Int) - 1))
instance (m1 m2 : Nat) (kind : Int) (c : Int × Int) : Decidable (ExcP m1 m2 kind c) := by unfold ExcP; infer_instance
def shP (kind : Int) : Int := if kind = 1 then 0 else 1
def rkP (rk1 rk2 : Int → Int) (kind : Int) (c : Int × Int) : Int := rk1 c.1 + rk2 c.2 + shP kind
def rnP (n1 n2 kind : Int) : Int := if kind = 0 then n1 + n2 + 1 else n1 + n2
def ElP (m1 m2 : Nat) (rk1 rk2 : Int → Int) (kind : Int) (i : Int) (c : Int × Int) : Prop := (0 ≤ c.1 ∧ c.1 < m1) ∧ (0 ≤ c.2 ∧ c.2 < m2) ∧ rkP rk1 rk2 kind c = i ∧ ¬ ExcP m1 m2 kind c
end
/-
 Plain mathematics of posets: products, as rows of pairs; they are posets and have diamonds.
-/
/-! all faces of a poset -/
def fcR (n : Int) (R : List Int) : List Int := -1 :: (R ++ [n])
def UndP (N : Nat) (B : List (List Int)) (a b : Int) : Prop := a = b ∨ a = 0 ∨ b = (N : Int) + 1 ∨ (0 < a ∧ a < (N : Int) + 1 ∧ 0 < b ∧ b < (N : Int) + 1 ∧ a - 1 ∈ gl B (b - 1))
instance (N : Nat) (B : List (List Int)) (a b : Int) : Decidable (UndP N B a b) := by unfold UndP; infer_instance
theorem fcR_len (n : Int) (R : List Int) : (fcR n R).length = R.length + 2 := by simp [fcR]
theorem fcR_mid (n : Int) (R : List Int) {a : Int} (h0 : 0 < a) (h1 : a < (R.length : Int) + 1) : gi (fcR n R) a = gi R (a - 1) := by
 obtain ⟨k, rfl⟩ : ∃ k : Nat, a = ((k + 1 : Nat) : Int) := ⟨(a - 1).toNat, by omega⟩
 rw [fcR, gi_cn1, show ((k + 1 : Nat) : Int) - 1 = (k : Int) by omega]
 simp only [gi, Int.toNat_natCast, List.getD_eq_getElem?_getD]
 rw [List.getElem?_append_left (by omega)]
theorem fcR_top (n : Int) (R : List Int) : gi (fcR n R) ((R.length : Int) + 1) = n := by
 rw [show ((R.length : Int) + 1) = ((R.length + 1 : Nat) : Int) by omega, fcR, gi_cn1]
 simp [gi, List.getD_eq_getElem?_getD]
theorem lat_of {n : Int} {R : List Int} {B : List (List Int)} (h : PosP n R B) : Lat (R.length + 2) n (gi (fcR n R)) (UndP R.length B) := by
 have hn := h.n1
 have ht := fcR_top n R
 have et : ((R.length + 2 : Nat) : Int) - 1 = (R.length : Int) + 1 := by omega
 have hmid : ∀ a : Int, 0 < a → a < (R.length : Int) + 1 → 0 ≤ gi (fcR n R) a ∧ gi (fcR n R) a ≤ n - 1 := fun a h0 h1 => by
  rw [fcR_mid n R h0 h1]
  exact h.ri (by omega) (by omega)
 have h0 : gi (fcR n R) 0 = -1 := O
 refine ⟨by omega, h0, by rw [et]; exact ht, fun a ha hb => hmid a ha (by omega), fun a => .inl O, fun a b c ha hb hc hab hbc => ?_, fun a b ha hb hab hne => ?_, fun b => .inr (.inl O), fun a => .inr (.inr (.inl et)), by omega⟩
 ·rcases hab with rfl | e | e | ⟨a0, a1, b0, b1, hm⟩
  ·exact hbc
  ·exact .inr (.inl e)
  ·rcases hbc with rfl | e2 | e2 | ⟨b0, b1, _⟩
   ·exact .inr (.inr (.inl e))
   ·omega
   ·exact .inr (.inr (.inl e2))
   omega
  rcases hbc with rfl | e2 | e2 | ⟨_, _, c0, c1, hm2⟩
  ·exact .inr (.inr (.inr ⟨a0, a1, b0, b1, hm⟩))
  ·omega
  ·exact .inr (.inr (.inl e2))
  exact .inr (.inr (.inr ⟨a0, a1, c0, c1, (h.at_ (e := c - 1) (by omega) (by omega)).2.2 _ hm2 _ hm⟩))
 rcases hab with e | e | e | ⟨a0, a1, b0, b1, hm⟩
 ·exact absurd e hne
 ·subst e
  rw [h0]
  by_cases e2 : b = (R.length : Int) + 1
  ·subst e2; omega
  have := hmid b (by omega) (by omega); omega
 ·subst e
  rw [ht]
  by_cases e2 : a = 0
  ·subst e2; omega
  have := hmid a (by omega) (by omega); omega
 rw [fcR_mid n R a0 a1, fcR_mid n R b0 b1]
 exact ((h.at_ (e := b - 1) (by omega) (by omega)).2.1 _ hm).2
/-! diamonds -/
def LoP (R : List Int) (i e : Int) : Prop := (e = -1 ∧ i = 0) ∨ ((0 ≤ e ∧ e < R.length) ∧ 0 < i ∧ gi R e = i - 1)
def HiP (n : Int) (R : List Int) (i f : Int) : Prop := (f = -1 ∧ i = n - 1) ∨ ((0 ≤ f ∧ f < R.length) ∧ i < n - 1 ∧ gi R f = i + 1)
def MidP (R : List Int) (B : List (List Int)) (i e f : Int) : List Int := (rngI R.length).filter fun d => decide (gi R d = i ∧ (e < 0 ∨ e ∈ gl B d) ∧ (f < 0 ∨ d ∈ gl B f))
def DiaP (n : Int) (R : List Int) (B : List (List Int)) : Prop := ∀ i e f : Int, 0 ≤ i → i < n → LoP R i e → HiP n R i f → (0 ≤ e → 0 ≤ f → e ∈ gl B f) → (MidP R B i e f).length = 2
/-! the rows of a product -/
section
variable (m1 m2 : Nat) (rk1 rk2 : Int → Int) (kind : Int)
def prR1 (i : Int) : List (Int × Int) := (rngI m1).flatMap fun a => ((rngI m2).filter fun b => decide (rkP rk1 rk2 kind (a, b) = i ∧ ¬ ExcP m1 m2 kind (a, b))).map fun b => (a, b)
def prL : Nat → List (Int × Int)
 | 0 => []
 | k + 1 => prL k ++ prR1 m1 m2 rk1 rk2 kind (k : Int)
end
section
variable {m1 m2 : Nat} {rk1 rk2 : Int → Int} {kind : Int}
theorem prR1_mem {i : Int} {c : Int × Int} : c ∈ prR1 m1 m2 rk1 rk2 kind i ↔ ElP m1 m2 rk1 rk2 kind i c := by
 unfold prR1 ElP
 rw [List.mem_flatMap]
 constructor
 ·rintro ⟨a, ha, h⟩
  obtain ⟨b, hb, rfl⟩ := List.mem_map.1 h
  rw [List.mem_filter, rngI_mem, decide_eq_true_eq] at hb
  exact ⟨(rngI_mem _ _).1 ha, hb.1, hb.2⟩
 rintro ⟨h1, h2, h3⟩
 exact ⟨c.1, (rngI_mem _ _).2 h1, List.mem_map.2 ⟨c.2, List.mem_filter.2 ⟨(rngI_mem _ _).2 h2, decide_eq_true h3⟩, O⟩⟩
theorem prR1_nodup (i : Int) : (prR1 m1 m2 rk1 rk2 kind i).Nodup := by
 unfold prR1
 refine List.pairwise_flatMap.2 ⟨fun a _ => List.pairwise_map.2 (((rngI_SA m2).nodup.filter _).imp fun h e => h (congrArg Prod.snd e)), (rngI_SA m1).nodup.imp fun h x hx y hy e => h ?_⟩
 obtain ⟨u, _, rfl⟩ := List.mem_map.1 hx
 obtain ⟨v, _, rfl⟩ := List.mem_map.1 hy
 exact congrArg Prod.fst e
theorem prL_mem {k : Nat} {c : Int × Int} : c ∈ prL m1 m2 rk1 rk2 kind k ↔ ∃ i : Nat, i < k ∧ ElP m1 m2 rk1 rk2 kind i c := by
 induction k with
 | zero => simp [prL]
 | succ k ih =>
  rw [prL, List.mem_append, ih, prR1_mem]
  constructor
  ·rintro (⟨i, hi, h⟩ | h)
   ·exact ⟨i, by omega, h⟩
   ·exact ⟨k, by omega, h⟩
  ·rintro ⟨i, hi, h⟩
   by_cases e : i = k
   ·subst e; exact .inr h
   ·exact .inl ⟨i, by omega, h⟩
theorem prL_nodup (k : Nat) : (prL m1 m2 rk1 rk2 kind k).Nodup := by
 induction k with
 | zero => exact List.nodup_nil
 | succ k ih =>
  rw [prL, List.nodup_append]
  refine ⟨ih, prR1_nodup _, fun a ha b hb e => ?_⟩
  subst e
  obtain ⟨i, hi, h⟩ := prL_mem.1 ha
  have h2 := prR1_mem.1 hb
  have := h.2.2.1.symm.trans h2.2.2.1
  omega
end
def gp (L : List (Int × Int)) (i : Int) : Int × Int := L.getD i.toNat (0, 0)
theorem gp_mem {L : List (Int × Int)} {k : Nat} (h : k < L.length) : gp L (k : Int) = L[k] := by simp [gp, List.getD_eq_getElem?_getD, h]
def prBe (und1 und2 : Int → Int → Prop) [DecidableRel und1] [DecidableRel und2] (L : List (Int × Int)) (e : Int) : List Int := (rngI L.length).filter fun f => decide (f < e ∧ und1 (gp L f).1 (gp L e).1 ∧ und2 (gp L f).2 (gp L e).2)
def prB (und1 und2 : Int → Int → Prop) [DecidableRel und1] [DecidableRel und2] (L : List (Int × Int)) : List (List Int) := (rngI L.length).map (prBe und1 und2 L)
section
variable {m1 m2 : Nat} {n1 n2 : Int} {rk1 rk2 : Int → Int} {und1 und2 : Int → Int → Prop} [DecidableRel und1] [DecidableRel und2] {kind : Int}
end
/-
 Plain mathematics of posets: in a poset with diamonds each flag has one neighbour for each rank; the maniplex of the flags.
-/
theorem list_gi {n : Nat} {x y : List Int} (hx : x.length = n) (hy : y.length = n) (h : ∀ i : Nat, i < n → gi x (i : Int) = gi y (i : Int)) : x = y :=
 List.ext_getElem (by omega) fun i h1 h2 => by
  have := h i (by omega)
  rwa [gi_mem h1, gi_mem h2] at this
/-! the maniplex of flags -/
open Classical in
noncomputable def nbsP (n : Nat) (fl : List (List Int)) (i : Nat) (a : Nat) : List Int := ((List.range fl.length).filter fun b => decide (AdjP n fl i a b ∧ b ≠ a)).map fun b : Nat => (b : Int)
/-
 Plain mathematics of posets: what makes a polytope; the program's way to part flags.
-/
def PurP (n : Nat) (R : List Int) (B : List (List Int)) : Prop := ∀ e : Int, 0 ≤ e → e < R.length → ∃ x ∈ flgP n R B, e ∈ x
def PlyP (n : Nat) (R : List Int) (B : List (List Int)) : Prop := flgP n R B ≠ [] ∧ PurP n R B ∧ DiaP n R B ∧ ConP n (flgP n R B)
/-! what two flags have in common -/
def cmnP (a b : List Int) : List Int := (List.range a.length).map fun k : Nat => if gi a (k : Int) = gi b (k : Int) then gi a (k : Int) else -1
theorem cmnP_len (a b : List Int) : (cmnP a b).length = a.length := by simp [cmnP]
theorem cmnP_at {a b : List Int} {k : Nat} (h : k < a.length) : gi (cmnP a b) (k : Int) = if gi a (k : Int) = gi b (k : Int) then gi a (k : Int) else -1 := by
 rw [gi_mem (by rw [cmnP_len]; exact h)]
 simp [cmnP]
def HasP (n : Nat) (c x : List Int) : Prop := ∀ k : Nat, k < n → gi c (k : Int) ≠ -1 → gi c (k : Int) = gi x (k : Int)
instance (n : Nat) (c x : List Int) : Decidable (HasP n c x) := by unfold HasP; infer_instance
def LkH (n : Nat) (fl : List (List Int)) (c : List Int) (a b : Nat) : Prop := HasP n c (gl fl (a : Int)) ∧ LnkP n fl (fun k => gi c (k : Int) ≠ -1) a b
theorem HasP.of {n : Nat} {fl : List (List Int)} {c : List Int} {a b : Nat} (h : HasP n c (gl fl (a : Int))) (h' : LnkP n fl (fun k => gi c (k : Int) ≠ -1) a b) : HasP n c (gl fl (b : Int)) := fun k hk hne => by
 rw [h'.keep k hk hne]; exact h k hk hne
theorem LkH.per (n : Nat) (fl : List (List Int)) (c : List Int) : Per fl.length (LkH n fl c) :=
 ⟨fun _ _ h => ⟨h.1.of h.2, h.2.symm⟩, fun _ _ _ h h' => ⟨h.1, h.2.trans h'.2⟩, fun _ _ h => h.2.rng⟩
theorem cmn_link {n : Nat} {fl : List (List Int)} (hl : ∀ x ∈ fl, x.length = n ∧ ∀ e ∈ x, 0 ≤ e) {a b : Nat} (ha : a < fl.length) (hb : b < fl.length) :
  LkH n fl (cmnP (gl fl (a : Int)) (gl fl (b : Int))) a a ∧ LkH n fl (cmnP (gl fl (a : Int)) (gl fl (b : Int))) b b ∧ (LkH n fl (cmnP (gl fl (a : Int)) (gl fl (b : Int))) a b ↔ LnkP n fl (fun k => gi (gl fl (a : Int)) (k : Int) = gi (gl fl (b : Int)) (k : Int)) a b) := by
 have hxa := hl _ (by rw [gl_mem ha]; exact List.getElem_mem _ : gl fl (a : Int) ∈ fl)
 have hne : ∀ k : Nat, k < n → (gi (cmnP (gl fl (a : Int)) (gl fl (b : Int))) (k : Int) ≠ -1 ↔ gi (gl fl (a : Int)) (k : Int) = gi (gl fl (b : Int)) (k : Int)) := fun k hk => by
  rw [cmnP_at (by omega)]
  have := hxa.2 _ (gi_in (show k < (gl fl (a : Int)).length by omega))
  split
  ·exact ⟨fun _ => by assumption, fun _ => by omega⟩
  ·rename_i h; exact ⟨fun h' => absurd rfl h', fun h' => absurd h' h⟩
 have h1 : HasP n (cmnP (gl fl (a : Int)) (gl fl (b : Int))) (gl fl (a : Int)) := fun k hk h => by
  have := (hne k hk).1 h
  rw [cmnP_at (by omega), if_pos this]
 have h2 : HasP n (cmnP (gl fl (a : Int)) (gl fl (b : Int))) (gl fl (b : Int)) := fun k hk h => by
  have := (hne k hk).1 h
  rw [cmnP_at (by omega), if_pos this, this]
 have cv : ∀ {S S' : Nat → Prop}, (∀ k, k < n → (S k ↔ S' k)) → ∀ {u v}, LnkP n fl S u v → LnkP n fl S' u v := fun {S S'} hS {u v} h => by
  induction h with
  | refl h => exact .refl h
  | step _ hi hs had ih => exact .step ih hi (fun h => hs ((hS _ hi).2 h)) had
 exact ⟨⟨h1, .refl ha⟩, ⟨h2, .refl hb⟩, fun h => cv hne h.2, fun h => ⟨h1, cv (fun k hk => (hne k hk).symm) h⟩⟩
def AdH (n : Nat) (fl : List (List Int)) (c : List Int) (x y : Nat) : Prop := HasP n c (gl fl (x : Int)) ∧ HasP n c (gl fl (y : Int)) ∧ ∃ i, i < n ∧ AdjP n fl i x y
theorem flg_same {n : Nat} {fl : List (List Int)} (hn : fl.Nodup) (hl : ∀ x ∈ fl, x.length = n) {x y : Nat} (hx : x < fl.length) (hy : y < fl.length) (h : ∀ k : Nat, k < n → gi (gl fl (x : Int)) (k : Int) = gi (gl fl (y : Int)) (k : Int)) : x = y := by
 have e : gl fl (x : Int) = gl fl (y : Int) := list_gi (hl _ (by rw [gl_mem hx]; exact List.getElem_mem _)) (hl _ (by rw [gl_mem hy]; exact List.getElem_mem _)) h
 rw [gl_mem hx, gl_mem hy] at e
 exact (List.getElem_inj hn).1 e
theorem AdH.link {n : Nat} {fl : List (List Int)} (hn : fl.Nodup) (hl : ∀ x ∈ fl, x.length = n) {c : List Int} {x y : Nat} (h : AdH n fl c x y) : LkH n fl c x y := by
 obtain ⟨h1, h2, i, hi, ha⟩ := h
 refine ⟨h1, ?_⟩
 by_cases hc : gi c (i : Int) ≠ -1
 ·have : x = y := flg_same hn hl ha.1 ha.2.1 fun k hk => by
   by_cases e : k = i
   ·subst e; rw [← h1 k hk hc, h2 k hk hc]
   exact ha.2.2 k hk e
  subst this
  exact .refl ha.1
 exact .step (.refl ha.1) hi hc ha
theorem LkH.ind {n : Nat} {fl : List (List Int)} {c : List Int} {f : Nat} (S : Nat → Prop) (hf : S f) (hs : ∀ x y, S x → LkH n fl c f x → AdH n fl c x y → S y) : ∀ x, LkH n fl c f x → S x := fun x h => by
 obtain ⟨h1, h2⟩ := h
 induction h2 with
 | refl _ => exact hf
 | step h hi hS ha ih => exact hs _ _ ih ⟨h1, h⟩ ⟨h1.of h, h1.of (.step h hi hS ha), _, hi, ha⟩
def AdS (n : Nat) (fl : List (List Int)) (S : Nat → Prop) (x y : Nat) : Prop := ∃ i, i < n ∧ ¬ S i ∧ AdjP n fl i x y ∧ y ≠ x
theorem LnkP.ind {n : Nat} {fl : List (List Int)} {S : Nat → Prop} {f : Nat} (T : Nat → Prop) (hf : T f) (hs : ∀ x y, T x → LnkP n fl S f x → AdS n fl S x y → T y) : ∀ x, LnkP n fl S f x → T x := fun x h => by
 induction h with
 | refl _ => exact hf
 | step h hi hS ha ih =>
  rename_i b c i
  by_cases e : c = b
  ·rw [e]; exact ih
  ·exact hs _ _ ih h ⟨_, hi, hS, ha, e⟩
theorem AdS.link {n : Nat} {fl : List (List Int)} {S : Nat → Prop} {x y : Nat} (h : AdS n fl S x y) : LnkP n fl S x y := by
 obtain ⟨i, hi, hS, ha, _⟩ := h
 exact .step (.refl ha.1) hi hS ha
end Go.Proofs.YtopgfgdgfjddpaaGreatDoor.Vc
/-
 The program's tests of posets: pure, diamonds; what flags have in common.
-/
namespace Go.Proofs.YtopgfgdgfjddpaaGreatDoor.Vc
open Go.RowKit
def AnsI (L : List Int) (w : World) (v : Value) (w' : World) : Prop := ∃ A' c', v = .slice A' L.length c' ∧ St w w' [CkI 2 A' L.length c' L]
theorem take_snoc {xs : List Int} {j : Nat} (h : j < xs.length) : xs.take (j + 1) = xs.take j ++ [gi xs (j : Int)] := by
 rw [List.take_succ_eq_append_getElem h, gi_mem h]
theorem isPure_c (n : Int) (A D : Option Addr) (cA N m cD : Nat) (Af : Option Addr) (nf cf : Nat) (rs : List SlV) (fl : List (List Int)) (w : World) (hF : RowsI w Af nf rs fl) (hN : N ≤ 500) (hr : ∀ l ∈ fl, l.length ≤ 1000 ∧ ∀ x ∈ l, 0 ≤ x ∧ x < (N : Int)) (hnf : nf ≤ 100000) :
  Ret Tryz.prog 87 [.agg #[.int .i64 n, .slice A N cA, .slice D m cD], .slice Af nf cf] w (fun v w' => ∃ b : Bool, v = .bool b ∧ (b = true ↔ ∀ x : Int, 0 ≤ x → x < (N : Int) → ∃ l ∈ fl, x ∈ l) ∧ St w w' []) := by
 have hfl := hF.len
 refine Ret.of_cd Tryz.func87 O Tryz.ntmps87 O (post1 O) (Gbo O (Ops.box3T (St.refl w) O O ?_))
 intro A1 w1 hS1
 have h1 : Rd w1 A1 3 (fun j => [Value.int .i64 n, .slice A N cA, .slice D m cD].getD j undef) := hS1.rd 0 O
 refine Gdo O (Ops.fld h1 O O O O inferInstance ?_)
 skip
 refine Ops.ldf_s h1 O O O O O (Ops.len O O (Ops.mkB (v := false) N hS1 O O (by omega) ?_))
 intro A5 w2 hS2
 have hS2 : St w w2 [CkB 4 A5 N N (pnt (mk0 N) (fl.take 0).flatten), poB A1 n A N cA D m cD] := hS2
 refine Gdo O (Ops.len O O (Gdc O ?_))
 refine Cd.loop (α := Nat) (fun i => [(2, .pointer A1), (5, .slice A5 N N), (14, .slice Af nf cf), (15, .int .i64 (nf : Int)), (16, .int .i64 (i : Int))]) (fun i w' => i ≤ nf ∧ St w w' [CkB 4 A5 N N (pnt (mk0 N) (fl.take i).flatten), poB A1 n A N cA D m cD]) (fun i => nf - i) 0 ⟨O, O, O, O, O, trivial⟩ ⟨Nat.zero_le _, hS2⟩ ?_
 clear hS2 hS1 h1
 rintro i e w3 ⟨hi, hS⟩
 refine Gbc O ?_
 refine Cd.cond_p _ O (fun h2 => ?_) (fun h2 => ?_)
 ·have hiF : i < fl.length := by omega
  have hM := hS.oldRows hF
  have hro := hM.at_ (i := (i : Int)) (by omega) (by omega)
  have hrn := hro.1
  have hmem : gl fl (i : Int) ∈ fl := by rw [gl_mem hiF]; exact List.getElem_mem _
  have hri := hr _ hmem
  refine Gao O (Ops.idx hM.top.2 O O O (by omega) (by omega) (Ops.ld_sl hM.top O (by omega) O O ?_))
  refine Gdo O (Ops.len O O (Gdc O ?_))
  refine Cd.loop (α := Nat) (fun j => [(2, .pointer A1), (5, .slice A5 N N), (14, .slice Af nf cf), (15, .int .i64 (nf : Int)), (16, .int .i64 (i : Int)), (20, .slice (rg rs (i : Int)).a (rg rs (i : Int)).n (rg rs (i : Int)).c), (21, .int .i64 ((rg rs (i : Int)).n : Int)), (22, .int .i64 (j : Int))]) (fun j w' => j ≤ (rg rs (i : Int)).n ∧ St w w' [CkB 4 A5 N N (pnt (mk0 N) ((fl.take i).flatten ++ (gl fl (i : Int)).take j)), poB A1 n A N cA D m cD]) (fun j => (rg rs (i : Int)).n - j) 0 ⟨O, O, O, O, O, O, O, O, trivial⟩ ⟨Nat.zero_le _, by rw [List.take_zero, List.append_nil]; exact hS⟩ ?_
  clear hro hM hS
  rintro j e w4 ⟨hj, hS⟩
  refine Gbc O ?_
  refine Cd.cond_p _ O (fun h3 => ?_) (fun h3 => ?_)
  ·have hjl : j < (gl fl (i : Int)).length := by omega
   have hro := (hS.oldRows hF).at_ (i := (i : Int)) (by omega) (by omega)
   have hx := hri.2 _ (gi_in hjl)
   have hpl := pnt0_len N ((fl.take i).flatten ++ (gl fl (i : Int)).take j)
   refine Gao O (Ops.idx hro.2 O O O (by omega) (by omega) (Ops.ld_int hro O (by omega) O O (Gdo O (Ops.idx (hS.rdB 0 O).2 O O O (by omega) (by omega) ?_))))
   skip
   refine Ops.st_bool 0 hS O O O (by omega) ?_
   intro w5 hS5
   have hS5 : St w w5 [CkB 4 A5 N N (pnt (mk0 N) ((fl.take i).flatten ++ (gl fl (i : Int)).take (j + 1))), poB A1 n A N cA D m cD] := by
    rw [take_snoc hjl, ← List.append_assoc, pnt_snoc]; exact hS5
   refine Gdo O (Ops.add O O O (by omega) (Gdn O (tQ ?_)))
   exact ⟨j + 1, by show (rg rs (i : Int)).n - (j + 1) < (rg rs (i : Int)).n - j; omega, ⟨O, O, O, O, O, O, O, O, trivial⟩, by omega, hS5⟩
  rw [show (gl fl (i : Int)).take j = gl fl (i : Int) from List.take_of_length_le (by omega)] at hS
  refine Gax O (thenQ_x (Gfo O (Ops.add O O O (by omega) (Gdn O (tQ ?_)))))
  refine ⟨i + 1, by show nf - (i + 1) < nf - i; omega, ⟨O, O, O, O, O, trivial⟩, by omega, ?_⟩
  rw [List.take_succ_eq_append_getElem hiF, List.flatten_append, ← gl_mem hiF]
  simpa using hS
 have hin : i = fl.length := by omega
 rw [hin, List.take_length] at hS
 have hnof := no_false (m := N) (F := fl) (fun l hl => (hr l hl).2)
 refine Gax O (thenQ_x (Gfo O ?_))
 refine Ops.call (ContainsB_c A5 N N _ false _ (hS.rdB 0 O) (by omega)) O O O ?_
 rintro _ _ ⟨rfl, rfl⟩
 first | refine Ops.not_p rfl rfl ?_ | refine Ops.not rfl rfl ?_
 refine Gdr O (ret1_b O ?_)
 refine ⟨_, O, ?_, hS.none⟩
 rw [← hnof]
 simp
def cmnT (a b : List Int) (i : Nat) : List Int := (List.range a.length).map fun k : Nat => if i ≤ k ∨ gi a (k : Int) = gi b (k : Int) then gi a (k : Int) else -1
theorem cmnT_len (a b : List Int) (i : Nat) : (cmnT a b i).length = a.length := by simp [cmnT]
theorem cmnT_at {a b : List Int} {i k : Nat} (h : k < a.length) : gi (cmnT a b i) (k : Int) = if i ≤ k ∨ gi a (k : Int) = gi b (k : Int) then gi a (k : Int) else -1 := by
 rw [gi_mem (by rw [cmnT_len]; exact h)]
 simp [cmnT]
theorem cmnT_0 (a b : List Int) : cmnT a b 0 = a := by
 apply List.ext_getElem (cmnT_len ..)
 intro k h1 h2
 rw [← gi_mem h1, ← gi_mem h2, cmnT_at h2, if_pos (.inl (Nat.zero_le _))]
theorem cmnT_all (a b : List Int) : cmnT a b a.length = cmnP a b := by
 apply List.ext_getElem (by rw [cmnT_len, cmnP_len])
 intro k h1 h2
 have h3 : k < a.length := by rw [cmnT_len] at h1; exact h1
 rw [← gi_mem h1, ← gi_mem h2, cmnT_at h3, cmnP_at h3]
 by_cases c : gi a (k : Int) = gi b (k : Int)
 ·rw [if_pos (.inr c), if_pos c]
 rw [if_neg (by omega), if_neg c]
theorem cmnT_next {a b : List Int} {i : Nat} : cmnT a b (i + 1) = if gi a (i : Int) = gi b (i : Int) then cmnT a b i else (cmnT a b i).set i (-1) := by
  by_cases c : gi a (i : Int) = gi b (i : Int)
  · rw [if_pos c]
    apply List.ext_getElem (by simp [cmnT_len])
    intro k h1 h4
    have h3 : k < a.length := by rw [cmnT_len] at h1; exact h1
    rw [← gi_mem h1, cmnT_at h3, ← gi_mem h4, cmnT_at h3]
    by_cases e : k = i
    · subst e; rw [if_pos (.inr c), if_pos (.inr c)]
    by_cases e2 : i + 1 ≤ k ∨ gi a (k : Int) = gi b (k : Int)
    · rw [if_pos e2, if_pos (by omega)]
    rw [if_neg e2, if_neg (by omega)]
  rw [if_neg c]
  apply List.ext_getElem (by simp [cmnT_len])
  intro k h1 h2
  have h3 : k < a.length := by rw [cmnT_len] at h1; exact h1
  have h4 : k < (cmnT a b i).length := by rw [cmnT_len]; exact h3
  rw [← gi_mem h1, cmnT_at h3, List.getElem_set]
  split
  · rename_i h
    rw [if_neg (fun e => by subst e; rcases h with h | h; · omega
                            exact c h), ← gi_mem h4, cmnT_at h3, if_pos (by omega)]
  rename_i h
  by_cases e : i = k
  · rw [if_pos e]
  rw [if_neg e, ← gi_mem h4, cmnT_at h3, if_neg (fun h' => h (by omega))]
theorem commonOf_c (A A2 : Option Addr) (n c m c2 : Nat) (a b : List Int) (w : World) (hA : RdI w A n a) (hB : RdI w A2 m b) (hm : n = m) (hn : n ≤ 1000) :
  Ret Tryz.prog 153 [.slice A n c, .slice A2 m c2] w (AnsI (cmnP a b) w) := by
 subst hm
 have ha := hA.1
 have hb := hB.1
 refine Ret.of_cd Tryz.func153 O Tryz.ntmps153 O (post1 O) (Gbo O (Ops.call (Clone_c A n c a w hA (by omega)) O O O ?_))
 rintro _ w1 ⟨A5, c5, rfl, hS⟩
 have hS : St w w1 [CkI 2 A5 n c5 (cmnT a b 0)] := by rw [cmnT_0]; exact hS
 refine Gdo O (Ops.len O O (Gdc O ?_))
 refine Cd.loop (α := Nat) (fun i => [(5, .slice A5 n c5), (10, .slice A2 n c2), (11, .int .i64 (n : Int)), (12, .int .i64 (i : Int))]) (fun i w' => i ≤ n ∧ St w w' [CkI 2 A5 n c5 (cmnT a b i)]) (fun i => n - i) 0 ⟨O, O, O, O, trivial⟩ ⟨Nat.zero_le _, hS⟩ ?_
 clear hS
 rintro i e w2 ⟨hi, hS⟩
 have hl := cmnT_len a b i
 refine Gbc O ?_
 refine Cd.cond_p _ O (fun h2 => ?_) (fun h2 => ?_)
 ·have hin : i < a.length := by omega
  have hnx := cmnT_next (a := a) (b := b) (i := i)
  have hat := cmnT_at (b := b) (i := i) hin
  rw [if_pos (.inl (Nat.le_refl _))] at hat
  have hB2 := hS.oldI hB
  have h5 := hS.rdI 0 O
  refine Gao O (Ops.idx hB2.2 O O O (by omega) (by omega) (Ops.ld_int hB2 O (by omega) O O (Gdo O (Ops.idx h5.2 O O O (by omega) (by omega) (Ops.ld_int h5 O (by omega) O O (Gdc O ?_))))))
  rw [hat]
  refine Cd.cond_p _ O (fun h3 => ?_) (fun h3 => ?_)
  ·rw [if_neg h3] at hnx
   refine Gao O (Ops.idx h5.2 O O O (by omega) (by omega) ?_)
   skip
   refine Ops.st_int 0 hS O O O (by omega) ?_
   intro w3 hS3
   refine Gdo O (Ops.add O O O (by omega) (Gdn O (tQ ?_)))
   exact ⟨i + 1, by show n - (i + 1) < n - i; omega, ⟨O, O, O, O, trivial⟩, by omega, by rw [hnx]; exact hS3⟩
  rw [if_pos (Classical.not_not.1 h3)] at hnx
  refine Gao O (Ops.add O O O (by omega) (Gdn O (tQ ?_)))
  exact ⟨i + 1, by show n - (i + 1) < n - i; omega, ⟨O, O, O, O, trivial⟩, by omega, by rw [hnx]; exact hS⟩
 have hin : i = a.length := by omega
 rw [hin, cmnT_all] at hS
 have hl2 := cmnP_len a b
 refine Gax O (thenQ_x (Gfr O ?_))
 refine ret1_s O ?_
 exact ⟨A5, c5, by rw [hl2, ha], by rw [hl2, ha]; exact hS⟩
def plcP (xs : List Int) (x : Int) : List Int := (rngI xs.length).filter fun e => decide (gi xs e = x)
theorem plc_next {xs : List Int} {x : Int} {m : Nat} : ((rngI (m + 1)).filter fun e => decide (gi xs e = x)) = if x = gi xs (m : Int) then ((rngI m).filter fun e => decide (gi xs e = x)) ++ [(m : Int)] else ((rngI m).filter fun e => decide (gi xs e = x)) := by
 have : rngI (m + 1) = rngI m ++ [(m : Int)] := by
  unfold rngI
  rw [List.range_succ, List.map_append]; rfl
 rw [this, List.filter_append]
 by_cases c : gi xs (m : Int) = x
 ·rw [if_pos c.symm]; simp [c]
 rw [if_neg (fun h => c h.symm)]; simp [c]
theorem placesOf_c (A : Option Addr) (n c : Nat) (xs : List Int) (x : Int) (w : World) (hA : RdI w A n xs) (hn : n ≤ 100000) :
  Ret Tryz.prog 211 [.slice A n c, .int .i64 x] w (AnsI (plcP xs x) w) := by
 have ha := hA.1
 refine Ret.of_cd Tryz.func211 O Tryz.ntmps211 O (post1 O) ?_
 refine Gbo O (Ops.len O O (Gdc O ?_))
 refine Cd.loop (α := Nat × Option Addr × Nat) (fun z => [(1, .int .i64 x), (5, .slice z.2.1 ((rngI z.1).filter fun e => decide (gi xs e = x)).length z.2.2), (8, .slice A n c), (9, .int .i64 (n : Int)), (10, .int .i64 (z.1 : Int))]) (fun z w' => z.1 ≤ n ∧ St w w' [CkI 2 z.2.1 ((rngI z.1).filter fun e => decide (gi xs e = x)).length z.2.2 ((rngI z.1).filter fun e => decide (gi xs e = x))]) (fun z => n - z.1) (0, none, 0) ⟨O, O, O, O, O, trivial⟩ ⟨Nat.zero_le _, (St.refl w).nil _⟩ ?_
 rintro ⟨i, A5, c5⟩ e w1 ⟨hi, hS⟩
 dsimp only at hi hS ⊢
 have hfl : ((rngI i).filter fun e => decide (gi xs e = x)).length ≤ 100000 := by
  refine Nat.le_trans (List.length_filter_le _ _) ?_
  rw [rngI, List.length_map, List.length_range]; omega
 have hnx := plc_next (xs := xs) (x := x) (m := i)
 refine Gbc O ?_
 refine Cd.cond_p _ O (fun h2 => ?_) (fun h2 => ?_)
 ·have hA1 := hS.oldI hA
  refine Gao O (Ops.idx hA1.2 O O O (by omega) (by omega) (Ops.ld_int hA1 O (by omega) O O (Gdc O ?_)))
  refine Cd.cond_p _ O (fun h3 => ?_) (fun h3 => ?_)
  ·rw [if_pos h3] at hnx
   refine Gao O (Ops.bs1I hS O O O ?_)
   intro A9 w2 hS2
   skip
   refine Ops.appI 1 hS2 O (hS2.rdI 0 O) O O O (by omega) (by omega) O ?_
   intro AZ cZ w3 hS3
   have hS3 := hS3.tail
   refine Gdo O (Ops.add O O O (by omega) (Gdn O (tQ ?_)))
   refine ⟨(i + 1, AZ, cZ), by show n - (i + 1) < n - i; omega, ⟨O, ?_, O, O, O, trivial⟩, by show i + 1 ≤ n; omega, ?_⟩
   ·show Value.slice _ _ _ = _
    rw [hnx, List.length_append]; rfl
   show St w w3 [CkI _ _ (((rngI (i + 1)).filter _).length) _ ((rngI (i + 1)).filter _)]
   rw [hnx, List.length_append]
   exact hS3
  rw [if_neg h3] at hnx
  refine Gao O (Ops.add O O O (by omega) (Gdn O (tQ ?_)))
  refine ⟨(i + 1, A5, c5), by show n - (i + 1) < n - i; omega, ⟨O, ?_, O, O, O, trivial⟩, by show i + 1 ≤ n; omega, ?_⟩
  ·show Value.slice _ _ _ = _
   rw [hnx]
  show St w w1 [CkI _ _ (((rngI (i + 1)).filter _).length) _ ((rngI (i + 1)).filter _)]
  rw [hnx]
  exact hS
 have hin : i = xs.length := by omega
 rw [hin] at hS ⊢
 refine Gax O (thenQ_x (Gfr O ?_))
 refine ret1_s O ?_
 exact ⟨A5, c5, O, hS⟩
def rkL (n : Int) (R : List Int) (i : Int) : List Int := if 0 ≤ i ∧ i ≤ n - 1 then plcP R i else [-1]
theorem ofRank_c (P A D : Option Addr) (n : Int) (N cA m cD : Nat) (R : List Int) (i : Int) (w : World) (hP : Rd w P 3 (fun j => [Value.int .i64 n, .slice A N cA, .slice D m cD].getD j undef)) (hR : RdI w A N R) (hN : N ≤ 1000) (hn : 0 ≤ n ∧ n ≤ 100) :
  Ret Tryz.prog 151 [.pointer P, .int .i64 i] w (AnsI (rkL n R i) w) := by
 refine Ret.of_cd Tryz.func151 O Tryz.ntmps151 O (post1 O) (Gbo O ?_)
 refine Ops.nilp hP (by decide) O O ?_
 skip
 refine Ops.fld hP O O O O inferInstance ?_
 skip
 refine Ops.ldf_i (j := 0) hP (by exact congrArg Value.pointer O) O O O O (Ops.sub O O O (by omega) (Ops.call (within_c _ _ _ _) O O O ?_))
 rintro _ _ ⟨rfl, rfl⟩
 first | refine Ops.not_p rfl rfl ?_ | refine Ops.not rfl rfl ?_
 refine Gdc O ?_
 refine Cd.cond_p _ O (fun h2 => ?_) (fun h2 => ?_)
 ·refine Gao O (Ops.bs1I (i := -1) (St.refl _) O O O ?_)
  intro A9 w2 hS2
  refine Gdr O (ret1_s O ?_)
  unfold AnsI rkL
  rw [if_neg h2]
  exact ⟨A9, 1, O, hS2⟩
 refine Gao O ?_
 refine Ops.nilp hP (by decide) O O ?_
 skip
 refine Ops.fld hP O O O O inferInstance ?_
 skip
 refine Ops.ldf_s hP O O O O O (Gdo O (Ops.call (placesOf_c A N cA R i _ hR (by omega)) O O O ?_))
 rintro _ w2 ⟨A9, c9, rfl, hS2⟩
 refine Gdr O (ret1_s O ?_)
 unfold AnsI rkL
 rw [if_pos (Classical.not_not.1 h2)]
 exact ⟨A9, c9, O, hS2⟩
end Go.Proofs.YtopgfgdgfjddpaaGreatDoor.Vc
/-
 Maps of one's own: made, looked up, written.
-/
namespace Go.Proofs.YtopgfgdgfjddpaaGreatDoor.Vc
open Go.RowKit Go.MapKept
structure KeyT {κ : Type} (d : TypeDesc) (kv : κ → Value) : Prop where
 isKey : ∀ a, IsKey d (kv a)
 inj : ∀ a b, kv a = kv b → a = b
section
variable {κ ν : Type} [DecidableEq κ]
def getA : List (κ × ν) → κ → Option ν
  | [], _ => none
  | (y, v) :: r, x => if y = x then some v else getA r x
def putA : List (κ × ν) → κ → ν → List (κ × ν)
  | [], x, v => [(x, v)]
  | (y, u) :: r, x, v => if y = x then (x, v) :: r else (y, u) :: putA r x v
def fndA : List (κ × ν) → κ → Option (Nat × ν)
  | [], _ => none
  | (y, v) :: r, x => if y = x then some (0, v) else (fndA r x).map fun p => (p.1 + 1, p.2)
theorem fndA_get : ∀ (L : List (κ × ν)) (x : κ), getA L x = (fndA L x).map (·.2)
  | [], _ => rfl
  | (y, v) :: r, x => by
    simp only [getA, fndA]
    split
    · rfl
    · rw [fndA_get r x, Option.map_map]; rfl
theorem fndA_some : ∀ {L : List (κ × ν)} {x : κ} {j : Nat} {v : ν}, fndA L x = some (j, v) → L[j]? = some (x, v) ∧ ∀ u, putA L x u = L.set j (x, u)
  | (y, w) :: r, x, j, v, h => by
    simp only [fndA] at h
    split at h
    · rename_i e
      simp only [Option.some.injEq, Prod.mk.injEq] at h
      obtain ⟨rfl, rfl⟩ := h
      subst e
      exact ⟨O, fun u => by simp [putA]⟩
    · rename_i e
      cases hf : fndA r x with
      | none => simp [hf] at h
      | some p =>
        simp only [hf, Option.map_some, Option.some.injEq, Prod.mk.injEq] at h
        obtain ⟨rfl, rfl⟩ := h
        obtain ⟨h1, h2⟩ := fndA_some (L := r) (x := x) (j := p.1) (v := p.2) hf
        exact ⟨by simpa using h1, fun u => by simp only [putA, if_neg e, h2 u, List.set_cons_succ]⟩
theorem fndA_none : ∀ {L : List (κ × ν)} {x : κ}, fndA L x = none → ∀ u, putA L x u = L ++ [(x, u)]
  | [], x, _, u => rfl
  | (y, w) :: r, x, h, u => by
    simp only [fndA] at h
    split at h
    · cases h
    · rename_i e
      rw [Option.map_eq_none_iff] at h
      simp only [putA, if_neg e, fndA_none h u, List.cons_append]
theorem getA_put (L : List (κ × ν)) (x y : κ) (u : ν) : getA (putA L x u) y = if x = y then some u else getA L y := by
 induction L with
 | nil => simp only [putA, getA]
 | cons p r ih =>
  obtain ⟨z, w⟩ := p
  simp only [putA]
  by_cases e : z = x
  ·subst e
   rw [if_pos rfl]
   simp only [getA]
   split <;> simp_all
  ·rw [if_neg e]
   simp only [getA, ih]
   by_cases e2 : z = y
   ·subst e2
    rw [if_pos rfl, if_neg (fun h => e h.symm), if_pos rfl]
   ·rw [if_neg e2, if_neg e2]
def prV (kv : κ → Value) (vv : ν → Value) (L : List (κ × ν)) : List (Value × Value) := L.map fun p => (kv p.1, vv p.2)
theorem findNow_A {d : TypeDesc} {kv : κ → Value} {vv : ν → Value} (K : KeyT d kv) (x : κ) : ∀ (l : List MapEntry) (L : List (κ × ν)) (i : Nat), l.map (fun e => (e.key, e.val)) = prV kv vv L → Instr.findNow d (kv x) l i = some ((fndA L x).map fun p => (i + p.1, vv p.2))
 | [], [], _, _ => rfl
 | [], _ :: _, _, h => by simp [prV] at h
 | _ :: _, [], _, h => by simp [prV] at h
 | e :: l, (y, v) :: L, i, h => by
  simp only [prV, List.map_cons, List.cons.injEq, Prod.mk.injEq] at h
  obtain ⟨⟨h1, h2⟩, h3⟩ := h
  obtain ⟨r, hr, hiff⟩ := sameNow_of_keys (K.isKey x) (K.isKey y)
  simp only [Instr.findNow, fndA]
  rw [h1, hr]
  cases r with
  | true =>
   have e1 := K.inj _ _ (hiff.1 O)
   subst e1
   simp [h2]
  | false =>
   have hne : ¬ y = x := fun q => by
    have := hiff.2 (by rw [q])
    cases this
   rw [if_neg hne]
   simp only
   rw [findNow_A K x l L (i + 1) h3, Option.map_map]
   congr 2
   funext p
   simp only [Function.comp]
   rw [Nat.add_assoc, Nat.add_comm 1]
end
def CkM (t : TypeId) (g : Nat) (kvs : List (Value × Value)) : Ck := ⟨some ⟨g, 0, none⟩, 0, 0, t, .tuple #[] :: flatM kvs⟩
def RdM (w : World) (g : Nat) (kvs : List (Value × Value)) : Prop := ∃ es cl, w.heap[g]? = some (.map es cl) ∧ es.toList.map (fun e => (e.key, e.val)) = kvs
section
variable {w0 w w' : World} {ks : List Ck} {t : TypeId} {g : Nat} {kvs : List (Value × Value)}
theorem St.ownM (h : St w0 w ks) (i : Nat) (hk : ks[i]? = some (CkM t g kvs)) : w0.heap.size ≤ g ∧ RdM w g kvs := by
 rcases (h.get hk).cases with ⟨_, _, _, g', es, cl, hA, hg, hh, hv⟩ | ⟨hm, _⟩
 ·have hA : some (⟨g, 0, Option.none⟩ : Addr) = some ⟨g', 0, Option.none⟩ := hA
  simp only [Option.some.injEq, Addr.mk.injEq, and_true] at hA
  subst hA
  have hv : (.tuple #[] :: flatM kvs : List Value) = .tuple #[] :: flatM (es.toList.map fun e => (e.key, e.val)) := hv
  simp only [List.cons.injEq, true_and] at hv
  exact ⟨hg, es, cl, hh, (flatM_inj hv).symm⟩
 cases hm
theorem St.rdM (h : St w0 w ks) (i : Nat) (hk : ks[i]? = some (CkM t g kvs)) : RdM w g kvs := (h.ownM i hk).2
theorem St.allocM (h : St w0 w ks) (t : TypeId) : St w0 (w.alloc (.map #[] 0)) (CkM t w.heap.size [] :: ks) := by
 have hb : Below w.heap.size w (w.alloc (.map #[] 0)) := (Below.refl _ _).alloc (Nat.le_refl _) _
 have h1 := h.later hb
 refine ⟨h1.below, fun k hk => ?_, ?_⟩
 ·rcases List.mem_cons.1 hk with rfl | hk
  ·exact .ofM O ⟨O, O, _, #[], 0, O, h.below.size, heap_alloc_new w _, O⟩
  exact h1.own k hk
 simp only [List.filterMap_cons, CkM, Ck.blk, Option.map_some, List.nodup_cons]
 refine ⟨fun hin => ?_, h.apart⟩
 obtain ⟨k', hk', hkb⟩ := List.mem_filterMap.1 hin
 have := ((h.own k' hk').lt hkb).2
 omega
theorem St.turnM {i : Nat} {kvs' : List (Value × Value)} {es' : Array MapEntry} {cl' : Nat} (h : St w0 w ks) (hk : ks[i]? = some (CkM t g kvs)) (hv : es'.toList.map (fun e => (e.key, e.val)) = kvs') : St w0 { w with heap := w.heap.setIfInBounds g (.map es' cl') } (ks.set i (CkM t g kvs')) := by
 obtain ⟨hg, es, cl, hh, _⟩ := h.ownM i hk
 refine h.turn (k := CkM t g kvs) (k' := CkM t g kvs') (g := g) hk O O ⟨⟨O, O, O, by simp, fun x _ hx => ?_⟩, Nat.le_refl _⟩ ?_
 ·exact (heap_set hh).2 x fun e => hx (by rw [e])
 refine .ofM O ⟨O, O, g, es', cl', O, hg, (heap_set hh).1, ?_⟩
 rw [hv]; rfl
end
section
variable {P : Program} {N : Nat} {ops : Array Oper} {K : Env → World → Prop} {rest : List Oper} {e : Env} {w0 w w' : World} {ks : List Ck} {d : Nat} {ty : TypeId} {pos : String} {af : Array Edge}
variable {κ ν : Type} [DecidableEq κ] {kd : TypeDesc} {kv : κ → Value} {vv : ν → Value}
theorem Ops.mkmap {t : TypeId} (hS : St w0 w ks) (hb : Nat.blt d N = true) (hK : ∀ g w', St w0 w' (CkM t g [] :: ks) → Ops P N ops K rest (upd e d (.map (some g))) w') :
  Ops P N ops K (⟨some d, .makeMap t none, ty, pos, af, none⟩ :: rest) e w :=
 .val (w' := w.alloc (.map #[] 0)) (by simp [execOp, run_makeMap]) hb (hK _ _ (hS.allocM t))
theorem run_look {t kt et : TypeId} {z : Value} {s b : Nat} [hU : Und P t (.map kt et)] [hk : Und P kt kd] [Inf P et z s b] (KT : KeyT kd kv) {g : Nat} {L : List (κ × ν)} {x : κ} (hR : RdM w g (prV kv vv L)) (ok : Bool) :
    (Instr.lookup t (.map (some g)) (kv x) ok).run P w = .ok (if ok then .tuple #[((getA L x).map vv).getD z, .bool (getA L x).isSome] else ((getA L x).map vv).getD z) w := by
  obtain ⟨es, cl, hh, hm⟩ := hR
  obtain ⟨inf, hi, hz0, _, _⟩ := Inf.get P et
  have hf := findNow_A (vv := vv) KT x es.toList L 0 hm
  rw [fndA_get]
  unfold Instr.lookup
  simp only [Sem.run_bind, run_underlying hU.out, Result.andThen, MapKept.run_getObj_map hh, MapKept.run_checkKey hk.out (KT.isKey x)]
  cases hfn : fndA L x with
  | none =>
    rw [hfn] at hf
    have hfk := MapKept.run_findKey (P := P) (w := w) hk.out hf
    cases ok <;> simp [hfk, zeroValue, typeInfo, hi, hz0]
  | some p =>
    rw [hfn] at hf
    have hfk := MapKept.run_findKey (P := P) (w := w) hk.out hf
    cases ok <;> simp [hfk]
theorem Ops.look {t kt et : TypeId} {z v : Value} {s b : Nat} [Und P t (.map kt et)] [Und P kt kd] [Inf P et z s b] (KT : KeyT kd kv) {g : Nat} {L : List (κ × ν)} {m ix : Operand} {x : κ} (hR : RdM w g (prV kv vv L)) (hx : ev e m = .map (some g)) (hy : ev e ix = kv x) (hv : ((getA L x).map vv).getD z = v) (hb : Nat.blt d N = true) (hK : Ops P N ops K rest (upd e d v) w) : Ops P N ops K (⟨some d, .lookup t m ix false, ty, pos, af, none⟩ :: rest) e w := by
 subst hv
 refine .val (w' := w) ?_ hb hK
 have := run_look (P := P) (t := t) (x := x) KT hR false
 simp [execOp, hx, hy, this]
theorem run_upd {t kt et T : TypeId} [hU : Und P t (.map kt et)] [hk : Und P kt kd] (KT : KeyT kd kv) {g : Nat} {L : List (κ × ν)} (i : Nat) (x : κ) (u : ν) (hS : St w0 w ks) (hi : ks[i]? = some (CkM T g (prV kv vv L))) :
  ∃ w', (Instr.mapUpdate t (.map (some g)) (kv x) (vv u)).run P w = .ok () w' ∧ St w0 w' (ks.set i (CkM T g (prV kv vv (putA L x u)))) := by
 obtain ⟨_, es, cl, hh, hm⟩ := hS.ownM i hi
 have hf := findNow_A (vv := vv) KT x es.toList L 0 hm
 have hfk := MapKept.run_findKey (P := P) (w := w) hk.out hf
 cases hfn : fndA L x with
 | none =>
  refine ⟨{ w with heap := w.heap.setIfInBounds g (.map (es.push ⟨kv x, vv u, cl⟩) (cl + 1)) }, ?_, hS.turnM hi ?_⟩
  ·simp [Instr.mapUpdate, run_underlying hU.out, MapKept.run_getObj_map hh, MapKept.run_checkKey hk.out (KT.isKey x), hfk, hfn, MapKept.run_setObj_map _ hh, Result.andThen]
  ·rw [fndA_none hfn]
   simp only [Array.toList_push, List.map_append, hm, prV]
   rfl
 | some p =>
  obtain ⟨j, v⟩ := p
  obtain ⟨h1, h2⟩ := fndA_some hfn
  have hjl : j < L.length := (List.getElem?_eq_some_iff.1 h1).1
  have hel : es.toList.length = L.length := by have := congrArg List.length hm; simpa [prV] using this
  have hes : es.size = L.length := by simpa using hel
  have hje : j < es.size := by omega
  have hkey : es[j].key = kv x := by
   have := congrArg (fun l => l[j]?) hm
   simp [prV, h1, hje] at this
   exact this.1
  have hst := MapKept.run_keyThatStays (P := P) (w := w) (KT.isKey x)
  refine ⟨{ w with heap := w.heap.setIfInBounds g (.map (es.modify j fun e => { e with key := kv x, val := vv u }) cl) }, ?_, hS.turnM hi ?_⟩
  ·simp [Instr.mapUpdate, run_underlying hU.out, MapKept.run_getObj_map hh, MapKept.run_checkKey hk.out (KT.isKey x), hfk, hfn, MapKept.run_setObj_map _ hh, Result.andThen, hje, hkey, hst]
  ·rw [h2 u]
   apply List.ext_getElem?
   intro q
   have hq := congrArg (fun l => l[q]?) hm
   simp only [prV, List.getElem?_map, Array.getElem?_toList] at hq
   simp only [prV, List.getElem?_map, List.getElem?_set, Array.getElem?_toList, Array.getElem?_modify]
   by_cases e1 : j = q
   ·subst e1
    simp [hje, hjl]
   ·rw [if_neg e1, if_neg e1]
    exact hq
def updOf : Op → Option (TypeId × Operand × Operand × Operand)
 | .mapUpdate t m k x => some (t, m, k, x)
 | .insert t m k x => some (t, m, k, x)
 | _ => none
theorem Ops.upm {op : Op} {t kt et T : TypeId} {m k x : Operand} [hU : Und P t (.map kt et)] [Und P kt kd] (hop : updOf op = some (t, m, k, x)) (KT : KeyT kd kv) {g : Nat} {L : List (κ × ν)} (i : Nat) {a : κ} {u : ν} (hS : St w0 w ks) (hi : ks[i]? = some (CkM T g (prV kv vv L))) (hm : ev e m = .map (some g)) (hk : ev e k = kv a) (hx : ev e x = vv u) (hK : ∀ w', St w0 w' (ks.set i (CkM T g (prV kv vv (putA L a u)))) → Ops P N ops K rest e w') : Ops P N ops K (⟨none, op, ty, pos, af, none⟩ :: rest) e w := by
 obtain ⟨w', hrun, hS'⟩ := run_upd (P := P) (t := t) KT i a u hS hi
 refine .unit (w' := w') ?_ (hK _ hS')
 cases op <;> simp [updOf] at hop <;> obtain ⟨rfl, rfl, rfl, rfl⟩ := hop <;> simp [execOp, hm, hk, hx, hrun]
end
end Go.Proofs.YtopgfgdgfjddpaaGreatDoor.Vc
