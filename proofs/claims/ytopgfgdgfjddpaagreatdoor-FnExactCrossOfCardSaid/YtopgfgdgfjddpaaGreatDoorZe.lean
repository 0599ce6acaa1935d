/-
  The texts Qa1, Qa2, Qa3, Po3, Po6, Po7, Qa4, Pv1, Map in one. Conditions: as each part states them.
-/
import Derived.Test.YtopgfgdgfjddpaaGreatDoorZd
import Derived.Test.YtopgfgdgfjddpaaGreatDoorZb
import Derived.Test.YtopgfgdgfjddpaaGreatDoorZa
import Derived.MapKept
import Derived.Carry
/-
 Plain mathematics: elements in levels, chains, sections; where sections hang together, flags do.
-/
namespace Go.Proofs.YtopgfgdgfjddpaaGreatDoor.Vc
structure GrP {α : Type} (N : Nat) (el : Nat → α → Prop) (le : α → α → Prop) : Prop where
 one : ∀ {i j : Nat} {a : α}, el i a → el j a → i = j
 rf : ∀ a : α, le a a
 tr : ∀ {i j k : Nat} {a b c : α}, el i a → el j b → el k c → le a b → le b c → le a c
 st : ∀ {i j : Nat} {a b : α}, el i a → el j b → le a b → a = b ∨ i < j
 btw : ∀ {i j : Nat} {a b : α}, el i a → el j b → le a b → i + 1 < j → ∃ c, el (i + 1) c ∧ le a c ∧ le c b
 bnd : ∀ {i : Nat} {a : α}, el i a → i ≤ N
 bot : ∃ o, el 0 o ∧ ∀ (i : Nat) (a : α), el i a → le o a ∧ (i = 0 → a = o)
 top : ∃ t, el N t ∧ ∀ (i : Nat) (a : α), el i a → le a t ∧ (i = N → a = t)
section
variable {α : Type} {N : Nat} {el : Nat → α → Prop} {le : α → α → Prop}
def ChZ (el : Nat → α → Prop) (le : α → α → Prop) (i j : Nat) (z : Nat → α) : Prop := (∀ k, i ≤ k → k ≤ j → el k (z k)) ∧ ∀ k, i ≤ k → k < j → le (z k) (z (k + 1))
theorem ChZ.mon (g : GrP N el le) {i j : Nat} {z : Nat → α} (h : ChZ el le i j z) {p q : Nat} (h1 : i ≤ p) (h2 : p ≤ q) (h3 : q ≤ j) : le (z p) (z q) := by
  induction q with
  | zero => obtain rfl : p = 0 := by omega
            exact g.rf _
  | succ q ih =>
    by_cases e : p = q + 1
    · subst e; exact g.rf _
    · exact g.tr (h.1 p h1 (by omega)) (h.1 q (by omega) (by omega)) (h.1 (q + 1) (by omega) h3) (ih (by omega) (by omega)) (h.2 q (by omega) (by omega))
theorem ChZ.sub {i j p q : Nat} {z : Nat → α} (h : ChZ el le i j z) (h1 : i ≤ p) (h2 : q ≤ j) : ChZ el le p q z := ⟨fun k a b => h.1 k (by omega) (by omega), fun k a b => h.2 k (by omega) (by omega)⟩
def glZ (k : Nat) (z w : Nat → α) (p : Nat) : α := if p ≤ k then z p else w p
theorem glZ_lo {k p : Nat} {z w : Nat → α} (h : p ≤ k) : glZ k z w p = z p := if_pos h
theorem glZ_hi {k p : Nat} {z w : Nat → α} (h : k < p) : glZ k z w p = w p := if_neg (by omega)
theorem glZ_hi0 {k p : Nat} {z w : Nat → α} (e : z k = w k) (h : k ≤ p) : glZ k z w p = w p := by
 by_cases h' : p = k
 ·subst h'; rw [glZ_lo (Nat.le_refl _), e]
 exact glZ_hi (by omega)
theorem ChZ.glue {i k j : Nat} {z w : Nat → α} (h1 : ChZ el le i k z) (h2 : ChZ el le k j w) (e : z k = w k) : ChZ el le i j (glZ k z w) := by
 refine ⟨fun p a b => ?_, fun p a b => ?_⟩
 ·by_cases h : p ≤ k
  ·rw [glZ_lo h]; exact h1.1 p a h
  rw [glZ_hi (by omega)]; exact h2.1 p (by omega) b
 by_cases h : p < k
 ·rw [glZ_lo (by omega), glZ_lo (by omega)]; exact h1.2 p a h
 rw [glZ_hi0 e (by omega), glZ_hi0 e (by omega)]; exact h2.2 p (by omega) b
theorem GrP.chain (g : GrP N el le) {i j : Nat} {a b : α} (ha : el i a) (hb : el j b) (h : le a b) (hij : i ≤ j) : ∃ z, ChZ el le i j z ∧ z i = a ∧ z j = b := by
 obtain ⟨d, hd⟩ : ∃ d, d = j - i := ⟨_, rfl⟩
 induction d generalizing i a with
 | zero =>
  obtain rfl : i = j := by omega
  rcases g.st ha hb h with rfl | h
  ·refine ⟨fun _ => a, ⟨fun k h1 h2 => ?_, fun k _ _ => g.rf _⟩, O, O⟩
   have : k = i := by omega
   rw [this]; exact ha
  ·omega
 | succ d ih =>
  by_cases e : i + 1 = j
  ·subst e
   refine ⟨fun k => if k = i then a else b, ⟨fun k h1 h2 => ?_, fun k h1 h2 => ?_⟩, if_pos O, if_neg (by omega)⟩
   ·show el k (if k = i then a else b)
    split
    ·rename_i e; rw [e]; exact ha
    ·obtain rfl : k = i + 1 := by omega
     exact hb
   ·show le (if k = i then a else b) (if k + 1 = i then a else b)
    rw [if_pos (by omega), if_neg (by omega)]; exact h
  ·obtain ⟨c, hc, h1, h2⟩ := g.btw ha hb h (by omega)
   obtain ⟨z, hz, e1, e2⟩ := ih hc h2 (by omega) (by omega)
   refine ⟨fun k => if k = i then a else z k, ⟨fun k h3 h4 => ?_, fun k h3 h4 => ?_⟩, if_pos O, by show (if j = i then a else z j) = b; rw [if_neg (by omega)]; exact e2⟩
   ·show el k (if k = i then a else z k)
    split
    ·rename_i e; rw [e]; exact ha
    ·exact hz.1 k (by omega) h4
   ·show le (if k = i then a else z k) (if k + 1 = i then a else z (k + 1))
    rw [if_neg (show ¬ k + 1 = i by omega)]
    split
    ·rename_i e; subst e; rw [e1]; exact h1
    ·exact hz.2 k (by omega) h4
inductive LkZ (el : Nat → α → Prop) (le : α → α → Prop) (i j : Nat) (S : Nat → Prop) (z : Nat → α) : (Nat → α) → Prop where
 | same {y : Nat → α} : (∀ k, i ≤ k → k ≤ j → z k = y k) → LkZ el le i j S z y
 | step {y y' : Nat → α} (p : Nat) : LkZ el le i j S z y → ChZ el le i j y → ChZ el le i j y' → i < p → p < j → ¬ S p → (∀ k, i ≤ k → k ≤ j → k ≠ p → y k = y' k) → LkZ el le i j S z y'
theorem LkZ.eqv {i j : Nat} {S : Nat → Prop} {z y y' : Nat → α} (h : LkZ el le i j S z y) (e : ∀ k, i ≤ k → k ≤ j → y k = y' k) : LkZ el le i j S z y' := by
 cases h with
 | same h => exact .same fun k a b => (h k a b).trans (e k a b)
 | step p h c c' h1 h2 h3 h4 =>
  exact .step p h c ⟨fun k a b => e k a b ▸ c'.1 k a b, fun k a b => by rw [← e k a (by omega), ← e (k + 1) (by omega) b]; exact c'.2 k a b⟩ h1 h2 h3 fun k a b n => (h4 k a b n).trans (e k a b)
theorem LkZ.trans {i j : Nat} {S : Nat → Prop} {z y x : Nat → α} (h : LkZ el le i j S z y) (h' : LkZ el le i j S y x) : LkZ el le i j S z x := by
 induction h' with
 | same e => exact h.eqv e
 | step p _ c c' h1 h2 h3 h4 ih => exact .step p ih c c' h1 h2 h3 h4
theorem LkZ.mono {i j : Nat} {S T : Nat → Prop} {z y : Nat → α} (h : LkZ el le i j S z y) (hT : ∀ p, i < p → p < j → T p → S p) : LkZ el le i j T z y := by
 induction h with
 | same e => exact .same e
 | step p _ c c' h1 h2 h3 h4 ih => exact .step p ih c c' h1 h2 (fun ht => h3 (hT p h1 h2 ht)) h4
theorem LkZ.keep {i j : Nat} {S : Nat → Prop} {z y : Nat → α} (h : LkZ el le i j S z y) {k : Nat} (h1 : i ≤ k) (h2 : k ≤ j) (hk : k ≤ i ∨ j ≤ k ∨ S k) : z k = y k := by
  induction h with
  | same e => exact e k h1 h2
  | step p _ c c' h3 h4 h5 h6 ih => exact ih.trans (h6 k h1 h2 (fun e => by subst e; rcases hk with h | h | h; · omega
                                                                            · omega
                                                                            · exact h5 h))
theorem LkZ.lo {i k j : Nat} {S : Nat → Prop} {z y w : Nat → α} (h : LkZ el le i k S z y) (hz : ChZ el le i k z) (hw : ChZ el le k j w) (e : z k = w k) (hik : i ≤ k) (hkj : k ≤ j) : LkZ el le i j S (glZ k z w) (glZ k y w) := by
  induction h with
  | same e => exact .same fun p a b => by unfold glZ; split
                                          · exact e p a (by assumption)
                                          · rfl
  | @step y y' p hl c c' h1 h2 h3 h4 ih =>
    have e1 : y k = w k := (hl.keep hik (Nat.le_refl _) (.inr (.inl (Nat.le_refl _)))).symm.trans e
    have e2 : y' k = w k := (h4 k hik (Nat.le_refl _) (by omega)).symm.trans e1
    refine .step p ih (c.glue hw e1) (c'.glue hw e2) h1 (by omega) h3 fun q a b n => ?_
    unfold glZ; split
    · exact h4 q a (by assumption) n
    · rfl
theorem LkZ.hi {i k j : Nat} {S : Nat → Prop} {z w w' : Nat → α} (h : LkZ el le k j S w w') (hz : ChZ el le i k z) (hw : ChZ el le k j w) (e : z k = w k) (hik : i ≤ k) (hkj : k ≤ j) : LkZ el le i j S (glZ k z w) (glZ k z w') := by
  induction h with
  | same e => exact .same fun p a b => by unfold glZ; split
                                          · rfl
                                          · exact e p (by omega) b
  | @step y y' p hl c c' h1 h2 h3 h4 ih =>
    have e1 : z k = y k := e.trans (hl.keep (Nat.le_refl _) hkj (.inl (Nat.le_refl _)))
    have e2 : z k = y' k := e1.trans (h4 k (Nat.le_refl _) hkj (by omega))
    refine .step p ih (hz.glue c e1) (hz.glue c' e2) (by omega) h2 h3 fun q a b n => ?_
    unfold glZ; split
    · rfl
    · exact h4 q (by omega) b n
inductive CnZ (el : Nat → α → Prop) (le : α → α → Prop) (i j : Nat) (a b : α) (p : Nat) (c : α) : Nat → α → Prop where
 | refl : CnZ el le i j a b p c p c
 | step {q r : Nat} {d e : α} : CnZ el le i j a b p c q d → i < r → r < j → el r e → le a e → le e b → (le d e ∨ le e d) → CnZ el le i j a b p c r e
def InZ (el : Nat → α → Prop) (le : α → α → Prop) (i j : Nat) (a b : α) (p : Nat) (c : α) : Prop := i < p ∧ p < j ∧ el p c ∧ le a c ∧ le c b
def SecC (el : Nat → α → Prop) (le : α → α → Prop) : Prop := ∀ (i j : Nat) (a b : α), el i a → el j b → le a b → i + 3 ≤ j → ∀ (p q : Nat) (c d : α), InZ el le i j a b p c → InZ el le i j a b q d → CnZ el le i j a b p c q d
theorem chain_link (g : GrP N el le) (hc : SecC el le) : ∀ (m i j : Nat), j - i ≤ m → i ≤ j → ∀ z y : Nat → α, ChZ el le i j z → ChZ el le i j y → z i = y i → z j = y j → LkZ el le i j (fun k => z k = y k) z y := by
  intro m
  induction m with
  | zero =>
    intro i j hm hij z y _ _ e1 _
    exact .same fun k a b => by
      obtain rfl : k = i := by omega
      exact e1
  | succ m ih =>
    intro i j hm hij z y hz hy e1 e2
    have split : ∀ z y : Nat → α, ChZ el le i j z → ChZ el le i j y → z i = y i → z j = y j → ∀ k, i < k → k < j → z k = y k → LkZ el le i j (fun k => z k = y k) z y := by
      intro z y hz hy e1 e2 k h1 h2 ek
      have l1 := ih i k (by omega) (by omega) z y (hz.sub (Nat.le_refl _) (by omega)) (hy.sub (Nat.le_refl _) (by omega)) e1 ek
      have l2 := ih k j (by omega) (by omega) z y (hz.sub (by omega) (Nat.le_refl _)) (hy.sub (by omega) (Nat.le_refl _)) ek e2
      have a1 := l1.lo (w := z) (hz.sub (Nat.le_refl _) (by omega)) (hz.sub (by omega) (Nat.le_refl _)) O (by omega) (by omega)
      have a2 := l2.hi (z := y) (hy.sub (Nat.le_refl _) (by omega)) (hz.sub (by omega) (Nat.le_refl _)) ek.symm (by omega) (by omega)
      refine (LkZ.trans (.same fun p _ _ => ?_) (a1.trans a2)).eqv fun p _ _ => ?_
      · unfold glZ; split <;> rfl
      · unfold glZ; split <;> rfl
    by_cases hk : ∃ k, i < k ∧ k < j ∧ z k = y k
    · obtain ⟨k, h1, h2, h3⟩ := hk
      exact split z y hz hy e1 e2 k h1 h2 h3
    have hne : ∀ p, i < p → p < j → ¬ z p = y p := fun p h1 h2 h => hk ⟨p, h1, h2, h⟩
    by_cases hs : j ≤ i + 1
    · exact .same fun k a b => by
        rcases (show k = i ∨ k = j by omega) with rfl | rfl
        · exact e1
        · exact e2
    by_cases hs2 : j = i + 2
    · subst hs2
      refine .step (i + 1) (.same fun _ _ _ => O) hz hy (by omega) (by omega) (hne _ (by omega) (by omega)) fun k a b n => ?_
      rcases (show k = i ∨ k = i + 2 by omega) with rfl | rfl
      · exact e1
      · exact e2
    have hb := fun (w : Nat → α) (hw : ChZ el le i j w) (f1 : z i = w i) (f2 : z j = w j) => (⟨by omega, by omega, hw.1 _ (by omega) (by omega), f1 ▸ hw.mon g (Nat.le_refl _) (by omega) (by omega), f2 ▸ hw.mon g (by omega) (by omega) (Nat.le_refl _)⟩ : InZ el le i j (z i) (z j) (i + 1) (w (i + 1)))
    have hcn := hc i j (z i) (z j) (hz.1 i (Nat.le_refl _) hij) (hz.1 j hij (Nat.le_refl _)) (hz.mon g (Nat.le_refl _) hij (Nat.le_refl _)) (by omega) _ _ _ _ (hb z hz O O) (hb y hy e1 e2)
    have key : ∀ (q : Nat) (d : α), CnZ el le i j (z i) (z j) (i + 1) (z (i + 1)) q d → InZ el le i j (z i) (z j) q d ∧ ∀ x, ChZ el le i j x → z i = x i → z j = x j → x q = d → LkZ el le i j (fun _ => False) z x := by
      intro q d h
      induction h with
      | refl => exact ⟨hb z hz rfl rfl, fun x hx f1 f2 f3 => (split z x hz hx f1 f2 (i + 1) (by omega) (by omega) f3.symm).mono fun _ _ _ h => h.elim⟩
      | @step q r d e _ h1 h2 h3 h4 h5 h6 ihc =>
        obtain ⟨⟨q1, q2, q3, q4, q5⟩, ihx⟩ := ihc
        refine ⟨⟨h1, h2, h3, h4, h5⟩, fun x hx f1 f2 f3 => ?_⟩
        have hzi := hz.1 i (Nat.le_refl _) hij
        have hzj := hz.1 j hij (Nat.le_refl _)
        have fin : ∀ w, ChZ el le i j w → z i = w i → z j = w j → w q = d → w r = e → LkZ el le i j (fun _ => False) z x := fun w hw g1 g2 g3 g4 =>
          (ihx w hw g1 g2 g3).trans ((split w x hw hx (g1.symm.trans f1) (g2.symm.trans f2) r h1 h2 (g4.trans f3.symm)).mono fun _ _ _ h => h.elim)
        have mk : ∀ (u v : Nat) (s t : α), i < u → u < v → v < j → el u s → el v t → le (z i) s → le s t → le t (z j) → ∃ w, ChZ el le i j w ∧ z i = w i ∧ z j = w j ∧ w u = s ∧ w v = t := by
          intro u v s t k1 k2 k3 k4 k5 k6 k7 k8
          obtain ⟨w1, c1, a1, b1⟩ := g.chain hzi k4 k6 (by omega)
          obtain ⟨w2, c2, a2, b2⟩ := g.chain k4 k5 k7 (by omega)
          obtain ⟨w3, c3, a3, b3⟩ := g.chain k5 hzj k8 (by omega)
          refine ⟨glZ v (glZ u w1 w2) w3, (c1.glue c2 (b1.trans a2.symm)).glue c3 (by rw [glZ_hi k2, b2, a3]), ?_, ?_, ?_, ?_⟩
          · rw [glZ_lo (by omega), glZ_lo (by omega), a1]
          · rw [glZ_hi k3, b3]
          · rw [glZ_lo (by omega), glZ_lo (Nat.le_refl _), b1]
          · rw [glZ_lo (Nat.le_refl _), glZ_hi k2, b2]
        rcases h6 with h6 | h6
        · rcases g.st q3 h3 h6 with e' | e'
          · subst e'
            obtain rfl := g.one q3 h3
            exact ihx x hx f1 f2 f3
          · obtain ⟨w, hw, g1, g2, g3, g4⟩ := mk q r d e q1 e' h2 q3 h3 q4 h6 h5
            exact fin w hw g1 g2 g3 g4
        · rcases g.st h3 q3 h6 with e' | e'
          · subst e'
            obtain rfl := g.one q3 h3
            exact ihx x hx f1 f2 f3
          · obtain ⟨w, hw, g1, g2, g3, g4⟩ := mk r q e d h1 e' q2 h3 q3 h4 h6 q5
            exact fin w hw g1 g2 g4 g3
    exact ((key _ _ hcn).2 y hy e1 e2 O).mono fun p h1 h2 h => hne p h1 h2 h
end
/-
 Plain mathematics: the sections of products of graded sets hang together.
-/
section
variable {α : Type} {el : Nat → α → Prop} {le : α → α → Prop} {i j : Nat} {a b : α}
theorem CnZ.end_ {p q : Nat} {c d : α} (h : CnZ el le i j a b p c q d) (hp : InZ el le i j a b p c) : InZ el le i j a b q d := by
 cases h with
 | refl => exact hp
 | step _ h1 h2 h3 h4 h5 _ => exact ⟨h1, h2, h3, h4, h5⟩
theorem CnZ.trans {p q r : Nat} {c d e : α} (h : CnZ el le i j a b p c q d) (h' : CnZ el le i j a b q d r e) : CnZ el le i j a b p c r e := by
 induction h' with
 | refl => exact h
 | step _ h1 h2 h3 h4 h5 h6 ih => exact .step ih h1 h2 h3 h4 h5 h6
theorem CnZ.one {p q : Nat} {c d : α} (hq : InZ el le i j a b q d) (h : le c d ∨ le d c) : CnZ el le i j a b p c q d := .step .refl hq.1 hq.2.1 hq.2.2.1 hq.2.2.2.1 hq.2.2.2.2 h
theorem CnZ.symm {p q : Nat} {c d : α} (hp : InZ el le i j a b p c) (h : CnZ el le i j a b p c q d) : CnZ el le i j a b q d p c := by
 induction h with
 | refl => exact .refl
 | step h0 h1 h2 h3 h4 h5 h6 ih => exact (CnZ.one (h0.end_ hp) h6.symm).trans ih
end
section
variable {α β : Type} {N1 N2 : Nat} {el1 : Nat → α → Prop} {le1 : α → α → Prop} {el2 : Nat → β → Prop} {le2 : β → β → Prop}
def leP (le1 : α → α → Prop) (le2 : β → β → Prop) (c d : α × β) : Prop := le1 c.1 d.1 ∧ le2 c.2 d.2
structure BxZ (el1 : Nat → α → Prop) (le1 : α → α → Prop) (el2 : Nat → β → Prop) (le2 : β → β → Prop) (a1 b1 : α) (a2 b2 : β) (i j : Nat) (c1 : α) (c2 : β) : Prop where
 e1 : el1 i c1
 e2 : el2 j c2
 l1 : le1 a1 c1
 m1 : le1 c1 b1
 l2 : le2 a2 c2
 m2 : le2 c2 b2
theorem box_conn (g1 : GrP N1 el1 le1) (g2 : GrP N2 el2 le2) (hc1 : SecC el1 le1) (hc2 : SecC el2 le2) {el : Nat → α × β → Prop} {s i0 j0 i1 j1 : Nat} {a1 b1 : α} {a2 b2 : β}
    (ha1 : el1 i0 a1) (ha2 : el2 j0 a2) (hb1 : el1 i1 b1) (hb2 : el2 j1 b2) (h1 : le1 a1 b1) (h2 : le2 a2 b2) (hs : s ≤ i0 + j0) (h3 : i0 + j0 + 3 ≤ i1 + j1)
    (hel : ∀ i j c1 c2, el1 i c1 → el2 j c2 → le1 a1 c1 → le2 a2 c2 → el (i + j - s) (c1, c2))
    {i j k l : Nat} {c1 d1 : α} {c2 d2 : β} (hc : BxZ el1 le1 el2 le2 a1 b1 a2 b2 i j c1 c2) (hd : BxZ el1 le1 el2 le2 a1 b1 a2 b2 k l d1 d2)
    (hcp : i0 + j0 < i + j ∧ i + j < i1 + j1) (hdp : i0 + j0 < k + l ∧ k + l < i1 + j1) :
    CnZ el (leP le1 le2) (i0 + j0 - s) (i1 + j1 - s) (a1, a2) (b1, b2) (i + j - s) (c1, c2) (k + l - s) (d1, d2) := by
  have inz : ∀ {i j : Nat} {c1 : α} {c2 : β}, BxZ el1 le1 el2 le2 a1 b1 a2 b2 i j c1 c2 → i0 + j0 < i + j → i + j < i1 + j1 → InZ el (leP le1 le2) (i0 + j0 - s) (i1 + j1 - s) (a1, a2) (b1, b2) (i + j - s) (c1, c2) := fun h p q => ⟨by omega, by omega, hel _ _ _ _ h.e1 h.e2 h.l1 h.l2, ⟨h.l1, h.l2⟩, ⟨h.m1, h.m2⟩⟩
  have lv1 : ∀ {i : Nat} {c : α}, el1 i c → le1 a1 c → le1 c b1 → (i0 ≤ i ∧ i ≤ i1) ∧ (i = i1 → c = b1) ∧ (i = i0 → c = a1) := fun {i c} he h h' => by
    rcases g1.st ha1 he h with e | e <;> rcases g1.st he hb1 h' with e' | e'
    · subst e; subst e'; have := g1.one he ha1; have := g1.one he hb1; exact ⟨by omega, fun _ => rfl, fun _ => rfl⟩
    · subst e; have := g1.one he ha1; exact ⟨by omega, by omega, fun _ => rfl⟩
    · subst e'; have := g1.one he hb1; exact ⟨by omega, fun _ => rfl, by omega⟩
    · exact ⟨by omega, by omega, by omega⟩
  have lv2 : ∀ {i : Nat} {c : β}, el2 i c → le2 a2 c → le2 c b2 → (j0 ≤ i ∧ i ≤ j1) ∧ (i = j1 → c = b2) ∧ (i = j0 → c = a2) := fun {i c} he h h' => by
    rcases g2.st ha2 he h with e | e <;> rcases g2.st he hb2 h' with e' | e'
    · subst e; subst e'; have := g2.one he ha2; have := g2.one he hb2; exact ⟨by omega, fun _ => rfl, fun _ => rfl⟩
    · subst e; have := g2.one he ha2; exact ⟨by omega, by omega, fun _ => rfl⟩
    · subst e'; have := g2.one he hb2; exact ⟨by omega, fun _ => rfl, by omega⟩
    · exact ⟨by omega, by omega, by omega⟩
  have h01 := (lv1 hb1 h1 (g1.rf _)).1
  have h02 := (lv2 hb2 h2 (g2.rf _)).1
  by_cases q1 : i0 = i1
  · -- the first part stands still
    have e1 : ∀ {i : Nat} {c : α}, el1 i c → le1 a1 c → le1 c b1 → c = a1 ∧ i = i0 := fun he h h' => by
      have := lv1 he h h'
      exact ⟨this.2.2 (by omega), by omega⟩
    obtain ⟨rfl, rfl⟩ := e1 hc.e1 hc.l1 hc.m1
    obtain ⟨rfl, rfl⟩ := e1 hd.e1 hd.l1 hd.m1
    have key := hc2 j0 j1 a2 b2 ha2 hb2 h2 (by omega) j l c2 d2 ⟨by omega, by omega, hc.e2, hc.l2, hc.m2⟩ ⟨by omega, by omega, hd.e2, hd.l2, hd.m2⟩
    clear hd hdp
    induction key with
    | refl => exact .refl
    | step _ k1 k2 k3 k4 k5 k6 ih =>
      refine ih.trans (.one (inz ⟨hc.e1, k3, hc.l1, hc.m1, k4, k5⟩ (by omega) (by omega)) ?_)
      exact k6.imp (fun h => ⟨g1.rf _, h⟩) (fun h => ⟨g1.rf _, h⟩)
  by_cases q2 : j0 = j1
  · have e2 : ∀ {i : Nat} {c : β}, el2 i c → le2 a2 c → le2 c b2 → c = a2 ∧ i = j0 := fun he h h' => by
      have := lv2 he h h'
      exact ⟨this.2.2 (by omega), by omega⟩
    obtain ⟨rfl, rfl⟩ := e2 hc.e2 hc.l2 hc.m2
    obtain ⟨rfl, rfl⟩ := e2 hd.e2 hd.l2 hd.m2
    have key := hc1 i0 i1 a1 b1 ha1 hb1 h1 (by omega) i k c1 d1 ⟨by omega, by omega, hc.e1, hc.l1, hc.m1⟩ ⟨by omega, by omega, hd.e1, hd.l1, hd.m1⟩
    clear hd hdp
    induction key with
    | refl => exact .refl
    | step _ k1 k2 k3 k4 k5 k6 ih =>
      refine ih.trans (.one (inz ⟨k3, hc.e2, k4, k5, hc.l2, hc.m2⟩ (by omega) (by omega)) ?_)
      exact k6.imp (fun h => ⟨h, g2.rf _⟩) (fun h => ⟨h, g2.rf _⟩)
  -- both parts move: all hang on a corner
  have bu : BxZ el1 le1 el2 le2 a1 b1 a2 b2 i0 j1 a1 b2 := ⟨ha1, hb2, g1.rf _, h1, h2, g2.rf _⟩
  have bv : BxZ el1 le1 el2 le2 a1 b1 a2 b2 i1 j0 b1 a2 := ⟨hb1, ha2, h1, g1.rf _, g2.rf _, h2⟩
  have iu := inz bu (by omega) (by omega)
  have iv := inz bv (by omega) (by omega)
  have uv : CnZ el (leP le1 le2) (i0 + j0 - s) (i1 + j1 - s) (a1, a2) (b1, b2) (i0 + j1 - s) (a1, b2) (i1 + j0 - s) (b1, a2) := by
    by_cases q3 : i0 + 1 < i1
    · obtain ⟨x, hx, x1, x2⟩ := g1.btw ha1 hb1 h1 q3
      refine (CnZ.one (c := (a1, b2)) (inz (i := i0 + 1) (j := j1) (c1 := x) (c2 := b2) ⟨hx, hb2, x1, x2, h2, g2.rf _⟩ (by omega) (by omega)) (.inl ⟨x1, g2.rf _⟩)).trans ((CnZ.one (c := (x, b2)) (inz (i := i0 + 1) (j := j0) (c1 := x) (c2 := a2) ⟨hx, ha2, x1, x2, g2.rf _, h2⟩ (by omega) (by omega)) (.inr ⟨g1.rf _, h2⟩)).trans ?_)
      exact .one iv (.inl ⟨x2, g2.rf _⟩)
    · obtain ⟨x, hx, x1, x2⟩ := g2.btw ha2 hb2 h2 (by omega)
      refine (CnZ.one (c := (a1, b2)) (inz (i := i0) (j := j0 + 1) (c1 := a1) (c2 := x) ⟨ha1, hx, g1.rf _, h1, x1, x2⟩ (by omega) (by omega)) (.inr ⟨g1.rf _, x2⟩)).trans ((CnZ.one (c := (a1, x)) (inz (i := i1) (j := j0 + 1) (c1 := b1) (c2 := x) ⟨hb1, hx, h1, g1.rf _, x1, x2⟩ (by omega) (by omega)) (.inl ⟨h1, g2.rf _⟩)).trans ?_)
      exact .one iv (.inr ⟨g1.rf _, x1⟩)
  have tou : ∀ {i j : Nat} {c1 : α} {c2 : β}, BxZ el1 le1 el2 le2 a1 b1 a2 b2 i j c1 c2 → i0 + j0 < i + j → i + j < i1 + j1 → CnZ el (leP le1 le2) (i0 + j0 - s) (i1 + j1 - s) (a1, a2) (b1, b2) (i + j - s) (c1, c2) (i0 + j1 - s) (a1, b2) := fun {i j c1 c2} h p q => by
    have f1 := lv1 h.e1 h.l1 h.m1
    have f2 := lv2 h.e2 h.l2 h.m2
    by_cases q4 : i < i1
    · exact (CnZ.one (c := (c1, c2)) (inz (i := i) (j := j1) (c1 := c1) (c2 := b2) ⟨h.e1, hb2, h.l1, h.m1, h2, g2.rf _⟩ (by omega) (by omega)) (.inl ⟨g1.rf _, h.m2⟩)).trans (CnZ.one (c := (c1, b2)) iu (.inr ⟨h.l1, g2.rf _⟩))
    · have : c1 = b1 := f1.2.1 (by omega)
      subst this
      exact (CnZ.one (c := (c1, c2)) iv (.inr ⟨g1.rf _, h.l2⟩)).trans (uv.symm iu)
  exact (tou hc hcp.1 hcp.2).trans ((tou hd hdp.1 hdp.2).symm (inz hd hdp.1 hdp.2))
/-! joins -/
def elJ (el1 : Nat → α → Prop) (el2 : Nat → β → Prop) (p : Nat) (c : α × β) : Prop := ∃ i j, el1 i c.1 ∧ el2 j c.2 ∧ p = i + j
theorem joinG (g1 : GrP N1 el1 le1) (g2 : GrP N2 el2 le2) : GrP (N1 + N2) (elJ el1 el2) (leP le1 le2) where
 one := fun ⟨i, j, a, b, e⟩ ⟨i', j', a', b', e'⟩ => by have := g1.one a a'; have := g2.one b b'; omega
 rf := fun c => ⟨g1.rf _, g2.rf _⟩
 tr := fun ⟨_, _, a, b, _⟩ ⟨_, _, a', b', _⟩ ⟨_, _, a'', b'', _⟩ h h' => ⟨g1.tr a a' a'' h.1 h'.1, g2.tr b b' b'' h.2 h'.2⟩
 st := fun {_ _ c d} ⟨i, j, a, b, e⟩ ⟨i', j', a', b', e'⟩ h => by
  rcases g1.st a a' h.1 with h1 | h1 <;> rcases g2.st b b' h.2 with h2 | h2
  ·exact .inl (Prod.ext h1 h2)
  ·rw [← h1] at a'; have := g1.one a a'; exact .inr (by omega)
  ·rw [← h2] at b'; have := g2.one b b'; exact .inr (by omega)
  exact .inr (by omega)
 btw := fun {p q c d} ⟨i, j, a, b, e⟩ ⟨i', j', a', b', e'⟩ h hpq => by
  have k1 : i ≤ i' ∧ (i = i' → c.1 = d.1) := by
   rcases g1.st a a' h.1 with h1 | h1
   ·rw [← h1] at a'; have := g1.one a a'; exact ⟨by omega, fun _ => h1⟩
   exact ⟨by omega, by omega⟩
  have k2 : j ≤ j' ∧ (j = j' → c.2 = d.2) := by
   rcases g2.st b b' h.2 with h1 | h1
   ·rw [← h1] at b'; have := g2.one b b'; exact ⟨by omega, fun _ => h1⟩
   exact ⟨by omega, by omega⟩
  by_cases q1 : i + 1 < i'
  ·obtain ⟨x, hx, x1, x2⟩ := g1.btw a a' h.1 q1
   exact ⟨(x, c.2), ⟨i + 1, j, hx, b, by omega⟩, ⟨x1, g2.rf _⟩, ⟨x2, h.2⟩⟩
  by_cases q2 : i + 1 = i'
  ·exact ⟨(d.1, c.2), ⟨i', j, a', b, by omega⟩, ⟨h.1, g2.rf _⟩, ⟨g1.rf _, h.2⟩⟩
  obtain ⟨x, hx, x1, x2⟩ := g2.btw b b' h.2 (by omega)
  exact ⟨(c.1, x), ⟨i, j + 1, a, hx, by omega⟩, ⟨g1.rf _, x1⟩, ⟨h.1, x2⟩⟩
 bnd := fun ⟨i, j, a, b, e⟩ => by have := g1.bnd a; have := g2.bnd b; omega
 bot := by
  obtain ⟨o1, h1, k1⟩ := g1.bot
  obtain ⟨o2, h2, k2⟩ := g2.bot
  exact ⟨(o1, o2), ⟨0, 0, h1, h2, O⟩, fun p c ⟨i, j, a, b, e⟩ => ⟨⟨(k1 i _ a).1, (k2 j _ b).1⟩, fun hp => Prod.ext ((k1 i _ a).2 (by omega)) ((k2 j _ b).2 (by omega))⟩⟩
 top := by
  obtain ⟨o1, h1, k1⟩ := g1.top
  obtain ⟨o2, h2, k2⟩ := g2.top
  refine ⟨(o1, o2), ⟨N1, N2, h1, h2, O⟩, fun p c ⟨i, j, a, b, e⟩ => ⟨⟨(k1 i _ a).1, (k2 j _ b).1⟩, fun hp => ?_⟩⟩
  have := g1.bnd a; have := g2.bnd b
  exact Prod.ext ((k1 i _ a).2 (by omega)) ((k2 j _ b).2 (by omega))
theorem joinC (g1 : GrP N1 el1 le1) (g2 : GrP N2 el2 le2) (hc1 : SecC el1 le1) (hc2 : SecC el2 le2) : SecC (elJ el1 el2) (leP le1 le2) := by
 rintro p q ⟨a1, a2⟩ ⟨b1, b2⟩ ⟨i0, j0, ha1, ha2, rfl⟩ ⟨i1, j1, hb1, hb2, rfl⟩ h hpq r t ⟨c1, c2⟩ ⟨d1, d2⟩ ⟨c3, c4, ⟨i, j, hc, hc', rfl⟩, c5, c6⟩ ⟨d3, d4, ⟨k, l, hd, hd', rfl⟩, d5, d6⟩
 exact box_conn (s := 0) g1 g2 hc1 hc2 ha1 ha2 hb1 hb2 h.1 h.2 (Nat.zero_le _) hpq (fun i j x y hx hy _ _ => ⟨i, j, hx, hy, O⟩) ⟨hc, hc', c5.1, c6.1, c5.2, c6.2⟩ ⟨hd, hd', d5.1, d6.1, d5.2, d6.2⟩ ⟨c3, c4⟩ ⟨d3, d4⟩
end
/-
 Plain mathematics: Cartesian products and sums of graded sets.
-/
section
variable {α β : Type} {N N1 N2 : Nat} {el : Nat → α → Prop} {le : α → α → Prop} {el1 : Nat → α → Prop} {le1 : α → α → Prop} {el2 : Nat → β → Prop} {le2 : β → β → Prop}
theorem GrP.lv (g : GrP N el le) {i j : Nat} {a b : α} (ha : el i a) (hb : el j b) (h : le a b) : i ≤ j ∧ (i = j → a = b) := by
 rcases g.st ha hb h with e | e
 ·subst e; have := g.one ha hb; exact ⟨by omega, fun _ => rfl⟩
 exact ⟨by omega, by omega⟩
theorem GrP.vtx (g : GrP N el le) {k : Nat} {d : α} (hd : el k d) (hk : 1 ≤ k) : ∃ v, el 1 v ∧ le v d := by
 by_cases e : k = 1
 ·subst e; exact ⟨d, hd, g.rf _⟩
 obtain ⟨o, ho, h⟩ := g.bot
 obtain ⟨c, hc, _, h2⟩ := g.btw ho hd (h k d hd).1 (by omega)
 exact ⟨c, hc, h2⟩
def elC (el1 : Nat → α → Prop) (el2 : Nat → β → Prop) (p : Nat) (c : α × β) : Prop := (p = 0 ∧ el1 0 c.1 ∧ el2 0 c.2) ∨ ∃ i j, 1 ≤ i ∧ 1 ≤ j ∧ el1 i c.1 ∧ el2 j c.2 ∧ p + 1 = i + j
theorem cartG (g1 : GrP N1 el1 le1) (g2 : GrP N2 el2 le2) (n1 : 1 ≤ N1) (n2 : 1 ≤ N2) : GrP (N1 + N2 - 1) (elC el1 el2) (leP le1 le2) where
 one := by
  rintro p q c (⟨e, a, b⟩ | ⟨i, j, hi, hj, a, b, e⟩) (⟨e', a', b'⟩ | ⟨i', j', hi', hj', a', b', e'⟩)
  ·omega
  ·have := g1.one a a'; omega
  ·have := g1.one a a'; omega
  have := g1.one a a'; have := g2.one b b'; omega
 rf := fun c => ⟨g1.rf _, g2.rf _⟩
 tr := by
  have key : ∀ {p : Nat} {c : α × β}, elC el1 el2 p c → ∃ i j, el1 i c.1 ∧ el2 j c.2 := by
   rintro p c (⟨e, a, b⟩ | ⟨i, j, hi, hj, a, b, e⟩)
   ·exact ⟨0, 0, a, b⟩
   exact ⟨i, j, a, b⟩
  intro p q r c d e h h' h'' l l'
  obtain ⟨_, _, a, b⟩ := key h
  obtain ⟨_, _, a', b'⟩ := key h'
  obtain ⟨_, _, a'', b''⟩ := key h''
  exact ⟨g1.tr a a' a'' l.1 l'.1, g2.tr b b' b'' l.2 l'.2⟩
 st := by
  rintro p q c d (⟨e, a, b⟩ | ⟨i, j, hi, hj, a, b, e⟩) (⟨e', a', b'⟩ | ⟨i', j', hi', hj', a', b', e'⟩) h
  ·exact .inl (Prod.ext ((g1.lv a a' h.1).2 O) ((g2.lv b b' h.2).2 O))
  ·exact .inr (by omega)
  ·have := (g1.lv a a' h.1).1; omega
  have h1 := g1.lv a a' h.1
  have h2 := g2.lv b b' h.2
  by_cases q : i = i' ∧ j = j'
  ·exact .inl (Prod.ext (h1.2 q.1) (h2.2 q.2))
  exact .inr (by omega)
 btw := by
  rintro p q c d (⟨e, a, b⟩ | ⟨i, j, hi, hj, a, b, e⟩) (⟨e', a', b'⟩ | ⟨i', j', hi', hj', a', b', e'⟩) h hpq
  ·omega
  ·obtain ⟨v, hv, lv⟩ := g1.vtx a' hi'
   obtain ⟨w, hw, lw⟩ := g2.vtx b' hj'
   obtain ⟨o1, h1, k1⟩ := g1.bot
   obtain ⟨o2, h2, k2⟩ := g2.bot
   have e1 := (k1 0 _ a).2 O
   have e2 := (k2 0 _ b).2 O
   exact ⟨(v, w), .inr ⟨1, 1, by omega, by omega, hv, hw, by omega⟩, ⟨by rw [e1]; exact (k1 1 v hv).1, by rw [e2]; exact (k2 1 w hw).1⟩, ⟨lv, lw⟩⟩
  ·omega
  have h1 := g1.lv a a' h.1
  have h2 := g2.lv b b' h.2
  by_cases q1 : i + 1 < i'
  ·obtain ⟨x, hx, x1, x2⟩ := g1.btw a a' h.1 q1
   exact ⟨(x, c.2), .inr ⟨i + 1, j, by omega, hj, hx, b, by omega⟩, ⟨x1, g2.rf _⟩, ⟨x2, h.2⟩⟩
  by_cases q2 : i + 1 = i'
  ·exact ⟨(d.1, c.2), .inr ⟨i', j, hi', hj, a', b, by omega⟩, ⟨h.1, g2.rf _⟩, ⟨g1.rf _, h.2⟩⟩
  obtain ⟨x, hx, x1, x2⟩ := g2.btw b b' h.2 (by omega)
  exact ⟨(c.1, x), .inr ⟨i, j + 1, hi, by omega, a, hx, by omega⟩, ⟨g1.rf _, x1⟩, ⟨h.1, x2⟩⟩
 bnd := by
  rintro p c (⟨e, a, b⟩ | ⟨i, j, hi, hj, a, b, e⟩)
  ·omega
  have := g1.bnd a; have := g2.bnd b; omega
 bot := by
  obtain ⟨o1, h1, k1⟩ := g1.bot
  obtain ⟨o2, h2, k2⟩ := g2.bot
  refine ⟨(o1, o2), .inl ⟨O, h1, h2⟩, ?_⟩
  rintro p c (⟨e, a, b⟩ | ⟨i, j, hi, hj, a, b, e⟩)
  ·exact ⟨⟨(k1 _ _ a).1, (k2 _ _ b).1⟩, fun _ => Prod.ext ((k1 _ _ a).2 O) ((k2 _ _ b).2 O)⟩
  exact ⟨⟨(k1 _ _ a).1, (k2 _ _ b).1⟩, by omega⟩
 top := by
  obtain ⟨o1, h1, k1⟩ := g1.top
  obtain ⟨o2, h2, k2⟩ := g2.top
  refine ⟨(o1, o2), .inr ⟨N1, N2, n1, n2, h1, h2, by omega⟩, ?_⟩
  rintro p c (⟨e, a, b⟩ | ⟨i, j, hi, hj, a, b, e⟩)
  ·exact ⟨⟨(k1 _ _ a).1, (k2 _ _ b).1⟩, by omega⟩
  have := g1.bnd a; have := g2.bnd b
  exact ⟨⟨(k1 _ _ a).1, (k2 _ _ b).1⟩, fun _ => Prod.ext ((k1 _ _ a).2 (by omega)) ((k2 _ _ b).2 (by omega))⟩
theorem cartC (g1 : GrP N1 el1 le1) (g2 : GrP N2 el2 le2) (hc1 : SecC el1 le1) (hc2 : SecC el2 le2) : SecC (elC el1 el2) (leP le1 le2) := by
 rintro p q ⟨a1, a2⟩ ⟨b1, b2⟩ ha hb h hpq r t ⟨c1, c2⟩ ⟨d1, d2⟩ ⟨c3, c4, hc, c5, c6⟩ ⟨d3, d4, hd, d5, d6⟩
 rcases hb with ⟨e, _, _⟩ | ⟨i1, j1, hi1, hj1, hb1, hb2, e⟩
 ·omega
 rcases hc with ⟨e2, _, _⟩ | ⟨i, j, hi, hj, hc, hc', e2⟩
 ·omega
 rcases hd with ⟨e3, _, _⟩ | ⟨k, l, hk, hl, hd, hd', e3⟩
 ·omega
 obtain rfl : q = i1 + j1 - 1 := by omega
 obtain rfl : r = i + j - 1 := by omega
 obtain rfl : t = k + l - 1 := by omega
 rcases ha with ⟨e1, ha1, ha2⟩ | ⟨i0, j0, hi0, hj0, ha1, ha2, e1⟩
 ·subst e1
  replace ha1 : el1 0 a1 := ha1; replace ha2 : el2 0 a2 := ha2
  replace hb1 : el1 i1 b1 := hb1; replace hb2 : el2 j1 b2 := hb2
  replace hc : el1 i c1 := hc; replace hc' : el2 j c2 := hc'
  replace hd : el1 k d1 := hd; replace hd' : el2 l d2 := hd'
  obtain ⟨o1, ho1, k1⟩ := g1.bot
  obtain ⟨o2, ho2, k2⟩ := g2.bot
  have x1 := (k1 0 _ ha1).2 O
  have x2 := (k2 0 _ ha2).2 O
  subst x1; subst x2
  have inz : ∀ {i j : Nat} {c1 : α} {c2 : β}, 1 ≤ i → 1 ≤ j → el1 i c1 → el2 j c2 → le1 c1 b1 → le2 c2 b2 → i + j < i1 + j1 → InZ (elC el1 el2) (leP le1 le2) 0 (i1 + j1 - 1) (a1, a2) (b1, b2) (i + j - 1) (c1, c2) := fun hi hj h h' l l' hs => ⟨by omega, by omega, .inr ⟨_, _, hi, hj, h, h', by omega⟩, ⟨(k1 _ _ h).1, (k2 _ _ h').1⟩, ⟨l, l'⟩⟩
  by_cases q1 : i1 = 1
  ·have f : ∀ {i : Nat} {c : α}, 1 ≤ i → el1 i c → le1 c b1 → c = b1 ∧ i = 1 := fun hi h h' => by
    have := g1.lv h hb1 h'
    exact ⟨this.2 (by omega), by omega⟩
   obtain ⟨rfl, rfl⟩ := f hi hc c6.1
   obtain ⟨rfl, rfl⟩ := f hk hd d6.1
   have key := hc2 0 j1 a2 b2 ha2 hb2 (k2 _ _ hb2).1 (by omega) j l c2 d2 ⟨by omega, by omega, hc', (k2 _ _ hc').1, c6.2⟩ ⟨by omega, by omega, hd', (k2 _ _ hd').1, d6.2⟩
   clear hd hd' d3 d4 d5 d6 hl e3
   induction key with
   | refl => exact .refl
   | step _ y1 y2 y3 y4 y5 y6 ih =>
    refine ih.trans (.one (inz (by omega) (by omega) hc y3 c6.1 y5 (by omega)) ?_)
    exact y6.imp (fun h => ⟨g1.rf _, h⟩) (fun h => ⟨g1.rf _, h⟩)
  by_cases q2 : j1 = 1
  ·have f : ∀ {i : Nat} {c : β}, 1 ≤ i → el2 i c → le2 c b2 → c = b2 ∧ i = 1 := fun hi h h' => by
    have := g2.lv h hb2 h'
    exact ⟨this.2 (by omega), by omega⟩
   obtain ⟨rfl, rfl⟩ := f hj hc' c6.2
   obtain ⟨rfl, rfl⟩ := f hl hd' d6.2
   have key := hc1 0 i1 a1 b1 ha1 hb1 (k1 _ _ hb1).1 (by omega) i k c1 d1 ⟨by omega, by omega, hc, (k1 _ _ hc).1, c6.1⟩ ⟨by omega, by omega, hd, (k1 _ _ hd).1, d6.1⟩
   clear hd hd' d3 d4 d5 d6 hk e3
   induction key with
   | refl => exact .refl
   | step _ y1 y2 y3 y4 y5 y6 ih =>
    refine ih.trans (.one (inz (by omega) (by omega) y3 hc' y5 c6.2 (by omega)) ?_)
    exact y6.imp (fun h => ⟨h, g2.rf _⟩) (fun h => ⟨h, g2.rf _⟩)
  obtain ⟨v0, hv0, lv0⟩ := g1.vtx hb1 hi1
  obtain ⟨w0, hw0, lw0⟩ := g2.vtx hb2 hj1
  have it := inz hi1 (Nat.le_refl 1) hb1 hw0 (g1.rf _) lw0 (by omega)
  have to1 : ∀ {i j : Nat} {c1 : α} {c2 : β}, 1 ≤ i → 1 ≤ j → el1 i c1 → el2 j c2 → le1 c1 b1 → le2 c2 b2 → i < i1 → CnZ (elC el1 el2) (leP le1 le2) 0 (i1 + j1 - 1) (a1, a2) (b1, b2) (i + j - 1) (c1, c2) (i1 + 1 - 1) (b1, w0) := fun {i j c1 c2} hi hj h h' l l' hs => by
   refine (CnZ.one (c := (c1, c2)) (inz hi hj1 h hb2 l (g2.rf _) (by omega)) (.inl ⟨g1.rf _, l'⟩)).trans ((CnZ.one (c := (c1, b2)) (inz hi (Nat.le_refl 1) h hw0 l lw0 (by omega)) (.inr ⟨g1.rf _, lw0⟩)).trans ?_)
   exact CnZ.one (c := (c1, w0)) it (.inl ⟨l, g2.rf _⟩)
  have to2 : ∀ {i j : Nat} {c1 : α} {c2 : β}, 1 ≤ i → 1 ≤ j → el1 i c1 → el2 j c2 → le1 c1 b1 → le2 c2 b2 → i + j < i1 + j1 → CnZ (elC el1 el2) (leP le1 le2) 0 (i1 + j1 - 1) (a1, a2) (b1, b2) (i + j - 1) (c1, c2) (i1 + 1 - 1) (b1, w0) := fun {i j c1 c2} hi hj h h' l l' hs => by
   have g := g1.lv h hb1 l
   by_cases q : i < i1
   ·exact to1 hi hj h h' l l' q
   ·have : c1 = b1 := g.2 (by omega)
    subst this
    refine (CnZ.one (c := (c1, c2)) (inz (Nat.le_refl 1) hj hv0 h' lv0 l' (by omega)) (.inr ⟨lv0, g2.rf _⟩)).trans ?_
    exact to1 (Nat.le_refl 1) hj hv0 h' lv0 l' (by omega)
  exact (to2 hi hj hc hc' c6.1 c6.2 (by omega)).trans ((to2 hk hl hd hd' d6.1 d6.2 (by omega)).symm (inz hk hl hd hd' d6.1 d6.2 (by omega)))
 ·replace ha1 : el1 i0 a1 := ha1; replace ha2 : el2 j0 a2 := ha2
  obtain rfl : p = i0 + j0 - 1 := by omega
  exact box_conn (s := 1) g1 g2 hc1 hc2 ha1 ha2 hb1 hb2 h.1 h.2 (by omega) (by omega) (fun i j x y hx hy l1 l2 => .inr ⟨i, j, by have := (g1.lv ha1 hx l1).1; omega, by have := (g2.lv ha2 hy l2).1; omega, hx, hy, by have := (g1.lv ha1 hx l1).1; omega⟩) ⟨hc, hc', c5.1, c6.1, c5.2, c6.2⟩ ⟨hd, hd', d5.1, d6.1, d5.2, d6.2⟩ (by omega) (by omega)
/-! upside down -/
def elD (N : Nat) (el : Nat → α → Prop) (p : Nat) (a : α) : Prop := p ≤ N ∧ el (N - p) a
def leD (le : α → α → Prop) (a b : α) : Prop := le b a
theorem GrP.dual (g : GrP N el le) : GrP N (elD N el) (leD le) where
 one := fun ⟨h, a⟩ ⟨h', a'⟩ => by have := g.one a a'; omega
 rf := fun a => g.rf a
 tr := fun ⟨_, a⟩ ⟨_, b⟩ ⟨_, c⟩ h h' => g.tr c b a h' h
 st := fun ⟨_, a⟩ ⟨_, b⟩ h => by
  rcases g.st b a h with e | e
  ·exact .inl e.symm
  exact .inr (by omega)
 btw := fun {i j a b} ⟨h1, ha⟩ ⟨h2, hb⟩ h hij => by
  obtain ⟨z, hz, e1, e2⟩ := g.chain hb ha h (by omega)
  refine ⟨z (N - (i + 1)), ⟨by omega, hz.1 _ (by omega) (by omega)⟩, ?_, ?_⟩
  ·show le _ a
   rw [← e2]; exact hz.mon g (by omega) (by omega) (Nat.le_refl _)
  show le b _
  rw [← e1]; exact hz.mon g (Nat.le_refl _) (by omega) (by omega)
 bnd := fun h => h.1
 bot := by
  obtain ⟨t, ht, k⟩ := g.top
  exact ⟨t, ⟨Nat.zero_le _, by simpa using ht⟩, fun i a ⟨hi, ha⟩ => ⟨(k _ a ha).1, fun e => (k _ a ha).2 (by omega)⟩⟩
 top := by
  obtain ⟨o, ho, k⟩ := g.bot
  exact ⟨o, ⟨Nat.le_refl _, by simpa using ho⟩, fun i a ⟨hi, ha⟩ => ⟨(k _ a ha).1, fun e => (k _ a ha).2 (by omega)⟩⟩
theorem SecC.dual (g : GrP N el le) (h : SecC el le) : SecC (elD N el) (leD le) := by
 rintro i j a b ⟨hi, ha⟩ ⟨hj, hb⟩ hab hij p q c d ⟨c1, c2, ⟨_, c3⟩, c4, c5⟩ ⟨d1, d2, ⟨_, d3⟩, d4, d5⟩
 have key := h (N - j) (N - i) b a hb ha hab (by omega) (N - p) (N - q) c d ⟨by omega, by omega, c3, c5, c4⟩ ⟨by omega, by omega, d3, d5, d4⟩
 obtain ⟨r, hr⟩ : ∃ r, r = N - q := ⟨_, rfl⟩
 rw [← hr] at key
 have gen : ∀ r e, CnZ el le (N - j) (N - i) b a (N - p) c r e → r ≤ N → CnZ (elD N el) (leD le) i j a b p c (N - r) e := by
  intro r e hh
  induction hh with
  | refl => intro _; rw [show N - (N - p) = p by omega]; exact .refl
  | @step q' r' d' e' h0 k1 k2 k3 k4 k5 k6 ih =>
   intro hr'
   have hin := h0.end_ ⟨by omega, by omega, c3, c5, c4⟩
   have := g.bnd hin.2.2.1
   exact .step (ih this) (by omega) (by omega) ⟨by omega, by rw [show N - (N - r') = r' by omega]; exact k3⟩ k5 k4 k6.symm
 have := gen r d key (by omega)
 rwa [show N - r = q by omega] at this
end
/-
 Plain mathematics: labels of the parts into which points that hang together fall; flags that hang together.
-/
/-! labels: a point has the least one of its part -/
structure Per (N : Nat) (K : Nat → Nat → Prop) : Prop where
 sym : ∀ a b, K a b → K b a
 trn : ∀ a b c, K a b → K b c → K a c
 rng : ∀ a b, K a b → a < N ∧ b < N
def LblP (N : Nat) (K : Nat → Nat → Prop) (f : Nat) (L : List Int) : Prop :=
 L.length = N ∧ ∀ x : Nat, x < N → (0 ≤ gi L (x : Int) → ∃ r : Nat, gi L (x : Int) = r ∧ r < f ∧ K r x ∧ ∀ c, K c x → r ≤ c) ∧ (gi L (x : Int) < 0 → gi L (x : Int) = -1 ∧ ∀ c, c < f → ¬ K c x)
theorem LblP.zero (N : Nat) (K : Nat → Nat → Prop) : LblP N K 0 (List.replicate N (-1)) :=
 ⟨by simp, fun x hx => by
  rw [gi_rep (by omega) (by omega)]
  exact ⟨fun h => absurd h (by omega), fun _ => ⟨O, fun c hc => absurd hc (by omega)⟩⟩⟩
theorem LblP.skip {N : Nat} {K : Nat → Nat → Prop} (hK : Per N K) {f : Nat} {L : List Int} (h : LblP N K f L) (hf : f < N) (h0 : 0 ≤ gi L (f : Int) ∨ ¬ K f f) : LblP N K (f + 1) L := by
 refine ⟨h.1, fun x hx => ⟨fun h1 => ?_, fun h1 => ?_⟩⟩
 ·obtain ⟨r, h2, h3, h4⟩ := (h.2 x hx).1 h1
  exact ⟨r, h2, by omega, h4⟩
 obtain ⟨h2, h3⟩ := (h.2 x hx).2 h1
 refine ⟨h2, fun c hc hk => ?_⟩
 by_cases e : c = f
 ·subst e
  rcases h0 with h0 | h0
  ·obtain ⟨r, h4, h5, h6, _⟩ := (h.2 c hf).1 h0
   exact h3 r h5 (hK.trn _ _ _ h6 hk)
  exact h0 (hK.trn _ _ _ hk (hK.sym _ _ hk))
 exact h3 c (by omega) hk
theorem LblP.paint {N : Nat} {K : Nat → Nat → Prop} (hK : Per N K) {f : Nat} {L L' : List Int} (h : LblP N K f L) (hf : f < N) (h0 : gi L (f : Int) < 0) (hl : L'.length = N) (hp : ∀ x : Nat, x < N → (K f x → gi L' (x : Int) = f) ∧ (¬ K f x → gi L' (x : Int) = gi L (x : Int))) : LblP N K (f + 1) L' := by
 refine ⟨hl, fun x hx => ?_⟩
 have h9 := (h.2 f hf).2 h0
 by_cases hk : K f x
 ·rw [(hp x hx).1 hk]
  refine ⟨fun _ => ⟨f, O, by omega, hk, fun c hc => ?_⟩, fun h => absurd h (by omega)⟩
  refine Nat.le_of_not_lt fun hlt => h9.2 c hlt (hK.trn _ _ _ hc (hK.sym _ _ hk))
 rw [(hp x hx).2 hk]
 refine ⟨fun h1 => ?_, fun h1 => ?_⟩
 ·obtain ⟨r, h2, h3, h4⟩ := (h.2 x hx).1 h1
  exact ⟨r, h2, by omega, h4⟩
 obtain ⟨h2, h3⟩ := (h.2 x hx).2 h1
 refine ⟨h2, fun c hc hk2 => ?_⟩
 by_cases e : c = f
 ·subst e; exact hk hk2
 exact h3 c (by omega) hk2
theorem LblP.done {N : Nat} {K : Nat → Nat → Prop} (hK : Per N K) {L : List Int} (h : LblP N K N L) {a b : Nat} (ha : K a a) (hb : K b b) : gi L (a : Int) = gi L (b : Int) ↔ K a b := by
 have get : ∀ x, K x x → ∃ r : Nat, gi L (x : Int) = r ∧ K r x ∧ ∀ c, K c x → r ≤ c := fun x hx => by
  have hxN := (hK.rng _ _ hx).1
  rcases Int.lt_or_le (gi L (x : Int)) 0 with h1 | h1
  ·exact absurd hx (((h.2 x hxN).2 h1).2 x hxN)
  obtain ⟨r, h2, _, h4, h5⟩ := (h.2 x hxN).1 h1
  exact ⟨r, h2, h4, h5⟩
 obtain ⟨r, h1, h2, h3⟩ := get a ha
 obtain ⟨s, h4, h5, h6⟩ := get b hb
 rw [h1, h4]
 constructor
 ·intro e
  obtain rfl : r = s := by omega
  exact hK.trn _ _ _ (hK.sym _ _ h2) h5
 intro hk
 have h7 := h3 s (hK.trn _ _ _ h5 (hK.sym _ _ hk))
 have h8 := h6 r (hK.trn _ _ _ h2 hk)
 omega
/-! flags -/
def AdjP (n : Nat) (fl : List (List Int)) (i a b : Nat) : Prop := a < fl.length ∧ b < fl.length ∧ ∀ k : Nat, k < n → k ≠ i → gi (gl fl (a : Int)) (k : Int) = gi (gl fl (b : Int)) (k : Int)
theorem AdjP.symm {n : Nat} {fl : List (List Int)} {i a b : Nat} (h : AdjP n fl i a b) : AdjP n fl i b a := ⟨h.2.1, h.1, fun k hk hne => (h.2.2 k hk hne).symm⟩
inductive LnkP (n : Nat) (fl : List (List Int)) (S : Nat → Prop) (a : Nat) : Nat → Prop where
 | refl : a < fl.length → LnkP n fl S a a
 | step {b c i : Nat} : LnkP n fl S a b → i < n → ¬ S i → AdjP n fl i b c → LnkP n fl S a c
theorem LnkP.trans {n : Nat} {fl : List (List Int)} {S : Nat → Prop} {a b c : Nat} (h : LnkP n fl S a b) (h' : LnkP n fl S b c) : LnkP n fl S a c := by
 induction h' with
 | refl => exact h
 | step _ hi hs ha ih => exact .step ih hi hs ha
theorem LnkP.rng {n : Nat} {fl : List (List Int)} {S : Nat → Prop} {a b : Nat} (h : LnkP n fl S a b) : a < fl.length ∧ b < fl.length := by
 induction h with
 | refl h => exact ⟨h, h⟩
 | step _ _ _ ha ih => exact ⟨ih.1, ha.2.1⟩
theorem LnkP.symm {n : Nat} {fl : List (List Int)} {S : Nat → Prop} {a b : Nat} (h : LnkP n fl S a b) : LnkP n fl S b a := by
 induction h with
 | refl h => exact .refl h
 | step h hi hs ha ih => exact (LnkP.step (.refl ha.2.1) hi hs ha.symm).trans ih
theorem LnkP.keep {n : Nat} {fl : List (List Int)} {S : Nat → Prop} {a b : Nat} (h : LnkP n fl S a b) : ∀ k : Nat, k < n → S k → gi (gl fl (b : Int)) (k : Int) = gi (gl fl (a : Int)) (k : Int) := by
 induction h with
 | refl h => exact fun _ _ _ => rfl
 | step h hi hs ha ih =>
  intro k hk hS
  rw [← ha.2.2 k hk (fun e => hs (e ▸ hS)), ih k hk hS]
def ConP (n : Nat) (fl : List (List Int)) : Prop := ∀ a b : Nat, a < b → b < fl.length → LnkP n fl (fun k => gi (gl fl (a : Int)) (k : Int) = gi (gl fl (b : Int)) (k : Int)) a b
/-! a search -/
structure Srch (N : Nat) (K A : Nat → Nat → Prop) (f : Nat) (L0 L : List Int) (Q : List Nat) (k : Nat) : Prop where
 len : L.length = N
 in_ : ∀ x ∈ Q, x < N ∧ gi L0 (x : Int) < 0 ∧ K f x
 lab : ∀ x : Nat, x < N → gi L (x : Int) = if x ∈ Q then (f : Int) else gi L0 (x : Int)
 root : f ∈ Q
 kle : k ≤ Q.length
 done : ∀ p, p < k → ∀ y, A (Q.getD p 0) y → 0 ≤ gi L (y : Int)
 nd : Q.Nodup
theorem Srch.meet {N : Nat} {K A : Nat → Nat → Prop} {f : Nat} {L0 L : List Int} {Q : List Nat} {k : Nat} (h : Srch N K A f L0 L Q k) {y : Nat} (hy : y < N) (hl : gi L (y : Int) < 0) (hk : K f y) : Srch N K A f L0 (L.set y (f : Int)) (Q ++ [y]) k := by
 have hyQ : y ∉ Q := fun hm => by
  have := h.lab y hy
  rw [if_pos hm] at this; omega
 have e : ∀ x : Nat, x < N → gi (L.set y (f : Int)) (x : Int) = if x = y then (f : Int) else gi L (x : Int) := fun x hx => by
  have := gi_set (S := L) (x := (y : Int)) (y := (x : Int)) (b := (f : Int)) (by omega) (by rw [h.len]; omega) (by omega)
  rw [Int.toNat_natCast] at this
  rw [this]
  by_cases e : x = y
  ·subst e; simp
  rw [if_neg e, if_neg (by omega)]
 have hl0 : gi L0 (y : Int) < 0 := by
  have := h.lab y hy
  rw [if_neg hyQ] at this; omega
 refine ⟨by rw [List.length_set]; exact h.len, fun x hx => ?_, fun x hx => ?_, List.mem_append_left _ h.root, by rw [List.length_append]; have := h.kle; omega, fun p hp z hz => ?_, List.nodup_append.2 ⟨h.nd, by simp, fun a ha b hb e => hyQ (by rw [← List.mem_singleton.1 hb, ← e]; exact ha)⟩⟩
 ·rcases List.mem_append.1 hx with hx | hx
  ·exact h.in_ x hx
  obtain rfl := List.mem_singleton.1 hx
  exact ⟨hy, hl0, hk⟩
 ·rw [e x hx]
  by_cases ex : x = y
  ·subst ex; simp
  rw [if_neg ex, h.lab x hx]
  simp [ex]
 have hk := h.kle
 rw [List.getD_eq_getElem?_getD, List.getElem?_append_left (by omega), ← List.getD_eq_getElem?_getD] at hz
 have h2 := h.done p hp z hz
 by_cases hzN : z < N
 ·rw [e z hzN]
  split <;> omega
 have : gi L (z : Int) = gi (L.set y (f : Int)) (z : Int) := by
  simp [gi, List.getD_eq_getElem?_getD, List.getElem?_eq_none (show L.length ≤ z by rw [h.len]; omega), List.getElem?_eq_none (show (L.set y (f : Int)).length ≤ z by rw [List.length_set, h.len]; omega)]
 omega
theorem Srch.next {N : Nat} {K A : Nat → Nat → Prop} {f : Nat} {L0 L : List Int} {Q : List Nat} {k : Nat} (h : Srch N K A f L0 L Q k) (hk : k < Q.length) (hd : ∀ y, A (Q.getD k 0) y → 0 ≤ gi L (y : Int)) : Srch N K A f L0 L Q (k + 1) :=
 ⟨h.len, h.in_, h.lab, h.root, hk, fun p hp y hy => by
  by_cases e : p = k
  ·subst e; exact hd y hy
  exact h.done p (by omega) y hy, h.nd⟩
theorem Srch.qlen {N : Nat} {K A : Nat → Nat → Prop} {f : Nat} {L0 L : List Int} {Q : List Nat} {k : Nat} (h : Srch N K A f L0 L Q k) : Q.length ≤ N := nodup_le N Q h.nd fun x hx => (h.in_ x hx).1
theorem Srch.start {N : Nat} {K A : Nat → Nat → Prop} {f : Nat} {L0 : List Int} (hl : L0.length = N) (hf : f < N) (h0 : gi L0 (f : Int) < 0) (hk : K f f) : Srch N K A f L0 (L0.set f (f : Int)) [f] 0 := by
 refine ⟨by simp [hl], fun x hx => ?_, fun x hx => ?_, by simp, Nat.zero_le _, fun p hp => absurd hp (by omega), by simp⟩
 ·obtain rfl := List.mem_singleton.1 hx
  exact ⟨hf, h0, hk⟩
 have := gi_set (S := L0) (x := (f : Int)) (y := (x : Int)) (b := (f : Int)) (by omega) (by rw [hl]; omega) (by omega)
 rw [Int.toNat_natCast] at this
 rw [this]
 by_cases e : x = f
 ·subst e; simp
 rw [if_neg (by omega), if_neg (by simpa using e)]
theorem Srch.end_ {N : Nat} {K A : Nat → Nat → Prop} (hK : Per N K) {f : Nat} {L0 L : List Int} {Q : List Nat} (h : Srch N K A f L0 L Q Q.length) (hL : LblP N K f L0) (hf : f < N) (h0 : gi L0 (f : Int) < 0) (hA : ∀ S : Nat → Prop, S f → (∀ x y, S x → K f x → A x y → S y) → ∀ x, K f x → S x) (hAK : ∀ x y, A x y → K x y) : LblP N K (f + 1) L := by
 have hQ : ∀ x, K f x → x ∈ Q := hA (fun x => x ∈ Q) h.root fun x y hx hkx ha => by
  obtain ⟨p, hp, e⟩ := List.mem_iff_getElem.1 hx
  have e2 : Q.getD p 0 = x := by rw [List.getD_eq_getElem?_getD, List.getElem?_eq_getElem hp]; exact e
  have h1 := h.done p hp y (by rw [e2]; exact ha)
  have hk := hAK x y ha
  have hyN := (hK.rng _ _ hk).2
  refine Classical.byContradiction fun hn => ?_
  have h2 := h.lab y hyN
  rw [if_neg hn] at h2
  obtain ⟨r, _, h3, h4, _⟩ := (hL.2 y hyN).1 (by omega)
  exact ((hL.2 f hf).2 h0).2 r h3 (hK.trn _ _ _ (hK.trn _ _ _ h4 (hK.sym _ _ hk)) (hK.sym _ _ hkx))
 refine hL.paint hK hf h0 h.len fun x hx => ⟨fun hk => ?_, fun hk => ?_⟩
 ·rw [h.lab x hx, if_pos (hQ x hk)]
 rw [h.lab x hx, if_neg fun hm => hk (h.in_ x hm).2.2]
/-
 Plain mathematics of posets: in a poset with diamonds each flag has one neighbour for each rank; the maniplex of the flags.
-/
theorem flg_at {n : Nat} {R : List Int} {B : List (List Int)} (hn : 1 ≤ n) {a : Nat} (ha : a < (flgP n R B).length) : (gl (flgP n R B) (a : Int)).length = n ∧ (∀ i : Nat, i < n → (0 ≤ gi (gl (flgP n R B) (a : Int)) (i : Int) ∧ gi (gl (flgP n R B) (a : Int)) (i : Int) < R.length) ∧ gi R (gi (gl (flgP n R B) (a : Int)) (i : Int)) = i) ∧ ∀ i : Nat, i + 1 < n → gi (gl (flgP n R B) (a : Int)) (i : Int) ∈ gl B (gi (gl (flgP n R B) (a : Int)) ((i + 1 : Nat) : Int)) := (flgP_mem hn).1 (by rw [gl_mem ha]; exact List.getElem_mem _)
theorem list_gi {n : Nat} {x y : List Int} (hx : x.length = n) (hy : y.length = n) (h : ∀ i : Nat, i < n → gi x (i : Int) = gi y (i : Int)) : x = y :=
 List.ext_getElem (by omega) fun i h1 h2 => by
  have := h i (by omega)
  rwa [gi_mem h1, gi_mem h2] at this
theorem flg_inj {n : Nat} {R : List Int} {B : List (List Int)} {a b : Nat} (ha : a < (flgP n R B).length) (hb : b < (flgP n R B).length) (h : gl (flgP n R B) (a : Int) = gl (flgP n R B) (b : Int)) : a = b := by
 rw [gl_mem ha, gl_mem hb] at h
 exact (List.getElem_inj (flgP_SL n R B).nodup).1 h
theorem flg_nb {n : Nat} {R : List Int} {B : List (List Int)} (hP : PosP n R B) (hD : DiaP n R B) {a i : Nat} (ha : a < (flgP n R B).length) (hi : i < n) : ∃ b : Nat, b ≠ a ∧ ∀ c : Nat, (AdjP n (flgP n R B) i a c ∧ c ≠ a) ↔ c = b := by
 have hn : 1 ≤ n := by have := hP.n1; omega
 obtain ⟨hl, hr, hc⟩ := flg_at hn ha
 generalize hx : gl (flgP n R B) (a : Int) = x at hl hr hc
 have hlo : LoP R (i : Int) (if i = 0 then -1 else gi x ((i - 1 : Nat) : Int)) := by
  by_cases e : i = 0
  ·rw [if_pos e]; exact .inl ⟨rfl, by omega⟩
  rw [if_neg e]
  have := hr (i - 1) (by omega)
  exact .inr ⟨this.1, by omega, by rw [this.2]; omega⟩
 have hhi : HiP (n : Int) R (i : Int) (if i = n - 1 then -1 else gi x ((i + 1 : Nat) : Int)) := by
  by_cases e : i = n - 1
  ·rw [if_pos e]; exact .inl ⟨rfl, by omega⟩
  rw [if_neg e]
  have := hr (i + 1) (by omega)
  exact .inr ⟨this.1, by omega, by rw [this.2]; omega⟩
 have hlh : 0 ≤ (if i = 0 then -1 else gi x ((i - 1 : Nat) : Int)) → 0 ≤ (if i = n - 1 then -1 else gi x ((i + 1 : Nat) : Int)) → (if i = 0 then -1 else gi x ((i - 1 : Nat) : Int)) ∈ gl B (if i = n - 1 then -1 else gi x ((i + 1 : Nat) : Int)) := fun h1 h2 => by
  by_cases e : i = 0
  ·rw [if_pos e] at h1; omega
  by_cases e2 : i = n - 1
  ·rw [if_pos e2] at h2; omega
  rw [if_neg e, if_neg e2]
  have hm1 := hc (i - 1) (by omega)
  have hm2 := hc i (by omega)
  rw [show i - 1 + 1 = i by omega] at hm1
  have hr2 := hr (i + 1) (by omega)
  exact (hP.at_ hr2.1.1 hr2.1.2).2.2 _ hm2 _ hm1
 have h2 := hD (i : Int) _ _ (by omega) (by omega) hlo hhi hlh
 have hset : ∀ d : Int, d ∈ MidP R B (i : Int) (if i = 0 then -1 else gi x ((i - 1 : Nat) : Int)) (if i = n - 1 then -1 else gi x ((i + 1 : Nat) : Int)) ↔ x.set i d ∈ flgP n R B := fun d => by
  rw [MidP_mem, flgP_mem hn]
  have gs : ∀ k : Nat, gi (x.set i d) (k : Int) = if k = i then d else gi x (k : Int) := fun k => by
   have := gi_set (S := x) (x := (i : Int)) (y := (k : Int)) (b := d) (by omega) (by omega) (by omega)
   rw [Int.toNat_natCast] at this
   rw [this]
   by_cases e : k = i
   ·subst e; simp
   rw [if_neg e, if_neg (by omega)]
  constructor
  ·rintro ⟨hd, rd, u, v⟩
   refine ⟨by rw [List.length_set]; exact hl, fun k hk => ?_, fun k hk => ?_⟩
   ·rw [gs k]
    by_cases e : k = i
    ·rw [if_pos e, e]; exact ⟨hd, rd⟩
    rw [if_neg e]; exact hr k hk
   rw [gs k, gs (k + 1)]
   by_cases e : k = i
   ·rw [if_pos e, if_neg (by omega)]
    rw [if_neg (by omega)] at v
    have := hr (i + 1) (by omega)
    rw [e]
    exact v.resolve_left (by omega)
   rw [if_neg e]
   by_cases e2 : k + 1 = i
   ·rw [if_pos e2]
    rw [if_neg (by omega), show i - 1 = k by omega] at u
    have := hr k (by omega)
    exact u.resolve_left (by omega)
   rw [if_neg e2]; exact hc k hk
  rintro ⟨_, h3, h4⟩
  have h5 := h3 i hi
  rw [gs i, if_pos rfl] at h5
  refine ⟨h5.1, h5.2, ?_, ?_⟩
  ·by_cases e : i = 0
   ·left; rw [if_pos e]; omega
   right
   rw [if_neg e]
   have h6 := h4 (i - 1) (by omega)
   rw [gs (i - 1), show i - 1 + 1 = i by omega, gs i, if_neg (show ¬ i - 1 = i by omega), if_pos rfl] at h6
   exact h6
  by_cases e : i = n - 1
  ·left; rw [if_pos e]; omega
  right
  rw [if_neg e]
  have h6 := h4 i (by omega)
  rw [gs i, gs (i + 1), if_pos rfl, if_neg (by omega)] at h6
  exact h6
 obtain ⟨p, q, hpq, hm⟩ := two_of (MidP_nodup _ _ _ _ _) h2
 have hself : gi x (i : Int) = p ∨ gi x (i : Int) = q := (hm _).1 ((hset _).2 (by
  have e : x.set i (gi x (i : Int)) = x := by
   rw [gi_mem (by omega)]
   exact List.set_getElem_self _
  rw [e, ← hx, gl_mem ha]; exact List.getElem_mem _))
 obtain ⟨d, hd, hdi⟩ : ∃ d, d ≠ gi x (i : Int) ∧ ∀ c, (c = p ∨ c = q) ↔ (c = gi x (i : Int) ∨ c = d) := by
  rcases hself with h | h
  ·exact ⟨q, fun e => hpq (by rw [← h, e]), fun c => by rw [h]⟩
  exact ⟨p, fun e => hpq (by rw [← h, e]), fun c => by rw [h]; exact or_comm⟩
 have hdm : x.set i d ∈ flgP n R B := (hset d).1 ((hm d).2 ((hdi d).2 (.inr O)))
 obtain ⟨b, hb, eb⟩ := List.mem_iff_getElem.1 hdm
 have ebl : gl (flgP n R B) (b : Int) = x.set i d := by rw [gl_mem hb]; exact eb
 have gsd : ∀ (d : Int) (k : Nat), gi (x.set i d) (k : Int) = if k = i then d else gi x (k : Int) := fun d k => by
  have := gi_set (S := x) (x := (i : Int)) (y := (k : Int)) (b := d) (by omega) (by omega) (by omega)
  rw [Int.toNat_natCast] at this
  rw [this]
  by_cases e : k = i
  ·subst e; simp
  rw [if_neg e, if_neg (by omega)]
 have hba : b ≠ a := fun e => by
  subst e
  rw [hx] at ebl
  have := gsd d i
  rw [← ebl, if_pos rfl] at this
  exact hd this.symm
 refine ⟨b, hba, fun c => ⟨fun ⟨⟨_, hcl, hag⟩, hca⟩ => ?_, ?_⟩⟩
 ·
  rw [hx] at hag
  obtain ⟨hl2, hr2, hc2⟩ := flg_at hn hcl
  have ec : gl (flgP n R B) (c : Int) = x.set i (gi (gl (flgP n R B) (c : Int)) (i : Int)) := list_gi hl2 (by rw [List.length_set]; exact hl) fun k hk => by
   rw [gsd]
   by_cases e : k = i
   ·rw [if_pos e, e]
   rw [if_neg e]; exact (hag k hk e).symm
  have hcm : x.set i (gi (gl (flgP n R B) (c : Int)) (i : Int)) ∈ flgP n R B := by rw [← ec, gl_mem hcl]; exact List.getElem_mem _
  rcases (hdi _).1 ((hm _).1 ((hset _).2 hcm)) with h | h
  ·exfalso
   refine hca (flg_inj hcl ha ?_)
   rw [ec, h, hx, gi_mem (by omega)]
   exact List.set_getElem_self _
  rw [h] at ec
  exact flg_inj hcl hb (ec.trans ebl.symm)
 rintro rfl
 exact ⟨⟨ha, hb, fun k hk hne => by rw [ebl, hx, gsd, if_neg hne]⟩, hba⟩
/-! the maniplex of flags -/
open Classical in
noncomputable def nbsP (n : Nat) (fl : List (List Int)) (i : Nat) (a : Nat) : List Int := ((List.range fl.length).filter fun b => decide (AdjP n fl i a b ∧ b ≠ a)).map fun b : Nat => (b : Int)
noncomputable def mvP (n : Nat) (fl : List (List Int)) (i : Nat) : List Int := (List.range fl.length).flatMap (nbsP n fl i)
noncomputable def mnP (n : Nat) (fl : List (List Int)) : List (List Int) := (List.range n).map (mvP n fl)
def NbP (n : Nat) (fl : List (List Int)) : Prop := ∀ a i : Nat, a < fl.length → i < n → ∃ b : Nat, b ≠ a ∧ ∀ c : Nat, (AdjP n fl i a c ∧ c ≠ a) ↔ c = b
open Classical in
theorem nbs_one {n : Nat} {fl : List (List Int)} {i a b : Nat} (h : ∀ c : Nat, (AdjP n fl i a c ∧ c ≠ a) ↔ c = b) : nbsP n fl i a = [(b : Int)] := by
 have hb := ((h b).2 O).1.2.1
 have key : ∀ p : Nat → Bool, (∀ c, p c = true ↔ c = b) → ((List.range fl.length).filter p) = [b] := fun p hp => by
  refine List.Perm.eq_singleton ((List.perm_ext_iff_of_nodup (List.nodup_range.filter _) (by simp)).2 fun c => ?_)
  rw [List.mem_filter, List.mem_range, hp c, List.mem_singleton]
  exact ⟨fun h => h.2, fun h => ⟨by rw [h]; exact hb, h⟩⟩
 unfold nbsP
 exact congrArg (List.map fun b : Nat => (b : Int)) (key _ fun c => decide_eq_true_iff.trans (h c))
open Classical in
noncomputable def ptP (n : Nat) (fl : List (List Int)) (i a : Nat) : Nat := if h : ∃ b : Nat, b ≠ a ∧ ∀ c : Nat, (AdjP n fl i a c ∧ c ≠ a) ↔ c = b then h.choose else 0
theorem NbP.pt {n : Nat} {fl : List (List Int)} (h : NbP n fl) {a i : Nat} (ha : a < fl.length) (hi : i < n) : ptP n fl i a ≠ a ∧ ∀ c : Nat, (AdjP n fl i a c ∧ c ≠ a) ↔ c = ptP n fl i a := by
 have he := h a i ha hi
 unfold ptP
 rw [dif_pos he]
 exact he.choose_spec
theorem NbP.lt {n : Nat} {fl : List (List Int)} (h : NbP n fl) {a i : Nat} (ha : a < fl.length) (hi : i < n) : ptP n fl i a < fl.length := (((h.pt ha hi).2 _).2 rfl).1.2.1
theorem NbP.pp {n : Nat} {fl : List (List Int)} (h : NbP n fl) {a i : Nat} (ha : a < fl.length) (hi : i < n) : ptP n fl i (ptP n fl i a) = a := by
 have h1 := ((h.pt ha hi).2 _).2 O
 exact (((h.pt (h.lt ha hi) hi).2 a).1 ⟨h1.1.symm, fun e => (h.pt ha hi).1 e.symm⟩).symm
theorem mv_pt {n : Nat} {fl : List (List Int)} (h : NbP n fl) {i : Nat} (hi : i < n) : mvP n fl i = (List.range fl.length).map fun a => (ptP n fl i a : Int) := by
 unfold mvP
 have e : ∀ l : List Nat, (∀ a ∈ l, a < fl.length) → l.flatMap (nbsP n fl i) = l.map fun a => (ptP n fl i a : Int) := by
  intro l
  induction l with
  | nil => intro _; rfl
  | cons a r ih =>
   intro hl
   rw [List.flatMap_cons, List.map_cons, ih fun b hb => hl b (List.mem_cons_of_mem _ hb), nbs_one (h.pt (hl a (by simp)) hi).2]; rfl
 exact e _ fun a ha => List.mem_range.1 ha
theorem flg_NbP {n : Nat} {R : List Int} {B : List (List Int)} (hP : PosP n R B) (hD : DiaP n R B) : NbP n (flgP n R B) := fun _ _ ha hi => flg_nb hP hD ha hi
/-
 Plain mathematics of posets: what makes a polytope; the program's way to part flags.
-/
def PurP (n : Nat) (R : List Int) (B : List (List Int)) : Prop := ∀ e : Int, 0 ≤ e → e < R.length → ∃ x ∈ flgP n R B, e ∈ x
def PlyP (n : Nat) (R : List Int) (B : List (List Int)) : Prop := flgP n R B ≠ [] ∧ PurP n R B ∧ DiaP n R B ∧ ConP n (flgP n R B)
/-! what two flags have in common -/
def cmnP (a b : List Int) : List Int := (List.range a.length).map fun k : Nat => if gi a (k : Int) = gi b (k : Int) then gi a (k : Int) else -1
theorem cmnP_len (a b : List Int) : (cmnP a b).length = a.length := by simp [cmnP]
theorem cmnP_at {a b : List Int} {k : Nat} (h : k < a.length) : gi (cmnP a b) (k : Int) = if gi a (k : Int) = gi b (k : Int) then gi a (k : Int) else -1 := by
 rw [gi_mem (by rw [cmnP_len]; exact h)]
 simp [cmnP]
def HasP (n : Nat) (c x : List Int) : Prop := ∀ k : Nat, k < n → gi c (k : Int) ≠ -1 → gi c (k : Int) = gi x (k : Int)
instance (n : Nat) (c x : List Int) : Decidable (HasP n c x) := by unfold HasP; infer_instance
def LkH (n : Nat) (fl : List (List Int)) (c : List Int) (a b : Nat) : Prop := HasP n c (gl fl (a : Int)) ∧ LnkP n fl (fun k => gi c (k : Int) ≠ -1) a b
theorem HasP.of {n : Nat} {fl : List (List Int)} {c : List Int} {a b : Nat} (h : HasP n c (gl fl (a : Int))) (h' : LnkP n fl (fun k => gi c (k : Int) ≠ -1) a b) : HasP n c (gl fl (b : Int)) := fun k hk hne => by
 rw [h'.keep k hk hne]; exact h k hk hne
theorem LkH.per (n : Nat) (fl : List (List Int)) (c : List Int) : Per fl.length (LkH n fl c) :=
 ⟨fun _ _ h => ⟨h.1.of h.2, h.2.symm⟩, fun _ _ _ h h' => ⟨h.1, h.2.trans h'.2⟩, fun _ _ h => h.2.rng⟩
theorem cmn_link {n : Nat} {fl : List (List Int)} (hl : ∀ x ∈ fl, x.length = n ∧ ∀ e ∈ x, 0 ≤ e) {a b : Nat} (ha : a < fl.length) (hb : b < fl.length) :
  LkH n fl (cmnP (gl fl (a : Int)) (gl fl (b : Int))) a a ∧ LkH n fl (cmnP (gl fl (a : Int)) (gl fl (b : Int))) b b ∧ (LkH n fl (cmnP (gl fl (a : Int)) (gl fl (b : Int))) a b ↔ LnkP n fl (fun k => gi (gl fl (a : Int)) (k : Int) = gi (gl fl (b : Int)) (k : Int)) a b) := by
 have hxa := hl _ (by rw [gl_mem ha]; exact List.getElem_mem _ : gl fl (a : Int) ∈ fl)
 have hne : ∀ k : Nat, k < n → (gi (cmnP (gl fl (a : Int)) (gl fl (b : Int))) (k : Int) ≠ -1 ↔ gi (gl fl (a : Int)) (k : Int) = gi (gl fl (b : Int)) (k : Int)) := fun k hk => by
  rw [cmnP_at (by omega)]
  have := hxa.2 _ (gi_in (show k < (gl fl (a : Int)).length by omega))
  split
  ·exact ⟨fun _ => by assumption, fun _ => by omega⟩
  ·rename_i h; exact ⟨fun h' => absurd rfl h', fun h' => absurd h' h⟩
 have h1 : HasP n (cmnP (gl fl (a : Int)) (gl fl (b : Int))) (gl fl (a : Int)) := fun k hk h => by
  have := (hne k hk).1 h
  rw [cmnP_at (by omega), if_pos this]
 have h2 : HasP n (cmnP (gl fl (a : Int)) (gl fl (b : Int))) (gl fl (b : Int)) := fun k hk h => by
  have := (hne k hk).1 h
  rw [cmnP_at (by omega), if_pos this, this]
 have cv : ∀ {S S' : Nat → Prop}, (∀ k, k < n → (S k ↔ S' k)) → ∀ {u v}, LnkP n fl S u v → LnkP n fl S' u v := fun {S S'} hS {u v} h => by
  induction h with
  | refl h => exact .refl h
  | step _ hi hs had ih => exact .step ih hi (fun h => hs ((hS _ hi).2 h)) had
 exact ⟨⟨h1, .refl ha⟩, ⟨h2, .refl hb⟩, fun h => cv hne h.2, fun h => ⟨h1, cv (fun k hk => (hne k hk).symm) h⟩⟩
def AdH (n : Nat) (fl : List (List Int)) (c : List Int) (x y : Nat) : Prop := HasP n c (gl fl (x : Int)) ∧ HasP n c (gl fl (y : Int)) ∧ ∃ i, i < n ∧ AdjP n fl i x y
theorem flg_same {n : Nat} {fl : List (List Int)} (hn : fl.Nodup) (hl : ∀ x ∈ fl, x.length = n) {x y : Nat} (hx : x < fl.length) (hy : y < fl.length) (h : ∀ k : Nat, k < n → gi (gl fl (x : Int)) (k : Int) = gi (gl fl (y : Int)) (k : Int)) : x = y := by
 have e : gl fl (x : Int) = gl fl (y : Int) := list_gi (hl _ (by rw [gl_mem hx]; exact List.getElem_mem _)) (hl _ (by rw [gl_mem hy]; exact List.getElem_mem _)) h
 rw [gl_mem hx, gl_mem hy] at e
 exact (List.getElem_inj hn).1 e
theorem AdH.link {n : Nat} {fl : List (List Int)} (hn : fl.Nodup) (hl : ∀ x ∈ fl, x.length = n) {c : List Int} {x y : Nat} (h : AdH n fl c x y) : LkH n fl c x y := by
 obtain ⟨h1, h2, i, hi, ha⟩ := h
 refine ⟨h1, ?_⟩
 by_cases hc : gi c (i : Int) ≠ -1
 ·have : x = y := flg_same hn hl ha.1 ha.2.1 fun k hk => by
   by_cases e : k = i
   ·subst e; rw [← h1 k hk hc, h2 k hk hc]
   exact ha.2.2 k hk e
  subst this
  exact .refl ha.1
 exact .step (.refl ha.1) hi hc ha
theorem LkH.ind {n : Nat} {fl : List (List Int)} {c : List Int} {f : Nat} (S : Nat → Prop) (hf : S f) (hs : ∀ x y, S x → LkH n fl c f x → AdH n fl c x y → S y) : ∀ x, LkH n fl c f x → S x := fun x h => by
 obtain ⟨h1, h2⟩ := h
 induction h2 with
 | refl _ => exact hf
 | step h hi hS ha ih => exact hs _ _ ih ⟨h1, h⟩ ⟨h1.of h, h1.of (.step h hi hS ha), _, hi, ha⟩
/-
 Plain mathematics: sections hang together exactly if flags do; flags as lists and as chains.
-/
section
variable {α : Type} {N : Nat} {el : Nat → α → Prop} {le : α → α → Prop}
def ConF (N : Nat) (el : Nat → α → Prop) (le : α → α → Prop) : Prop := ∀ z y : Nat → α, ChZ el le 0 N z → ChZ el le 0 N y → LkZ el le 0 N (fun k => z k = y k) z y
theorem conF_of (g : GrP N el le) (hc : SecC el le) : ConF N el le := fun z y hz hy => by
 obtain ⟨o, _, ho⟩ := g.bot
 obtain ⟨t, _, ht⟩ := g.top
 have b1 := (ho 0 _ (hz.1 0 (Nat.le_refl _) (Nat.zero_le _))).2 O
 have b2 := (ho 0 _ (hy.1 0 (Nat.le_refl _) (Nat.zero_le _))).2 O
 have t1 := (ht N _ (hz.1 N (Nat.zero_le _) (Nat.le_refl _))).2 O
 have t2 := (ht N _ (hy.1 N (Nat.zero_le _) (Nat.le_refl _))).2 O
 exact chain_link g hc N 0 N (by omega) (Nat.zero_le _) z y hz hy (b1.trans b2.symm) (t1.trans t2.symm)
theorem sec_of (g : GrP N el le) (h : ConF N el le) : SecC el le := by
 intro i j a b ha hb hab hij p q c d hc hd
 obtain ⟨o, ho, ho'⟩ := g.bot
 obtain ⟨t, ht, ht'⟩ := g.top
 have hjN := g.bnd hb
 obtain ⟨w1, c1, _, e1⟩ := g.chain ho ha (ho' i a ha).1 (Nat.zero_le _)
 obtain ⟨w4, c4, e4, _⟩ := g.chain hb ht (ht' j b hb).1 hjN
 have mk : ∀ (p : Nat) (c : α), InZ el le i j a b p c → ∃ z, ChZ el le 0 N z ∧ (∀ k, k ≤ i → z k = w1 k) ∧ (∀ k, j ≤ k → z k = w4 k) ∧ z p = c := by
  intro p c hc
  obtain ⟨u1, d1, f1, f1'⟩ := g.chain ha hc.2.2.1 hc.2.2.2.1 (by have := hc.1; omega)
  obtain ⟨u2, d2, f2, f2'⟩ := g.chain hc.2.2.1 hb hc.2.2.2.2 (by have := hc.2.1; omega)
  have h1 := hc.1; have h2 := hc.2.1
  have x1 := c1.glue d1 (e1.trans f1.symm)
  have x2 := x1.glue d2 (by rw [glZ_hi h1, f1', f2])
  have x3 := x2.glue c4 (by rw [glZ_hi h2, f2', e4])
  refine ⟨_, x3, fun k hk => ?_, fun k hk => glZ_hi0 (by rw [glZ_hi h2, f2', e4]) hk, ?_⟩
  ·rw [glZ_lo (by omega), glZ_lo (by omega), glZ_lo hk]
  ·rw [glZ_lo (by omega), glZ_lo (Nat.le_refl _), glZ_hi h1, f1']
 obtain ⟨z, hz, z1, z2, z3⟩ := mk p c hc
 obtain ⟨y, hy, y1, y2, y3⟩ := mk q d hd
 have hl := h z y hz hy
 have zi : z i = a := (z1 i (Nat.le_refl _)).trans e1
 have zj : z j = b := (z2 j (Nat.le_refl _)).trans e4
 have kp : ∀ y', LkZ el le 0 N (fun k => z k = y k) z y' → y' i = a ∧ y' j = b := fun y' h => by
  have k1 := h.keep (k := i) (Nat.zero_le _) (by omega) (.inr (.inr (by show z i = y i; rw [z1 i (Nat.le_refl _), y1 i (Nat.le_refl _)])))
  have k2 := h.keep (k := j) (Nat.zero_le _) (by omega) (.inr (.inr (by show z j = y j; rw [z2 j (Nat.le_refl _), y2 j (Nat.le_refl _)])))
  exact ⟨k1.symm.trans zi, k2.symm.trans zj⟩
 have inz : ∀ y', ChZ el le 0 N y' → y' i = a → y' j = b → ∀ r, i < r → r < j → InZ el le i j a b r (y' r) := fun y' hy' k1 k2 r h1 h2 =>
  ⟨h1, h2, hy'.1 r (Nat.zero_le _) (by omega), k1 ▸ hy'.mon g (Nat.zero_le _) (by omega) (by omega), k2 ▸ hy'.mon g (Nat.zero_le _) (by omega) hjN⟩
 have cmp : ∀ y', ChZ el le 0 N y' → ∀ r s, i < r → r < j → i < s → s < j → le (y' r) (y' s) ∨ le (y' s) (y' r) := fun y' hy' r s h1 h2 h3 h4 => by
  rcases Nat.le_total r s with h | h
  ·exact .inl (hy'.mon g (Nat.zero_le _) h (by omega))
  ·exact .inr (hy'.mon g (Nat.zero_le _) h (by omega))
 have key : ∀ y', LkZ el le 0 N (fun k => z k = y k) z y' → ChZ el le 0 N y' → ∀ r, i < r → r < j → CnZ el le i j a b p c r (y' r) := by
  intro y' hh
  induction hh with
  | @same y' e =>
   intro hy' r h1 h2
   have k := kp y' (.same e)
   have := CnZ.one (p := p) (c := c) (inz y' hy' k.1 k.2 r h1 h2) (by rw [← e r (Nat.zero_le _) (by omega), ← z3]; exact cmp z hz p r hc.1 hc.2.1 h1 h2)
   exact this
  | @step y0 y' s h0 k1 k2 k3 k4 k5 k6 ih =>
   intro hy' r h1 h2
   have ih := ih k1
   by_cases e : r = s
   ·subst e
    obtain ⟨r', r1, r2, r3⟩ : ∃ r', i < r' ∧ r' < j ∧ r' ≠ r := by
     by_cases e : r = i + 1
     ·exact ⟨i + 2, by omega, by omega, by omega⟩
     ·exact ⟨i + 1, by omega, by omega, by omega⟩
    have e2 := k6 r' (Nat.zero_le _) (by omega) r3
    have hk := kp y' (.step r h0 k1 k2 k3 k4 k5 k6)
    have := ih r' r1 r2
    rw [e2] at this
    exact this.trans (.one (inz y' hy' hk.1 hk.2 r h1 h2) (cmp y' hy' r' r r1 r2 h1 h2))
   ·rw [← k6 r (Nat.zero_le _) (by omega) e]
    exact ih r h1 h2
 have := key y hl hy q hd.1 hd.2.1
 rwa [y3] at this
end
structure RepZ {α : Type} (n : Nat) (R : List Int) (B : List (List Int)) (el : Nat → α → Prop) (le : α → α → Prop) (φ : Int → α) : Prop where
 n1 : 1 ≤ n
 g : GrP (n + 1) el le
 lev : ∀ e : Int, 0 ≤ e ∧ e < R.length → ∀ i : Nat, i < n → gi R e = i → el (i + 1) (φ e)
 sur : ∀ (i : Nat) (a : α), i < n → el (i + 1) a → ∃ e : Int, (0 ≤ e ∧ e < R.length) ∧ gi R e = i ∧ φ e = a
 inj : ∀ d e : Int, 0 ≤ d ∧ d < R.length → 0 ≤ e ∧ e < R.length → φ d = φ e → d = e
 inc : ∀ d e : Int, 0 ≤ d ∧ d < R.length → 0 ≤ e ∧ e < R.length → gi R e = gi R d + 1 → (d ∈ gl B e ↔ le (φ d) (φ e))
section
variable {α : Type} {n : Nat} {R : List Int} {B : List (List Int)} {el : Nat → α → Prop} {le : α → α → Prop} {φ : Int → α}
def zOf (o t : α) (n : Nat) (φ : Int → α) (x : List Int) (k : Nat) : α := if k = 0 then o else if k ≤ n then φ (gi x ((k - 1 : Nat) : Int)) else t
theorem zOf_mid {o t : α} {x : List Int} {k : Nat} (h : k < n) : zOf o t n φ x (k + 1) = φ (gi x (k : Int)) := by
 unfold zOf; rw [if_neg (by omega), if_pos (by omega)]; rfl
theorem RepZ.z (h : RepZ n R B el le φ) {o t : α} (ho : el 0 o) (ho' : ∀ (i : Nat) (a : α), el i a → le o a) (ht : el (n + 1) t) (ht' : ∀ (i : Nat) (a : α), el i a → le a t) {x : List Int} (hx : x ∈ flgP n R B) : ChZ el le 0 (n + 1) (zOf o t n φ x) := by
 obtain ⟨_, ha, hb⟩ := (flgP_mem h.n1).1 hx
 have hm : ∀ k : Nat, k < n → el (k + 1) (zOf o t n φ x (k + 1)) := fun k hk => by
  rw [zOf_mid hk]; exact h.lev _ (ha k hk).1 k hk (ha k hk).2
 have h0 : zOf o t n φ x 0 = o := if_pos O
 have h9 : zOf o t n φ x (n + 1) = t := by unfold zOf; rw [if_neg (by omega), if_neg (by omega)]
 have he : ∀ k : Nat, k ≤ n + 1 → el k (zOf o t n φ x k) := fun k hk => by
  cases k with
  | zero => rw [h0]; exact ho
  | succ k =>
   by_cases e : k < n
   ·exact hm k e
   ·obtain rfl : k = n := by omega
    rw [h9]; exact ht
 refine ⟨fun k _ hk => he k hk, fun k _ hk => ?_⟩
 cases k with
 | zero => rw [h0]; exact ho' _ _ (he 1 (by omega))
 | succ k =>
  by_cases e : k + 1 < n
  ·rw [zOf_mid (by omega), zOf_mid e]
   refine (h.inc _ _ (ha k (by omega)).1 (ha (k + 1) e).1 ?_).1 (hb k e)
   rw [(ha k (by omega)).2, (ha (k + 1) e).2]; omega
  ·obtain rfl : k + 1 = n := by omega
   rw [h9]; exact ht' _ _ (he (k + 1) (by omega))
theorem RepZ.x (h : RepZ n R B el le φ) {z : Nat → α} (hz : ChZ el le 0 (n + 1) z) : ∃ x ∈ flgP n R B, ∀ i : Nat, i < n → φ (gi x (i : Int)) = z (i + 1) := by
 have hex : ∀ i : Nat, ∃ e : Int, i < n → (0 ≤ e ∧ e < R.length) ∧ gi R e = i ∧ φ e = z (i + 1) := fun i => by
  by_cases hi : i < n
  ·obtain ⟨e, h⟩ := h.sur i (z (i + 1)) hi (hz.1 (i + 1) (Nat.zero_le _) (by omega))
   exact ⟨e, fun _ => h⟩
  exact ⟨0, fun h => absurd h hi⟩
 obtain ⟨E, hE⟩ := Classical.axiomOfChoice hex
 have hE : ∀ i : Nat, i < n → (0 ≤ E i ∧ E i < R.length) ∧ gi R (E i) = i ∧ φ (E i) = z (i + 1) := hE
 have hxi : ∀ i : Nat, i < n → gi ((List.range n).map E) (i : Int) = E i := fun i hi => by
  rw [gi_mem (by simpa using hi), List.getElem_map, List.getElem_range]
 refine ⟨(List.range n).map E, (flgP_mem h.n1).2 ⟨by simp, fun i hi => ?_, fun i hi => ?_⟩, fun i hi => ?_⟩
 ·rw [hxi i hi]; exact ⟨(hE i hi).1, (hE i hi).2.1⟩
 ·rw [hxi i (by omega), hxi (i + 1) hi]
  have h1 := hE i (by omega); have h2 := hE (i + 1) hi
  rw [h.inc _ _ h1.1 h2.1 (by rw [h1.2.1, h2.2.1]; omega), h1.2.2, h2.2.2]
  exact hz.2 (i + 1) (Nat.zero_le _) (by omega)
 rw [hxi i hi]; exact (hE i hi).2.2
theorem RepZ.pure (h : RepZ n R B el le φ) (hr : ∀ e : Int, 0 ≤ e → e < R.length → 0 ≤ gi R e ∧ gi R e < n) : PurP n R B := fun e h0 h1 => by
 obtain ⟨r0, r1⟩ := hr e h0 h1
 obtain ⟨i, hi⟩ : ∃ i : Nat, gi R e = i := ⟨(gi R e).toNat, by omega⟩
 have he := h.lev e ⟨h0, h1⟩ i (by omega) hi
 obtain ⟨o, ho, ho'⟩ := h.g.bot
 obtain ⟨t, ht, ht'⟩ := h.g.top
 obtain ⟨w1, c1, _, e1⟩ := h.g.chain ho he (ho' _ _ he).1 (by omega)
 obtain ⟨w2, c2, e2, _⟩ := h.g.chain he ht (ht' _ _ he).1 (by omega)
 obtain ⟨x, hx, hf⟩ := h.x (c1.glue c2 (e1.trans e2.symm))
 refine ⟨x, hx, ?_⟩
 have hh := hf i (by omega)
 rw [glZ_lo (Nat.le_refl _), e1] at hh
 obtain ⟨hl, ha, _⟩ := (flgP_mem h.n1).1 hx
 have := h.inj _ _ (ha i (by omega)).1 ⟨h0, h1⟩ hh
 rw [← this, gi_mem (by omega)]
 exact List.getElem_mem _
theorem RepZ.agree (h : RepZ n R B el le φ) {o t : α} {x y : List Int} (hx : x ∈ flgP n R B) (hy : y ∈ flgP n R B) {i : Nat} (hi : i < n) : zOf o t n φ x (i + 1) = zOf o t n φ y (i + 1) ↔ gi x (i : Int) = gi y (i : Int) := by
 rw [zOf_mid hi, zOf_mid hi]
 exact ⟨h.inj _ _ (((flgP_mem h.n1).1 hx).2.1 i hi).1 (((flgP_mem h.n1).1 hy).2.1 i hi).1, fun e => by rw [e]⟩
theorem gl_idxN {fl : List (List Int)} {x : List Int} (h : x ∈ fl) : ∃ a : Nat, a < fl.length ∧ gl fl (a : Int) = x := by
 obtain ⟨a, ha, e⟩ := List.mem_iff_getElem.1 h
 exact ⟨a, ha, by rw [gl_mem ha, e]⟩
theorem gl_inN {fl : List (List Int)} {a : Nat} (h : a < fl.length) : gl fl (a : Int) ∈ fl := by rw [gl_mem h]; exact List.getElem_mem _
theorem RepZ.con (h : RepZ n R B el le φ) (hc : ConF (n + 1) el le) : ConP n (flgP n R B) := fun a b hab hb => by
  obtain ⟨o, ho, ho'⟩ := h.g.bot
  obtain ⟨t, ht, ht'⟩ := h.g.top
  have ha : a < (flgP n R B).length := by omega
  have mz := fun (x : List Int) (hx : x ∈ flgP n R B) => h.z ho (fun i a k => (ho' i a k).1) ht (fun i a k => (ht' i a k).1) hx
  have hl := hc _ _ (mz _ (gl_inN ha)) (mz _ (gl_inN hb))
  have key : ∀ y, LkZ el le 0 (n + 1) (fun k => zOf o t n φ (gl (flgP n R B) (a : Int)) k = zOf o t n φ (gl (flgP n R B) (b : Int)) k) (zOf o t n φ (gl (flgP n R B) (a : Int))) y →
      ∃ c : Nat, c < (flgP n R B).length ∧ LnkP n (flgP n R B) (fun k => gi (gl (flgP n R B) (a : Int)) (k : Int) = gi (gl (flgP n R B) (b : Int)) (k : Int)) a c ∧ ∀ i : Nat, i < n → zOf o t n φ (gl (flgP n R B) (c : Int)) (i + 1) = y (i + 1) := by
    intro y hy
    induction hy with
    | same e => exact ⟨a, ha, .refl ha, fun i hi => e (i + 1) (Nat.zero_le _) (by omega)⟩
    | @step y y' p _ k1 k2 k3 k4 k5 k6 ih =>
      obtain ⟨c, hcl, hlk, hcz⟩ := ih
      obtain ⟨x, hx, hxz⟩ := h.x k2
      obtain ⟨c', hc', e'⟩ := gl_idxN hx
      have hz' : ∀ i : Nat, i < n → zOf o t n φ (gl (flgP n R B) (c' : Int)) (i + 1) = y' (i + 1) := fun i hi => by rw [e', zOf_mid hi, hxz i hi]
      obtain ⟨q, rfl⟩ : ∃ q, p = q + 1 := ⟨p - 1, by omega⟩
      have hq : q < n := by omega
      refine ⟨c', hc', .step hlk hq (fun hs => k5 ((h.agree (gl_inN ha) (gl_inN hb) hq).2 hs)) ⟨hcl, hc', fun k hk hne => ?_⟩, hz'⟩
      rw [← h.agree (o := o) (t := t) (gl_inN hcl) (gl_inN hc') hk, hcz k hk, hz' k hk]
      exact k6 (k + 1) (Nat.zero_le _) (by omega) (by omega)
  obtain ⟨c, hcl, hlk, hcz⟩ := key _ hl
  have : c = b := flg_inj hcl hb (list_gi (n := n) (flg_at h.n1 hcl).1 (flg_at h.n1 hb).1 fun i hi => (h.agree (gl_inN hcl) (gl_inN hb) hi).1 (hcz i hi))
  rwa [this] at hlk
theorem RepZ.conF (h : RepZ n R B el le φ) (hc : ConP n (flgP n R B)) : ConF (n + 1) el le := fun z y hz hy => by
 obtain ⟨o, ho, ho'⟩ := h.g.bot
 obtain ⟨t, ht, ht'⟩ := h.g.top
 have mz := fun (x : List Int) (hx : x ∈ flgP n R B) => h.z ho (fun i a k => (ho' i a k).1) ht (fun i a k => (ht' i a k).1) hx
 have all : ∀ w, ChZ el le 0 (n + 1) w → ∃ a : Nat, a < (flgP n R B).length ∧ ∀ k, 0 ≤ k → k ≤ n + 1 → zOf o t n φ (gl (flgP n R B) (a : Int)) k = w k := fun w hw => by
  obtain ⟨x, hx, hxz⟩ := h.x hw
  obtain ⟨a, ha, e⟩ := gl_idxN hx
  refine ⟨a, ha, fun k _ hk => ?_⟩
  cases k with
  | zero => exact (show zOf o t n φ _ 0 = o from if_pos rfl).trans ((ho' 0 _ (hw.1 0 (Nat.le_refl _) (by omega))).2 rfl).symm
  | succ k =>
   by_cases q : k < n
   ·rw [e, zOf_mid q]; exact hxz k q
   ·obtain rfl : k = n := by omega
    exact (show zOf o t k φ _ (k + 1) = t by unfold zOf; rw [if_neg (by omega), if_neg (by omega)]).trans ((ht' _ _ (hw.1 (k + 1) (Nat.zero_le _) (Nat.le_refl _))).2 O).symm
 obtain ⟨a, ha, ea⟩ := all z hz
 obtain ⟨b, hb, eb⟩ := all y hy
 have hlk : LnkP n (flgP n R B) (fun k => gi (gl (flgP n R B) (a : Int)) (k : Int) = gi (gl (flgP n R B) (b : Int)) (k : Int)) a b := by
  rcases Nat.lt_trichotomy a b with hab | hab | hab
  ·exact hc a b hab hb
  ·subst hab; exact .refl ha
  ·have := (hc b a hab ha).symm
   have e : (fun k : Nat => gi (gl (flgP n R B) (b : Int)) (k : Int) = gi (gl (flgP n R B) (a : Int)) (k : Int)) = fun k : Nat => gi (gl (flgP n R B) (a : Int)) (k : Int) = gi (gl (flgP n R B) (b : Int)) (k : Int) := funext fun k => propext eq_comm
   rwa [e] at this
 have key : ∀ c, LnkP n (flgP n R B) (fun k => gi (gl (flgP n R B) (a : Int)) (k : Int) = gi (gl (flgP n R B) (b : Int)) (k : Int)) a c → LkZ el le 0 (n + 1) (fun k => z k = y k) z (zOf o t n φ (gl (flgP n R B) (c : Int))) := by
  intro c hh
  induction hh with
  | refl _ => exact .same fun k k1 k2 => (ea k k1 k2).symm
  | @step c c' i h0 hi hS hA ih =>
   refine .step (i + 1) ih (mz _ (gl_inN hA.1)) (mz _ (gl_inN hA.2.1)) (by omega) (by omega) (fun hs => hS ?_) fun k _ k2 hk => ?_
   ·rw [← h.agree (o := o) (t := t) (gl_inN ha) (gl_inN hb) hi, ea (i + 1) (Nat.zero_le _) (by omega), eb (i + 1) (Nat.zero_le _) (by omega)]
    exact hs
   ·cases k with
    | zero => exact (show zOf o t n φ _ 0 = o from if_pos rfl).trans (show zOf o t n φ _ 0 = o from if_pos rfl).symm
    | succ k =>
     by_cases q : k < n
     ·exact (h.agree (gl_inN hA.1) (gl_inN hA.2.1) q).2 (hA.2.2 k q (by omega))
     ·unfold zOf; rw [if_neg (by omega), if_neg (by omega), if_neg (by omega), if_neg (by omega)]
 exact (key b hlk).eqv eb
end
/-
 Plain mathematics: a product of polytopes has a flag, and its maniplex.
-/
def ChnL (m : Nat) (n : Int) (rk : Int → Int) (und : Int → Int → Prop) : Prop := ∃ z : Int → Int, ∀ i : Int, -1 ≤ i → i ≤ n → (0 ≤ z i ∧ z i < m) ∧ rk (z i) = i ∧ ∀ j : Int, i ≤ j → j ≤ n → und (z i) (z j)
theorem chn_of {n : Nat} {R : List Int} {B : List (List Int)} (h : PosP n R B) (hf : flgP n R B ≠ []) : ChnL (R.length + 2) n (gi (fcR n R)) (UndP R.length B) := by
 have hn := h.n1
 have hn1 : 1 ≤ n := by omega
 obtain ⟨x, hx⟩ := List.exists_mem_of_ne_nil _ hf
 obtain ⟨hl, ha, hb⟩ := (flgP_mem hn1).1 hx
 have hab : ∀ i j : Nat, i < j → j < n → gi x (i : Int) ∈ gl B (gi x (j : Int)) := by
  intro i j hij
  induction j with
  | zero => omega
  | succ j ih =>
   intro hj
   have h1 := hb j (by omega)
   by_cases e : i = j
   ·subst e; exact h1
   ·have h2 := ih (by omega) (by omega)
    have h3 := ha (j + 1) (by omega)
    exact (h.at_ (e := gi x ((j + 1 : Nat) : Int)) h3.1.1 h3.1.2).2.2 _ h1 _ h2
 have key : ∀ i : Int, 0 ≤ i → i < n → 0 ≤ gi x i ∧ gi x i < R.length ∧ gi R (gi x i) = i := fun i h0 h1 => by
  obtain ⟨k, rfl⟩ : ∃ k : Nat, i = k := ⟨i.toNat, by omega⟩
  have := ha k (by omega)
  exact ⟨this.1.1, this.1.2, this.2⟩
 have keyB : ∀ i j : Int, 0 ≤ i → i < j → j < n → gi x i ∈ gl B (gi x j) := fun i j h0 h1 h2 => by
  obtain ⟨k, rfl⟩ : ∃ k : Nat, i = k := ⟨i.toNat, by omega⟩
  obtain ⟨q, rfl⟩ : ∃ q : Nat, j = q := ⟨j.toNat, by omega⟩
  exact hab k q (by omega) (by omega)
 refine ⟨fun i => if i < 0 then 0 else if i < n then gi x i + 1 else (R.length : Int) + 1, fun i h0 h1 => ?_⟩
 by_cases c0 : i < 0
 ·have e : i = -1 := by omega
  subst e
  refine ⟨by show (0 : Int) ≤ (if (-1 : Int) < 0 then 0 else _) ∧ (if (-1 : Int) < 0 then 0 else _) < _; rw [if_pos (by omega)]; omega, by show gi _ (if (-1 : Int) < 0 then 0 else _) = _; rw [if_pos (by omega)]; rfl, fun j _ _ => by show UndP _ _ (if (-1 : Int) < 0 then 0 else _) _; rw [if_pos (by omega)]; exact .inr (.inl O)⟩
 by_cases c1 : i < n
 ·have hk := key i (by omega) c1
  have hz : (if i < 0 then 0 else if i < n then gi x i + 1 else (R.length : Int) + 1) = gi x i + 1 := by rw [if_neg c0, if_pos c1]
  refine ⟨by show (0 : Int) ≤ (if i < 0 then 0 else if i < n then gi x i + 1 else (R.length : Int) + 1) ∧ (if i < 0 then 0 else if i < n then gi x i + 1 else (R.length : Int) + 1) < _; rw [hz]; omega, by show gi _ (if i < 0 then 0 else if i < n then gi x i + 1 else (R.length : Int) + 1) = _; rw [hz, fcR_mid _ _ (by omega) (by omega), Int.add_sub_cancel]; exact hk.2.2, fun j hj hj2 => ?_⟩
  show UndP _ _ (if i < 0 then 0 else if i < n then gi x i + 1 else (R.length : Int) + 1) (if j < 0 then 0 else if j < n then gi x j + 1 else (R.length : Int) + 1)
  rw [hz, if_neg (by omega)]
  by_cases c2 : j < n
  ·rw [if_pos c2]
   by_cases e : i = j
   ·subst e; exact .inl rfl
   ·have hk2 := key j (by omega) c2
    exact .inr (.inr (.inr ⟨by omega, by omega, by omega, by omega, by rw [Int.add_sub_cancel, Int.add_sub_cancel]; exact keyB i j (by omega) (by omega) c2⟩))
  ·rw [if_neg c2]; exact .inr (.inr (.inl rfl))
 ·have e : i = n := by omega
  have hz : (if i < 0 then 0 else if i < n then gi x i + 1 else (R.length : Int) + 1) = (R.length : Int) + 1 := by rw [if_neg c0, if_neg c1]
  refine ⟨by show (0 : Int) ≤ (if i < 0 then 0 else if i < n then gi x i + 1 else (R.length : Int) + 1) ∧ (if i < 0 then 0 else if i < n then gi x i + 1 else (R.length : Int) + 1) < _; rw [hz]; omega, by show gi _ (if i < 0 then 0 else if i < n then gi x i + 1 else (R.length : Int) + 1) = _; rw [hz, fcR_top]; exact e.symm, fun j hj hj2 => ?_⟩
  obtain rfl : j = i := by omega
  exact .inl O
section
variable {m1 m2 : Nat} {n1 n2 : Int} {rk1 rk2 : Int → Int} {und1 und2 : Int → Int → Prop} [DecidableRel und1] [DecidableRel und2] {kind : Int}
theorem prod_flg (h1 : Lat m1 n1 rk1 und1) (h2 : Lat m2 n2 rk2 und2) (c1 : ChnL m1 n1 rk1 und1) (c2 : ChnL m2 n2 rk2 und2) (hkd : 0 ≤ kind ∧ kind ≤ 2) {k : Nat} (hk : (k : Int) = rnP n1 n2 kind) (hk1 : 1 ≤ k) (hneg : 1 ≤ n1 ∧ (1 ≤ n2 ∨ kind = 0)) :
  flgP k ((prL m1 m2 rk1 rk2 kind k).map (rkP rk1 rk2 kind)) (prB und1 und2 (prL m1 m2 rk1 rk2 kind k)) ≠ [] := by
 obtain ⟨z1, hz1⟩ := c1
 obtain ⟨z2, hz2⟩ := c2
 have hn1 := h1.n0; have hn2 := h2.n0
 have r10 := h1.r0; have r1t := h1.rt; have r20 := h2.r0; have r2t := h2.rt
 obtain ⟨t, ht⟩ : ∃ t : Int, t = if kind = 2 then n1 - 1 else n1 := ⟨_, rfl⟩
 obtain ⟨s, hs⟩ : ∃ s : Int, s = if kind = 1 then 0 else -1 := ⟨_, rfl⟩
 obtain ⟨p, hpd⟩ : ∃ p : Nat → Int, p = fun i : Nat => if (i : Int) ≤ t then (i : Int) else t := ⟨_, rfl⟩
 obtain ⟨q, hqd⟩ : ∃ q : Nat → Int, q = fun i : Nat => if (i : Int) ≤ t then s else s + ((i : Int) - t) := ⟨_, rfl⟩
 have hp : ∀ i : Nat, p i = if (i : Int) ≤ t then (i : Int) else t := fun i => by rw [hpd]
 have hq : ∀ i : Nat, q i = if (i : Int) ≤ t then s else s + ((i : Int) - t) := fun i => by rw [hqd]
 have hpq : ∀ i : Nat, i < k → (-1 ≤ p i ∧ p i ≤ n1) ∧ (-1 ≤ q i ∧ q i ≤ n2) ∧ p i + q i + shP kind = i ∧ (kind = 1 → 0 ≤ p i ∧ 0 ≤ q i) ∧ (kind = 2 → p i < n1 ∧ q i < n2) := fun i hi => by
  rw [hp, hq]
  rcases (show kind = 0 ∨ kind = 1 ∨ kind = 2 by omega) with rfl | rfl | rfl
  ·simp only [rnP, if_pos] at hk
   simp only [shP] at *
   simp at ht hs
   split <;> simp <;> omega
  ·simp only [rnP] at hk
   simp only [shP] at *
   simp at ht hs hk
   split <;> simp <;> omega
  simp only [rnP] at hk
  simp only [shP] at *
  simp at ht hs hk
  split <;> simp <;> omega
 have hmono : ∀ i : Nat, p i ≤ p (i + 1) ∧ q i ≤ q (i + 1) := fun i => by
  rw [hp, hq, hp, hq]
  split <;> split <;> omega
 have hel : ∀ i : Nat, i < k → ElP m1 m2 rk1 rk2 kind i (z1 (p i), z2 (q i)) := fun i hi => by
  have h := hpq i hi
  have a := hz1 (p i) h.1.1 h.1.2
  have b := hz2 (q i) h.2.1.1 h.2.1.2
  refine ⟨a.1, b.1, by show rk1 (z1 (p i)) + rk2 (z2 (q i)) + shP kind = i; rw [a.2.1, b.2.1]; exact h.2.2.1, fun hx => ?_⟩
  rcases hx with ⟨k1, e | e⟩ | ⟨k2, e | e⟩
  ·have e : z1 (p i) = 0 := e
   have := a.2.1; rw [e, r10] at this; have := (h.2.2.2.1 k1).1; omega
  ·have e : z2 (q i) = 0 := e
   have := b.2.1; rw [e, r20] at this; have := (h.2.2.2.1 k1).2; omega
  ·have e : z1 (p i) = (m1 : Int) - 1 := e
   have := a.2.1; rw [e, r1t] at this; have := (h.2.2.2.2 k2).1; omega
  have e : z2 (q i) = (m2 : Int) - 1 := e
  have := b.2.1; rw [e, r2t] at this; have := (h.2.2.2.2 k2).2; omega
 have hex : ∀ i : Nat, ∃ e : Int, i < k → (0 ≤ e ∧ e < (prL m1 m2 rk1 rk2 kind k).length) ∧ gp (prL m1 m2 rk1 rk2 kind k) e = (z1 (p i), z2 (q i)) := fun i => by
  by_cases hi : i < k
  ·obtain ⟨e, h, h'⟩ := el_gp hi (hel i hi)
   exact ⟨e, fun _ => ⟨h, h'⟩⟩
  exact ⟨0, fun h => absurd h hi⟩
 obtain ⟨E, hE⟩ := Classical.axiomOfChoice hex
 have hE : ∀ i : Nat, i < k → (0 ≤ E i ∧ E i < (prL m1 m2 rk1 rk2 kind k).length) ∧ gp (prL m1 m2 rk1 rk2 kind k) (E i) = (z1 (p i), z2 (q i)) := hE
 have hxi : ∀ i : Nat, i < k → gi ((List.range k).map E) (i : Int) = E i := fun i hi => by
  rw [gi_mem (by simpa using hi), List.getElem_map, List.getElem_range]
 have hm : (List.range k).map E ∈ flgP k ((prL m1 m2 rk1 rk2 kind k).map (rkP rk1 rk2 kind)) (prB und1 und2 (prL m1 m2 rk1 rk2 kind k)) := by
  refine (flgP_mem hk1).2 ⟨by simp, fun i hi => ?_, fun i hi => ?_⟩
  ·rw [hxi i hi, List.length_map]
   have h := hE i hi
   refine ⟨h.1, ?_⟩
   rw [prR_at h.1.1 h.1.2, h.2]
   exact (hel i hi).2.2.1
  rw [hxi i (by omega), hxi (i + 1) hi]
  have h := hE i (by omega)
  have h' := hE (i + 1) hi
  rw [prB_at h'.1.1 h'.1.2, prBe_mem h1 h2 h'.1]
  have b0 := hpq i (by omega); have b1 := hpq (i + 1) hi
  have hm := hmono i
  refine ⟨h.1, fun e => ?_, ?_, ?_⟩
  ·have e2 := h'.2
   rw [← e, h.2] at e2
   have r1 := (hel i (by omega)).2.2.1
   have r2 := (hel (i + 1) hi).2.2.1
   rw [e2, r2] at r1
   omega
  ·rw [h.2, h'.2]; exact (hz1 (p i) b0.1.1 b0.1.2).2.2 (p (i + 1)) hm.1 b1.1.2
  rw [h.2, h'.2]; exact (hz2 (q i) b0.2.1.1 b0.2.1.2).2.2 (q (i + 1)) hm.2 b1.2.1.2
 intro h
 rw [h] at hm
 cases hm
end
end Go.Proofs.YtopgfgdgfjddpaaGreatDoor.Vc
/-
 Maps of one's own: made, looked up, written.
-/
namespace Go.Proofs.YtopgfgdgfjddpaaGreatDoor.Vc
open Go.RowKit Go.MapKept
structure KeyT {κ : Type} (d : TypeDesc) (kv : κ → Value) : Prop where
 isKey : ∀ a, IsKey d (kv a)
 inj : ∀ a b, kv a = kv b → a = b
theorem keyS : KeyT .string Value.string := ⟨fun _ => trivial, fun a b h => by injection h⟩
section
variable {κ ν : Type} [DecidableEq κ]
def getA : List (κ × ν) → κ → Option ν
  | [], _ => none
  | (y, v) :: r, x => if y = x then some v else getA r x
def putA : List (κ × ν) → κ → ν → List (κ × ν)
  | [], x, v => [(x, v)]
  | (y, u) :: r, x, v => if y = x then (x, v) :: r else (y, u) :: putA r x v
def fndA : List (κ × ν) → κ → Option (Nat × ν)
  | [], _ => none
  | (y, v) :: r, x => if y = x then some (0, v) else (fndA r x).map fun p => (p.1 + 1, p.2)
theorem fndA_get : ∀ (L : List (κ × ν)) (x : κ), getA L x = (fndA L x).map (·.2)
  | [], _ => rfl
  | (y, v) :: r, x => by
    simp only [getA, fndA]
    split
    · rfl
    · rw [fndA_get r x, Option.map_map]; rfl
theorem fndA_some : ∀ {L : List (κ × ν)} {x : κ} {j : Nat} {v : ν}, fndA L x = some (j, v) → L[j]? = some (x, v) ∧ ∀ u, putA L x u = L.set j (x, u)
  | (y, w) :: r, x, j, v, h => by
    simp only [fndA] at h
    split at h
    · rename_i e
      simp only [Option.some.injEq, Prod.mk.injEq] at h
      obtain ⟨rfl, rfl⟩ := h
      subst e
      exact ⟨O, fun u => by simp [putA]⟩
    · rename_i e
      cases hf : fndA r x with
      | none => simp [hf] at h
      | some p =>
        simp only [hf, Option.map_some, Option.some.injEq, Prod.mk.injEq] at h
        obtain ⟨rfl, rfl⟩ := h
        obtain ⟨h1, h2⟩ := fndA_some (L := r) (x := x) (j := p.1) (v := p.2) hf
        exact ⟨by simpa using h1, fun u => by simp only [putA, if_neg e, h2 u, List.set_cons_succ]⟩
theorem fndA_none : ∀ {L : List (κ × ν)} {x : κ}, fndA L x = none → ∀ u, putA L x u = L ++ [(x, u)]
  | [], x, _, u => rfl
  | (y, w) :: r, x, h, u => by
    simp only [fndA] at h
    split at h
    · cases h
    · rename_i e
      rw [Option.map_eq_none_iff] at h
      simp only [putA, if_neg e, fndA_none h u, List.cons_append]
theorem getA_put (L : List (κ × ν)) (x y : κ) (u : ν) : getA (putA L x u) y = if x = y then some u else getA L y := by
 induction L with
 | nil => simp only [putA, getA]
 | cons p r ih =>
  obtain ⟨z, w⟩ := p
  simp only [putA]
  by_cases e : z = x
  ·subst e
   rw [if_pos rfl]
   simp only [getA]
   split <;> simp_all
  ·rw [if_neg e]
   simp only [getA, ih]
   by_cases e2 : z = y
   ·subst e2
    rw [if_pos rfl, if_neg (fun h => e h.symm), if_pos rfl]
   ·rw [if_neg e2, if_neg e2]
def prV (kv : κ → Value) (vv : ν → Value) (L : List (κ × ν)) : List (Value × Value) := L.map fun p => (kv p.1, vv p.2)
theorem findNow_A {d : TypeDesc} {kv : κ → Value} {vv : ν → Value} (K : KeyT d kv) (x : κ) : ∀ (l : List MapEntry) (L : List (κ × ν)) (i : Nat), l.map (fun e => (e.key, e.val)) = prV kv vv L → Instr.findNow d (kv x) l i = some ((fndA L x).map fun p => (i + p.1, vv p.2))
 | [], [], _, _ => rfl
 | [], _ :: _, _, h => by simp [prV] at h
 | _ :: _, [], _, h => by simp [prV] at h
 | e :: l, (y, v) :: L, i, h => by
  simp only [prV, List.map_cons, List.cons.injEq, Prod.mk.injEq] at h
  obtain ⟨⟨h1, h2⟩, h3⟩ := h
  obtain ⟨r, hr, hiff⟩ := sameNow_of_keys (K.isKey x) (K.isKey y)
  simp only [Instr.findNow, fndA]
  rw [h1, hr]
  cases r with
  | true =>
   have e1 := K.inj _ _ (hiff.1 O)
   subst e1
   simp [h2]
  | false =>
   have hne : ¬ y = x := fun q => by
    have := hiff.2 (by rw [q])
    cases this
   rw [if_neg hne]
   simp only
   rw [findNow_A K x l L (i + 1) h3, Option.map_map]
   congr 2
   funext p
   simp only [Function.comp]
   rw [Nat.add_assoc, Nat.add_comm 1]
end
def CkM (t : TypeId) (g : Nat) (kvs : List (Value × Value)) : Ck := ⟨some ⟨g, 0, none⟩, 0, 0, t, .tuple #[] :: flatM kvs⟩
def RdM (w : World) (g : Nat) (kvs : List (Value × Value)) : Prop := ∃ es cl, w.heap[g]? = some (.map es cl) ∧ es.toList.map (fun e => (e.key, e.val)) = kvs
section
variable {w0 w w' : World} {ks : List Ck} {t : TypeId} {g : Nat} {kvs : List (Value × Value)}
theorem St.ownM (h : St w0 w ks) (i : Nat) (hk : ks[i]? = some (CkM t g kvs)) : w0.heap.size ≤ g ∧ RdM w g kvs := by
 rcases (h.get hk).cases with ⟨_, _, _, g', es, cl, hA, hg, hh, hv⟩ | ⟨hm, _⟩
 ·have hA : some (⟨g, 0, Option.none⟩ : Addr) = some ⟨g', 0, Option.none⟩ := hA
  simp only [Option.some.injEq, Addr.mk.injEq, and_true] at hA
  subst hA
  have hv : (.tuple #[] :: flatM kvs : List Value) = .tuple #[] :: flatM (es.toList.map fun e => (e.key, e.val)) := hv
  simp only [List.cons.injEq, true_and] at hv
  exact ⟨hg, es, cl, hh, (flatM_inj hv).symm⟩
 cases hm
theorem St.rdM (h : St w0 w ks) (i : Nat) (hk : ks[i]? = some (CkM t g kvs)) : RdM w g kvs := (h.ownM i hk).2
theorem St.allocM (h : St w0 w ks) (t : TypeId) : St w0 (w.alloc (.map #[] 0)) (CkM t w.heap.size [] :: ks) := by
 have hb : Below w.heap.size w (w.alloc (.map #[] 0)) := (Below.refl _ _).alloc (Nat.le_refl _) _
 have h1 := h.later hb
 refine ⟨h1.below, fun k hk => ?_, ?_⟩
 ·rcases List.mem_cons.1 hk with rfl | hk
  ·exact .ofM O ⟨O, O, _, #[], 0, O, h.below.size, heap_alloc_new w _, O⟩
  exact h1.own k hk
 simp only [List.filterMap_cons, CkM, Ck.blk, Option.map_some, List.nodup_cons]
 refine ⟨fun hin => ?_, h.apart⟩
 obtain ⟨k', hk', hkb⟩ := List.mem_filterMap.1 hin
 have := ((h.own k' hk').lt hkb).2
 omega
theorem St.turnM {i : Nat} {kvs' : List (Value × Value)} {es' : Array MapEntry} {cl' : Nat} (h : St w0 w ks) (hk : ks[i]? = some (CkM t g kvs)) (hv : es'.toList.map (fun e => (e.key, e.val)) = kvs') : St w0 { w with heap := w.heap.setIfInBounds g (.map es' cl') } (ks.set i (CkM t g kvs')) := by
 obtain ⟨hg, es, cl, hh, _⟩ := h.ownM i hk
 refine h.turn (k := CkM t g kvs) (k' := CkM t g kvs') (g := g) hk O O ⟨⟨O, O, O, by simp, fun x _ hx => ?_⟩, Nat.le_refl _⟩ ?_
 ·exact (heap_set hh).2 x fun e => hx (by rw [e])
 refine .ofM O ⟨O, O, g, es', cl', O, hg, (heap_set hh).1, ?_⟩
 rw [hv]; rfl
end
section
variable {P : Program} {N : Nat} {ops : Array Oper} {K : Env → World → Prop} {rest : List Oper} {e : Env} {w0 w w' : World} {ks : List Ck} {d : Nat} {ty : TypeId} {pos : String} {af : Array Edge}
variable {κ ν : Type} [DecidableEq κ] {kd : TypeDesc} {kv : κ → Value} {vv : ν → Value}
theorem Ops.mkmap {t : TypeId} (hS : St w0 w ks) (hb : Nat.blt d N = true) (hK : ∀ g w', St w0 w' (CkM t g [] :: ks) → Ops P N ops K rest (upd e d (.map (some g))) w') :
  Ops P N ops K (⟨some d, .makeMap t none, ty, pos, af, none⟩ :: rest) e w :=
 .val (w' := w.alloc (.map #[] 0)) (by simp [execOp, run_makeMap]) hb (hK _ _ (hS.allocM t))
theorem run_look {t kt et : TypeId} {z : Value} {s b : Nat} [hU : Und P t (.map kt et)] [hk : Und P kt kd] [Inf P et z s b] (KT : KeyT kd kv) {g : Nat} {L : List (κ × ν)} {x : κ} (hR : RdM w g (prV kv vv L)) (ok : Bool) :
    (Instr.lookup t (.map (some g)) (kv x) ok).run P w = .ok (if ok then .tuple #[((getA L x).map vv).getD z, .bool (getA L x).isSome] else ((getA L x).map vv).getD z) w := by
  obtain ⟨es, cl, hh, hm⟩ := hR
  obtain ⟨inf, hi, hz0, _, _⟩ := Inf.get P et
  have hf := findNow_A (vv := vv) KT x es.toList L 0 hm
  rw [fndA_get]
  unfold Instr.lookup
  simp only [Sem.run_bind, run_underlying hU.out, Result.andThen, MapKept.run_getObj_map hh, MapKept.run_checkKey hk.out (KT.isKey x)]
  cases hfn : fndA L x with
  | none =>
    rw [hfn] at hf
    have hfk := MapKept.run_findKey (P := P) (w := w) hk.out hf
    cases ok <;> simp [hfk, zeroValue, typeInfo, hi, hz0]
  | some p =>
    rw [hfn] at hf
    have hfk := MapKept.run_findKey (P := P) (w := w) hk.out hf
    cases ok <;> simp [hfk]
theorem Ops.look {t kt et : TypeId} {z v : Value} {s b : Nat} [Und P t (.map kt et)] [Und P kt kd] [Inf P et z s b] (KT : KeyT kd kv) {g : Nat} {L : List (κ × ν)} {m ix : Operand} {x : κ} (hR : RdM w g (prV kv vv L)) (hx : ev e m = .map (some g)) (hy : ev e ix = kv x) (hv : ((getA L x).map vv).getD z = v) (hb : Nat.blt d N = true) (hK : Ops P N ops K rest (upd e d v) w) : Ops P N ops K (⟨some d, .lookup t m ix false, ty, pos, af, none⟩ :: rest) e w := by
 subst hv
 refine .val (w' := w) ?_ hb hK
 have := run_look (P := P) (t := t) (x := x) KT hR false
 simp [execOp, hx, hy, this]
theorem Ops.lookIok {t kt et : TypeId} {b : Nat} [Und P t (.map kt et)] [Und P kt kd] [Inf P et (.int .i64 0) 1 b] (KT : KeyT kd kv) {g : Nat} {L : List (κ × Int)} {m ix : Operand} (x : κ) (hR : RdM w g (prV kv (Value.int .i64) L)) (hx : ev e m = .map (some g)) (hy : ev e ix = kv x) (hb : Nat.blt d N = true) (hK : Ops P N ops K rest (upd e d (.tuple #[.int .i64 ((getA L x).getD 0), .bool (getA L x).isSome])) w) : Ops P N ops K (⟨some d, .lookup t m ix true, ty, pos, af, none⟩ :: rest) e w := by
 refine .val (w' := w) ?_ hb hK
 have := run_look (P := P) (t := t) (x := x) KT hR true
 have e1 : ((getA L x).map (Value.int .i64)).getD (.int .i64 0) = .int .i64 ((getA L x).getD 0) := by cases getA L x <;> rfl
 rw [e1] at this
 simp [execOp, hx, hy, this]
theorem run_upd {t kt et T : TypeId} [hU : Und P t (.map kt et)] [hk : Und P kt kd] (KT : KeyT kd kv) {g : Nat} {L : List (κ × ν)} (i : Nat) (x : κ) (u : ν) (hS : St w0 w ks) (hi : ks[i]? = some (CkM T g (prV kv vv L))) :
  ∃ w', (Instr.mapUpdate t (.map (some g)) (kv x) (vv u)).run P w = .ok () w' ∧ St w0 w' (ks.set i (CkM T g (prV kv vv (putA L x u)))) := by
 obtain ⟨_, es, cl, hh, hm⟩ := hS.ownM i hi
 have hf := findNow_A (vv := vv) KT x es.toList L 0 hm
 have hfk := MapKept.run_findKey (P := P) (w := w) hk.out hf
 cases hfn : fndA L x with
 | none =>
  refine ⟨{ w with heap := w.heap.setIfInBounds g (.map (es.push ⟨kv x, vv u, cl⟩) (cl + 1)) }, ?_, hS.turnM hi ?_⟩
  ·simp [Instr.mapUpdate, run_underlying hU.out, MapKept.run_getObj_map hh, MapKept.run_checkKey hk.out (KT.isKey x), hfk, hfn, MapKept.run_setObj_map _ hh, Result.andThen]
  ·rw [fndA_none hfn]
   simp only [Array.toList_push, List.map_append, hm, prV]
   rfl
 | some p =>
  obtain ⟨j, v⟩ := p
  obtain ⟨h1, h2⟩ := fndA_some hfn
  have hjl : j < L.length := (List.getElem?_eq_some_iff.1 h1).1
  have hel : es.toList.length = L.length := by have := congrArg List.length hm; simpa [prV] using this
  have hes : es.size = L.length := by simpa using hel
  have hje : j < es.size := by omega
  have hkey : es[j].key = kv x := by
   have := congrArg (fun l => l[j]?) hm
   simp [prV, h1, hje] at this
   exact this.1
  have hst := MapKept.run_keyThatStays (P := P) (w := w) (KT.isKey x)
  refine ⟨{ w with heap := w.heap.setIfInBounds g (.map (es.modify j fun e => { e with key := kv x, val := vv u }) cl) }, ?_, hS.turnM hi ?_⟩
  ·simp [Instr.mapUpdate, run_underlying hU.out, MapKept.run_getObj_map hh, MapKept.run_checkKey hk.out (KT.isKey x), hfk, hfn, MapKept.run_setObj_map _ hh, Result.andThen, hje, hkey, hst]
  ·rw [h2 u]
   apply List.ext_getElem?
   intro q
   have hq := congrArg (fun l => l[q]?) hm
   simp only [prV, List.getElem?_map, Array.getElem?_toList] at hq
   simp only [prV, List.getElem?_map, List.getElem?_set, Array.getElem?_toList, Array.getElem?_modify]
   by_cases e1 : j = q
   ·subst e1
    simp [hje, hjl]
   ·rw [if_neg e1, if_neg e1]
    exact hq
def updOf : Op → Option (TypeId × Operand × Operand × Operand)
 | .mapUpdate t m k x => some (t, m, k, x)
 | .insert t m k x => some (t, m, k, x)
 | _ => none
theorem Ops.upm {op : Op} {t kt et T : TypeId} {m k x : Operand} [hU : Und P t (.map kt et)] [Und P kt kd] (hop : updOf op = some (t, m, k, x)) (KT : KeyT kd kv) {g : Nat} {L : List (κ × ν)} (i : Nat) {a : κ} {u : ν} (hS : St w0 w ks) (hi : ks[i]? = some (CkM T g (prV kv vv L))) (hm : ev e m = .map (some g)) (hk : ev e k = kv a) (hx : ev e x = vv u) (hK : ∀ w', St w0 w' (ks.set i (CkM T g (prV kv vv (putA L a u)))) → Ops P N ops K rest e w') : Ops P N ops K (⟨none, op, ty, pos, af, none⟩ :: rest) e w := by
 obtain ⟨w', hrun, hS'⟩ := run_upd (P := P) (t := t) KT i a u hS hi
 refine .unit (w' := w') ?_ (hK _ hS')
 cases op <;> simp [updOf] at hop <;> obtain ⟨rfl, rfl, rfl, rfl⟩ := hop <;> simp [execOp, hm, hk, hx, hrun]
end
end Go.Proofs.YtopgfgdgfjddpaaGreatDoor.Vc
