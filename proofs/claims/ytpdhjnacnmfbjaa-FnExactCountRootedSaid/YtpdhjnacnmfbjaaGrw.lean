/-
  Plain mathematics of rooted forms: a tree of partial moves, and two ways of cutting it that keep the same leaves. Conditions: as each states them. No program in sight.
-/
import Derived.Test.YtpdhjnacnmfbjaaB5
namespace Go.Proofs.Ytpdhjnacnmfbjaa.Vc

def cell (M : List (List Int)) (i : Nat) (f : Int) : Int := gi (gl M i) f
def setc (M : List (List Int)) (i f : Nat) (v : Int) : List (List Int) := M.set i ((gl M i).set f v)
def put (M : List (List Int)) (i f g : Nat) : List (List Int) := setc (setc M i f g) i g f
def Shp (n F : Nat) (M : List (List Int)) : Prop := M.length = n ∧ ∀ p ∈ M, p.length = F

section
variable {n F : Nat} {M : List (List Int)}
theorem Shp.row (h : Shp n F M) {i : Nat} (hi : i < n) : (gl M i).length = F := h.2 _ (by rw [gl_mem (by rw [h.1]; exact hi)]; exact List.getElem_mem _)
theorem gl_set {i k : Nat} {p : List Int} (hi : i < M.length) : gl (M.set i p) k = if i = k then p else gl M k := by
  simp only [gl, Int.toNat_natCast, List.getD_eq_getElem?_getD, List.getElem?_set]
  by_cases e : i = k
  · subst e; simp [hi]
  · simp [e]
theorem Shp.setc (h : Shp n F M) {i : Nat} (hi : i < n) (f : Nat) (v : Int) : Shp n F (setc M i f v) := by
  refine ⟨by simp [Vc.setc, h.1], fun p hp => ?_⟩
  rcases List.mem_or_eq_of_mem_set hp with hp | rfl
  · exact h.2 p hp
  · simpa using h.row hi
theorem cell_setc (h : Shp n F M) {i : Nat} (hi : i < n) {f : Nat} (hf : f < F) {v : Int} {k : Nat} {x : Int} (hx : 0 ≤ x) : cell (setc M i f v) k x = if i = k ∧ (f : Int) = x then v else cell M k x := by
  simp only [cell, setc]
  rw [gl_set (by rw [h.1]; exact hi)]
  by_cases e : i = k
  · subst e
    rw [if_pos rfl]
    have := gi_set (S := gl M i) (x := (f : Int)) (y := x) (b := v) (by omega) (by rw [h.row hi]; omega) hx
    rw [Int.toNat_natCast] at this
    rw [this]
    by_cases e2 : (f : Int) = x <;> simp [e2]
  · simp [e]
theorem cell_put (h : Shp n F M) {i : Nat} (hi : i < n) {f g : Nat} (hf : f < F) (hg : g < F) {k : Nat} {x : Int} (hx : 0 ≤ x) : cell (put M i f g) k x = if i = k ∧ (g : Int) = x then (f : Int) else if i = k ∧ (f : Int) = x then (g : Int) else cell M k x := by
  rw [put, cell_setc (h.setc hi f g) hi hg hx, cell_setc h hi hf hx]
theorem Shp.put (h : Shp n F M) {i : Nat} (hi : i < n) (f g : Nat) : Shp n F (put M i f g) := (h.setc hi f g).setc hi g f
theorem cell_end (h : Shp n F M) {k : Nat} {x : Int} (hk : n ≤ k) : cell M k x = 0 := by
  simp [cell, gl, List.getD_eq_getElem?_getD, List.getElem?_eq_none (show M.length ≤ k by rw [h.1]; exact hk), gi]
end

inductive Con (n : Nat) (M : List (List Int)) : Int → Prop where
  | zero : Con n M 0
  | step {y : Int} {i : Nat} : Con n M y → i < n → 0 ≤ y → 0 ≤ cell M i y → Con n M (cell M i y)

def Ext (n F : Nat) (M L : List (List Int)) : Prop := ∀ (i : Nat) (f : Int), i < n → 0 ≤ f → f < F → 0 ≤ cell M i f → cell L i f = cell M i f
theorem Ext.refl (n F : Nat) (M : List (List Int)) : Ext n F M M := fun _ _ _ _ _ _ => rfl
theorem Ext.trans {n F : Nat} {M L K : List (List Int)} (h : Ext n F M L) (h' : Ext n F L K) : Ext n F M K := fun i f hi h0 h1 h2 => by
  have e := h i f hi h0 h1 h2
  rw [h' i f hi h0 h1 (by rw [e]; exact h2), e]
theorem Ext.put {n F : Nat} {M : List (List Int)} (h : Shp n F M) {i f g : Nat} (hi : i < n) (hf : f < F) (hg : g < F) (h1 : cell M i f < 0) (h2 : cell M i g < 0) : Ext n F M (put M i f g) := fun k x hk h0 hx hc => by
  rw [cell_put h hi hf hg h0]
  split
  · rename_i e; obtain ⟨rfl, rfl⟩ := e; omega
  · split
    · rename_i e; obtain ⟨rfl, rfl⟩ := e; omega
    · rfl

structure Inv (n F : Nat) (M : List (List Int)) (met at_ : Nat) : Prop where
  shp : Shp n F M
  n0 : 0 < n
  met1 : 1 ≤ met
  metF : met ≤ F
  cells : ∀ (i : Nat) (f : Int), i < n → 0 ≤ f → f < F → cell M i f = -1 ∨ (0 ≤ cell M i f ∧ cell M i f < met ∧ f < met ∧ cell M i (cell M i f) = f ∧ cell M i f ≠ f)
  known : ∀ a : Nat, a < at_ → 0 ≤ cell M (a % n) (a / n : Nat)
  con : ∀ f : Nat, f < met → Con n M f
  le : at_ ≤ met * n

section
variable {n F : Nat} {M : List (List Int)} {met at_ : Nat}
theorem Inv.pos (h : Inv n F M met at_) (ha : at_ ≠ met * n) : at_ % n < n ∧ at_ / n < met := by
  have := h.le
  have hn := h.n0
  exact ⟨Nat.mod_lt _ hn, Nat.div_lt_of_lt_mul (by rw [Nat.mul_comm]; omega)⟩
theorem Inv.next (h : Inv n F M met at_) (ha : at_ ≠ met * n) (hk : 0 ≤ cell M (at_ % n) (at_ / n : Nat)) : Inv n F M met (at_ + 1) :=
  ⟨h.shp, h.n0, h.met1, h.metF, h.cells, fun a hlt => by
    by_cases e : a = at_
    · subst e; exact hk
    · exact h.known a (by omega), h.con, by have := h.le; omega⟩
theorem Con.ext {L : List (List Int)} (hM : ∀ (i : Nat) (f : Int), i < n → 0 ≤ f → 0 ≤ cell M i f → cell L i f = cell M i f) {x : Int} (h : Con n M x) : Con n L x := by
  induction h with
  | zero => exact .zero
  | @step y i hy hi h0 hc ih =>
    have e := hM i y hi h0 hc
    rw [← e]
    exact .step ih hi h0 (by rw [e]; exact hc)
theorem cell_out (h : Shp n F M) {i : Nat} (hi : i < n) {f : Int} (h0 : 0 ≤ f) (hf : ¬ f < F) : cell M i f = 0 := by
  simp [cell, gi, List.getD_eq_getElem?_getD, List.getElem?_eq_none (show (gl M i).length ≤ f.toNat by rw [h.row hi]; omega)]
theorem Inv.put {g : Nat} (h : Inv n F M met at_) (ha : at_ ≠ met * n) (hk : ¬ 0 ≤ cell M (at_ % n) (at_ / n : Nat)) (h1 : at_ / n < g) (h2 : g ≤ met) (h3 : g < F) (hg : ¬ 0 ≤ cell M (at_ % n) g) :
    Inv n F (put M (at_ % n) (at_ / n) g) (max met (g + 1)) (at_ + 1) := by
  obtain ⟨hi, hf⟩ := h.pos ha
  have hback : ∀ a, a < at_ → 0 ≤ cell M (a % n) (a / n : Nat) := h.known
  have hself : ∀ a, a = at_ → a % n = at_ % n ∧ a / n = at_ / n := fun a e => by subst e; exact ⟨rfl, rfl⟩
  generalize at_ / n = q at *
  generalize at_ % n = r at *
  have hfF : q < F := by have := h.metF; omega
  have hc : ∀ (k : Nat) (x : Int), 0 ≤ x → cell (Vc.put M r q g) k x = if r = k ∧ (g : Int) = x then ((q : Nat) : Int) else if r = k ∧ ((q : Nat) : Int) = x then (g : Int) else cell M k x := fun k x hx => cell_put h.shp hi hfF h3 hx
  have ext : ∀ (k : Nat) (x : Int), k < n → 0 ≤ x → 0 ≤ cell M k x → cell (Vc.put M r q g) k x = cell M k x := fun k x _ hx hcx => by
    rw [hc k x hx]
    split
    · rename_i e; obtain ⟨rfl, rfl⟩ := e; omega
    · split
      · rename_i e; obtain ⟨rfl, rfl⟩ := e; omega
      · rfl
  refine ⟨h.shp.put hi _ _, h.n0, by have := h.met1; omega, by have := h.metF; omega, fun k x hk hx hxF => ?_, fun a hlt => ?_, fun x hx => ?_, ?_⟩
  · rw [hc k x hx]
    split
    · rename_i e
      obtain ⟨rfl, rfl⟩ := e
      refine .inr ⟨by omega, by omega, by omega, ?_, by omega⟩
      rw [hc _ _ (by omega), if_neg (by omega), if_pos ⟨rfl, rfl⟩]
    · rename_i e1
      split
      · rename_i e
        obtain ⟨rfl, rfl⟩ := e
        refine .inr ⟨by omega, by omega, by omega, ?_, by omega⟩
        rw [hc _ _ (by omega), if_pos ⟨rfl, rfl⟩]
      · rename_i e2
        rcases h.cells k x hk hx hxF with h4 | ⟨h4, h5, h6, h7, h8⟩
        · exact .inl h4
        · refine .inr ⟨h4, by omega, by omega, ?_, h8⟩
          rw [ext k _ hk h4 (by rw [h7]; exact hx), h7]
  · by_cases e : a = at_
    · rw [(hself a e).1, (hself a e).2, hc _ _ (by omega)]
      split
      · omega
      · rw [if_pos ⟨rfl, rfl⟩]; omega
    · have := hback a (by omega)
      rw [ext _ _ (Nat.mod_lt _ h.n0) (Int.natCast_nonneg _) this]; exact this
  · by_cases hlt : x < met
    · exact (h.con x hlt).ext (fun k y hk h0 hcy => ext k y hk h0 hcy)
    · have hxg : x = g := by omega
      subst hxg
      have h0 := (h.con _ hf).ext (L := Vc.put M r q x) (fun k y hk h0 hcy => ext k y hk h0 hcy)
      have e : cell (Vc.put M r q x) r ((q : Nat) : Int) = (x : Int) := by rw [hc _ _ (by omega), if_neg (by omega), if_pos ⟨rfl, rfl⟩]
      have := Con.step h0 hi (by omega) (by rw [e]; omega)
      rw [e] at this; exact this
  · have := h.le
    have h5 : met * n ≤ (max met (g + 1)) * n := Nat.mul_le_mul_right n (by omega)
    omega

/-- the tree: 'ok' cuts, 'fin' judges the whole -/
def grow (n F : Nat) (ok : List (List Int) → Nat → Nat → Bool) (fin : List (List Int) → Bool) : Nat → Nat → Nat → List (List Int) → List (List (List Int))
  | 0, _, _, _ => []
  | k + 1, at_, met, M =>
    if at_ = met * n then (if met = F ∧ fin M = true then [M] else [])
    else if 0 ≤ cell M (at_ % n) (at_ / n : Nat) then grow n F ok fin k (at_ + 1) met M
    else (List.range' (at_ / n + 1) (min met (F - 1) - at_ / n)).flatMap fun g =>
      if 0 ≤ cell M (at_ % n) (g : Nat) then [] else if ok (put M (at_ % n) (at_ / n) g) (at_ % n) (at_ / n) = true then grow n F ok fin k (at_ + 1) (max met (g + 1)) (put M (at_ % n) (at_ / n) g) else []

theorem range_mem (h : Inv n F M met at_) (ha : at_ ≠ met * n) {g : Nat} (hg : g ∈ List.range' (at_ / n + 1) (min met (F - 1) - at_ / n)) : at_ / n < g ∧ g ≤ met ∧ g < F := by
  rw [List.mem_range'_1] at hg
  have := (h.pos ha).2
  have := h.met1
  have := h.metF
  omega
end

theorem grow_leaf {n F : Nat} {ok : List (List Int) → Nat → Nat → Bool} {fin : List (List Int) → Bool} : ∀ (k at_ met : Nat) (M : List (List Int)), Inv n F M met at_ → ∀ L ∈ grow n F ok fin k at_ met M, Ext n F M L ∧ Inv n F L F (F * n)
  | 0, _, _, _, _, L, hL => by simp [grow] at hL
  | k + 1, at_, met, M, h, L, hL => by
    simp only [grow] at hL
    split at hL
    · rename_i ha
      split at hL
      · rename_i hm
        simp at hL; subst hL
        refine ⟨Ext.refl _ _ _, ?_⟩
        have h1 := hm.1
        subst h1
        rw [← ha]; exact h
      · simp at hL
    · rename_i ha
      split at hL
      · rename_i hk
        exact grow_leaf k _ _ _ (h.next ha hk) L hL
      · rename_i hk
        rw [List.mem_flatMap] at hL
        obtain ⟨g, hg, hL⟩ := hL
        have hr := range_mem h ha hg
        split at hL
        · simp at hL
        · rename_i hgc
          split at hL
          · have h1 := h.put ha hk hr.1 hr.2.1 hr.2.2 hgc
            have hp := h.pos ha
            have h2 := grow_leaf k _ _ _ h1 L hL
            exact ⟨(Ext.put h.shp hp.1 (by have := h.metF; omega) hr.2.2 (by omega) (by omega)).trans h2.1, h2.2⟩
          · simp at hL

theorem filter_flatMap' {α β : Type} (p : β → Bool) (f : α → List β) : ∀ (l : List α), (l.flatMap f).filter p = l.flatMap fun a => (f a).filter p
  | [] => rfl
  | a :: l => by simp [List.filter_append, filter_flatMap' p f l]

/-- a cut tree keeps the valid leaves: 'J' holds all the way down -/
theorem grow_filter {n F : Nat} {ok : List (List Int) → Nat → Nat → Bool} {fin : List (List Int) → Bool} (J : List (List Int) → Prop) (V : List (List Int) → Bool)
    (hJ : ∀ (M : List (List Int)) (i f : Nat), ok M i f = true → J M)
    (hend : ∀ (M : List (List Int)), Inv n F M F (F * n) → J M → fin M = V M)
    (hcut : ∀ (M : List (List Int)) (i f met at_ : Nat), Inv n F M met at_ → i < n → f < F → 0 ≤ cell M i f → ∀ L, Ext n F M L → Inv n F L F (F * n) → V L = true → ok M i f = true) :
    ∀ (k at_ met : Nat) (M : List (List Int)), Inv n F M met at_ → J M → grow n F ok fin k at_ met M = (grow n F (fun _ _ _ => true) (fun _ => true) k at_ met M).filter V := by
  intro k
  induction k with
  | zero => intro at_ met M _ _; simp [grow]
  | succ k ih =>
    intro at_ met M h hj
    simp only [grow]
    split
    · rename_i ha
      by_cases hm : met = F
      · subst hm
        have h1 : Inv n met M met (met * n) := by rw [← ha]; exact h
        rw [hend M h1 hj]
        by_cases hv : V M = true <;> simp [hv]
      · simp [hm]
    · rename_i ha
      split
      · rename_i hk
        exact ih _ _ _ (h.next ha hk) hj
      · rename_i hk
        rw [filter_flatMap']
        have key : ∀ (l : List Nat), (∀ g ∈ l, at_ / n < g ∧ g ≤ met ∧ g < F) →
            (l.flatMap fun g => if 0 ≤ cell M (at_ % n) (g : Nat) then [] else if ok (put M (at_ % n) (at_ / n) g) (at_ % n) (at_ / n) = true then grow n F ok fin k (at_ + 1) (max met (g + 1)) (put M (at_ % n) (at_ / n) g) else []) =
            l.flatMap fun g => (if 0 ≤ cell M (at_ % n) (g : Nat) then [] else if (fun (_ : List (List Int)) (_ _ : Nat) => true) (put M (at_ % n) (at_ / n) g) (at_ % n) (at_ / n) = true then grow n F (fun _ _ _ => true) (fun _ => true) k (at_ + 1) (max met (g + 1)) (put M (at_ % n) (at_ / n) g) else []).filter V := by
          intro l
          induction l with
          | nil => intro _; rfl
          | cons g l ihl =>
            intro hl
            have hr := hl g (by simp)
            rw [List.flatMap_cons, List.flatMap_cons, ihl (fun x hx => hl x (by simp [hx]))]
            congr 1
            split
            · rfl
            · rename_i hgc
              have h1 := h.put ha hk hr.1 hr.2.1 hr.2.2 hgc
              have hp := h.pos ha
              have hfF : at_ / n < F := by have := h.metF; omega
              rw [if_pos rfl]
              split
              · rename_i hok
                exact ih _ _ _ h1 (hJ _ _ _ hok)
              · rename_i hok
                symm
                rw [List.filter_eq_nil_iff]
                intro L hL hV
                have h2 := grow_leaf k _ _ _ h1 L hL
                exact hok (hcut _ _ _ _ _ h1 hp.1 hfF (by
                  rw [cell_put h.shp hp.1 hfF hr.2.2 (Int.natCast_nonneg _)]
                  split
                  · exact Int.natCast_nonneg _
                  · rw [if_pos ⟨rfl, rfl⟩]; exact Int.natCast_nonneg _) L h2.1 h2.2 hV)
        exact key _ (fun g hg => range_mem h ha hg)

/-! what is asked of partial moves -/
def kn (M : List (List Int)) (i : Nat) (x : Int) : Int := if x < 0 then -1 else cell M i x
/-- at one flag, all pairs of moves that commute -/
def FitsP (M : List (List Int)) (i k : Nat) (f : Int) : Prop := (0 ≤ cell M i f → cell M i f ≠ cell M k f) ∧ (0 ≤ kn M k (cell M i f) → 0 ≤ kn M i (cell M k f) → kn M k (cell M i f) = kn M i (cell M k f))
instance (M : List (List Int)) (i k : Nat) (f : Int) : Decidable (FitsP M i k f) := by unfold FitsP; exact inferInstance
def FitsAll (M : List (List Int)) (f : Int) : Prop := ∀ i, i < M.length → ∀ k, k < M.length → i + 2 ≤ k → FitsP M i k f
instance (M : List (List Int)) (f : Int) : Decidable (FitsAll M f) := by unfold FitsAll; exact inferInstance
def okS (F : Nat) (M : List (List Int)) (_ _ : Nat) : Bool := decide (∀ e, e < F → FitsAll M (e : Nat))
/-- at one place, the moves that commute with one -/
def BadP (M : List (List Int)) (i k : Nat) (f g : Int) : Prop := cell M k f = g ∨ (0 ≤ cell M k f ∧ 0 ≤ cell M k g ∧ 0 ≤ cell M i (cell M k f) ∧ cell M i (cell M k f) ≠ cell M k g) ∨ (0 ≤ cell M k f ∧ 0 ≤ cell M k g ∧ 0 ≤ cell M i (cell M k g) ∧ cell M i (cell M k g) ≠ cell M k f)
instance (M : List (List Int)) (i k : Nat) (f g : Int) : Decidable (BadP M i k f g) := by unfold BadP; exact inferInstance
def okI (M : List (List Int)) (i f : Nat) : Bool := decide (∀ k, k < M.length → ¬ (-1 ≤ (k : Int) - i ∧ (k : Int) - i ≤ 1) → ¬ BadP M i k f (cell M i f))
end Go.Proofs.Ytpdhjnacnmfbjaa.Vc
