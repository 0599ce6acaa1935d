/-
  The texts Grw, Grv, Frm in one. Conditions: as each part states them.
-/
import Derived.Test.YtdedegbendjmbaaGreatDoorZb
/-
  Plain mathematics of rooted forms: a tree of partial moves, and two ways of cutting it that keep the same leaves. Conditions: as each states them. No program in sight.
-/
namespace Go.Proofs.YtdedegbendjmbaaGreatDoor.Vc

def cell (M : List (List Int)) (i : Nat) (f : Int) : Int := gi (gl M i) f
def setc (M : List (List Int)) (i f : Nat) (v : Int) : List (List Int) := M.set i ((gl M i).set f v)
def put (M : List (List Int)) (i f g : Nat) : List (List Int) := setc (setc M i f g) i g f
def Shp (n F : Nat) (M : List (List Int)) : Prop := M.length = n ∧ ∀ p ∈ M, p.length = F

section
variable {n F : Nat} {M : List (List Int)}
theorem Shp.row (h : Shp n F M) {i : Nat} (hi : i < n) : (gl M i).length = F := h.2 _ (by rw [gl_mem (by rw [h.1]; exact hi)]; exact List.getElem_mem _)
theorem gl_set {i k : Nat} {p : List Int} (hi : i < M.length) : gl (M.set i p) k = if i = k then p else gl M k := by
  simp only [gl, Int.toNat_natCast, List.getD_eq_getElem?_getD, List.getElem?_set]
  by_cases e : i = k
  · subst e; simp [hi]
  · simp [e]
theorem Shp.setc (h : Shp n F M) {i : Nat} (hi : i < n) (f : Nat) (v : Int) : Shp n F (setc M i f v) := by
  refine ⟨by simp [Vc.setc, h.1], fun p hp => ?_⟩
  rcases List.mem_or_eq_of_mem_set hp with hp | rfl
  · exact h.2 p hp
  · simpa using h.row hi
theorem cell_setc (h : Shp n F M) {i : Nat} (hi : i < n) {f : Nat} (hf : f < F) {v : Int} {k : Nat} {x : Int} (hx : 0 ≤ x) : cell (setc M i f v) k x = if i = k ∧ (f : Int) = x then v else cell M k x := by
  simp only [cell, setc]
  rw [gl_set (by rw [h.1]; exact hi)]
  by_cases e : i = k
  · subst e
    rw [if_pos rfl]
    have := gi_set (S := gl M i) (x := (f : Int)) (y := x) (b := v) (by omega) (by rw [h.row hi]; omega) hx
    rw [Int.toNat_natCast] at this
    rw [this]
    by_cases e2 : (f : Int) = x <;> simp [e2]
  · simp [e]
theorem cell_put (h : Shp n F M) {i : Nat} (hi : i < n) {f g : Nat} (hf : f < F) (hg : g < F) {k : Nat} {x : Int} (hx : 0 ≤ x) : cell (put M i f g) k x = if i = k ∧ (g : Int) = x then (f : Int) else if i = k ∧ (f : Int) = x then (g : Int) else cell M k x := by
  rw [put, cell_setc (h.setc hi f g) hi hg hx, cell_setc h hi hf hx]
theorem Shp.put (h : Shp n F M) {i : Nat} (hi : i < n) (f g : Nat) : Shp n F (put M i f g) := (h.setc hi f g).setc hi g f
end

inductive Con (n : Nat) (M : List (List Int)) : Int → Prop where
  | zero : Con n M 0
  | step {y : Int} {i : Nat} : Con n M y → i < n → 0 ≤ y → 0 ≤ cell M i y → Con n M (cell M i y)

def Ext (n F : Nat) (M L : List (List Int)) : Prop := ∀ (i : Nat) (f : Int), i < n → 0 ≤ f → f < F → 0 ≤ cell M i f → cell L i f = cell M i f
theorem Ext.refl (n F : Nat) (M : List (List Int)) : Ext n F M M := fun _ _ _ _ _ _ => rfl
theorem Ext.trans {n F : Nat} {M L K : List (List Int)} (h : Ext n F M L) (h' : Ext n F L K) : Ext n F M K := fun i f hi h0 h1 h2 => by
  have e := h i f hi h0 h1 h2
  rw [h' i f hi h0 h1 (by rw [e]; exact h2), e]
theorem Ext.put {n F : Nat} {M : List (List Int)} (h : Shp n F M) {i f g : Nat} (hi : i < n) (hf : f < F) (hg : g < F) (h1 : cell M i f < 0) (h2 : cell M i g < 0) : Ext n F M (put M i f g) := fun k x hk h0 hx hc => by
  rw [cell_put h hi hf hg h0]
  split
  · rename_i e; obtain ⟨rfl, rfl⟩ := e; omega
  · split
    · rename_i e; obtain ⟨rfl, rfl⟩ := e; omega
    · rfl

structure Inv (n F : Nat) (M : List (List Int)) (met at_ : Nat) : Prop where
  shp : Shp n F M
  n0 : 0 < n
  met1 : 1 ≤ met
  metF : met ≤ F
  cells : ∀ (i : Nat) (f : Int), i < n → 0 ≤ f → f < F → cell M i f = -1 ∨ (0 ≤ cell M i f ∧ cell M i f < met ∧ f < met ∧ cell M i (cell M i f) = f ∧ cell M i f ≠ f)
  known : ∀ a : Nat, a < at_ → 0 ≤ cell M (a % n) (a / n : Nat)
  con : ∀ f : Nat, f < met → Con n M f
  le : at_ ≤ met * n

section
variable {n F : Nat} {M : List (List Int)} {met at_ : Nat}
theorem Inv.pos (h : Inv n F M met at_) (ha : at_ ≠ met * n) : at_ % n < n ∧ at_ / n < met := by
  have := h.le
  have hn := h.n0
  exact ⟨Nat.mod_lt _ hn, Nat.div_lt_of_lt_mul (by rw [Nat.mul_comm]; omega)⟩
theorem Inv.next (h : Inv n F M met at_) (ha : at_ ≠ met * n) (hk : 0 ≤ cell M (at_ % n) (at_ / n : Nat)) : Inv n F M met (at_ + 1) :=
  ⟨h.shp, h.n0, h.met1, h.metF, h.cells, fun a hlt => by
    by_cases e : a = at_
    · subst e; exact hk
    · exact h.known a (by omega), h.con, by have := h.le; omega⟩
theorem Con.ext {L : List (List Int)} (hM : ∀ (i : Nat) (f : Int), i < n → 0 ≤ f → 0 ≤ cell M i f → cell L i f = cell M i f) {x : Int} (h : Con n M x) : Con n L x := by
  induction h with
  | zero => exact .zero
  | @step y i hy hi h0 hc ih =>
    have e := hM i y hi h0 hc
    rw [← e]
    exact .step ih hi h0 (by rw [e]; exact hc)
theorem Inv.put {g : Nat} (h : Inv n F M met at_) (ha : at_ ≠ met * n) (hk : ¬ 0 ≤ cell M (at_ % n) (at_ / n : Nat)) (h1 : at_ / n < g) (h2 : g ≤ met) (h3 : g < F) (hg : ¬ 0 ≤ cell M (at_ % n) g) :
    Inv n F (put M (at_ % n) (at_ / n) g) (max met (g + 1)) (at_ + 1) := by
  obtain ⟨hi, hf⟩ := h.pos ha
  have hback : ∀ a, a < at_ → 0 ≤ cell M (a % n) (a / n : Nat) := h.known
  have hself : ∀ a, a = at_ → a % n = at_ % n ∧ a / n = at_ / n := fun a e => by subst e; exact ⟨rfl, rfl⟩
  generalize at_ / n = q at *
  generalize at_ % n = r at *
  have hfF : q < F := by have := h.metF; omega
  have hc : ∀ (k : Nat) (x : Int), 0 ≤ x → cell (Vc.put M r q g) k x = if r = k ∧ (g : Int) = x then ((q : Nat) : Int) else if r = k ∧ ((q : Nat) : Int) = x then (g : Int) else cell M k x := fun k x hx => cell_put h.shp hi hfF h3 hx
  have ext : ∀ (k : Nat) (x : Int), k < n → 0 ≤ x → 0 ≤ cell M k x → cell (Vc.put M r q g) k x = cell M k x := fun k x _ hx hcx => by
    rw [hc k x hx]
    split
    · rename_i e; obtain ⟨rfl, rfl⟩ := e; omega
    · split
      · rename_i e; obtain ⟨rfl, rfl⟩ := e; omega
      · rfl
  refine ⟨h.shp.put hi _ _, h.n0, by have := h.met1; omega, by have := h.metF; omega, fun k x hk hx hxF => ?_, fun a hlt => ?_, fun x hx => ?_, ?_⟩
  · rw [hc k x hx]
    split
    · rename_i e
      obtain ⟨rfl, rfl⟩ := e
      refine .inr ⟨by omega, by omega, by omega, ?_, by omega⟩
      rw [hc _ _ (by omega), if_neg (by omega), if_pos ⟨rfl, rfl⟩]
    · rename_i e1
      split
      · rename_i e
        obtain ⟨rfl, rfl⟩ := e
        refine .inr ⟨by omega, by omega, by omega, ?_, by omega⟩
        rw [hc _ _ (by omega), if_pos ⟨rfl, rfl⟩]
      · rename_i e2
        rcases h.cells k x hk hx hxF with h4 | ⟨h4, h5, h6, h7, h8⟩
        · exact .inl h4
        · refine .inr ⟨h4, by omega, by omega, ?_, h8⟩
          rw [ext k _ hk h4 (by rw [h7]; exact hx), h7]
  · by_cases e : a = at_
    · rw [(hself a e).1, (hself a e).2, hc _ _ (by omega)]
      split
      · omega
      · rw [if_pos ⟨rfl, rfl⟩]; omega
    · have := hback a (by omega)
      rw [ext _ _ (Nat.mod_lt _ h.n0) (Int.natCast_nonneg _) this]; exact this
  · by_cases hlt : x < met
    · exact (h.con x hlt).ext (fun k y hk h0 hcy => ext k y hk h0 hcy)
    · have hxg : x = g := by omega
      subst hxg
      have h0 := (h.con _ hf).ext (L := Vc.put M r q x) (fun k y hk h0 hcy => ext k y hk h0 hcy)
      have e : cell (Vc.put M r q x) r ((q : Nat) : Int) = (x : Int) := by rw [hc _ _ (by omega), if_neg (by omega), if_pos ⟨rfl, rfl⟩]
      have := Con.step h0 hi (by omega) (by rw [e]; omega)
      rw [e] at this; exact this
  · have := h.le
    have h5 : met * n ≤ (max met (g + 1)) * n := Nat.mul_le_mul_right n (by omega)
    omega

/-- the tree: 'ok' cuts, 'fin' judges the whole -/
def grow (n F : Nat) (ok : List (List Int) → Nat → Nat → Bool) (fin : List (List Int) → Bool) : Nat → Nat → Nat → List (List Int) → List (List (List Int))
  | 0, _, _, _ => []
  | k + 1, at_, met, M =>
    if at_ = met * n then (if met = F ∧ fin M = true then [M] else [])
    else if 0 ≤ cell M (at_ % n) (at_ / n : Nat) then grow n F ok fin k (at_ + 1) met M
    else (List.range' (at_ / n + 1) (min met (F - 1) - at_ / n)).flatMap fun g =>
      if 0 ≤ cell M (at_ % n) (g : Nat) then [] else if ok (put M (at_ % n) (at_ / n) g) (at_ % n) (at_ / n) = true then grow n F ok fin k (at_ + 1) (max met (g + 1)) (put M (at_ % n) (at_ / n) g) else []

theorem range_mem (h : Inv n F M met at_) (ha : at_ ≠ met * n) {g : Nat} (hg : g ∈ List.range' (at_ / n + 1) (min met (F - 1) - at_ / n)) : at_ / n < g ∧ g ≤ met ∧ g < F := by
  rw [List.mem_range'_1] at hg
  have := (h.pos ha).2
  have := h.met1
  have := h.metF
  omega
end

theorem grow_leaf {n F : Nat} {ok : List (List Int) → Nat → Nat → Bool} {fin : List (List Int) → Bool} : ∀ (k at_ met : Nat) (M : List (List Int)), Inv n F M met at_ → ∀ L ∈ grow n F ok fin k at_ met M, Ext n F M L ∧ Inv n F L F (F * n)
  | 0, _, _, _, _, L, hL => by simp [grow] at hL
  | k + 1, at_, met, M, h, L, hL => by
    simp only [grow] at hL
    split at hL
    · rename_i ha
      split at hL
      · rename_i hm
        simp at hL; subst hL
        refine ⟨Ext.refl _ _ _, ?_⟩
        have h1 := hm.1
        subst h1
        rw [← ha]; exact h
      · simp at hL
    · rename_i ha
      split at hL
      · rename_i hk
        exact grow_leaf k _ _ _ (h.next ha hk) L hL
      · rename_i hk
        rw [List.mem_flatMap] at hL
        obtain ⟨g, hg, hL⟩ := hL
        have hr := range_mem h ha hg
        split at hL
        · simp at hL
        · rename_i hgc
          split at hL
          · have h1 := h.put ha hk hr.1 hr.2.1 hr.2.2 hgc
            have hp := h.pos ha
            have h2 := grow_leaf k _ _ _ h1 L hL
            exact ⟨(Ext.put h.shp hp.1 (by have := h.metF; omega) hr.2.2 (by omega) (by omega)).trans h2.1, h2.2⟩
          · simp at hL

theorem filter_flatMap' {α β : Type} (p : β → Bool) (f : α → List β) : ∀ (l : List α), (l.flatMap f).filter p = l.flatMap fun a => (f a).filter p
  | [] => rfl
  | a :: l => by simp [List.filter_append, filter_flatMap' p f l]

/-! what is asked of partial moves -/
def kn (M : List (List Int)) (i : Nat) (x : Int) : Int := if x < 0 then -1 else cell M i x
/-- at one flag, all pairs of moves that commute -/
def FitsP (M : List (List Int)) (i k : Nat) (f : Int) : Prop := (0 ≤ cell M i f → cell M i f ≠ cell M k f) ∧ (0 ≤ kn M k (cell M i f) → 0 ≤ kn M i (cell M k f) → kn M k (cell M i f) = kn M i (cell M k f))
instance (M : List (List Int)) (i k : Nat) (f : Int) : Decidable (FitsP M i k f) := by unfold FitsP; exact inferInstance
def FitsAll (M : List (List Int)) (f : Int) : Prop := ∀ i, i < M.length → ∀ k, k < M.length → i + 2 ≤ k → FitsP M i k f
instance (M : List (List Int)) (f : Int) : Decidable (FitsAll M f) := by unfold FitsAll; exact inferInstance
def okS (F : Nat) (M : List (List Int)) (_ _ : Nat) : Bool := decide (∀ e, e < F → FitsAll M (e : Nat))
/-- at one place, the moves that commute with one -/
def BadP (M : List (List Int)) (i k : Nat) (f g : Int) : Prop := cell M k f = g ∨ (0 ≤ cell M k f ∧ 0 ≤ cell M k g ∧ 0 ≤ cell M i (cell M k f) ∧ cell M i (cell M k f) ≠ cell M k g) ∨ (0 ≤ cell M k f ∧ 0 ≤ cell M k g ∧ 0 ≤ cell M i (cell M k g) ∧ cell M i (cell M k g) ≠ cell M k f)
instance (M : List (List Int)) (i k : Nat) (f g : Int) : Decidable (BadP M i k f g) := by unfold BadP; exact inferInstance
def okI (M : List (List Int)) (i f : Nat) : Bool := decide (∀ k, k < M.length → ¬ (-1 ≤ (k : Int) - i ∧ (k : Int) - i ≤ 1) → ¬ BadP M i k f (cell M i f))
end Go.Proofs.YtdedegbendjmbaaGreatDoor.Vc
/-
  Plain mathematics of rooted forms: both ways of cutting the tree keep the maniplexes, in the same order. Conditions: as each states them. No program in sight.
-/
namespace Go.Proofs.YtdedegbendjmbaaGreatDoor.Vc

section
variable {n F : Nat} {L M : List (List Int)}
theorem Inv.full (h : Inv n F L F (F * n)) {i : Nat} {f : Int} (hi : i < n) (h0 : 0 ≤ f) (hf : f < F) : 0 ≤ cell L i f := by
  obtain ⟨q, rfl⟩ : ∃ q : Nat, f = q := ⟨f.toNat, by omega⟩
  have h1 : q * n + i < F * n := by
    have : (q + 1) * n ≤ F * n := Nat.mul_le_mul_right n (by omega)
    rw [Nat.succ_mul] at this
    omega
  have h2 := h.known (q * n + i) h1
  rw [Nat.add_comm, Nat.add_mul_mod_self_right, Nat.mod_eq_of_lt hi, Nat.add_mul_div_right _ _ h.n0, Nat.div_eq_of_lt hi, Nat.zero_add] at h2
  exact h2
/-- a maniplex, told by cells -/
theorem Mani.cells (hL : Inv n F L F (F * n)) (h : Mani L) {i k : Nat} (hi : i < n) (hk : k < n) (hik : i + 2 ≤ k) {f : Int} (h0 : 0 ≤ f) (hf : f < F) : cell L k (cell L i f) = cell L i (cell L k f) ∧ cell L i f ≠ cell L k f := by
  have hl0 : (gl L 0).length = F := hL.shp.row hL.n0
  have hlen := hL.shp.1
  have h1 := h.2.2.2.1 i (by omega) k (by omega) hik f.toNat (by omega)
  unfold Comm at h1
  rw [Int.toNat_of_nonneg h0] at h1
  exact h1
/-- all rooted forms that go on from here, in order -/
def forms (n F : Nat) (k at_ met : Nat) (M : List (List Int)) : List (List (List Int)) := (grow n F (fun _ _ _ => true) (fun _ => true) k at_ met M).filter fun L => decide (Mani L)

/-- nothing known -/
def blank (n F : Nat) : List (List Int) := List.replicate n (List.replicate F (-1))
end
end Go.Proofs.YtdedegbendjmbaaGreatDoor.Vc
/-
  Forms of maniplexes, their order, and rooted forms, without a program. Conditions: as each states them.
-/
namespace Go.Proofs.YtdedegbendjmbaaGreatDoor.Vc
open Go.RowKit

/-! scattered writes -/
def scat (init : List Int) (ix v : Nat → Int) : Nat → List Int
  | 0 => init
  | k + 1 => (scat init ix v k).set (ix k).toNat (v k)
theorem scat_len (init : List Int) (ix v : Nat → Int) : ∀ k, (scat init ix v k).length = init.length
  | 0 => rfl
  | k + 1 => by simp [scat, scat_len init ix v k]
def seqI (m : Nat) : List Int := (List.range m).map fun (k : Nat) => (k : Int)
theorem seqI_len (m : Nat) : (seqI m).length = m := by simp [seqI]
theorem seqI_get {m k : Nat} (h : k < m) : gi (seqI m) (k : Int) = k := by rw [gi_mem (by rw [seqI_len]; exact h)]; simp [seqI]
theorem seqI_mem {m : Nat} {x : Int} : x ∈ seqI m ↔ 0 ≤ x ∧ x < m := by
  simp only [seqI, List.mem_map, List.mem_range]
  exact ⟨fun ⟨k, hk, e⟩ => by omega, fun h => ⟨x.toNat, by omega, by omega⟩⟩
theorem seqI_succ (m : Nat) : seqI (m + 1) = seqI m ++ [(m : Int)] := by simp [seqI, List.range_succ]
/-! the inverse, and a system renumbered -/
def backI (N : Nat) (o : List Int) : List Int := scat (List.replicate N 0) (fun k => gi o k) (fun k => (k : Int)) o.length
/-- each of the N places once -/
structure Prm (N : Nat) (o : List Int) : Prop where
  len : o.length = N
  nodup : o.Nodup
  range : ∀ x ∈ o, 0 ≤ x ∧ x < (N : Int)
section
variable {N : Nat} {o : List Int}
end
/-- a move in new numbers: read along the order of the flags -/
def rowF (o b mv : List Int) : List Int := o.map fun x => gi b (gi mv x)
/-- .. and written place by place -/
def renI (N : Nat) (p mv : List Int) : List Int := scat (List.replicate N 0) (fun f => gi p f) (fun f => gi p (gi mv f)) N
/-- the form of a system from a flag -/
def formL (N : Nat) (xss : List (List Int)) (f : Int) : List (List Int) := xss.map fun mv => rowF (orbit N xss f) (backI N (orbit N xss f)) mv
theorem formL_len (N : Nat) (xss : List (List Int)) (f : Int) : (formL N xss f).length = xss.length := by simp [formL]

/-! lexicographic order -/
def cmpI (a b : Int) : Int := if a < b then -1 else if b < a then 1 else 0
def lexC : List Int → List Int → Int
  | [], [] => 0
  | [], _ :: _ => -1
  | _ :: _, [] => 1
  | a :: l, b :: r => if cmpI a b = 0 then lexC l r else cmpI a b
def lexCC : List (List Int) → List (List Int) → Int
  | [], [] => 0
  | [], _ :: _ => -1
  | _ :: _, [] => 1
  | a :: l, b :: r => if lexC a b = 0 then lexCC l r else lexC a b
theorem cmpI_zero {a b : Int} : cmpI a b = 0 ↔ a = b := by unfold cmpI; by_cases h : a < b <;> by_cases h' : b < a <;> simp [h, h'] <;> omega
theorem cmpI_neg {a b : Int} : cmpI a b < 0 ↔ a < b := by unfold cmpI; by_cases h : a < b <;> by_cases h' : b < a <;> simp [h, h'] <;> omega
theorem cmpI_swap (a b : Int) : cmpI b a = - cmpI a b := by unfold cmpI; split <;> split <;> omega
theorem lexC_zero : ∀ {a b : List Int}, lexC a b = 0 ↔ a = b
  | [], [] => by simp [lexC]
  | [], _ :: _ => by simp [lexC]
  | _ :: _, [] => by simp [lexC]
  | a :: l, b :: r => by
    simp only [lexC]
    split
    · rename_i h
      rw [lexC_zero, cmpI_zero.1 h]
      simp
    · rename_i h
      constructor
      · intro h'; exact absurd h' h
      · intro h'; exact absurd (cmpI_zero.2 (List.cons.inj h').1) h
theorem lexCC_zero : ∀ {a b : List (List Int)}, lexCC a b = 0 ↔ a = b
  | [], [] => by simp [lexCC]
  | [], _ :: _ => by simp [lexCC]
  | _ :: _, [] => by simp [lexCC]
  | a :: l, b :: r => by
    simp only [lexCC]
    split
    · rename_i h
      rw [lexCC_zero, lexC_zero.1 h]
      simp
    · rename_i h
      constructor
      · intro h'; exact absurd h' h
      · intro h'; exact absurd (lexC_zero.2 (List.cons.inj h').1) h
theorem lexC_swap : ∀ (a b : List Int), lexC b a = - lexC a b
  | [], [] => rfl
  | [], _ :: _ => rfl
  | _ :: _, [] => rfl
  | a :: l, b :: r => by
    simp only [lexC]
    rw [cmpI_swap a b, lexC_swap l r]
    by_cases h : cmpI a b = 0
    · rw [if_pos h, if_pos (by omega)]
    · rw [if_neg h, if_neg (by omega)]
theorem lexCC_swap : ∀ (a b : List (List Int)), lexCC b a = - lexCC a b
  | [], [] => rfl
  | [], _ :: _ => rfl
  | _ :: _, [] => rfl
  | a :: l, b :: r => by
    simp only [lexCC]
    rw [lexC_swap a b, lexCC_swap l r]
    by_cases h : lexC a b = 0
    · rw [if_pos h, if_pos (by omega)]
    · rw [if_neg h, if_neg (by omega)]
theorem lexC_trans : ∀ {a b c : List Int}, lexC a b < 0 → lexC b c < 0 → lexC a c < 0
  | [], [], _, h, _ => by simp [lexC] at h
  | [], _ :: _, [], _, h => by simp [lexC] at h
  | [], _ :: _, _ :: _, _, _ => by simp [lexC]
  | _ :: _, [], _, h, _ => by simp [lexC] at h
  | _ :: _, _ :: _, [], _, h => by simp [lexC] at h
  | a :: l, b :: r, c :: s, h, h' => by
    simp only [lexC] at h h' ⊢
    by_cases e1 : cmpI a b = 0
    · have := cmpI_zero.1 e1
      subst this
      rw [if_pos e1] at h
      by_cases e2 : cmpI a c = 0
      · rw [if_pos e2] at h' ⊢
        exact lexC_trans h h'
      · rw [if_neg e2] at h' ⊢
        exact h'
    · rw [if_neg e1] at h
      have hab := cmpI_neg.1 h
      by_cases e2 : cmpI b c = 0
      · have := cmpI_zero.1 e2
        subst this
        rw [if_neg e1]
        exact h
      · rw [if_neg e2] at h'
        have hbc := cmpI_neg.1 h'
        have hac : cmpI a c < 0 := cmpI_neg.2 (by omega)
        rw [if_neg (by omega)]
        exact hac
theorem lexCC_trans : ∀ {a b c : List (List Int)}, lexCC a b < 0 → lexCC b c < 0 → lexCC a c < 0
  | [], [], _, h, _ => by simp [lexCC] at h
  | [], _ :: _, [], _, h => by simp [lexCC] at h
  | [], _ :: _, _ :: _, _, _ => by simp [lexCC]
  | _ :: _, [], _, h, _ => by simp [lexCC] at h
  | _ :: _, _ :: _, [], _, h => by simp [lexCC] at h
  | a :: l, b :: r, c :: s, h, h' => by
    simp only [lexCC] at h h' ⊢
    by_cases e1 : lexC a b = 0
    · have := lexC_zero.1 e1
      subst this
      rw [if_pos e1] at h
      by_cases e2 : lexC a c = 0
      · rw [if_pos e2] at h' ⊢
        exact lexCC_trans h h'
      · rw [if_neg e2] at h' ⊢
        exact h'
    · rw [if_neg e1] at h
      by_cases e2 : lexC b c = 0
      · have := lexC_zero.1 e2
        subst this
        rw [if_neg e1]
        exact h
      · rw [if_neg e2] at h'
        have hac : lexC a c < 0 := lexC_trans h h'
        rw [if_neg (by omega)]
        exact hac

/-! the least form -/
def leastTo (N : Nat) (xss : List (List Int)) : Nat → List (List Int)
  | 0 => formL N xss 0
  | k + 1 => if lexCC (formL N xss k) (leastTo N xss k) < 0 then formL N xss k else leastTo N xss k
def leastL (N : Nat) (xss : List (List Int)) : List (List Int) := leastTo N xss N
/-! rooted forms are their own forms from the flag 0 -/
section
variable {n F : Nat}
/-- how many flags are numbered ahead of a place -/
def mtL (L : List (List Int)) (n : Nat) : Nat → Nat
  | 0 => 1
  | a + 1 => max (mtL L n a) ((cell L (a % n) (a / n : Nat)).toNat + 1)
def RG (L : List (List Int)) (n a : Nat) : Prop := 0 ≤ cell L (a % n) (a / n : Nat) ∧ cell L (a % n) (a / n : Nat) ≤ mtL L n a ∧ a / n < mtL L n a
theorem push_seq {m : Nat} {v : Int} (h0 : 0 ≤ v) (h1 : v ≤ m) : push1 (seqI m) v = seqI (max m (v.toNat + 1)) := by
  unfold push1
  by_cases h : v < m
  · rw [if_pos (seqI_mem.2 ⟨h0, h⟩), show max m (v.toNat + 1) = m by omega]
  · rw [if_neg (fun hm => h (seqI_mem.1 hm).2), show max m (v.toNat + 1) = m + 1 by omega, seqI_succ, show v = (m : Int) by omega]
theorem expand_seq {L : List (List Int)} {f : Nat} (hl : L.length = n) (hn : 0 < n) (hR : ∀ a, f * n ≤ a → a < (f + 1) * n → RG L n a) : expand L (f : Int) (seqI (mtL L n (f * n))) = seqI (mtL L n ((f + 1) * n)) := by
  have e1 : (f + 1) * n = f * n + n := by rw [Nat.succ_mul]
  have key : ∀ j, j ≤ n → (L.take j).foldl (fun o p => push1 o (gi p f)) (seqI (mtL L n (f * n))) = seqI (mtL L n (f * n + j)) := by
    intro j
    induction j with
    | zero => intro _; rfl
    | succ j ih =>
      intro hj
      have hj' : j < L.length := by omega
      rw [List.take_succ_eq_append_getElem hj', List.foldl_append, ih (by omega)]
      have ha1 : (f * n + j) % n = j := by rw [Nat.mul_comm, Nat.mul_add_mod]; exact Nat.mod_eq_of_lt (by omega)
      have ha2 : (f * n + j) / n = f := by rw [Nat.mul_comm, Nat.mul_add_div hn]; rw [Nat.div_eq_of_lt (by omega)]; omega
      have hr := hR (f * n + j) (by omega) (by omega)
      unfold RG at hr
      rw [ha1, ha2] at hr
      have hc : cell L j (f : Int) = gi (L[j]) f := by
        unfold cell
        rw [show gl L (j : Int) = L[j] by simp [gl, List.getD_eq_getElem?_getD, List.getElem?_eq_getElem hj']]
      show push1 _ (gi L[j] f) = seqI (max (mtL L n (f * n + j)) ((cell L ((f * n + j) % n) ((f * n + j) / n : Nat)).toNat + 1))
      rw [ha1, ha2, ← hc]
      exact push_seq hr.1 hr.2.1
  have := key n (Nat.le_refl _)
  rw [List.take_of_length_le (by omega)] at this
  rw [e1]
  exact this
end
end Go.Proofs.YtdedegbendjmbaaGreatDoor.Vc
