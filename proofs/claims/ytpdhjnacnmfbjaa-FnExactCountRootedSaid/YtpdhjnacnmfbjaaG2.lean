/-
  The walk of the reference's search for rooted forms. Conditions: as each states them.
-/
import Derived.Test.YtpdhjnacnmfbjaaG1
namespace Go.Proofs.Ytpdhjnacnmfbjaa.Vc
open Go.RowKit

theorem perm_mid {α : Type} (a b c : List α) (x : α) : (a ++ (x :: (b ++ c))).Perm (x :: (b ++ (a ++ c))) :=
  List.perm_middle.trans (List.Perm.cons _ (by rw [← List.append_assoc, ← List.append_assoc]; exact List.Perm.append_right c List.perm_append_comm))

theorem perm_four {α : Type} (a b c d : List α) : (a ++ (b ++ (c ++ d))).Perm (b ++ ((c ++ a) ++ d)) := by
  have h1 := List.Perm.append_right (c ++ d) (List.perm_append_comm (l₁ := a) (l₂ := b))
  rw [List.append_assoc, List.append_assoc] at h1
  have h2 := List.Perm.append_right d (List.perm_append_comm (l₁ := a) (l₂ := c))
  rw [List.append_assoc] at h2
  exact h1.trans (List.Perm.append_left _ h2)

/-- known places are passed -/
theorem grow_skip {n F : Nat} {ok : List (List Int) → Nat → Nat → Bool} {fin : List (List Int) → Bool} {M : List (List Int)} {met : Nat} : ∀ (s fuel at_ : Nat), at_ + s ≤ met * n → (∀ a, at_ ≤ a → a < at_ + s → 0 ≤ cell M (a % n) (a / n : Nat)) → grow n F ok fin (fuel + s) at_ met M = grow n F ok fin fuel (at_ + s) met M
  | 0, fuel, at_, _, _ => rfl
  | s + 1, fuel, at_, hle, hk => by
    rw [← Nat.add_assoc]
    show (if _ then _ else _) = _
    rw [if_neg (by omega), if_pos (hk at_ (Nat.le_refl _) (by omega)), grow_skip s fuel (at_ + 1) (by omega) (fun a h1 h2 => hk a (by omega) (by omega))]
    congr 1; omega
theorem Inv.upto {n F : Nat} {M : List (List Int)} {met at_ : Nat} (h : Inv n F M met at_) : ∀ (b : Nat), at_ ≤ b → b ≤ met * n → (∀ a, a < b → 0 ≤ cell M (a % n) (a / n : Nat)) → Inv n F M met b := fun b _ hb hk =>
  ⟨h.shp, h.n0, h.met1, h.metF, h.cells, hk, h.con, hb⟩

/-- what the loop over g has found -/
def body (n F : Nat) (ok : List (List Int) → Nat → Nat → Bool) (fin : List (List Int) → Bool) (k at_ met : Nat) (M : List (List Int)) (g : Nat) : List (List (List Int)) :=
  if 0 ≤ cell M (at_ % n) (g : Nat) then [] else if ok (put M (at_ % n) (at_ / n) g) (at_ % n) (at_ / n) = true then grow n F ok fin k (at_ + 1) (max met (g + 1)) (put M (at_ % n) (at_ / n) g) else []
theorem grow_body {n F : Nat} {ok : List (List Int) → Nat → Nat → Bool} {fin : List (List Int) → Bool} {k at_ met : Nat} {M : List (List Int)} (ha : at_ ≠ met * n) (hk : ¬ 0 ≤ cell M (at_ % n) (at_ / n : Nat)) :
    grow n F ok fin (k + 1) at_ met M = (List.range' (at_ / n + 1) (min met (F - 1) - at_ / n)).flatMap (body n F ok fin k at_ met M) := by
  show (if _ then _ else _) = _
  rw [if_neg ha, if_neg hk]; rfl
theorem range_step {α : Type} (f : Nat → List α) {s c g : Nat} (h1 : s ≤ g) (h2 : g < s + c) : (List.range' s (g + 1 - s)).flatMap f = (List.range' s (g - s)).flatMap f ++ f g := by
  rw [show g + 1 - s = (g - s) + 1 by omega, List.range'_concat, List.flatMap_append]
  simp [show s + (g - s) = g by omega]
theorem range_rest {α : Type} (f : Nat → List α) {s c g : Nat} (h1 : s ≤ g) (h2 : g < s + c) : ((List.range' s (g - s)).flatMap f).length + (f g).length ≤ ((List.range' s c).flatMap f).length := by
  have e : List.range' s c = List.range' s (g + 1 - s) ++ List.range' (g + 1) (c - (g + 1 - s)) := by
    rw [show c = (g + 1 - s) + (c - (g + 1 - s)) by omega, ← List.range'_append_1]
    congr 2 <;> omega
  rw [e, List.flatMap_append, range_step f h1 h2]
  simp only [List.length_append]
  omega
end Go.Proofs.Ytpdhjnacnmfbjaa.Vc
