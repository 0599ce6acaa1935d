/-
  Forms of maniplexes, their order, and rooted forms, without a program. Conditions: as each states them.
-/
import Derived.Test.YtdedegbendjmbaaGreatDoorZc
namespace Go.Proofs.YtdedegbendjmbaaGreatDoor.Vc
open Go.RowKit

/-! scattered writes -/
def scat (init : List Int) (ix v : Nat → Int) : Nat → List Int
  | 0 => init
  | k + 1 => (scat init ix v k).set (ix k).toNat (v k)
theorem scat_len (init : List Int) (ix v : Nat → Int) : ∀ k, (scat init ix v k).length = init.length
  | 0 => rfl
  | k + 1 => by simp [scat, scat_len init ix v k]
def seqI (m : Nat) : List Int := (List.range m).map fun (k : Nat) => (k : Int)
theorem seqI_len (m : Nat) : (seqI m).length = m := by simp [seqI]
theorem seqI_get {m k : Nat} (h : k < m) : gi (seqI m) (k : Int) = k := by rw [gi_mem (by rw [seqI_len]; exact h)]; simp [seqI]
theorem seqI_mem {m : Nat} {x : Int} : x ∈ seqI m ↔ 0 ≤ x ∧ x < m := by
  simp only [seqI, List.mem_map, List.mem_range]
  exact ⟨fun ⟨k, hk, e⟩ => by omega, fun h => ⟨x.toNat, by omega, by omega⟩⟩
theorem seqI_succ (m : Nat) : seqI (m + 1) = seqI m ++ [(m : Int)] := by simp [seqI, List.range_succ]
/-! the inverse, and a system renumbered -/
def backI (N : Nat) (o : List Int) : List Int := scat (List.replicate N 0) (fun k => gi o k) (fun k => (k : Int)) o.length
/-- each of the N places once -/
structure Prm (N : Nat) (o : List Int) : Prop where
  len : o.length = N
  nodup : o.Nodup
  range : ∀ x ∈ o, 0 ≤ x ∧ x < (N : Int)
section
variable {N : Nat} {o : List Int}
end
/-- a move in new numbers: read along the order of the flags -/
def rowF (o b mv : List Int) : List Int := o.map fun x => gi b (gi mv x)
/-- .. and written place by place -/
def renI (N : Nat) (p mv : List Int) : List Int := scat (List.replicate N 0) (fun f => gi p f) (fun f => gi p (gi mv f)) N
/-- the form of a system from a flag -/
def formL (N : Nat) (xss : List (List Int)) (f : Int) : List (List Int) := xss.map fun mv => rowF (orbit N xss f) (backI N (orbit N xss f)) mv
theorem formL_len (N : Nat) (xss : List (List Int)) (f : Int) : (formL N xss f).length = xss.length := by simp [formL]

/-! lexicographic order -/
def cmpI (a b : Int) : Int := if a < b then -1 else if b < a then 1 else 0
def lexC : List Int → List Int → Int
  | [], [] => 0
  | [], _ :: _ => -1
  | _ :: _, [] => 1
  | a :: l, b :: r => if cmpI a b = 0 then lexC l r else cmpI a b
def lexCC : List (List Int) → List (List Int) → Int
  | [], [] => 0
  | [], _ :: _ => -1
  | _ :: _, [] => 1
  | a :: l, b :: r => if lexC a b = 0 then lexCC l r else lexC a b
theorem cmpI_zero {a b : Int} : cmpI a b = 0 ↔ a = b := by unfold cmpI; by_cases h : a < b <;> by_cases h' : b < a <;> simp [h, h'] <;> omega
theorem cmpI_neg {a b : Int} : cmpI a b < 0 ↔ a < b := by unfold cmpI; by_cases h : a < b <;> by_cases h' : b < a <;> simp [h, h'] <;> omega
theorem cmpI_swap (a b : Int) : cmpI b a = - cmpI a b := by unfold cmpI; split <;> split <;> omega
theorem lexC_zero : ∀ {a b : List Int}, lexC a b = 0 ↔ a = b
  | [], [] => by simp [lexC]
  | [], _ :: _ => by simp [lexC]
  | _ :: _, [] => by simp [lexC]
  | a :: l, b :: r => by
    simp only [lexC]
    split
    · rename_i h
      rw [lexC_zero, cmpI_zero.1 h]
      simp
    · rename_i h
      constructor
      · intro h'; exact absurd h' h
      · intro h'; exact absurd (cmpI_zero.2 (List.cons.inj h').1) h
theorem lexCC_zero : ∀ {a b : List (List Int)}, lexCC a b = 0 ↔ a = b
  | [], [] => by simp [lexCC]
  | [], _ :: _ => by simp [lexCC]
  | _ :: _, [] => by simp [lexCC]
  | a :: l, b :: r => by
    simp only [lexCC]
    split
    · rename_i h
      rw [lexCC_zero, lexC_zero.1 h]
      simp
    · rename_i h
      constructor
      · intro h'; exact absurd h' h
      · intro h'; exact absurd (lexC_zero.2 (List.cons.inj h').1) h
theorem lexC_swap : ∀ (a b : List Int), lexC b a = - lexC a b
  | [], [] => rfl
  | [], _ :: _ => rfl
  | _ :: _, [] => rfl
  | a :: l, b :: r => by
    simp only [lexC]
    rw [cmpI_swap a b, lexC_swap l r]
    by_cases h : cmpI a b = 0
    · rw [if_pos h, if_pos (by omega)]
    · rw [if_neg h, if_neg (by omega)]
theorem lexCC_swap : ∀ (a b : List (List Int)), lexCC b a = - lexCC a b
  | [], [] => rfl
  | [], _ :: _ => rfl
  | _ :: _, [] => rfl
  | a :: l, b :: r => by
    simp only [lexCC]
    rw [lexC_swap a b, lexCC_swap l r]
    by_cases h : lexC a b = 0
    · rw [if_pos h, if_pos (by omega)]
    · rw [if_neg h, if_neg (by omega)]
theorem lexC_trans : ∀ {a b c : List Int}, lexC a b < 0 → lexC b c < 0 → lexC a c < 0
  | [], [], _, h, _ => by simp [lexC] at h
  | [], _ :: _, [], _, h => by simp [lexC] at h
  | [], _ :: _, _ :: _, _, _ => by simp [lexC]
  | _ :: _, [], _, h, _ => by simp [lexC] at h
  | _ :: _, _ :: _, [], _, h => by simp [lexC] at h
  | a :: l, b :: r, c :: s, h, h' => by
    simp only [lexC] at h h' ⊢
    by_cases e1 : cmpI a b = 0
    · have := cmpI_zero.1 e1
      subst this
      rw [if_pos e1] at h
      by_cases e2 : cmpI a c = 0
      · rw [if_pos e2] at h' ⊢
        exact lexC_trans h h'
      · rw [if_neg e2] at h' ⊢
        exact h'
    · rw [if_neg e1] at h
      have hab := cmpI_neg.1 h
      by_cases e2 : cmpI b c = 0
      · have := cmpI_zero.1 e2
        subst this
        rw [if_neg e1]
        exact h
      · rw [if_neg e2] at h'
        have hbc := cmpI_neg.1 h'
        have hac : cmpI a c < 0 := cmpI_neg.2 (by omega)
        rw [if_neg (by omega)]
        exact hac
theorem lexCC_trans : ∀ {a b c : List (List Int)}, lexCC a b < 0 → lexCC b c < 0 → lexCC a c < 0
  | [], [], _, h, _ => by simp [lexCC] at h
  | [], _ :: _, [], _, h => by simp [lexCC] at h
  | [], _ :: _, _ :: _, _, _ => by simp [lexCC]
  | _ :: _, [], _, h, _ => by simp [lexCC] at h
  | _ :: _, _ :: _, [], _, h => by simp [lexCC] at h
  | a :: l, b :: r, c :: s, h, h' => by
    simp only [lexCC] at h h' ⊢
    by_cases e1 : lexC a b = 0
    · have := lexC_zero.1 e1
      subst this
      rw [if_pos e1] at h
      by_cases e2 : lexC a c = 0
      · rw [if_pos e2] at h' ⊢
        exact lexCC_trans h h'
      · rw [if_neg e2] at h' ⊢
        exact h'
    · rw [if_neg e1] at h
      by_cases e2 : lexC b c = 0
      · have := lexC_zero.1 e2
        subst this
        rw [if_neg e1]
        exact h
      · rw [if_neg e2] at h'
        have hac : lexC a c < 0 := lexC_trans h h'
        rw [if_neg (by omega)]
        exact hac

/-! the least form -/
def leastTo (N : Nat) (xss : List (List Int)) : Nat → List (List Int)
  | 0 => formL N xss 0
  | k + 1 => if lexCC (formL N xss k) (leastTo N xss k) < 0 then formL N xss k else leastTo N xss k
def leastL (N : Nat) (xss : List (List Int)) : List (List Int) := leastTo N xss N
/-! rooted forms are their own forms from the flag 0 -/
section
variable {n F : Nat}
/-- how many flags are numbered ahead of a place -/
def mtL (L : List (List Int)) (n : Nat) : Nat → Nat
  | 0 => 1
  | a + 1 => max (mtL L n a) ((cell L (a % n) (a / n : Nat)).toNat + 1)
def RG (L : List (List Int)) (n a : Nat) : Prop := 0 ≤ cell L (a % n) (a / n : Nat) ∧ cell L (a % n) (a / n : Nat) ≤ mtL L n a ∧ a / n < mtL L n a
theorem push_seq {m : Nat} {v : Int} (h0 : 0 ≤ v) (h1 : v ≤ m) : push1 (seqI m) v = seqI (max m (v.toNat + 1)) := by
  unfold push1
  by_cases h : v < m
  · rw [if_pos (seqI_mem.2 ⟨h0, h⟩), show max m (v.toNat + 1) = m by omega]
  · rw [if_neg (fun hm => h (seqI_mem.1 hm).2), show max m (v.toNat + 1) = m + 1 by omega, seqI_succ, show v = (m : Int) by omega]
theorem expand_seq {L : List (List Int)} {f : Nat} (hl : L.length = n) (hn : 0 < n) (hR : ∀ a, f * n ≤ a → a < (f + 1) * n → RG L n a) : expand L (f : Int) (seqI (mtL L n (f * n))) = seqI (mtL L n ((f + 1) * n)) := by
  have e1 : (f + 1) * n = f * n + n := by rw [Nat.succ_mul]
  have key : ∀ j, j ≤ n → (L.take j).foldl (fun o p => push1 o (gi p f)) (seqI (mtL L n (f * n))) = seqI (mtL L n (f * n + j)) := by
    intro j
    induction j with
    | zero => intro _; rfl
    | succ j ih =>
      intro hj
      have hj' : j < L.length := by omega
      rw [List.take_succ_eq_append_getElem hj', List.foldl_append, ih (by omega)]
      have ha1 : (f * n + j) % n = j := by rw [Nat.mul_comm, Nat.mul_add_mod]; exact Nat.mod_eq_of_lt (by omega)
      have ha2 : (f * n + j) / n = f := by rw [Nat.mul_comm, Nat.mul_add_div hn]; rw [Nat.div_eq_of_lt (by omega)]; omega
      have hr := hR (f * n + j) (by omega) (by omega)
      unfold RG at hr
      rw [ha1, ha2] at hr
      have hc : cell L j (f : Int) = gi (L[j]) f := by
        unfold cell
        rw [show gl L (j : Int) = L[j] by simp [gl, List.getD_eq_getElem?_getD, List.getElem?_eq_getElem hj']]
      show push1 _ (gi L[j] f) = seqI (max (mtL L n (f * n + j)) ((cell L ((f * n + j) % n) ((f * n + j) / n : Nat)).toNat + 1))
      rw [ha1, ha2, ← hc]
      exact push_seq hr.1 hr.2.1
  have := key n (Nat.le_refl _)
  rw [List.take_of_length_le (by omega)] at this
  rw [e1]
  exact this
end
end Go.Proofs.YtdedegbendjmbaaGreatDoor.Vc
