/-
  The cycles of a list of numbers, by their least points, and lists in ascending order: a plain law, with no program in sight. Conditions: as each states them.
-/
import Derived.Test.YtpdhjnacnmfbjaaMat
namespace Go.Proofs.Ytpdhjnacnmfbjaa.Vc
open Go.RowKit

/-- from x on, till a point comes that was seen -/
def goC (p : List Int) : Nat → Nat → List Bool → List Int × List Bool
  | 0, _, s => ([], s)
  | k + 1, x, s => if gb s (x : Int) = true then ([], s) else ((x : Int) :: (goC p k (gi p x).toNat (s.set x true)).1, (goC p k (gi p x).toNat (s.set x true)).2)

theorem gb_nat {s : List Bool} {x : Nat} (hx : x < s.length) : gb s (x : Int) = s[x] := by simp [gb, List.getD_eq_getElem?_getD, List.getElem?_eq_getElem hx]
theorem count_seen {s : List Bool} {x : Nat} (hx : x < s.length) (h : ¬ gb s (x : Int) = true) : (s.set x true).count false + 1 = s.count false := by
  have e := gb_nat hx
  rw [e, Bool.not_eq_true] at h
  have h1 : 0 < s.count false := by
    rw [List.count_pos_iff, ← h]
    exact List.getElem_mem hx
  rw [List.count_set hx, h]
  simp
  omega
theorem goC_seen {p : List Int} {s : List Bool} {x : Nat} (h : gb s (x : Int) = true) (k : Nat) : goC p k x s = ([], s) := by
  cases k with
  | zero => rfl
  | succ k => simp [goC, h]
theorem goC_step {p : List Int} {s : List Bool} {x : Nat} (hx : x < s.length) (h : ¬ gb s (x : Int) = true) : goC p (s.count false) x s = ((x : Int) :: (goC p ((s.set x true).count false) (gi p x).toNat (s.set x true)).1, (goC p ((s.set x true).count false) (gi p x).toNat (s.set x true)).2) := by
  rw [← count_seen hx h]
  simp [goC, h]
theorem goC_len {p : List Int} : ∀ (k x : Nat) (s : List Bool), (goC p k x s).2.length = s.length
  | 0, _, _ => rfl
  | k + 1, x, s => by
    unfold goC
    split
    · rfl
    · show (goC p k _ _).2.length = _
      rw [goC_len k, List.length_set]
theorem goC_le {p : List Int} : ∀ (k x : Nat) (s : List Bool), (goC p k x s).1.length ≤ k
  | 0, _, _ => Nat.le_refl _
  | k + 1, x, s => by
    unfold goC
    split
    · exact Nat.zero_le _
    · show (goC p k _ _).1.length + 1 ≤ _
      have := goC_le (p := p) k (gi p x).toNat (s.set x true)
      omega

/-- all cycles from some points on -/
def cycs (p : List Int) : List Nat → List Bool → List (List Int)
  | [], _ => []
  | i :: is, s => (if (goC p (s.count false) i s).1 = [] then [] else [(goC p (s.count false) i s).1]) ++ cycs p is (goC p (s.count false) i s).2
theorem cycs_le {p : List Int} : ∀ (is : List Nat) (s : List Bool), (cycs p is s).length ≤ is.length
  | [], _ => Nat.le_refl _
  | i :: is, s => by
    have := cycs_le (p := p) is (goC p (s.count false) i s).2
    unfold cycs
    rw [List.length_append, List.length_cons]
    split <;> simp <;> omega
/-- the cycles of n points -/
def cyAll (p : List Int) (n : Nat) : List (List Int) := cycs p (List.range n) (List.replicate n false)
def lenAll (p : List Int) (n : Nat) : List Int := (cyAll p n).map fun c => (c.length : Int)
theorem cyAll_le (p : List Int) (n : Nat) : (cyAll p n).length ≤ n := by
  have := cycs_le (p := p) (List.range n) (List.replicate n false)
  rwa [List.length_range] at this
theorem lenAll_le (p : List Int) (n : Nat) : (lenAll p n).length ≤ n := by
  unfold lenAll; rw [List.length_map]; exact cyAll_le p n
theorem range_drop (n i : Nat) (h : i < n) : List.range' i (n - i) = i :: List.range' (i + 1) (n - (i + 1)) := by
  obtain ⟨m, hm⟩ : ∃ m, n - i = m + 1 := ⟨n - i - 1, by omega⟩
  rw [hm, show n - (i + 1) = m by omega]
  rfl
theorem cyAll_eq (p : List Int) (n : Nat) : cyAll p n = cycs p (List.range' 0 (n - 0)) (List.replicate n false) := by
  unfold cyAll
  rw [List.range_eq_range']
  rfl
theorem cycs_step {p : List Int} {n i : Nat} (h : i < n) (s : List Bool) : cycs p (List.range' i (n - i)) s = (if (goC p (s.count false) i s).1 = [] then [] else [(goC p (s.count false) i s).1]) ++ cycs p (List.range' (i + 1) (n - (i + 1))) (goC p (s.count false) i s).2 := by
  rw [range_drop n i h]; rfl
theorem cycs_end {p : List Int} {n : Nat} (s : List Bool) : cycs p (List.range' n (n - n)) s = [] := by
  rw [Nat.sub_self]; rfl

/-! ascending lists -/
def Asc (l : List Int) : Prop := l.Pairwise (· ≤ ·)
def srt (l : List Int) : List Int := l.mergeSort fun x y => decide (x ≤ y)
theorem srt_perm (l : List Int) : (srt l).Perm l := List.mergeSort_perm _ _
theorem srt_asc (l : List Int) : Asc (srt l) := by
  have := List.pairwise_mergeSort (le := fun x y : Int => decide (x ≤ y)) (fun a b c h1 h2 => by simp at h1 h2 ⊢; omega) (fun a b => by simp; omega) l
  exact this.imp fun h => by simpa using h
theorem asc_unique {l l' : List Int} (h : l.Perm l') (h1 : Asc l) (h2 : Asc l') : l = l' :=
  List.Perm.eq_of_pairwise (le := (· ≤ ·)) (fun a b _ _ h1 h2 => by omega) h1 h2 h
theorem asc_srt {l l' : List Int} (h : l.Perm l') (h1 : Asc l) : l = srt l' := asc_unique (h.trans (srt_perm l').symm) h1 (srt_asc l')
/-- a number put in where all ahead are less, and the one there is not -/
theorem asc_put {out : List Int} {a : Nat} {v : Int} (h : Asc out) (ha : a ≤ out.length) (hl : ∀ j : Nat, j < a → gi out (j : Int) < v) (hg : a < out.length → v ≤ gi out (a : Int)) : Asc (out.take a ++ (v :: out.drop a)) := by
  have key : ∀ j (hj : j < out.length), gi out (j : Int) = out[j] := fun j hj => by simp [gi, List.getD_eq_getElem?_getD, List.getElem?_eq_getElem hj]
  have hidx : ∀ i j (hi : i < out.length) (hj : j < out.length), i ≤ j → out[i] ≤ out[j] := fun i j hi hj hij => by
    by_cases e : i = j
    · subst e; exact Int.le_refl _
    · exact (List.pairwise_iff_getElem.1 h) i j hi hj (by omega)
  unfold Asc
  rw [List.pairwise_append, List.pairwise_cons]
  refine ⟨h.sublist (List.take_sublist _ _), ⟨fun x hx => ?_, h.sublist (List.drop_sublist _ _)⟩, fun x hx y hy => ?_⟩
  · obtain ⟨j, hj, rfl⟩ := List.mem_iff_getElem.1 hx
    rw [List.length_drop] at hj
    rw [List.getElem_drop]
    have h1 := hg (by omega)
    rw [key a (by omega)] at h1
    exact Int.le_trans h1 (hidx _ _ (by omega) (by omega) (by omega))
  · obtain ⟨j, hj, rfl⟩ := List.mem_iff_getElem.1 hx
    rw [List.length_take] at hj
    rw [List.getElem_take]
    have hxv : out[j] < v := by rw [← key j (by omega)]; exact hl j (by omega)
    rcases List.mem_cons.1 hy with rfl | hy
    · omega
    · obtain ⟨m, hm, rfl⟩ := List.mem_iff_getElem.1 hy
      rw [List.length_drop] at hm
      rw [List.getElem_drop]
      exact hidx _ _ (by omega) (by omega) (by omega)
theorem put_perm {out : List Int} {a : Nat} {v : Int} : (out.take a ++ (v :: out.drop a)).Perm (out ++ [v]) := by
  have h1 : (out.take a ++ (v :: out.drop a)).Perm (v :: (out.take a ++ out.drop a)) := List.perm_middle
  rw [List.take_append_drop] at h1
  exact h1.trans (List.perm_append_comm (l₁ := [v]))
end Go.Proofs.Ytpdhjnacnmfbjaa.Vc
