/-
  Plain mathematics of orbits: what a search through moves finds, and in which order. Conditions: as each states them. No program in sight.
-/
import Derived.Test.YtpdhjnacnmfbjaaLaw
namespace Go.Proofs.Ytpdhjnacnmfbjaa.Vc

theorem nodup_le : ∀ (n : Nat) (l : List Nat), l.Nodup → (∀ x ∈ l, x < n) → l.length ≤ n
  | 0, l, _, h => by
    cases l with
    | nil => simp
    | cons a l => exact absurd (h a (by simp)) (by omega)
  | n + 1, l, hn, h => by
    have h1 := nodup_le n (l.erase n) (hn.erase n) (fun x hx => by
      have h2 := (hn.mem_erase_iff).1 hx
      have := h x h2.2
      omega)
    have := List.length_erase_le (a := n) (l := l)
    rw [List.length_erase] at h1
    split at h1 <;> omega
theorem nodup_le_int {N : Nat} {l : List Int} (hn : l.Nodup) (h : ∀ x ∈ l, 0 ≤ x ∧ x < N) : l.length ≤ N := by
  have := nodup_le N (l.map Int.toNat) (by
    rw [List.nodup_iff_pairwise_ne, List.pairwise_map]
    refine List.Pairwise.imp_of_mem ?_ hn
    intro a b ha hb hab e
    have := h a ha
    have := h b hb
    omega) (fun x hx => by
    obtain ⟨y, hy, rfl⟩ := List.mem_map.1 hx
    have := h y hy
    omega)
  simpa using this

/-- rows of N places that lead to places -/
def Sys (N : Nat) (xss : List (List Int)) : Prop := ∀ p ∈ xss, p.length = N ∧ ∀ x : Int, 0 ≤ x → x < N → 0 ≤ gi p x ∧ gi p x < N

inductive Reach (xss : List (List Int)) (x : Int) : Int → Prop where
  | refl : Reach xss x x
  | step {y : Int} {p : List Int} : Reach xss x y → p ∈ xss → Reach xss x (gi p y)

theorem Reach.trans {xss : List (List Int)} {x y z : Int} (h : Reach xss x y) (h' : Reach xss y z) : Reach xss x z := by
  induction h' with
  | refl => exact h
  | step _ hp ih => exact .step ih hp

def push1 (out : List Int) (y : Int) : List Int := if y ∈ out then out else out ++ [y]
def expand (xss : List (List Int)) (x : Int) (out : List Int) : List Int := xss.foldl (fun o p => push1 o (gi p x)) out
def bfs (xss : List (List Int)) : Nat → Nat → List Int → List Int
  | 0, _, out => out
  | f + 1, i, out => if i < out.length then bfs xss f (i + 1) (expand xss (gi out i) out) else out
def orbit (N : Nat) (xss : List (List Int)) (pt : Int) : List Int := bfs xss (N + 1) 0 [pt]

theorem push1_mem {out : List Int} {y z : Int} : z ∈ push1 out y ↔ z ∈ out ∨ z = y := by
  unfold push1
  split
  · constructor
    · exact Or.inl
    · rintro (h | rfl)
      · exact h
      · assumption
  · simp
theorem push1_nodup {out : List Int} {y : Int} (h : out.Nodup) : (push1 out y).Nodup := by
  unfold push1
  split
  · exact h
  · rename_i hy
    rw [List.nodup_append]
    refine ⟨h, by simp, fun a ha b hb => ?_⟩
    simp at hb; subst hb
    rintro rfl; exact hy ha
theorem push1_prefix (out : List Int) (y : Int) : out <+: push1 out y := by
  unfold push1
  split
  · exact List.prefix_rfl
  · exact List.prefix_append _ _

/-- what a search holds: what is found is found once, is reached, and lies in range -/
structure Good (N : Nat) (xss : List (List Int)) (pt : Int) (out : List Int) : Prop where
  nodup : out.Nodup
  range : ∀ x ∈ out, 0 ≤ x ∧ x < (N : Int)
  reach : ∀ x ∈ out, Reach xss pt x
theorem Good.push {N : Nat} {xss : List (List Int)} {pt : Int} {out : List Int} (h : Good N xss pt out) (hs : Sys N xss) {x : Int} (hx : x ∈ out) {p : List Int} (hp : p ∈ xss) : Good N xss pt (push1 out (gi p x)) :=
  ⟨push1_nodup h.nodup, fun z hz => by
    rcases push1_mem.1 hz with hz | rfl
    · exact h.range z hz
    · exact (hs p hp).2 x (h.range x hx).1 (h.range x hx).2, fun z hz => by
    rcases push1_mem.1 hz with hz | rfl
    · exact h.reach z hz
    · exact .step (h.reach x hx) hp⟩
theorem Good.len {N : Nat} {xss : List (List Int)} {pt : Int} {out : List Int} (h : Good N xss pt out) : out.length ≤ N := nodup_le_int h.nodup h.range

theorem foldl_push {N : Nat} {xss : List (List Int)} {pt : Int} (hs : Sys N xss) {x : Int} : ∀ (ps : List (List Int)) (out : List Int), (∀ p ∈ ps, p ∈ xss) → Good N xss pt out → x ∈ out →
    Good N xss pt (ps.foldl (fun o p => push1 o (gi p x)) out) ∧ out <+: ps.foldl (fun o p => push1 o (gi p x)) out ∧ ∀ p ∈ ps, gi p x ∈ ps.foldl (fun o p => push1 o (gi p x)) out
  | [], out, _, h, _ => ⟨h, List.prefix_rfl, fun p hp => by cases hp⟩
  | q :: ps, out, hps, h, hx => by
    have h1 := h.push hs hx (hps q (by simp))
    have hpre := push1_prefix out (gi q x)
    obtain ⟨g1, g2, g3⟩ := foldl_push hs ps (push1 out (gi q x)) (fun p hp => hps p (by simp [hp])) h1 (hpre.subset hx)
    refine ⟨g1, hpre.trans g2, fun p hp => ?_⟩
    rcases List.mem_cons.1 hp with rfl | hp
    · exact g2.subset (push1_mem.2 (Or.inr rfl))
    · exact g3 p hp

theorem gi_in {out : List Int} {i : Nat} (h : i < out.length) : gi out (i : Int) ∈ out := by rw [gi_mem h]; exact List.getElem_mem h
theorem gi_prefix {a b : List Int} (h : a <+: b) {i : Nat} (hi : i < a.length) : gi b (i : Int) = gi a (i : Int) := by
  rw [gi_mem hi, gi_mem (Nat.lt_of_lt_of_le hi h.length_le)]
  obtain ⟨t, rfl⟩ := h
  rw [List.getElem_append_left hi]

theorem bfs_spec {N : Nat} {xss : List (List Int)} {pt : Int} (hs : Sys N xss) : ∀ (f i : Nat) (out : List Int), Good N xss pt out → N < f + i → (∀ j, j < i → j < out.length → ∀ p ∈ xss, gi p (gi out (j : Int)) ∈ out) →
    Good N xss pt (bfs xss f i out) ∧ out <+: bfs xss f i out ∧ ∀ x ∈ bfs xss f i out, ∀ p ∈ xss, gi p x ∈ bfs xss f i out
  | 0, i, out, h, hf, hc => by
      simp only [bfs]
      refine ⟨h, List.prefix_rfl, fun x hx p hp => ?_⟩
      obtain ⟨j, hj, rfl⟩ := List.mem_iff_getElem.1 hx
      have := h.len
      have := hc j (by omega) hj p hp
      rw [gi_mem hj] at this
      exact this
  | f + 1, i, out, h, hf, hc => by
    simp only [bfs]
    split
    · rename_i hi
      obtain ⟨g1, g2, g3⟩ := foldl_push hs xss out (fun p hp => hp) h (gi_in hi)
      replace g2 : out <+: expand xss (gi out i) out := g2
      obtain ⟨k1, k2, k3⟩ := bfs_spec hs f (i + 1) (expand xss (gi out i) out) g1 (by omega) (fun j hj hjl p hp => by
        by_cases hji : j = i
        · subst hji
          show gi p (gi (expand xss _ out) _) ∈ expand xss _ out
          rw [gi_prefix g2 hi]
          exact g3 p hp
        · have hjo : j < out.length := by omega
          show gi p (gi (expand xss _ out) _) ∈ expand xss _ out
          rw [gi_prefix g2 hjo]
          exact g2.subset (hc j (by omega) hjo p hp))
      exact ⟨k1, g2.trans k2, k3⟩
    · rename_i hi
      refine ⟨h, List.prefix_rfl, fun x hx p hp => ?_⟩
      obtain ⟨j, hj, rfl⟩ := List.mem_iff_getElem.1 hx
      have := hc j (by omega) hj p hp
      rw [gi_mem hj] at this
      exact this

theorem good_one {N : Nat} {xss : List (List Int)} {pt : Int} (h0 : 0 ≤ pt) (h1 : pt < N) : Good N xss pt [pt] :=
  ⟨by simp, fun x hx => by simp at hx; subst hx; exact ⟨h0, h1⟩, fun x hx => by simp at hx; subst hx; exact .refl⟩

/-- the orbit: what is reached, once each, the point ahead -/
theorem orbit_spec {N : Nat} {xss : List (List Int)} {pt : Int} (hs : Sys N xss) (h0 : 0 ≤ pt) (h1 : pt < N) :
    Good N xss pt (orbit N xss pt) ∧ [pt] <+: orbit N xss pt ∧ ∀ x, x ∈ orbit N xss pt ↔ Reach xss pt x := by
  obtain ⟨g1, g2, g3⟩ := bfs_spec (N := N) hs (N + 1) 0 [pt] (good_one h0 h1) (by omega) (fun j hj => by omega)
  refine ⟨g1, g2, fun x => ⟨g1.reach x, fun hr => ?_⟩⟩
  induction hr with
  | refl => exact g2.subset (by simp)
  | step _ hp ih => exact g3 _ ih _ hp
end Go.Proofs.Ytpdhjnacnmfbjaa.Vc
