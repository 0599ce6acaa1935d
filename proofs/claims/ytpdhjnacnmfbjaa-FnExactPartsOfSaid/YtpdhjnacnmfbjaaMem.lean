/-
  Memory that a call makes, as a list of rows of its own, each in a block of its own; what was there before reads as it did. Conditions: as each rule names them.
-/
import Derived.Test.YtpdhjnacnmfbjaaOps
namespace Go.Proofs.Ytpdhjnacnmfbjaa.Vc
open Go.RowKit

/-- the address of the place k behind A -/
def ptrAt (A : Option Addr) (k : Nat) : Option Addr := A.map (·.add k)

/-- the slice at A with n elements reads as 'f' -/
def Rd (w : World) (A : Option Addr) (n : Nat) (f : Nat → Value) : Prop := ∀ k, k < n → ∃ p, ptrAt A k = some p ∧ w.cell? p = some (f k)

/-- a row of one's own: its slice (or its pointer), its elements' type, its cells -/
structure Ck where
  A : Option Addr
  n : Nat
  c : Nat
  e : TypeId
  vs : List Value

def Ck.blk (k : Ck) : Option Nat := k.A.map (·.block)

def Own (B : Nat) (w : World) (k : Ck) : Prop :=
  k.vs.length = k.n ∧ k.n ≤ k.c ∧ k.c ≤ maxLen ∧
  ((k.A = none ∧ k.c = 0) ∨ ∃ g o cur, k.A = some ⟨g, o, none⟩ ∧ B ≤ g ∧ w.heap[g]? = some (.cells cur k.e (0, 0)) ∧ o + k.c ≤ cur.size ∧ ∀ j, j < k.n → cur[o + j]? = k.vs[j]?)

structure St (w0 w : World) (ks : List Ck) : Prop where
  below : Below w0.heap.size w0 w
  own : ∀ k ∈ ks, Own w0.heap.size w k
  apart : (ks.filterMap Ck.blk).Nodup

theorem block_add (a : Addr) (n : Nat) : (a.add n).block = a.block := by unfold Addr.add; split <;> rfl
theorem add_none {g o : Nat} (k : Nat) : (⟨g, o, none⟩ : Addr).add k = ⟨g, o + k, none⟩ := by unfold Addr.add; split <;> simp_all

section
variable {w0 w w' : World} {ks : List Ck} {k : Ck} {B : Nat}

theorem Own.rd (h : Own B w k) : Rd w k.A k.n (fun j => k.vs.getD j undef) := by
  obtain ⟨h1, h2, h3, h4⟩ := h
  intro j hj
  rcases h4 with ⟨_, h0⟩ | ⟨g, o, cur, hA, hg, hh, hs, hc⟩
  · omega
  · refine ⟨⟨g, o + j, none⟩, by simp [ptrAt, hA, add_none], ?_⟩
    simp only [World.cell?, hh]
    rw [hc j hj]
    simp [List.getD_eq_getElem?_getD, List.getElem?_eq_getElem (show j < k.vs.length by omega)]

theorem Own.mono {B' : Nat} (h : Own B w k) (hB : B' ≤ B) : Own B' w k := by
  obtain ⟨h1, h2, h3, h4⟩ := h
  refine ⟨h1, h2, h3, ?_⟩
  rcases h4 with h0 | ⟨g, o, cur, hA, hg, r⟩
  · exact .inl h0
  · exact .inr ⟨g, o, cur, hA, by omega, r⟩

theorem Own.keep (h : Own B w k) (hb : ∀ g, k.blk = some g → w'.heap[g]? = w.heap[g]?) : Own B w' k := by
  obtain ⟨h1, h2, h3, h4⟩ := h
  refine ⟨h1, h2, h3, ?_⟩
  rcases h4 with h0 | ⟨g, o, cur, hA, hg, hh, r⟩
  · exact .inl h0
  · exact .inr ⟨g, o, cur, hA, hg, by rw [hb g (by simp [Ck.blk, hA])]; exact hh, r⟩

theorem Own.lt (h : Own B w k) {g : Nat} (hg : k.blk = some g) : B ≤ g ∧ g < w.heap.size := by
  obtain ⟨h1, h2, h3, h4⟩ := h
  rcases h4 with ⟨h0, _⟩ | ⟨g', o, cur, hA, hg', hh, r⟩
  · simp [Ck.blk, h0] at hg
  · simp [Ck.blk, hA] at hg
    subst hg
    exact ⟨hg', (Array.getElem?_eq_some_iff.1 hh).1⟩

theorem St.refl (w : World) : St w w [] := ⟨Below.refl _ _, (fun _ h => by cases h), List.nodup_nil⟩

theorem St.get (h : St w0 w ks) {i : Nat} (hk : ks[i]? = some k) : Own w0.heap.size w k := h.own k (List.mem_of_getElem? hk)

theorem St.rd (h : St w0 w ks) (i : Nat) (hk : ks[i]? = some k) : Rd w k.A k.n (fun j => k.vs.getD j undef) := (h.get hk).rd

theorem Rd.lt {A : Option Addr} {n : Nat} {f : Nat → Value} (h : Rd w A n f) {j : Nat} (hj : j < n) : ∃ p, ptrAt A j = some p ∧ p.block < w.heap.size ∧ w.cell? p = some (f j) := by
  obtain ⟨p, hp, hc⟩ := h j hj
  exact ⟨p, hp, World.block_lt_of_cell? _ _ hc, hc⟩

theorem Rd.below {A : Option Addr} {n : Nat} {f : Nat → Value} (h : Rd w A n f) (hb : Below w.heap.size w w') : Rd w' A n f := fun j hj => by
  obtain ⟨p, hp, hl, hc⟩ := h.lt hj
  exact ⟨p, hp, (hb.cell hl).trans hc⟩

theorem St.old (h : St w0 w ks) {A : Option Addr} {n : Nat} {f : Nat → Value} (hR : Rd w0 A n f) : Rd w A n f := hR.below h.below

theorem Rd.congr {A : Option Addr} {n : Nat} {f g : Nat → Value} (h : Rd w A n f) (hf : ∀ j, j < n → f j = g j) : Rd w A n g := fun j hj => by
  obtain ⟨p, hp, hc⟩ := h j hj
  exact ⟨p, hp, by rw [hc, hf j hj]⟩

/-- a later world that has turned nothing of this one -/
theorem St.later (h : St w0 w ks) (hb : Below w.heap.size w w') : St w0 w' ks :=
  ⟨h.below.trans (hb.mono h.below.size), fun k hk => (h.own k hk).keep fun g hg => hb.block g ((h.own k hk).lt hg).2, h.apart⟩

theorem St.drew (h : St w0 w ks) : St w0 w.drew ks := h.later (Below.drew (Below.refl _ _))
theorem St.drewN (h : St w0 w ks) (n : Nat) : St w0 (w.drewN n) ks := h.later ⟨rfl, rfl, rfl, Nat.le_refl _, fun _ _ => rfl⟩

/-- what a callee has made stands beside what was there -/
theorem St.call {ks' : List Ck} (h : St w0 w ks) (h' : St w w' ks') : St w0 w' (ks' ++ ks) := by
  have h1 := h.later h'.below
  refine ⟨h1.below, fun k hk => ?_, ?_⟩
  · rcases List.mem_append.1 hk with hk | hk
    · exact (h'.own k hk).mono h.below.size
    · exact h1.own k hk
  · rw [List.filterMap_append, List.nodup_append]
    refine ⟨h'.apart, h.apart, fun a ha b hb => ?_⟩
    obtain ⟨k, hk, hka⟩ := List.mem_filterMap.1 ha
    obtain ⟨k', hk', hkb⟩ := List.mem_filterMap.1 hb
    have l1 := ((h'.own k hk).lt hka).1
    have l2 := ((h.own k' hk').lt hkb).2
    omega

theorem St.call2 {ks' : List Ck} (h : St w0 w ks) (h' : St w w' ks') : St w0 w' (ks ++ ks') := by
  have h1 := h.call h'
  exact ⟨h1.below, fun k hk => h1.own k ((List.perm_append_comm (l₁ := ks') (l₂ := ks)).mem_iff.2 hk), ((List.perm_append_comm (l₁ := ks') (l₂ := ks)).filterMap _).nodup_iff.1 h1.apart⟩
theorem St.sub {ks' : List Ck} (h : St w0 w ks) (hs : ks'.Sublist ks) : St w0 w ks' :=
  ⟨h.below, fun k hk => h.own k (hs.subset hk), h.apart.sublist (hs.filterMap _)⟩
theorem St.perm {ks' : List Ck} (h : St w0 w ks) (hs : ks.Perm ks') : St w0 w ks' :=
  ⟨h.below, fun k hk => h.own k (hs.mem_iff.2 hk), (hs.filterMap _).nodup_iff.1 h.apart⟩
theorem St.tail (h : St w0 w (k :: ks)) : St w0 w ks := h.sub (List.sublist_cons_self _ _)
theorem St.none (h : St w0 w ks) : St w0 w [] := h.sub (List.nil_sublist _)
theorem St.swap {k' : Ck} (h : St w0 w (k :: k' :: ks)) : St w0 w (k' :: k :: ks) := h.perm (List.Perm.swap _ _ _)

/-- a nil slice -/
theorem St.nil (h : St w0 w ks) (e : TypeId) : St w0 w (⟨Option.none, 0, 0, e, []⟩ :: ks) :=
  ⟨h.below, fun k hk => by
    rcases List.mem_cons.1 hk with rfl | hk
    · exact ⟨rfl, Nat.le_refl _, Nat.zero_le _, .inl ⟨rfl, rfl⟩⟩
    · exact h.own k hk, h.apart⟩

/-- a new block -/
theorem St.alloc (h : St w0 w ks) (cs : List Value) (e : TypeId) (hm : cs.length ≤ maxLen) : St w0 (w.alloc (.cells cs.toArray e)) (⟨some ⟨w.heap.size, 0, Option.none⟩, cs.length, cs.length, e, cs⟩ :: ks) := by
  have hb : Below w.heap.size w (w.alloc (.cells cs.toArray e)) := (Below.refl _ _).alloc (Nat.le_refl _) _
  have h1 := h.later hb
  refine ⟨h1.below, fun k hk => ?_, ?_⟩
  · rcases List.mem_cons.1 hk with rfl | hk
    · exact ⟨rfl, Nat.le_refl _, hm, .inr ⟨_, 0, cs.toArray, rfl, h.below.size, heap_alloc_new w _, by simp, fun j hj => by simp⟩⟩
    · exact h1.own k hk
  · simp only [List.filterMap_cons, Ck.blk, Option.map_some, List.nodup_cons]
    refine ⟨fun hin => ?_, h.apart⟩
    obtain ⟨k', hk', hkb⟩ := List.mem_filterMap.1 hin
    have := ((h.own k' hk').lt hkb).2
    omega

theorem filterMap_set {α β : Type} (f : α → Option β) : ∀ (l : List α) (i : Nat) (a b : α), l[i]? = some a → f b = f a → (l.set i b).filterMap f = l.filterMap f
  | [], _, _, _, h, _ => by simp at h
  | x :: l, 0, a, b, h, he => by
    simp at h
    subst h
    simp [List.filterMap_cons, he]
  | x :: l, i + 1, a, b, h, he => by
    simp only [List.getElem?_cons_succ] at h
    simp only [List.set_cons_succ, List.filterMap_cons, filterMap_set f l i a b h he]

/-- what a step to row i's block alone does -/
theorem St.turn {i g : Nat} {k' : Ck} (h : St w0 w ks) (hk : ks[i]? = some k) (hbk : k.blk = some g) (hbk' : k'.blk = some g) (hw : w.grownBy w' (some g)) (ho : Own w0.heap.size w' k') : St w0 w' (ks.set i k') := by
  have hlt := (h.get hk).lt hbk
  refine ⟨h.below.grown hw h.below.size (fun x hx => by cases hx; exact hlt.1), fun x hx => ?_, ?_⟩
  · obtain ⟨j, hj, rfl⟩ := List.mem_iff_getElem.1 hx
    have hj' : j < ks.length := by simpa using hj
    rw [List.getElem_set]
    split
    · exact ho
    · rename_i hne
      have hm : ks[j] ∈ ks := List.getElem_mem _
      refine (h.own _ hm).keep fun g' hg' => hw.block g' ((h.own _ hm).lt hg').2 fun e => ?_
      injection e with e
      subst e
      -- two rows in one block
      have hi' : i < ks.length := (List.getElem?_eq_some_iff.1 hk).1
      have hki : ks[i] = k := (List.getElem?_eq_some_iff.1 hk).2
      exact absurd (show False from by
        have hn := h.apart
        have key : ∀ (l : List Ck), (l.filterMap Ck.blk).Nodup → ∀ i j (hi : i < l.length) (hj : j < l.length), i ≠ j → l[i].blk = some g' → l[j].blk = some g' → False := by
          intro l
          induction l with
          | nil => intro _ i j hi; simp at hi
          | cons a l ih =>
            intro hn i j hi hj hne h1 h2
            cases i with
            | zero =>
              cases j with
              | zero => exact hne rfl
              | succ j =>
                simp only [List.getElem_cons_zero] at h1
                simp only [List.getElem_cons_succ] at h2
                rw [List.filterMap_cons, h1] at hn
                simp only [List.nodup_cons] at hn
                exact hn.1 (List.mem_filterMap.2 ⟨_, List.getElem_mem _, h2⟩)
            | succ i =>
              cases j with
              | zero =>
                simp only [List.getElem_cons_zero] at h2
                simp only [List.getElem_cons_succ] at h1
                rw [List.filterMap_cons, h2] at hn
                simp only [List.nodup_cons] at hn
                exact hn.1 (List.mem_filterMap.2 ⟨_, List.getElem_mem _, h1⟩)
              | succ j =>
                have hn' : (l.filterMap Ck.blk).Nodup := by
                  rw [List.filterMap_cons] at hn
                  split at hn
                  · exact hn
                  · exact (List.nodup_cons.1 hn).2
                exact ih hn' i j (by simpa using hi) (by simpa using hj) (by omega) (by simpa using h1) (by simpa using h2)
        exact key ks hn i j hi' hj' hne (by rw [hki]; exact hbk) hg') id
  · rw [filterMap_set Ck.blk ks i k k' hk (by rw [hbk, hbk'])]
    exact h.apart

/-- a store into a row of one's own -/
theorem St.store (h : St w0 w ks) (i : Nat) (hk : ks[i]? = some k) {j : Nat} (hj : j < k.n) (u : Value) :
    ∃ p, ptrAt k.A j = some p ∧ (∃ v, w.cell? p = some v) ∧ w.frozen? p = false ∧ St w0 (w.setCell p u) (ks.set i { k with vs := k.vs.set j u }) := by
  obtain ⟨h1, h2, h3, h4⟩ := h.get hk
  rcases h4 with ⟨_, h0⟩ | ⟨g, o, cur, hA, hg, hh, hs, hc⟩
  · omega
  refine ⟨⟨g, o + j, Option.none⟩, by simp [ptrAt, hA, add_none], ?_, ?_, ?_⟩
  · have : o + j < cur.size := by omega
    exact ⟨cur[o + j], by simp [World.cell?, hh, Array.getElem?_eq_getElem this]⟩
  · simp [World.frozen?, hh]
  · have hbk : k.blk = some g := by simp [Ck.blk, hA]
    have hlt := (Array.getElem?_eq_some_iff.1 hh).1
    refine h.turn (k' := { k with vs := k.vs.set j u }) hk hbk hbk ⟨rfl, rfl, rfl, by simp, fun x _ hx => heap_setCell_other w ⟨g, o + j, Option.none⟩ x u (fun e => hx (by simp [e]))⟩ ?_
    refine ⟨by simpa using h1, h2, h3, .inr ⟨g, o, cur.setIfInBounds (o + j) u, hA, hg, heap_setCell_same w g (o + j) cur k.e u hh, by simpa using hs, fun m hm => ?_⟩⟩
    have hm' : m < k.n := hm
    rw [Array.getElem?_setIfInBounds]
    show _ = (k.vs.set j u)[m]?
    rw [List.getElem?_set]
    by_cases e : j = m
    · subst e
      rw [if_pos rfl, if_pos rfl, if_pos (by omega), if_pos (by omega)]
    · rw [if_neg (by omega), if_neg e]
      exact hc m hm'
end
end Go.Proofs.Ytpdhjnacnmfbjaa.Vc
