/-
  Plain mathematics of orbits' labels: a scan that paints one orbit after another, and a search by a stack that paints the same. Conditions: as each states them. No program in sight.
-/
import Derived.Test.YtpdhjnacnmfbjaaOrb
namespace Go.Proofs.Ytpdhjnacnmfbjaa.Vc

theorem sub_len {α : Type} [DecidableEq α] : ∀ (a b : List α), a.Nodup → (∀ x ∈ a, x ∈ b) → a.length ≤ b.length
  | [], _, _, _ => Nat.zero_le _
  | x :: a, b, hn, h => by
    simp only [List.nodup_cons] at hn
    have h1 := sub_len a (b.erase x) hn.2 (fun y hy => by
      rw [List.mem_erase_of_ne (fun e => hn.1 (by rw [← e]; exact hy))]
      exact h y (by simp [hy]))
    have hx := h x (by simp)
    have h2 := List.length_erase_of_mem hx
    have h3 := List.length_pos_of_mem hx
    simp only [List.length_cons]
    omega
theorem sub_all {α : Type} [DecidableEq α] {a b : List α} (hn : a.Nodup) (h : ∀ x ∈ a, x ∈ b) (hl : b.length ≤ a.length) : ∀ x ∈ b, x ∈ a := by
  intro y hy
  apply Classical.byContradiction
  intro hya
  have := sub_len (y :: a) b (by simp [hya, hn]) (fun x hx => by
    rcases List.mem_cons.1 hx with rfl | hx
    · exact hy
    · exact h x hx)
  simp at this
  omega

def Inj (N : Nat) (xss : List (List Int)) : Prop := ∀ p ∈ xss, ∀ x y : Int, 0 ≤ x → x < N → 0 ≤ y → y < N → gi p x = gi p y → x = y

theorem Reach.range {N : Nat} {xss : List (List Int)} (hs : Sys N xss) {x y : Int} (h0 : 0 ≤ x) (h1 : x < N) (h : Reach xss x y) : 0 ≤ y ∧ y < N := by
  induction h with
  | refl => exact ⟨h0, h1⟩
  | step _ hp ih => exact (hs _ hp).2 _ ih.1 ih.2

theorem Reach.back {N : Nat} {xss : List (List Int)} (hs : Sys N xss) (hi : Inj N xss) {x : Int} (h0 : 0 ≤ x) (h1 : x < N) {p : List Int} (hp : p ∈ xss) : Reach xss (gi p x) x := by
  have hy := (hs p hp).2 x h0 h1
  obtain ⟨g, _, hm⟩ := orbit_spec hs hy.1 hy.2
  -- the orbit of the image, moved once more, is itself
  have key := sub_all (a := (orbit N xss (gi p x)).map (gi p)) (b := orbit N xss (gi p x)) (by
      rw [List.nodup_iff_pairwise_ne, List.pairwise_map]
      refine List.Pairwise.imp_of_mem ?_ g.nodup
      intro a b ha hb hab e
      exact hab (hi p hp a b (g.range a ha).1 (g.range a ha).2 (g.range b hb).1 (g.range b hb).2 e))
    (fun z hz => by
      obtain ⟨u, hu, rfl⟩ := List.mem_map.1 hz
      exact (hm _).2 (.step ((hm u).1 hu) hp)) (by simp)
  obtain ⟨u, hu, e⟩ := List.mem_map.1 (key (gi p x) ((hm _).2 .refl))
  have := hi p hp u x (g.range u hu).1 (g.range u hu).2 h0 h1 e
  subst this
  exact (hm u).1 hu
theorem Reach.symm {N : Nat} {xss : List (List Int)} (hs : Sys N xss) (hi : Inj N xss) {x y : Int} (h0 : 0 ≤ x) (h1 : x < N) (h : Reach xss x y) : Reach xss y x := by
  induction h with
  | refl => exact .refl
  | step hr hp ih =>
    have hy := hr.range hs h0 h1
    exact (Reach.back hs hi hy.1 hy.2 hp).trans ih

def paint (L : List Int) (c : Int) : List Int → List Int
  | [] => L
  | x :: xs => paint (L.set x.toNat c) c xs
theorem paint_length : ∀ (xs L : List Int) (c : Int), (paint L c xs).length = L.length
  | [], _, _ => rfl
  | x :: xs, L, c => by rw [paint, paint_length xs]; simp
theorem gi_paint {N : Nat} : ∀ (xs L : List Int) (c : Int), L.length = N → (∀ x ∈ xs, 0 ≤ x ∧ x < N) → ∀ x : Int, 0 ≤ x → gi (paint L c xs) x = if x ∈ xs then c else gi L x
  | [], _, _, _, _, x, _ => by simp [paint]
  | y :: xs, L, c, hl, h, x, hx => by
    have hy := h y (by simp)
    rw [paint, gi_paint xs (L.set y.toNat c) c (by simpa using hl) (fun z hz => h z (by simp [hz])) x hx, gi_set hy.1 (by rw [hl]; exact hy.2) hx]
    by_cases h1 : x ∈ xs
    · simp [h1]
    · rw [if_neg h1]
      by_cases h2 : y = x
      · subst h2; simp
      · rw [if_neg h2, if_neg]
        simp only [List.mem_cons, not_or]
        exact ⟨fun e => h2 e.symm, h1⟩

/-- the scan -/
def lab (N : Nat) (xss : List (List Int)) : Nat → List Int × Int
  | 0 => (List.replicate N (-1), 0)
  | i + 1 => if 0 ≤ gi (lab N xss i).1 i then lab N xss i else (paint (lab N xss i).1 (lab N xss i).2 (orbit N xss i), (lab N xss i).2 + 1)
theorem lab_neg {N : Nat} {xss : List (List Int)} {i : Nat} (h : ¬ 0 ≤ gi (lab N xss i).1 i) : lab N xss (i + 1) = (paint (lab N xss i).1 (lab N xss i).2 (orbit N xss i), (lab N xss i).2 + 1) := by
  show (if _ then _ else _) = _
  rw [if_neg h]
theorem lab_pos {N : Nat} {xss : List (List Int)} {i : Nat} (h : 0 ≤ gi (lab N xss i).1 i) : lab N xss (i + 1) = lab N xss i := by
  show (if _ then _ else _) = _
  rw [if_pos h]
theorem lab_length (N : Nat) (xss : List (List Int)) : ∀ i, (lab N xss i).1.length = N
  | 0 => by simp [lab]
  | i + 1 => by
    simp only [lab]
    split
    · exact lab_length N xss i
    · rw [paint_length]; exact lab_length N xss i
theorem lab_count (N : Nat) (xss : List (List Int)) : ∀ i, 0 ≤ (lab N xss i).2 ∧ (lab N xss i).2 ≤ i
  | 0 => by simp [lab]
  | i + 1 => by
    have := lab_count N xss i
    simp only [lab]
    split
    · omega
    · simp only; omega
theorem gi_rep {N : Nat} {v : Int} {x : Int} (h0 : 0 ≤ x) (h1 : x < N) : gi (List.replicate N v) x = v := by
  simp [gi, List.getD_eq_getElem?_getD, List.getElem?_replicate, show x.toNat < N by omega]
theorem lab_mem {N : Nat} {xss : List (List Int)} (hs : Sys N xss) : ∀ i, i ≤ N → ∀ x : Int, 0 ≤ x → x < N → (0 ≤ gi (lab N xss i).1 x ↔ ∃ j : Nat, j < i ∧ Reach xss j x)
  | 0, _, x, h0, h1 => by
    simp only [lab, gi_rep h0 h1]
    constructor
    · intro h; omega
    · rintro ⟨j, hj, _⟩; omega
  | i + 1, hi, x, h0, h1 => by
    have ih := lab_mem hs i (by omega)
    have hc := lab_count N xss i
    have ho := orbit_spec hs (pt := (i : Int)) (by omega) (by omega)
    simp only [lab]
    split
    · rename_i hl
      rw [ih x h0 h1]
      constructor
      · rintro ⟨j, hj, hr⟩; exact ⟨j, by omega, hr⟩
      · rintro ⟨j, hj, hr⟩
        by_cases hji : j = i
        · subst hji
          obtain ⟨j', hj', hr'⟩ := (ih j (by omega) (by omega)).1 hl
          exact ⟨j', hj', hr'.trans hr⟩
        · exact ⟨j, by omega, hr⟩
    · simp only
      rw [gi_paint _ _ _ (lab_length N xss i) ho.1.range x h0]
      by_cases hm : x ∈ orbit N xss i
      · rw [if_pos hm]
        exact ⟨fun _ => ⟨i, by omega, (ho.2.2 x).1 hm⟩, fun _ => hc.1⟩
      · rw [if_neg hm, ih x h0 h1]
        constructor
        · rintro ⟨j, hj, hr⟩; exact ⟨j, by omega, hr⟩
        · rintro ⟨j, hj, hr⟩
          by_cases hji : j = i
          · subst hji; exact absurd ((ho.2.2 x).2 hr) hm
          · exact ⟨j, by omega, hr⟩

/-- one orbit alone -/
theorem lab_one {N : Nat} {xss : List (List Int)} (hs : Sys N xss) (hN : 0 < N) : (lab N xss N).2 = 1 ↔ ∀ x : Int, 0 ≤ x → x < N → Reach xss 0 x := by
  have h1 : (lab N xss 1).2 = 1 := by
    have : ¬ (0 : Int) ≤ gi (lab N xss 0).1 (0 : Nat) := by
      rw [show (lab N xss 0).1 = List.replicate N (-1) from rfl, gi_rep (by omega) (by omega)]; omega
    rw [show (1 : Nat) = 0 + 1 from rfl, lab_neg this]; rfl
  constructor
  · intro hc
    have mono : ∀ i j, i ≤ j → (lab N xss i).2 ≤ (lab N xss j).2 := by
      intro i j hij
      induction j with
      | zero => have : i = 0 := by omega
                subst this; omega
      | succ j ih =>
        by_cases e : i = j + 1
        · subst e; omega
        · have := ih (by omega)
          have h2 : (lab N xss j).2 ≤ (lab N xss (j + 1)).2 := by
            simp only [lab]; split
            · omega
            · simp only; omega
          omega
    have key : ∀ i : Nat, i < N → Reach xss 0 (i : Int) := by
      intro i
      induction i using Nat.strongRecOn with
      | _ i ih =>
        intro hi
        by_cases h0 : i = 0
        · subst h0; exact .refl
        · have hl : 0 ≤ gi (lab N xss i).1 i := by
            apply Classical.byContradiction
            intro hn
            have h2 := mono 1 i (by omega)
            have h3 := mono (i + 1) N (by omega)
            have h4 : (lab N xss (i + 1)).2 = (lab N xss i).2 + 1 := by rw [lab_neg hn]
            omega
          obtain ⟨j, hj, hr⟩ := (lab_mem hs i (by omega) i (by omega) (by omega)).1 hl
          exact (ih j hj (by omega)).trans hr
    intro x h0 h2
    have := key x.toNat (by omega)
    rw [Int.toNat_of_nonneg h0] at this
    exact this
  · intro h
    have key : ∀ i, 1 ≤ i → i ≤ N → (lab N xss i).2 = 1 := by
      intro i
      induction i with
      | zero => intro h; omega
      | succ i ih =>
        intro _ hi
        by_cases e : i = 0
        · subst e; exact h1
        · have hl := (lab_mem hs i (by omega) i (by omega) (by omega)).2 ⟨0, by omega, h i (by omega) (by omega)⟩
          rw [lab_pos hl]
          exact ih (by omega) (by omega)
    exact key N (by omega) (Nat.le_refl _)

theorem orbit_all {N : Nat} {xss : List (List Int)} (hs : Sys N xss) (hN : 0 < N) : (orbit N xss 0).length = N ↔ ∀ x : Int, 0 ≤ x → x < N → Reach xss 0 x := by
  obtain ⟨g, _, hm⟩ := orbit_spec hs (pt := 0) (by omega) (by omega)
  have hrg : ∀ x : Int, x ∈ (List.range N).map (fun i : Nat => (i : Int)) ↔ 0 ≤ x ∧ x < N := by
    intro x
    rw [List.mem_map]
    constructor
    · rintro ⟨i, hi, rfl⟩
      have : i < N := by simpa using hi
      omega
    · intro h; exact ⟨x.toNat, by simp; omega, by omega⟩
  have hrn : ((List.range N).map (fun i : Nat => (i : Int))).Nodup := by
    rw [List.nodup_iff_pairwise_ne, List.pairwise_map]
    refine List.Pairwise.imp ?_ (List.nodup_iff_pairwise_ne.1 List.nodup_range)
    intro a b hab; omega
  constructor
  · intro hl x h0 h1
    have := sub_all g.nodup (b := (List.range N).map (fun i : Nat => (i : Int))) (fun z hz => (hrg z).2 (g.range z hz)) (by simp [hl]) x ((hrg x).2 ⟨h0, h1⟩)
    exact (hm x).1 this
  · intro h
    have h1 := sub_len _ (orbit N xss 0) hrn (fun z hz => by
      have := (hrg z).1 hz
      exact (hm z).2 (h z this.1 this.2))
    have h2 := g.len
    simp at h1
    omega

/-- a search by a stack, from an unpainted point -/
structure Dfs (N : Nat) (xss : List (List Int)) (i c : Int) (L0 L op : List Int) (bx : Int) (k : Nat) : Prop where
  len : L.length = N
  old : ∀ x : Int, 0 ≤ x → x < N → 0 ≤ gi L0 x → gi L x = gi L0 x
  new : ∀ x : Int, 0 ≤ x → x < N → gi L0 x < 0 → gi L x = gi L0 x ∨ (gi L x = c ∧ Reach xss i x)
  start : gi L i = c
  opn : ∀ x ∈ op, 0 ≤ x ∧ x < N ∧ gi L0 x < 0 ∧ gi L x = c
  clo : ∀ x : Int, 0 ≤ x → x < N → gi L0 x < 0 → gi L x = c → x ∉ op → ∀ p ∈ (if x = bx then xss.take k else xss), 0 ≤ gi L (gi p x)

section
variable {N : Nat} {xss : List (List Int)} {i c : Int} {L0 L op : List Int} {bx : Int} {k : Nat}
theorem Dfs.init (hl : L0.length = N) (h0 : 0 ≤ i) (h1 : i < N) (hi : gi L0 i < 0) (hc : 0 ≤ c) : Dfs N xss i c L0 (L0.set i.toNat c) [i] (-1) 0 where
  len := by simpa using hl
  old x hx _ h := by
    rw [gi_set h0 (by rw [hl]; exact h1) hx]
    split
    · rename_i e; subst e; omega
    · rfl
  new x hx _ h := by
    rw [gi_set h0 (by rw [hl]; exact h1) hx]
    split
    · rename_i e; subst e; exact .inr ⟨rfl, .refl⟩
    · exact .inl rfl
  start := by rw [gi_set h0 (by rw [hl]; exact h1) h0, if_pos rfl]
  opn x hx := by
    simp at hx; subst hx
    exact ⟨h0, h1, hi, by rw [gi_set h0 (by rw [hl]; exact h1) h0, if_pos rfl]⟩
  clo x hx hx' h hc' hno := by
    rw [gi_set h0 (by rw [hl]; exact h1) hx] at hc'
    split at hc'
    · rename_i e; subst e; simp at hno
    · omega
theorem Dfs.pop {x : Int} (h : Dfs N xss i c L0 L (op ++ [x]) bx xss.length) : Dfs N xss i c L0 L op x 0 where
  len := h.len
  old := h.old
  new := h.new
  start := h.start
  opn y hy := h.opn y (by simp [hy])
  clo y hy hy' h0 hc hno := by
    split
    · simp
    · rename_i hne
      have := h.clo y hy hy' h0 hc (by simp [hno, hne])
      rw [List.take_length] at this
      simpa using this
theorem Dfs.pop0 {x : Int} (h : Dfs N xss i c L0 L (op ++ [x]) (-1) 0) : Dfs N xss i c L0 L op x 0 where
  len := h.len
  old := h.old
  new := h.new
  start := h.start
  opn y hy := h.opn y (by simp [hy])
  clo y hy hy' h0 hc hno := by
    split
    · simp
    · rename_i hne
      have := h.clo y hy hy' h0 hc (by simp [hno, hne])
      rw [if_neg (by omega)] at this
      exact this
/-- the rounds' own form -/
theorem Dfs.rest (h : Dfs N xss i c L0 L op bx xss.length) : Dfs N xss i c L0 L op (-1) 0 where
  len := h.len
  old := h.old
  new := h.new
  start := h.start
  opn := h.opn
  clo y hy hy' h0 hc hno := by
    rw [if_neg (by omega)]
    have := h.clo y hy hy' h0 hc hno
    rw [List.take_length] at this
    simpa using this
theorem Dfs.skip (h : Dfs N xss i c L0 L op bx k) (hk : k < xss.length) (hy : 0 ≤ gi L (gi (gl xss k) bx)) : Dfs N xss i c L0 L op bx (k + 1) where
  len := h.len
  old := h.old
  new := h.new
  start := h.start
  opn := h.opn
  clo y hy' hy'' h0 hc hno p hp := by
    have := h.clo y hy' hy'' h0 hc hno
    split at hp
    · rename_i e
      rw [if_pos e] at this
      rw [take_succ_gl hk, List.mem_append] at hp
      rcases hp with hp | hp
      · exact this p hp
      · simp at hp; subst hp; subst e; exact hy
    · rename_i e
      rw [if_neg e] at this
      exact this p hp
theorem Dfs.push (hs : Sys N xss) (hi0 : 0 ≤ i) (h : Dfs N xss i c L0 L op bx k) (hk : k < xss.length) (hb0 : 0 ≤ bx) (hb1 : bx < N) (hb : gi L0 bx < 0) (hbc : gi L bx = c) (hc0 : 0 ≤ c) (hy : gi L (gi (gl xss k) bx) < 0) :
    Dfs N xss i c L0 (L.set (gi (gl xss k) bx).toNat c) (op ++ [gi (gl xss k) bx]) bx (k + 1) := by
  have hmem : gl xss k ∈ xss := by rw [gl_mem hk]; exact List.getElem_mem _
  have hyr := (hs _ hmem).2 bx hb0 hb1
  have hg : ∀ z : Int, 0 ≤ z → gi (L.set (gi (gl xss k) bx).toNat c) z = if gi (gl xss k) bx = z then c else gi L z := fun z hz => gi_set hyr.1 (by rw [h.len]; exact hyr.2) hz
  have hbr : Reach xss i bx := by
    rcases h.new bx hb0 hb1 hb with h1 | h1
    · omega
    · exact h1.2
  have hy0 : gi L0 (gi (gl xss k) bx) < 0 := by
    apply Classical.byContradiction
    intro hn
    have := h.old _ hyr.1 hyr.2 (by omega)
    omega
  have pos : ∀ z : Int, 0 ≤ z → 0 ≤ gi L z → 0 ≤ gi (L.set (gi (gl xss k) bx).toNat c) z := fun z hz h1 => by
    rw [hg z hz]; split <;> omega
  refine ⟨by simpa using h.len, fun x hx hx' h0 => ?_, fun x hx hx' h0 => ?_, ?_, fun x hx => ?_, fun x hx hx' h0 hc hno p hp => ?_⟩
  · rw [hg x hx, if_neg (fun e => by subst e; omega)]
    exact h.old x hx hx' h0
  · rw [hg x hx]
    split
    · rename_i e; subst e; exact .inr ⟨rfl, .step hbr hmem⟩
    · exact h.new x hx hx' h0
  · rw [hg i hi0]; split
    · rfl
    · exact h.start
  · rcases List.mem_append.1 hx with hx | hx
    · have := h.opn x hx
      refine ⟨this.1, this.2.1, this.2.2.1, ?_⟩
      rw [hg x this.1]; split
      · rfl
      · exact this.2.2.2
    · simp at hx; subst hx
      exact ⟨hyr.1, hyr.2, hy0, by rw [hg _ hyr.1, if_pos rfl]⟩
  · have hne : gi (gl xss k) bx ≠ x := fun e => hno (by subst e; simp)
    rw [hg x hx, if_neg hne] at hc
    have hno' : x ∉ op := fun hm => hno (by simp [hm])
    have h1 := h.clo x hx hx' h0 hc hno'
    split at hp
    · rename_i e
      rw [if_pos e] at h1
      rw [take_succ_gl hk, List.mem_append] at hp
      rcases hp with hp | hp
      · exact pos _ ((hs p (List.mem_of_mem_take hp)).2 x hx hx').1 (h1 p hp)
      · simp at hp; subst hp; subst e
        rw [hg _ hyr.1, if_pos rfl]; exact hc0
    · rename_i e
      rw [if_neg e] at h1
      exact pos _ ((hs p hp).2 x hx hx').1 (h1 p hp)

theorem Dfs.done (hs : Sys N xss) (hi : Inj N xss) {j : Nat} (hj : j < N) (hneg : ¬ 0 ≤ gi (lab N xss j).1 j) (h : Dfs N xss j (lab N xss j).2 (lab N xss j).1 L [] (-1) 0) : L = (lab N xss (j + 1)).1 := by
  have hc := lab_count N xss j
  have ho := orbit_spec hs (pt := (j : Int)) (by omega) (by omega)
  have hm := lab_mem hs j (by omega)
  rw [lab_neg hneg]
  apply List.ext_getElem
  · rw [h.len, paint_length, lab_length]
  intro x h1 h2
  have hx : x < N := by rw [← h.len]; exact h1
  have e1 := gi_mem (p := L) (k := x) h1
  have e2 := gi_mem (p := paint (lab N xss j).1 (lab N xss j).2 (orbit N xss j)) (k := x) h2
  rw [← e1]
  show _ = (paint (lab N xss j).1 (lab N xss j).2 (orbit N xss j))[x]
  rw [← e2, gi_paint _ _ _ (lab_length N xss j) ho.1.range x (by omega)]
  -- what is reached was not painted, and is
  have reached : ∀ y, Reach xss j y → gi (lab N xss j).1 y < 0 ∧ gi L y = (lab N xss j).2 := by
    intro y hr
    induction hr with
    | refl => exact ⟨by omega, h.start⟩
    | @step y p hr hp ih =>
      have hy := hr.range hs (by omega) (by omega)
      have hpy := (hs p hp).2 y hy.1 hy.2
      have hneg2 : gi (lab N xss j).1 (gi p y) < 0 := by
        apply Classical.byContradiction
        intro hn
        obtain ⟨m, hmj, hmr⟩ := (hm _ hpy.1 hpy.2).1 (by omega)
        have := (hm y hy.1 hy.2).2 ⟨m, hmj, hmr.trans (Reach.back hs hi hy.1 hy.2 hp)⟩
        omega
      refine ⟨hneg2, ?_⟩
      have h3 := h.clo y hy.1 hy.2 ih.1 ih.2 (by simp) p (by rw [if_neg (by omega)]; exact hp)
      rcases h.new _ hpy.1 hpy.2 hneg2 with h4 | h4
      · omega
      · exact h4.1
  split
  · rename_i hmem
    exact (reached _ ((ho.2.2 _).1 hmem)).2
  · rename_i hmem
    have hnr : ¬ Reach xss j x := fun hr => hmem ((ho.2.2 _).2 hr)
    by_cases h5 : 0 ≤ gi (lab N xss j).1 x
    · exact h.old x (by omega) (by omega) h5
    · rcases h.new x (by omega) (by omega) (by omega) with h6 | h6
      · exact h6
      · exact absurd h6.2 hnr
end

/-- how many are unpainted -/
def unl (L : List Int) : Nat := L.countP (fun x => decide (x < 0))
theorem unl_set {L : List Int} {x c : Int} (h0 : 0 ≤ x) (h1 : x < L.length) (hx : gi L x < 0) (hc : 0 ≤ c) : unl (L.set x.toNat c) + 1 = unl L := by
  obtain ⟨k, rfl⟩ : ∃ k : Nat, x = k := ⟨x.toNat, by omega⟩
  have hk : k < L.length := by omega
  rw [gi_mem hk] at hx
  simp only [unl, Int.toNat_natCast]
  rw [List.countP_set (h := hk)]
  have : 0 < L.countP (fun x => decide (x < 0)) := List.countP_pos_iff.2 ⟨L[k], List.getElem_mem _, by simpa using hx⟩
  simp [hx, show ¬ c < 0 by omega]
  omega
end Go.Proofs.Ytpdhjnacnmfbjaa.Vc
