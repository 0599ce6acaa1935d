/-
  The texts Dst, F3, F4, L02, Lst, F5, Del, Hm, E5, H1, Dfi, Drp, E8, Gir, Map in one. Conditions: as each part states them.
-/
import Derived.Test.YtgobjpcankaicaaGreatDoorZe
import Derived.Test.YtgobjpcankaicaaGreatDoorZf
import Derived.Test.YtgobjpcankaicaaGreatDoorZd
import Derived.Test.YtgobjpcankaicaaGreatDoorZc
import Derived.Test.YtgobjpcankaicaaGreatDoorZb
import Derived.Test.YtgobjpcankaicaaGreatDoorZa
import Derived.MapKept
import Derived.Carry
/-
  Plain mathematics of the graph of a maniplex: its vertices hang together, neighbours are neighbours of each other, and what a search by distances finds. Conditions: as each states them. No program in sight.
-/
namespace Go.Proofs.YtgobjpcankaicaaGreatDoor.Vc

/-! labels and orbits -/
theorem lab_reach {N : Nat} {xss : List (List Int)} (hs : Sys N xss) (hi' : Inj N xss) {x y : Int} (h0 : 0 ≤ x) (h1 : x < N) (hr : Reach xss x y) : ∀ i, i ≤ N → gi (lab N xss i).1 x = gi (lab N xss i).1 y
  | 0, _ => by
    have hy := hr.range hs h0 h1
    simp only [lab, gi_rep h0 h1, gi_rep hy.1 hy.2]
  | i + 1, hi => by
    have hy := hr.range hs h0 h1
    have ih := lab_reach hs hi' h0 h1 hr i (by omega)
    have ho := orbit_spec hs (pt := (i : Int)) (by omega) (by omega)
    simp only [lab]
    split
    · exact ih
    · simp only
      rw [gi_paint _ _ _ (lab_length N xss i) ho.1.range x h0, gi_paint _ _ _ (lab_length N xss i) ho.1.range y hy.1]
      have hm : x ∈ orbit N xss i ↔ y ∈ orbit N xss i := by
        rw [ho.2.2, ho.2.2]
        exact ⟨fun h => h.trans hr, fun h => h.trans (hr.symm hs hi' h0 h1)⟩
      by_cases h : x ∈ orbit N xss i
      · rw [if_pos h, if_pos (hm.1 h)]
      · rw [if_neg h, if_neg (fun h' => h (hm.2 h')), ih]
theorem lab_conv {N : Nat} {xss : List (List Int)} (hs : Sys N xss) (hi' : Inj N xss) {x y : Int} (h0 : 0 ≤ x) (h1 : x < N) (h2 : 0 ≤ y) (h3 : y < N) : ∀ i, i ≤ N → gi (lab N xss i).1 x = gi (lab N xss i).1 y → 0 ≤ gi (lab N xss i).1 x → Reach xss x y
  | 0, _, _, h => by simp only [lab, gi_rep h0 h1] at h; omega
  | i + 1, hi, he, hp => by
    have ih := lab_conv hs hi' h0 h1 h2 h3 i (by omega)
    have ho := orbit_spec hs (pt := (i : Int)) (by omega) (by omega)
    have hc := lab_count N xss i
    have hx := (lab_in hs hi' i (by omega)).1 x h0 h1
    have hy := (lab_in hs hi' i (by omega)).1 y h2 h3
    simp only [lab] at he hp
    split at he
    · rename_i hl
      rw [if_pos hl] at hp
      exact ih he hp
    · rename_i hl
      rw [if_neg hl] at hp
      simp only at he hp
      rw [gi_paint _ _ _ (lab_length N xss i) ho.1.range x h0] at he hp
      rw [gi_paint _ _ _ (lab_length N xss i) ho.1.range y h2] at he
      by_cases hxo : x ∈ orbit N xss i
      · rw [if_pos hxo] at he
        by_cases hyo : y ∈ orbit N xss i
        · exact (((ho.2.2 x).1 hxo).symm hs hi' (by omega) (by omega)).trans ((ho.2.2 y).1 hyo)
        · rw [if_neg hyo] at he; omega
      · rw [if_neg hxo] at he hp
        by_cases hyo : y ∈ orbit N xss i
        · rw [if_pos hyo] at he; omega
        · rw [if_neg hyo] at he; exact ih he hp

theorem erase_mem {xss : List (List Int)} {i k : Nat} (hk : k < xss.length) (hne : k ≠ i) : gl xss k ∈ xss.eraseIdx i := by
  rw [List.mem_eraseIdx_iff_getElem]
  exact ⟨k, hk, hne, by rw [gl_mem hk]⟩
theorem erase_of {xss : List (List Int)} {i : Nat} {p : List Int} (h : p ∈ xss.eraseIdx i) : ∃ k : Nat, k < xss.length ∧ k ≠ i ∧ p = gl xss k := by
  rw [List.mem_eraseIdx_iff_getElem] at h
  obtain ⟨k, hk, hne, rfl⟩ := h
  exact ⟨k, hk, hne, by rw [gl_mem hk]⟩
/-- a move keeps the faces of all ranks but its own -/
theorem faces_move {xss : List (List Int)} (hM : Mani xss) {i k : Nat} (hk : k < xss.length) (hne : k ≠ i) {f : Int} (h0 : 0 ≤ f) (h1 : f < (gl xss 0).length) : gi (facesL xss i) (gi (gl xss k) f) = gi (facesL xss i) f :=
  (lab_reach (hM.2.2.1.sys.erase i) (hM.2.2.1.inj.erase i) h0 h1 (.step .refl (erase_mem hk hne)) _ (Nat.le_refl _)).symm
theorem faces_same {xss : List (List Int)} (hM : Mani xss) {i : Nat} {f g : Int} (h0 : 0 ≤ f) (h1 : f < (gl xss 0).length) (h2 : 0 ≤ g) (h3 : g < (gl xss 0).length) (h : gi (facesL xss i) f = gi (facesL xss i) g) : Reach (xss.eraseIdx i) f g := by
  obtain ⟨k, rfl⟩ : ∃ k : Nat, f = k := ⟨f.toNat, by omega⟩
  exact lab_conv (hM.2.2.1.sys.erase i) (hM.2.2.1.inj.erase i) h0 h1 h2 h3 _ (Nat.le_refl _) h (faces_in hM i k (by omega)).1
theorem Mani.two {xss : List (List Int)} (hM : Mani xss) {k : Nat} (hk : k < xss.length) {f : Int} (h0 : 0 ≤ f) (h1 : f < (gl xss 0).length) : gi (gl xss k) (gi (gl xss k) f) = f := by
  obtain ⟨q, rfl⟩ : ∃ q : Nat, f = q := ⟨f.toNat, by omega⟩
  have hr := hM.2.2.1.at_ hk
  exact (hr.2.2 q (by omega)).2
theorem Mani.in_ {xss : List (List Int)} (hM : Mani xss) {k : Nat} (hk : k < xss.length) {f : Int} (h0 : 0 ≤ f) (h1 : f < (gl xss 0).length) : 0 ≤ gi (gl xss k) f ∧ gi (gl xss k) f < (gl xss 0).length :=
  (hM.2.2.1.sys _ (by rw [gl_mem hk]; exact List.getElem_mem _)).2 f h0 h1
theorem Mani.comm {xss : List (List Int)} (hM : Mani xss) {i k : Nat} (hi : i < xss.length) (hk : k < xss.length) (hik : i + 2 ≤ k) {f : Int} (h0 : 0 ≤ f) (h1 : f < (gl xss 0).length) : gi (gl xss k) (gi (gl xss i) f) = gi (gl xss i) (gi (gl xss k) f) := by
  obtain ⟨q, rfl⟩ : ∃ q : Nat, f = q := ⟨f.toNat, by omega⟩
  exact (hM.2.2.2.1 i hi k hk hik q (by omega)).1

/-! the ends of an edge -/
theorem bag_iff {Vl El : List Int} {m : Nat} : ∀ f, (∀ k : Nat, k < f → 0 ≤ gi El k ∧ gi El k < m) → ∀ (e : Int), 0 ≤ e → ∀ x, x ∈ gl (bag Vl El m f) e ↔ ∃ k : Nat, k < f ∧ gi El k = e ∧ gi Vl k = x
  | 0, _, e, he, x => by
    rw [show bag Vl El m 0 = List.replicate m [] from rfl, gl_blank]
    exact ⟨fun h => (nomatch h), fun ⟨k, hk, _⟩ => absurd hk (Nat.not_lt_zero k)⟩
  | f + 1, h, e, he, x => by
    have hf := h f (by omega)
    have ih := bag_iff (Vl := Vl) f (fun k hk => h k (by omega))
    rw [bag, gl_set2 e he (by rw [bag_len]; omega)]
    split
    · rename_i hee
      rw [List.mem_append, ih _ hf.1 x, List.mem_singleton]
      constructor
      · rintro (⟨k, hk, h1, h2⟩ | rfl)
        · exact ⟨k, by omega, by omega, h2⟩
        · exact ⟨f, by omega, by omega, rfl⟩
      · rintro ⟨k, hk, h1, h2⟩
        by_cases hkf : k = f
        · subst hkf; exact .inr h2.symm
        · exact .inl ⟨k, by omega, by omega, h2⟩
    · rename_i hee
      rw [ih e he x]
      constructor
      · rintro ⟨k, hk, h1, h2⟩; exact ⟨k, by omega, h1, h2⟩
      · rintro ⟨k, hk, h1, h2⟩
        by_cases hkf : k = f
        · subst hkf; omega
        · exact ⟨k, by omega, h1, h2⟩
theorem ends_iff {xss : List (List Int)} (hM : Mani xss) (e : Int) (he : 0 ≤ e) (x : Int) : x ∈ gl (endsL xss) e ↔ ∃ k : Nat, k < (gl xss 0).length ∧ gi (facesL xss 1) k = e ∧ gi (facesL xss 0) k = x := by
  rw [endsL, gl_ends, cs_mem, bag_iff _ (fun k hk => by have := faces_in hM 1 k hk; unfold edgesN; omega) e he]
theorem bagP_iff {m : Nat} (ps : List (Int × Int)) : (∀ p ∈ ps, 0 ≤ p.1 ∧ p.1 < m) → ∀ e : Int, 0 ≤ e → ∀ x, x ∈ gl (bagP m ps) e ↔ (e, x) ∈ ps := by
  induction ps using snoc_ind with
  | h0 =>
    intro _ e he x
    rw [show bagP m [] = List.replicate m [] from rfl, gl_blank]
    exact ⟨fun h => (nomatch h), fun h => (nomatch h)⟩
  | h1 l a ih =>
    intro h e he x
    have ha := h a (by simp)
    have ih := ih (fun p hp => h p (by simp [hp]))
    rw [bagP_snoc, gl_set2 e he (by rw [bagP_len]; omega)]
    split
    · rename_i hee
      rw [List.mem_append, ih _ ha.1 x, List.mem_singleton, List.mem_append, List.mem_singleton]
      have e1 : a.1 = e := by omega
      rw [e1]
      constructor
      · rintro (h | h)
        · exact .inl h
        · exact .inr (by rw [← e1, h])
      · rintro (h | h)
        · exact .inl h
        · exact .inr (by rw [← h])
    · rename_i hee
      rw [ih e he x, List.mem_append, List.mem_singleton]
      constructor
      · exact .inl
      · rintro (h | h)
        · exact h
        · exact absurd (by rw [← h]; exact Int.toNat_of_nonneg he) hee
theorem arcs_iff (En : List (List Int)) : ∀ (e : Nat) (p : Int × Int), p ∈ arcs En e ↔ ∃ j : Nat, j < e ∧ (gl En j).length = 2 ∧ (p = (gi (gl En j) 0, gi (gl En j) 1) ∨ p = (gi (gl En j) 1, gi (gl En j) 0))
  | 0, p => ⟨fun h => (by cases h), fun ⟨j, hj, _⟩ => absurd hj (Nat.not_lt_zero j)⟩
  | e + 1, p => by
    have ih := arcs_iff En e p
    unfold arcs
    split
    · rename_i h2
      rw [List.mem_append, List.mem_append, List.mem_singleton, List.mem_singleton, ih]
      constructor
      · rintro ((⟨j, hj, h⟩ | h) | h)
        · exact ⟨j, by omega, h⟩
        · exact ⟨e, by omega, h2, .inl h⟩
        · exact ⟨e, by omega, h2, .inr h⟩
      · rintro ⟨j, hj, h, h'⟩
        by_cases hje : j = e
        · subst hje
          rcases h' with h' | h'
          · exact .inl (.inr h')
          · exact .inr h'
        · exact .inl (.inl ⟨j, by omega, h, h'⟩)
    · rename_i h2
      rw [ih]
      constructor
      · rintro ⟨j, hj, h⟩; exact ⟨j, by omega, h⟩
      · rintro ⟨j, hj, h, h'⟩
        by_cases hje : j = e
        · subst hje; exact absurd h h2
        · exact ⟨j, by omega, h, h'⟩
theorem nb_iff {xss : List (List Int)} (hM : Mani xss) (u : Int) (hu : 0 ≤ u) (x : Int) : x ∈ gl (nbL xss) u ↔ ∃ j : Nat, j < edgesN xss ∧ (gl (endsL xss) j).length = 2 ∧ ((u, x) = (gi (gl (endsL xss) j) 0, gi (gl (endsL xss) j) 1) ∨ (u, x) = (gi (gl (endsL xss) j) 1, gi (gl (endsL xss) j) 0)) := by
  have hin := arcs_in (En := endsL xss) (b := (vertsN xss : Int)) (fun e => endsL_mem hM e (by omega)) (edgesN xss)
  rw [nbL, gl_endsP, cs_mem, bagP_iff _ (fun p hp => (hin p hp).1) u hu, arcs_iff]
theorem nb_symm {xss : List (List Int)} (hM : Mani xss) {u x : Int} (hu : 0 ≤ u) (h : x ∈ gl (nbL xss) u) : u ∈ gl (nbL xss) x := by
  have hx := ((nb_gr hM).row u hu).1 x h
  obtain ⟨j, hj, h2, h3⟩ := (nb_iff hM u hu x).1 h
  rw [nb_iff hM x hx.1]
  refine ⟨j, hj, h2, ?_⟩
  simp only [Prod.mk.injEq] at h3 ⊢
  rcases h3 with h3 | h3
  · exact .inr ⟨h3.2, h3.1⟩
  · exact .inl ⟨h3.2, h3.1⟩

theorem ends_two {xss : List (List Int)} (hM : Mani xss) (h2 : 1 < xss.length) {f : Int} (h0 : 0 ≤ f) (h1 : f < (gl xss 0).length) {g : Int} (hr : Reach (xss.eraseIdx 1) f g) :
    (gi (facesL xss 0) g = gi (facesL xss 0) f ∧ gi (facesL xss 0) (gi (gl xss 0) g) = gi (facesL xss 0) (gi (gl xss 0) f)) ∨ (gi (facesL xss 0) g = gi (facesL xss 0) (gi (gl xss 0) f) ∧ gi (facesL xss 0) (gi (gl xss 0) g) = gi (facesL xss 0) f) := by
  induction hr with
  | refl => exact .inl ⟨rfl, rfl⟩
  | step hr hp ih =>
    rename_i y p
    have hy := Reach.range (hM.2.2.1.sys.erase 1) h0 h1 hr
    obtain ⟨k, hk, hk1, rfl⟩ := erase_of hp
    have hL : 0 < xss.length := by omega
    by_cases hk0 : k = 0
    · subst hk0
      have e := hM.two hL hy.1 hy.2
      have e : gi (gl xss ((0 : Nat) : Int)) (gi (gl xss ((0 : Nat) : Int)) y) = y := e
      simp only [Int.natCast_zero] at e ⊢
      rw [e]
      rcases ih with ⟨a, b⟩ | ⟨a, b⟩
      · exact .inr ⟨b, a⟩
      · exact .inl ⟨b, a⟩
    · have e := hM.comm hL hk (by omega) hy.1 hy.2
      have h0y := hM.in_ hL hy.1 hy.2
      have v1 := faces_move hM hk hk0 hy.1 hy.2
      have v2 := faces_move hM hk hk0 h0y.1 h0y.2
      rw [e] at v2
      simp only [Int.natCast_zero] at v2
      rw [v1, v2]
      exact ih
/-- the vertices of a flag and of the flag behind move 0 are one, or neighbours -/
theorem nb_flag {xss : List (List Int)} (hG : Grph xss) {f : Int} (h0 : 0 ≤ f) (h1 : f < (gl xss 0).length) : gi (facesL xss 0) (gi (gl xss 0) f) = gi (facesL xss 0) f ∨ gi (facesL xss 0) (gi (gl xss 0) f) ∈ gl (nbL xss) (gi (facesL xss 0) f) := by
  have hM := hG.1
  have h2 : 1 < xss.length := hG.2
  by_cases he : gi (facesL xss 0) (gi (gl xss 0) f) = gi (facesL xss 0) f
  · exact .inl he
  · right
    have hL : 0 < xss.length := by omega
    have hf0 := hM.in_ hL h0 h1
    simp only [Int.natCast_zero] at hf0
    obtain ⟨q, rfl⟩ : ∃ q : Nat, f = q := ⟨f.toNat, by omega⟩
    have hE := faces_in hM 1 q (by omega)
    have hV := faces_in hM 0 q (by omega)
    have hmv := faces_move hM (i := 1) hL (by omega) h0 h1
    simp only [Int.natCast_zero] at hmv
    generalize hee : gi (facesL xss 1) q = e at *
    generalize hva : gi (facesL xss 0) q = a at *
    generalize hvb : gi (facesL xss 0) (gi (gl xss 0) q) = b at *
    have hmem : ∀ x, x ∈ gl (endsL xss) e ↔ x = a ∨ x = b := by
      intro x
      rw [ends_iff hM e hE.1 x]
      constructor
      · rintro ⟨k, hk, hke, rfl⟩
        have hr := faces_same hM (i := 1) h0 h1 (g := (k : Int)) (by omega) (by omega) (by rw [hee, hke])
        rcases ends_two hM h2 h0 h1 hr with ⟨r, _⟩ | ⟨r, _⟩
        · rw [r]; exact .inl hva
        · rw [r]; exact .inr hvb
      · rintro (rfl | rfl)
        · exact ⟨q, by omega, hee, hva⟩
        · refine ⟨(gi (gl xss 0) q).toNat, by omega, ?_, ?_⟩
          · rw [Int.toNat_of_nonneg hf0.1]; exact hmv
          · rw [Int.toNat_of_nonneg hf0.1]; exact hvb
    have hnd : (gl (endsL xss) e).Nodup := by
      rw [endsL]
      exact (ends_SA _ _ _ _ _).nodup
    have hlen : (gl (endsL xss) e).length = 2 := by
      have l1 := sub_len (gl (endsL xss) e) [a, b] hnd (fun x hx => by rcases (hmem x).1 hx with rfl | rfl <;> simp)
      have l2 := sub_len [a, b] (gl (endsL xss) e) (by simp; exact fun h => he h.symm) (fun x hx => (hmem x).2 (by simpa using hx))
      simp at l1 l2
      omega
    obtain ⟨j, rfl⟩ : ∃ j : Nat, e = j := ⟨e.toNat, by omega⟩
    rw [nb_iff hM a hV.1]
    refine ⟨j, by unfold edgesN; omega, hlen, ?_⟩
    generalize gl (endsL xss) (j : Int) = l at *
    match l, hlen with
    | [x, y], _ =>
      have hx := (hmem x).1 (by simp)
      have hy := (hmem y).1 (by simp)
      simp at hnd
      simp only [Prod.mk.injEq]
      show (a = x ∧ b = y) ∨ (a = y ∧ b = x)
      rcases hx with rfl | rfl <;> rcases hy with rfl | rfl
      · exact absurd rfl hnd
      · exact .inl ⟨rfl, rfl⟩
      · exact .inr ⟨rfl, rfl⟩
      · exact absurd rfl hnd
theorem verts_conn {xss : List (List Int)} (hG : Grph xss) {S : Int → Prop} (hS : ∀ u, 0 ≤ u → S u → ∀ x ∈ gl (nbL xss) u, S x) {v u : Int} (h0 : 0 ≤ v) (h1 : v < vertsN xss) (h2 : 0 ≤ u) (h3 : u < vertsN xss) (hv : S v) : S u := by
  have hM := hG.1
  have hb : ((vertsN xss : Nat) : Int) = facesN xss 0 := by have := facesN_le xss 0; unfold vertsN; omega
  obtain ⟨f, hf, rfl⟩ := faces_hit hM 0 v h0 (by omega)
  obtain ⟨g, hg, rfl⟩ := faces_hit hM 0 u h2 (by omega)
  have hr := hM.any (f := (f : Int)) (g := (g : Int)) (by omega) (by omega) (by omega) (by omega)
  have key : ∀ y, Reach xss f y → S (gi (facesL xss 0) y) := by
    intro y hy
    induction hy with
    | refl => exact hv
    | step hr hp ih =>
      rename_i y p
      have hy := Reach.range hM.2.2.1.sys (by omega) (by omega) hr
      obtain ⟨k, hk, rfl⟩ := List.mem_iff_getElem.1 hp
      rw [← gl_mem hk]
      by_cases hk0 : k = 0
      · subst hk0
        simp only [Int.natCast_zero]
        rcases nb_flag hG hy.1 hy.2 with h | h
        · rw [h]; exact ih
        · have hvy := faces_in hM 0 y.toNat (by omega)
          rw [Int.toNat_of_nonneg hy.1] at hvy
          exact hS _ hvy.1 ih _ h
      · rw [faces_move hM hk hk0 hy.1 hy.2]; exact ih
  exact key _ hr

/-! what the search by distances finds -/
structure BQ (n : Nat) (next : List (List Int)) (v : Int) (i : Nat) (st : List Int × List Int) : Prop where
  bf : BF n st
  at0 : gi st.1 v = 0
  vin : v ∈ st.2
  all : ∀ x : Int, 0 ≤ x → x < n → 0 ≤ gi st.1 x → x ∈ st.2
  mono : ∀ a b : Nat, a ≤ b → b < st.2.length → gi st.1 (gi st.2 a) ≤ gi st.1 (gi st.2 b)
  gap : i < st.2.length → ∀ b : Nat, b < st.2.length → gi st.1 (gi st.2 b) ≤ gi st.1 (gi st.2 i) + 1
  don : ∀ a : Nat, a < i → a < st.2.length → ∀ x ∈ gl next (gi st.2 a), 0 ≤ gi st.1 x ∧ gi st.1 x ≤ gi st.1 (gi st.2 a) + 1
  par : ∀ x ∈ st.2, x ≠ v → ∃ y ∈ st.2, x ∈ gl next y ∧ gi st.1 x = gi st.1 y + 1

theorem BQ.init {n : Nat} {next : List (List Int)} {v : Int} (h0 : 0 ≤ v) (h1 : v < n) : BQ n next v 0 (initB n v) where
  bf := BF.init h0 h1
  at0 := by
    show gi ((List.replicate n (-1)).set v.toNat 0) v = 0
    rw [gi_setI (by simp; omega) h0, if_pos (by omega)]
  vin := by simp [initB]
  all := fun x hx hxn h => by
    have h : 0 ≤ gi ((List.replicate n (-1)).set v.toNat 0) x := h
    rw [gi_setI (by simp; omega) hx] at h
    split at h
    · simp [initB]; omega
    · rw [gi_rep hx hxn] at h; omega
  mono := fun a b hab hb => by
    have hb : b < 1 := hb
    obtain rfl : b = 0 := by omega
    obtain rfl : a = 0 := by omega
    exact Int.le_refl _
  gap := fun _ b hb => by
    have hb : b < 1 := hb
    obtain rfl : b = 0 := by omega
    omega
  don := fun a ha => absurd ha (Nat.not_lt_zero a)
  par := fun x hx hne => by simp [initB] at hx; exact absurd hx hne

theorem gi_snocL {l : List Int} {x : Int} {k : Nat} (h : k < l.length) : gi (l ++ [x]) (k : Int) = gi l (k : Int) := by simp [gi, List.getD_eq_getElem?_getD, List.getElem?_append_left h]
theorem gi_snocR {l : List Int} {x : Int} : gi (l ++ [x]) (l.length : Int) = x := by simp [gi, List.getD_eq_getElem?_getD]
theorem stepB_new {u x : Int} {st : List Int × List Int} (h : gi st.1 x < 0) (hx : 0 ≤ x) : stepB (-1) u st x = (st.1.set x.toNat (gi st.1 u + 1), st.2 ++ [x]) := by
  unfold stepB; rw [if_pos ⟨h, by omega⟩]
theorem stepB_old {u x : Int} {st : List Int × List Int} (h : ¬ gi st.1 x < 0) : stepB (-1) u st x = st := by
  unfold stepB; rw [if_neg (fun h' => h h'.1)]
/-- one neighbour met -/
theorem BQ.step {n : Nat} {next : List (List Int)} {v : Int} {i : Nat} {st : List Int × List Int} (hg : Gr n next) (h : BQ n next v i st) (hi : i < st.2.length) {x : Int} (hx : x ∈ gl next (gi st.2 i)) (h0 : 0 ≤ x) (h1 : x < n) :
    BQ n next v i (stepB (-1) (gi st.2 i) st x) ∧ i < (stepB (-1) (gi st.2 i) st x).2.length ∧ gi (stepB (-1) (gi st.2 i) st x).2 i = gi st.2 i ∧ gi (stepB (-1) (gi st.2 i) st x).1 (gi st.2 i) = gi st.1 (gi st.2 i) ∧
    (0 ≤ gi (stepB (-1) (gi st.2 i) st x).1 x ∧ gi (stepB (-1) (gi st.2 i) st x).1 x ≤ gi st.1 (gi st.2 i) + 1) ∧ ∀ y, 0 ≤ y → 0 ≤ gi st.1 y → gi (stepB (-1) (gi st.2 i) st x).1 y = gi st.1 y := by
  have hum : gi st.2 (i : Int) ∈ st.2 := gi_in hi
  have hur := h.bf.rng _ hum
  have hup := h.bf.pos _ hum
  by_cases hn : gi st.1 x < 0
  · have hbf := (h.bf.step (wo := -1) hum h0 h1).1
    rw [stepB_new hn h0] at hbf ⊢
    generalize hu : gi st.2 (i : Int) = u at *
    have hxl : x.toNat < st.1.length := by rw [h.bf.len]; omega
    have old : ∀ y, 0 ≤ y → 0 ≤ gi st.1 y → gi (st.1.set x.toNat (gi st.1 u + 1)) y = gi st.1 y := fun y hy hp => by
      rw [gi_setI hxl hy]
      split
      · rename_i e; rw [show y = x by omega] at hp; omega
      · rfl
    have new : gi (st.1.set x.toNat (gi st.1 u + 1)) x = gi st.1 u + 1 := by rw [gi_setI hxl h0, if_pos (by omega)]
    have oldq : ∀ b : Nat, b < st.2.length → gi (st.1.set x.toNat (gi st.1 u + 1)) (gi (st.2 ++ [x]) b) = gi st.1 (gi st.2 b) := fun b hb => by
      rw [gi_snocL hb]
      have hm : gi st.2 (b : Int) ∈ st.2 := gi_in hb
      exact old _ (h.bf.rng _ hm).1 (h.bf.pos _ hm)
    have newq : gi (st.1.set x.toNat (gi st.1 u + 1)) (gi (st.2 ++ [x]) (st.2.length : Int)) = gi st.1 u + 1 := by rw [gi_snocR, new]
    have hl : (st.2 ++ [x]).length = st.2.length + 1 := by simp
    have hvr := h.bf.rng _ h.vin
    have hgap := h.gap hi
    rw [hu] at hgap
    refine ⟨⟨hbf, ?_, ?_, ?_, ?_, ?_, ?_, ?_⟩, by show i < (st.2 ++ [x]).length; omega, by rw [gi_snocL hi, hu], old u hur.1 hup, ⟨by rw [new]; omega, by rw [new]; exact Int.le_refl _⟩, old⟩
    · show gi (st.1.set _ _) v = 0
      rw [old v hvr.1 (by rw [h.at0]; exact Int.le_refl _), h.at0]
    · exact List.mem_append_left _ h.vin
    · intro y hy hyn hp
      by_cases hyx : y = x
      · subst hyx; exact List.mem_append_right _ (by simp)
      · refine List.mem_append_left _ (h.all y hy hyn ?_)
        have hp : 0 ≤ gi (st.1.set x.toNat (gi st.1 u + 1)) y := hp
        rw [gi_setI hxl hy, if_neg (by omega)] at hp
        exact hp
    · intro a b hab hb
      have hb : b < (st.2 ++ [x]).length := hb
      by_cases hbl : b < st.2.length
      · show gi (st.1.set _ _) (gi (st.2 ++ [x]) a) ≤ gi (st.1.set _ _) (gi (st.2 ++ [x]) b)
        rw [oldq a (by omega), oldq b hbl]
        exact h.mono a b hab hbl
      · obtain rfl : b = st.2.length := by omega
        show gi (st.1.set _ _) (gi (st.2 ++ [x]) a) ≤ gi (st.1.set _ _) (gi (st.2 ++ [x]) _)
        rw [newq]
        by_cases hal : a < st.2.length
        · rw [oldq a hal]; exact hgap a hal
        · obtain rfl : a = st.2.length := by omega
          rw [newq]; exact Int.le_refl _
    · intro _ b hb
      have hb : b < (st.2 ++ [x]).length := hb
      show gi (st.1.set _ _) (gi (st.2 ++ [x]) b) ≤ gi (st.1.set _ _) (gi (st.2 ++ [x]) i) + 1
      rw [oldq i hi, hu]
      by_cases hbl : b < st.2.length
      · rw [oldq b hbl]; exact hgap b hbl
      · obtain rfl : b = st.2.length := by omega
        rw [newq]; exact Int.le_refl _
    · intro a ha hal y hy
      have hy : y ∈ gl next (gi (st.2 ++ [x]) a) := hy
      rw [gi_snocL (by omega)] at hy
      have hd := h.don a ha (by omega) y hy
      have hy0 : 0 ≤ y := ((hg.row _ (h.bf.rng _ (gi_in (show a < st.2.length by omega))).1).1 y hy).1
      show 0 ≤ gi (st.1.set _ _) y ∧ gi (st.1.set _ _) y ≤ gi (st.1.set _ _) (gi (st.2 ++ [x]) a) + 1
      rw [old y hy0 hd.1, oldq a (by omega)]
      exact hd
    · intro y hy hne
      have hy : y ∈ st.2 ++ [x] := hy
      rcases List.mem_append.1 hy with hy | hy
      · obtain ⟨z, hz, hzy, hzd⟩ := h.par y hy hne
        refine ⟨z, List.mem_append_left _ hz, hzy, ?_⟩
        show gi (st.1.set _ _) y = gi (st.1.set _ _) z + 1
        rw [old y (h.bf.rng y hy).1 (h.bf.pos y hy), old z (h.bf.rng z hz).1 (h.bf.pos z hz)]
        exact hzd
      · simp at hy; subst hy
        refine ⟨u, List.mem_append_left _ hum, hx, ?_⟩
        show gi (st.1.set _ _) y = gi (st.1.set _ _) u + 1
        rw [new, old u hur.1 hup]
  · rw [stepB_old hn]
    have hxq := h.all x h0 h1 (by omega)
    obtain ⟨b, hb, hbx⟩ := List.mem_iff_getElem.1 hxq
    have hg := h.gap hi b hb
    rw [gi_mem hb, hbx] at hg
    exact ⟨h, hi, rfl, rfl, ⟨by omega, hg⟩, fun _ _ _ => rfl⟩

theorem BQ.row {n : Nat} {next : List (List Int)} {v : Int} {i : Nat} (hg : Gr n next) (u : Int) (r : List Int) : ∀ {st : List Int × List Int}, BQ n next v i st → i < st.2.length → gi st.2 i = u → (∀ x ∈ r, x ∈ gl next u) →
    BQ n next v i (rowB (-1) u r st) ∧ i < (rowB (-1) u r st).2.length ∧ gi (rowB (-1) u r st).2 i = u ∧ gi (rowB (-1) u r st).1 u = gi st.1 u ∧ (∀ x ∈ r, 0 ≤ gi (rowB (-1) u r st).1 x ∧ gi (rowB (-1) u r st).1 x ≤ gi st.1 u + 1) := by
  induction r using snoc_ind with
  | h0 => intro st h hi hu _; exact ⟨h, hi, hu, rfl, fun x hx => by cases hx⟩
  | h1 l a ih =>
    intro st h hi hu hr
    obtain ⟨h1, h2, h3, h4, h5⟩ := ih h hi hu (fun x hx => hr x (by simp [hx]))
    have ha := hr a (by simp)
    have hur := h1.bf.rng _ (gi_in h2)
    rw [h3] at hur
    have har := (hg.row u hur.1).1 a ha
    rw [rowB_snoc]
    have hs := h1.step hg h2 (x := a) (by rw [h3]; exact ha) har.1 har.2
    rw [h3] at hs
    obtain ⟨s1, s2, s3, s4, s5, s6⟩ := hs
    refine ⟨s1, s2, s3, by rw [s4, h4], fun x hx => ?_⟩
    rcases List.mem_append.1 hx with hx | hx
    · have hx5 := h5 x hx
      have hxr := (hg.row u hur.1).1 x (hr x (by simp [hx]))
      rw [s6 x hxr.1 hx5.1]
      exact hx5
    · simp at hx; subst hx
      rw [h4] at s5
      exact s5
theorem BQ.next {n : Nat} {next : List (List Int)} {v : Int} {i : Nat} {st : List Int × List Int} (hg : Gr n next) (h : BQ n next v i st) (hi : i < st.2.length) : BQ n next v (i + 1) (rowB (-1) (gi st.2 i) (gl next (gi st.2 i)) st) := by
  obtain ⟨h1, h2, h3, h4, h5⟩ := BQ.row hg (gi st.2 i) (gl next (gi st.2 i)) h hi rfl (fun x hx => hx)
  refine ⟨h1.bf, h1.at0, h1.vin, h1.all, h1.mono, fun hi1 b hb => ?_, fun a ha hal x hx => ?_, h1.par⟩
  · have hg1 := h1.gap h2 b hb
    have hm := h1.mono i (i + 1) (by omega) hi1
    omega
  · by_cases hai : a = i
    · subst hai
      rw [h3] at hx ⊢
      rw [h4]
      exact h5 x hx
    · exact h1.don a (by omega) hal x hx
theorem bfs_BQ {n : Nat} {next : List (List Int)} {v : Int} (hg : Gr n next) : ∀ (f i : Nat) (st : List Int × List Int), BQ n next v i st → i ≤ st.2.length → n + 1 ≤ f + i → ∃ i', BQ n next v i' (bfsD next (-1) f i st) ∧ (bfsD next (-1) f i st).2.length ≤ i'
  | 0, i, st, h, hi, hf => by have := h.bf.len2; omega
  | f + 1, i, st, h, hi, hf => by
    rw [bfsD]
    split
    · rename_i hlt
      have hn := h.next hg hlt
      have hpre := (BF.row (wo := -1) (gl next (gi st.2 i)) h.bf (gi_in hlt) ((hg.row _ (h.bf.rng _ (gi_in hlt)).1).1)).2
      have := hpre.length_le
      exact bfs_BQ hg f (i + 1) _ hn (by omega) (by omega)
    · exact ⟨i, h, by omega⟩
/-- distances: 0 at the start; defined at the neighbours of what is met, and at most one more; and each other one has a neighbour one nearer -/
structure DF (n : Nat) (next : List (List Int)) (v : Int) (far : List Int) : Prop where
  len : far.length = n
  at0 : gi far v = 0
  nxt : ∀ y : Int, 0 ≤ y → y < n → 0 ≤ gi far y → ∀ x ∈ gl next y, 0 ≤ gi far x ∧ gi far x ≤ gi far y + 1
  par : ∀ x : Int, 0 ≤ x → x < n → 0 ≤ gi far x → x ≠ v → ∃ y : Int, (0 ≤ y ∧ y < n) ∧ x ∈ gl next y ∧ 0 ≤ gi far y ∧ gi far x = gi far y + 1
  top : ∀ x : Int, 0 ≤ x → x < n → gi far x < n
theorem dist_DF {n : Nat} {next : List (List Int)} {v : Int} (hg : Gr n next) (h0 : 0 ≤ v) (h1 : v < n) : DF n next v (distP next (-1) v).1 := by
  have hB := dist_BF (wo := -1) hg h0 h1
  unfold distP at hB ⊢
  rw [hg.len] at hB ⊢
  obtain ⟨i', hq, hi'⟩ := bfs_BQ hg (n + 1) 0 (initB n v) (BQ.init h0 h1) (Nat.zero_le _) (by omega)
  generalize bfsD next (-1) (n + 1) 0 (initB n v) = st at *
  refine ⟨hB.len, hq.at0, fun y hy hyn hp x hx => ?_, fun x hx hxn hp hne => ?_, fun x hx hxn => ?_⟩
  · obtain ⟨a, ha, hay⟩ := List.mem_iff_getElem.1 (hq.all y hy hyn hp)
    have hd := hq.don a (by omega) ha
    rw [gi_mem ha, hay] at hd
    exact hd x hx
  · obtain ⟨y, hy, hxy, hd⟩ := hq.par x (hq.all x hx hxn hp) hne
    exact ⟨y, hB.rng y hy, hxy, hB.pos y hy, hd⟩
  · have h3 := hB.val _ (gi_in2 hx (by rw [hB.len]; exact hxn))
    have h4 := hB.len2
    omega
/-- in the graph of a maniplex all vertices are met -/
theorem dist_all {xss : List (List Int)} (hG : Grph xss) {v : Int} (h0 : 0 ≤ v) (h1 : v < vertsN xss) {u : Int} (h2 : 0 ≤ u) (h3 : u < vertsN xss) : 0 ≤ gi (distP (nbL xss) (-1) v).1 u := by
  have hg := nb_gr hG.1
  have hD := dist_DF hg h0 h1
  have key := verts_conn hG (S := fun y => (0 ≤ y ∧ y < vertsN xss) ∧ 0 ≤ gi (distP (nbL xss) (-1) v).1 y) (fun y hy hS x hx => ⟨(hg.row y hy).1 x hx, (hD.nxt y hy hS.1.2 hS.2 x hx).1⟩) h0 h1 h2 h3 ⟨⟨h0, h1⟩, by rw [hD.at0]; exact Int.le_refl _⟩
  exact key.2
end Go.Proofs.YtgobjpcankaicaaGreatDoor.Vc
/-
  The walks of the program's forms, and of comparisons on both sides. Conditions: as each states them.
-/
namespace Go.Proofs.YtgobjpcankaicaaGreatDoor.Vc
open Go.RowKit

theorem rowF_len (o b mv : List Int) : (rowF o b mv).length = o.length := by simp [rowF]
theorem rowF_take {o b mv : List Int} {k : Nat} (hk : k < o.length) : (rowF o b mv).take (k + 1) = (rowF o b mv).take k ++ [gi b (gi mv (gi o (k : Int)))] := by
  rw [List.take_succ_eq_append_getElem (by rw [rowF_len]; exact hk), gi_mem hk]
  simp [rowF]

end Go.Proofs.YtgobjpcankaicaaGreatDoor.Vc
/-
  The walks of comparisons on both sides. Conditions: as each states them.
-/
namespace Go.Proofs.YtgobjpcankaicaaGreatDoor.Vc
open Go.RowKit

theorem lexC_step {a b : List Int} {k : Nat} (ha : k < a.length) (hb : k < b.length) : lexC (a.drop k) (b.drop k) = if cmpI (gi a (k : Int)) (gi b (k : Int)) = 0 then lexC (a.drop (k + 1)) (b.drop (k + 1)) else cmpI (gi a (k : Int)) (gi b (k : Int)) := by
  rw [List.drop_eq_getElem_cons ha, List.drop_eq_getElem_cons hb, gi_mem ha, gi_mem hb]
  rfl
theorem lexC_endR {a b : List Int} {k : Nat} (ha : k < a.length) (hb : b.length ≤ k) : lexC (a.drop k) (b.drop k) = 1 := by
  rw [List.drop_eq_getElem_cons ha, List.drop_of_length_le hb]
  rfl
theorem lexC_endL {a b : List Int} {k : Nat} (ha : a.length ≤ k) : lexC (a.drop k) (b.drop k) = if k < b.length then -1 else 0 := by
  rw [List.drop_of_length_le ha]
  split
  · rename_i h
    rw [List.drop_eq_getElem_cons h]
    rfl
  · rename_i h
    rw [List.drop_of_length_le (by omega)]
    rfl
theorem lexCC_step {a b : List (List Int)} {k : Nat} (ha : k < a.length) (hb : k < b.length) : lexCC (a.drop k) (b.drop k) = if lexC (gl a (k : Int)) (gl b (k : Int)) = 0 then lexCC (a.drop (k + 1)) (b.drop (k + 1)) else lexC (gl a (k : Int)) (gl b (k : Int)) := by
  rw [List.drop_eq_getElem_cons ha, List.drop_eq_getElem_cons hb, gl_mem ha, gl_mem hb]
  rfl
theorem lexCC_endR {a b : List (List Int)} {k : Nat} (ha : k < a.length) (hb : b.length ≤ k) : lexCC (a.drop k) (b.drop k) = 1 := by
  rw [List.drop_eq_getElem_cons ha, List.drop_of_length_le hb]
  rfl
theorem lexCC_endL {a b : List (List Int)} {k : Nat} (ha : a.length ≤ k) : lexCC (a.drop k) (b.drop k) = if k < b.length then -1 else 0 := by
  rw [List.drop_of_length_le ha]
  split
  · rename_i h
    rw [List.drop_eq_getElem_cons h]
    rfl
  · rename_i h
    rw [List.drop_of_length_le (by omega)]
    rfl

/-! the program's side -/
theorem isNaN_c (x : Int) (w : World) : Ret Tryz.prog 94 [.int .i64 x] w (fun v w' => v = .bool false ∧ w' = w) := by
  refine Ret.of_cd Tryz.func94 rfl Tryz.ntmps94 rfl (post1 rfl) ?_
  refine Cd.seq ?_
  refine Cd.region ?_
  refine Ops.mv_bool rfl rfl rfl ?_
  refine Ops.nil ?_
  refine thenQ_n ?_
  refine Cd.seq ?_
  refine Cd.region ?_
  refine Ops.mv_int rfl rfl rfl ?_
  refine Ops.mv_int rfl rfl rfl ?_
  refine Ops.neq rfl rfl rfl ?_
  refine Ops.mv_bool rfl rfl rfl ?_
  refine Ops.nil ?_
  refine thenQ_n ?_
  refine Cd.ret ?_
  refine ret1_b rfl ?_
  -- stop: end
  exact ⟨by simp, rfl⟩
/-! the reference's side -/
theorem l01Same_c (A : Option Addr) (n c : Nat) (xs : List Int) (A' : Option Addr) (n' c' : Nat) (ys : List Int) (w : World) (hR : RdI w A n xs) (hR' : RdI w A' n' ys) (hn : n ≤ 9223372036854775807) :
    Ret Tryz.prog 12 [.slice A n c, .slice A' n' c'] w (fun v w' => v = .bool (decide (xs = ys)) ∧ St w w' []) := by
  have hl := hR.1
  have hl' := hR'.1
  subst hl
  subst hl'
  refine Ret.of_cd Tryz.func12 rfl Tryz.ntmps12 rfl (post1 rfl) ?_
  refine Cd.seq ?_
  refine Cd.region ?_
  refine Ops.mv_bool rfl rfl rfl ?_
  refine Ops.nil ?_
  refine thenQ_n ?_
  refine Cd.seq ?_
  refine Cd.seq ?_
  refine Cd.region ?_
  refine Ops.mv_sl rfl rfl rfl ?_
  refine Ops.len rfl rfl ?_
  refine Ops.mv_sl rfl rfl rfl ?_
  refine Ops.len rfl rfl ?_
  refine Ops.neq rfl rfl rfl ?_
  refine Ops.nil ?_
  refine thenQ_n ?_
  -- stop: cond
  refine Cd.cond_p _ rfl (fun h => ?_) (fun h => ?_)
  · refine Cd.seq ?_
    refine Cd.region ?_
    refine Ops.mv_bool rfl rfl rfl ?_
    refine Ops.nil ?_
    refine thenQ_n ?_
    refine Cd.ret ?_
    refine thenQ_r ?_
    refine ret1_b rfl ?_
    -- stop: end
    exact ⟨by rw [decide_eq_false (fun e : xs = ys => h (by rw [e]))], St.refl _⟩
  refine Cd.skip ?_
  refine thenQ_n ?_
  refine Cd.seq ?_
  refine Cd.seq ?_
  refine Cd.region ?_
  refine Ops.mv_int rfl rfl rfl ?_
  refine Ops.nil ?_
  refine thenQ_n ?_
  refine Cd.block ?_
  -- stop: loop
  refine Cd.loop (α := Nat) (fun k => [(0, .slice A xs.length c), (1, .slice A' ys.length c'), (5, .int .i64 (k : Int))]) (fun k w' => St w w' [] ∧ k ≤ xs.length ∧ xs.take k = ys.take k) (fun k => xs.length - k) 0 ⟨rfl, rfl, rfl, trivial⟩ ⟨St.refl w, Nat.zero_le _, rfl⟩ ?_
  rintro k e w2 ⟨hS2, hk, hI⟩
  have hle : xs.length = ys.length := by omega
  refine Cd.seq ?_
  refine Cd.seq ?_
  refine Cd.region ?_
  refine Ops.mv_int rfl rfl rfl ?_
  refine Ops.mv_sl rfl rfl rfl ?_
  refine Ops.len rfl rfl ?_
  refine Ops.lss rfl rfl rfl ?_
  refine Ops.nil ?_
  refine thenQ_n ?_
  -- stop: cond
  refine Cd.cond_p _ rfl (fun h1 => ?_) (fun h1 => ?_)
  · have hA := hS2.oldI hR
    have hB := hS2.oldI hR'
    have h2 : (k : Int) < ys.length := by omega
    have hx := gi_mem (p := xs) (k := k) (by omega)
    have hy := gi_mem (p := ys) (k := k) (by omega)
    refine Cd.skip ?_
    refine thenQ_n ?_
    refine Cd.seq ?_
    refine Cd.block ?_
    refine Cd.seq ?_
    -- stop: draw
    refine Cd.draw [.ex (.slice (A) (xs.length) (c)), .ex (.int .i64 ((k : Int))), .ex (.pointer (ptrAt (A) ((k : Int)).toNat)), .ex (.int .i64 (gi (xs) ((k : Int)))), .ex (.slice (A') (ys.length) (c')), .ex (.int .i64 ((k : Int))), .ex (.pointer (ptrAt (A') ((k : Int)).toNat)), .ex (.int .i64 (gi (ys) ((k : Int)))), .ex (.bool (decide (¬ (gi (xs) ((k : Int))) = (gi (ys) ((k : Int))))))] (by kernel_rfl) (by kernel_rfl) rfl (List.forall_mem_cons.2 ⟨Yd.lasts_ex _, (List.forall_mem_cons.2 ⟨Yd.lasts_ex _, (List.forall_mem_cons.2 ⟨Yd.lasts_ex _, (List.forall_mem_cons.2 ⟨Yd.lasts_ex _, (List.forall_mem_cons.2 ⟨Yd.lasts_ex _, (List.forall_mem_cons.2 ⟨Yd.lasts_ex _, (List.forall_mem_cons.2 ⟨Yd.lasts_ex _, (List.forall_mem_cons.2 ⟨Yd.lasts_ex _, (List.forall_mem_cons.2 ⟨Yd.lasts_ex _, (fun _ h => by cases h)⟩)⟩)⟩)⟩)⟩)⟩)⟩)⟩)⟩) ⟨?_, ?_, ?_, ?_, ?_, ?_, ?_, ?_, ?_, trivial⟩ ?_
    · intro e1 w1 hb hp hun
      refine Ops.mv_sl rfl rfl rfl ?_
      refine Ops.nil ?_
      exact After.dn (Below.refl _ _) (by exact rfl)
    · intro e1 w1 hb hp hun
      refine Ops.mv_int rfl rfl rfl ?_
      refine Ops.nil ?_
      exact After.dn (Below.refl _ _) (by exact rfl)
    · intro e1 w1 hb hp hun
      refine Ops.idx (hA.later hb).2 rfl rfl rfl (by omega) (by omega) ?_
      refine Ops.nil ?_
      exact After.dn (Below.refl _ _) (by exact rfl)
    · intro e1 w1 hb hp hun
      refine Ops.ld_int (hA.later hb) rfl (by omega) rfl rfl ?_
      refine Ops.nil ?_
      exact After.dn (Below.refl _ _) (by exact rfl)
    · intro e1 w1 hb hp hun
      refine Ops.mv_sl rfl rfl rfl ?_
      refine Ops.nil ?_
      exact After.dn (Below.refl _ _) (by exact rfl)
    · intro e1 w1 hb hp hun
      refine Ops.mv_int rfl rfl rfl ?_
      refine Ops.nil ?_
      exact After.dn (Below.refl _ _) (by exact rfl)
    · intro e1 w1 hb hp hun
      refine Ops.idx (hB.later hb).2 rfl rfl rfl (by omega) (by omega) ?_
      refine Ops.nil ?_
      exact After.dn (Below.refl _ _) (by exact rfl)
    · intro e1 w1 hb hp hun
      refine Ops.ld_int (hB.later hb) rfl (by omega) rfl rfl ?_
      refine Ops.nil ?_
      exact After.dn (Below.refl _ _) (by exact rfl)
    · intro e1 w1 hb hp hun
      refine Ops.neq rfl rfl rfl ?_
      refine Ops.nil ?_
      exact After.dn (Below.refl _ _) (by exact rfl)
    intro u w3 hb3 _
    have hS3 := hS2.later hb3
    refine thenQ_n ?_
    -- stop: cond
    refine Cd.cond_p _ rfl (fun h3 => ?_) (fun h3 => ?_)
    · refine Cd.seq ?_
      refine Cd.region ?_
      refine Ops.mv_bool rfl rfl rfl ?_
      refine Ops.nil ?_
      refine thenQ_n ?_
      refine Cd.ret ?_
      refine blockQ_r ?_
      refine thenQ_r ?_
      refine thenQ_r ?_
      refine blockQ_r ?_
      refine thenQ_r ?_
      refine ret1_b rfl ?_
      -- stop: end
      refine ⟨by rw [decide_eq_false (fun e : xs = ys => h3 (by rw [e]))], hS3⟩
    · refine Cd.skip ?_
      refine blockQ_n ?_
      refine thenQ_n ?_
      refine Cd.region ?_
      refine Ops.mv_int rfl rfl rfl ?_
      refine Ops.add rfl rfl rfl (by omega) ?_
      refine Ops.mv_int rfl rfl rfl ?_
      refine Ops.nil ?_
      refine thenQ_n ?_
      -- stop: round
      refine ⟨k + 1, by omega, ⟨rfl, rfl, rfl, trivial⟩, hS3, by omega, ?_⟩
      rw [take_succ_gi (by omega), take_succ_gi (by omega), hI, Classical.not_not.1 h3]
  · refine Cd.exit ?_
    refine thenQ_x ?_
    refine thenQ_x ?_
    refine blockQ_x ?_
    refine thenQ_n ?_
    refine Cd.seq ?_
    refine Cd.region ?_
    refine Ops.mv_bool rfl rfl rfl ?_
    refine Ops.nil ?_
    refine thenQ_n ?_
    refine Cd.ret ?_
    refine ret1_b rfl ?_
    -- stop: end
    refine ⟨?_, hS2⟩
    rw [List.take_of_length_le (by omega), List.take_of_length_le (by omega)] at hI
    rw [decide_eq_true hI]

end Go.Proofs.YtgobjpcankaicaaGreatDoor.Vc
/-
  The walk of the law FnExactIsDesk: it returns true. Conditions: as it states them.
-/
namespace Go.Proofs.YtgobjpcankaicaaGreatDoor.Vc
open Go.RowKit

theorem St.rowsI1 {w0 w : World} {t1 t2 : TypeId} {A : Option Addr} {n c : Nat} {rs : List SlV} {xss : List (List Int)} (h : St w0 w (mat t1 t2 A n c rs xss)) (hl : xss.length = n) : RowsI w A n rs xss :=
  St.rowsI (ks := []) (by rw [List.append_nil]; exact h) hl

end Go.Proofs.YtgobjpcankaicaaGreatDoor.Vc
/-
  Plain mathematics of the list of maniplexes: forms put in ascending order one by one, and that there is one such order. Conditions: as each states them. No program in sight.
-/
namespace Go.Proofs.YtgobjpcankaicaaGreatDoor.Vc

abbrev Mx := List (List Int)
/-- not behind -/
def leM (a b : Mx) : Prop := ¬ lexCC b a < 0
theorem leM_of {a b : Mx} (h : lexCC a b < 0) : leM a b := fun h' => by rw [lexCC_swap] at h'; omega
theorem leM_anti {a b : Mx} (h : leM a b) (h' : leM b a) : a = b := by
  unfold leM at h h'
  rw [lexCC_swap] at h
  exact lexCC_zero.1 (by omega)
theorem leM_cases {a b : Mx} (h : leM a b) : lexCC a b < 0 ∨ a = b := by
  by_cases e : a = b
  · exact .inr e
  · left
    unfold leM at h
    rw [lexCC_swap] at h
    have : lexCC a b ≠ 0 := fun h0 => e (lexCC_zero.1 h0)
    omega
theorem leM_refl (a : Mx) : leM a a := fun h => by rw [(lexCC_zero (a := a) (b := a)).2 rfl] at h; omega
theorem leM_trans {a b c : Mx} (h : leM a b) (h' : leM b c) : leM a c := by
  rcases leM_cases h with h | rfl
  · rcases leM_cases h' with h' | rfl
    · exact leM_of (lexCC_trans h h')
    · exact leM_of h
  · exact h'

/-- how many at the front are less -/
def atM (x : Mx) : List Mx → Nat
  | [] => 0
  | y :: l => if lexCC y x < 0 then atM x l + 1 else 0
theorem atM_le (x : Mx) : ∀ l, atM x l ≤ l.length
  | [] => Nat.le_refl _
  | y :: l => by
    have := atM_le x l
    unfold atM
    split
    · simp; omega
    · simp
theorem atM_drop {x : Mx} {l : List Mx} {k : Nat} (hk : k < l.length) : atM x (l.drop k) = if lexCC l[k] x < 0 then atM x (l.drop (k + 1)) + 1 else 0 := by
  rw [List.drop_eq_getElem_cons hk, atM]
/-- x put behind these -/
def insM (x : Mx) (l : List Mx) : List Mx := l.take (atM x l) ++ x :: l.drop (atM x l)
theorem ins_perm {α : Type} (x : α) (l : List α) (k : Nat) : (l.take k ++ x :: l.drop k).Perm (x :: l) := by
  have h : (l.take k ++ x :: l.drop k).Perm (x :: (l.take k ++ l.drop k)) := List.perm_middle
  rwa [List.take_append_drop] at h
theorem insM_perm (x : Mx) (l : List Mx) : (insM x l).Perm (x :: l) := ins_perm x l _
theorem insM_cons (x y : Mx) (l : List Mx) : insM x (y :: l) = if lexCC y x < 0 then y :: insM x l else x :: y :: l := by
  unfold insM
  rw [atM]
  split <;> simp
theorem insM_sorted (x : Mx) : ∀ {l : List Mx}, l.Pairwise leM → (insM x l).Pairwise leM
  | [], _ => by simp [insM, atM]
  | y :: l, h => by
    have h1 := List.pairwise_cons.1 h
    rw [insM_cons]
    split
    · rename_i hy
      refine List.pairwise_cons.2 ⟨fun z hz => ?_, insM_sorted x h1.2⟩
      rcases List.mem_cons.1 ((insM_perm x l).mem_iff.1 hz) with rfl | hz
      · exact leM_of hy
      · exact h1.1 z hz
    · rename_i hy
      refine List.pairwise_cons.2 ⟨fun z hz => ?_, h⟩
      rcases List.mem_cons.1 hz with rfl | hz
      · exact hy
      · exact leM_trans hy (h1.1 z hz)
def ordM (l : List Mx) : List Mx := l.foldl (fun o x => insM x o) []
theorem ordM_snoc (l : List Mx) (x : Mx) : ordM (l ++ [x]) = insM x (ordM l) := by simp [ordM, List.foldl_append]
theorem foldl_ins : ∀ (l o : List Mx), o.Pairwise leM → (l.foldl (fun o x => insM x o) o).Pairwise leM ∧ (l.foldl (fun o x => insM x o) o).Perm (l ++ o)
  | [], o, h => ⟨h, List.Perm.refl _⟩
  | x :: l, o, h => by
    obtain ⟨h1, h2⟩ := foldl_ins l (insM x o) (insM_sorted x h)
    refine ⟨h1, h2.trans (((insM_perm x o).append_left l).trans ?_)⟩
    exact List.perm_middle
theorem ordM_sorted (l : List Mx) : (ordM l).Pairwise leM := (foldl_ins l [] List.Pairwise.nil).1
theorem ordM_perm (l : List Mx) : (ordM l).Perm l := by have := (foldl_ins l [] List.Pairwise.nil).2; rwa [List.append_nil] at this
/-- there is one order -/
theorem ordM_one {l l' : List Mx} (hp : l'.Perm l) (hs : l'.Pairwise leM) : l' = ordM l :=
  List.Perm.eq_of_pairwise (le := leM) (fun _ _ _ _ h h' => leM_anti h h') hs (ordM_sorted l) (hp.trans (ordM_perm l).symm)

/-! the list of a rank and a number of flags -/
def formsL (n F : Nat) : List Mx := forms n F (F * n + 1) 0 1 (blank n F)
def Own1 (N : Nat) (xss : Mx) : Prop := ∀ f, f < N → ¬ lexCC (formL N xss (f : Nat)) xss < 0
instance (N : Nat) (xss : Mx) : Decidable (Own1 N xss) := by unfold Own1; exact inferInstance
def ownL (n F : Nat) : List Mx := (formsL n F).filter fun L => decide (Own1 F L)
def listL (n F : Nat) : List Mx := ordM (ownL n F)
theorem ownL_le (n F : Nat) : (ownL n F).length ≤ (formsL n F).length := List.length_filter_le _ _
theorem listL_len (n F : Nat) : (listL n F).length = (ownL n F).length := (ordM_perm _).length_eq
theorem forms_mani {n F : Nat} {L : Mx} (hn : 0 < n) (hF : 0 < F) (h : L ∈ formsL n F) : Mani L ∧ Inv n F L F (F * n) := by
  have h1 := List.mem_filter.1 h
  exact ⟨of_decide_eq_true h1.2, (grow_leaf _ _ _ _ (Inv.blank hn hF) L h1.1).2⟩
theorem listL_mem {n F : Nat} {L : Mx} : L ∈ listL n F ↔ L ∈ formsL n F ∧ Own1 F L := by
  rw [listL, (ordM_perm _).mem_iff, ownL, List.mem_filter, decide_eq_true_iff]
theorem own_least {n F : Nat} {L : Mx} (hn : 0 < n) (hF : 0 < F) (h : L ∈ formsL n F) : leastL F L = L ↔ Own1 F L := least_own hF (forms_zero hF h hn)
end Go.Proofs.YtgobjpcankaicaaGreatDoor.Vc
/-
  The walks of the program's least form, and of the reference's numbers of orbits. Conditions: as each states them.
-/
namespace Go.Proofs.YtgobjpcankaicaaGreatDoor.Vc
open Go.RowKit
section
variable {P : Program} {N : Nat} {ops : Array Oper} {K : Env → World → Prop} {rest : List Oper} {e : Env} {w : World} {d : Nat} {ty : TypeId} {pos : String} {af : Array Edge}
/-- a struct of one slice, read from a slice of such -/
theorem Ops.ld_ag {t : TypeId} {fs : Array Field} {z : Value} {b : Nat} [Und P t (.struct fs)] [Inf P t z (0 + 1) b] {x : Operand} {A : Option Addr} {n : Nat} {i : Int} {xs : List SlV} (hR : RdR w A n xs) (hx : ev e x = .pointer (ptrAt A i.toNat)) (hj : i.toNat < n) (hb : Nat.blt d N = true)
    (hK : Ops P N ops K rest (upd e d (.agg #[.slice (rg xs i).a (rg xs i).n (rg xs i).c])) w) : Ops P N ops K (⟨some d, .load t x, ty, pos, af, none⟩ :: rest) e w :=
  .ld_agg 0 (hR.2.behind (o := i.toNat) (m := 1) (by omega)) hx rfl hb hK
end

theorem St.matAt {w0 w : World} {t1 t2 : TypeId} {A : Option Addr} {n c : Nat} {rs : List SlV} {xss : List (List Int)} {ks : List Ck} (h : St w0 w ks) (hsub : (mat t1 t2 A n c rs xss).Sublist ks) (hl : xss.length = n) : RowsI w A n rs xss := (h.sub hsub).rowsI1 hl
theorem MatV.sub_ {t1 t2 : TypeId} {m : MatV} : ∀ {ms : List MatV}, m ∈ ms → (m.cks t1 t2).Sublist (matsCk t1 t2 ms)
  | a :: ms, h => by
    unfold matsCk
    rw [List.flatMap_cons]
    rcases List.mem_cons.1 h with rfl | h
    · exact List.sublist_append_left _ _
    · exact (MatV.sub_ h).trans (List.sublist_append_right _ _)

/-! the numbers of orbits -/
def fset (N : Nat) (xss : List (List Int)) : Nat → List (List (List Int))
  | 0 => []
  | k + 1 => if formL N xss k ∈ fset N xss k then fset N xss k else fset N xss k ++ [formL N xss k]
theorem fset_le (N : Nat) (xss : List (List Int)) : ∀ k, (fset N xss k).length ≤ k
  | 0 => Nat.le_refl _
  | k + 1 => by
    have := fset_le N xss k
    simp only [fset]
    split
    · omega
    · simp; omega
theorem fset_row (N : Nat) (xss : List (List Int)) : ∀ k, ∀ m ∈ fset N xss k, m.length = xss.length
  | 0, m, h => by cases h
  | k + 1, m, h => by
    simp only [fset] at h
    split at h
    · exact fset_row N xss k m h
    · rcases List.mem_append.1 h with h | h
      · exact fset_row N xss k m h
      · simp at h; subst h; exact formL_len _ _ _
def orbN (N : Nat) (xss : List (List Int)) : Nat := if Own1 N xss then (fset N xss N).length else 0

end Go.Proofs.YtgobjpcankaicaaGreatDoor.Vc
/-
  The library's IndexFunc and DeleteFunc over a row of structs of one slice, walked for any predicate; the rule of 'clear'. Conditions: the predicate's contract.
-/
namespace Go.Proofs.YtgobjpcankaicaaGreatDoor.Vc
open Go.RowKit
section
variable {P : Program} {N : Nat} {ops : Array Oper} {K : Env → World → Prop} {rest : List Oper} {e : Env} {w0 w : World} {ks : List Ck} {d : Nat} {ty : TypeId} {pos : String} {af : Array Edge}
theorem setL_take : ∀ (cs vs : List Value) (o m : Nat), m ≤ o → (setL vs o cs).take m = vs.take m
  | [], _, _, _, _ => rfl
  | c :: r, vs, o, m, h => by
    show (setL (vs.set o c) (o + 1) r).take m = _
    rw [setL_take r _ _ _ (by omega), List.take_set_of_le h]
theorem isM_setL : ∀ {vs : List Value} (o : Nat) (cs : List Value), isM vs = false → (∀ u ∈ cs, u.oneCell' = true) → isM (setL vs o cs) = false
  | _, _, [], h, _ => h
  | vs, o, c :: r, h, hc => isM_setL (o + 1) r (isM_set o h (hc c (by simp))) fun u hu => hc u (by simp [hu])
/-- the places behind some are cleared, and given up -/
theorem Ops.clr {t el : TypeId} {z z0 : Value} {b : Nat} [Und P t (.slice el)] [Inf P el z 1 b] {x : Operand} (i l : Nat) {k : Ck} {n' c' : Nat} (hS : St w0 w ks) (hk : ks[i]? = some k) (hl : l < k.n) (hn' : n' = k.n - l) (hx : ev e x = .slice (cutAt k.A k.c l) n' c') (hz : z.cells = #[z0]) (h1 : z0.oneCell' = true)
    (hK : ∀ w', St w0 w' (ks.set i { k with n := l, vs := k.vs.take l }) → Ops P N ops K rest e w') (hM : isM k.vs = false := by first | rfl | exact isM_I _ | exact isM_B _ | exact isM_R _) :
    Ops P N ops K (⟨none, .call ⟨.builtin .clear, #[x], #[t]⟩, ty, pos, af, none⟩ :: rest) e w := by
  obtain ⟨inf, hi, hz0, hs, hby⟩ := Inf.get P el
  obtain ⟨hvl, hnc, hcm, -⟩ := hS.getC hk hM
  have hlt := (List.getElem?_eq_some_iff.1 hk).1
  obtain ⟨p, hp, _⟩ := (hS.rd i hk) l hl
  have hcut : cutAt k.A k.c l = some p := by unfold cutAt; rw [if_neg (by omega)]; exact hp
  obtain ⟨w', hrun, hS'⟩ := run_store_list (P := P) (k := k) i (List.replicate (k.n - l) z0) ks k.vs w l p hS hk hp (by simp; omega) (fun u hu => by rw [List.eq_of_mem_replicate hu]; exact h1) l p hp (by omega) (by omega)
  have hS2 := hS'.shrink i (k := { k with vs := setL k.vs l (List.replicate (k.n - l) z0) }) (by rw [List.getElem?_set]; simp [hlt]) l (by show l ≤ k.n; omega) (isM_setL _ _ hM (fun u hu => by rw [List.eq_of_mem_replicate hu]; exact h1))
  rw [List.set_set] at hS2
  have e1 : ({ ({ k with vs := setL k.vs l (List.replicate (k.n - l) z0) } : Ck) with n := l, vs := ({ k with vs := setL k.vs l (List.replicate (k.n - l) z0) } : Ck).vs.take l } : Ck) = { k with n := l, vs := k.vs.take l } := by
    show ({ k with n := l, vs := (setL k.vs l (List.replicate (k.n - l) z0)).take l } : Ck) = _
    rw [setL_take _ _ _ _ (Nat.le_refl _)]
  rw [e1] at hS2
  have hzc : (Builtin.zeroCells z.cells (k.n - l)).toList = List.replicate (k.n - l) z0 := by
    rw [hz]
    simp [Builtin.zeroCells]
    apply List.ext_getElem
    · simp
    · intro i h1 h2
      simp [Nat.mod_one]
  rw [Nat.sub_self] at hrun
  have hm : k.n - l = (k.n - l - 1) + 1 := by omega
  generalize k.n - l - 1 = m at hm
  have hv : ∀ w, (zeroValue el).run P w = .ok z w := fun w => by simp [zeroValue, typeInfo, hi, hz0]
  rw [hn', hcut, hm] at hx
  rw [hm] at hzc hrun
  refine .val0 (v := .tuple #[]) (w' := w') ?_ (hK _ hS2)
  simp [execOp, resolve, invoke, builtin, hx, Builtin.clear_, run_underlying (Und.out (P := P) (t := t)), hv, hzc, hrun]
end

def keptI (pd : Nat → Bool) (j : Nat) : List Nat := (List.range j).filter fun x => !pd x
theorem keptI_succ (pd : Nat → Bool) (j : Nat) : keptI pd (j + 1) = if pd j = true then keptI pd j else keptI pd j ++ [j] := by
  unfold keptI
  rw [List.range_succ, List.filter_append]
  by_cases h : pd j = true
  · rw [if_pos h]; simp [h]
  · rw [if_neg h]; simp [h]
theorem keptI_all {pd : Nat → Bool} : ∀ {j : Nat}, (∀ x, x < j → pd x = false) → keptI pd j = List.range j := fun {j} h => by
  unfold keptI
  rw [List.filter_eq_self]
  intro x hx
  rw [h x (List.mem_range.1 hx)]; rfl
theorem sv_range {ss : List SlV} {n : Nat} (h : ss.length = n) : (List.range n).map (fun j => ss.getD j slNil) = ss := by
  subst h
  apply List.ext_getElem
  · simp
  · intro i h1 h2
    simp [List.getD_eq_getElem?_getD, h2]

end Go.Proofs.YtgobjpcankaicaaGreatDoor.Vc
/-
  The search for a Hamiltonian cycle, without a program: that of the reference and that of the program find the same, where there are more than two vertices. Conditions: as each states them.
-/
namespace Go.Proofs.YtgobjpcankaicaaGreatDoor.Vc
open Go.RowKit
/-- the first of a row's elements, that is not in a list, from which a search finds something -/
def hamF (h : List Int → List Int) (list : List Int) : List Int → List Int
  | [] => []
  | v :: r => if v ∉ list ∧ h (list ++ [v]) ≠ [] then h (list ++ [v]) else hamF h list r
def lastI (l : List Int) : Int := gi l ((l.length : Int) - 1)
def ham (mn : Nat) (next : List (List Int)) : Nat → List Int → List Int
  | 0, _ => []
  | f + 1, l => if l.length = next.length then (if mn < l.length ∧ gi l 0 ∈ gl next (lastI l) then l else []) else hamF (ham mn next f) l (gl next (lastI l))
theorem hamF_congr {h h' : List Int → List Int} {l : List Int} : ∀ r, (∀ v, h (l ++ [v]) = h' (l ++ [v])) → hamF h l r = hamF h' l r := by
  intro r hh
  induction r with
  | nil => rfl
  | cons v r ih => simp only [hamF, hh, ih]
theorem ham_eq {mn mm : Nat} {next : List (List Int)} (h : mn < next.length) (h' : mm < next.length) : ∀ f l, ham mn next f l = ham mm next f l := by
  intro f
  induction f with
  | zero => intro l; rfl
  | succ f ih =>
    intro l
    simp only [ham]
    split
    · rename_i hl
      rw [hl]
      simp only [h, h', true_and]
    · exact hamF_congr _ (fun v => ih _)
theorem hamF_len {h : List Int → List Int} {l : List Int} {N : Nat} : ∀ r, (∀ v, h (l ++ [v]) = [] ∨ (h (l ++ [v])).length = N) → hamF h l r = [] ∨ (hamF h l r).length = N := by
  intro r hh
  induction r with
  | nil => exact .inl rfl
  | cons v r ih =>
    simp only [hamF]
    split
    · exact hh v
    · exact ih
theorem ham_len {mn : Nat} {next : List (List Int)} : ∀ f l, ham mn next f l = [] ∨ (ham mn next f l).length = next.length := by
  intro f
  induction f with
  | zero => intro l; exact .inl rfl
  | succ f ih =>
    intro l
    simp only [ham]
    split
    · rename_i hl
      split
      · exact .inr hl
      · exact .inl rfl
    · exact hamF_len _ (fun v => ih _)
theorem hamF_nil {h : List Int → List Int} {l : List Int} : ∀ r, (∀ v, h (l ++ [v]) = []) → hamF h l r = [] := by
  intro r hh
  induction r with
  | nil => rfl
  | cons v r ih => simp only [hamF, hh, ih]; simp
theorem ham_short {mn : Nat} {next : List (List Int)} (h : next.length ≤ mn) : ∀ f l, ham mn next f l = [] := by
  intro f
  induction f with
  | zero => intro l; rfl
  | succ f ih =>
    intro l
    simp only [ham]
    split
    · rename_i hl
      rw [if_neg (fun hc => by omega)]
    · exact hamF_nil _ (fun v => ih _)
/-- the answer of both -/
theorem ham_both {next : List (List Int)} (f : Nat) (l : List Int) : (if (ham 0 next f l).length < 3 then [] else ham 0 next f l) = ham 2 next f l := by
  by_cases h : 2 < next.length
  · rw [ham_eq (mn := 0) (mm := 2) (by omega) h]
    split
    · rename_i hs
      rcases ham_len (mn := 2) (next := next) f l with h0 | h0
      · exact h0.symm
      · omega
    · rfl
  · rw [ham_short (mn := 2) (by omega)]
    split
    · rfl
    · rename_i hs
      rcases ham_len (mn := 0) (next := next) f l with h0 | h0
      · exact h0
      · omega
theorem hamF_drop {h : List Int → List Int} {l r : List Int} {k : Nat} (hk : k < r.length) : hamF h l (r.drop k) = if gi r (k : Int) ∉ l ∧ h (l ++ [gi r (k : Int)]) ≠ [] then h (l ++ [gi r (k : Int)]) else hamF h l (r.drop (k + 1)) := by
  rw [gi_mem hk, List.drop_eq_getElem_cons hk]
  rfl
end Go.Proofs.YtgobjpcankaicaaGreatDoor.Vc
/-
  The diameter of the graph on both sides, and the walk of the law FnExactGraphDiameter. Conditions: as each states them.
-/
namespace Go.Proofs.YtgobjpcankaicaaGreatDoor.Vc
open Go.RowKit

def mx (a : Int) (l : List Int) : Int := l.foldl max a
theorem mx_snoc (a : Int) (l : List Int) (x : Int) : mx a (l ++ [x]) = max (mx a l) x := by
  unfold mx
  rw [List.foldl_append]; rfl
theorem mx_max (a : Int) : ∀ (l : List Int) (b : Int), mx (max a b) l = max a (mx b l)
  | [], _ => rfl
  | x :: l, b => by
    show mx (max (max a b) x) l = max a (mx (max b x) l)
    rw [← mx_max a l (max b x), Int.max_assoc]
theorem mx_head {l : List Int} (a : Int) (h : 0 < l.length) : max a (mx (gi l 0) l) = mx a l := by
  cases l with
  | nil => simp at h
  | cons x l =>
    show max a (mx (max x x) l) = mx (max a x) l
    rw [Int.max_self, mx_max]

/-- the greatest distance from the first vertices -/
def dmP (next : List (List Int)) : Nat → Int
  | 0 => 0
  | v + 1 => mx (dmP next v) (distP next (-1) v).1
def gdD (xss : List (List Int)) : Int := if Grph xss then dmP (nbL xss) (vertsN xss) else 0

theorem goK_nil (xss : List (List Int)) : goK xss [] = petrieK xss := by
  unfold goK petrieK
  have h : allIn 0 ((vertsN xss : Int) - 1) [] := fun x hx => by cases hx
  by_cases hG : Grph xss
  · rw [if_neg (fun h => h hG), if_neg (fun h2 => h2 h), if_pos hG]
  · rw [if_pos hG, if_neg hG]
theorem goL_nil {xss : List (List Int)} (hG : Grph xss) : goL xss [] = nbL xss := by rw [goL, if_pos ⟨hG, fun x hx => by cases hx⟩]

end Go.Proofs.YtgobjpcankaicaaGreatDoor.Vc
/-
  The walks of the search for a Hamiltonian cycle on both sides. Conditions: as each states them.
-/
namespace Go.Proofs.YtgobjpcankaicaaGreatDoor.Vc
open Go.RowKit

/-- a list in memory of one's own, nil if it is empty -/
def HamO (w : World) (L : List Int) (v : Value) (w' : World) : Prop :=
  (v = .slice none 0 0 ∧ L = [] ∧ St w w' []) ∨ (∃ A c, v = .slice A L.length c ∧ L ≠ [] ∧ St w w' [CkI 2 A L.length c L])
/-- .. or the list that came -/
def HamR (w : World) (Al : Option Addr) (cl : Nat) (list L : List Int) (v : Value) (w' : World) : Prop :=
  HamO w L v w' ∨ (v = .slice Al list.length cl ∧ L = list ∧ list ≠ [] ∧ St w w' [])
theorem HamR.own {w0 w w' : World} {Al : Option Addr} {cl : Nat} {list L : List Int} {v : Value} (hS : St w0 w [CkI 2 Al list.length cl list]) (h : HamR w Al cl list L v w') : HamO w0 L v w' := by
  rcases h with (⟨rfl, rfl, h⟩ | ⟨A, c, rfl, hne, h⟩) | ⟨rfl, rfl, hne, h⟩
  · exact .inl ⟨rfl, rfl, (hS.later h.below).none⟩
  · exact .inr ⟨A, c, rfl, hne, (hS.call h).sub (List.Sublist.cons_cons _ (List.nil_sublist _))⟩
  · exact .inr ⟨Al, cl, rfl, hne, hS.later h.below⟩
/-- what is looked at: the slice, its length, whether it is nil -/
theorem HamO.open_ {w w' : World} {L : List Int} {v : Value} (h : HamO w L v w') : ∃ A c, v = .slice A L.length c ∧ (A.isNone = decide (L = [])) ∧ St w w' [CkI 2 A L.length c L] := by
  rcases h with ⟨rfl, rfl, h⟩ | ⟨A, c, rfl, hne, h⟩
  · exact ⟨none, 0, rfl, rfl, h.nil _⟩
  · refine ⟨A, c, rfl, ?_, h⟩
    have hl : 0 < L.length := List.length_pos_iff.2 hne
    obtain ⟨h1, h2, h3, h4⟩ := h.getC (i := 0) rfl (isM_I _)
    rcases h4 with ⟨_, h0⟩ | ⟨g, o, cur, hA, _⟩
    · have h2 : L.length ≤ c := h2
      have h0 : c = 0 := h0
      omega
    · have hA : A = some _ := hA
      rw [hA]
      simp [hne]

theorem Index_c (A : Option Addr) (n c : Nat) (xs : List Int) (v : Int) (w : World) (hR : RdI w A n xs) (hn : n ≤ 9223372036854775807) :
    Ret Tryz.prog 71 [.slice A n c, .int .i64 v] w (fun r w' => (∃ i : Int, r = .int .i64 i ∧ (0 ≤ i ↔ v ∈ xs)) ∧ w' = w) := by
  have hxl := hR.1
  refine Ret.of_cd Tryz.func71 rfl Tryz.ntmps71 rfl (post1 rfl) ?_
  refine Cd.seq ?_
  refine Cd.region ?_
  refine Ops.mv_int rfl rfl rfl ?_
  refine Ops.nil ?_
  refine thenQ_n ?_
  refine Cd.seq ?_
  refine Cd.seq ?_
  refine Cd.region ?_
  refine Ops.mv_sl rfl rfl rfl ?_
  refine Ops.len rfl rfl ?_
  refine Ops.mv_int rfl rfl rfl ?_
  refine Ops.nil ?_
  refine thenQ_n ?_
  refine Cd.block ?_
  -- stop: loop
  refine Cd.loop (α := Nat) (fun k => [(0, .slice A n c), (1, .int .i64 v), (7, .int .i64 (n : Int)), (8, .int .i64 (k : Int))]) (fun k w' => w' = w ∧ k ≤ n ∧ ∀ j, j < k → gi xs (j : Nat) ≠ v) (fun k => n - k) 0 ⟨rfl, rfl, rfl, rfl, trivial⟩ ⟨rfl, Nat.zero_le _, fun j hj => by omega⟩ ?_
  rintro k e w ⟨rfl, hk, hK⟩
  refine Cd.seq ?_
  refine Cd.region ?_
  refine Ops.lss rfl rfl rfl ?_
  refine Ops.nil ?_
  refine thenQ_n ?_
  refine Cd.seq ?_
  -- stop: cond
  refine Cd.cond_p _ rfl (fun h3 => ?_) (fun h3 => ?_)
  · refine Cd.skip ?_
    refine thenQ_n ?_
    refine Cd.seq ?_
    refine Cd.block ?_
    refine Cd.seq ?_
    refine Cd.region ?_
    refine Ops.mv_int rfl rfl rfl ?_
    refine Ops.mv_int rfl rfl rfl ?_
    refine Ops.nil ?_
    refine thenQ_n ?_
    refine Cd.seq ?_
    refine Cd.region ?_
    refine Ops.mv_int rfl rfl rfl ?_
    refine Ops.mv_sl rfl rfl rfl ?_
    refine Ops.mv_int rfl rfl rfl ?_
    -- stop: INDEXADDR 35 t12 t13 -> 14
    refine Ops.idx hR.2 rfl rfl rfl (by omega) (by omega) ?_
    refine Ops.ld_int hR rfl (by omega) rfl rfl ?_
    refine Ops.eql rfl rfl rfl ?_
    refine Ops.nil ?_
    refine thenQ_n ?_
    -- stop: cond
    refine Cd.cond_p _ rfl (fun h4 => ?_) (fun h4 => ?_)
    · refine Cd.seq ?_
      refine Cd.region ?_
      refine Ops.mv_int rfl rfl rfl ?_
      refine Ops.mv_int rfl rfl rfl ?_
      refine Ops.nil ?_
      refine thenQ_n ?_
      refine Cd.ret ?_
      refine blockQ_r ?_
      refine thenQ_r ?_
      refine thenQ_r ?_
      refine blockQ_r ?_
      refine thenQ_r ?_
      refine ret1_i rfl ?_
      -- stop: end
      exact ⟨⟨(k : Int), rfl, ⟨fun _ => by rw [h4]; rw [gi_mem (by omega)]; exact List.getElem_mem _, fun _ => by omega⟩⟩, rfl⟩
    · refine Cd.skip ?_
      refine blockQ_n ?_
      refine thenQ_n ?_
      refine Cd.region ?_
      refine Ops.add rfl rfl rfl (by omega) ?_
      refine Ops.mv_int rfl rfl rfl ?_
      refine Ops.nil ?_
      refine thenQ_n ?_
      -- stop: round
      refine ⟨k + 1, by show n - (k + 1) < n - k; omega, ⟨rfl, rfl, rfl, rfl, trivial⟩, rfl, by omega, fun j hj => ?_⟩
      by_cases ej : j = k
      · subst ej; exact fun h => h4 h.symm
      · exact hK j (by omega)
  · refine Cd.exit ?_
    refine thenQ_x ?_
    refine thenQ_x ?_
    refine blockQ_x ?_
    refine thenQ_n ?_
    refine Cd.seq ?_
    refine Cd.region ?_
    refine Ops.mv_int rfl rfl rfl ?_
    refine Ops.nil ?_
    refine thenQ_n ?_
    refine Cd.ret ?_
    refine ret1_i rfl ?_
    -- stop: end
    refine ⟨⟨-1, rfl, ⟨fun h => absurd h (by decide), fun h => ?_⟩⟩, rfl⟩
    obtain ⟨j, hj, hjv⟩ := List.mem_iff_getElem.1 h
    exact absurd (by rw [gi_mem hj]; exact hjv) (hK j (by omega))

theorem Contains_c (A : Option Addr) (n c : Nat) (xs : List Int) (v : Int) (w : World) (hR : RdI w A n xs) (hn : n ≤ 9223372036854775807) :
    Ret Tryz.prog 58 [.slice A n c, .int .i64 v] w (fun r w' => r = .bool (decide (v ∈ xs)) ∧ w' = w) := by
  refine Ret.of_cd Tryz.func58 rfl Tryz.ntmps58 rfl (post1 rfl) ?_
  refine Cd.seq ?_
  refine Cd.region ?_
  refine Ops.mv_bool rfl rfl rfl ?_
  refine Ops.nil ?_
  refine thenQ_n ?_
  refine Cd.seq ?_
  refine Cd.region ?_
  refine Ops.mv_sl rfl rfl rfl ?_
  refine Ops.mv_int rfl rfl rfl ?_
  -- stop: CALL slices.Index[[]int64,int64](t5, t6) -> 7
  refine Ops.call (Index_c A n c xs v _ hR hn) rfl rfl rfl ?_
  rintro _ w ⟨⟨i, rfl, hi⟩, rfl⟩
  refine Ops.geq rfl rfl rfl ?_
  refine Ops.mv_bool rfl rfl rfl ?_
  refine Ops.nil ?_
  refine thenQ_n ?_
  refine Cd.ret ?_
  refine ret1_b rfl ?_
  -- stop: end
  exact ⟨congrArg Value.bool (decide_eq_decide.2 hi), rfl⟩

/-- a path: its places lie among N -/
def PathI (N : Nat) (l : List Int) : Prop := 0 < l.length ∧ l.length ≤ N ∧ ∀ x ∈ l, 0 ≤ x ∧ x < (N : Int)
theorem PathI.last {N : Nat} {l : List Int} (h : PathI N l) : 0 ≤ lastI l ∧ lastI l < N := by
  have h0 := h.1
  unfold lastI
  rw [show ((l.length : Int) - 1) = ((l.length - 1 : Nat) : Int) by omega]
  exact h.2.2 _ (gi_in (by omega))
theorem PathI.more {N : Nat} {l : List Int} (h : PathI N l) {v : Int} (h0 : 0 ≤ v) (h1 : v < N) (hl : l.length < N) : PathI N (l ++ [v]) :=
  ⟨by simp, by simp; omega, fun x hx => by
    rcases List.mem_append.1 hx with hx | hx
    · exact h.2.2 x hx
    · simp at hx; subst hx; exact ⟨h0, h1⟩⟩

def hmC (xss : List (List Int)) : List Int := ham 2 (nbL xss) (vertsN xss) [0]
def hmK (xss : List (List Int)) : Int := if ¬ Grph xss then 1 else if 12 < vertsN xss then 3 else if hmC xss = [] then 4 else 0
def hmL (xss : List (List Int)) : List Int := if Grph xss ∧ ¬ 12 < vertsN xss then hmC xss else []
theorem hm_bd (xss : List (List Int)) : (hmL xss).length ≤ 1000 := by
  unfold hmL
  split
  · rename_i h
    rcases ham_len (mn := 2) (next := nbL xss) (vertsN xss) [0] with h0 | h0
    · rw [hmC, h0]; exact Nat.zero_le _
    · rw [hmC, h0, nbL_len]; omega
  · exact Nat.zero_le _

end Go.Proofs.YtgobjpcankaicaaGreatDoor.Vc
/-
  The library's IndexFunc and DeleteFunc at int64, by any predicate with a contract; a list less another one. Conditions: as each states them.
-/
namespace Go.Proofs.YtgobjpcankaicaaGreatDoor.Vc
open Go.RowKit

theorem indexI_c (A : Option Addr) (n c : Nat) (xs : List Int) (G : FuncId) [hF : Fnc Tryz.prog G] (cv : List Value) (pd : Int → Bool) (w : World) (hR : RdI w A n xs) (hn : n ≤ 4000000000000)
    (hcall : ∀ (w' : World) (x : Int), Below w.heap.size w w' → x ∈ xs → Ret Tryz.prog G (.int .i64 x :: cv) w' (fun v w'' => v = .bool (pd x) ∧ St w' w'' [])) :
    Ret Tryz.prog 69 [.slice A n c, .func (.func G) #[] cv.toArray] w (fun v w' => (∃ i : Int, v = .int .i64 i ∧ ((i = -1 ∧ ∀ x ∈ xs, pd x = false) ∨ ∃ k : Nat, k < n ∧ i = k ∧ pd (gi xs k) = true ∧ ∀ j : Nat, j < k → pd (gi xs j) = false)) ∧ St w w' []) := by
  have hxl := hR.1
  refine Ret.of_cd Tryz.func69 rfl Tryz.ntmps69 rfl (post1 rfl) ?_
  refine Cd.seq ?_
  refine Cd.region ?_
  refine Ops.mv_int rfl rfl rfl ?_
  refine Ops.nil ?_
  refine thenQ_n ?_
  refine Cd.seq ?_
  refine Cd.seq ?_
  refine Cd.region ?_
  refine Ops.mv_sl rfl rfl rfl ?_
  refine Ops.len rfl rfl ?_
  refine Ops.mv_int rfl rfl rfl ?_
  refine Ops.nil ?_
  refine thenQ_n ?_
  refine Cd.block ?_
  -- stop: loop
  refine Cd.loop (α := Nat) (fun k => [(0, .slice A n c), (1, .func (.func G) #[] cv.toArray), (7, .int .i64 (n : Int)), (8, .int .i64 (k : Int))]) (fun k w' => St w w' [] ∧ k ≤ n ∧ ∀ j : Nat, j < k → pd (gi xs j) = false) (fun k => n - k) 0 ⟨rfl, rfl, rfl, rfl, trivial⟩ ⟨St.refl w, Nat.zero_le _, fun j hj => by omega⟩ ?_
  rintro k e w1 ⟨hS, hk, hK⟩
  refine Cd.seq ?_
  refine Cd.region ?_
  refine Ops.lss rfl rfl rfl ?_
  refine Ops.nil ?_
  refine thenQ_n ?_
  refine Cd.seq ?_
  -- stop: cond
  refine Cd.cond_p _ rfl (fun h3 => ?_) (fun h3 => ?_)
  · have hk' : k < xs.length := by omega
    have hR1 := hR.later hS.below
    refine Cd.skip ?_
    refine thenQ_n ?_
    refine Cd.seq ?_
    refine Cd.block ?_
    refine Cd.seq ?_
    refine Cd.region ?_
    refine Ops.mv_int rfl rfl rfl ?_
    refine Ops.mv_int rfl rfl rfl ?_
    refine Ops.nil ?_
    refine thenQ_n ?_
    refine Cd.seq ?_
    refine Cd.region ?_
    refine Ops.mv_fn rfl rfl rfl ?_
    refine Ops.mv_sl rfl rfl rfl ?_
    refine Ops.mv_int rfl rfl rfl ?_
    -- stop: INDEXADDR 35 t12 t13 -> 14
    refine Ops.idx hR1.2 rfl rfl rfl (by omega) (by omega) ?_
    refine Ops.ld_int hR1 rfl (by omega) rfl rfl ?_
    refine Ops.call (hcall w1 (gi xs k) hS.below (gi_in hk')) rfl rfl rfl ?_
    rintro _ w2 ⟨rfl, hst⟩
    have hS2 := hS.later hst.below
    rw [show pd (gi xs k) = decide (pd (gi xs k) = true) by simp]
    refine Ops.nil ?_
    refine thenQ_n ?_
    -- stop: cond
    refine Cd.cond_p _ rfl (fun h4 => ?_) (fun h4 => ?_)
    · refine Cd.seq ?_
      refine Cd.region ?_
      refine Ops.mv_int rfl rfl rfl ?_
      refine Ops.mv_int rfl rfl rfl ?_
      refine Ops.nil ?_
      refine thenQ_n ?_
      refine Cd.ret ?_
      refine blockQ_r ?_
      refine thenQ_r ?_
      refine thenQ_r ?_
      refine blockQ_r ?_
      refine thenQ_r ?_
      refine ret1_i rfl ?_
      -- stop: end
      exact ⟨⟨(k : Int), rfl, .inr ⟨k, by omega, rfl, h4, hK⟩⟩, hS2⟩
    · refine Cd.skip ?_
      refine blockQ_n ?_
      refine thenQ_n ?_
      refine Cd.region ?_
      refine Ops.add rfl rfl rfl (by omega) ?_
      refine Ops.mv_int rfl rfl rfl ?_
      refine Ops.nil ?_
      refine thenQ_n ?_
      -- stop: round
      refine ⟨k + 1, by show n - (k + 1) < n - k; omega, ⟨rfl, rfl, rfl, rfl, trivial⟩, hS2, by omega, fun j hj => ?_⟩
      by_cases ej : j = k
      · subst ej; simpa using h4
      · exact hK j (by omega)
  · refine Cd.exit ?_
    refine thenQ_x ?_
    refine thenQ_x ?_
    refine blockQ_x ?_
    refine thenQ_n ?_
    refine Cd.seq ?_
    refine Cd.region ?_
    refine Ops.mv_int rfl rfl rfl ?_
    refine Ops.nil ?_
    refine thenQ_n ?_
    refine Cd.ret ?_
    refine ret1_i rfl ?_
    -- stop: end
    refine ⟨⟨-1, rfl, .inl ⟨rfl, fun x hx => ?_⟩⟩, hS⟩
    obtain ⟨j, hj, rfl⟩ := List.mem_iff_getElem.1 hx
    rw [← gi_mem hj]
    exact hK j (by omega)

theorem filter_take_succ {xs : List Int} {p : Int → Bool} {j : Nat} (hj : j < xs.length) : (xs.take (j + 1)).filter p = (xs.take j).filter p ++ (if p (gi xs j) = true then [gi xs j] else []) := by
  rw [take_succ_gi hj, List.filter_append]
  congr 1
  by_cases h : p (gi xs j) = true <;> simp [h]
theorem deleteI_c {w0 w : World} {ks : List Ck} (i : Nat) {t : TypeId} {A : Option Addr} {n c : Nat} {xs : List Int} (hS : St w0 w ks) (hk : ks[i]? = some (CkI t A n c xs)) (hn : n ≤ 4000000000000) (G : FuncId) [hF : Fnc Tryz.prog G] (cv : List Value) (pd : Int → Bool)
    (hcall : ∀ (w' : World) (L : List Int), St w0 w' (ks.set i (CkI t A n c L)) → ∀ x ∈ xs, Ret Tryz.prog G (.int .i64 x :: cv) w' (fun v w'' => v = .bool (pd x) ∧ St w' w'' [])) :
    Ret Tryz.prog 55 [.slice A n c, .func (.func G) #[] cv.toArray] w (fun v w' => v = .slice A (xs.filter fun x => !pd x).length c ∧ St w0 w' (ks.set i (CkI t A (xs.filter fun x => !pd x).length c (xs.filter fun x => !pd x)))) := by
  have hil : i < ks.length := (List.getElem?_eq_some_iff.1 hk).1
  have hxl : xs.length = n := hS.lenI i hk
  obtain ⟨h2, h3⟩ := hS.cap i hk
  have h2 : n ≤ c := h2
  have hid : ks.set i (CkI t A n c xs) = ks := set_id hk
  have hR := hS.rdI i hk
  have hSi : ∀ {w' : World}, St w0 w' ks → St w0 w' (ks.set i (CkI t A n c xs)) := fun h => by rw [hid]; exact h
  have get : ∀ l, (ks.set i l)[i]? = some l := fun l => by simp [hil]
  refine Ret.of_cd Tryz.func55 rfl Tryz.ntmps55 rfl (post1 rfl) ?_
  refine Cd.seq ?_
  refine Cd.region ?_
  refine Ops.mv_sl rfl rfl rfl ?_
  refine Ops.nil ?_
  refine thenQ_n ?_
  refine Cd.seq ?_
  refine Cd.region ?_
  refine Ops.mv_sl rfl rfl rfl ?_
  refine Ops.mv_fn rfl rfl rfl ?_
  -- stop: CALL slices.IndexFunc[[]int64,int64](t8, t9) -> 10
  refine Ops.call (indexI_c A n c xs G cv pd _ hR hn (fun w' x hb hx => hcall w' xs (hSi (hS.later hb)) x hx)) rfl rfl rfl ?_
  rintro _ w1 ⟨⟨i0, rfl, hi0⟩, hst1⟩
  have hS1 := hS.later hst1.below
  refine Ops.mv_int rfl rfl rfl ?_
  refine Ops.nil ?_
  refine thenQ_n ?_
  refine Cd.seq ?_
  refine Cd.seq ?_
  refine Cd.region ?_
  refine Ops.mv_int rfl rfl rfl ?_
  refine Ops.eql rfl rfl rfl ?_
  refine Ops.nil ?_
  refine thenQ_n ?_
  -- stop: cond
  refine Cd.cond_p _ rfl (fun h5 => ?_) (fun h5 => ?_)
  · have hall : xs.filter (fun x => !pd x) = xs := by
      rw [List.filter_eq_self]
      rcases hi0 with ⟨_, h⟩ | ⟨k, _, e, _⟩
      · intro x hx; rw [h x hx]; rfl
      · omega
    refine Cd.seq ?_
    refine Cd.region ?_
    refine Ops.mv_sl rfl rfl rfl ?_
    refine Ops.mv_sl rfl rfl rfl ?_
    refine Ops.nil ?_
    refine thenQ_n ?_
    refine Cd.ret ?_
    refine thenQ_r ?_
    refine ret1_s rfl ?_
    -- stop: end
    rw [hall, hxl, hid]
    exact ⟨rfl, hS1⟩
  · obtain ⟨k0, hk0, rfl, hpk, hpl⟩ := hi0.resolve_left (fun h => h5 h.1)
    have hk00 : (xs.take k0).filter (fun x => !pd x) = xs.take k0 := by
      rw [List.filter_eq_self]
      intro x hx
      obtain ⟨j, hj, rfl⟩ := List.mem_iff_getElem.1 hx
      rw [List.length_take] at hj
      rw [List.getElem_take, ← gi_mem (show j < xs.length by omega), hpl j (by omega)]
      rfl
    have hk01 : (xs.take (k0 + 1)).filter (fun x => !pd x) = xs.take k0 := by
      rw [filter_take_succ (by omega), hk00, if_neg (by simp [hpk]), List.append_nil]
    refine Cd.skip ?_
    refine thenQ_n ?_
    refine Cd.seq ?_
    refine Cd.seq ?_
    refine Cd.region ?_
    refine Ops.mv_int rfl rfl rfl ?_
    refine Ops.add rfl rfl rfl (by omega) ?_
    refine Ops.mv_int rfl rfl rfl ?_
    refine Ops.nil ?_
    refine thenQ_n ?_
    refine Cd.block ?_
    -- stop: loop
    refine Cd.loop (α := Nat × Nat × List Int) (fun z => [(0, .slice A n c), (1, .func (.func G) #[] cv.toArray), (5, .int .i64 (z.1 : Int)), (6, .int .i64 (z.2.1 : Int))])
      (fun z w' => St w0 w' (ks.set i (CkI t A n c z.2.2)) ∧ z.2.2.length = n ∧ z.1 < z.2.1 ∧ z.2.1 ≤ n ∧ z.2.2.take z.1 = (xs.take z.2.1).filter (fun x => !pd x) ∧ ∀ m, z.2.1 ≤ m → z.2.2[m]? = xs[m]?)
      (fun z => n - z.2.1) (k0, k0 + 1, xs) ⟨rfl, rfl, rfl, by show Value.int .i64 _ = .int .i64 _; congr 1, trivial⟩ ⟨hSi hS1, hxl, Nat.lt_succ_self _, hk0, hk01.symm, fun m _ => rfl⟩ ?_
    rintro ⟨a, j, L⟩ e w2 ⟨hS2, hLl, haj, hjn, hLt, hLr⟩
    dsimp only at hS2 hLl haj hjn hLt hLr ⊢
    refine Cd.seq ?_
    refine Cd.seq ?_
    refine Cd.region ?_
    refine Ops.mv_int rfl rfl rfl ?_
    refine Ops.mv_sl rfl rfl rfl ?_
    refine Ops.len rfl rfl ?_
    refine Ops.lss rfl rfl rfl ?_
    refine Ops.nil ?_
    refine thenQ_n ?_
    -- stop: cond
    refine Cd.cond_p _ rfl (fun h6 => ?_) (fun h6 => ?_)
    · have hj' : j < xs.length := by omega
      have hR2 := hS2.rdI i (get _)
      have hLj : gi L (j : Int) = gi xs (j : Int) := by simp only [gi, List.getD_eq_getElem?_getD, Int.toNat_natCast, hLr j (Nat.le_refl _)]
      refine Cd.skip ?_
      refine thenQ_n ?_
      refine Cd.seq ?_
      refine Cd.block ?_
      refine Cd.seq ?_
      refine Cd.region ?_
      refine Ops.mv_sl rfl rfl rfl ?_
      refine Ops.mv_int rfl rfl rfl ?_
      -- stop: INDEXADDR 35 t22 t23 -> 24
      refine Ops.idx hR2.2 rfl rfl rfl (by omega) (by omega) ?_
      refine Ops.ld_int hR2 rfl (by omega) rfl rfl ?_
      rw [hLj]
      refine Ops.mv_int rfl rfl rfl ?_
      refine Ops.nil ?_
      refine thenQ_n ?_
      refine Cd.seq ?_
      refine Cd.region ?_
      refine Ops.mv_fn rfl rfl rfl ?_
      refine Ops.mv_int rfl rfl rfl ?_
      -- stop: CALL t26(t27) -> 28
      refine Ops.call (hcall w2 L hS2 _ (gi_in hj')) rfl rfl rfl ?_
      rintro _ w3 ⟨rfl, hst3⟩
      have hS3 := hS2.later hst3.below
      rw [show pd (gi xs (j : Int)) = decide (pd (gi xs (j : Int)) = true) by simp]
      first | refine Ops.not_p rfl rfl ?_ | refine Ops.not rfl rfl ?_
      refine Ops.nil ?_
      refine thenQ_n ?_
      -- stop: cond
      refine Cd.cond_p _ rfl (fun h7 => ?_) (fun h7 => ?_)
      · have hpj : ¬ pd (gi xs (j : Int)) = true := h7
        refine Cd.seq ?_
        refine Cd.region ?_
        refine Ops.mv_sl rfl rfl rfl ?_
        refine Ops.mv_int rfl rfl rfl ?_
        refine Ops.mv_int rfl rfl rfl ?_
        -- stop: INDEXADDR 35 t30 t31 -> 33
        refine Ops.idx (hS3.rdI i (get _)).2 rfl rfl rfl (by omega) (by omega) ?_
        skip
        -- stop: STORE 2 t33 t32 -> None
        refine Ops.st_int i hS3 (get _) rfl rfl (by omega) ?_
        intro w4 hS4
        rw [List.set_set] at hS4
        refine Ops.nil ?_
        refine thenQ_n ?_
        refine Cd.region ?_
        refine Ops.mv_int rfl rfl rfl ?_
        refine Ops.add rfl rfl rfl (by omega) ?_
        refine Ops.mv_int rfl rfl rfl ?_
        refine Ops.nil ?_
        refine blockQ_n ?_
        refine thenQ_n ?_
        refine Cd.region ?_
        refine Ops.mv_int rfl rfl rfl ?_
        refine Ops.add rfl rfl rfl (by omega) ?_
        refine Ops.mv_int rfl rfl rfl ?_
        refine Ops.nil ?_
        refine thenQ_n ?_
        -- stop: round
        refine ⟨(a + 1, j + 1, L.set a (gi xs (j : Int))), by show n - (j + 1) < n - j; omega, ⟨rfl, rfl, rfl, rfl, trivial⟩, hS4, by show (L.set a _).length = n; rw [List.length_set]; exact hLl, by show a + 1 < j + 1; omega, by show j + 1 ≤ n; omega, ?_, fun m hm => ?_⟩
        · show (L.set a _).take (a + 1) = (xs.take (j + 1)).filter _
          rw [filter_take_succ hj', if_pos (by simp [hpj]), ← hLt, List.take_succ_eq_append_getElem (by rw [List.length_set]; omega), List.take_set_of_le (Nat.le_refl _), List.getElem_set_self]
        · show (L.set a _)[m]? = xs[m]?
          have hm : j + 1 ≤ m := hm
          rw [List.getElem?_set, if_neg (by omega)]
          exact hLr m (by omega)
      · have hpj : pd (gi xs (j : Int)) = true := Classical.not_not.1 h7
        refine Cd.skip ?_
        refine blockQ_n ?_
        refine thenQ_n ?_
        refine Cd.region ?_
        refine Ops.mv_int rfl rfl rfl ?_
        refine Ops.add rfl rfl rfl (by omega) ?_
        refine Ops.mv_int rfl rfl rfl ?_
        refine Ops.nil ?_
        refine thenQ_n ?_
        -- stop: round
        exact ⟨(a, j + 1, L), by show n - (j + 1) < n - j; omega, ⟨rfl, rfl, rfl, rfl, trivial⟩, hS3, hLl, by show a < j + 1; omega, by show j + 1 ≤ n; omega, by show L.take a = (xs.take (j + 1)).filter _; rw [filter_take_succ hj', if_neg (by simp [hpj]), List.append_nil]; exact hLt, fun m hm => hLr m (by have hm : j + 1 ≤ m := hm; omega)⟩
    · have hje : j = n := by omega
      subst hje
      rw [show xs.take j = xs from List.take_of_length_le (by omega)] at hLt
      have hal : a = (xs.filter fun x => !pd x).length := by rw [← hLt, List.length_take]; omega
      refine Cd.exit ?_
      refine thenQ_x ?_
      refine thenQ_x ?_
      refine blockQ_x ?_
      refine thenQ_n ?_
      refine Cd.seq ?_
      refine Cd.region ?_
      refine Ops.mv_sl rfl rfl rfl ?_
      refine Ops.mv_int rfl rfl rfl ?_
      -- stop: SLICE 35 t36 some t37 none none -> 38
      refine Ops.cut_l (A := A) (n := j) (c := c) (l := (a : Int)) rfl rfl rfl (by omega) ?_
      skip
      -- stop: BUILTIN clear(t38) -> None
      refine Ops.clr i a hS2 (get _) (show a < j by omega) (by show j - _ = j - a; omega) rfl rfl rfl ?_
      intro w3 hS3
      rw [List.set_set] at hS3
      refine Ops.nil ?_
      refine thenQ_n ?_
      refine Cd.seq ?_
      refine Cd.region ?_
      refine Ops.mv_sl rfl rfl rfl ?_
      refine Ops.mv_int rfl rfl rfl ?_
      -- stop: SLICE 35 t39 none some t40 none -> 41
      refine Ops.cut_h (A := A) (n := j) (c := c) (h := (a : Int)) rfl rfl rfl (by omega) ?_
      refine Ops.mv_sl rfl rfl rfl ?_
      refine Ops.nil ?_
      refine thenQ_n ?_
      refine Cd.ret ?_
      refine ret1_s rfl ?_
      -- stop: end
      rw [← hLt, List.length_take, Nat.min_eq_left (by omega)]
      refine ⟨rfl, ?_⟩
      have e9 : ({ CkI t A j c L with n := a, vs := (CkI t A j c L).vs.take a } : Ck) = CkI t A a c (L.take a) := by simp [CkI, List.map_take]
      rw [← e9]
      exact hS3

/-- a list less another one -/
def lessL (a b : List Int) : List Int := a.filter fun x => !decide (x ∈ b)
theorem lessOf1_c (x : Int) (Pb A : Option Addr) (n c : Nat) (b : List Int) (w : World) (hB : Rd w Pb 1 (fun _ => .slice A n c)) (hR : RdI w A n b) (hn : n ≤ 9223372036854775807) :
    Ret Tryz.prog 57 [.int .i64 x, .pointer Pb] w (fun v w' => v = .bool (decide (x ∈ b)) ∧ St w w' []) := by
  refine Ret.of_cd Tryz.func57 rfl Tryz.ntmps57 rfl (post1 rfl) ?_
  refine Cd.seq ?_
  refine Cd.region ?_
  refine Ops.mv_bool rfl rfl rfl ?_
  refine Ops.nil ?_
  refine thenQ_n ?_
  refine Cd.seq ?_
  refine Cd.region ?_
  -- stop: LOAD 35 t1 -> 4
  refine Ops.ld hB (j := 0) (by exact congrArg Value.pointer (ptrAt_zero Pb).symm) (by omega) rfl rfl rfl ?_
  refine Ops.mv_int rfl rfl rfl ?_
  -- stop: CALL slices.Contains[[]int64,int64](t4, t5) -> 6
  refine Ops.call (Contains_c A n c b x _ hR hn) rfl rfl rfl ?_
  rintro _ w ⟨rfl, rfl⟩
  refine Ops.mv_bool rfl rfl rfl ?_
  refine Ops.nil ?_
  refine thenQ_n ?_
  refine Cd.ret ?_
  refine ret1_b rfl ?_
  -- stop: end
  exact ⟨rfl, St.refl _⟩
theorem lessOf_c (A : Option Addr) (n c : Nat) (a : List Int) (A' : Option Addr) (n' c' : Nat) (b : List Int) (w : World) (hA : RdI w A n a) (hB : RdI w A' n' b) (hn : n ≤ 1000000000) (hn' : n' ≤ 9223372036854775807) :
    Ret Tryz.prog 36 [.slice A n c, .slice A' n' c'] w (fun v w' => ∃ A2 c2, v = .slice A2 (lessL a b).length c2 ∧ St w w' [CkI 2 A2 (lessL a b).length c2 (lessL a b)]) := by
  refine Ret.of_cd Tryz.func36 rfl Tryz.ntmps36 rfl (post1 rfl) ?_
  refine Cd.seq ?_
  refine Cd.region ?_
  -- stop: BOX 35 t1=b -> 3
  refine Ops.box (v := .slice A' n' c') (St.refl w) rfl rfl (by show (1 : Nat) ≤ maxLen; simp [maxLen]) ?_
  intro Pb w1 hS1
  have hS1 : St w w1 [⟨Pb, 1, 1, 35, [.slice A' n' c']⟩] := hS1
  refine Ops.mv_sl rfl rfl rfl ?_
  refine Ops.nil ?_
  refine thenQ_n ?_
  refine Cd.seq ?_
  refine Cd.region ?_
  refine Ops.mv_sl rfl rfl rfl ?_
  -- stop: CALL slices.Clone[[]int64,int64](t5) -> 6
  refine Ops.call (Clone_c A n c a _ (hS1.oldI hA) (by omega)) rfl rfl rfl ?_
  rintro _ w2 ⟨A2, c2, rfl, hst2⟩
  have hS2 := hS1.call hst2
  skip
  -- stop: MAKEFUNC impl.lessOf$1 [] [t3=b] -> 7
  refine Ops.fn1 rfl rfl ?_
  skip
  -- stop: CALL slices.DeleteFunc[[]int64,int64](t6, t7) -> 8
  refine Ops.call (deleteI_c 0 hS2 rfl (by omega) 57 [.pointer Pb] (fun x => decide (x ∈ b)) (fun w' L hL x hx => lessOf1_c x Pb A' n' c' b w' ((hL.rd 1 rfl).congr fun j hj => by obtain rfl : j = 0 := by { have : j < 1 := hj; omega }; rfl) (hL.oldI hB) hn')) rfl rfl rfl ?_
  rintro _ w3 ⟨rfl, hS3⟩
  refine Ops.mv_sl rfl rfl rfl ?_
  refine Ops.nil ?_
  refine thenQ_n ?_
  refine Cd.ret ?_
  refine ret1_s rfl ?_
  -- stop: end
  exact ⟨A2, c2, rfl, hS3.sub (List.Sublist.cons_cons _ (List.nil_sublist _))⟩
end Go.Proofs.YtgobjpcankaicaaGreatDoor.Vc
/-
  As the statement whose order Go leaves open, with properties of two operations' values together. Conditions: as each rule names them.
-/
namespace Go.Proofs.YtgobjpcankaicaaGreatDoor.Vc
open Go.RowKit

inductive Ye where
  | ex (v : Value)
  | pr (p : Value → World → Prop)
  | p2 (j : Nat) (p : Value → Value → World → Prop)
/-- the operations' values -/
def vl (l : List Oper) (e : Env) (k : Nat) : Value := match l[k]? with
  | some o => valOf o e
  | none => undef
def Ye.holds (uu : Nat → Value) : Ye → Value → World → Prop
  | .ex v, u, _ => u = v
  | .pr p, u, w => p u w
  | .p2 j p, u, w => p (uu j) u w
def Ye.lasts : Ye → Prop
  | .ex _ => True
  | .pr p => ∀ v w w', p v w → Below w.heap.size w w' → p v w'
  | .p2 _ p => ∀ a v w w', p a v w → Below w.heap.size w w' → p a v w'
theorem Ye.lasts_ex (v : Value) : (Ye.ex v).lasts := True.intro
theorem Ye.lasts_pr {p : Value → World → Prop} (h : ∀ v w w', p v w → Below w.heap.size w w' → p v w') : (Ye.pr p).lasts := h
theorem Ye.lasts_p2 {j : Nat} {p : Value → Value → World → Prop} (h : ∀ a v w w', p a v w → Below w.heap.size w w' → p a v w') : (Ye.p2 j p).lasts := h
def isExP : Ye → Bool
  | .ex _ => true
  | .pr _ => false
  | .p2 .. => false
def drawOkP (N : Nat) (l : List Oper) (ys : List Ye) (ms : List Nat) : Bool :=
  l.all (fun o => match o.dst with | some d => Nat.blt d N | none => true) && decide ((dsl l).Nodup) && (l.zipIdx.all fun p => (aft p.1).all fun ed => Nat.blt ed.on p.2) && Nat.beq l.length ys.length && (l.zip ys).all (fun p => p.1.dst.isSome || !isExP p.2) && decide ms.Nodup && ms.all (fun m => Nat.blt m l.length) && (ys.zipIdx.all fun p => !(isExP p.1) || !(ms.contains p.2)) && (ys.zipIdx.all fun p => match p.1 with | .p2 j _ => ancOf l l.length p.2 j && Nat.blt j l.length | _ => true)
def Ye.at_ (c ph : Nat) (uu : Nat → Value) : Ye → Value → World → Prop
  | .ex v, u, _ => u = v
  | .pr p, u, w => c = ph → p u w
  | .p2 j p, u, w => c = ph → p (uu j) u w
def endFrP : List Oper → List Ye → (Nat → Value) → Nat → List (Nat × Value)
  | o :: l, y :: ys, u, i => match o.dst, y with
    | some d, .ex v => (d, v) :: endFrP l ys u (i + 1)
    | some d, .pr _ => (d, u i) :: endFrP l ys u (i + 1)
    | some d, .p2 .. => (d, u i) :: endFrP l ys u (i + 1)
    | none, _ => endFrP l ys u (i + 1)
  | _, _, _, _ => []
def depFrP (l : List Oper) (ys : List Ye) : List Edge → List (Nat × Value)
  | [] => []
  | ed :: r => match ys[ed.on]?, (l[ed.on]?).bind (·.dst) with
    | some (.ex v), some d => (d, v) :: depFrP l ys r
    | _, _ => depFrP l ys r

section
variable {P : Program} {N : Nat} {e : Env} {w : World}
def AfterP (o : Oper) (y : Ye) (uu : Nat → Value) (e1 : Env) (w1 : World) : Env → World → Prop := fun e2 w2 => Below w1.heap.size w1 w2 ∧ y.holds uu (valOf o e2) w2 ∧ ∀ j, o.dst ≠ some j → e2 j = e1 j
def AfterU (o : Oper) (y : Ye) (uu : Nat → Value) (e1 : Env) : Env → World → Prop := fun e2 w2 => y.holds uu (valOf o e2) w2 ∧ ∀ j, o.dst ≠ some j → e2 j = e1 j
theorem AfterP.dn {o : Oper} {y : Ye} {uu : Nat → Value} {e1 : Env} {w1 w2 : World} {d : Nat} {v : Value} (hd : o.dst = some d) (hb : Below w1.heap.size w1 w2) (hv : y.holds uu v w2) : AfterP o y uu e1 w1 (upd e1 d v) w2 := by
  refine ⟨hb, ?_, fun j hj => upd_ne e1 v (fun h => hj (by rw [hd, h]))⟩
  unfold valOf; rw [hd]
  show y.holds uu (upd e1 d v d) w2
  rw [upd_at]; exact hv
theorem AfterU.dn {o : Oper} {y : Ye} {uu : Nat → Value} {e1 : Env} {w2 : World} {d : Nat} {v : Value} (hd : o.dst = some d) (hv : y.holds uu v w2) : AfterU o y uu e1 (upd e1 d v) w2 := by
  refine ⟨?_, fun j hj => upd_ne e1 v (fun h => hj (by rw [hd, h]))⟩
  unfold valOf; rw [hd]
  show y.holds uu (upd e1 d v d) w2
  rw [upd_at]; exact hv
theorem AfterU.st {o : Oper} {y : Ye} {uu : Nat → Value} {e1 : Env} {w2 : World} (hd : o.dst = none) (hv : y.holds uu undef w2) : AfterU o y uu e1 e1 w2 := by
  refine ⟨?_, fun j _ => rfl⟩
  unfold valOf; rw [hd]; exact hv

def StepP (P : Program) (N : Nat) (l : List Oper) (ys : List Ye) (ms : List Nat) (e : Env) (w : World) (i : Nat) (o : Oper) : Prop :=
  ∀ (e1 : Env) (w1 : World) (c : Nat), loOf l ms i ≤ c → c ≤ hiOf l ms i → (c = 0 → Below w.heap.size w w1) →
    (∀ (j : Nat) (y : Ye) (o' : Oper), ancOf l l.length i j = true → ys[j]? = some y → l[j]? = some o' → y.at_ c (phOf l ms j) (vl l e1) (valOf o' e1) w1) →
    (∀ (j : Nat) (o' : Oper), l[j]? = some o' → ancOf l l.length j i = true → valOf o' e1 = valOf o' e) →
    (∀ (m : Nat) (y : Ye) (o' : Oper), memb ms m = true → chainAt l ms m = true → phOf l ms m = c → ys[m]? = some y → l[m]? = some o' → y.at_ c (phOf l ms m) (vl l e1) (valOf o' e1) w1) →
    bif memb ms i then Ops P N l.toArray (AfterU o (ys.getD i (.pr fun _ _ => True)) (vl l e1) (ext (mix e1 e (dsl l)) (depFrP l ys (aft o)))) [o] (ext (mix e1 e (dsl l)) (depFrP l ys (aft o))) w1
    else Ops P N l.toArray (AfterP o (ys.getD i (.pr fun _ _ => True)) (vl l e1) (ext (mix e1 e (dsl l)) (depFrP l ys (aft o))) w1) [o] (ext (mix e1 e (dsl l)) (depFrP l ys (aft o))) w1
def StepsP (P : Program) (N : Nat) (l : List Oper) (ys : List Ye) (ms : List Nat) (e : Env) (w : World) : Nat → List Oper → Prop
  | _, [] => True
  | i, o :: r => StepP P N l ys ms e w i o ∧ StepsP P N l ys ms e w (i + 1) r
theorem StepsP.get {l : List Oper} {ys : List Ye} {ms : List Nat} : ∀ {r : List Oper} {i : Nat}, StepsP P N l ys ms e w i r → ∀ k o, r[k]? = some o → StepP P N l ys ms e w (i + k) o
  | [], _, _, k, o, hk => by simp at hk
  | x :: r, i, h, 0, o, hk => by simp at hk; subst hk; exact h.1
  | x :: r, i, h, k + 1, o, hk => by
    have := StepsP.get h.2 k o (by simpa using hk)
    rw [show i + 1 + k = i + (k + 1) by omega] at this
    exact this

theorem depFrP_mt {l : List Oper} {ys : List Ye} {e1 : Env} : ∀ (af : List Edge), (∀ ed ∈ af, ∀ (v : Value) (o' : Oper), ys[ed.on]? = some (.ex v) → l[ed.on]? = some o' → valOf o' e1 = v) → Mt e1 (depFrP l ys af)
  | [], _ => trivial
  | ed :: r, h => by
    have hr := depFrP_mt r (fun x hx => h x (List.mem_cons_of_mem _ hx))
    unfold depFrP
    split
    · rename_i v d hy hd
      refine ⟨?_, hr⟩
      cases ho : l[ed.on]? with
      | none => rw [ho] at hd; cases hd
      | some o' =>
        rw [ho] at hd
        have hd' : o'.dst = some d := hd
        have := h ed (by simp) v o' hy ho
        unfold valOf at this
        rw [hd'] at this
        exact this
    · exact hr

theorem endFrP_eq {e1 e : Env} : ∀ (l : List Oper) (ys : List Ye) (i : Nat), l.length = ys.length → (dsl l).Nodup → (∀ (k : Nat) (v : Value) (o : Oper), ys[k]? = some (.ex v) → l[k]? = some o → valOf o e1 = v ∨ o.dst = none) →
    ∃ u : Nat → Value, ext e (endFrP l ys u i) = mix e1 e (dsl l) ∧ (∀ (k : Nat) (o : Oper), l[k]? = some o → u (i + k) = valOf o e1)
  | [], [], i, _, _, _ => ⟨fun _ => undef, by funext j; rfl, fun k o h => by simp at h⟩
  | [], y :: ys, i, hl, _, _ => by simp at hl
  | o :: l, [], i, hl, _, _ => by simp at hl
  | o :: l, y :: ys, i, hl, hn, h => by
    have hn' : (dsl l).Nodup := by
      unfold dsl at hn ⊢
      rw [List.filterMap_cons] at hn
      split at hn
      · exact hn
      · exact (List.nodup_cons.1 hn).2
    obtain ⟨u, hu, hu2⟩ := endFrP_eq (e1 := e1) (e := e) l ys (i + 1) (by simpa using hl) hn' (fun k v o' hy ho => h (k + 1) v o' (by simpa using hy) (by simpa using ho))
    have cng : ∀ (l : List Oper) (ys : List Ye) (i : Nat) (u u' : Nat → Value), (∀ k, i ≤ k → u k = u' k) → endFrP l ys u i = endFrP l ys u' i := by
      intro l
      induction l with
      | nil => intros; rfl
      | cons o l ih =>
        intro ys i u u' hk
        cases ys with
        | nil => rfl
        | cons y ys =>
          have h1 := ih ys (i + 1) u u' (fun k hk' => hk k (by omega))
          simp only [endFrP]
          rw [h1, hk i (by omega)]
    have hc := cng l ys (i + 1) (fun k => if k = i then valOf o e1 else u k) u (fun k hk => by show (if k = i then _ else _) = _; rw [if_neg (by omega)])
    refine ⟨fun k => if k = i then valOf o e1 else u k, ?_, fun k o' hk => ?_⟩
    · cases hd : o.dst with
      | none =>
        have e1' : dsl (o :: l) = dsl l := by unfold dsl; rw [List.filterMap_cons, hd]
        simp only [endFrP, hd, hc, hu, e1']
      | some d =>
        have e1' : dsl (o :: l) = d :: dsl l := by unfold dsl; rw [List.filterMap_cons, hd]
        have hval : valOf o e1 = e1 d := by unfold valOf; rw [hd]
        have hstep : ∀ v, v = e1 d → upd (mix e1 e (dsl l)) d v = mix e1 e (d :: dsl l) := by
          intro v hv
          funext j
          simp only [upd, mix, memb]
          cases hb : Nat.beq j d with
          | true => rw [Nat.eq_of_beq_eq_true hb, hv]; rfl
          | false => rfl
        rw [e1']
        cases y with
        | ex v =>
          have h0 := h 0 v o rfl rfl
          simp only [endFrP, hd, ext, hc, hu]
          refine hstep v ?_
          rcases h0 with h0 | h0
          · rw [← h0, hval]
          · rw [hd] at h0; cases h0
        | pr p =>
          simp only [endFrP, hd, ext, hc, hu, if_pos]
          exact hstep _ hval
        | p2 j p =>
          simp only [endFrP, hd, ext, hc, hu, if_pos]
          exact hstep _ hval
    · cases k with
      | zero => simp at hk; subst hk; simp
      | succ k =>
        have := hu2 k o' (by simpa using hk)
        show (if i + (k + 1) = i then _ else u (i + (k + 1))) = _
        rw [if_neg (by omega), ← this]; congr 1; omega


theorem Cd.drawP {id : Nat} {l : List Oper} {Q : Post} (ms : List Nat) (ys : List Ye) (hm : P.follows .mixedOrders = true) (hok : drawOkP N l ys ms = true) (hlasts : ∀ y ∈ ys, y.lasts)
    (hsteps : StepsP P N l ys ms e w 0 l) (hend : ∀ u w1, (ms = [] → Below w.heap.size w w1) → (∀ (k : Nat) (p : Value → World → Prop), ys[k]? = some (Ye.pr p) → phOf l ms k = ms.length → p (u k) w1) → (∀ (k j : Nat) (p : Value → Value → World → Prop), ys[k]? = some (Ye.p2 j p) → phOf l ms k = ms.length → p (u j) (u k) w1) → Q .normal (ext e (endFrP l ys u 0)) w1) : Cd P N (.region id l.toArray true) Q e w := .mk' fun a ha => by
  simp only [drawOkP, Bool.and_eq_true, List.all_eq_true, decide_eq_true_eq] at hok
  obtain ⟨⟨⟨⟨⟨⟨⟨⟨h1, h2⟩, h3⟩, hlen⟩, hnone⟩, hmn⟩, hml⟩, hmy⟩, hp2⟩ := hok
  have hp2' : ∀ (k j : Nat) (p : Value → Value → World → Prop), ys[k]? = some (.p2 j p) → ancOf l l.length k j = true ∧ j < l.length := by
    intro k j p hk
    have := hp2 (.p2 j p, k) (by rw [List.mem_iff_getElem?]; exact ⟨k, by simp [hk]⟩)
    simpa [Nat.blt_eq] using this
  have hlen' : l.length = ys.length := Nat.eq_of_beq_eq_true hlen
  have hback : ∀ (i : Nat) (o : Oper), l[i]? = some o → ∀ ed ∈ aft o, ed.on < i := by
    intro i o ho ed hed
    have := h3 (o, i) (by
      obtain ⟨hi, hio⟩ := List.getElem?_eq_some_iff.1 ho
      rw [List.mem_iff_getElem?]
      exact ⟨i, by simp [ho]⟩)
    simpa [Nat.blt_eq] using this ed hed
  have hdN : ∀ (i : Nat) (o : Oper) (d : Nat), l[i]? = some o → o.dst = some d → d < N := by
    intro i o d ho hd
    have := h1 o (List.mem_of_getElem? ho)
    rw [hd] at this
    simpa [Nat.blt_eq] using this
  have hexd : ∀ (i : Nat) (o : Oper) (v : Value), l[i]? = some o → ys[i]? = some (.ex v) → o.dst ≠ none := by
    intro i o v ho hy hd
    have := hnone (o, .ex v) (by
      rw [List.mem_iff_getElem?]
      exact ⟨i, by rw [List.getElem?_zip_eq_some]; exact ⟨ho, hy⟩⟩)
    simp [hd, isExP] at this
  refine wp_region_any hm ?_
  let cnt : Array Bool → Nat := fun listed => ms.countP fun m => listed.getD m false
  have key : ∀ (fuel : Nat) (listed : Array Bool) (a1 : Act) (e1 : Env) (w1 : World), Rep N a1 e1 → (cnt listed = 0 → Below w.heap.size w w1) → (∀ j, memb (dsl l) j = false → e1 j = e j) → listed.size = l.length →
      (∀ (i : Nat) (y : Ye) (o : Oper), listed.getD i false = true → ys[i]? = some y → l[i]? = some o → y.at_ (cnt listed) (phOf l ms i) (vl l e1) (valOf o e1) w1) → (∀ (i : Nat) (o : Oper), listed.getD i false = true → l[i]? = some o → ∀ ed ∈ aft o, listed.getD ed.on false = true) → (∀ (i : Nat) (o : Oper), listed.getD i false = false → l[i]? = some o → valOf o e1 = valOf o e) → (l.length - fuel ≤ (List.range l.length).countP fun i => listed.getD i false) →
      wpAny P .any l.toArray (low N Q) fuel listed a1 w1 := by
    have hfin : ∀ (listed : Array Bool) (a1 : Act) (e1 : Env) (w1 : World), Rep N a1 e1 → (cnt listed = 0 → Below w.heap.size w w1) → (∀ j, memb (dsl l) j = false → e1 j = e j) →
        (∀ (i : Nat) (y : Ye) (o : Oper), listed.getD i false = true → ys[i]? = some y → l[i]? = some o → y.at_ (cnt listed) (phOf l ms i) (vl l e1) (valOf o e1) w1) → (∀ i, i < l.length → listed.getD i false = true) → low N Q .normal a1 w1 := by
      intro listed a1 e1 w1 hr hb hag hS hall
      have hcnt : cnt listed = ms.length := by
        show ms.countP _ = ms.length
        rw [List.countP_eq_length]
        intro m hmm
        exact hall m (by simpa [Nat.blt_eq] using hml m hmm)
      obtain ⟨u, hu, hu2⟩ := endFrP_eq (e1 := e1) (e := e) l ys 0 hlen' h2 (fun k v o hy ho => .inl (hS k _ o (hall k (List.getElem?_eq_some_iff.1 ho).1) hy ho))
      refine ⟨e1, hr, ?_⟩
      have := hend u w1 (fun h0 => hb (by rw [hcnt, h0]; rfl)) (fun k p hk hph => by
        have hkl : k < l.length := by rw [hlen']; exact (List.getElem?_eq_some_iff.1 hk).1
        have h5 := hS k _ l[k] (hall k hkl) hk (List.getElem?_eq_getElem hkl)
        have h6 := hu2 k l[k] (List.getElem?_eq_getElem hkl)
        rw [Nat.zero_add] at h6
        rw [h6]; exact h5 (by rw [hcnt, hph])) (fun k j p hk hph => by
        have hkl : k < l.length := by rw [hlen']; exact (List.getElem?_eq_some_iff.1 hk).1
        have hj := hp2' k j p hk
        have h5 := hS k _ l[k] (hall k hkl) hk (List.getElem?_eq_getElem hkl)
        have h6 := hu2 k l[k] (List.getElem?_eq_getElem hkl)
        have h7 := hu2 j l[j] (List.getElem?_eq_getElem hj.2)
        rw [Nat.zero_add] at h6 h7
        have h8 : vl l e1 j = valOf l[j] e1 := by unfold vl; rw [List.getElem?_eq_getElem hj.2]
        rw [h6, h7, ← h8]; exact h5 (by rw [hcnt, hph]))
      rw [hu, mix_eq hag] at this
      exact this
    have hready : ∀ (listed : Array Bool), listed.size = l.length → Region.ready .any l.toArray listed = [] → ∀ i, i < l.length → listed.getD i false = true := by
      intro listed hsz hnil i
      induction i using Nat.strongRecOn with
      | _ i ih =>
        intro hi
        cases hli : listed.getD i false with
        | true => rfl
        | false =>
          exfalso
          have : i ∈ Region.ready .any l.toArray listed := by
            rw [mem_ready]
            refine ⟨?_, l[i], by simp [hi], fun ed hed hbd => ih ed.on (hback i _ (List.getElem?_eq_getElem hi) ed (mem_aft.2 ⟨hed, hbd⟩)) (by have := hback i _ (List.getElem?_eq_getElem hi) ed (mem_aft.2 ⟨hed, hbd⟩); omega)⟩
            rw [Array.getD_eq_getD_getElem?, Array.getElem?_eq_getElem (by omega)] at hli ⊢
            exact hli
          rw [hnil] at this
          cases this
    intro fuel
    induction fuel with
    | zero =>
      intro listed a1 e1 w1 hr hb hag hsz hS hcl hun0 hcnt
      have hall : ∀ i, i < l.length → listed.getD i false = true := by
        have h4 : (List.range l.length).countP (fun i => listed.getD i false) = (List.range l.length).length := by
          have := List.countP_le_length (p := fun i => listed.getD i false) (l := List.range l.length)
          simp at this hcnt ⊢; omega
        rw [List.countP_eq_length] at h4
        intro i hi
        exact h4 i (by simpa using hi)
      refine ⟨?_, hfin listed a1 e1 w1 hr hb hag hS hall⟩
      rw [List.eq_nil_iff_forall_not_mem]
      intro i hi
      obtain ⟨h5, o, ho, _⟩ := mem_ready.1 hi
      have hil : i < l.length := by
        rcases Nat.lt_or_ge i l.length with h | h
        · exact h
        · simp [List.getElem?_eq_none h] at ho
      have h6 := hall i hil
      rw [Array.getD_eq_getD_getElem?, Array.getElem?_eq_getElem (by omega)] at h5 h6
      simp at h5 h6
      rw [h5] at h6; cases h6
    | succ fuel ih =>
      intro listed a1 e1 w1 hr hb hag hsz hS hcl hun0 hcnt
      refine ⟨fun hnil => hfin listed a1 e1 w1 hr hb hag hS (hready listed hsz hnil), fun i hi => ?_⟩
      obtain ⟨hun, o, ho, haf⟩ := mem_ready.1 hi
      have ho' : l[i]? = some o := by simpa using ho
      have hil : i < l.length := (List.getElem?_eq_some_iff.1 ho').1
      have hrd : ∀ ed ∈ aft o, listed.getD ed.on false = true := fun ed hed => haf ed (mem_aft.1 hed).1 (mem_aft.1 hed).2
      have hun' : listed.getD i false = false := by
        have h5 := hun
        rw [Array.getD_eq_getD_getElem?, Array.getElem?_eq_getElem (by omega)] at h5 ⊢
        exact h5
      have hgs : ∀ k, (listed.setIfInBounds i true).getD k false = if k = i then true else listed.getD k false := by
        intro k
        rw [Array.getD_eq_getD_getElem?, Array.getElem?_setIfInBounds]
        by_cases hki : k = i
        · subst hki; rw [if_pos rfl, if_pos (by omega), if_pos rfl]; rfl
        · rw [if_neg (fun e => hki e.symm), if_neg hki, ← Array.getD_eq_getD_getElem?]
      have hlo : loOf l ms i ≤ cnt listed := countP_le_of fun m _ h => ancOf_ready hcl ho' hrd _ _ h
      have hhi : cnt listed ≤ hiOf l ms i := countP_le_of fun m _ h => by
        have hne : Nat.beq m i = false := by
          cases hb : Nat.beq m i with
          | false => rfl
          | true => rw [Nat.eq_of_beq_eq_true hb, hun'] at h; cases h
        have han : ancOf l l.length m i = false := by
          cases hb : ancOf l l.length m i with
          | false => rfl
          | true => have := ancOf_listed hcl _ _ _ hb h; rw [hun'] at this; cases this
        simp [hne, han]
      have hph : ∀ (j : Nat), listed.getD j false = true → phOf l ms j ≤ cnt listed := fun j hj => countP_le_of fun m _ h => by
        rw [Bool.or_eq_true] at h
        rcases h with h | h
        · rw [Nat.eq_of_beq_eq_true h]; exact hj
        · exact ancOf_listed hcl _ _ _ h hj
      have hst := hsteps.get i o ho' e1 w1 (cnt listed)
      rw [Nat.zero_add] at hst
      have hst := hst hlo hhi hb (fun j y o' han hy hoj => hS j y o' (ancOf_ready hcl ho' hrd _ _ han) hy hoj) (fun j o' hj han => by
        refine hun0 j o' ?_ hj
        cases hlj : listed.getD j false with
        | false => rfl
        | true => have := ancOf_listed hcl _ _ _ han hlj; rw [hun'] at this; cases this) (fun m y o' hm hch hphm hy hom => by
        refine hS m y o' ?_ hy hom
        cases hlm : listed.getD m false with
        | true => rfl
        | false =>
          exfalso
          have h8 := countP_one (fun k => listed.getD k false) (fun k => if k = m then true else listed.getD k false) m hlm (fun k => rfl) ms hmn (memb_iff.1 hm)
          have h9 : ms.countP (fun k => if k = m then true else listed.getD k false) ≤ phOf l ms m := countP_le_of fun m' hm' h => by
            by_cases e : m' = m
            · rw [e, Nat.beq_refl]; rfl
            · rw [if_neg e] at h
              simp only [chainAt, List.all_eq_true] at hch
              have h10 := hch m' hm'
              cases h11 : ancOf l l.length m m' with
              | true => rw [Bool.or_true]
              | false =>
                rw [h11, Bool.or_false, Bool.or_eq_true] at h10
                rcases h10 with h10 | h10
                · exact absurd (Nat.eq_of_beq_eq_true h10) e
                · have := ancOf_listed hcl _ _ _ h10 h
                  rw [hlm] at this; cases this
          have h12 : ms.countP (fun k => listed.getD k false) = cnt listed := rfl
          omega)
      rw [mix_eq hag, ext_of_mt (depFrP_mt (aft o) (fun ed hed v o' hy hoj => hS ed.on _ o' (hrd ed hed) hy hoj))] at hst
      let turns : Prop := memb ms i = true
      let KK : Env → World → Prop := fun e2 w2 => (memb ms i = false → Below w1.heap.size w1 w2) ∧ (ys.getD i (.pr fun _ _ => True)).holds (vl l e1) (valOf o e2) w2 ∧ ∀ j, o.dst ≠ some j → e2 j = e1 j
      have hwl' : ∃ K : Env → World → Prop, (∀ e2 w2, K e2 w2 → KK e2 w2) ∧ Ops P N l.toArray K [o] e1 w1 := by
        cases hmi : memb ms i with
        | true =>
          rw [hmi] at hst
          exact ⟨_, fun e2 w2 h => ⟨fun h0 => (by rw [hmi] at h0; cases h0), h.1, h.2⟩, hst⟩
        | false =>
          rw [hmi] at hst
          exact ⟨_, fun e2 w2 h => ⟨fun _ => h.1, h.2.1, h.2.2⟩, hst⟩
      obtain ⟨K, hKK, hst'⟩ := hwl'
      have hwl := hst'.run a1 hr
      have hcnt' : cnt (listed.setIfInBounds i true) = if memb ms i = true then cnt listed + 1 else cnt listed := by
        show ms.countP _ = _
        by_cases hmi : memb ms i = true
        · rw [if_pos hmi]
          exact countP_one (fun m => listed.getD m false) (fun m => (listed.setIfInBounds i true).getD m false) i hun' hgs ms hmn (memb_iff.1 hmi)
        · rw [if_neg hmi]
          refine List.countP_congr fun m hmm => ?_
          rw [hgs, if_neg (fun e => hmi (memb_iff.2 (by rw [← e]; exact hmm)))]
      have hnext : ∀ a2 w2, (∃ e2, Rep N a2 e2 ∧ K e2 w2) → wpAny P .any l.toArray (low N Q) fuel (listed.setIfInBounds i true) a2 w2 := by
        intro a2 w2 ⟨e2, hr2, hK2⟩
        obtain ⟨hbl, hy2, hag2⟩ := hKK _ _ hK2
        have hother : ∀ (k : Nat) (o' : Oper), l[k]? = some o' → k ≠ i → valOf o' e2 = valOf o' e1 := by
          intro k o' hok hki
          unfold valOf
          cases hd : o'.dst with
          | none => rfl
          | some d => exact hag2 d (fun h => hki (filterMap_inj _ l h2 k i o' o d hok ho' hd h))
        have hvl : ∀ j, j ≠ i → vl l e2 j = vl l e1 j := by
          intro j hj
          unfold vl
          cases hoj : l[j]? with
          | none => rfl
          | some o' => exact hother j o' hoj hj
        refine ih _ a2 e2 w2 hr2 (fun h0 => ?_) (fun j hj => ?_) (by simpa using hsz) (fun k y o' hk hy hok => ?_) (fun k o' hk hok ed hed => ?_) (fun k o' hk hok => ?_) ?_
        · rw [hcnt'] at h0
          by_cases hmi : memb ms i = true
          · rw [if_pos hmi] at h0; omega
          · rw [if_neg hmi] at h0
            have := hbl (by simpa using hmi)
            exact (hb h0).trans (this.mono (hb h0).size)
        · have hne : o.dst ≠ some j := by
            intro hd
            have : memb (dsl l) j = true := by rw [memb_iff]; exact List.mem_filterMap.2 ⟨o, List.mem_of_getElem? ho', hd⟩
            rw [this] at hj; cases hj
          rw [hag2 j hne]; exact hag j hj
        · by_cases hki : k = i
          · subst hki
            rw [ho'] at hok
            cases hok
            have : ys.getD k (.pr fun _ _ => True) = y := by simp [List.getD_eq_getElem?_getD, hy]
            rw [this] at hy2
            cases y with
            | ex v => exact hy2
            | pr p => exact fun _ => hy2
            | p2 j p =>
              have hj := hp2' k j p hy
              have hlj : listed.getD j false = true := ancOf_ready hcl ho' hrd _ _ hj.1
              have hji : j ≠ k := fun e => by rw [e, hun'] at hlj; cases hlj
              exact fun _ => by rw [hvl j hji]; exact hy2
          · have hk' : listed.getD k false = true := by rw [hgs, if_neg hki] at hk; exact hk
            have h7 := hS k y o' hk' hy hok
            rw [hother k o' hok hki]
            cases y with
            | ex v => exact h7
            | pr p =>
              intro hc
              rw [hcnt'] at hc
              by_cases hmi : memb ms i = true
              · rw [if_pos hmi] at hc
                have := hph k hk'
                omega
              · rw [if_neg hmi] at hc
                have hl := hlasts _ (List.mem_of_getElem? hy)
                exact hl _ _ _ (h7 hc) (hbl (by simpa using hmi))
            | p2 j p =>
              have hj := hp2' k j p hy
              have hlj : listed.getD j false = true := ancOf_listed hcl _ _ _ hj.1 hk'
              have hji : j ≠ i := fun e => by rw [e, hun'] at hlj; cases hlj
              intro hc
              rw [hvl j hji]
              rw [hcnt'] at hc
              by_cases hmi : memb ms i = true
              · rw [if_pos hmi] at hc
                have := hph k hk'
                omega
              · rw [if_neg hmi] at hc
                have hl := hlasts _ (List.mem_of_getElem? hy)
                exact hl _ _ _ _ (h7 hc) (hbl (by simpa using hmi))
        · rw [hgs]
          by_cases hei : ed.on = i
          · rw [if_pos hei]
          · rw [if_neg hei]
            by_cases hki : k = i
            · subst hki
              rw [ho'] at hok; cases hok
              exact hrd ed hed
            · rw [hgs, if_neg hki] at hk
              exact hcl k o' hk hok ed hed
        · rw [hgs] at hk
          by_cases hki : k = i
          · rw [if_pos hki] at hk; cases hk
          · rw [if_neg hki] at hk
            rw [hother k o' hok hki]
            exact hun0 k o' hk hok
        · have hcount : (List.range l.length).countP (fun k => (listed.setIfInBounds i true).getD k false) = (List.range l.length).countP (fun k => listed.getD k false) + 1 :=
            countP_one (fun k => listed.getD k false) (fun k => (listed.setIfInBounds i true).getD k false) i hun' hgs _ List.nodup_range (by simpa using hil)
          rw [hcount]; omega
      unfold wpOp
      rw [ho]
      unfold wpList at hwl
      show if _ then _ else _
      by_cases hw : Region.wanted o (yielded l.toArray a1.tmps) = true
      · rw [if_pos hw] at hwl ⊢
        rcases hwl with h5 | ⟨_, a0, w0, h5⟩
        · refine .inl (Oper.wp_conv h5 (fun a2 w2 hx => ?_) (fun x a w hx hq => hx hq.1))
          exact hnext a2 w2 hx.2
        · exact absurd h5.1 (by simp)
      · rw [if_neg hw] at hwl ⊢
        exact hnext _ _ hwl.2
  refine key l.length (Array.replicate l.length false) a e _ ha (fun _ => ⟨⟨rfl, rfl, rfl, Nat.le_refl _, fun _ _ => rfl⟩, fun _ => Nat.le_add_right _ _⟩) (fun _ _ => rfl) (by simp) (fun i y o hi => ?_) (fun i o hi => ?_) (fun _ _ _ _ => rfl) (by omega)
  · exfalso
    rw [Array.getD_eq_getD_getElem?, Array.getElem?_replicate] at hi
    split at hi <;> simp at hi
  · exfalso
    rw [Array.getD_eq_getD_getElem?, Array.getElem?_replicate] at hi
    split at hi <;> simp at hi
end
end Go.Proofs.YtgobjpcankaicaaGreatDoor.Vc
/-
  The parts of the graph on both sides. Conditions: as each states them.
-/
namespace Go.Proofs.YtgobjpcankaicaaGreatDoor.Vc
open Go.RowKit
section
variable {P : Program} {N : Nat} {ops : Array Oper} {K : Env → World → Prop} {rest : List Oper} {e : Env} {w : World} {d : Nat} {ty xt yt : TypeId} {pos : String} {af : Array Edge} {x y : Operand} {i j : Int}
theorem Ops.remT (hx : ev e x = .int .i64 i) (hy : ev e y = .int .i64 j) (hb : Nat.blt d N = true) (hr : 1 ≤ j) (hK : Ops P N ops K rest (upd e d (.int .i64 (Int.tmod i j))) w) :
    Ops P N ops K (⟨some d, .binOp .rem xt x y yt, ty, pos, af, none⟩ :: rest) e w :=
  .val (by simp [execOp, hx, hy, eqGuard, binOp, Op.intDiv, show j ≠ 0 by omega]) hb hK
end

def p2L (l : List Int) : List Int := l.map fun x => Int.tmod x 2
def mixP (l : List Int) (v : Nat) : List Int := p2L (l.take v) ++ l.drop v
theorem mixP_len (l : List Int) (v : Nat) : (mixP l v).length = l.length := by simp [mixP, p2L]; omega
theorem mixP_get {l : List Int} {v : Nat} (h : v < l.length) : gi (mixP l v) (v : Int) = gi l (v : Int) := by
  have h1 : (p2L (l.take v)).length = v := by simp [p2L]; omega
  simp only [gi, mixP, Int.toNat_natCast, List.getD_eq_getElem?_getD]
  rw [List.getElem?_append_right (by omega), h1]
  simp
theorem mixP_step {l : List Int} {v : Nat} (h : v < l.length) : (mixP l v).set v (Int.tmod (gi l (v : Int)) 2) = mixP l (v + 1) := by
  have h1 : (p2L (l.take v)).length = v := by simp [p2L]; omega
  rw [gi_mem h]
  unfold mixP
  rw [List.set_append_right _ _ (by omega), h1, Nat.sub_self, List.take_succ_eq_append_getElem h, List.drop_eq_getElem_cons h]
  unfold p2L
  rw [List.map_append]
  simp only [List.set_cons_zero, List.map_cons, List.map_nil, List.append_assoc, List.cons_append, List.nil_append]
theorem mixP_zero (l : List Int) : mixP l 0 = l := by simp [mixP, p2L]
theorem mixP_all (l : List Int) : mixP l l.length = p2L l := by simp [mixP]
def partsP (xss : List (List Int)) : List Int := p2L (distP (nbL xss) (-1) 0).1
def Bd (En : List (List Int)) (parts : List Int) (e : Nat) : Prop := (gl En (e : Int)).length = 1 ∨ gi parts (gi (gl En (e : Int)) 0) = gi parts (gi (gl En (e : Int)) 1)
instance (En : List (List Int)) (parts : List Int) (e : Nat) : Decidable (Bd En parts e) := by unfold Bd; exact inferInstance
def ptBad (xss : List (List Int)) : Prop := ∃ e, e < edgesN xss ∧ Bd (endsL xss) (partsP xss) e
instance (xss : List (List Int)) : Decidable (ptBad xss) := by unfold ptBad; exact inferInstance
def ptK (xss : List (List Int)) : Int := if ¬ Grph xss then 1 else if ptBad xss then 4 else 0
def ptL (xss : List (List Int)) : List Int := if Grph xss ∧ ¬ ptBad xss then partsP xss else []
theorem verts_pos {xss : List (List Int)} (hM : Mani xss) : 0 < vertsN xss := by
  have h0 := faces_in hM 0 0 (by have := hM.2.1; omega)
  unfold vertsN
  omega
theorem parts_len {xss : List (List Int)} (hM : Mani xss) : (partsP xss).length = vertsN xss := by
  have hp := verts_pos hM
  have := (dist_BF (wo := -1) (v := 0) (nb_gr hM) (by omega) (by omega)).len
  simp [partsP, p2L, this]
theorem pt_bd (xss : List (List Int)) : (ptL xss).length ≤ 1000 := by
  unfold ptL
  split
  · rename_i h
    have hsm := nb_small h.1.1
    rw [parts_len h.1.1]
    omega
  · exact Nat.zero_le _
/-- each edge has an end -/
theorem ends_pos {xss : List (List Int)} (hM : Mani xss) (e : Nat) (he : e < edgesN xss) : 0 < (gl (endsL xss) (e : Int)).length := by
  have h1 : edgesN xss = (facesN xss 1).toNat := rfl
  have hpos := bag_pos (Vl := facesL xss 0) (El := facesL xss 1) (m := edgesN xss) (gl xss 0).length (fun k hk => by have := faces_in hM 1 k hk; omega) (e : Int) (by omega) (faces_hit hM 1 e (by omega) (by omega))
  rw [endsL, gl_ends]
  have hm : (gl (bag (facesL xss 0) (facesL xss 1) (edgesN xss) (gl xss 0).length) (e : Int))[0] ∈ cs (gl (bag (facesL xss 0) (facesL xss 1) (edgesN xss) (gl xss 0).length) (e : Int)) := (cs_mem _ _).2 (List.getElem_mem hpos)
  exact List.length_pos_of_mem hm

end Go.Proofs.YtgobjpcankaicaaGreatDoor.Vc
/-
  Plain mathematics of the girth: distances are the same both ways; the shortest ways round, by edges and by neighbours. Conditions: as each states them. No program in sight.
-/
namespace Go.Proofs.YtgobjpcankaicaaGreatDoor.Vc

/-! ways in a graph -/
inductive PathK (next : List (List Int)) : Nat → Int → Int → Prop
  | nil (a : Int) : PathK next 0 a a
  | snoc {k : Nat} {a b c : Int} : PathK next k a b → c ∈ gl next b → PathK next (k + 1) a c
theorem PathK.cons {next : List (List Int)} {k : Nat} {a b c : Int} (h0 : b ∈ gl next a) (h : PathK next k b c) : PathK next (k + 1) a c := by
  induction h with
  | nil => exact .snoc (.nil a) h0
  | snoc _ hc ih => exact .snoc (ih h0) hc
/-- neighbours are neighbours of each other -/
def SymG (n : Nat) (next : List (List Int)) : Prop := ∀ u x : Int, 0 ≤ u → u < n → x ∈ gl next u → u ∈ gl next x
theorem PathK.range {n : Nat} {next : List (List Int)} (hg : Gr n next) {k : Nat} {a b : Int} (h0 : 0 ≤ a) (h1 : a < n) (h : PathK next k a b) : 0 ≤ b ∧ b < n := by
  induction h with
  | nil => exact ⟨h0, h1⟩
  | snoc _ hc ih =>
    have ih := ih h0 h1
    exact (hg.row _ ih.1).1 _ hc
theorem PathK.rev {n : Nat} {next : List (List Int)} (hg : Gr n next) (hs : SymG n next) {k : Nat} {a b : Int} (h0 : 0 ≤ a) (h1 : a < n) (h : PathK next k a b) : PathK next k b a := by
  induction h with
  | nil => exact .nil _
  | snoc hp hc ih =>
    have hr := hp.range hg h0 h1
    exact PathK.cons (hs _ _ hr.1 hr.2 hc) (ih h0 h1)
theorem dist_path {n : Nat} {next : List (List Int)} {v : Int} {far : List Int} (hD : DF n next v far) : ∀ (d : Nat) (x : Int), 0 ≤ x → x < n → gi far x = d → PathK next d v x := by
  intro d
  induction d with
  | zero =>
    intro x h0 h1 hd
    by_cases e : x = v
    · subst e; exact .nil _
    · obtain ⟨y, _, _, hy, he⟩ := hD.par x h0 h1 (by omega) e
      omega
  | succ d ih =>
    intro x h0 h1 hd
    by_cases e : x = v
    · subst e
      rw [hD.at0] at hd
      omega
    · obtain ⟨y, hyr, hxy, hy, he⟩ := hD.par x h0 h1 (by omega) e
      exact .snoc (ih y hyr.1 hyr.2 (by omega)) hxy
theorem path_dist {n : Nat} {next : List (List Int)} {v : Int} {far : List Int} (hg : Gr n next) (hD : DF n next v far) (h0 : 0 ≤ v) (h1 : v < n) {k : Nat} {x : Int} (h : PathK next k v x) : 0 ≤ gi far x ∧ gi far x ≤ k := by
  induction h with
  | nil => rw [hD.at0]; omega
  | snoc hp hc ih =>
    have hr := hp.range hg h0 h1
    have ih := ih hD h0 h1
    have := hD.nxt _ hr.1 hr.2 ih.1 _ hc
    omega
/-- distances are the same both ways -/
theorem dist_symm {n : Nat} {next : List (List Int)} (hg : Gr n next) (hs : SymG n next) {u v : Int} (h0 : 0 ≤ u) (h1 : u < n) (h2 : 0 ≤ v) (h3 : v < n) (hp : 0 ≤ gi (distP next (-1) u).1 v) : gi (distP next (-1) v).1 u = gi (distP next (-1) u).1 v := by
  have hU := dist_DF hg h0 h1
  have hV := dist_DF hg h2 h3
  have p1 := (dist_path hU (gi (distP next (-1) u).1 v).toNat v h2 h3 (by omega)).rev hg hs h0 h1
  have d1 := path_dist hg hV h2 h3 p1
  have p2 := (dist_path hV (gi (distP next (-1) v).1 u).toNat u h0 h1 (by omega)).rev hg hs h2 h3
  have d2 := path_dist hg hU h0 h1 p2
  omega

/-! a graph without an edge -/
def restL (next : List (List Int)) (u v : Int) : List (List Int) := (next.set u.toNat (lessL (gl next u) [v])).set v.toNat (lessL (gl next v) [u])
theorem lessL_mem {a b : List Int} {x : Int} : x ∈ lessL a b ↔ x ∈ a ∧ x ∉ b := by simp [lessL]
theorem restL_len (next : List (List Int)) (u v : Int) : (restL next u v).length = next.length := by simp [restL]
theorem rest_gl {n : Nat} {next : List (List Int)} (hl : next.length = n) {u v : Int} (h0 : 0 ≤ u) (h1 : u < n) (h2 : 0 ≤ v) (h3 : v < n) (e : Int) (he : 0 ≤ e) : gl (restL next u v) e = if v = e then lessL (gl next v) [u] else if u = e then lessL (gl next u) [v] else gl next e := by
  unfold restL
  rw [gl_set2 e he (by rw [List.length_set]; omega), gl_set2 e he (by omega), Int.toNat_of_nonneg h0, Int.toNat_of_nonneg h2]
theorem rest_mem {n : Nat} {next : List (List Int)} (hl : next.length = n) {u v : Int} (hne : u ≠ v) (h0 : 0 ≤ u) (h1 : u < n) (h2 : 0 ≤ v) (h3 : v < n) (e : Int) (he : 0 ≤ e) (x : Int) : x ∈ gl (restL next u v) e ↔ x ∈ gl next e ∧ ¬ (e = u ∧ x = v) ∧ ¬ (e = v ∧ x = u) := by
  rw [rest_gl hl h0 h1 h2 h3 e he]
  by_cases e1 : v = e
  · subst e1
    rw [if_pos rfl, lessL_mem, List.mem_singleton]
    constructor
    · rintro ⟨a, b⟩
      exact ⟨a, fun h => hne h.1.symm, fun h => b h.2⟩
    · rintro ⟨a, _, c⟩
      exact ⟨a, fun h => c ⟨rfl, h⟩⟩
  · rw [if_neg e1]
    by_cases e2 : u = e
    · subst e2
      rw [if_pos rfl, lessL_mem, List.mem_singleton]
      constructor
      · rintro ⟨a, b⟩
        exact ⟨a, fun h => b h.2, fun h => hne h.1⟩
      · rintro ⟨a, b, _⟩
        exact ⟨a, fun h => b ⟨rfl, h⟩⟩
    · rw [if_neg e2]
      exact ⟨fun h => ⟨h, fun h' => e2 h'.1.symm, fun h' => e1 h'.1.symm⟩, fun h => h.1⟩
theorem rest_gr {n : Nat} {next : List (List Int)} (hg : Gr n next) {u v : Int} (h0 : 0 ≤ u) (h1 : u < n) (h2 : 0 ≤ v) (h3 : v < n) : Gr n (restL next u v) := by
  refine ⟨by rw [restL_len]; exact hg.len, hg.small, fun e he => ?_⟩
  have less : ∀ w : Int, 0 ≤ w → ∀ b : List Int, (∀ x ∈ lessL (gl next w) b, 0 ≤ x ∧ x < n) ∧ (lessL (gl next w) b).length ≤ 1000 := fun w hw b => by
    have hr := hg.row w hw
    refine ⟨fun x hx => hr.1 x (lessL_mem.1 hx).1, ?_⟩
    have := List.length_filter_le (fun x => !decide (x ∈ b)) (gl next w)
    unfold lessL
    omega
  rw [rest_gl hg.len h0 h1 h2 h3 e he]
  split
  · exact less v h2 _
  · split
    · exact less u h0 _
    · exact hg.row e he
theorem rest_symm {n : Nat} {next : List (List Int)} (hg : Gr n next) (hs : SymG n next) {u v : Int} (hne : u ≠ v) (h0 : 0 ≤ u) (h1 : u < n) (h2 : 0 ≤ v) (h3 : v < n) : SymG n (restL next u v) := by
  intro a x ha ha' hx
  obtain ⟨h4, h5, h6⟩ := (rest_mem hg.len hne h0 h1 h2 h3 a ha x).1 hx
  have hxr := (hg.row a ha).1 x h4
  exact (rest_mem hg.len hne h0 h1 h2 h3 x hxr.1 a).2 ⟨hs a x ha ha' h4, fun h => h6 ⟨h.2, h.1⟩, fun h => h5 ⟨h.2, h.1⟩⟩
theorem rest_swap {next : List (List Int)} {u v : Int} (hne : u ≠ v) (h0 : 0 ≤ u) (h2 : 0 ≤ v) : restL next u v = restL next v u := by
  unfold restL
  rw [List.set_comm _ _ (show u.toNat ≠ v.toNat by omega)]
/-- the way round -/
def wayL (next : List (List Int)) (u v : Int) : Int := gi (distP (restL next u v) (-1) u).1 v
theorem way_swap {n : Nat} {next : List (List Int)} (hg : Gr n next) (hs : SymG n next) {u v : Int} (hne : u ≠ v) (h0 : 0 ≤ u) (h1 : u < n) (h2 : 0 ≤ v) (h3 : v < n) (hp : 0 ≤ wayL next u v) : wayL next v u = wayL next u v := by
  unfold wayL at hp ⊢
  rw [rest_swap (fun h => hne h.symm) h2 h0]
  exact dist_symm (rest_gr hg h0 h1 h2 h3) (rest_symm hg hs hne h0 h1 h2 h3) h0 h1 h2 h3 hp
theorem way_small {n : Nat} {next : List (List Int)} (hg : Gr n next) {u v : Int} (h0 : 0 ≤ u) (h1 : u < n) (h2 : 0 ≤ v) (h3 : v < n) : wayL next u v < n := (dist_DF (rest_gr hg h0 h1 h2 h3) h0 h1).top v h2 h3

/-! the least -/
def gstep (g w : Int) : Int := if 0 < w ∧ (g = 0 ∨ w + 1 < g) then w + 1 else g
def mnG (l : List Int) : Int := l.foldl gstep 0
theorem mnG_snoc (l : List Int) (w : Int) : mnG (l ++ [w]) = gstep (mnG l) w := by simp [mnG, List.foldl_append]
theorem mnG_spec (l : List Int) : (mnG l = 0 ∧ ∀ w ∈ l, w ≤ 0) ∨ ∃ w ∈ l, 0 < w ∧ mnG l = w + 1 ∧ ∀ w' ∈ l, 0 < w' → w ≤ w' := by
  induction l using snoc_ind with
  | h0 => exact .inl ⟨rfl, fun w hw => (nomatch hw)⟩
  | h1 l a ih =>
    rw [mnG_snoc]
    unfold gstep
    rcases ih with ⟨h1, h2⟩ | ⟨w, hw, hp, he, hm⟩
    · rw [h1]
      by_cases ha : 0 < a
      · rw [if_pos ⟨ha, .inl rfl⟩]
        refine .inr ⟨a, by simp, ha, rfl, fun w' hw' hp => ?_⟩
        rcases List.mem_append.1 hw' with h | h
        · have := h2 w' h; omega
        · simp at h; omega
      · rw [if_neg (fun h => ha h.1)]
        refine .inl ⟨rfl, fun w hw => ?_⟩
        rcases List.mem_append.1 hw with h | h
        · exact h2 w h
        · simp at h; omega
    · rw [he]
      right
      by_cases hc : 0 < a ∧ (w + 1 = 0 ∨ a + 1 < w + 1)
      · rw [if_pos hc]
        refine ⟨a, by simp, hc.1, rfl, fun w' hw' hp' => ?_⟩
        rcases List.mem_append.1 hw' with h | h
        · have := hm w' h hp'; omega
        · simp at h; omega
      · rw [if_neg hc]
        refine ⟨w, by simp [hw], hp, rfl, fun w' hw' hp' => ?_⟩
        rcases List.mem_append.1 hw' with h | h
        · exact hm w' h hp'
        · simp at h; omega
theorem mnG_eq {l l' : List Int} (h : ∀ w, 0 < w → (w ∈ l ↔ w ∈ l')) : mnG l = mnG l' := by
  rcases mnG_spec l with ⟨h1, h2⟩ | ⟨w, hw, hp, he, hm⟩ <;> rcases mnG_spec l' with ⟨h1', h2'⟩ | ⟨w', hw', hp', he', hm'⟩
  · rw [h1, h1']
  · have := h2 w' ((h w' hp').2 hw'); omega
  · have := h2' w ((h w hp).1 hw); omega
  · have a := hm w' ((h w' hp').2 hw') hp'
    have b := hm' w ((h w hp).1 hw) hp
    omega
theorem mnG_bd {l : List Int} {b : Int} (h : ∀ w ∈ l, w ≤ b) (hb : 0 ≤ b) : 0 ≤ mnG l ∧ mnG l ≤ b + 1 := by
  rcases mnG_spec l with ⟨h1, _⟩ | ⟨w, hw, hp, he, _⟩
  · omega
  · have := h w hw; omega

/-! both sides' ways -/
def implW (n : Nat) (next : List (List Int)) : List Int := (List.range n).flatMap fun v : Nat => (gl next (v : Int)).map (wayL next (v : Int))
def specW (En next : List (List Int)) : List Int := En.map fun l => wayL next (gi l 0) (gi l 1)
theorem sa_two {l : List Int} {a b : Int} (h : SA l) (hm : ∀ x ∈ l, x = a ∨ x = b) : l.length ≤ 2 := by
  match l, h, hm with
  | [], _, _ => simp
  | [_], _, _ => simp
  | [_, _], _, _ => simp
  | x :: y :: z :: r, h, hm =>
    unfold SA at h
    simp only [List.pairwise_cons] at h
    have h1 := h.1 y (by simp)
    have h2 := h.1 z (by simp)
    have h3 := h.2.1 z (by simp)
    have m1 := hm x (by simp)
    have m2 := hm y (by simp)
    have m3 := hm z (by simp)
    omega
theorem ends_le2 {xss : List (List Int)} (hG : Grph xss) (e : Nat) (he : e < edgesN xss) : (gl (endsL xss) (e : Int)).length ≤ 2 := by
  have hM := hG.1
  obtain ⟨x, hx⟩ := List.exists_mem_of_length_pos (ends_pos hM e he)
  obtain ⟨k, hk, hke, hkx⟩ := (ends_iff hM e (by omega) x).1 hx
  refine sa_two (a := gi (facesL xss 0) k) (b := gi (facesL xss 0) (gi (gl xss 0) k)) (by rw [endsL, gl_ends]; exact cs_SA _) fun y hy => ?_
  obtain ⟨j, hj, hje, hjy⟩ := (ends_iff hM e (by omega) y).1 hy
  have hr := faces_same hM (i := 1) (f := k) (g := j) (by omega) (by omega) (by omega) (by omega) (by rw [hke, hje])
  rcases ends_two hM hG.2 (by omega) (by omega) hr with ⟨a, _⟩ | ⟨a, _⟩
  · left; rw [← hjy, a]
  · right; rw [← hjy, a]
theorem ends_lt {xss : List (List Int)} (e : Nat) (h2 : (gl (endsL xss) (e : Int)).length = 2) : gi (gl (endsL xss) (e : Int)) 0 < gi (gl (endsL xss) (e : Int)) 1 := by
  have hs : SA (gl (endsL xss) (e : Int)) := by rw [endsL, gl_ends]; exact cs_SA _
  match hl : gl (endsL xss) (e : Int), h2, hs with
  | [x, y], _, hs =>
    unfold SA at hs
    simp only [List.pairwise_cons] at hs
    exact hs.1 y (by simp)
theorem ends_rng {xss : List (List Int)} (hM : Mani xss) (e : Nat) (h2 : (gl (endsL xss) (e : Int)).length = 2) : (0 ≤ gi (gl (endsL xss) (e : Int)) 0 ∧ gi (gl (endsL xss) (e : Int)) 0 < (vertsN xss : Int)) ∧ (0 ≤ gi (gl (endsL xss) (e : Int)) 1 ∧ gi (gl (endsL xss) (e : Int)) 1 < (vertsN xss : Int)) :=
  ⟨endsL_mem hM e (by omega) _ (gi_in2 (by omega) (by omega)), endsL_mem hM e (by omega) _ (gi_in2 (by omega) (by omega))⟩
theorem nb_symG {xss : List (List Int)} (hM : Mani xss) : SymG (vertsN xss) (nbL xss) := fun _ _ hu _ h => nb_symm hM hu h
theorem ways_same {xss : List (List Int)} (hG : Grph xss) (hall : ∀ e, e < edgesN xss → (gl (endsL xss) (e : Int)).length = 2) {w : Int} (hw : 0 < w) : w ∈ implW (vertsN xss) (nbL xss) ↔ w ∈ specW (endsL xss) (nbL xss) := by
  have hM := hG.1
  have hg := nb_gr hM
  have hs := nb_symG hM
  have hel := endsL_len xss
  unfold implW specW
  rw [List.mem_flatMap, List.mem_map]
  constructor
  · rintro ⟨v, hv, hm⟩
    obtain ⟨x, hx, rfl⟩ := List.mem_map.1 hm
    obtain ⟨j, hj, h2, h3⟩ := (nb_iff hM v (by omega) x).1 hx
    have hr := ends_rng hM j h2
    have hlt := ends_lt j h2
    refine ⟨gl (endsL xss) (j : Int), gl_in (by omega) (by rw [hel]; omega), ?_⟩
    simp only [Prod.mk.injEq] at h3
    rcases h3 with ⟨a, b⟩ | ⟨a, b⟩
    · rw [a, b]
    · rw [a, b] at hw ⊢
      exact way_swap hg hs (by omega) hr.2.1 hr.2.2 hr.1.1 hr.1.2 (by omega)
  · rintro ⟨l, hl, rfl⟩
    obtain ⟨j, hj, rfl⟩ := List.mem_iff_getElem.1 hl
    rw [hel] at hj
    have e1 : (endsL xss)[j] = gl (endsL xss) (j : Int) := by simp [gl, List.getD_eq_getElem?_getD, hel, hj]
    rw [e1] at hw ⊢
    have h2 := hall j hj
    have hr := ends_rng hM j h2
    refine ⟨(gi (gl (endsL xss) (j : Int)) 0).toNat, List.mem_range.2 (by omega), ?_⟩
    rw [Int.toNat_of_nonneg hr.1.1]
    exact List.mem_map_of_mem ((nb_iff hM _ hr.1.1 _).2 ⟨j, hj, h2, .inl rfl⟩)

/-! the answer -/
def Loop1 (xss : List (List Int)) : Prop := ∃ e, e < edgesN xss ∧ (gl (endsL xss) (e : Int)).length = 1
open Classical in
noncomputable def girN (xss : List (List Int)) : Int := if Loop1 xss then 1 else if ¬ (endsL xss).Nodup then 2 else mnG (specW (endsL xss) (nbL xss))
open Classical in
noncomputable def girV (xss : List (List Int)) : Int := if Grph xss then girN xss else 0
open Classical in
noncomputable def girK (xss : List (List Int)) : Int := if ¬ Grph xss then 1 else if girN xss = 0 then 4 else 0
theorem all_two {xss : List (List Int)} (hG : Grph xss) (h : ¬ Loop1 xss) : ∀ e, e < edgesN xss → (gl (endsL xss) (e : Int)).length = 2 := fun e he => by
  have h1 := ends_pos hG.1 e he
  have h2 := ends_le2 hG e he
  have h3 : (gl (endsL xss) (e : Int)).length ≠ 1 := fun h' => h ⟨e, he, h'⟩
  omega
theorem girN_loop {xss : List (List Int)} (h : Loop1 xss) : girN xss = 1 := by unfold girN; rw [if_pos h]
theorem girN_double {xss : List (List Int)} (h : ¬ Loop1 xss) (h2 : ¬ (endsL xss).Nodup) : girN xss = 2 := by unfold girN; rw [if_neg h, if_pos h2]
theorem girN_spec {xss : List (List Int)} (h : ¬ Loop1 xss) (h2 : (endsL xss).Nodup) : girN xss = mnG (specW (endsL xss) (nbL xss)) := by unfold girN; rw [if_neg h, if_neg (fun h' => h' h2)]
theorem girN_impl {xss : List (List Int)} (hG : Grph xss) (h : ¬ Loop1 xss) (h2 : (endsL xss).Nodup) : girN xss = mnG (implW (vertsN xss) (nbL xss)) := by
  rw [girN_spec h h2]
  exact (mnG_eq fun w hw => ways_same hG (all_two hG h) hw).symm
end Go.Proofs.YtgobjpcankaicaaGreatDoor.Vc
/-
  Maps of one's own: made, looked up, written. Conditions: as each rule names them.
-/
namespace Go.Proofs.YtgobjpcankaicaaGreatDoor.Vc
open Go.RowKit Go.MapKept

/-- a kind of keys -/
structure KeyT {κ : Type} (d : TypeDesc) (kv : κ → Value) : Prop where
  isKey : ∀ a, IsKey d (kv a)
  inj : ∀ a b, kv a = kv b → a = b
theorem keyS : KeyT .string Value.string := ⟨fun _ => trivial, fun a b h => by injection h⟩
theorem keyI : KeyT (.int .i64) (Value.int .i64) := ⟨fun _ => rfl, fun a b h => by injection h⟩

section
variable {κ ν : Type} [DecidableEq κ]
def getA : List (κ × ν) → κ → Option ν
  | [], _ => none
  | (y, v) :: r, x => if y = x then some v else getA r x
def putA : List (κ × ν) → κ → ν → List (κ × ν)
  | [], x, v => [(x, v)]
  | (y, u) :: r, x, v => if y = x then (x, v) :: r else (y, u) :: putA r x v
def fndA : List (κ × ν) → κ → Option (Nat × ν)
  | [], _ => none
  | (y, v) :: r, x => if y = x then some (0, v) else (fndA r x).map fun p => (p.1 + 1, p.2)
theorem fndA_get : ∀ (L : List (κ × ν)) (x : κ), getA L x = (fndA L x).map (·.2)
  | [], _ => rfl
  | (y, v) :: r, x => by
    simp only [getA, fndA]
    split
    · rfl
    · rw [fndA_get r x, Option.map_map]; rfl
theorem fndA_some : ∀ {L : List (κ × ν)} {x : κ} {j : Nat} {v : ν}, fndA L x = some (j, v) → L[j]? = some (x, v) ∧ ∀ u, putA L x u = L.set j (x, u)
  | (y, w) :: r, x, j, v, h => by
    simp only [fndA] at h
    split at h
    · rename_i e
      simp only [Option.some.injEq, Prod.mk.injEq] at h
      obtain ⟨rfl, rfl⟩ := h
      subst e
      exact ⟨rfl, fun u => by simp [putA]⟩
    · rename_i e
      cases hf : fndA r x with
      | none => simp [hf] at h
      | some p =>
        simp only [hf, Option.map_some, Option.some.injEq, Prod.mk.injEq] at h
        obtain ⟨rfl, rfl⟩ := h
        obtain ⟨h1, h2⟩ := fndA_some (L := r) (x := x) (j := p.1) (v := p.2) hf
        exact ⟨by simpa using h1, fun u => by simp only [putA, if_neg e, h2 u, List.set_cons_succ]⟩
theorem fndA_none : ∀ {L : List (κ × ν)} {x : κ}, fndA L x = none → ∀ u, putA L x u = L ++ [(x, u)]
  | [], x, _, u => rfl
  | (y, w) :: r, x, h, u => by
    simp only [fndA] at h
    split at h
    · cases h
    · rename_i e
      rw [Option.map_eq_none_iff] at h
      simp only [putA, if_neg e, fndA_none h u, List.cons_append]
theorem getA_put (L : List (κ × ν)) (x y : κ) (u : ν) : getA (putA L x u) y = if x = y then some u else getA L y := by
  induction L with
  | nil => simp only [putA, getA]
  | cons p r ih =>
    obtain ⟨z, w⟩ := p
    simp only [putA]
    by_cases e : z = x
    · subst e
      rw [if_pos rfl]
      simp only [getA]
      split <;> simp_all
    · rw [if_neg e]
      simp only [getA, ih]
      by_cases e2 : z = y
      · subst e2
        rw [if_pos rfl, if_neg (fun h => e h.symm), if_pos rfl]
      · rw [if_neg e2, if_neg e2]
theorem putA_len (L : List (κ × ν)) (x : κ) (u : ν) : (putA L x u).length ≤ L.length + 1 := by
  induction L with
  | nil => simp [putA]
  | cons p r ih =>
    obtain ⟨z, w⟩ := p
    simp only [putA]
    split
    · simp
    · simp only [List.length_cons]; omega

/-- the pairs as the map's entries -/
def prV (kv : κ → Value) (vv : ν → Value) (L : List (κ × ν)) : List (Value × Value) := L.map fun p => (kv p.1, vv p.2)
theorem findNow_A {d : TypeDesc} {kv : κ → Value} {vv : ν → Value} (K : KeyT d kv) (x : κ) : ∀ (l : List MapEntry) (L : List (κ × ν)) (i : Nat), l.map (fun e => (e.key, e.val)) = prV kv vv L → Instr.findNow d (kv x) l i = some ((fndA L x).map fun p => (i + p.1, vv p.2))
  | [], [], _, _ => rfl
  | [], _ :: _, _, h => by simp [prV] at h
  | _ :: _, [], _, h => by simp [prV] at h
  | e :: l, (y, v) :: L, i, h => by
    simp only [prV, List.map_cons, List.cons.injEq, Prod.mk.injEq] at h
    obtain ⟨⟨h1, h2⟩, h3⟩ := h
    obtain ⟨r, hr, hiff⟩ := sameNow_of_keys (K.isKey x) (K.isKey y)
    simp only [Instr.findNow, fndA]
    rw [h1, hr]
    cases r with
    | true =>
      have e1 := K.inj _ _ (hiff.1 rfl)
      subst e1
      simp [h2]
    | false =>
      have hne : ¬ y = x := fun q => by
        have := hiff.2 (by rw [q])
        cases this
      rw [if_neg hne]
      simp only
      rw [findNow_A K x l L (i + 1) h3, Option.map_map]
      congr 2
      funext p
      simp only [Function.comp]
      rw [Nat.add_assoc, Nat.add_comm 1]
end

/-- a map of one's own, as a row -/
def CkM (t : TypeId) (g : Nat) (kvs : List (Value × Value)) : Ck := ⟨some ⟨g, 0, none⟩, 0, 0, t, .tuple #[] :: flatM kvs⟩
/-- a map that can be read -/
def RdM (w : World) (g : Nat) (kvs : List (Value × Value)) : Prop := ∃ es cl, w.heap[g]? = some (.map es cl) ∧ es.toList.map (fun e => (e.key, e.val)) = kvs
theorem RdM.later {w w' : World} {g : Nat} {kvs : List (Value × Value)} (h : RdM w g kvs) (hb : Below w.heap.size w w') : RdM w' g kvs := by
  obtain ⟨es, cl, h1, h2⟩ := h
  exact ⟨es, cl, by rw [hb.block g (Array.getElem?_eq_some_iff.1 h1).1]; exact h1, h2⟩
section
variable {w0 w w' : World} {ks : List Ck} {t : TypeId} {g : Nat} {kvs : List (Value × Value)}
theorem St.ownM (h : St w0 w ks) (i : Nat) (hk : ks[i]? = some (CkM t g kvs)) : w0.heap.size ≤ g ∧ RdM w g kvs := by
  rcases (h.get hk).cases with ⟨_, _, _, g', es, cl, hA, hg, hh, hv⟩ | ⟨hm, _⟩
  · have hA : some (⟨g, 0, Option.none⟩ : Addr) = some ⟨g', 0, Option.none⟩ := hA
    simp only [Option.some.injEq, Addr.mk.injEq, and_true] at hA
    subst hA
    have hv : (.tuple #[] :: flatM kvs : List Value) = .tuple #[] :: flatM (es.toList.map fun e => (e.key, e.val)) := hv
    simp only [List.cons.injEq, true_and] at hv
    exact ⟨hg, es, cl, hh, (flatM_inj hv).symm⟩
  · cases hm
theorem St.rdM (h : St w0 w ks) (i : Nat) (hk : ks[i]? = some (CkM t g kvs)) : RdM w g kvs := (h.ownM i hk).2
theorem St.oldM (h : St w0 w ks) (hR : RdM w0 g kvs) : RdM w g kvs := hR.later h.below
/-- a new map -/
theorem St.allocM (h : St w0 w ks) (t : TypeId) : St w0 (w.alloc (.map #[] 0)) (CkM t w.heap.size [] :: ks) := by
  have hb : Below w.heap.size w (w.alloc (.map #[] 0)) := (Below.refl _ _).alloc (Nat.le_refl _) _
  have h1 := h.later hb
  refine ⟨h1.below, fun k hk => ?_, ?_⟩
  · rcases List.mem_cons.1 hk with rfl | hk
    · exact .ofM rfl ⟨rfl, rfl, _, #[], 0, rfl, h.below.size, heap_alloc_new w _, rfl⟩
    · exact h1.own k hk
  · simp only [List.filterMap_cons, CkM, Ck.blk, Option.map_some, List.nodup_cons]
    refine ⟨fun hin => ?_, h.apart⟩
    obtain ⟨k', hk', hkb⟩ := List.mem_filterMap.1 hin
    have := ((h.own k' hk').lt hkb).2
    omega
/-- what a store into a map of one's own does -/
theorem St.turnM {i : Nat} {kvs' : List (Value × Value)} {es' : Array MapEntry} {cl' : Nat} (h : St w0 w ks) (hk : ks[i]? = some (CkM t g kvs)) (hv : es'.toList.map (fun e => (e.key, e.val)) = kvs') : St w0 { w with heap := w.heap.setIfInBounds g (.map es' cl') } (ks.set i (CkM t g kvs')) := by
  obtain ⟨hg, es, cl, hh, _⟩ := h.ownM i hk
  refine h.turn (k := CkM t g kvs) (k' := CkM t g kvs') (g := g) hk rfl rfl ⟨⟨rfl, rfl, rfl, by simp, fun x _ hx => ?_⟩, Nat.le_refl _⟩ ?_
  · exact (heap_set hh).2 x fun e => hx (by rw [e])
  · refine .ofM rfl ⟨rfl, rfl, g, es', cl', rfl, hg, (heap_set hh).1, ?_⟩
    rw [hv]; rfl
end

section
variable {P : Program} {N : Nat} {ops : Array Oper} {K : Env → World → Prop} {rest : List Oper} {e : Env} {w0 w w' : World} {ks : List Ck} {d : Nat} {ty : TypeId} {pos : String} {af : Array Edge}
variable {κ ν : Type} [DecidableEq κ] {kd : TypeDesc} {kv : κ → Value} {vv : ν → Value}
theorem Ops.mv_str {op : Op} {x : Operand} {s : ByteArray} (hop : mvOf op = some x) (hx : ev e x = .string s) (hb : Nat.blt d N = true) (hK : Ops P N ops K rest (upd e d (.string s)) w) : Ops P N ops K (⟨some d, op, ty, pos, af, none⟩ :: rest) e w := .mv hop hx hb hK
theorem Ops.mv_map {op : Op} {x : Operand} {g : Option Nat} (hop : mvOf op = some x) (hx : ev e x = .map g) (hb : Nat.blt d N = true) (hK : Ops P N ops K rest (upd e d (.map g)) w) : Ops P N ops K (⟨some d, op, ty, pos, af, none⟩ :: rest) e w := .mv hop hx hb hK
theorem Ops.mkmap {t : TypeId} (hS : St w0 w ks) (hb : Nat.blt d N = true) (hK : ∀ g w', St w0 w' (CkM t g [] :: ks) → Ops P N ops K rest (upd e d (.map (some g))) w') :
    Ops P N ops K (⟨some d, .makeMap t none, ty, pos, af, none⟩ :: rest) e w :=
  .val (w' := w.alloc (.map #[] 0)) (by simp [execOp, run_makeMap]) hb (hK _ _ (hS.allocM t))
theorem run_look {t kt et : TypeId} {z : Value} {s b : Nat} [hU : Und P t (.map kt et)] [hk : Und P kt kd] [Inf P et z s b] (KT : KeyT kd kv) {g : Nat} {L : List (κ × ν)} {x : κ} (hR : RdM w g (prV kv vv L)) (ok : Bool) :
    (Instr.lookup t (.map (some g)) (kv x) ok).run P w = .ok (if ok then .tuple #[((getA L x).map vv).getD z, .bool (getA L x).isSome] else ((getA L x).map vv).getD z) w := by
  obtain ⟨es, cl, hh, hm⟩ := hR
  obtain ⟨inf, hi, hz0, _, _⟩ := Inf.get P et
  have hf := findNow_A (vv := vv) KT x es.toList L 0 hm
  rw [fndA_get]
  unfold Instr.lookup
  simp only [Sem.run_bind, run_underlying hU.out, Result.andThen, MapKept.run_getObj_map hh, MapKept.run_checkKey hk.out (KT.isKey x)]
  cases hfn : fndA L x with
  | none =>
    rw [hfn] at hf
    have hfk := MapKept.run_findKey (P := P) (w := w) hk.out hf
    cases ok <;> simp [hfk, zeroValue, typeInfo, hi, hz0]
  | some p =>
    rw [hfn] at hf
    have hfk := MapKept.run_findKey (P := P) (w := w) hk.out hf
    cases ok <;> simp [hfk]
theorem Ops.look {t kt et : TypeId} {z v : Value} {s b : Nat} [Und P t (.map kt et)] [Und P kt kd] [Inf P et z s b] (KT : KeyT kd kv) {g : Nat} {L : List (κ × ν)} {m ix : Operand} {x : κ} (hR : RdM w g (prV kv vv L)) (hx : ev e m = .map (some g)) (hy : ev e ix = kv x) (hv : ((getA L x).map vv).getD z = v) (hb : Nat.blt d N = true)
    (hK : Ops P N ops K rest (upd e d v) w) : Ops P N ops K (⟨some d, .lookup t m ix false, ty, pos, af, none⟩ :: rest) e w := by
  subst hv
  refine .val (w' := w) ?_ hb hK
  have := run_look (P := P) (t := t) (x := x) KT hR false
  simp [execOp, hx, hy, this]
theorem Ops.lookB {t kt et : TypeId} {b : Nat} [Und P t (.map kt et)] [Und P kt kd] [Inf P et (.bool false) 1 b] (KT : KeyT kd kv) {g : Nat} {L : List (κ × Bool)} {m ix : Operand} (x : κ) (hR : RdM w g (prV kv Value.bool L)) (hx : ev e m = .map (some g)) (hy : ev e ix = kv x) (hb : Nat.blt d N = true)
    (hK : Ops P N ops K rest (upd e d (.bool ((getA L x).getD false))) w) : Ops P N ops K (⟨some d, .lookup t m ix false, ty, pos, af, none⟩ :: rest) e w :=
  .look KT hR hx hy (by cases getA L x <;> rfl) hb hK
theorem Ops.lookI {t kt et : TypeId} {b : Nat} [Und P t (.map kt et)] [Und P kt kd] [Inf P et (.int .i64 0) 1 b] (KT : KeyT kd kv) {g : Nat} {L : List (κ × Int)} {m ix : Operand} (x : κ) (hR : RdM w g (prV kv (Value.int .i64) L)) (hx : ev e m = .map (some g)) (hy : ev e ix = kv x) (hb : Nat.blt d N = true)
    (hK : Ops P N ops K rest (upd e d (.int .i64 ((getA L x).getD 0))) w) : Ops P N ops K (⟨some d, .lookup t m ix false, ty, pos, af, none⟩ :: rest) e w :=
  .look KT hR hx hy (by cases getA L x <;> rfl) hb hK
theorem Ops.lookIok {t kt et : TypeId} {b : Nat} [Und P t (.map kt et)] [Und P kt kd] [Inf P et (.int .i64 0) 1 b] (KT : KeyT kd kv) {g : Nat} {L : List (κ × Int)} {m ix : Operand} (x : κ) (hR : RdM w g (prV kv (Value.int .i64) L)) (hx : ev e m = .map (some g)) (hy : ev e ix = kv x) (hb : Nat.blt d N = true)
    (hK : Ops P N ops K rest (upd e d (.tuple #[.int .i64 ((getA L x).getD 0), .bool (getA L x).isSome])) w) : Ops P N ops K (⟨some d, .lookup t m ix true, ty, pos, af, none⟩ :: rest) e w := by
  refine .val (w' := w) ?_ hb hK
  have := run_look (P := P) (t := t) (x := x) KT hR true
  have e1 : ((getA L x).map (Value.int .i64)).getD (.int .i64 0) = .int .i64 ((getA L x).getD 0) := by cases getA L x <;> rfl
  rw [e1] at this
  simp [execOp, hx, hy, this]
theorem Ops.lookRok {t kt et : TypeId} {b : Nat} [Und P t (.map kt et)] [Und P kt kd] [Inf P et (.slice none 0 0) 1 b] (KT : KeyT kd kv) {g : Nat} {L : List (κ × SlV)} {m ix : Operand} (x : κ) (hR : RdM w g (prV kv SlV.v L)) (hx : ev e m = .map (some g)) (hy : ev e ix = kv x) (hb : Nat.blt d N = true)
    (hK : Ops P N ops K rest (upd e d (.tuple #[.slice ((getA L x).getD slNil).a ((getA L x).getD slNil).n ((getA L x).getD slNil).c, .bool (getA L x).isSome])) w) : Ops P N ops K (⟨some d, .lookup t m ix true, ty, pos, af, none⟩ :: rest) e w := by
  refine .val (w' := w) ?_ hb hK
  have := run_look (P := P) (t := t) (x := x) KT hR true
  have e1 : ((getA L x).map SlV.v).getD (.slice none 0 0) = .slice ((getA L x).getD slNil).a ((getA L x).getD slNil).n ((getA L x).getD slNil).c := by cases getA L x <;> rfl
  rw [e1] at this
  simp [execOp, hx, hy, this]
theorem Ops.lookR {t kt et : TypeId} {b : Nat} [Und P t (.map kt et)] [Und P kt kd] [Inf P et (.slice none 0 0) 1 b] (KT : KeyT kd kv) {g : Nat} {L : List (κ × SlV)} {m ix : Operand} (x : κ) (hR : RdM w g (prV kv SlV.v L)) (hx : ev e m = .map (some g)) (hy : ev e ix = kv x) (hb : Nat.blt d N = true)
    (hK : Ops P N ops K rest (upd e d (.slice ((getA L x).getD slNil).a ((getA L x).getD slNil).n ((getA L x).getD slNil).c)) w) : Ops P N ops K (⟨some d, .lookup t m ix false, ty, pos, af, none⟩ :: rest) e w :=
  .look KT hR hx hy (by cases getA L x <;> rfl) hb hK

theorem run_upd {t kt et T : TypeId} [hU : Und P t (.map kt et)] [hk : Und P kt kd] (KT : KeyT kd kv) {g : Nat} {L : List (κ × ν)} (i : Nat) (x : κ) (u : ν) (hS : St w0 w ks) (hi : ks[i]? = some (CkM T g (prV kv vv L))) :
    ∃ w', (Instr.mapUpdate t (.map (some g)) (kv x) (vv u)).run P w = .ok () w' ∧ St w0 w' (ks.set i (CkM T g (prV kv vv (putA L x u)))) := by
  obtain ⟨_, es, cl, hh, hm⟩ := hS.ownM i hi
  have hf := findNow_A (vv := vv) KT x es.toList L 0 hm
  have hfk := MapKept.run_findKey (P := P) (w := w) hk.out hf
  cases hfn : fndA L x with
  | none =>
    refine ⟨{ w with heap := w.heap.setIfInBounds g (.map (es.push ⟨kv x, vv u, cl⟩) (cl + 1)) }, ?_, hS.turnM hi ?_⟩
    · simp [Instr.mapUpdate, run_underlying hU.out, MapKept.run_getObj_map hh, MapKept.run_checkKey hk.out (KT.isKey x), hfk, hfn, MapKept.run_setObj_map _ hh, Result.andThen]
    · rw [fndA_none hfn]
      simp only [Array.toList_push, List.map_append, hm, prV]
      rfl
  | some p =>
    obtain ⟨j, v⟩ := p
    obtain ⟨h1, h2⟩ := fndA_some hfn
    have hjl : j < L.length := (List.getElem?_eq_some_iff.1 h1).1
    have hel : es.toList.length = L.length := by have := congrArg List.length hm; simpa [prV] using this
    have hes : es.size = L.length := by simpa using hel
    have hje : j < es.size := by omega
    have hkey : es[j].key = kv x := by
      have := congrArg (fun l => l[j]?) hm
      simp [prV, h1, hje] at this
      exact this.1
    have hst := MapKept.run_keyThatStays (P := P) (w := w) (KT.isKey x)
    refine ⟨{ w with heap := w.heap.setIfInBounds g (.map (es.modify j fun e => { e with key := kv x, val := vv u }) cl) }, ?_, hS.turnM hi ?_⟩
    · simp [Instr.mapUpdate, run_underlying hU.out, MapKept.run_getObj_map hh, MapKept.run_checkKey hk.out (KT.isKey x), hfk, hfn, MapKept.run_setObj_map _ hh, Result.andThen, hje, hkey, hst]
    · rw [h2 u]
      apply List.ext_getElem?
      intro q
      have hq := congrArg (fun l => l[q]?) hm
      simp only [prV, List.getElem?_map, Array.getElem?_toList] at hq
      simp only [prV, List.getElem?_map, List.getElem?_set, Array.getElem?_toList, Array.getElem?_modify]
      by_cases e1 : j = q
      · subst e1
        simp [hje, hjl]
      · rw [if_neg e1, if_neg e1]
        exact hq
def updOf : Op → Option (TypeId × Operand × Operand × Operand)
  | .mapUpdate t m k x => some (t, m, k, x)
  | .insert t m k x => some (t, m, k, x)
  | _ => none
theorem Ops.upm {op : Op} {t kt et T : TypeId} {m k x : Operand} [hU : Und P t (.map kt et)] [Und P kt kd] (hop : updOf op = some (t, m, k, x)) (KT : KeyT kd kv) {g : Nat} {L : List (κ × ν)} (i : Nat) {a : κ} {u : ν} (hS : St w0 w ks) (hi : ks[i]? = some (CkM T g (prV kv vv L))) (hm : ev e m = .map (some g)) (hk : ev e k = kv a) (hx : ev e x = vv u)
    (hK : ∀ w', St w0 w' (ks.set i (CkM T g (prV kv vv (putA L a u)))) → Ops P N ops K rest e w') : Ops P N ops K (⟨none, op, ty, pos, af, none⟩ :: rest) e w := by
  obtain ⟨w', hrun, hS'⟩ := run_upd (P := P) (t := t) KT i a u hS hi
  refine .unit (w' := w') ?_ (hK _ hS')
  cases op <;> simp [updOf] at hop <;> obtain ⟨rfl, rfl, rfl, rfl⟩ := hop <;> simp [execOp, hm, hk, hx, hrun]
end
end Go.Proofs.YtgobjpcankaicaaGreatDoor.Vc
