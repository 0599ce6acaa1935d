/-
  The texts Dst, Wl2, Wl4, Iso, Cmp, Ls2, Del, K6, Aut, Q1, Q2, Q3, Q4, Cen, N1, N2, Lm1, Dr1, Wl5, Open, Opm, Opy in one. Conditions: as each part states them.
-/
import Derived.Test.YtjpkmpihmilgoaaGreatZe
import Derived.Test.YtjpkmpihmilgoaaGreatZh
import Derived.Test.YtjpkmpihmilgoaaGreatZf
import Derived.Test.YtjpkmpihmilgoaaGreatZc
import Derived.Test.YtjpkmpihmilgoaaGreatZg
import Derived.Test.YtjpkmpihmilgoaaGreatZa
import Derived.Test.YtjpkmpihmilgoaaGreatZb
import Derived.Test.YtjpkmpihmilgoaaGreatInst
import Derived.Deep.Matrix
import Derived.Carry
import Derived.Below
import Derived.ChangeSame
import Derived.ProofKit
import Derived.OpenShut
import Derived.Handed
import Derived.Lib.SmallJoins
/-
 Plain mathematics of the graph of a maniplex: its vertices hang together, neighbours are neighbours of each other, and what a search by distances finds. Conditions: as each states them. No program in sight.
-/
namespace Go.Proofs.YtjpkmpihmilgoaaGreat.Vc

/-! labels and orbits -/
theorem lab_reach {N : Nat} {xss : List (List Int)} (hs : Sys N xss) (hi' : Inj N xss) {x y : Int} (h0 : 0 ≤ x) (h1 : x < N) (hr : Reach xss x y) : ∀ i, i ≤ N → gi (lab N xss i).1 x = gi (lab N xss i).1 y
 | 0, _ => by
  have hy := hr.range hs h0 h1
  simp only [lab, gi_rep h0 h1, gi_rep hy.1 hy.2]
 | i + 1, hi => by
  have hy := hr.range hs h0 h1
  have ih := lab_reach hs hi' h0 h1 hr i (by omega)
  have ho := orbit_spec hs (pt := (i : Int)) (by omega) (by omega)
  simp only [lab]
  split
  ·exact ih
  ·simp only
   rw [gi_paint _ _ _ (lab_length N xss i) ho.1.range x h0, gi_paint _ _ _ (lab_length N xss i) ho.1.range y hy.1]
   have hm : x ∈ orbit N xss i ↔ y ∈ orbit N xss i := by
    rw [ho.2.2, ho.2.2]
    exact ⟨fun h => h.trans hr, fun h => h.trans (hr.symm hs hi' h0 h1)⟩
   by_cases h : x ∈ orbit N xss i
   ·rw [if_pos h, if_pos (hm.1 h)]
   ·rw [if_neg h, if_neg (fun h' => h (hm.2 h')), ih]
theorem lab_conv {N : Nat} {xss : List (List Int)} (hs : Sys N xss) (hi' : Inj N xss) {x y : Int} (h0 : 0 ≤ x) (h1 : x < N) (h2 : 0 ≤ y) (h3 : y < N) : ∀ i, i ≤ N → gi (lab N xss i).1 x = gi (lab N xss i).1 y → 0 ≤ gi (lab N xss i).1 x → Reach xss x y
 | 0, _, _, h => by simp only [lab, gi_rep h0 h1] at h; omega
 | i + 1, hi, he, hp => by
  have ih := lab_conv hs hi' h0 h1 h2 h3 i (by omega)
  have ho := orbit_spec hs (pt := (i : Int)) (by omega) (by omega)
  have hc := lab_count N xss i
  have hx := (lab_in hs hi' i (by omega)).1 x h0 h1
  have hy := (lab_in hs hi' i (by omega)).1 y h2 h3
  simp only [lab] at he hp
  split at he
  ·rename_i hl
   rw [if_pos hl] at hp
   exact ih he hp
  ·rename_i hl
   rw [if_neg hl] at hp
   simp only at he hp
   rw [gi_paint _ _ _ (lab_length N xss i) ho.1.range x h0] at he hp
   rw [gi_paint _ _ _ (lab_length N xss i) ho.1.range y h2] at he
   by_cases hxo : x ∈ orbit N xss i
   ·rw [if_pos hxo] at he
    by_cases hyo : y ∈ orbit N xss i
    ·exact (((ho.2.2 x).1 hxo).symm hs hi' (by omega) (by omega)).trans ((ho.2.2 y).1 hyo)
    ·rw [if_neg hyo] at he; omega
   ·rw [if_neg hxo] at he hp
    by_cases hyo : y ∈ orbit N xss i
    ·rw [if_pos hyo] at he; omega
    ·rw [if_neg hyo] at he; exact ih he hp

theorem erase_mem {xss : List (List Int)} {i k : Nat} (hk : k < xss.length) (hne : k ≠ i) : gl xss k ∈ xss.eraseIdx i := by
 rw [List.mem_eraseIdx_iff_getElem]
 exact ⟨k, hk, hne, by rw [gl_mem hk]⟩
theorem erase_of {xss : List (List Int)} {i : Nat} {p : List Int} (h : p ∈ xss.eraseIdx i) : ∃ k : Nat, k < xss.length ∧ k ≠ i ∧ p = gl xss k := by
 rw [List.mem_eraseIdx_iff_getElem] at h
 obtain ⟨k, hk, hne, rfl⟩ := h
 exact ⟨k, hk, hne, by rw [gl_mem hk]⟩
theorem faces_same {xss : List (List Int)} (hM : Mani xss) {i : Nat} {f g : Int} (h0 : 0 ≤ f) (h1 : f < (gl xss 0).length) (h2 : 0 ≤ g) (h3 : g < (gl xss 0).length) (h : gi (facesL xss i) f = gi (facesL xss i) g) : Reach (xss.eraseIdx i) f g := by
 obtain ⟨k, rfl⟩ : ∃ k : Nat, f = k := ⟨f.toNat, by omega⟩
 exact lab_conv (hM.2.2.1.sys.erase i) (hM.2.2.1.inj.erase i) h0 h1 h2 h3 _ (Nat.le_refl _) h (faces_in hM i k (by omega)).1
theorem Mani.two {xss : List (List Int)} (hM : Mani xss) {k : Nat} (hk : k < xss.length) {f : Int} (h0 : 0 ≤ f) (h1 : f < (gl xss 0).length) : gi (gl xss k) (gi (gl xss k) f) = f := by
 obtain ⟨q, rfl⟩ : ∃ q : Nat, f = q := ⟨f.toNat, by omega⟩
 have hr := hM.2.2.1.at_ hk
 exact (hr.2.2 q (by omega)).2
theorem Mani.in_ {xss : List (List Int)} (hM : Mani xss) {k : Nat} (hk : k < xss.length) {f : Int} (h0 : 0 ≤ f) (h1 : f < (gl xss 0).length) : 0 ≤ gi (gl xss k) f ∧ gi (gl xss k) f < (gl xss 0).length :=
  (hM.2.2.1.sys _ (by rw [gl_mem hk]; exact List.getElem_mem _)).2 f h0 h1
/-! the ends of an edge -/
/-! what the search by distances finds -/
structure BQ (n : Nat) (next : List (List Int)) (v : Int) (i : Nat) (st : List Int × List Int) : Prop where
 bf : BF n st
 at0 : gi st.1 v = 0
 vin : v ∈ st.2
 all : ∀ x : Int, 0 ≤ x → x < n → 0 ≤ gi st.1 x → x ∈ st.2
 mono : ∀ a b : Nat, a ≤ b → b < st.2.length → gi st.1 (gi st.2 a) ≤ gi st.1 (gi st.2 b)
 gap : i < st.2.length → ∀ b : Nat, b < st.2.length → gi st.1 (gi st.2 b) ≤ gi st.1 (gi st.2 i) + 1
 don : ∀ a : Nat, a < i → a < st.2.length → ∀ x ∈ gl next (gi st.2 a), 0 ≤ gi st.1 x ∧ gi st.1 x ≤ gi st.1 (gi st.2 a) + 1
 par : ∀ x ∈ st.2, x ≠ v → ∃ y ∈ st.2, x ∈ gl next y ∧ gi st.1 x = gi st.1 y + 1

theorem gi_snocL {l : List Int} {x : Int} {k : Nat} (h : k < l.length) : gi (l ++ [x]) (k : Int) = gi l (k : Int) := by simp [gi, List.getD_eq_getElem?_getD, List.getElem?_append_left h]
theorem gi_snocR {l : List Int} {x : Int} : gi (l ++ [x]) (l.length : Int) = x := by simp [gi, List.getD_eq_getElem?_getD]
theorem stepB_new {u x : Int} {st : List Int × List Int} (h : gi st.1 x < 0) (hx : 0 ≤ x) : stepB (-1) u st x = (st.1.set x.toNat (gi st.1 u + 1), st.2 ++ [x]) := by
 unfold stepB; rw [if_pos ⟨h, by omega⟩]
theorem stepB_old {u x : Int} {st : List Int × List Int} (h : ¬ gi st.1 x < 0) : stepB (-1) u st x = st := by
 unfold stepB; rw [if_neg (fun h' => h h'.1)]
/-- one neighbour met -/
theorem BQ.step {n : Nat} {next : List (List Int)} {v : Int} {i : Nat} {st : List Int × List Int} (hg : Gr n next) (h : BQ n next v i st) (hi : i < st.2.length) {x : Int} (hx : x ∈ gl next (gi st.2 i)) (h0 : 0 ≤ x) (h1 : x < n) :
    BQ n next v i (stepB (-1) (gi st.2 i) st x) ∧ i < (stepB (-1) (gi st.2 i) st x).2.length ∧ gi (stepB (-1) (gi st.2 i) st x).2 i = gi st.2 i ∧ gi (stepB (-1) (gi st.2 i) st x).1 (gi st.2 i) = gi st.1 (gi st.2 i) ∧
    (0 ≤ gi (stepB (-1) (gi st.2 i) st x).1 x ∧ gi (stepB (-1) (gi st.2 i) st x).1 x ≤ gi st.1 (gi st.2 i) + 1) ∧ ∀ y, 0 ≤ y → 0 ≤ gi st.1 y → gi (stepB (-1) (gi st.2 i) st x).1 y = gi st.1 y := by
  have hum : gi st.2 (i : Int) ∈ st.2 := gi_in hi
  have hur := h.bf.rng _ hum
  have hup := h.bf.pos _ hum
  by_cases hn : gi st.1 x < 0
  · have hbf := (h.bf.step (wo := -1) hum h0 h1).1
    rw [stepB_new hn h0] at hbf ⊢
    generalize hu : gi st.2 (i : Int) = u at *
    have hxl : x.toNat < st.1.length := by rw [h.bf.len]; omega
    have old : ∀ y, 0 ≤ y → 0 ≤ gi st.1 y → gi (st.1.set x.toNat (gi st.1 u + 1)) y = gi st.1 y := fun y hy hp => by
      rw [gi_setI hxl hy]
      split
      · rename_i e; rw [show y = x by omega] at hp; omega
      · rfl
    have new : gi (st.1.set x.toNat (gi st.1 u + 1)) x = gi st.1 u + 1 := by rw [gi_setI hxl h0, if_pos (by omega)]
    have oldq : ∀ b : Nat, b < st.2.length → gi (st.1.set x.toNat (gi st.1 u + 1)) (gi (st.2 ++ [x]) b) = gi st.1 (gi st.2 b) := fun b hb => by
      rw [gi_snocL hb]
      have hm : gi st.2 (b : Int) ∈ st.2 := gi_in hb
      exact old _ (h.bf.rng _ hm).1 (h.bf.pos _ hm)
    have newq : gi (st.1.set x.toNat (gi st.1 u + 1)) (gi (st.2 ++ [x]) (st.2.length : Int)) = gi st.1 u + 1 := by rw [gi_snocR, new]
    have hl : (st.2 ++ [x]).length = st.2.length + 1 := by simp
    have hvr := h.bf.rng _ h.vin
    have hgap := h.gap hi
    rw [hu] at hgap
    refine ⟨⟨hbf, ?_, ?_, ?_, ?_, ?_, ?_, ?_⟩, by show i < (st.2 ++ [x]).length; omega, by rw [gi_snocL hi, hu], old u hur.1 hup, ⟨by rw [new]; omega, by rw [new]; exact Int.le_refl _⟩, old⟩
    · show gi (st.1.set _ _) v = 0
      rw [old v hvr.1 (by rw [h.at0]; exact Int.le_refl _), h.at0]
    · exact List.mem_append_left _ h.vin
    · intro y hy hyn hp
      by_cases hyx : y = x
      · subst hyx; exact List.mem_append_right _ (by simp)
      · refine List.mem_append_left _ (h.all y hy hyn ?_)
        have hp : 0 ≤ gi (st.1.set x.toNat (gi st.1 u + 1)) y := hp
        rw [gi_setI hxl hy, if_neg (by omega)] at hp
        exact hp
    · intro a b hab hb
      have hb : b < (st.2 ++ [x]).length := hb
      by_cases hbl : b < st.2.length
      · show gi (st.1.set _ _) (gi (st.2 ++ [x]) a) ≤ gi (st.1.set _ _) (gi (st.2 ++ [x]) b)
        rw [oldq a (by omega), oldq b hbl]
        exact h.mono a b hab hbl
      · obtain rfl : b = st.2.length := by omega
        show gi (st.1.set _ _) (gi (st.2 ++ [x]) a) ≤ gi (st.1.set _ _) (gi (st.2 ++ [x]) _)
        rw [newq]
        by_cases hal : a < st.2.length
        · rw [oldq a hal]; exact hgap a hal
        · obtain rfl : a = st.2.length := by omega
          rw [newq]; exact Int.le_refl _
    · intro _ b hb
      have hb : b < (st.2 ++ [x]).length := hb
      show gi (st.1.set _ _) (gi (st.2 ++ [x]) b) ≤ gi (st.1.set _ _) (gi (st.2 ++ [x]) i) + 1
      rw [oldq i hi, hu]
      by_cases hbl : b < st.2.length
      · rw [oldq b hbl]; exact hgap b hbl
      · obtain rfl : b = st.2.length := by omega
        rw [newq]; exact Int.le_refl _
    · intro a ha hal y hy
      have hy : y ∈ gl next (gi (st.2 ++ [x]) a) := hy
      rw [gi_snocL (by omega)] at hy
      have hd := h.don a ha (by omega) y hy
      have hy0 : 0 ≤ y := ((hg.row _ (h.bf.rng _ (gi_in (show a < st.2.length by omega))).1).1 y hy).1
      show 0 ≤ gi (st.1.set _ _) y ∧ gi (st.1.set _ _) y ≤ gi (st.1.set _ _) (gi (st.2 ++ [x]) a) + 1
      rw [old y hy0 hd.1, oldq a (by omega)]
      exact hd
    · intro y hy hne
      have hy : y ∈ st.2 ++ [x] := hy
      rcases List.mem_append.1 hy with hy | hy
      · obtain ⟨z, hz, hzy, hzd⟩ := h.par y hy hne
        refine ⟨z, List.mem_append_left _ hz, hzy, ?_⟩
        show gi (st.1.set _ _) y = gi (st.1.set _ _) z + 1
        rw [old y (h.bf.rng y hy).1 (h.bf.pos y hy), old z (h.bf.rng z hz).1 (h.bf.pos z hz)]
        exact hzd
      · simp at hy; subst hy
        refine ⟨u, List.mem_append_left _ hum, hx, ?_⟩
        show gi (st.1.set _ _) y = gi (st.1.set _ _) u + 1
        rw [new, old u hur.1 hup]
  · rw [stepB_old hn]
    have hxq := h.all x h0 h1 (by omega)
    obtain ⟨b, hb, hbx⟩ := List.mem_iff_getElem.1 hxq
    have hg := h.gap hi b hb
    rw [gi_mem hb, hbx] at hg
    exact ⟨h, hi, rfl, rfl, ⟨by omega, hg⟩, fun _ _ _ => rfl⟩

theorem BQ.row {n : Nat} {next : List (List Int)} {v : Int} {i : Nat} (hg : Gr n next) (u : Int) (r : List Int) : ∀ {st : List Int × List Int}, BQ n next v i st → i < st.2.length → gi st.2 i = u → (∀ x ∈ r, x ∈ gl next u) →
  BQ n next v i (rowB (-1) u r st) ∧ i < (rowB (-1) u r st).2.length ∧ gi (rowB (-1) u r st).2 i = u ∧ gi (rowB (-1) u r st).1 u = gi st.1 u ∧ (∀ x ∈ r, 0 ≤ gi (rowB (-1) u r st).1 x ∧ gi (rowB (-1) u r st).1 x ≤ gi st.1 u + 1) := by
 induction r using snoc_ind with
 | h0 => intro st h hi hu _; exact ⟨h, hi, hu, rfl, fun x hx => by cases hx⟩
 | h1 l a ih =>
  intro st h hi hu hr
  obtain ⟨h1, h2, h3, h4, h5⟩ := ih h hi hu (fun x hx => hr x (by simp [hx]))
  have ha := hr a (by simp)
  have hur := h1.bf.rng _ (gi_in h2)
  rw [h3] at hur
  have har := (hg.row u hur.1).1 a ha
  rw [rowB_snoc]
  have hs := h1.step hg h2 (x := a) (by rw [h3]; exact ha) har.1 har.2
  rw [h3] at hs
  obtain ⟨s1, s2, s3, s4, s5, s6⟩ := hs
  refine ⟨s1, s2, s3, by rw [s4, h4], fun x hx => ?_⟩
  rcases List.mem_append.1 hx with hx | hx
  ·have hx5 := h5 x hx
   have hxr := (hg.row u hur.1).1 x (hr x (by simp [hx]))
   rw [s6 x hxr.1 hx5.1]
   exact hx5
  ·simp at hx; subst hx
   rw [h4] at s5
   exact s5
theorem BQ.next {n : Nat} {next : List (List Int)} {v : Int} {i : Nat} {st : List Int × List Int} (hg : Gr n next) (h : BQ n next v i st) (hi : i < st.2.length) : BQ n next v (i + 1) (rowB (-1) (gi st.2 i) (gl next (gi st.2 i)) st) := by
 obtain ⟨h1, h2, h3, h4, h5⟩ := BQ.row hg (gi st.2 i) (gl next (gi st.2 i)) h hi rfl (fun x hx => hx)
 refine ⟨h1.bf, h1.at0, h1.vin, h1.all, h1.mono, fun hi1 b hb => ?_, fun a ha hal x hx => ?_, h1.par⟩
 ·have hg1 := h1.gap h2 b hb
  have hm := h1.mono i (i + 1) (by omega) hi1
  omega
 ·by_cases hai : a = i
  ·subst hai
   rw [h3] at hx ⊢
   rw [h4]
   exact h5 x hx
  ·exact h1.don a (by omega) hal x hx
/-- distances: 0 at the start; defined at the neighbours of what is met, and at most one more; and each other one has a neighbour one nearer -/
structure DF (n : Nat) (next : List (List Int)) (v : Int) (far : List Int) : Prop where
 len : far.length = n
 at0 : gi far v = 0
 nxt : ∀ y : Int, 0 ≤ y → y < n → 0 ≤ gi far y → ∀ x ∈ gl next y, 0 ≤ gi far x ∧ gi far x ≤ gi far y + 1
 par : ∀ x : Int, 0 ≤ x → x < n → 0 ≤ gi far x → x ≠ v → ∃ y : Int, (0 ≤ y ∧ y < n) ∧ x ∈ gl next y ∧ 0 ≤ gi far y ∧ gi far x = gi far y + 1
 top : ∀ x : Int, 0 ≤ x → x < n → gi far x < n
end Go.Proofs.YtjpkmpihmilgoaaGreat.Vc
/-
 The plain law of the lengths of words. Conditions: as each states them. No program in sight.
-/
namespace Go.Proofs.YtjpkmpihmilgoaaGreat.Vc

theorem runW_append (xss : List (List Int)) (x : Int) (a b : List Int) : runW xss x (a ++ b) = runW xss (runW xss x a) b := by simp [runW]
theorem run_rev {xss : List (List Int)} (hM : Mani xss) : ∀ (ws : List Int) (x : Int), (∀ i ∈ ws, 0 ≤ i ∧ i < xss.length) → 0 ≤ x → x < (gl xss 0).length → runW xss (runW xss x ws) ws.reverse = x
 | [], _, _, _, _ => rfl
 | i :: ws, x, hw, h0, h1 => by
  have hi := hw i (by simp)
  obtain ⟨k, rfl⟩ : ∃ k : Nat, i = k := ⟨i.toNat, by omega⟩
  have hg := hM.in_ (k := k) (by omega) h0 h1
  have ih := run_rev hM ws (gi (gl xss (k : Int)) x) (fun j hj => hw j (by simp [hj])) hg.1 hg.2
  rw [List.reverse_cons, runW_append]
  show gi (gl xss (k : Int)) (runW xss (runW xss (gi (gl xss (k : Int)) x) ws) ws.reverse) = x
  rw [ih]
  exact hM.two (by omega) h0 h1
theorem prm_does {xss : List (List Int)} (hM : Mani xss) {ws : List Int} (hw : ∀ i ∈ ws, 0 ≤ i ∧ i < xss.length) : Sys (gl xss 0).length [doesL xss (gl xss 0).length ws] ∧ Inj (gl xss 0).length [doesL xss (gl xss 0).length ws] := by
 have hs := hM.2.2.1.sys
 constructor
 ·intro p hp
  obtain rfl := List.mem_singleton.1 hp
  refine ⟨by simp [doesL], fun x h0 h1 => ?_⟩
  rw [gi_does h0 h1]
  exact runW_lt hs ws x hw h0 h1
 ·intro p hp x y hx hx' hy hy' e
  obtain rfl := List.mem_singleton.1 hp
  rw [gi_does hx hx', gi_does hy hy'] at e
  rw [← run_rev hM ws x hw hx hx', e, run_rev hM ws y hw hy hy']
theorem rev_reach {xss : List (List Int)} (hM : Mani xss) {ws : List Int} (hw : ∀ i ∈ ws, 0 ≤ i ∧ i < xss.length) {x y : Int} (h0 : 0 ≤ x) (h1 : x < (gl xss 0).length) (h : Reach [doesL xss (gl xss 0).length ws] x y) : Reach [doesL xss (gl xss 0).length ws.reverse] x y := by
 have hw' : ∀ i ∈ ws.reverse, 0 ≤ i ∧ i < xss.length := fun i hi => hw i (List.mem_reverse.1 hi)
 obtain ⟨s1, i1⟩ := prm_does hM hw
 obtain ⟨s2, i2⟩ := prm_does hM hw'
 induction h with
 | refl => exact .refl
 | step hr hp ih =>
  rename_i y p
  obtain rfl := List.mem_singleton.1 hp
  have hy := hr.range s1 h0 h1
  have hpy := (s1 _ (List.mem_singleton.2 rfl)).2 y hy.1 hy.2
  have h2 : Reach [doesL xss (gl xss 0).length ws.reverse] (gi (doesL xss (gl xss 0).length ws) y) y := by
   have h3 : gi (doesL xss (gl xss 0).length ws.reverse) (gi (doesL xss (gl xss 0).length ws) y) = y := by
    rw [gi_does hpy.1 hpy.2, gi_does hy.1 hy.2]
    exact run_rev hM ws y hw hy.1 hy.2
   have h4 : Reach [doesL xss (gl xss 0).length ws.reverse] (gi (doesL xss (gl xss 0).length ws) y) (gi (doesL xss (gl xss 0).length ws.reverse) (gi (doesL xss (gl xss 0).length ws) y)) := .step .refl (by simp)
   rwa [h3] at h4
  exact ih.trans (h2.symm s2 i2 hpy.1 hpy.2)
theorem wordL_perm {xss : List (List Int)} {ws ws' : List Int} (h : (clens (doesL xss (gl xss 0).length ws) (gl xss 0).length).Perm (clens (doesL xss (gl xss 0).length ws') (gl xss 0).length)) : wordL xss ws = wordL xss ws' := by
 have h2 : (lenAll (doesL xss (gl xss 0).length ws) (gl xss 0).length).Perm (lenAll (doesL xss (gl xss 0).length ws') (gl xss 0).length) := by
  rw [lenAll_lens, lenAll_lens]
  exact h.map _
 exact asc_unique ((srt_perm _).trans (h2.trans (srt_perm _).symm)) (srt_asc _) (srt_asc _)
/-- the lengths of a word turned round -/
theorem word_rev {xss : List (List Int)} (hM : Mani xss) {ws : List Int} (hw : ∀ i ∈ ws, 0 ≤ i ∧ i < xss.length) : wordL xss ws.reverse = wordL xss ws := by
 have hw' : ∀ i ∈ ws.reverse, 0 ≤ i ∧ i < xss.length := fun i hi => hw i (List.mem_reverse.1 hi)
 obtain ⟨s1, i1⟩ := prm_does hM hw
 obtain ⟨s2, i2⟩ := prm_does hM hw'
 refine wordL_perm (lens_same s2 i2 s1 i1 fun x h0 h1 => ?_)
 obtain ⟨g1, _, m1⟩ := orbit_spec s1 h0 h1
 refine osz_of s2 h0 h1 g1.nodup fun y => (m1 y).trans ⟨rev_reach hM hw h0 h1, fun h => ?_⟩
 have := rev_reach hM hw' h0 h1 h
 rwa [List.reverse_reverse] at this
/-- they add up to the number of flags -/
theorem sum_cast : ∀ l : List Nat, (l.map fun n : Nat => (n : Int)).sum = ((l.sum : Nat) : Int)
 | [] => rfl
 | a :: l => by simp [sum_cast l]
theorem perm_sum {a b : List Int} (h : a.Perm b) : a.sum = b.sum := by
 induction h with
 | nil => rfl
 | cons x _ ih => simp [ih]
 | swap x y l => simp; omega
 | trans _ _ i1 i2 => exact i1.trans i2
theorem word_sum {xss : List (List Int)} (hM : Mani xss) {ws : List Int} (hw : ∀ i ∈ ws, 0 ≤ i ∧ i < xss.length) : (wordL xss ws).sum = (gl xss 0).length := by
 obtain ⟨s1, i1⟩ := prm_does hM hw
 rw [wordL, perm_sum (srt_perm _), lenAll_lens, sum_cast, lens_sum s1 i1]
theorem zig_petrie {xss : List (List Int)} (h : holeK xss 1 = 0) : zigL xss 1 = petrieL xss := by
 obtain ⟨h1, _, h3⟩ := holeK_zero h
 rw [zigL, if_pos h, petrieL, if_pos h1, h3]
 rfl
theorem hole_one {xss : List (List Int)} (h : holeK xss 1 = 0) : holeL xss 1 = wordL xss [0, 1] := by
 rw [holeL, if_pos h]
 rfl

/-! faces of a map -/
theorem free_at {xss : List (List Int)} (hM : Mani xss) {k : Nat} (hk : k < xss.length) {f : Int} (h0 : 0 ≤ f) (h1 : f < (gl xss 0).length) : gi (gl xss k) f ≠ f := by
 obtain ⟨q, rfl⟩ : ∃ q : Nat, f = q := ⟨f.toNat, by omega⟩
 have hr := hM.2.2.1.at_ hk
 exact (hr.2.2 q (by omega)).1
def itq (q : List Int) : Nat → Int → Int
 | 0, x => x
 | k + 1, x => itq q k (gi q x)
theorem itq_succ (q : List Int) : ∀ (k : Nat) (x : Int), itq q (k + 1) x = gi q (itq q k x)
 | 0, _ => rfl
 | k + 1, x => itq_succ q k (gi q x)
theorem reach_itq {q : List Int} {x y : Int} (h : Reach [q] x y) : ∃ k, itq q k x = y := by
 induction h with
 | refl => exact ⟨0, rfl⟩
 | step _ hp ih =>
  obtain rfl := List.mem_singleton.1 hp
  obtain ⟨k, rfl⟩ := ih
  exact ⟨k + 1, itq_succ _ k x⟩
theorem gi_01 {xss : List (List Int)} {x : Int} (h0 : 0 ≤ x) (h1 : x < (gl xss 0).length) : gi (doesL xss (gl xss 0).length [0, 1]) x = gi (gl xss (1 : Nat)) (gi (gl xss (0 : Nat)) x) := by
 rw [gi_does h0 h1]
 rfl
/-- a flag and the flag behind move 0 lie on two cycles -/
theorem two_cycles {xss : List (List Int)} (hM : Mani xss) (h2 : 1 < xss.length) : ∀ (k : Nat) (x : Int), 0 ≤ x → x < (gl xss 0).length → itq (doesL xss (gl xss 0).length [0, 1]) k x ≠ gi (gl xss (0 : Nat)) x
 | 0, x, h0, h1 => fun e => free_at hM (k := 0) (by omega) h0 h1 e.symm
 | 1, x, h0, h1 => fun e => by
  have hx := hM.in_ (k := 0) (by omega) h0 h1
  rw [itq, itq, gi_01 h0 h1] at e
  exact free_at hM (k := 1) h2 hx.1 hx.2 e
 | k + 2, x, h0, h1 => fun e => by
  have hw : ∀ i ∈ ([0, 1] : List Int), 0 ≤ i ∧ i < xss.length := fun i hi => by simp at hi; omega
  obtain ⟨s1, i1⟩ := prm_does hM hw
  have hy := (s1 _ (List.mem_singleton.2 rfl)).2 x h0 h1
  have ih := two_cycles hM h2 k (gi (doesL xss (gl xss 0).length [0, 1]) x) hy.1 hy.2
  have hz : 0 ≤ itq (doesL xss (gl xss 0).length [0, 1]) k (gi (doesL xss (gl xss 0).length [0, 1]) x) ∧ itq (doesL xss (gl xss 0).length [0, 1]) k (gi (doesL xss (gl xss 0).length [0, 1]) x) < (gl xss 0).length := by
   generalize gi (doesL xss (gl xss 0).length [0, 1]) x = y at hy
   clear ih e
   induction k generalizing y with
   | zero => exact hy
   | succ k ihk => exact ihk _ ((s1 _ (List.mem_singleton.2 rfl)).2 y hy.1 hy.2)
  have e2 : itq (doesL xss (gl xss 0).length [0, 1]) (k + 2) x = gi (doesL xss (gl xss 0).length [0, 1]) (itq (doesL xss (gl xss 0).length [0, 1]) k (gi (doesL xss (gl xss 0).length [0, 1]) x)) := itq_succ _ k _
  rw [e2, gi_01 hz.1 hz.2] at e
  have hz0 := hM.in_ (k := 0) (by omega) hz.1 hz.2
  have hx0 := hM.in_ (k := 0) (by omega) h0 h1
  have e3 := congrArg (gi (gl xss (1 : Nat))) e
  rw [hM.two h2 hz0.1 hz0.2] at e3
  rw [← gi_01 h0 h1] at e3
  -- behind move 0 again
  have e4 := congrArg (gi (gl xss (0 : Nat))) e3
  rw [hM.two (by omega) hz.1 hz.2] at e4
  exact ih e4
/-- a face has twice as many flags as one of its two cycles -/
theorem face_size {xss : List (List Int)} (hM : Mani xss) (h3 : xss.length = 3) {x : Int} (h0 : 0 ≤ x) (h1 : x < (gl xss 0).length) : osz (gl xss 0).length (xss.eraseIdx 2) x = 2 * osz (gl xss 0).length [doesL xss (gl xss 0).length [0, 1]] x := by
 have hw : ∀ i ∈ ([0, 1] : List Int), 0 ≤ i ∧ i < xss.length := fun i hi => by simp at hi; omega
 obtain ⟨s1, i1⟩ := prm_does hM hw
 obtain ⟨g1, _, m1⟩ := orbit_spec s1 h0 h1
 have m0 : gl xss (0 : Nat) ∈ xss.eraseIdx 2 := erase_mem (k := 0) (by omega) (by omega)
 have m2 : gl xss (1 : Nat) ∈ xss.eraseIdx 2 := erase_mem (k := 1) (by omega) (by omega)
 generalize hc : orbit (gl xss 0).length [doesL xss (gl xss 0).length [0, 1]] x = c at *
 have hrng := g1.range
 have hq : ∀ y ∈ c, gi (doesL xss (gl xss 0).length [0, 1]) y ∈ c := fun y hy => (m1 _).2 (.step ((m1 y).1 hy) (List.mem_singleton.2 rfl))
 have hb : ∀ y ∈ c, gi (gl xss (0 : Nat)) (gi (gl xss (1 : Nat)) y) ∈ c := by
  intro y hy
  have hyr := hrng y hy
  have a1 := hM.in_ (k := 1) (by omega) hyr.1 hyr.2
  have a2 := hM.in_ (k := 0) (by omega) a1.1 a1.2
  have e : gi (doesL xss (gl xss 0).length [0, 1]) (gi (gl xss (0 : Nat)) (gi (gl xss (1 : Nat)) y)) = y := by
   rw [gi_01 a2.1 a2.2, hM.two (by omega) a1.1 a1.2, hM.two (by omega) hyr.1 hyr.2]
  have h4 : Reach [doesL xss (gl xss 0).length [0, 1]] (gi (gl xss (0 : Nat)) (gi (gl xss (1 : Nat)) y)) (gi (doesL xss (gl xss 0).length [0, 1]) (gi (gl xss (0 : Nat)) (gi (gl xss (1 : Nat)) y))) := .step .refl (List.mem_singleton.2 rfl)
  rw [e] at h4
  exact (m1 _).2 (((m1 y).1 hy).trans (h4.symm s1 i1 a2.1 a2.2))
 have hos : osz (gl xss 0).length [doesL xss (gl xss 0).length [0, 1]] x = c.length := by rw [osz, hc]
 have hl : (c ++ c.map (gi (gl xss (0 : Nat)))).length = 2 * c.length := by simp; omega
 rw [hos, ← hl]
 refine osz_of (hM.2.2.1.sys.erase 2) h0 h1 ?_ fun y => ?_
 ·rw [List.nodup_append]
  refine ⟨g1.nodup, ?_, fun a ha b hb' e => ?_⟩
  ·rw [List.nodup_iff_pairwise_ne, List.pairwise_map]
   refine List.Pairwise.imp_of_mem ?_ (List.nodup_iff_pairwise_ne.1 g1.nodup)
   intro a b ha hb' hab e
   have ra := hrng a ha
   have rb := hrng b hb'
   apply hab
   rw [← hM.two (k := 0) (by omega) ra.1 ra.2, e, hM.two (k := 0) (by omega) rb.1 rb.2]
  ·obtain ⟨z, hz, rfl⟩ := List.mem_map.1 hb'
   have rz := hrng z hz
   have h5 : Reach [doesL xss (gl xss 0).length [0, 1]] z a := (((m1 z).1 hz).symm s1 i1 h0 h1).trans ((m1 a).1 ha)
   obtain ⟨k, hk⟩ := reach_itq h5
   exact two_cycles hM (by omega) k z rz.1 rz.2 (hk.trans e)
 ·rw [List.mem_append, List.mem_map]
  constructor
  ·have key : ∀ y ∈ c, Reach (xss.eraseIdx 2) x y := by
    intro y hy
    have h5 := (m1 y).1 hy
    clear hy
    induction h5 with
    | refl => exact .refl
    | step hr hp ih =>
     rename_i y p
     obtain rfl := List.mem_singleton.1 hp
     have ry := hr.range s1 h0 h1
     rw [gi_01 ry.1 ry.2]
     exact .step (.step ih m0) m2
   rintro (hy | ⟨z, hz, rfl⟩)
   ·exact key y hy
   ·exact .step (key z hz) m0
  ·intro h
   induction h with
   | refl => exact .inl ((m1 x).2 .refl)
   | step hr hp ih =>
    rename_i y p
    obtain ⟨k, hk, hk2, rfl⟩ := erase_of hp
    rcases (show k = 0 ∨ k = 1 by omega) with rfl | rfl
    ·rcases ih with hy | ⟨z, hz, rfl⟩
     ·exact .inr ⟨y, hy, rfl⟩
     ·have rz := hrng z hz
      rw [hM.two (by omega) rz.1 rz.2]
      exact .inl hz
    ·rcases ih with hy | ⟨z, hz, rfl⟩
     ·have ry := hrng y hy
      have a1 := hM.in_ (k := 1) (by omega) ry.1 ry.2
      exact .inr ⟨_, hb y hy, hM.two (by omega) a1.1 a1.2⟩
     ·have rz := hrng z hz
      rw [← gi_01 rz.1 rz.2]
      exact .inl (hq z hz)

theorem part_labels (R : List Int) (g : Int → Int) : ∀ F : Nat, ((List.range F).map fun l : Nat => R.filter (fun x => decide (g x = (l : Int)))).flatten.Perm (R.filter fun x => decide (0 ≤ g x ∧ g x < (F : Int)))
 | 0 => by
  have : (R.filter fun x => decide (0 ≤ g x ∧ g x < ((0 : Nat) : Int))) = [] := by
   rw [List.filter_eq_nil_iff]
   intro x _
   simp
  rw [this]
  exact List.Perm.refl _
 | F + 1 => by
  have ih := part_labels R g F
  rw [List.range_succ, List.map_append, List.flatten_append]
  refine (ih.append_right _).trans ?_
  rw [List.perm_iff_count]
  intro y
  have cf : ∀ (P : Int → Bool) (l : List Int), (l.filter P).count y = if P y = true then l.count y else 0 := by
   intro P l
   split
   ·rename_i h; exact List.count_filter h
   ·rename_i h
    rw [List.count_eq_zero]
    intro hm
    exact h (List.mem_filter.1 hm).2
  simp only [List.map_cons, List.map_nil, List.flatten_cons, List.flatten_nil, List.append_nil, List.count_append, cf, decide_eq_true_eq]
  by_cases c1 : g y = (F : Int)
  ·rw [if_neg (by omega), if_pos c1, if_pos (by omega)]; omega
  ·by_cases c2 : 0 ≤ g y ∧ g y < (F : Int)
   ·rw [if_pos c2, if_neg c1, if_pos (by omega)]; omega
   ·rw [if_neg c2, if_neg c1, if_neg (by omega)]
theorem count_gi {L : List Int} {N : Nat} (hL : L.length = N) (v : Int) : ((rangeI N).filter (fun x => decide (gi L x = v))).length = L.count v := by
 have e : L = (rangeI N).map (gi L) := by
  apply List.ext_getElem
  ·rw [List.length_map, rangeI_len, hL]
  ·intro i h1 h2
   simp [rangeI, gi, List.getD_eq_getElem?_getD, h1]
 conv => rhs; rw [e]
 rw [← List.countP_eq_length_filter, List.count, List.countP_map]
 refine List.countP_congr fun x _ => ?_
 simp
theorem half_count (n : Nat) : ∀ (l : List Nat), (∀ c ∈ l, ∃ m, c = 2 * m) → (l.map fun c => c / 2).count n = l.count (2 * n)
 | [], _ => rfl
 | c :: l, h => by
  obtain ⟨m, hm⟩ := h c (by simp)
  rw [List.map_cons, List.count_cons, List.count_cons, half_count n l (fun c hc => h c (by simp [hc]))]
  subst hm
  rw [Nat.mul_div_cancel_left m (by omega)]
  by_cases e : m = n
  ·subst e; simp
  ·rw [if_neg (by simpa using e), if_neg (by simp; omega)]
/-- the sizes of the faces of a map -/
def fsz (xss : List (List Int)) : List Nat := (List.range (facesN xss 2).toNat).map fun l : Nat => (facesL xss 2).count (l : Int) / 2
theorem fsz_lens {xss : List (List Int)} (hM : Mani xss) (h3 : xss.length = 3) : (clens (doesL xss (gl xss 0).length [0, 1]) (gl xss 0).length).Perm (fsz xss ++ fsz xss) := by
 have hw : ∀ i ∈ ([0, 1] : List Int), 0 ≤ i ∧ i < xss.length := fun i hi => by simp at hi; omega
 obtain ⟨s1, i1⟩ := prm_does hM hw
 have hlen : (facesL xss 2).length = (gl xss 0).length := lab_length _ _ _
 have hF0 : 0 ≤ facesN xss 2 := (lab_count _ _ _).1
 have hE := hM.2.2.1.sys.erase 2
 have hEi := hM.2.2.1.inj.erase 2
 -- the classes
 have hcls : ∀ c ∈ (List.range (facesN xss 2).toNat).map (fun l : Nat => (rangeI (gl xss 0).length).filter (fun x => decide (gi (facesL xss 2) x = (l : Int)))), ∀ x ∈ c, osz (gl xss 0).length (xss.eraseIdx 2) x = c.length := by
  intro c hc x hx
  obtain ⟨l, hl, rfl⟩ := List.mem_map.1 hc
  have hx2 := List.mem_filter.1 hx
  have hxr := rangeI_mem.1 hx2.1
  have hxl : gi (facesL xss 2) x = (l : Int) := by simpa using hx2.2
  refine osz_of hE hxr.1 hxr.2 ((rangeI_nodup _).filter _) fun y => ?_
  rw [List.mem_filter, rangeI_mem, decide_eq_true_eq]
  constructor
  ·rintro ⟨⟨y0, y1⟩, hy⟩
   exact faces_same hM hxr.1 hxr.2 y0 y1 (by rw [hxl, hy])
  ·intro h
   have hy := h.range hE hxr.1 hxr.2
   refine ⟨hy, ?_⟩
   rw [← hxl]
   exact (lab_reach hE hEi hxr.1 hxr.2 h _ (Nat.le_refl _)).symm
 have hpt := part_labels (rangeI (gl xss 0).length) (gi (facesL xss 2)) (facesN xss 2).toNat
 have hall : ((rangeI (gl xss 0).length).filter fun x => decide (0 ≤ gi (facesL xss 2) x ∧ gi (facesL xss 2) x < ((facesN xss 2).toNat : Int))) = rangeI (gl xss 0).length := by
  rw [List.filter_eq_self]
  intro x hx
  have hxr := rangeI_mem.1 hx
  have := faces_in hM 2 x.toNat (by omega)
  rw [Int.toNat_of_nonneg hxr.1] at this
  simp
  omega
 rw [hall] at hpt
 have hfs : fsz xss = (((List.range (facesN xss 2).toNat).map (fun l : Nat => (rangeI (gl xss 0).length).filter (fun x => decide (gi (facesL xss 2) x = (l : Int))))).map List.length).map fun c => c / 2 := by
  rw [fsz, List.map_map, List.map_map]
  refine List.map_congr_left fun l _ => ?_
  simp only [Function.comp_apply]
  rw [count_gi hlen]
 have heven : ∀ m ∈ ((List.range (facesN xss 2).toNat).map (fun l : Nat => (rangeI (gl xss 0).length).filter (fun x => decide (gi (facesL xss 2) x = (l : Int))))).map List.length, ∃ k, 0 < k ∧ m = 2 * k := by
  intro m hm
  obtain ⟨c, hc, rfl⟩ := List.mem_map.1 hm
  have hc' := hc
  obtain ⟨l, hl, rfl⟩ := List.mem_map.1 hc
  rw [List.mem_range] at hl
  obtain ⟨f, hf, hfl⟩ := faces_hit hM 2 (l : Int) (by omega) (by omega)
  have hfm : (f : Int) ∈ (rangeI (gl xss 0).length).filter (fun x => decide (gi (facesL xss 2) x = (l : Int))) := by
   rw [List.mem_filter, rangeI_mem]
   exact ⟨⟨by omega, by omega⟩, by simpa using hfl⟩
  have h5 := hcls _ hc' _ hfm
  rw [face_size hM h3 (by omega) (by omega)] at h5
  refine ⟨osz (gl xss 0).length [doesL xss (gl xss 0).length [0, 1]] (f : Int), ?_, h5.symm⟩
  have := List.length_pos_of_mem hfm
  omega
 rw [List.perm_iff_count]
 intro n
 rw [List.count_append, hfs, half_count n _ (fun c hc => by obtain ⟨k, _, e⟩ := heven c hc; exact ⟨k, e⟩)]
 by_cases h0 : n = 0
 ·subst h0
  rw [lens_zero s1 i1]
  have : ¬ (0 : Nat) ∈ ((List.range (facesN xss 2).toNat).map (fun l : Nat => (rangeI (gl xss 0).length).filter (fun x => decide (gi (facesL xss 2) x = (l : Int))))).map List.length := fun h => by
   obtain ⟨k, hk, e⟩ := heven 0 h
   omega
  rw [Nat.mul_zero, List.count_eq_zero.2 this]
 ·have c1 := lens_count s1 i1 n
  have c2 := flat_count (osz (gl xss 0).length (xss.eraseIdx 2)) (2 * n) _ hcls
  rw [hpt.countP_eq] at c2
  have c3 : (rangeI (gl xss 0).length).countP (fun x => decide (osz (gl xss 0).length (xss.eraseIdx 2) x = 2 * n)) = (rangeI (gl xss 0).length).countP (fun x => decide (osz (gl xss 0).length [doesL xss (gl xss 0).length [0, 1]] x = n)) := by
   refine List.countP_congr fun x hx => ?_
   have hxr := rangeI_mem.1 hx
   rw [face_size hM h3 hxr.1 hxr.2]
   simp
   omega
  rw [c3, ← c1] at c2
  refine Nat.eq_of_mul_eq_mul_left (Nat.pos_of_ne_zero h0) ?_
  rw [c2, Nat.mul_add, Nat.mul_assoc 2 n, Nat.two_mul]
end Go.Proofs.YtjpkmpihmilgoaaGreat.Vc
/-
 The law of the lengths of words, walked: the sizes of faces. Conditions: as each states them.
-/
namespace Go.Proofs.YtjpkmpihmilgoaaGreat.Vc
open Go.RowKit

/-- how often each label stands among the first -/
def tlyL (L : List Int) (F j : Nat) : List Int := (List.range F).map fun l : Nat => (((L.take j).count (l : Int) : Nat) : Int)
theorem tlyL_len (L : List Int) (F j : Nat) : (tlyL L F j).length = F := by simp [tlyL]
theorem tlyL_zero (L : List Int) (F : Nat) : tlyL L F 0 = List.replicate F 0 := by
 apply List.ext_getElem <;> simp [tlyL]
theorem tlyL_step {L : List Int} {F j : Nat} (hj : j < L.length) (h0 : 0 ≤ gi L (j : Int)) (h1 : gi L (j : Int) < F) : (tlyL L F j).set (gi L (j : Int)).toNat (gi (tlyL L F j) (gi L (j : Int)) + 1) = tlyL L F (j + 1) := by
 have hx : gi L (j : Int) = L[j] := gi_mem hj
 rw [hx] at h0 h1 ⊢
 have hg : gi (tlyL L F j) L[j] = (((L.take j).count L[j] : Nat) : Int) := by
  have hlt : L[j].toNat < F := by omega
  simp only [gi, tlyL, List.getD_eq_getElem?_getD, List.getElem?_map, List.getElem?_range hlt, Option.map_some, Option.getD_some]
  rw [Int.toNat_of_nonneg h0]
 rw [hg]
 apply List.ext_getElem
 ·simp [tlyL]
 ·intro i hi1 hi2
  rw [List.getElem_set]
  simp only [tlyL, List.getElem_map, List.getElem_range]
  rw [List.take_succ_eq_append_getElem hj, List.count_append, List.count_singleton]
  split
  ·rename_i e
   have e2 : (i : Int) = L[j] := by omega
   rw [e2]
   simp
  ·rename_i e
   have e2 : ¬ L[j] = (i : Int) := by omega
   simp [e2]
theorem tlyL_all (L : List Int) (F : Nat) : tlyL L F L.length = (List.range F).map fun l : Nat => ((L.count (l : Int) : Nat) : Int) := by simp [tlyL]

theorem orbitSizes_c (A : Option Addr) (n c : Nat) (rs : List SlV) (xss : List (List Int)) (N : Nat) (w : World) (hR : RowsI w A n rs xss) (hn : n ≤ 9223372036854775807) (hs : Sys N xss) (hinj : Inj N xss) (hN : N ≤ 1048576) :
  Ret Tryz.prog 122 [.int .i64 (N : Int), .slice A n c] w (fun v w' => ∃ A', v = .slice A' (lab N xss N).2.toNat (lab N xss N).2.toNat ∧ St w w' [CkI 2 A' (lab N xss N).2.toNat (lab N xss N).2.toNat (tlyL (lab N xss N).1 (lab N xss N).2.toNat N)]) := by
 have hcnt := lab_count N xss N
 have hll := lab_length N xss N
 have hla := lab_all hs hinj
 refine Ret.of_cd Tryz.func122 rfl Tryz.ntmps122 rfl (post1 rfl) ?_
 refine Cd.seq ?_
 refine Cd.region ?_
 refine Ops.mv_sl rfl rfl rfl ?_
 refine Ops.nil ?_
 refine thenQ_n ?_
 refine Cd.seq ?_
 refine Cd.region ?_
 refine Ops.mv_int rfl rfl rfl ?_
 refine Ops.mv_sl rfl rfl rfl ?_
 refine Ops.call (orbitLabels_c A n c rs xss N w hR hn hs hinj hN) rfl rfl rfl ?_
 rintro _ w1 ⟨A5, rfl, hS1⟩
 obtain ⟨F, hF⟩ : ∃ F : Nat, (lab N xss N).2 = F := ⟨(lab N xss N).2.toNat, by omega⟩
 rw [hF] at hcnt hla ⊢
 rw [Int.toNat_natCast]
 generalize (lab N xss N).1 = L at hll hla hS1 ⊢
 refine Ops.mv_tup rfl rfl rfl ?_
 refine Ops.extract rfl rfl rfl ?_
 refine Ops.extract rfl rfl rfl ?_
 refine Ops.mv_sl rfl rfl rfl ?_
 refine Ops.mv_int rfl rfl rfl ?_
 refine Ops.nil ?_
 refine thenQ_n ?_
 refine Cd.seq ?_
 refine Cd.region ?_
 refine Ops.mv_int rfl rfl rfl ?_
 refine Ops.mkI F hS1 rfl rfl (by omega) ?_
 intro A7 w2 hS2
 have hS2 : St w w2 [CkI 2 A7 F F (tlyL L F 0), CkI 2 A5 N N L] := by rw [tlyL_zero]; exact hS2
 refine Ops.mv_sl rfl rfl rfl ?_
 refine Ops.nil ?_
 refine thenQ_n ?_
 refine Cd.seq ?_
 refine Cd.seq ?_
 refine Cd.region ?_
 refine Ops.mv_sl rfl rfl rfl ?_
 refine Ops.len rfl rfl ?_
 refine Ops.mv_int rfl rfl rfl ?_
 refine Ops.nil ?_
 refine thenQ_n ?_
 refine Cd.block ?_
 refine Cd.loop (α := Nat) (fun j => [(7, .slice A7 F F), (18, .slice A5 N N), (19, .int .i64 (N : Int)), (20, .int .i64 (j : Int))]) (fun j w' => St w w' [CkI 2 A7 F F (tlyL L F j), CkI 2 A5 N N L] ∧ j ≤ N) (fun j => N - j) 0 ⟨rfl, rfl, rfl, rfl, trivial⟩ ⟨hS2, Nat.zero_le _⟩ ?_
 rintro j e w3 ⟨hS3, hj⟩
 have hL3 := hS3.rdI 1 rfl
 have hC3 := hS3.rdI 0 rfl
 refine Cd.seq ?_
 refine Cd.region ?_
 refine Ops.lss rfl rfl rfl ?_
 refine Ops.nil ?_
 refine thenQ_n ?_
 refine Cd.seq ?_
 refine Cd.cond_p _ rfl (fun h1 => ?_) (fun h1 => ?_)
 ·have hv := hla (j : Int) (by omega) (by omega)
  have hst := tlyL_step (L := L) (F := F) (j := j) (by omega) hv.1 hv.2
  have hcb : gi (tlyL L F j) (gi L (j : Int)) ≤ 1048576 ∧ 0 ≤ gi (tlyL L F j) (gi L (j : Int)) := by
   have hlt : (gi L (j : Int)).toNat < F := by omega
   have e : gi (tlyL L F j) (gi L (j : Int)) = (((L.take j).count (gi L (j : Int)) : Nat) : Int) := by
    simp only [gi, tlyL, List.getD_eq_getElem?_getD, List.getElem?_map, Int.toNat_natCast] at hlt ⊢
    rw [List.getElem?_range hlt]
    simp only [Option.map_some, Option.getD_some]
    congr 2
    have := hv.1
    simp only [gi, List.getD_eq_getElem?_getD, Int.toNat_natCast] at this
    omega
   have h5 := List.count_le_length (a := gi L (j : Int)) (l := L.take j)
   rw [List.length_take] at h5
   omega
  refine Cd.skip ?_
  refine thenQ_n ?_
  refine Cd.seq ?_
  refine Cd.block ?_
  refine Cd.seq ?_
  refine Cd.region ?_
  refine Ops.idx hL3.2 rfl rfl rfl (by omega) (by omega) ?_
  refine Ops.ld_int hL3 rfl (by omega) rfl rfl ?_
  refine Ops.mv_int rfl rfl rfl ?_
  refine Ops.nil ?_
  refine thenQ_n ?_
  refine Cd.region ?_
  refine Ops.mv_sl rfl rfl rfl ?_
  refine Ops.mv_int rfl rfl rfl ?_
  refine Ops.idx hC3.2 rfl rfl rfl hv.1 hv.2 ?_
  refine Ops.ld_int hC3 rfl (by omega) rfl rfl ?_
  refine Ops.add rfl rfl rfl (by omega) ?_
  refine Ops.idx hC3.2 rfl rfl rfl hv.1 hv.2 ?_
  refine Ops.st_int 0 hS3 rfl rfl rfl (by omega) ?_
  intro w4 hS4
  refine Ops.nil ?_
  refine blockQ_n ?_
  refine thenQ_n ?_
  refine Cd.region ?_
  refine Ops.add rfl rfl rfl (by omega) ?_
  refine Ops.mv_int rfl rfl rfl ?_
  refine Ops.nil ?_
  refine thenQ_n ?_
  refine ⟨j + 1, by show N - (j + 1) < N - j; omega, ⟨rfl, rfl, rfl, rfl, trivial⟩, ?_, by omega⟩
  rw [← hst]
  exact hS4
 ·obtain rfl : j = N := by omega
  refine Cd.exit ?_
  refine thenQ_x ?_
  refine thenQ_x ?_
  refine blockQ_x ?_
  refine thenQ_n ?_
  refine Cd.seq ?_
  refine Cd.region ?_
  refine Ops.mv_sl rfl rfl rfl ?_
  refine Ops.mv_sl rfl rfl rfl ?_
  refine Ops.nil ?_
  refine thenQ_n ?_
  refine Cd.ret ?_
  refine ret1_s rfl ?_
  exact ⟨A7, rfl, hS3.sub (List.Sublist.cons_cons _ (List.nil_sublist _))⟩

/-- the first numbers halved -/
def hlv (C : List Int) (k : Nat) : List Int := (C.take k).map (· / 2) ++ C.drop k
theorem hlv_len (C : List Int) (k : Nat) : (hlv C k).length = C.length := by simp [hlv]; omega
theorem hlv_step {C : List Int} {k : Nat} (hk : k < C.length) : gi (hlv C k) (k : Int) = C[k] ∧ (hlv C k).set k (C[k] / 2) = hlv C (k + 1) := by
 have hl : ((C.take k).map (· / 2)).length = k := by simp; omega
 constructor
 ·rw [gi_mem (by rw [hlv_len]; exact hk)]
  simp only [hlv]
  rw [List.getElem_append_right (by omega), List.getElem_drop]
  exact getElem_congr_idx (by omega)
 ·simp only [hlv]
  rw [List.set_append_right _ _ (by omega), hl, Nat.sub_self, List.drop_eq_getElem_cons hk, List.set_cons_zero, List.take_succ_eq_append_getElem hk, List.map_append, List.append_assoc]
  rfl
def fszI (xss : List (List Int)) : List Int := (fsz xss).map fun n : Nat => (n : Int)
theorem fszI_eq (xss : List (List Int)) : hlv (tlyL (facesL xss 2) (facesN xss 2).toNat (gl xss 0).length) (facesN xss 2).toNat = fszI xss := by
 have hlen : (facesL xss 2).length = (gl xss 0).length := lab_length _ _ _
 rw [← hlen, tlyL_all]
 unfold hlv fszI fsz
 rw [List.take_of_length_le (by simp), List.drop_eq_nil_of_le (by simp), List.append_nil, List.map_map, List.map_map]
 refine List.map_congr_left fun l _ => ?_
 simp
theorem sizesOf_c (Ab A : Option Addr) (n c : Nat) (rs : List SlV) (xss : List (List Int)) (w : World) (hB : Rd w Ab 1 (fun _ => .slice A n c)) (hR : RowsI w A n rs xss) (hn : n = 3) (hM : Mani xss) :
  Ret Tryz.prog 82 [.pointer Ab, .int .i64 2] w (fun v w' => ∃ A', v = .slice A' (fszI xss).length (fszI xss).length ∧ St w w' [CkI 2 A' (fszI xss).length (fszI xss).length (fszI xss)]) := by
 have hl := hR.len
 have hN := hM.2.1
 have hr0 := hR.rowLen (k := 0) (by omega) (by omega)
 have hFN : (fszI xss).length = (facesN xss 2).toNat := by simp [fszI, fsz]
 have hFle := facesN_le xss 2
 refine Ret.of_cd Tryz.func82 rfl Tryz.ntmps82 rfl (post1 rfl) ?_
 refine Cd.seq ?_
 refine Cd.region ?_
 refine Ops.mv_sl rfl rfl rfl ?_
 refine Ops.nil ?_
 refine thenQ_n ?_
 refine Cd.seq ?_
 refine Cd.region ?_
 refine Ops.mv_ptr rfl rfl rfl ?_
 refine Ops.call (flags_c Ab A n c rs xss _ w hB rfl hR (by omega)) rfl rfl rfl ?_
 rintro _ w1 ⟨rfl, rfl⟩
 rw [← hr0]
 refine Ops.mv_ptr rfl rfl rfl ?_
 refine Ops.mv_int rfl rfl rfl ?_
 refine Ops.call (without_c Ab A n c rs xss 2 _ hB hR (by omega) (by omega)) rfl rfl rfl ?_
 rintro _ w2 ⟨A11, c11, rfl, hS2⟩
 have hE := (hS2.oldRows hR).erase (i := 2) (by omega) (hS2.rdR 0 rfl)
 skip
 refine Ops.call (orbitSizes_c A11 (n - 1) c11 (rs.eraseIdx 2) (xss.eraseIdx 2) (gl xss 0).length _ hE (by omega) (hM.2.2.1.sys.erase 2) (hM.2.2.1.inj.erase 2) (by omega)) rfl rfl rfl ?_
 rintro _ w3 ⟨A5, rfl, hst3⟩
 have hS3 := hS2.call hst3
 have hS3 : St w1 w3 [CkI 2 A5 (facesN xss 2).toNat (facesN xss 2).toNat (hlv (tlyL (facesL xss 2) (facesN xss 2).toNat (gl xss 0).length) 0)] := by
  have e : hlv (tlyL (facesL xss 2) (facesN xss 2).toNat (gl xss 0).length) 0 = tlyL (facesL xss 2) (facesN xss 2).toNat (gl xss 0).length := by simp [hlv]
  rw [e]
  exact hS3.sub (List.Sublist.cons_cons _ (List.nil_sublist _))
 have hfe := fszI_eq xss
 rw [hFN, ← hfe]
 have hvF : (lab (gl xss 0).length (xss.eraseIdx 2) (gl xss 0).length).2 = facesN xss 2 := rfl
 rw [hvF]
 have hcl := tlyL_len (facesL xss 2) (facesN xss 2).toNat (gl xss 0).length
 have hpos : ∀ k (hk : k < (tlyL (facesL xss 2) (facesN xss 2).toNat (gl xss 0).length).length), 0 ≤ (tlyL (facesL xss 2) (facesN xss 2).toNat (gl xss 0).length)[k] ∧ (tlyL (facesL xss 2) (facesN xss 2).toNat (gl xss 0).length)[k] ≤ 400 := fun k hk => by
  simp only [tlyL, List.getElem_map, List.getElem_range]
  have h5 := List.count_le_length (a := (k : Int)) (l := (facesL xss 2).take (gl xss 0).length)
  rw [List.length_take] at h5
  omega
 have hF4 : (facesN xss 2).toNat ≤ 400 := by omega
 generalize (facesN xss 2).toNat = F at hS3 hcl hpos hF4 ⊢
 generalize tlyL (facesL xss 2) F (gl xss 0).length = C at hS3 hcl hpos ⊢
 refine Ops.mv_sl rfl rfl rfl ?_
 refine Ops.nil ?_
 refine thenQ_n ?_
 refine Cd.seq ?_
 refine Cd.seq ?_
 refine Cd.region ?_
 refine Ops.mv_sl rfl rfl rfl ?_
 refine Ops.len rfl rfl ?_
 refine Ops.mv_int rfl rfl rfl ?_
 refine Ops.nil ?_
 refine thenQ_n ?_
 refine Cd.block ?_
 refine Cd.loop (α := Nat) (fun k => [(5, .slice A5 F F), (14, .int .i64 (F : Int)), (15, .int .i64 (k : Int))]) (fun k w' => St w1 w' [CkI 2 A5 F F (hlv C k)] ∧ k ≤ F) (fun k => F - k) 0 ⟨rfl, rfl, rfl, trivial⟩ ⟨hS3, Nat.zero_le _⟩ ?_
 rintro k e w4 ⟨hS4, hk⟩
 have hC4 := hS4.rdI 0 rfl
 refine Cd.seq ?_
 refine Cd.region ?_
 refine Ops.lss rfl rfl rfl ?_
 refine Ops.nil ?_
 refine thenQ_n ?_
 refine Cd.seq ?_
 refine Cd.cond_p _ rfl (fun h1 => ?_) (fun h1 => ?_)
 ·obtain ⟨e1, e2⟩ := hlv_step (C := C) (k := k) (by omega)
  have hp := hpos k (by omega)
  refine Cd.skip ?_
  refine thenQ_n ?_
  refine Cd.seq ?_
  refine Cd.block ?_
  refine Cd.seq ?_
  refine Cd.region ?_
  refine Ops.mv_int rfl rfl rfl ?_
  refine Ops.mv_int rfl rfl rfl ?_
  refine Ops.nil ?_
  refine thenQ_n ?_
  refine Cd.region ?_
  refine Ops.mv_sl rfl rfl rfl ?_
  refine Ops.mv_int rfl rfl rfl ?_
  refine Ops.idx hC4.2 rfl rfl rfl (by omega) (by omega) ?_
  refine Ops.ld_int hC4 rfl (by omega) rfl rfl ?_
  rw [e1]
  refine Ops.quo rfl rfl rfl (by omega) ?_
  skip
  refine Ops.idx hC4.2 rfl rfl rfl (by omega) (by omega) ?_
  refine Ops.st_int 0 hS4 rfl rfl rfl (by omega) ?_
  intro w5 hS5
  refine Ops.nil ?_
  refine blockQ_n ?_
  refine thenQ_n ?_
  refine Cd.region ?_
  refine Ops.add rfl rfl rfl (by omega) ?_
  refine Ops.mv_int rfl rfl rfl ?_
  refine Ops.nil ?_
  refine thenQ_n ?_
  refine ⟨k + 1, by show F - (k + 1) < F - k; omega, ⟨rfl, rfl, rfl, trivial⟩, ?_, by omega⟩
  rw [← e2]
  exact hS5
 ·obtain rfl : k = F := by omega
  refine Cd.exit ?_
  refine thenQ_x ?_
  refine thenQ_x ?_
  refine blockQ_x ?_
  refine thenQ_n ?_
  refine Cd.seq ?_
  refine Cd.region ?_
  refine Ops.mv_sl rfl rfl rfl ?_
  refine Ops.mv_sl rfl rfl rfl ?_
  refine Ops.nil ?_
  refine thenQ_n ?_
  refine Cd.ret ?_
  refine ret1_s rfl ?_
  exact ⟨A5, rfl, hS4⟩
theorem isMap_c (A : Option Addr) (n c : Nat) (rs : List SlV) (xss : List (List Int)) (w : World) (hR : RowsI w A n rs xss) (hn : n = 3) (hc : n ≤ c ∧ c ≤ 9223372036854775807) (hM : Mani xss) :
  Ret Tryz.prog 81 [.agg #[.slice A n c]] w (fun v w' => v = .bool true ∧ St w w' []) := by
 refine Ret.of_cd Tryz.func81 rfl Tryz.ntmps81 rfl (post1 rfl) ?_
 refine Cd.seq ?_
 refine Cd.region ?_
 refine Ops.box1 (St.refl w) rfl rfl ?_
 intro A1 w1 hS1
 refine Ops.mv_bool rfl rfl rfl ?_
 refine Ops.nil ?_
 refine thenQ_n ?_
 refine Cd.seq ?_
 refine Cd.region ?_
 refine Ops.fld (hS1.rd 0 rfl) rfl rfl rfl rfl inferInstance ?_
 refine Ops.ldf_s (hS1.rd 0 rfl) rfl rfl rfl rfl rfl ?_
 refine Ops.len rfl rfl ?_
 refine Ops.eql rfl rfl rfl ?_
 refine Ops.mv_bool rfl rfl rfl ?_
 refine Ops.split_p 7 rfl (fun _ => ?_) (fun h => absurd (by omega) h) --t
 refine Ops.rung rfl rfl rfl ?_
 refine Ops.ld_agg 0 (hS1.rd 0 rfl) rfl rfl rfl ?_
 refine Ops.rung rfl rfl rfl ?_
 refine Ops.call (isManiplex_c A n c rs xss _ (hS1.oldRows hR) hc.1 hc.2) rfl rfl rfl ?_
 rintro _ w2 ⟨rfl, hst⟩
 refine Ops.pick_t rfl rfl rfl ?_
 refine Ops.mv_bool rfl rfl rfl ?_
 refine Ops.nil ?_
 refine thenQ_n ?_
 refine Cd.ret ?_
 refine ret1_b rfl ?_
 exact ⟨congrArg Value.bool (decide_eq_true hM), (hS1.later hst.below).none⟩
theorem FaceSizes_c (A : Option Addr) (n c : Nat) (rs : List SlV) (xss : List (List Int)) (w : World) (hR : RowsI w A n rs xss) (hn : n = 3) (hc : n ≤ c ∧ c ≤ 9223372036854775807) (hM : Mani xss) :
  Ret Tryz.prog 35 [.agg #[.slice A n c]] w (AnsR (fszI xss) 0 w) := by
 refine Ret.of_cd Tryz.func35 rfl Tryz.ntmps35 rfl (post2 rfl) ?_
 refine Cd.seq ?_
 refine Cd.region ?_
 refine Ops.box1 (St.refl w) rfl rfl ?_
 intro A1 w1 hS1
 have hl := hR.len
 refine Ops.mv_sl rfl rfl rfl ?_
 refine Ops.mv_int rfl rfl rfl ?_
 refine Ops.nil ?_
 refine thenQ_n ?_
 refine Cd.seq ?_
 refine Cd.seq ?_
 refine Cd.region ?_
 refine Ops.ld_agg 0 (hS1.rd 0 rfl) rfl rfl rfl ?_
 refine Ops.call (isMap_c A n c rs xss _ (hS1.oldRows hR) hn hc hM) rfl rfl rfl ?_
 rintro _ w2 ⟨rfl, hst2⟩
 have hS2 := hS1.later hst2.below
 first | refine Ops.not_p rfl rfl ?_ | refine Ops.not rfl rfl ?_
 refine Ops.nil ?_
 refine thenQ_n ?_
 refine Cd.cond_f rfl ?_
 refine Cd.skip ?_
 refine thenQ_n ?_
 refine Cd.seq ?_
 refine Cd.region ?_
 refine Ops.call (sizesOf_c A1 A n c rs xss _ (Rd.one (hS2.rd 0 rfl)) (hS2.oldRows hR) hn hM) rfl rfl rfl ?_
 rintro _ w3 ⟨A5, rfl, hst3⟩
 refine Ops.mv_sl rfl rfl rfl ?_
 refine Ops.mv_int rfl rfl rfl ?_
 refine Ops.nil ?_
 refine thenQ_n ?_
 refine Cd.ret ?_
 refine ret2_si rfl rfl ?_
 exact ⟨A5, (fszI xss).length, rfl, (hS2.call hst3).sub (List.Sublist.cons_cons _ (List.nil_sublist _))⟩
theorem flags9_c (A : Option Addr) (n c : Nat) (rs : List SlV) (xss : List (List Int)) (w : World) (hR : RowsI w A n rs xss) (hn : 0 < n) :
  Ret Tryz.prog 28 [.agg #[.slice A n c]] w (fun v w' => v = .int .i64 ((gl xss 0).length : Int) ∧ St w w' []) := by
 have hr0 := hR.rowLen (k := 0) (by omega) (by omega)
 refine Ret.of_cd Tryz.func28 rfl Tryz.ntmps28 rfl (post1 rfl) ?_
 refine Cd.seq ?_
 refine Cd.region ?_
 refine Ops.box1 (St.refl w) rfl rfl ?_
 intro A1 w1 hS1
 have hR1 := hS1.oldRows hR
 refine Ops.mv_int rfl rfl rfl ?_
 refine Ops.nil ?_
 refine thenQ_n ?_
 refine Cd.seq ?_
 refine Cd.seq ?_
 refine Cd.region ?_
 refine Ops.fld (hS1.rd 0 rfl) rfl rfl rfl rfl inferInstance ?_
 refine Ops.ldf_s (hS1.rd 0 rfl) rfl rfl rfl rfl rfl ?_
 refine Ops.len rfl rfl ?_
 refine Ops.eql rfl rfl rfl ?_
 refine Ops.nil ?_
 refine thenQ_n ?_
 refine Cd.cond_pf rfl (by omega) ?_
 refine Cd.skip ?_
 refine thenQ_n ?_
 refine Cd.seq ?_
 refine Cd.region ?_
 refine Ops.fld (hS1.rd 0 rfl) rfl rfl rfl rfl inferInstance ?_
 refine Ops.ldf_s (hS1.rd 0 rfl) rfl rfl rfl rfl rfl ?_
 skip
 refine Ops.idx hR1.top.2 rfl rfl rfl (by omega) (by omega) ?_
 refine Ops.ld_sl (i := 0) hR1.top rfl (by omega) rfl rfl ?_
 refine Ops.len rfl rfl ?_
 refine Ops.mv_int rfl rfl rfl ?_
 refine Ops.nil ?_
 refine thenQ_n ?_
 refine Cd.ret ?_
 refine ret1_i rfl ?_
 exact ⟨by rw [hr0], hS1.none⟩
end Go.Proofs.YtjpkmpihmilgoaaGreat.Vc
/-
 Plain mathematics: numbering anew keeps what a search finds; the form of a form; every maniplex in the numbers of its own search is a rooted form. Conditions: as each states them. No program in sight.
-/
namespace Go.Proofs.YtjpkmpihmilgoaaGreat.Vc

theorem gl_succ (p : List Int) (ps : List (List Int)) (j : Nat) : gl (p :: ps) ((j + 1 : Nat) : Int) = gl ps (j : Int) := by
 simp only [gl, Int.toNat_natCast, List.getD_cons_succ]
theorem gi_map {φ : Int → Int} {l : List Int} {k : Nat} (h : k < l.length) : gi (l.map φ) (k : Int) = φ (gi l (k : Int)) := by
 rw [gi_mem (by simpa using h), gi_mem h, List.getElem_map]

/-- numbering anew -/
structure Ism (N : Nat) (xss yss : List (List Int)) (φ : Int → Int) : Prop where
 len : yss.length = xss.length
 rng : ∀ x : Int, 0 ≤ x → x < N → 0 ≤ φ x ∧ φ x < N
 inj : ∀ x y : Int, 0 ≤ x → x < N → 0 ≤ y → y < N → φ x = φ y → x = y
 com : ∀ (i : Nat) (x : Int), i < xss.length → 0 ≤ x → x < N → gi (gl yss i) (φ x) = φ (gi (gl xss i) x)

section
variable {N : Nat} {xss yss : List (List Int)} {φ : Int → Int}
theorem push_map (hinj : ∀ x y : Int, 0 ≤ x → x < N → 0 ≤ y → y < N → φ x = φ y → x = y) {out : List Int} (ho : ∀ x ∈ out, 0 ≤ x ∧ x < (N : Int)) {y : Int} (h0 : 0 ≤ y) (h1 : y < N) : push1 (out.map φ) (φ y) = (push1 out y).map φ := by
 unfold push1
 by_cases h : y ∈ out
 ·rw [if_pos h, if_pos (List.mem_map_of_mem h)]
 ·rw [if_neg h, if_neg (fun hm => by
   obtain ⟨z, hz, e⟩ := List.mem_map.1 hm
   exact h (hinj z y (ho z hz).1 (ho z hz).2 h0 h1 e ▸ hz)), List.map_append]
  rfl
theorem fold_map (hinj : ∀ x y : Int, 0 ≤ x → x < N → 0 ≤ y → y < N → φ x = φ y → x = y) {x : Int} : ∀ (ps qs : List (List Int)) (out : List Int), qs.length = ps.length → (∀ z ∈ out, 0 ≤ z ∧ z < (N : Int)) → (∀ j : Nat, j < ps.length → (0 ≤ gi (gl ps j) x ∧ gi (gl ps j) x < N) ∧ gi (gl qs j) (φ x) = φ (gi (gl ps j) x)) → qs.foldl (fun o p => push1 o (gi p (φ x))) (out.map φ) = (ps.foldl (fun o p => push1 o (gi p x)) out).map φ
 | [], [], _, _, _, _ => rfl
 | p :: ps, q :: qs, out, hl, ho, h => by
  have h0 : (0 ≤ gi p x ∧ gi p x < N) ∧ gi q (φ x) = φ (gi p x) := h 0 (by simp)
  simp only [List.foldl_cons]
  rw [h0.2, push_map hinj ho h0.1.1 h0.1.2]
  exact fold_map hinj ps qs _ (by simpa using hl) (fun z hz => by
   rcases push1_mem.1 hz with hz | rfl
   ·exact ho z hz
   ·exact h0.1) (fun j hj => by
   have := h (j + 1) (by simpa using hj)
   rw [gl_succ, gl_succ] at this
   exact this)
 | [], _ :: _, _, hl, _, _ => by simp at hl
 | _ :: _, [], _, hl, _, _ => by simp at hl
theorem bfs_map (h : Ism N xss yss φ) (hs : Sys N xss) {pt : Int} : ∀ (f i : Nat) (out : List Int), Good N xss pt out → bfs yss f i (out.map φ) = (bfs xss f i out).map φ
 | 0, _, _, _ => rfl
 | f + 1, i, out, hg => by
  simp only [bfs, List.length_map]
  by_cases hi : i < out.length
  ·rw [if_pos hi, if_pos hi, gi_map hi]
   have hx := gi_in hi
   have hr := hg.range _ hx
   have e : expand yss (φ (gi out i)) (out.map φ) = (expand xss (gi out i) out).map φ := fold_map h.inj xss yss out h.len hg.range (fun j hj => ⟨(hs (gl xss j) (by rw [gl_mem hj]; exact List.getElem_mem _)).2 _ hr.1 hr.2, h.com j _ hj hr.1 hr.2⟩)
   rw [e]
   exact bfs_map h hs f (i + 1) _ (foldl_push hs xss out (fun p hp => hp) hg hx).1
  ·rw [if_neg hi, if_neg hi]
theorem orbit_map (h : Ism N xss yss φ) (hs : Sys N xss) {pt : Int} (h0 : 0 ≤ pt) (h1 : pt < N) : orbit N yss (φ pt) = (orbit N xss pt).map φ := bfs_map h hs (N + 1) 0 [pt] (good_one h0 h1)

theorem form_map (h : Ism N xss yss φ) (hM : Mani xss) (hN : N = (gl xss 0).length) {pt : Int} (h0 : 0 ≤ pt) (h1 : pt < N) : formL N yss (φ pt) = formL N xss pt := by
 have hs := hM.2.2.1.sys
 have hP := hM.prm h0 (by rw [← hN]; exact h1)
 rw [← hN] at hs hP
 have ho := orbit_map h hs h0 h1
 have hP' : Prm N ((orbit N xss pt).map φ) := by
  refine ⟨by rw [List.length_map]; exact hP.len, ?_, fun x hx => ?_⟩
  ·rw [List.nodup_iff_pairwise_ne, List.pairwise_map]
   exact List.Pairwise.imp_of_mem (fun ha hb hab e => hab (h.inj _ _ (hP.range _ ha).1 (hP.range _ ha).2 (hP.range _ hb).1 (hP.range _ hb).2 e)) (List.nodup_iff_pairwise_ne.1 hP.nodup)
  ·obtain ⟨y, hy, rfl⟩ := List.mem_map.1 hx
   exact h.rng y (hP.range y hy).1 (hP.range y hy).2
 have hb : ∀ z : Int, 0 ≤ z → z < N → gi (backI N ((orbit N xss pt).map φ)) (φ z) = gi (backI N (orbit N xss pt)) z := fun z h0 h1 => by
  obtain ⟨k, hk, e1, e2⟩ := hP.backR h0 h1
  have := hP'.back hk
  rw [gi_map (by rw [hP.len]; exact hk), e1] at this
  rw [this, e2]
 unfold formL
 rw [ho]
 apply List.ext_getElem
 ·simp [h.len]
 ·intro i h2 h3
  simp only [List.length_map] at h2 h3
  simp only [List.getElem_map]
  unfold rowF
  rw [List.map_map]
  apply List.map_congr_left
  intro x hx
  have hx := hP.range x hx
  have hr := (hs (gl xss i) (by rw [gl_mem h3]; exact List.getElem_mem _)).2 x hx.1 hx.2
  have hc := h.com i x h3 hx.1 hx.2
  rw [gl_mem h2, gl_mem h3] at hc
  rw [gl_mem h3] at hr
  show gi _ (gi yss[i] (φ x)) = _
  rw [hc, hb _ hr.1 hr.2]

/-! a maniplex and its forms -/
variable {f : Int}
theorem form_ism (hM : Mani xss) (hN : N = (gl xss 0).length) (h0 : 0 ≤ f) (h1 : f < N) : Ism N xss (formL N xss f) (gi (backI N (orbit N xss f))) := by
 have hs := hM.2.2.1.sys
 have hP := hM.prm h0 (by rw [← hN]; exact h1)
 rw [← hN] at hs hP
 refine ⟨formL_len _ _ _, fun x hx hx' => ?_, fun x y hx hx' hy hy' e => ?_, fun i x hi hx hx' => ?_⟩
 ·obtain ⟨k, hk, _, e⟩ := hP.backR hx hx'
  omega
 ·obtain ⟨k, hk, e1, e2⟩ := hP.backR hx hx'
  obtain ⟨j, hj, e3, e4⟩ := hP.backR hy hy'
  have : (k : Int) = j := by omega
  rw [← e1, ← e3, this]
 ·obtain ⟨k, hk, e1, e2⟩ := hP.backR hx hx'
  rw [e2, gl_mem (by rw [formL_len]; exact hi)]
  simp only [formL, List.getElem_map]
  rw [gi_mem (by rw [rowF_len, hP.len]; exact hk)]
  simp only [rowF, List.getElem_map]
  rw [← gi_mem (by rw [hP.len]; exact hk), e1, gl_mem hi]
theorem form_pt (hM : Mani xss) (hN : N = (gl xss 0).length) (h0 : 0 ≤ f) (h1 : f < N) : gi (orbit N xss f) 0 = f ∧ gi (backI N (orbit N xss f)) f = 0 := by
 have hs := hM.2.2.1.sys
 have hP := hM.prm h0 (by rw [← hN]; exact h1)
 rw [← hN] at hs hP
 have e := gi_prefix (orbit_spec hs h0 h1).2.1 (i := 0) (by simp)
 have e : gi (orbit N xss f) 0 = f := e
 refine ⟨e, ?_⟩
 have := hP.back (k := 0) (by omega)
 have this : gi (backI N (orbit N xss f)) (gi (orbit N xss f) 0) = 0 := this
 rwa [e] at this
end
end Go.Proofs.YtjpkmpihmilgoaaGreat.Vc
/-
 Plain mathematics: the tree of partial moves grows every maniplex that has the numbers of its own search, so the least form of a maniplex is in the list. Conditions: as each states them. No program in sight.
-/
namespace Go.Proofs.YtjpkmpihmilgoaaGreat.Vc

section
variable {n F : Nat} {L : List (List Int)}
theorem fold_prefix (x : Int) : ∀ (ps : List (List Int)) (out : List Int), out <+: ps.foldl (fun o p => push1 o (gi p x)) out
 | [], _ => List.prefix_rfl
 | p :: ps, out => (push1_prefix out (gi p x)).trans (fold_prefix x ps _)
theorem bfs_prefix (xss : List (List Int)) : ∀ (k i : Nat) (out : List Int), out <+: bfs xss k i out
 | 0, _, _ => List.prefix_rfl
 | k + 1, i, out => by
  simp only [bfs]
  split
  ·exact (fold_prefix _ xss out).trans (bfs_prefix xss k (i + 1) _)
  ·exact List.prefix_rfl
theorem seqI_prefix {m : Nat} {l : List Int} (h : l <+: seqI m) : l = seqI l.length ∧ l.length ≤ m := by
 have hl := h.length_le
 rw [seqI_len] at hl
 refine ⟨?_, hl⟩
 apply List.ext_getElem
 ·rw [seqI_len]
 ·intro i h1 h2
  have := gi_prefix h h1
  rw [seqI_get (by omega)] at this
  rw [← gi_mem h1, ← this]
  simp [seqI]
theorem push_seq' {m : Nat} {v : Int} (h0 : 0 ≤ v) (h : push1 (seqI m) v <+: seqI F) : v ≤ m ∧ push1 (seqI m) v = seqI (max m (v.toNat + 1)) := by
 have hv : v ≤ m := by
  unfold push1 at h
  by_cases hm : v ∈ seqI m
  ·have := (seqI_mem.1 hm).2; omega
  ·rw [if_neg hm] at h
   have h1 := (seqI_prefix h).1
   rw [List.length_append, seqI_len, List.length_singleton, seqI_succ] at h1
   have := List.append_cancel_left h1
   simp at this
   omega
 exact ⟨hv, push_seq h0 hv⟩
theorem expand_rg (hl : L.length = n) (hn : 0 < n) (hs : Sys F L) {f : Nat} (hf : f < F) (hfm : f < mtL L n (f * n)) (hp : expand L (f : Int) (seqI (mtL L n (f * n))) <+: seqI F) :
  expand L (f : Int) (seqI (mtL L n (f * n))) = seqI (mtL L n ((f + 1) * n)) ∧ ∀ a, f * n ≤ a → a < (f + 1) * n → RG L n a := by
 have e1 : (f + 1) * n = f * n + n := by rw [Nat.succ_mul]
 have key : ∀ j, j ≤ n → (L.take j).foldl (fun o p => push1 o (gi p f)) (seqI (mtL L n (f * n))) = seqI (mtL L n (f * n + j)) ∧ f < mtL L n (f * n + j) ∧ ∀ a, f * n ≤ a → a < f * n + j → RG L n a := by
  intro j
  induction j with
  | zero => intro _; exact ⟨rfl, hfm, fun a h1 h2 => by omega⟩
  | succ j ih =>
   intro hj
   obtain ⟨ih1, ih2, ih3⟩ := ih (by omega)
   have hj' : j < L.length := by omega
   have ha1 : (f * n + j) % n = j := by rw [Nat.mul_comm, Nat.mul_add_mod]; exact Nat.mod_eq_of_lt (by omega)
   have ha2 : (f * n + j) / n = f := by rw [Nat.mul_comm, Nat.mul_add_div hn]; rw [Nat.div_eq_of_lt (by omega)]; omega
   have hc : cell L j (f : Int) = gi (L[j]) f := by
    unfold cell
    rw [show gl L (j : Int) = L[j] by simp [gl, List.getD_eq_getElem?_getD, List.getElem?_eq_getElem hj']]
   have h0 := ((hs L[j] (List.getElem_mem _)).2 f (by omega) (by omega)).1
   have e2 : (L.take (j + 1)).foldl (fun o p => push1 o (gi p f)) (seqI (mtL L n (f * n))) = push1 (seqI (mtL L n (f * n + j))) (gi L[j] f) := by
    rw [List.take_succ_eq_append_getElem hj', List.foldl_append, ih1]
    rfl
   have hpre : (L.take (j + 1)).foldl (fun o p => push1 o (gi p f)) (seqI (mtL L n (f * n))) <+: seqI F := by
    refine List.IsPrefix.trans ?_ hp
    have e3 : expand L (f : Int) (seqI (mtL L n (f * n))) = (L.drop (j + 1)).foldl (fun o p => push1 o (gi p f)) ((L.take (j + 1)).foldl (fun o p => push1 o (gi p f)) (seqI (mtL L n (f * n)))) := by
     rw [← List.foldl_append, List.take_append_drop]
     rfl
    rw [e3]
    exact fold_prefix _ _ _
   rw [e2] at hpre
   have h3 := push_seq' h0 hpre
   have em : mtL L n (f * n + (j + 1)) = max (mtL L n (f * n + j)) ((gi L[j] f).toNat + 1) := by
    show max (mtL L n (f * n + j)) ((cell L ((f * n + j) % n) ((f * n + j) / n : Nat)).toNat + 1) = _
    rw [ha1, ha2, hc]
   refine ⟨by rw [e2, h3.2, em], by rw [em]; omega, fun a h1 h2 => ?_⟩
   by_cases e : a = f * n + j
   ·subst e
    unfold RG
    rw [ha1, ha2, hc]
    exact ⟨h0, h3.1, ih2⟩
   ·exact ih3 a h1 (by omega)
 have := key n (Nat.le_refl _)
 rw [List.take_of_length_le (by omega)] at this
 rw [e1]
 exact ⟨this.1, this.2.2⟩
theorem cells_eq {M L : List (List Int)} (hM : Shp n F M) (hL : Shp n F L) (h : ∀ (i f : Nat), i < n → f < F → cell M i f = cell L i f) : M = L := by
 apply List.ext_getElem
 ·rw [hM.1, hL.1]
 ·intro i h1 h2
  apply List.ext_getElem
  ·rw [hM.2 _ (List.getElem_mem _), hL.2 _ (List.getElem_mem _)]
  ·intro j h3 h4
   have hj := hM.2 _ (List.getElem_mem h1)
   have := h i j (by rw [← hM.1]; exact h1) (by omega)
   unfold cell at this
   rw [gl_mem h1, gl_mem h2, gi_mem h3, gi_mem h4] at this
   exact this

end

section
variable {N : Nat} {xss : List (List Int)} {f : Int}
end
end Go.Proofs.YtjpkmpihmilgoaaGreat.Vc
/-
 The walks of the reference's least form. Conditions: as each states them.
-/
namespace Go.Proofs.YtjpkmpihmilgoaaGreat.Vc
open Go.RowKit

end Go.Proofs.YtjpkmpihmilgoaaGreat.Vc
/-
 The library's IndexFunc and DeleteFunc over a row of structs of one slice, walked for any predicate; the rule of 'clear'. Conditions: the predicate's contract.
-/
namespace Go.Proofs.YtjpkmpihmilgoaaGreat.Vc
open Go.RowKit
section
variable {P : Program} {N : Nat} {ops : Array Oper} {K : Env → World → Prop} {rest : List Oper} {e : Env} {w0 w : World} {ks : List Ck} {d : Nat} {ty : TypeId} {pos : String} {af : Array Edge}
end

def keptI (pd : Nat → Bool) (j : Nat) : List Nat := (List.range j).filter fun x => !pd x
theorem keptI_succ (pd : Nat → Bool) (j : Nat) : keptI pd (j + 1) = if pd j = true then keptI pd j else keptI pd j ++ [j] := by
 unfold keptI
 rw [List.range_succ, List.filter_append]
 by_cases h : pd j = true
 ·rw [if_pos h]; simp [h]
 ·rw [if_neg h]; simp [h]
end Go.Proofs.YtjpkmpihmilgoaaGreat.Vc
/-
 PlaceOf on both sides, and the walk of its law. Conditions: as each states them.
-/
namespace Go.Proofs.YtjpkmpihmilgoaaGreat.Vc
open Go.RowKit
section
variable {P : Program} {N : Nat} {ops : Array Oper} {K : Env → World → Prop} {rest : List Oper} {e : Env} {w0 w : World} {ks : List Ck} {d : Nat} {ty : TypeId} {pos : String} {af : Array Edge}
end

/-! places -/
def fsti (x : Mx) : List Mx → Nat
 | [] => 0
 | y :: l => if y = x then 0 else fsti x l + 1
def Plc (xss : Mx) : Prop := Mani xss ∧ xss.length ≤ 4 ∧ (gl xss 0).length ≤ 12
instance (xss : Mx) : Decidable (Plc xss) := by unfold Plc; exact inferInstance
def plL (xss : Mx) : List Mx := if Plc xss then listL xss.length (gl xss 0).length else []
def plI (xss : Mx) : Nat := fsti (leastL (gl xss 0).length xss) (plL xss)
def plK (xss : Mx) : Int := if ¬ Mani xss then 1 else if Plc xss then 0 else 3
/-- the list of a place, with its memory -/
def PlcS (xss : Mx) (w : World) (A : Option Addr) (c : Nat) (ms : List MatV) (w' : World) : Prop := ms.map (·.xss) = plL xss ∧ (∀ m ∈ ms, m.ok) ∧ St w w' (CkR 32 A ms.length c (ms.map (·.top)) :: matsCk 34 2 ms)
end Go.Proofs.YtjpkmpihmilgoaaGreat.Vc
/-
 Plain mathematics: two flags of a maniplex have the same form exactly if a covering of the maniplex by itself leads one to the other; a search finds such a covering; orbits of flags are as many as forms. Conditions: as each states them. No program in sight.
-/
namespace Go.Proofs.YtjpkmpihmilgoaaGreat.Vc

/-- a covering of a maniplex by itself -/
structure Cov (N : Nat) (xss : List (List Int)) (p : List Int) : Prop where
 len : p.length = N
 rng : ∀ x : Int, 0 ≤ x → x < N → 0 ≤ gi p x ∧ gi p x < N
 com : ∀ (m : Nat) (x : Int), m < xss.length → 0 ≤ x → x < N → gi p (gi (gl xss m) x) = gi (gl xss m) (gi p x)

section
variable {N : Nat} {xss : List (List Int)} {p q : List Int}
theorem Cov.onto (h : Cov N xss p) (hM : Mani xss) (hN : N = (gl xss 0).length) {z : Int} (h0 : 0 ≤ z) (h1 : z < N) : ∃ x : Int, (0 ≤ x ∧ x < N) ∧ gi p x = z := by
 have hs := hM.2.2.1.sys
 have hN2 := hM.2.1
 rw [← hN] at hs
 have hb := h.rng 0 (by omega) (by omega)
 have hr := hM.any (f := gi p 0) (g := z) hb.1 (by omega) h0 (by omega)
 have key : ∀ y, Reach xss (gi p 0) y → ∃ x : Int, (0 ≤ x ∧ x < N) ∧ gi p x = y := by
  intro y hy
  induction hy with
  | refl => exact ⟨0, ⟨by omega, by omega⟩, rfl⟩
  | step _ hm ih =>
   obtain ⟨x, hx, rfl⟩ := ih
   obtain ⟨i, hi, rfl⟩ := List.mem_iff_getElem.1 hm
   have hq := (hs _ hm).2 x hx.1 hx.2
   have hc := h.com i x hi hx.1 hx.2
   rw [gl_mem hi] at hc
   exact ⟨_, hq, hc⟩
 exact key z hr
theorem Cov.inj (h : Cov N xss p) (hM : Mani xss) (hN : N = (gl xss 0).length) : ∀ x y : Int, 0 ≤ x → x < N → 0 ≤ y → y < N → gi p x = gi p y → x = y := by
 intro x y hx hx' hy hy' e
 apply Classical.byContradiction
 intro hne
 obtain ⟨i, rfl⟩ : ∃ i : Nat, x = i := ⟨x.toNat, by omega⟩
 obtain ⟨j, rfl⟩ : ∃ j : Nat, y = j := ⟨y.toNat, by omega⟩
 have hl := h.len
 have hsub := sub_len (seqI N) (p.eraseIdx j) (by
  unfold seqI
  rw [List.nodup_iff_pairwise_ne, List.pairwise_map]
  exact (List.nodup_iff_pairwise_ne.1 List.nodup_range).imp (fun h e => h (by omega))) (fun z hz => by
  have hz := seqI_mem.1 hz
  obtain ⟨u, hu, rfl⟩ := h.onto hM hN hz.1 hz.2
  obtain ⟨k, rfl⟩ : ∃ k : Nat, u = k := ⟨u.toNat, by omega⟩
  rw [List.mem_eraseIdx_iff_getElem]
  by_cases hk : k = j
  ·subst hk
   exact ⟨i, by omega, by omega, by rw [← e, gi_mem (by omega)]⟩
  ·exact ⟨k, by omega, hk, by rw [gi_mem (by omega)]⟩)
 rw [seqI_len, List.length_eraseIdx, if_pos (by omega)] at hsub
 omega
theorem Cov.ism (h : Cov N xss p) (hM : Mani xss) (hN : N = (gl xss 0).length) : Ism N xss xss (gi p) := ⟨rfl, h.rng, h.inj hM hN, fun i x hi hx hx' => (h.com i x hi hx hx').symm⟩
theorem Cov.form (h : Cov N xss p) (hM : Mani xss) (hN : N = (gl xss 0).length) {x : Int} (h0 : 0 ≤ x) (h1 : x < N) : formL N xss (gi p x) = formL N xss x := form_map (h.ism hM hN) hM hN h0 h1
/-- the same form: a covering leads from one flag to the other -/
theorem form_cov (hM : Mani xss) (hN : N = (gl xss 0).length) {f g : Int} (h0 : 0 ≤ f) (h1 : f < N) (h2 : 0 ≤ g) (h3 : g < N) (e : formL N xss f = formL N xss g) : ∃ p, Cov N xss p ∧ gi p f = g := by
 have hs := hM.2.2.1.sys
 have hPf := hM.prm h0 (by rw [← hN]; exact h1)
 have hPg := hM.prm h2 (by rw [← hN]; exact h3)
 rw [← hN] at hs hPf hPg
 have hIf := form_ism hM hN h0 h1
 have hIg := form_ism hM hN h2 h3
 have hget : ∀ x : Int, 0 ≤ x → x < N → gi ((List.range N).map fun x : Nat => gi (orbit N xss g) (gi (backI N (orbit N xss f)) (x : Int))) x = gi (orbit N xss g) (gi (backI N (orbit N xss f)) x) := fun x hx hx' => by
  obtain ⟨k, rfl⟩ : ∃ k : Nat, x = k := ⟨x.toNat, by omega⟩
  rw [gi_mem (by simp; omega)]
  simp
 have hr : ∀ x : Int, 0 ≤ x → x < N → 0 ≤ gi (orbit N xss g) (gi (backI N (orbit N xss f)) x) ∧ gi (orbit N xss g) (gi (backI N (orbit N xss f)) x) < N := fun x hx hx' => by
  obtain ⟨k, hk, _, e2⟩ := hPf.backR hx hx'
  rw [e2]
  exact hPg.rng hk
 have hb : ∀ x : Int, 0 ≤ x → x < N → gi (backI N (orbit N xss g)) (gi (orbit N xss g) (gi (backI N (orbit N xss f)) x)) = gi (backI N (orbit N xss f)) x := fun x hx hx' => by
  obtain ⟨k, hk, _, e2⟩ := hPf.backR hx hx'
  rw [e2, hPg.back hk]
 refine ⟨(List.range N).map fun x : Nat => gi (orbit N xss g) (gi (backI N (orbit N xss f)) (x : Int)), ⟨by simp, fun x hx hx' => by rw [hget x hx hx']; exact hr x hx hx', fun m x hm hx hx' => ?_⟩, ?_⟩
 ·have hin : ∀ x : Int, 0 ≤ x → x < N → 0 ≤ gi (gl xss m) x ∧ gi (gl xss m) x < N := (hs (gl xss m) (by rw [gl_mem hm]; exact List.getElem_mem _)).2
  have hx1 := hin x hx hx'
  have hy := hr x hx hx'
  have hy1 := hin _ hy.1 hy.2
  have hz := hr _ hx1.1 hx1.2
  rw [hget x hx hx', hget _ hx1.1 hx1.2]
  apply hIg.inj _ _ hz.1 hz.2 hy1.1 hy1.2
  rw [hb _ hx1.1 hx1.2, ← hIf.com m x hm hx hx', ← hIg.com m _ hm hy.1 hy.2, hb x hx hx', e]
 ·rw [hget f h0 h1, (form_pt hM hN h0 h1).2]
  exact (form_pt hM hN h2 h3).1

/-- all coverings -/
structure AllCov (N : Nat) (xss ps : List (List Int)) : Prop where
 cov : ∀ p ∈ ps, Cov N xss p
 all : ∀ p, Cov N xss p → p ∈ ps
variable {ps : List (List Int)}
theorem AllCov.sys (h : AllCov N xss ps) : Sys N ps := fun p hp => ⟨(h.cov p hp).len, (h.cov p hp).rng⟩
theorem AllCov.reach (h : AllCov N xss ps) (hM : Mani xss) (hN : N = (gl xss 0).length) {f g : Int} (h0 : 0 ≤ f) (h1 : f < N) (h2 : 0 ≤ g) (h3 : g < N) : Reach ps f g ↔ formL N xss f = formL N xss g := by
 constructor
 ·intro hr
  have key : ∀ y, Reach ps f y → (0 ≤ y ∧ y < N) ∧ formL N xss f = formL N xss y := by
   intro y hy
   induction hy with
   | refl => exact ⟨⟨h0, h1⟩, rfl⟩
   | step _ hm ih =>
    obtain ⟨hx, e⟩ := ih
    have hc := h.cov _ hm
    exact ⟨hc.rng _ hx.1 hx.2, by rw [e, hc.form hM hN hx.1 hx.2]⟩
  exact (key g hr).2
 ·intro e
  obtain ⟨p, hp, rfl⟩ := form_cov hM hN h0 h1 h2 h3 e
  exact .step .refl (h.all p hp)
theorem fset_mem {m : List (List Int)} : ∀ k, m ∈ fset N xss k ↔ ∃ j : Nat, j < k ∧ m = formL N xss (j : Int)
 | 0 => by simp [fset]
 | k + 1 => by
  have ih := fset_mem (m := m) k
  simp only [fset]
  split
  ·rename_i hk
   rw [ih]
   constructor
   ·rintro ⟨j, hj, e⟩; exact ⟨j, by omega, e⟩
   ·rintro ⟨j, hj, e⟩
    by_cases e2 : j = k
    ·subst e2
     rw [← e] at hk
     exact ih.1 hk
    ·exact ⟨j, by omega, e⟩
  ·rw [List.mem_append, ih]
   constructor
   ·rintro (⟨j, hj, e⟩ | h)
    ·exact ⟨j, by omega, e⟩
    ·exact ⟨k, by omega, by simpa using h⟩
   ·rintro ⟨j, hj, e⟩
    by_cases e2 : j = k
    ·subst e2; exact .inr (by simp [e])
    ·exact .inl ⟨j, by omega, e⟩
end

/-! the search for a covering -/
structure CI (N : Nat) (xss : List (List Int)) (b : Int) (i k : Nat) (L Q : List Int) : Prop where
 len : L.length = N
 val : ∀ x : Int, 0 ≤ x → x < N → (gi L x = -1 ∧ x ∉ Q) ∨ ((0 ≤ gi L x ∧ gi L x < N) ∧ x ∈ Q)
 nod : Q.Nodup
 rng : ∀ x ∈ Q, 0 ≤ x ∧ x < (N : Int)
 q0 : (0 : Int) ∈ Q
 l0 : gi L 0 = b
 le : i ≤ Q.length
 done : ∀ j, j < i → ∀ m, m < xss.length → gi L (gi (gl xss m) (gi Q (j : Int))) = gi (gl xss m) (gi L (gi Q (j : Int)))
 part : ∀ m, m < k → gi L (gi (gl xss m) (gi Q (i : Int))) = gi (gl xss m) (gi L (gi Q (i : Int)))
 uniq : ∀ q, Cov N xss q → gi q 0 = b → ∀ x ∈ Q, gi L x = gi q x

section
variable {N : Nat} {xss : List (List Int)} {b : Int} {i k : Nat} {L Q : List Int}
end
end Go.Proofs.YtjpkmpihmilgoaaGreat.Vc
/-
 The walk of the search for a covering of a maniplex by itself. Conditions: as it states them.
-/
namespace Go.Proofs.YtjpkmpihmilgoaaGreat.Vc
open Go.RowKit

end Go.Proofs.YtjpkmpihmilgoaaGreat.Vc
/-
 The walks of all coverings of a maniplex by itself and of its orbits of flags. Conditions: as each states them.
-/
namespace Go.Proofs.YtjpkmpihmilgoaaGreat.Vc
open Go.RowKit

end Go.Proofs.YtjpkmpihmilgoaaGreat.Vc
/-
 OrbitCounts on both sides, and the walk of its law. Conditions: none.
-/
namespace Go.Proofs.YtjpkmpihmilgoaaGreat.Vc
open Go.RowKit

/-! plain: how many have so many orbits -/
def bump (acc : List Int) (k : Nat) : List Int := acc.set ((k : Int) - 1).toNat (gi acc ((k : Int) - 1) + 1)
def cntL (F : Nat) (ls : List Mx) : List Int := ls.foldl (fun acc m => bump acc (orbN F m)) (List.replicate F 0)
theorem cntL_snoc (F : Nat) (ls : List Mx) (m : Mx) : cntL F (ls ++ [m]) = bump (cntL F ls) (orbN F m) := by simp [cntL, List.foldl_append]
theorem orb_bd {F : Nat} {m : Mx} (hF : 0 < F) (ho : Own1 F m) : 1 ≤ orbN F m ∧ orbN F m ≤ F := by
 have h1 := fset_le F m F
 have h2 : formL F m ((0 : Nat) : Int) ∈ fset F m F := (fset_mem F).2 ⟨0, hF, rfl⟩
 have h3 := List.length_pos_of_mem h2
 rw [orbN, if_pos ho]
 omega
theorem cntL_bd {F : Nat} (hF : 0 < F) : ∀ (r : List Mx), (∀ m ∈ r, Own1 F m) → (cntL F r.reverse).length = F ∧ ∀ x : Int, 0 ≤ x → x < F → 0 ≤ gi (cntL F r.reverse) x ∧ gi (cntL F r.reverse) x ≤ (r.length : Nat)
 | [], _ => ⟨by simp [cntL], fun x h0 h1 => by
  show 0 ≤ gi (List.replicate F 0) x ∧ gi (List.replicate F 0) x ≤ _
  rw [gi_rep h0 h1]
  exact ⟨Int.le_refl _, Int.natCast_nonneg _⟩⟩
 | m :: r, h => by
  obtain ⟨ih1, ih2⟩ := cntL_bd hF r (fun x hx => h x (List.mem_cons_of_mem _ hx))
  have hb := orb_bd hF (h m List.mem_cons_self)
  rw [List.reverse_cons, cntL_snoc]
  unfold bump
  refine ⟨by rw [List.length_set]; exact ih1, fun x h0 h1 => ?_⟩
  rw [gi_set (by omega) (by omega) h0, List.length_cons]
  have h3 := ih2 ((orbN F m : Int) - 1) (by omega) (by omega)
  have h4 := ih2 x h0 h1
  split <;> omega
def ocL (rank flags : Int) : List Int := if Small rank flags then cntL flags.toNat (lstI rank flags) else []
end Go.Proofs.YtjpkmpihmilgoaaGreat.Vc
/-
 RegularManiplexes on both sides, and the walk of its law. Conditions: none.
-/
namespace Go.Proofs.YtjpkmpihmilgoaaGreat.Vc
open Go.RowKit

def regL (rank flags : Int) : List Mx := (lstI rank flags).filter fun L => decide (orbN flags.toNat L = 1)
def regV (F : Nat) (ms : List MatV) : List MatV := ms.filter fun m => decide (orbN F m.xss = 1)
theorem regV_snoc {F : Nat} {ms : List MatV} {i : Nat} (hi : i < ms.length) : regV F (ms.take (i + 1)) = if orbN F (ms[i]).xss = 1 then regV F (ms.take i) ++ [ms[i]] else regV F (ms.take i) := by
 unfold regV
 rw [List.take_succ_eq_append_getElem hi, List.filter_append]
 by_cases h : orbN F (ms[i]).xss = 1
 ·rw [if_pos h]; simp [h]
 ·rw [if_neg h]; simp [h]
end Go.Proofs.YtjpkmpihmilgoaaGreat.Vc
/-
 Plain mathematics of a census: what lists there are, in ascending order, and how often; put in one by one, or grouped from a sorted list. Conditions: as each states them. No program in sight.
-/
namespace Go.Proofs.YtjpkmpihmilgoaaGreat.Vc

abbrev Cs := List (List Int × Int)
def insP : Cs → List Int → Cs
  | [], x => [(x, 1)]
  | (y, n) :: R, x => if lexC y x < 0 then (y, n) :: insP R x else if y = x then (y, n + 1) :: R else (x, 1) :: (y, n) :: R
def SrtK (R : Cs) : Prop := R.Pairwise fun a b => lexC a.1 b.1 < 0
/-- what stands in a census after one more -/
def UpdM (R : Cs) (x y : List Int) (n : Int) : Prop := (y ≠ x ∧ (y, n) ∈ R) ∨ (y = x ∧ ((∃ m, (x, m) ∈ R ∧ n = m + 1) ∨ ((∀ m, (x, m) ∉ R) ∧ n = 1)))
theorem lexC_ne {a b : List Int} (h : lexC a b < 0) : a ≠ b := fun e => by
 rw [lexC_zero.2 e] at h
 omega
theorem lexC_tri {a b : List Int} (h : ¬ lexC a b < 0) (h' : a ≠ b) : lexC b a < 0 := by
 have h1 := lexC_swap a b
 have h2 : lexC a b ≠ 0 := fun e => h' (lexC_zero.1 e)
 omega
theorem insP_mem : ∀ {R : Cs}, SrtK R → ∀ (x y : List Int) (n : Int), (y, n) ∈ insP R x ↔ UpdM R x y n
  | [], _, x, y, n => by
    unfold UpdM
    simp [insP]
  | (z, k) :: R, h, x, y, n => by
    obtain ⟨h1, h2⟩ := List.pairwise_cons.1 h
    have ih := insP_mem h2 x y n
    simp only [insP]
    by_cases hz : lexC z x < 0
    · have hne := lexC_ne hz
      rw [if_pos hz, List.mem_cons, ih]
      unfold UpdM
      have e1 : ∀ m, (x, m) ∈ (z, k) :: R ↔ (x, m) ∈ R := fun m => by
        rw [List.mem_cons]
        exact ⟨fun h => h.elim (fun e => absurd (Prod.mk.inj e).1.symm hne) id, .inr⟩
      simp only [e1]
      by_cases hy : y = x
      · subst hy
        have e2 : ¬ (y, n) = (z, k) := fun e => hne (Prod.mk.inj e).1.symm
        simp [e2]
      · simp [hy]
    · rw [if_neg hz]
      by_cases e : z = x
      · subst e
        rw [if_pos rfl, List.mem_cons]
        have hno : ∀ m, (z, m) ∉ R := fun m hm => lexC_ne (h1 _ hm) rfl
        unfold UpdM
        by_cases hy : y = z
        · subst hy
          constructor
          · rintro (e | hm)
            · exact .inr ⟨rfl, .inl ⟨k, by simp, (Prod.mk.inj e).2⟩⟩
            · exact absurd hm (hno n)
          · rintro (⟨h3, _⟩ | ⟨_, ⟨m, hm, hn⟩ | ⟨hn, _⟩⟩)
            · exact absurd rfl h3
            · rcases List.mem_cons.1 hm with e | hm
              · left
                rw [hn, (Prod.mk.inj e).2]
              · exact absurd hm (hno m)
            · exact absurd List.mem_cons_self (hn k)
        · have e2 : ∀ j, ¬ (y, n) = (z, j) := fun j e => hy (Prod.mk.inj e).1
          simp [hy]
      · rw [if_neg e, List.mem_cons]
        have hzx := lexC_tri hz e
        have hno : ∀ m, (x, m) ∉ (z, k) :: R := fun m hm => by
          rcases List.mem_cons.1 hm with e2 | hm
          · exact e (Prod.mk.inj e2).1.symm
          · exact lexC_ne (lexC_trans hzx (h1 _ hm)) rfl
        unfold UpdM
        by_cases hy : y = x
        · subst hy
          constructor
          · rintro (e2 | hm)
            · exact .inr ⟨rfl, .inr ⟨hno, (Prod.mk.inj e2).2⟩⟩
            · exact absurd hm (hno n)
          · rintro (⟨h3, _⟩ | ⟨_, ⟨m, hm, _⟩ | ⟨_, hn⟩⟩)
            · exact absurd rfl h3
            · exact absurd hm (hno m)
            · exact .inl (by rw [hn])
        · constructor
          · rintro (e2 | hm)
            · exact absurd (Prod.mk.inj e2).1 hy
            · exact .inl ⟨hy, hm⟩
          · rintro (⟨_, hm⟩ | ⟨h3, _⟩)
            · exact .inr hm
            · exact absurd h3 hy
theorem insP_srt : ∀ {R : Cs}, SrtK R → ∀ x : List Int, SrtK (insP R x)
  | [], _, x => by simp [insP, SrtK]
  | (z, k) :: R, h, x => by
    obtain ⟨h1, h2⟩ := List.pairwise_cons.1 h
    have ih := insP_srt h2 x
    simp only [insP]
    by_cases hz : lexC z x < 0
    · rw [if_pos hz]
      refine List.pairwise_cons.2 ⟨fun ⟨y, n⟩ hy => ?_, ih⟩
      rcases (insP_mem h2 x y n).1 hy with ⟨_, hm⟩ | ⟨e, _⟩
      · exact h1 _ hm
      · subst e; exact hz
    · rw [if_neg hz]
      by_cases e : z = x
      · rw [if_pos e]
        exact List.pairwise_cons.2 ⟨h1, h2⟩
      · rw [if_neg e]
        have hzx := lexC_tri hz e
        refine List.pairwise_cons.2 ⟨fun y hy => ?_, h⟩
        rcases List.mem_cons.1 hy with rfl | hy
        · exact hzx
        · exact lexC_trans hzx (h1 y hy)

/-- the census of a list -/
def CenOf (R : Cs) (l : List (List Int)) : Prop := SrtK R ∧ ∀ (y : List Int) (n : Int), (y, n) ∈ R ↔ (y ∈ l ∧ n = (l.count y : Nat))
theorem CenOf.nil : CenOf [] [] := ⟨List.Pairwise.nil, fun y n => by simp⟩
theorem CenOf.step {R R' : Cs} {l : List (List Int)} {x : List Int} (h : CenOf R l) (hs : SrtK R') (hm : ∀ y n, (y, n) ∈ R' ↔ UpdM R x y n) : CenOf R' (l ++ [x]) := by
 refine ⟨hs, fun y n => ?_⟩
 rw [hm]
 unfold UpdM
 simp only [h.2]
 rw [List.count_append, List.mem_append, List.mem_singleton]
 by_cases hy : y = x
 ·subst hy
  rw [show List.count y [y] = 1 by simp]
  by_cases hl : y ∈ l
  ·constructor
   ·rintro (⟨h3, _⟩ | ⟨_, ⟨m, ⟨_, h4⟩, h5⟩ | ⟨h4, _⟩⟩)
    ·exact absurd rfl h3
    ·exact ⟨.inr rfl, by omega⟩
    ·exact absurd ⟨hl, rfl⟩ (h4 (l.count y : Nat))
   ·rintro ⟨_, h4⟩
    exact .inr ⟨rfl, .inl ⟨(l.count y : Nat), ⟨hl, rfl⟩, by omega⟩⟩
  ·have h0 : l.count y = 0 := List.count_eq_zero.2 hl
   constructor
   ·rintro (⟨h3, _⟩ | ⟨_, ⟨m, ⟨h4, _⟩, _⟩ | ⟨_, h5⟩⟩)
    ·exact absurd rfl h3
    ·exact absurd h4 hl
    ·exact ⟨.inr rfl, by omega⟩
   ·rintro ⟨_, h4⟩
    exact .inr ⟨rfl, .inr ⟨fun m hm => hl hm.1, by omega⟩⟩
 ·have e1 : List.count y [x] = 0 := List.count_eq_zero.2 (by simpa using hy)
  rw [e1, Nat.add_zero]
  constructor
  ·rintro (⟨_, h3⟩ | ⟨h3, _⟩)
   ·exact ⟨.inl h3.1, h3.2⟩
   ·exact absurd h3 hy
  ·rintro ⟨h3 | h3, h4⟩
   ·exact .inl ⟨hy, h3, h4⟩
   ·exact absurd h3 hy
/-! put in one by one -/
def csS (l : List (List Int)) : Cs := l.foldl insP []
theorem csS_snoc (l : List (List Int)) (x : List Int) : csS (l ++ [x]) = insP (csS l) x := by simp [csS, List.foldl_append]
/-- the first place that is not ahead -/
def atP (x : List Int) : Cs → Nat
  | [] => 0
  | (y, _) :: R => if lexC y x < 0 then atP x R + 1 else 0
/-! grouped -/
end Go.Proofs.YtjpkmpihmilgoaaGreat.Vc
/-
 The walks of the numbers of faces on both sides. Conditions: as each states them.
-/
namespace Go.Proofs.YtjpkmpihmilgoaaGreat.Vc
open Go.RowKit

/-- the numbers of faces -/
def cntF (xss : List (List Int)) : List Int := (List.range xss.length).map fun i => facesN xss i
end Go.Proofs.YtjpkmpihmilgoaaGreat.Vc
/-
 CensusOf on both sides. Conditions: as each states them.
-/
namespace Go.Proofs.YtjpkmpihmilgoaaGreat.Vc
open Go.RowKit

/-- an element of a census, with its memory -/
structure CE where
 s : SlV
 xs : List Int
 v : Int
def CE.cv (e : CE) : CV := ⟨e.s, e.v⟩
def CE.ck (t : TypeId) (e : CE) : Ck := CkI t e.s.a e.s.n e.s.c e.xs
def CE.pr (e : CE) : List Int × Int := (e.xs, e.v)
def insE (e : CE) (a : Nat) (es : List CE) : List CE := es.take a ++ e :: es.drop a
/-- an answer: a census, and a code -/
def AnsC (L : Cs) (K : Int) (w : World) (v : Value) (w' : World) : Prop := ∃ A c, ∃ es : List CE, v = .tuple #[.slice A es.length c, .int .i64 K] ∧ es.map CE.pr = L ∧ St w w' (CkC 43 A es.length c (es.map CE.cv) :: es.map (CE.ck 2))
def cnR (rank flags : Int) : Cs := csS ((lstI rank flags).map cntF)
section
variable {w0 w : World} {ks : List Ck} {A : Option Addr} {q : Nat} {es : List CE}
end
end Go.Proofs.YtjpkmpihmilgoaaGreat.Vc
/-
 Plain: the rooted forms are the forms of the listed maniplexes, each once; sums over the orbits; the census. Conditions: none.
-/
namespace Go.Proofs.YtjpkmpihmilgoaaGreat.Vc
open Go.RowKit

/-! the tree has no leaf twice -/
theorem nodup_flat {α β : Type} {f : α → List β} {l : List α} (h1 : ∀ a ∈ l, (f a).Nodup) (h2 : l.Pairwise fun a b => ∀ x ∈ f a, ∀ y ∈ f b, x ≠ y) : (l.flatMap f).Nodup := by
 rw [List.nodup_iff_pairwise_ne, List.pairwise_flatMap]
 exact ⟨fun a ha => List.nodup_iff_pairwise_ne.1 (h1 a ha), h2⟩
/-! a form has the forms of its maniplex -/
section
variable {N : Nat} {xss : Mx} {f : Int}
end

/-! sums -/
def sumI : List Int → Int
 | [] => 0
 | x :: l => x + sumI l
theorem sumI_app : ∀ a b : List Int, sumI (a ++ b) = sumI a + sumI b
 | [], b => by simp [sumI]
 | x :: a, b => by simp [sumI, sumI_app a b, Int.add_assoc]
/-- weighted with the place -/
def wgt : Nat → List Int → Int
 | _, [] => 0
 | j, x :: l => x * ((j : Int) + 1) + wgt (j + 1) l
theorem gi_cons0 (x : Int) (l : List Int) : gi (x :: l) (0 : Nat) = x := rfl
theorem gi_cons1 (x : Int) (l : List Int) (i : Nat) : gi (x :: l) ((i + 1 : Nat) : Int) = gi l (i : Nat) := by simp [gi]
theorem sumI_set : ∀ (l : List Int) (i : Nat), i < l.length → sumI (l.set i (gi l (i : Nat) + 1)) = sumI l + 1
 | x :: l, 0, _ => by rw [gi_cons0]; simp only [List.set_cons_zero, sumI]; omega
 | x :: l, i + 1, h => by
  rw [gi_cons1]
  simp only [List.set_cons_succ, sumI]
  rw [sumI_set l i (by simpa using h)]
  omega
theorem wgt_set : ∀ (l : List Int) (j i : Nat), i < l.length → wgt j (l.set i (gi l (i : Nat) + 1)) = wgt j l + ((j : Int) + i + 1)
 | x :: l, j, 0, _ => by rw [gi_cons0]; simp only [List.set_cons_zero, wgt]; rw [Int.add_mul]; omega
 | x :: l, j, i + 1, h => by
  rw [gi_cons1]
  simp only [List.set_cons_succ, wgt]
  rw [wgt_set l (j + 1) i (by simpa using h)]
  omega
theorem bump_sum {acc : List Int} {k : Nat} (h1 : 1 ≤ k) (h2 : k ≤ acc.length) : sumI (bump acc k) = sumI acc + 1 ∧ wgt 0 (bump acc k) = wgt 0 acc + k := by
 obtain ⟨j, rfl⟩ : ∃ j, k = j + 1 := ⟨k - 1, by omega⟩
 have e : ((j + 1 : Nat) : Int) - 1 = (j : Nat) := by omega
 unfold bump
 rw [e, Int.toNat_natCast, sumI_set _ _ (by omega), wgt_set _ _ _ (by omega)]
 refine ⟨rfl, by omega⟩
theorem sumI_rep (F : Nat) : sumI (List.replicate F 0) = 0 := by
 induction F with
 | zero => rfl
 | succ n ih => simp [List.replicate_succ, sumI, ih]
theorem wgt_rep (F : Nat) : ∀ j, wgt j (List.replicate F 0) = 0 := by
 induction F with
 | zero => intro j; rfl
 | succ n ih => intro j; simp [List.replicate_succ, wgt, ih]
/-! the census -/
def sumC : Cs → Int
  | [] => 0
  | (_, n) :: R => n + sumC R
/-! what a listed one answers -/
end Go.Proofs.YtjpkmpihmilgoaaGreat.Vc
/-
 The draws of a rank and a number of flags; helpers of the laws. Conditions: as each states them.
-/
namespace Go.Proofs.YtjpkmpihmilgoaaGreat.Vc
open Go.RowKit

theorem big_c (Ac : Option Addr) (nc cc : Nat) (w : World) : Ret Tryz.prog 6 [.slice Ac nc cc] w (fun v w' => v = .bool (decide (4096 < (nc : Int))) ∧ St w w' []) := by
 refine Ret.of_cd Tryz.func6 rfl Tryz.ntmps6 rfl (post1 rfl) ?_
 refine Cd.seq ?_
 refine Cd.region ?_
 refine Ops.mv_bool rfl rfl rfl ?_
 refine Ops.nil ?_
 refine thenQ_n ?_
 refine Cd.seq ?_
 refine Cd.region ?_
 refine Ops.mv_sl rfl rfl rfl ?_
 refine Ops.len rfl rfl ?_
 refine Ops.gtr rfl rfl rfl ?_
 refine Ops.mv_bool rfl rfl rfl ?_
 refine Ops.nil ?_
 refine thenQ_n ?_
 refine Cd.ret ?_
 refine ret1_b rfl ?_
 exact ⟨rfl, St.refl w⟩

theorem likeInts_c (A : Option Addr) (n c : Nat) (xs : List Int) (B : Option Addr) (m cB : Nat) (ys : List Int) (w : World) (hX : RdI w A n xs) (hY : RdI w B m ys) (hn : n ≤ 9223372036854775806) :
  Ret Tryz.prog 27 [.slice A n c, .slice B m cB] w (fun v w' => v = .bool (decide (xs = ys)) ∧ St w w' []) := by
 have hxl := hX.1
 have hyl := hY.1
 refine Ret.of_cd Tryz.func27 rfl Tryz.ntmps27 rfl (post1 rfl) ?_
 refine Cd.seq ?_
 refine Cd.region ?_
 refine Ops.mv_bool rfl rfl rfl ?_
 refine Ops.nil ?_
 refine thenQ_n ?_
 refine Cd.seq ?_
 refine Cd.seq ?_
 refine Cd.region ?_
 refine Ops.mv_sl rfl rfl rfl ?_
 refine Ops.len rfl rfl ?_
 refine Ops.mv_sl rfl rfl rfl ?_
 refine Ops.len rfl rfl ?_
 refine Ops.neq rfl rfl rfl ?_
 refine Ops.nil ?_
 refine thenQ_n ?_
 refine Cd.cond_p _ rfl (fun h1 => ?_) (fun h1 => ?_)
 ·have hne : xs ≠ ys := fun e => h1 (by rw [← hxl, ← hyl, e])
  refine Cd.seq ?_
  refine Cd.region ?_
  refine Ops.mv_bool rfl rfl rfl ?_
  refine Ops.nil ?_
  refine thenQ_n ?_
  refine Cd.ret ?_
  refine thenQ_r ?_
  refine ret1_b rfl ?_
  exact ⟨by rw [decide_eq_false hne], St.refl w⟩
 ·have hnm : n = m := by omega
  subst hnm
  refine Cd.skip ?_
  refine thenQ_n ?_
  refine Cd.seq ?_
  refine Cd.seq ?_
  refine Cd.region ?_
  refine Ops.mv_int rfl rfl rfl ?_
  refine Ops.nil ?_
  refine thenQ_n ?_
  refine Cd.block ?_
  refine Cd.loop (α := Nat) (fun i => [(0, .slice A n c), (1, .slice B n cB), (5, .int .i64 (i : Int))]) (fun i w' => St w w' [] ∧ i ≤ n ∧ ∀ j, j < i → xs[j]? = ys[j]?) (fun i => n - i) 0 ⟨rfl, rfl, rfl, trivial⟩ ⟨St.refl w, Nat.zero_le _, fun j hj => absurd hj (Nat.not_lt_zero _)⟩ ?_
  rintro i e w1 ⟨hS1, hi, hj⟩
  have hX1 := hS1.oldI hX
  have hY1 := hS1.oldI hY
  refine Cd.seq ?_
  refine Cd.seq ?_
  refine Cd.region ?_
  refine Ops.mv_int rfl rfl rfl ?_
  refine Ops.mv_sl rfl rfl rfl ?_
  refine Ops.len rfl rfl ?_
  refine Ops.lss rfl rfl rfl ?_
  refine Ops.nil ?_
  refine thenQ_n ?_
  refine Cd.cond_p _ rfl (fun h2 => ?_) (fun h2 => ?_)
  ·refine Cd.skip ?_
   refine thenQ_n ?_
   refine Cd.seq ?_
   refine Cd.block ?_
   refine Cd.seq ?_
   refine Cd.draw [.ex (.slice (A) (n) (c)), .ex (.int .i64 ((i : Int))), .ex (.pointer (ptrAt (A) ((i : Int)).toNat)), .ex (.int .i64 (gi (xs) ((i : Int)))), .ex (.slice (B) (n) (cB)), .ex (.int .i64 ((i : Int))), .ex (.pointer (ptrAt (B) ((i : Int)).toNat)), .ex (.int .i64 (gi (ys) ((i : Int)))), .ex (.bool (decide (¬ (gi (xs) ((i : Int))) = (gi (ys) ((i : Int))))))] (by kernel_rfl) (by kernel_rfl) rfl (List.forall_mem_cons.2 ⟨Yd.lasts_ex _, (List.forall_mem_cons.2 ⟨Yd.lasts_ex _, (List.forall_mem_cons.2 ⟨Yd.lasts_ex _, (List.forall_mem_cons.2 ⟨Yd.lasts_ex _, (List.forall_mem_cons.2 ⟨Yd.lasts_ex _, (List.forall_mem_cons.2 ⟨Yd.lasts_ex _, (List.forall_mem_cons.2 ⟨Yd.lasts_ex _, (List.forall_mem_cons.2 ⟨Yd.lasts_ex _, (List.forall_mem_cons.2 ⟨Yd.lasts_ex _, (fun _ h => by cases h)⟩)⟩)⟩)⟩)⟩)⟩)⟩)⟩)⟩) ⟨?_, ?_, ?_, ?_, ?_, ?_, ?_, ?_, ?_, trivial⟩ ?_
   ·intro e1 w1 hb hp hun
    refine Ops.mv_sl rfl rfl rfl ?_
    refine Ops.nil ?_
    exact After.dn (Below.refl _ _) (by exact rfl)
   ·intro e1 w1 hb hp hun
    refine Ops.mv_int rfl rfl rfl ?_
    refine Ops.nil ?_
    exact After.dn (Below.refl _ _) (by exact rfl)
   ·intro e1 w1 hb hp hun
    refine Ops.idx (hX1.later hb).2 rfl rfl rfl (by omega) (by omega) ?_
    refine Ops.nil ?_
    exact After.dn (Below.refl _ _) (by exact rfl)
   ·intro e1 w1 hb hp hun
    refine Ops.ld_int (hX1.later hb) rfl (by omega) rfl rfl ?_
    refine Ops.nil ?_
    exact After.dn (Below.refl _ _) (by exact rfl)
   ·intro e1 w1 hb hp hun
    refine Ops.mv_sl rfl rfl rfl ?_
    refine Ops.nil ?_
    exact After.dn (Below.refl _ _) (by exact rfl)
   ·intro e1 w1 hb hp hun
    refine Ops.mv_int rfl rfl rfl ?_
    refine Ops.nil ?_
    exact After.dn (Below.refl _ _) (by exact rfl)
   ·intro e1 w1 hb hp hun
    refine Ops.idx (hY1.later hb).2 rfl rfl rfl (by omega) (by omega) ?_
    refine Ops.nil ?_
    exact After.dn (Below.refl _ _) (by exact rfl)
   ·intro e1 w1 hb hp hun
    refine Ops.ld_int (hY1.later hb) rfl (by omega) rfl rfl ?_
    refine Ops.nil ?_
    exact After.dn (Below.refl _ _) (by exact rfl)
   ·intro e1 w1 hb hp hun
    refine Ops.neq rfl rfl rfl ?_
    refine Ops.nil ?_
    exact After.dn (Below.refl _ _) (by exact rfl)
   intro u w2 hb2 _
   have hS2 := hS1.later hb2
   refine thenQ_n ?_
   refine Cd.cond_p _ rfl (fun h3 => ?_) (fun h3 => ?_)
   ·have hne : xs ≠ ys := fun e => h3 (by rw [e])
    refine Cd.seq ?_
    refine Cd.region ?_
    refine Ops.mv_bool rfl rfl rfl ?_
    refine Ops.nil ?_
    refine thenQ_n ?_
    refine Cd.ret ?_
    refine blockQ_r ?_
    refine thenQ_r ?_
    refine thenQ_r ?_
    refine blockQ_r ?_
    refine thenQ_r ?_
    refine ret1_b rfl ?_
    exact ⟨by rw [decide_eq_false hne], hS2⟩
   ·have h3 := Decidable.not_not.1 h3
    rw [gi_mem (by omega), gi_mem (by omega)] at h3
    refine Cd.skip ?_
    refine blockQ_n ?_
    refine thenQ_n ?_
    refine Cd.region ?_
    refine Ops.mv_int rfl rfl rfl ?_
    refine Ops.add rfl rfl rfl (by omega) ?_
    refine Ops.mv_int rfl rfl rfl ?_
    refine Ops.nil ?_
    refine thenQ_n ?_
    refine ⟨i + 1, by show n - (i + 1) < n - i; omega, ⟨rfl, rfl, rfl, trivial⟩, hS2, by omega, fun j hj' => ?_⟩
    by_cases e : j = i
    ·subst e; rw [List.getElem?_eq_getElem (by omega), List.getElem?_eq_getElem (by omega), h3]
    ·exact hj j (by omega)
  ·have he : xs = ys := List.ext_getElem? fun j => by
    by_cases hjn : j < n
    ·exact hj j (by omega)
    ·rw [List.getElem?_eq_none (by omega), List.getElem?_eq_none (by omega)]
   refine Cd.exit ?_
   refine thenQ_x ?_
   refine thenQ_x ?_
   refine blockQ_x ?_
   refine thenQ_n ?_
   refine Cd.seq ?_
   refine Cd.region ?_
   refine Ops.mv_bool rfl rfl rfl ?_
   refine Ops.nil ?_
   refine thenQ_n ?_
   refine Cd.ret ?_
   refine ret1_b rfl ?_
   exact ⟨by rw [decide_eq_true he], hS1⟩

theorem sumI_take {l : List Int} {i : Nat} (h : i < l.length) : sumI (l.take (i + 1)) = sumI (l.take i) + gi l (i : Int) := by
 rw [List.take_succ_eq_append_getElem h, sumI_app, gi_mem h]; simp [sumI]
theorem sumI_bd : ∀ (l : List Int), (∀ x ∈ l, 0 ≤ x ∧ x ≤ 10000000000000) → 0 ≤ sumI l ∧ sumI l ≤ 10000000000000 * (l.length : Nat)
 | [], _ => by simp [sumI]
 | x :: l, h => by
  have h1 := h x List.mem_cons_self
  have h2 := sumI_bd l (fun y hy => h y (List.mem_cons_of_mem _ hy))
  simp only [sumI, List.length_cons]
  omega
theorem sum_c (A : Option Addr) (n c : Nat) (xs : List Int) (w : World) (hX : RdI w A n xs) (hn : n ≤ 1000) (hb : ∀ x ∈ xs, 0 ≤ x ∧ x ≤ 10000000000000) :
  Ret Tryz.prog 16 [.slice A n c] w (fun v w' => v = .int .i64 (sumI xs) ∧ St w w' []) := by
 have hxl := hX.1
 refine Ret.of_cd Tryz.func16 rfl Tryz.ntmps16 rfl (post1 rfl) ?_
 refine Cd.seq ?_
 refine Cd.region ?_
 refine Ops.mv_int rfl rfl rfl ?_
 refine Ops.nil ?_
 refine thenQ_n ?_
 refine Cd.seq ?_
 refine Cd.region ?_
 refine Ops.mv_int rfl rfl rfl ?_
 refine Ops.nil ?_
 refine thenQ_n ?_
 refine Cd.seq ?_
 refine Cd.seq ?_
 refine Cd.region ?_
 refine Ops.mv_int rfl rfl rfl ?_
 refine Ops.nil ?_
 refine thenQ_n ?_
 refine Cd.block ?_
 refine Cd.loop (α := Nat) (fun i => [(0, .slice A n c), (3, .int .i64 (sumI (xs.take i))), (4, .int .i64 (i : Int))]) (fun i w' => w' = w ∧ i ≤ n) (fun i => n - i) 0 ⟨rfl, rfl, rfl, trivial⟩ ⟨rfl, Nat.zero_le _⟩ ?_
 rintro i e w1 ⟨rfl, hi⟩
 refine Cd.seq ?_
 refine Cd.seq ?_
 refine Cd.region ?_
 refine Ops.mv_int rfl rfl rfl ?_
 refine Ops.mv_sl rfl rfl rfl ?_
 refine Ops.len rfl rfl ?_
 refine Ops.lss rfl rfl rfl ?_
 refine Ops.nil ?_
 refine thenQ_n ?_
 refine Cd.cond_p _ rfl (fun h2 => ?_) (fun h2 => ?_)
 ·have h3 := sumI_bd (xs.take i) (fun x hx => hb x (List.mem_of_mem_take hx))
  have h4 := sumI_bd (xs.take (i + 1)) (fun x hx => hb x (List.mem_of_mem_take hx))
  have h5 := sumI_take (l := xs) (i := i) (by omega)
  have h6 : (xs.take i).length ≤ 1000 := by rw [List.length_take]; omega
  have h7 : (xs.take (i + 1)).length ≤ 1000 := by rw [List.length_take]; omega
  refine Cd.skip ?_
  refine thenQ_n ?_
  refine Cd.seq ?_
  refine Cd.block ?_
  refine Cd.region ?_
  refine Ops.mv_int rfl rfl rfl ?_
  refine Ops.mv_sl rfl rfl rfl ?_
  refine Ops.mv_int rfl rfl rfl ?_
  refine Ops.idx hX.2 rfl rfl rfl (by omega) (by omega) ?_
  refine Ops.ld_int hX rfl (by omega) rfl rfl ?_
  refine Ops.add rfl rfl rfl (by omega) ?_
  refine Ops.mv_int rfl rfl rfl ?_
  refine Ops.nil ?_
  refine blockQ_n ?_
  refine thenQ_n ?_
  refine Cd.region ?_
  refine Ops.mv_int rfl rfl rfl ?_
  refine Ops.add rfl rfl rfl (by omega) ?_
  refine Ops.mv_int rfl rfl rfl ?_
  refine Ops.nil ?_
  refine thenQ_n ?_
  exact ⟨i + 1, by show n - (i + 1) < n - i; omega, ⟨rfl, by rw [h5]; rfl, rfl, trivial⟩, rfl, by omega⟩
 ·have : xs.take i = xs := List.take_of_length_le (by omega)
  refine Cd.exit ?_
  refine thenQ_x ?_
  refine thenQ_x ?_
  refine blockQ_x ?_
  refine thenQ_n ?_
  refine Cd.seq ?_
  refine Cd.region ?_
  refine Ops.mv_int rfl rfl rfl ?_
  refine Ops.mv_int rfl rfl rfl ?_
  refine Ops.nil ?_
  refine thenQ_n ?_
  refine Cd.ret ?_
  refine ret1_i rfl ?_
  exact ⟨by rw [this], St.refl w1⟩

end Go.Proofs.YtjpkmpihmilgoaaGreat.Vc
/-
 The law of the lengths of words, walked. Conditions: as each states them.
-/
namespace Go.Proofs.YtjpkmpihmilgoaaGreat.Vc
open Go.RowKit

theorem le_sum {x : Nat} : ∀ {l : List Nat}, x ∈ l → x ≤ l.sum
 | a :: l, h => by
  rw [List.sum_cons]
  rcases List.mem_cons.1 h with rfl | h
  ·omega
  ·have := le_sum h; omega
theorem word_bd {xss : List (List Int)} (hM : Mani xss) {ws : List Int} (hw : ∀ i ∈ ws, 0 ≤ i ∧ i < xss.length) : ∀ x ∈ wordL xss ws, 0 ≤ x ∧ x ≤ 10000000000000 := by
 intro x hx
 obtain ⟨s1, i1⟩ := prm_does hM hw
 have h1 := (srt_perm _).mem_iff.1 hx
 rw [lenAll_lens] at h1
 obtain ⟨n, hn, rfl⟩ := List.mem_map.1 h1
 have h2 := le_sum hn
 rw [lens_sum s1 i1] at h2
 have := hM.2.1
 omega
theorem sumI_sum : ∀ l : List Int, sumI l = l.sum
 | [] => rfl
 | a :: l => by rw [sumI, List.sum_cons, sumI_sum l]
theorem low_len (xss : List (List Int)) (ws : List Int) : (lowL xss ws).length ≤ 400 := by
 unfold lowL
 split
 ·rename_i h; exact wordL_le _ h.1.1
 ·exact Nat.zero_le _
theorem hole_len (xss : List (List Int)) (j : Int) : (holeL xss j).length ≤ 400 := by
 unfold holeL
 split
 ·rename_i h; exact wordL_le _ (holeK_zero h).1.1
 ·exact Nat.zero_le _
theorem zig_len (xss : List (List Int)) (j : Int) : (zigL xss j).length ≤ 400 := by
 unfold zigL
 split
 ·rename_i h; exact wordL_le _ (holeK_zero h).1.1
 ·exact Nat.zero_le _
theorem petrie_len (xss : List (List Int)) : (petrieL xss).length ≤ 400 := by
 unfold petrieL
 split
 ·rename_i h; exact wordL_le _ h.1
 ·exact Nat.zero_le _
theorem low_zero {xss : List (List Int)} {ws : List Int} (h : lowK xss ws = 0) : Grph xss ∧ IsW xss.length ws := by
 unfold lowK at h
 by_cases hG : Grph xss
 ·by_cases hW : IsW xss.length ws
  ·exact ⟨hG, hW⟩
  ·rw [if_neg (fun h => h hG), if_pos hW] at h; omega
 ·rw [if_pos hG] at h; omega
/-- the law's first half -/
theorem low_rev {xss : List (List Int)} {ws : List Int} (h : lowK xss ws = 0) : lowK xss ws.reverse = 0 ∧ lowL xss ws.reverse = lowL xss ws ∧ sumI (lowL xss ws) = ((gl xss 0).length : Int) ∧ (∀ x ∈ lowL xss ws, 0 ≤ x ∧ x ≤ 10000000000000) := by
 obtain ⟨hG, hW⟩ := low_zero h
 have hW' : IsW xss.length ws.reverse := ⟨fun x hx => hW.1 x (List.mem_reverse.1 hx), by rw [List.length_reverse]; exact hW.2⟩
 have hw : ∀ i ∈ ws, 0 ≤ i ∧ i < xss.length := fun i hi => by have := hW.1 i hi; omega
 refine ⟨by rw [lowK, if_neg (fun h => h hG), if_neg (fun h => h hW')], ?_, ?_, ?_⟩
 ·rw [lowL, if_pos ⟨hG, hW'⟩, lowL, if_pos ⟨hG, hW⟩, word_rev hG.1 hw]
 ·rw [lowL, if_pos ⟨hG, hW⟩, sumI_sum, word_sum hG.1 hw]
 ·rw [lowL, if_pos ⟨hG, hW⟩]; exact word_bd hG.1 hw
theorem low_nil {xss : List (List Int)} {ws : List Int} (h : ¬ lowK xss ws = 0) : lowL xss ws = [] := by
 unfold lowL
 rw [if_neg]
 rintro ⟨hG, hW⟩
 exact h (by rw [lowK, if_neg (fun h => h hG), if_neg (fun h => h hW)])
/-- the law's second half -/
theorem hole_twice {xss : List (List Int)} (h : holeK xss 1 = 0) : (holeL xss 1).Perm (fszI xss ++ fszI xss) := by
 obtain ⟨hG, _, h3⟩ := holeK_zero h
 rw [hole_one h, wordL]
 refine (srt_perm _).trans ?_
 rw [lenAll_lens]
 have := (fsz_lens hG.1 h3).map (fun n : Nat => (n : Int))
 rwa [List.map_append] at this
theorem gi_rev {ws : List Int} {nw k : Nat} (hl : ws.length = nw) (hk : k < nw) : gi ws ((nw : Int) - 1 - (k : Int)) = ws.reverse[k]'(by rw [List.length_reverse]; omega) := by
 subst hl
 have e : (ws.length : Int) - 1 - (k : Int) = ((ws.length - 1 - k : Nat) : Int) := by omega
 rw [e, gi_mem (by omega), List.getElem_reverse]
theorem count_take {l : List Int} {e : Nat} (h : e < l.length) (v : Int) : ((l.take (e + 1)).count v : Int) = ((l.take e).count v : Int) + if gi l (e : Int) = v then 1 else 0 := by
 rw [List.take_succ_eq_append_getElem h, List.count_append, List.count_singleton, gi_mem h]
 by_cases e : l[e] = v
 ·simp [e]
 ·simp [e]

theorem FnWordLengths_c (Ac : Option Addr) (nc cc : Nat) (bs : List Int) (w : World) (hY : RdY w Ac nc bs) :
    Ret Tryz.prog 4 [.slice Ac nc cc] w (fun v w' => v = .bool true ∧ St w w' []) := by
  refine Ret.of_cd Tryz.func4 rfl Tryz.ntmps4 rfl (post1 rfl) ?_
  refine Cd.seq ?_
  refine Cd.region ?_
  refine Ops.mv_bool rfl rfl rfl ?_
  refine Ops.nil ?_
  refine thenQ_n ?_
  refine Cd.seq ?_
  refine Cd.seq ?_
  refine Cd.region ?_
  refine Ops.mv_sl rfl rfl rfl ?_
  refine Ops.call (big_c Ac nc cc w) rfl rfl rfl ?_
  rintro _ w1 ⟨rfl, hT1⟩
  refine Ops.nil ?_
  refine thenQ_n ?_
  refine Cd.cond_p _ rfl (fun h1 => ?_) (fun h1 => ?_)
  · refine Cd.seq ?_
    refine Cd.region ?_
    refine Ops.mv_bool rfl rfl rfl ?_
    refine Ops.nil ?_
    refine thenQ_n ?_
    refine Cd.ret ?_
    refine thenQ_r ?_
    refine ret1_b rfl ?_
    exact ⟨rfl, hT1⟩
  · refine Cd.skip ?_
    refine thenQ_n ?_
    refine Cd.seq ?_
    refine Cd.region ?_
    refine Ops.mv_sl rfl rfl rfl ?_
    refine Ops.call (DrawLengthsOfWord_c Ac nc cc bs w1 (hY.below hT1.below) (by omega)) rfl rfl rfl ?_
    rintro _ w2 ⟨n, A, c, rs, xss, X, Aw, nw, cw, ws, rfl, hn, hcap, hb, hnw, hX, hS2⟩
    have hR2 := hX w2 [CkI 2 Aw nw cw ws] (hS2.perm (List.perm_append_comm (l₁ := [_])))
    have hW2 := hS2.rdI 0 rfl
    have hwl := hW2.1
    refine Ops.mv_tup rfl rfl rfl ?_
    refine Ops.extract rfl rfl rfl ?_
    refine Ops.extract rfl rfl rfl ?_
    refine Ops.new1 (St.refl w2) rfl ?_
    intro A3 w3 hS3
    skip
    refine Ops.st_agg 1 0 hS3 rfl rfl rfl rfl rfl rfl rfl ?_
    intro w4 hS4
    have hS4 : St w2 w4 [Bx 32 1 A3 [.slice A n c]] := hS4
    have hl1 := low_len xss ws
    have hl2 := low_len xss ws.reverse
    refine Ops.mv_sl rfl rfl rfl ?_
    refine Ops.nil ?_
    refine thenQ_n ?_
    refine Cd.seq ?_
    refine Cd.region ?_
    refine Ops.ld_agg 0 (hS4.rd 0 rfl) rfl rfl rfl ?_
    refine Ops.mv_sl rfl rfl rfl ?_
    refine Ops.call (implLengthsOfWord_c A n c rs xss Aw nw cw ws w4 (hS4.oldRows hR2) hcap.1 hcap.2 (hS4.oldI hW2) (by omega)) rfl rfl rfl ?_
    rintro _ w5 ⟨A5, c5, rfl, hT5⟩
    have hS5 : St w2 w5 [CkI 2 A5 (lowL xss ws).length c5 (lowL xss ws), Bx 32 1 A3 [.slice A n c]] := hS4.call hT5
    refine Ops.mv_tup rfl rfl rfl ?_
    refine Ops.extract rfl rfl rfl ?_
    refine Ops.extract rfl rfl rfl ?_
    refine Ops.mv_sl rfl rfl rfl ?_
    refine Ops.mv_int rfl rfl rfl ?_
    refine Ops.nil ?_
    refine thenQ_n ?_
    refine Cd.seq ?_
    refine Cd.seq ?_
    refine Cd.region ?_
    refine Ops.ld_agg 0 (hS5.rd 1 rfl) rfl rfl rfl ?_
    refine Ops.mv_sl rfl rfl rfl ?_
    refine Ops.call (specLengthsOfWord_c A n c rs xss Aw nw cw ws w5 (hS5.oldRows hR2) (by omega) (hS5.oldI hW2) (by omega)) rfl rfl rfl ?_
    rintro _ w6 ⟨A7, c7, rfl, hT6⟩
    have hS6 : St w2 w6 [CkI 2 A7 (lowL xss ws).length c7 (lowL xss ws), CkI 2 A5 (lowL xss ws).length c5 (lowL xss ws), Bx 32 1 A3 [.slice A n c]] := hS5.call hT6
    refine Ops.mv_tup rfl rfl rfl ?_
    refine Ops.extract rfl rfl rfl ?_
    refine Ops.extract rfl rfl rfl ?_
    refine Ops.mv_sl rfl rfl rfl ?_
    refine Ops.mv_int rfl rfl rfl ?_
    refine Ops.nil ?_
    refine thenQ_n ?_
    refine Cd.seq ?_
    refine Cd.region ?_
    refine Ops.mv_int rfl rfl rfl ?_
    refine Ops.mv_int rfl rfl rfl ?_
    refine Ops.neq rfl rfl rfl ?_
    refine Ops.mv_bool rfl rfl rfl ?_
    refine Ops.split_p 53 rfl (fun h2 => absurd rfl h2) (fun h2 => ?_) --f
    refine Ops.rung rfl rfl rfl ?_
    refine Ops.mv_sl rfl rfl rfl ?_
    refine Ops.rung rfl rfl rfl ?_
    refine Ops.mv_sl rfl rfl rfl ?_
    refine Ops.rung rfl rfl rfl ?_
    refine Ops.call (likeInts_c A5 _ c5 (lowL xss ws) A7 _ c7 (lowL xss ws) w6 (hS6.rdI 1 rfl) (hS6.rdI 0 rfl) (by omega)) rfl rfl rfl ?_
    rintro _ w7 ⟨rfl, hT7⟩
    have hS7 := hS6.later hT7.below
    refine Ops.rung rfl rfl rfl ?_
    first | refine Ops.not_p rfl rfl ?_ | refine Ops.not rfl rfl ?_
    refine Ops.pick_f rfl rfl rfl ?_
    refine Ops.nil ?_
    refine thenQ_n ?_
    refine Cd.cond_pf rfl (fun h => h rfl) ?_
    refine Cd.skip ?_
    refine thenQ_n ?_
    refine Cd.join (α := Unit) (fun _ => [(0, .slice Ac nc cc)]) (fun _ w' => St w w' []) ?_ ?_
    · refine Cd.seq ?_
      refine Cd.region ?_
      refine Ops.mv_int rfl rfl rfl ?_
      refine Ops.eql rfl rfl rfl ?_
      refine Ops.nil ?_
      refine thenQ_n ?_
      refine Cd.cond_p _ rfl (fun h3 => ?_) (fun h3 => ?_)
      · obtain ⟨v1, v2, v3, v4⟩ := low_rev h3
        refine Cd.seq ?_
        refine Cd.region ?_
        refine Ops.bs0 hS7 rfl ?_
        intro A9 w8 hS8
        have hS8 : St w2 w8 [CkI 2 A9 0 0 [], CkI 2 A7 (lowL xss ws).length c7 (lowL xss ws), CkI 2 A5 (lowL xss ws).length c5 (lowL xss ws), Bx 32 1 A3 [.slice A n c]] := hS8
        refine Ops.mv_sl rfl rfl rfl ?_
        refine Ops.nil ?_
        refine thenQ_n ?_
        refine Cd.seq ?_
        refine Cd.seq ?_
        refine Cd.region ?_
        refine Ops.mv_sl rfl rfl rfl ?_
        refine Ops.len rfl rfl ?_
        refine Ops.sub rfl rfl rfl (by omega) ?_
        refine Ops.mv_int rfl rfl rfl ?_
        refine Ops.nil ?_
        refine thenQ_n ?_
        refine Cd.block ?_
        refine Cd.loop (α := Nat × Option Addr × Nat) (fun s => [(0, .slice Ac nc cc), (3, .pointer A3), (4, .slice Aw nw cw), (5, .slice A5 (lowL xss ws).length c5), (9, .slice s.2.1 s.1 s.2.2), (10, .int .i64 ((nw : Int) - 1 - (s.1 : Int)))]) (fun s w' => St w2 w' [CkI 2 s.2.1 s.1 s.2.2 (ws.reverse.take s.1), CkI 2 A7 (lowL xss ws).length c7 (lowL xss ws), CkI 2 A5 (lowL xss ws).length c5 (lowL xss ws), Bx 32 1 A3 [.slice A n c]] ∧ s.1 ≤ nw) (fun s => nw - s.1) (0, A9, 0) ⟨rfl, rfl, rfl, rfl, rfl, by show Value.int .i64 _ = .int .i64 _; congr 1; omega, trivial⟩ ⟨hS8, Nat.zero_le _⟩ ?_
        rintro ⟨k, A9, c9⟩ e w9 ⟨hS9, hk⟩
        dsimp only at hS9 hk ⊢
        have hW9 := hS9.oldI hW2
        refine Cd.seq ?_
        refine Cd.seq ?_
        refine Cd.region ?_
        refine Ops.mv_int rfl rfl rfl ?_
        refine Ops.geq rfl rfl rfl ?_
        refine Ops.nil ?_
        refine thenQ_n ?_
        refine Cd.cond_p _ rfl (fun h4 => ?_) (fun h4 => ?_)
        · have hgr := gi_rev (k := k) hwl (by omega)
          refine Cd.skip ?_
          refine thenQ_n ?_
          refine Cd.seq ?_
          refine Cd.block ?_
          refine Cd.region ?_
          refine Ops.mv_sl rfl rfl rfl ?_
          refine Ops.mv_sl rfl rfl rfl ?_
          refine Ops.mv_int rfl rfl rfl ?_
          refine Ops.idx hW9.2 rfl rfl rfl (by omega) (by omega) ?_
          refine Ops.ld_int hW9 rfl (by omega) rfl rfl ?_
          rw [hgr]
          refine Ops.bs1I hS9 rfl rfl rfl ?_
          intro A10 w10 hS10
          refine Ops.appI 1 hS10 rfl (hS10.rdI 0 rfl) rfl rfl rfl (by omega) (by omega) rfl ?_
          intro A11 c11 w11 hS11
          refine Ops.mv_sl rfl rfl rfl ?_
          refine Ops.nil ?_
          refine blockQ_n ?_
          refine thenQ_n ?_
          refine Cd.region ?_
          refine Ops.mv_int rfl rfl rfl ?_
          refine Ops.sub rfl rfl rfl (by omega) ?_
          refine Ops.mv_int rfl rfl rfl ?_
          refine Ops.nil ?_
          refine thenQ_n ?_
          refine ⟨(k + 1, A11, c11), by show nw - (k + 1) < nw - k; omega, ⟨rfl, rfl, rfl, rfl, rfl, by show Value.int .i64 ((nw : Int) - 1 - (k : Int) - 1) = .int .i64 ((nw : Int) - 1 - ((k + 1 : Nat) : Int)); congr 1; omega, trivial⟩, ?_, by show k + 1 ≤ nw; omega⟩
          dsimp only
          rw [List.take_succ_eq_append_getElem (by rw [List.length_reverse]; omega)]
          exact hS11.tail
        · obtain rfl : k = nw := by omega
          rw [List.take_of_length_le (by rw [List.length_reverse]; omega)] at hS9
          refine Cd.exit ?_
          refine thenQ_x ?_
          refine thenQ_x ?_
          refine blockQ_x ?_
          refine thenQ_n ?_
          refine Cd.seq ?_
          refine Cd.region ?_
          refine Ops.ld_agg 0 (hS9.rd 3 rfl) rfl rfl rfl ?_
          refine Ops.mv_sl rfl rfl rfl ?_
          refine Ops.call (implLengthsOfWord_c A n c rs xss A9 k c9 ws.reverse w9 (hS9.oldRows hR2) hcap.1 hcap.2 (hS9.rdI 0 rfl) (by omega)) rfl rfl rfl ?_
          rintro _ w10 ⟨A11, c11, rfl, hT10⟩
          have hS10 : St w2 w10 [CkI 2 A11 (lowL xss ws.reverse).length c11 (lowL xss ws.reverse), CkI 2 A9 k c9 ws.reverse, CkI 2 A7 (lowL xss ws).length c7 (lowL xss ws), CkI 2 A5 (lowL xss ws).length c5 (lowL xss ws), Bx 32 1 A3 [.slice A n c]] := hS9.call hT10
          have r11 := hS10.rdI 0 rfl
          have r5 := hS10.rdI 3 rfl
          have rx := hS10.oldRows hR2
          have hxl := hR2.len
          have hn0 : 0 < n := by have := (low_zero h3).1.1.1; omega
          refine Ops.mv_tup rfl rfl rfl ?_
          refine Ops.extract rfl rfl rfl ?_
          refine Ops.extract rfl rfl rfl ?_
          refine Ops.mv_sl rfl rfl rfl ?_
          refine Ops.mv_int rfl rfl rfl ?_
          refine Ops.nil ?_
          refine thenQ_n ?_
          refine Cd.seq ?_
          refine Cd.draw [.ex (.int .i64 (lowK xss ws.reverse)), .ex (.bool (false)), .ex (.bool (false)), .ex (.slice (A11) ((lowL xss ws.reverse).length) (c11)), .ex (.slice (A5) ((lowL xss ws).length) (c5)), .ex (.bool (decide (lowL xss ws.reverse = lowL xss ws))), .ex (.bool (false)), .ex (.bool (false)), .ex (.bool (false)), .ex (.slice (A5) ((lowL xss ws).length) (c5)), .ex (.int .i64 (sumI (lowL xss ws))), .ex (.agg #[.slice (A) (n) (c)]), .ex (.int .i64 (((gl xss 0).length : Int))), .ex (.bool (false)), .ex (.bool (false))] (by kernel_rfl) (by kernel_rfl) rfl (List.forall_mem_cons.2 ⟨Yd.lasts_ex _, (List.forall_mem_cons.2 ⟨Yd.lasts_ex _, (List.forall_mem_cons.2 ⟨Yd.lasts_ex _, (List.forall_mem_cons.2 ⟨Yd.lasts_ex _, (List.forall_mem_cons.2 ⟨Yd.lasts_ex _, (List.forall_mem_cons.2 ⟨Yd.lasts_ex _, (List.forall_mem_cons.2 ⟨Yd.lasts_ex _, (List.forall_mem_cons.2 ⟨Yd.lasts_ex _, (List.forall_mem_cons.2 ⟨Yd.lasts_ex _, (List.forall_mem_cons.2 ⟨Yd.lasts_ex _, (List.forall_mem_cons.2 ⟨Yd.lasts_ex _, (List.forall_mem_cons.2 ⟨Yd.lasts_ex _, (List.forall_mem_cons.2 ⟨Yd.lasts_ex _, (List.forall_mem_cons.2 ⟨Yd.lasts_ex _, (List.forall_mem_cons.2 ⟨Yd.lasts_ex _, (fun _ h => by cases h)⟩)⟩)⟩)⟩)⟩)⟩)⟩)⟩)⟩)⟩)⟩)⟩)⟩)⟩)⟩) ⟨?_, ?_, ?_, ?_, ?_, ?_, ?_, ?_, ?_, ?_, ?_, ?_, ?_, ?_, ?_, trivial⟩ ?_
          · intro e1 w1 hb hp hun
            refine Ops.mv_int rfl rfl rfl ?_
            refine Ops.nil ?_
            exact After.dn (Below.refl _ _) (by exact rfl)
          · intro e1 w1 hb hp hun
            refine Ops.neq rfl rfl rfl ?_
            refine Ops.nil ?_
            exact After.dn (Below.refl _ _) (by exact congrArg Value.bool (decide_eq_false (fun h => h v1)))
          · intro e1 w1 hb hp hun
            refine Ops.mv_bool rfl rfl rfl ?_
            refine Ops.nil ?_
            exact After.dn (Below.refl _ _) (by exact rfl)
          · intro e1 w1 hb hp hun
            refine Ops.rung rfl rfl rfl ?_
            refine Ops.mv_sl rfl rfl rfl ?_
            refine Ops.nil ?_
            exact After.dn (Below.refl _ _) (by exact rfl)
          · intro e1 w1 hb hp hun
            refine Ops.rung rfl rfl rfl ?_
            refine Ops.mv_sl rfl rfl rfl ?_
            refine Ops.nil ?_
            exact After.dn (Below.refl _ _) (by exact rfl)
          · intro e1 w1 hb hp hun
            refine Ops.rung rfl rfl rfl ?_
            refine Ops.call (likeInts_c A11 _ c11 (lowL xss ws.reverse) A5 _ c5 (lowL xss ws) _ (r11.later hb) (r5.later hb) (by omega)) rfl rfl rfl ?_
            rintro _ w2 ⟨rfl, hst⟩
            refine Ops.nil ?_
            exact After.dn hst.below (by exact rfl)
          · intro e1 w1 hb hp hun
            refine Ops.rung rfl rfl rfl ?_
            refine Ops.not_p rfl rfl ?_
            refine Ops.nil ?_
            exact After.dn (Below.refl _ _) (by exact congrArg Value.bool (decide_eq_false (fun h => h v2)))
          · intro e1 w1 hb hp hun
            refine Ops.pick_f rfl rfl rfl ?_
            refine Ops.nil ?_
            exact After.dn (Below.refl _ _) (by exact rfl)
          · intro e1 w1 hb hp hun
            refine Ops.mv_bool rfl rfl rfl ?_
            refine Ops.nil ?_
            exact After.dn (Below.refl _ _) (by exact rfl)
          · intro e1 w1 hb hp hun
            refine Ops.rung rfl rfl rfl ?_
            refine Ops.mv_sl rfl rfl rfl ?_
            refine Ops.nil ?_
            exact After.dn (Below.refl _ _) (by exact rfl)
          · intro e1 w1 hb hp hun
            refine Ops.rung rfl rfl rfl ?_
            refine Ops.call (sum_c A5 _ c5 (lowL xss ws) _ (r5.later hb) (by omega) v4) rfl rfl rfl ?_
            rintro _ w2 ⟨rfl, hst⟩
            refine Ops.nil ?_
            exact After.dn hst.below (by exact rfl)
          · intro e1 w1 hb hp hun
            refine Ops.rung rfl rfl rfl ?_
            refine Ops.ld_agg 0 ((hS10.rd 4 rfl).below hb) rfl rfl rfl ?_
            refine Ops.nil ?_
            exact After.dn (Below.refl _ _) (by exact rfl)
          · intro e1 w1 hb hp hun
            refine Ops.rung rfl rfl rfl ?_
            refine Ops.call (flags9_c A n c rs xss _ (rx.later hb) hn0) rfl rfl rfl ?_
            rintro _ w2 ⟨rfl, hst⟩
            refine Ops.nil ?_
            exact After.dn hst.below (by exact rfl)
          · intro e1 w1 hb hp hun
            refine Ops.rung rfl rfl rfl ?_
            refine Ops.neq rfl rfl rfl ?_
            refine Ops.nil ?_
            exact After.dn (Below.refl _ _) (by exact congrArg Value.bool (decide_eq_false (fun h => h v3)))
          · intro e1 w1 hb hp hun
            refine Ops.pick_f rfl rfl rfl ?_
            refine Ops.nil ?_
            exact After.dn (Below.refl _ _) (by exact rfl)
          intro u w11 hb11 _
          refine thenQ_n ?_
          refine Cd.cond_f rfl ?_
          refine Cd.skip ?_
          refine thenQ_n ?_
          exact ⟨(), ⟨rfl, trivial⟩, ((hT1.call hS2).call (hS10.later hb11)).none⟩
      · have hnil := low_nil h3
        refine Cd.seq ?_
        refine Cd.region ?_
        refine Ops.mv_sl rfl rfl rfl ?_
        refine Ops.len rfl rfl ?_
        refine Ops.gtr rfl rfl rfl ?_
        refine Ops.nil ?_
        refine thenQ_n ?_
        refine Cd.cond_pf rfl (by rw [hnil]; simp) ?_
        refine Cd.skip ?_
        refine thenQ_n ?_
        exact ⟨(), ⟨rfl, trivial⟩, ((hT1.call hS2).call hS7).none⟩
    · rintro ⟨⟩ e w8 hS8
      refine Cd.seq ?_
      refine Cd.region ?_
      refine Ops.mv_sl rfl rfl rfl ?_
      refine Ops.call (DrawHoleLengths_c Ac nc cc bs w8 (hY.below hS8.below) (by omega)) rfl rfl rfl ?_
      rintro _ w9 ⟨n, A, c, rs, xss, X, j, rfl, hn, hcap, hb, hj, hX, hS9⟩
      have hR9 := hX w9 [] (by rw [List.append_nil]; exact hS9)
      refine Ops.mv_tup rfl rfl rfl ?_
      refine Ops.extract rfl rfl rfl ?_
      refine Ops.extract rfl rfl rfl ?_
      refine Ops.new1 (St.refl w9) rfl ?_
      intro A13 w10 hS10
      skip
      refine Ops.st_agg 1 0 hS10 rfl rfl rfl rfl rfl rfl rfl ?_
      intro w11 hS11
      have hS11 : St w9 w11 [Bx 32 1 A13 [.slice A n c]] := hS11
      have hl1 := hole_len xss j
      have hl2 := zig_len xss j
      refine Ops.mv_int rfl rfl rfl ?_
      refine Ops.nil ?_
      refine thenQ_n ?_
      refine Cd.seq ?_
      refine Cd.region ?_
      refine Ops.ld_agg 0 (hS11.rd 0 rfl) rfl rfl rfl ?_
      refine Ops.mv_int rfl rfl rfl ?_
      refine Ops.call (implHoleLengths_c A n c rs xss j w11 (hS11.oldRows hR9) hcap.1 hcap.2) rfl rfl rfl ?_
      rintro _ w12 ⟨A15, c15, rfl, hT12⟩
      have hS12 : St w9 w12 [CkI 2 A15 (holeL xss j).length c15 (holeL xss j), Bx 32 1 A13 [.slice A n c]] := hS11.call hT12
      refine Ops.mv_tup rfl rfl rfl ?_
      refine Ops.extract rfl rfl rfl ?_
      refine Ops.extract rfl rfl rfl ?_
      refine Ops.mv_sl rfl rfl rfl ?_
      refine Ops.mv_int rfl rfl rfl ?_
      refine Ops.nil ?_
      refine thenQ_n ?_
      refine Cd.seq ?_
      refine Cd.region ?_
      refine Ops.ld_agg 0 (hS12.rd 1 rfl) rfl rfl rfl ?_
      refine Ops.mv_int rfl rfl rfl ?_
      refine Ops.call (implZigzagLengths_c A n c rs xss j w12 (hS12.oldRows hR9) hcap.1 hcap.2) rfl rfl rfl ?_
      rintro _ w13 ⟨A17, c17, rfl, hT13⟩
      have hS13 : St w9 w13 [CkI 2 A17 (zigL xss j).length c17 (zigL xss j), CkI 2 A15 (holeL xss j).length c15 (holeL xss j), Bx 32 1 A13 [.slice A n c]] := hS12.call hT13
      refine Ops.mv_tup rfl rfl rfl ?_
      refine Ops.extract rfl rfl rfl ?_
      refine Ops.extract rfl rfl rfl ?_
      refine Ops.mv_sl rfl rfl rfl ?_
      refine Ops.mv_int rfl rfl rfl ?_
      refine Ops.nil ?_
      refine thenQ_n ?_
      refine Cd.seq ?_
      refine Cd.seq ?_
      refine Cd.region ?_
      refine Ops.ld_agg 0 (hS13.rd 2 rfl) rfl rfl rfl ?_
      refine Ops.mv_int rfl rfl rfl ?_
      refine Ops.call (specHoleLengths_c A n c rs xss j w13 (hS13.oldRows hR9) (by omega)) rfl rfl rfl ?_
      rintro _ w14 ⟨A19, c19, rfl, hT14⟩
      have hS14 := hS13.call hT14
      refine Ops.mv_tup rfl rfl rfl ?_
      refine Ops.extract rfl rfl rfl ?_
      refine Ops.extract rfl rfl rfl ?_
      refine Ops.mv_sl rfl rfl rfl ?_
      refine Ops.mv_int rfl rfl rfl ?_
      refine Ops.nil ?_
      refine thenQ_n ?_
      refine Cd.seq ?_
      refine Cd.region ?_
      refine Ops.mv_int rfl rfl rfl ?_
      refine Ops.mv_int rfl rfl rfl ?_
      refine Ops.neq rfl rfl rfl ?_
      refine Ops.mv_bool rfl rfl rfl ?_
      refine Ops.split_p 126 rfl (fun h2 => absurd rfl h2) (fun h2 => ?_) --f
      refine Ops.rung rfl rfl rfl ?_
      refine Ops.mv_sl rfl rfl rfl ?_
      refine Ops.rung rfl rfl rfl ?_
      refine Ops.mv_sl rfl rfl rfl ?_
      refine Ops.rung rfl rfl rfl ?_
      refine Ops.call (likeInts_c A15 _ c15 (holeL xss j) A19 _ c19 (holeL xss j) w14 (hS14.rdI 2 rfl) (hS14.rdI 0 rfl) (by omega)) rfl rfl rfl ?_
      rintro _ w15 ⟨rfl, hT15⟩
      have hS15 : St w9 w15 [CkI 2 A17 (zigL xss j).length c17 (zigL xss j), CkI 2 A15 (holeL xss j).length c15 (holeL xss j), Bx 32 1 A13 [.slice A n c]] := (hS14.sub (List.sublist_cons_self _ _)).later hT15.below
      refine Ops.rung rfl rfl rfl ?_
      first | refine Ops.not_p rfl rfl ?_ | refine Ops.not rfl rfl ?_
      refine Ops.pick_f rfl rfl rfl ?_
      refine Ops.nil ?_
      refine thenQ_n ?_
      refine Cd.cond_pf rfl (fun h => h rfl) ?_
      refine Cd.skip ?_
      refine thenQ_n ?_
      refine Cd.seq ?_
      refine Cd.seq ?_
      refine Cd.region ?_
      refine Ops.ld_agg 0 (hS15.rd 2 rfl) rfl rfl rfl ?_
      refine Ops.mv_int rfl rfl rfl ?_
      refine Ops.call (specZigzagLengths_c A n c rs xss j w15 (hS15.oldRows hR9) (by omega)) rfl rfl rfl ?_
      rintro _ w16 ⟨A21, c21, rfl, hT16⟩
      have hS16 := hS15.call hT16
      refine Ops.mv_tup rfl rfl rfl ?_
      refine Ops.extract rfl rfl rfl ?_
      refine Ops.extract rfl rfl rfl ?_
      refine Ops.mv_sl rfl rfl rfl ?_
      refine Ops.mv_int rfl rfl rfl ?_
      refine Ops.nil ?_
      refine thenQ_n ?_
      refine Cd.seq ?_
      refine Cd.region ?_
      refine Ops.mv_int rfl rfl rfl ?_
      refine Ops.mv_int rfl rfl rfl ?_
      refine Ops.neq rfl rfl rfl ?_
      refine Ops.mv_bool rfl rfl rfl ?_
      refine Ops.split_p 141 rfl (fun h2 => absurd rfl h2) (fun h2 => ?_) --f
      refine Ops.rung rfl rfl rfl ?_
      refine Ops.mv_sl rfl rfl rfl ?_
      refine Ops.rung rfl rfl rfl ?_
      refine Ops.mv_sl rfl rfl rfl ?_
      refine Ops.rung rfl rfl rfl ?_
      refine Ops.call (likeInts_c A17 _ c17 (zigL xss j) A21 _ c21 (zigL xss j) w16 (hS16.rdI 1 rfl) (hS16.rdI 0 rfl) (by omega)) rfl rfl rfl ?_
      rintro _ w17 ⟨rfl, hT17⟩
      have hS17 : St w9 w17 [CkI 2 A17 (zigL xss j).length c17 (zigL xss j), CkI 2 A15 (holeL xss j).length c15 (holeL xss j), Bx 32 1 A13 [.slice A n c]] := (hS16.sub (List.sublist_cons_self _ _)).later hT17.below
      refine Ops.rung rfl rfl rfl ?_
      first | refine Ops.not_p rfl rfl ?_ | refine Ops.not rfl rfl ?_
      refine Ops.pick_f rfl rfl rfl ?_
      refine Ops.nil ?_
      refine thenQ_n ?_
      refine Cd.cond_pf rfl (fun h => h rfl) ?_
      refine Cd.skip ?_
      refine thenQ_n ?_
      refine Cd.seq ?_
      refine Cd.seq ?_
      refine Cd.region ?_
      refine Ops.mv_int rfl rfl rfl ?_
      refine Ops.neq rfl rfl rfl ?_
      refine Ops.mv_bool rfl rfl rfl ?_
      refine Ops.split_p 149 rfl (fun h3 => ?_) (fun h3 => ?_)
      · refine Ops.skipg rfl rfl rfl rfl rfl ?_
        refine Ops.skipg rfl rfl rfl rfl rfl ?_
        refine Ops.pick_t rfl rfl rfl ?_
        refine Ops.nil ?_
        refine thenQ_n ?_
        refine Cd.cond_t rfl ?_
        refine Cd.seq ?_
        refine Cd.region ?_
        refine Ops.mv_bool rfl rfl rfl ?_
        refine Ops.nil ?_
        refine thenQ_n ?_
        refine Cd.ret ?_
        refine thenQ_r ?_
        refine ret1_b rfl ?_
        exact ⟨rfl, ((hS8.call hS9).call hS17).none⟩
      · have h3 : holeK xss j = 0 := Decidable.not_not.1 h3
        refine Ops.rung rfl rfl rfl ?_
        refine Ops.mv_int rfl rfl rfl ?_
        refine Ops.rung rfl rfl rfl ?_
        refine Ops.neq rfl rfl rfl ?_
        refine Ops.pick_f rfl rfl rfl ?_
        refine Ops.nil ?_
        refine thenQ_n ?_
        refine Cd.cond_p _ rfl (fun h4 => ?_) (fun h4 => ?_)
        · refine Cd.seq ?_
          refine Cd.region ?_
          refine Ops.mv_bool rfl rfl rfl ?_
          refine Ops.nil ?_
          refine thenQ_n ?_
          refine Cd.ret ?_
          refine thenQ_r ?_
          refine ret1_b rfl ?_
          exact ⟨rfl, ((hS8.call hS9).call hS17).none⟩
        · obtain rfl : j = 1 := Decidable.not_not.1 h4
          obtain ⟨hG, _, hx3⟩ := holeK_zero h3
          have hperm := hole_twice h3
          have hzp := zig_petrie h3
          have hpk : petrieK xss = 0 := if_pos hG
          have hxl := hR9.len
          have hl3 := petrie_len xss
          have hlen := hperm.length_eq
          rw [List.length_append] at hlen
          refine Cd.skip ?_
          refine thenQ_n ?_
          refine Cd.seq ?_
          refine Cd.region ?_
          refine Ops.ld_agg 0 (hS17.rd 2 rfl) rfl rfl rfl ?_
          skip
          refine Ops.call (implPetrieCycles_c A n c rs xss w17 (hS17.oldRows hR9) hcap.1 hcap.2) rfl rfl rfl ?_
          rintro _ w18 ⟨A23, c23, rfl, hT18⟩
          have hS18 := hS17.call hT18
          refine Ops.mv_tup rfl rfl rfl ?_
          refine Ops.extract rfl rfl rfl ?_
          refine Ops.extract rfl rfl rfl ?_
          refine Ops.mv_sl rfl rfl rfl ?_
          refine Ops.mv_int rfl rfl rfl ?_
          refine Ops.nil ?_
          refine thenQ_n ?_
          refine Cd.seq ?_
          refine Cd.region ?_
          refine Ops.ld_agg 0 (hS18.rd 3 rfl) rfl rfl rfl ?_
          skip
          refine Ops.call (FaceSizes_c A n c rs xss w18 (hS18.oldRows hR9) (by omega) hcap hG.1) rfl rfl rfl ?_
          rintro _ w19 ⟨A25, c25, rfl, hT19⟩
          have hS19 := hS18.call hT19
          refine Ops.mv_tup rfl rfl rfl ?_
          refine Ops.extract rfl rfl rfl ?_
          refine Ops.extract rfl rfl rfl ?_
          refine Ops.mv_sl rfl rfl rfl ?_
          refine Ops.mv_int rfl rfl rfl ?_
          refine Ops.nil ?_
          refine thenQ_n ?_
          refine Cd.seq ?_
          refine Cd.seq ?_
          refine Cd.region ?_
          refine Ops.mv_int rfl rfl rfl ?_
          refine Ops.neq rfl rfl rfl ?_
          refine Ops.mv_bool rfl rfl rfl ?_
          refine Ops.split_p 165 rfl (fun h => absurd hpk h) (fun _ => ?_) --f
          refine Ops.rung rfl rfl rfl ?_
          refine Ops.mv_int rfl rfl rfl ?_
          refine Ops.rung rfl rfl rfl ?_
          refine Ops.neq rfl rfl rfl ?_
          refine Ops.pick_f rfl rfl rfl ?_
          refine Ops.mv_bool rfl rfl rfl ?_
          refine Ops.split_p 169 rfl (fun h => absurd rfl h) (fun _ => ?_) --f
          refine Ops.rung rfl rfl rfl ?_
          refine Ops.mv_sl rfl rfl rfl ?_
          refine Ops.rung rfl rfl rfl ?_
          refine Ops.mv_sl rfl rfl rfl ?_
          refine Ops.rung rfl rfl rfl ?_
          refine Ops.call (likeInts_c A23 _ c23 (petrieL xss) A17 _ c17 (zigL xss 1) w19 (hS19.rdI 1 rfl) (hS19.rdI 2 rfl) (by omega)) rfl rfl rfl ?_
          rintro _ w20 ⟨rfl, hT20⟩
          have hS20 := hS19.later hT20.below
          have rF := hS20.rdI 0 rfl
          have rH := hS20.rdI 3 rfl
          refine Ops.rung rfl rfl rfl ?_
          first | refine Ops.not_p rfl rfl ?_ | refine Ops.not rfl rfl ?_
          refine Ops.pick_f rfl rfl rfl ?_
          refine Ops.mv_bool rfl rfl rfl ?_
          refine Ops.split_p 175 rfl (fun h => absurd hzp.symm h) (fun _ => ?_) --f
          refine Ops.rung rfl rfl rfl ?_
          refine Ops.mv_sl rfl rfl rfl ?_
          refine Ops.rung rfl rfl rfl ?_
          refine Ops.len rfl rfl ?_
          refine Ops.rung rfl rfl rfl ?_
          refine Ops.mv_sl rfl rfl rfl ?_
          refine Ops.rung rfl rfl rfl ?_
          refine Ops.len rfl rfl ?_
          refine Ops.rung rfl rfl rfl ?_
          refine Ops.mul rfl rfl rfl (by omega) ?_
          refine Ops.rung rfl rfl rfl ?_
          refine Ops.neq rfl rfl rfl ?_
          refine Ops.pick_f rfl rfl rfl ?_
          refine Ops.nil ?_
          refine thenQ_n ?_
          refine Cd.cond_pf rfl (by omega) ?_
          refine Cd.skip ?_
          refine thenQ_n ?_
          refine Cd.seq ?_
          refine Cd.seq ?_
          refine Cd.region ?_
          refine Ops.mv_int rfl rfl rfl ?_
          refine Ops.nil ?_
          refine thenQ_n ?_
          refine Cd.block ?_
          generalize holeL xss 1 = H at *
          generalize fszI xss = F at *
          have hF2 : F.length ≤ 400 := by omega
          have hcount : ∀ v, (H.count v : Int) = 2 * (F.count v : Int) := fun v => by
            have := hperm.count_eq v
            rw [List.count_append] at this
            omega
          refine Cd.loop (α := Nat) (fun i => [(15, .slice A15 H.length c15), (25, .slice A25 F.length c25), (27, .int .i64 (i : Int))]) (fun i w' => Below w20.heap.size w20 w') (fun i => F.length - i) 0 ⟨rfl, rfl, rfl, trivial⟩ (Below.refl _ _) ?_
          rintro i e w21 hb21
          refine Cd.seq ?_
          refine Cd.seq ?_
          refine Cd.region ?_
          refine Ops.mv_int rfl rfl rfl ?_
          refine Ops.mv_sl rfl rfl rfl ?_
          refine Ops.len rfl rfl ?_
          refine Ops.lss rfl rfl rfl ?_
          refine Ops.nil ?_
          refine thenQ_n ?_
          refine Cd.cond_p _ rfl (fun h5 => ?_) (fun h5 => ?_)
          · have hi : i < F.length := by omega
            refine Cd.skip ?_
            refine thenQ_n ?_
            refine Cd.seq ?_
            refine Cd.block ?_
            refine Cd.seq ?_
            refine Cd.region ?_
            refine Ops.mv_int rfl rfl rfl ?_
            refine Ops.nil ?_
            refine thenQ_n ?_
            refine Cd.seq ?_
            refine Cd.seq ?_
            refine Cd.region ?_
            refine Ops.mv_int rfl rfl rfl ?_
            refine Ops.nil ?_
            refine thenQ_n ?_
            refine Cd.block ?_
            refine Cd.loop (α := Nat) (fun s => [(15, .slice A15 H.length c15), (25, .slice A25 F.length c25), (27, .int .i64 (i : Int)), (28, .int .i64 (((H.take s).count (gi F (i : Int)) : Nat) : Int)), (29, .int .i64 (s : Int))]) (fun s w' => Below w20.heap.size w20 w') (fun s => H.length - s) 0 ⟨rfl, rfl, rfl, rfl, rfl, trivial⟩ hb21 ?_
            rintro s e w22 hb22
            have rF22 := rF.later hb22
            have rH22 := rH.later hb22
            refine Cd.seq ?_
            refine Cd.seq ?_
            refine Cd.region ?_
            refine Ops.mv_int rfl rfl rfl ?_
            refine Ops.mv_sl rfl rfl rfl ?_
            refine Ops.len rfl rfl ?_
            refine Ops.lss rfl rfl rfl ?_
            refine Ops.nil ?_
            refine thenQ_n ?_
            refine Cd.cond_p _ rfl (fun h6 => ?_) (fun h6 => ?_)
            · have hs : s < H.length := by omega
              have hct := count_take hs (gi F (i : Int))
              have hcb := List.count_le_length (a := gi F (i : Int)) (l := H.take s)
              rw [List.length_take] at hcb
              refine Cd.skip ?_
              refine thenQ_n ?_
              refine Cd.seq ?_
              refine Cd.block ?_
              refine Cd.seq ?_
              refine Cd.draw [.ex (.slice (A15) (H.length) (c15)), .ex (.int .i64 ((s : Int))), .ex (.pointer (ptrAt (A15) ((s : Int)).toNat)), .ex (.int .i64 (gi (H) ((s : Int)))), .ex (.slice (A25) (F.length) (c25)), .ex (.int .i64 ((i : Int))), .ex (.pointer (ptrAt (A25) ((i : Int)).toNat)), .ex (.int .i64 (gi (F) ((i : Int)))), .ex (.bool (decide ((gi (H) ((s : Int))) = (gi (F) ((i : Int))))))] (by kernel_rfl) (by kernel_rfl) rfl (List.forall_mem_cons.2 ⟨Yd.lasts_ex _, (List.forall_mem_cons.2 ⟨Yd.lasts_ex _, (List.forall_mem_cons.2 ⟨Yd.lasts_ex _, (List.forall_mem_cons.2 ⟨Yd.lasts_ex _, (List.forall_mem_cons.2 ⟨Yd.lasts_ex _, (List.forall_mem_cons.2 ⟨Yd.lasts_ex _, (List.forall_mem_cons.2 ⟨Yd.lasts_ex _, (List.forall_mem_cons.2 ⟨Yd.lasts_ex _, (List.forall_mem_cons.2 ⟨Yd.lasts_ex _, (fun _ h => by cases h)⟩)⟩)⟩)⟩)⟩)⟩)⟩)⟩)⟩) ⟨?_, ?_, ?_, ?_, ?_, ?_, ?_, ?_, ?_, trivial⟩ ?_
              · intro e1 w1 hb hp hun
                refine Ops.mv_sl rfl rfl rfl ?_
                refine Ops.nil ?_
                exact After.dn (Below.refl _ _) (by exact rfl)
              · intro e1 w1 hb hp hun
                refine Ops.mv_int rfl rfl rfl ?_
                refine Ops.nil ?_
                exact After.dn (Below.refl _ _) (by exact rfl)
              · intro e1 w1 hb hp hun
                refine Ops.idx (rH22.later hb).2 rfl rfl rfl (by omega) (by omega) ?_
                refine Ops.nil ?_
                exact After.dn (Below.refl _ _) (by exact rfl)
              · intro e1 w1 hb hp hun
                refine Ops.ld_int (rH22.later hb) rfl (by omega) rfl rfl ?_
                refine Ops.nil ?_
                exact After.dn (Below.refl _ _) (by exact rfl)
              · intro e1 w1 hb hp hun
                refine Ops.mv_sl rfl rfl rfl ?_
                refine Ops.nil ?_
                exact After.dn (Below.refl _ _) (by exact rfl)
              · intro e1 w1 hb hp hun
                refine Ops.mv_int rfl rfl rfl ?_
                refine Ops.nil ?_
                exact After.dn (Below.refl _ _) (by exact rfl)
              · intro e1 w1 hb hp hun
                refine Ops.idx (rF22.later hb).2 rfl rfl rfl (by omega) (by omega) ?_
                refine Ops.nil ?_
                exact After.dn (Below.refl _ _) (by exact rfl)
              · intro e1 w1 hb hp hun
                refine Ops.ld_int (rF22.later hb) rfl (by omega) rfl rfl ?_
                refine Ops.nil ?_
                exact After.dn (Below.refl _ _) (by exact rfl)
              · intro e1 w1 hb hp hun
                refine Ops.eql rfl rfl rfl ?_
                refine Ops.nil ?_
                exact After.dn (Below.refl _ _) (by exact rfl)
              intro u w23 hb23 _
              have hb23 := hb22.trans (hb23.mono hb22.size)
              refine thenQ_n ?_
              refine Cd.cond_p _ rfl (fun h7 => ?_) (fun h7 => ?_)
              · rw [if_pos h7] at hct
                refine Cd.region ?_
                refine Ops.mv_int rfl rfl rfl ?_
                refine Ops.add rfl rfl rfl (by omega) ?_
                refine Ops.mv_int rfl rfl rfl ?_
                refine Ops.nil ?_
                refine blockQ_n ?_
                refine thenQ_n ?_
                refine Cd.region ?_
                refine Ops.mv_int rfl rfl rfl ?_
                refine Ops.add rfl rfl rfl (by omega) ?_
                refine Ops.mv_int rfl rfl rfl ?_
                refine Ops.nil ?_
                refine thenQ_n ?_
                exact ⟨s + 1, by show H.length - (s + 1) < H.length - s; omega, ⟨rfl, rfl, rfl, by show Value.int .i64 _ = .int .i64 _; rw [hct], rfl, trivial⟩, hb23⟩
              · rw [if_neg h7] at hct
                refine Cd.skip ?_
                refine blockQ_n ?_
                refine thenQ_n ?_
                refine Cd.region ?_
                refine Ops.mv_int rfl rfl rfl ?_
                refine Ops.add rfl rfl rfl (by omega) ?_
                refine Ops.mv_int rfl rfl rfl ?_
                refine Ops.nil ?_
                refine thenQ_n ?_
                exact ⟨s + 1, by show H.length - (s + 1) < H.length - s; omega, ⟨rfl, rfl, rfl, by show Value.int .i64 _ = .int .i64 _; rw [hct]; first | done | (congr 1 <;> omega), rfl, trivial⟩, hb23⟩
            · have hsH : H.take s = H := List.take_of_length_le (by omega)
              rw [hsH]
              refine Cd.exit ?_
              refine thenQ_x ?_
              refine thenQ_x ?_
              refine blockQ_x ?_
              refine thenQ_n ?_
              refine Cd.seq ?_
              refine Cd.seq ?_
              refine Cd.region ?_
              refine Ops.mv_int rfl rfl rfl ?_
              refine Ops.nil ?_
              refine thenQ_n ?_
              refine Cd.block ?_
              refine Cd.loop (α := Nat) (fun s => [(15, .slice A15 H.length c15), (25, .slice A25 F.length c25), (27, .int .i64 (i : Int)), (28, .int .i64 ((H.count (gi F (i : Int)) : Int) - 2 * (((F.take s).count (gi F (i : Int)) : Nat) : Int))), (30, .int .i64 (s : Int))]) (fun s w' => Below w20.heap.size w20 w') (fun s => F.length - s) 0 ⟨rfl, rfl, rfl, by show Value.int .i64 _ = .int .i64 _; simp, rfl, trivial⟩ hb22 ?_
              rintro s e w23 hb23
              have rF23 := rF.later hb23
              have hcH := List.count_le_length (a := gi F (i : Int)) (l := H)
              refine Cd.seq ?_
              refine Cd.seq ?_
              refine Cd.region ?_
              refine Ops.mv_int rfl rfl rfl ?_
              refine Ops.mv_sl rfl rfl rfl ?_
              refine Ops.len rfl rfl ?_
              refine Ops.lss rfl rfl rfl ?_
              refine Ops.nil ?_
              refine thenQ_n ?_
              refine Cd.cond_p _ rfl (fun h8 => ?_) (fun h8 => ?_)
              · have hs : s < F.length := by omega
                have hct := count_take hs (gi F (i : Int))
                have hcb := List.count_le_length (a := gi F (i : Int)) (l := F.take s)
                rw [List.length_take] at hcb
                refine Cd.skip ?_
                refine thenQ_n ?_
                refine Cd.seq ?_
                refine Cd.block ?_
                refine Cd.seq ?_
                refine Cd.draw [.ex (.slice (A25) (F.length) (c25)), .ex (.int .i64 ((s : Int))), .ex (.pointer (ptrAt (A25) ((s : Int)).toNat)), .ex (.int .i64 (gi (F) ((s : Int)))), .ex (.slice (A25) (F.length) (c25)), .ex (.int .i64 ((i : Int))), .ex (.pointer (ptrAt (A25) ((i : Int)).toNat)), .ex (.int .i64 (gi (F) ((i : Int)))), .ex (.bool (decide ((gi (F) ((s : Int))) = (gi (F) ((i : Int))))))] (by kernel_rfl) (by kernel_rfl) rfl (List.forall_mem_cons.2 ⟨Yd.lasts_ex _, (List.forall_mem_cons.2 ⟨Yd.lasts_ex _, (List.forall_mem_cons.2 ⟨Yd.lasts_ex _, (List.forall_mem_cons.2 ⟨Yd.lasts_ex _, (List.forall_mem_cons.2 ⟨Yd.lasts_ex _, (List.forall_mem_cons.2 ⟨Yd.lasts_ex _, (List.forall_mem_cons.2 ⟨Yd.lasts_ex _, (List.forall_mem_cons.2 ⟨Yd.lasts_ex _, (List.forall_mem_cons.2 ⟨Yd.lasts_ex _, (fun _ h => by cases h)⟩)⟩)⟩)⟩)⟩)⟩)⟩)⟩)⟩) ⟨?_, ?_, ?_, ?_, ?_, ?_, ?_, ?_, ?_, trivial⟩ ?_
                · intro e1 w1 hb hp hun
                  refine Ops.mv_sl rfl rfl rfl ?_
                  refine Ops.nil ?_
                  exact After.dn (Below.refl _ _) (by exact rfl)
                · intro e1 w1 hb hp hun
                  refine Ops.mv_int rfl rfl rfl ?_
                  refine Ops.nil ?_
                  exact After.dn (Below.refl _ _) (by exact rfl)
                · intro e1 w1 hb hp hun
                  refine Ops.idx (rF23.later hb).2 rfl rfl rfl (by omega) (by omega) ?_
                  refine Ops.nil ?_
                  exact After.dn (Below.refl _ _) (by exact rfl)
                · intro e1 w1 hb hp hun
                  refine Ops.ld_int (rF23.later hb) rfl (by omega) rfl rfl ?_
                  refine Ops.nil ?_
                  exact After.dn (Below.refl _ _) (by exact rfl)
                · intro e1 w1 hb hp hun
                  refine Ops.mv_sl rfl rfl rfl ?_
                  refine Ops.nil ?_
                  exact After.dn (Below.refl _ _) (by exact rfl)
                · intro e1 w1 hb hp hun
                  refine Ops.mv_int rfl rfl rfl ?_
                  refine Ops.nil ?_
                  exact After.dn (Below.refl _ _) (by exact rfl)
                · intro e1 w1 hb hp hun
                  refine Ops.idx (rF23.later hb).2 rfl rfl rfl (by omega) (by omega) ?_
                  refine Ops.nil ?_
                  exact After.dn (Below.refl _ _) (by exact rfl)
                · intro e1 w1 hb hp hun
                  refine Ops.ld_int (rF23.later hb) rfl (by omega) rfl rfl ?_
                  refine Ops.nil ?_
                  exact After.dn (Below.refl _ _) (by exact rfl)
                · intro e1 w1 hb hp hun
                  refine Ops.eql rfl rfl rfl ?_
                  refine Ops.nil ?_
                  exact After.dn (Below.refl _ _) (by exact rfl)
                intro u w24 hb24 _
                have hb24 := hb23.trans (hb24.mono hb23.size)
                refine thenQ_n ?_
                refine Cd.cond_p _ rfl (fun h9 => ?_) (fun h9 => ?_)
                · rw [if_pos h9] at hct
                  refine Cd.region ?_
                  refine Ops.mv_int rfl rfl rfl ?_
                  refine Ops.sub rfl rfl rfl (by omega) ?_
                  refine Ops.mv_int rfl rfl rfl ?_
                  refine Ops.nil ?_
                  refine blockQ_n ?_
                  refine thenQ_n ?_
                  refine Cd.region ?_
                  refine Ops.mv_int rfl rfl rfl ?_
                  refine Ops.add rfl rfl rfl (by omega) ?_
                  refine Ops.mv_int rfl rfl rfl ?_
                  refine Ops.nil ?_
                  refine thenQ_n ?_
                  exact ⟨s + 1, by show F.length - (s + 1) < F.length - s; omega, ⟨rfl, rfl, rfl, by show Value.int .i64 _ = .int .i64 _; rw [hct]; first | done | (congr 1 <;> omega), rfl, trivial⟩, hb24⟩
                · rw [if_neg h9] at hct
                  refine Cd.skip ?_
                  refine blockQ_n ?_
                  refine thenQ_n ?_
                  refine Cd.region ?_
                  refine Ops.mv_int rfl rfl rfl ?_
                  refine Ops.add rfl rfl rfl (by omega) ?_
                  refine Ops.mv_int rfl rfl rfl ?_
                  refine Ops.nil ?_
                  refine thenQ_n ?_
                  exact ⟨s + 1, by show F.length - (s + 1) < F.length - s; omega, ⟨rfl, rfl, rfl, by show Value.int .i64 _ = .int .i64 _; rw [hct]; first | done | (congr 1 <;> omega), rfl, trivial⟩, hb24⟩
              · have hsF : F.take s = F := List.take_of_length_le (by omega)
                rw [hsF, hcount]
                refine Cd.exit ?_
                refine thenQ_x ?_
                refine thenQ_x ?_
                refine blockQ_x ?_
                refine thenQ_n ?_
                refine Cd.seq ?_
                refine Cd.region ?_
                refine Ops.mv_int rfl rfl rfl ?_
                refine Ops.neq rfl rfl rfl ?_
                refine Ops.nil ?_
                refine thenQ_n ?_
                refine Cd.cond_pf rfl (by omega) ?_
                refine Cd.skip ?_
                refine blockQ_n ?_
                refine thenQ_n ?_
                refine Cd.region ?_
                refine Ops.mv_int rfl rfl rfl ?_
                refine Ops.add rfl rfl rfl (by omega) ?_
                refine Ops.mv_int rfl rfl rfl ?_
                refine Ops.nil ?_
                refine thenQ_n ?_
                exact ⟨i + 1, by show F.length - (i + 1) < F.length - i; omega, ⟨rfl, rfl, rfl, trivial⟩, hb23⟩
          · refine Cd.exit ?_
            refine thenQ_x ?_
            refine thenQ_x ?_
            refine blockQ_x ?_
            refine thenQ_n ?_
            refine Cd.seq ?_
            refine Cd.region ?_
            refine Ops.mv_bool rfl rfl rfl ?_
            refine Ops.nil ?_
            refine thenQ_n ?_
            refine Cd.ret ?_
            refine ret1_b rfl ?_
            exact ⟨rfl, ((hS8.call hS9).call (hS20.later hb21)).none⟩
end Go.Proofs.YtjpkmpihmilgoaaGreat.Vc
/-
 A statement's frame: the arguments opened, and what a walk gives told in the statement's own words. Conditions: as each states them.
-/
namespace Go.Proofs.YtjpkmpihmilgoaaGreat.Vc
open Go.RowKit Go.ChangeShapes Go.WideShapes

theorem laid : laidOutB Tryz.prog = true := by kernel_rfl
theorem own : ownKnob Tryz.prog.godebug = none := by kernel_rfl

section
variable {H : Type} {enc : TypeId × Value → H} {P : Program}
theorem trodAll_stays (hl : laidOutB P = true) {W W' : World} (hb : Below W.heap.size W W') {sp : Nat → Bool} : ∀ {ts : List TypeId} {vs : List Value} {ds : List (DataW H)} {ps : List MemPlace}, (ts.all fun t => P.readableRec t && Nat.blt t P.types.size) = true → (∀ p ∈ ps, p.block < W.heap.size) → (∀ p ∈ ps, sp p.block = true) →
  DataW.TrodAll enc P W 0 (fun _ => true) true ts vs ds ps → DataW.TrodAll enc P W' 0 sp true ts vs ds ps
 | [], [], [], _, _, _, _, h => h
 | t :: ts, v :: vs, d :: ds, ps, hr, hlt, hsp, h => by
  obtain ⟨p, q, h1, h2, rfl⟩ := h
  simp only [List.all_cons, Bool.and_eq_true] at hr
  exact ⟨p, q, WideElems.Trod_stays hl hr.1.1 (by simpa [Nat.blt_eq] using hr.1.2) h1 (fun x hx => hb.same (hlt x (by simp [hx]))) (fun x hx => hsp x (by simp [hx])), trodAll_stays hl hb hr.2 (fun x hx => hlt x (by simp [hx])) (fun x hx => hsp x (by simp [hx])) h2, rfl⟩
 | [], [], _ :: _, _, _, _, _, h => h.elim
 | [], _ :: _, _, _, _, _, _, h => by cases h
 | _ :: _, [], _, _, _, _, _, h => by cases h
 | _ :: _, _ :: _, [], _, _, _, _, h => by cases h

/-- what a law's walk gives, in its statement's words: it returns true, and its arguments read as they did -/
theorem post_law {f : Func} {s : ChangeSpec} {apart : Bool} {W W' : World} {args : Array Value} {ds gs : List (DataW H)} {before : List MemPlace} (hl : laidOutB P = true) {b : TypeId} (hu : P.underlying b = some .bool) (hres : f.resultTypes = #[b]) (hv : s.vars = [])
    (hr : (f.params.toList.all fun t => P.readableRec t && Nat.blt t P.types.size) = true) (hfn : (s.fn H (ds ++ gs)).results = [.lit (.bool true)] ∧ (s.fn H (ds ++ gs)).args = ds ∧ (s.fn H (ds ++ gs)).vars = [])
    (hW : DataW.Whole enc P f.params.toList s.vars apart W args.toList ds gs before) (hb : Below W.heap.size W W') : s.post enc P f apart true false false W args (.bool true) W' := by
  have hlt : ∀ x ∈ before, x.block < W.heap.size := fun x hx => hW.lt x hx
  have hW0 := hW
  obtain ⟨p, q, hA, hV, rfl, hz, hn⟩ := hW
  rw [hv] at hV
  obtain ⟨rfl, rfl⟩ := trodVars_none hV
  have hlp : ∀ x ∈ p, x.block < W.heap.size := fun x hx => hlt x (by simp [hx])
  have hA' : ∀ sp : Nat → Bool, (∀ x ∈ p, sp x.block = true) → DataW.TrodAll enc P W' 0 sp true f.params.toList args.toList (s.fn H (ds ++ [])).args p := fun sp hsp => by
    rw [hfn.2.1]
    exact trodAll_stays hl hb hr hlp hsp hA
  have hR' : ∀ (b0 : Nat) (sp : Nat → Bool) (hd : Bool), DataW.TrodAll enc P W' b0 sp hd f.resultTypes.toList ((Value.bool true).resultList f.resultTypes.size) (s.fn H (ds ++ [])).results [] := fun b0 sp hd => by
    rw [hfn.1, hres]
    exact trodAll_cons_mk (shut_bool hu _) trodAll_mk0
  have hV' : ∀ sp : Nat → Bool, DataW.TrodVars enc P W' sp s.vars (s.fn H (ds ++ [])).vars [] := fun sp => by
    rw [hfn.2.2, hv]; rfl
  refine ⟨ds, [], p ++ [], [], p, [], hW0, hR' _ _ _, hA' _ (fun x hx => by simpa using hlp x hx), hV' _, World.keptBut_mono (fun x hx => ⟨hx, by simpa using hx⟩) (hb.frame (· ∈ p ++ [])), fun _ => ⟨fun j t r h1 h2 => ?_, _, _, ([] ++ p) ++ [], ⟨[] ++ p, [], trodAll_append (hA' _ fun _ _ => rfl) (hR' _ _ _), hV' _, rfl, fun c off hc => ?_, fun ha => by simpa using hn ha⟩, fun x hx _ => by simpa using hx⟩⟩
  · rw [hres] at h1 h2
    cases j with
    | zero =>
      simp at h1
      subst h1
      simp [Value.resultList] at h2
      subst h2
      exact okWide_bool_mk hu _
    | succ j => simp at h1
  · have hin : MemPlace.cell c off ∈ p ++ [] := by simpa using hc
    rw [hb.frozen (hlt _ hin)]
    exact hz c off hin
end
end Go.Proofs.YtjpkmpihmilgoaaGreat.Vc
/-
 Arguments opened: a struct of one matrix, a list of integers. Conditions: as each states them.
-/
namespace Go.Proofs.YtjpkmpihmilgoaaGreat.Vc
open Go.RowKit Go.ChangeShapes Go.WideShapes

section
variable {H : Type} {enc : TypeId × Value → H} {P : Program}
end
end Go.Proofs.YtjpkmpihmilgoaaGreat.Vc
/-
 An argument that is a list of bytes, opened. Conditions: as stated.
-/
namespace Go.Proofs.YtjpkmpihmilgoaaGreat.Vc
open Go.RowKit Go.ChangeShapes Go.WideShapes
section
variable {H : Type} {enc : TypeId × Value → H} {P : Program}
theorem open_ybs {w : World} {r : Go.Reach} {b0 : Nat} {t e : TypeId} {v : Value} {d : DataW H} {p : List MemPlace} (ht : P.underlying t = some (.slice e)) (he : P.underlying e = some (.int .u8)) (ce : P.cellsOf e = 1)
    (hval : Value.okWide P w r b0 t v) (h : DataW.Trod enc P w 0 (fun _ => true) true t v d p) : ∃ A n c bs, v = .slice A n c ∧ RdY w A n bs ∧ n ≤ c ∧ c ≤ 9223372036854775807 := by
  obtain ⟨a, len, cap, rfl⟩ := okWide_slice ht hval
  obtain ⟨fuel, hf⟩ := h
  have hcs : (Value.slice a len cap).cells.toList = [Value.slice a len cap] := rfl
  rw [hcs] at hf
  rcases open_ints ht he ce hf with ⟨h1, _⟩ | ⟨b, n, c, zs, h1, _, hl, hm, hz, _, hc, hwz⟩
  · simp only [List.cons.injEq, and_true] at h1
    exact ⟨none, 0, 0, [], h1, ⟨rfl, fun x hx => (nomatch hx), fun k hk => absurd hk (Nat.not_lt_zero _)⟩, Nat.le_refl _, by omega⟩
  · simp only [List.cons.injEq, and_true] at h1
    rw [if_pos rfl] at hz
    refine ⟨some b, n, c, zs.take n, h1, ⟨?_, fun x hx => ?_, fun k hk => ?_⟩, hl, by simpa [maxLen] using hm⟩
    · simp; omega
    · have := hwz x (List.mem_of_mem_take hx)
      simpa [Lit.wf, IntKind.min, IntKind.max, IntKind.signed, IntKind.bits] using this
    · refine ⟨b.add k, rfl, ?_⟩
      rw [hc k (by omega)]
      simp [List.getD_eq_getElem?_getD, List.getElem?_take, hk]
end
end Go.Proofs.YtjpkmpihmilgoaaGreat.Vc
