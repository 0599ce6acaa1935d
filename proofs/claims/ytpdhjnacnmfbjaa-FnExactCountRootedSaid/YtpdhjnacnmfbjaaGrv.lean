/-
  Plain mathematics of rooted forms: both ways of cutting the tree keep the maniplexes, in the same order. Conditions: as each states them. No program in sight.
-/
import Derived.Test.YtpdhjnacnmfbjaaGrw
namespace Go.Proofs.Ytpdhjnacnmfbjaa.Vc

section
variable {n F : Nat} {L M : List (List Int)}
theorem Inv.full (h : Inv n F L F (F * n)) {i : Nat} {f : Int} (hi : i < n) (h0 : 0 ≤ f) (hf : f < F) : 0 ≤ cell L i f := by
  obtain ⟨q, rfl⟩ : ∃ q : Nat, f = q := ⟨f.toNat, by omega⟩
  have h1 : q * n + i < F * n := by
    have : (q + 1) * n ≤ F * n := Nat.mul_le_mul_right n (by omega)
    rw [Nat.succ_mul] at this
    omega
  have h2 := h.known (q * n + i) h1
  rw [Nat.add_comm, Nat.add_mul_mod_self_right, Nat.mod_eq_of_lt hi, Nat.add_mul_div_right _ _ h.n0, Nat.div_eq_of_lt hi, Nat.zero_add] at h2
  exact h2
theorem Inv.inv (h : Inv n F L F (F * n)) {i : Nat} {f : Int} (hi : i < n) (h0 : 0 ≤ f) (hf : f < F) : 0 ≤ cell L i f ∧ cell L i f < F ∧ cell L i (cell L i f) = f ∧ cell L i f ≠ f := by
  have h1 := h.full hi h0 hf
  rcases h.cells i f hi h0 hf with h2 | h2
  · omega
  · exact ⟨h2.1, h2.2.1, h2.2.2.2.1, h2.2.2.2.2⟩
theorem Inv.rows1 (h : Inv n F L F (F * n)) (hF : F ≤ 400) : Rows1 L := by
  intro p hp
  obtain ⟨i, hi, rfl⟩ := List.mem_iff_getElem.1 hp
  have hin : i < n := by rw [← h.shp.1]; exact hi
  have e : L[i] = gl L i := (gl_mem hi).symm
  rw [e]
  have hl := h.shp.row hin
  have hl0 := h.shp.row h.n0
  have hinv : ∀ f : Int, 0 ≤ f → f < F → 0 ≤ gi (gl L i) f ∧ gi (gl L i) f < F ∧ gi (gl L i) (gi (gl L i) f) = f ∧ gi (gl L i) f ≠ f := fun f h0 hf => h.inv hin h0 hf
  refine ⟨by rw [hl, ← hl0]; rfl, ⟨by omega, fun x hx => ?_, ?_⟩, fun k hk => ?_⟩
  · obtain ⟨k, hk, rfl⟩ := List.mem_iff_getElem.1 hx
    rw [← gi_mem hk]
    have := hinv k (by omega) (by omega)
    omega
  · rw [List.nodup_iff_pairwise_ne, List.pairwise_iff_getElem]
    intro a b ha hb hab e2
    rw [← gi_mem ha, ← gi_mem hb] at e2
    have e3 := (hinv a (by omega) (by omega)).2.2.1
    have e4 := (hinv b (by omega) (by omega)).2.2.1
    rw [e2, e4] at e3
    omega
  · have := hinv k (by omega) (by omega)
    exact ⟨this.2.2.2, this.2.2.1⟩
theorem Con.reach (h : L.length = n) {x : Int} (hc : Con n L x) : Reach L 0 x := by
  induction hc with
  | zero => exact .refl
  | step _ hi _ _ ih => exact .step ih (gl_in (by omega) (by omega))
theorem Inv.mani (h : Inv n F L F (F * n)) (hn : n ≤ 5) (hF : 2 ≤ F ∧ F ≤ 400) (hJ : ∀ e : Nat, e < F → FitsAll L e) : Mani L := by
  have hl0 : (gl L 0).length = F := h.shp.row h.n0
  have hr := h.rows1 hF.2
  have hs := hr.sys
  have hlen := h.shp.1
  have hn0 := h.n0
  refine ⟨⟨by omega, by omega⟩, ⟨by omega, by omega⟩, hr, fun i hi k hk hik f hf => ?_, ?_⟩
  · have h1 := hJ f (by omega) i hi k hk hik
    have ci := h.inv (i := i) (f := f) (by omega) (by omega) (by omega)
    have ck := h.inv (i := k) (f := f) (by omega) (by omega) (by omega)
    have cki := h.inv (i := k) (f := cell L i f) (by omega) ci.1 ci.2.1
    have cik := h.inv (i := i) (f := cell L k f) (by omega) ck.1 ck.2.1
    have e1 : kn L k (cell L i f) = cell L k (cell L i f) := by unfold kn; rw [if_neg (by omega)]
    have e2 : kn L i (cell L k f) = cell L i (cell L k f) := by unfold kn; rw [if_neg (by omega)]
    have h2 := h1.2
    rw [e1, e2] at h2
    exact ⟨h2 cki.1 cik.1, h1.1 ci.1⟩
  · rw [hl0] at hs ⊢
    rw [orbit_all hs (by omega)]
    intro x h0 hx
    have := h.con x.toNat (by omega)
    rw [Int.toNat_of_nonneg h0] at this
    exact this.reach hlen

/-- a maniplex, told by cells -/
theorem Mani.cells (hL : Inv n F L F (F * n)) (h : Mani L) {i k : Nat} (hi : i < n) (hk : k < n) (hik : i + 2 ≤ k) {f : Int} (h0 : 0 ≤ f) (hf : f < F) : cell L k (cell L i f) = cell L i (cell L k f) ∧ cell L i f ≠ cell L k f := by
  have hl0 : (gl L 0).length = F := hL.shp.row hL.n0
  have hlen := hL.shp.1
  have h1 := h.2.2.2.1 i (by omega) k (by omega) hik f.toNat (by omega)
  unfold Comm at h1
  rw [Int.toNat_of_nonneg h0] at h1
  exact h1
theorem Mani.cells' (hL : Inv n F L F (F * n)) (h : Mani L) {i k : Nat} (hi : i < n) (hk : k < n) (hik : ¬ (-1 ≤ (k : Int) - i ∧ (k : Int) - i ≤ 1)) {f : Int} (h0 : 0 ≤ f) (hf : f < F) : cell L k (cell L i f) = cell L i (cell L k f) ∧ cell L i f ≠ cell L k f := by
  by_cases hc : i + 2 ≤ k
  · exact h.cells hL hi hk hc h0 hf
  · have := h.cells hL hk hi (by omega) h0 hf
    exact ⟨this.1.symm, fun e => this.2 e.symm⟩

theorem fits_of_ext {met at_ : Nat} (hM : Inv n F M met at_) (hL : Inv n F L F (F * n)) (hE : Ext n F M L) (hV : Mani L) (e : Nat) (he : e < F) : FitsAll M e := by
  intro i hi k hk hik
  have hlen := hM.shp.1
  have hmet := hM.metF
  have ci := hM.cells i e (by omega) (by omega) (by omega)
  have ck := hM.cells k e (by omega) (by omega) (by omega)
  have hv := hV.cells hL (i := i) (k := k) (by omega) (by omega) hik (f := (e : Int)) (by omega) (by omega)
  refine ⟨fun h0 h1 => ?_, fun h0 h1 => ?_⟩
  · rw [hE i e (by omega) (by omega) (by omega) h0, hE k e (by omega) (by omega) (by omega) (by rw [← h1]; exact h0)] at hv
    exact hv.2 h1
  · unfold kn at h0 h1 ⊢
    by_cases hx : cell M i e < 0
    · rw [if_pos hx] at h0; omega
    by_cases hy : cell M k e < 0
    · rw [if_pos hy] at h1; omega
    rw [if_neg hx] at h0 ⊢
    rw [if_neg hy] at h1 ⊢
    have e1 := hE i e (by omega) (by omega) (by omega) (by omega)
    have e2 := hE k e (by omega) (by omega) (by omega) (by omega)
    have e3 := hE k (cell M i e) (by omega) (by omega) (by omega) h0
    have e4 := hE i (cell M k e) (by omega) (by omega) (by omega) h1
    rw [e1, e2, e3, e4] at hv
    exact hv.1

theorem okI_of_ext {met at_ i f : Nat} (hM : Inv n F M met at_) (hi : i < n) (hf : f < F) (hc : 0 ≤ cell M i f) (hL : Inv n F L F (F * n)) (hE : Ext n F M L) (hV : Mani L) : okI M i f = true := by
  unfold okI
  rw [decide_eq_true_eq]
  intro k hk hik hb
  have hlen := hM.shp.1
  have hmet := hM.metF
  have hkn : k < n := by omega
  have ci := hM.cells i f hi (by omega) (by omega)
  have hg : 0 ≤ cell M i f ∧ cell M i f < F ∧ cell M i (cell M i f) = f := by
    rcases ci with ci | ci
    · omega
    · exact ⟨ci.1, by omega, ci.2.2.2.1⟩
  have ef := hE i f hi (by omega) (by omega) hc
  have vf := hV.cells' hL hi hkn hik (f := (f : Int)) (by omega) (by omega)
  have vg := hV.cells' hL hi hkn hik (f := cell M i f) hg.1 hg.2.1
  have eg := hE i (cell M i f) hi hg.1 hg.2.1 (by omega)
  rcases hb with hb | ⟨h1, h2, h3, h4⟩ | ⟨h1, h2, h3, h4⟩
  · have e1 := hE k f hkn (by omega) (by omega) (by omega)
    rw [ef, e1, hb] at vf
    exact vf.2 rfl
  · have e1 := hE k f hkn (by omega) (by omega) h1
    have e2 := hE k (cell M i f) hkn hg.1 hg.2.1 h2
    have r1 := hM.cells k f hkn (by omega) (by omega)
    have e3 := hE i (cell M k f) hi h1 (by omega) h3
    rw [ef, e1, e2, e3] at vf
    exact h4 vf.1.symm
  · have e1 := hE k f hkn (by omega) (by omega) h1
    have e2 := hE k (cell M i f) hkn hg.1 hg.2.1 h2
    have r1 := hM.cells k (cell M i f) hkn hg.1 hg.2.1
    have e3 := hE i (cell M k (cell M i f)) hi h2 (by omega) h3
    rw [eg, hg.2.2, e1, e2, e3] at vg
    exact h4 vg.1.symm

/-- all rooted forms that go on from here, in order -/
def forms (n F : Nat) (k at_ met : Nat) (M : List (List Int)) : List (List (List Int)) := (grow n F (fun _ _ _ => true) (fun _ => true) k at_ met M).filter fun L => decide (Mani L)

theorem growI_forms (k : Nat) {at_ met : Nat} (h : Inv n F M met at_) : grow n F okI (fun L => decide (Mani L)) k at_ met M = forms n F k at_ met M :=
  grow_filter (fun _ => True) _ (fun _ _ _ _ => trivial) (fun _ _ _ => rfl) (fun _ _ _ _ _ hM hi hf hc L hE hL hV => okI_of_ext hM hi hf hc hL hE (of_decide_eq_true hV)) k at_ met M h trivial
theorem growS_forms (hn : n ≤ 5) (hF : 2 ≤ F ∧ F ≤ 400) (k : Nat) {at_ met : Nat} (h : Inv n F M met at_) (hJ : ∀ e : Nat, e < F → FitsAll M e) : grow n F (okS F) (fun _ => true) k at_ met M = forms n F k at_ met M :=
  grow_filter (fun M => ∀ e : Nat, e < F → FitsAll M e) _ (fun M i f h => of_decide_eq_true h) (fun M hM hj => by rw [decide_eq_true (hM.mani hn hF hj)])
    (fun M i f met at_ hM hi hf hc L hE hL hV => decide_eq_true (fun e he => fits_of_ext hM hL hE (of_decide_eq_true hV) e he)) k at_ met M h hJ

/-- nothing known -/
def blank (n F : Nat) : List (List Int) := List.replicate n (List.replicate F (-1))
theorem cell_blank {i : Nat} {f : Int} (hi : i < n) (h0 : 0 ≤ f) (hf : f < F) : cell (blank n F) i f = -1 := by
  have e : gl (blank n F) i = List.replicate F (-1) := by simp [gl, blank, List.getD_eq_getElem?_getD, List.getElem?_replicate, hi]
  rw [cell, e, gi_rep h0 hf]
theorem Inv.blank (hn : 0 < n) (hF : 0 < F) : Inv n F (blank n F) 1 0 where
  shp := ⟨by simp [Vc.blank], fun p hp => by simp [Vc.blank] at hp; rw [hp.2]; simp⟩
  n0 := hn
  met1 := Nat.le_refl _
  metF := hF
  cells i f hi h0 hf := .inl (cell_blank hi h0 hf)
  known a ha := by omega
  con f hf := by
    have : f = 0 := by omega
    subst this; exact .zero
  le := Nat.zero_le _
theorem blank_fits (e : Nat) (he : e < F) : FitsAll (blank n F) e := by
  intro i hi k hk hik
  have hl : (blank n F).length = n := by simp [Vc.blank]
  have e1 := cell_blank (n := n) (F := F) (i := i) (f := (e : Int)) (by omega) (by omega) (by omega)
  refine ⟨fun h0 => by omega, fun h0 h1 => ?_⟩
  unfold kn at h0
  rw [if_pos (by omega)] at h0
  omega
end
end Go.Proofs.Ytpdhjnacnmfbjaa.Vc
