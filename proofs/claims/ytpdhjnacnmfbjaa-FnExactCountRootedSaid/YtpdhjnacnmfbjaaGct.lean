/-
  Plain mathematics: how many rooted forms there can be. Conditions: as each states them. No program in sight.
-/
import Derived.Test.YtpdhjnacnmfbjaaGrv
import Derived.KernelRfl
namespace Go.Proofs.Ytpdhjnacnmfbjaa.Vc

def dft : Nat → Nat
  | 0 => 1
  | 1 => 0
  | u + 2 => (u + 1) * dft u
def prod : List Nat → Nat
  | [] => 1
  | x :: l => x * prod l
def phi (M : List (List Int)) : Nat := prod (M.map fun p => dft (unl p))
theorem prod_set : ∀ (l : List Nat) (i k x : Nat) (h : i < l.length), l[i] = k * x → prod l = k * prod (l.set i x)
  | [], i, _, _, h, _ => by simp at h
  | y :: l, 0, k, x, _, e => by
    simp at e; subst e
    simp [prod, Nat.mul_assoc]
  | y :: l, i + 1, k, x, h, e => by
    have := prod_set l i k x (by simpa using h) (by simpa using e)
    simp only [prod, List.set_cons_succ, this]
    rw [Nat.mul_left_comm]
theorem prod_one : ∀ (l : List Nat), (∀ x ∈ l, x = 1) → prod l = 1
  | [], _ => rfl
  | x :: l, h => by simp [prod, h x (by simp), prod_one l (fun y hy => h y (by simp [hy]))]

theorem sum_le {α : Type} (f : Nat → List α) (p : Nat → Bool) (X : Nat) : ∀ (l : List Nat), (∀ g ∈ l, (f g).length ≤ if p g = true then X else 0) → (l.flatMap f).length ≤ l.countP p * X
  | [], _ => by simp
  | g :: l, h => by
    have h1 := h g (by simp)
    have h2 := sum_le f p X l (fun x hx => h x (by simp [hx]))
    rw [List.flatMap_cons, List.length_append, List.countP_cons]
    by_cases hp : p g = true
    · rw [if_pos hp] at h1 ⊢
      rw [Nat.add_mul, Nat.one_mul]; omega
    · rw [if_neg hp] at h1 ⊢
      rw [Nat.add_zero]
      omega

/-- the unknown places of a row behind one that is unknown -/
theorem behind_le {p : List Int} {q c : Nat} (hq : q < p.length) (hn : gi p q < 0) (hc : q + 1 + c ≤ p.length) : (List.range' (q + 1) c).countP (fun g => decide (gi p (g : Nat) < 0)) + 1 ≤ unl p := by
  have e1 : (List.range' (q + 1) c).map (fun g => gi p (g : Nat)) = (p.drop (q + 1)).take c := by
    apply List.ext_getElem
    · simp; omega
    · intro i h1 h2
      have hi : i < c := by simpa using h1
      rw [List.getElem_map, List.getElem_range', gi_mem (by omega)]
      simp
  have e2 : (List.range' (q + 1) c).countP (fun g => decide (gi p (g : Nat) < 0)) = ((p.drop (q + 1)).take c).countP (fun x => decide (x < 0)) := by
    rw [← e1, List.countP_map]; rfl
  have e3 : ((p.drop (q + 1)).take c).countP (fun x => decide (x < 0)) ≤ (p.drop (q + 1)).countP (fun x => decide (x < 0)) := (List.take_sublist _ _).countP_le
  have e4 : unl p = (p.take (q + 1)).countP (fun x => decide (x < 0)) + (p.drop (q + 1)).countP (fun x => decide (x < 0)) := by
    unfold unl
    rw [← List.countP_append, List.take_append_drop]
  have e5 : 0 < (p.take (q + 1)).countP (fun x => decide (x < 0)) := List.countP_pos_iff.2 ⟨gi p q, by rw [take_succ_gi hq]; simp, by simpa using hn⟩
  omega

section
variable {n F : Nat} {M : List (List Int)} {met at_ : Nat}
theorem phi_put (h : Shp n F M) {r q g : Nat} (hr : r < n) (hq : q < F) (hg : g < F) (hqg : q ≠ g) (h1 : cell M r q < 0) (h2 : cell M r g < 0) {u : Nat} (hu : unl (gl M r) = u + 2) : phi (put M r q g) = prod ((M.map fun p => dft (unl p)).set r (dft u)) ∧ phi M = (u + 1) * prod ((M.map fun p => dft (unl p)).set r (dft u)) := by
  have hl := h.1
  have hrow := h.row hr
  have hp1 : unl ((gl M r).set q (g : Int)) + 1 = unl (gl M r) := by
    have := unl_set (L := gl M r) (x := (q : Int)) (c := (g : Int)) (by omega) (by omega) h1 (by omega)
    rwa [Int.toNat_natCast] at this
  have e2 : gi ((gl M r).set q (g : Int)) g = gi (gl M r) g := by
    have := gi_set (S := gl M r) (x := (q : Int)) (y := (g : Int)) (b := (g : Int)) (by omega) (by omega) (by omega)
    rw [Int.toNat_natCast, if_neg (by omega)] at this
    exact this
  have hp2 : unl (((gl M r).set q (g : Int)).set g (q : Int)) + 1 = unl ((gl M r).set q (g : Int)) := by
    have := unl_set (L := (gl M r).set q (g : Int)) (x := (g : Int)) (c := (q : Int)) (by omega) (by simp; omega) (by rw [e2]; exact h2) (by omega)
    rwa [Int.toNat_natCast] at this
  have hu2 : unl (((gl M r).set q (g : Int)).set g (q : Int)) = u := by omega
  have hput : put M r q g = M.set r (((gl M r).set q (g : Int)).set g (q : Int)) := by
    unfold put setc
    rw [gl_set (by omega), if_pos rfl, List.set_set]
  have hgr : M[r]'(by omega) = gl M r := (gl_mem (by omega)).symm
  unfold phi
  rw [hput, List.map_set, hu2]
  refine ⟨rfl, ?_⟩
  refine prod_set _ r (u + 1) (dft u) (by simp; omega) ?_
  rw [List.getElem_map, hgr, hu]; rfl

theorem grow_le_phi : ∀ (k at_ met : Nat) (M : List (List Int)), Inv n F M met at_ → (grow n F (fun _ _ _ => true) (fun _ => true) k at_ met M).length ≤ phi M
  | 0, _, _, _, _ => by simp [grow]
  | k + 1, at_, met, M, h => by
    simp only [grow]
    split
    · rename_i ha
      split
      · rename_i hm
        have hm1 := hm.1
        subst hm1
        have hI : Inv n met M met (met * n) := by rw [← ha]; exact h
        have : phi M = 1 := prod_one _ (fun x hx => by
          obtain ⟨p, hp, rfl⟩ := List.mem_map.1 hx
          obtain ⟨i, hi, rfl⟩ := List.mem_iff_getElem.1 hp
          have hin : i < n := by rw [← h.shp.1]; exact hi
          have e : M[i] = gl M i := (gl_mem hi).symm
          have : unl M[i] = 0 := by
            rw [e]
            refine List.countP_eq_zero.2 fun x hx => ?_
            obtain ⟨j, hj, rfl⟩ := List.mem_iff_getElem.1 hx
            have := hI.full (i := i) (f := (j : Int)) hin (by omega) (by rw [h.shp.row hin] at hj; omega)
            rw [← gi_mem hj]
            have h3 : 0 ≤ gi (gl M i) (j : Int) := this
            simp; omega
          rw [this]; rfl)
        simp [this]
      · simp
    · rename_i ha
      split
      · rename_i hk
        exact grow_le_phi k _ _ _ (h.next ha hk)
      · rename_i hk
        have hp := h.pos ha
        have hF := h.metF
        have hrow := h.shp.row hp.1
        have hqF : at_ / n < F := by omega
        have hrg := fun g hg => range_mem h ha (g := g) hg
        have hput := fun g (h1 : at_ / n < g) (h2 : g ≤ met) (h3 : g < F) h4 => h.put ha hk (g := g) h1 h2 h3 h4
        generalize hr : at_ % n = r at *
        generalize hq : at_ / n = q at *
        have hkn : gi (gl M (r : Nat)) (q : Nat) < 0 := Int.not_le.1 hk
        have hm1 := h.met1
        have hbeh := behind_le (p := gl M (r : Nat)) (q := q) (c := min met (F - 1) - q) (by omega) hkn (by omega)
        obtain ⟨u, hu⟩ : ∃ u, unl (gl M (r : Nat)) = u + 1 := ⟨unl (gl M (r : Nat)) - 1, by omega⟩
        refine Nat.le_trans (sum_le _ (fun g => decide (gi (gl M (r : Nat)) (g : Nat) < 0)) (prod ((M.map fun p => dft (unl p)).set r (dft (u - 1)))) _ (fun g hg => ?_)) ?_
        · have hgr := hrg g hg
          by_cases hgc : 0 ≤ cell M r (g : Nat)
          · rw [if_pos hgc]; exact Nat.zero_le _
          · have hgn : gi (gl M (r : Nat)) (g : Nat) < 0 := Int.not_le.1 hgc
            rw [if_neg hgc, if_pos trivial, if_pos (decide_eq_true hgn)]
            have hcnt : 0 < (List.range' (q + 1) (min met (F - 1) - q)).countP (fun g => decide (gi (gl M (r : Nat)) (g : Nat) < 0)) := List.countP_pos_iff.2 ⟨g, hg, decide_eq_true hgn⟩
            obtain ⟨u', rfl⟩ : ∃ u', u = u' + 1 := ⟨u - 1, by omega⟩
            have hphi := phi_put h.shp hp.1 hqF hgr.2.2 (by omega) (by omega) (by omega) hu
            rw [show u' + 1 - 1 = u' by omega, ← hphi.1]
            exact grow_le_phi k _ _ _ (hput g hgr.1 hgr.2.1 hgr.2.2 hgc)
        · by_cases hu0 : u = 0
          · have : (List.range' (q + 1) (min met (F - 1) - q)).countP (fun g => decide (gi (gl M (r : Nat)) (g : Nat) < 0)) = 0 := by omega
            rw [this, Nat.zero_mul]; exact Nat.zero_le _
          · obtain ⟨u', rfl⟩ : ∃ u', u = u' + 1 := ⟨u - 1, by omega⟩
            rw [show u' + 1 - 1 = u' by omega]
            have hfac : phi M = (u' + 1) * prod ((M.map fun p => dft (unl p)).set r (dft u')) := by
              unfold phi
              have hl := h.shp.1
              refine prod_set _ r (u' + 1) (dft u') (by simp; omega) ?_
              rw [List.getElem_map, show M[r]'(by omega) = gl M r from (gl_mem (by omega)).symm, hu]; rfl
            rw [hfac]
            exact Nat.mul_le_mul_right _ (by omega)

/-- two moves that should commute meet at flag 0 -/
def bad0 (n : Nat) (M : List (List Int)) : Bool := (List.range n).any fun i => (List.range n).any fun k => decide (i + 2 ≤ k ∧ 0 ≤ cell M i 0 ∧ cell M i 0 = cell M k 0)
/-- a bound that looks at j places first -/
def wt (n F : Nat) : Nat → Nat → Nat → List (List Int) → Nat
  | 0, _, _, M => if bad0 n M = true then 0 else phi M
  | j + 1, at_, met, M =>
    if at_ = met * n then 1
    else if 0 ≤ cell M (at_ % n) (at_ / n : Nat) then wt n F j (at_ + 1) met M
    else ((List.range' (at_ / n + 1) (min met (F - 1) - at_ / n)).map fun g => if 0 ≤ cell M (at_ % n) (g : Nat) then 0 else wt n F j (at_ + 1) (max met (g + 1)) (put M (at_ % n) (at_ / n) g)).sum

theorem forms_bad (h : Inv n F M met at_) (hb : bad0 n M = true) (k : Nat) : forms n F k at_ met M = [] := by
  unfold forms
  rw [List.filter_eq_nil_iff]
  intro L hL hV
  have h1 := grow_leaf k _ _ _ h L hL
  have hV := of_decide_eq_true hV
  simp only [bad0, List.any_eq_true, decide_eq_true_eq, List.mem_range] at hb
  obtain ⟨i, hi, k', hk', hik, h0, he⟩ := hb
  have hF : 0 < F := by have := h.met1; have := h.metF; omega
  have h2 := hV.cells h1.2 hi hk' hik (f := 0) (by omega) (by omega)
  rw [h1.1 i 0 hi (by omega) (by omega) h0, h1.1 k' 0 hk' (by omega) (by omega) (by rw [← he]; exact h0)] at h2
  exact h2.2 he
theorem sum_le2 {α : Type} (f : Nat → List α) (c : Nat → Nat) : ∀ (l : List Nat), (∀ g ∈ l, (f g).length ≤ c g) → (l.flatMap f).length ≤ (l.map c).sum
  | [], _ => by simp
  | g :: l, h => by
    have h1 := h g (by simp)
    have h2 := sum_le2 f c l (fun x hx => h x (by simp [hx]))
    rw [List.flatMap_cons, List.length_append, List.map_cons, List.sum_cons]
    omega
theorem forms_le_wt : ∀ (j k at_ met : Nat) (M : List (List Int)), Inv n F M met at_ → (forms n F k at_ met M).length ≤ wt n F j at_ met M
  | 0, k, at_, met, M, h => by
    simp only [wt]
    split
    · rename_i hb; rw [forms_bad h hb]; simp
    · exact Nat.le_trans (List.length_filter_le _ _) (grow_le_phi k _ _ _ h)
  | j + 1, 0, at_, met, M, h => by simp [forms, grow]
  | j + 1, k + 1, at_, met, M, h => by
    simp only [forms, grow, wt]
    split
    · refine Nat.le_trans (List.length_filter_le _ _) ?_
      split <;> simp
    · rename_i ha
      split
      · rename_i hk
        exact forms_le_wt j k _ _ _ (h.next ha hk)
      · rename_i hk
        rw [filter_flatMap']
        refine sum_le2 _ _ _ (fun g hg => ?_)
        have hr := range_mem h ha hg
        split
        · simp
        · rename_i hgc
          rw [if_pos trivial]
          exact forms_le_wt j k _ _ _ (h.put ha hk hr.1 hr.2.1 hr.2.2 hgc)
end

theorem wt_small : ((List.range' 1 4).all fun n => (List.range' 2 11).all fun F => Nat.ble (wt n F 4 0 1 (blank n F)) 4000000000000) = true := by kernel_rfl
theorem forms_small {n F : Nat} (hn : 1 ≤ n ∧ n ≤ 4) (hF : 2 ≤ F ∧ F ≤ 12) (k : Nat) : (forms n F k 0 1 (blank n F)).length ≤ 4000000000000 := by
  have h := wt_small
  rw [List.all_eq_true] at h
  have h1 := h n (by rw [List.mem_range'_1]; omega)
  rw [List.all_eq_true] at h1
  have h2 := h1 F (by rw [List.mem_range'_1]; omega)
  exact Nat.le_trans (forms_le_wt 4 k 0 1 _ (Inv.blank (by omega) (by omega))) (Nat.le_of_ble_eq_true h2)
end Go.Proofs.Ytpdhjnacnmfbjaa.Vc
