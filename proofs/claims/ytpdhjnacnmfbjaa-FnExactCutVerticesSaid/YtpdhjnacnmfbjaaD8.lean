/-
  Neighbours: what they are, and the reference's walk. Conditions: as each states them.
-/
import Derived.Test.YtpdhjnacnmfbjaaD5
import Derived.Shelf.SortM.SortNone
namespace Go.Proofs.Ytpdhjnacnmfbjaa.Vc
open Go.RowKit

theorem sort0_c {w0 w : World} {ks : List Ck} (i : Nat) {t : TypeId} {A : Option Addr} {n c : Nat} {xs : List Int} (hS : St w0 w ks) (hk : ks[i]? = some (CkI t A n c xs)) (hn : n ≤ 1000000000) :
    Ret Try.prog 103 [.slice A n c] w (fun v w' => v = .tuple #[] ∧ St w0 w' (ks.set i (CkI t A n c (srt xs)))) := by
  by_cases h0 : 0 < n
  · exact sort_c i hS hk h0 hn
  · obtain rfl : n = 0 := by omega
    have hxl := hS.lenI i hk
    obtain rfl := List.eq_nil_of_length_eq_zero hxl
    refine Calls.mono (AnyM.slices_Sort_int_none lsort A c w) fun x w' ⟨hx, hw⟩ => ⟨_, hx, rfl, ?_⟩
    subst hw
    have e : srt [] = [] := List.eq_nil_of_length_eq_zero (srt_perm []).length_eq
    rw [e, set_id hk]
    exact hS
theorem compact0_c {w0 w : World} {ks : List Ck} (i : Nat) {t : TypeId} {A : Option Addr} {n c : Nat} {xs : List Int} (hS : St w0 w ks) (hk : ks[i]? = some (CkI t A n c xs)) (hn : n ≤ 1000000000) :
    Ret Try.prog 110 [.slice A n c] w (fun v w' => v = .slice A (cmpL xs).length c ∧ St w0 w' (ks.set i (CkI t A (cmpL xs).length c (cmpL xs)))) := by
  by_cases h0 : 0 < n
  · exact compact_c i hS hk h0 hn
  · obtain rfl : n = 0 := by omega
    have hxl := hS.lenI i hk
    obtain rfl := List.eq_nil_of_length_eq_zero hxl
    have e : cmpL [] = [] := List.eq_nil_of_length_eq_zero (Nat.le_zero.1 (cmpL_len []))
    rw [e]
    refine Ret.of_cd Try.func110 rfl Try.ntmps110 rfl (post1 rfl) ?_
    refine Cd.seq ?_
    refine Cd.region ?_
    refine Ops.mv_sl rfl rfl rfl ?_
    refine Ops.nil ?_
    refine thenQ_n ?_
    refine Cd.seq ?_
    refine Cd.seq ?_
    refine Cd.region ?_
    refine Ops.mv_sl rfl rfl rfl ?_
    refine Ops.len rfl rfl ?_
    refine Ops.lss rfl rfl rfl ?_
    refine Ops.nil ?_
    refine thenQ_n ?_
    -- stop: cond
    refine Cd.cond_pt rfl (by decide) ?_
    refine Cd.seq ?_
    refine Cd.region ?_
    refine Ops.mv_sl rfl rfl rfl ?_
    refine Ops.mv_sl rfl rfl rfl ?_
    refine Ops.nil ?_
    refine thenQ_n ?_
    refine Cd.ret ?_
    refine thenQ_r ?_
    refine ret1_s rfl ?_
    -- stop: end
    exact ⟨rfl, by rw [show ([] : List Int).length = 0 from rfl, set_id hk]; exact hS⟩

/-! lists filled by pairs: a place, and what is put there -/
def bagP (m : Nat) (ps : List (Int × Int)) : List (List Int) := ps.foldl (fun B p => B.set p.1.toNat (gl B p.1 ++ [p.2])) (List.replicate m [])
theorem bagP_snoc (m : Nat) (ps : List (Int × Int)) (p : Int × Int) : bagP m (ps ++ [p]) = (bagP m ps).set p.1.toNat (gl (bagP m ps) p.1 ++ [p.2]) := by
  unfold bagP
  rw [List.foldl_append]; rfl
theorem snoc_ind {α : Type} {P : List α → Prop} (h0 : P []) (h1 : ∀ l a, P l → P (l ++ [a])) (l : List α) : P l := by
  have : ∀ (n : Nat) (l : List α), l.length = n → P l := by
    intro n
    induction n with
    | zero => intro l hl; rw [List.eq_nil_of_length_eq_zero hl]; exact h0
    | succ n ih =>
      intro l hl
      have hne : l ≠ [] := by intro e; rw [e] at hl; simp at hl
      rw [← List.dropLast_concat_getLast hne]
      exact h1 _ _ (ih _ (by simp [hl]))
  exact this _ l rfl
theorem bagP_len (m : Nat) (ps : List (Int × Int)) : (bagP m ps).length = m := by
  induction ps using snoc_ind with
  | h0 => simp [bagP]
  | h1 l a ih => rw [bagP_snoc, List.length_set, ih]
theorem gl_blank (m : Nat) (e : Int) : gl (List.replicate m ([] : List Int)) e = [] := by
  simp only [gl, List.getD_eq_getElem?_getD, List.getElem?_replicate]
  split <;> rfl
theorem bagP_row {m : Nat} (ps : List (Int × Int)) : (∀ p ∈ ps, 0 ≤ p.1 ∧ p.1 < m) → ∀ e : Int, 0 ≤ e → (gl (bagP m ps) e).length ≤ ps.length := by
  induction ps using snoc_ind with
  | h0 => intro _ e _; rw [show bagP m [] = List.replicate m [] from rfl, gl_blank]; exact Nat.zero_le _
  | h1 l a ih =>
    intro h e he
    have ha := h a (by simp)
    have ih := ih (fun p hp => h p (by simp [hp]))
    rw [bagP_snoc, gl_set2 e he (by rw [bagP_len]; omega)]
    split
    · have := ih a.1 ha.1; simp; omega
    · have := ih e he; simp; omega
theorem bagP_mem {m : Nat} {b : Int} (ps : List (Int × Int)) : (∀ p ∈ ps, (0 ≤ p.1 ∧ p.1 < m) ∧ 0 ≤ p.2 ∧ p.2 < b) → ∀ e : Int, 0 ≤ e → ∀ x ∈ gl (bagP m ps) e, 0 ≤ x ∧ x < b := by
  induction ps using snoc_ind with
  | h0 => intro _ e _ x hx; rw [show bagP m [] = List.replicate m [] from rfl, gl_blank] at hx; cases hx
  | h1 l a ih =>
    intro h e he x hx
    have ha := h a (by simp)
    have ih := ih (fun p hp => h p (by simp [hp]))
    rw [bagP_snoc, gl_set2 e he (by rw [bagP_len]; omega)] at hx
    split at hx
    · rcases List.mem_append.1 hx with hx | hx
      · exact ih a.1 ha.1.1 x hx
      · simp at hx; subst hx; exact ha.2
    · exact ih e he x hx
def endsP (m : Nat) (ps : List (Int × Int)) : List (List Int) := (bagP m ps).map cs
theorem endsP_len (m : Nat) (ps : List (Int × Int)) : (endsP m ps).length = m := by rw [endsP, List.length_map, bagP_len]
theorem gl_endsP (m : Nat) (ps : List (Int × Int)) (e : Int) : gl (endsP m ps) e = cs (gl (bagP m ps) e) := by
  simp only [gl, endsP, List.getD_eq_getElem?_getD, List.getElem?_map]
  cases (bagP m ps)[e.toNat]? with
  | none => exact cs_nil.symm
  | some l => rfl
theorem endsP_nil (m : Nat) : endsP m [] = List.replicate m [] := by
  rw [endsP, show bagP m [] = List.replicate m [] from rfl, List.map_replicate, cs_nil]
theorem endsP_snoc (m : Nat) (ps : List (Int × Int)) (p : Int × Int) : endsP m (ps ++ [p]) = (endsP m ps).set p.1.toNat (cs (gl (endsP m ps) p.1 ++ [p.2])) := by
  rw [gl_endsP, cs_cs, endsP, bagP_snoc, List.map_set]
  rfl
theorem endsP_SA (m : Nat) (ps : List (Int × Int)) (e : Int) : SA (gl (endsP m ps) e) := by rw [gl_endsP]; exact cs_SA _
theorem endsP_row {m : Nat} {ps : List (Int × Int)} (h : ∀ p ∈ ps, 0 ≤ p.1 ∧ p.1 < m) (e : Int) (he : 0 ≤ e) : (gl (endsP m ps) e).length ≤ ps.length := by
  rw [gl_endsP]
  exact Nat.le_trans (cs_len _) (bagP_row ps h e he)

/-! the vertices at an edge's ends -/
theorem bag_mem {Vl El : List Int} {m : Nat} {b : Int} : ∀ f, (∀ k : Nat, k < f → (0 ≤ gi El k ∧ gi El k < m) ∧ 0 ≤ gi Vl k ∧ gi Vl k < b) → ∀ e : Int, 0 ≤ e → ∀ x ∈ gl (bag Vl El m f) e, 0 ≤ x ∧ x < b
  | 0, _, e, he, x, hx => by rw [show bag Vl El m 0 = List.replicate m [] from rfl, gl_blank] at hx; cases hx
  | f + 1, h, e, he, x, hx => by
    have hf := h f (by omega)
    have ih := bag_mem (Vl := Vl) f (fun k hk => h k (by omega))
    rw [bag, gl_set2 e he (by rw [bag_len]; omega)] at hx
    split at hx
    · rcases List.mem_append.1 hx with hx | hx
      · exact ih _ hf.1.1 x hx
      · simp at hx; subst hx; exact hf.2
    · exact ih e he x hx
def vertsN (xss : List (List Int)) : Nat := (facesN xss 0).toNat
theorem endsL_mem {xss : List (List Int)} (hM : Mani xss) (e : Int) (he : 0 ≤ e) : ∀ x ∈ gl (endsL xss) e, 0 ≤ x ∧ x < (vertsN xss : Int) := fun x hx => by
  rw [endsL, gl_ends, cs_mem] at hx
  exact bag_mem (gl xss 0).length (fun k hk => by
    have h0 := faces_in hM 0 k hk
    have h1 := faces_in hM 1 k hk
    unfold vertsN edgesN
    omega) e he x hx
theorem endsL_row {xss : List (List Int)} (hM : Mani xss) (e : Int) (he : 0 ≤ e) : (gl (endsL xss) e).length ≤ (gl xss 0).length :=
  ends_row (fun f hf => by have := faces_in hM 1 f hf; unfold edgesN; omega) e he
/-- the pairs that the first e edges give -/
def arcs (En : List (List Int)) : Nat → List (Int × Int)
  | 0 => []
  | e + 1 => if (gl En e).length = 2 then (arcs En e ++ [(gi (gl En e) 0, gi (gl En e) 1)]) ++ [(gi (gl En e) 1, gi (gl En e) 0)] else arcs En e
theorem arcs_len (En : List (List Int)) : ∀ e, (arcs En e).length ≤ 2 * e
  | 0 => Nat.le_refl _
  | e + 1 => by
    have := arcs_len En e
    unfold arcs
    split
    · simp; omega
    · omega
theorem two_in {l : List Int} {b : Int} (h : ∀ x ∈ l, 0 ≤ x ∧ x < b) (h2 : l.length = 2) : (0 ≤ gi l 0 ∧ gi l 0 < b) ∧ 0 ≤ gi l 1 ∧ gi l 1 < b :=
  ⟨by rw [show (0 : Int) = ((0 : Nat) : Int) from rfl, gi_mem (by omega)]; exact h _ (List.getElem_mem _), by rw [show (1 : Int) = ((1 : Nat) : Int) from rfl, gi_mem (by omega)]; exact h _ (List.getElem_mem _)⟩
theorem arcs_in {En : List (List Int)} {b : Int} (h : ∀ e : Nat, ∀ x ∈ gl En e, 0 ≤ x ∧ x < b) : ∀ e, ∀ p ∈ arcs En e, (0 ≤ p.1 ∧ p.1 < b) ∧ 0 ≤ p.2 ∧ p.2 < b
  | 0, p, hp => by cases hp
  | e + 1, p, hp => by
    unfold arcs at hp
    split at hp
    · rename_i h2
      have ht := two_in (h e) h2
      rcases List.mem_append.1 hp with hp | hp
      · rcases List.mem_append.1 hp with hp | hp
        · exact arcs_in h e p hp
        · simp at hp; subst hp; exact ht
      · simp at hp; subst hp; exact ⟨ht.2, ht.1⟩
    · exact arcs_in h e p hp
def nbL (xss : List (List Int)) : List (List Int) := endsP (vertsN xss) (arcs (endsL xss) (edgesN xss))
theorem nbL_len (xss : List (List Int)) : (nbL xss).length = vertsN xss := endsP_len _ _
theorem nb_small {xss : List (List Int)} (hM : Mani xss) : edgesN xss ≤ 400 ∧ vertsN xss ≤ 400 ∧ (gl xss 0).length ≤ 400 := by
  have h0 := facesN_le xss 0
  have h1 := facesN_le xss 1
  have h2 := hM.2.1
  unfold edgesN vertsN
  omega

theorem l18Neighbours_c (A : Option Addr) (n c : Nat) (rs : List SlV) (xss : List (List Int)) (w : World) (hR : RowsI w A n rs xss) (hG : Grph xss) :
    Ret Try.prog 77 [.agg #[.slice A n c]] w (fun v w' => ∃ A' rs', v = .slice A' (vertsN xss) (vertsN xss) ∧ rs'.length = vertsN xss ∧ St w w' (mat 39 2 A' (vertsN xss) (vertsN xss) rs' (nbL xss) ++ [])) := by
  have hl := hR.len
  have hM := hG.1
  have hn2 := hG.2
  have h5 := hM.1
  have hsm := nb_small hM
  have hgr := faces_grt hM 0
  have hmN : ((vertsN xss : Nat) : Int) = facesN xss 0 := by have := facesN_le xss 0; unfold vertsN; omega
  have hEx : ∀ x ∈ facesL xss 0, x ≤ 1000000 := fun x hx => by
    obtain ⟨k, hk, rfl⟩ := List.mem_iff_getElem.1 hx
    have := faces_in hM 0 k (by rw [← facesL_len xss 0]; exact hk)
    rw [gi_mem hk] at this
    omega
  have hmem : ∀ e : Nat, ∀ x ∈ gl (endsL xss) e, 0 ≤ x ∧ x < (vertsN xss : Int) := fun e => endsL_mem hM e (by omega)
  have harc := arcs_in hmem
  have hal := arcs_len (endsL xss)
  have hEl := endsL_len xss
  have hnb : nbL xss = endsP (vertsN xss) (arcs (endsL xss) (edgesN xss)) := rfl
  rw [hnb]
  refine Ret.of_cd Try.func77 rfl Try.ntmps77 rfl (post1 rfl) ?_
  refine Cd.seq ?_
  refine Cd.region ?_
  -- stop: BOX 32 t0=m -> 1
  refine Ops.box1 (St.refl w) rfl rfl ?_
  intro Ab w1 hS1
  refine Ops.mv_sl rfl rfl rfl ?_
  refine Ops.nil ?_
  refine thenQ_n ?_
  refine Cd.seq ?_
  refine Cd.region ?_
  -- stop: LOAD 32 t1=m -> 8
  refine Ops.ld_agg 0 (hS1.rd 0 rfl) rfl rfl rfl ?_
  refine Ops.call (l18Ends_c A n c rs xss _ (hS1.oldRows hR) hG) rfl rfl rfl ?_
  rintro _ w2 ⟨A3, rs3, rfl, hrl3, hst⟩
  have hS2 := hS1.call2 hst
  have hP2 := hst.rowsI hEl
  refine Ops.mv_sl rfl rfl rfl ?_
  refine Ops.nil ?_
  refine thenQ_n ?_
  refine Cd.seq ?_
  refine Cd.region ?_
  -- stop: LOAD 32 t1=m -> 10
  refine Ops.ld_agg 0 (hS2.rd 0 rfl) rfl rfl rfl ?_
  refine Ops.call (l02Faces_c A n c rs xss 0 _ (hS2.oldRows hR) hM (by omega)) rfl rfl rfl ?_
  rintro _ w3 ⟨A4, c4, rfl, hst4⟩
  have hP3 := hP2.later hst4.below
  have hS3 := (hS2.later hst4.below).none
  refine Ops.call (l02Greatest_c A4 _ c4 (facesL xss 0) w3 (hst4.rdI 0 rfl) (by omega) hEx) rfl rfl rfl ?_
  rintro _ w3 ⟨rfl, rfl⟩
  rw [hgr, ← hmN]
  generalize hv : vertsN xss = vN at *
  generalize hm : edgesN xss = m at *
  generalize hEn : endsL xss = En at *
  refine Ops.mkR vN (St.refl w3) rfl rfl (by omega) ?_
  intro A5 w4 hS4
  have hS4 : St w3 w4 (mat 39 2 A5 vN vN (List.replicate vN slNil) (endsP vN (arcs En 0)) ++ []) := by
    rw [show arcs En 0 = [] from rfl, endsP_nil, List.append_nil]
    exact nilRows vN hS4
  refine Ops.mv_sl rfl rfl rfl ?_
  refine Ops.nil ?_
  refine thenQ_n ?_
  refine Cd.seq ?_
  refine Cd.seq ?_
  refine Cd.region ?_
  refine Ops.mv_int rfl rfl rfl ?_
  refine Ops.nil ?_
  refine thenQ_n ?_
  refine Cd.block ?_
  -- stop: loop
  refine Cd.loop (α := Nat × List SlV) (fun z => [(3, .slice A3 m m), (4, .slice A5 vN vN), (5, .int .i64 (z.1 : Int))]) (fun z w' => St w3 w' (mat 39 2 A5 vN vN z.2 (endsP vN (arcs En z.1)) ++ []) ∧ z.1 ≤ m ∧ z.2.length = vN) (fun z => m - z.1) (0, List.replicate vN slNil) ⟨rfl, rfl, rfl, trivial⟩ ⟨hS4, Nat.zero_le _, by simp⟩ ?_
  rintro ⟨e', rs5⟩ e w5 ⟨hS5, he, hrl⟩
  dsimp only at hS5 he hrl ⊢
  have hP5 := hS5.oldRows hP3
  refine Cd.seq ?_
  refine Cd.seq ?_
  refine Cd.region ?_
  refine Ops.mv_int rfl rfl rfl ?_
  refine Ops.mv_sl rfl rfl rfl ?_
  refine Ops.len rfl rfl ?_
  refine Ops.lss rfl rfl rfl ?_
  refine Ops.nil ?_
  refine thenQ_n ?_
  -- stop: cond
  refine Cd.cond_p _ rfl (fun h1 => ?_) (fun h1 => ?_)
  · have he' : e' < m := by omega
    have hrow := hP5.at_ (i := (e' : Int)) (by omega) h1
    have hrn := hP5.rowLen (k := (e' : Int)) (by omega) h1
    refine Cd.skip ?_
    refine thenQ_n ?_
    refine Cd.seq ?_
    refine Cd.block ?_
    refine Cd.seq ?_
    refine Cd.region ?_
    refine Ops.mv_sl rfl rfl rfl ?_
    refine Ops.mv_int rfl rfl rfl ?_
    -- stop: INDEXADDR 25 t20 t21 -> 22
    refine Ops.idx hP5.top.2 rfl rfl rfl (by omega) h1 ?_
    refine Ops.ld_sl hP5.top rfl (by omega) rfl rfl ?_
    refine Ops.len rfl rfl ?_
    refine Ops.eql rfl rfl rfl ?_
    refine Ops.nil ?_
    refine thenQ_n ?_
    -- stop: cond
    refine Cd.cond_p _ rfl (fun h2 => ?_) (fun h2 => ?_)
    · have h22 : (gl En (e' : Int)).length = 2 := by omega
      have hn2 : (rg rs3 (e' : Int)).n = 2 := by omega
      have htw := two_in (hmem e') h22
      have hst2 : arcs En (e' + 1) = (arcs En e' ++ [(gi (gl En e') 0, gi (gl En e') 1)]) ++ [(gi (gl En e') 1, gi (gl En e') 0)] := by
        show (if _ then _ else _) = _
        rw [if_pos h22]
      have hps1 : ∀ p ∈ arcs En e', 0 ≤ p.1 ∧ p.1 < (vN : Int) := fun p hp => (harc e' p hp).1
      have hps2 : ∀ p ∈ arcs En e' ++ [(gi (gl En e') 0, gi (gl En e') 1)], 0 ≤ p.1 ∧ p.1 < (vN : Int) := fun p hp => by
        rcases List.mem_append.1 hp with hp | hp
        · exact hps1 p hp
        · simp at hp; subst hp; exact htw.1
      have hl1 := hal e'
      have hl2 : (arcs En e' ++ [(gi (gl En e') 0, gi (gl En e') 1)]).length ≤ 2 * e' + 1 := by simp; omega
      refine Cd.seq ?_
      -- stop: draw
      refine Cd.draw [.ex (.slice (A3) (m) (m)), .ex (.int .i64 ((e' : Int))), .ex (.pointer (ptrAt (A3) ((e' : Int)).toNat)), .ex (.slice ((rg (rs3) ((e' : Int))).a) ((rg (rs3) ((e' : Int))).n) ((rg (rs3) ((e' : Int))).c)), .ex (.pointer (ptrAt ((rg (rs3) ((e' : Int))).a) ((0 : Int)).toNat)), .ex (.int .i64 (gi (gl En (e' : Int)) ((0 : Int)))), .ex (.slice (A3) (m) (m)), .ex (.int .i64 ((e' : Int))), .ex (.pointer (ptrAt (A3) ((e' : Int)).toNat)), .ex (.slice ((rg (rs3) ((e' : Int))).a) ((rg (rs3) ((e' : Int))).n) ((rg (rs3) ((e' : Int))).c)), .ex (.pointer (ptrAt ((rg (rs3) ((e' : Int))).a) ((1 : Int)).toNat)), .ex (.int .i64 (gi (gl En (e' : Int)) ((1 : Int)))), .ex (.int .i64 (gi (gl En (e' : Int)) ((0 : Int)))), .ex (.int .i64 (gi (gl En (e' : Int)) ((1 : Int))))] (by kernel_rfl) (by kernel_rfl) rfl (List.forall_mem_cons.2 ⟨Yd.lasts_ex _, (List.forall_mem_cons.2 ⟨Yd.lasts_ex _, (List.forall_mem_cons.2 ⟨Yd.lasts_ex _, (List.forall_mem_cons.2 ⟨Yd.lasts_ex _, (List.forall_mem_cons.2 ⟨Yd.lasts_ex _, (List.forall_mem_cons.2 ⟨Yd.lasts_ex _, (List.forall_mem_cons.2 ⟨Yd.lasts_ex _, (List.forall_mem_cons.2 ⟨Yd.lasts_ex _, (List.forall_mem_cons.2 ⟨Yd.lasts_ex _, (List.forall_mem_cons.2 ⟨Yd.lasts_ex _, (List.forall_mem_cons.2 ⟨Yd.lasts_ex _, (List.forall_mem_cons.2 ⟨Yd.lasts_ex _, (List.forall_mem_cons.2 ⟨Yd.lasts_ex _, (List.forall_mem_cons.2 ⟨Yd.lasts_ex _, (fun _ h => by cases h)⟩)⟩)⟩)⟩)⟩)⟩)⟩)⟩)⟩)⟩)⟩)⟩)⟩)⟩) ⟨?_, ?_, ?_, ?_, ?_, ?_, ?_, ?_, ?_, ?_, ?_, ?_, ?_, ?_, trivial⟩ ?_
      · intro e1 w1 hb hp hun
        refine Ops.mv_sl rfl rfl rfl ?_
        refine Ops.nil ?_
        exact After.dn (Below.refl _ _) (by exact rfl)
      · intro e1 w1 hb hp hun
        refine Ops.mv_int rfl rfl rfl ?_
        refine Ops.nil ?_
        exact After.dn (Below.refl _ _) (by exact rfl)
      · intro e1 w1 hb hp hun
        refine Ops.idx (hP5.top.later hb).2 rfl rfl rfl (by omega) (by omega) ?_
        refine Ops.nil ?_
        exact After.dn (Below.refl _ _) (by exact rfl)
      · intro e1 w1 hb hp hun
        refine Ops.ld_sl (hP5.top.later hb) rfl (by omega) rfl rfl ?_
        refine Ops.nil ?_
        exact After.dn (Below.refl _ _) (by exact rfl)
      · intro e1 w1 hb hp hun
        refine Ops.idx (hrow.later hb).2 rfl rfl rfl (by omega) (by omega) ?_
        refine Ops.nil ?_
        exact After.dn (Below.refl _ _) (by exact rfl)
      · intro e1 w1 hb hp hun
        refine Ops.ld_int (hrow.later hb) rfl (by omega) rfl rfl ?_
        refine Ops.nil ?_
        exact After.dn (Below.refl _ _) (by exact rfl)
      · intro e1 w1 hb hp hun
        refine Ops.mv_sl rfl rfl rfl ?_
        refine Ops.nil ?_
        exact After.dn (Below.refl _ _) (by exact rfl)
      · intro e1 w1 hb hp hun
        refine Ops.mv_int rfl rfl rfl ?_
        refine Ops.nil ?_
        exact After.dn (Below.refl _ _) (by exact rfl)
      · intro e1 w1 hb hp hun
        refine Ops.idx (hP5.top.later hb).2 rfl rfl rfl (by omega) (by omega) ?_
        refine Ops.nil ?_
        exact After.dn (Below.refl _ _) (by exact rfl)
      · intro e1 w1 hb hp hun
        refine Ops.ld_sl (hP5.top.later hb) rfl (by omega) rfl rfl ?_
        refine Ops.nil ?_
        exact After.dn (Below.refl _ _) (by exact rfl)
      · intro e1 w1 hb hp hun
        refine Ops.idx (hrow.later hb).2 rfl rfl rfl (by omega) (by omega) ?_
        refine Ops.nil ?_
        exact After.dn (Below.refl _ _) (by exact rfl)
      · intro e1 w1 hb hp hun
        refine Ops.ld_int (hrow.later hb) rfl (by omega) rfl rfl ?_
        refine Ops.nil ?_
        exact After.dn (Below.refl _ _) (by exact rfl)
      · intro e1 w1 hb hp hun
        refine Ops.mv_int rfl rfl rfl ?_
        refine Ops.nil ?_
        exact After.dn (Below.refl _ _) (by exact rfl)
      · intro e1 w1 hb hp hun
        refine Ops.mv_int rfl rfl rfl ?_
        refine Ops.nil ?_
        exact After.dn (Below.refl _ _) (by exact rfl)
      intro u w6 hb6 _
      have hS6 := hS5.later hb6
      generalize hu0 : gi (gl En (e' : Int)) 0 = a at *
      generalize hu1 : gi (gl En (e' : Int)) 1 = b at *
      generalize hps : arcs En e' = ps at *
      have hel6 := endsP_len vN ps
      have hM6 := hS6.rowsI hel6
      have hrow6 := hM6.at_ (i := a) htw.1.1 htw.1.2
      have hcap6 := hM6.cap_ (i := a) htw.1.1 htw.1.2
      have hrn6 := hM6.rowLen htw.1.1 htw.1.2
      have hrl6 := endsP_row hps1 a htw.1.1
      have hget6 : (mat 39 2 A5 vN vN rs5 (endsP vN ps) ++ [])[a.toNat + 1]? = some (CkI 2 (rg rs5 a).a (rg rs5 a).n (rg rs5 a).c (gl (endsP vN ps) a)) := by
        have := mat_get (t1 := 39) (t2 := 2) (A := A5) (n := vN) (c := vN) (rs := rs5) (xss := endsP vN ps) (pre := []) (ks := []) (i := a.toNat) (by omega) (by omega)
        rw [show ([] : List Ck).length + 1 + a.toNat = a.toNat + 1 by simp; omega] at this
        exact this
      refine thenQ_n ?_
      refine Cd.seq ?_
      refine Cd.region ?_
      refine Ops.mv_sl rfl rfl rfl ?_
      refine Ops.mv_int rfl rfl rfl ?_
      refine Ops.mv_sl rfl rfl rfl ?_
      refine Ops.mv_int rfl rfl rfl ?_
      -- stop: INDEXADDR 25 t40 t41 -> 42
      refine Ops.idx hM6.top.2 rfl rfl rfl htw.1.1 htw.1.2 ?_
      refine Ops.ld_sl hM6.top rfl (by omega) rfl rfl ?_
      refine Ops.mv_int rfl rfl rfl ?_
      -- stop: CALL spec.l17Insert(t43, t44) -> 45
      refine Ops.call (l17Insert_c _ _ (rg rs5 a).c _ b _ hrow6 hcap6.1 (by omega) (endsP_SA _ _ _)) rfl rfl rfl ?_
      rintro _ w7 ⟨A7, c7, rfl, hbl7, hor7⟩
      have hS7 := hS6.insRow hget6 hbl7 hor7
      have hT7 := hS7.rdR 0 rfl
      refine Ops.idx hT7.2 rfl rfl rfl htw.1.1 htw.1.2 ?_
      refine Ops.st_sl 0 hS7 rfl rfl rfl (by omega) ?_
      intro w8 hS8
      have hS8 : St w3 w8 (mat 39 2 A5 vN vN (rs5.set a.toNat ⟨A7, (cs (gl (endsP vN ps) a ++ [b])).length, c7⟩) (endsP vN (ps ++ [(a, b)])) ++ []) := by
        rw [endsP_snoc vN ps (a, b), ← mat_upd (by omega) (by omega)]
        exact hS8
      have hel8 := endsP_len vN (ps ++ [(a, b)])
      have hM8 := hS8.rowsI hel8
      generalize hrs8 : rs5.set a.toNat ⟨A7, (cs (gl (endsP vN ps) a ++ [b])).length, c7⟩ = rs8 at *
      have hrl8 : rs8.length = vN := by rw [← hrs8, List.length_set]; exact hrl
      have hrow8 := hM8.at_ (i := b) htw.2.1 htw.2.2
      have hcap8 := hM8.cap_ (i := b) htw.2.1 htw.2.2
      have hrn8 := hM8.rowLen htw.2.1 htw.2.2
      have hrl28 := endsP_row hps2 b htw.2.1
      have hget8 : (mat 39 2 A5 vN vN rs8 (endsP vN (ps ++ [(a, b)])) ++ [])[b.toNat + 1]? = some (CkI 2 (rg rs8 b).a (rg rs8 b).n (rg rs8 b).c (gl (endsP vN (ps ++ [(a, b)])) b)) := by
        have := mat_get (t1 := 39) (t2 := 2) (A := A5) (n := vN) (c := vN) (rs := rs8) (xss := endsP vN (ps ++ [(a, b)])) (pre := []) (ks := []) (i := b.toNat) (by omega) (by omega)
        rw [show ([] : List Ck).length + 1 + b.toNat = b.toNat + 1 by simp; omega] at this
        exact this
      refine Ops.nil ?_
      refine thenQ_n ?_
      refine Cd.region ?_
      refine Ops.mv_sl rfl rfl rfl ?_
      refine Ops.mv_int rfl rfl rfl ?_
      refine Ops.mv_sl rfl rfl rfl ?_
      refine Ops.mv_int rfl rfl rfl ?_
      -- stop: INDEXADDR 25 t49 t50 -> 51
      refine Ops.idx hM8.top.2 rfl rfl rfl htw.2.1 htw.2.2 ?_
      refine Ops.ld_sl hM8.top rfl (by omega) rfl rfl ?_
      refine Ops.mv_int rfl rfl rfl ?_
      -- stop: CALL spec.l17Insert(t52, t53) -> 54
      refine Ops.call (l17Insert_c _ _ (rg rs8 b).c _ a _ hrow8 hcap8.1 (by omega) (endsP_SA _ _ _)) rfl rfl rfl ?_
      rintro _ w9 ⟨A9, c9, rfl, hbl9, hor9⟩
      have hS9 := hS8.insRow hget8 hbl9 hor9
      have hT9 := hS9.rdR 0 rfl
      refine Ops.idx hT9.2 rfl rfl rfl htw.2.1 htw.2.2 ?_
      refine Ops.st_sl 0 hS9 rfl rfl rfl (by omega) ?_
      intro w10 hS10
      refine Ops.nil ?_
      refine blockQ_n ?_
      refine thenQ_n ?_
      refine Cd.region ?_
      refine Ops.mv_int rfl rfl rfl ?_
      refine Ops.add rfl rfl rfl (by omega) ?_
      refine Ops.mv_int rfl rfl rfl ?_
      refine Ops.nil ?_
      refine thenQ_n ?_
      -- stop: round
      refine ⟨(e' + 1, rs8.set b.toNat ⟨A9, (cs (gl (endsP vN (ps ++ [(a, b)])) b ++ [a])).length, c9⟩), by show m - (e' + 1) < m - e'; omega, ⟨rfl, rfl, rfl, trivial⟩, ?_, he', by show (rs8.set _ _).length = vN; rw [List.length_set]; exact hrl8⟩
      show St w3 w10 (mat _ _ A5 vN vN _ (endsP vN (arcs En (e' + 1))) ++ [])
      rw [hst2, endsP_snoc vN (ps ++ [(a, b)]) (b, a), ← mat_upd (by omega) (by omega)]
      exact hS10
    · have hst2 : arcs En (e' + 1) = arcs En e' := by
        show (if _ then _ else _) = _
        rw [if_neg (by omega)]
      refine Cd.skip ?_
      refine blockQ_n ?_
      refine thenQ_n ?_
      refine Cd.region ?_
      refine Ops.mv_int rfl rfl rfl ?_
      refine Ops.add rfl rfl rfl (by omega) ?_
      refine Ops.mv_int rfl rfl rfl ?_
      refine Ops.nil ?_
      refine thenQ_n ?_
      -- stop: round
      exact ⟨(e' + 1, rs5), by show m - (e' + 1) < m - e'; omega, ⟨rfl, rfl, rfl, trivial⟩, by show St w3 w5 (mat _ _ A5 vN vN rs5 (endsP vN (arcs En (e' + 1))) ++ []); rw [hst2]; exact hS5, he', hrl⟩
  · refine Cd.exit ?_
    refine thenQ_x ?_
    refine thenQ_x ?_
    refine blockQ_x ?_
    refine thenQ_n ?_
    refine Cd.seq ?_
    refine Cd.region ?_
    refine Ops.mv_sl rfl rfl rfl ?_
    refine Ops.mv_sl rfl rfl rfl ?_
    refine Ops.nil ?_
    refine thenQ_n ?_
    refine Cd.ret ?_
    refine ret1_s rfl ?_
    -- stop: end
    have hem : e' = m := by omega
    subst hem
    refine ⟨A5, rs5, rfl, hrl, ?_⟩
    have := hS3.call hS5
    rwa [List.append_nil] at this
end Go.Proofs.Ytpdhjnacnmfbjaa.Vc
