/-
  The ends of edges on both sides. Conditions: as each states them.
-/
import Derived.Test.YtpdhjnacnmfbjaaD3
namespace Go.Proofs.Ytpdhjnacnmfbjaa.Vc
open Go.RowKit

theorem pin2 (u : Nat → Value) {i j : Nat} {v w : Value} (h : u i = v) (h' : u j = w) : u = fun k => if k = i then v else if k = j then w else u k := by
  funext k
  split
  · rename_i e; rw [e, h]
  · split
    · rename_i e; rw [e, h']
    · rfl

/-- what is put for f flags, with twins: for each edge the vertices, as they come -/
def bag (Vl El : List Int) (m : Nat) : Nat → List (List Int)
  | 0 => List.replicate m []
  | f + 1 => (bag Vl El m f).set (gi El f).toNat (gl (bag Vl El m f) (gi El f) ++ [gi Vl f])
theorem bag_len (Vl El : List Int) (m : Nat) : ∀ f, (bag Vl El m f).length = m
  | 0 => by simp [bag]
  | f + 1 => by rw [bag, List.length_set, bag_len Vl El m f]
theorem gl_set2 {L : List (List Int)} {i : Nat} {l : List Int} (e : Int) (he : 0 ≤ e) (hi : i < L.length) : gl (L.set i l) e = if (i : Int) = e then l else gl L e := by
  obtain ⟨j, rfl⟩ : ∃ j : Nat, e = j := ⟨e.toNat, by omega⟩
  simp only [gl, Int.toNat_natCast, List.getD_eq_getElem?_getD, List.getElem?_set]
  by_cases h : i = j
  · subst h; rw [if_pos rfl, if_pos rfl, if_pos hi]; rfl
  · rw [if_neg h, if_neg (by omega)]
theorem bag_row {Vl El : List Int} {m : Nat} : ∀ f, (∀ k : Nat, k < f → 0 ≤ gi El k ∧ gi El k < m) → ∀ e : Int, 0 ≤ e → (gl (bag Vl El m f) e).length ≤ f
  | 0, _, e, he => by
    show (gl (List.replicate m []) e).length ≤ 0
    simp only [gl, List.getD_eq_getElem?_getD, List.getElem?_replicate]
    split <;> simp
  | f + 1, h, e, he => by
    have ih := bag_row (Vl := Vl) f (fun k hk => h k (by omega))
    have hf := h f (by omega)
    rw [bag, gl_set2 e he (by rw [bag_len]; omega)]
    split
    · have := ih (gi El f) hf.1
      simp; omega
    · have := ih e he; omega
/-- the same as ascending lists without twins -/
def ends (Vl El : List Int) (m f : Nat) : List (List Int) := (bag Vl El m f).map cs
theorem ends_len (Vl El : List Int) (m f : Nat) : (ends Vl El m f).length = m := by rw [ends, List.length_map, bag_len]
theorem gl_ends (Vl El : List Int) (m f : Nat) (e : Int) : gl (ends Vl El m f) e = cs (gl (bag Vl El m f) e) := by
  simp only [gl, ends, List.getD_eq_getElem?_getD, List.getElem?_map]
  cases (bag Vl El m f)[e.toNat]? with
  | none => exact cs_nil.symm
  | some l => rfl
theorem ends_zero (Vl El : List Int) (m : Nat) : ends Vl El m 0 = List.replicate m [] := by
  rw [ends, bag, List.map_replicate, cs_nil]
theorem ends_step (Vl El : List Int) (m f : Nat) : ends Vl El m (f + 1) = (ends Vl El m f).set (gi El f).toNat (cs (gl (ends Vl El m f) (gi El f) ++ [gi Vl f])) := by
  rw [gl_ends, cs_cs, ends, bag, List.map_set]
  rfl
theorem ends_SA (Vl El : List Int) (m f : Nat) (e : Int) : SA (gl (ends Vl El m f) e) := by rw [gl_ends]; exact cs_SA _
theorem ends_row {Vl El : List Int} {m f : Nat} (h : ∀ k : Nat, k < f → 0 ≤ gi El k ∧ gi El k < m) (e : Int) (he : 0 ≤ e) : (gl (ends Vl El m f) e).length ≤ f := by
  rw [gl_ends]
  exact Nat.le_trans (cs_len _) (bag_row f h e he)
def edgesN (xss : List (List Int)) : Nat := (facesN xss 1).toNat
def endsL (xss : List (List Int)) : List (List Int) := ends (facesL xss 0) (facesL xss 1) (edgesN xss) (gl xss 0).length
theorem endsL_len (xss : List (List Int)) : (endsL xss).length = edgesN xss := ends_len _ _ _ _

theorem l18Ends_c (A : Option Addr) (n c : Nat) (rs : List SlV) (xss : List (List Int)) (w : World) (hR : RowsI w A n rs xss) (hG : Grph xss) :
    Ret Try.prog 75 [.agg #[.slice A n c]] w (fun v w' => ∃ A' rs', v = .slice A' (edgesN xss) (edgesN xss) ∧ rs'.length = edgesN xss ∧ St w w' (mat 39 2 A' (edgesN xss) (edgesN xss) rs' (endsL xss) ++ [])) := by
  have hl := hR.len
  have hM := hG.1
  have hn2 := hG.2
  have h5 := hM.1
  have h40 := hM.2.1
  have hfn := facesN_le xss 1
  have hgr := faces_grt hM 1
  have hVl := facesL_len xss 0
  have hEl := facesL_len xss 1
  have hE : ∀ f : Nat, f < (gl xss 0).length → 0 ≤ gi (facesL xss 1) f ∧ gi (facesL xss 1) f < (edgesN xss : Int) := fun f hf => by
    have := faces_in hM 1 f hf
    unfold edgesN
    omega
  have hmN : ((edgesN xss : Nat) : Int) = facesN xss 1 := by unfold edgesN; omega
  have hm4 : edgesN xss ≤ 400 := by omega
  have hEx : ∀ x ∈ facesL xss 1, x ≤ 1000000 := fun x hx => by
    obtain ⟨k, hk, rfl⟩ := List.mem_iff_getElem.1 hx
    have := hE k (by omega)
    rw [gi_mem hk] at this
    omega
  have hend : endsL xss = ends (facesL xss 0) (facesL xss 1) (edgesN xss) (gl xss 0).length := rfl
  rw [hend]
  generalize hm : edgesN xss = m at *
  refine Ret.of_cd Try.func75 rfl Try.ntmps75 rfl (post1 rfl) ?_
  refine Cd.seq ?_
  refine Cd.region ?_
  -- stop: BOX 32 t0=m -> 1
  refine Ops.box1 (St.refl w) rfl rfl ?_
  intro Ab w1 hS1
  refine Ops.mv_sl rfl rfl rfl ?_
  refine Ops.nil ?_
  refine thenQ_n ?_
  refine Cd.seq ?_
  -- stop: draw
  refine Cd.draw [.ex (.agg #[.slice (A) (n) (c)]), .pr (fun v w' => ∃ A1 c1, v = .slice A1 (gl xss 0).length c1 ∧ RdI w' A1 (gl xss 0).length (facesL xss 0)), .ex (.agg #[.slice (A) (n) (c)]), .pr (fun v w' => ∃ A1 c1, v = .slice A1 (gl xss 0).length c1 ∧ RdI w' A1 (gl xss 0).length (facesL xss 1)), .pr (fun v w' => ∃ A1 c1, v = .slice A1 (gl xss 0).length c1 ∧ RdI w' A1 (gl xss 0).length (facesL xss 0)), .pr (fun v w' => ∃ A1 c1, v = .slice A1 (gl xss 0).length c1 ∧ RdI w' A1 (gl xss 0).length (facesL xss 1))] (by kernel_rfl) (by kernel_rfl) rfl (List.forall_mem_cons.2 ⟨Yd.lasts_ex _, (List.forall_mem_cons.2 ⟨Yd.lasts_pr (fun v w w' h hb => by obtain ⟨A1, c1, hv, hT⟩ := h; exact ⟨A1, c1, hv, hT.later hb⟩), (List.forall_mem_cons.2 ⟨Yd.lasts_ex _, (List.forall_mem_cons.2 ⟨Yd.lasts_pr (fun v w w' h hb => by obtain ⟨A1, c1, hv, hT⟩ := h; exact ⟨A1, c1, hv, hT.later hb⟩), (List.forall_mem_cons.2 ⟨Yd.lasts_pr (fun v w w' h hb => by obtain ⟨A1, c1, hv, hT⟩ := h; exact ⟨A1, c1, hv, hT.later hb⟩), (List.forall_mem_cons.2 ⟨Yd.lasts_pr (fun v w w' h hb => by obtain ⟨A1, c1, hv, hT⟩ := h; exact ⟨A1, c1, hv, hT.later hb⟩), (fun _ h => by cases h)⟩)⟩)⟩)⟩)⟩)⟩) ⟨?_, ?_, ?_, ?_, ?_, ?_, trivial⟩ ?_
  · intro e1 w1 hb hp hun
    refine Ops.ld_agg 0 ((hS1.rd 0 rfl).below hb) rfl rfl rfl ?_
    refine Ops.nil ?_
    exact After.dn (Below.refl _ _) (by exact rfl)
  · intro e1 w1 hb hp hun
    refine Ops.call (l02Faces_c A n c rs xss 0 _ ((hS1.later hb).oldRows hR) hM (by omega)) rfl rfl rfl ?_
    rintro _ w9 ⟨A1, c1, rfl, hst⟩
    refine Ops.nil ?_
    exact After.dn hst.below ⟨A1, c1, rfl, hst.rdI 0 rfl⟩
  · intro e1 w1 hb hp hun
    refine Ops.ld_agg 0 ((hS1.rd 0 rfl).below hb) rfl rfl rfl ?_
    refine Ops.nil ?_
    exact After.dn (Below.refl _ _) (by exact rfl)
  · intro e1 w1 hb hp hun
    refine Ops.call (l02Faces_c A n c rs xss 1 _ ((hS1.later hb).oldRows hR) hM (by omega)) rfl rfl rfl ?_
    rintro _ w9 ⟨A1, c1, rfl, hst⟩
    refine Ops.nil ?_
    exact After.dn hst.below ⟨A1, c1, rfl, hst.rdI 0 rfl⟩
  · intro e1 w1 hb hp hun
    obtain ⟨A1, c1, h8, hT⟩ := (hp 1 (by decide) rfl _ _ rfl rfl)
    refine Ops.mv_sl rfl (by exact h8) rfl ?_
    refine Ops.nil ?_
    exact After.dn (Below.refl _ _) ⟨A1, c1, rfl, hT⟩
  · intro e1 w1 hb hp hun
    obtain ⟨A1, c1, h10, hT⟩ := (hp 3 (by decide) rfl _ _ rfl rfl)
    refine Ops.mv_sl rfl (by exact h10) rfl ?_
    refine Ops.nil ?_
    exact After.dn (Below.refl _ _) ⟨A1, c1, rfl, hT⟩
  intro u w2 hb2 hu
  obtain ⟨A3, c3, h3, hV⟩ := hu 4 _ rfl
  obtain ⟨A4, c4, h4, hW⟩ := hu 5 _ rfl
  have hS2 := (hS1.later hb2).none
  generalize hF : (gl xss 0).length = F at *
  generalize hVe : facesL xss 0 = Vl at *
  generalize hEe : facesL xss 1 = El at *
  rw [pin2 u h3 h4]
  refine thenQ_n ?_
  refine Cd.seq ?_
  refine Cd.region ?_
  refine Ops.mv_sl rfl rfl rfl ?_
  -- stop: CALL spec.l02Greatest(t11) -> 12
  refine Ops.call (l02Greatest_c A4 F c4 El w2 hW (by omega) hEx) rfl rfl rfl ?_
  rintro _ w2 ⟨rfl, rfl⟩
  rw [hgr, ← hmN]
  refine Ops.mkR m (St.refl w2) rfl rfl (by omega) ?_
  intro A5 w3 hS3
  have hS3 : St w2 w3 (mat 39 2 A5 m m (List.replicate m slNil) (ends Vl El m 0) ++ []) := by
    rw [ends_zero, List.append_nil]
    exact nilRows m hS3
  refine Ops.mv_sl rfl rfl rfl ?_
  refine Ops.nil ?_
  refine thenQ_n ?_
  refine Cd.seq ?_
  refine Cd.seq ?_
  refine Cd.region ?_
  refine Ops.mv_int rfl rfl rfl ?_
  refine Ops.nil ?_
  refine thenQ_n ?_
  refine Cd.block ?_
  -- stop: loop
  refine Cd.loop (α := Nat × List SlV) (fun z => [(3, .slice A3 F c3), (4, .slice A4 F c4), (5, .slice A5 m m), (6, .int .i64 (z.1 : Int))]) (fun z w' => St w2 w' (mat 39 2 A5 m m z.2 (ends Vl El m z.1) ++ []) ∧ z.1 ≤ F ∧ z.2.length = m) (fun z => F - z.1) (0, List.replicate m slNil) ⟨rfl, rfl, rfl, rfl, trivial⟩ ⟨hS3, Nat.zero_le _, by simp⟩ ?_
  rintro ⟨f, rs5⟩ e w4 ⟨hS4, hf, hrl⟩
  dsimp only at hS4 hf hrl ⊢
  refine Cd.seq ?_
  refine Cd.seq ?_
  refine Cd.region ?_
  refine Ops.mv_int rfl rfl rfl ?_
  refine Ops.mv_sl rfl rfl rfl ?_
  refine Ops.len rfl rfl ?_
  refine Ops.lss rfl rfl rfl ?_
  refine Ops.nil ?_
  refine thenQ_n ?_
  -- stop: cond
  refine Cd.cond_p _ rfl (fun h1 => ?_) (fun h1 => ?_)
  · have hf' : f < F := by omega
    have hEf := hE f hf'
    have hV4 := hS4.oldI hV
    have hW4 := hS4.oldI hW
    have hel := ends_len Vl El m f
    have hM4 := hS4.rowsI hel
    have hrow := hM4.at_ (i := gi El f) hEf.1 hEf.2
    have hcap := hM4.cap_ (i := gi El f) hEf.1 hEf.2
    have hrn := hM4.rowLen hEf.1 hEf.2
    have hrl2 := ends_row (Vl := Vl) (El := El) (m := m) (f := f) (fun k hk => hE k (by omega)) (gi El f) hEf.1
    have hget : (mat 39 2 A5 m m rs5 (ends Vl El m f) ++ [])[(gi El f).toNat + 1]? = some (CkI 2 (rg rs5 (gi El f)).a (rg rs5 (gi El f)).n (rg rs5 (gi El f)).c (gl (ends Vl El m f) (gi El f))) := by
      have := mat_get (t1 := 39) (t2 := 2) (A := A5) (n := m) (c := m) (rs := rs5) (xss := ends Vl El m f) (pre := []) (ks := []) (i := (gi El f).toNat) (by omega) (by omega)
      rw [show ([] : List Ck).length + 1 + (gi El f).toNat = (gi El f).toNat + 1 by simp; omega] at this
      exact this
    have hstep := ends_step Vl El m f
    have hlt : (gi El f).toNat < m := by omega
    refine Cd.skip ?_
    refine thenQ_n ?_
    refine Cd.seq ?_
    refine Cd.block ?_
    -- stop: draw
    refine Cd.drawN [18] [.ex (.slice (A5) (m) (m)), .ex (.slice (A4) (F) (c4)), .ex (.int .i64 ((f : Int))), .ex (.pointer (ptrAt (A4) ((f : Int)).toNat)), .ex (.int .i64 (gi (El) ((f : Int)))), .ex (.slice (A5) (m) (m)), .ex (.slice (A4) (F) (c4)), .ex (.int .i64 ((f : Int))), .ex (.pointer (ptrAt (A4) ((f : Int)).toNat)), .ex (.int .i64 (gi (El) ((f : Int)))), .ex (.pointer (ptrAt (A5) (gi (El) ((f : Int))).toNat)), .ex (.slice ((rg (rs5) (gi (El) ((f : Int)))).a) ((rg (rs5) (gi (El) ((f : Int)))).n) ((rg (rs5) (gi (El) ((f : Int)))).c)), .ex (.slice (A3) (F) (c3)), .ex (.int .i64 ((f : Int))), .ex (.pointer (ptrAt (A3) ((f : Int)).toNat)), .ex (.int .i64 (gi (Vl) ((f : Int)))), .pr (fun v w' => ∃ A1 c1, v = .slice A1 (cs (gl (ends Vl El m f) (gi El f) ++ [gi Vl f])).length c1 ∧ St w2 w' ((mat 39 2 A5 m m rs5 (ends Vl El m f) ++ []).set ((gi El f).toNat + 1) (CkI 2 A1 (cs (gl (ends Vl El m f) (gi El f) ++ [gi Vl f])).length c1 (cs (gl (ends Vl El m f) (gi El f) ++ [gi Vl f]))))), .ex (.pointer (ptrAt (A5) (gi (El) ((f : Int))).toNat)), .pr (fun _ w' => ∃ s : SlV, St w2 w' (mat 39 2 A5 m m (rs5.set (gi El f).toNat s) (ends Vl El m (f + 1)) ++ []))] (by kernel_rfl) (by kernel_rfl) (List.forall_mem_cons.2 ⟨Yd.lasts_ex _, (List.forall_mem_cons.2 ⟨Yd.lasts_ex _, (List.forall_mem_cons.2 ⟨Yd.lasts_ex _, (List.forall_mem_cons.2 ⟨Yd.lasts_ex _, (List.forall_mem_cons.2 ⟨Yd.lasts_ex _, (List.forall_mem_cons.2 ⟨Yd.lasts_ex _, (List.forall_mem_cons.2 ⟨Yd.lasts_ex _, (List.forall_mem_cons.2 ⟨Yd.lasts_ex _, (List.forall_mem_cons.2 ⟨Yd.lasts_ex _, (List.forall_mem_cons.2 ⟨Yd.lasts_ex _, (List.forall_mem_cons.2 ⟨Yd.lasts_ex _, (List.forall_mem_cons.2 ⟨Yd.lasts_ex _, (List.forall_mem_cons.2 ⟨Yd.lasts_ex _, (List.forall_mem_cons.2 ⟨Yd.lasts_ex _, (List.forall_mem_cons.2 ⟨Yd.lasts_ex _, (List.forall_mem_cons.2 ⟨Yd.lasts_ex _, (List.forall_mem_cons.2 ⟨Yd.lasts_pr (fun v w w' h hb => by obtain ⟨A1, c1, hv, hT⟩ := h; exact ⟨A1, c1, hv, hT.later hb⟩), (List.forall_mem_cons.2 ⟨Yd.lasts_ex _, (List.forall_mem_cons.2 ⟨Yd.lasts_pr (fun v w w' h hb => by obtain ⟨s, hT⟩ := h; exact ⟨s, hT.later hb⟩), (fun _ h => by cases h)⟩)⟩)⟩)⟩)⟩)⟩)⟩)⟩)⟩)⟩)⟩)⟩)⟩)⟩)⟩)⟩)⟩)⟩)⟩) ⟨?_, ?_, ?_, ?_, ?_, ?_, ?_, ?_, ?_, ?_, ?_, ?_, ?_, ?_, ?_, ?_, ?_, ?_, ?_, trivial⟩ ?_
    · intro e1 w1 cc hlo hhi hb0 hp hun hq
      show Ops _ _ _ _ _ _ _
      refine Ops.mv_sl rfl rfl rfl ?_
      refine Ops.nil ?_
      exact AfterN.dn rfl (Below.refl _ _) (by exact rfl)
    · intro e1 w1 cc hlo hhi hb0 hp hun hq
      show Ops _ _ _ _ _ _ _
      refine Ops.mv_sl rfl rfl rfl ?_
      refine Ops.nil ?_
      exact AfterN.dn rfl (Below.refl _ _) (by exact rfl)
    · intro e1 w1 cc hlo hhi hb0 hp hun hq
      show Ops _ _ _ _ _ _ _
      refine Ops.mv_int rfl rfl rfl ?_
      refine Ops.nil ?_
      exact AfterN.dn rfl (Below.refl _ _) (by exact rfl)
    · intro e1 w1 cc hlo hhi hb0 hp hun hq
      show Ops _ _ _ _ _ _ _
      replace hlo := le_of_lo hlo (b := 0) (by kernel_rfl)
      replace hhi := le_of_hi hhi (b := 0) (by kernel_rfl)
      obtain rfl : cc = 0 := by omega
      have hb := hb0 rfl
      refine Ops.idx (hW4.later hb).2 rfl rfl rfl (by omega) (by omega) ?_
      refine Ops.nil ?_
      exact AfterN.dn rfl (Below.refl _ _) (by exact rfl)
    · intro e1 w1 cc hlo hhi hb0 hp hun hq
      show Ops _ _ _ _ _ _ _
      replace hlo := le_of_lo hlo (b := 0) (by kernel_rfl)
      replace hhi := le_of_hi hhi (b := 0) (by kernel_rfl)
      obtain rfl : cc = 0 := by omega
      have hb := hb0 rfl
      refine Ops.ld_int (hW4.later hb) rfl (by omega) rfl rfl ?_
      refine Ops.nil ?_
      exact AfterN.dn rfl (Below.refl _ _) (by exact rfl)
    · intro e1 w1 cc hlo hhi hb0 hp hun hq
      show Ops _ _ _ _ _ _ _
      refine Ops.mv_sl rfl rfl rfl ?_
      refine Ops.nil ?_
      exact AfterN.dn rfl (Below.refl _ _) (by exact rfl)
    · intro e1 w1 cc hlo hhi hb0 hp hun hq
      show Ops _ _ _ _ _ _ _
      refine Ops.mv_sl rfl rfl rfl ?_
      refine Ops.nil ?_
      exact AfterN.dn rfl (Below.refl _ _) (by exact rfl)
    · intro e1 w1 cc hlo hhi hb0 hp hun hq
      show Ops _ _ _ _ _ _ _
      refine Ops.mv_int rfl rfl rfl ?_
      refine Ops.nil ?_
      exact AfterN.dn rfl (Below.refl _ _) (by exact rfl)
    · intro e1 w1 cc hlo hhi hb0 hp hun hq
      show Ops _ _ _ _ _ _ _
      replace hlo := le_of_lo hlo (b := 0) (by kernel_rfl)
      replace hhi := le_of_hi hhi (b := 0) (by kernel_rfl)
      obtain rfl : cc = 0 := by omega
      have hb := hb0 rfl
      refine Ops.idx (hW4.later hb).2 rfl rfl rfl (by omega) (by omega) ?_
      refine Ops.nil ?_
      exact AfterN.dn rfl (Below.refl _ _) (by exact rfl)
    · intro e1 w1 cc hlo hhi hb0 hp hun hq
      show Ops _ _ _ _ _ _ _
      replace hlo := le_of_lo hlo (b := 0) (by kernel_rfl)
      replace hhi := le_of_hi hhi (b := 0) (by kernel_rfl)
      obtain rfl : cc = 0 := by omega
      have hb := hb0 rfl
      refine Ops.ld_int (hW4.later hb) rfl (by omega) rfl rfl ?_
      refine Ops.nil ?_
      exact AfterN.dn rfl (Below.refl _ _) (by exact rfl)
    · intro e1 w1 cc hlo hhi hb0 hp hun hq
      show Ops _ _ _ _ _ _ _
      replace hlo := le_of_lo hlo (b := 0) (by kernel_rfl)
      replace hhi := le_of_hi hhi (b := 0) (by kernel_rfl)
      obtain rfl : cc = 0 := by omega
      have hb := hb0 rfl
      refine Ops.idx (hM4.top.later hb).2 rfl rfl rfl (by omega) (by omega) ?_
      refine Ops.nil ?_
      exact AfterN.dn rfl (Below.refl _ _) (by exact rfl)
    · intro e1 w1 cc hlo hhi hb0 hp hun hq
      show Ops _ _ _ _ _ _ _
      replace hlo := le_of_lo hlo (b := 0) (by kernel_rfl)
      replace hhi := le_of_hi hhi (b := 0) (by kernel_rfl)
      obtain rfl : cc = 0 := by omega
      have hb := hb0 rfl
      refine Ops.ld_sl (hM4.top.later hb) rfl (by omega) rfl rfl ?_
      refine Ops.nil ?_
      exact AfterN.dn rfl (Below.refl _ _) (by exact rfl)
    · intro e1 w1 cc hlo hhi hb0 hp hun hq
      show Ops _ _ _ _ _ _ _
      refine Ops.mv_sl rfl rfl rfl ?_
      refine Ops.nil ?_
      exact AfterN.dn rfl (Below.refl _ _) (by exact rfl)
    · intro e1 w1 cc hlo hhi hb0 hp hun hq
      show Ops _ _ _ _ _ _ _
      refine Ops.mv_int rfl rfl rfl ?_
      refine Ops.nil ?_
      exact AfterN.dn rfl (Below.refl _ _) (by exact rfl)
    · intro e1 w1 cc hlo hhi hb0 hp hun hq
      show Ops _ _ _ _ _ _ _
      replace hlo := le_of_lo hlo (b := 0) (by kernel_rfl)
      replace hhi := le_of_hi hhi (b := 0) (by kernel_rfl)
      obtain rfl : cc = 0 := by omega
      have hb := hb0 rfl
      refine Ops.idx (hV4.later hb).2 rfl rfl rfl (by omega) (by omega) ?_
      refine Ops.nil ?_
      exact AfterN.dn rfl (Below.refl _ _) (by exact rfl)
    · intro e1 w1 cc hlo hhi hb0 hp hun hq
      show Ops _ _ _ _ _ _ _
      replace hlo := le_of_lo hlo (b := 0) (by kernel_rfl)
      replace hhi := le_of_hi hhi (b := 0) (by kernel_rfl)
      obtain rfl : cc = 0 := by omega
      have hb := hb0 rfl
      refine Ops.ld_int (hV4.later hb) rfl (by omega) rfl rfl ?_
      refine Ops.nil ?_
      exact AfterN.dn rfl (Below.refl _ _) (by exact rfl)
    · intro e1 w1 cc hlo hhi hb0 hp hun hq
      show Ops _ _ _ _ _ _ _
      replace hlo := le_of_lo hlo (b := 0) (by kernel_rfl)
      replace hhi := le_of_hi hhi (b := 0) (by kernel_rfl)
      obtain rfl : cc = 0 := by omega
      have hb := hb0 rfl
      refine Ops.call (l17Insert_c _ _ (rg rs5 (gi El f)).c _ (gi Vl f) _ (hrow.later hb) hcap.1 (by omega) (ends_SA _ _ _ _ _)) rfl rfl rfl ?_
      rintro _ w9 ⟨A1, c1, rfl, hbl, hor⟩
      refine Ops.nil ?_
      exact AfterN.dn rfl hbl ⟨A1, c1, rfl, (hS4.later hb).insRow hget hbl hor⟩
    · intro e1 w1 cc hlo hhi hb0 hp hun hq
      show Ops _ _ _ _ _ _ _
      replace hlo := le_of_lo hlo (b := 0) (by kernel_rfl)
      replace hhi := le_of_hi hhi (b := 0) (by kernel_rfl)
      obtain rfl : cc = 0 := by omega
      have hb := hb0 rfl
      refine Ops.idx (hM4.top.later hb).2 rfl rfl rfl (by omega) (by omega) ?_
      refine Ops.nil ?_
      exact AfterN.dn rfl (Below.refl _ _) (by exact rfl)
    · intro e1 w1 cc hlo hhi hb0 hp hun hq
      show Ops _ _ _ _ _ _ _
      replace hlo := le_of_lo hlo (b := 0) (by kernel_rfl)
      replace hhi := le_of_hi hhi (b := 0) (by kernel_rfl)
      obtain rfl : cc = 0 := by omega
      have hb := hb0 rfl
      obtain ⟨A1, c1, h36, hT⟩ := (hp 16 _ _ (by kernel_rfl) rfl rfl (by kernel_rfl))
      refine Ops.st_sl 0 hT rfl rfl (by exact h36) hlt ?_
      intro w9 hst
      refine Ops.nil ?_
      exact AfterT.st rfl ⟨⟨A1, _, c1⟩, by rw [hstep, ← mat_upd (by omega) (by omega)]; exact hst⟩
    intro u w5 _ hu
    obtain ⟨s, hS5⟩ := hu 18 _ rfl (by kernel_rfl)
    refine blockQ_n ?_
    refine thenQ_n ?_
    refine Cd.region ?_
    refine Ops.mv_int rfl rfl rfl ?_
    refine Ops.add rfl rfl rfl (by omega) ?_
    refine Ops.mv_int rfl rfl rfl ?_
    refine Ops.nil ?_
    refine thenQ_n ?_
    -- stop: round
    exact ⟨(f + 1, rs5.set (gi El f).toNat s), by show F - (f + 1) < F - f; omega, ⟨rfl, rfl, rfl, rfl, trivial⟩, hS5, hf', by show (rs5.set _ s).length = m; rw [List.length_set]; exact hrl⟩
  · refine Cd.exit ?_
    refine thenQ_x ?_
    refine thenQ_x ?_
    refine blockQ_x ?_
    refine thenQ_n ?_
    refine Cd.seq ?_
    refine Cd.region ?_
    refine Ops.mv_sl rfl rfl rfl ?_
    refine Ops.mv_sl rfl rfl rfl ?_
    refine Ops.nil ?_
    refine thenQ_n ?_
    refine Cd.ret ?_
    refine ret1_s rfl ?_
    -- stop: end
    have hfF : f = F := by omega
    subst hfF
    refine ⟨A5, rs5, rfl, hrl, ?_⟩
    have := hS2.call hS4
    rwa [List.append_nil] at this
end Go.Proofs.Ytpdhjnacnmfbjaa.Vc
