/-
  Neighbours on the program's side, and the answers on both. Conditions: as each states them.
-/
import Derived.Test.YtpdhjnacnmfbjaaD8
namespace Go.Proofs.Ytpdhjnacnmfbjaa.Vc
open Go.RowKit

theorem mat_updk {t1 t2 : TypeId} {A : Option Addr} {n c : Nat} {rs : List SlV} {xss : List (List Int)} {i : Nat} {s : SlV} {xs : List Int} {ks : List Ck} (hr : rs.length = xss.length) (hi : i < rs.length) : CkR t1 A n c (rs.set i s) :: (rowsCk t2 rs xss ++ ks).set i (CkI t2 s.a s.n s.c xs) = mat t1 t2 A n c (rs.set i s) (xss.set i xs) ++ ks := by
  rw [List.set_append_left _ _ (by rw [rowsCk_length hr]; exact hi), rowsCk_upd hr]; rfl

theorem mat_len {t1 t2 : TypeId} {A : Option Addr} {n c : Nat} {rs : List SlV} {xss : List (List Int)} (h : rs.length = xss.length) : (mat t1 t2 A n c rs xss).length = rs.length + 1 := by simp [mat, rowsCk_length h]
theorem St.setTail {w0 w : World} {a k : List Ck} {i : Nat} {x : Ck} (h : St w0 w ((a ++ k).set i x)) (hi : i < a.length) : St w0 w k := by
  rw [List.set_append_left _ _ hi] at h
  exact h.sub (List.sublist_append_right _ _)

theorem neighboursOf_c (A : Option Addr) (n c : Nat) (rs : List SlV) (xss : List (List Int)) (w : World) (hR : RowsI w A n rs xss) (hG : Grph xss) :
    Ret Try.prog 78 [.agg #[.slice A n c]] w (fun v w' => ∃ A' rs', v = .slice A' (vertsN xss) (vertsN xss) ∧ rs'.length = vertsN xss ∧ St w w' (mat 39 2 A' (vertsN xss) (vertsN xss) rs' (nbL xss) ++ [])) := by
  have hl := hR.len
  have hM := hG.1
  have hn2 := hG.2
  have h5 := hM.1
  have hsm := nb_small hM
  have hmN : ((vertsN xss : Nat) : Int) = facesN xss 0 := by have := facesN_le xss 0; unfold vertsN; omega
  have hmem : ∀ e : Nat, ∀ x ∈ gl (endsL xss) e, 0 ≤ x ∧ x < (vertsN xss : Int) := fun e => endsL_mem hM e (by omega)
  have harc := arcs_in hmem
  have hal := arcs_len (endsL xss)
  have hEl := endsL_len xss
  have hnb : nbL xss = endsP (vertsN xss) (arcs (endsL xss) (edgesN xss)) := rfl
  rw [hnb]
  refine Ret.of_cd Try.func78 rfl Try.ntmps78 rfl (post1 rfl) ?_
  refine Cd.seq ?_
  refine Cd.region ?_
  -- stop: BOX 32 t0=app -> 1
  refine Ops.box1 (St.refl w) rfl rfl ?_
  intro Ab w1 hS1
  refine Ops.mv_sl rfl rfl rfl ?_
  refine Ops.nil ?_
  refine thenQ_n ?_
  refine Cd.seq ?_
  refine Cd.region ?_
  -- stop: CALL impl.Maniplex).faces(t1=toArray, 0) -> 10
  refine Ops.call (faces_c Ab A n c rs xss 0 _ (Rd.one (hS1.rd 0 rfl)) (hS1.oldRows hR) hM (by omega)) rfl rfl rfl ?_
  rintro _ w2 ⟨A3, rfl, hst⟩
  have hS2 := hS1.later hst.below
  rw [← hmN]
  refine Ops.mv_tup rfl rfl rfl ?_
  refine Ops.extract rfl rfl rfl ?_
  refine Ops.extract rfl rfl rfl ?_
  refine Ops.mv_sl rfl rfl rfl ?_
  refine Ops.mv_int rfl rfl rfl ?_
  refine Ops.nil ?_
  refine thenQ_n ?_
  refine Cd.seq ?_
  refine Cd.region ?_
  refine Ops.mv_int rfl rfl rfl ?_
  -- stop: MAKESLICE 25 t13 t13 -> 14
  refine Ops.mkR (vertsN xss) hS2 rfl rfl (by omega) ?_
  intro A5 w3 hS3
  have hS3 : St w w3 ([Bx 32 1 Ab [.slice A n c]] ++ mat 39 2 A5 (vertsN xss) (vertsN xss) (List.replicate (vertsN xss) slNil) (bagP (vertsN xss) (arcs (endsL xss) 0))) := by
    have := nilRows (t := 2) (vertsN xss) hS3
    exact this.perm (List.Perm.swap _ _ _)
  refine Ops.mv_sl rfl rfl rfl ?_
  refine Ops.nil ?_
  refine thenQ_n ?_
  refine Cd.seq ?_
  refine Cd.seq ?_
  refine Cd.region ?_
  -- stop: LOAD 32 t1=toArray -> 15
  refine Ops.ld_agg 0 (hS3.rd 0 rfl) rfl rfl rfl ?_
  refine Ops.call (endsOf_c A n c rs xss _ (hS3.oldRows hR) hG) rfl rfl rfl ?_
  rintro _ w4 ⟨A16, rs3, rfl, hrl3, hst4⟩
  have hEl4 : (endsL xss).length = edgesN xss := hEl
  obtain ⟨k16, hk16⟩ : ∃ k, k = mat 39 2 A16 (edgesN xss) (edgesN xss) rs3 (endsL xss) ++ [] := ⟨_, rfl⟩
  have hS4 : St w w4 (mat 39 2 A5 (vertsN xss) (vertsN xss) (List.replicate (vertsN xss) slNil) (bagP (vertsN xss) (arcs (endsL xss) 0)) ++ k16) := by
    have := hS3.call2 hst4
    rw [← hk16, List.append_assoc] at this
    exact this.tail
  have hEnK : ∀ {w' : World}, St w w' k16 → RowsI w' A16 (edgesN xss) rs3 (endsL xss) := fun h => by
    rw [hk16] at h
    exact h.rowsI hEl4
  have hEnR : ∀ {w' : World} {rs5 : List SlV} {B : List (List Int)}, St w w' (mat 39 2 A5 (vertsN xss) (vertsN xss) rs5 B ++ k16) → RowsI w' A16 (edgesN xss) rs3 (endsL xss) := fun h => hEnK h.unmat
  clear hk16 hst4 hS3 hS2
  generalize hv : vertsN xss = vN at *
  generalize hm : edgesN xss = m at *
  generalize hEn : endsL xss = En at *
  refine Ops.len rfl rfl ?_
  refine Ops.mv_int rfl rfl rfl ?_
  refine Ops.nil ?_
  refine thenQ_n ?_
  refine Cd.block ?_
  -- stop: loop
  refine Cd.loop (α := Nat × List SlV) (fun z => [(5, .slice A5 vN vN), (16, .slice A16 m m), (17, .int .i64 (m : Int)), (18, .int .i64 (z.1 : Int))]) (fun z w' => St w w' (mat 39 2 A5 vN vN z.2 (bagP vN (arcs En z.1)) ++ k16) ∧ z.1 ≤ m ∧ z.2.length = vN) (fun z => m - z.1) (0, List.replicate vN slNil) ⟨rfl, rfl, rfl, rfl, trivial⟩ ⟨hS4, Nat.zero_le _, by simp⟩ ?_
  rintro ⟨e', rs5⟩ e w5 ⟨hS5, he, hrl⟩
  dsimp only at hS5 he hrl ⊢
  have hP5 := hEnR hS5
  refine Cd.seq ?_
  refine Cd.region ?_
  refine Ops.lss rfl rfl rfl ?_
  refine Ops.nil ?_
  refine thenQ_n ?_
  refine Cd.seq ?_
  -- stop: cond
  refine Cd.cond_p _ rfl (fun h1 => ?_) (fun h1 => ?_)
  · have he' : e' < m := by omega
    have hrn := hP5.rowLen (k := (e' : Int)) (by omega) h1
    refine Cd.skip ?_
    refine thenQ_n ?_
    refine Cd.seq ?_
    refine Cd.block ?_
    refine Cd.seq ?_
    refine Cd.region ?_
    -- stop: INDEXADDR 25 t16 t18 -> 20
    refine Ops.idx hP5.top.2 rfl rfl rfl (by omega) h1 ?_
    refine Ops.ld_sl hP5.top rfl (by omega) rfl rfl ?_
    refine Ops.mv_sl rfl rfl rfl ?_
    refine Ops.nil ?_
    refine thenQ_n ?_
    refine Cd.seq ?_
    refine Cd.region ?_
    refine Ops.mv_sl rfl rfl rfl ?_
    refine Ops.len rfl rfl ?_
    refine Ops.eql rfl rfl rfl ?_
    refine Ops.nil ?_
    refine thenQ_n ?_
    -- stop: cond
    refine Cd.cond_p _ rfl (fun h2 => ?_) (fun h2 => ?_)
    · have h22 : (gl En (e' : Int)).length = 2 := by omega
      have hn2 : (rg rs3 (e' : Int)).n = 2 := by omega
      have htw := two_in (hmem e') h22
      have hst2 : arcs En (e' + 1) = (arcs En e' ++ [(gi (gl En (e' : Int)) 0, gi (gl En (e' : Int)) 1)]) ++ [(gi (gl En (e' : Int)) 1, gi (gl En (e' : Int)) 0)] := by
        show (if _ then _ else _) = _
        rw [if_pos h22]
      have hps1 : ∀ p ∈ arcs En e', 0 ≤ p.1 ∧ p.1 < (vN : Int) := fun p hp => (harc e' p hp).1
      have hps2 : ∀ p ∈ arcs En e' ++ [(gi (gl En (e' : Int)) 0, gi (gl En (e' : Int)) 1)], 0 ≤ p.1 ∧ p.1 < (vN : Int) := fun p hp => by
        rcases List.mem_append.1 hp with hp | hp
        · exact hps1 p hp
        · simp at hp; subst hp; exact htw.1
      have hl1 := hal e'
      have hl2 : (arcs En e' ++ [(gi (gl En (e' : Int)) 0, gi (gl En (e' : Int)) 1)]).length ≤ 2 * e' + 1 := by simp; omega
      have hbl5 := bagP_len vN (arcs En e')
      have hM5 := hS5.rowsI hbl5
      have hrn5 := hM5.rowLen htw.1.1 htw.1.2
      have hrl5 := bagP_row _ hps1 (gi (gl En (e' : Int)) 0) htw.1.1
      have hlt5 : (gi (gl En (e' : Int)) 0).toNat < vN := by omega
      have hrow5 := (hEnR hS5).at_ (i := (e' : Int)) (by omega) h1
      have hget5 : (mat 39 2 A5 vN vN rs5 (bagP vN (arcs En e')) ++ k16)[(gi (gl En (e' : Int)) 0).toNat + 1]? = some (CkI 2 (rg rs5 (gi (gl En (e' : Int)) 0)).a (rg rs5 (gi (gl En (e' : Int)) 0)).n (rg rs5 (gi (gl En (e' : Int)) 0)).c (gl (bagP vN (arcs En e')) (gi (gl En (e' : Int)) 0))) := by
        have := mat_get (t1 := 39) (t2 := 2) (A := A5) (n := vN) (c := vN) (rs := rs5) (xss := bagP vN (arcs En e')) (pre := []) (ks := k16) (i := (gi (gl En (e' : Int)) 0).toNat) (by omega) (by omega)
        rw [show ([] : List Ck).length + 1 + (gi (gl En (e' : Int)) 0).toNat = (gi (gl En (e' : Int)) 0).toNat + 1 by simp; omega] at this
        exact this
      refine Cd.seq ?_
      -- stop: draw
      refine Cd.drawN [14, 16] [.ex (.slice (A5) (vN) (vN)), .ex (.slice ((rg rs3 (e' : Int)).a) ((rg rs3 (e' : Int)).n) ((rg rs3 (e' : Int)).c)), .ex (.pointer (ptrAt (rg rs3 (e' : Int)).a (0 : Int).toNat)), .ex (.int .i64 (gi (gl En (e' : Int)) 0)), .ex (.slice (A5) (vN) (vN)), .ex (.slice ((rg rs3 (e' : Int)).a) ((rg rs3 (e' : Int)).n) ((rg rs3 (e' : Int)).c)), .ex (.pointer (ptrAt ((rg rs3 (e' : Int)).a) ((0 : Int)).toNat)), .ex (.int .i64 (gi (gl En (e' : Int)) ((0 : Int)))), .ex (.pointer (ptrAt (A5) (gi (gl En (e' : Int)) ((0 : Int))).toNat)), .ex (.slice ((rg (rs5) (gi (gl En (e' : Int)) ((0 : Int)))).a) ((rg (rs5) (gi (gl En (e' : Int)) ((0 : Int)))).n) ((rg (rs5) (gi (gl En (e' : Int)) ((0 : Int)))).c)), .ex (.slice ((rg rs3 (e' : Int)).a) ((rg rs3 (e' : Int)).n) ((rg rs3 (e' : Int)).c)), .ex (.pointer (ptrAt ((rg rs3 (e' : Int)).a) ((1 : Int)).toNat)), .ex (.int .i64 (gi (gl En (e' : Int)) ((1 : Int)))), .pr (fun v w' => ∃ A1, v = .slice A1 1 1 ∧ RdI w' A1 1 [gi (gl En (e' : Int)) 1]), .pr (fun v w' => ∃ A1 c1, v = .slice A1 ((rg rs5 (gi (gl En (e' : Int)) 0)).n + 1) c1 ∧ St w w' ((mat 39 2 A5 vN vN rs5 (bagP vN (arcs En e')) ++ k16).set ((gi (gl En (e' : Int)) 0).toNat + 1) (CkI 2 A1 ((rg rs5 (gi (gl En (e' : Int)) 0)).n + 1) c1 (gl (bagP vN (arcs En e')) (gi (gl En (e' : Int)) 0) ++ [gi (gl En (e' : Int)) 1]))) ∧ RowsI w' A16 m rs3 En), .ex (.pointer (ptrAt (A5) (gi (gl En (e' : Int)) 0).toNat)), .pr (fun _ w' => ∃ s : SlV, St w w' (mat 39 2 A5 vN vN (rs5.set (gi (gl En (e' : Int)) 0).toNat s) (bagP vN ((arcs En e') ++ [(gi (gl En (e' : Int)) 0, gi (gl En (e' : Int)) 1)])) ++ k16))] (by kernel_rfl) (by kernel_rfl) (List.forall_mem_cons.2 ⟨Yd.lasts_ex _, (List.forall_mem_cons.2 ⟨Yd.lasts_ex _, (List.forall_mem_cons.2 ⟨Yd.lasts_ex _, (List.forall_mem_cons.2 ⟨Yd.lasts_ex _, (List.forall_mem_cons.2 ⟨Yd.lasts_ex _, (List.forall_mem_cons.2 ⟨Yd.lasts_ex _, (List.forall_mem_cons.2 ⟨Yd.lasts_ex _, (List.forall_mem_cons.2 ⟨Yd.lasts_ex _, (List.forall_mem_cons.2 ⟨Yd.lasts_ex _, (List.forall_mem_cons.2 ⟨Yd.lasts_ex _, (List.forall_mem_cons.2 ⟨Yd.lasts_ex _, (List.forall_mem_cons.2 ⟨Yd.lasts_ex _, (List.forall_mem_cons.2 ⟨Yd.lasts_ex _, (List.forall_mem_cons.2 ⟨Yd.lasts_pr (fun v w w' h hb => by obtain ⟨A1, hv, hT⟩ := h; exact ⟨A1, hv, hT.later hb⟩), (List.forall_mem_cons.2 ⟨Yd.lasts_pr (fun v w w' h hb => by obtain ⟨A1, c1, hv, hT, hE⟩ := h; exact ⟨A1, c1, hv, hT.later hb, hE.later hb⟩), (List.forall_mem_cons.2 ⟨Yd.lasts_ex _, (List.forall_mem_cons.2 ⟨Yd.lasts_pr (fun v w w' h hb => by obtain ⟨s, hT⟩ := h; exact ⟨s, hT.later hb⟩), (fun _ h => by cases h)⟩)⟩)⟩)⟩)⟩)⟩)⟩)⟩)⟩)⟩)⟩)⟩)⟩)⟩)⟩)⟩)⟩) ⟨?_, ?_, ?_, ?_, ?_, ?_, ?_, ?_, ?_, ?_, ?_, ?_, ?_, ?_, ?_, ?_, ?_, trivial⟩ ?_
      · intro e1 w1 cc hlo hhi hb0 hp hun hq
        show Ops _ _ _ _ _ _ _
        refine Ops.mv_sl rfl rfl rfl ?_
        refine Ops.nil ?_
        exact AfterN.dn rfl (Below.refl _ _) (by exact rfl)
      · intro e1 w1 cc hlo hhi hb0 hp hun hq
        show Ops _ _ _ _ _ _ _
        refine Ops.mv_sl rfl rfl rfl ?_
        refine Ops.nil ?_
        exact AfterN.dn rfl (Below.refl _ _) (by exact rfl)
      · intro e1 w1 cc hlo hhi hb0 hp hun hq
        show Ops _ _ _ _ _ _ _
        have hE : RdI w1 (rg rs3 (e' : Int)).a (rg rs3 (e' : Int)).n (gl En (e' : Int)) := by { have hhi := le_of_hi hhi (b := 1) (by kernel_rfl); rcases (show cc = 0 ∨ cc = 1 by omega) with h | h; { exact (hEnR (hS5.later (hb0 h))).at_ (i := (e' : Int)) (by omega) h1 }; { subst h; obtain ⟨A0, c0, _, _, hE1⟩ := hq 14 _ _ (by kernel_rfl) (by kernel_rfl) (by kernel_rfl) rfl rfl (by kernel_rfl); exact hE1.at_ (i := (e' : Int)) (by omega) h1 } }
        refine Ops.idx hE.2 rfl rfl rfl (by omega) (by omega) ?_
        refine Ops.nil ?_
        exact AfterN.dn rfl (Below.refl _ _) (by exact rfl)
      · intro e1 w1 cc hlo hhi hb0 hp hun hq
        show Ops _ _ _ _ _ _ _
        have hE : RdI w1 (rg rs3 (e' : Int)).a (rg rs3 (e' : Int)).n (gl En (e' : Int)) := by { have hhi := le_of_hi hhi (b := 1) (by kernel_rfl); rcases (show cc = 0 ∨ cc = 1 by omega) with h | h; { exact (hEnR (hS5.later (hb0 h))).at_ (i := (e' : Int)) (by omega) h1 }; { subst h; obtain ⟨A0, c0, _, _, hE1⟩ := hq 14 _ _ (by kernel_rfl) (by kernel_rfl) (by kernel_rfl) rfl rfl (by kernel_rfl); exact hE1.at_ (i := (e' : Int)) (by omega) h1 } }
        refine Ops.ld_int hE rfl (by omega) rfl rfl ?_
        refine Ops.nil ?_
        exact AfterN.dn rfl (Below.refl _ _) (by exact rfl)
      · intro e1 w1 cc hlo hhi hb0 hp hun hq
        show Ops _ _ _ _ _ _ _
        refine Ops.mv_sl rfl rfl rfl ?_
        refine Ops.nil ?_
        exact AfterN.dn rfl (Below.refl _ _) (by exact rfl)
      · intro e1 w1 cc hlo hhi hb0 hp hun hq
        show Ops _ _ _ _ _ _ _
        refine Ops.mv_sl rfl rfl rfl ?_
        refine Ops.nil ?_
        exact AfterN.dn rfl (Below.refl _ _) (by exact rfl)
      · intro e1 w1 cc hlo hhi hb0 hp hun hq
        show Ops _ _ _ _ _ _ _
        replace hlo := le_of_lo hlo (b := 0) (by kernel_rfl)
        replace hhi := le_of_hi hhi (b := 0) (by kernel_rfl)
        obtain rfl : cc = 0 := by omega
        have hb := hb0 rfl
        refine Ops.idx (hrow5.later hb).2 rfl rfl rfl (by omega) (by omega) ?_
        refine Ops.nil ?_
        exact AfterN.dn rfl (Below.refl _ _) (by exact rfl)
      · intro e1 w1 cc hlo hhi hb0 hp hun hq
        show Ops _ _ _ _ _ _ _
        replace hlo := le_of_lo hlo (b := 0) (by kernel_rfl)
        replace hhi := le_of_hi hhi (b := 0) (by kernel_rfl)
        obtain rfl : cc = 0 := by omega
        have hb := hb0 rfl
        refine Ops.ld_int (hrow5.later hb) rfl (by omega) rfl rfl ?_
        refine Ops.nil ?_
        exact AfterN.dn rfl (Below.refl _ _) (by exact rfl)
      · intro e1 w1 cc hlo hhi hb0 hp hun hq
        show Ops _ _ _ _ _ _ _
        replace hlo := le_of_lo hlo (b := 0) (by kernel_rfl)
        replace hhi := le_of_hi hhi (b := 0) (by kernel_rfl)
        obtain rfl : cc = 0 := by omega
        have hb := hb0 rfl
        refine Ops.idx (hM5.top.later hb).2 rfl rfl rfl (by omega) (by omega) ?_
        refine Ops.nil ?_
        exact AfterN.dn rfl (Below.refl _ _) (by exact rfl)
      · intro e1 w1 cc hlo hhi hb0 hp hun hq
        show Ops _ _ _ _ _ _ _
        replace hlo := le_of_lo hlo (b := 0) (by kernel_rfl)
        replace hhi := le_of_hi hhi (b := 0) (by kernel_rfl)
        obtain rfl : cc = 0 := by omega
        have hb := hb0 rfl
        refine Ops.ld_sl (hM5.top.later hb) rfl (by omega) rfl rfl ?_
        refine Ops.nil ?_
        exact AfterN.dn rfl (Below.refl _ _) (by exact rfl)
      · intro e1 w1 cc hlo hhi hb0 hp hun hq
        show Ops _ _ _ _ _ _ _
        refine Ops.mv_sl rfl rfl rfl ?_
        refine Ops.nil ?_
        exact AfterN.dn rfl (Below.refl _ _) (by exact rfl)
      · intro e1 w1 cc hlo hhi hb0 hp hun hq
        show Ops _ _ _ _ _ _ _
        replace hlo := le_of_lo hlo (b := 0) (by kernel_rfl)
        replace hhi := le_of_hi hhi (b := 0) (by kernel_rfl)
        obtain rfl : cc = 0 := by omega
        have hb := hb0 rfl
        refine Ops.idx (hrow5.later hb).2 rfl rfl rfl (by omega) (by omega) ?_
        refine Ops.nil ?_
        exact AfterN.dn rfl (Below.refl _ _) (by exact rfl)
      · intro e1 w1 cc hlo hhi hb0 hp hun hq
        show Ops _ _ _ _ _ _ _
        replace hlo := le_of_lo hlo (b := 0) (by kernel_rfl)
        replace hhi := le_of_hi hhi (b := 0) (by kernel_rfl)
        obtain rfl : cc = 0 := by omega
        have hb := hb0 rfl
        refine Ops.ld_int (hrow5.later hb) rfl (by omega) rfl rfl ?_
        refine Ops.nil ?_
        exact AfterN.dn rfl (Below.refl _ _) (by exact rfl)
      · intro e1 w1 cc hlo hhi hb0 hp hun hq
        show Ops _ _ _ _ _ _ _
        refine Ops.bs1I (St.refl _) rfl rfl rfl ?_
        intro A1 w9 hst
        refine Ops.nil ?_
        exact AfterN.dn rfl hst.below ⟨A1, rfl, hst.rdI 0 rfl⟩
      · intro e1 w1 cc hlo hhi hb0 hp hun hq
        show Ops _ _ _ _ _ _ _
        replace hlo := le_of_lo hlo (b := 0) (by kernel_rfl)
        replace hhi := le_of_hi hhi (b := 0) (by kernel_rfl)
        obtain rfl : cc = 0 := by omega
        have hb := hb0 rfl
        obtain ⟨A0, h38, hT0⟩ := (hp 13 _ _ (by kernel_rfl) rfl rfl (by kernel_rfl))
        refine Ops.appI ((gi (gl En (e' : Int)) 0).toNat + 1) (hS5.later hb) hget5 hT0 rfl (by exact h38) rfl (by omega) (by omega) rfl ?_
        intro A1 c1 w9 hst
        refine Ops.nil ?_
        exact AfterT.dn rfl ⟨A1, c1, rfl, hst, hEnK (hst.setTail (by rw [mat_len (by omega)]; omega))⟩
      · intro e1 w1 cc hlo hhi hb0 hp hun hq
        show Ops _ _ _ _ _ _ _
        replace hlo := le_of_lo hlo (b := 1) (by kernel_rfl)
        replace hhi := le_of_hi hhi (b := 1) (by kernel_rfl)
        obtain rfl : cc = 1 := by omega
        have hph := hp 14 _ _ (by kernel_rfl) rfl rfl (by kernel_rfl)
        obtain ⟨A1, c1, h39, hT, _⟩ := hph
        have hTop := hT.rdR 0 rfl
        refine Ops.idx (hTop).2 rfl rfl rfl (by omega) (by omega) ?_
        refine Ops.nil ?_
        exact AfterN.dn rfl (Below.refl _ _) (by exact rfl)
      · intro e1 w1 cc hlo hhi hb0 hp hun hq
        show Ops _ _ _ _ _ _ _
        replace hlo := le_of_lo hlo (b := 1) (by kernel_rfl)
        replace hhi := le_of_hi hhi (b := 1) (by kernel_rfl)
        obtain rfl : cc = 1 := by omega
        have hph := hp 14 _ _ (by kernel_rfl) rfl rfl (by kernel_rfl)
        obtain ⟨A1, c1, h39, hT, _⟩ := hph
        have hTop := hT.rdR 0 rfl
        refine Ops.st_sl 0 hT rfl rfl (by exact h39) hlt5 ?_
        intro w9 hst
        refine Ops.nil ?_
        exact AfterT.st rfl ⟨⟨A1, _, c1⟩, by rw [bagP_snoc vN (arcs En e') (gi (gl En (e' : Int)) 0, gi (gl En (e' : Int)) 1), ← mat_updk (by omega) (by omega)]; exact hst⟩
      intro u w6 _ hu
      obtain ⟨s6, hS6⟩ := hu 16 _ rfl (by kernel_rfl)
      generalize hrs6 : rs5.set (gi (gl En (e' : Int)) 0).toNat s6 = rs6 at *
      have hrl66 : rs6.length = vN := by rw [← hrs6, List.length_set]; exact hrl
      have hbl6 := bagP_len vN (arcs En e' ++ [(gi (gl En (e' : Int)) 0, gi (gl En (e' : Int)) 1)])
      have hM6 := hS6.rowsI hbl6
      have hrn6 := hM6.rowLen htw.2.1 htw.2.2
      have hrl6 := bagP_row _ hps2 (gi (gl En (e' : Int)) 1) htw.2.1
      have hlt6 : (gi (gl En (e' : Int)) 1).toNat < vN := by omega
      have hrow6 := (hEnR hS6).at_ (i := (e' : Int)) (by omega) h1
      have hget6 : (mat 39 2 A5 vN vN rs6 (bagP vN (arcs En e' ++ [(gi (gl En (e' : Int)) 0, gi (gl En (e' : Int)) 1)])) ++ k16)[(gi (gl En (e' : Int)) 1).toNat + 1]? = some (CkI 2 (rg rs6 (gi (gl En (e' : Int)) 1)).a (rg rs6 (gi (gl En (e' : Int)) 1)).n (rg rs6 (gi (gl En (e' : Int)) 1)).c (gl (bagP vN (arcs En e' ++ [(gi (gl En (e' : Int)) 0, gi (gl En (e' : Int)) 1)])) (gi (gl En (e' : Int)) 1))) := by
        have := mat_get (t1 := 39) (t2 := 2) (A := A5) (n := vN) (c := vN) (rs := rs6) (xss := bagP vN (arcs En e' ++ [(gi (gl En (e' : Int)) 0, gi (gl En (e' : Int)) 1)])) (pre := []) (ks := k16) (i := (gi (gl En (e' : Int)) 1).toNat) (by omega) (by omega)
        rw [show ([] : List Ck).length + 1 + (gi (gl En (e' : Int)) 1).toNat = (gi (gl En (e' : Int)) 1).toNat + 1 by simp; omega] at this
        exact this
      refine thenQ_n ?_
      -- stop: draw
      refine Cd.drawN [14, 16] [.ex (.slice (A5) (vN) (vN)), .ex (.slice ((rg rs3 (e' : Int)).a) ((rg rs3 (e' : Int)).n) ((rg rs3 (e' : Int)).c)), .ex (.pointer (ptrAt (rg rs3 (e' : Int)).a (1 : Int).toNat)), .ex (.int .i64 (gi (gl En (e' : Int)) 1)), .ex (.slice (A5) (vN) (vN)), .ex (.slice ((rg rs3 (e' : Int)).a) ((rg rs3 (e' : Int)).n) ((rg rs3 (e' : Int)).c)), .ex (.pointer (ptrAt ((rg rs3 (e' : Int)).a) ((1 : Int)).toNat)), .ex (.int .i64 (gi (gl En (e' : Int)) ((1 : Int)))), .ex (.pointer (ptrAt (A5) (gi (gl En (e' : Int)) ((1 : Int))).toNat)), .ex (.slice ((rg (rs6) (gi (gl En (e' : Int)) ((1 : Int)))).a) ((rg (rs6) (gi (gl En (e' : Int)) ((1 : Int)))).n) ((rg (rs6) (gi (gl En (e' : Int)) ((1 : Int)))).c)), .ex (.slice ((rg rs3 (e' : Int)).a) ((rg rs3 (e' : Int)).n) ((rg rs3 (e' : Int)).c)), .ex (.pointer (ptrAt ((rg rs3 (e' : Int)).a) ((0 : Int)).toNat)), .ex (.int .i64 (gi (gl En (e' : Int)) ((0 : Int)))), .pr (fun v w' => ∃ A1, v = .slice A1 1 1 ∧ RdI w' A1 1 [gi (gl En (e' : Int)) 0]), .pr (fun v w' => ∃ A1 c1, v = .slice A1 ((rg rs6 (gi (gl En (e' : Int)) 1)).n + 1) c1 ∧ St w w' ((mat 39 2 A5 vN vN rs6 (bagP vN (arcs En e' ++ [(gi (gl En (e' : Int)) 0, gi (gl En (e' : Int)) 1)])) ++ k16).set ((gi (gl En (e' : Int)) 1).toNat + 1) (CkI 2 A1 ((rg rs6 (gi (gl En (e' : Int)) 1)).n + 1) c1 (gl (bagP vN (arcs En e' ++ [(gi (gl En (e' : Int)) 0, gi (gl En (e' : Int)) 1)])) (gi (gl En (e' : Int)) 1) ++ [gi (gl En (e' : Int)) 0]))) ∧ RowsI w' A16 m rs3 En), .ex (.pointer (ptrAt (A5) (gi (gl En (e' : Int)) 1).toNat)), .pr (fun _ w' => ∃ s : SlV, St w w' (mat 39 2 A5 vN vN (rs6.set (gi (gl En (e' : Int)) 1).toNat s) (bagP vN ((arcs En e' ++ [(gi (gl En (e' : Int)) 0, gi (gl En (e' : Int)) 1)]) ++ [(gi (gl En (e' : Int)) 1, gi (gl En (e' : Int)) 0)])) ++ k16))] (by kernel_rfl) (by kernel_rfl) (List.forall_mem_cons.2 ⟨Yd.lasts_ex _, (List.forall_mem_cons.2 ⟨Yd.lasts_ex _, (List.forall_mem_cons.2 ⟨Yd.lasts_ex _, (List.forall_mem_cons.2 ⟨Yd.lasts_ex _, (List.forall_mem_cons.2 ⟨Yd.lasts_ex _, (List.forall_mem_cons.2 ⟨Yd.lasts_ex _, (List.forall_mem_cons.2 ⟨Yd.lasts_ex _, (List.forall_mem_cons.2 ⟨Yd.lasts_ex _, (List.forall_mem_cons.2 ⟨Yd.lasts_ex _, (List.forall_mem_cons.2 ⟨Yd.lasts_ex _, (List.forall_mem_cons.2 ⟨Yd.lasts_ex _, (List.forall_mem_cons.2 ⟨Yd.lasts_ex _, (List.forall_mem_cons.2 ⟨Yd.lasts_ex _, (List.forall_mem_cons.2 ⟨Yd.lasts_pr (fun v w w' h hb => by obtain ⟨A1, hv, hT⟩ := h; exact ⟨A1, hv, hT.later hb⟩), (List.forall_mem_cons.2 ⟨Yd.lasts_pr (fun v w w' h hb => by obtain ⟨A1, c1, hv, hT, hE⟩ := h; exact ⟨A1, c1, hv, hT.later hb, hE.later hb⟩), (List.forall_mem_cons.2 ⟨Yd.lasts_ex _, (List.forall_mem_cons.2 ⟨Yd.lasts_pr (fun v w w' h hb => by obtain ⟨s, hT⟩ := h; exact ⟨s, hT.later hb⟩), (fun _ h => by cases h)⟩)⟩)⟩)⟩)⟩)⟩)⟩)⟩)⟩)⟩)⟩)⟩)⟩)⟩)⟩)⟩)⟩) ⟨?_, ?_, ?_, ?_, ?_, ?_, ?_, ?_, ?_, ?_, ?_, ?_, ?_, ?_, ?_, ?_, ?_, trivial⟩ ?_
      · intro e1 w1 cc hlo hhi hb0 hp hun hq
        show Ops _ _ _ _ _ _ _
        refine Ops.mv_sl rfl rfl rfl ?_
        refine Ops.nil ?_
        exact AfterN.dn rfl (Below.refl _ _) (by exact rfl)
      · intro e1 w1 cc hlo hhi hb0 hp hun hq
        show Ops _ _ _ _ _ _ _
        refine Ops.mv_sl rfl rfl rfl ?_
        refine Ops.nil ?_
        exact AfterN.dn rfl (Below.refl _ _) (by exact rfl)
      · intro e1 w1 cc hlo hhi hb0 hp hun hq
        show Ops _ _ _ _ _ _ _
        have hE : RdI w1 (rg rs3 (e' : Int)).a (rg rs3 (e' : Int)).n (gl En (e' : Int)) := by { have hhi := le_of_hi hhi (b := 1) (by kernel_rfl); rcases (show cc = 0 ∨ cc = 1 by omega) with h | h; { exact (hEnR (hS6.later (hb0 h))).at_ (i := (e' : Int)) (by omega) h1 }; { subst h; obtain ⟨A0, c0, _, _, hE1⟩ := hq 14 _ _ (by kernel_rfl) (by kernel_rfl) (by kernel_rfl) rfl rfl (by kernel_rfl); exact hE1.at_ (i := (e' : Int)) (by omega) h1 } }
        refine Ops.idx hE.2 rfl rfl rfl (by omega) (by omega) ?_
        refine Ops.nil ?_
        exact AfterN.dn rfl (Below.refl _ _) (by exact rfl)
      · intro e1 w1 cc hlo hhi hb0 hp hun hq
        show Ops _ _ _ _ _ _ _
        have hE : RdI w1 (rg rs3 (e' : Int)).a (rg rs3 (e' : Int)).n (gl En (e' : Int)) := by { have hhi := le_of_hi hhi (b := 1) (by kernel_rfl); rcases (show cc = 0 ∨ cc = 1 by omega) with h | h; { exact (hEnR (hS6.later (hb0 h))).at_ (i := (e' : Int)) (by omega) h1 }; { subst h; obtain ⟨A0, c0, _, _, hE1⟩ := hq 14 _ _ (by kernel_rfl) (by kernel_rfl) (by kernel_rfl) rfl rfl (by kernel_rfl); exact hE1.at_ (i := (e' : Int)) (by omega) h1 } }
        refine Ops.ld_int hE rfl (by omega) rfl rfl ?_
        refine Ops.nil ?_
        exact AfterN.dn rfl (Below.refl _ _) (by exact rfl)
      · intro e1 w1 cc hlo hhi hb0 hp hun hq
        show Ops _ _ _ _ _ _ _
        refine Ops.mv_sl rfl rfl rfl ?_
        refine Ops.nil ?_
        exact AfterN.dn rfl (Below.refl _ _) (by exact rfl)
      · intro e1 w1 cc hlo hhi hb0 hp hun hq
        show Ops _ _ _ _ _ _ _
        refine Ops.mv_sl rfl rfl rfl ?_
        refine Ops.nil ?_
        exact AfterN.dn rfl (Below.refl _ _) (by exact rfl)
      · intro e1 w1 cc hlo hhi hb0 hp hun hq
        show Ops _ _ _ _ _ _ _
        replace hlo := le_of_lo hlo (b := 0) (by kernel_rfl)
        replace hhi := le_of_hi hhi (b := 0) (by kernel_rfl)
        obtain rfl : cc = 0 := by omega
        have hb := hb0 rfl
        refine Ops.idx (hrow6.later hb).2 rfl rfl rfl (by omega) (by omega) ?_
        refine Ops.nil ?_
        exact AfterN.dn rfl (Below.refl _ _) (by exact rfl)
      · intro e1 w1 cc hlo hhi hb0 hp hun hq
        show Ops _ _ _ _ _ _ _
        replace hlo := le_of_lo hlo (b := 0) (by kernel_rfl)
        replace hhi := le_of_hi hhi (b := 0) (by kernel_rfl)
        obtain rfl : cc = 0 := by omega
        have hb := hb0 rfl
        refine Ops.ld_int (hrow6.later hb) rfl (by omega) rfl rfl ?_
        refine Ops.nil ?_
        exact AfterN.dn rfl (Below.refl _ _) (by exact rfl)
      · intro e1 w1 cc hlo hhi hb0 hp hun hq
        show Ops _ _ _ _ _ _ _
        replace hlo := le_of_lo hlo (b := 0) (by kernel_rfl)
        replace hhi := le_of_hi hhi (b := 0) (by kernel_rfl)
        obtain rfl : cc = 0 := by omega
        have hb := hb0 rfl
        refine Ops.idx (hM6.top.later hb).2 rfl rfl rfl (by omega) (by omega) ?_
        refine Ops.nil ?_
        exact AfterN.dn rfl (Below.refl _ _) (by exact rfl)
      · intro e1 w1 cc hlo hhi hb0 hp hun hq
        show Ops _ _ _ _ _ _ _
        replace hlo := le_of_lo hlo (b := 0) (by kernel_rfl)
        replace hhi := le_of_hi hhi (b := 0) (by kernel_rfl)
        obtain rfl : cc = 0 := by omega
        have hb := hb0 rfl
        refine Ops.ld_sl (hM6.top.later hb) rfl (by omega) rfl rfl ?_
        refine Ops.nil ?_
        exact AfterN.dn rfl (Below.refl _ _) (by exact rfl)
      · intro e1 w1 cc hlo hhi hb0 hp hun hq
        show Ops _ _ _ _ _ _ _
        refine Ops.mv_sl rfl rfl rfl ?_
        refine Ops.nil ?_
        exact AfterN.dn rfl (Below.refl _ _) (by exact rfl)
      · intro e1 w1 cc hlo hhi hb0 hp hun hq
        show Ops _ _ _ _ _ _ _
        replace hlo := le_of_lo hlo (b := 0) (by kernel_rfl)
        replace hhi := le_of_hi hhi (b := 0) (by kernel_rfl)
        obtain rfl : cc = 0 := by omega
        have hb := hb0 rfl
        refine Ops.idx (hrow6.later hb).2 rfl rfl rfl (by omega) (by omega) ?_
        refine Ops.nil ?_
        exact AfterN.dn rfl (Below.refl _ _) (by exact rfl)
      · intro e1 w1 cc hlo hhi hb0 hp hun hq
        show Ops _ _ _ _ _ _ _
        replace hlo := le_of_lo hlo (b := 0) (by kernel_rfl)
        replace hhi := le_of_hi hhi (b := 0) (by kernel_rfl)
        obtain rfl : cc = 0 := by omega
        have hb := hb0 rfl
        refine Ops.ld_int (hrow6.later hb) rfl (by omega) rfl rfl ?_
        refine Ops.nil ?_
        exact AfterN.dn rfl (Below.refl _ _) (by exact rfl)
      · intro e1 w1 cc hlo hhi hb0 hp hun hq
        show Ops _ _ _ _ _ _ _
        refine Ops.bs1I (St.refl _) rfl rfl rfl ?_
        intro A1 w9 hst
        refine Ops.nil ?_
        exact AfterN.dn rfl hst.below ⟨A1, rfl, hst.rdI 0 rfl⟩
      · intro e1 w1 cc hlo hhi hb0 hp hun hq
        show Ops _ _ _ _ _ _ _
        replace hlo := le_of_lo hlo (b := 0) (by kernel_rfl)
        replace hhi := le_of_hi hhi (b := 0) (by kernel_rfl)
        obtain rfl : cc = 0 := by omega
        have hb := hb0 rfl
        obtain ⟨A0, h54, hT0⟩ := (hp 13 _ _ (by kernel_rfl) rfl rfl (by kernel_rfl))
        refine Ops.appI ((gi (gl En (e' : Int)) 1).toNat + 1) (hS6.later hb) hget6 hT0 rfl (by exact h54) rfl (by omega) (by omega) rfl ?_
        intro A1 c1 w9 hst
        refine Ops.nil ?_
        exact AfterT.dn rfl ⟨A1, c1, rfl, hst, hEnK (hst.setTail (by rw [mat_len (by omega)]; omega))⟩
      · intro e1 w1 cc hlo hhi hb0 hp hun hq
        show Ops _ _ _ _ _ _ _
        replace hlo := le_of_lo hlo (b := 1) (by kernel_rfl)
        replace hhi := le_of_hi hhi (b := 1) (by kernel_rfl)
        obtain rfl : cc = 1 := by omega
        have hph := hp 14 _ _ (by kernel_rfl) rfl rfl (by kernel_rfl)
        obtain ⟨A1, c1, h39, hT, _⟩ := hph
        have hTop := hT.rdR 0 rfl
        refine Ops.idx (hTop).2 rfl rfl rfl (by omega) (by omega) ?_
        refine Ops.nil ?_
        exact AfterN.dn rfl (Below.refl _ _) (by exact rfl)
      · intro e1 w1 cc hlo hhi hb0 hp hun hq
        show Ops _ _ _ _ _ _ _
        replace hlo := le_of_lo hlo (b := 1) (by kernel_rfl)
        replace hhi := le_of_hi hhi (b := 1) (by kernel_rfl)
        obtain rfl : cc = 1 := by omega
        have hph := hp 14 _ _ (by kernel_rfl) rfl rfl (by kernel_rfl)
        obtain ⟨A1, c1, h39, hT, _⟩ := hph
        have hTop := hT.rdR 0 rfl
        refine Ops.st_sl 0 hT rfl rfl (by exact h39) hlt6 ?_
        intro w9 hst
        refine Ops.nil ?_
        exact AfterT.st rfl ⟨⟨A1, _, c1⟩, by rw [bagP_snoc vN (arcs En e' ++ [(gi (gl En (e' : Int)) 0, gi (gl En (e' : Int)) 1)]) (gi (gl En (e' : Int)) 1, gi (gl En (e' : Int)) 0), ← mat_updk (by omega) (by omega)]; exact hst⟩
      intro u7 w7 _ hu7
      obtain ⟨s7, hS7⟩ := hu7 16 _ rfl (by kernel_rfl)
      refine blockQ_n ?_
      refine thenQ_n ?_
      refine Cd.region ?_
      refine Ops.add rfl rfl rfl (by omega) ?_
      refine Ops.mv_int rfl rfl rfl ?_
      refine Ops.nil ?_
      refine thenQ_n ?_
      -- stop: round
      refine ⟨(e' + 1, rs6.set (gi (gl En (e' : Int)) 1).toNat s7), by show m - (e' + 1) < m - e'; omega, ⟨rfl, rfl, rfl, rfl, trivial⟩, ?_, he', by show (rs6.set _ _).length = vN; rw [List.length_set]; exact hrl66⟩
      show St w w7 (mat _ _ A5 vN vN _ (bagP vN (arcs En (e' + 1))) ++ k16)
      rw [hst2]
      exact hS7
    · have hst2 : arcs En (e' + 1) = arcs En e' := by
        show (if _ then _ else _) = _
        rw [if_neg (by omega)]
      refine Cd.skip ?_
      refine blockQ_n ?_
      refine thenQ_n ?_
      refine Cd.region ?_
      refine Ops.add rfl rfl rfl (by omega) ?_
      refine Ops.mv_int rfl rfl rfl ?_
      refine Ops.nil ?_
      refine thenQ_n ?_
      -- stop: round
      exact ⟨(e' + 1, rs5), by show m - (e' + 1) < m - e'; omega, ⟨rfl, rfl, rfl, rfl, trivial⟩, by show St w w5 (mat _ _ A5 vN vN rs5 (bagP vN (arcs En (e' + 1))) ++ k16); rw [hst2]; exact hS5, he', hrl⟩
  · refine Cd.exit ?_
    refine thenQ_x ?_
    refine thenQ_x ?_
    refine blockQ_x ?_
    refine thenQ_n ?_
    refine Cd.seq ?_
    refine Cd.seq ?_
    refine Cd.region ?_
    refine Ops.mv_sl rfl rfl rfl ?_
    refine Ops.len rfl rfl ?_
    refine Ops.mv_int rfl rfl rfl ?_
    refine Ops.nil ?_
    refine thenQ_n ?_
    refine Cd.block ?_
    -- stop: loop
    have hem : e' = m := by omega
    subst hem
    have hlen : ∀ v : Nat, v < vN → (gl (bagP vN (arcs En e')) (v : Int)).length ≤ 2 * e' := fun v hv => Nat.le_trans (bagP_row _ (fun p hp => (harc e' p hp).1) (v : Int) (by omega)) (hal e')
    have hBl := bagP_len vN (arcs En e')
    have hfin : endsP vN (arcs En e') = mixL (bagP vN (arcs En e')) vN := by
      have := mixL_all (bagP vN (arcs En e'))
      rw [hBl] at this
      rw [this]; rfl
    rw [hfin]
    generalize hB : bagP vN (arcs En e') = B at *
    refine Cd.loop (α := Nat × List SlV) (fun z => [(5, .slice A5 vN vN), (59, .int .i64 (vN : Int)), (60, .int .i64 (z.1 : Int))]) (fun z w' => St w w' (mat 39 2 A5 vN vN z.2 (mixL B z.1) ++ k16) ∧ z.1 ≤ vN ∧ z.2.length = vN) (fun z => vN - z.1) (0, rs5) ⟨rfl, rfl, rfl, trivial⟩ ⟨by rw [mixL_zero]; exact hS5, Nat.zero_le _, hrl⟩ ?_
    rintro ⟨v', rs6⟩ e w6 ⟨hS6, hv', hrl6⟩
    dsimp only at hS6 hv' hrl6 ⊢
    refine Cd.seq ?_
    refine Cd.region ?_
    refine Ops.lss rfl rfl rfl ?_
    refine Ops.nil ?_
    refine thenQ_n ?_
    refine Cd.seq ?_
    -- stop: cond
    refine Cd.cond_p _ rfl (fun h2 => ?_) (fun h2 => ?_)
    · have hv2 : v' < vN := by omega
      have hml := mixL_len B v'
      have hM6 := hS6.rowsI (by omega)
      have hrn := hM6.rowLen (k := (v' : Int)) (by omega) h2
      have hmg := mixL_get (B := B) (e := v') (by omega)
      have hstep := mixL_step (B := B) (e := v') (by omega)
      have hq := hlen v' hv2
      rw [hmg] at hrn
      have hget : (mat 39 2 A5 vN vN rs6 (mixL B v') ++ k16)[v' + 1]? = some (CkI 2 (rg rs6 (v' : Int)).a (rg rs6 (v' : Int)).n (rg rs6 (v' : Int)).c (gl B (v' : Int))) := by
        have := mat_get (t1 := 39) (t2 := 2) (A := A5) (n := vN) (c := vN) (rs := rs6) (xss := mixL B v') (pre := []) (ks := k16) (i := v') (by omega) (by omega)
        rw [show ([] : List Ck).length + 1 + v' = v' + 1 by simp; omega] at this
        rw [← hmg]
        exact this
      have hlt1 : v' + 1 < (mat 39 2 A5 vN vN rs6 (mixL B v') ++ k16).length := (List.getElem?_eq_some_iff.1 hget).1
      refine Cd.skip ?_
      refine thenQ_n ?_
      refine Cd.seq ?_
      refine Cd.block ?_
      refine Cd.seq ?_
      refine Cd.region ?_
      refine Ops.mv_int rfl rfl rfl ?_
      refine Ops.mv_int rfl rfl rfl ?_
      refine Ops.nil ?_
      refine thenQ_n ?_
      refine Cd.seq ?_
      refine Cd.region ?_
      refine Ops.mv_sl rfl rfl rfl ?_
      refine Ops.mv_int rfl rfl rfl ?_
      -- stop: INDEXADDR 25 t63 t64 -> 65
      refine Ops.idx hM6.top.2 rfl rfl rfl (by omega) h2 ?_
      refine Ops.ld_sl hM6.top rfl (by omega) rfl rfl ?_
      refine Ops.call (sort0_c (v' + 1) hS6 hget (by omega)) rfl rfl rfl ?_
      rintro _ w7 ⟨rfl, hS7⟩
      have hT7 := hS7.rdR 0 rfl
      refine Ops.nil ?_
      refine thenQ_n ?_
      refine Cd.region ?_
      refine Ops.mv_sl rfl rfl rfl ?_
      refine Ops.mv_int rfl rfl rfl ?_
      refine Ops.mv_sl rfl rfl rfl ?_
      refine Ops.mv_int rfl rfl rfl ?_
      -- stop: INDEXADDR 25 t70 t71 -> 72
      refine Ops.idx hT7.2 rfl rfl rfl (by omega) h2 ?_
      refine Ops.ld_sl hT7 rfl (by omega) rfl rfl ?_
      refine Ops.call (compact0_c (v' + 1) hS7 (by rw [List.getElem?_set, if_pos rfl, if_pos hlt1]) (by omega)) rfl rfl rfl ?_
      rintro _ w8 ⟨rfl, hS8⟩
      rw [List.set_set] at hS8
      have hT8 := hS8.rdR 0 rfl
      refine Ops.idx hT8.2 rfl rfl rfl (by omega) h2 ?_
      refine Ops.st_sl 0 hS8 rfl rfl rfl (by omega) ?_
      intro w9 hS9
      refine Ops.nil ?_
      refine blockQ_n ?_
      refine thenQ_n ?_
      refine Cd.region ?_
      refine Ops.add rfl rfl rfl (by omega) ?_
      refine Ops.mv_int rfl rfl rfl ?_
      refine Ops.nil ?_
      refine thenQ_n ?_
      -- stop: round
      refine ⟨(v' + 1, rs6.set v' ⟨(rg rs6 (v' : Int)).a, (cmpL (srt (gl B (v' : Int)))).length, (rg rs6 (v' : Int)).c⟩), by show vN - (v' + 1) < vN - v'; omega, ⟨rfl, rfl, rfl, trivial⟩, ?_, hv2, by show (rs6.set _ _).length = vN; rw [List.length_set]; exact hrl6⟩
      rw [← hstep, ← mat_updk (by omega) (by omega)]
      exact hS9
    · refine Cd.exit ?_
      refine thenQ_x ?_
      refine thenQ_x ?_
      refine blockQ_x ?_
      refine thenQ_n ?_
      refine Cd.seq ?_
      refine Cd.region ?_
      refine Ops.mv_sl rfl rfl rfl ?_
      refine Ops.mv_sl rfl rfl rfl ?_
      refine Ops.nil ?_
      refine thenQ_n ?_
      refine Cd.ret ?_
      refine ret1_s rfl ?_
      -- stop: end
      have hem : v' = vN := by omega
      subst hem
      refine ⟨A5, rs6, rfl, hrl6, ?_⟩
      rw [List.append_nil]
      exact hS6.sub (List.sublist_append_left _ _)

def nboL (xss : List (List Int)) : List (List Int) := if Grph xss then nbL xss else []
theorem nbo_bd (xss : List (List Int)) : (nboL xss).length ≤ 1000 ∧ ∀ x ∈ nboL xss, x.length ≤ 1000 := by
  unfold nboL
  split
  · rename_i hG
    have hM := hG.1
    have hsm := nb_small hM
    refine ⟨by rw [nbL_len]; omega, fun x hx => ?_⟩
    obtain ⟨k, hk, rfl⟩ := List.mem_iff_getElem.1 hx
    rw [← gl_mem hk]
    have h1 := endsP_row (m := vertsN xss) (ps := arcs (endsL xss) (edgesN xss)) (fun p hp => (arcs_in (fun e => endsL_mem hM e (by omega)) _ p hp).1) (k : Int) (by omega)
    have h2 := arcs_len (endsL xss) (edgesN xss)
    show (gl (endsP _ _) _).length ≤ _
    omega
  · exact ⟨Nat.zero_le _, fun x hx => by cases hx⟩

theorem specNeighboursOf_c (A : Option Addr) (n c : Nat) (rs : List SlV) (xss : List (List Int)) (w : World) (hR : RowsI w A n rs xss) (hn : n ≤ 9223372036854775807) :
    Ret Try.prog 43 [.agg #[.slice A n c]] w (AnsSS (nboL xss) (petrieK xss) w) := by
  have hl := hR.len
  refine Ret.of_cd Try.func43 rfl Try.ntmps43 rfl (post2 rfl) ?_
  refine Cd.seq ?_
  refine Cd.region ?_
  -- stop: BOX 32 t0=m -> 1
  refine Ops.box1 (St.refl w) rfl rfl ?_
  intro Ab w1 hS1
  refine Ops.mv_sl rfl rfl rfl ?_
  refine Ops.mv_int rfl rfl rfl ?_
  refine Ops.nil ?_
  refine thenQ_n ?_
  refine Cd.seq ?_
  refine Cd.seq ?_
  refine Cd.region ?_
  -- stop: LOAD 32 t1=m -> 4
  refine Ops.ld_agg 0 (hS1.rd 0 rfl) rfl rfl rfl ?_
  refine Ops.call (l18Is_c A n c rs xss _ (hS1.oldRows hR) hn) rfl rfl rfl ?_
  rintro _ w2 ⟨rfl, hst⟩
  have hS2 := hS1.later hst.below
  first | refine Ops.not_p rfl rfl ?_ | refine Ops.not rfl rfl ?_
  refine Ops.nil ?_
  refine thenQ_n ?_
  -- stop: cond
  refine Cd.cond_p _ rfl (fun h => ?_) (fun h => ?_)
  · refine Cd.seq ?_
    refine Cd.region ?_
    refine Ops.mv_sl rfl rfl rfl ?_
    refine Ops.mv_int rfl rfl rfl ?_
    refine Ops.nil ?_
    refine thenQ_n ?_
    refine Cd.ret ?_
    refine thenQ_r ?_
    refine ret2_si rfl rfl ?_
    -- stop: end
    rw [petrieK, if_neg h, nboL, if_neg h]
    exact AnsSS.none hS2
  · have hG : Grph xss := Classical.not_not.1 h
    refine Cd.skip ?_
    refine thenQ_n ?_
    refine Cd.seq ?_
    refine Cd.region ?_
    -- stop: LOAD 32 t1=m -> 7
    refine Ops.ld_agg 0 (hS2.rd 0 rfl) rfl rfl rfl ?_
    refine Ops.call (l18Neighbours_c A n c rs xss _ (hS2.oldRows hR) hG) rfl rfl rfl ?_
    rintro _ w3 ⟨A3, rs3, rfl, hrl, hst⟩
    have hS3 := hS2.none.call hst
    refine Ops.mv_sl rfl rfl rfl ?_
    refine Ops.mv_int rfl rfl rfl ?_
    refine Ops.nil ?_
    refine thenQ_n ?_
    refine Cd.ret ?_
    refine ret2_si rfl rfl ?_
    -- stop: end
    rw [petrieK, if_pos hG, nboL, if_pos hG]
    refine ⟨A3, vertsN xss, rs3, by rw [nbL_len], by rw [nbL_len]; exact hrl, ?_⟩
    rw [nbL_len]
    rwa [List.append_nil] at hS3

theorem implNeighboursOf_c (A : Option Addr) (n c : Nat) (rs : List SlV) (xss : List (List Int)) (w : World) (hR : RowsI w A n rs xss) (hn : n ≤ c) (hc : c ≤ 9223372036854775807) :
    Ret Try.prog 44 [.agg #[.slice A n c]] w (AnsSS (nboL xss) (petrieK xss) w) := by
  have hl := hR.len
  refine Ret.of_cd Try.func44 rfl Try.ntmps44 rfl (post2 rfl) ?_
  refine Cd.seq ?_
  refine Cd.region ?_
  -- stop: BOX 32 t0=m -> 1
  refine Ops.box1 (St.refl w) rfl rfl ?_
  intro Ab w1 hS1
  refine Ops.mv_sl rfl rfl rfl ?_
  refine Ops.mv_int rfl rfl rfl ?_
  refine Ops.nil ?_
  refine thenQ_n ?_
  refine Cd.seq ?_
  refine Cd.seq ?_
  refine Cd.region ?_
  -- stop: LOAD 32 t1=m -> 4
  refine Ops.ld_agg 0 (hS1.rd 0 rfl) rfl rfl rfl ?_
  refine Ops.call (isGraphed_c A n c rs xss _ (hS1.oldRows hR) hn hc) rfl rfl rfl ?_
  rintro _ w2 ⟨rfl, hst⟩
  have hS2 := hS1.later hst.below
  first | refine Ops.not_p rfl rfl ?_ | refine Ops.not rfl rfl ?_
  refine Ops.nil ?_
  refine thenQ_n ?_
  -- stop: cond
  refine Cd.cond_p _ rfl (fun h => ?_) (fun h => ?_)
  · refine Cd.seq ?_
    refine Cd.region ?_
    refine Ops.mv_sl rfl rfl rfl ?_
    refine Ops.mv_int rfl rfl rfl ?_
    refine Ops.nil ?_
    refine thenQ_n ?_
    refine Cd.ret ?_
    refine thenQ_r ?_
    refine ret2_si rfl rfl ?_
    -- stop: end
    rw [petrieK, if_neg h, nboL, if_neg h]
    exact AnsSS.none hS2
  · have hG : Grph xss := Classical.not_not.1 h
    refine Cd.skip ?_
    refine thenQ_n ?_
    refine Cd.seq ?_
    refine Cd.region ?_
    -- stop: LOAD 32 t1=m -> 7
    refine Ops.ld_agg 0 (hS2.rd 0 rfl) rfl rfl rfl ?_
    refine Ops.call (neighboursOf_c A n c rs xss _ (hS2.oldRows hR) hG) rfl rfl rfl ?_
    rintro _ w3 ⟨A3, rs3, rfl, hrl, hst⟩
    have hS3 := hS2.none.call hst
    refine Ops.mv_sl rfl rfl rfl ?_
    refine Ops.mv_int rfl rfl rfl ?_
    refine Ops.nil ?_
    refine thenQ_n ?_
    refine Cd.ret ?_
    refine ret2_si rfl rfl ?_
    -- stop: end
    rw [petrieK, if_pos hG, nboL, if_pos hG]
    refine ⟨A3, vertsN xss, rs3, by rw [nbL_len], by rw [nbL_len]; exact hrl, ?_⟩
    rw [nbL_len]
    rwa [List.append_nil] at hS3

end Go.Proofs.Ytpdhjnacnmfbjaa.Vc
