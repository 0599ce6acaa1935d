/-
  The texts D9, C9, C11, E1, E2, E3, E5, Drp in one. Conditions: as each part states them.
-/
import Derived.Test.YtpdhjnacnmfbjaaZe
import Derived.Test.YtpdhjnacnmfbjaaZc
/-
  Neighbours on the program's side, and the answers on both. Conditions: as each states them.
-/
namespace Go.Proofs.Ytpdhjnacnmfbjaa.Vc
open Go.RowKit

theorem mat_updk {t1 t2 : TypeId} {A : Option Addr} {n c : Nat} {rs : List SlV} {xss : List (List Int)} {i : Nat} {s : SlV} {xs : List Int} {ks : List Ck} (hr : rs.length = xss.length) (hi : i < rs.length) : CkR t1 A n c (rs.set i s) :: (rowsCk t2 rs xss ++ ks).set i (CkI t2 s.a s.n s.c xs) = mat t1 t2 A n c (rs.set i s) (xss.set i xs) ++ ks := by
  rw [List.set_append_left _ _ (by rw [rowsCk_length hr]; exact hi), rowsCk_upd hr]; rfl

theorem mat_len {t1 t2 : TypeId} {A : Option Addr} {n c : Nat} {rs : List SlV} {xss : List (List Int)} (h : rs.length = xss.length) : (mat t1 t2 A n c rs xss).length = rs.length + 1 := by simp [mat, rowsCk_length h]
theorem St.setTail {w0 w : World} {a k : List Ck} {i : Nat} {x : Ck} (h : St w0 w ((a ++ k).set i x)) (hi : i < a.length) : St w0 w k := by
  rw [List.set_append_left _ _ hi] at h
  exact h.sub (List.sublist_append_right _ _)

theorem neighboursOf_c (A : Option Addr) (n c : Nat) (rs : List SlV) (xss : List (List Int)) (w : World) (hR : RowsI w A n rs xss) (hG : Grph xss) :
    Ret Try.prog 78 [.agg #[.slice A n c]] w (fun v w' => ∃ A' rs', v = .slice A' (vertsN xss) (vertsN xss) ∧ rs'.length = vertsN xss ∧ St w w' (mat 39 2 A' (vertsN xss) (vertsN xss) rs' (nbL xss) ++ [])) := by
  have hl := hR.len
  have hM := hG.1
  have hn2 := hG.2
  have h5 := hM.1
  have hsm := nb_small hM
  have hmN : ((vertsN xss : Nat) : Int) = facesN xss 0 := by have := facesN_le xss 0; unfold vertsN; omega
  have hmem : ∀ e : Nat, ∀ x ∈ gl (endsL xss) e, 0 ≤ x ∧ x < (vertsN xss : Int) := fun e => endsL_mem hM e (by omega)
  have harc := arcs_in hmem
  have hal := arcs_len (endsL xss)
  have hEl := endsL_len xss
  have hnb : nbL xss = endsP (vertsN xss) (arcs (endsL xss) (edgesN xss)) := rfl
  rw [hnb]
  refine Ret.of_cd Try.func78 rfl Try.ntmps78 rfl (post1 rfl) ?_
  refine Cd.seq ?_
  refine Cd.region ?_
  -- stop: BOX 32 t0=app -> 1
  refine Ops.box1 (St.refl w) rfl rfl ?_
  intro Ab w1 hS1
  refine Ops.mv_sl rfl rfl rfl ?_
  refine Ops.nil ?_
  refine thenQ_n ?_
  refine Cd.seq ?_
  refine Cd.region ?_
  -- stop: CALL impl.Maniplex).faces(t1=toArray, 0) -> 10
  refine Ops.call (faces_c Ab A n c rs xss 0 _ (Rd.one (hS1.rd 0 rfl)) (hS1.oldRows hR) hM (by omega)) rfl rfl rfl ?_
  rintro _ w2 ⟨A3, rfl, hst⟩
  have hS2 := hS1.later hst.below
  rw [← hmN]
  refine Ops.mv_tup rfl rfl rfl ?_
  refine Ops.extract rfl rfl rfl ?_
  refine Ops.extract rfl rfl rfl ?_
  refine Ops.mv_sl rfl rfl rfl ?_
  refine Ops.mv_int rfl rfl rfl ?_
  refine Ops.nil ?_
  refine thenQ_n ?_
  refine Cd.seq ?_
  refine Cd.region ?_
  refine Ops.mv_int rfl rfl rfl ?_
  -- stop: MAKESLICE 25 t13 t13 -> 14
  refine Ops.mkR (vertsN xss) hS2 rfl rfl (by omega) ?_
  intro A5 w3 hS3
  have hS3 : St w w3 ([Bx 32 1 Ab [.slice A n c]] ++ mat 39 2 A5 (vertsN xss) (vertsN xss) (List.replicate (vertsN xss) slNil) (bagP (vertsN xss) (arcs (endsL xss) 0))) := by
    have := nilRows (t := 2) (vertsN xss) hS3
    exact this.perm (List.Perm.swap _ _ _)
  refine Ops.mv_sl rfl rfl rfl ?_
  refine Ops.nil ?_
  refine thenQ_n ?_
  refine Cd.seq ?_
  refine Cd.seq ?_
  refine Cd.region ?_
  -- stop: LOAD 32 t1=toArray -> 15
  refine Ops.ld_agg 0 (hS3.rd 0 rfl) rfl rfl rfl ?_
  refine Ops.call (endsOf_c A n c rs xss _ (hS3.oldRows hR) hG) rfl rfl rfl ?_
  rintro _ w4 ⟨A16, rs3, rfl, hrl3, hst4⟩
  have hEl4 : (endsL xss).length = edgesN xss := hEl
  obtain ⟨k16, hk16⟩ : ∃ k, k = mat 39 2 A16 (edgesN xss) (edgesN xss) rs3 (endsL xss) ++ [] := ⟨_, rfl⟩
  have hS4 : St w w4 (mat 39 2 A5 (vertsN xss) (vertsN xss) (List.replicate (vertsN xss) slNil) (bagP (vertsN xss) (arcs (endsL xss) 0)) ++ k16) := by
    have := hS3.call2 hst4
    rw [← hk16, List.append_assoc] at this
    exact this.tail
  have hEnK : ∀ {w' : World}, St w w' k16 → RowsI w' A16 (edgesN xss) rs3 (endsL xss) := fun h => by
    rw [hk16] at h
    exact h.rowsI hEl4
  have hEnR : ∀ {w' : World} {rs5 : List SlV} {B : List (List Int)}, St w w' (mat 39 2 A5 (vertsN xss) (vertsN xss) rs5 B ++ k16) → RowsI w' A16 (edgesN xss) rs3 (endsL xss) := fun h => hEnK h.unmat
  clear hk16 hst4 hS3 hS2
  generalize hv : vertsN xss = vN at *
  generalize hm : edgesN xss = m at *
  generalize hEn : endsL xss = En at *
  refine Ops.len rfl rfl ?_
  refine Ops.mv_int rfl rfl rfl ?_
  refine Ops.nil ?_
  refine thenQ_n ?_
  refine Cd.block ?_
  -- stop: loop
  refine Cd.loop (α := Nat × List SlV) (fun z => [(5, .slice A5 vN vN), (16, .slice A16 m m), (17, .int .i64 (m : Int)), (18, .int .i64 (z.1 : Int))]) (fun z w' => St w w' (mat 39 2 A5 vN vN z.2 (bagP vN (arcs En z.1)) ++ k16) ∧ z.1 ≤ m ∧ z.2.length = vN) (fun z => m - z.1) (0, List.replicate vN slNil) ⟨rfl, rfl, rfl, rfl, trivial⟩ ⟨hS4, Nat.zero_le _, by simp⟩ ?_
  rintro ⟨e', rs5⟩ e w5 ⟨hS5, he, hrl⟩
  dsimp only at hS5 he hrl ⊢
  have hP5 := hEnR hS5
  refine Cd.seq ?_
  refine Cd.region ?_
  refine Ops.lss rfl rfl rfl ?_
  refine Ops.nil ?_
  refine thenQ_n ?_
  refine Cd.seq ?_
  -- stop: cond
  refine Cd.cond_p _ rfl (fun h1 => ?_) (fun h1 => ?_)
  · have he' : e' < m := by omega
    have hrn := hP5.rowLen (k := (e' : Int)) (by omega) h1
    refine Cd.skip ?_
    refine thenQ_n ?_
    refine Cd.seq ?_
    refine Cd.block ?_
    refine Cd.seq ?_
    refine Cd.region ?_
    -- stop: INDEXADDR 25 t16 t18 -> 20
    refine Ops.idx hP5.top.2 rfl rfl rfl (by omega) h1 ?_
    refine Ops.ld_sl hP5.top rfl (by omega) rfl rfl ?_
    refine Ops.mv_sl rfl rfl rfl ?_
    refine Ops.nil ?_
    refine thenQ_n ?_
    refine Cd.seq ?_
    refine Cd.region ?_
    refine Ops.mv_sl rfl rfl rfl ?_
    refine Ops.len rfl rfl ?_
    refine Ops.eql rfl rfl rfl ?_
    refine Ops.nil ?_
    refine thenQ_n ?_
    -- stop: cond
    refine Cd.cond_p _ rfl (fun h2 => ?_) (fun h2 => ?_)
    · have h22 : (gl En (e' : Int)).length = 2 := by omega
      have hn2 : (rg rs3 (e' : Int)).n = 2 := by omega
      have htw := two_in (hmem e') h22
      have hst2 : arcs En (e' + 1) = (arcs En e' ++ [(gi (gl En (e' : Int)) 0, gi (gl En (e' : Int)) 1)]) ++ [(gi (gl En (e' : Int)) 1, gi (gl En (e' : Int)) 0)] := by
        show (if _ then _ else _) = _
        rw [if_pos h22]
      have hps1 : ∀ p ∈ arcs En e', 0 ≤ p.1 ∧ p.1 < (vN : Int) := fun p hp => (harc e' p hp).1
      have hps2 : ∀ p ∈ arcs En e' ++ [(gi (gl En (e' : Int)) 0, gi (gl En (e' : Int)) 1)], 0 ≤ p.1 ∧ p.1 < (vN : Int) := fun p hp => by
        rcases List.mem_append.1 hp with hp | hp
        · exact hps1 p hp
        · simp at hp; subst hp; exact htw.1
      have hl1 := hal e'
      have hl2 : (arcs En e' ++ [(gi (gl En (e' : Int)) 0, gi (gl En (e' : Int)) 1)]).length ≤ 2 * e' + 1 := by simp; omega
      have hbl5 := bagP_len vN (arcs En e')
      have hM5 := hS5.rowsI hbl5
      have hrn5 := hM5.rowLen htw.1.1 htw.1.2
      have hrl5 := bagP_row _ hps1 (gi (gl En (e' : Int)) 0) htw.1.1
      have hlt5 : (gi (gl En (e' : Int)) 0).toNat < vN := by omega
      have hrow5 := (hEnR hS5).at_ (i := (e' : Int)) (by omega) h1
      have hget5 : (mat 39 2 A5 vN vN rs5 (bagP vN (arcs En e')) ++ k16)[(gi (gl En (e' : Int)) 0).toNat + 1]? = some (CkI 2 (rg rs5 (gi (gl En (e' : Int)) 0)).a (rg rs5 (gi (gl En (e' : Int)) 0)).n (rg rs5 (gi (gl En (e' : Int)) 0)).c (gl (bagP vN (arcs En e')) (gi (gl En (e' : Int)) 0))) := by
        have := mat_get (t1 := 39) (t2 := 2) (A := A5) (n := vN) (c := vN) (rs := rs5) (xss := bagP vN (arcs En e')) (pre := []) (ks := k16) (i := (gi (gl En (e' : Int)) 0).toNat) (by omega) (by omega)
        rw [show ([] : List Ck).length + 1 + (gi (gl En (e' : Int)) 0).toNat = (gi (gl En (e' : Int)) 0).toNat + 1 by simp; omega] at this
        exact this
      refine Cd.seq ?_
      -- stop: draw
      refine Cd.drawN [14, 16] [.ex (.slice (A5) (vN) (vN)), .ex (.slice ((rg rs3 (e' : Int)).a) ((rg rs3 (e' : Int)).n) ((rg rs3 (e' : Int)).c)), .ex (.pointer (ptrAt (rg rs3 (e' : Int)).a (0 : Int).toNat)), .ex (.int .i64 (gi (gl En (e' : Int)) 0)), .ex (.slice (A5) (vN) (vN)), .ex (.slice ((rg rs3 (e' : Int)).a) ((rg rs3 (e' : Int)).n) ((rg rs3 (e' : Int)).c)), .ex (.pointer (ptrAt ((rg rs3 (e' : Int)).a) ((0 : Int)).toNat)), .ex (.int .i64 (gi (gl En (e' : Int)) ((0 : Int)))), .ex (.pointer (ptrAt (A5) (gi (gl En (e' : Int)) ((0 : Int))).toNat)), .ex (.slice ((rg (rs5) (gi (gl En (e' : Int)) ((0 : Int)))).a) ((rg (rs5) (gi (gl En (e' : Int)) ((0 : Int)))).n) ((rg (rs5) (gi (gl En (e' : Int)) ((0 : Int)))).c)), .ex (.slice ((rg rs3 (e' : Int)).a) ((rg rs3 (e' : Int)).n) ((rg rs3 (e' : Int)).c)), .ex (.pointer (ptrAt ((rg rs3 (e' : Int)).a) ((1 : Int)).toNat)), .ex (.int .i64 (gi (gl En (e' : Int)) ((1 : Int)))), .pr (fun v w' => ∃ A1, v = .slice A1 1 1 ∧ RdI w' A1 1 [gi (gl En (e' : Int)) 1]), .pr (fun v w' => ∃ A1 c1, v = .slice A1 ((rg rs5 (gi (gl En (e' : Int)) 0)).n + 1) c1 ∧ St w w' ((mat 39 2 A5 vN vN rs5 (bagP vN (arcs En e')) ++ k16).set ((gi (gl En (e' : Int)) 0).toNat + 1) (CkI 2 A1 ((rg rs5 (gi (gl En (e' : Int)) 0)).n + 1) c1 (gl (bagP vN (arcs En e')) (gi (gl En (e' : Int)) 0) ++ [gi (gl En (e' : Int)) 1]))) ∧ RowsI w' A16 m rs3 En), .ex (.pointer (ptrAt (A5) (gi (gl En (e' : Int)) 0).toNat)), .pr (fun _ w' => ∃ s : SlV, St w w' (mat 39 2 A5 vN vN (rs5.set (gi (gl En (e' : Int)) 0).toNat s) (bagP vN ((arcs En e') ++ [(gi (gl En (e' : Int)) 0, gi (gl En (e' : Int)) 1)])) ++ k16))] (by kernel_rfl) (by kernel_rfl) (List.forall_mem_cons.2 ⟨Yd.lasts_ex _, (List.forall_mem_cons.2 ⟨Yd.lasts_ex _, (List.forall_mem_cons.2 ⟨Yd.lasts_ex _, (List.forall_mem_cons.2 ⟨Yd.lasts_ex _, (List.forall_mem_cons.2 ⟨Yd.lasts_ex _, (List.forall_mem_cons.2 ⟨Yd.lasts_ex _, (List.forall_mem_cons.2 ⟨Yd.lasts_ex _, (List.forall_mem_cons.2 ⟨Yd.lasts_ex _, (List.forall_mem_cons.2 ⟨Yd.lasts_ex _, (List.forall_mem_cons.2 ⟨Yd.lasts_ex _, (List.forall_mem_cons.2 ⟨Yd.lasts_ex _, (List.forall_mem_cons.2 ⟨Yd.lasts_ex _, (List.forall_mem_cons.2 ⟨Yd.lasts_ex _, (List.forall_mem_cons.2 ⟨Yd.lasts_pr (fun v w w' h hb => by obtain ⟨A1, hv, hT⟩ := h; exact ⟨A1, hv, hT.later hb⟩), (List.forall_mem_cons.2 ⟨Yd.lasts_pr (fun v w w' h hb => by obtain ⟨A1, c1, hv, hT, hE⟩ := h; exact ⟨A1, c1, hv, hT.later hb, hE.later hb⟩), (List.forall_mem_cons.2 ⟨Yd.lasts_ex _, (List.forall_mem_cons.2 ⟨Yd.lasts_pr (fun v w w' h hb => by obtain ⟨s, hT⟩ := h; exact ⟨s, hT.later hb⟩), (fun _ h => by cases h)⟩)⟩)⟩)⟩)⟩)⟩)⟩)⟩)⟩)⟩)⟩)⟩)⟩)⟩)⟩)⟩)⟩) ⟨?_, ?_, ?_, ?_, ?_, ?_, ?_, ?_, ?_, ?_, ?_, ?_, ?_, ?_, ?_, ?_, ?_, trivial⟩ ?_
      · intro e1 w1 cc hlo hhi hb0 hp hun hq
        show Ops _ _ _ _ _ _ _
        refine Ops.mv_sl rfl rfl rfl ?_
        refine Ops.nil ?_
        exact AfterN.dn rfl (Below.refl _ _) (by exact rfl)
      · intro e1 w1 cc hlo hhi hb0 hp hun hq
        show Ops _ _ _ _ _ _ _
        refine Ops.mv_sl rfl rfl rfl ?_
        refine Ops.nil ?_
        exact AfterN.dn rfl (Below.refl _ _) (by exact rfl)
      · intro e1 w1 cc hlo hhi hb0 hp hun hq
        show Ops _ _ _ _ _ _ _
        have hE : RdI w1 (rg rs3 (e' : Int)).a (rg rs3 (e' : Int)).n (gl En (e' : Int)) := by { have hhi := le_of_hi hhi (b := 1) (by kernel_rfl); rcases (show cc = 0 ∨ cc = 1 by omega) with h | h; { exact (hEnR (hS5.later (hb0 h))).at_ (i := (e' : Int)) (by omega) h1 }; { subst h; obtain ⟨A0, c0, _, _, hE1⟩ := hq 14 _ _ (by kernel_rfl) (by kernel_rfl) (by kernel_rfl) rfl rfl (by kernel_rfl); exact hE1.at_ (i := (e' : Int)) (by omega) h1 } }
        refine Ops.idx hE.2 rfl rfl rfl (by omega) (by omega) ?_
        refine Ops.nil ?_
        exact AfterN.dn rfl (Below.refl _ _) (by exact rfl)
      · intro e1 w1 cc hlo hhi hb0 hp hun hq
        show Ops _ _ _ _ _ _ _
        have hE : RdI w1 (rg rs3 (e' : Int)).a (rg rs3 (e' : Int)).n (gl En (e' : Int)) := by { have hhi := le_of_hi hhi (b := 1) (by kernel_rfl); rcases (show cc = 0 ∨ cc = 1 by omega) with h | h; { exact (hEnR (hS5.later (hb0 h))).at_ (i := (e' : Int)) (by omega) h1 }; { subst h; obtain ⟨A0, c0, _, _, hE1⟩ := hq 14 _ _ (by kernel_rfl) (by kernel_rfl) (by kernel_rfl) rfl rfl (by kernel_rfl); exact hE1.at_ (i := (e' : Int)) (by omega) h1 } }
        refine Ops.ld_int hE rfl (by omega) rfl rfl ?_
        refine Ops.nil ?_
        exact AfterN.dn rfl (Below.refl _ _) (by exact rfl)
      · intro e1 w1 cc hlo hhi hb0 hp hun hq
        show Ops _ _ _ _ _ _ _
        refine Ops.mv_sl rfl rfl rfl ?_
        refine Ops.nil ?_
        exact AfterN.dn rfl (Below.refl _ _) (by exact rfl)
      · intro e1 w1 cc hlo hhi hb0 hp hun hq
        show Ops _ _ _ _ _ _ _
        refine Ops.mv_sl rfl rfl rfl ?_
        refine Ops.nil ?_
        exact AfterN.dn rfl (Below.refl _ _) (by exact rfl)
      · intro e1 w1 cc hlo hhi hb0 hp hun hq
        show Ops _ _ _ _ _ _ _
        replace hlo := le_of_lo hlo (b := 0) (by kernel_rfl)
        replace hhi := le_of_hi hhi (b := 0) (by kernel_rfl)
        obtain rfl : cc = 0 := by omega
        have hb := hb0 rfl
        refine Ops.idx (hrow5.later hb).2 rfl rfl rfl (by omega) (by omega) ?_
        refine Ops.nil ?_
        exact AfterN.dn rfl (Below.refl _ _) (by exact rfl)
      · intro e1 w1 cc hlo hhi hb0 hp hun hq
        show Ops _ _ _ _ _ _ _
        replace hlo := le_of_lo hlo (b := 0) (by kernel_rfl)
        replace hhi := le_of_hi hhi (b := 0) (by kernel_rfl)
        obtain rfl : cc = 0 := by omega
        have hb := hb0 rfl
        refine Ops.ld_int (hrow5.later hb) rfl (by omega) rfl rfl ?_
        refine Ops.nil ?_
        exact AfterN.dn rfl (Below.refl _ _) (by exact rfl)
      · intro e1 w1 cc hlo hhi hb0 hp hun hq
        show Ops _ _ _ _ _ _ _
        replace hlo := le_of_lo hlo (b := 0) (by kernel_rfl)
        replace hhi := le_of_hi hhi (b := 0) (by kernel_rfl)
        obtain rfl : cc = 0 := by omega
        have hb := hb0 rfl
        refine Ops.idx (hM5.top.later hb).2 rfl rfl rfl (by omega) (by omega) ?_
        refine Ops.nil ?_
        exact AfterN.dn rfl (Below.refl _ _) (by exact rfl)
      · intro e1 w1 cc hlo hhi hb0 hp hun hq
        show Ops _ _ _ _ _ _ _
        replace hlo := le_of_lo hlo (b := 0) (by kernel_rfl)
        replace hhi := le_of_hi hhi (b := 0) (by kernel_rfl)
        obtain rfl : cc = 0 := by omega
        have hb := hb0 rfl
        refine Ops.ld_sl (hM5.top.later hb) rfl (by omega) rfl rfl ?_
        refine Ops.nil ?_
        exact AfterN.dn rfl (Below.refl _ _) (by exact rfl)
      · intro e1 w1 cc hlo hhi hb0 hp hun hq
        show Ops _ _ _ _ _ _ _
        refine Ops.mv_sl rfl rfl rfl ?_
        refine Ops.nil ?_
        exact AfterN.dn rfl (Below.refl _ _) (by exact rfl)
      · intro e1 w1 cc hlo hhi hb0 hp hun hq
        show Ops _ _ _ _ _ _ _
        replace hlo := le_of_lo hlo (b := 0) (by kernel_rfl)
        replace hhi := le_of_hi hhi (b := 0) (by kernel_rfl)
        obtain rfl : cc = 0 := by omega
        have hb := hb0 rfl
        refine Ops.idx (hrow5.later hb).2 rfl rfl rfl (by omega) (by omega) ?_
        refine Ops.nil ?_
        exact AfterN.dn rfl (Below.refl _ _) (by exact rfl)
      · intro e1 w1 cc hlo hhi hb0 hp hun hq
        show Ops _ _ _ _ _ _ _
        replace hlo := le_of_lo hlo (b := 0) (by kernel_rfl)
        replace hhi := le_of_hi hhi (b := 0) (by kernel_rfl)
        obtain rfl : cc = 0 := by omega
        have hb := hb0 rfl
        refine Ops.ld_int (hrow5.later hb) rfl (by omega) rfl rfl ?_
        refine Ops.nil ?_
        exact AfterN.dn rfl (Below.refl _ _) (by exact rfl)
      · intro e1 w1 cc hlo hhi hb0 hp hun hq
        show Ops _ _ _ _ _ _ _
        refine Ops.bs1I (St.refl _) rfl rfl rfl ?_
        intro A1 w9 hst
        refine Ops.nil ?_
        exact AfterN.dn rfl hst.below ⟨A1, rfl, hst.rdI 0 rfl⟩
      · intro e1 w1 cc hlo hhi hb0 hp hun hq
        show Ops _ _ _ _ _ _ _
        replace hlo := le_of_lo hlo (b := 0) (by kernel_rfl)
        replace hhi := le_of_hi hhi (b := 0) (by kernel_rfl)
        obtain rfl : cc = 0 := by omega
        have hb := hb0 rfl
        obtain ⟨A0, h38, hT0⟩ := (hp 13 _ _ (by kernel_rfl) rfl rfl (by kernel_rfl))
        refine Ops.appI ((gi (gl En (e' : Int)) 0).toNat + 1) (hS5.later hb) hget5 hT0 rfl (by exact h38) rfl (by omega) (by omega) rfl ?_
        intro A1 c1 w9 hst
        refine Ops.nil ?_
        exact AfterT.dn rfl ⟨A1, c1, rfl, hst, hEnK (hst.setTail (by rw [mat_len (by omega)]; omega))⟩
      · intro e1 w1 cc hlo hhi hb0 hp hun hq
        show Ops _ _ _ _ _ _ _
        replace hlo := le_of_lo hlo (b := 1) (by kernel_rfl)
        replace hhi := le_of_hi hhi (b := 1) (by kernel_rfl)
        obtain rfl : cc = 1 := by omega
        have hph := hp 14 _ _ (by kernel_rfl) rfl rfl (by kernel_rfl)
        obtain ⟨A1, c1, h39, hT, _⟩ := hph
        have hTop := hT.rdR 0 rfl
        refine Ops.idx (hTop).2 rfl rfl rfl (by omega) (by omega) ?_
        refine Ops.nil ?_
        exact AfterN.dn rfl (Below.refl _ _) (by exact rfl)
      · intro e1 w1 cc hlo hhi hb0 hp hun hq
        show Ops _ _ _ _ _ _ _
        replace hlo := le_of_lo hlo (b := 1) (by kernel_rfl)
        replace hhi := le_of_hi hhi (b := 1) (by kernel_rfl)
        obtain rfl : cc = 1 := by omega
        have hph := hp 14 _ _ (by kernel_rfl) rfl rfl (by kernel_rfl)
        obtain ⟨A1, c1, h39, hT, _⟩ := hph
        have hTop := hT.rdR 0 rfl
        refine Ops.st_sl 0 hT rfl rfl (by exact h39) hlt5 ?_
        intro w9 hst
        refine Ops.nil ?_
        exact AfterT.st rfl ⟨⟨A1, _, c1⟩, by rw [bagP_snoc vN (arcs En e') (gi (gl En (e' : Int)) 0, gi (gl En (e' : Int)) 1), ← mat_updk (by omega) (by omega)]; exact hst⟩
      intro u w6 _ hu
      obtain ⟨s6, hS6⟩ := hu 16 _ rfl (by kernel_rfl)
      generalize hrs6 : rs5.set (gi (gl En (e' : Int)) 0).toNat s6 = rs6 at *
      have hrl66 : rs6.length = vN := by rw [← hrs6, List.length_set]; exact hrl
      have hbl6 := bagP_len vN (arcs En e' ++ [(gi (gl En (e' : Int)) 0, gi (gl En (e' : Int)) 1)])
      have hM6 := hS6.rowsI hbl6
      have hrn6 := hM6.rowLen htw.2.1 htw.2.2
      have hrl6 := bagP_row _ hps2 (gi (gl En (e' : Int)) 1) htw.2.1
      have hlt6 : (gi (gl En (e' : Int)) 1).toNat < vN := by omega
      have hrow6 := (hEnR hS6).at_ (i := (e' : Int)) (by omega) h1
      have hget6 : (mat 39 2 A5 vN vN rs6 (bagP vN (arcs En e' ++ [(gi (gl En (e' : Int)) 0, gi (gl En (e' : Int)) 1)])) ++ k16)[(gi (gl En (e' : Int)) 1).toNat + 1]? = some (CkI 2 (rg rs6 (gi (gl En (e' : Int)) 1)).a (rg rs6 (gi (gl En (e' : Int)) 1)).n (rg rs6 (gi (gl En (e' : Int)) 1)).c (gl (bagP vN (arcs En e' ++ [(gi (gl En (e' : Int)) 0, gi (gl En (e' : Int)) 1)])) (gi (gl En (e' : Int)) 1))) := by
        have := mat_get (t1 := 39) (t2 := 2) (A := A5) (n := vN) (c := vN) (rs := rs6) (xss := bagP vN (arcs En e' ++ [(gi (gl En (e' : Int)) 0, gi (gl En (e' : Int)) 1)])) (pre := []) (ks := k16) (i := (gi (gl En (e' : Int)) 1).toNat) (by omega) (by omega)
        rw [show ([] : List Ck).length + 1 + (gi (gl En (e' : Int)) 1).toNat = (gi (gl En (e' : Int)) 1).toNat + 1 by simp; omega] at this
        exact this
      refine thenQ_n ?_
      -- stop: draw
      refine Cd.drawN [14, 16] [.ex (.slice (A5) (vN) (vN)), .ex (.slice ((rg rs3 (e' : Int)).a) ((rg rs3 (e' : Int)).n) ((rg rs3 (e' : Int)).c)), .ex (.pointer (ptrAt (rg rs3 (e' : Int)).a (1 : Int).toNat)), .ex (.int .i64 (gi (gl En (e' : Int)) 1)), .ex (.slice (A5) (vN) (vN)), .ex (.slice ((rg rs3 (e' : Int)).a) ((rg rs3 (e' : Int)).n) ((rg rs3 (e' : Int)).c)), .ex (.pointer (ptrAt ((rg rs3 (e' : Int)).a) ((1 : Int)).toNat)), .ex (.int .i64 (gi (gl En (e' : Int)) ((1 : Int)))), .ex (.pointer (ptrAt (A5) (gi (gl En (e' : Int)) ((1 : Int))).toNat)), .ex (.slice ((rg (rs6) (gi (gl En (e' : Int)) ((1 : Int)))).a) ((rg (rs6) (gi (gl En (e' : Int)) ((1 : Int)))).n) ((rg (rs6) (gi (gl En (e' : Int)) ((1 : Int)))).c)), .ex (.slice ((rg rs3 (e' : Int)).a) ((rg rs3 (e' : Int)).n) ((rg rs3 (e' : Int)).c)), .ex (.pointer (ptrAt ((rg rs3 (e' : Int)).a) ((0 : Int)).toNat)), .ex (.int .i64 (gi (gl En (e' : Int)) ((0 : Int)))), .pr (fun v w' => ∃ A1, v = .slice A1 1 1 ∧ RdI w' A1 1 [gi (gl En (e' : Int)) 0]), .pr (fun v w' => ∃ A1 c1, v = .slice A1 ((rg rs6 (gi (gl En (e' : Int)) 1)).n + 1) c1 ∧ St w w' ((mat 39 2 A5 vN vN rs6 (bagP vN (arcs En e' ++ [(gi (gl En (e' : Int)) 0, gi (gl En (e' : Int)) 1)])) ++ k16).set ((gi (gl En (e' : Int)) 1).toNat + 1) (CkI 2 A1 ((rg rs6 (gi (gl En (e' : Int)) 1)).n + 1) c1 (gl (bagP vN (arcs En e' ++ [(gi (gl En (e' : Int)) 0, gi (gl En (e' : Int)) 1)])) (gi (gl En (e' : Int)) 1) ++ [gi (gl En (e' : Int)) 0]))) ∧ RowsI w' A16 m rs3 En), .ex (.pointer (ptrAt (A5) (gi (gl En (e' : Int)) 1).toNat)), .pr (fun _ w' => ∃ s : SlV, St w w' (mat 39 2 A5 vN vN (rs6.set (gi (gl En (e' : Int)) 1).toNat s) (bagP vN ((arcs En e' ++ [(gi (gl En (e' : Int)) 0, gi (gl En (e' : Int)) 1)]) ++ [(gi (gl En (e' : Int)) 1, gi (gl En (e' : Int)) 0)])) ++ k16))] (by kernel_rfl) (by kernel_rfl) (List.forall_mem_cons.2 ⟨Yd.lasts_ex _, (List.forall_mem_cons.2 ⟨Yd.lasts_ex _, (List.forall_mem_cons.2 ⟨Yd.lasts_ex _, (List.forall_mem_cons.2 ⟨Yd.lasts_ex _, (List.forall_mem_cons.2 ⟨Yd.lasts_ex _, (List.forall_mem_cons.2 ⟨Yd.lasts_ex _, (List.forall_mem_cons.2 ⟨Yd.lasts_ex _, (List.forall_mem_cons.2 ⟨Yd.lasts_ex _, (List.forall_mem_cons.2 ⟨Yd.lasts_ex _, (List.forall_mem_cons.2 ⟨Yd.lasts_ex _, (List.forall_mem_cons.2 ⟨Yd.lasts_ex _, (List.forall_mem_cons.2 ⟨Yd.lasts_ex _, (List.forall_mem_cons.2 ⟨Yd.lasts_ex _, (List.forall_mem_cons.2 ⟨Yd.lasts_pr (fun v w w' h hb => by obtain ⟨A1, hv, hT⟩ := h; exact ⟨A1, hv, hT.later hb⟩), (List.forall_mem_cons.2 ⟨Yd.lasts_pr (fun v w w' h hb => by obtain ⟨A1, c1, hv, hT, hE⟩ := h; exact ⟨A1, c1, hv, hT.later hb, hE.later hb⟩), (List.forall_mem_cons.2 ⟨Yd.lasts_ex _, (List.forall_mem_cons.2 ⟨Yd.lasts_pr (fun v w w' h hb => by obtain ⟨s, hT⟩ := h; exact ⟨s, hT.later hb⟩), (fun _ h => by cases h)⟩)⟩)⟩)⟩)⟩)⟩)⟩)⟩)⟩)⟩)⟩)⟩)⟩)⟩)⟩)⟩)⟩) ⟨?_, ?_, ?_, ?_, ?_, ?_, ?_, ?_, ?_, ?_, ?_, ?_, ?_, ?_, ?_, ?_, ?_, trivial⟩ ?_
      · intro e1 w1 cc hlo hhi hb0 hp hun hq
        show Ops _ _ _ _ _ _ _
        refine Ops.mv_sl rfl rfl rfl ?_
        refine Ops.nil ?_
        exact AfterN.dn rfl (Below.refl _ _) (by exact rfl)
      · intro e1 w1 cc hlo hhi hb0 hp hun hq
        show Ops _ _ _ _ _ _ _
        refine Ops.mv_sl rfl rfl rfl ?_
        refine Ops.nil ?_
        exact AfterN.dn rfl (Below.refl _ _) (by exact rfl)
      · intro e1 w1 cc hlo hhi hb0 hp hun hq
        show Ops _ _ _ _ _ _ _
        have hE : RdI w1 (rg rs3 (e' : Int)).a (rg rs3 (e' : Int)).n (gl En (e' : Int)) := by { have hhi := le_of_hi hhi (b := 1) (by kernel_rfl); rcases (show cc = 0 ∨ cc = 1 by omega) with h | h; { exact (hEnR (hS6.later (hb0 h))).at_ (i := (e' : Int)) (by omega) h1 }; { subst h; obtain ⟨A0, c0, _, _, hE1⟩ := hq 14 _ _ (by kernel_rfl) (by kernel_rfl) (by kernel_rfl) rfl rfl (by kernel_rfl); exact hE1.at_ (i := (e' : Int)) (by omega) h1 } }
        refine Ops.idx hE.2 rfl rfl rfl (by omega) (by omega) ?_
        refine Ops.nil ?_
        exact AfterN.dn rfl (Below.refl _ _) (by exact rfl)
      · intro e1 w1 cc hlo hhi hb0 hp hun hq
        show Ops _ _ _ _ _ _ _
        have hE : RdI w1 (rg rs3 (e' : Int)).a (rg rs3 (e' : Int)).n (gl En (e' : Int)) := by { have hhi := le_of_hi hhi (b := 1) (by kernel_rfl); rcases (show cc = 0 ∨ cc = 1 by omega) with h | h; { exact (hEnR (hS6.later (hb0 h))).at_ (i := (e' : Int)) (by omega) h1 }; { subst h; obtain ⟨A0, c0, _, _, hE1⟩ := hq 14 _ _ (by kernel_rfl) (by kernel_rfl) (by kernel_rfl) rfl rfl (by kernel_rfl); exact hE1.at_ (i := (e' : Int)) (by omega) h1 } }
        refine Ops.ld_int hE rfl (by omega) rfl rfl ?_
        refine Ops.nil ?_
        exact AfterN.dn rfl (Below.refl _ _) (by exact rfl)
      · intro e1 w1 cc hlo hhi hb0 hp hun hq
        show Ops _ _ _ _ _ _ _
        refine Ops.mv_sl rfl rfl rfl ?_
        refine Ops.nil ?_
        exact AfterN.dn rfl (Below.refl _ _) (by exact rfl)
      · intro e1 w1 cc hlo hhi hb0 hp hun hq
        show Ops _ _ _ _ _ _ _
        refine Ops.mv_sl rfl rfl rfl ?_
        refine Ops.nil ?_
        exact AfterN.dn rfl (Below.refl _ _) (by exact rfl)
      · intro e1 w1 cc hlo hhi hb0 hp hun hq
        show Ops _ _ _ _ _ _ _
        replace hlo := le_of_lo hlo (b := 0) (by kernel_rfl)
        replace hhi := le_of_hi hhi (b := 0) (by kernel_rfl)
        obtain rfl : cc = 0 := by omega
        have hb := hb0 rfl
        refine Ops.idx (hrow6.later hb).2 rfl rfl rfl (by omega) (by omega) ?_
        refine Ops.nil ?_
        exact AfterN.dn rfl (Below.refl _ _) (by exact rfl)
      · intro e1 w1 cc hlo hhi hb0 hp hun hq
        show Ops _ _ _ _ _ _ _
        replace hlo := le_of_lo hlo (b := 0) (by kernel_rfl)
        replace hhi := le_of_hi hhi (b := 0) (by kernel_rfl)
        obtain rfl : cc = 0 := by omega
        have hb := hb0 rfl
        refine Ops.ld_int (hrow6.later hb) rfl (by omega) rfl rfl ?_
        refine Ops.nil ?_
        exact AfterN.dn rfl (Below.refl _ _) (by exact rfl)
      · intro e1 w1 cc hlo hhi hb0 hp hun hq
        show Ops _ _ _ _ _ _ _
        replace hlo := le_of_lo hlo (b := 0) (by kernel_rfl)
        replace hhi := le_of_hi hhi (b := 0) (by kernel_rfl)
        obtain rfl : cc = 0 := by omega
        have hb := hb0 rfl
        refine Ops.idx (hM6.top.later hb).2 rfl rfl rfl (by omega) (by omega) ?_
        refine Ops.nil ?_
        exact AfterN.dn rfl (Below.refl _ _) (by exact rfl)
      · intro e1 w1 cc hlo hhi hb0 hp hun hq
        show Ops _ _ _ _ _ _ _
        replace hlo := le_of_lo hlo (b := 0) (by kernel_rfl)
        replace hhi := le_of_hi hhi (b := 0) (by kernel_rfl)
        obtain rfl : cc = 0 := by omega
        have hb := hb0 rfl
        refine Ops.ld_sl (hM6.top.later hb) rfl (by omega) rfl rfl ?_
        refine Ops.nil ?_
        exact AfterN.dn rfl (Below.refl _ _) (by exact rfl)
      · intro e1 w1 cc hlo hhi hb0 hp hun hq
        show Ops _ _ _ _ _ _ _
        refine Ops.mv_sl rfl rfl rfl ?_
        refine Ops.nil ?_
        exact AfterN.dn rfl (Below.refl _ _) (by exact rfl)
      · intro e1 w1 cc hlo hhi hb0 hp hun hq
        show Ops _ _ _ _ _ _ _
        replace hlo := le_of_lo hlo (b := 0) (by kernel_rfl)
        replace hhi := le_of_hi hhi (b := 0) (by kernel_rfl)
        obtain rfl : cc = 0 := by omega
        have hb := hb0 rfl
        refine Ops.idx (hrow6.later hb).2 rfl rfl rfl (by omega) (by omega) ?_
        refine Ops.nil ?_
        exact AfterN.dn rfl (Below.refl _ _) (by exact rfl)
      · intro e1 w1 cc hlo hhi hb0 hp hun hq
        show Ops _ _ _ _ _ _ _
        replace hlo := le_of_lo hlo (b := 0) (by kernel_rfl)
        replace hhi := le_of_hi hhi (b := 0) (by kernel_rfl)
        obtain rfl : cc = 0 := by omega
        have hb := hb0 rfl
        refine Ops.ld_int (hrow6.later hb) rfl (by omega) rfl rfl ?_
        refine Ops.nil ?_
        exact AfterN.dn rfl (Below.refl _ _) (by exact rfl)
      · intro e1 w1 cc hlo hhi hb0 hp hun hq
        show Ops _ _ _ _ _ _ _
        refine Ops.bs1I (St.refl _) rfl rfl rfl ?_
        intro A1 w9 hst
        refine Ops.nil ?_
        exact AfterN.dn rfl hst.below ⟨A1, rfl, hst.rdI 0 rfl⟩
      · intro e1 w1 cc hlo hhi hb0 hp hun hq
        show Ops _ _ _ _ _ _ _
        replace hlo := le_of_lo hlo (b := 0) (by kernel_rfl)
        replace hhi := le_of_hi hhi (b := 0) (by kernel_rfl)
        obtain rfl : cc = 0 := by omega
        have hb := hb0 rfl
        obtain ⟨A0, h54, hT0⟩ := (hp 13 _ _ (by kernel_rfl) rfl rfl (by kernel_rfl))
        refine Ops.appI ((gi (gl En (e' : Int)) 1).toNat + 1) (hS6.later hb) hget6 hT0 rfl (by exact h54) rfl (by omega) (by omega) rfl ?_
        intro A1 c1 w9 hst
        refine Ops.nil ?_
        exact AfterT.dn rfl ⟨A1, c1, rfl, hst, hEnK (hst.setTail (by rw [mat_len (by omega)]; omega))⟩
      · intro e1 w1 cc hlo hhi hb0 hp hun hq
        show Ops _ _ _ _ _ _ _
        replace hlo := le_of_lo hlo (b := 1) (by kernel_rfl)
        replace hhi := le_of_hi hhi (b := 1) (by kernel_rfl)
        obtain rfl : cc = 1 := by omega
        have hph := hp 14 _ _ (by kernel_rfl) rfl rfl (by kernel_rfl)
        obtain ⟨A1, c1, h39, hT, _⟩ := hph
        have hTop := hT.rdR 0 rfl
        refine Ops.idx (hTop).2 rfl rfl rfl (by omega) (by omega) ?_
        refine Ops.nil ?_
        exact AfterN.dn rfl (Below.refl _ _) (by exact rfl)
      · intro e1 w1 cc hlo hhi hb0 hp hun hq
        show Ops _ _ _ _ _ _ _
        replace hlo := le_of_lo hlo (b := 1) (by kernel_rfl)
        replace hhi := le_of_hi hhi (b := 1) (by kernel_rfl)
        obtain rfl : cc = 1 := by omega
        have hph := hp 14 _ _ (by kernel_rfl) rfl rfl (by kernel_rfl)
        obtain ⟨A1, c1, h39, hT, _⟩ := hph
        have hTop := hT.rdR 0 rfl
        refine Ops.st_sl 0 hT rfl rfl (by exact h39) hlt6 ?_
        intro w9 hst
        refine Ops.nil ?_
        exact AfterT.st rfl ⟨⟨A1, _, c1⟩, by rw [bagP_snoc vN (arcs En e' ++ [(gi (gl En (e' : Int)) 0, gi (gl En (e' : Int)) 1)]) (gi (gl En (e' : Int)) 1, gi (gl En (e' : Int)) 0), ← mat_updk (by omega) (by omega)]; exact hst⟩
      intro u7 w7 _ hu7
      obtain ⟨s7, hS7⟩ := hu7 16 _ rfl (by kernel_rfl)
      refine blockQ_n ?_
      refine thenQ_n ?_
      refine Cd.region ?_
      refine Ops.add rfl rfl rfl (by omega) ?_
      refine Ops.mv_int rfl rfl rfl ?_
      refine Ops.nil ?_
      refine thenQ_n ?_
      -- stop: round
      refine ⟨(e' + 1, rs6.set (gi (gl En (e' : Int)) 1).toNat s7), by show m - (e' + 1) < m - e'; omega, ⟨rfl, rfl, rfl, rfl, trivial⟩, ?_, he', by show (rs6.set _ _).length = vN; rw [List.length_set]; exact hrl66⟩
      show St w w7 (mat _ _ A5 vN vN _ (bagP vN (arcs En (e' + 1))) ++ k16)
      rw [hst2]
      exact hS7
    · have hst2 : arcs En (e' + 1) = arcs En e' := by
        show (if _ then _ else _) = _
        rw [if_neg (by omega)]
      refine Cd.skip ?_
      refine blockQ_n ?_
      refine thenQ_n ?_
      refine Cd.region ?_
      refine Ops.add rfl rfl rfl (by omega) ?_
      refine Ops.mv_int rfl rfl rfl ?_
      refine Ops.nil ?_
      refine thenQ_n ?_
      -- stop: round
      exact ⟨(e' + 1, rs5), by show m - (e' + 1) < m - e'; omega, ⟨rfl, rfl, rfl, rfl, trivial⟩, by show St w w5 (mat _ _ A5 vN vN rs5 (bagP vN (arcs En (e' + 1))) ++ k16); rw [hst2]; exact hS5, he', hrl⟩
  · refine Cd.exit ?_
    refine thenQ_x ?_
    refine thenQ_x ?_
    refine blockQ_x ?_
    refine thenQ_n ?_
    refine Cd.seq ?_
    refine Cd.seq ?_
    refine Cd.region ?_
    refine Ops.mv_sl rfl rfl rfl ?_
    refine Ops.len rfl rfl ?_
    refine Ops.mv_int rfl rfl rfl ?_
    refine Ops.nil ?_
    refine thenQ_n ?_
    refine Cd.block ?_
    -- stop: loop
    have hem : e' = m := by omega
    subst hem
    have hlen : ∀ v : Nat, v < vN → (gl (bagP vN (arcs En e')) (v : Int)).length ≤ 2 * e' := fun v hv => Nat.le_trans (bagP_row _ (fun p hp => (harc e' p hp).1) (v : Int) (by omega)) (hal e')
    have hBl := bagP_len vN (arcs En e')
    have hfin : endsP vN (arcs En e') = mixL (bagP vN (arcs En e')) vN := by
      have := mixL_all (bagP vN (arcs En e'))
      rw [hBl] at this
      rw [this]; rfl
    rw [hfin]
    generalize hB : bagP vN (arcs En e') = B at *
    refine Cd.loop (α := Nat × List SlV) (fun z => [(5, .slice A5 vN vN), (59, .int .i64 (vN : Int)), (60, .int .i64 (z.1 : Int))]) (fun z w' => St w w' (mat 39 2 A5 vN vN z.2 (mixL B z.1) ++ k16) ∧ z.1 ≤ vN ∧ z.2.length = vN) (fun z => vN - z.1) (0, rs5) ⟨rfl, rfl, rfl, trivial⟩ ⟨by rw [mixL_zero]; exact hS5, Nat.zero_le _, hrl⟩ ?_
    rintro ⟨v', rs6⟩ e w6 ⟨hS6, hv', hrl6⟩
    dsimp only at hS6 hv' hrl6 ⊢
    refine Cd.seq ?_
    refine Cd.region ?_
    refine Ops.lss rfl rfl rfl ?_
    refine Ops.nil ?_
    refine thenQ_n ?_
    refine Cd.seq ?_
    -- stop: cond
    refine Cd.cond_p _ rfl (fun h2 => ?_) (fun h2 => ?_)
    · have hv2 : v' < vN := by omega
      have hml := mixL_len B v'
      have hM6 := hS6.rowsI (by omega)
      have hrn := hM6.rowLen (k := (v' : Int)) (by omega) h2
      have hmg := mixL_get (B := B) (e := v') (by omega)
      have hstep := mixL_step (B := B) (e := v') (by omega)
      have hq := hlen v' hv2
      rw [hmg] at hrn
      have hget : (mat 39 2 A5 vN vN rs6 (mixL B v') ++ k16)[v' + 1]? = some (CkI 2 (rg rs6 (v' : Int)).a (rg rs6 (v' : Int)).n (rg rs6 (v' : Int)).c (gl B (v' : Int))) := by
        have := mat_get (t1 := 39) (t2 := 2) (A := A5) (n := vN) (c := vN) (rs := rs6) (xss := mixL B v') (pre := []) (ks := k16) (i := v') (by omega) (by omega)
        rw [show ([] : List Ck).length + 1 + v' = v' + 1 by simp; omega] at this
        rw [← hmg]
        exact this
      have hlt1 : v' + 1 < (mat 39 2 A5 vN vN rs6 (mixL B v') ++ k16).length := (List.getElem?_eq_some_iff.1 hget).1
      refine Cd.skip ?_
      refine thenQ_n ?_
      refine Cd.seq ?_
      refine Cd.block ?_
      refine Cd.seq ?_
      refine Cd.region ?_
      refine Ops.mv_int rfl rfl rfl ?_
      refine Ops.mv_int rfl rfl rfl ?_
      refine Ops.nil ?_
      refine thenQ_n ?_
      refine Cd.seq ?_
      refine Cd.region ?_
      refine Ops.mv_sl rfl rfl rfl ?_
      refine Ops.mv_int rfl rfl rfl ?_
      -- stop: INDEXADDR 25 t63 t64 -> 65
      refine Ops.idx hM6.top.2 rfl rfl rfl (by omega) h2 ?_
      refine Ops.ld_sl hM6.top rfl (by omega) rfl rfl ?_
      refine Ops.call (sort0_c (v' + 1) hS6 hget (by omega)) rfl rfl rfl ?_
      rintro _ w7 ⟨rfl, hS7⟩
      have hT7 := hS7.rdR 0 rfl
      refine Ops.nil ?_
      refine thenQ_n ?_
      refine Cd.region ?_
      refine Ops.mv_sl rfl rfl rfl ?_
      refine Ops.mv_int rfl rfl rfl ?_
      refine Ops.mv_sl rfl rfl rfl ?_
      refine Ops.mv_int rfl rfl rfl ?_
      -- stop: INDEXADDR 25 t70 t71 -> 72
      refine Ops.idx hT7.2 rfl rfl rfl (by omega) h2 ?_
      refine Ops.ld_sl hT7 rfl (by omega) rfl rfl ?_
      refine Ops.call (compact0_c (v' + 1) hS7 (by rw [List.getElem?_set, if_pos rfl, if_pos hlt1]) (by omega)) rfl rfl rfl ?_
      rintro _ w8 ⟨rfl, hS8⟩
      rw [List.set_set] at hS8
      have hT8 := hS8.rdR 0 rfl
      refine Ops.idx hT8.2 rfl rfl rfl (by omega) h2 ?_
      refine Ops.st_sl 0 hS8 rfl rfl rfl (by omega) ?_
      intro w9 hS9
      refine Ops.nil ?_
      refine blockQ_n ?_
      refine thenQ_n ?_
      refine Cd.region ?_
      refine Ops.add rfl rfl rfl (by omega) ?_
      refine Ops.mv_int rfl rfl rfl ?_
      refine Ops.nil ?_
      refine thenQ_n ?_
      -- stop: round
      refine ⟨(v' + 1, rs6.set v' ⟨(rg rs6 (v' : Int)).a, (cmpL (srt (gl B (v' : Int)))).length, (rg rs6 (v' : Int)).c⟩), by show vN - (v' + 1) < vN - v'; omega, ⟨rfl, rfl, rfl, trivial⟩, ?_, hv2, by show (rs6.set _ _).length = vN; rw [List.length_set]; exact hrl6⟩
      rw [← hstep, ← mat_updk (by omega) (by omega)]
      exact hS9
    · refine Cd.exit ?_
      refine thenQ_x ?_
      refine thenQ_x ?_
      refine blockQ_x ?_
      refine thenQ_n ?_
      refine Cd.seq ?_
      refine Cd.region ?_
      refine Ops.mv_sl rfl rfl rfl ?_
      refine Ops.mv_sl rfl rfl rfl ?_
      refine Ops.nil ?_
      refine thenQ_n ?_
      refine Cd.ret ?_
      refine ret1_s rfl ?_
      -- stop: end
      have hem : v' = vN := by omega
      subst hem
      refine ⟨A5, rs6, rfl, hrl6, ?_⟩
      rw [List.append_nil]
      exact hS6.sub (List.sublist_append_left _ _)

def nboL (xss : List (List Int)) : List (List Int) := if Grph xss then nbL xss else []
theorem nbo_bd (xss : List (List Int)) : (nboL xss).length ≤ 1000 ∧ ∀ x ∈ nboL xss, x.length ≤ 1000 := by
  unfold nboL
  split
  · rename_i hG
    have hM := hG.1
    have hsm := nb_small hM
    refine ⟨by rw [nbL_len]; omega, fun x hx => ?_⟩
    obtain ⟨k, hk, rfl⟩ := List.mem_iff_getElem.1 hx
    rw [← gl_mem hk]
    have h1 := endsP_row (m := vertsN xss) (ps := arcs (endsL xss) (edgesN xss)) (fun p hp => (arcs_in (fun e => endsL_mem hM e (by omega)) _ p hp).1) (k : Int) (by omega)
    have h2 := arcs_len (endsL xss) (edgesN xss)
    show (gl (endsP _ _) _).length ≤ _
    omega
  · exact ⟨Nat.zero_le _, fun x hx => by cases hx⟩

theorem specNeighboursOf_c (A : Option Addr) (n c : Nat) (rs : List SlV) (xss : List (List Int)) (w : World) (hR : RowsI w A n rs xss) (hn : n ≤ 9223372036854775807) :
    Ret Try.prog 43 [.agg #[.slice A n c]] w (AnsSS (nboL xss) (petrieK xss) w) := by
  have hl := hR.len
  refine Ret.of_cd Try.func43 rfl Try.ntmps43 rfl (post2 rfl) ?_
  refine Cd.seq ?_
  refine Cd.region ?_
  -- stop: BOX 32 t0=m -> 1
  refine Ops.box1 (St.refl w) rfl rfl ?_
  intro Ab w1 hS1
  refine Ops.mv_sl rfl rfl rfl ?_
  refine Ops.mv_int rfl rfl rfl ?_
  refine Ops.nil ?_
  refine thenQ_n ?_
  refine Cd.seq ?_
  refine Cd.seq ?_
  refine Cd.region ?_
  -- stop: LOAD 32 t1=m -> 4
  refine Ops.ld_agg 0 (hS1.rd 0 rfl) rfl rfl rfl ?_
  refine Ops.call (l18Is_c A n c rs xss _ (hS1.oldRows hR) hn) rfl rfl rfl ?_
  rintro _ w2 ⟨rfl, hst⟩
  have hS2 := hS1.later hst.below
  first | refine Ops.not_p rfl rfl ?_ | refine Ops.not rfl rfl ?_
  refine Ops.nil ?_
  refine thenQ_n ?_
  -- stop: cond
  refine Cd.cond_p _ rfl (fun h => ?_) (fun h => ?_)
  · refine Cd.seq ?_
    refine Cd.region ?_
    refine Ops.mv_sl rfl rfl rfl ?_
    refine Ops.mv_int rfl rfl rfl ?_
    refine Ops.nil ?_
    refine thenQ_n ?_
    refine Cd.ret ?_
    refine thenQ_r ?_
    refine ret2_si rfl rfl ?_
    -- stop: end
    rw [petrieK, if_neg h, nboL, if_neg h]
    exact AnsSS.none hS2
  · have hG : Grph xss := Classical.not_not.1 h
    refine Cd.skip ?_
    refine thenQ_n ?_
    refine Cd.seq ?_
    refine Cd.region ?_
    -- stop: LOAD 32 t1=m -> 7
    refine Ops.ld_agg 0 (hS2.rd 0 rfl) rfl rfl rfl ?_
    refine Ops.call (l18Neighbours_c A n c rs xss _ (hS2.oldRows hR) hG) rfl rfl rfl ?_
    rintro _ w3 ⟨A3, rs3, rfl, hrl, hst⟩
    have hS3 := hS2.none.call hst
    refine Ops.mv_sl rfl rfl rfl ?_
    refine Ops.mv_int rfl rfl rfl ?_
    refine Ops.nil ?_
    refine thenQ_n ?_
    refine Cd.ret ?_
    refine ret2_si rfl rfl ?_
    -- stop: end
    rw [petrieK, if_pos hG, nboL, if_pos hG]
    refine ⟨A3, vertsN xss, rs3, by rw [nbL_len], by rw [nbL_len]; exact hrl, ?_⟩
    rw [nbL_len]
    rwa [List.append_nil] at hS3

theorem implNeighboursOf_c (A : Option Addr) (n c : Nat) (rs : List SlV) (xss : List (List Int)) (w : World) (hR : RowsI w A n rs xss) (hn : n ≤ c) (hc : c ≤ 9223372036854775807) :
    Ret Try.prog 44 [.agg #[.slice A n c]] w (AnsSS (nboL xss) (petrieK xss) w) := by
  have hl := hR.len
  refine Ret.of_cd Try.func44 rfl Try.ntmps44 rfl (post2 rfl) ?_
  refine Cd.seq ?_
  refine Cd.region ?_
  -- stop: BOX 32 t0=m -> 1
  refine Ops.box1 (St.refl w) rfl rfl ?_
  intro Ab w1 hS1
  refine Ops.mv_sl rfl rfl rfl ?_
  refine Ops.mv_int rfl rfl rfl ?_
  refine Ops.nil ?_
  refine thenQ_n ?_
  refine Cd.seq ?_
  refine Cd.seq ?_
  refine Cd.region ?_
  -- stop: LOAD 32 t1=m -> 4
  refine Ops.ld_agg 0 (hS1.rd 0 rfl) rfl rfl rfl ?_
  refine Ops.call (isGraphed_c A n c rs xss _ (hS1.oldRows hR) hn hc) rfl rfl rfl ?_
  rintro _ w2 ⟨rfl, hst⟩
  have hS2 := hS1.later hst.below
  first | refine Ops.not_p rfl rfl ?_ | refine Ops.not rfl rfl ?_
  refine Ops.nil ?_
  refine thenQ_n ?_
  -- stop: cond
  refine Cd.cond_p _ rfl (fun h => ?_) (fun h => ?_)
  · refine Cd.seq ?_
    refine Cd.region ?_
    refine Ops.mv_sl rfl rfl rfl ?_
    refine Ops.mv_int rfl rfl rfl ?_
    refine Ops.nil ?_
    refine thenQ_n ?_
    refine Cd.ret ?_
    refine thenQ_r ?_
    refine ret2_si rfl rfl ?_
    -- stop: end
    rw [petrieK, if_neg h, nboL, if_neg h]
    exact AnsSS.none hS2
  · have hG : Grph xss := Classical.not_not.1 h
    refine Cd.skip ?_
    refine thenQ_n ?_
    refine Cd.seq ?_
    refine Cd.region ?_
    -- stop: LOAD 32 t1=m -> 7
    refine Ops.ld_agg 0 (hS2.rd 0 rfl) rfl rfl rfl ?_
    refine Ops.call (neighboursOf_c A n c rs xss _ (hS2.oldRows hR) hG) rfl rfl rfl ?_
    rintro _ w3 ⟨A3, rs3, rfl, hrl, hst⟩
    have hS3 := hS2.none.call hst
    refine Ops.mv_sl rfl rfl rfl ?_
    refine Ops.mv_int rfl rfl rfl ?_
    refine Ops.nil ?_
    refine thenQ_n ?_
    refine Cd.ret ?_
    refine ret2_si rfl rfl ?_
    -- stop: end
    rw [petrieK, if_pos hG, nboL, if_pos hG]
    refine ⟨A3, vertsN xss, rs3, by rw [nbL_len], by rw [nbL_len]; exact hrl, ?_⟩
    rw [nbL_len]
    rwa [List.append_nil] at hS3

end Go.Proofs.Ytpdhjnacnmfbjaa.Vc
/-
  The walks of the lengths of holes and zigzags on both sides. Conditions: as each states them.
-/
namespace Go.Proofs.Ytpdhjnacnmfbjaa.Vc
open Go.RowKit

def holeL (xss : List (List Int)) (j : Int) : List Int := if holeK xss j = 0 then wordL xss (holeW (j - 1).toNat) else []
def zigL (xss : List (List Int)) (j : Int) : List Int := if holeK xss j = 0 then wordL xss (zigW j.toNat) else []

theorem specHoleLengths_c (A : Option Addr) (n c : Nat) (rs : List SlV) (xss : List (List Int)) (j : Int) (w : World) (hR : RowsI w A n rs xss) (hn : n ≤ 9223372036854775807) :
    Ret Try.prog 34 [.agg #[.slice A n c], .int .i64 j] w (AnsR (holeL xss j) (holeK xss j) w) := by
  have hl := hR.len
  refine Ret.of_cd Try.func34 rfl Try.ntmps34 rfl (post2 rfl) ?_
  refine Cd.seq ?_
  refine Cd.region ?_
  -- stop: BOX 32 t0=m -> 2
  refine Ops.box1 (St.refl w) rfl rfl ?_
  intro Ab w1 hS1
  refine Ops.mv_sl rfl rfl rfl ?_
  refine Ops.mv_int rfl rfl rfl ?_
  refine Ops.nil ?_
  refine thenQ_n ?_
  refine Cd.seq ?_
  refine Cd.seq ?_
  refine Cd.region ?_
  -- stop: LOAD 32 t2=m -> 7
  refine Ops.ld_agg 0 (hS1.rd 0 rfl) rfl rfl rfl ?_
  refine Ops.mv_int rfl rfl rfl ?_
  -- stop: CALL spec.l18Number(t7, t8) -> 9
  refine Ops.call (l18Number_c A n c rs xss j _ (hS1.oldRows hR) hn) rfl rfl rfl ?_
  rintro _ w2 ⟨rfl, hst⟩
  have hS2 := hS1.later hst.below
  refine Ops.mv_int rfl rfl rfl ?_
  refine Ops.nil ?_
  refine thenQ_n ?_
  refine Cd.seq ?_
  refine Cd.region ?_
  refine Ops.mv_int rfl rfl rfl ?_
  refine Ops.neq rfl rfl rfl ?_
  refine Ops.nil ?_
  refine thenQ_n ?_
  -- stop: cond
  refine Cd.cond_p _ rfl (fun h => ?_) (fun h => ?_)
  · refine Cd.seq ?_
    refine Cd.region ?_
    refine Ops.mv_int rfl rfl rfl ?_
    refine Ops.mv_sl rfl rfl rfl ?_
    refine Ops.mv_int rfl rfl rfl ?_
    refine Ops.nil ?_
    refine thenQ_n ?_
    refine Cd.ret ?_
    refine thenQ_r ?_
    refine ret2_si rfl rfl ?_
    -- stop: end
    rw [holeL, if_neg h]
    exact AnsR.none hS2
  · have hK : holeK xss j = 0 := Classical.not_not.1 h
    obtain ⟨hG, hj, h3⟩ := holeK_zero hK
    have hMa := hG.1
    have hs := hMa.2.2.1.sys
    have h40 := hMa.2.1
    obtain ⟨k, hk⟩ : ∃ k : Nat, j - 1 = (k : Int) := ⟨(j - 1).toNat, by omega⟩
    have hk16 : k ≤ 15 := by omega
    refine Cd.skip ?_
    refine thenQ_n ?_
    refine Cd.seq ?_
    -- stop: draw
    refine Cd.drawN [8] [.ex (.agg #[.slice A n c]), .pr (fun v w' => ∃ A1, v = .slice A1 1 1 ∧ St w w' [CkI 2 A1 1 1 [0], Bx 32 1 Ab [.slice A n c]]), .pr (fun v w' => ∃ A1, v = .slice A1 2 2 ∧ RdI w' A1 2 [1, 2]), .ex (.int .i64 (j)), .ex (.int .i64 ((k : Int))), .pr (fun v w' => ∃ A1 c1, v = .slice A1 (2 * k) c1 ∧ RdI w' A1 (2 * k) (pow [1, 2] k)), .pr (fun v w' => ∃ A1 c1, v = .slice A1 (1 + 2 * k) c1 ∧ St w w' [CkI 2 A1 (1 + 2 * k) c1 (zigW k), Bx 32 1 Ab [.slice A n c]]), .pr (fun v w' => ∃ A1, v = .slice A1 1 1 ∧ RdI w' A1 1 [1]), .pr (fun v w' => ∃ A1 c1, v = .slice A1 (1 + 2 * k + 1) c1 ∧ St w w' [CkI 2 A1 (1 + 2 * k + 1) c1 (holeW k), Bx 32 1 Ab [.slice A n c]]), .pr (fun v w' => ∃ A1 c1, v = .slice A1 (wordL xss (holeW k)).length c1 ∧ St w w' [CkI 2 A1 (wordL xss (holeW k)).length c1 (wordL xss (holeW k))]), .pr (fun v w' => ∃ A1 c1, v = .slice A1 (wordL xss (holeW k)).length c1 ∧ St w w' [CkI 2 A1 (wordL xss (holeW k)).length c1 (wordL xss (holeW k))]), .ex (.int .i64 ((0 : Int)))] (by kernel_rfl) (by kernel_rfl) (List.forall_mem_cons.2 ⟨Yd.lasts_ex _, (List.forall_mem_cons.2 ⟨Yd.lasts_pr (fun v w w' h hb => by obtain ⟨A1, hv, hT⟩ := h; exact ⟨A1, hv, hT.later hb⟩), (List.forall_mem_cons.2 ⟨Yd.lasts_pr (fun v w w' h hb => by obtain ⟨A1, hv, hT⟩ := h; exact ⟨A1, hv, hT.later hb⟩), (List.forall_mem_cons.2 ⟨Yd.lasts_ex _, (List.forall_mem_cons.2 ⟨Yd.lasts_ex _, (List.forall_mem_cons.2 ⟨Yd.lasts_pr (fun v w w' h hb => by obtain ⟨A1, c1, hv, hT⟩ := h; exact ⟨A1, c1, hv, hT.later hb⟩), (List.forall_mem_cons.2 ⟨Yd.lasts_pr (fun v w w' h hb => by obtain ⟨A1, c1, hv, hT⟩ := h; exact ⟨A1, c1, hv, hT.later hb⟩), (List.forall_mem_cons.2 ⟨Yd.lasts_pr (fun v w w' h hb => by obtain ⟨A1, hv, hT⟩ := h; exact ⟨A1, hv, hT.later hb⟩), (List.forall_mem_cons.2 ⟨Yd.lasts_pr (fun v w w' h hb => by obtain ⟨A1, c1, hv, hT⟩ := h; exact ⟨A1, c1, hv, hT.later hb⟩), (List.forall_mem_cons.2 ⟨Yd.lasts_pr (fun v w w' h hb => by obtain ⟨A1, c1, hv, hT⟩ := h; exact ⟨A1, c1, hv, hT.later hb⟩), (List.forall_mem_cons.2 ⟨Yd.lasts_pr (fun v w w' h hb => by obtain ⟨A1, c1, hv, hT⟩ := h; exact ⟨A1, c1, hv, hT.later hb⟩), (List.forall_mem_cons.2 ⟨Yd.lasts_ex _, (fun _ h => by cases h)⟩)⟩)⟩)⟩)⟩)⟩)⟩)⟩)⟩)⟩)⟩)⟩) ⟨?_, ?_, ?_, ?_, ?_, ?_, ?_, ?_, ?_, ?_, ?_, ?_, trivial⟩ ?_
    · intro e1 w1 cc hlo hhi hb0 hp hun hq
      show Ops _ _ _ _ _ _ _
      have hB : Rd w1 Ab 1 (fun _ => .slice A n c) := by { have hhi := le_of_hi hhi (b := 1) (by kernel_rfl); rcases (show cc = 0 ∨ cc = 1 by omega) with h | h; { exact Rd.one ((hS2.later (hb0 h)).rd 0 rfl) }; { subst h; obtain ⟨A0, c0, _, hT⟩ := hq 8 _ _ (by kernel_rfl) (by kernel_rfl) (by kernel_rfl) rfl rfl (by kernel_rfl); exact Rd.one (hT.rd 1 rfl) } }
      refine Ops.ld_agg 0 hB rfl rfl rfl ?_
      refine Ops.nil ?_
      exact AfterN.dn rfl (Below.refl _ _) (by exact rfl)
    · intro e1 w1 cc hlo hhi hb0 hp hun hq
      show Ops _ _ _ _ _ _ _
      replace hlo := le_of_lo hlo (b := 0) (by kernel_rfl)
      replace hhi := le_of_hi hhi (b := 0) (by kernel_rfl)
      obtain rfl : cc = 0 := by omega
      have hb := hb0 rfl
      refine Ops.bs1I (St.refl _) rfl rfl rfl ?_
      intro A1 w9 hst
      refine Ops.nil ?_
      exact AfterN.dn rfl hst.below ⟨A1, rfl, (hS2.later hb).call hst⟩
    · intro e1 w1 cc hlo hhi hb0 hp hun hq
      show Ops _ _ _ _ _ _ _
      refine Ops.bs2 (St.refl _) rfl rfl rfl rfl rfl rfl ?_
      intro A1 w9 hst
      refine Ops.nil ?_
      exact AfterN.dn rfl hst.below ⟨A1, rfl, (show St _ _ [CkI 2 A1 2 2 [1, 2]] from hst).rdI 0 rfl⟩
    · intro e1 w1 cc hlo hhi hb0 hp hun hq
      show Ops _ _ _ _ _ _ _
      refine Ops.mv_int rfl rfl rfl ?_
      refine Ops.nil ?_
      exact AfterN.dn rfl (Below.refl _ _) (by exact rfl)
    · intro e1 w1 cc hlo hhi hb0 hp hun hq
      show Ops _ _ _ _ _ _ _
      rw [← hk]
      refine Ops.sub rfl rfl rfl (by omega) ?_
      refine Ops.nil ?_
      exact AfterN.dn rfl (Below.refl _ _) (by exact rfl)
    · intro e1 w1 cc hlo hhi hb0 hp hun hq
      show Ops _ _ _ _ _ _ _
      replace hlo := le_of_lo hlo (b := 0) (by kernel_rfl)
      replace hhi := le_of_hi hhi (b := 0) (by kernel_rfl)
      obtain rfl : cc = 0 := by omega
      have hb := hb0 rfl
      obtain ⟨A0, h15, hT0⟩ := (hp 2 _ _ (by kernel_rfl) rfl rfl (by kernel_rfl))
      have hb := hb0 rfl
      refine Ops.call (l11Power_c A0 2 2 [1, 2] k _ hT0 (by omega) (by omega)) rfl (by exact congrArg (fun v => [v, Value.int .i64 (k : Int)]) h15) rfl ?_
      rintro _ w9 ⟨A1, c1, rfl, hst⟩
      refine Ops.nil ?_
      exact AfterN.dn rfl hst.below ⟨A1, c1, rfl, hst.rdI 0 rfl⟩
    · intro e1 w1 cc hlo hhi hb0 hp hun hq
      show Ops _ _ _ _ _ _ _
      replace hlo := le_of_lo hlo (b := 0) (by kernel_rfl)
      replace hhi := le_of_hi hhi (b := 0) (by kernel_rfl)
      obtain rfl : cc = 0 := by omega
      have hb := hb0 rfl
      obtain ⟨A0, h14, hT0⟩ := (hp 1 _ _ (by kernel_rfl) rfl rfl (by kernel_rfl))
      obtain ⟨A2, c2, h18, hT2⟩ := (hp 5 _ _ (by kernel_rfl) rfl rfl (by kernel_rfl))
      have hb := hb0 rfl
      refine Ops.appFI 0 rfl hT0 rfl hT2 (by exact h14) (by exact h18) rfl (by omega) (by omega) rfl ?_
      intro A1 c1 w9 hbl hst
      refine Ops.nil ?_
      exact AfterN.dn rfl hbl ⟨A1, c1, rfl, hst⟩
    · intro e1 w1 cc hlo hhi hb0 hp hun hq
      show Ops _ _ _ _ _ _ _
      refine Ops.bs1I (St.refl _) rfl rfl rfl ?_
      intro A1 w9 hst
      refine Ops.nil ?_
      exact AfterN.dn rfl hst.below ⟨A1, rfl, hst.rdI 0 rfl⟩
    · intro e1 w1 cc hlo hhi hb0 hp hun hq
      show Ops _ _ _ _ _ _ _
      replace hlo := le_of_lo hlo (b := 0) (by kernel_rfl)
      replace hhi := le_of_hi hhi (b := 0) (by kernel_rfl)
      obtain rfl : cc = 0 := by omega
      have hb := hb0 rfl
      obtain ⟨A0, c0, h19, hT0⟩ := (hp 6 _ _ (by kernel_rfl) rfl rfl (by kernel_rfl))
      obtain ⟨A2, h20, hT2⟩ := (hp 7 _ _ (by kernel_rfl) rfl rfl (by kernel_rfl))
      refine Ops.appI 0 hT0 rfl hT2 (by exact h19) (by exact h20) rfl (by omega) (by omega) rfl ?_
      intro A1 c1 w9 hst
      refine Ops.nil ?_
      exact AfterT.dn rfl ⟨A1, c1, rfl, hst⟩
    · intro e1 w1 cc hlo hhi hb0 hp hun hq
      show Ops _ _ _ _ _ _ _
      replace hlo := le_of_lo hlo (b := 1) (by kernel_rfl)
      replace hhi := le_of_hi hhi (b := 1) (by kernel_rfl)
      obtain rfl : cc = 1 := by omega
      have hph := hp 8 _ _ (by kernel_rfl) rfl rfl (by kernel_rfl)
      obtain ⟨A0, c0, h21, hT0⟩ := (hp 8 _ _ (by kernel_rfl) rfl rfl (by kernel_rfl))
      refine Ops.call (l18Lengths_c A n c rs xss (gl xss 0).length A0 _ c0 (holeW k) _ (hT0.oldRows hR) (by omega) rfl (by omega) hs (hT0.rdI 0 rfl) (by omega) (fun i hi => by have := in_gi (holeW_in k) i (by rw [holeW_len]; exact hi); omega)) rfl (by exact congrArg (fun v => [Value.agg #[.slice A n c], v]) h21) rfl ?_
      rintro _ w9 ⟨A1, c1, rfl, hst⟩
      refine Ops.nil ?_
      exact AfterN.dn rfl hst.below ⟨A1, c1, by rw [wordL_len], by rw [wordL_len]; exact (hT0.call hst).sub (List.Sublist.cons_cons _ (List.nil_sublist _))⟩
    · intro e1 w1 cc hlo hhi hb0 hp hun hq
      show Ops _ _ _ _ _ _ _
      replace hlo := le_of_lo hlo (b := 1) (by kernel_rfl)
      replace hhi := le_of_hi hhi (b := 1) (by kernel_rfl)
      obtain rfl : cc = 1 := by omega
      have hph := hp 8 _ _ (by kernel_rfl) rfl rfl (by kernel_rfl)
      obtain ⟨A1, c1, h22, hT⟩ := (hp 9 _ _ (by kernel_rfl) rfl rfl (by kernel_rfl))
      refine Ops.mv_sl rfl (by exact h22) rfl ?_
      refine Ops.nil ?_
      exact AfterN.dn rfl (Below.refl _ _) ⟨A1, c1, rfl, hT⟩
    · intro e1 w1 cc hlo hhi hb0 hp hun hq
      show Ops _ _ _ _ _ _ _
      refine Ops.mv_int rfl rfl rfl ?_
      refine Ops.nil ?_
      exact AfterN.dn rfl (Below.refl _ _) (by exact rfl)
    intro u w9 _ hu
    obtain ⟨A9, c9, h4, hT⟩ := hu 10 _ rfl (by kernel_rfl)
    refine thenQ_n ?_
    refine Cd.ret ?_
    refine ret2_si (by exact h4) rfl ?_
    -- stop: end
    rw [holeL, if_pos hK, hK, hk, Int.toNat_natCast]
    exact ⟨A9, c9, rfl, hT⟩

theorem implHoleLengths_c (A : Option Addr) (n c : Nat) (rs : List SlV) (xss : List (List Int)) (j : Int) (w : World) (hR : RowsI w A n rs xss) (hn : n ≤ c) (hc : c ≤ 9223372036854775807) :
    Ret Try.prog 35 [.agg #[.slice A n c], .int .i64 j] w (AnsR (holeL xss j) (holeK xss j) w) := by
  have hl := hR.len
  refine Ret.of_cd Try.func35 rfl Try.ntmps35 rfl (post2 rfl) ?_
  refine Cd.seq ?_
  refine Cd.region ?_
  -- stop: BOX 32 t0=m -> 2
  refine Ops.box1 (St.refl w) rfl rfl ?_
  intro Ab w1 hS1
  refine Ops.mv_sl rfl rfl rfl ?_
  refine Ops.mv_int rfl rfl rfl ?_
  refine Ops.nil ?_
  refine thenQ_n ?_
  refine Cd.seq ?_
  refine Cd.seq ?_
  refine Cd.region ?_
  -- stop: LOAD 32 t2=m -> 7
  refine Ops.ld_agg 0 (hS1.rd 0 rfl) rfl rfl rfl ?_
  refine Ops.mv_int rfl rfl rfl ?_
  -- stop: CALL impl.holeCode(t7, t8) -> 9
  refine Ops.call (holeCode_c A n c rs xss j _ (hS1.oldRows hR) hn hc) rfl rfl rfl ?_
  rintro _ w2 ⟨rfl, hst⟩
  have hS2 := hS1.later hst.below
  refine Ops.mv_int rfl rfl rfl ?_
  refine Ops.nil ?_
  refine thenQ_n ?_
  refine Cd.seq ?_
  refine Cd.region ?_
  refine Ops.mv_int rfl rfl rfl ?_
  refine Ops.neq rfl rfl rfl ?_
  refine Ops.nil ?_
  refine thenQ_n ?_
  -- stop: cond
  refine Cd.cond_p _ rfl (fun h => ?_) (fun h => ?_)
  · refine Cd.seq ?_
    refine Cd.region ?_
    refine Ops.mv_int rfl rfl rfl ?_
    refine Ops.mv_sl rfl rfl rfl ?_
    refine Ops.mv_int rfl rfl rfl ?_
    refine Ops.nil ?_
    refine thenQ_n ?_
    refine Cd.ret ?_
    refine thenQ_r ?_
    refine ret2_si rfl rfl ?_
    -- stop: end
    rw [holeL, if_neg h]
    exact AnsR.none hS2
  · have hK : holeK xss j = 0 := Classical.not_not.1 h
    obtain ⟨hG, hj, h3⟩ := holeK_zero hK
    have hMa := hG.1
    have hs := hMa.2.2.1.sys
    have h40 := hMa.2.1
    obtain ⟨k, hk⟩ : ∃ k : Nat, j - 1 = (k : Int) := ⟨(j - 1).toNat, by omega⟩
    have hk16 : k ≤ 15 := by omega
    have hw : ∀ i : Nat, i < 1 + 2 * k + 1 → 0 ≤ gi (holeW k) i ∧ gi (holeW k) i < n := fun i hi => by have := in_gi (holeW_in k) i (by rw [holeW_len]; exact hi); omega
    refine Cd.skip ?_
    refine thenQ_n ?_
    refine Cd.seq ?_
    refine Cd.region ?_
    refine Ops.mv_int rfl rfl rfl ?_
    refine Ops.sub rfl rfl rfl (by omega) ?_
    -- stop: CALL impl.zigzagWord(t14) -> 15
    rw [hk]
    refine Ops.call (zigzagWord_c k _ (by omega)) rfl rfl rfl ?_
    rintro _ w3 ⟨A3, c3, rfl, hst⟩
    have hS3 := hS2.call hst
    refine Ops.bs1I hS3 rfl rfl rfl ?_
    intro A4 w4 hS4
    refine Ops.appI 1 hS4 rfl (hS4.rdI 0 rfl) rfl rfl rfl (by omega) (by omega) rfl ?_
    intro A5 c5 w5 hS5
    have hS5 : St w w5 (CkI 2 A5 (1 + 2 * k + 1) c5 (holeW k) :: Bx 32 1 Ab [.slice A n c] :: []) := hS5.tail
    refine Ops.call (does_c Ab A n c rs xss (gl xss 0).length A5 _ c5 (holeW k) _ (Rd.congr (hS5.rd 1 rfl) (fun j hj => by obtain rfl : j = 0 := by { have : j < 1 := hj; omega }; rfl)) (hS5.oldRows hR) (by omega) rfl (by omega) hs (hS5.rdI 0 rfl) (by omega) hw) rfl rfl rfl ?_
    rintro _ w6 ⟨A6, rfl, hst⟩
    have hS6 := hS5.call hst
    refine Ops.call (CycleLengths_c A6 _ _ _ _ (hS6.rdI 0 rfl) (by omega) (does_perm hs hMa.2.2.1.inj (by omega) (fun i hi => by have := holeW_in k i hi; omega))) rfl rfl rfl ?_
    rintro _ w7 ⟨A7, c7, rfl, hst⟩
    have hS7 := hS6.call hst
    refine Ops.extract rfl rfl rfl ?_
    refine Ops.extract rfl rfl rfl ?_
    refine Ops.mv_sl rfl rfl rfl ?_
    refine Ops.mv_int rfl rfl rfl ?_
    refine Ops.nil ?_
    refine thenQ_n ?_
    refine Cd.ret ?_
    refine ret2_si rfl rfl ?_
    -- stop: end
    rw [holeL, if_pos hK, hK, hk, Int.toNat_natCast]
    exact AnsR.word hS7

theorem specZigzagLengths_c (A : Option Addr) (n c : Nat) (rs : List SlV) (xss : List (List Int)) (j : Int) (w : World) (hR : RowsI w A n rs xss) (hn : n ≤ 9223372036854775807) :
    Ret Try.prog 36 [.agg #[.slice A n c], .int .i64 j] w (AnsR (zigL xss j) (holeK xss j) w) := by
  have hl := hR.len
  refine Ret.of_cd Try.func36 rfl Try.ntmps36 rfl (post2 rfl) ?_
  refine Cd.seq ?_
  refine Cd.region ?_
  -- stop: BOX 32 t0=m -> 2
  refine Ops.box1 (St.refl w) rfl rfl ?_
  intro Ab w1 hS1
  refine Ops.mv_sl rfl rfl rfl ?_
  refine Ops.mv_int rfl rfl rfl ?_
  refine Ops.nil ?_
  refine thenQ_n ?_
  refine Cd.seq ?_
  refine Cd.seq ?_
  refine Cd.region ?_
  -- stop: LOAD 32 t2=m -> 7
  refine Ops.ld_agg 0 (hS1.rd 0 rfl) rfl rfl rfl ?_
  refine Ops.mv_int rfl rfl rfl ?_
  -- stop: CALL spec.l18Number(t7, t8) -> 9
  refine Ops.call (l18Number_c A n c rs xss j _ (hS1.oldRows hR) hn) rfl rfl rfl ?_
  rintro _ w2 ⟨rfl, hst⟩
  have hS2 := hS1.later hst.below
  refine Ops.mv_int rfl rfl rfl ?_
  refine Ops.nil ?_
  refine thenQ_n ?_
  refine Cd.seq ?_
  refine Cd.region ?_
  refine Ops.mv_int rfl rfl rfl ?_
  refine Ops.neq rfl rfl rfl ?_
  refine Ops.nil ?_
  refine thenQ_n ?_
  -- stop: cond
  refine Cd.cond_p _ rfl (fun h => ?_) (fun h => ?_)
  · refine Cd.seq ?_
    refine Cd.region ?_
    refine Ops.mv_int rfl rfl rfl ?_
    refine Ops.mv_sl rfl rfl rfl ?_
    refine Ops.mv_int rfl rfl rfl ?_
    refine Ops.nil ?_
    refine thenQ_n ?_
    refine Cd.ret ?_
    refine thenQ_r ?_
    refine ret2_si rfl rfl ?_
    -- stop: end
    rw [zigL, if_neg h]
    exact AnsR.none hS2
  · have hK : holeK xss j = 0 := Classical.not_not.1 h
    obtain ⟨hG, hj, h3⟩ := holeK_zero hK
    have hMa := hG.1
    have hs := hMa.2.2.1.sys
    have h40 := hMa.2.1
    obtain ⟨k, rfl⟩ : ∃ k : Nat, j = (k : Int) := ⟨j.toNat, by omega⟩
    have hk16 : k ≤ 16 := by omega
    refine Cd.skip ?_
    refine thenQ_n ?_
    refine Cd.seq ?_
    -- stop: draw
    refine Cd.drawN [] [.ex (.agg #[.slice (A) (n) (c)]), .pr (fun v w' => ∃ A1, v = .slice A1 1 1 ∧ St w w' [CkI 2 A1 1 1 [0]]), .pr (fun v w' => ∃ A1, v = .slice A1 2 2 ∧ RdI w' A1 2 [1, 2]), .ex (.int .i64 ((k : Int))), .pr (fun v w' => ∃ A1 c1, v = .slice A1 (2 * k) c1 ∧ RdI w' A1 (2 * k) (pow [1, 2] k)), .pr (fun v w' => ∃ A1 c1, v = .slice A1 (1 + 2 * k) c1 ∧ St w w' [CkI 2 A1 (1 + 2 * k) c1 (zigW k)]), .pr (fun v w' => ∃ A1 c1, v = .slice A1 (wordL xss (zigW k)).length c1 ∧ St w w' [CkI 2 A1 (wordL xss (zigW k)).length c1 (wordL xss (zigW k))]), .pr (fun v w' => ∃ A1 c1, v = .slice A1 (wordL xss (zigW k)).length c1 ∧ St w w' [CkI 2 A1 (wordL xss (zigW k)).length c1 (wordL xss (zigW k))]), .ex (.int .i64 ((0 : Int)))] (by kernel_rfl) (by kernel_rfl) (List.forall_mem_cons.2 ⟨Yd.lasts_ex _, (List.forall_mem_cons.2 ⟨Yd.lasts_pr (fun v w w' h hb => by obtain ⟨A1, hv, hT⟩ := h; exact ⟨A1, hv, hT.later hb⟩), (List.forall_mem_cons.2 ⟨Yd.lasts_pr (fun v w w' h hb => by obtain ⟨A1, hv, hT⟩ := h; exact ⟨A1, hv, hT.later hb⟩), (List.forall_mem_cons.2 ⟨Yd.lasts_ex _, (List.forall_mem_cons.2 ⟨Yd.lasts_pr (fun v w w' h hb => by obtain ⟨A1, c1, hv, hT⟩ := h; exact ⟨A1, c1, hv, hT.later hb⟩), (List.forall_mem_cons.2 ⟨Yd.lasts_pr (fun v w w' h hb => by obtain ⟨A1, c1, hv, hT⟩ := h; exact ⟨A1, c1, hv, hT.later hb⟩), (List.forall_mem_cons.2 ⟨Yd.lasts_pr (fun v w w' h hb => by obtain ⟨A1, c1, hv, hT⟩ := h; exact ⟨A1, c1, hv, hT.later hb⟩), (List.forall_mem_cons.2 ⟨Yd.lasts_pr (fun v w w' h hb => by obtain ⟨A1, c1, hv, hT⟩ := h; exact ⟨A1, c1, hv, hT.later hb⟩), (List.forall_mem_cons.2 ⟨Yd.lasts_ex _, (fun _ h => by cases h)⟩)⟩)⟩)⟩)⟩)⟩)⟩)⟩)⟩) ⟨?_, ?_, ?_, ?_, ?_, ?_, ?_, ?_, ?_, trivial⟩ ?_
    · intro e1 w1 cc hlo hhi hb0 hp hun hq
      show Ops _ _ _ _ _ _ _
      replace hlo := le_of_lo hlo (b := 0) (by kernel_rfl)
      replace hhi := le_of_hi hhi (b := 0) (by kernel_rfl)
      obtain rfl : cc = 0 := by omega
      have hb := hb0 rfl
      refine Ops.ld_agg 0 ((hS2.rd 0 rfl).below hb) rfl rfl rfl ?_
      refine Ops.nil ?_
      exact AfterN.dn rfl (Below.refl _ _) (by exact rfl)
    · intro e1 w1 cc hlo hhi hb0 hp hun hq
      show Ops _ _ _ _ _ _ _
      replace hlo := le_of_lo hlo (b := 0) (by kernel_rfl)
      replace hhi := le_of_hi hhi (b := 0) (by kernel_rfl)
      obtain rfl : cc = 0 := by omega
      have hb := hb0 rfl
      refine Ops.bs1I (St.refl _) rfl rfl rfl ?_
      intro A1 w9 hst
      refine Ops.nil ?_
      exact AfterN.dn rfl hst.below ⟨A1, rfl, ((hS2.later hb).call hst).sub (List.Sublist.cons_cons _ (List.nil_sublist _))⟩
    · intro e1 w1 cc hlo hhi hb0 hp hun hq
      show Ops _ _ _ _ _ _ _
      refine Ops.bs2 (St.refl _) rfl rfl rfl rfl rfl rfl ?_
      intro A1 w9 hst
      refine Ops.nil ?_
      exact AfterN.dn rfl hst.below ⟨A1, rfl, (show St _ _ [CkI 2 A1 2 2 [1, 2]] from hst).rdI 0 rfl⟩
    · intro e1 w1 cc hlo hhi hb0 hp hun hq
      show Ops _ _ _ _ _ _ _
      refine Ops.mv_int rfl rfl rfl ?_
      refine Ops.nil ?_
      exact AfterN.dn rfl (Below.refl _ _) (by exact rfl)
    · intro e1 w1 cc hlo hhi hb0 hp hun hq
      show Ops _ _ _ _ _ _ _
      replace hlo := le_of_lo hlo (b := 0) (by kernel_rfl)
      replace hhi := le_of_hi hhi (b := 0) (by kernel_rfl)
      obtain rfl : cc = 0 := by omega
      have hb := hb0 rfl
      obtain ⟨A0, h15, hT0⟩ := (hp 2 _ _ (by kernel_rfl) rfl rfl (by kernel_rfl))
      have hb := hb0 rfl
      refine Ops.call (l11Power_c A0 2 2 [1, 2] k _ hT0 (by omega) (by omega)) rfl (by exact congrArg (fun v => [v, Value.int .i64 (k : Int)]) h15) rfl ?_
      rintro _ w9 ⟨A1, c1, rfl, hst⟩
      refine Ops.nil ?_
      exact AfterN.dn rfl hst.below ⟨A1, c1, rfl, hst.rdI 0 rfl⟩
    · intro e1 w1 cc hlo hhi hb0 hp hun hq
      show Ops _ _ _ _ _ _ _
      replace hlo := le_of_lo hlo (b := 0) (by kernel_rfl)
      replace hhi := le_of_hi hhi (b := 0) (by kernel_rfl)
      obtain rfl : cc = 0 := by omega
      have hb := hb0 rfl
      obtain ⟨A0, h14, hT0⟩ := (hp 1 _ _ (by kernel_rfl) rfl rfl (by kernel_rfl))
      obtain ⟨A2, c2, h17, hT2⟩ := (hp 4 _ _ (by kernel_rfl) rfl rfl (by kernel_rfl))
      have hb := hb0 rfl
      refine Ops.appFI 0 rfl hT0 rfl hT2 (by exact h14) (by exact h17) rfl (by omega) (by omega) rfl ?_
      intro A1 c1 w9 hbl hst
      refine Ops.nil ?_
      exact AfterN.dn rfl hbl ⟨A1, c1, rfl, hst⟩
    · intro e1 w1 cc hlo hhi hb0 hp hun hq
      show Ops _ _ _ _ _ _ _
      replace hlo := le_of_lo hlo (b := 0) (by kernel_rfl)
      replace hhi := le_of_hi hhi (b := 0) (by kernel_rfl)
      obtain rfl : cc = 0 := by omega
      have hb := hb0 rfl
      obtain ⟨A0, c0, h18, hT0⟩ := (hp 5 _ _ (by kernel_rfl) rfl rfl (by kernel_rfl))
      refine Ops.call (l18Lengths_c A n c rs xss (gl xss 0).length A0 _ c0 (zigW k) _ (hT0.oldRows hR) (by omega) rfl (by omega) hs (hT0.rdI 0 rfl) (by omega) (fun i hi => by have := in_gi (zigW_in k) i (by rw [zigW_len]; exact hi); omega)) rfl (by exact congrArg (fun v => [Value.agg #[.slice A n c], v]) h18) rfl ?_
      rintro _ w9 ⟨A1, c1, rfl, hst⟩
      refine Ops.nil ?_
      exact AfterN.dn rfl hst.below ⟨A1, c1, by rw [wordL_len], by rw [wordL_len]; exact (hT0.call hst).sub (List.Sublist.cons_cons _ (List.nil_sublist _))⟩
    · intro e1 w1 cc hlo hhi hb0 hp hun hq
      show Ops _ _ _ _ _ _ _
      replace hlo := le_of_lo hlo (b := 0) (by kernel_rfl)
      replace hhi := le_of_hi hhi (b := 0) (by kernel_rfl)
      obtain rfl : cc = 0 := by omega
      have hb := hb0 rfl
      obtain ⟨A1, c1, h19, hT⟩ := (hp 6 _ _ (by kernel_rfl) rfl rfl (by kernel_rfl))
      refine Ops.mv_sl rfl (by exact h19) rfl ?_
      refine Ops.nil ?_
      exact AfterN.dn rfl (Below.refl _ _) ⟨A1, c1, rfl, hT⟩
    · intro e1 w1 cc hlo hhi hb0 hp hun hq
      show Ops _ _ _ _ _ _ _
      refine Ops.mv_int rfl rfl rfl ?_
      refine Ops.nil ?_
      exact AfterN.dn rfl (Below.refl _ _) (by exact rfl)
    intro u w9 _ hu
    obtain ⟨A9, c9, h4, hT⟩ := hu 7 _ rfl (by kernel_rfl)
    refine thenQ_n ?_
    refine Cd.ret ?_
    refine ret2_si (by exact h4) rfl ?_
    -- stop: end
    rw [zigL, if_pos hK, hK, Int.toNat_natCast]
    exact ⟨A9, c9, rfl, hT⟩

theorem implZigzagLengths_c (A : Option Addr) (n c : Nat) (rs : List SlV) (xss : List (List Int)) (j : Int) (w : World) (hR : RowsI w A n rs xss) (hn : n ≤ c) (hc : c ≤ 9223372036854775807) :
    Ret Try.prog 37 [.agg #[.slice A n c], .int .i64 j] w (AnsR (zigL xss j) (holeK xss j) w) := by
  have hl := hR.len
  refine Ret.of_cd Try.func37 rfl Try.ntmps37 rfl (post2 rfl) ?_
  refine Cd.seq ?_
  refine Cd.region ?_
  -- stop: BOX 32 t0=m -> 2
  refine Ops.box1 (St.refl w) rfl rfl ?_
  intro Ab w1 hS1
  refine Ops.mv_sl rfl rfl rfl ?_
  refine Ops.mv_int rfl rfl rfl ?_
  refine Ops.nil ?_
  refine thenQ_n ?_
  refine Cd.seq ?_
  refine Cd.seq ?_
  refine Cd.region ?_
  -- stop: LOAD 32 t2=m -> 7
  refine Ops.ld_agg 0 (hS1.rd 0 rfl) rfl rfl rfl ?_
  refine Ops.mv_int rfl rfl rfl ?_
  -- stop: CALL impl.holeCode(t7, t8) -> 9
  refine Ops.call (holeCode_c A n c rs xss j _ (hS1.oldRows hR) hn hc) rfl rfl rfl ?_
  rintro _ w2 ⟨rfl, hst⟩
  have hS2 := hS1.later hst.below
  refine Ops.mv_int rfl rfl rfl ?_
  refine Ops.nil ?_
  refine thenQ_n ?_
  refine Cd.seq ?_
  refine Cd.region ?_
  refine Ops.mv_int rfl rfl rfl ?_
  refine Ops.neq rfl rfl rfl ?_
  refine Ops.nil ?_
  refine thenQ_n ?_
  -- stop: cond
  refine Cd.cond_p _ rfl (fun h => ?_) (fun h => ?_)
  · refine Cd.seq ?_
    refine Cd.region ?_
    refine Ops.mv_int rfl rfl rfl ?_
    refine Ops.mv_sl rfl rfl rfl ?_
    refine Ops.mv_int rfl rfl rfl ?_
    refine Ops.nil ?_
    refine thenQ_n ?_
    refine Cd.ret ?_
    refine thenQ_r ?_
    refine ret2_si rfl rfl ?_
    -- stop: end
    rw [zigL, if_neg h]
    exact AnsR.none hS2
  · have hK : holeK xss j = 0 := Classical.not_not.1 h
    obtain ⟨hG, hj, h3⟩ := holeK_zero hK
    have hMa := hG.1
    have hs := hMa.2.2.1.sys
    have h40 := hMa.2.1
    obtain ⟨k, rfl⟩ : ∃ k : Nat, j = (k : Int) := ⟨j.toNat, by omega⟩
    have hk16 : k ≤ 16 := by omega
    have hw : ∀ i : Nat, i < 1 + 2 * k → 0 ≤ gi (zigW k) i ∧ gi (zigW k) i < n := fun i hi => by have := in_gi (zigW_in k) i (by rw [zigW_len]; exact hi); omega
    refine Cd.skip ?_
    refine thenQ_n ?_
    refine Cd.seq ?_
    refine Cd.region ?_
    refine Ops.mv_int rfl rfl rfl ?_
    -- stop: CALL impl.zigzagWord(t13) -> 14
    refine Ops.call (zigzagWord_c k _ (by omega)) rfl rfl rfl ?_
    rintro _ w3 ⟨A3, c3, rfl, hst⟩
    have hS3 := hS2.call hst
    refine Ops.call (does_c Ab A n c rs xss (gl xss 0).length A3 _ c3 (zigW k) _ (Rd.congr (hS3.rd 1 rfl) (fun j hj => by obtain rfl : j = 0 := by { have : j < 1 := hj; omega }; rfl)) (hS3.oldRows hR) (by omega) rfl (by omega) hs (hS3.rdI 0 rfl) (by omega) hw) rfl rfl rfl ?_
    rintro _ w6 ⟨A6, rfl, hst⟩
    have hS6 := hS3.call hst
    refine Ops.call (CycleLengths_c A6 _ _ _ _ (hS6.rdI 0 rfl) (by omega) (does_perm hs hMa.2.2.1.inj (by omega) (fun i hi => by have := zigW_in k i hi; omega))) rfl rfl rfl ?_
    rintro _ w7 ⟨A7, c7, rfl, hst⟩
    have hS7 := hS6.call hst
    refine Ops.extract rfl rfl rfl ?_
    refine Ops.extract rfl rfl rfl ?_
    refine Ops.mv_sl rfl rfl rfl ?_
    refine Ops.mv_int rfl rfl rfl ?_
    refine Ops.nil ?_
    refine thenQ_n ?_
    refine Cd.ret ?_
    refine ret2_si rfl rfl ?_
    -- stop: end
    rw [zigL, if_pos hK, hK, Int.toNat_natCast]
    exact AnsR.word hS7
end Go.Proofs.Ytpdhjnacnmfbjaa.Vc
/-
  The walks of the lengths of a word on both sides. Conditions: as each states them.
-/
namespace Go.Proofs.Ytpdhjnacnmfbjaa.Vc
open Go.RowKit
section
variable {P : Program} {N : Nat} {ops : Array Oper} {K : Env → World → Prop} {rest : List Oper} {e : Env} {w : World} {d : Nat} {ty : TypeId} {pos : String} {af : Array Edge}
theorem Ops.fn2 {F : FuncId} {x y : Operand} {v1 v2 : Value} (hx : ev e x = v1) (hy : ev e y = v2) (hb : Nat.blt d N = true) (hK : Ops P N ops K rest (upd e d (.func (.func F) #[] #[v1, v2])) w) :
    Ops P N ops K (⟨some d, .makeFunc (.func F) #[] #[x, y], ty, pos, af, none⟩ :: rest) e w :=
  .val (by simp [execOp, Instr.makeFunc, hx, hy]) hb hK
end

def allIn (lo hi : Int) (xs : List Int) : Prop := ∀ x ∈ xs, lo ≤ x ∧ x ≤ hi
instance (lo hi : Int) (xs : List Int) : Decidable (allIn lo hi xs) := by unfold allIn; exact inferInstance

theorem areWithin1_c (x lo hi : Int) (P1 P2 : Option Addr) (w : World) (h1 : Rd w P1 1 (fun _ => .int .i64 lo)) (h2 : Rd w P2 1 (fun _ => .int .i64 hi)) :
    Ret Try.prog 119 [.int .i64 x, .pointer P1, .pointer P2] w (fun v w' => v = .bool (decide (¬ (lo ≤ x ∧ x ≤ hi))) ∧ w' = w) := by
  refine Ret.of_cd Try.func119 rfl Try.ntmps119 rfl (post1 rfl) ?_
  refine Cd.seq ?_
  refine Cd.region ?_
  refine Ops.mv_bool rfl rfl rfl ?_
  refine Ops.nil ?_
  refine thenQ_n ?_
  refine Cd.seq ?_
  refine Cd.region ?_
  refine Ops.mv_int rfl rfl rfl ?_
  -- stop: LOAD 2 t1 -> 6
  refine Ops.ld h1 (by exact congrArg Value.pointer (ptrAt_zero P1).symm) (by decide) rfl rfl rfl ?_
  refine Ops.ld h2 (by exact congrArg Value.pointer (ptrAt_zero P2).symm) (by decide) rfl rfl rfl ?_
  refine Ops.call (within_c _ _ _ _) rfl rfl rfl ?_
  rintro _ w ⟨rfl, rfl⟩
  first | refine Ops.not_p rfl rfl ?_ | refine Ops.not rfl rfl ?_
  refine Ops.mv_bool rfl rfl rfl ?_
  refine Ops.nil ?_
  refine thenQ_n ?_
  refine Cd.ret ?_
  refine ret1_b rfl ?_
  -- stop: end
  exact ⟨rfl, rfl⟩

theorem IndexFunc_c (A : Option Addr) (n c : Nat) (xs : List Int) (lo hi : Int) (P1 P2 : Option Addr) (w : World) (hR : RdI w A n xs) (hn : n ≤ 9223372036854775807) (h1 : Rd w P1 1 (fun _ => .int .i64 lo)) (h2 : Rd w P2 1 (fun _ => .int .i64 hi)) :
    Ret Try.prog 141 [.slice A n c, .func (.func 119) #[] #[.pointer P1, .pointer P2]] w (fun v w' => (∃ i : Int, v = .int .i64 i ∧ (0 ≤ i ↔ ¬ allIn lo hi xs)) ∧ w' = w) := by
  have hxl := hR.1
  refine Ret.of_cd Try.func141 rfl Try.ntmps141 rfl (post1 rfl) ?_
  refine Cd.seq ?_
  refine Cd.region ?_
  refine Ops.mv_int rfl rfl rfl ?_
  refine Ops.nil ?_
  refine thenQ_n ?_
  refine Cd.seq ?_
  refine Cd.seq ?_
  refine Cd.region ?_
  refine Ops.mv_sl rfl rfl rfl ?_
  refine Ops.len rfl rfl ?_
  refine Ops.mv_int rfl rfl rfl ?_
  refine Ops.nil ?_
  refine thenQ_n ?_
  refine Cd.block ?_
  -- stop: loop
  refine Cd.loop (α := Nat) (fun k => [(0, .slice A n c), (1, .func (.func 119) #[] #[.pointer P1, .pointer P2]), (7, .int .i64 (n : Int)), (8, .int .i64 (k : Int))]) (fun k w' => w' = w ∧ k ≤ n ∧ ∀ j, j < k → lo ≤ gi xs (j : Nat) ∧ gi xs (j : Nat) ≤ hi) (fun k => n - k) 0 ⟨rfl, rfl, rfl, rfl, trivial⟩ ⟨rfl, Nat.zero_le _, fun j hj => by omega⟩ ?_
  rintro k e w ⟨rfl, hk, hK⟩
  refine Cd.seq ?_
  refine Cd.region ?_
  refine Ops.lss rfl rfl rfl ?_
  refine Ops.nil ?_
  refine thenQ_n ?_
  refine Cd.seq ?_
  -- stop: cond
  refine Cd.cond_p _ rfl (fun h3 => ?_) (fun h3 => ?_)
  · refine Cd.skip ?_
    refine thenQ_n ?_
    refine Cd.seq ?_
    refine Cd.block ?_
    refine Cd.seq ?_
    refine Cd.region ?_
    refine Ops.mv_int rfl rfl rfl ?_
    refine Ops.mv_int rfl rfl rfl ?_
    refine Ops.nil ?_
    refine thenQ_n ?_
    refine Cd.seq ?_
    refine Cd.region ?_
    refine Ops.mv_fn rfl rfl rfl ?_
    refine Ops.mv_sl rfl rfl rfl ?_
    refine Ops.mv_int rfl rfl rfl ?_
    -- stop: INDEXADDR 39 t12 t13 -> 14
    refine Ops.idx hR.2 rfl rfl rfl (by omega) (by omega) ?_
    refine Ops.ld_int hR rfl (by omega) rfl rfl ?_
    refine Ops.call (areWithin1_c _ lo hi P1 P2 _ h1 h2) rfl rfl rfl ?_
    rintro _ w ⟨rfl, rfl⟩
    refine Ops.nil ?_
    refine thenQ_n ?_
    -- stop: cond
    refine Cd.cond_p _ rfl (fun h4 => ?_) (fun h4 => ?_)
    · refine Cd.seq ?_
      refine Cd.region ?_
      refine Ops.mv_int rfl rfl rfl ?_
      refine Ops.mv_int rfl rfl rfl ?_
      refine Ops.nil ?_
      refine thenQ_n ?_
      refine Cd.ret ?_
      refine blockQ_r ?_
      refine thenQ_r ?_
      refine thenQ_r ?_
      refine blockQ_r ?_
      refine thenQ_r ?_
      refine ret1_i rfl ?_
      -- stop: end
      exact ⟨⟨(k : Int), rfl, ⟨fun _ ha => h4 (by rw [gi_mem (by omega)]; exact ha _ (List.getElem_mem _)), fun _ => by omega⟩⟩, rfl⟩
    · refine Cd.skip ?_
      refine blockQ_n ?_
      refine thenQ_n ?_
      refine Cd.region ?_
      refine Ops.add rfl rfl rfl (by omega) ?_
      refine Ops.mv_int rfl rfl rfl ?_
      refine Ops.nil ?_
      refine thenQ_n ?_
      -- stop: round
      refine ⟨k + 1, by show n - (k + 1) < n - k; omega, ⟨rfl, rfl, rfl, rfl, trivial⟩, rfl, by omega, fun j hj => ?_⟩
      by_cases ej : j = k
      · subst ej; exact Classical.not_not.1 h4
      · exact hK j (by omega)
  · refine Cd.exit ?_
    refine thenQ_x ?_
    refine thenQ_x ?_
    refine blockQ_x ?_
    refine thenQ_n ?_
    refine Cd.seq ?_
    refine Cd.region ?_
    refine Ops.mv_int rfl rfl rfl ?_
    refine Ops.nil ?_
    refine thenQ_n ?_
    refine Cd.ret ?_
    refine ret1_i rfl ?_
    -- stop: end
    refine ⟨⟨-1, rfl, ⟨fun h => absurd h (by decide), fun h => absurd (fun x hx => ?_) h⟩⟩, rfl⟩
    obtain ⟨j, hj, rfl⟩ := List.mem_iff_getElem.1 hx
    have := hK j (by omega)
    rwa [gi_mem hj] at this

theorem ContainsFunc_c (A : Option Addr) (n c : Nat) (xs : List Int) (lo hi : Int) (P1 P2 : Option Addr) (w : World) (hR : RdI w A n xs) (hn : n ≤ 9223372036854775807) (h1 : Rd w P1 1 (fun _ => .int .i64 lo)) (h2 : Rd w P2 1 (fun _ => .int .i64 hi)) :
    Ret Try.prog 118 [.slice A n c, .func (.func 119) #[] #[.pointer P1, .pointer P2]] w (fun v w' => v = .bool (decide (¬ allIn lo hi xs)) ∧ w' = w) := by
  refine Ret.of_cd Try.func118 rfl Try.ntmps118 rfl (post1 rfl) ?_
  refine Cd.seq ?_
  refine Cd.region ?_
  refine Ops.mv_bool rfl rfl rfl ?_
  refine Ops.nil ?_
  refine thenQ_n ?_
  refine Cd.seq ?_
  refine Cd.region ?_
  refine Ops.mv_sl rfl rfl rfl ?_
  refine Ops.mv_fn rfl rfl rfl ?_
  -- stop: CALL slices.IndexFunc[[]int64,int64](t5, t6) -> 7
  refine Ops.call (IndexFunc_c A n c xs lo hi P1 P2 _ hR hn h1 h2) rfl rfl rfl ?_
  rintro _ w ⟨⟨i, rfl, hi'⟩, rfl⟩
  refine Ops.geq rfl rfl rfl ?_
  refine Ops.mv_bool rfl rfl rfl ?_
  refine Ops.nil ?_
  refine thenQ_n ?_
  refine Cd.ret ?_
  refine ret1_b rfl ?_
  -- stop: end
  exact ⟨congrArg Value.bool (decide_eq_decide.2 hi'), rfl⟩

theorem areWithin_c (A : Option Addr) (n c : Nat) (xs : List Int) (lo hi : Int) (w : World) (hR : RdI w A n xs) (hn : n ≤ 9223372036854775807) :
    Ret Try.prog 105 [.slice A n c, .int .i64 lo, .int .i64 hi] w (fun v w' => v = .bool (decide (allIn lo hi xs)) ∧ St w w' []) := by
  refine Ret.of_cd Try.func105 rfl Try.ntmps105 rfl (post1 rfl) ?_
  refine Cd.seq ?_
  refine Cd.region ?_
  -- stop: BOX 2 t1=low -> 4
  refine Ops.box (v := .int .i64 lo) (St.refl w) rfl rfl (by show (1 : Nat) ≤ maxLen; simp [maxLen]) ?_
  intro P1 w1 hS1
  have hS1 : St w w1 [Bx 2 1 P1 [.int .i64 lo]] := hS1
  refine Ops.box (v := .int .i64 hi) hS1 rfl rfl (by show (1 : Nat) ≤ maxLen; simp [maxLen]) ?_
  intro P2 w2 hS2
  have hS2 : St w w2 [Bx 2 1 P2 [.int .i64 hi], Bx 2 1 P1 [.int .i64 lo]] := hS2
  refine Ops.mv_bool rfl rfl rfl ?_
  refine Ops.nil ?_
  refine thenQ_n ?_
  refine Cd.seq ?_
  refine Cd.region ?_
  refine Ops.mv_sl rfl rfl rfl ?_
  -- stop: MAKEFUNC impl.areWithin$1 [] [t4=low, t5=high] -> 8
  refine Ops.fn2 rfl rfl rfl ?_
  skip
  -- stop: CALL slices.ContainsFunc[[]int64,int64](t7, t8) -> 9
  refine Ops.call (ContainsFunc_c A n c xs lo hi P1 P2 _ (hS2.oldI hR) hn (Rd.one (hS2.rd 1 rfl)) (Rd.one (hS2.rd 0 rfl))) rfl rfl rfl ?_
  rintro _ w2 ⟨rfl, rfl⟩
  first | refine Ops.not_p rfl rfl ?_ | refine Ops.not rfl rfl ?_
  refine Ops.mv_bool rfl rfl rfl ?_
  refine Ops.nil ?_
  refine thenQ_n ?_
  refine Cd.ret ?_
  refine ret1_b rfl ?_
  -- stop: end
  exact ⟨by simp, hS2.none⟩

/-- a word of n moves -/
def IsW (n : Nat) (ws : List Int) : Prop := allIn 0 ((n : Int) - 1) ws ∧ ws.length ≤ 64
instance (n : Nat) (ws : List Int) : Decidable (IsW n ws) := by unfold IsW; exact inferInstance

theorem l02Word_c (A : Option Addr) (n c : Nat) (Aw : Option Addr) (nw cw : Nat) (ws : List Int) (w : World) (hW : RdI w Aw nw ws) (hnw : nw ≤ 9223372036854775807) (hn : n ≤ 9223372036854775807) :
    Ret Try.prog 69 [.agg #[.slice A n c], .slice Aw nw cw] w (fun v w' => v = .bool (decide (IsW n ws)) ∧ St w w' []) := by
  have hwl := hW.1
  refine Ret.of_cd Try.func69 rfl Try.ntmps69 rfl (post1 rfl) ?_
  refine Cd.seq ?_
  refine Cd.region ?_
  -- stop: BOX 32 t0=m -> 2
  refine Ops.box1 (St.refl w) rfl rfl ?_
  intro Ab w1 hS1
  refine Ops.mv_bool rfl rfl rfl ?_
  refine Ops.nil ?_
  refine thenQ_n ?_
  refine Cd.seq ?_
  refine Cd.seq ?_
  refine Cd.region ?_
  refine Ops.mv_int rfl rfl rfl ?_
  refine Ops.nil ?_
  refine thenQ_n ?_
  refine Cd.block ?_
  -- stop: loop
  refine Cd.loop (α := Nat) (fun k => [(1, .slice Aw nw cw), (2, .pointer Ab), (5, .int .i64 (k : Int))]) (fun k w' => St w w' [Bx 32 1 Ab [.slice A n c]] ∧ k ≤ nw ∧ ∀ j, j < k → 0 ≤ gi ws (j : Nat) ∧ gi ws (j : Nat) ≤ (n : Int) - 1) (fun k => nw - k) 0 ⟨rfl, rfl, rfl, trivial⟩ ⟨hS1, Nat.zero_le _, fun j hj => by omega⟩ ?_
  rintro k e w2 ⟨hS2, hk, hK⟩
  have hW2 := hS2.oldI hW
  refine Cd.seq ?_
  refine Cd.seq ?_
  refine Cd.region ?_
  refine Ops.mv_int rfl rfl rfl ?_
  refine Ops.mv_sl rfl rfl rfl ?_
  refine Ops.len rfl rfl ?_
  refine Ops.lss rfl rfl rfl ?_
  refine Ops.nil ?_
  refine thenQ_n ?_
  -- stop: cond
  refine Cd.cond_p _ rfl (fun h1 => ?_) (fun h1 => ?_)
  · refine Cd.skip ?_
    refine thenQ_n ?_
    refine Cd.seq ?_
    refine Cd.block ?_
    refine Cd.seq ?_
    -- stop: draw
    refine Cd.draw [.ex (.slice (Aw) (nw) (cw)), .ex (.int .i64 ((k : Int))), .ex (.pointer (ptrAt (Aw) ((k : Int)).toNat)), .ex (.int .i64 (gi (ws) ((k : Int)))), .ex (.pointer (ptrAt (Ab) 0)), .ex (.slice (A) (n) (c)), .ex (.int .i64 (((n : Nat) : Int))), .ex (.int .i64 ((((n : Nat) : Int)) - ((1 : Int)))), .ex (.bool (decide (0 ≤ gi ws (k : Int) ∧ gi ws (k : Int) ≤ (n : Int) - 1))), .ex (.bool (decide (¬ (0 ≤ gi ws (k : Int) ∧ gi ws (k : Int) ≤ (n : Int) - 1))))] (by kernel_rfl) (by kernel_rfl) rfl (List.forall_mem_cons.2 ⟨Yd.lasts_ex _, (List.forall_mem_cons.2 ⟨Yd.lasts_ex _, (List.forall_mem_cons.2 ⟨Yd.lasts_ex _, (List.forall_mem_cons.2 ⟨Yd.lasts_ex _, (List.forall_mem_cons.2 ⟨Yd.lasts_ex _, (List.forall_mem_cons.2 ⟨Yd.lasts_ex _, (List.forall_mem_cons.2 ⟨Yd.lasts_ex _, (List.forall_mem_cons.2 ⟨Yd.lasts_ex _, (List.forall_mem_cons.2 ⟨Yd.lasts_ex _, (List.forall_mem_cons.2 ⟨Yd.lasts_ex _, (fun _ h => by cases h)⟩)⟩)⟩)⟩)⟩)⟩)⟩)⟩)⟩)⟩) ⟨?_, ?_, ?_, ?_, ?_, ?_, ?_, ?_, ?_, ?_, trivial⟩ ?_
    · intro e1 w1 hb hp hun
      refine Ops.mv_sl rfl rfl rfl ?_
      refine Ops.nil ?_
      exact After.dn (Below.refl _ _) (by exact rfl)
    · intro e1 w1 hb hp hun
      refine Ops.mv_int rfl rfl rfl ?_
      refine Ops.nil ?_
      exact After.dn (Below.refl _ _) (by exact rfl)
    · intro e1 w1 hb hp hun
      refine Ops.idx (hW2.later hb).2 rfl rfl rfl (by omega) (by omega) ?_
      refine Ops.nil ?_
      exact After.dn (Below.refl _ _) (by exact rfl)
    · intro e1 w1 hb hp hun
      refine Ops.ld_int (hW2.later hb) rfl (by omega) rfl rfl ?_
      refine Ops.nil ?_
      exact After.dn (Below.refl _ _) (by exact rfl)
    · intro e1 w1 hb hp hun
      refine Ops.fld ((hS2.rd 0 rfl).below hb) rfl rfl rfl rfl inferInstance ?_
      refine Ops.nil ?_
      exact After.dn (Below.refl _ _) (by exact rfl)
    · intro e1 w1 hb hp hun
      refine Ops.ldf_s ((hS2.rd 0 rfl).below hb) rfl rfl rfl rfl rfl ?_
      refine Ops.nil ?_
      exact After.dn (Below.refl _ _) (by exact rfl)
    · intro e1 w1 hb hp hun
      refine Ops.len rfl rfl ?_
      refine Ops.nil ?_
      exact After.dn (Below.refl _ _) (by exact rfl)
    · intro e1 w1 hb hp hun
      refine Ops.sub rfl rfl rfl (by omega) ?_
      refine Ops.nil ?_
      exact After.dn (Below.refl _ _) (by exact rfl)
    · intro e1 w1 hb hp hun
      refine Ops.call (l01In_c _ _ _ _) rfl rfl rfl ?_
      rintro _ w2 ⟨rfl, hst⟩
      subst hst
      refine Ops.nil ?_
      exact After.dn (Below.refl _ _) (by exact rfl)
    · intro e1 w1 hb hp hun
      refine Ops.not_p rfl rfl ?_
      refine Ops.nil ?_
      exact After.dn (Below.refl _ _) (by exact rfl)
    intro u w3 hb3 _
    have hS3 := hS2.later hb3
    refine thenQ_n ?_
    -- stop: cond
    refine Cd.cond_p _ rfl (fun h2 => ?_) (fun h2 => ?_)
    · refine Cd.seq ?_
      refine Cd.region ?_
      refine Ops.mv_bool rfl rfl rfl ?_
      refine Ops.nil ?_
      refine thenQ_n ?_
      refine Cd.ret ?_
      refine blockQ_r ?_
      refine thenQ_r ?_
      refine thenQ_r ?_
      refine blockQ_r ?_
      refine thenQ_r ?_
      refine ret1_b rfl ?_
      -- stop: end
      refine ⟨?_, hS3.none⟩
      rw [decide_eq_false (fun hI : IsW n ws => h2 (by rw [gi_mem (by omega)]; exact hI.1 _ (List.getElem_mem _)))]
    · refine Cd.skip ?_
      refine blockQ_n ?_
      refine thenQ_n ?_
      refine Cd.region ?_
      refine Ops.mv_int rfl rfl rfl ?_
      refine Ops.add rfl rfl rfl (by omega) ?_
      refine Ops.mv_int rfl rfl rfl ?_
      refine Ops.nil ?_
      refine thenQ_n ?_
      -- stop: round
      refine ⟨k + 1, by show nw - (k + 1) < nw - k; omega, ⟨rfl, rfl, rfl, trivial⟩, hS3, by omega, fun j hj => ?_⟩
      by_cases ej : j = k
      · subst ej; exact Classical.not_not.1 h2
      · exact hK j (by omega)
  · refine Cd.exit ?_
    refine thenQ_x ?_
    refine thenQ_x ?_
    refine blockQ_x ?_
    refine thenQ_n ?_
    refine Cd.seq ?_
    refine Cd.region ?_
    refine Ops.mv_sl rfl rfl rfl ?_
    refine Ops.len rfl rfl ?_
    refine Ops.leq rfl rfl rfl ?_
    refine Ops.mv_bool rfl rfl rfl ?_
    refine Ops.nil ?_
    refine thenQ_n ?_
    refine Cd.ret ?_
    refine ret1_b rfl ?_
    -- stop: end
    have hall : allIn 0 ((n : Int) - 1) ws := fun x hx => by
      obtain ⟨j, hj, rfl⟩ := List.mem_iff_getElem.1 hx
      have := hK j (by omega)
      rwa [gi_mem hj] at this
    refine ⟨congrArg Value.bool (decide_eq_decide.2 ⟨fun h => ⟨hall, by omega⟩, fun h => by have := h.2; omega⟩), hS2.none⟩

theorem isWord_c (Ab A : Option Addr) (n c : Nat) (Aw : Option Addr) (nw cw : Nat) (ws : List Int) (w : World) (hB : Rd w Ab 1 (fun _ => .slice A n c)) (hW : RdI w Aw nw ws) (hnw : nw ≤ 9223372036854775807) (hn : n ≤ 9223372036854775807) :
    Ret Try.prog 70 [.pointer Ab, .slice Aw nw cw] w (fun v w' => v = .bool (decide (IsW n ws)) ∧ St w w' []) := by
  have hwl := hW.1
  refine Ret.of_cd Try.func70 rfl Try.ntmps70 rfl (post1 rfl) ?_
  refine Cd.seq ?_
  refine Cd.region ?_
  refine Ops.mv_bool rfl rfl rfl ?_
  refine Ops.nil ?_
  refine thenQ_n ?_
  refine Cd.seq ?_
  refine Cd.region ?_
  refine Ops.mv_sl rfl rfl rfl ?_
  refine Ops.len rfl rfl ?_
  refine Ops.leq rfl rfl rfl ?_
  refine Ops.mv_bool rfl rfl rfl ?_
  -- stop: guard 8
  refine Ops.split_p 8 rfl (fun h1 => ?_) (fun h1 => ?_)
  · refine Ops.rung rfl rfl rfl ?_
    refine Ops.mv_sl rfl rfl rfl ?_
    refine Ops.rung rfl rfl rfl ?_
    refine Ops.mv_ptr rfl rfl rfl ?_
    refine Ops.rung rfl rfl rfl ?_
    -- stop: CALL impl.Maniplex).rank(t10) -> 11
    refine Ops.call (rank_c Ab A n c _ _ hB rfl) rfl rfl rfl ?_
    rintro _ w ⟨rfl, rfl⟩
    refine Ops.rung rfl rfl rfl ?_
    refine Ops.sub rfl rfl rfl (by omega) ?_
    refine Ops.rung rfl rfl rfl ?_
    -- stop: CALL impl.areWithin(t9, 0, t12) -> 13
    refine Ops.call (areWithin_c Aw nw cw ws 0 _ _ hW hnw) rfl rfl rfl ?_
    rintro _ w2 ⟨rfl, hst⟩
    refine Ops.pick_t rfl rfl rfl ?_
    refine Ops.mv_bool rfl rfl rfl ?_
    refine Ops.nil ?_
    refine thenQ_n ?_
    refine Cd.ret ?_
    refine ret1_b rfl ?_
    -- stop: end
    exact ⟨by have : ws.length ≤ 64 := by omega
              simp [IsW, this], hst⟩
  · refine Ops.skipg rfl rfl rfl rfl rfl ?_
    refine Ops.skipg rfl rfl rfl rfl rfl ?_
    refine Ops.skipg rfl rfl rfl rfl rfl ?_
    refine Ops.skipg rfl rfl rfl rfl rfl ?_
    refine Ops.skipg rfl rfl rfl rfl rfl ?_
    refine Ops.pick_f rfl rfl rfl ?_
    refine Ops.mv_bool rfl rfl rfl ?_
    refine Ops.nil ?_
    refine thenQ_n ?_
    refine Cd.ret ?_
    refine ret1_b rfl ?_
    -- stop: end
    exact ⟨by have : ¬ ws.length ≤ 64 := by omega
              simp [IsW, this], St.refl _⟩

def lowK (xss : List (List Int)) (ws : List Int) : Int := if ¬ Grph xss then 1 else if ¬ IsW xss.length ws then 2 else 0
def lowL (xss : List (List Int)) (ws : List Int) : List Int := if Grph xss ∧ IsW xss.length ws then wordL xss ws else []

theorem specLengthsOfWord_c (A : Option Addr) (n c : Nat) (rs : List SlV) (xss : List (List Int)) (Aw : Option Addr) (nw cw : Nat) (ws : List Int) (w : World) (hR : RowsI w A n rs xss) (hn : n ≤ 9223372036854775807) (hW : RdI w Aw nw ws) (hnw : nw ≤ 9223372036854775807) :
    Ret Try.prog 31 [.agg #[.slice A n c], .slice Aw nw cw] w (AnsR (lowL xss ws) (lowK xss ws) w) := by
  have hl := hR.len
  have hwl := hW.1
  refine Ret.of_cd Try.func31 rfl Try.ntmps31 rfl (post2 rfl) ?_
  refine Cd.seq ?_
  refine Cd.region ?_
  -- stop: BOX 32 t0=m -> 2
  refine Ops.box1 (St.refl w) rfl rfl ?_
  intro Ab w1 hS1
  refine Ops.mv_sl rfl rfl rfl ?_
  refine Ops.mv_int rfl rfl rfl ?_
  refine Ops.nil ?_
  refine thenQ_n ?_
  refine Cd.seq ?_
  refine Cd.block ?_
  refine Cd.seq ?_
  refine Cd.region ?_
  -- stop: LOAD 32 t2=m -> 7
  refine Ops.ld_agg 0 (hS1.rd 0 rfl) rfl rfl rfl ?_
  refine Ops.call (l18Is_c A n c rs xss _ (hS1.oldRows hR) hn) rfl rfl rfl ?_
  rintro _ w2 ⟨rfl, hst⟩
  have hS2 := hS1.later hst.below
  first | refine Ops.not_p rfl rfl ?_ | refine Ops.not rfl rfl ?_
  refine Ops.mv_bool rfl rfl rfl ?_
  refine Ops.nil ?_
  refine thenQ_n ?_
  -- stop: cond
  refine Cd.cond_p _ rfl (fun h => ?_) (fun h => ?_)
  · refine Cd.seq ?_
    refine Cd.region ?_
    refine Ops.mv_sl rfl rfl rfl ?_
    refine Ops.mv_int rfl rfl rfl ?_
    refine Ops.nil ?_
    refine thenQ_n ?_
    refine Cd.ret ?_
    refine blockQ_r ?_
    refine thenQ_r ?_
    refine ret2_si rfl rfl ?_
    -- stop: end
    rw [lowK, if_pos h, lowL, if_neg (fun h2 => h h2.1)]
    exact AnsR.none hS2
  · have hG : Grph xss := Classical.not_not.1 h
    refine Cd.seq ?_
    refine Cd.region ?_
    -- stop: LOAD 32 t2=m -> 11
    refine Ops.ld_agg 0 (hS2.rd 0 rfl) rfl rfl rfl ?_
    refine Ops.mv_sl rfl rfl rfl ?_
    -- stop: CALL spec.l02Word(t11, t12) -> 13
    refine Ops.call (l02Word_c A n c Aw nw cw ws _ (hS2.oldI hW) hnw hn) rfl rfl rfl ?_
    rintro _ w3 ⟨rfl, hst⟩
    have hS3 := hS2.later hst.below
    first | refine Ops.not_p rfl rfl ?_ | refine Ops.not rfl rfl ?_
    refine Ops.mv_bool rfl rfl rfl ?_
    refine Ops.nil ?_
    refine thenQ_n ?_
    -- stop: cond
    refine Cd.cond_p _ rfl (fun h2 => ?_) (fun h2 => ?_)
    · refine Cd.seq ?_
      refine Cd.region ?_
      refine Ops.mv_sl rfl rfl rfl ?_
      refine Ops.mv_int rfl rfl rfl ?_
      refine Ops.nil ?_
      refine thenQ_n ?_
      refine Cd.ret ?_
      refine blockQ_r ?_
      refine thenQ_r ?_
      refine ret2_si rfl rfl ?_
      -- stop: end
      rw [lowK, if_neg h, if_pos (by rw [hl]; exact h2), lowL, if_neg (fun h3 => h2 (by rw [← hl]; exact h3.2))]
      exact AnsR.none hS3
    · have hI : IsW n ws := Classical.not_not.1 h2
      have hMa := hG.1
      have hs := hMa.2.2.1.sys
      have h40 := hMa.2.1
      have h5 := hMa.1
      refine Cd.skip ?_
      refine blockQ_n ?_
      refine thenQ_n ?_
      refine Cd.seq ?_
      refine Cd.region ?_
      -- stop: LOAD 32 t2=m -> 15
      refine Ops.ld_agg 0 (hS3.rd 0 rfl) rfl rfl rfl ?_
      refine Ops.mv_sl rfl rfl rfl ?_
      -- stop: CALL spec.l18Lengths(t15, t16) -> 17
      refine Ops.call (l18Lengths_c A n c rs xss (gl xss 0).length Aw nw cw ws _ (hS3.oldRows hR) (by omega) rfl (by omega) hs (hS3.oldI hW) hnw (fun k hk => by have := hI.1 (gi ws k) (by rw [gi_mem (by omega)]; exact List.getElem_mem _); omega)) rfl rfl rfl ?_
      rintro _ w4 ⟨A9, c9, rfl, hst⟩
      have hS4 := hS3.call hst
      refine Ops.mv_sl rfl rfl rfl ?_
      refine Ops.mv_int rfl rfl rfl ?_
      refine Ops.nil ?_
      refine thenQ_n ?_
      refine Cd.ret ?_
      refine ret2_si rfl rfl ?_
      -- stop: end
      rw [lowK, if_neg h, if_neg (by rw [hl]; exact h2), lowL, if_pos ⟨hG, by rw [hl]; exact hI⟩]
      exact AnsR.word hS4

theorem implLengthsOfWord_c (A : Option Addr) (n c : Nat) (rs : List SlV) (xss : List (List Int)) (Aw : Option Addr) (nw cw : Nat) (ws : List Int) (w : World) (hR : RowsI w A n rs xss) (hn : n ≤ c) (hc : c ≤ 9223372036854775807) (hW : RdI w Aw nw ws) (hnw : nw ≤ 9223372036854775807) :
    Ret Try.prog 33 [.agg #[.slice A n c], .slice Aw nw cw] w (AnsR (lowL xss ws) (lowK xss ws) w) := by
  have hl := hR.len
  have hwl := hW.1
  refine Ret.of_cd Try.func33 rfl Try.ntmps33 rfl (post2 rfl) ?_
  refine Cd.seq ?_
  refine Cd.region ?_
  -- stop: BOX 32 t0=m -> 2
  refine Ops.box1 (St.refl w) rfl rfl ?_
  intro Ab w1 hS1
  refine Ops.mv_sl rfl rfl rfl ?_
  refine Ops.mv_int rfl rfl rfl ?_
  refine Ops.nil ?_
  refine thenQ_n ?_
  refine Cd.seq ?_
  refine Cd.block ?_
  refine Cd.seq ?_
  refine Cd.region ?_
  -- stop: LOAD 32 t2=m -> 7
  refine Ops.ld_agg 0 (hS1.rd 0 rfl) rfl rfl rfl ?_
  refine Ops.call (isGraphed_c A n c rs xss _ (hS1.oldRows hR) hn hc) rfl rfl rfl ?_
  rintro _ w2 ⟨rfl, hst⟩
  have hS2 := hS1.later hst.below
  first | refine Ops.not_p rfl rfl ?_ | refine Ops.not rfl rfl ?_
  refine Ops.mv_bool rfl rfl rfl ?_
  refine Ops.nil ?_
  refine thenQ_n ?_
  -- stop: cond
  refine Cd.cond_p _ rfl (fun h => ?_) (fun h => ?_)
  · refine Cd.seq ?_
    refine Cd.region ?_
    refine Ops.mv_sl rfl rfl rfl ?_
    refine Ops.mv_int rfl rfl rfl ?_
    refine Ops.nil ?_
    refine thenQ_n ?_
    refine Cd.ret ?_
    refine blockQ_r ?_
    refine thenQ_r ?_
    refine ret2_si rfl rfl ?_
    -- stop: end
    rw [lowK, if_pos h, lowL, if_neg (fun h2 => h h2.1)]
    exact AnsR.none hS2
  · have hG : Grph xss := Classical.not_not.1 h
    refine Cd.seq ?_
    refine Cd.region ?_
    refine Ops.mv_sl rfl rfl rfl ?_
    -- stop: CALL impl.Maniplex).isWord(t2=m, t11) -> 12
    refine Ops.call (isWord_c Ab A n c Aw nw cw ws _ (Rd.one (hS2.rd 0 rfl)) (hS2.oldI hW) hnw (by omega)) rfl rfl rfl ?_
    rintro _ w3 ⟨rfl, hst⟩
    have hS3 := hS2.later hst.below
    first | refine Ops.not_p rfl rfl ?_ | refine Ops.not rfl rfl ?_
    refine Ops.mv_bool rfl rfl rfl ?_
    refine Ops.nil ?_
    refine thenQ_n ?_
    -- stop: cond
    refine Cd.cond_p _ rfl (fun h2 => ?_) (fun h2 => ?_)
    · refine Cd.seq ?_
      refine Cd.region ?_
      refine Ops.mv_sl rfl rfl rfl ?_
      refine Ops.mv_int rfl rfl rfl ?_
      refine Ops.nil ?_
      refine thenQ_n ?_
      refine Cd.ret ?_
      refine blockQ_r ?_
      refine thenQ_r ?_
      refine ret2_si rfl rfl ?_
      -- stop: end
      rw [lowK, if_neg h, if_pos (by rw [hl]; exact h2), lowL, if_neg (fun h3 => h2 (by rw [← hl]; exact h3.2))]
      exact AnsR.none hS3
    · have hI : IsW n ws := Classical.not_not.1 h2
      have hMa := hG.1
      have hs := hMa.2.2.1.sys
      have h40 := hMa.2.1
      have h5 := hMa.1
      have hw : ∀ k : Nat, k < nw → 0 ≤ gi ws k ∧ gi ws k < n := fun k hk => by have := hI.1 (gi ws k) (by rw [gi_mem (by omega)]; exact List.getElem_mem _); omega
      refine Cd.skip ?_
      refine blockQ_n ?_
      refine thenQ_n ?_
      refine Cd.seq ?_
      refine Cd.region ?_
      refine Ops.mv_sl rfl rfl rfl ?_
      -- stop: CALL impl.Maniplex).does(t2=m, t14) -> 15
      refine Ops.call (does_c Ab A n c rs xss (gl xss 0).length Aw nw cw ws _ (Rd.one (hS3.rd 0 rfl)) (hS3.oldRows hR) (by omega) rfl (by omega) hs (hS3.oldI hW) hnw hw) rfl rfl rfl ?_
      rintro _ w6 ⟨A6, rfl, hst⟩
      have hS6 := hS3.call hst
      refine Ops.call (CycleLengths_c A6 _ _ _ _ (hS6.rdI 0 rfl) (by omega) (does_perm hs hMa.2.2.1.inj (by omega) (fun i hi => by have := hI.1 i hi; omega))) rfl rfl rfl ?_
      rintro _ w7 ⟨A7, c7, rfl, hst⟩
      have hS7 := hS6.call hst
      refine Ops.extract rfl rfl rfl ?_
      refine Ops.extract rfl rfl rfl ?_
      refine Ops.mv_sl rfl rfl rfl ?_
      refine Ops.mv_int rfl rfl rfl ?_
      refine Ops.nil ?_
      refine thenQ_n ?_
      refine Cd.ret ?_
      refine ret2_si rfl rfl ?_
      -- stop: end
      rw [lowK, if_neg h, if_neg (by rw [hl]; exact h2), lowL, if_pos ⟨hG, by rw [hl]; exact hI⟩]
      exact AnsR.word hS7
end Go.Proofs.Ytpdhjnacnmfbjaa.Vc
/-
  Distances in a graph: the search, and the walks of it on both sides. Conditions: as each states them.
-/
namespace Go.Proofs.Ytpdhjnacnmfbjaa.Vc
open Go.RowKit

/-- one neighbour met: the distances, and the queue -/
def stepB (wo u : Int) (st : List Int × List Int) (x : Int) : List Int × List Int := if gi st.1 x < 0 ∧ x ≠ wo then (st.1.set x.toNat (gi st.1 u + 1), st.2 ++ [x]) else st
def rowB (wo u : Int) (r : List Int) (st : List Int × List Int) : List Int × List Int := r.foldl (stepB wo u) st
theorem rowB_snoc (wo u : Int) (r : List Int) (x : Int) (st : List Int × List Int) : rowB wo u (r ++ [x]) st = stepB wo u (rowB wo u r st) x := by simp [rowB, List.foldl_append]
def bfsD (next : List (List Int)) (wo : Int) : Nat → Nat → List Int × List Int → List Int × List Int
  | 0, _, st => st
  | f + 1, i, st => if i < st.2.length then bfsD next wo f (i + 1) (rowB wo (gi st.2 (i : Int)) (gl next (gi st.2 (i : Int))) st) else st
theorem bfsD_go {next : List (List Int)} {wo : Int} {f i : Nat} {st : List Int × List Int} (hi : i < st.2.length) (hf : 0 < f) : bfsD next wo f i st = bfsD next wo (f - 1) (i + 1) (rowB wo (gi st.2 (i : Int)) (gl next (gi st.2 (i : Int))) st) := by
  obtain ⟨g, rfl⟩ : ∃ g, f = g + 1 := ⟨f - 1, by omega⟩
  rw [bfsD, if_pos hi]; rfl
theorem bfsD_end {next : List (List Int)} {wo : Int} {f i : Nat} {st : List Int × List Int} (hi : ¬ i < st.2.length) : bfsD next wo f i st = st := by
  cases f with
  | zero => rfl
  | succ f => rw [bfsD, if_neg hi]
def initB (n : Nat) (v : Int) : List Int × List Int := ((List.replicate n (-1)).set v.toNat 0, [v])
def distP (next : List (List Int)) (wo v : Int) : List Int × List Int := bfsD next wo (next.length + 1) 0 (initB next.length v)

structure BF (n : Nat) (st : List Int × List Int) : Prop where
  len : st.1.length = n
  rng : ∀ x ∈ st.2, 0 ≤ x ∧ x < n
  cnt : st.2.length + unl st.1 = n
  val : ∀ x ∈ st.1, -1 ≤ x ∧ x < st.2.length
  pos : ∀ x ∈ st.2, 0 ≤ gi st.1 x
theorem gi_in2 {l : List Int} {x : Int} (h0 : 0 ≤ x) (h1 : x < l.length) : gi l x ∈ l := by
  obtain ⟨k, rfl⟩ : ∃ k : Nat, x = k := ⟨x.toNat, by omega⟩
  exact gi_in (by omega)
theorem gi_setI {l : List Int} {i : Nat} {v : Int} {x : Int} (hi : i < l.length) (hx : 0 ≤ x) : gi (l.set i v) x = if (i : Int) = x then v else gi l x := by
  obtain ⟨k, rfl⟩ : ∃ k : Nat, x = k := ⟨x.toNat, by omega⟩
  simp only [gi, Int.toNat_natCast, List.getD_eq_getElem?_getD, List.getElem?_set]
  by_cases h : i = k
  · subst h; rw [if_pos rfl, if_pos hi, if_pos rfl]; rfl
  · rw [if_neg h, if_neg (by omega)]
theorem BF.step {n : Nat} {st : List Int × List Int} (h : BF n st) {wo u x : Int} (hu : u ∈ st.2) (h0 : 0 ≤ x) (h1 : x < n) : BF n (stepB wo u st x) ∧ st.2 <+: (stepB wo u st x).2 := by
  unfold stepB
  split
  · rename_i hx
    have hlen := h.len
    have hxn : x.toNat < st.1.length := by omega
    have hgu := h.pos u hu
    have hur := h.rng u hu
    have hgu2 := h.val _ (gi_in2 hur.1 (by omega))
    have hunl := unl_set (L := st.1) (x := x) (c := gi st.1 u + 1) h0 (by omega) hx.1 (by omega)
    have hcnt := h.cnt
    refine ⟨⟨by simp [h.len], fun y hy => ?_, by simp; omega, fun y hy => ?_, fun y hy => ?_⟩, List.prefix_append _ _⟩
    · rcases List.mem_append.1 hy with hy | hy
      · exact h.rng y hy
      · simp at hy; subst hy; exact ⟨h0, h1⟩
    · rw [List.length_append, List.length_singleton]
      rcases List.mem_or_eq_of_mem_set hy with hy | rfl
      · have := h.val y hy; omega
      · omega
    · have hy0 : 0 ≤ y := by
        rcases List.mem_append.1 hy with hy | hy
        · exact (h.rng y hy).1
        · simp at hy; omega
      rw [gi_setI hxn hy0]
      split
      · omega
      · rename_i hne
        rcases List.mem_append.1 hy with hy | hy
        · exact h.pos y hy
        · simp at hy; omega
  · exact ⟨h, List.prefix_rfl⟩
theorem BF.row {n : Nat} {wo u : Int} (r : List Int) : ∀ {st : List Int × List Int}, BF n st → u ∈ st.2 → (∀ x ∈ r, 0 ≤ x ∧ x < n) → BF n (rowB wo u r st) ∧ st.2 <+: (rowB wo u r st).2 := by
  induction r using snoc_ind with
  | h0 => intro st h _ _; exact ⟨h, List.prefix_rfl⟩
  | h1 l a ih =>
    intro st h hu hr
    obtain ⟨h1, h2⟩ := ih h hu (fun x hx => hr x (by simp [hx]))
    have ha := hr a (by simp)
    rw [rowB_snoc]
    obtain ⟨h3, h4⟩ := h1.step (wo := wo) (h2.subset hu) ha.1 ha.2
    exact ⟨h3, h2.trans h4⟩
theorem BF.len2 {n : Nat} {st : List Int × List Int} (h : BF n st) : st.2.length ≤ n := by have := h.cnt; omega
theorem BF.init {n : Nat} {v : Int} (h0 : 0 ≤ v) (h1 : v < n) : BF n (initB n v) := by
  have hu : unl (List.replicate n (-1)) = n := by
    unfold unl
    rw [List.countP_replicate]
    simp
  have hs := unl_set (L := List.replicate n (-1)) (x := v) (c := 0) h0 (by simp; exact h1) (by rw [gi_rep h0 h1]; omega) (by omega)
  refine ⟨by simp [initB], fun x hx => ?_, ?_, fun x hx => ?_, fun x hx => ?_⟩
  · simp [initB] at hx; subst hx; exact ⟨h0, h1⟩
  · show 1 + unl ((List.replicate n (-1)).set v.toNat 0) = n; omega
  · have hx : x ∈ (List.replicate n (-1)).set v.toNat 0 := hx
    show -1 ≤ x ∧ x < ((1 : Nat) : Int)
    rcases List.mem_or_eq_of_mem_set hx with hx | rfl
    · have := (List.mem_replicate.1 hx).2; omega
    · omega
  · simp [initB] at hx; subst hx
    show 0 ≤ gi ((List.replicate n (-1)).set x.toNat 0) x
    rw [gi_setI (by simp; omega) h0, if_pos (by omega)]
    exact Int.le_refl _
/-- a graph's lists -/
structure Gr (n : Nat) (next : List (List Int)) : Prop where
  len : next.length = n
  small : n ≤ 400
  row : ∀ u : Int, 0 ≤ u → (∀ x ∈ gl next u, 0 ≤ x ∧ x < n) ∧ (gl next u).length ≤ 1000

theorem l18Distances_c (A : Option Addr) (n c : Nat) (rs : List SlV) (next : List (List Int)) (v wo : Int) (w : World) (hR : RowsI w A n rs next) (hg : Gr n next) (h0 : 0 ≤ v) (h1 : v < n) :
    Ret Try.prog 79 [.slice A n c, .int .i64 v, .int .i64 wo] w (fun r w' => ∃ A', r = .slice A' n n ∧ St w w' [CkI 2 A' n n (distP next wo v).1]) := by
  have hl := hg.len
  have hsm := hg.small
  refine Ret.of_cd Try.func79 rfl Try.ntmps79 rfl (post1 rfl) ?_
  refine Cd.seq ?_
  refine Cd.region ?_
  refine Ops.mv_sl rfl rfl rfl ?_
  refine Ops.nil ?_
  refine thenQ_n ?_
  refine Cd.seq ?_
  refine Cd.region ?_
  refine Ops.mv_sl rfl rfl rfl ?_
  refine Ops.len rfl rfl ?_
  -- stop: MAKESLICE 39 t15 t15 -> 16
  refine Ops.mkI n (St.refl w) rfl rfl (by omega) ?_
  intro A7 w1 hS1
  refine Ops.mv_sl rfl rfl rfl ?_
  refine Ops.nil ?_
  refine thenQ_n ?_
  refine Cd.seq ?_
  refine Cd.seq ?_
  refine Cd.region ?_
  refine Ops.mv_int rfl rfl rfl ?_
  refine Ops.nil ?_
  refine thenQ_n ?_
  refine Cd.block ?_
  -- stop: loop
  refine Cd.loop (α := Nat × List Int) (fun z => [(0, .slice A n c), (1, .int .i64 v), (2, .int .i64 wo), (7, .slice A7 n n), (8, .int .i64 (z.1 : Int))]) (fun z w' => St w w' [CkI 2 A7 n n z.2] ∧ z.1 ≤ n ∧ z.2.length = n ∧ ∀ j, j < z.1 → z.2[j]? = some (-1)) (fun z => n - z.1) (0, List.replicate n 0) ⟨rfl, rfl, rfl, rfl, rfl, trivial⟩ ⟨hS1, Nat.zero_le _, by simp, fun j hj => by omega⟩ ?_
  rintro ⟨k, l⟩ e w2 ⟨hS2, hk, hll, hK⟩
  dsimp only at hS2 hk hll hK ⊢
  refine Cd.seq ?_
  refine Cd.seq ?_
  refine Cd.region ?_
  refine Ops.mv_int rfl rfl rfl ?_
  refine Ops.mv_sl rfl rfl rfl ?_
  refine Ops.len rfl rfl ?_
  refine Ops.lss rfl rfl rfl ?_
  refine Ops.nil ?_
  refine thenQ_n ?_
  -- stop: cond
  refine Cd.cond_p _ rfl (fun h2 => ?_) (fun h2 => ?_)
  · refine Cd.skip ?_
    refine thenQ_n ?_
    refine Cd.seq ?_
    refine Cd.block ?_
    refine Cd.region ?_
    refine Ops.mv_sl rfl rfl rfl ?_
    refine Ops.mv_int rfl rfl rfl ?_
    -- stop: INDEXADDR 39 t23 t24 -> 25
    refine Ops.idx (hS2.rdI 0 rfl).2 rfl rfl rfl (by omega) (by omega) ?_
    refine Ops.st_int 0 hS2 rfl rfl rfl (by omega) ?_
    intro w3 hS3
    refine Ops.nil ?_
    refine blockQ_n ?_
    refine thenQ_n ?_
    refine Cd.region ?_
    refine Ops.mv_int rfl rfl rfl ?_
    refine Ops.add rfl rfl rfl (by omega) ?_
    refine Ops.mv_int rfl rfl rfl ?_
    refine Ops.nil ?_
    refine thenQ_n ?_
    -- stop: round
    refine ⟨(k + 1, l.set k (-1)), by show n - (k + 1) < n - k; omega, ⟨rfl, rfl, rfl, rfl, rfl, trivial⟩, hS3, by show k + 1 ≤ n; omega, by show (l.set k _).length = n; rw [List.length_set]; exact hll, fun j hj => ?_⟩
    show (l.set k (-1))[j]? = _
    rw [List.getElem?_set]
    by_cases ej : k = j
    · subst ej; rw [if_pos rfl, if_pos (by omega)]
    · rw [if_neg ej]; exact hK j (by have : j < k + 1 := hj; omega)
  · refine Cd.exit ?_
    refine thenQ_x ?_
    refine thenQ_x ?_
    refine blockQ_x ?_
    refine thenQ_n ?_
    refine Cd.seq ?_
    refine Cd.region ?_
    refine Ops.mv_sl rfl rfl rfl ?_
    refine Ops.mv_int rfl rfl rfl ?_
    -- stop: INDEXADDR 39 t26 t27 -> 28
    have hkn : k = n := by omega
    subst hkn
    have he : l = List.replicate k (-1) := by
      apply List.ext_getElem?
      intro j
      by_cases hj : j < k
      · rw [hK j hj]; simp [hj]
      · rw [List.getElem?_eq_none (by omega), List.getElem?_eq_none (by simp; omega)]
    subst he
    refine Ops.idx (hS2.rdI 0 rfl).2 rfl rfl rfl h0 h1 ?_
    refine Ops.st_int 0 hS2 rfl rfl rfl (by omega) ?_
    intro w3 hS3
    refine Ops.nil ?_
    refine thenQ_n ?_
    refine Cd.seq ?_
    refine Cd.region ?_
    refine Ops.mv_int rfl rfl rfl ?_
    -- stop: BUILDSLICE 39 1 [('pair', [0, ('app', 'Go.Operand.tmp', [29])])] -> 30
    refine Ops.bs1I hS3 rfl rfl rfl ?_
    intro A9 w4 hS4
    have hS4 : St w w4 [CkI 2 A9 (initB k v).2.length 1 (initB k v).2, CkI 2 A7 k k (initB k v).1] := hS4
    have hfin : distP next wo v = bfsD next wo (k + 1 - 0) 0 (initB k v) := by unfold distP; rw [hl]; rfl
    refine Ops.mv_sl rfl rfl rfl ?_
    refine Ops.nil ?_
    refine thenQ_n ?_
    refine Cd.seq ?_
    refine Cd.seq ?_
    refine Cd.region ?_
    refine Ops.mv_int rfl rfl rfl ?_
    refine Ops.nil ?_
    refine thenQ_n ?_
    refine Cd.block ?_
    -- stop: loop
    refine Cd.loop (α := Nat × Option Addr × Nat × (List Int × List Int)) (fun z => [(0, .slice A k c), (2, .int .i64 wo), (7, .slice A7 k k), (9, .slice z.2.1 z.2.2.2.2.length z.2.2.1), (10, .int .i64 (z.1 : Int))])
      (fun z w' => St w w' [CkI 2 z.2.1 z.2.2.2.2.length z.2.2.1 z.2.2.2.2, CkI 2 A7 k k z.2.2.2.1] ∧ BF k z.2.2.2 ∧ z.1 ≤ z.2.2.2.2.length ∧ distP next wo v = bfsD next wo (k + 1 - z.1) z.1 z.2.2.2)
      (fun z => k + 1 - z.1) (0, A9, 1, initB k v) ⟨rfl, rfl, rfl, rfl, rfl, trivial⟩ ⟨hS4, BF.init h0 h1, Nat.zero_le _, hfin⟩ ?_
    rintro ⟨i, A10, c10, st⟩ e w5 ⟨hS5, hB, hi, hD⟩
    dsimp only at hS5 hB hi hD ⊢
    have hql := hB.len2
    refine Cd.seq ?_
    refine Cd.seq ?_
    refine Cd.region ?_
    refine Ops.mv_int rfl rfl rfl ?_
    refine Ops.mv_sl rfl rfl rfl ?_
    refine Ops.len rfl rfl ?_
    refine Ops.lss rfl rfl rfl ?_
    refine Ops.nil ?_
    refine thenQ_n ?_
    -- stop: cond
    refine Cd.cond_p _ rfl (fun h3 => ?_) (fun h3 => ?_)
    · have hi' : i < st.2.length := by omega
      have hQ := hS5.rdI 0 rfl
      have hum : gi st.2 (i : Int) ∈ st.2 := gi_in hi'
      have hur := hB.rng _ hum
      have hrow := hg.row (gi st.2 (i : Int)) hur.1
      rw [bfsD_go hi' (by omega)] at hD
      refine Cd.skip ?_
      refine thenQ_n ?_
      refine Cd.seq ?_
      refine Cd.block ?_
      refine Cd.seq ?_
      refine Cd.region ?_
      refine Ops.mv_sl rfl rfl rfl ?_
      refine Ops.mv_int rfl rfl rfl ?_
      -- stop: INDEXADDR 39 t37 t38 -> 39
      refine Ops.idx hQ.2 rfl rfl rfl (by omega) (by omega) ?_
      refine Ops.ld_int hQ rfl (by omega) rfl rfl ?_
      refine Ops.mv_int rfl rfl rfl ?_
      refine Ops.nil ?_
      refine thenQ_n ?_
      refine Cd.seq ?_
      refine Cd.region ?_
      refine Ops.mv_int rfl rfl rfl ?_
      refine Ops.nil ?_
      refine thenQ_n ?_
      refine Cd.block ?_
      -- stop: loop
      generalize hu : gi st.2 (i : Int) = u at *
      have hnr : (gl next u).length = (rg rs u).n := hR.rowLen hur.1 hur.2
      refine Cd.loop (α := Nat × Option Addr × Nat × (List Int × List Int)) (fun z => [(0, .slice A k c), (2, .int .i64 wo), (7, .slice A7 k k), (9, .slice z.2.1 z.2.2.2.2.length z.2.2.1), (10, .int .i64 (i : Int)), (11, .int .i64 u), (12, .int .i64 (z.1 : Int))])
        (fun z w' => St w w' [CkI 2 z.2.1 z.2.2.2.2.length z.2.2.1 z.2.2.2.2, CkI 2 A7 k k z.2.2.2.1] ∧ z.1 ≤ (gl next u).length ∧ z.2.2.2 = rowB wo u ((gl next u).take z.1) st)
        (fun z => (gl next u).length - z.1) (0, A10, c10, st) ⟨rfl, rfl, rfl, rfl, rfl, rfl, rfl, trivial⟩ ⟨hS5, Nat.zero_le _, rfl⟩ ?_
      rintro ⟨j, A11, c11, sj⟩ e w6 ⟨hS6, hj, hsj⟩
      dsimp only at hS6 hj hsj ⊢
      obtain ⟨hBj, hpre⟩ := BF.row (wo := wo) ((gl next u).take j) hB hum (fun x hx => hrow.1 x (List.mem_of_mem_take hx))
      rw [← hsj] at hBj hpre
      have hR6 := hS6.oldRows hR
      have hqj := hBj.len2
      have hlj := hBj.len
      refine Cd.seq ?_
      refine Cd.seq ?_
      refine Cd.region ?_
      refine Ops.mv_int rfl rfl rfl ?_
      refine Ops.mv_sl rfl rfl rfl ?_
      refine Ops.mv_int rfl rfl rfl ?_
      -- stop: INDEXADDR 25 t42 t43 -> 44
      refine Ops.idx hR6.top.2 rfl rfl rfl hur.1 hur.2 ?_
      refine Ops.ld_sl hR6.top rfl (by omega) rfl rfl ?_
      refine Ops.len rfl rfl ?_
      refine Ops.lss rfl rfl rfl ?_
      refine Ops.nil ?_
      refine thenQ_n ?_
      -- stop: cond
      refine Cd.cond_p _ rfl (fun h4 => ?_) (fun h4 => ?_)
      · have hj' : j < (gl next u).length := by omega
        have hrowR := hR6.at_ (i := u) hur.1 hur.2
        have hxm : gi (gl next u) (j : Int) ∈ gl next u := gi_in hj'
        have hx := hrow.1 _ hxm
        have hstep : rowB wo u ((gl next u).take (j + 1)) st = stepB wo u sj (gi (gl next u) (j : Int)) := by rw [take_succ_gi hj', rowB_snoc, ← hsj]
        have hO := hS6.rdI 1 rfl
        have hgu := hBj.val _ (gi_in2 (l := sj.1) hur.1 (by omega))
        generalize hxe : gi (gl next u) (j : Int) = x at *
        refine Cd.skip ?_
        refine thenQ_n ?_
        refine Cd.seq ?_
        refine Cd.block ?_
        refine Cd.seq ?_
        refine Cd.region ?_
        refine Ops.mv_sl rfl rfl rfl ?_
        refine Ops.mv_int rfl rfl rfl ?_
        -- stop: INDEXADDR 25 t50 t51 -> 52
        refine Ops.idx hR6.top.2 rfl rfl rfl hur.1 hur.2 ?_
        refine Ops.ld_sl hR6.top rfl (by omega) rfl rfl ?_
        refine Ops.mv_int rfl rfl rfl ?_
        -- stop: INDEXADDR 39 t53 t54 -> 55
        refine Ops.idx hrowR.2 rfl rfl rfl (by omega) (by omega) ?_
        refine Ops.ld_int hrowR rfl (by omega) rfl rfl ?_
        rw [hxe]
        refine Ops.mv_int rfl rfl rfl ?_
        refine Ops.nil ?_
        refine thenQ_n ?_
        refine Cd.seq ?_
        refine Cd.region ?_
        refine Ops.mv_sl rfl rfl rfl ?_
        refine Ops.mv_int rfl rfl rfl ?_
        -- stop: INDEXADDR 39 t57 t58 -> 59
        refine Ops.idx hO.2 rfl rfl rfl hx.1 hx.2 ?_
        refine Ops.ld_int hO rfl (by omega) rfl rfl ?_
        refine Ops.lss rfl rfl rfl ?_
        refine Ops.mv_bool rfl rfl rfl ?_
        -- stop: guard 62
        refine Ops.split_p 62 rfl (fun h5 => ?_) (fun h5 => ?_)
        · refine Ops.rung rfl rfl rfl ?_
          refine Ops.mv_int rfl rfl rfl ?_
          refine Ops.rung rfl rfl rfl ?_
          refine Ops.mv_int rfl rfl rfl ?_
          refine Ops.rung rfl rfl rfl ?_
          refine Ops.neq rfl rfl rfl ?_
          refine Ops.pick_t rfl rfl rfl ?_
          refine Ops.nil ?_
          refine thenQ_n ?_
          -- stop: cond
          refine Cd.cond_p _ rfl (fun h6 => ?_) (fun h6 => ?_)
          · have hst : stepB wo u sj x = (sj.1.set x.toNat (gi sj.1 u + 1), sj.2 ++ [x]) := by unfold stepB; rw [if_pos ⟨h5, h6⟩]
            refine Cd.seq ?_
            refine Cd.region ?_
            refine Ops.mv_sl rfl rfl rfl ?_
            refine Ops.mv_int rfl rfl rfl ?_
            refine Ops.mv_sl rfl rfl rfl ?_
            refine Ops.mv_int rfl rfl rfl ?_
            -- stop: INDEXADDR 39 t69 t70 -> 71
            refine Ops.idx hO.2 rfl rfl rfl hur.1 hur.2 ?_
            refine Ops.ld_int hO rfl (by omega) rfl rfl ?_
            refine Ops.add rfl rfl rfl (by omega) ?_
            -- stop: INDEXADDR 39 t67 t68 -> 74
            refine Ops.idx hO.2 rfl rfl rfl hx.1 hx.2 ?_
            refine Ops.st_int 1 hS6 rfl rfl rfl (by omega) ?_
            intro w7 hS7
            refine Ops.nil ?_
            refine thenQ_n ?_
            refine Cd.region ?_
            refine Ops.mv_sl rfl rfl rfl ?_
            refine Ops.mv_int rfl rfl rfl ?_
            -- stop: BUILDSLICE 39 1 [('pair', [0, ('app', 'Go.Operand.tmp', [76])])] -> 77
            refine Ops.bs1I hS7 rfl rfl rfl ?_
            intro A12 w8 hS8
            refine Ops.appI 1 hS8 rfl (hS8.rdI 0 rfl) rfl rfl rfl (by omega) (by omega) rfl ?_
            intro A13 c13 w9 hS9
            refine Ops.mv_sl rfl rfl rfl ?_
            refine Ops.nil ?_
            refine blockQ_n ?_
            refine thenQ_n ?_
            refine Cd.region ?_
            refine Ops.mv_int rfl rfl rfl ?_
            refine Ops.add rfl rfl rfl (by omega) ?_
            refine Ops.mv_int rfl rfl rfl ?_
            refine Ops.nil ?_
            refine thenQ_n ?_
            -- stop: round
            have e2 : (sj.2 ++ [x]).length = sj.2.length + 1 := by simp
            refine ⟨(j + 1, A13, c13, stepB wo u sj x), by show _ - (j + 1) < _ - j; omega, ⟨rfl, rfl, rfl, by show Value.slice _ _ _ = .slice _ _ _; rw [hst]; show Value.slice _ _ _ = .slice _ (sj.2 ++ [x]).length _; rw [e2], rfl, rfl, rfl, trivial⟩, ?_, hj', hstep.symm⟩
            show St w w9 [CkI _ A13 (stepB wo u sj x).2.length c13 (stepB wo u sj x).2, CkI _ A7 k k (stepB wo u sj x).1]
            rw [hst]
            show St w w9 [CkI _ A13 (sj.2 ++ [x]).length c13 (sj.2 ++ [x]), CkI _ A7 k k (sj.1.set x.toNat (gi sj.1 u + 1))]
            rw [e2]
            exact hS9.tail
          · have hst : stepB wo u sj x = sj := by unfold stepB; rw [if_neg (fun h => h6 h.2)]
            rw [hst] at hstep
            refine Cd.skip ?_
            refine blockQ_n ?_
            refine thenQ_n ?_
            refine Cd.region ?_
            refine Ops.mv_int rfl rfl rfl ?_
            refine Ops.add rfl rfl rfl (by omega) ?_
            refine Ops.mv_int rfl rfl rfl ?_
            refine Ops.nil ?_
            refine thenQ_n ?_
            -- stop: round
            exact ⟨(j + 1, A11, c11, sj), by show _ - (j + 1) < _ - j; omega, ⟨rfl, rfl, rfl, rfl, rfl, rfl, rfl, trivial⟩, hS6, hj', hstep.symm⟩
        · have hst : stepB wo u sj x = sj := by unfold stepB; rw [if_neg (fun h => h5 h.1)]
          rw [hst] at hstep
          refine Ops.skipg rfl rfl rfl rfl rfl ?_
          refine Ops.skipg rfl rfl rfl rfl rfl ?_
          refine Ops.skipg rfl rfl rfl rfl rfl ?_
          refine Ops.pick_f rfl rfl rfl ?_
          refine Ops.nil ?_
          refine thenQ_n ?_
          -- stop: cond
          refine Cd.cond_f rfl ?_
          refine Cd.skip ?_
          refine blockQ_n ?_
          refine thenQ_n ?_
          refine Cd.region ?_
          refine Ops.mv_int rfl rfl rfl ?_
          refine Ops.add rfl rfl rfl (by omega) ?_
          refine Ops.mv_int rfl rfl rfl ?_
          refine Ops.nil ?_
          refine thenQ_n ?_
          -- stop: round
          exact ⟨(j + 1, A11, c11, sj), by show _ - (j + 1) < _ - j; omega, ⟨rfl, rfl, rfl, rfl, rfl, rfl, rfl, trivial⟩, hS6, hj', hstep.symm⟩
      · refine Cd.exit ?_
        refine thenQ_x ?_
        refine thenQ_x ?_
        refine blockQ_x ?_
        refine blockQ_n ?_
        refine thenQ_n ?_
        refine Cd.region ?_
        refine Ops.mv_int rfl rfl rfl ?_
        refine Ops.add rfl rfl rfl (by omega) ?_
        refine Ops.mv_int rfl rfl rfl ?_
        refine Ops.nil ?_
        refine thenQ_n ?_
        -- stop: round
        have hje : j = (gl next u).length := by omega
        subst hje
        rw [List.take_length] at hsj
        rw [← hsj] at hD
        exact ⟨(i + 1, A11, c11, sj), by show k + 1 - (i + 1) < k + 1 - i; omega, ⟨rfl, rfl, rfl, rfl, rfl, trivial⟩, hS6, hBj, by show i + 1 ≤ sj.2.length; have := hpre.length_le; omega, by show distP next wo v = bfsD next wo (k + 1 - (i + 1)) (i + 1) sj; rw [hD]; congr 1⟩
    · refine Cd.exit ?_
      refine thenQ_x ?_
      refine thenQ_x ?_
      refine blockQ_x ?_
      refine thenQ_n ?_
      refine Cd.seq ?_
      refine Cd.region ?_
      refine Ops.mv_sl rfl rfl rfl ?_
      refine Ops.mv_sl rfl rfl rfl ?_
      refine Ops.nil ?_
      refine thenQ_n ?_
      refine Cd.ret ?_
      refine ret1_s rfl ?_
      -- stop: end
      rw [bfsD_end (by omega)] at hD
      rw [hD]
      exact ⟨A7, rfl, hS5.tail⟩
end Go.Proofs.Ytpdhjnacnmfbjaa.Vc
/-
  Distances and what is reached: the program's walks. Conditions: as each states them.
-/
namespace Go.Proofs.Ytpdhjnacnmfbjaa.Vc
open Go.RowKit

theorem gi_drop (l : List Int) (i : Nat) : gi (l.drop i) 0 = gi l (i : Int) := by simp [gi, List.getD_eq_getElem?_getD, List.getElem?_drop]
/-- a list of one's own, cut at its head -/
theorem St.cutl {w0 w : World} {ks : List Ck} {i : Nat} {t : TypeId} {A : Option Addr} {n c l : Nat} {xs : List Int} (hS : St w0 w ks) (hk : ks[i]? = some (CkI t A n c xs)) (hl : l ≤ n) : St w0 w (ks.set i (CkI t (cutAt A c l) (n - l) (c - l) (xs.drop l))) := by
  have hxl := hS.lenI i hk
  obtain ⟨h1, h2, h3, h4⟩ := hS.get hk
  have h2 : n ≤ c := h2
  have h3 : c ≤ maxLen := h3
  rcases h4 with ⟨hA, hc0⟩ | ⟨g, o, cur, hA, hg, hh, hs, hc⟩
  · have hA : A = Option.none := hA
    have hc0 : c = 0 := hc0
    subst hA hc0
    obtain rfl : n = 0 := by omega
    obtain rfl : l = 0 := by omega
    obtain rfl := List.eq_nil_of_length_eq_zero hxl
    have e : cutAt Option.none 0 0 = Option.none := rfl
    rw [e]
    show St w0 w (ks.set i (CkI t Option.none 0 0 []))
    rw [set_id hk]
    exact hS
  · have hA : A = some ⟨g, o, Option.none⟩ := hA
    have hs : o + c ≤ cur.size := hs
    have hh : w.heap[g]? = some (.cells cur t (0, 0)) := hh
    have hc : ∀ j, j < n → cur[o + j]? = (xs.map (Value.int .i64))[j]? := hc
    subst hA
    have hcut : ∃ o', cutAt (some ⟨g, o, Option.none⟩) c l = some ⟨g, o', Option.none⟩ ∧ o' + (c - l) ≤ cur.size ∧ (0 < n - l → o' = o + l) := by
      unfold cutAt
      split
      · exact ⟨o, rfl, by omega, fun h => by omega⟩
      · exact ⟨o + l, by simp [ptrAt, add_none], by omega, fun _ => rfl⟩
    obtain ⟨o', e1, e2, e3⟩ := hcut
    refine hS.turn hk rfl (by simp [Ck.blk, e1]) ⟨rfl, rfl, rfl, Nat.le_refl _, fun _ _ _ => rfl⟩ ⟨by simp [hxl], by show n - l ≤ c - l; omega, by show c - l ≤ maxLen; omega, .inr ⟨g, o', cur, e1, hg, hh, e2, fun j hj => ?_⟩⟩
    have hj : j < n - l := hj
    show cur[o' + j]? = ((xs.drop l).map (Value.int .i64))[j]?
    rw [e3 (Nat.zero_lt_of_lt hj), Nat.add_assoc, hc (l + j) (Nat.add_lt_of_lt_sub' hj)]
    simp [List.getElem?_drop]

theorem graphDistances_c (A : Option Addr) (n c : Nat) (rs : List SlV) (next : List (List Int)) (v : Int) (w : World) (hR : RowsI w A n rs next) (hg : Gr n next) (h0 : 0 ≤ v) (h1 : v < n) :
    Ret Try.prog 83 [.slice A n c, .int .i64 v] w (fun r w' => ∃ A', r = .slice A' n n ∧ St w w' [CkI 2 A' n n (distP next (-1) v).1]) := by
  have hl := hg.len
  have hsm := hg.small
  refine Ret.of_cd Try.func83 rfl Try.ntmps83 rfl (post1 rfl) ?_
  refine Cd.seq ?_
  refine Cd.region ?_
  refine Ops.mv_sl rfl rfl rfl ?_
  refine Ops.nil ?_
  refine thenQ_n ?_
  refine Cd.seq ?_
  refine Cd.region ?_
  -- stop: BUILDSLICE 39 1 [('pair', [0, ('app', 'Go.Operand.const', [('app', 'Go.Value.int', ['Go.IntKind.i64', -1])])])] -> 9
  refine Ops.bs1I (St.refl w) rfl rfl rfl ?_
  intro A1 w1 hS1
  refine Ops.mv_sl rfl rfl rfl ?_
  refine Ops.len rfl rfl ?_
  -- stop: CALL slices.Repeat[[]int64,int64](t9, t11) -> 12
  refine Ops.call (Repeat_c A1 1 (-1) n _ (hS1.rdI 0 rfl) (by omega)) rfl rfl rfl ?_
  rintro _ w2 ⟨A5, rfl, hst⟩
  have hS2 := (hS1.call hst).sub (List.Sublist.cons_cons _ (List.nil_sublist _))
  refine Ops.mv_sl rfl rfl rfl ?_
  refine Ops.nil ?_
  refine thenQ_n ?_
  refine Cd.seq ?_
  refine Cd.region ?_
  refine Ops.mv_sl rfl rfl rfl ?_
  refine Ops.mv_int rfl rfl rfl ?_
  -- stop: INDEXADDR 39 t13 t14 -> 15
  refine Ops.idx (hS2.rdI 0 rfl).2 rfl rfl rfl h0 h1 ?_
  refine Ops.st_int 0 hS2 rfl rfl rfl (by omega) ?_
  intro w3 hS3
  refine Ops.nil ?_
  refine thenQ_n ?_
  refine Cd.seq ?_
  refine Cd.seq ?_
  refine Cd.region ?_
  refine Ops.mv_int rfl rfl rfl ?_
  -- stop: BUILDSLICE 39 1 [('pair', [0, ('app', 'Go.Operand.tmp', [16])])] -> 17
  refine Ops.bs1I hS3 rfl rfl rfl ?_
  intro A6 w4 hS4
  have hS4 : St w w4 [CkI 2 A6 ((initB n v).2.length - 0) 1 ((initB n v).2.drop 0), CkI 2 A5 n n (initB n v).1] := hS4
  have hfin : distP next (-1) v = bfsD next (-1) (n + 1 - 0) 0 (initB n v) := by unfold distP; rw [hl]; rfl
  refine Ops.mv_sl rfl rfl rfl ?_
  refine Ops.nil ?_
  refine thenQ_n ?_
  refine Cd.block ?_
  -- stop: loop
  refine Cd.loop (α := Nat × Option Addr × Nat × (List Int × List Int)) (fun z => [(0, .slice A n c), (5, .slice A5 n n), (6, .slice z.2.1 (z.2.2.2.2.length - z.1) z.2.2.1)])
    (fun z w' => St w w' [CkI 2 z.2.1 (z.2.2.2.2.length - z.1) z.2.2.1 (z.2.2.2.2.drop z.1), CkI 2 A5 n n z.2.2.2.1] ∧ BF n z.2.2.2 ∧ z.1 ≤ z.2.2.2.2.length ∧ distP next (-1) v = bfsD next (-1) (n + 1 - z.1) z.1 z.2.2.2)
    (fun z => n + 1 - z.1) (0, A6, 1, initB n v) ⟨rfl, rfl, rfl, trivial⟩ ⟨hS4, BF.init h0 h1, Nat.zero_le _, hfin⟩ ?_
  rintro ⟨i, A10, c10, st⟩ e w5 ⟨hS5, hB, hi, hD⟩
  dsimp only at hS5 hB hi hD ⊢
  have hql := hB.len2
  refine Cd.seq ?_
  refine Cd.seq ?_
  refine Cd.region ?_
  refine Ops.mv_sl rfl rfl rfl ?_
  refine Ops.len rfl rfl ?_
  refine Ops.gtr rfl rfl rfl ?_
  refine Ops.nil ?_
  refine thenQ_n ?_
  -- stop: cond
  refine Cd.cond_p _ rfl (fun h3 => ?_) (fun h3 => ?_)
  · have hi' : i < st.2.length := by omega
    have hQ := hS5.rdI 0 rfl
    have hum : gi st.2 (i : Int) ∈ st.2 := gi_in hi'
    have hur := hB.rng _ hum
    have hrow := hg.row (gi st.2 (i : Int)) hur.1
    have hR5 := hS5.oldRows hR
    rw [bfsD_go hi' (by omega)] at hD
    refine Cd.skip ?_
    refine thenQ_n ?_
    refine Cd.seq ?_
    refine Cd.block ?_
    refine Cd.seq ?_
    refine Cd.region ?_
    refine Ops.mv_sl rfl rfl rfl ?_
    refine Ops.mv_sl rfl rfl rfl ?_
    -- stop: INDEXADDR 39 t24 0 -> 25
    refine Ops.idx hQ.2 rfl rfl rfl (by omega) (by omega) ?_
    refine Ops.ld_int hQ rfl (by omega) rfl rfl ?_
    rw [gi_drop]
    generalize hu : gi st.2 (i : Int) = u at *
    have hnr : (gl next u).length = (rg rs u).n := hR.rowLen hur.1 hur.2
    refine Ops.idx hR5.top.2 rfl rfl rfl hur.1 hur.2 ?_
    refine Ops.ld_sl hR5.top rfl (by omega) rfl rfl ?_
    refine Ops.len rfl rfl ?_
    refine Ops.mv_int rfl rfl rfl ?_
    refine Ops.nil ?_
    refine thenQ_n ?_
    refine Cd.block ?_
    -- stop: loop
    refine Cd.loop (α := Nat × Option Addr × Nat × (List Int × List Int)) (fun z => [(0, .slice A n c), (5, .slice A5 n n), (6, .slice z.2.1 (z.2.2.2.2.length - i) z.2.2.1), (28, .slice (rg rs u).a (rg rs u).n (rg rs u).c), (29, .int .i64 ((rg rs u).n : Int)), (30, .int .i64 (z.1 : Int))])
      (fun z w' => St w w' [CkI 2 z.2.1 (z.2.2.2.2.length - i) z.2.2.1 (z.2.2.2.2.drop i), CkI 2 A5 n n z.2.2.2.1] ∧ z.1 ≤ (gl next u).length ∧ z.2.2.2 = rowB (-1) u ((gl next u).take z.1) st)
      (fun z => (gl next u).length - z.1) (0, A10, c10, st) ⟨rfl, rfl, rfl, rfl, rfl, rfl, trivial⟩ ⟨hS5, Nat.zero_le _, rfl⟩ ?_
    rintro ⟨j, A11, c11, sj⟩ e w6 ⟨hS6, hj, hsj⟩
    dsimp only at hS6 hj hsj ⊢
    obtain ⟨hBj, hpre⟩ := BF.row (wo := -1) ((gl next u).take j) hB hum (fun x hx => hrow.1 x (List.mem_of_mem_take hx))
    rw [← hsj] at hBj hpre
    have hR6 := hS6.oldRows hR
    have hqj := hBj.len2
    have hlj := hBj.len
    have hpl := hpre.length_le
    have hui : gi sj.2 (i : Int) = u := by rw [← hu]; exact gi_prefix hpre hi'
    refine Cd.seq ?_
    refine Cd.region ?_
    refine Ops.lss rfl rfl rfl ?_
    refine Ops.nil ?_
    refine thenQ_n ?_
    refine Cd.seq ?_
    -- stop: cond
    refine Cd.cond_p _ rfl (fun h4 => ?_) (fun h4 => ?_)
    · have hj' : j < (gl next u).length := by omega
      have hrowR := hR6.at_ (i := u) hur.1 hur.2
      have hxm : gi (gl next u) (j : Int) ∈ gl next u := gi_in hj'
      have hx := hrow.1 _ hxm
      have hstep : rowB (-1) u ((gl next u).take (j + 1)) st = stepB (-1) u sj (gi (gl next u) (j : Int)) := by rw [take_succ_gi hj', rowB_snoc, ← hsj]
      have hO := hS6.rdI 1 rfl
      have hQj := hS6.rdI 0 rfl
      have hgu := hBj.val _ (gi_in2 (l := sj.1) hur.1 (by omega))
      refine Cd.skip ?_
      refine thenQ_n ?_
      refine Cd.seq ?_
      refine Cd.block ?_
      refine Cd.seq ?_
      refine Cd.region ?_
      -- stop: INDEXADDR 39 t28 t30 -> 32
      refine Ops.idx hrowR.2 rfl rfl rfl (by omega) (by omega) ?_
      refine Ops.ld_int hrowR rfl (by omega) rfl rfl ?_
      generalize hxe : gi (gl next u) (j : Int) = x at *
      refine Ops.mv_int rfl rfl rfl ?_
      refine Ops.nil ?_
      refine thenQ_n ?_
      refine Cd.seq ?_
      refine Cd.region ?_
      refine Ops.mv_sl rfl rfl rfl ?_
      refine Ops.mv_int rfl rfl rfl ?_
      -- stop: INDEXADDR 39 t34 t35 -> 36
      refine Ops.idx hO.2 rfl rfl rfl hx.1 hx.2 ?_
      refine Ops.ld_int hO rfl (by omega) rfl rfl ?_
      refine Ops.lss rfl rfl rfl ?_
      refine Ops.nil ?_
      refine thenQ_n ?_
      -- stop: cond
      refine Cd.cond_p _ rfl (fun h5 => ?_) (fun h5 => ?_)
      · have hst : stepB (-1) u sj x = (sj.1.set x.toNat (gi sj.1 u + 1), sj.2 ++ [x]) := by unfold stepB; rw [if_pos ⟨h5, by omega⟩]
        refine Cd.seq ?_
        refine Cd.region ?_
        refine Ops.mv_sl rfl rfl rfl ?_
        refine Ops.mv_int rfl rfl rfl ?_
        refine Ops.mv_sl rfl rfl rfl ?_
        refine Ops.mv_sl rfl rfl rfl ?_
        -- stop: INDEXADDR 39 t42 0 -> 43
        refine Ops.idx hQj.2 rfl rfl rfl (by omega) (by omega) ?_
        refine Ops.ld_int hQj rfl (by show Int.toNat 0 < _; rw [show Int.toNat 0 = 0 from rfl]; omega) rfl rfl ?_
        rw [gi_drop, hui]
        refine Ops.idx hO.2 rfl rfl rfl hur.1 hur.2 ?_
        refine Ops.ld_int hO rfl (by omega) rfl rfl ?_
        refine Ops.add rfl rfl rfl (by omega) ?_
        -- stop: INDEXADDR 39 t39 t40 -> 48
        refine Ops.idx hO.2 rfl rfl rfl hx.1 hx.2 ?_
        refine Ops.st_int 1 hS6 rfl rfl rfl (by omega) ?_
        intro w7 hS7
        refine Ops.nil ?_
        refine thenQ_n ?_
        refine Cd.region ?_
        refine Ops.mv_sl rfl rfl rfl ?_
        refine Ops.mv_int rfl rfl rfl ?_
        -- stop: BUILDSLICE 39 1 [('pair', [0, ('app', 'Go.Operand.tmp', [50])])] -> 51
        refine Ops.bs1I hS7 rfl rfl rfl ?_
        intro A12 w8 hS8
        refine Ops.appI 1 hS8 rfl (hS8.rdI 0 rfl) rfl rfl rfl (by omega) (by omega) rfl ?_
        intro A13 c13 w9 hS9
        refine Ops.mv_sl rfl rfl rfl ?_
        refine Ops.nil ?_
        refine blockQ_n ?_
        refine thenQ_n ?_
        refine Cd.region ?_
        refine Ops.add rfl rfl rfl (by omega) ?_
        refine Ops.mv_int rfl rfl rfl ?_
        refine Ops.nil ?_
        refine thenQ_n ?_
        -- stop: round
        have e2 : (sj.2 ++ [x]).length - i = sj.2.length - i + 1 := by simp; omega
        have e3 : (sj.2 ++ [x]).drop i = sj.2.drop i ++ [x] := List.drop_append_of_le_length (by omega)
        refine ⟨(j + 1, A13, c13, stepB (-1) u sj x), by show _ - (j + 1) < _ - j; omega, ⟨rfl, rfl, by show Value.slice _ _ _ = .slice _ _ _; rw [hst]; show Value.slice _ _ _ = .slice _ ((sj.2 ++ [x]).length - i) _; rw [e2], rfl, rfl, rfl, trivial⟩, ?_, hj', hstep.symm⟩
        show St w w9 [CkI _ A13 ((stepB (-1) u sj x).2.length - i) c13 ((stepB (-1) u sj x).2.drop i), CkI _ A5 n n (stepB (-1) u sj x).1]
        rw [hst]
        show St w w9 [CkI _ A13 ((sj.2 ++ [x]).length - i) c13 ((sj.2 ++ [x]).drop i), CkI _ A5 n n (sj.1.set x.toNat (gi sj.1 u + 1))]
        rw [e2, e3]
        exact hS9.tail
      · have hst : stepB (-1) u sj x = sj := by unfold stepB; rw [if_neg (fun h => h5 h.1)]
        rw [hst] at hstep
        refine Cd.skip ?_
        refine blockQ_n ?_
        refine thenQ_n ?_
        refine Cd.region ?_
        refine Ops.add rfl rfl rfl (by omega) ?_
        refine Ops.mv_int rfl rfl rfl ?_
        refine Ops.nil ?_
        refine thenQ_n ?_
        -- stop: round
        exact ⟨(j + 1, A11, c11, sj), by show _ - (j + 1) < _ - j; omega, ⟨rfl, rfl, rfl, rfl, rfl, rfl, trivial⟩, hS6, hj', hstep.symm⟩
    · refine Cd.exit ?_
      refine thenQ_x ?_
      refine thenQ_x ?_
      refine blockQ_x ?_
      refine blockQ_n ?_
      refine thenQ_n ?_
      refine Cd.region ?_
      refine Ops.mv_sl rfl rfl rfl ?_
      -- stop: SLICE 39 t21 some 1 none none -> 22
      have hje : j = (gl next u).length := by omega
      subst hje
      rw [List.take_length] at hsj
      rw [← hsj] at hD
      refine Ops.cut_l rfl rfl rfl (by omega) ?_
      have hS7 := hS6.cutl (i := 0) rfl (show 1 ≤ sj.2.length - i by omega)
      have e2 : sj.2.length - i - 1 = sj.2.length - (i + 1) := by omega
      have e3 : (sj.2.drop i).drop 1 = sj.2.drop (i + 1) := by rw [List.drop_drop]
      refine Ops.mv_sl rfl rfl rfl ?_
      refine Ops.nil ?_
      refine thenQ_n ?_
      -- stop: round
      refine ⟨(i + 1, cutAt A11 c11 1, c11 - 1, sj), by show n + 1 - (i + 1) < n + 1 - i; omega, ⟨rfl, rfl, by show Value.slice _ _ _ = .slice _ _ _; rw [← e2]; rfl, trivial⟩, ?_, hBj, by show i + 1 ≤ sj.2.length; omega, by show distP next (-1) v = bfsD next (-1) (n + 1 - (i + 1)) (i + 1) sj; rw [hD]; congr 1⟩
      show St w w6 [CkI _ (cutAt A11 c11 1) (sj.2.length - (i + 1)) (c11 - 1) (sj.2.drop (i + 1)), _]
      rw [← e2, ← e3]
      exact hS7
  · refine Cd.exit ?_
    refine thenQ_x ?_
    refine thenQ_x ?_
    refine blockQ_x ?_
    refine thenQ_n ?_
    refine Cd.seq ?_
    refine Cd.region ?_
    refine Ops.mv_sl rfl rfl rfl ?_
    refine Ops.mv_sl rfl rfl rfl ?_
    refine Ops.nil ?_
    refine thenQ_n ?_
    refine Cd.ret ?_
    refine ret1_s rfl ?_
    -- stop: end
    rw [bfsD_end (by omega)] at hD
    rw [hD]
    exact ⟨A5, rfl, hS5.tail⟩
end Go.Proofs.Ytpdhjnacnmfbjaa.Vc
/-
  The graph of a maniplex with its code, and distances from a vertex on both sides. Conditions: as each states them.
-/
namespace Go.Proofs.Ytpdhjnacnmfbjaa.Vc
open Go.RowKit

theorem nb_gr {xss : List (List Int)} (hM : Mani xss) : Gr (vertsN xss) (nbL xss) := by
  have hsm := nb_small hM
  have hin := arcs_in (En := endsL xss) (b := (vertsN xss : Int)) (fun e => endsL_mem hM e (by omega)) (edgesN xss)
  refine ⟨nbL_len xss, hsm.2.1, fun u hu => ⟨fun x hx => ?_, ?_⟩⟩
  · rw [nbL, gl_endsP, cs_mem] at hx
    exact bagP_mem _ hin u hu x hx
  · have h1 := endsP_row (m := vertsN xss) (ps := arcs (endsL xss) (edgesN xss)) (fun p hp => (hin p hp).1) u hu
    have h2 := arcs_len (endsL xss) (edgesN xss)
    show (gl (endsP _ _) _).length ≤ _
    omega
def goK (xss : List (List Int)) (vs : List Int) : Int := if ¬ Grph xss then 1 else if ¬ allIn 0 ((vertsN xss : Int) - 1) vs then 2 else 0
def goL (xss : List (List Int)) (vs : List Int) : List (List Int) := if Grph xss ∧ allIn 0 ((vertsN xss : Int) - 1) vs then nbL xss else []
theorem goK_zero {xss : List (List Int)} {vs : List Int} (h : goK xss vs = 0) : Grph xss ∧ allIn 0 ((vertsN xss : Int) - 1) vs := by
  unfold goK at h
  split at h
  · cases h
  · rename_i h1
    split at h
    · cases h
    · rename_i h2
      exact ⟨Classical.not_not.1 h1, Classical.not_not.1 h2⟩

theorem graphOf_c (A : Option Addr) (n c : Nat) (rs : List SlV) (xss : List (List Int)) (Av : Option Addr) (nv cv : Nat) (vs : List Int) (w : World) (hR : RowsI w A n rs xss) (hn : n ≤ c) (hc : c ≤ 9223372036854775807) (hV : RdI w Av nv vs) (hnv : nv ≤ 9223372036854775807) :
    Ret Try.prog 80 [.agg #[.slice A n c], .slice Av nv cv] w (AnsSS (goL xss vs) (goK xss vs) w) := by
  refine Ret.of_cd Try.func80 rfl Try.ntmps80 rfl (post2 rfl) ?_
  refine Cd.seq ?_
  refine Cd.region ?_
  -- stop: BOX 32 t0=m -> 2
  refine Ops.box1 (St.refl w) rfl rfl ?_
  intro Ab w1 hS1
  refine Ops.mv_sl rfl rfl rfl ?_
  refine Ops.mv_int rfl rfl rfl ?_
  refine Ops.nil ?_
  refine thenQ_n ?_
  refine Cd.seq ?_
  refine Cd.seq ?_
  refine Cd.region ?_
  -- stop: LOAD 32 t2=m -> 7
  refine Ops.ld_agg 0 (hS1.rd 0 rfl) rfl rfl rfl ?_
  refine Ops.call (isGraphed_c A n c rs xss _ (hS1.oldRows hR) hn hc) rfl rfl rfl ?_
  rintro _ w2 ⟨rfl, hst⟩
  have hS2 := hS1.later hst.below
  first | refine Ops.not_p rfl rfl ?_ | refine Ops.not rfl rfl ?_
  refine Ops.nil ?_
  refine thenQ_n ?_
  -- stop: cond
  refine Cd.cond_p _ rfl (fun h => ?_) (fun h => ?_)
  · refine Cd.seq ?_
    refine Cd.region ?_
    refine Ops.mv_sl rfl rfl rfl ?_
    refine Ops.mv_int rfl rfl rfl ?_
    refine Ops.nil ?_
    refine thenQ_n ?_
    refine Cd.ret ?_
    refine thenQ_r ?_
    refine ret2_si rfl rfl ?_
    -- stop: end
    rw [goK, if_pos h, goL, if_neg (fun h2 => h h2.1)]
    exact AnsSS.none hS2
  · have hG : Grph xss := Classical.not_not.1 h
    have hsm := nb_small hG.1
    refine Cd.skip ?_
    refine thenQ_n ?_
    refine Cd.seq ?_
    refine Cd.region ?_
    -- stop: LOAD 32 t2=m -> 10
    refine Ops.ld_agg 0 (hS2.rd 0 rfl) rfl rfl rfl ?_
    refine Ops.call (neighboursOf_c A n c rs xss _ (hS2.oldRows hR) hG) rfl rfl rfl ?_
    rintro _ w3 ⟨A3, rs3, rfl, hrl, hst⟩
    have hS3 := hS2.none.call hst
    rw [List.append_nil] at hS3
    refine Ops.mv_sl rfl rfl rfl ?_
    refine Ops.nil ?_
    refine thenQ_n ?_
    refine Cd.seq ?_
    refine Cd.seq ?_
    refine Cd.region ?_
    refine Ops.mv_sl rfl rfl rfl ?_
    refine Ops.mv_sl rfl rfl rfl ?_
    -- stop: CALL impl.size[[]int64](t13) -> 14
    refine Ops.call (sizeR_c _ _ _ _) rfl rfl rfl ?_
    rintro _ w3 ⟨rfl, rfl⟩
    refine Ops.sub rfl rfl rfl (by omega) ?_
    -- stop: CALL impl.areWithin(t12, 0, t15) -> 16
    refine Ops.call (areWithin_c Av nv cv vs 0 _ _ (hS3.oldI hV) hnv) rfl rfl rfl ?_
    rintro _ w4 ⟨rfl, hst4⟩
    have hS4 := hS3.later hst4.below
    first | refine Ops.not_p rfl rfl ?_ | refine Ops.not rfl rfl ?_
    refine Ops.nil ?_
    refine thenQ_n ?_
    -- stop: cond
    refine Cd.cond_p _ rfl (fun h2 => ?_) (fun h2 => ?_)
    · refine Cd.seq ?_
      refine Cd.region ?_
      refine Ops.mv_sl rfl rfl rfl ?_
      refine Ops.mv_int rfl rfl rfl ?_
      refine Ops.nil ?_
      refine thenQ_n ?_
      refine Cd.ret ?_
      refine thenQ_r ?_
      refine ret2_si rfl rfl ?_
      -- stop: end
      rw [goK, if_neg h, if_pos h2, goL, if_neg (fun h3 => h2 h3.2)]
      exact AnsSS.none hS4
    · have hA := Classical.not_not.1 h2
      refine Cd.skip ?_
      refine thenQ_n ?_
      refine Cd.seq ?_
      refine Cd.region ?_
      refine Ops.mv_sl rfl rfl rfl ?_
      refine Ops.mv_sl rfl rfl rfl ?_
      refine Ops.mv_int rfl rfl rfl ?_
      refine Ops.nil ?_
      refine thenQ_n ?_
      refine Cd.ret ?_
      refine ret2_si rfl rfl ?_
      -- stop: end
      rw [goK, if_neg h, if_neg h2, goL, if_pos ⟨hG, hA⟩]
      refine ⟨A3, vertsN xss, rs3, by rw [nbL_len], by rw [nbL_len]; exact hrl, ?_⟩
      rw [nbL_len]
      exact hS4

theorem allIn_one (lo hi v : Int) : allIn lo hi [v] ↔ lo ≤ v ∧ v ≤ hi := by simp [allIn]
theorem l18Code_c (A : Option Addr) (n c : Nat) (rs : List SlV) (xss : List (List Int)) (v : Int) (w : World) (hR : RowsI w A n rs xss) (hn : n ≤ 9223372036854775807) :
    Ret Try.prog 84 [.agg #[.slice A n c], .int .i64 v] w (fun r w' => r = .int .i64 (goK xss [v]) ∧ St w w' []) := by
  have hl := hR.len
  refine Ret.of_cd Try.func84 rfl Try.ntmps84 rfl (post1 rfl) ?_
  refine Cd.seq ?_
  refine Cd.region ?_
  -- stop: BOX 32 t0=m -> 2
  refine Ops.box1 (St.refl w) rfl rfl ?_
  intro Ab w1 hS
  refine Ops.mv_int rfl rfl rfl ?_
  refine Ops.nil ?_
  refine thenQ_n ?_
  refine Cd.seq ?_
  refine Cd.block ?_
  refine Cd.seq ?_
  refine Cd.region ?_
  -- stop: LOAD 32 t2=m -> 6
  refine Ops.ld_agg 0 (hS.rd 0 rfl) rfl rfl rfl ?_
  refine Ops.call (l18Is_c A n c rs xss _ (hS.oldRows hR) hn) rfl rfl rfl ?_
  rintro _ w2 ⟨rfl, hst⟩
  have hS := hS.later hst.below
  first | refine Ops.not_p rfl rfl ?_ | refine Ops.not rfl rfl ?_
  refine Ops.mv_bool rfl rfl rfl ?_
  refine Ops.nil ?_
  refine thenQ_n ?_
  -- stop: cond
  refine Cd.cond_p _ rfl (fun h1 => ?_) (fun h1 => ?_)
  · refine Cd.seq ?_
    refine Cd.region ?_
    refine Ops.mv_int rfl rfl rfl ?_
    refine Ops.nil ?_
    refine thenQ_n ?_
    refine Cd.ret ?_
    refine blockQ_r ?_
    refine thenQ_r ?_
    refine ret1_i rfl ?_
    -- stop: end
    exact ⟨by rw [goK, if_pos h1], hS.none⟩
  · have hG : Grph xss := Classical.not_not.1 h1
    have hM := hG.1
    have hsm := nb_small hM
    have h5 := hM.1
    have hmN : ((vertsN xss : Nat) : Int) = facesN xss 0 := by have := facesN_le xss 0; unfold vertsN; omega
    have hEx : ∀ x ∈ facesL xss 0, x ≤ 1000000 := fun x hx => by
      obtain ⟨k, hk, rfl⟩ := List.mem_iff_getElem.1 hx
      have := faces_in hM 0 k (by rw [← facesL_len xss 0]; exact hk)
      rw [gi_mem hk] at this
      omega
    refine Cd.seq ?_
    refine Cd.region ?_
    refine Ops.mv_int rfl rfl rfl ?_
    -- stop: LOAD 32 t2=m -> 11
    refine Ops.ld_agg 0 (hS.rd 0 rfl) rfl rfl rfl ?_
    refine Ops.call (l02Faces_c A n c rs xss 0 _ (hS.oldRows hR) hM (by omega)) rfl rfl rfl ?_
    rintro _ w3 ⟨A4, c4, rfl, hst4⟩
    have hS := hS.later hst4.below
    refine Ops.call (l02Greatest_c A4 _ c4 (facesL xss 0) w3 (hst4.rdI 0 rfl) (by omega) hEx) rfl rfl rfl ?_
    rintro _ w3 ⟨rfl, rfl⟩
    rw [faces_grt hM 0, ← hmN]
    refine Ops.sub rfl rfl rfl (by omega) ?_
    -- stop: CALL spec.l01In(t10, 0, t14) -> 15
    refine Ops.call (l01In_c _ _ _ _) rfl rfl rfl ?_
    rintro _ w3 ⟨rfl, rfl⟩
    first | refine Ops.not_p rfl rfl ?_ | refine Ops.not rfl rfl ?_
    refine Ops.mv_bool rfl rfl rfl ?_
    refine Ops.nil ?_
    refine thenQ_n ?_
    -- stop: cond
    refine Cd.cond_p _ rfl (fun h2 => ?_) (fun h2 => ?_)
    · refine Cd.seq ?_
      refine Cd.region ?_
      refine Ops.mv_int rfl rfl rfl ?_
      refine Ops.nil ?_
      refine thenQ_n ?_
      refine Cd.ret ?_
      refine blockQ_r ?_
      refine thenQ_r ?_
      refine ret1_i rfl ?_
      -- stop: end
      exact ⟨by rw [goK, if_neg h1, if_pos (fun h => h2 ((allIn_one _ _ _).1 h))], hS.none⟩
    · refine Cd.skip ?_
      refine blockQ_n ?_
      refine thenQ_n ?_
      refine Cd.seq ?_
      refine Cd.region ?_
      refine Ops.mv_int rfl rfl rfl ?_
      refine Ops.nil ?_
      refine thenQ_n ?_
      refine Cd.ret ?_
      refine ret1_i rfl ?_
      -- stop: end
      exact ⟨by rw [goK, if_neg h1, if_neg (fun h => h ((allIn_one _ _ _).2 (Classical.not_not.1 h2)))], hS.none⟩

def vdL (xss : List (List Int)) (v : Int) : List Int := if goK xss [v] = 0 then (distP (nbL xss) (-1) v).1 else []
theorem AnsR.mk {w w' : World} {A : Option Addr} {L : List Int} {n c : Nat} {K : Int} (hl : L.length = n) (h : St w w' [CkI 2 A n c L]) : AnsR L K w (.tuple #[.slice A n c, .int .i64 K]) w' := by
  subst hl
  exact ⟨A, c, rfl, h⟩

theorem bfs_BF {n : Nat} {next : List (List Int)} {wo : Int} (hg : Gr n next) : ∀ (f i : Nat) (st : List Int × List Int), BF n st → BF n (bfsD next wo f i st)
  | 0, _, _, h => h
  | f + 1, i, st, h => by
    rw [bfsD]
    split
    · rename_i hi
      have hum : gi st.2 (i : Int) ∈ st.2 := gi_in hi
      exact bfs_BF hg f _ _ (BF.row (wo := wo) _ h hum (hg.row _ (h.rng _ hum).1).1).1
    · exact h
theorem dist_BF {n : Nat} {next : List (List Int)} {wo v : Int} (hg : Gr n next) (h0 : 0 ≤ v) (h1 : v < n) : BF n (distP next wo v) := by
  unfold distP
  rw [hg.len]
  exact bfs_BF hg _ _ _ (BF.init h0 h1)

theorem specVertexDistances_c (A : Option Addr) (n c : Nat) (rs : List SlV) (xss : List (List Int)) (v : Int) (w : World) (hR : RowsI w A n rs xss) (hn : n ≤ 9223372036854775807) :
    Ret Try.prog 47 [.agg #[.slice A n c], .int .i64 v] w (AnsR (vdL xss v) (goK xss [v]) w) := by
  refine Ret.of_cd Try.func47 rfl Try.ntmps47 rfl (post2 rfl) ?_
  refine Cd.seq ?_
  refine Cd.region ?_
  -- stop: BOX 32 t0=m -> 2
  refine Ops.box1 (St.refl w) rfl rfl ?_
  intro Ab w1 hS1
  refine Ops.mv_sl rfl rfl rfl ?_
  refine Ops.mv_int rfl rfl rfl ?_
  refine Ops.nil ?_
  refine thenQ_n ?_
  refine Cd.seq ?_
  refine Cd.seq ?_
  refine Cd.region ?_
  -- stop: LOAD 32 t2=m -> 7
  refine Ops.ld_agg 0 (hS1.rd 0 rfl) rfl rfl rfl ?_
  refine Ops.mv_int rfl rfl rfl ?_
  -- stop: CALL spec.l18Code(t7, t8) -> 9
  refine Ops.call (l18Code_c A n c rs xss v _ (hS1.oldRows hR) hn) rfl rfl rfl ?_
  rintro _ w2 ⟨rfl, hst⟩
  have hS2 := hS1.later hst.below
  refine Ops.mv_int rfl rfl rfl ?_
  refine Ops.nil ?_
  refine thenQ_n ?_
  refine Cd.seq ?_
  refine Cd.region ?_
  refine Ops.mv_int rfl rfl rfl ?_
  refine Ops.neq rfl rfl rfl ?_
  refine Ops.nil ?_
  refine thenQ_n ?_
  -- stop: cond
  refine Cd.cond_p _ rfl (fun h => ?_) (fun h => ?_)
  · refine Cd.seq ?_
    refine Cd.region ?_
    refine Ops.mv_int rfl rfl rfl ?_
    refine Ops.mv_sl rfl rfl rfl ?_
    refine Ops.mv_int rfl rfl rfl ?_
    refine Ops.nil ?_
    refine thenQ_n ?_
    refine Cd.ret ?_
    refine thenQ_r ?_
    refine ret2_si rfl rfl ?_
    -- stop: end
    rw [vdL, if_neg h]
    exact AnsR.none hS2
  · have hK : goK xss [v] = 0 := Classical.not_not.1 h
    obtain ⟨hG, hA⟩ := goK_zero hK
    have hv := (allIn_one _ _ _).1 hA
    have hg := nb_gr hG.1
    have hB := dist_BF (wo := -1) hg hv.1 (by omega)
    refine Cd.skip ?_
    refine thenQ_n ?_
    refine Cd.seq ?_
    refine Cd.region ?_
    -- stop: LOAD 32 t2=m -> 13
    refine Ops.ld_agg 0 (hS2.rd 0 rfl) rfl rfl rfl ?_
    refine Ops.call (l18Neighbours_c A n c rs xss _ (hS2.oldRows hR) hG) rfl rfl rfl ?_
    rintro _ w3 ⟨A3, rs3, rfl, hrl, hst3⟩
    have hS3 := hS2.later hst3.below
    refine Ops.mv_int rfl rfl rfl ?_
    -- stop: CALL spec.l18Distances(t14, t15, -1) -> 16
    refine Ops.call (l18Distances_c A3 _ _ rs3 (nbL xss) v (-1) _ (hst3.rowsI (nbL_len xss)) hg hv.1 (by omega)) rfl rfl rfl ?_
    rintro _ w4 ⟨A4, rfl, hst4⟩
    have hS4 := hS3.none.call hst4
    refine Ops.mv_sl rfl rfl rfl ?_
    refine Ops.mv_int rfl rfl rfl ?_
    refine Ops.nil ?_
    refine thenQ_n ?_
    refine Cd.ret ?_
    refine ret2_si rfl rfl ?_
    -- stop: end
    rw [vdL, if_pos hK, hK]
    exact AnsR.mk hB.len hS4

theorem implVertexDistances_c (A : Option Addr) (n c : Nat) (rs : List SlV) (xss : List (List Int)) (v : Int) (w : World) (hR : RowsI w A n rs xss) (hn : n ≤ c) (hc : c ≤ 9223372036854775807) :
    Ret Try.prog 48 [.agg #[.slice A n c], .int .i64 v] w (AnsR (vdL xss v) (goK xss [v]) w) := by
  refine Ret.of_cd Try.func48 rfl Try.ntmps48 rfl (post2 rfl) ?_
  refine Cd.seq ?_
  refine Cd.region ?_
  -- stop: BOX 32 t0=m -> 2
  refine Ops.box1 (St.refl w) rfl rfl ?_
  intro Ab w1 hS1
  refine Ops.mv_sl rfl rfl rfl ?_
  refine Ops.mv_int rfl rfl rfl ?_
  refine Ops.nil ?_
  refine thenQ_n ?_
  refine Cd.seq ?_
  refine Cd.region ?_
  -- stop: LOAD 32 t2=m -> 9
  refine Ops.ld_agg 0 (hS1.rd 0 rfl) rfl rfl rfl ?_
  refine Ops.mv_int rfl rfl rfl ?_
  -- stop: BUILDSLICE 39 1 [('pair', [0, ('app', 'Go.Operand.tmp', [10])])] -> 11
  refine Ops.bs1I hS1 rfl rfl rfl ?_
  intro A2 w2 hS2
  refine Ops.call (graphOf_c A n c rs xss A2 1 1 [v] _ (hS2.oldRows hR) hn hc (hS2.rdI 0 rfl) (by omega)) rfl rfl rfl ?_
  rintro _ w3 ⟨A3, c3, rs3, rfl, hrl, hst3⟩
  have hS3 := hS2.later hst3.below
  refine Ops.mv_tup rfl rfl rfl ?_
  refine Ops.extract rfl rfl rfl ?_
  refine Ops.extract rfl rfl rfl ?_
  refine Ops.mv_sl rfl rfl rfl ?_
  refine Ops.mv_int rfl rfl rfl ?_
  refine Ops.nil ?_
  refine thenQ_n ?_
  refine Cd.seq ?_
  refine Cd.seq ?_
  refine Cd.region ?_
  refine Ops.mv_int rfl rfl rfl ?_
  refine Ops.neq rfl rfl rfl ?_
  refine Ops.nil ?_
  refine thenQ_n ?_
  -- stop: cond
  refine Cd.cond_p _ rfl (fun h => ?_) (fun h => ?_)
  · refine Cd.seq ?_
    refine Cd.region ?_
    refine Ops.mv_int rfl rfl rfl ?_
    refine Ops.mv_sl rfl rfl rfl ?_
    refine Ops.mv_int rfl rfl rfl ?_
    refine Ops.nil ?_
    refine thenQ_n ?_
    refine Cd.ret ?_
    refine thenQ_r ?_
    refine ret2_si rfl rfl ?_
    -- stop: end
    rw [vdL, if_neg h]
    exact AnsR.none hS3
  · have hK : goK xss [v] = 0 := Classical.not_not.1 h
    obtain ⟨hG, hA⟩ := goK_zero hK
    have hv := (allIn_one _ _ _).1 hA
    have hg := nb_gr hG.1
    have hB := dist_BF (wo := -1) hg hv.1 (by omega)
    have hL : goL xss [v] = nbL xss := by rw [goL, if_pos ⟨hG, hA⟩]
    rw [hL] at hst3 hrl ⊢
    rw [nbL_len] at hst3 ⊢
    refine Cd.skip ?_
    refine thenQ_n ?_
    refine Cd.seq ?_
    refine Cd.region ?_
    refine Ops.mv_sl rfl rfl rfl ?_
    refine Ops.mv_int rfl rfl rfl ?_
    -- stop: CALL impl.graphDistances(t18, t19) -> 20
    refine Ops.call (graphDistances_c A3 _ _ rs3 (nbL xss) v _ (hst3.rowsI (nbL_len xss)) hg hv.1 (by omega)) rfl rfl rfl ?_
    rintro _ w4 ⟨A4, rfl, hst4⟩
    have hS4 := hS3.none.call hst4
    refine Ops.mv_sl rfl rfl rfl ?_
    refine Ops.mv_int rfl rfl rfl ?_
    refine Ops.nil ?_
    refine thenQ_n ?_
    refine Cd.ret ?_
    refine ret2_si rfl rfl ?_
    -- stop: end
    rw [vdL, if_pos hK, hK]
    exact AnsR.mk hB.len hS4
theorem vd_bd (xss : List (List Int)) (v : Int) : (vdL xss v).length ≤ 1000 := by
  unfold vdL
  split
  · rename_i hK
    obtain ⟨hG, hA⟩ := goK_zero hK
    have hv := (allIn_one _ _ _).1 hA
    have hsm := nb_small hG.1
    have hB := dist_BF (wo := -1) (nb_gr hG.1) hv.1 (by omega)
    have := hB.len
    omega
  · exact Nat.zero_le _
end Go.Proofs.Ytpdhjnacnmfbjaa.Vc
/-
  The diameter of the graph on both sides, and the walk of the law FnExactGraphDiameter. Conditions: as each states them.
-/
namespace Go.Proofs.Ytpdhjnacnmfbjaa.Vc
open Go.RowKit

def mx (a : Int) (l : List Int) : Int := l.foldl max a
theorem mx_snoc (a : Int) (l : List Int) (x : Int) : mx a (l ++ [x]) = max (mx a l) x := by
  unfold mx
  rw [List.foldl_append]; rfl
theorem mx_max (a : Int) : ∀ (l : List Int) (b : Int), mx (max a b) l = max a (mx b l)
  | [], _ => rfl
  | x :: l, b => by
    show mx (max (max a b) x) l = max a (mx (max b x) l)
    rw [← mx_max a l (max b x), Int.max_assoc]
theorem mx_head {l : List Int} (a : Int) (h : 0 < l.length) : max a (mx (gi l 0) l) = mx a l := by
  cases l with
  | nil => simp at h
  | cons x l =>
    show max a (mx (max x x) l) = mx (max a x) l
    rw [Int.max_self, mx_max]

theorem Max_c (A : Option Addr) (n c : Nat) (xs : List Int) (w : World) (hR : RdI w A n xs) (h0 : 0 < n) (hn : n ≤ 1000000000) :
    Ret Try.prog 82 [.slice A n c] w (fun v w' => v = .int .i64 (mx (gi xs 0) xs) ∧ w' = w) := by
  have hxl := hR.1
  refine Ret.of_cd Try.func82 rfl Try.ntmps82 rfl (post1 rfl) ?_
  refine Cd.seq ?_
  refine Cd.region ?_
  refine Ops.mv_int rfl rfl rfl ?_
  refine Ops.nil ?_
  refine thenQ_n ?_
  refine Cd.seq ?_
  refine Cd.seq ?_
  refine Cd.region ?_
  refine Ops.mv_sl rfl rfl rfl ?_
  refine Ops.len rfl rfl ?_
  refine Ops.lss rfl rfl rfl ?_
  refine Ops.nil ?_
  refine thenQ_n ?_
  -- stop: cond
  refine Cd.cond_pf rfl (by omega) ?_
  refine Cd.skip ?_
  refine thenQ_n ?_
  refine Cd.seq ?_
  refine Cd.region ?_
  refine Ops.mv_sl rfl rfl rfl ?_
  -- stop: INDEXADDR 39 t9 0 -> 10
  refine Ops.idx hR.2 rfl rfl rfl (by omega) (by omega) ?_
  refine Ops.ld_int hR rfl (by show Int.toNat 0 < _; rw [show Int.toNat 0 = 0 from rfl]; omega) rfl rfl ?_
  refine Ops.mv_int rfl rfl rfl ?_
  refine Ops.nil ?_
  refine thenQ_n ?_
  refine Cd.seq ?_
  refine Cd.seq ?_
  refine Cd.region ?_
  refine Ops.mv_int rfl rfl rfl ?_
  refine Ops.nil ?_
  refine thenQ_n ?_
  refine Cd.block ?_
  -- stop: loop
  have e1 : mx (gi xs 0) (xs.take 1) = gi xs 0 := by
    rw [show (1 : Nat) = 0 + 1 from rfl, take_succ_gi (by omega), mx_snoc]
    show max (gi xs 0) (gi xs ((0 : Nat) : Int)) = gi xs 0
    exact Int.max_self _
  refine Cd.loop (α := Nat) (fun k => [(0, .slice A n c), (3, .int .i64 (mx (gi xs 0) (xs.take k))), (4, .int .i64 (k : Int))]) (fun k w' => w' = w ∧ k ≤ n) (fun k => n - k) 1 ⟨rfl, by show Value.int .i64 _ = .int .i64 _; rw [e1], rfl, trivial⟩ ⟨rfl, by omega⟩ ?_
  rintro k e w ⟨rfl, hk⟩
  refine Cd.seq ?_
  refine Cd.seq ?_
  refine Cd.region ?_
  refine Ops.mv_int rfl rfl rfl ?_
  refine Ops.mv_sl rfl rfl rfl ?_
  refine Ops.len rfl rfl ?_
  refine Ops.lss rfl rfl rfl ?_
  refine Ops.nil ?_
  refine thenQ_n ?_
  -- stop: cond
  refine Cd.cond_p _ rfl (fun h1 => ?_) (fun h1 => ?_)
  · refine Cd.skip ?_
    refine thenQ_n ?_
    refine Cd.seq ?_
    refine Cd.block ?_
    refine Cd.region ?_
    refine Ops.mv_int rfl rfl rfl ?_
    refine Ops.mv_sl rfl rfl rfl ?_
    refine Ops.mv_int rfl rfl rfl ?_
    -- stop: INDEXADDR 39 t19 t20 -> 21
    refine Ops.idx hR.2 rfl rfl rfl (by omega) (by omega) ?_
    refine Ops.ld_int hR rfl (by omega) rfl rfl ?_
    refine Ops.maxI rfl rfl rfl ?_
    refine Ops.mv_int rfl rfl rfl ?_
    refine Ops.nil ?_
    refine blockQ_n ?_
    refine thenQ_n ?_
    refine Cd.region ?_
    refine Ops.mv_int rfl rfl rfl ?_
    refine Ops.add rfl rfl rfl (by omega) ?_
    refine Ops.mv_int rfl rfl rfl ?_
    refine Ops.nil ?_
    refine thenQ_n ?_
    -- stop: round
    exact ⟨k + 1, by show n - (k + 1) < n - k; omega, ⟨rfl, by show Value.int .i64 _ = .int .i64 _; rw [take_succ_gi (by omega), mx_snoc], rfl, trivial⟩, rfl, by omega⟩
  · refine Cd.exit ?_
    refine thenQ_x ?_
    refine thenQ_x ?_
    refine blockQ_x ?_
    refine thenQ_n ?_
    refine Cd.seq ?_
    refine Cd.region ?_
    refine Ops.mv_int rfl rfl rfl ?_
    refine Ops.mv_int rfl rfl rfl ?_
    refine Ops.nil ?_
    refine thenQ_n ?_
    refine Cd.ret ?_
    refine ret1_i rfl ?_
    -- stop: end
    have hkn : k = n := by omega
    subst hkn
    exact ⟨by rw [← hxl, List.take_length], rfl⟩

/-- the greatest distance from the first vertices -/
def dmP (next : List (List Int)) : Nat → Int
  | 0 => 0
  | v + 1 => mx (dmP next v) (distP next (-1) v).1
def gdD (xss : List (List Int)) : Int := if Grph xss then dmP (nbL xss) (vertsN xss) else 0

theorem specGraphDiameter_c (A : Option Addr) (n c : Nat) (rs : List SlV) (xss : List (List Int)) (w : World) (hR : RowsI w A n rs xss) (hn : n ≤ 9223372036854775807) :
    Ret Try.prog 45 [.agg #[.slice A n c]] w (fun v w' => v = .tuple #[.int .i64 (gdD xss), .int .i64 (petrieK xss)] ∧ St w w' []) := by
  refine Ret.of_cd Try.func45 rfl Try.ntmps45 rfl (post2 rfl) ?_
  refine Cd.seq ?_
  refine Cd.region ?_
  -- stop: BOX 32 t0=m -> 1
  refine Ops.box1 (St.refl w) rfl rfl ?_
  intro Ab w1 hS1
  refine Ops.mv_int rfl rfl rfl ?_
  refine Ops.mv_int rfl rfl rfl ?_
  refine Ops.nil ?_
  refine thenQ_n ?_
  refine Cd.seq ?_
  refine Cd.seq ?_
  refine Cd.region ?_
  -- stop: LOAD 32 t1=m -> 9
  refine Ops.ld_agg 0 (hS1.rd 0 rfl) rfl rfl rfl ?_
  refine Ops.call (l18Is_c A n c rs xss _ (hS1.oldRows hR) hn) rfl rfl rfl ?_
  rintro _ w2 ⟨rfl, hst⟩
  have hS2 := hS1.later hst.below
  first | refine Ops.not_p rfl rfl ?_ | refine Ops.not rfl rfl ?_
  refine Ops.nil ?_
  refine thenQ_n ?_
  -- stop: cond
  refine Cd.cond_p _ rfl (fun h => ?_) (fun h => ?_)
  · refine Cd.seq ?_
    refine Cd.region ?_
    refine Ops.mv_int rfl rfl rfl ?_
    refine Ops.mv_int rfl rfl rfl ?_
    refine Ops.nil ?_
    refine thenQ_n ?_
    refine Cd.ret ?_
    refine thenQ_r ?_
    refine ret2_ii rfl rfl ?_
    -- stop: end
    exact ⟨by rw [petrieK, if_neg h, gdD, if_neg h], hS2.none⟩
  · have hG : Grph xss := Classical.not_not.1 h
    have hg := nb_gr hG.1
    have hsm := nb_small hG.1
    refine Cd.skip ?_
    refine thenQ_n ?_
    refine Cd.seq ?_
    refine Cd.region ?_
    -- stop: LOAD 32 t1=m -> 12
    refine Ops.ld_agg 0 (hS2.rd 0 rfl) rfl rfl rfl ?_
    refine Ops.call (l18Neighbours_c A n c rs xss _ (hS2.oldRows hR) hG) rfl rfl rfl ?_
    rintro _ w3 ⟨A3, rs3, rfl, hrl, hst3⟩
    have hS3 := (hS2.later hst3.below).none
    have hN3 := hst3.rowsI (nbL_len xss)
    have hfin : gdD xss = dmP (nbL xss) (vertsN xss) := by rw [gdD, if_pos hG]
    generalize hv : vertsN xss = vN at *
    generalize hnx : nbL xss = next at *
    refine Ops.mv_sl rfl rfl rfl ?_
    refine Ops.mv_int rfl rfl rfl ?_
    refine Ops.nil ?_
    refine thenQ_n ?_
    refine Cd.seq ?_
    refine Cd.seq ?_
    refine Cd.region ?_
    refine Ops.mv_int rfl rfl rfl ?_
    refine Ops.nil ?_
    refine thenQ_n ?_
    refine Cd.block ?_
    -- stop: loop
    refine Cd.loop (α := Nat) (fun v => [(4, .slice A3 vN vN), (5, .int .i64 (dmP next v)), (6, .int .i64 (v : Int))]) (fun v w' => St w3 w' [] ∧ v ≤ vN) (fun v => vN - v) 0 ⟨rfl, rfl, rfl, trivial⟩ ⟨St.refl w3, Nat.zero_le _⟩ ?_
    rintro v e w4 ⟨hS4, hv4⟩
    have hN4 := hS4.oldRows hN3
    refine Cd.seq ?_
    refine Cd.seq ?_
    refine Cd.region ?_
    refine Ops.mv_int rfl rfl rfl ?_
    refine Ops.mv_sl rfl rfl rfl ?_
    refine Ops.len rfl rfl ?_
    refine Ops.lss rfl rfl rfl ?_
    refine Ops.nil ?_
    refine thenQ_n ?_
    -- stop: cond
    refine Cd.cond_p _ rfl (fun h1 => ?_) (fun h1 => ?_)
    · refine Cd.skip ?_
      refine thenQ_n ?_
      refine Cd.seq ?_
      refine Cd.block ?_
      refine Cd.seq ?_
      refine Cd.region ?_
      refine Ops.mv_sl rfl rfl rfl ?_
      refine Ops.mv_int rfl rfl rfl ?_
      -- stop: CALL spec.l18Distances(t20, t21, -1) -> 22
      refine Ops.call (l18Distances_c A3 _ _ rs3 next (v : Int) (-1) _ hN4 hg (by omega) (by omega)) rfl rfl rfl ?_
      rintro _ w5 ⟨A5, rfl, hst5⟩
      have hS5 := hS4.call hst5
      have hdl := (dist_BF (wo := -1) (v := (v : Int)) hg (by omega) (by omega)).len
      have hst : dmP next (v + 1) = mx (dmP next v) (distP next (-1) (v : Int)).1 := rfl
      generalize hd : (distP next (-1) (v : Int)).1 = dl at *
      refine Ops.mv_sl rfl rfl rfl ?_
      refine Ops.nil ?_
      refine thenQ_n ?_
      refine Cd.seq ?_
      refine Cd.region ?_
      refine Ops.mv_int rfl rfl rfl ?_
      refine Ops.nil ?_
      refine thenQ_n ?_
      refine Cd.block ?_
      -- stop: loop
      refine Cd.loop (α := Nat) (fun u => [(4, .slice A3 vN vN), (5, .int .i64 (mx (dmP next v) (dl.take u))), (6, .int .i64 (v : Int)), (7, .slice A5 vN vN), (8, .int .i64 (u : Int))]) (fun u w' => w' = w5 ∧ u ≤ vN) (fun u => vN - u) 0 ⟨rfl, rfl, rfl, rfl, rfl, trivial⟩ ⟨rfl, Nat.zero_le _⟩ ?_
      rintro u e w6 ⟨rfl, hu⟩
      have hD6 := hS5.rdI 0 rfl
      refine Cd.seq ?_
      refine Cd.seq ?_
      refine Cd.region ?_
      refine Ops.mv_int rfl rfl rfl ?_
      refine Ops.mv_sl rfl rfl rfl ?_
      refine Ops.len rfl rfl ?_
      refine Ops.lss rfl rfl rfl ?_
      refine Ops.nil ?_
      refine thenQ_n ?_
      -- stop: cond
      refine Cd.cond_p _ rfl (fun h2 => ?_) (fun h2 => ?_)
      · refine Cd.skip ?_
        refine thenQ_n ?_
        refine Cd.seq ?_
        refine Cd.block ?_
        refine Cd.region ?_
        refine Ops.mv_int rfl rfl rfl ?_
        refine Ops.mv_sl rfl rfl rfl ?_
        refine Ops.mv_int rfl rfl rfl ?_
        -- stop: INDEXADDR 39 t30 t31 -> 32
        refine Ops.idx hD6.2 rfl rfl rfl (by omega) (by omega) ?_
        refine Ops.ld_int hD6 rfl (by omega) rfl rfl ?_
        refine Ops.maxI rfl rfl rfl ?_
        refine Ops.mv_int rfl rfl rfl ?_
        refine Ops.nil ?_
        refine blockQ_n ?_
        refine thenQ_n ?_
        refine Cd.region ?_
        refine Ops.mv_int rfl rfl rfl ?_
        refine Ops.add rfl rfl rfl (by omega) ?_
        refine Ops.mv_int rfl rfl rfl ?_
        refine Ops.nil ?_
        refine thenQ_n ?_
        -- stop: round
        exact ⟨u + 1, by show vN - (u + 1) < vN - u; omega, ⟨rfl, by show Value.int .i64 _ = .int .i64 _; rw [take_succ_gi (by omega), mx_snoc], rfl, rfl, rfl, trivial⟩, rfl, by omega⟩
      · refine Cd.exit ?_
        refine thenQ_x ?_
        refine thenQ_x ?_
        refine blockQ_x ?_
        refine blockQ_n ?_
        refine thenQ_n ?_
        refine Cd.region ?_
        refine Ops.mv_int rfl rfl rfl ?_
        refine Ops.add rfl rfl rfl (by omega) ?_
        refine Ops.mv_int rfl rfl rfl ?_
        refine Ops.nil ?_
        refine thenQ_n ?_
        -- stop: round
        have hun : u = vN := by omega
        subst hun
        rw [List.take_of_length_le (by omega)]
        exact ⟨v + 1, by show u - (v + 1) < u - v; omega, ⟨rfl, by show Value.int .i64 _ = .int .i64 _; rw [hst], rfl, trivial⟩, hS5.none, by omega⟩
    · refine Cd.exit ?_
      refine thenQ_x ?_
      refine thenQ_x ?_
      refine blockQ_x ?_
      refine thenQ_n ?_
      refine Cd.seq ?_
      refine Cd.region ?_
      refine Ops.mv_int rfl rfl rfl ?_
      refine Ops.mv_int rfl rfl rfl ?_
      refine Ops.mv_int rfl rfl rfl ?_
      refine Ops.nil ?_
      refine thenQ_n ?_
      refine Cd.ret ?_
      refine ret2_ii rfl rfl ?_
      -- stop: end
      have hvn : v = vN := by omega
      subst hvn
      exact ⟨by rw [petrieK, if_pos hG, hfin], hS3.later hS4.below⟩

theorem goK_nil (xss : List (List Int)) : goK xss [] = petrieK xss := by
  unfold goK petrieK
  have h : allIn 0 ((vertsN xss : Int) - 1) [] := fun x hx => by cases hx
  by_cases hG : Grph xss
  · rw [if_neg (fun h => h hG), if_neg (fun h2 => h2 h), if_pos hG]
  · rw [if_pos hG, if_neg hG]
theorem goL_nil {xss : List (List Int)} (hG : Grph xss) : goL xss [] = nbL xss := by rw [goL, if_pos ⟨hG, fun x hx => by cases hx⟩]

theorem implGraphDiameter_c (A : Option Addr) (n c : Nat) (rs : List SlV) (xss : List (List Int)) (w : World) (hR : RowsI w A n rs xss) (hn : n ≤ c) (hc : c ≤ 9223372036854775807) :
    Ret Try.prog 46 [.agg #[.slice A n c]] w (fun v w' => v = .tuple #[.int .i64 (gdD xss), .int .i64 (petrieK xss)] ∧ St w w' []) := by
  refine Ret.of_cd Try.func46 rfl Try.ntmps46 rfl (post2 rfl) ?_
  refine Cd.seq ?_
  refine Cd.region ?_
  -- stop: BOX 32 t0=m -> 1
  refine Ops.box1 (St.refl w) rfl rfl ?_
  intro Ab w1 hS1
  refine Ops.mv_int rfl rfl rfl ?_
  refine Ops.mv_int rfl rfl rfl ?_
  refine Ops.nil ?_
  refine thenQ_n ?_
  refine Cd.seq ?_
  refine Cd.region ?_
  -- stop: LOAD 32 t1=m -> 9
  refine Ops.ld_agg 0 (hS1.rd 0 rfl) rfl rfl rfl ?_
  refine Ops.call (graphOf_c A n c rs xss none 0 0 [] _ (hS1.oldRows hR) hn hc RdI.nil (by omega)) rfl rfl rfl ?_
  rintro _ w3 ⟨A3, c3, rs3, rfl, hrl, hst3⟩
  have hS3 := hS1.later hst3.below
  rw [goK_nil] at *
  refine Ops.mv_tup rfl rfl rfl ?_
  refine Ops.extract rfl rfl rfl ?_
  refine Ops.extract rfl rfl rfl ?_
  refine Ops.mv_sl rfl rfl rfl ?_
  refine Ops.mv_int rfl rfl rfl ?_
  refine Ops.nil ?_
  refine thenQ_n ?_
  refine Cd.seq ?_
  refine Cd.seq ?_
  refine Cd.region ?_
  refine Ops.mv_int rfl rfl rfl ?_
  refine Ops.neq rfl rfl rfl ?_
  refine Ops.nil ?_
  refine thenQ_n ?_
  -- stop: cond
  refine Cd.cond_p _ rfl (fun h => ?_) (fun h => ?_)
  · have hnG : ¬ Grph xss := fun hG => h (by rw [petrieK, if_pos hG])
    refine Cd.seq ?_
    refine Cd.region ?_
    refine Ops.mv_int rfl rfl rfl ?_
    refine Ops.mv_int rfl rfl rfl ?_
    refine Ops.mv_int rfl rfl rfl ?_
    refine Ops.nil ?_
    refine thenQ_n ?_
    refine Cd.ret ?_
    refine thenQ_r ?_
    refine ret2_ii rfl rfl ?_
    -- stop: end
    exact ⟨by rw [gdD, if_neg hnG], hS3.none⟩
  · have hG : Grph xss := by
      apply Classical.byContradiction
      intro hG
      exact h (by rw [petrieK, if_neg hG]; decide)
    have hg := nb_gr hG.1
    have hsm := nb_small hG.1
    rw [goL_nil hG, nbL_len] at *
    have hN3 := hst3.rowsI (nbL_len xss)
    have hfin : gdD xss = dmP (nbL xss) (vertsN xss) := by rw [gdD, if_pos hG]
    generalize hv : vertsN xss = vN at *
    generalize hnx : nbL xss = next at *
    refine Cd.skip ?_
    refine thenQ_n ?_
    refine Cd.seq ?_
    refine Cd.region ?_
    refine Ops.mv_int rfl rfl rfl ?_
    refine Ops.nil ?_
    refine thenQ_n ?_
    refine Cd.seq ?_
    refine Cd.seq ?_
    refine Cd.region ?_
    refine Ops.mv_sl rfl rfl rfl ?_
    -- stop: CALL impl.size[[]int64](t16) -> 17
    refine Ops.call (sizeR_c _ _ _ _) rfl rfl rfl ?_
    rintro _ w3 ⟨rfl, rfl⟩
    refine Ops.mv_int rfl rfl rfl ?_
    refine Ops.nil ?_
    refine thenQ_n ?_
    refine Cd.block ?_
    -- stop: loop
    refine Cd.loop (α := Nat) (fun v => [(4, .slice A3 vN c3), (6, .int .i64 (dmP next v)), (17, .int .i64 (vN : Int)), (18, .int .i64 (v : Int))]) (fun v w' => St w3 w' [] ∧ v ≤ vN) (fun v => vN - v) 0 ⟨rfl, rfl, rfl, rfl, trivial⟩ ⟨St.refl w3, Nat.zero_le _⟩ ?_
    rintro v e w4 ⟨hS4, hv4⟩
    have hN4 := hS4.oldRows hN3
    refine Cd.seq ?_
    refine Cd.region ?_
    refine Ops.lss rfl rfl rfl ?_
    refine Ops.nil ?_
    refine thenQ_n ?_
    refine Cd.seq ?_
    -- stop: cond
    refine Cd.cond_p _ rfl (fun h1 => ?_) (fun h1 => ?_)
    · have hdl := (dist_BF (wo := -1) (v := (v : Int)) hg (by omega) (by omega)).len
      refine Cd.skip ?_
      refine thenQ_n ?_
      refine Cd.seq ?_
      refine Cd.block ?_
      refine Cd.seq ?_
      refine Cd.region ?_
      refine Ops.mv_int rfl rfl rfl ?_
      refine Ops.mv_int rfl rfl rfl ?_
      refine Ops.nil ?_
      refine thenQ_n ?_
      refine Cd.region ?_
      refine Ops.mv_int rfl rfl rfl ?_
      refine Ops.mv_sl rfl rfl rfl ?_
      refine Ops.mv_int rfl rfl rfl ?_
      -- stop: CALL impl.graphDistances(t22, t23) -> 24
      refine Ops.call (graphDistances_c A3 _ _ rs3 next (v : Int) _ hN4 hg (by omega) (by omega)) rfl rfl rfl ?_
      rintro _ w5 ⟨A5, rfl, hst5⟩
      have hS5 := hS4.call hst5
      refine Ops.call (Max_c A5 vN vN _ _ (hS5.rdI 0 rfl) (by omega) (by omega)) rfl rfl rfl ?_
      rintro _ w5 ⟨rfl, rfl⟩
      refine Ops.maxI rfl rfl rfl ?_
      rw [mx_head _ (by omega)]
      refine Ops.mv_int rfl rfl rfl ?_
      refine Ops.nil ?_
      refine blockQ_n ?_
      refine thenQ_n ?_
      refine Cd.region ?_
      refine Ops.add rfl rfl rfl (by omega) ?_
      refine Ops.mv_int rfl rfl rfl ?_
      refine Ops.nil ?_
      refine thenQ_n ?_
      -- stop: round
      exact ⟨v + 1, by show vN - (v + 1) < vN - v; omega, ⟨rfl, rfl, rfl, rfl, trivial⟩, hS5.none, by omega⟩
    · refine Cd.exit ?_
      refine thenQ_x ?_
      refine thenQ_x ?_
      refine blockQ_x ?_
      refine thenQ_n ?_
      refine Cd.seq ?_
      refine Cd.region ?_
      refine Ops.mv_int rfl rfl rfl ?_
      refine Ops.mv_int rfl rfl rfl ?_
      refine Ops.mv_int rfl rfl rfl ?_
      refine Ops.nil ?_
      refine thenQ_n ?_
      refine Cd.ret ?_
      refine ret2_ii rfl rfl ?_
      -- stop: end
      have hvn : v = vN := by omega
      subst hvn
      exact ⟨by rw [hfin, petrieK, if_pos hG], (hS3.later hS4.below).none⟩

theorem FnExactGraphDiameter_c (A : Option Addr) (n c : Nat) (rs : List SlV) (xss : List (List Int)) (w : World) (hR : RowsI w A n rs xss) (hn : n ≤ 9223372036854775807) :
    Ret Try.prog 11 [.agg #[.slice A n c]] w (fun v w' => v = .bool true ∧ St w w' []) := by
  have hxl := hR.len
  refine Ret.of_cd Try.func11 rfl Try.ntmps11 rfl (post1 rfl) ?_
  refine Cd.seq ?_
  refine Cd.region ?_
  -- stop: BOX 27 t0=aM -> 1
  refine Ops.box1 (St.refl w) rfl rfl ?_
  intro Ab w1 hS
  refine Ops.mv_bool rfl rfl rfl ?_
  refine Ops.nil ?_
  refine thenQ_n ?_
  refine Cd.seq ?_
  refine Cd.region ?_
  refine Ops.mv_int rfl rfl rfl ?_
  refine Ops.nil ?_
  refine thenQ_n ?_
  refine Cd.seq ?_
  refine Cd.region ?_
  -- stop: LOAD 27 t1=aM -> 9
  refine Ops.ld_agg 0 (hS.rd 0 rfl) rfl rfl rfl ?_
  refine Ops.mv_int rfl rfl rfl ?_
  -- stop: CALL laws.szManiplex(t9, t10) -> 11
  refine Ops.call (szManiplex_c A n c rs xss 1048576 _ (hS.oldRows hR) hn (by omega)) rfl rfl rfl ?_
  rintro _ w2 ⟨rfl, hst⟩
  have hS := hS.later hst.below
  refine Ops.mv_int rfl rfl rfl ?_
  refine Ops.nil ?_
  refine thenQ_n ?_
  refine Cd.seq ?_
  refine Cd.seq ?_
  refine Cd.region ?_
  refine Ops.mv_int rfl rfl rfl ?_
  refine Ops.lss rfl rfl rfl ?_
  refine Ops.nil ?_
  refine thenQ_n ?_
  -- stop: cond
  refine Cd.cond_p _ rfl (fun h1 => ?_) (fun h1 => ?_)
  · refine Cd.seq ?_
    refine Cd.region ?_
    refine Ops.mv_bool rfl rfl rfl ?_
    refine Ops.nil ?_
    refine thenQ_n ?_
    refine Cd.ret ?_
    refine thenQ_r ?_
    refine ret1_b rfl ?_
    -- stop: end
    exact ⟨rfl, hS.none⟩
  have hfit := fits_of hR.top.1 (by omega) (Int.not_lt.1 h1)
  refine Cd.skip ?_
  refine thenQ_n ?_
  refine Cd.seq ?_
  refine Cd.region ?_
  -- stop: LOAD 27 t1=aM -> 15
  refine Ops.ld_agg 0 (hS.rd 0 rfl) rfl rfl rfl ?_
  refine Ops.call (toManiplex_c A n c rs xss _ (hS.oldRows hR) hfit) rfl rfl rfl ?_
  rintro _ w3 ⟨A1, rs1, rfl, hrl1, hst1⟩
  refine Ops.call (specGraphDiameter_c A1 n n rs1 xss _ (St.rowsI (ks := []) (by rwa [List.append_nil]) hxl) hn) rfl rfl rfl ?_
  rintro _ w4 ⟨rfl, hst2⟩
  have hS4 := (hS.later hst1.below).later hst2.below
  refine Ops.mv_tup rfl rfl rfl ?_
  refine Ops.extract rfl rfl rfl ?_
  refine Ops.extract rfl rfl rfl ?_
  refine Ops.mv_int rfl rfl rfl ?_
  refine Ops.mv_int rfl rfl rfl ?_
  refine Ops.nil ?_
  refine thenQ_n ?_
  refine Cd.seq ?_
  refine Cd.region ?_
  -- stop: LOAD 27 t1=aM -> 20
  refine Ops.ld_agg 0 (hS4.rd 0 rfl) rfl rfl rfl ?_
  refine Ops.call (toManiplex_c A n c rs xss _ (hS4.oldRows hR) hfit) rfl rfl rfl ?_
  rintro _ w5 ⟨A2, rs2, rfl, hrl2, hst3⟩
  have hS5 := hS4.call2 hst3
  refine Ops.new1 hS5 rfl ?_
  intro A6 w6 hS6
  refine Ops.st_agg 1 0 hS6 rfl rfl rfl rfl rfl rfl rfl ?_
  intro w7 hS7
  have hS7 : St w w7 ([Bx 32 1 A6 [.slice A2 n n], Bx 27 1 Ab [.slice A n c]] ++ mat 39 2 A2 n n rs2 xss) := hS7
  refine Ops.nil ?_
  refine thenQ_n ?_
  refine Cd.seq ?_
  refine Cd.region ?_
  -- stop: LOAD 32 t6=x0 -> 23
  refine Ops.ld_agg 0 (hS7.rd 0 rfl) rfl rfl rfl ?_
  refine Ops.call (implGraphDiameter_c A2 n n rs2 xss _ ((hS7.matNil.sub (List.sublist_append_right _ _)).rowsI hxl) (Nat.le_refl _) hn) rfl rfl rfl ?_
  rintro _ w8 ⟨rfl, hst4⟩
  have hS8 := (hS7.later hst4.below).matNil (pre := [_, _])
  refine Ops.mv_tup rfl rfl rfl ?_
  refine Ops.extract rfl rfl rfl ?_
  refine Ops.extract rfl rfl rfl ?_
  refine Ops.mv_int rfl rfl rfl ?_
  refine Ops.mv_int rfl rfl rfl ?_
  refine Ops.nil ?_
  refine thenQ_n ?_
  refine Cd.seq ?_
  refine Cd.seq ?_
  refine Cd.region ?_
  refine Ops.mv_int rfl rfl rfl ?_
  refine Ops.mv_int rfl rfl rfl ?_
  refine Ops.neq rfl rfl rfl ?_
  refine Ops.mv_bool rfl rfl rfl ?_
  -- stop: guard 30
  refine Ops.split_p 30 rfl (fun h => absurd rfl h) (fun _ => ?_) --f
  refine Ops.rung rfl rfl rfl ?_
  refine Ops.mv_int rfl rfl rfl ?_
  refine Ops.rung rfl rfl rfl ?_
  refine Ops.mv_int rfl rfl rfl ?_
  refine Ops.rung rfl rfl rfl ?_
  refine Ops.neq rfl rfl rfl ?_
  refine Ops.pick_f rfl rfl rfl ?_
  refine Ops.nil ?_
  refine thenQ_n ?_
  -- stop: cond
  refine Cd.cond_pf rfl (fun h => h rfl) ?_
  refine Cd.skip ?_
  refine thenQ_n ?_
  refine Cd.seq ?_
  refine Cd.seq ?_
  -- stop: draw
  have hM8 := (hS8.sub (List.sublist_append_right _ _)).rowsI hxl
  have hR8 := hS8.oldRows hR
  refine Cd.draw [.ex (.agg #[.slice (A2) (n) (n)]), .ex (.agg #[.slice (A) (n) (c)]), .pr (fun v w' => ∃ D rd, v = .agg #[.slice D n n] ∧ RowsI w' D n rd xss), .ex (.bool (true)), .ex (.bool (false))] (by kernel_rfl) (by kernel_rfl) rfl (List.forall_mem_cons.2 ⟨Yd.lasts_ex _, (List.forall_mem_cons.2 ⟨Yd.lasts_ex _, (List.forall_mem_cons.2 ⟨Yd.lasts_pr (fun v w w' h hb => by obtain ⟨D, rd, hv, h1⟩ := h; exact ⟨D, rd, hv, h1.later hb⟩), (List.forall_mem_cons.2 ⟨Yd.lasts_ex _, (List.forall_mem_cons.2 ⟨Yd.lasts_ex _, (fun _ h => by cases h)⟩)⟩)⟩)⟩)⟩) ⟨?_, ?_, ?_, ?_, ?_, trivial⟩ ?_
  · intro e1 w1 hb hp hun
    refine Ops.ld_agg 0 ((hS8.rd 0 rfl).below hb) rfl rfl rfl ?_
    refine Ops.nil ?_
    exact After.dn (Below.refl _ _) (by exact rfl)
  · intro e1 w1 hb hp hun
    refine Ops.ld_agg 0 ((hS8.rd 1 rfl).below hb) rfl rfl rfl ?_
    refine Ops.nil ?_
    exact After.dn (Below.refl _ _) (by exact rfl)
  · intro e1 w1 hb hp hun
    refine Ops.call (toManiplex_c A n c rs xss _ (hR8.later hb) hfit) rfl rfl rfl ?_
    rintro _ w2 ⟨D, rd, rfl, hrd, hst⟩
    refine Ops.nil ?_
    exact After.dn hst.below ⟨D, rd, rfl, St.rowsI (ks := []) (by rwa [List.append_nil]) hxl⟩
  · intro e1 w1 hb hp hun
    obtain ⟨D, rd, h43, h1⟩ := (hp 2 (by decide) rfl _ _ rfl rfl)
    refine Ops.call (eqManiplex_c A2 n n rs2 xss D n n rd xss _ (hM8.later hb) h1 hn) rfl (by exact congrArg (fun v => [Value.agg #[.slice A2 n n], v]) h43) rfl ?_
    rintro _ w2 ⟨rfl, hst⟩
    refine Ops.nil ?_
    exact After.dn hst.below (by exact congrArg Value.bool (decide_eq_true rfl))
  · intro e1 w1 hb hp hun
    refine Ops.not rfl rfl ?_
    refine Ops.nil ?_
    exact After.dn (Below.refl _ _) (by exact congrArg Value.bool (rfl))
  intro u w10 hb10 _
  have hS10 := hS8.later hb10
  refine thenQ_n ?_
  -- stop: cond
  refine Cd.cond_f rfl ?_
  refine Cd.skip ?_
  refine thenQ_n ?_
  refine Cd.seq ?_
  refine Cd.region ?_
  refine Ops.mv_bool rfl rfl rfl ?_
  refine Ops.nil ?_
  refine thenQ_n ?_
  refine Cd.ret ?_
  refine ret1_b rfl ?_
  -- stop: end
  exact ⟨rfl, hS10.none⟩
end Go.Proofs.Ytpdhjnacnmfbjaa.Vc
/-
  As the statement whose order Go leaves open, with properties of two operations' values together. Conditions: as each rule names them.
-/
namespace Go.Proofs.Ytpdhjnacnmfbjaa.Vc
open Go.RowKit

inductive Ye where
  | ex (v : Value)
  | pr (p : Value → World → Prop)
  | p2 (j : Nat) (p : Value → Value → World → Prop)
/-- the operations' values -/
def vl (l : List Oper) (e : Env) (k : Nat) : Value := match l[k]? with
  | some o => valOf o e
  | none => undef
def Ye.holds (uu : Nat → Value) : Ye → Value → World → Prop
  | .ex v, u, _ => u = v
  | .pr p, u, w => p u w
  | .p2 j p, u, w => p (uu j) u w
def Ye.lasts : Ye → Prop
  | .ex _ => True
  | .pr p => ∀ v w w', p v w → Below w.heap.size w w' → p v w'
  | .p2 _ p => ∀ a v w w', p a v w → Below w.heap.size w w' → p a v w'
theorem Ye.lasts_ex (v : Value) : (Ye.ex v).lasts := True.intro
theorem Ye.lasts_pr {p : Value → World → Prop} (h : ∀ v w w', p v w → Below w.heap.size w w' → p v w') : (Ye.pr p).lasts := h
theorem Ye.lasts_p2 {j : Nat} {p : Value → Value → World → Prop} (h : ∀ a v w w', p a v w → Below w.heap.size w w' → p a v w') : (Ye.p2 j p).lasts := h
def isExP : Ye → Bool
  | .ex _ => true
  | .pr _ => false
  | .p2 .. => false
def drawOkP (N : Nat) (l : List Oper) (ys : List Ye) (ms : List Nat) : Bool :=
  l.all (fun o => match o.dst with | some d => Nat.blt d N | none => true) && decide ((dsl l).Nodup) && (l.zipIdx.all fun p => (aft p.1).all fun ed => Nat.blt ed.on p.2) && Nat.beq l.length ys.length && (l.zip ys).all (fun p => p.1.dst.isSome || !isExP p.2) && decide ms.Nodup && ms.all (fun m => Nat.blt m l.length) && (ys.zipIdx.all fun p => !(isExP p.1) || !(ms.contains p.2)) && (ys.zipIdx.all fun p => match p.1 with | .p2 j _ => ancOf l l.length p.2 j && Nat.blt j l.length | _ => true)
def Ye.at_ (c ph : Nat) (uu : Nat → Value) : Ye → Value → World → Prop
  | .ex v, u, _ => u = v
  | .pr p, u, w => c = ph → p u w
  | .p2 j p, u, w => c = ph → p (uu j) u w
def endFrP : List Oper → List Ye → (Nat → Value) → Nat → List (Nat × Value)
  | o :: l, y :: ys, u, i => match o.dst, y with
    | some d, .ex v => (d, v) :: endFrP l ys u (i + 1)
    | some d, .pr _ => (d, u i) :: endFrP l ys u (i + 1)
    | some d, .p2 .. => (d, u i) :: endFrP l ys u (i + 1)
    | none, _ => endFrP l ys u (i + 1)
  | _, _, _, _ => []
def depFrP (l : List Oper) (ys : List Ye) : List Edge → List (Nat × Value)
  | [] => []
  | ed :: r => match ys[ed.on]?, (l[ed.on]?).bind (·.dst) with
    | some (.ex v), some d => (d, v) :: depFrP l ys r
    | _, _ => depFrP l ys r

section
variable {P : Program} {N : Nat} {e : Env} {w : World}
def AfterP (o : Oper) (y : Ye) (uu : Nat → Value) (e1 : Env) (w1 : World) : Env → World → Prop := fun e2 w2 => Below w1.heap.size w1 w2 ∧ y.holds uu (valOf o e2) w2 ∧ ∀ j, o.dst ≠ some j → e2 j = e1 j
def AfterU (o : Oper) (y : Ye) (uu : Nat → Value) (e1 : Env) : Env → World → Prop := fun e2 w2 => y.holds uu (valOf o e2) w2 ∧ ∀ j, o.dst ≠ some j → e2 j = e1 j
theorem AfterP.dn {o : Oper} {y : Ye} {uu : Nat → Value} {e1 : Env} {w1 w2 : World} {d : Nat} {v : Value} (hd : o.dst = some d) (hb : Below w1.heap.size w1 w2) (hv : y.holds uu v w2) : AfterP o y uu e1 w1 (upd e1 d v) w2 := by
  refine ⟨hb, ?_, fun j hj => upd_ne e1 v (fun h => hj (by rw [hd, h]))⟩
  unfold valOf; rw [hd]
  show y.holds uu (upd e1 d v d) w2
  rw [upd_at]; exact hv
theorem AfterU.dn {o : Oper} {y : Ye} {uu : Nat → Value} {e1 : Env} {w2 : World} {d : Nat} {v : Value} (hd : o.dst = some d) (hv : y.holds uu v w2) : AfterU o y uu e1 (upd e1 d v) w2 := by
  refine ⟨?_, fun j hj => upd_ne e1 v (fun h => hj (by rw [hd, h]))⟩
  unfold valOf; rw [hd]
  show y.holds uu (upd e1 d v d) w2
  rw [upd_at]; exact hv
theorem AfterU.st {o : Oper} {y : Ye} {uu : Nat → Value} {e1 : Env} {w2 : World} (hd : o.dst = none) (hv : y.holds uu undef w2) : AfterU o y uu e1 e1 w2 := by
  refine ⟨?_, fun j _ => rfl⟩
  unfold valOf; rw [hd]; exact hv

def StepP (P : Program) (N : Nat) (l : List Oper) (ys : List Ye) (ms : List Nat) (e : Env) (w : World) (i : Nat) (o : Oper) : Prop :=
  ∀ (e1 : Env) (w1 : World) (c : Nat), loOf l ms i ≤ c → c ≤ hiOf l ms i → (c = 0 → Below w.heap.size w w1) →
    (∀ (j : Nat) (y : Ye) (o' : Oper), ancOf l l.length i j = true → ys[j]? = some y → l[j]? = some o' → y.at_ c (phOf l ms j) (vl l e1) (valOf o' e1) w1) →
    (∀ (j : Nat) (o' : Oper), l[j]? = some o' → ancOf l l.length j i = true → valOf o' e1 = valOf o' e) →
    (∀ (m : Nat) (y : Ye) (o' : Oper), memb ms m = true → chainAt l ms m = true → phOf l ms m = c → ys[m]? = some y → l[m]? = some o' → y.at_ c (phOf l ms m) (vl l e1) (valOf o' e1) w1) →
    bif memb ms i then Ops P N l.toArray (AfterU o (ys.getD i (.pr fun _ _ => True)) (vl l e1) (ext (mix e1 e (dsl l)) (depFrP l ys (aft o)))) [o] (ext (mix e1 e (dsl l)) (depFrP l ys (aft o))) w1
    else Ops P N l.toArray (AfterP o (ys.getD i (.pr fun _ _ => True)) (vl l e1) (ext (mix e1 e (dsl l)) (depFrP l ys (aft o))) w1) [o] (ext (mix e1 e (dsl l)) (depFrP l ys (aft o))) w1
def StepsP (P : Program) (N : Nat) (l : List Oper) (ys : List Ye) (ms : List Nat) (e : Env) (w : World) : Nat → List Oper → Prop
  | _, [] => True
  | i, o :: r => StepP P N l ys ms e w i o ∧ StepsP P N l ys ms e w (i + 1) r
theorem StepsP.get {l : List Oper} {ys : List Ye} {ms : List Nat} : ∀ {r : List Oper} {i : Nat}, StepsP P N l ys ms e w i r → ∀ k o, r[k]? = some o → StepP P N l ys ms e w (i + k) o
  | [], _, _, k, o, hk => by simp at hk
  | x :: r, i, h, 0, o, hk => by simp at hk; subst hk; exact h.1
  | x :: r, i, h, k + 1, o, hk => by
    have := StepsP.get h.2 k o (by simpa using hk)
    rw [show i + 1 + k = i + (k + 1) by omega] at this
    exact this

theorem depFrP_mt {l : List Oper} {ys : List Ye} {e1 : Env} : ∀ (af : List Edge), (∀ ed ∈ af, ∀ (v : Value) (o' : Oper), ys[ed.on]? = some (.ex v) → l[ed.on]? = some o' → valOf o' e1 = v) → Mt e1 (depFrP l ys af)
  | [], _ => trivial
  | ed :: r, h => by
    have hr := depFrP_mt r (fun x hx => h x (List.mem_cons_of_mem _ hx))
    unfold depFrP
    split
    · rename_i v d hy hd
      refine ⟨?_, hr⟩
      cases ho : l[ed.on]? with
      | none => rw [ho] at hd; cases hd
      | some o' =>
        rw [ho] at hd
        have hd' : o'.dst = some d := hd
        have := h ed (by simp) v o' hy ho
        unfold valOf at this
        rw [hd'] at this
        exact this
    · exact hr

theorem endFrP_eq {e1 e : Env} : ∀ (l : List Oper) (ys : List Ye) (i : Nat), l.length = ys.length → (dsl l).Nodup → (∀ (k : Nat) (v : Value) (o : Oper), ys[k]? = some (.ex v) → l[k]? = some o → valOf o e1 = v ∨ o.dst = none) →
    ∃ u : Nat → Value, ext e (endFrP l ys u i) = mix e1 e (dsl l) ∧ (∀ (k : Nat) (o : Oper), l[k]? = some o → u (i + k) = valOf o e1)
  | [], [], i, _, _, _ => ⟨fun _ => undef, by funext j; rfl, fun k o h => by simp at h⟩
  | [], y :: ys, i, hl, _, _ => by simp at hl
  | o :: l, [], i, hl, _, _ => by simp at hl
  | o :: l, y :: ys, i, hl, hn, h => by
    have hn' : (dsl l).Nodup := by
      unfold dsl at hn ⊢
      rw [List.filterMap_cons] at hn
      split at hn
      · exact hn
      · exact (List.nodup_cons.1 hn).2
    obtain ⟨u, hu, hu2⟩ := endFrP_eq (e1 := e1) (e := e) l ys (i + 1) (by simpa using hl) hn' (fun k v o' hy ho => h (k + 1) v o' (by simpa using hy) (by simpa using ho))
    have cng : ∀ (l : List Oper) (ys : List Ye) (i : Nat) (u u' : Nat → Value), (∀ k, i ≤ k → u k = u' k) → endFrP l ys u i = endFrP l ys u' i := by
      intro l
      induction l with
      | nil => intros; rfl
      | cons o l ih =>
        intro ys i u u' hk
        cases ys with
        | nil => rfl
        | cons y ys =>
          have h1 := ih ys (i + 1) u u' (fun k hk' => hk k (by omega))
          simp only [endFrP]
          rw [h1, hk i (by omega)]
    have hc := cng l ys (i + 1) (fun k => if k = i then valOf o e1 else u k) u (fun k hk => by show (if k = i then _ else _) = _; rw [if_neg (by omega)])
    refine ⟨fun k => if k = i then valOf o e1 else u k, ?_, fun k o' hk => ?_⟩
    · cases hd : o.dst with
      | none =>
        have e1' : dsl (o :: l) = dsl l := by unfold dsl; rw [List.filterMap_cons, hd]
        simp only [endFrP, hd, hc, hu, e1']
      | some d =>
        have e1' : dsl (o :: l) = d :: dsl l := by unfold dsl; rw [List.filterMap_cons, hd]
        have hval : valOf o e1 = e1 d := by unfold valOf; rw [hd]
        have hstep : ∀ v, v = e1 d → upd (mix e1 e (dsl l)) d v = mix e1 e (d :: dsl l) := by
          intro v hv
          funext j
          simp only [upd, mix, memb]
          cases hb : Nat.beq j d with
          | true => rw [Nat.eq_of_beq_eq_true hb, hv]; rfl
          | false => rfl
        rw [e1']
        cases y with
        | ex v =>
          have h0 := h 0 v o rfl rfl
          simp only [endFrP, hd, ext, hc, hu]
          refine hstep v ?_
          rcases h0 with h0 | h0
          · rw [← h0, hval]
          · rw [hd] at h0; cases h0
        | pr p =>
          simp only [endFrP, hd, ext, hc, hu, if_pos]
          exact hstep _ hval
        | p2 j p =>
          simp only [endFrP, hd, ext, hc, hu, if_pos]
          exact hstep _ hval
    · cases k with
      | zero => simp at hk; subst hk; simp
      | succ k =>
        have := hu2 k o' (by simpa using hk)
        show (if i + (k + 1) = i then _ else u (i + (k + 1))) = _
        rw [if_neg (by omega), ← this]; congr 1; omega


theorem Cd.drawP {id : Nat} {l : List Oper} {Q : Post} (ms : List Nat) (ys : List Ye) (hm : P.follows .mixedOrders = true) (hok : drawOkP N l ys ms = true) (hlasts : ∀ y ∈ ys, y.lasts)
    (hsteps : StepsP P N l ys ms e w 0 l) (hend : ∀ u w1, (ms = [] → Below w.heap.size w w1) → (∀ (k : Nat) (p : Value → World → Prop), ys[k]? = some (Ye.pr p) → phOf l ms k = ms.length → p (u k) w1) → (∀ (k j : Nat) (p : Value → Value → World → Prop), ys[k]? = some (Ye.p2 j p) → phOf l ms k = ms.length → p (u j) (u k) w1) → Q .normal (ext e (endFrP l ys u 0)) w1) : Cd P N (.region id l.toArray true) Q e w := .mk' fun a ha => by
  simp only [drawOkP, Bool.and_eq_true, List.all_eq_true, decide_eq_true_eq] at hok
  obtain ⟨⟨⟨⟨⟨⟨⟨⟨h1, h2⟩, h3⟩, hlen⟩, hnone⟩, hmn⟩, hml⟩, hmy⟩, hp2⟩ := hok
  have hp2' : ∀ (k j : Nat) (p : Value → Value → World → Prop), ys[k]? = some (.p2 j p) → ancOf l l.length k j = true ∧ j < l.length := by
    intro k j p hk
    have := hp2 (.p2 j p, k) (by rw [List.mem_iff_getElem?]; exact ⟨k, by simp [hk]⟩)
    simpa [Nat.blt_eq] using this
  have hlen' : l.length = ys.length := Nat.eq_of_beq_eq_true hlen
  have hback : ∀ (i : Nat) (o : Oper), l[i]? = some o → ∀ ed ∈ aft o, ed.on < i := by
    intro i o ho ed hed
    have := h3 (o, i) (by
      obtain ⟨hi, hio⟩ := List.getElem?_eq_some_iff.1 ho
      rw [List.mem_iff_getElem?]
      exact ⟨i, by simp [ho]⟩)
    simpa [Nat.blt_eq] using this ed hed
  have hdN : ∀ (i : Nat) (o : Oper) (d : Nat), l[i]? = some o → o.dst = some d → d < N := by
    intro i o d ho hd
    have := h1 o (List.mem_of_getElem? ho)
    rw [hd] at this
    simpa [Nat.blt_eq] using this
  have hexd : ∀ (i : Nat) (o : Oper) (v : Value), l[i]? = some o → ys[i]? = some (.ex v) → o.dst ≠ none := by
    intro i o v ho hy hd
    have := hnone (o, .ex v) (by
      rw [List.mem_iff_getElem?]
      exact ⟨i, by rw [List.getElem?_zip_eq_some]; exact ⟨ho, hy⟩⟩)
    simp [hd, isExP] at this
  refine wp_region_any hm ?_
  let cnt : Array Bool → Nat := fun listed => ms.countP fun m => listed.getD m false
  have key : ∀ (fuel : Nat) (listed : Array Bool) (a1 : Act) (e1 : Env) (w1 : World), Rep N a1 e1 → (cnt listed = 0 → Below w.heap.size w w1) → (∀ j, memb (dsl l) j = false → e1 j = e j) → listed.size = l.length →
      (∀ (i : Nat) (y : Ye) (o : Oper), listed.getD i false = true → ys[i]? = some y → l[i]? = some o → y.at_ (cnt listed) (phOf l ms i) (vl l e1) (valOf o e1) w1) → (∀ (i : Nat) (o : Oper), listed.getD i false = true → l[i]? = some o → ∀ ed ∈ aft o, listed.getD ed.on false = true) → (∀ (i : Nat) (o : Oper), listed.getD i false = false → l[i]? = some o → valOf o e1 = valOf o e) → (l.length - fuel ≤ (List.range l.length).countP fun i => listed.getD i false) →
      wpAny P .any l.toArray (low N Q) fuel listed a1 w1 := by
    have hfin : ∀ (listed : Array Bool) (a1 : Act) (e1 : Env) (w1 : World), Rep N a1 e1 → (cnt listed = 0 → Below w.heap.size w w1) → (∀ j, memb (dsl l) j = false → e1 j = e j) →
        (∀ (i : Nat) (y : Ye) (o : Oper), listed.getD i false = true → ys[i]? = some y → l[i]? = some o → y.at_ (cnt listed) (phOf l ms i) (vl l e1) (valOf o e1) w1) → (∀ i, i < l.length → listed.getD i false = true) → low N Q .normal a1 w1 := by
      intro listed a1 e1 w1 hr hb hag hS hall
      have hcnt : cnt listed = ms.length := by
        show ms.countP _ = ms.length
        rw [List.countP_eq_length]
        intro m hmm
        exact hall m (by simpa [Nat.blt_eq] using hml m hmm)
      obtain ⟨u, hu, hu2⟩ := endFrP_eq (e1 := e1) (e := e) l ys 0 hlen' h2 (fun k v o hy ho => .inl (hS k _ o (hall k (List.getElem?_eq_some_iff.1 ho).1) hy ho))
      refine ⟨e1, hr, ?_⟩
      have := hend u w1 (fun h0 => hb (by rw [hcnt, h0]; rfl)) (fun k p hk hph => by
        have hkl : k < l.length := by rw [hlen']; exact (List.getElem?_eq_some_iff.1 hk).1
        have h5 := hS k _ l[k] (hall k hkl) hk (List.getElem?_eq_getElem hkl)
        have h6 := hu2 k l[k] (List.getElem?_eq_getElem hkl)
        rw [Nat.zero_add] at h6
        rw [h6]; exact h5 (by rw [hcnt, hph])) (fun k j p hk hph => by
        have hkl : k < l.length := by rw [hlen']; exact (List.getElem?_eq_some_iff.1 hk).1
        have hj := hp2' k j p hk
        have h5 := hS k _ l[k] (hall k hkl) hk (List.getElem?_eq_getElem hkl)
        have h6 := hu2 k l[k] (List.getElem?_eq_getElem hkl)
        have h7 := hu2 j l[j] (List.getElem?_eq_getElem hj.2)
        rw [Nat.zero_add] at h6 h7
        have h8 : vl l e1 j = valOf l[j] e1 := by unfold vl; rw [List.getElem?_eq_getElem hj.2]
        rw [h6, h7, ← h8]; exact h5 (by rw [hcnt, hph]))
      rw [hu, mix_eq hag] at this
      exact this
    have hready : ∀ (listed : Array Bool), listed.size = l.length → Region.ready .any l.toArray listed = [] → ∀ i, i < l.length → listed.getD i false = true := by
      intro listed hsz hnil i
      induction i using Nat.strongRecOn with
      | _ i ih =>
        intro hi
        cases hli : listed.getD i false with
        | true => rfl
        | false =>
          exfalso
          have : i ∈ Region.ready .any l.toArray listed := by
            rw [mem_ready]
            refine ⟨?_, l[i], by simp [hi], fun ed hed hbd => ih ed.on (hback i _ (List.getElem?_eq_getElem hi) ed (mem_aft.2 ⟨hed, hbd⟩)) (by have := hback i _ (List.getElem?_eq_getElem hi) ed (mem_aft.2 ⟨hed, hbd⟩); omega)⟩
            rw [Array.getD_eq_getD_getElem?, Array.getElem?_eq_getElem (by omega)] at hli ⊢
            exact hli
          rw [hnil] at this
          cases this
    intro fuel
    induction fuel with
    | zero =>
      intro listed a1 e1 w1 hr hb hag hsz hS hcl hun0 hcnt
      have hall : ∀ i, i < l.length → listed.getD i false = true := by
        have h4 : (List.range l.length).countP (fun i => listed.getD i false) = (List.range l.length).length := by
          have := List.countP_le_length (p := fun i => listed.getD i false) (l := List.range l.length)
          simp at this hcnt ⊢; omega
        rw [List.countP_eq_length] at h4
        intro i hi
        exact h4 i (by simpa using hi)
      refine ⟨?_, hfin listed a1 e1 w1 hr hb hag hS hall⟩
      rw [List.eq_nil_iff_forall_not_mem]
      intro i hi
      obtain ⟨h5, o, ho, _⟩ := mem_ready.1 hi
      have hil : i < l.length := by
        rcases Nat.lt_or_ge i l.length with h | h
        · exact h
        · simp [List.getElem?_eq_none h] at ho
      have h6 := hall i hil
      rw [Array.getD_eq_getD_getElem?, Array.getElem?_eq_getElem (by omega)] at h5 h6
      simp at h5 h6
      rw [h5] at h6; cases h6
    | succ fuel ih =>
      intro listed a1 e1 w1 hr hb hag hsz hS hcl hun0 hcnt
      refine ⟨fun hnil => hfin listed a1 e1 w1 hr hb hag hS (hready listed hsz hnil), fun i hi => ?_⟩
      obtain ⟨hun, o, ho, haf⟩ := mem_ready.1 hi
      have ho' : l[i]? = some o := by simpa using ho
      have hil : i < l.length := (List.getElem?_eq_some_iff.1 ho').1
      have hrd : ∀ ed ∈ aft o, listed.getD ed.on false = true := fun ed hed => haf ed (mem_aft.1 hed).1 (mem_aft.1 hed).2
      have hun' : listed.getD i false = false := by
        have h5 := hun
        rw [Array.getD_eq_getD_getElem?, Array.getElem?_eq_getElem (by omega)] at h5 ⊢
        exact h5
      have hgs : ∀ k, (listed.setIfInBounds i true).getD k false = if k = i then true else listed.getD k false := by
        intro k
        rw [Array.getD_eq_getD_getElem?, Array.getElem?_setIfInBounds]
        by_cases hki : k = i
        · subst hki; rw [if_pos rfl, if_pos (by omega), if_pos rfl]; rfl
        · rw [if_neg (fun e => hki e.symm), if_neg hki, ← Array.getD_eq_getD_getElem?]
      have hlo : loOf l ms i ≤ cnt listed := countP_le_of fun m _ h => ancOf_ready hcl ho' hrd _ _ h
      have hhi : cnt listed ≤ hiOf l ms i := countP_le_of fun m _ h => by
        have hne : Nat.beq m i = false := by
          cases hb : Nat.beq m i with
          | false => rfl
          | true => rw [Nat.eq_of_beq_eq_true hb, hun'] at h; cases h
        have han : ancOf l l.length m i = false := by
          cases hb : ancOf l l.length m i with
          | false => rfl
          | true => have := ancOf_listed hcl _ _ _ hb h; rw [hun'] at this; cases this
        simp [hne, han]
      have hph : ∀ (j : Nat), listed.getD j false = true → phOf l ms j ≤ cnt listed := fun j hj => countP_le_of fun m _ h => by
        rw [Bool.or_eq_true] at h
        rcases h with h | h
        · rw [Nat.eq_of_beq_eq_true h]; exact hj
        · exact ancOf_listed hcl _ _ _ h hj
      have hst := hsteps.get i o ho' e1 w1 (cnt listed)
      rw [Nat.zero_add] at hst
      have hst := hst hlo hhi hb (fun j y o' han hy hoj => hS j y o' (ancOf_ready hcl ho' hrd _ _ han) hy hoj) (fun j o' hj han => by
        refine hun0 j o' ?_ hj
        cases hlj : listed.getD j false with
        | false => rfl
        | true => have := ancOf_listed hcl _ _ _ han hlj; rw [hun'] at this; cases this) (fun m y o' hm hch hphm hy hom => by
        refine hS m y o' ?_ hy hom
        cases hlm : listed.getD m false with
        | true => rfl
        | false =>
          exfalso
          have h8 := countP_one (fun k => listed.getD k false) (fun k => if k = m then true else listed.getD k false) m hlm (fun k => rfl) ms hmn (memb_iff.1 hm)
          have h9 : ms.countP (fun k => if k = m then true else listed.getD k false) ≤ phOf l ms m := countP_le_of fun m' hm' h => by
            by_cases e : m' = m
            · rw [e, Nat.beq_refl]; rfl
            · rw [if_neg e] at h
              simp only [chainAt, List.all_eq_true] at hch
              have h10 := hch m' hm'
              cases h11 : ancOf l l.length m m' with
              | true => rw [Bool.or_true]
              | false =>
                rw [h11, Bool.or_false, Bool.or_eq_true] at h10
                rcases h10 with h10 | h10
                · exact absurd (Nat.eq_of_beq_eq_true h10) e
                · have := ancOf_listed hcl _ _ _ h10 h
                  rw [hlm] at this; cases this
          have h12 : ms.countP (fun k => listed.getD k false) = cnt listed := rfl
          omega)
      rw [mix_eq hag, ext_of_mt (depFrP_mt (aft o) (fun ed hed v o' hy hoj => hS ed.on _ o' (hrd ed hed) hy hoj))] at hst
      let turns : Prop := memb ms i = true
      let KK : Env → World → Prop := fun e2 w2 => (memb ms i = false → Below w1.heap.size w1 w2) ∧ (ys.getD i (.pr fun _ _ => True)).holds (vl l e1) (valOf o e2) w2 ∧ ∀ j, o.dst ≠ some j → e2 j = e1 j
      have hwl' : ∃ K : Env → World → Prop, (∀ e2 w2, K e2 w2 → KK e2 w2) ∧ Ops P N l.toArray K [o] e1 w1 := by
        cases hmi : memb ms i with
        | true =>
          rw [hmi] at hst
          exact ⟨_, fun e2 w2 h => ⟨fun h0 => (by rw [hmi] at h0; cases h0), h.1, h.2⟩, hst⟩
        | false =>
          rw [hmi] at hst
          exact ⟨_, fun e2 w2 h => ⟨fun _ => h.1, h.2.1, h.2.2⟩, hst⟩
      obtain ⟨K, hKK, hst'⟩ := hwl'
      have hwl := hst'.run a1 hr
      have hcnt' : cnt (listed.setIfInBounds i true) = if memb ms i = true then cnt listed + 1 else cnt listed := by
        show ms.countP _ = _
        by_cases hmi : memb ms i = true
        · rw [if_pos hmi]
          exact countP_one (fun m => listed.getD m false) (fun m => (listed.setIfInBounds i true).getD m false) i hun' hgs ms hmn (memb_iff.1 hmi)
        · rw [if_neg hmi]
          refine List.countP_congr fun m hmm => ?_
          rw [hgs, if_neg (fun e => hmi (memb_iff.2 (by rw [← e]; exact hmm)))]
      have hnext : ∀ a2 w2, (∃ e2, Rep N a2 e2 ∧ K e2 w2) → wpAny P .any l.toArray (low N Q) fuel (listed.setIfInBounds i true) a2 w2 := by
        intro a2 w2 ⟨e2, hr2, hK2⟩
        obtain ⟨hbl, hy2, hag2⟩ := hKK _ _ hK2
        have hother : ∀ (k : Nat) (o' : Oper), l[k]? = some o' → k ≠ i → valOf o' e2 = valOf o' e1 := by
          intro k o' hok hki
          unfold valOf
          cases hd : o'.dst with
          | none => rfl
          | some d => exact hag2 d (fun h => hki (filterMap_inj _ l h2 k i o' o d hok ho' hd h))
        have hvl : ∀ j, j ≠ i → vl l e2 j = vl l e1 j := by
          intro j hj
          unfold vl
          cases hoj : l[j]? with
          | none => rfl
          | some o' => exact hother j o' hoj hj
        refine ih _ a2 e2 w2 hr2 (fun h0 => ?_) (fun j hj => ?_) (by simpa using hsz) (fun k y o' hk hy hok => ?_) (fun k o' hk hok ed hed => ?_) (fun k o' hk hok => ?_) ?_
        · rw [hcnt'] at h0
          by_cases hmi : memb ms i = true
          · rw [if_pos hmi] at h0; omega
          · rw [if_neg hmi] at h0
            have := hbl (by simpa using hmi)
            exact (hb h0).trans (this.mono (hb h0).size)
        · have hne : o.dst ≠ some j := by
            intro hd
            have : memb (dsl l) j = true := by rw [memb_iff]; exact List.mem_filterMap.2 ⟨o, List.mem_of_getElem? ho', hd⟩
            rw [this] at hj; cases hj
          rw [hag2 j hne]; exact hag j hj
        · by_cases hki : k = i
          · subst hki
            rw [ho'] at hok
            cases hok
            have : ys.getD k (.pr fun _ _ => True) = y := by simp [List.getD_eq_getElem?_getD, hy]
            rw [this] at hy2
            cases y with
            | ex v => exact hy2
            | pr p => exact fun _ => hy2
            | p2 j p =>
              have hj := hp2' k j p hy
              have hlj : listed.getD j false = true := ancOf_ready hcl ho' hrd _ _ hj.1
              have hji : j ≠ k := fun e => by rw [e, hun'] at hlj; cases hlj
              exact fun _ => by rw [hvl j hji]; exact hy2
          · have hk' : listed.getD k false = true := by rw [hgs, if_neg hki] at hk; exact hk
            have h7 := hS k y o' hk' hy hok
            rw [hother k o' hok hki]
            cases y with
            | ex v => exact h7
            | pr p =>
              intro hc
              rw [hcnt'] at hc
              by_cases hmi : memb ms i = true
              · rw [if_pos hmi] at hc
                have := hph k hk'
                omega
              · rw [if_neg hmi] at hc
                have hl := hlasts _ (List.mem_of_getElem? hy)
                exact hl _ _ _ (h7 hc) (hbl (by simpa using hmi))
            | p2 j p =>
              have hj := hp2' k j p hy
              have hlj : listed.getD j false = true := ancOf_listed hcl _ _ _ hj.1 hk'
              have hji : j ≠ i := fun e => by rw [e, hun'] at hlj; cases hlj
              intro hc
              rw [hvl j hji]
              rw [hcnt'] at hc
              by_cases hmi : memb ms i = true
              · rw [if_pos hmi] at hc
                have := hph k hk'
                omega
              · rw [if_neg hmi] at hc
                have hl := hlasts _ (List.mem_of_getElem? hy)
                exact hl _ _ _ _ (h7 hc) (hbl (by simpa using hmi))
        · rw [hgs]
          by_cases hei : ed.on = i
          · rw [if_pos hei]
          · rw [if_neg hei]
            by_cases hki : k = i
            · subst hki
              rw [ho'] at hok; cases hok
              exact hrd ed hed
            · rw [hgs, if_neg hki] at hk
              exact hcl k o' hk hok ed hed
        · rw [hgs] at hk
          by_cases hki : k = i
          · rw [if_pos hki] at hk; cases hk
          · rw [if_neg hki] at hk
            rw [hother k o' hok hki]
            exact hun0 k o' hk hok
        · have hcount : (List.range l.length).countP (fun k => (listed.setIfInBounds i true).getD k false) = (List.range l.length).countP (fun k => listed.getD k false) + 1 :=
            countP_one (fun k => listed.getD k false) (fun k => (listed.setIfInBounds i true).getD k false) i hun' hgs _ List.nodup_range (by simpa using hil)
          rw [hcount]; omega
      unfold wpOp
      rw [ho]
      unfold wpList at hwl
      show if _ then _ else _
      by_cases hw : Region.wanted o (yielded l.toArray a1.tmps) = true
      · rw [if_pos hw] at hwl ⊢
        rcases hwl with h5 | ⟨_, a0, w0, h5⟩
        · refine .inl (Oper.wp_conv h5 (fun a2 w2 hx => ?_) (fun x a w hx hq => hx hq.1))
          exact hnext a2 w2 hx.2
        · exact absurd h5.1 (by simp)
      · rw [if_neg hw] at hwl ⊢
        exact hnext _ _ hwl.2
  refine key l.length (Array.replicate l.length false) a e _ ha (fun _ => ⟨rfl, rfl, rfl, Nat.le_refl _, fun _ _ => rfl⟩) (fun _ _ => rfl) (by simp) (fun i y o hi => ?_) (fun i o hi => ?_) (fun _ _ _ _ => rfl) (by omega)
  · exfalso
    rw [Array.getD_eq_getD_getElem?, Array.getElem?_replicate] at hi
    split at hi <;> simp at hi
  · exfalso
    rw [Array.getD_eq_getD_getElem?, Array.getElem?_replicate] at hi
    split at hi <;> simp at hi
end
end Go.Proofs.Ytpdhjnacnmfbjaa.Vc
