/-
  The ends of edges on the program's side, and the answers on both. Conditions: as each states them.
-/
import Derived.Test.YtpdhjnacnmfbjaaD4
namespace Go.Proofs.Ytpdhjnacnmfbjaa.Vc
open Go.RowKit

/-- the answer: a list of lists in memory of its own, and a code -/
def AnsSS (L : List (List Int)) (K : Int) (w : World) (v : Value) (w' : World) : Prop := ∃ A' c' rs', v = .tuple #[.slice A' L.length c', .int .i64 K] ∧ rs'.length = L.length ∧ St w w' (mat 39 2 A' L.length c' rs' L ++ [])
theorem AnsSS.none {w w' : World} {ks : List Ck} {K : Int} (h : St w w' ks) : AnsSS [] K w (.tuple #[.slice Option.none 0 0, .int .i64 K]) w' := ⟨Option.none, 0, [], rfl, rfl, h.none.nil _⟩

def eoeL (xss : List (List Int)) : List (List Int) := if Grph xss then endsL xss else []

theorem specEndsOfEdges_c (A : Option Addr) (n c : Nat) (rs : List SlV) (xss : List (List Int)) (w : World) (hR : RowsI w A n rs xss) (hn : n ≤ 9223372036854775807) :
    Ret Try.prog 38 [.agg #[.slice A n c]] w (AnsSS (eoeL xss) (petrieK xss) w) := by
  have hl := hR.len
  refine Ret.of_cd Try.func38 rfl Try.ntmps38 rfl (post2 rfl) ?_
  refine Cd.seq ?_
  refine Cd.region ?_
  -- stop: BOX 32 t0=m -> 1
  refine Ops.box1 (St.refl w) rfl rfl ?_
  intro Ab w1 hS1
  refine Ops.mv_sl rfl rfl rfl ?_
  refine Ops.mv_int rfl rfl rfl ?_
  refine Ops.nil ?_
  refine thenQ_n ?_
  refine Cd.seq ?_
  refine Cd.seq ?_
  refine Cd.region ?_
  -- stop: LOAD 32 t1=m -> 4
  refine Ops.ld_agg 0 (hS1.rd 0 rfl) rfl rfl rfl ?_
  refine Ops.call (l18Is_c A n c rs xss _ (hS1.oldRows hR) hn) rfl rfl rfl ?_
  rintro _ w2 ⟨rfl, hst⟩
  have hS2 := hS1.later hst.below
  first | refine Ops.not_p rfl rfl ?_ | refine Ops.not rfl rfl ?_
  refine Ops.nil ?_
  refine thenQ_n ?_
  -- stop: cond
  refine Cd.cond_p _ rfl (fun h => ?_) (fun h => ?_)
  · refine Cd.seq ?_
    refine Cd.region ?_
    refine Ops.mv_sl rfl rfl rfl ?_
    refine Ops.mv_int rfl rfl rfl ?_
    refine Ops.nil ?_
    refine thenQ_n ?_
    refine Cd.ret ?_
    refine thenQ_r ?_
    refine ret2_si rfl rfl ?_
    -- stop: end
    rw [petrieK, if_neg h, eoeL, if_neg h]
    exact AnsSS.none hS2
  · have hG : Grph xss := Classical.not_not.1 h
    refine Cd.skip ?_
    refine thenQ_n ?_
    refine Cd.seq ?_
    refine Cd.region ?_
    -- stop: LOAD 32 t1=m -> 7
    refine Ops.ld_agg 0 (hS2.rd 0 rfl) rfl rfl rfl ?_
    refine Ops.call (l18Ends_c A n c rs xss _ (hS2.oldRows hR) hG) rfl rfl rfl ?_
    rintro _ w3 ⟨A3, rs3, rfl, hrl, hst⟩
    have hS3 := hS2.none.call hst
    refine Ops.mv_sl rfl rfl rfl ?_
    refine Ops.mv_int rfl rfl rfl ?_
    refine Ops.nil ?_
    refine thenQ_n ?_
    refine Cd.ret ?_
    refine ret2_si rfl rfl ?_
    -- stop: end
    rw [petrieK, if_pos hG, eoeL, if_pos hG]
    refine ⟨A3, edgesN xss, rs3, by rw [endsL_len], by rw [endsL_len]; exact hrl, ?_⟩
    rw [endsL_len]
    rwa [List.append_nil] at hS3

theorem bag_pos {Vl El : List Int} {m : Nat} : ∀ f, (∀ k : Nat, k < f → 0 ≤ gi El k ∧ gi El k < m) → ∀ e : Int, 0 ≤ e → (∃ k : Nat, k < f ∧ gi El k = e) → 0 < (gl (bag Vl El m f) e).length
  | 0, _, e, _, ⟨k, hk, _⟩ => by omega
  | f + 1, h, e, he, ⟨k, hk, hke⟩ => by
    have hf := h f (by omega)
    rw [bag, gl_set2 e he (by rw [bag_len]; omega)]
    split
    · simp
    · rename_i hne
      refine bag_pos f (fun k hk => h k (by omega)) e he ⟨k, ?_, hke⟩
      by_cases ek : k = f
      · subst ek; omega
      · omega

/-- some rows turned, the others not yet -/
def mixL (B : List (List Int)) (e : Nat) : List (List Int) := (B.take e).map cs ++ B.drop e
theorem mixL_len (B : List (List Int)) (e : Nat) : (mixL B e).length = B.length := by simp [mixL]; omega
theorem mixL_zero (B : List (List Int)) : mixL B 0 = B := by simp [mixL]
theorem mixL_all (B : List (List Int)) : mixL B B.length = B.map cs := by simp [mixL]
theorem mixL_get {B : List (List Int)} {e : Nat} (h : e < B.length) : gl (mixL B e) (e : Int) = gl B (e : Int) := by
  simp only [gl, mixL, Int.toNat_natCast, List.getD_eq_getElem?_getD]
  rw [List.getElem?_append_right (by simp; omega)]
  simp [Nat.min_eq_left (Nat.le_of_lt h)]
theorem mixL_step {B : List (List Int)} {e : Nat} (h : e < B.length) : (mixL B e).set e (cs (gl B (e : Int))) = mixL B (e + 1) := by
  rw [gl_mem h]
  unfold mixL
  rw [List.set_append_right _ _ (by simp; omega), List.take_succ_eq_append_getElem h, List.map_append, List.append_assoc]
  have e1 : e - ((B.take e).map cs).length = 0 := by simp; omega
  rw [e1, List.drop_eq_getElem_cons h]
  rfl

theorem endsOf_c (A : Option Addr) (n c : Nat) (rs : List SlV) (xss : List (List Int)) (w : World) (hR : RowsI w A n rs xss) (hG : Grph xss) :
    Ret Try.prog 76 [.agg #[.slice A n c]] w (fun v w' => ∃ A' rs', v = .slice A' (edgesN xss) (edgesN xss) ∧ rs'.length = edgesN xss ∧ St w w' (mat 39 2 A' (edgesN xss) (edgesN xss) rs' (endsL xss) ++ [])) := by
  have hl := hR.len
  have hM := hG.1
  have hn2 := hG.2
  have h5 := hM.1
  have h40 := hM.2.1
  have hfn := facesN_le xss 1
  have hVl := facesL_len xss 0
  have hEl := facesL_len xss 1
  have hE : ∀ f : Nat, f < (gl xss 0).length → 0 ≤ gi (facesL xss 1) f ∧ gi (facesL xss 1) f < (edgesN xss : Int) := fun f hf => by
    have := faces_in hM 1 f hf
    unfold edgesN
    omega
  have hmN : ((edgesN xss : Nat) : Int) = facesN xss 1 := by unfold edgesN; omega
  have hhit : ∀ e : Nat, e < edgesN xss → ∃ f : Nat, f < (gl xss 0).length ∧ gi (facesL xss 1) f = (e : Int) := fun e he => faces_hit hM 1 e (by omega) (by omega)
  have hm4 : edgesN xss ≤ 400 := by omega
  have hend : endsL xss = ends (facesL xss 0) (facesL xss 1) (edgesN xss) (gl xss 0).length := rfl
  rw [hend]
  refine Ret.of_cd Try.func76 rfl Try.ntmps76 rfl (post1 rfl) ?_
  refine Cd.seq ?_
  refine Cd.region ?_
  -- stop: BOX 32 t0=m -> 1
  refine Ops.box1 (St.refl w) rfl rfl ?_
  intro Ab w1 hS1
  refine Ops.mv_sl rfl rfl rfl ?_
  refine Ops.nil ?_
  refine thenQ_n ?_
  refine Cd.seq ?_
  refine Cd.region ?_
  -- stop: CALL impl.Maniplex).faces(t1=m, 0) -> 12
  refine Ops.call (faces_c Ab A n c rs xss 0 _ (Rd.one (hS1.rd 0 rfl)) (hS1.oldRows hR) hM (by omega)) rfl rfl rfl ?_
  rintro _ w2 ⟨A3, rfl, hst⟩
  have hS2 := hS1.call hst
  refine Ops.mv_tup rfl rfl rfl ?_
  refine Ops.extract rfl rfl rfl ?_
  refine Ops.extract rfl rfl rfl ?_
  refine Ops.mv_sl rfl rfl rfl ?_
  refine Ops.mv_int rfl rfl rfl ?_
  refine Ops.nil ?_
  refine thenQ_n ?_
  refine Cd.seq ?_
  refine Cd.region ?_
  -- stop: CALL impl.Maniplex).faces(t1=m, 1) -> 16
  refine Ops.call (faces_c Ab A n c rs xss 1 _ (Rd.one (hS2.rd 1 rfl)) (hS2.oldRows hR) hM (by omega)) rfl rfl rfl ?_
  rintro _ w3 ⟨A5, rfl, hst⟩
  have hS3 := hS2.call hst
  have hV := hS3.rdI 1 rfl
  have hW := hS3.rdI 0 rfl
  have hB3 := hS3.none
  rw [← hmN]
  generalize hm : edgesN xss = m at *
  generalize hF : (gl xss 0).length = F at *
  generalize hVe : facesL xss 0 = Vl at *
  generalize hEe : facesL xss 1 = El at *
  refine Ops.mv_tup rfl rfl rfl ?_
  refine Ops.extract rfl rfl rfl ?_
  refine Ops.extract rfl rfl rfl ?_
  refine Ops.mv_sl rfl rfl rfl ?_
  refine Ops.mv_int rfl rfl rfl ?_
  refine Ops.nil ?_
  refine thenQ_n ?_
  refine Cd.seq ?_
  refine Cd.region ?_
  refine Ops.mv_int rfl rfl rfl ?_
  -- stop: MAKESLICE 25 t19 t19 -> 20
  refine Ops.mkR m (St.refl w3) rfl rfl (by omega) ?_
  intro A7 w4 hS4
  have hS4 : St w3 w4 (mat 39 2 A7 m m (List.replicate m slNil) (bag Vl El m 0) ++ []) := by
    rw [List.append_nil]
    exact nilRows m hS4
  refine Ops.mv_sl rfl rfl rfl ?_
  refine Ops.nil ?_
  refine thenQ_n ?_
  refine Cd.seq ?_
  refine Cd.seq ?_
  refine Cd.region ?_
  refine Ops.mv_sl rfl rfl rfl ?_
  refine Ops.len rfl rfl ?_
  refine Ops.mv_int rfl rfl rfl ?_
  refine Ops.nil ?_
  refine thenQ_n ?_
  refine Cd.block ?_
  -- stop: loop
  refine Cd.loop (α := Nat × List SlV) (fun z => [(3, .slice A3 F F), (7, .slice A7 m m), (21, .slice A5 F F), (22, .int .i64 (F : Int)), (23, .int .i64 (z.1 : Int))]) (fun z w' => St w3 w' (mat 39 2 A7 m m z.2 (bag Vl El m z.1) ++ []) ∧ z.1 ≤ F ∧ z.2.length = m) (fun z => F - z.1) (0, List.replicate m slNil) ⟨rfl, rfl, rfl, rfl, rfl, trivial⟩ ⟨hS4, Nat.zero_le _, by simp⟩ ?_
  rintro ⟨f, rs5⟩ e w5 ⟨hS5, hf, hrl⟩
  dsimp only at hS5 hf hrl ⊢
  refine Cd.seq ?_
  refine Cd.region ?_
  refine Ops.lss rfl rfl rfl ?_
  refine Ops.nil ?_
  refine thenQ_n ?_
  refine Cd.seq ?_
  -- stop: cond
  refine Cd.cond_p _ rfl (fun h1 => ?_) (fun h1 => ?_)
  · have hf' : f < F := by omega
    have hEf := hE f hf'
    have hV5 := hS5.oldI hV
    have hW5 := hS5.oldI hW
    have hbl := bag_len Vl El m f
    have hM5 := hS5.rowsI hbl
    have hrn := hM5.rowLen hEf.1 hEf.2
    have hrl2 := bag_row (Vl := Vl) (El := El) (m := m) f (fun k hk => hE k (by omega)) (gi El f) hEf.1
    have hget : (mat 39 2 A7 m m rs5 (bag Vl El m f) ++ [])[(gi El f).toNat + 1]? = some (CkI 2 (rg rs5 (gi El f)).a (rg rs5 (gi El f)).n (rg rs5 (gi El f)).c (gl (bag Vl El m f) (gi El f))) := by
      have := mat_get (t1 := 39) (t2 := 2) (A := A7) (n := m) (c := m) (rs := rs5) (xss := bag Vl El m f) (pre := []) (ks := []) (i := (gi El f).toNat) (by omega) (by omega)
      rw [show ([] : List Ck).length + 1 + (gi El f).toNat = (gi El f).toNat + 1 by simp; omega] at this
      exact this
    have hlt : (gi El f).toNat < m := by omega
    refine Cd.skip ?_
    refine thenQ_n ?_
    refine Cd.seq ?_
    refine Cd.block ?_
    refine Cd.seq ?_
    refine Cd.region ?_
    refine Ops.mv_int rfl rfl rfl ?_
    -- stop: INDEXADDR 39 t21 t23 -> 26
    refine Ops.idx hW5.2 rfl rfl rfl (by omega) (by omega) ?_
    refine Ops.ld_int hW5 rfl (by omega) rfl rfl ?_
    refine Ops.mv_int rfl rfl rfl ?_
    refine Ops.mv_int rfl rfl rfl ?_
    refine Ops.nil ?_
    refine thenQ_n ?_
    -- stop: draw
    refine Cd.drawN [11, 13] [.ex (.slice (A7) (m) (m)), .ex (.int .i64 (gi El (f : Int))), .ex (.slice (A7) (m) (m)), .ex (.int .i64 (gi El (f : Int))), .ex (.pointer (ptrAt (A7) (gi El (f : Int)).toNat)), .ex (.slice ((rg (rs5) (gi El (f : Int))).a) ((rg (rs5) (gi El (f : Int))).n) ((rg (rs5) (gi El (f : Int))).c)), .ex (.slice (A3) (F) (F)), .ex (.int .i64 ((f : Int))), .ex (.pointer (ptrAt (A3) ((f : Int)).toNat)), .ex (.int .i64 (gi (Vl) ((f : Int)))), .pr (fun v w' => ∃ A1, v = .slice A1 1 1 ∧ RdI w' A1 1 [gi Vl f]), .pr (fun v w' => ∃ A1 c1, v = .slice A1 ((rg rs5 (gi El f)).n + 1) c1 ∧ St w3 w' ((mat 39 2 A7 m m rs5 (bag Vl El m f) ++ []).set ((gi El f).toNat + 1) (CkI 2 A1 ((rg rs5 (gi El f)).n + 1) c1 (gl (bag Vl El m f) (gi El f) ++ [gi Vl f])))), .ex (.pointer (ptrAt (A7) (gi El (f : Int)).toNat)), .pr (fun _ w' => ∃ s : SlV, St w3 w' (mat 39 2 A7 m m (rs5.set (gi El f).toNat s) (bag Vl El m (f + 1)) ++ []))] (by kernel_rfl) (by kernel_rfl) (List.forall_mem_cons.2 ⟨Yd.lasts_ex _, (List.forall_mem_cons.2 ⟨Yd.lasts_ex _, (List.forall_mem_cons.2 ⟨Yd.lasts_ex _, (List.forall_mem_cons.2 ⟨Yd.lasts_ex _, (List.forall_mem_cons.2 ⟨Yd.lasts_ex _, (List.forall_mem_cons.2 ⟨Yd.lasts_ex _, (List.forall_mem_cons.2 ⟨Yd.lasts_ex _, (List.forall_mem_cons.2 ⟨Yd.lasts_ex _, (List.forall_mem_cons.2 ⟨Yd.lasts_ex _, (List.forall_mem_cons.2 ⟨Yd.lasts_ex _, (List.forall_mem_cons.2 ⟨Yd.lasts_pr (fun v w w' h hb => by obtain ⟨A1, hv, hT⟩ := h; exact ⟨A1, hv, hT.later hb⟩), (List.forall_mem_cons.2 ⟨Yd.lasts_pr (fun v w w' h hb => by obtain ⟨A1, c1, hv, hT⟩ := h; exact ⟨A1, c1, hv, hT.later hb⟩), (List.forall_mem_cons.2 ⟨Yd.lasts_ex _, (List.forall_mem_cons.2 ⟨Yd.lasts_pr (fun v w w' h hb => by obtain ⟨s, hT⟩ := h; exact ⟨s, hT.later hb⟩), (fun _ h => by cases h)⟩)⟩)⟩)⟩)⟩)⟩)⟩)⟩)⟩)⟩)⟩)⟩)⟩)⟩) ⟨?_, ?_, ?_, ?_, ?_, ?_, ?_, ?_, ?_, ?_, ?_, ?_, ?_, ?_, trivial⟩ ?_
    · intro e1 w1 cc hlo hhi hb0 hp hun hq
      show Ops _ _ _ _ _ _ _
      refine Ops.mv_sl rfl rfl rfl ?_
      refine Ops.nil ?_
      exact AfterN.dn rfl (Below.refl _ _) (by exact rfl)
    · intro e1 w1 cc hlo hhi hb0 hp hun hq
      show Ops _ _ _ _ _ _ _
      refine Ops.mv_int rfl rfl rfl ?_
      refine Ops.nil ?_
      exact AfterN.dn rfl (Below.refl _ _) (by exact rfl)
    · intro e1 w1 cc hlo hhi hb0 hp hun hq
      show Ops _ _ _ _ _ _ _
      refine Ops.mv_sl rfl rfl rfl ?_
      refine Ops.nil ?_
      exact AfterN.dn rfl (Below.refl _ _) (by exact rfl)
    · intro e1 w1 cc hlo hhi hb0 hp hun hq
      show Ops _ _ _ _ _ _ _
      refine Ops.mv_int rfl rfl rfl ?_
      refine Ops.nil ?_
      exact AfterN.dn rfl (Below.refl _ _) (by exact rfl)
    · intro e1 w1 cc hlo hhi hb0 hp hun hq
      show Ops _ _ _ _ _ _ _
      replace hlo := le_of_lo hlo (b := 0) (by kernel_rfl)
      replace hhi := le_of_hi hhi (b := 0) (by kernel_rfl)
      obtain rfl : cc = 0 := by omega
      have hb := hb0 rfl
      refine Ops.idx (hM5.top.later hb).2 rfl rfl rfl (by omega) (by omega) ?_
      refine Ops.nil ?_
      exact AfterN.dn rfl (Below.refl _ _) (by exact rfl)
    · intro e1 w1 cc hlo hhi hb0 hp hun hq
      show Ops _ _ _ _ _ _ _
      replace hlo := le_of_lo hlo (b := 0) (by kernel_rfl)
      replace hhi := le_of_hi hhi (b := 0) (by kernel_rfl)
      obtain rfl : cc = 0 := by omega
      have hb := hb0 rfl
      refine Ops.ld_sl (hM5.top.later hb) rfl (by omega) rfl rfl ?_
      refine Ops.nil ?_
      exact AfterN.dn rfl (Below.refl _ _) (by exact rfl)
    · intro e1 w1 cc hlo hhi hb0 hp hun hq
      show Ops _ _ _ _ _ _ _
      refine Ops.mv_sl rfl rfl rfl ?_
      refine Ops.nil ?_
      exact AfterN.dn rfl (Below.refl _ _) (by exact rfl)
    · intro e1 w1 cc hlo hhi hb0 hp hun hq
      show Ops _ _ _ _ _ _ _
      refine Ops.mv_int rfl rfl rfl ?_
      refine Ops.nil ?_
      exact AfterN.dn rfl (Below.refl _ _) (by exact rfl)
    · intro e1 w1 cc hlo hhi hb0 hp hun hq
      show Ops _ _ _ _ _ _ _
      replace hlo := le_of_lo hlo (b := 0) (by kernel_rfl)
      replace hhi := le_of_hi hhi (b := 0) (by kernel_rfl)
      obtain rfl : cc = 0 := by omega
      have hb := hb0 rfl
      refine Ops.idx (hV5.later hb).2 rfl rfl rfl (by omega) (by omega) ?_
      refine Ops.nil ?_
      exact AfterN.dn rfl (Below.refl _ _) (by exact rfl)
    · intro e1 w1 cc hlo hhi hb0 hp hun hq
      show Ops _ _ _ _ _ _ _
      replace hlo := le_of_lo hlo (b := 0) (by kernel_rfl)
      replace hhi := le_of_hi hhi (b := 0) (by kernel_rfl)
      obtain rfl : cc = 0 := by omega
      have hb := hb0 rfl
      refine Ops.ld_int (hV5.later hb) rfl (by omega) rfl rfl ?_
      refine Ops.nil ?_
      exact AfterN.dn rfl (Below.refl _ _) (by exact rfl)
    · intro e1 w1 cc hlo hhi hb0 hp hun hq
      show Ops _ _ _ _ _ _ _
      refine Ops.bs1I (St.refl _) rfl rfl rfl ?_
      intro A1 w9 hst
      refine Ops.nil ?_
      exact AfterN.dn rfl hst.below ⟨A1, rfl, hst.rdI 0 rfl⟩
    · intro e1 w1 cc hlo hhi hb0 hp hun hq
      show Ops _ _ _ _ _ _ _
      replace hlo := le_of_lo hlo (b := 0) (by kernel_rfl)
      replace hhi := le_of_hi hhi (b := 0) (by kernel_rfl)
      obtain rfl : cc = 0 := by omega
      have hb := hb0 rfl
      obtain ⟨A0, h38, hT0⟩ := (hp 10 _ _ (by kernel_rfl) rfl rfl (by kernel_rfl))
      refine Ops.appI ((gi El f).toNat + 1) (hS5.later hb) hget hT0 rfl (by exact h38) rfl (by omega) (by omega) rfl ?_
      intro A1 c1 w9 hst
      refine Ops.nil ?_
      exact AfterT.dn rfl ⟨A1, c1, rfl, hst⟩
    · intro e1 w1 cc hlo hhi hb0 hp hun hq
      show Ops _ _ _ _ _ _ _
      replace hlo := le_of_lo hlo (b := 1) (by kernel_rfl)
      replace hhi := le_of_hi hhi (b := 1) (by kernel_rfl)
      obtain rfl : cc = 1 := by omega
      have hph := hp 11 _ _ (by kernel_rfl) rfl rfl (by kernel_rfl)
      obtain ⟨A1, c1, h39, hT⟩ := hph
      have hTop := hT.rdR 0 rfl
      refine Ops.idx (hTop).2 rfl rfl rfl (by omega) (by omega) ?_
      refine Ops.nil ?_
      exact AfterN.dn rfl (Below.refl _ _) (by exact rfl)
    · intro e1 w1 cc hlo hhi hb0 hp hun hq
      show Ops _ _ _ _ _ _ _
      replace hlo := le_of_lo hlo (b := 1) (by kernel_rfl)
      replace hhi := le_of_hi hhi (b := 1) (by kernel_rfl)
      obtain rfl : cc = 1 := by omega
      have hph := hp 11 _ _ (by kernel_rfl) rfl rfl (by kernel_rfl)
      obtain ⟨A1, c1, h39, hT⟩ := hph
      have hTop := hT.rdR 0 rfl
      refine Ops.st_sl 0 hT rfl rfl (by exact h39) hlt ?_
      intro w9 hst
      refine Ops.nil ?_
      exact AfterT.st rfl ⟨⟨A1, _, c1⟩, by rw [bag, ← mat_upd (by omega) (by omega)]; exact hst⟩
    intro u w6 _ hu
    obtain ⟨s, hS6⟩ := hu 13 _ rfl (by kernel_rfl)
    refine blockQ_n ?_
    refine thenQ_n ?_
    refine Cd.region ?_
    refine Ops.add rfl rfl rfl (by omega) ?_
    refine Ops.mv_int rfl rfl rfl ?_
    refine Ops.nil ?_
    refine thenQ_n ?_
    -- stop: round
    exact ⟨(f + 1, rs5.set (gi El f).toNat s), by show F - (f + 1) < F - f; omega, ⟨rfl, rfl, rfl, rfl, rfl, trivial⟩, hS6, hf', by show (rs5.set _ s).length = m; rw [List.length_set]; exact hrl⟩
  · refine Cd.exit ?_
    refine thenQ_x ?_
    refine thenQ_x ?_
    refine blockQ_x ?_
    refine thenQ_n ?_
    refine Cd.seq ?_
    refine Cd.seq ?_
    refine Cd.region ?_
    refine Ops.mv_sl rfl rfl rfl ?_
    refine Ops.len rfl rfl ?_
    refine Ops.mv_int rfl rfl rfl ?_
    refine Ops.nil ?_
    refine thenQ_n ?_
    refine Cd.block ?_
    -- stop: loop
    have hfF : f = F := by omega
    subst hfF
    have hpos : ∀ e : Nat, e < m → 0 < (gl (bag Vl El m f) (e : Int)).length := fun e he => bag_pos f (fun k hk => hE k hk) e (by omega) (hhit e he)
    have hlen : ∀ e : Nat, e < m → (gl (bag Vl El m f) (e : Int)).length ≤ f := fun e he => bag_row f (fun k hk => hE k hk) e (by omega)
    have hBl := bag_len Vl El m f
    have hfin : ends Vl El m f = mixL (bag Vl El m f) m := by
      have := mixL_all (bag Vl El m f)
      rw [hBl] at this
      rw [this]; rfl
    rw [hfin]
    generalize hB : bag Vl El m f = B at *
    refine Cd.loop (α := Nat × List SlV) (fun z => [(7, .slice A7 m m), (43, .int .i64 (m : Int)), (44, .int .i64 (z.1 : Int))]) (fun z w' => St w3 w' (mat 39 2 A7 m m z.2 (mixL B z.1) ++ []) ∧ z.1 ≤ m ∧ z.2.length = m) (fun z => m - z.1) (0, rs5) ⟨rfl, rfl, rfl, trivial⟩ ⟨by rw [mixL_zero]; exact hS5, Nat.zero_le _, hrl⟩ ?_
    rintro ⟨e', rs6⟩ e w6 ⟨hS6, he, hrl6⟩
    dsimp only at hS6 he hrl6 ⊢
    refine Cd.seq ?_
    refine Cd.region ?_
    refine Ops.lss rfl rfl rfl ?_
    refine Ops.nil ?_
    refine thenQ_n ?_
    refine Cd.seq ?_
    -- stop: cond
    refine Cd.cond_p _ rfl (fun h2 => ?_) (fun h2 => ?_)
    · have he' : e' < m := by omega
      have hml := mixL_len B e'
      have hM6 := hS6.rowsI (by omega)
      have hrn := hM6.rowLen (k := (e' : Int)) (by omega) h2
      have hmg := mixL_get (B := B) (e := e') (by omega)
      have hstep := mixL_step (B := B) (e := e') (by omega)
      have hp := hpos e' he'
      have hq := hlen e' he'
      rw [hmg] at hrn
      have hget : (mat 39 2 A7 m m rs6 (mixL B e') ++ [])[e' + 1]? = some (CkI 2 (rg rs6 (e' : Int)).a (rg rs6 (e' : Int)).n (rg rs6 (e' : Int)).c (gl B (e' : Int))) := by
        have := mat_get (t1 := 39) (t2 := 2) (A := A7) (n := m) (c := m) (rs := rs6) (xss := mixL B e') (pre := []) (ks := []) (i := e') (by omega) (by omega)
        rw [show ([] : List Ck).length + 1 + e' = e' + 1 by simp; omega] at this
        rw [← hmg]
        exact this
      have hlt1 : e' + 1 < (mat 39 2 A7 m m rs6 (mixL B e') ++ []).length := (List.getElem?_eq_some_iff.1 hget).1
      refine Cd.skip ?_
      refine thenQ_n ?_
      refine Cd.seq ?_
      refine Cd.block ?_
      refine Cd.seq ?_
      refine Cd.region ?_
      refine Ops.mv_int rfl rfl rfl ?_
      refine Ops.mv_int rfl rfl rfl ?_
      refine Ops.nil ?_
      refine thenQ_n ?_
      refine Cd.seq ?_
      refine Cd.region ?_
      refine Ops.mv_sl rfl rfl rfl ?_
      refine Ops.mv_int rfl rfl rfl ?_
      -- stop: INDEXADDR 25 t47 t48 -> 49
      refine Ops.idx hM6.top.2 rfl rfl rfl (by omega) h2 ?_
      refine Ops.ld_sl hM6.top rfl (by omega) rfl rfl ?_
      refine Ops.call (sort_c (e' + 1) hS6 hget (by omega) (by omega)) rfl rfl rfl ?_
      rintro _ w7 ⟨rfl, hS7⟩
      have hT7 := hS7.rdR 0 rfl
      refine Ops.nil ?_
      refine thenQ_n ?_
      refine Cd.region ?_
      refine Ops.mv_sl rfl rfl rfl ?_
      refine Ops.mv_int rfl rfl rfl ?_
      refine Ops.mv_sl rfl rfl rfl ?_
      refine Ops.mv_int rfl rfl rfl ?_
      -- stop: INDEXADDR 25 t54 t55 -> 56
      refine Ops.idx hT7.2 rfl rfl rfl (by omega) h2 ?_
      refine Ops.ld_sl hT7 rfl (by omega) rfl rfl ?_
      refine Ops.call (compact_c (e' + 1) hS7 (by rw [List.getElem?_set, if_pos rfl, if_pos hlt1]) (by omega) (by omega)) rfl rfl rfl ?_
      rintro _ w8 ⟨rfl, hS8⟩
      rw [List.set_set] at hS8
      have hT8 := hS8.rdR 0 rfl
      refine Ops.idx hT8.2 rfl rfl rfl (by omega) h2 ?_
      refine Ops.st_sl 0 hS8 rfl rfl rfl (by omega) ?_
      intro w9 hS9
      refine Ops.nil ?_
      refine blockQ_n ?_
      refine thenQ_n ?_
      refine Cd.region ?_
      refine Ops.add rfl rfl rfl (by omega) ?_
      refine Ops.mv_int rfl rfl rfl ?_
      refine Ops.nil ?_
      refine thenQ_n ?_
      -- stop: round
      refine ⟨(e' + 1, rs6.set e' ⟨(rg rs6 (e' : Int)).a, (cmpL (srt (gl B (e' : Int)))).length, (rg rs6 (e' : Int)).c⟩), by show m - (e' + 1) < m - e'; omega, ⟨rfl, rfl, rfl, trivial⟩, ?_, he', by show (rs6.set _ _).length = m; rw [List.length_set]; exact hrl6⟩
      rw [← hstep, ← mat_upd (by omega) (by omega)]
      exact hS9
    · refine Cd.exit ?_
      refine thenQ_x ?_
      refine thenQ_x ?_
      refine blockQ_x ?_
      refine thenQ_n ?_
      refine Cd.seq ?_
      refine Cd.region ?_
      refine Ops.mv_sl rfl rfl rfl ?_
      refine Ops.mv_sl rfl rfl rfl ?_
      refine Ops.nil ?_
      refine thenQ_n ?_
      refine Cd.ret ?_
      refine ret1_s rfl ?_
      -- stop: end
      have hem : e' = m := by omega
      subst hem
      refine ⟨A7, rs6, rfl, hrl6, ?_⟩
      have := hB3.call hS6
      rwa [List.append_nil] at this

theorem eoe_bd (xss : List (List Int)) : (eoeL xss).length ≤ 1000 ∧ ∀ x ∈ eoeL xss, x.length ≤ 1000 := by
  unfold eoeL
  split
  · rename_i hG
    have hM := hG.1
    have h40 := hM.2.1
    have hfn := facesN_le xss 1
    refine ⟨by rw [endsL_len]; unfold edgesN; omega, fun x hx => ?_⟩
    obtain ⟨k, hk, rfl⟩ := List.mem_iff_getElem.1 hx
    rw [← gl_mem hk]
    have := ends_row (Vl := facesL xss 0) (El := facesL xss 1) (m := edgesN xss) (f := (gl xss 0).length) (fun f hf => by have := faces_in hM 1 f hf; unfold edgesN; omega) (k : Int) (by omega)
    show (gl (ends _ _ _ _) _).length ≤ _
    omega
  · exact ⟨Nat.zero_le _, fun x hx => by cases hx⟩

theorem implEndsOfEdges_c (A : Option Addr) (n c : Nat) (rs : List SlV) (xss : List (List Int)) (w : World) (hR : RowsI w A n rs xss) (hn : n ≤ c) (hc : c ≤ 9223372036854775807) :
    Ret Try.prog 39 [.agg #[.slice A n c]] w (AnsSS (eoeL xss) (petrieK xss) w) := by
  have hl := hR.len
  refine Ret.of_cd Try.func39 rfl Try.ntmps39 rfl (post2 rfl) ?_
  refine Cd.seq ?_
  refine Cd.region ?_
  -- stop: BOX 32 t0=m -> 1
  refine Ops.box1 (St.refl w) rfl rfl ?_
  intro Ab w1 hS1
  refine Ops.mv_sl rfl rfl rfl ?_
  refine Ops.mv_int rfl rfl rfl ?_
  refine Ops.nil ?_
  refine thenQ_n ?_
  refine Cd.seq ?_
  refine Cd.seq ?_
  refine Cd.region ?_
  -- stop: LOAD 32 t1=m -> 4
  refine Ops.ld_agg 0 (hS1.rd 0 rfl) rfl rfl rfl ?_
  refine Ops.call (isGraphed_c A n c rs xss _ (hS1.oldRows hR) hn hc) rfl rfl rfl ?_
  rintro _ w2 ⟨rfl, hst⟩
  have hS2 := hS1.later hst.below
  first | refine Ops.not_p rfl rfl ?_ | refine Ops.not rfl rfl ?_
  refine Ops.nil ?_
  refine thenQ_n ?_
  -- stop: cond
  refine Cd.cond_p _ rfl (fun h => ?_) (fun h => ?_)
  · refine Cd.seq ?_
    refine Cd.region ?_
    refine Ops.mv_sl rfl rfl rfl ?_
    refine Ops.mv_int rfl rfl rfl ?_
    refine Ops.nil ?_
    refine thenQ_n ?_
    refine Cd.ret ?_
    refine thenQ_r ?_
    refine ret2_si rfl rfl ?_
    -- stop: end
    rw [petrieK, if_neg h, eoeL, if_neg h]
    exact AnsSS.none hS2
  · have hG : Grph xss := Classical.not_not.1 h
    refine Cd.skip ?_
    refine thenQ_n ?_
    refine Cd.seq ?_
    refine Cd.region ?_
    -- stop: LOAD 32 t1=m -> 7
    refine Ops.ld_agg 0 (hS2.rd 0 rfl) rfl rfl rfl ?_
    refine Ops.call (endsOf_c A n c rs xss _ (hS2.oldRows hR) hG) rfl rfl rfl ?_
    rintro _ w3 ⟨A3, rs3, rfl, hrl, hst⟩
    have hS3 := hS2.none.call hst
    refine Ops.mv_sl rfl rfl rfl ?_
    refine Ops.mv_int rfl rfl rfl ?_
    refine Ops.nil ?_
    refine thenQ_n ?_
    refine Cd.ret ?_
    refine ret2_si rfl rfl ?_
    -- stop: end
    rw [petrieK, if_pos hG, eoeL, if_pos hG]
    refine ⟨A3, edgesN xss, rs3, by rw [endsL_len], by rw [endsL_len]; exact hrl, ?_⟩
    rw [endsL_len]
    rwa [List.append_nil] at hS3
end Go.Proofs.Ytpdhjnacnmfbjaa.Vc
