/-
  The texts Co24, Cw4 in one. Conditions: as each part states them.
-/
import Derived.Test.YtdedegbendjmbaaGreatDoorZh
import Derived.Test.YtdedegbendjmbaaGreatDoorZg
import Derived.Test.YtdedegbendjmbaaGreatDoorZe
import Derived.Test.YtdedegbendjmbaaGreatDoorZc
import Derived.Test.YtdedegbendjmbaaGreatDoorZb
/-
  Numbers of faces, vectors and characteristics of complexes, walked in the program. Conditions: as each states them.
-/
namespace Go.Proofs.YtdedegbendjmbaaGreatDoor.Vc
open Go.RowKit

theorem depth_c (Pc : Option Addr) (V : Int) (A : Option Addr) (n c : Nat) (rs : List SlV) (F : List (List Int)) (w : World) (hP : Rd w Pc 2 (fun j => [Value.int .i64 V, .slice A n c].getD j undef)) (hR : RowsI w A n rs F) (hn : n ≤ 1000) (h6 : ∀ f ∈ F, f.length ≤ 1000000) :
    Ret Tryz.prog 132 [.pointer Pc] w (fun v w' => v = .int .i64 (dpt F : Int) ∧ w' = w) := by
  have hFl := hR.len
  refine Ret.of_cd Tryz.func132 rfl Tryz.ntmps132 rfl (post1 rfl) ?_
  refine Cd.seq ?_
  refine Cd.region ?_
  refine Ops.mv_int rfl rfl rfl ?_
  refine Ops.nil ?_
  refine thenQ_n ?_
  refine Cd.seq ?_
  refine Cd.region ?_
  refine Ops.mv_int rfl rfl rfl ?_
  refine Ops.nil ?_
  refine thenQ_n ?_
  refine Cd.seq ?_
  refine Cd.seq ?_
  refine Cd.region ?_
  refine Ops.mv_ptr rfl rfl rfl ?_
  refine Ops.nilp hP (by omega) rfl rfl ?_
  skip
  refine Ops.fld hP rfl rfl rfl rfl inferInstance ?_
  skip
  refine Ops.ldf_s hP rfl rfl rfl rfl rfl ?_
  refine Ops.len rfl rfl ?_
  refine Ops.mv_int rfl rfl rfl ?_
  refine Ops.nil ?_
  refine thenQ_n ?_
  refine Cd.block ?_
  refine Cd.loop (α := Nat) (fun i => [(3, .int .i64 ((dpt (F.take i) : Nat) : Int)), (9, .slice A n c), (10, .int .i64 (n : Int)), (11, .int .i64 (i : Int))]) (fun i w' => w' = w ∧ i ≤ n) (fun i => n - i) 0 ⟨rfl, rfl, rfl, rfl, trivial⟩ ⟨rfl, Nat.zero_le _⟩ ?_
  rintro i e w ⟨rfl, hi⟩
  refine Cd.seq ?_
  refine Cd.region ?_
  refine Ops.lss rfl rfl rfl ?_
  refine Ops.nil ?_
  refine thenQ_n ?_
  refine Cd.seq ?_
  refine Cd.cond_p _ rfl (fun h3 => ?_) (fun h3 => ?_)
  · have hiF : i < F.length := by omega
    have hrow := hR.at_ (i := (i : Int)) (by omega) (by omega)
    have hrl0 := hrow.1
    refine Cd.skip ?_
    refine thenQ_n ?_
    refine Cd.seq ?_
    refine Cd.block ?_
    refine Cd.seq ?_
    refine Cd.region ?_
    refine Ops.idx hR.top.2 rfl rfl rfl (by omega) (by omega) ?_
    refine Ops.ld_sl hR.top rfl (by omega) rfl rfl ?_
    refine Ops.mv_sl rfl rfl rfl ?_
    refine Ops.nil ?_
    refine thenQ_n ?_
    refine Cd.region ?_
    refine Ops.mv_int rfl rfl rfl ?_
    refine Ops.mv_sl rfl rfl rfl ?_
    refine Ops.call (sizeI_c _ _ _ _) rfl rfl rfl ?_
    rintro _ _ ⟨rfl, rfl⟩
    refine Ops.maxI rfl rfl rfl ?_
    refine Ops.mv_int rfl rfl rfl ?_
    refine Ops.nil ?_
    refine blockQ_n ?_
    refine thenQ_n ?_
    refine Cd.region ?_
    refine Ops.add rfl rfl rfl (by omega) ?_
    refine Ops.mv_int rfl rfl rfl ?_
    refine Ops.nil ?_
    refine thenQ_n ?_
    exact ⟨i + 1, by show n - (i + 1) < n - i; omega, ⟨by show Value.int .i64 _ = .int .i64 _; rw [dpt_succ hiF]; congr 1; omega, rfl, rfl, rfl, trivial⟩, rfl, by omega⟩
  · refine Cd.exit ?_
    refine thenQ_x ?_
    refine thenQ_x ?_
    refine blockQ_x ?_
    refine thenQ_n ?_
    refine Cd.seq ?_
    refine Cd.region ?_
    refine Ops.mv_int rfl rfl rfl ?_
    refine Ops.mv_int rfl rfl rfl ?_
    refine Ops.nil ?_
    refine thenQ_n ?_
    refine Cd.ret ?_
    refine ret1_i rfl ?_
    have hin : i = F.length := by omega
    refine ⟨?_, rfl⟩
    rw [hin, List.take_length]

/-- the numbers of faces with fewer than so many elements -/
def fvG (F : List (List Int)) (k : Nat) : List Int := (List.range k).map fun j => ((fcs F j).length : Int)
theorem fvG_succ (F : List (List Int)) (k : Nat) : fvG F (k + 1) = fvG F k ++ [((fcs F k).length : Int)] := by simp [fvG, List.range_succ]
theorem fVector_c (Pc : Option Addr) (V : Int) (A : Option Addr) (n c : Nat) (rs : List SlV) (F : List (List Int)) (w : World) (hP : Rd w Pc 2 (fun j => [Value.int .i64 V, .slice A n c].getD j undef)) (hR : RowsI w A n rs F) (hn : n ≤ 1000) (h6 : ∀ f ∈ F, f.length ≤ 6) :
    Ret Tryz.prog 94 [.pointer Pc] w (fun v w' => ∃ A' c', v = .slice A' (dpt F + 1) c' ∧ St w w' [CkI 2 A' (dpt F + 1) c' (fvP F)]) := by
  have hd := dpt_bd h6
  refine Ret.of_cd Tryz.func94 rfl Tryz.ntmps94 rfl (post1 rfl) ?_
  refine Cd.seq ?_
  refine Cd.region ?_
  refine Ops.mv_sl rfl rfl rfl ?_
  refine Ops.nil ?_
  refine thenQ_n ?_
  refine Cd.seq ?_
  refine Cd.region ?_
  refine Ops.mv_sl rfl rfl rfl ?_
  refine Ops.nil ?_
  refine thenQ_n ?_
  refine Cd.seq ?_
  refine Cd.seq ?_
  refine Cd.region ?_
  refine Ops.mv_ptr rfl rfl rfl ?_
  refine Ops.call (depth_c Pc V A n c rs F w hP hR hn (fun f hf => by have := h6 f hf; omega)) rfl rfl rfl ?_
  rintro _ w ⟨rfl, rfl⟩
  refine Ops.add rfl rfl rfl (by omega) ?_
  refine Ops.mv_int rfl rfl rfl ?_
  refine Ops.nil ?_
  refine thenQ_n ?_
  refine Cd.block ?_
  refine Cd.loop (α := Nat × Option Addr × Nat) (fun z => [(0, .pointer Pc), (3, .slice z.2.1 z.1 z.2.2), (7, .int .i64 ((dpt F : Int) + 1)), (8, .int .i64 (z.1 : Int))]) (fun z w' => z.1 ≤ dpt F + 1 ∧ St w w' [CkI 2 z.2.1 z.1 z.2.2 (fvG F z.1)]) (fun z => dpt F + 1 - z.1) (0, none, 0) ⟨rfl, rfl, rfl, rfl, trivial⟩ ⟨Nat.zero_le _, (St.refl w).nil _⟩ ?_
  rintro ⟨k, A3, c3⟩ e w1 ⟨hk, hS⟩
  dsimp only at hk hS ⊢
  refine Cd.seq ?_
  refine Cd.region ?_
  refine Ops.lss rfl rfl rfl ?_
  refine Ops.nil ?_
  refine thenQ_n ?_
  refine Cd.seq ?_
  refine Cd.cond_p _ rfl (fun h1 => ?_) (fun h1 => ?_)
  · refine Cd.skip ?_
    refine thenQ_n ?_
    refine Cd.seq ?_
    refine Cd.block ?_
    refine Cd.seq ?_
    refine Cd.region ?_
    refine Ops.mv_int rfl rfl rfl ?_
    refine Ops.mv_int rfl rfl rfl ?_
    refine Ops.nil ?_
    refine thenQ_n ?_
    refine Cd.region ?_
    refine Ops.mv_sl rfl rfl rfl ?_
    refine Ops.mv_ptr rfl rfl rfl ?_
    refine Ops.mv_int rfl rfl rfl ?_
    refine Ops.call (facesWith_c Pc V A n c rs F k _ (hS.old hP) (hS.oldRows hR) hn h6 (by omega)) rfl rfl rfl ?_
    rintro _ w2 ⟨A4, c4, rs4, rfl, _, hT⟩
    have hS2 : St w w2 [CkI 2 A3 k c3 (fvG F k)] := hS.later hT.below
    have hnum := fcs_num (F := F) k h6
    refine Ops.call (sizeR_c _ _ _ _) rfl rfl rfl ?_
    rintro _ _ ⟨rfl, rfl⟩
    refine Ops.bs1I hS2 rfl rfl rfl ?_
    intro A5 w3 hS3
    refine Ops.appI 1 hS3 rfl (hS3.rdI 0 rfl) rfl rfl rfl (by omega) (by omega) rfl ?_
    intro A6 c6 w4 hS4
    have hS4 : St w w4 [CkI 2 A6 (k + 1) c6 (fvG F (k + 1))] := by rw [fvG_succ]; exact hS4.tail
    refine Ops.mv_sl rfl rfl rfl ?_
    refine Ops.nil ?_
    refine blockQ_n ?_
    refine thenQ_n ?_
    refine Cd.region ?_
    refine Ops.add rfl rfl rfl (by omega) ?_
    refine Ops.mv_int rfl rfl rfl ?_
    refine Ops.nil ?_
    refine thenQ_n ?_
    exact ⟨(k + 1, A6, c6), by show dpt F + 1 - (k + 1) < dpt F + 1 - k; omega, ⟨rfl, rfl, rfl, rfl, trivial⟩, by show k + 1 ≤ dpt F + 1; omega, hS4⟩
  · have hke : k = dpt F + 1 := by omega
    subst hke
    refine Cd.exit ?_
    refine thenQ_x ?_
    refine thenQ_x ?_
    refine blockQ_x ?_
    refine thenQ_n ?_
    refine Cd.seq ?_
    refine Cd.region ?_
    refine Ops.mv_sl rfl rfl rfl ?_
    refine Ops.mv_sl rfl rfl rfl ?_
    refine Ops.nil ?_
    refine thenQ_n ?_
    refine Cd.ret ?_
    refine ret1_s rfl ?_
    exact ⟨A3, c3, rfl, hS⟩

theorem FacesWith_c (V : Int) (A : Option Addr) (n c : Nat) (rs : List SlV) (F : List (List Int)) (k : Nat) (w : World) (hT : Tab w) (hR : RowsI w A n rs F) (hC : Cplx V F) (hk : k ≤ 6) :
    Ret Tryz.prog 34 [.agg #[.int .i64 V, .slice A n c], .int .i64 (k : Int)] w (AnsSS (fcs F k) 0 w) := by
  have hFl := hR.len
  have hF4 := hC.f
  refine Ret.of_cd Tryz.func34 rfl Tryz.ntmps34 rfl (post2 rfl) ?_
  refine Cd.seq ?_
  refine Cd.region ?_
  refine Ops.box2 (St.refl w) rfl rfl ?_
  intro Ab w1 hS1
  refine Ops.mv_sl rfl rfl rfl ?_
  refine Ops.mv_int rfl rfl rfl ?_
  refine Ops.nil ?_
  refine thenQ_n ?_
  refine Cd.seq ?_
  refine Cd.block ?_
  refine Cd.seq ?_
  refine Cd.region ?_
  refine Ops.ld_agg 1 (hS1.rd 0 rfl) rfl rfl rfl ?_
  refine Ops.call (isComplex_c V A n c rs F _ (hT.later hS1.below) (hS1.oldRows hR) (by omega)) rfl rfl rfl ?_
  rintro _ w2 ⟨rfl, hst⟩
  have hS2 := hS1.later hst.below
  first | refine Ops.not_p rfl rfl ?_ | refine Ops.not rfl rfl ?_
  refine Ops.mv_bool rfl rfl rfl ?_
  refine Ops.nil ?_
  refine thenQ_n ?_
  refine Cd.cond_pf rfl (fun h => h hC) ?_
  refine Cd.seq ?_
  refine Cd.region ?_
  refine Ops.mv_int rfl rfl rfl ?_
  refine Ops.call (within_c _ _ _ _) rfl rfl rfl ?_
  rintro _ _ ⟨rfl, rfl⟩
  first | refine Ops.not_p rfl rfl ?_ | refine Ops.not rfl rfl ?_
  refine Ops.mv_bool rfl rfl rfl ?_
  refine Ops.nil ?_
  refine thenQ_n ?_
  refine Cd.cond_pf rfl (fun h => h (by omega)) ?_
  refine Cd.skip ?_
  refine blockQ_n ?_
  refine thenQ_n ?_
  refine Cd.seq ?_
  refine Cd.region ?_
  refine Ops.mv_int rfl rfl rfl ?_
  refine Ops.call (facesWith_c Ab V A n c rs F k _ (hS2.rd 0 rfl) (hS2.oldRows hR) (by omega) (fun f hf => (hC.row f hf).1.2) (by omega)) rfl rfl rfl ?_
  rintro _ w3 ⟨A4, c4, rs4, rfl, hrl4, hst3⟩
  have hS3 := hS2.call2 hst3
  refine Ops.mv_sl rfl rfl rfl ?_
  refine Ops.mv_int rfl rfl rfl ?_
  refine Ops.nil ?_
  refine thenQ_n ?_
  refine Cd.ret ?_
  refine ret2_si rfl rfl ?_
  exact ⟨A4, c4, rs4, rfl, hrl4, hS3.tail⟩

theorem FVector_c (V : Int) (A : Option Addr) (n c : Nat) (rs : List SlV) (F : List (List Int)) (w : World) (hT : Tab w) (hR : RowsI w A n rs F) (hC : Cplx V F) :
    Ret Tryz.prog 35 [.agg #[.int .i64 V, .slice A n c]] w (AnsR (fvP F) 0 w) := by
  have hFl := hR.len
  have hF4 := hC.f
  refine Ret.of_cd Tryz.func35 rfl Tryz.ntmps35 rfl (post2 rfl) ?_
  refine Cd.seq ?_
  refine Cd.region ?_
  refine Ops.box2 (St.refl w) rfl rfl ?_
  intro Ab w1 hS1
  refine Ops.mv_sl rfl rfl rfl ?_
  refine Ops.mv_int rfl rfl rfl ?_
  refine Ops.nil ?_
  refine thenQ_n ?_
  refine Cd.seq ?_
  refine Cd.seq ?_
  refine Cd.region ?_
  refine Ops.ld_agg 1 (hS1.rd 0 rfl) rfl rfl rfl ?_
  refine Ops.call (isComplex_c V A n c rs F _ (hT.later hS1.below) (hS1.oldRows hR) (by omega)) rfl rfl rfl ?_
  rintro _ w2 ⟨rfl, hst⟩
  have hS2 := hS1.later hst.below
  first | refine Ops.not_p rfl rfl ?_ | refine Ops.not rfl rfl ?_
  refine Ops.nil ?_
  refine thenQ_n ?_
  refine Cd.cond_pf rfl (fun h => h hC) ?_
  refine Cd.skip ?_
  refine thenQ_n ?_
  refine Cd.seq ?_
  refine Cd.region ?_
  refine Ops.call (fVector_c Ab V A n c rs F _ (hS2.rd 0 rfl) (hS2.oldRows hR) (by omega) (fun f hf => (hC.row f hf).1.2)) rfl rfl rfl ?_
  rintro _ w3 ⟨A4, c4, rfl, hst3⟩
  have hS3 := hS2.call2 hst3
  refine Ops.mv_sl rfl rfl rfl ?_
  refine Ops.mv_int rfl rfl rfl ?_
  refine Ops.nil ?_
  refine thenQ_n ?_
  refine Cd.ret ?_
  refine ret2_si rfl rfl ?_
  exact ⟨A4, c4, by rw [fvP_len], by rw [fvP_len]; exact hS3.tail⟩
end Go.Proofs.YtdedegbendjmbaaGreatDoor.Vc
/-
  The walk of the law FnComplexes: it returns true. Conditions: the library's table of powers of ten holds what the program's text lays there.
-/
namespace Go.Proofs.YtdedegbendjmbaaGreatDoor.Vc
open Go.RowKit

theorem co_bad {ls : List (List Int)} (h : ¬ coK ls = 0) : coV ls = 0 ∧ coL ls = [] := by
  unfold coV coL
  unfold coK at h
  by_cases hN : NegL ls
  · rw [if_pos hN, if_pos hN]; exact ⟨rfl, rfl⟩
  · rw [if_neg hN] at h
    rw [if_neg hN, if_neg hN]
    exact ⟨(cx_bad h).1, (cx_bad h).2.1⟩
theorem co_self {V : Int} {F : List (List Int)} (h : Cplx V F) : coV F = V ∧ coL F = F ∧ coK F = 0 := by
  have hN : ¬ NegL F := fun ⟨l, hl, x, hx, h0⟩ => by have := (h.row l hl).2.2 x hx; omega
  unfold coV coL coK
  rw [if_neg hN, if_neg hN, if_neg hN, map_cs_id fun l hl => (h.row l hl).2.1]
  obtain ⟨h1, h2, h3, _⟩ := cx_self h
  exact ⟨h1, h2, h3⟩
theorem fcs_ord {F : List (List Int)} {k i : Nat} (h0 : 0 < i) (h : i < (fcs F k).length) : LT (gl (fcs F k) ((i : Int) - 1)) (gl (fcs F k) (i : Int)) := by
  have := List.pairwise_iff_getElem.1 (fcs_SL F k) (i - 1) i (by omega) h (by omega)
  rw [show (i : Int) - 1 = ((i - 1 : Nat) : Int) by omega, gl_mem (by omega), gl_mem h]
  exact this

set_option maxHeartbeats 1000000 in
theorem FnComplexes_c (Ac : Option Addr) (nc cc : Nat) (bs : List Int) (w : World) (hT : Tab w) (hY : RdY w Ac nc bs) :
    Ret Tryz.prog 6 [.slice Ac nc cc] w (fun v w' => v = .bool true ∧ St w w' []) := by
  refine Ret.of_cd Tryz.func6 rfl Tryz.ntmps6 rfl (post1 rfl) ?_
  refine Cd.seq ?_
  refine Cd.region ?_
  refine Ops.mv_bool rfl rfl rfl ?_
  refine Ops.nil ?_
  refine thenQ_n ?_
  refine Cd.seq ?_
  refine Cd.seq ?_
  refine Cd.region ?_
  refine Ops.mv_sl rfl rfl rfl ?_
  refine Ops.call (big_c Ac nc cc w) rfl rfl rfl ?_
  rintro _ w1 ⟨rfl, hW⟩
  refine Ops.nil ?_
  refine thenQ_n ?_
  refine Cd.cond_p _ rfl (fun h1 => ?_) (fun h1 => ?_)
  · refine Cd.seq ?_
    refine Cd.region ?_
    refine Ops.mv_bool rfl rfl rfl ?_
    refine Ops.nil ?_
    refine thenQ_n ?_
    refine Cd.ret ?_
    refine thenQ_r ?_
    refine ret1_b rfl ?_
    exact ⟨rfl, hW⟩
  have hT := hT.later hW.below
  have hY := hY.below hW.below
  refine Cd.skip ?_
  refine thenQ_n ?_
  refine Cd.seq ?_
  refine Cd.region ?_
  refine Ops.mv_sl rfl rfl rfl ?_
  refine Ops.call (DrawComplexOf_c Ac nc cc bs w1 hY (by omega)) rfl rfl rfl ?_
  rintro _ w2 ⟨n, L, A, c, rs, rfl, hn, hrl, hll, hsm, hst⟩
  have hL : RowsI w2 A n rs L := St.rowsI hst hll
  have hb := hst.below
  have hW := hW.later hb; have hT := hT.later hb; have hY := hY.below hb
  clear hst
  refine Ops.mv_sl rfl rfl rfl ?_
  refine Ops.nil ?_
  refine thenQ_n ?_
  refine Cd.seq ?_
  refine Cd.region ?_
  refine Ops.mv_sl rfl rfl rfl ?_
  refine Ops.call (implComplexOf_c A n c rs L w2 hT hL (by omega) (fun l hl => by have := hsm l hl; omega)) rfl rfl rfl ?_
  rintro _ w3 ⟨A3, c3, rs3, rfl, hrl3, hst⟩
  have hF : RowsI w3 A3 (coL L).length rs3 (coL L) := St.rowsI hst rfl
  have hb := hst.below
  have hW := hW.later hb; have hT := hT.later hb; have hY := hY.below hb; have hL := hL.later hb
  clear hst
  refine Ops.mv_tup rfl rfl rfl ?_
  refine Ops.extract rfl rfl rfl ?_
  refine Ops.extract rfl rfl rfl ?_
  refine Ops.new2 (St.refl w3) rfl ?_
  intro A4 w4 hU
  refine Ops.st_agg 2 0 hU rfl rfl rfl rfl rfl rfl rfl ?_
  intro w5 hU
  have hb := hU.below
  have h4 : Rd w5 A4 2 (fun j => [Value.int .i64 (coV L), .slice A3 (coL L).length c3].getD j undef) := hU.rd 0 rfl
  have hF := hF.later hb
  have hW := hW.later hb; have hT := hT.later hb; have hY := hY.below hb; have hL := hL.later hb
  clear hU
  refine Ops.mv_int rfl rfl rfl ?_
  refine Ops.nil ?_
  refine thenQ_n ?_
  refine Cd.seq ?_
  refine Cd.seq ?_
  refine Cd.region ?_
  refine Ops.mv_sl rfl rfl rfl ?_
  refine Ops.call (specComplexOf_c A n c rs L w5 hL (by omega) (fun l hl => by have := hsm l hl; omega)) rfl rfl rfl ?_
  rintro _ w6 ⟨A5, c5, rs5, rfl, hrl5, hst⟩
  have hG : RowsI w6 A5 (coL L).length rs5 (coL L) := St.rowsI hst rfl
  have hb := hst.below
  have hW := hW.later hb; have hT := hT.later hb; have hY := hY.below hb; have hL := hL.later hb; have hF := hF.later hb; have h4 := Rd.below h4 hb
  clear hst
  refine Ops.mv_tup rfl rfl rfl ?_
  refine Ops.extract rfl rfl rfl ?_
  refine Ops.extract rfl rfl rfl ?_
  refine Ops.new2 (St.refl w6) rfl ?_
  intro A6 w7 hU
  refine Ops.st_agg 2 0 hU rfl rfl rfl rfl rfl rfl rfl ?_
  intro w8 hU
  have hb := hU.below
  have h6 : Rd w8 A6 2 (fun j => [Value.int .i64 (coV L), .slice A5 (coL L).length c5].getD j undef) := hU.rd 0 rfl
  have hG := hG.later hb
  have hW := hW.later hb; have hT := hT.later hb; have hY := hY.below hb; have hL := hL.later hb; have hF := hF.later hb; have h4 := Rd.below h4 hb
  clear hU hL
  have hC := co_cplx L
  have hbad := co_bad (ls := L)
  generalize coV L = V at *
  generalize coL L = F at *
  generalize coK L = K at *
  have hF4 := hC.f
  have hV := hC.v
  have hf6 : ∀ f ∈ F, f.length ≤ 6 := fun f hf => (hC.row f hf).1.2
  refine Ops.mv_int rfl rfl rfl ?_
  refine Ops.nil ?_
  refine thenQ_n ?_
  refine Cd.seq ?_
  refine Cd.region ?_
  refine Ops.mv_int rfl rfl rfl ?_
  refine Ops.mv_int rfl rfl rfl ?_
  refine Ops.neq rfl rfl rfl ?_
  refine Ops.mv_bool rfl rfl rfl ?_
  refine Ops.split_p 36 rfl (fun h => absurd rfl h) (fun _ => ?_) --f
  refine Ops.rung rfl rfl rfl ?_
  refine Ops.ld_agg 1 h4 rfl rfl rfl ?_
  refine Ops.rung rfl rfl rfl ?_
  refine Ops.ld_agg 1 h6 rfl rfl rfl ?_
  refine Ops.rung rfl rfl rfl ?_
  refine Ops.call (likeComplex9_c V A3 _ c3 rs3 F V A5 _ c5 rs5 F w8 hF hG (by omega) (fun f hf => by have := hf6 f hf; omega)) rfl rfl rfl ?_
  rintro _ w9 ⟨rfl, hst⟩
  have hb := hst.below
  have hW := hW.later hb; have hT := hT.later hb; have hY := hY.below hb; have hF := hF.later hb; have h4 := Rd.below h4 hb; have hG := hG.later hb; have h6 := Rd.below h6 hb
  refine Ops.rung rfl rfl rfl ?_
  first | refine Ops.not_p rfl rfl ?_ | refine Ops.not rfl rfl ?_
  refine Ops.pick_f rfl rfl rfl ?_
  refine Ops.nil ?_
  refine thenQ_n ?_
  refine Cd.cond_pf rfl (fun h => h ⟨rfl, rfl⟩) ?_
  refine Cd.skip ?_
  refine thenQ_n ?_
  refine Cd.seq ?_
  refine Cd.region ?_
  refine Ops.mv_sl rfl rfl rfl ?_
  refine Ops.call (DrawIsComplex_c Ac nc cc bs w9 hY (by omega)) rfl rfl rfl ?_
  rintro _ w10 ⟨V', m, F', A', c', rs', rfl, hV', hm, hrl', hll', hst⟩
  have hX : RowsI w10 A' m rs' F' := St.rowsI hst hll'
  have hb := hst.below
  have hW := hW.later hb; have hT := hT.later hb; have hF := hF.later hb; have h4 := Rd.below h4 hb
  clear hst
  refine Ops.new2 (St.refl w10) rfl ?_
  intro A8 w11 hU
  refine Ops.st_agg 2 0 hU rfl rfl rfl rfl rfl rfl rfl ?_
  intro w12 hU
  have hb := hU.below
  have h8 : Rd w12 A8 2 (fun j => [Value.int .i64 V', .slice A' m c'].getD j undef) := hU.rd 0 rfl
  have hX := hX.later hb
  have hW := hW.later hb; have hT := hT.later hb; have hF := hF.later hb; have h4 := Rd.below h4 hb
  clear hU
  refine Ops.nil ?_
  refine thenQ_n ?_
  refine Cd.seq ?_
  refine Cd.seq ?_
  refine Cd.draw [.ex (.agg #[.int .i64 (V'), .slice (A') (m) (c')]), .ex (.bool (decide (Cplx V' F'))), .ex (.agg #[.int .i64 (V'), .slice (A') (m) (c')]), .ex (.bool (decide (Cplx V' F'))), .ex (.bool (false))] (by kernel_rfl) (by kernel_rfl) rfl (List.forall_mem_cons.2 ⟨Yd.lasts_ex _, (List.forall_mem_cons.2 ⟨Yd.lasts_ex _, (List.forall_mem_cons.2 ⟨Yd.lasts_ex _, (List.forall_mem_cons.2 ⟨Yd.lasts_ex _, (List.forall_mem_cons.2 ⟨Yd.lasts_ex _, (fun _ h => by cases h)⟩)⟩)⟩)⟩)⟩) ⟨?_, ?_, ?_, ?_, ?_, trivial⟩ ?_
  · intro e1 w1 hb hp hun
    refine Ops.ld_agg 1 (h8.below hb) rfl rfl rfl ?_
    refine Ops.nil ?_
    exact After.dn (Below.refl _ _) (by exact rfl)
  · intro e1 w1 hb hp hun
    refine Ops.call (implIsComplex_c V' A' m c' rs' F' _ (hT.later hb) (hX.later hb) (by omega)) rfl rfl rfl ?_
    rintro _ w2 ⟨rfl, hst⟩
    refine Ops.nil ?_
    exact After.dn hst.below (by exact rfl)
  · intro e1 w1 hb hp hun
    refine Ops.ld_agg 1 (h8.below hb) rfl rfl rfl ?_
    refine Ops.nil ?_
    exact After.dn (Below.refl _ _) (by exact rfl)
  · intro e1 w1 hb hp hun
    refine Ops.call (specIsComplex_c V' A' m c' rs' F' _ (hX.later hb) (by omega)) rfl rfl rfl ?_
    rintro _ w2 ⟨rfl, hst⟩
    refine Ops.nil ?_
    exact After.dn hst.below (by exact rfl)
  · intro e1 w1 hb hp hun
    refine Ops.neqB rfl rfl rfl ?_
    refine Ops.nil ?_
    exact After.dn (Below.refl _ _) (by exact congrArg Value.bool ((by simp)))
  intro u w13 hb _
  have hW := hW.later hb; have hT := hT.later hb; have hF := hF.later hb; have h4 := Rd.below h4 hb
  clear h8 hX
  refine thenQ_n ?_
  refine Cd.cond_f rfl ?_
  refine Cd.skip ?_
  refine thenQ_n ?_
  refine Cd.seq ?_
  refine Cd.seq ?_
  refine Cd.region ?_
  refine Ops.mv_int rfl rfl rfl ?_
  refine Ops.neq rfl rfl rfl ?_
  refine Ops.nil ?_
  refine thenQ_n ?_
  refine Cd.cond_p _ rfl (fun h2 => ?_) (fun h2 => ?_)
  · obtain ⟨rfl, rfl⟩ := hbad h2
    refine Cd.seq ?_
    refine Cd.region ?_
    refine Ops.fld h4 rfl rfl rfl rfl inferInstance ?_
    refine Ops.ldf_i h4 rfl rfl rfl rfl rfl ?_
    refine Ops.eql rfl rfl rfl ?_
    refine Ops.mv_bool rfl rfl rfl ?_
    refine Ops.split_p 54 rfl (fun _ => ?_) (fun h => absurd rfl h) --t
    refine Ops.rung rfl rfl rfl ?_
    refine Ops.fld h4 rfl rfl rfl rfl inferInstance ?_
    refine Ops.rung rfl rfl rfl ?_
    refine Ops.ldf_s h4 rfl rfl rfl rfl rfl ?_
    refine Ops.rung rfl rfl rfl ?_
    refine Ops.len rfl rfl ?_
    refine Ops.rung rfl rfl rfl ?_
    refine Ops.eql rfl rfl rfl ?_
    refine Ops.pick_t rfl rfl rfl ?_
    refine Ops.mv_bool rfl rfl rfl ?_
    refine Ops.nil ?_
    refine thenQ_n ?_
    refine Cd.ret ?_
    refine thenQ_r ?_
    refine ret1_b rfl ?_
    exact ⟨rfl, hW⟩
  clear hbad
  obtain ⟨e1, e2, e3⟩ := co_self hC
  refine Cd.skip ?_
  refine thenQ_n ?_
  refine Cd.seq ?_
  refine Cd.region ?_
  refine Ops.fld h4 rfl rfl rfl rfl inferInstance ?_
  refine Ops.ldf_s h4 rfl rfl rfl rfl rfl ?_
  refine Ops.call (implComplexOf_c A3 F.length c3 rs3 F w13 hT hF (by omega) (fun l hl => by have := hf6 l hl; omega)) rfl rfl rfl ?_
  rw [e1, e2, e3]
  rintro _ w14 ⟨A9, c9, rs9, rfl, hrl9, hst⟩
  have hD : RowsI w14 A9 F.length rs9 F := St.rowsI hst rfl
  have hb := hst.below
  have hW := hW.later hb; have hT := hT.later hb; have hF := hF.later hb; have h4 := Rd.below h4 hb
  clear hst
  refine Ops.mv_tup rfl rfl rfl ?_
  refine Ops.extract rfl rfl rfl ?_
  refine Ops.extract rfl rfl rfl ?_
  refine Ops.new2 (St.refl w14) rfl ?_
  intro A10 w15 hU
  refine Ops.st_agg 2 0 hU rfl rfl rfl rfl rfl rfl rfl ?_
  intro w16 hU
  have hb := hU.below
  have h9 : Rd w16 A10 2 (fun j => [Value.int .i64 V, .slice A9 F.length c9].getD j undef) := hU.rd 0 rfl
  have hD := hD.later hb
  have hW := hW.later hb; have hT := hT.later hb; have hF := hF.later hb; have h4 := Rd.below h4 hb
  clear hU
  refine Ops.mv_int rfl rfl rfl ?_
  refine Ops.nil ?_
  refine thenQ_n ?_
  refine Cd.seq ?_
  refine Cd.region ?_
  refine Ops.ld_agg 1 h4 rfl rfl rfl ?_
  refine Ops.call (FacesWith_c V A3 F.length c3 rs3 F 1 w16 hT hF hC (by omega)) rfl rfl rfl ?_
  rintro _ w17 ⟨A11, c11, rs11, rfl, hrl11, hst⟩
  have hb := hst.below
  have hW := hW.later hb; have hT := hT.later hb; have hF := hF.later hb; have h4 := Rd.below h4 hb; have hD := hD.later hb; have h9 := Rd.below h9 hb
  clear hst
  refine Ops.mv_tup rfl rfl rfl ?_
  refine Ops.extract rfl rfl rfl ?_
  refine Ops.extract rfl rfl rfl ?_
  refine Ops.mv_sl rfl rfl rfl ?_
  refine Ops.mv_int rfl rfl rfl ?_
  refine Ops.nil ?_
  refine thenQ_n ?_
  refine Cd.seq ?_
  refine Cd.region ?_
  refine Ops.ld_agg 1 h4 rfl rfl rfl ?_
  refine Ops.call (FVector_c V A3 F.length c3 rs3 F w17 hT hF hC) rfl rfl rfl ?_
  rintro _ w18 ⟨A13, c13, rfl, hst⟩
  have hv : RdI w18 A13 (fvP F).length (fvP F) := hst.rdI 0 rfl
  have hb := hst.below
  have hW := hW.later hb; have hT := hT.later hb; have hF := hF.later hb; have h4 := Rd.below h4 hb; have hD := hD.later hb; have h9 := Rd.below h9 hb
  clear hst
  have hfl := fvP_len F
  have hd6 := dpt_bd hf6
  have hone : ((fcs F 1).length : Int) = V := by rw [fcs_one hC, List.length_map, rngI_len]; omega
  refine Ops.mv_tup rfl rfl rfl ?_
  refine Ops.extract rfl rfl rfl ?_
  refine Ops.extract rfl rfl rfl ?_
  refine Ops.mv_sl rfl rfl rfl ?_
  refine Ops.mv_int rfl rfl rfl ?_
  refine Ops.nil ?_
  refine thenQ_n ?_
  refine Cd.seq ?_
  refine Cd.seq ?_
  refine Cd.region ?_
  refine Ops.mv_int rfl rfl rfl ?_
  refine Ops.neq rfl rfl rfl ?_
  refine Ops.mv_bool rfl rfl rfl ?_
  refine Ops.split_p 78 rfl (fun h => absurd rfl h) (fun _ => ?_) --f
  refine Ops.rung rfl rfl rfl ?_
  refine Ops.mv_int rfl rfl rfl ?_
  refine Ops.rung rfl rfl rfl ?_
  refine Ops.neq rfl rfl rfl ?_
  refine Ops.pick_f rfl rfl rfl ?_
  refine Ops.mv_bool rfl rfl rfl ?_
  refine Ops.split_p 82 rfl (fun h => absurd rfl h) (fun _ => ?_) --f
  refine Ops.rung rfl rfl rfl ?_
  refine Ops.mv_int rfl rfl rfl ?_
  refine Ops.rung rfl rfl rfl ?_
  refine Ops.neq rfl rfl rfl ?_
  refine Ops.pick_f rfl rfl rfl ?_
  refine Ops.mv_bool rfl rfl rfl ?_
  refine Ops.split_p 86 rfl (fun h => absurd rfl h) (fun _ => ?_) --f
  refine Ops.rung rfl rfl rfl ?_
  refine Ops.ld_agg 1 h9 rfl rfl rfl ?_
  refine Ops.rung rfl rfl rfl ?_
  refine Ops.ld_agg 1 h4 rfl rfl rfl ?_
  refine Ops.rung rfl rfl rfl ?_
  refine Ops.call (likeComplex9_c V A9 _ c9 rs9 F V A3 _ c3 rs3 F w18 hD hF (by omega) (fun f hf => by have := hf6 f hf; omega)) rfl rfl rfl ?_
  rintro _ w19 ⟨rfl, hst⟩
  have hb := hst.below
  have hv := hv.later hb
  have hW := hW.later hb; have hT := hT.later hb; have hF := hF.later hb; have h4 := Rd.below h4 hb
  clear h9 hD hst
  refine Ops.rung rfl rfl rfl ?_
  first | refine Ops.not_p rfl rfl ?_ | refine Ops.not rfl rfl ?_
  refine Ops.pick_f rfl rfl rfl ?_
  refine Ops.mv_bool rfl rfl rfl ?_
  refine Ops.split_p 92 rfl (fun h => absurd ⟨rfl, rfl⟩ h) (fun _ => ?_) --f
  refine Ops.rung rfl rfl rfl ?_
  refine Ops.ld_agg 1 h4 rfl rfl rfl ?_
  refine Ops.rung rfl rfl rfl ?_
  refine Ops.call (implIsComplex_c V A3 F.length c3 rs3 F w19 hT hF (by omega)) rfl rfl rfl ?_
  rintro _ w20 ⟨rfl, hst⟩
  have hb := hst.below
  have hv := hv.later hb
  have hW := hW.later hb; have hT := hT.later hb; have hF := hF.later hb; have h4 := Rd.below h4 hb
  clear hst
  refine Ops.rung rfl rfl rfl ?_
  first | refine Ops.not_p rfl rfl ?_ | refine Ops.not rfl rfl ?_
  refine Ops.pick_f rfl rfl rfl ?_
  refine Ops.mv_bool rfl rfl rfl ?_
  refine Ops.split_p 97 rfl (fun h => absurd hC h) (fun _ => ?_) --f
  refine Ops.rung rfl rfl rfl ?_
  refine Ops.mv_sl rfl rfl rfl ?_
  refine Ops.rung rfl rfl rfl ?_
  refine Ops.len rfl rfl ?_
  refine Ops.rung rfl rfl rfl ?_
  refine Ops.fld h4 rfl rfl rfl rfl inferInstance ?_
  refine Ops.rung rfl rfl rfl ?_
  refine Ops.ldf_i h4 rfl rfl rfl rfl rfl ?_
  refine Ops.rung rfl rfl rfl ?_
  refine Ops.neq rfl rfl rfl ?_
  refine Ops.pick_f rfl rfl rfl ?_
  refine Ops.mv_bool rfl rfl rfl ?_
  refine Ops.split_p 104 rfl (fun h => absurd hone h) (fun _ => ?_) --f
  refine Ops.rung rfl rfl rfl ?_
  refine Ops.mv_sl rfl rfl rfl ?_
  refine Ops.rung rfl rfl rfl ?_
  refine Ops.len rfl rfl ?_
  refine Ops.rung rfl rfl rfl ?_
  refine Ops.eql rfl rfl rfl ?_
  refine Ops.pick_f rfl rfl rfl ?_
  refine Ops.mv_bool rfl rfl rfl ?_
  refine Ops.split_p 109 rfl (fun h => by omega) (fun _ => ?_) --f
  refine Ops.rung rfl rfl rfl ?_
  refine Ops.mv_sl rfl rfl rfl ?_
  refine Ops.rung rfl rfl rfl ?_
  refine Ops.idx hv.2 rfl rfl rfl (by omega) (by omega) ?_
  refine Ops.rung rfl rfl rfl ?_
  refine Ops.ld_int hv rfl (by omega) rfl rfl ?_
  refine Ops.rung rfl rfl rfl ?_
  refine Ops.neq rfl rfl rfl ?_
  refine Ops.pick_f rfl rfl rfl ?_
  refine Ops.nil ?_
  refine thenQ_n ?_
  refine Cd.cond_pf rfl (fun h => h (fvP_zero F)) ?_
  refine Cd.skip ?_
  refine thenQ_n ?_
  refine Cd.seq ?_
  refine Cd.seq ?_
  refine Cd.region ?_
  refine Ops.mv_int rfl rfl rfl ?_
  refine Ops.nil ?_
  refine thenQ_n ?_
  refine Cd.block ?_
  refine Cd.loop (α := Nat) (fun k => [(4, .pointer A4), (13, .slice A13 (fvP F).length c13), (15, .int .i64 (k : Int))]) (fun k w' => k ≤ dpt F + 1 ∧ St w w' [] ∧ Tab w' ∧ RowsI w' A3 F.length rs3 F ∧ Rd w' A4 2 (fun j => [Value.int .i64 V, .slice A3 F.length c3].getD j undef) ∧ RdI w' A13 (fvP F).length (fvP F)) (fun k => dpt F + 1 - k) 0 ⟨rfl, rfl, rfl, trivial⟩ ⟨Nat.zero_le _, hW, hT, hF, h4, hv⟩ ?_
  clear hW hT hF h4 hv
  rintro k e w21 ⟨hk, hW, hT, hF, h4, hv⟩
  refine Cd.seq ?_
  refine Cd.seq ?_
  refine Cd.region ?_
  refine Ops.mv_int rfl rfl rfl ?_
  refine Ops.mv_sl rfl rfl rfl ?_
  refine Ops.len rfl rfl ?_
  refine Ops.lss rfl rfl rfl ?_
  refine Ops.nil ?_
  refine thenQ_n ?_
  refine Cd.cond_p _ rfl (fun h3 => ?_) (fun h3 => ?_)
  · have hkd : k ≤ dpt F := by omega
    refine Cd.skip ?_
    refine thenQ_n ?_
    refine Cd.seq ?_
    refine Cd.block ?_
    refine Cd.seq ?_
    refine Cd.region ?_
    refine Ops.ld_agg 1 h4 rfl rfl rfl ?_
    refine Ops.mv_int rfl rfl rfl ?_
    refine Ops.call (FacesWith_c V A3 F.length c3 rs3 F k w21 hT hF hC (by omega)) rfl rfl rfl ?_
    rintro _ w22 ⟨A16, c16, rs16, rfl, hrl16, hst⟩
    have hM : RowsI w22 A16 (fcs F k).length rs16 (fcs F k) := St.rowsI hst rfl
    have hb := hst.below
    have hv := hv.later hb
    have hW := hW.later hb; have hT := hT.later hb; have hF := hF.later hb; have h4 := Rd.below h4 hb
    clear hst
    have hnum := fcs_num k hf6
    refine Ops.mv_tup rfl rfl rfl ?_
    refine Ops.extract rfl rfl rfl ?_
    refine Ops.extract rfl rfl rfl ?_
    refine Ops.mv_sl rfl rfl rfl ?_
    refine Ops.mv_int rfl rfl rfl ?_
    refine Ops.nil ?_
    refine thenQ_n ?_
    refine Cd.seq ?_
    refine Cd.seq ?_
    refine Cd.region ?_
    refine Ops.mv_int rfl rfl rfl ?_
    refine Ops.neq rfl rfl rfl ?_
    refine Ops.mv_bool rfl rfl rfl ?_
    refine Ops.split_p 129 rfl (fun h => absurd rfl h) (fun _ => ?_) --f
    refine Ops.rung rfl rfl rfl ?_
    refine Ops.mv_sl rfl rfl rfl ?_
    refine Ops.rung rfl rfl rfl ?_
    refine Ops.len rfl rfl ?_
    refine Ops.rung rfl rfl rfl ?_
    refine Ops.mv_sl rfl rfl rfl ?_
    refine Ops.rung rfl rfl rfl ?_
    refine Ops.mv_int rfl rfl rfl ?_
    refine Ops.rung rfl rfl rfl ?_
    refine Ops.idx hv.2 rfl rfl rfl (by omega) (by omega) ?_
    refine Ops.rung rfl rfl rfl ?_
    refine Ops.ld_int hv rfl (by omega) rfl rfl ?_
    refine Ops.rung rfl rfl rfl ?_
    refine Ops.neq rfl rfl rfl ?_
    refine Ops.pick_f rfl rfl rfl ?_
    refine Ops.nil ?_
    refine thenQ_n ?_
    refine Cd.cond_pf rfl (fun h => h (fvP_at F hkd).symm) ?_
    refine Cd.skip ?_
    refine thenQ_n ?_
    refine Cd.seq ?_
    refine Cd.region ?_
    refine Ops.mv_int rfl rfl rfl ?_
    refine Ops.nil ?_
    refine thenQ_n ?_
    refine Cd.block ?_
    refine Cd.loop (α := Nat) (fun i => [(4, .pointer A4), (13, .slice A13 (fvP F).length c13), (15, .int .i64 (k : Int)), (16, .slice A16 (fcs F k).length c16), (18, .int .i64 (i : Int))]) (fun i w' => 1 ≤ i ∧ Below w22.heap.size w22 w') (fun i => (fcs F k).length - i) 1 ⟨rfl, rfl, rfl, rfl, rfl, trivial⟩ ⟨Nat.le_refl _, Below.refl _ _⟩ ?_
    rintro i e w23 ⟨hi, hb⟩
    have hM3 := hM.later hb
    refine Cd.seq ?_
    refine Cd.seq ?_
    refine Cd.region ?_
    refine Ops.mv_int rfl rfl rfl ?_
    refine Ops.mv_sl rfl rfl rfl ?_
    refine Ops.len rfl rfl ?_
    refine Ops.lss rfl rfl rfl ?_
    refine Ops.nil ?_
    refine thenQ_n ?_
    refine Cd.cond_p _ rfl (fun h4' => ?_) (fun h4' => ?_)
    · have hil : i < (fcs F k).length := by omega
      have hlt := fcs_ord (F := F) (k := k) (i := i) (by omega) hil
      have hla : (gl (fcs F k) ((i : Int) - 1)).length ≤ 9223372036854775807 := by
        have := fcs_len (F := F) (k := k) (x := gl (fcs F k) ((i : Int) - 1)) (by rw [show (i : Int) - 1 = ((i - 1 : Nat) : Int) by omega, gl_mem (by omega)]; exact List.getElem_mem _)
        omega
      have hra := hM3.at_ (i := (i : Int) - 1) (by omega) (by omega)
      have hrb := hM3.at_ (i := (i : Int)) (by omega) (by omega)
      have hla' := hra.1
      refine Cd.skip ?_
      refine thenQ_n ?_
      refine Cd.seq ?_
      refine Cd.block ?_
      refine Cd.seq ?_
      refine Cd.draw [.ex (.slice (A16) ((fcs F k).length) (c16)), .ex (.int .i64 ((i : Int))), .ex (.int .i64 (((i : Int)) - ((1 : Int)))), .ex (.pointer (ptrAt (A16) (((i : Int)) - ((1 : Int))).toNat)), .ex (.slice ((rg (rs16) (((i : Int)) - ((1 : Int)))).a) ((rg (rs16) (((i : Int)) - ((1 : Int)))).n) ((rg (rs16) (((i : Int)) - ((1 : Int)))).c)), .ex (.slice (A16) ((fcs F k).length) (c16)), .ex (.int .i64 ((i : Int))), .ex (.pointer (ptrAt (A16) ((i : Int)).toNat)), .ex (.slice ((rg (rs16) ((i : Int))).a) ((rg (rs16) ((i : Int))).n) ((rg (rs16) ((i : Int))).c)), .ex (.bool (decide (lexC (gl (fcs F k) ((i : Int) - 1)) (gl (fcs F k) (i : Int)) < 0))), .ex (.bool (false))] (by kernel_rfl) (by kernel_rfl) rfl (List.forall_mem_cons.2 ⟨Yd.lasts_ex _, (List.forall_mem_cons.2 ⟨Yd.lasts_ex _, (List.forall_mem_cons.2 ⟨Yd.lasts_ex _, (List.forall_mem_cons.2 ⟨Yd.lasts_ex _, (List.forall_mem_cons.2 ⟨Yd.lasts_ex _, (List.forall_mem_cons.2 ⟨Yd.lasts_ex _, (List.forall_mem_cons.2 ⟨Yd.lasts_ex _, (List.forall_mem_cons.2 ⟨Yd.lasts_ex _, (List.forall_mem_cons.2 ⟨Yd.lasts_ex _, (List.forall_mem_cons.2 ⟨Yd.lasts_ex _, (List.forall_mem_cons.2 ⟨Yd.lasts_ex _, (fun _ h => by cases h)⟩)⟩)⟩)⟩)⟩)⟩)⟩)⟩)⟩)⟩)⟩) ⟨?_, ?_, ?_, ?_, ?_, ?_, ?_, ?_, ?_, ?_, ?_, trivial⟩ ?_
      · intro e1 w1 hb hp hun
        refine Ops.mv_sl rfl rfl rfl ?_
        refine Ops.nil ?_
        exact After.dn (Below.refl _ _) (by exact rfl)
      · intro e1 w1 hb hp hun
        refine Ops.mv_int rfl rfl rfl ?_
        refine Ops.nil ?_
        exact After.dn (Below.refl _ _) (by exact rfl)
      · intro e1 w1 hb hp hun
        refine Ops.sub rfl rfl rfl (by omega) ?_
        refine Ops.nil ?_
        exact After.dn (Below.refl _ _) (by exact rfl)
      · intro e1 w1 hb hp hun
        refine Ops.idx (hM3.top.later hb).2 rfl rfl rfl (by omega) (by omega) ?_
        refine Ops.nil ?_
        exact After.dn (Below.refl _ _) (by exact rfl)
      · intro e1 w1 hb hp hun
        refine Ops.ld_sl (hM3.top.later hb) rfl (by omega) rfl rfl ?_
        refine Ops.nil ?_
        exact After.dn (Below.refl _ _) (by exact rfl)
      · intro e1 w1 hb hp hun
        refine Ops.mv_sl rfl rfl rfl ?_
        refine Ops.nil ?_
        exact After.dn (Below.refl _ _) (by exact rfl)
      · intro e1 w1 hb hp hun
        refine Ops.mv_int rfl rfl rfl ?_
        refine Ops.nil ?_
        exact After.dn (Below.refl _ _) (by exact rfl)
      · intro e1 w1 hb hp hun
        refine Ops.idx (hM3.top.later hb).2 rfl rfl rfl (by omega) (by omega) ?_
        refine Ops.nil ?_
        exact After.dn (Below.refl _ _) (by exact rfl)
      · intro e1 w1 hb hp hun
        refine Ops.ld_sl (hM3.top.later hb) rfl (by omega) rfl rfl ?_
        refine Ops.nil ?_
        exact After.dn (Below.refl _ _) (by exact rfl)
      · intro e1 w1 hb hp hun
        refine Ops.call (less9q_c _ _ _ _ _ _ _ _ _ (hra.later hb) (hrb.later hb) (by omega)) rfl rfl rfl ?_
        rintro _ w2 ⟨rfl, hst⟩
        refine Ops.nil ?_
        exact After.dn hst.below (by exact rfl)
      · intro e1 w1 hb hp hun
        refine Ops.not_p rfl rfl ?_
        refine Ops.nil ?_
        exact After.dn (Below.refl _ _) (by exact congrArg Value.bool (decide_eq_false (fun h => h hlt)))
      intro u w24 hb2 _
      refine thenQ_n ?_
      refine Cd.cond_f rfl ?_
      refine Cd.skip ?_
      refine blockQ_n ?_
      refine thenQ_n ?_
      refine Cd.region ?_
      refine Ops.mv_int rfl rfl rfl ?_
      refine Ops.add rfl rfl rfl (by omega) ?_
      refine Ops.mv_int rfl rfl rfl ?_
      refine Ops.nil ?_
      refine thenQ_n ?_
      exact ⟨i + 1, by show (fcs F k).length - (i + 1) < (fcs F k).length - i; omega, ⟨rfl, rfl, rfl, rfl, rfl, trivial⟩, by omega, hb.trans (hb2.mono hb.size)⟩
    · have hv := hv.later hb
      have hW := hW.later hb; have hT := hT.later hb; have hF := hF.later hb; have h4 := Rd.below h4 hb
      refine Cd.exit ?_
      refine thenQ_x ?_
      refine thenQ_x ?_
      refine blockQ_x ?_
      refine blockQ_n ?_
      refine thenQ_n ?_
      refine Cd.region ?_
      refine Ops.mv_int rfl rfl rfl ?_
      refine Ops.add rfl rfl rfl (by omega) ?_
      refine Ops.mv_int rfl rfl rfl ?_
      refine Ops.nil ?_
      refine thenQ_n ?_
      exact ⟨k + 1, by show dpt F + 1 - (k + 1) < dpt F + 1 - k; omega, ⟨rfl, rfl, rfl, trivial⟩, by omega, hW, hT, hF, h4, hv⟩
  · refine Cd.exit ?_
    refine thenQ_x ?_
    refine thenQ_x ?_
    refine blockQ_x ?_
    refine thenQ_n ?_
    refine Cd.seq ?_
    refine Cd.region ?_
    refine Ops.mv_bool rfl rfl rfl ?_
    refine Ops.nil ?_
    refine thenQ_n ?_
    refine Cd.ret ?_
    refine ret1_b rfl ?_
    exact ⟨rfl, hW⟩
end Go.Proofs.YtdedegbendjmbaaGreatDoor.Vc
