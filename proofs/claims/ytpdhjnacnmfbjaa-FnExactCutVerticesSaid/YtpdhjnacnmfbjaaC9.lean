/-
  The walks of the lengths of holes and zigzags on both sides. Conditions: as each states them.
-/
import Derived.Test.YtpdhjnacnmfbjaaC8
namespace Go.Proofs.Ytpdhjnacnmfbjaa.Vc
open Go.RowKit

def holeL (xss : List (List Int)) (j : Int) : List Int := if holeK xss j = 0 then wordL xss (holeW (j - 1).toNat) else []
def zigL (xss : List (List Int)) (j : Int) : List Int := if holeK xss j = 0 then wordL xss (zigW j.toNat) else []

theorem specHoleLengths_c (A : Option Addr) (n c : Nat) (rs : List SlV) (xss : List (List Int)) (j : Int) (w : World) (hR : RowsI w A n rs xss) (hn : n ≤ 9223372036854775807) :
    Ret Try.prog 34 [.agg #[.slice A n c], .int .i64 j] w (AnsR (holeL xss j) (holeK xss j) w) := by
  have hl := hR.len
  refine Ret.of_cd Try.func34 rfl Try.ntmps34 rfl (post2 rfl) ?_
  refine Cd.seq ?_
  refine Cd.region ?_
  -- stop: BOX 32 t0=m -> 2
  refine Ops.box1 (St.refl w) rfl rfl ?_
  intro Ab w1 hS1
  refine Ops.mv_sl rfl rfl rfl ?_
  refine Ops.mv_int rfl rfl rfl ?_
  refine Ops.nil ?_
  refine thenQ_n ?_
  refine Cd.seq ?_
  refine Cd.seq ?_
  refine Cd.region ?_
  -- stop: LOAD 32 t2=m -> 7
  refine Ops.ld_agg 0 (hS1.rd 0 rfl) rfl rfl rfl ?_
  refine Ops.mv_int rfl rfl rfl ?_
  -- stop: CALL spec.l18Number(t7, t8) -> 9
  refine Ops.call (l18Number_c A n c rs xss j _ (hS1.oldRows hR) hn) rfl rfl rfl ?_
  rintro _ w2 ⟨rfl, hst⟩
  have hS2 := hS1.later hst.below
  refine Ops.mv_int rfl rfl rfl ?_
  refine Ops.nil ?_
  refine thenQ_n ?_
  refine Cd.seq ?_
  refine Cd.region ?_
  refine Ops.mv_int rfl rfl rfl ?_
  refine Ops.neq rfl rfl rfl ?_
  refine Ops.nil ?_
  refine thenQ_n ?_
  -- stop: cond
  refine Cd.cond_p _ rfl (fun h => ?_) (fun h => ?_)
  · refine Cd.seq ?_
    refine Cd.region ?_
    refine Ops.mv_int rfl rfl rfl ?_
    refine Ops.mv_sl rfl rfl rfl ?_
    refine Ops.mv_int rfl rfl rfl ?_
    refine Ops.nil ?_
    refine thenQ_n ?_
    refine Cd.ret ?_
    refine thenQ_r ?_
    refine ret2_si rfl rfl ?_
    -- stop: end
    rw [holeL, if_neg h]
    exact AnsR.none hS2
  · have hK : holeK xss j = 0 := Classical.not_not.1 h
    obtain ⟨hG, hj, h3⟩ := holeK_zero hK
    have hMa := hG.1
    have hs := hMa.2.2.1.sys
    have h40 := hMa.2.1
    obtain ⟨k, hk⟩ : ∃ k : Nat, j - 1 = (k : Int) := ⟨(j - 1).toNat, by omega⟩
    have hk16 : k ≤ 15 := by omega
    refine Cd.skip ?_
    refine thenQ_n ?_
    refine Cd.seq ?_
    -- stop: draw
    refine Cd.drawN [8] [.ex (.agg #[.slice A n c]), .pr (fun v w' => ∃ A1, v = .slice A1 1 1 ∧ St w w' [CkI 2 A1 1 1 [0], Bx 32 1 Ab [.slice A n c]]), .pr (fun v w' => ∃ A1, v = .slice A1 2 2 ∧ RdI w' A1 2 [1, 2]), .ex (.int .i64 (j)), .ex (.int .i64 ((k : Int))), .pr (fun v w' => ∃ A1 c1, v = .slice A1 (2 * k) c1 ∧ RdI w' A1 (2 * k) (pow [1, 2] k)), .pr (fun v w' => ∃ A1 c1, v = .slice A1 (1 + 2 * k) c1 ∧ St w w' [CkI 2 A1 (1 + 2 * k) c1 (zigW k), Bx 32 1 Ab [.slice A n c]]), .pr (fun v w' => ∃ A1, v = .slice A1 1 1 ∧ RdI w' A1 1 [1]), .pr (fun v w' => ∃ A1 c1, v = .slice A1 (1 + 2 * k + 1) c1 ∧ St w w' [CkI 2 A1 (1 + 2 * k + 1) c1 (holeW k), Bx 32 1 Ab [.slice A n c]]), .pr (fun v w' => ∃ A1 c1, v = .slice A1 (wordL xss (holeW k)).length c1 ∧ St w w' [CkI 2 A1 (wordL xss (holeW k)).length c1 (wordL xss (holeW k))]), .pr (fun v w' => ∃ A1 c1, v = .slice A1 (wordL xss (holeW k)).length c1 ∧ St w w' [CkI 2 A1 (wordL xss (holeW k)).length c1 (wordL xss (holeW k))]), .ex (.int .i64 ((0 : Int)))] (by kernel_rfl) (by kernel_rfl) (List.forall_mem_cons.2 ⟨Yd.lasts_ex _, (List.forall_mem_cons.2 ⟨Yd.lasts_pr (fun v w w' h hb => by obtain ⟨A1, hv, hT⟩ := h; exact ⟨A1, hv, hT.later hb⟩), (List.forall_mem_cons.2 ⟨Yd.lasts_pr (fun v w w' h hb => by obtain ⟨A1, hv, hT⟩ := h; exact ⟨A1, hv, hT.later hb⟩), (List.forall_mem_cons.2 ⟨Yd.lasts_ex _, (List.forall_mem_cons.2 ⟨Yd.lasts_ex _, (List.forall_mem_cons.2 ⟨Yd.lasts_pr (fun v w w' h hb => by obtain ⟨A1, c1, hv, hT⟩ := h; exact ⟨A1, c1, hv, hT.later hb⟩), (List.forall_mem_cons.2 ⟨Yd.lasts_pr (fun v w w' h hb => by obtain ⟨A1, c1, hv, hT⟩ := h; exact ⟨A1, c1, hv, hT.later hb⟩), (List.forall_mem_cons.2 ⟨Yd.lasts_pr (fun v w w' h hb => by obtain ⟨A1, hv, hT⟩ := h; exact ⟨A1, hv, hT.later hb⟩), (List.forall_mem_cons.2 ⟨Yd.lasts_pr (fun v w w' h hb => by obtain ⟨A1, c1, hv, hT⟩ := h; exact ⟨A1, c1, hv, hT.later hb⟩), (List.forall_mem_cons.2 ⟨Yd.lasts_pr (fun v w w' h hb => by obtain ⟨A1, c1, hv, hT⟩ := h; exact ⟨A1, c1, hv, hT.later hb⟩), (List.forall_mem_cons.2 ⟨Yd.lasts_pr (fun v w w' h hb => by obtain ⟨A1, c1, hv, hT⟩ := h; exact ⟨A1, c1, hv, hT.later hb⟩), (List.forall_mem_cons.2 ⟨Yd.lasts_ex _, (fun _ h => by cases h)⟩)⟩)⟩)⟩)⟩)⟩)⟩)⟩)⟩)⟩)⟩)⟩) ⟨?_, ?_, ?_, ?_, ?_, ?_, ?_, ?_, ?_, ?_, ?_, ?_, trivial⟩ ?_
    · intro e1 w1 cc hlo hhi hb0 hp hun hq
      show Ops _ _ _ _ _ _ _
      have hB : Rd w1 Ab 1 (fun _ => .slice A n c) := by { have hhi := le_of_hi hhi (b := 1) (by kernel_rfl); rcases (show cc = 0 ∨ cc = 1 by omega) with h | h; { exact Rd.one ((hS2.later (hb0 h)).rd 0 rfl) }; { subst h; obtain ⟨A0, c0, _, hT⟩ := hq 8 _ _ (by kernel_rfl) (by kernel_rfl) (by kernel_rfl) rfl rfl (by kernel_rfl); exact Rd.one (hT.rd 1 rfl) } }
      refine Ops.ld_agg 0 hB rfl rfl rfl ?_
      refine Ops.nil ?_
      exact AfterN.dn rfl (Below.refl _ _) (by exact rfl)
    · intro e1 w1 cc hlo hhi hb0 hp hun hq
      show Ops _ _ _ _ _ _ _
      replace hlo := le_of_lo hlo (b := 0) (by kernel_rfl)
      replace hhi := le_of_hi hhi (b := 0) (by kernel_rfl)
      obtain rfl : cc = 0 := by omega
      have hb := hb0 rfl
      refine Ops.bs1I (St.refl _) rfl rfl rfl ?_
      intro A1 w9 hst
      refine Ops.nil ?_
      exact AfterN.dn rfl hst.below ⟨A1, rfl, (hS2.later hb).call hst⟩
    · intro e1 w1 cc hlo hhi hb0 hp hun hq
      show Ops _ _ _ _ _ _ _
      refine Ops.bs2 (St.refl _) rfl rfl rfl rfl rfl rfl ?_
      intro A1 w9 hst
      refine Ops.nil ?_
      exact AfterN.dn rfl hst.below ⟨A1, rfl, (show St _ _ [CkI 2 A1 2 2 [1, 2]] from hst).rdI 0 rfl⟩
    · intro e1 w1 cc hlo hhi hb0 hp hun hq
      show Ops _ _ _ _ _ _ _
      refine Ops.mv_int rfl rfl rfl ?_
      refine Ops.nil ?_
      exact AfterN.dn rfl (Below.refl _ _) (by exact rfl)
    · intro e1 w1 cc hlo hhi hb0 hp hun hq
      show Ops _ _ _ _ _ _ _
      rw [← hk]
      refine Ops.sub rfl rfl rfl (by omega) ?_
      refine Ops.nil ?_
      exact AfterN.dn rfl (Below.refl _ _) (by exact rfl)
    · intro e1 w1 cc hlo hhi hb0 hp hun hq
      show Ops _ _ _ _ _ _ _
      replace hlo := le_of_lo hlo (b := 0) (by kernel_rfl)
      replace hhi := le_of_hi hhi (b := 0) (by kernel_rfl)
      obtain rfl : cc = 0 := by omega
      have hb := hb0 rfl
      obtain ⟨A0, h15, hT0⟩ := (hp 2 _ _ (by kernel_rfl) rfl rfl (by kernel_rfl))
      have hb := hb0 rfl
      refine Ops.call (l11Power_c A0 2 2 [1, 2] k _ hT0 (by omega) (by omega)) rfl (by exact congrArg (fun v => [v, Value.int .i64 (k : Int)]) h15) rfl ?_
      rintro _ w9 ⟨A1, c1, rfl, hst⟩
      refine Ops.nil ?_
      exact AfterN.dn rfl hst.below ⟨A1, c1, rfl, hst.rdI 0 rfl⟩
    · intro e1 w1 cc hlo hhi hb0 hp hun hq
      show Ops _ _ _ _ _ _ _
      replace hlo := le_of_lo hlo (b := 0) (by kernel_rfl)
      replace hhi := le_of_hi hhi (b := 0) (by kernel_rfl)
      obtain rfl : cc = 0 := by omega
      have hb := hb0 rfl
      obtain ⟨A0, h14, hT0⟩ := (hp 1 _ _ (by kernel_rfl) rfl rfl (by kernel_rfl))
      obtain ⟨A2, c2, h18, hT2⟩ := (hp 5 _ _ (by kernel_rfl) rfl rfl (by kernel_rfl))
      have hb := hb0 rfl
      refine Ops.appFI 0 rfl hT0 rfl hT2 (by exact h14) (by exact h18) rfl (by omega) (by omega) rfl ?_
      intro A1 c1 w9 hbl hst
      refine Ops.nil ?_
      exact AfterN.dn rfl hbl ⟨A1, c1, rfl, hst⟩
    · intro e1 w1 cc hlo hhi hb0 hp hun hq
      show Ops _ _ _ _ _ _ _
      refine Ops.bs1I (St.refl _) rfl rfl rfl ?_
      intro A1 w9 hst
      refine Ops.nil ?_
      exact AfterN.dn rfl hst.below ⟨A1, rfl, hst.rdI 0 rfl⟩
    · intro e1 w1 cc hlo hhi hb0 hp hun hq
      show Ops _ _ _ _ _ _ _
      replace hlo := le_of_lo hlo (b := 0) (by kernel_rfl)
      replace hhi := le_of_hi hhi (b := 0) (by kernel_rfl)
      obtain rfl : cc = 0 := by omega
      have hb := hb0 rfl
      obtain ⟨A0, c0, h19, hT0⟩ := (hp 6 _ _ (by kernel_rfl) rfl rfl (by kernel_rfl))
      obtain ⟨A2, h20, hT2⟩ := (hp 7 _ _ (by kernel_rfl) rfl rfl (by kernel_rfl))
      refine Ops.appI 0 hT0 rfl hT2 (by exact h19) (by exact h20) rfl (by omega) (by omega) rfl ?_
      intro A1 c1 w9 hst
      refine Ops.nil ?_
      exact AfterT.dn rfl ⟨A1, c1, rfl, hst⟩
    · intro e1 w1 cc hlo hhi hb0 hp hun hq
      show Ops _ _ _ _ _ _ _
      replace hlo := le_of_lo hlo (b := 1) (by kernel_rfl)
      replace hhi := le_of_hi hhi (b := 1) (by kernel_rfl)
      obtain rfl : cc = 1 := by omega
      have hph := hp 8 _ _ (by kernel_rfl) rfl rfl (by kernel_rfl)
      obtain ⟨A0, c0, h21, hT0⟩ := (hp 8 _ _ (by kernel_rfl) rfl rfl (by kernel_rfl))
      refine Ops.call (l18Lengths_c A n c rs xss (gl xss 0).length A0 _ c0 (holeW k) _ (hT0.oldRows hR) (by omega) rfl (by omega) hs (hT0.rdI 0 rfl) (by omega) (fun i hi => by have := in_gi (holeW_in k) i (by rw [holeW_len]; exact hi); omega)) rfl (by exact congrArg (fun v => [Value.agg #[.slice A n c], v]) h21) rfl ?_
      rintro _ w9 ⟨A1, c1, rfl, hst⟩
      refine Ops.nil ?_
      exact AfterN.dn rfl hst.below ⟨A1, c1, by rw [wordL_len], by rw [wordL_len]; exact (hT0.call hst).sub (List.Sublist.cons_cons _ (List.nil_sublist _))⟩
    · intro e1 w1 cc hlo hhi hb0 hp hun hq
      show Ops _ _ _ _ _ _ _
      replace hlo := le_of_lo hlo (b := 1) (by kernel_rfl)
      replace hhi := le_of_hi hhi (b := 1) (by kernel_rfl)
      obtain rfl : cc = 1 := by omega
      have hph := hp 8 _ _ (by kernel_rfl) rfl rfl (by kernel_rfl)
      obtain ⟨A1, c1, h22, hT⟩ := (hp 9 _ _ (by kernel_rfl) rfl rfl (by kernel_rfl))
      refine Ops.mv_sl rfl (by exact h22) rfl ?_
      refine Ops.nil ?_
      exact AfterN.dn rfl (Below.refl _ _) ⟨A1, c1, rfl, hT⟩
    · intro e1 w1 cc hlo hhi hb0 hp hun hq
      show Ops _ _ _ _ _ _ _
      refine Ops.mv_int rfl rfl rfl ?_
      refine Ops.nil ?_
      exact AfterN.dn rfl (Below.refl _ _) (by exact rfl)
    intro u w9 _ hu
    obtain ⟨A9, c9, h4, hT⟩ := hu 10 _ rfl (by kernel_rfl)
    refine thenQ_n ?_
    refine Cd.ret ?_
    refine ret2_si (by exact h4) rfl ?_
    -- stop: end
    rw [holeL, if_pos hK, hK, hk, Int.toNat_natCast]
    exact ⟨A9, c9, rfl, hT⟩

theorem implHoleLengths_c (A : Option Addr) (n c : Nat) (rs : List SlV) (xss : List (List Int)) (j : Int) (w : World) (hR : RowsI w A n rs xss) (hn : n ≤ c) (hc : c ≤ 9223372036854775807) :
    Ret Try.prog 35 [.agg #[.slice A n c], .int .i64 j] w (AnsR (holeL xss j) (holeK xss j) w) := by
  have hl := hR.len
  refine Ret.of_cd Try.func35 rfl Try.ntmps35 rfl (post2 rfl) ?_
  refine Cd.seq ?_
  refine Cd.region ?_
  -- stop: BOX 32 t0=m -> 2
  refine Ops.box1 (St.refl w) rfl rfl ?_
  intro Ab w1 hS1
  refine Ops.mv_sl rfl rfl rfl ?_
  refine Ops.mv_int rfl rfl rfl ?_
  refine Ops.nil ?_
  refine thenQ_n ?_
  refine Cd.seq ?_
  refine Cd.seq ?_
  refine Cd.region ?_
  -- stop: LOAD 32 t2=m -> 7
  refine Ops.ld_agg 0 (hS1.rd 0 rfl) rfl rfl rfl ?_
  refine Ops.mv_int rfl rfl rfl ?_
  -- stop: CALL impl.holeCode(t7, t8) -> 9
  refine Ops.call (holeCode_c A n c rs xss j _ (hS1.oldRows hR) hn hc) rfl rfl rfl ?_
  rintro _ w2 ⟨rfl, hst⟩
  have hS2 := hS1.later hst.below
  refine Ops.mv_int rfl rfl rfl ?_
  refine Ops.nil ?_
  refine thenQ_n ?_
  refine Cd.seq ?_
  refine Cd.region ?_
  refine Ops.mv_int rfl rfl rfl ?_
  refine Ops.neq rfl rfl rfl ?_
  refine Ops.nil ?_
  refine thenQ_n ?_
  -- stop: cond
  refine Cd.cond_p _ rfl (fun h => ?_) (fun h => ?_)
  · refine Cd.seq ?_
    refine Cd.region ?_
    refine Ops.mv_int rfl rfl rfl ?_
    refine Ops.mv_sl rfl rfl rfl ?_
    refine Ops.mv_int rfl rfl rfl ?_
    refine Ops.nil ?_
    refine thenQ_n ?_
    refine Cd.ret ?_
    refine thenQ_r ?_
    refine ret2_si rfl rfl ?_
    -- stop: end
    rw [holeL, if_neg h]
    exact AnsR.none hS2
  · have hK : holeK xss j = 0 := Classical.not_not.1 h
    obtain ⟨hG, hj, h3⟩ := holeK_zero hK
    have hMa := hG.1
    have hs := hMa.2.2.1.sys
    have h40 := hMa.2.1
    obtain ⟨k, hk⟩ : ∃ k : Nat, j - 1 = (k : Int) := ⟨(j - 1).toNat, by omega⟩
    have hk16 : k ≤ 15 := by omega
    have hw : ∀ i : Nat, i < 1 + 2 * k + 1 → 0 ≤ gi (holeW k) i ∧ gi (holeW k) i < n := fun i hi => by have := in_gi (holeW_in k) i (by rw [holeW_len]; exact hi); omega
    refine Cd.skip ?_
    refine thenQ_n ?_
    refine Cd.seq ?_
    refine Cd.region ?_
    refine Ops.mv_int rfl rfl rfl ?_
    refine Ops.sub rfl rfl rfl (by omega) ?_
    -- stop: CALL impl.zigzagWord(t14) -> 15
    rw [hk]
    refine Ops.call (zigzagWord_c k _ (by omega)) rfl rfl rfl ?_
    rintro _ w3 ⟨A3, c3, rfl, hst⟩
    have hS3 := hS2.call hst
    refine Ops.bs1I hS3 rfl rfl rfl ?_
    intro A4 w4 hS4
    refine Ops.appI 1 hS4 rfl (hS4.rdI 0 rfl) rfl rfl rfl (by omega) (by omega) rfl ?_
    intro A5 c5 w5 hS5
    have hS5 : St w w5 (CkI 2 A5 (1 + 2 * k + 1) c5 (holeW k) :: Bx 32 1 Ab [.slice A n c] :: []) := hS5.tail
    refine Ops.call (does_c Ab A n c rs xss (gl xss 0).length A5 _ c5 (holeW k) _ (Rd.congr (hS5.rd 1 rfl) (fun j hj => by obtain rfl : j = 0 := by { have : j < 1 := hj; omega }; rfl)) (hS5.oldRows hR) (by omega) rfl (by omega) hs (hS5.rdI 0 rfl) (by omega) hw) rfl rfl rfl ?_
    rintro _ w6 ⟨A6, rfl, hst⟩
    have hS6 := hS5.call hst
    refine Ops.call (CycleLengths_c A6 _ _ _ _ (hS6.rdI 0 rfl) (by omega) (does_perm hs hMa.2.2.1.inj (by omega) (fun i hi => by have := holeW_in k i hi; omega))) rfl rfl rfl ?_
    rintro _ w7 ⟨A7, c7, rfl, hst⟩
    have hS7 := hS6.call hst
    refine Ops.extract rfl rfl rfl ?_
    refine Ops.extract rfl rfl rfl ?_
    refine Ops.mv_sl rfl rfl rfl ?_
    refine Ops.mv_int rfl rfl rfl ?_
    refine Ops.nil ?_
    refine thenQ_n ?_
    refine Cd.ret ?_
    refine ret2_si rfl rfl ?_
    -- stop: end
    rw [holeL, if_pos hK, hK, hk, Int.toNat_natCast]
    exact AnsR.word hS7

theorem specZigzagLengths_c (A : Option Addr) (n c : Nat) (rs : List SlV) (xss : List (List Int)) (j : Int) (w : World) (hR : RowsI w A n rs xss) (hn : n ≤ 9223372036854775807) :
    Ret Try.prog 36 [.agg #[.slice A n c], .int .i64 j] w (AnsR (zigL xss j) (holeK xss j) w) := by
  have hl := hR.len
  refine Ret.of_cd Try.func36 rfl Try.ntmps36 rfl (post2 rfl) ?_
  refine Cd.seq ?_
  refine Cd.region ?_
  -- stop: BOX 32 t0=m -> 2
  refine Ops.box1 (St.refl w) rfl rfl ?_
  intro Ab w1 hS1
  refine Ops.mv_sl rfl rfl rfl ?_
  refine Ops.mv_int rfl rfl rfl ?_
  refine Ops.nil ?_
  refine thenQ_n ?_
  refine Cd.seq ?_
  refine Cd.seq ?_
  refine Cd.region ?_
  -- stop: LOAD 32 t2=m -> 7
  refine Ops.ld_agg 0 (hS1.rd 0 rfl) rfl rfl rfl ?_
  refine Ops.mv_int rfl rfl rfl ?_
  -- stop: CALL spec.l18Number(t7, t8) -> 9
  refine Ops.call (l18Number_c A n c rs xss j _ (hS1.oldRows hR) hn) rfl rfl rfl ?_
  rintro _ w2 ⟨rfl, hst⟩
  have hS2 := hS1.later hst.below
  refine Ops.mv_int rfl rfl rfl ?_
  refine Ops.nil ?_
  refine thenQ_n ?_
  refine Cd.seq ?_
  refine Cd.region ?_
  refine Ops.mv_int rfl rfl rfl ?_
  refine Ops.neq rfl rfl rfl ?_
  refine Ops.nil ?_
  refine thenQ_n ?_
  -- stop: cond
  refine Cd.cond_p _ rfl (fun h => ?_) (fun h => ?_)
  · refine Cd.seq ?_
    refine Cd.region ?_
    refine Ops.mv_int rfl rfl rfl ?_
    refine Ops.mv_sl rfl rfl rfl ?_
    refine Ops.mv_int rfl rfl rfl ?_
    refine Ops.nil ?_
    refine thenQ_n ?_
    refine Cd.ret ?_
    refine thenQ_r ?_
    refine ret2_si rfl rfl ?_
    -- stop: end
    rw [zigL, if_neg h]
    exact AnsR.none hS2
  · have hK : holeK xss j = 0 := Classical.not_not.1 h
    obtain ⟨hG, hj, h3⟩ := holeK_zero hK
    have hMa := hG.1
    have hs := hMa.2.2.1.sys
    have h40 := hMa.2.1
    obtain ⟨k, rfl⟩ : ∃ k : Nat, j = (k : Int) := ⟨j.toNat, by omega⟩
    have hk16 : k ≤ 16 := by omega
    refine Cd.skip ?_
    refine thenQ_n ?_
    refine Cd.seq ?_
    -- stop: draw
    refine Cd.drawN [] [.ex (.agg #[.slice (A) (n) (c)]), .pr (fun v w' => ∃ A1, v = .slice A1 1 1 ∧ St w w' [CkI 2 A1 1 1 [0]]), .pr (fun v w' => ∃ A1, v = .slice A1 2 2 ∧ RdI w' A1 2 [1, 2]), .ex (.int .i64 ((k : Int))), .pr (fun v w' => ∃ A1 c1, v = .slice A1 (2 * k) c1 ∧ RdI w' A1 (2 * k) (pow [1, 2] k)), .pr (fun v w' => ∃ A1 c1, v = .slice A1 (1 + 2 * k) c1 ∧ St w w' [CkI 2 A1 (1 + 2 * k) c1 (zigW k)]), .pr (fun v w' => ∃ A1 c1, v = .slice A1 (wordL xss (zigW k)).length c1 ∧ St w w' [CkI 2 A1 (wordL xss (zigW k)).length c1 (wordL xss (zigW k))]), .pr (fun v w' => ∃ A1 c1, v = .slice A1 (wordL xss (zigW k)).length c1 ∧ St w w' [CkI 2 A1 (wordL xss (zigW k)).length c1 (wordL xss (zigW k))]), .ex (.int .i64 ((0 : Int)))] (by kernel_rfl) (by kernel_rfl) (List.forall_mem_cons.2 ⟨Yd.lasts_ex _, (List.forall_mem_cons.2 ⟨Yd.lasts_pr (fun v w w' h hb => by obtain ⟨A1, hv, hT⟩ := h; exact ⟨A1, hv, hT.later hb⟩), (List.forall_mem_cons.2 ⟨Yd.lasts_pr (fun v w w' h hb => by obtain ⟨A1, hv, hT⟩ := h; exact ⟨A1, hv, hT.later hb⟩), (List.forall_mem_cons.2 ⟨Yd.lasts_ex _, (List.forall_mem_cons.2 ⟨Yd.lasts_pr (fun v w w' h hb => by obtain ⟨A1, c1, hv, hT⟩ := h; exact ⟨A1, c1, hv, hT.later hb⟩), (List.forall_mem_cons.2 ⟨Yd.lasts_pr (fun v w w' h hb => by obtain ⟨A1, c1, hv, hT⟩ := h; exact ⟨A1, c1, hv, hT.later hb⟩), (List.forall_mem_cons.2 ⟨Yd.lasts_pr (fun v w w' h hb => by obtain ⟨A1, c1, hv, hT⟩ := h; exact ⟨A1, c1, hv, hT.later hb⟩), (List.forall_mem_cons.2 ⟨Yd.lasts_pr (fun v w w' h hb => by obtain ⟨A1, c1, hv, hT⟩ := h; exact ⟨A1, c1, hv, hT.later hb⟩), (List.forall_mem_cons.2 ⟨Yd.lasts_ex _, (fun _ h => by cases h)⟩)⟩)⟩)⟩)⟩)⟩)⟩)⟩)⟩) ⟨?_, ?_, ?_, ?_, ?_, ?_, ?_, ?_, ?_, trivial⟩ ?_
    · intro e1 w1 cc hlo hhi hb0 hp hun hq
      show Ops _ _ _ _ _ _ _
      replace hlo := le_of_lo hlo (b := 0) (by kernel_rfl)
      replace hhi := le_of_hi hhi (b := 0) (by kernel_rfl)
      obtain rfl : cc = 0 := by omega
      have hb := hb0 rfl
      refine Ops.ld_agg 0 ((hS2.rd 0 rfl).below hb) rfl rfl rfl ?_
      refine Ops.nil ?_
      exact AfterN.dn rfl (Below.refl _ _) (by exact rfl)
    · intro e1 w1 cc hlo hhi hb0 hp hun hq
      show Ops _ _ _ _ _ _ _
      replace hlo := le_of_lo hlo (b := 0) (by kernel_rfl)
      replace hhi := le_of_hi hhi (b := 0) (by kernel_rfl)
      obtain rfl : cc = 0 := by omega
      have hb := hb0 rfl
      refine Ops.bs1I (St.refl _) rfl rfl rfl ?_
      intro A1 w9 hst
      refine Ops.nil ?_
      exact AfterN.dn rfl hst.below ⟨A1, rfl, ((hS2.later hb).call hst).sub (List.Sublist.cons_cons _ (List.nil_sublist _))⟩
    · intro e1 w1 cc hlo hhi hb0 hp hun hq
      show Ops _ _ _ _ _ _ _
      refine Ops.bs2 (St.refl _) rfl rfl rfl rfl rfl rfl ?_
      intro A1 w9 hst
      refine Ops.nil ?_
      exact AfterN.dn rfl hst.below ⟨A1, rfl, (show St _ _ [CkI 2 A1 2 2 [1, 2]] from hst).rdI 0 rfl⟩
    · intro e1 w1 cc hlo hhi hb0 hp hun hq
      show Ops _ _ _ _ _ _ _
      refine Ops.mv_int rfl rfl rfl ?_
      refine Ops.nil ?_
      exact AfterN.dn rfl (Below.refl _ _) (by exact rfl)
    · intro e1 w1 cc hlo hhi hb0 hp hun hq
      show Ops _ _ _ _ _ _ _
      replace hlo := le_of_lo hlo (b := 0) (by kernel_rfl)
      replace hhi := le_of_hi hhi (b := 0) (by kernel_rfl)
      obtain rfl : cc = 0 := by omega
      have hb := hb0 rfl
      obtain ⟨A0, h15, hT0⟩ := (hp 2 _ _ (by kernel_rfl) rfl rfl (by kernel_rfl))
      have hb := hb0 rfl
      refine Ops.call (l11Power_c A0 2 2 [1, 2] k _ hT0 (by omega) (by omega)) rfl (by exact congrArg (fun v => [v, Value.int .i64 (k : Int)]) h15) rfl ?_
      rintro _ w9 ⟨A1, c1, rfl, hst⟩
      refine Ops.nil ?_
      exact AfterN.dn rfl hst.below ⟨A1, c1, rfl, hst.rdI 0 rfl⟩
    · intro e1 w1 cc hlo hhi hb0 hp hun hq
      show Ops _ _ _ _ _ _ _
      replace hlo := le_of_lo hlo (b := 0) (by kernel_rfl)
      replace hhi := le_of_hi hhi (b := 0) (by kernel_rfl)
      obtain rfl : cc = 0 := by omega
      have hb := hb0 rfl
      obtain ⟨A0, h14, hT0⟩ := (hp 1 _ _ (by kernel_rfl) rfl rfl (by kernel_rfl))
      obtain ⟨A2, c2, h17, hT2⟩ := (hp 4 _ _ (by kernel_rfl) rfl rfl (by kernel_rfl))
      have hb := hb0 rfl
      refine Ops.appFI 0 rfl hT0 rfl hT2 (by exact h14) (by exact h17) rfl (by omega) (by omega) rfl ?_
      intro A1 c1 w9 hbl hst
      refine Ops.nil ?_
      exact AfterN.dn rfl hbl ⟨A1, c1, rfl, hst⟩
    · intro e1 w1 cc hlo hhi hb0 hp hun hq
      show Ops _ _ _ _ _ _ _
      replace hlo := le_of_lo hlo (b := 0) (by kernel_rfl)
      replace hhi := le_of_hi hhi (b := 0) (by kernel_rfl)
      obtain rfl : cc = 0 := by omega
      have hb := hb0 rfl
      obtain ⟨A0, c0, h18, hT0⟩ := (hp 5 _ _ (by kernel_rfl) rfl rfl (by kernel_rfl))
      refine Ops.call (l18Lengths_c A n c rs xss (gl xss 0).length A0 _ c0 (zigW k) _ (hT0.oldRows hR) (by omega) rfl (by omega) hs (hT0.rdI 0 rfl) (by omega) (fun i hi => by have := in_gi (zigW_in k) i (by rw [zigW_len]; exact hi); omega)) rfl (by exact congrArg (fun v => [Value.agg #[.slice A n c], v]) h18) rfl ?_
      rintro _ w9 ⟨A1, c1, rfl, hst⟩
      refine Ops.nil ?_
      exact AfterN.dn rfl hst.below ⟨A1, c1, by rw [wordL_len], by rw [wordL_len]; exact (hT0.call hst).sub (List.Sublist.cons_cons _ (List.nil_sublist _))⟩
    · intro e1 w1 cc hlo hhi hb0 hp hun hq
      show Ops _ _ _ _ _ _ _
      replace hlo := le_of_lo hlo (b := 0) (by kernel_rfl)
      replace hhi := le_of_hi hhi (b := 0) (by kernel_rfl)
      obtain rfl : cc = 0 := by omega
      have hb := hb0 rfl
      obtain ⟨A1, c1, h19, hT⟩ := (hp 6 _ _ (by kernel_rfl) rfl rfl (by kernel_rfl))
      refine Ops.mv_sl rfl (by exact h19) rfl ?_
      refine Ops.nil ?_
      exact AfterN.dn rfl (Below.refl _ _) ⟨A1, c1, rfl, hT⟩
    · intro e1 w1 cc hlo hhi hb0 hp hun hq
      show Ops _ _ _ _ _ _ _
      refine Ops.mv_int rfl rfl rfl ?_
      refine Ops.nil ?_
      exact AfterN.dn rfl (Below.refl _ _) (by exact rfl)
    intro u w9 _ hu
    obtain ⟨A9, c9, h4, hT⟩ := hu 7 _ rfl (by kernel_rfl)
    refine thenQ_n ?_
    refine Cd.ret ?_
    refine ret2_si (by exact h4) rfl ?_
    -- stop: end
    rw [zigL, if_pos hK, hK, Int.toNat_natCast]
    exact ⟨A9, c9, rfl, hT⟩

theorem implZigzagLengths_c (A : Option Addr) (n c : Nat) (rs : List SlV) (xss : List (List Int)) (j : Int) (w : World) (hR : RowsI w A n rs xss) (hn : n ≤ c) (hc : c ≤ 9223372036854775807) :
    Ret Try.prog 37 [.agg #[.slice A n c], .int .i64 j] w (AnsR (zigL xss j) (holeK xss j) w) := by
  have hl := hR.len
  refine Ret.of_cd Try.func37 rfl Try.ntmps37 rfl (post2 rfl) ?_
  refine Cd.seq ?_
  refine Cd.region ?_
  -- stop: BOX 32 t0=m -> 2
  refine Ops.box1 (St.refl w) rfl rfl ?_
  intro Ab w1 hS1
  refine Ops.mv_sl rfl rfl rfl ?_
  refine Ops.mv_int rfl rfl rfl ?_
  refine Ops.nil ?_
  refine thenQ_n ?_
  refine Cd.seq ?_
  refine Cd.seq ?_
  refine Cd.region ?_
  -- stop: LOAD 32 t2=m -> 7
  refine Ops.ld_agg 0 (hS1.rd 0 rfl) rfl rfl rfl ?_
  refine Ops.mv_int rfl rfl rfl ?_
  -- stop: CALL impl.holeCode(t7, t8) -> 9
  refine Ops.call (holeCode_c A n c rs xss j _ (hS1.oldRows hR) hn hc) rfl rfl rfl ?_
  rintro _ w2 ⟨rfl, hst⟩
  have hS2 := hS1.later hst.below
  refine Ops.mv_int rfl rfl rfl ?_
  refine Ops.nil ?_
  refine thenQ_n ?_
  refine Cd.seq ?_
  refine Cd.region ?_
  refine Ops.mv_int rfl rfl rfl ?_
  refine Ops.neq rfl rfl rfl ?_
  refine Ops.nil ?_
  refine thenQ_n ?_
  -- stop: cond
  refine Cd.cond_p _ rfl (fun h => ?_) (fun h => ?_)
  · refine Cd.seq ?_
    refine Cd.region ?_
    refine Ops.mv_int rfl rfl rfl ?_
    refine Ops.mv_sl rfl rfl rfl ?_
    refine Ops.mv_int rfl rfl rfl ?_
    refine Ops.nil ?_
    refine thenQ_n ?_
    refine Cd.ret ?_
    refine thenQ_r ?_
    refine ret2_si rfl rfl ?_
    -- stop: end
    rw [zigL, if_neg h]
    exact AnsR.none hS2
  · have hK : holeK xss j = 0 := Classical.not_not.1 h
    obtain ⟨hG, hj, h3⟩ := holeK_zero hK
    have hMa := hG.1
    have hs := hMa.2.2.1.sys
    have h40 := hMa.2.1
    obtain ⟨k, rfl⟩ : ∃ k : Nat, j = (k : Int) := ⟨j.toNat, by omega⟩
    have hk16 : k ≤ 16 := by omega
    have hw : ∀ i : Nat, i < 1 + 2 * k → 0 ≤ gi (zigW k) i ∧ gi (zigW k) i < n := fun i hi => by have := in_gi (zigW_in k) i (by rw [zigW_len]; exact hi); omega
    refine Cd.skip ?_
    refine thenQ_n ?_
    refine Cd.seq ?_
    refine Cd.region ?_
    refine Ops.mv_int rfl rfl rfl ?_
    -- stop: CALL impl.zigzagWord(t13) -> 14
    refine Ops.call (zigzagWord_c k _ (by omega)) rfl rfl rfl ?_
    rintro _ w3 ⟨A3, c3, rfl, hst⟩
    have hS3 := hS2.call hst
    refine Ops.call (does_c Ab A n c rs xss (gl xss 0).length A3 _ c3 (zigW k) _ (Rd.congr (hS3.rd 1 rfl) (fun j hj => by obtain rfl : j = 0 := by { have : j < 1 := hj; omega }; rfl)) (hS3.oldRows hR) (by omega) rfl (by omega) hs (hS3.rdI 0 rfl) (by omega) hw) rfl rfl rfl ?_
    rintro _ w6 ⟨A6, rfl, hst⟩
    have hS6 := hS3.call hst
    refine Ops.call (CycleLengths_c A6 _ _ _ _ (hS6.rdI 0 rfl) (by omega) (does_perm hs hMa.2.2.1.inj (by omega) (fun i hi => by have := zigW_in k i hi; omega))) rfl rfl rfl ?_
    rintro _ w7 ⟨A7, c7, rfl, hst⟩
    have hS7 := hS6.call hst
    refine Ops.extract rfl rfl rfl ?_
    refine Ops.extract rfl rfl rfl ?_
    refine Ops.mv_sl rfl rfl rfl ?_
    refine Ops.mv_int rfl rfl rfl ?_
    refine Ops.nil ?_
    refine thenQ_n ?_
    refine Cd.ret ?_
    refine ret2_si rfl rfl ?_
    -- stop: end
    rw [zigL, if_pos hK, hK, Int.toNat_natCast]
    exact AnsR.word hS7
end Go.Proofs.Ytpdhjnacnmfbjaa.Vc
