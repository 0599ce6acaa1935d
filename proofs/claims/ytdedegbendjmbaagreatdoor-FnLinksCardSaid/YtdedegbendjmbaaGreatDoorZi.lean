/-
  The texts Cw2, Dr0, Open, Opm, Opy, Cw3, Co18, Co20, Co24, Cw5 in one. Conditions: as each part states them.
-/
import Derived.Test.YtdedegbendjmbaaGreatDoorZh
import Derived.Test.YtdedegbendjmbaaGreatDoorZb
import Derived.Test.YtdedegbendjmbaaGreatDoorZa
import Derived.Test.YtdedegbendjmbaaGreatDoorInst
import Derived.Deep.Matrix
import Derived.Carry
import Derived.Below
import Derived.ChangeSame
import Derived.ProofKit
import Derived.OpenShut
import Derived.Handed
import Derived.Lib.SmallJoins
import Derived.Test.YtdedegbendjmbaaGreatDoorZe
import Derived.Test.YtdedegbendjmbaaGreatDoorZf
import Derived.Test.YtdedegbendjmbaaGreatDoorZg
import Derived.Test.YtdedegbendjmbaaGreatDoorZc
/-
  What mostly is a complex, drawn; and lists drawn, walked. Conditions: as each states them.
-/
namespace Go.Proofs.YtdedegbendjmbaaGreatDoor.Vc
open Go.RowKit

theorem St.matAdd2 {w0 w : World} {t1 t2 : TypeId} {a A : Option Addr} {m d n c : Nat} {x : List Int} {rs : List SlV} {L : List (List Int)} {p q : Ck} {X : List Ck} (h : St w0 w (CkI t2 a m d x :: p :: q :: CkR t1 A n c (rs ++ [⟨a, m, d⟩]) :: (rowsCk t2 rs L ++ X))) (hl : rs.length = L.length) : St w0 w (p :: q :: (mat t1 t2 A n c (rs ++ [⟨a, m, d⟩]) (L ++ [x]) ++ X)) := by
  refine h.perm ?_
  unfold mat
  rw [rowsCk_append hl]
  exact (List.perm_append_comm (l₁ := [CkI t2 a m d x]) (l₂ := p :: q :: CkR t1 A n c (rs ++ [⟨a, m, d⟩]) :: rowsCk t2 rs L)).append_right X

/-- something drawn that mostly is a complex, in memory of its own -/
def AnsAny (w0 : World) (ks : List Ck) (ix : Nat) (As : Option Addr) (v : Value) (w' : World) : Prop :=
  ∃ (V : Int) (n : Nat) (F : List (List Int)) (A : Option Addr) (c : Nat) (rs : List SlV) (k' : Ck), v = .agg #[.int .i64 V, .slice A n c] ∧ (-10 ≤ V ∧ V ≤ 200) ∧ n ≤ 401 ∧ rs.length = n ∧ F.length = n ∧ srcK w0 As k' ∧ St w0 w' (mat 25 2 A n c rs F ++ ks.set ix k')

set_option maxHeartbeats 1000000 in
theorem l17DrawAny_c {w0 w : World} {ks : List Ck} (ix : Nat) {As : Option Addr} {k : Ck} (hS : St w0 w ks) (hk : ks[ix]? = some k) (hK : srcK w0 As k) :
    Ret Tryz.prog 91 [.pointer As] w (AnsAny w0 ks ix As) := by
  refine Ret.of_cd Tryz.func91 rfl Tryz.ntmps91 rfl (postc rfl rfl) ?_
  refine Cd.seq ?_
  refine Cd.region ?_
  refine Ops.new2 hS rfl ?_
  intro A2 w1 hS1
  have hS1 : St w0 w1 (cxZ A2 :: ks) := hS1
  refine Ops.nil ?_
  refine thenQ_n ?_
  refine Cd.seq ?_
  refine Cd.region ?_
  refine Ops.mv_ptr rfl rfl rfl ?_
  refine Ops.call (l17Draw_c (ix + 1) hS1 (by exact hk) hK) rfl rfl rfl ?_
  rintro _ w2 ⟨V, F, A, c, rs, k1, rfl, hC, hrl, hK1, hS2⟩
  have hV := hC.v
  have hF4 := hC.f
  refine Ops.new2 hS2 rfl ?_
  intro A3 w3 hS3
  refine Ops.st_agg 2 0 hS3 rfl rfl rfl rfl rfl rfl rfl ?_
  intro w4 hS4
  have hS4 : St w0 w4 (cxZ A2 :: cxB A3 V A F.length c :: (mat 25 2 A F.length c rs F ++ ks.set ix k1)) := St.perm (show St w0 w4 ((cxB A3 V A F.length c :: mat 25 2 A F.length c rs F) ++ (cxZ A2 :: ks.set ix k1)) from hS4) List.perm_middle
  have hk1 := setK_get (k' := k1) hk
  clear hS1 hS2 hS3 hS
  refine Ops.nil ?_
  refine thenQ_n ?_
  refine Cd.join (α := (Int × Nat) × (Option Addr × Nat) × List SlV × List (List Int) × Ck) (fun _ => [(2, .pointer A2), (3, .pointer A3)])
    (fun z w' => (-10 ≤ z.1.1 ∧ z.1.1 ≤ 200) ∧ z.1.2 ≤ 401 ∧ z.2.2.1.length = z.1.2 ∧ z.2.2.2.1.length = z.1.2 ∧ srcK w0 As z.2.2.2.2 ∧ St w0 w' (cxZ A2 :: cxB A3 z.1.1 z.2.1.1 z.1.2 z.2.1.2 :: (mat 25 2 z.2.1.1 z.1.2 z.2.1.2 z.2.2.1 z.2.2.2.1 ++ ks.set ix z.2.2.2.2))) ?_ ?_
  · refine Cd.seq ?_
    refine Cd.region ?_
    refine Ops.mv_ptr rfl rfl rfl ?_
    refine Ops.call (srcNextP_c (cxZ A2 :: cxB A3 V A F.length c :: mat 25 2 A F.length c rs F) ix 24 hS4 hk1 hK1) rfl rfl rfl ?_
    rintro _ wB ⟨q, k2, rfl, hq, hK2, hB⟩
    rw [List.set_set] at hB
    have hB : St w0 wB (cxZ A2 :: cxB A3 V A F.length c :: (mat 25 2 A F.length c rs F ++ ks.set ix k2)) := hB
    have hk2 := setK_get (k' := k2) hk
    generalize hn : F.length = n at *
    clear hS4
    refine Ops.nil ?_
    refine thenQ_n ?_
    refine Cd.block ?_
    refine Cd.seq ?_
    refine Cd.region ?_
    refine Ops.eql rfl rfl rfl ?_
    refine Ops.mv_bool rfl rfl rfl ?_
    refine Ops.nil ?_
    refine thenQ_n ?_
    refine Cd.cond_p _ rfl (fun h1 => ?_) (fun h1 => ?_)
    · skip
      refine Cd.drawN [4, 7] [.ex (.pointer (ptrAt A3 0)), .ex (.int .i64 (V)), .ex (.pointer As), .pr (fun v w' => ∃ A13, v = .slice A13 3 3 ∧ St w0 w' (CkI 2 A13 3 3 [1, -1, 60] :: (cxZ A2 :: cxB A3 V A n c :: (mat 25 2 A n c rs F ++ ks.set ix k2)))), .pr (fun v w' => ∃ r k3, v = .int .i64 r ∧ (-1 ≤ r ∧ r ≤ 60) ∧ srcK w0 As k3 ∧ St w0 w' (cxZ A2 :: cxB A3 V A n c :: (mat 25 2 A n c rs F ++ ks.set ix k3))), .pr (fun v _ => ∃ r : Int, v = .int .i64 (V + r) ∧ (-1 ≤ r ∧ r ≤ 60)), .ex (.pointer (ptrAt A3 0)), .pr (fun _ w' => ∃ r k3, (-1 ≤ r ∧ r ≤ 60) ∧ srcK w0 As k3 ∧ St w0 w' (cxZ A2 :: cxB A3 (V + r) A n c :: (mat 25 2 A n c rs F ++ ks.set ix k3)))] (by kernel_rfl) (by kernel_rfl) (List.forall_mem_cons.2 ⟨Yd.lasts_ex _, (List.forall_mem_cons.2 ⟨Yd.lasts_ex _, (List.forall_mem_cons.2 ⟨Yd.lasts_ex _, (List.forall_mem_cons.2 ⟨Yd.lasts_pr (fun v w w' h hb => by obtain ⟨A13, hv, hT⟩ := h; exact ⟨A13, hv, hT.later hb⟩), (List.forall_mem_cons.2 ⟨Yd.lasts_pr (fun v w w' h hb => by obtain ⟨r, k3, hv, hr, hK3, hT⟩ := h; exact ⟨r, k3, hv, hr, hK3, hT.later hb⟩), (List.forall_mem_cons.2 ⟨Yd.lasts_pr (fun v w w' h hb => h), (List.forall_mem_cons.2 ⟨Yd.lasts_ex _, (List.forall_mem_cons.2 ⟨Yd.lasts_pr (fun v w w' h hb => by obtain ⟨r, k3, hr, hK3, hT⟩ := h; exact ⟨r, k3, hr, hK3, hT.later hb⟩), (fun _ h => by cases h)⟩)⟩)⟩)⟩)⟩)⟩)⟩)⟩) ⟨?_, ?_, ?_, ?_, ?_, ?_, ?_, ?_, trivial⟩ ?_
      · intro e1 w1 cc hlo hhi hb0 hp hun hq
        show Ops _ _ _ _ _ _ _
        have hX : Rd w1 A3 2 (fun j => [Value.int .i64 V, .slice A n c].getD j undef) := by { have hhi := le_of_hi hhi (b := 1) (by kernel_rfl); rcases (show cc = 0 ∨ cc = 1 by omega) with h | h; { exact (hB.later (hb0 h)).rd 1 rfl }; { subst h; obtain ⟨r, k3, _, _, _, hT⟩ := hq 4 _ _ (by kernel_rfl) (by kernel_rfl) (by kernel_rfl) rfl rfl (by kernel_rfl); exact hT.rd 1 rfl } }
        refine Ops.fld hX rfl rfl rfl rfl inferInstance ?_
        refine Ops.nil ?_
        exact AfterN.dn rfl (Below.refl _ _) (by exact rfl)
      · intro e1 w1 cc hlo hhi hb0 hp hun hq
        show Ops _ _ _ _ _ _ _
        have hX : Rd w1 A3 2 (fun j => [Value.int .i64 V, .slice A n c].getD j undef) := by { have hhi := le_of_hi hhi (b := 1) (by kernel_rfl); rcases (show cc = 0 ∨ cc = 1 by omega) with h | h; { exact (hB.later (hb0 h)).rd 1 rfl }; { subst h; obtain ⟨r, k3, _, _, _, hT⟩ := hq 4 _ _ (by kernel_rfl) (by kernel_rfl) (by kernel_rfl) rfl rfl (by kernel_rfl); exact hT.rd 1 rfl } }
        refine Ops.ldf_i hX rfl rfl rfl rfl rfl ?_
        refine Ops.nil ?_
        exact AfterN.dn rfl (Below.refl _ _) (by exact rfl)
      · intro e1 w1 cc hlo hhi hb0 hp hun hq
        show Ops _ _ _ _ _ _ _
        refine Ops.mv_ptr rfl rfl rfl ?_
        refine Ops.nil ?_
        exact AfterN.dn rfl (Below.refl _ _) (by exact rfl)
      · intro e1 w1 cc hlo hhi hb0 hp hun hq
        show Ops _ _ _ _ _ _ _
        replace hlo := le_of_lo hlo (b := 0) (by kernel_rfl)
        replace hhi := le_of_hi hhi (b := 0) (by kernel_rfl)
        obtain rfl : cc = 0 := by omega
        have hb := hb0 rfl
        refine Ops.bsL [1, -1, 60] (St.refl _) rfl rfl (by decide) (by decide) rfl rfl ?_
        intro A13 w9 hst
        refine Ops.nil ?_
        exact AfterN.dn rfl hst.below ⟨A13, rfl, (hB.later hb).call hst⟩
      · intro e1 w1 cc hlo hhi hb0 hp hun hq
        show Ops _ _ _ _ _ _ _
        replace hlo := le_of_lo hlo (b := 0) (by kernel_rfl)
        replace hhi := le_of_hi hhi (b := 0) (by kernel_rfl)
        obtain rfl : cc = 0 := by omega
        have hb := hb0 rfl
        obtain ⟨A13, h13, hT⟩ := (hp 3 _ _ (by kernel_rfl) rfl rfl (by kernel_rfl))
        refine Ops.call (l01PickP_c (CkI 2 A13 3 3 [1, -1, 60] :: cxZ A2 :: cxB A3 V A n c :: mat 25 2 A n c rs F) ix A13 3 3 [1, -1, 60] hT hk2 hK2 (fun k' w' h => h.rdI 0 rfl) (by decide)) rfl (by exact congrArg (fun v => [Value.pointer As, v]) h13) rfl ?_
        rintro _ w9 ⟨x, k3, rfl, hx, hK3, hS9⟩
        rw [List.set_set] at hS9
        refine Ops.nil ?_
        exact AfterT.dn rfl ⟨x, k3, rfl, by (simp at hx; omega), hK3, St.tail hS9⟩
      · intro e1 w1 cc hlo hhi hb0 hp hun hq
        show Ops _ _ _ _ _ _ _
        replace hlo := le_of_lo hlo (b := 1) (by kernel_rfl)
        replace hhi := le_of_hi hhi (b := 1) (by kernel_rfl)
        obtain rfl : cc = 1 := by omega
        have hph := hp 4 _ _ (by kernel_rfl) rfl rfl (by kernel_rfl)
        obtain ⟨r, k3, h14, hr, _, _⟩ := (hp 4 _ _ (by kernel_rfl) rfl rfl (by kernel_rfl))
        refine Ops.add rfl (by exact h14) rfl (by omega) ?_
        refine Ops.nil ?_
        exact AfterN.dn rfl (Below.refl _ _) ⟨r, rfl, hr⟩
      · intro e1 w1 cc hlo hhi hb0 hp hun hq
        show Ops _ _ _ _ _ _ _
        replace hlo := le_of_lo hlo (b := 1) (by kernel_rfl)
        replace hhi := le_of_hi hhi (b := 1) (by kernel_rfl)
        obtain rfl : cc = 1 := by omega
        have hph := hp 4 _ _ (by kernel_rfl) rfl rfl (by kernel_rfl)
        obtain ⟨r, k3, _, _, _, hT⟩ := hph
        refine Ops.fld (hT.rd 1 rfl) rfl rfl rfl rfl inferInstance ?_
        refine Ops.nil ?_
        exact AfterN.dn rfl (Below.refl _ _) (by exact rfl)
      · intro e1 w1 cc hlo hhi hb0 hp hun hq
        show Ops _ _ _ _ _ _ _
        replace hlo := le_of_lo hlo (b := 1) (by kernel_rfl)
        replace hhi := le_of_hi hhi (b := 1) (by kernel_rfl)
        obtain rfl : cc = 1 := by omega
        have hph := hp 4 _ _ (by kernel_rfl) rfl rfl (by kernel_rfl)
        obtain ⟨r, h15, hr⟩ := (hp 5 _ _ (by kernel_rfl) rfl rfl (by kernel_rfl))
        obtain ⟨r', k3, _, _, hK3, hT⟩ := hph
        refine Ops.stf 1 hT rfl rfl (by exact h15) rfl rfl ?_
        intro w9 hS9
        refine Ops.nil ?_
        exact AfterT.st rfl ⟨r, k3, hr, hK3, hS9⟩
      intro u w5 _ hu
      obtain ⟨r, k3, hr, hK3, hT⟩ := hu 7 _ rfl (by kernel_rfl)
      refine blockQ_n ?_
      refine thenQ_n ?_
      exact ⟨((V + r, n), (A, c), rs, F, k3), ⟨rfl, rfl, trivial⟩, by show -10 ≤ V + r ∧ V + r ≤ 200; omega, by show n ≤ 401; omega, hrl, hn, hK3, hT⟩
    · refine Cd.seq ?_
      refine Cd.region ?_
      refine Ops.eql rfl rfl rfl ?_
      refine Ops.mv_bool rfl rfl rfl ?_
      refine Ops.nil ?_
      refine thenQ_n ?_
      refine Cd.cond_p _ rfl (fun h2 => ?_) (fun h2 => ?_)
      · skip
        refine Cd.drawN [3, 6, 8] [.ex (.pointer (ptrAt A3 1)), .ex (.slice (A) (n) (c)), .ex (.pointer As), .pr (fun v w' => ∃ r k3, v = .int .i64 r ∧ srcK w0 As k3 ∧ St w0 w' (cxZ A2 :: cxB A3 V A n c :: (mat 25 2 A n c rs F ++ ks.set ix k3))), .pr (fun v w' => ∃ A9 r k3, v = .slice A9 1 1 ∧ srcK w0 As k3 ∧ St w0 w' (CkI 2 A9 1 1 [r] :: cxZ A2 :: cxB A3 V A n c :: (mat 25 2 A n c rs F ++ ks.set ix k3))), .pr (fun v w' => ∃ A9 r k3 A10, v = .slice A10 1 1 ∧ srcK w0 As k3 ∧ St w0 w' (CkR 25 A10 1 1 [⟨A9, 1, 1⟩] :: CkI 2 A9 1 1 [r] :: cxZ A2 :: cxB A3 V A n c :: (mat 25 2 A n c rs F ++ ks.set ix k3))), .pr (fun v w' => ∃ A9 r k3 A11 c11, v = .slice A11 (n + 1) c11 ∧ srcK w0 As k3 ∧ St w0 w' (cxZ A2 :: cxB A3 V A n c :: (mat 25 2 A11 (n + 1) c11 (rs ++ [⟨A9, 1, 1⟩]) (F ++ [[r]]) ++ ks.set ix k3))), .ex (.pointer (ptrAt A3 1)), .pr (fun _ w' => ∃ A9 r k3 A11 c11, srcK w0 As k3 ∧ St w0 w' (cxZ A2 :: cxB A3 V A11 (n + 1) c11 :: (mat 25 2 A11 (n + 1) c11 (rs ++ [⟨A9, 1, 1⟩]) (F ++ [[r]]) ++ ks.set ix k3)))] (by kernel_rfl) (by kernel_rfl) (List.forall_mem_cons.2 ⟨Yd.lasts_ex _, (List.forall_mem_cons.2 ⟨Yd.lasts_ex _, (List.forall_mem_cons.2 ⟨Yd.lasts_ex _, (List.forall_mem_cons.2 ⟨Yd.lasts_pr (fun v w w' h hb => by obtain ⟨r, k3, hv, hK3, hT⟩ := h; exact ⟨r, k3, hv, hK3, hT.later hb⟩), (List.forall_mem_cons.2 ⟨Yd.lasts_pr (fun v w w' h hb => by obtain ⟨A9, r, k3, hv, hK3, hT⟩ := h; exact ⟨A9, r, k3, hv, hK3, hT.later hb⟩), (List.forall_mem_cons.2 ⟨Yd.lasts_pr (fun v w w' h hb => by obtain ⟨A9, r, k3, A10, hv, hK3, hT⟩ := h; exact ⟨A9, r, k3, A10, hv, hK3, hT.later hb⟩), (List.forall_mem_cons.2 ⟨Yd.lasts_pr (fun v w w' h hb => by obtain ⟨A9, r, k3, A11, c11, hv, hK3, hT⟩ := h; exact ⟨A9, r, k3, A11, c11, hv, hK3, hT.later hb⟩), (List.forall_mem_cons.2 ⟨Yd.lasts_ex _, (List.forall_mem_cons.2 ⟨Yd.lasts_pr (fun v w w' h hb => by obtain ⟨A9, r, k3, A11, c11, hK3, hT⟩ := h; exact ⟨A9, r, k3, A11, c11, hK3, hT.later hb⟩), (fun _ h => by cases h)⟩)⟩)⟩)⟩)⟩)⟩)⟩)⟩)⟩) ⟨?_, ?_, ?_, ?_, ?_, ?_, ?_, ?_, ?_, trivial⟩ ?_
        · intro e1 w1 cc hlo hhi hb0 hp hun hq
          show Ops _ _ _ _ _ _ _
          have hX : Rd w1 A3 2 (fun j => [Value.int .i64 V, .slice A n c].getD j undef) := by { have hhi := le_of_hi hhi (b := 1) (by kernel_rfl); rcases (show cc = 0 ∨ cc = 1 by omega) with h | h; { exact (hB.later (hb0 h)).rd 1 rfl }; { subst h; obtain ⟨r, k3, _, _, hT⟩ := hq 3 _ _ (by kernel_rfl) (by kernel_rfl) (by kernel_rfl) rfl rfl (by kernel_rfl); exact hT.rd 1 rfl } }
          refine Ops.fld hX rfl rfl rfl rfl inferInstance ?_
          refine Ops.nil ?_
          exact AfterN.dn rfl (Below.refl _ _) (by exact rfl)
        · intro e1 w1 cc hlo hhi hb0 hp hun hq
          show Ops _ _ _ _ _ _ _
          have hX : Rd w1 A3 2 (fun j => [Value.int .i64 V, .slice A n c].getD j undef) := by { have hhi := le_of_hi hhi (b := 1) (by kernel_rfl); rcases (show cc = 0 ∨ cc = 1 by omega) with h | h; { exact (hB.later (hb0 h)).rd 1 rfl }; { subst h; obtain ⟨r, k3, _, _, hT⟩ := hq 3 _ _ (by kernel_rfl) (by kernel_rfl) (by kernel_rfl) rfl rfl (by kernel_rfl); exact hT.rd 1 rfl } }
          refine Ops.ldf_s hX rfl rfl rfl rfl rfl ?_
          refine Ops.nil ?_
          exact AfterN.dn rfl (Below.refl _ _) (by exact rfl)
        · intro e1 w1 cc hlo hhi hb0 hp hun hq
          show Ops _ _ _ _ _ _ _
          refine Ops.mv_ptr rfl rfl rfl ?_
          refine Ops.nil ?_
          exact AfterN.dn rfl (Below.refl _ _) (by exact rfl)
        · intro e1 w1 cc hlo hhi hb0 hp hun hq
          show Ops _ _ _ _ _ _ _
          replace hlo := le_of_lo hlo (b := 0) (by kernel_rfl)
          replace hhi := le_of_hi hhi (b := 0) (by kernel_rfl)
          obtain rfl : cc = 0 := by omega
          have hb := hb0 rfl
          refine Ops.call (srcNextP_c (cxZ A2 :: cxB A3 V A n c :: mat 25 2 A n c rs F) ix 8 (hB.later hb) hk2 hK2) rfl rfl rfl ?_
          rintro _ w9 ⟨r, k3, rfl, _, hK3, hS9⟩
          rw [List.set_set] at hS9
          refine Ops.nil ?_
          exact AfterT.dn rfl ⟨r, k3, rfl, hK3, hS9⟩
        · intro e1 w1 cc hlo hhi hb0 hp hun hq
          show Ops _ _ _ _ _ _ _
          replace hlo := le_of_lo hlo (b := 1) (by kernel_rfl)
          replace hhi := le_of_hi hhi (b := 1) (by kernel_rfl)
          obtain rfl : cc = 1 := by omega
          have hph := hp 3 _ _ (by kernel_rfl) rfl rfl (by kernel_rfl)
          obtain ⟨r, k3, h22, hK3, hT⟩ := (hp 3 _ _ (by kernel_rfl) rfl rfl (by kernel_rfl))
          refine Ops.bs1I (St.refl _) (by exact h22) rfl rfl ?_
          intro A9 w9 hst
          refine Ops.nil ?_
          exact AfterN.dn rfl hst.below ⟨A9, r, k3, rfl, hK3, hT.call hst⟩
        · intro e1 w1 cc hlo hhi hb0 hp hun hq
          show Ops _ _ _ _ _ _ _
          replace hlo := le_of_lo hlo (b := 1) (by kernel_rfl)
          replace hhi := le_of_hi hhi (b := 1) (by kernel_rfl)
          obtain rfl : cc = 1 := by omega
          have hph := hp 3 _ _ (by kernel_rfl) rfl rfl (by kernel_rfl)
          obtain ⟨A9, r, k3, h23, hK3, hT⟩ := (hp 4 _ _ (by kernel_rfl) rfl rfl (by kernel_rfl))
          refine Ops.bs1R (St.refl _) (by exact h23) rfl rfl ?_
          intro A10 w9 hst
          refine Ops.nil ?_
          exact AfterN.dn rfl hst.below ⟨A9, r, k3, A10, rfl, hK3, hT.call hst⟩
        · intro e1 w1 cc hlo hhi hb0 hp hun hq
          show Ops _ _ _ _ _ _ _
          replace hlo := le_of_lo hlo (b := 1) (by kernel_rfl)
          replace hhi := le_of_hi hhi (b := 1) (by kernel_rfl)
          obtain rfl : cc = 1 := by omega
          have hph := hp 3 _ _ (by kernel_rfl) rfl rfl (by kernel_rfl)
          obtain ⟨A9, r, k3, A10, h24, hK3, hT⟩ := (hp 5 _ _ (by kernel_rfl) rfl rfl (by kernel_rfl))
          refine Ops.appR 4 hT rfl (hT.rdR 0 rfl) rfl (by exact h24) rfl (by omega) (by omega) rfl ?_
          intro A11 c11 w10 hT10
          refine Ops.nil ?_
          exact AfterT.dn rfl ⟨A9, r, k3, A11, c11, rfl, hK3, St.matAdd2 hT10.tail (by omega)⟩
        · intro e1 w1 cc hlo hhi hb0 hp hun hq
          show Ops _ _ _ _ _ _ _
          replace hlo := le_of_lo hlo (b := 2) (by kernel_rfl)
          replace hhi := le_of_hi hhi (b := 2) (by kernel_rfl)
          obtain rfl : cc = 2 := by omega
          have hph := hp 6 _ _ (by kernel_rfl) rfl rfl (by kernel_rfl)
          obtain ⟨A9, r, k3, A11, c11, _, _, hT⟩ := (hp 6 _ _ (by kernel_rfl) rfl rfl (by kernel_rfl))
          refine Ops.fld (hT.rd 1 rfl) rfl rfl rfl rfl inferInstance ?_
          refine Ops.nil ?_
          exact AfterN.dn rfl (Below.refl _ _) (by exact rfl)
        · intro e1 w1 cc hlo hhi hb0 hp hun hq
          show Ops _ _ _ _ _ _ _
          replace hlo := le_of_lo hlo (b := 2) (by kernel_rfl)
          replace hhi := le_of_hi hhi (b := 2) (by kernel_rfl)
          obtain rfl : cc = 2 := by omega
          have hph := hp 6 _ _ (by kernel_rfl) rfl rfl (by kernel_rfl)
          obtain ⟨A9, r, k3, A11, c11, h25, hK3, hT⟩ := (hp 6 _ _ (by kernel_rfl) rfl rfl (by kernel_rfl))
          refine Ops.stf 1 hT rfl rfl (by exact h25) rfl rfl ?_
          intro w9 hS9
          refine Ops.nil ?_
          exact AfterT.st rfl ⟨A9, r, k3, A11, c11, hK3, hS9⟩
        intro u w5 _ hu
        obtain ⟨A9, r, k3, A11, c11, hK3, hT⟩ := hu 8 _ rfl (by kernel_rfl)
        refine blockQ_n ?_
        refine thenQ_n ?_
        exact ⟨((V, n + 1), (A11, c11), rs ++ [⟨A9, 1, 1⟩], F ++ [[r]], k3), ⟨rfl, rfl, trivial⟩, by show -10 ≤ V ∧ V ≤ 200; omega, by show n + 1 ≤ 401; omega, by show (rs ++ [_]).length = n + 1; simp [hrl], by show (F ++ [_]).length = n + 1; simp [hn], hK3, hT⟩
      · refine Cd.seq ?_
        refine Cd.region ?_
        refine Ops.eql rfl rfl rfl ?_
        refine Ops.mv_bool rfl rfl rfl ?_
        refine Ops.nil ?_
        refine thenQ_n ?_
        refine Cd.cond_p _ rfl (fun h3 => ?_) (fun h3 => ?_)
        · refine Cd.seq ?_
          refine Cd.region ?_
          refine Ops.fld (hB.rd 1 rfl) rfl rfl rfl rfl inferInstance ?_
          refine Ops.ldf_s (hB.rd 1 rfl) rfl rfl rfl rfl rfl ?_
          refine Ops.len rfl rfl ?_
          refine Ops.gtr rfl rfl rfl ?_
          refine Ops.nil ?_
          refine thenQ_n ?_
          refine Cd.cond_p _ rfl (fun h4 => ?_) (fun h4 => ?_)
          · obtain ⟨s0, rs1, rfl⟩ : ∃ s0 rs1, rs = s0 :: rs1 := by cases rs with | nil => exact absurd hrl (by simp; omega) | cons a b => exact ⟨a, b, rfl⟩
            obtain ⟨x0, F1, rfl⟩ : ∃ x0 F1, F = x0 :: F1 := by cases F with | nil => exact absurd hn (by simp; omega) | cons a b => exact ⟨a, b, rfl⟩
            refine Cd.region ?_
            refine Ops.fld (hB.rd 1 rfl) rfl rfl rfl rfl inferInstance ?_
            refine Ops.ldf_s (hB.rd 1 rfl) rfl rfl rfl rfl rfl ?_
            refine Ops.bsL [1, 0] hB rfl rfl (by decide) (by decide) rfl rfl ?_
            intro A9 w5 hS5
            refine Ops.idx (hS5.rdR 3 rfl).2 rfl rfl rfl (by omega) (by omega) ?_
            refine Ops.st_sl 3 hS5 rfl rfl rfl (by omega) ?_
            intro w6 hS6
            have hS6 : St w0 w6 (CkI 2 A9 2 2 [1, 0] :: (cxZ A2 :: cxB A3 V A n c :: CkR 25 A n c (⟨A9, 2, 2⟩ :: rs1) :: CkI 2 s0.a s0.n s0.c x0 :: (rowsCk 2 rs1 F1 ++ ks.set ix k2))) := hS6
            have hS7 : St w0 w6 (cxZ A2 :: cxB A3 V A n c :: (mat 25 2 A n c (⟨A9, 2, 2⟩ :: rs1) ([1, 0] :: F1) ++ ks.set ix k2)) := by
              have h := hS6.sub (List.Sublist.cons_cons _ (List.Sublist.cons_cons _ (List.Sublist.cons_cons _ (List.Sublist.cons_cons _ (List.sublist_cons_self _ _)))))
              exact h.perm ((List.Perm.swap _ _ _).trans (List.Perm.cons _ ((List.Perm.swap _ _ _).trans (List.Perm.cons _ (List.Perm.swap _ _ _)))))
            refine Ops.nil ?_
            refine blockQ_n ?_
            refine thenQ_n ?_
            exact ⟨((V, n), (A, c), ⟨A9, 2, 2⟩ :: rs1, [1, 0] :: F1, k2), ⟨rfl, rfl, trivial⟩, by show -10 ≤ V ∧ V ≤ 200; omega, by show n ≤ 401; omega, by simpa using hrl, by simpa using hn, hK2, hS7⟩
          · refine Cd.skip ?_
            refine blockQ_n ?_
            refine thenQ_n ?_
            exact ⟨((V, n), (A, c), rs, F, k2), ⟨rfl, rfl, trivial⟩, by show -10 ≤ V ∧ V ≤ 200; omega, by show n ≤ 401; omega, hrl, hn, hK2, hB⟩
        · refine Cd.skip ?_
          refine blockQ_n ?_
          refine thenQ_n ?_
          exact ⟨((V, n), (A, c), rs, F, k2), ⟨rfl, rfl, trivial⟩, by show -10 ≤ V ∧ V ≤ 200; omega, by show n ≤ 401; omega, hrl, hn, hK2, hB⟩
  rintro ⟨⟨V, n⟩, ⟨A, c⟩, rs, F, k2⟩ e w5 ⟨hV, hn, hrl, hFl, hK2, hS5⟩
  dsimp only at hV hn hrl hFl hK2 hS5 ⊢
  refine Cd.seq ?_
  refine Cd.region ?_
  refine Ops.ld_agg 1 (hS5.rd 1 rfl) rfl rfl rfl ?_
  refine Ops.st_agg 2 0 hS5 rfl rfl rfl rfl rfl rfl rfl ?_
  intro w6 hS6
  refine Ops.nil ?_
  refine thenQ_n ?_
  refine Cd.ret ?_
  skip
  refine retc_r rfl (hS6.rd 0 rfl) ?_
  exact ⟨V, n, F, A, c, rs, k2, rfl, hV, hn, hrl, hFl, hK2, hS6.tail.tail⟩
end Go.Proofs.YtdedegbendjmbaaGreatDoor.Vc
/-
  Helpers of the laws: big, likeInts, same9. Conditions: as each states them.
-/
namespace Go.Proofs.YtdedegbendjmbaaGreatDoor.Vc
open Go.RowKit

theorem big_c (Ac : Option Addr) (nc cc : Nat) (w : World) : Ret Tryz.prog 26 [.slice Ac nc cc] w (fun v w' => v = .bool (decide (4096 < (nc : Int))) ∧ St w w' []) := by
  refine Ret.of_cd Tryz.func26 rfl Tryz.ntmps26 rfl (post1 rfl) ?_
  refine Cd.seq ?_
  refine Cd.region ?_
  refine Ops.mv_bool rfl rfl rfl ?_
  refine Ops.nil ?_
  refine thenQ_n ?_
  refine Cd.seq ?_
  refine Cd.region ?_
  refine Ops.mv_sl rfl rfl rfl ?_
  refine Ops.len rfl rfl ?_
  refine Ops.gtr rfl rfl rfl ?_
  refine Ops.mv_bool rfl rfl rfl ?_
  refine Ops.nil ?_
  refine thenQ_n ?_
  refine Cd.ret ?_
  refine ret1_b rfl ?_
  exact ⟨rfl, St.refl w⟩

theorem likeInts_c (A : Option Addr) (n c : Nat) (xs : List Int) (B : Option Addr) (m cB : Nat) (ys : List Int) (w : World) (hX : RdI w A n xs) (hY : RdI w B m ys) (hn : n ≤ 9223372036854775806) :
    Ret Tryz.prog 45 [.slice A n c, .slice B m cB] w (fun v w' => v = .bool (decide (xs = ys)) ∧ St w w' []) := by
  have hxl := hX.1
  have hyl := hY.1
  refine Ret.of_cd Tryz.func45 rfl Tryz.ntmps45 rfl (post1 rfl) ?_
  refine Cd.seq ?_
  refine Cd.region ?_
  refine Ops.mv_bool rfl rfl rfl ?_
  refine Ops.nil ?_
  refine thenQ_n ?_
  refine Cd.seq ?_
  refine Cd.seq ?_
  refine Cd.region ?_
  refine Ops.mv_sl rfl rfl rfl ?_
  refine Ops.len rfl rfl ?_
  refine Ops.mv_sl rfl rfl rfl ?_
  refine Ops.len rfl rfl ?_
  refine Ops.neq rfl rfl rfl ?_
  refine Ops.nil ?_
  refine thenQ_n ?_
  refine Cd.cond_p _ rfl (fun h1 => ?_) (fun h1 => ?_)
  · have hne : xs ≠ ys := fun e => h1 (by rw [← hxl, ← hyl, e])
    refine Cd.seq ?_
    refine Cd.region ?_
    refine Ops.mv_bool rfl rfl rfl ?_
    refine Ops.nil ?_
    refine thenQ_n ?_
    refine Cd.ret ?_
    refine thenQ_r ?_
    refine ret1_b rfl ?_
    exact ⟨by rw [decide_eq_false hne], St.refl w⟩
  · have hnm : n = m := by omega
    subst hnm
    refine Cd.skip ?_
    refine thenQ_n ?_
    refine Cd.seq ?_
    refine Cd.seq ?_
    refine Cd.region ?_
    refine Ops.mv_int rfl rfl rfl ?_
    refine Ops.nil ?_
    refine thenQ_n ?_
    refine Cd.block ?_
    refine Cd.loop (α := Nat) (fun i => [(0, .slice A n c), (1, .slice B n cB), (5, .int .i64 (i : Int))]) (fun i w' => St w w' [] ∧ i ≤ n ∧ ∀ j, j < i → xs[j]? = ys[j]?) (fun i => n - i) 0 ⟨rfl, rfl, rfl, trivial⟩ ⟨St.refl w, Nat.zero_le _, fun j hj => absurd hj (Nat.not_lt_zero _)⟩ ?_
    rintro i e w1 ⟨hS1, hi, hj⟩
    have hX1 := hS1.oldI hX
    have hY1 := hS1.oldI hY
    refine Cd.seq ?_
    refine Cd.seq ?_
    refine Cd.region ?_
    refine Ops.mv_int rfl rfl rfl ?_
    refine Ops.mv_sl rfl rfl rfl ?_
    refine Ops.len rfl rfl ?_
    refine Ops.lss rfl rfl rfl ?_
    refine Ops.nil ?_
    refine thenQ_n ?_
    refine Cd.cond_p _ rfl (fun h2 => ?_) (fun h2 => ?_)
    · refine Cd.skip ?_
      refine thenQ_n ?_
      refine Cd.seq ?_
      refine Cd.block ?_
      refine Cd.seq ?_
      refine Cd.draw [.ex (.slice (A) (n) (c)), .ex (.int .i64 ((i : Int))), .ex (.pointer (ptrAt (A) ((i : Int)).toNat)), .ex (.int .i64 (gi (xs) ((i : Int)))), .ex (.slice (B) (n) (cB)), .ex (.int .i64 ((i : Int))), .ex (.pointer (ptrAt (B) ((i : Int)).toNat)), .ex (.int .i64 (gi (ys) ((i : Int)))), .ex (.bool (decide (¬ (gi (xs) ((i : Int))) = (gi (ys) ((i : Int))))))] (by kernel_rfl) (by kernel_rfl) rfl (List.forall_mem_cons.2 ⟨Yd.lasts_ex _, (List.forall_mem_cons.2 ⟨Yd.lasts_ex _, (List.forall_mem_cons.2 ⟨Yd.lasts_ex _, (List.forall_mem_cons.2 ⟨Yd.lasts_ex _, (List.forall_mem_cons.2 ⟨Yd.lasts_ex _, (List.forall_mem_cons.2 ⟨Yd.lasts_ex _, (List.forall_mem_cons.2 ⟨Yd.lasts_ex _, (List.forall_mem_cons.2 ⟨Yd.lasts_ex _, (List.forall_mem_cons.2 ⟨Yd.lasts_ex _, (fun _ h => by cases h)⟩)⟩)⟩)⟩)⟩)⟩)⟩)⟩)⟩) ⟨?_, ?_, ?_, ?_, ?_, ?_, ?_, ?_, ?_, trivial⟩ ?_
      · intro e1 w1 hb hp hun
        refine Ops.mv_sl rfl rfl rfl ?_
        refine Ops.nil ?_
        exact After.dn (Below.refl _ _) (by exact rfl)
      · intro e1 w1 hb hp hun
        refine Ops.mv_int rfl rfl rfl ?_
        refine Ops.nil ?_
        exact After.dn (Below.refl _ _) (by exact rfl)
      · intro e1 w1 hb hp hun
        refine Ops.idx (hX1.later hb).2 rfl rfl rfl (by omega) (by omega) ?_
        refine Ops.nil ?_
        exact After.dn (Below.refl _ _) (by exact rfl)
      · intro e1 w1 hb hp hun
        refine Ops.ld_int (hX1.later hb) rfl (by omega) rfl rfl ?_
        refine Ops.nil ?_
        exact After.dn (Below.refl _ _) (by exact rfl)
      · intro e1 w1 hb hp hun
        refine Ops.mv_sl rfl rfl rfl ?_
        refine Ops.nil ?_
        exact After.dn (Below.refl _ _) (by exact rfl)
      · intro e1 w1 hb hp hun
        refine Ops.mv_int rfl rfl rfl ?_
        refine Ops.nil ?_
        exact After.dn (Below.refl _ _) (by exact rfl)
      · intro e1 w1 hb hp hun
        refine Ops.idx (hY1.later hb).2 rfl rfl rfl (by omega) (by omega) ?_
        refine Ops.nil ?_
        exact After.dn (Below.refl _ _) (by exact rfl)
      · intro e1 w1 hb hp hun
        refine Ops.ld_int (hY1.later hb) rfl (by omega) rfl rfl ?_
        refine Ops.nil ?_
        exact After.dn (Below.refl _ _) (by exact rfl)
      · intro e1 w1 hb hp hun
        refine Ops.neq rfl rfl rfl ?_
        refine Ops.nil ?_
        exact After.dn (Below.refl _ _) (by exact rfl)
      intro u w2 hb2 _
      have hS2 := hS1.later hb2
      refine thenQ_n ?_
      refine Cd.cond_p _ rfl (fun h3 => ?_) (fun h3 => ?_)
      · have hne : xs ≠ ys := fun e => h3 (by rw [e])
        refine Cd.seq ?_
        refine Cd.region ?_
        refine Ops.mv_bool rfl rfl rfl ?_
        refine Ops.nil ?_
        refine thenQ_n ?_
        refine Cd.ret ?_
        refine blockQ_r ?_
        refine thenQ_r ?_
        refine thenQ_r ?_
        refine blockQ_r ?_
        refine thenQ_r ?_
        refine ret1_b rfl ?_
        exact ⟨by rw [decide_eq_false hne], hS2⟩
      · have h3 := Decidable.not_not.1 h3
        rw [gi_mem (by omega), gi_mem (by omega)] at h3
        refine Cd.skip ?_
        refine blockQ_n ?_
        refine thenQ_n ?_
        refine Cd.region ?_
        refine Ops.mv_int rfl rfl rfl ?_
        refine Ops.add rfl rfl rfl (by omega) ?_
        refine Ops.mv_int rfl rfl rfl ?_
        refine Ops.nil ?_
        refine thenQ_n ?_
        refine ⟨i + 1, by show n - (i + 1) < n - i; omega, ⟨rfl, rfl, rfl, trivial⟩, hS2, by omega, fun j hj' => ?_⟩
        by_cases e : j = i
        · subst e; rw [List.getElem?_eq_getElem (by omega), List.getElem?_eq_getElem (by omega), h3]
        · exact hj j (by omega)
    · have he : xs = ys := List.ext_getElem? fun j => by
        by_cases hjn : j < n
        · exact hj j (by omega)
        · rw [List.getElem?_eq_none (by omega), List.getElem?_eq_none (by omega)]
      refine Cd.exit ?_
      refine thenQ_x ?_
      refine thenQ_x ?_
      refine blockQ_x ?_
      refine thenQ_n ?_
      refine Cd.seq ?_
      refine Cd.region ?_
      refine Ops.mv_bool rfl rfl rfl ?_
      refine Ops.nil ?_
      refine thenQ_n ?_
      refine Cd.ret ?_
      refine ret1_b rfl ?_
      exact ⟨by rw [decide_eq_true he], hS1⟩

theorem same9_c (A : Option Addr) (n c : Nat) (rs : List SlV) (xss : List (List Int)) (B : Option Addr) (m cB : Nat) (rs' : List SlV) (yss : List (List Int)) (w : World) (hX : RowsI w A n rs xss) (hY : RowsI w B m rs' yss) (hn : n ≤ 9223372036854775806) (hr : ∀ x ∈ xss, x.length ≤ 9223372036854775806) :
    Ret Tryz.prog 90 [.slice A n c, .slice B m cB] w (fun v w' => v = .bool (decide (xss = yss)) ∧ St w w' []) := by
  have hxl := hX.len
  have hyl := hY.len
  refine Ret.of_cd Tryz.func90 rfl Tryz.ntmps90 rfl (post1 rfl) ?_
  refine Cd.seq ?_
  refine Cd.region ?_
  refine Ops.mv_bool rfl rfl rfl ?_
  refine Ops.nil ?_
  refine thenQ_n ?_
  refine Cd.seq ?_
  refine Cd.seq ?_
  refine Cd.region ?_
  refine Ops.mv_sl rfl rfl rfl ?_
  refine Ops.len rfl rfl ?_
  refine Ops.mv_sl rfl rfl rfl ?_
  refine Ops.len rfl rfl ?_
  refine Ops.neq rfl rfl rfl ?_
  refine Ops.nil ?_
  refine thenQ_n ?_
  refine Cd.cond_p _ rfl (fun h1 => ?_) (fun h1 => ?_)
  · have hne : xss ≠ yss := fun e => h1 (by rw [← hxl, ← hyl, e])
    refine Cd.seq ?_
    refine Cd.region ?_
    refine Ops.mv_bool rfl rfl rfl ?_
    refine Ops.nil ?_
    refine thenQ_n ?_
    refine Cd.ret ?_
    refine thenQ_r ?_
    refine ret1_b rfl ?_
    exact ⟨by rw [decide_eq_false hne], St.refl w⟩
  · have hnm : n = m := by omega
    subst hnm
    refine Cd.skip ?_
    refine thenQ_n ?_
    refine Cd.seq ?_
    refine Cd.seq ?_
    refine Cd.region ?_
    refine Ops.mv_int rfl rfl rfl ?_
    refine Ops.nil ?_
    refine thenQ_n ?_
    refine Cd.block ?_
    refine Cd.loop (α := Nat) (fun i => [(0, .slice A n c), (1, .slice B n cB), (5, .int .i64 (i : Int))]) (fun i w' => St w w' [] ∧ i ≤ n ∧ ∀ j, j < i → xss[j]? = yss[j]?) (fun i => n - i) 0 ⟨rfl, rfl, rfl, trivial⟩ ⟨St.refl w, Nat.zero_le _, fun j hj => absurd hj (Nat.not_lt_zero _)⟩ ?_
    rintro i e w1 ⟨hS1, hi, hj⟩
    have hX1 := hS1.oldRows hX
    have hY1 := hS1.oldRows hY
    refine Cd.seq ?_
    refine Cd.seq ?_
    refine Cd.region ?_
    refine Ops.mv_int rfl rfl rfl ?_
    refine Ops.mv_sl rfl rfl rfl ?_
    refine Ops.len rfl rfl ?_
    refine Ops.lss rfl rfl rfl ?_
    refine Ops.nil ?_
    refine thenQ_n ?_
    refine Cd.cond_p _ rfl (fun h2 => ?_) (fun h2 => ?_)
    · have hxi := hX1.at_ (i := (i : Int)) (by omega) (by omega)
      have hyi := hY1.at_ (i := (i : Int)) (by omega) (by omega)
      have hri : (rg rs (i : Int)).n ≤ 9223372036854775806 := by
        rw [← hxi.1, gl_mem (by omega)]; exact hr _ (List.getElem_mem _)
      refine Cd.skip ?_
      refine thenQ_n ?_
      refine Cd.seq ?_
      refine Cd.block ?_
      refine Cd.seq ?_
      refine Cd.draw [.ex (.slice (A) (n) (c)), .ex (.int .i64 ((i : Int))), .ex (.pointer (ptrAt (A) ((i : Int)).toNat)), .ex (.slice ((rg (rs) ((i : Int))).a) ((rg (rs) ((i : Int))).n) ((rg (rs) ((i : Int))).c)), .ex (.slice (B) (n) (cB)), .ex (.int .i64 ((i : Int))), .ex (.pointer (ptrAt (B) ((i : Int)).toNat)), .ex (.slice ((rg (rs') ((i : Int))).a) ((rg (rs') ((i : Int))).n) ((rg (rs') ((i : Int))).c)), .ex (.bool (decide (gl xss (i : Int) = gl yss (i : Int)))), .ex (.bool (decide (¬ (gl xss (i : Int) = gl yss (i : Int)))))] (by kernel_rfl) (by kernel_rfl) rfl (List.forall_mem_cons.2 ⟨Yd.lasts_ex _, (List.forall_mem_cons.2 ⟨Yd.lasts_ex _, (List.forall_mem_cons.2 ⟨Yd.lasts_ex _, (List.forall_mem_cons.2 ⟨Yd.lasts_ex _, (List.forall_mem_cons.2 ⟨Yd.lasts_ex _, (List.forall_mem_cons.2 ⟨Yd.lasts_ex _, (List.forall_mem_cons.2 ⟨Yd.lasts_ex _, (List.forall_mem_cons.2 ⟨Yd.lasts_ex _, (List.forall_mem_cons.2 ⟨Yd.lasts_ex _, (List.forall_mem_cons.2 ⟨Yd.lasts_ex _, (fun _ h => by cases h)⟩)⟩)⟩)⟩)⟩)⟩)⟩)⟩)⟩)⟩) ⟨?_, ?_, ?_, ?_, ?_, ?_, ?_, ?_, ?_, ?_, trivial⟩ ?_
      · intro e1 w1 hb hp hun
        refine Ops.mv_sl rfl rfl rfl ?_
        refine Ops.nil ?_
        exact After.dn (Below.refl _ _) (by exact rfl)
      · intro e1 w1 hb hp hun
        refine Ops.mv_int rfl rfl rfl ?_
        refine Ops.nil ?_
        exact After.dn (Below.refl _ _) (by exact rfl)
      · intro e1 w1 hb hp hun
        refine Ops.idx (hX1.top.later hb).2 rfl rfl rfl (by omega) (by omega) ?_
        refine Ops.nil ?_
        exact After.dn (Below.refl _ _) (by exact rfl)
      · intro e1 w1 hb hp hun
        refine Ops.ld_sl (hX1.top.later hb) rfl (by omega) rfl rfl ?_
        refine Ops.nil ?_
        exact After.dn (Below.refl _ _) (by exact rfl)
      · intro e1 w1 hb hp hun
        refine Ops.mv_sl rfl rfl rfl ?_
        refine Ops.nil ?_
        exact After.dn (Below.refl _ _) (by exact rfl)
      · intro e1 w1 hb hp hun
        refine Ops.mv_int rfl rfl rfl ?_
        refine Ops.nil ?_
        exact After.dn (Below.refl _ _) (by exact rfl)
      · intro e1 w1 hb hp hun
        refine Ops.idx (hY1.top.later hb).2 rfl rfl rfl (by omega) (by omega) ?_
        refine Ops.nil ?_
        exact After.dn (Below.refl _ _) (by exact rfl)
      · intro e1 w1 hb hp hun
        refine Ops.ld_sl (hY1.top.later hb) rfl (by omega) rfl rfl ?_
        refine Ops.nil ?_
        exact After.dn (Below.refl _ _) (by exact rfl)
      · intro e1 w1 hb hp hun
        refine Ops.call (likeInts_c _ _ _ _ _ _ _ _ _ (hxi.later hb) (hyi.later hb) hri) rfl rfl rfl ?_
        rintro _ w2 ⟨rfl, hst⟩
        refine Ops.nil ?_
        exact After.dn hst.below (by exact rfl)
      · intro e1 w1 hb hp hun
        refine Ops.not_p rfl rfl ?_
        refine Ops.nil ?_
        exact After.dn (Below.refl _ _) (by exact rfl)
      intro u w2 hb2 _
      have hS2 := hS1.later hb2
      refine thenQ_n ?_
      refine Cd.cond_p _ rfl (fun h3 => ?_) (fun h3 => ?_)
      · have hne : xss ≠ yss := fun e => h3 (by rw [e])
        refine Cd.seq ?_
        refine Cd.region ?_
        refine Ops.mv_bool rfl rfl rfl ?_
        refine Ops.nil ?_
        refine thenQ_n ?_
        refine Cd.ret ?_
        refine blockQ_r ?_
        refine thenQ_r ?_
        refine thenQ_r ?_
        refine blockQ_r ?_
        refine thenQ_r ?_
        refine ret1_b rfl ?_
        exact ⟨by rw [decide_eq_false hne], hS2⟩
      · have h3 := Decidable.not_not.1 h3
        rw [gl_mem (by omega), gl_mem (by omega)] at h3
        refine Cd.skip ?_
        refine blockQ_n ?_
        refine thenQ_n ?_
        refine Cd.region ?_
        refine Ops.mv_int rfl rfl rfl ?_
        refine Ops.add rfl rfl rfl (by omega) ?_
        refine Ops.mv_int rfl rfl rfl ?_
        refine Ops.nil ?_
        refine thenQ_n ?_
        refine ⟨i + 1, by show n - (i + 1) < n - i; omega, ⟨rfl, rfl, rfl, trivial⟩, hS2, by omega, fun j hj' => ?_⟩
        by_cases e : j = i
        · subst e; rw [List.getElem?_eq_getElem (by omega), List.getElem?_eq_getElem (by omega), h3]
        · exact hj j (by omega)
    · have he : xss = yss := List.ext_getElem? fun j => by
        by_cases hjn : j < n
        · exact hj j (by omega)
        · rw [List.getElem?_eq_none (by omega), List.getElem?_eq_none (by omega)]
      refine Cd.exit ?_
      refine thenQ_x ?_
      refine thenQ_x ?_
      refine blockQ_x ?_
      refine thenQ_n ?_
      refine Cd.seq ?_
      refine Cd.region ?_
      refine Ops.mv_bool rfl rfl rfl ?_
      refine Ops.nil ?_
      refine thenQ_n ?_
      refine Cd.ret ?_
      refine ret1_b rfl ?_
      exact ⟨by rw [decide_eq_true he], hS1⟩
end Go.Proofs.YtdedegbendjmbaaGreatDoor.Vc
/-
  A statement's frame: the arguments opened, and what a walk gives told in the statement's own words. Conditions: as each states them.
-/
namespace Go.Proofs.YtdedegbendjmbaaGreatDoor.Vc
open Go.RowKit Go.ChangeShapes Go.WideShapes

theorem laid : laidOutB Tryz.prog = true := by kernel_rfl
theorem own : ownKnob Tryz.prog.godebug = none := by kernel_rfl

section
variable {H : Type} {enc : TypeId × Value → H} {P : Program}
theorem trodAll_stays (hl : laidOutB P = true) {W W' : World} (hb : Below W.heap.size W W') {sp : Nat → Bool} : ∀ {ts : List TypeId} {vs : List Value} {ds : List (DataW H)} {ps : List MemPlace}, (ts.all fun t => P.readableRec t && Nat.blt t P.types.size) = true → (∀ p ∈ ps, p.block < W.heap.size) → (∀ p ∈ ps, sp p.block = true) →
    DataW.TrodAll enc P W 0 (fun _ => true) true ts vs ds ps → DataW.TrodAll enc P W' 0 sp true ts vs ds ps
  | [], [], [], _, _, _, _, h => h
  | t :: ts, v :: vs, d :: ds, ps, hr, hlt, hsp, h => by
    obtain ⟨p, q, h1, h2, rfl⟩ := h
    simp only [List.all_cons, Bool.and_eq_true] at hr
    exact ⟨p, q, WideElems.Trod_stays hl hr.1.1 (by simpa [Nat.blt_eq] using hr.1.2) h1 (fun x hx => hb.same (hlt x (by simp [hx]))) (fun x hx => hsp x (by simp [hx])), trodAll_stays hl hb hr.2 (fun x hx => hlt x (by simp [hx])) (fun x hx => hsp x (by simp [hx])) h2, rfl⟩
  | [], [], _ :: _, _, _, _, _, h => h.elim
  | [], _ :: _, _, _, _, _, _, h => by cases h
  | _ :: _, [], _, _, _, _, _, h => by cases h
  | _ :: _, _ :: _, [], _, _, _, _, h => by cases h

/-- what a law's walk gives, in its statement's words: it returns true, and its arguments read as they did -/
theorem post_law {f : Func} {s : ChangeSpec} {apart : Bool} {W W' : World} {args : Array Value} {ds gs : List (DataW H)} {before : List MemPlace} (hl : laidOutB P = true) {b : TypeId} (hu : P.underlying b = some .bool) (hres : f.resultTypes = #[b]) (hv : s.vars = [])
    (hr : (f.params.toList.all fun t => P.readableRec t && Nat.blt t P.types.size) = true) (hfn : (s.fn H (ds ++ gs)).results = [.lit (.bool true)] ∧ (s.fn H (ds ++ gs)).args = ds ∧ (s.fn H (ds ++ gs)).vars = [])
    (hW : DataW.Whole enc P f.params.toList s.vars apart W args.toList ds gs before) (hb : Below W.heap.size W W') : s.post enc P f apart true false false W args (.bool true) W' := by
  have hlt : ∀ x ∈ before, x.block < W.heap.size := fun x hx => hW.lt x hx
  have hW0 := hW
  obtain ⟨p, q, hA, hV, rfl, hz, hn⟩ := hW
  rw [hv] at hV
  obtain ⟨rfl, rfl⟩ := trodVars_none hV
  have hlp : ∀ x ∈ p, x.block < W.heap.size := fun x hx => hlt x (by simp [hx])
  have hA' : ∀ sp : Nat → Bool, (∀ x ∈ p, sp x.block = true) → DataW.TrodAll enc P W' 0 sp true f.params.toList args.toList (s.fn H (ds ++ [])).args p := fun sp hsp => by
    rw [hfn.2.1]
    exact trodAll_stays hl hb hr hlp hsp hA
  have hR' : ∀ (b0 : Nat) (sp : Nat → Bool) (hd : Bool), DataW.TrodAll enc P W' b0 sp hd f.resultTypes.toList ((Value.bool true).resultList f.resultTypes.size) (s.fn H (ds ++ [])).results [] := fun b0 sp hd => by
    rw [hfn.1, hres]
    exact trodAll_cons_mk (shut_bool hu _) trodAll_mk0
  have hV' : ∀ sp : Nat → Bool, DataW.TrodVars enc P W' sp s.vars (s.fn H (ds ++ [])).vars [] := fun sp => by
    rw [hfn.2.2, hv]; rfl
  refine ⟨ds, [], p ++ [], [], p, [], hW0, hR' _ _ _, hA' _ (fun x hx => by simpa using hlp x hx), hV' _, World.keptBut_mono (fun x hx => ⟨hx, by simpa using hx⟩) (hb.frame (· ∈ p ++ [])), fun _ => ⟨fun j t r h1 h2 => ?_, _, _, ([] ++ p) ++ [], ⟨[] ++ p, [], trodAll_append (hA' _ fun _ _ => rfl) (hR' _ _ _), hV' _, rfl, fun c off hc => ?_, fun ha => by simpa using hn ha⟩, fun x hx _ => by simpa using hx⟩⟩
  · rw [hres] at h1 h2
    cases j with
    | zero =>
      simp at h1
      subst h1
      simp [Value.resultList] at h2
      subst h2
      exact okWide_bool_mk hu _
    | succ j => simp at h1
  · have hin : MemPlace.cell c off ∈ p ++ [] := by simpa using hc
    rw [hb.frozen (hlt _ hin)]
    exact hz c off hin
end
end Go.Proofs.YtdedegbendjmbaaGreatDoor.Vc
/-
  Arguments opened: a struct of one matrix, a list of integers. Conditions: as each states them.
-/
namespace Go.Proofs.YtdedegbendjmbaaGreatDoor.Vc
open Go.RowKit Go.ChangeShapes Go.WideShapes

section
variable {H : Type} {enc : TypeId × Value → H} {P : Program}
end
end Go.Proofs.YtdedegbendjmbaaGreatDoor.Vc
/-
  An argument that is a list of bytes, opened. Conditions: as stated.
-/
namespace Go.Proofs.YtdedegbendjmbaaGreatDoor.Vc
open Go.RowKit Go.ChangeShapes Go.WideShapes
section
variable {H : Type} {enc : TypeId × Value → H} {P : Program}
theorem open_ybs {w : World} {r : Go.Reach} {b0 : Nat} {t e : TypeId} {v : Value} {d : DataW H} {p : List MemPlace} (ht : P.underlying t = some (.slice e)) (he : P.underlying e = some (.int .u8)) (ce : P.cellsOf e = 1)
    (hval : Value.okWide P w r b0 t v) (h : DataW.Trod enc P w 0 (fun _ => true) true t v d p) : ∃ A n c bs, v = .slice A n c ∧ RdY w A n bs ∧ n ≤ c ∧ c ≤ 9223372036854775807 := by
  obtain ⟨a, len, cap, rfl⟩ := okWide_slice ht hval
  obtain ⟨fuel, hf⟩ := h
  have hcs : (Value.slice a len cap).cells.toList = [Value.slice a len cap] := rfl
  rw [hcs] at hf
  rcases open_ints ht he ce hf with ⟨h1, _⟩ | ⟨b, n, c, zs, h1, _, hl, hm, hz, _, hc, hwz⟩
  · simp only [List.cons.injEq, and_true] at h1
    exact ⟨none, 0, 0, [], h1, ⟨rfl, fun x hx => (nomatch hx), fun k hk => absurd hk (Nat.not_lt_zero _)⟩, Nat.le_refl _, by omega⟩
  · simp only [List.cons.injEq, and_true] at h1
    rw [if_pos rfl] at hz
    refine ⟨some b, n, c, zs.take n, h1, ⟨?_, fun x hx => ?_, fun k hk => ?_⟩, hl, by simpa [maxLen] using hm⟩
    · simp; omega
    · have := hwz x (List.mem_of_mem_take hx)
      simpa [Lit.wf, IntKind.min, IntKind.max, IntKind.signed, IntKind.bits] using this
    · refine ⟨b.add k, rfl, ?_⟩
      rw [hc k (by omega)]
      simp [List.getD_eq_getElem?_getD, List.getElem?_take, hk]
end
end Go.Proofs.YtdedegbendjmbaaGreatDoor.Vc
/-
  Lists drawn; helpers of the laws of complexes, walked. Conditions: as each states them.
-/
namespace Go.Proofs.YtdedegbendjmbaaGreatDoor.Vc
open Go.RowKit

theorem likeComplex9_c (V : Int) (A : Option Addr) (n c : Nat) (rs : List SlV) (F : List (List Int)) (W : Int) (B : Option Addr) (m d : Nat) (ts : List SlV) (G : List (List Int)) (w : World) (hR : RowsI w A n rs F) (hQ : RowsI w B m ts G) (hn : n ≤ 1000000) (hr : ∀ f ∈ F, f.length ≤ 1000000) :
    Ret Tryz.prog 30 [.agg #[.int .i64 V, .slice A n c], .agg #[.int .i64 W, .slice B m d]] w (fun v w' => v = .bool (decide (V = W ∧ F = G)) ∧ St w w' []) := by
  refine Ret.of_cd Tryz.func30 rfl Tryz.ntmps30 rfl (post1 rfl) ?_
  refine Cd.seq ?_
  refine Cd.region ?_
  refine Ops.box2 (St.refl w) rfl rfl ?_
  intro A2 w1 hS1
  refine Ops.box2 hS1 rfl rfl ?_
  intro A3 w2 hS2
  refine Ops.mv_bool rfl rfl rfl ?_
  refine Ops.nil ?_
  refine thenQ_n ?_
  refine Cd.seq ?_
  refine Cd.region ?_
  refine Ops.fld (hS2.rd 1 rfl) rfl rfl rfl rfl inferInstance ?_
  refine Ops.ldf_i (hS2.rd 1 rfl) rfl rfl rfl rfl rfl ?_
  refine Ops.fld (hS2.rd 0 rfl) rfl rfl rfl rfl inferInstance ?_
  refine Ops.ldf_i (hS2.rd 0 rfl) rfl rfl rfl rfl rfl ?_
  refine Ops.eql rfl rfl rfl ?_
  refine Ops.mv_bool rfl rfl rfl ?_
  refine Ops.split_p 10 rfl (fun h1 => ?_) (fun h1 => ?_)
  · refine Ops.rung rfl rfl rfl ?_
    refine Ops.fld (hS2.rd 1 rfl) rfl rfl rfl rfl inferInstance ?_
    refine Ops.rung rfl rfl rfl ?_
    refine Ops.ldf_s (hS2.rd 1 rfl) rfl rfl rfl rfl rfl ?_
    refine Ops.rung rfl rfl rfl ?_
    refine Ops.fld (hS2.rd 0 rfl) rfl rfl rfl rfl inferInstance ?_
    refine Ops.rung rfl rfl rfl ?_
    refine Ops.ldf_s (hS2.rd 0 rfl) rfl rfl rfl rfl rfl ?_
    refine Ops.rung rfl rfl rfl ?_
    refine Ops.call (same9_c _ _ _ _ _ _ _ _ _ _ _ (hS2.oldRows hR) (hS2.oldRows hQ) (by omega) (fun x hx => by have := hr x hx; omega)) rfl rfl rfl ?_
    rintro _ w3 ⟨rfl, hst⟩
    refine Ops.pick_t rfl rfl rfl ?_
    refine Ops.mv_bool rfl rfl rfl ?_
    refine Ops.nil ?_
    refine thenQ_n ?_
    refine Cd.ret ?_
    refine ret1_b rfl ?_
    exact ⟨congrArg Value.bool (decide_eq_decide.2 ⟨fun h => ⟨h1, h⟩, fun h => h.2⟩), (hS2.later hst.below).none⟩
  · refine Ops.skipg rfl rfl rfl rfl rfl ?_
    refine Ops.skipg rfl rfl rfl rfl rfl ?_
    refine Ops.skipg rfl rfl rfl rfl rfl ?_
    refine Ops.skipg rfl rfl rfl rfl rfl ?_
    refine Ops.skipg rfl rfl rfl rfl rfl ?_
    refine Ops.pick_f rfl rfl rfl ?_
    refine Ops.mv_bool rfl rfl rfl ?_
    refine Ops.nil ?_
    refine thenQ_n ?_
    refine Cd.ret ?_
    refine ret1_b rfl ?_
    exact ⟨by rw [decide_eq_false (fun h => h1 h.1)], hS2.none⟩

end Go.Proofs.YtdedegbendjmbaaGreatDoor.Vc
/-
  The library's CompactFunc on rows of lists by their equality, walked. Conditions: that the lists can be read while the row is turned about.
-/
namespace Go.Proofs.YtdedegbendjmbaaGreatDoor.Vc
open Go.RowKit

def kepC (xs : Nat → List Int) (n : Nat) : List Nat := (List.range n).filter fun j => decide (j = 0 ∨ xs j ≠ xs (j - 1))
theorem kepC_succ (xs : Nat → List Int) (n : Nat) : kepC xs (n + 1) = kepC xs n ++ (if n = 0 ∨ xs n ≠ xs (n - 1) then [n] else []) := by
  unfold kepC
  rw [List.range_succ, List.filter_append]
  congr 1
  by_cases h : n = 0 ∨ xs n ≠ xs (n - 1) <;> simp [h]
theorem kepC_all {xs : Nat → List Int} {n : Nat} (h : ∀ j, j < n → j = 0 ∨ xs j ≠ xs (j - 1)) : kepC xs n = List.range n := by
  unfold kepC
  rw [List.filter_eq_self]
  intro j hj
  exact decide_eq_true (h j (List.mem_range.1 hj))
theorem kepC_len (xs : Nat → List Int) (n : Nat) : (kepC xs n).length ≤ n := by
  have := List.length_filter_le (fun j => decide (j = 0 ∨ xs j ≠ xs (j - 1))) (List.range n)
  unfold kepC
  simpa using this

theorem compactF_c {w0 w : World} {ks : List Ck} (i : Nat) {t : TypeId} {A : Option Addr} {n c : Nat} {ss : List SlV} (hS : St w0 w ks) (hk : ks[i]? = some (CkR t A n c ss)) (hn : n ≤ 4000000000000) (xs : Nat → List Int) (hcap : ∀ a, a < n → (sv ss a).n ≤ 9223372036854775807)
    (hrow : ∀ (w' : World) (q : List Nat), q.length = n → (∀ j ∈ q, j < n) → St w0 w' (ks.set i (CkR t A n c (q.map (sv ss)))) → ∀ a, a < n → RdI w' (sv ss a).a (sv ss a).n (xs a)) :
    Ret Tryz.prog 141 [.slice A n c, .func (.func 142) #[] #[]] w (fun v w' => v = .slice A (kepC xs n).length c ∧ St w0 w' (ks.set i (CkR t A (kepC xs n).length c ((kepC xs n).map (sv ss))))) := by
  have hil : i < ks.length := (List.getElem?_eq_some_iff.1 hk).1
  obtain ⟨h1, h2, h3, -⟩ := hS.getC hk (isM_R _)
  have hsl : ss.length = n := by have : (ss.map SlV.v).length = n := h1; simpa using this
  have h2 : n ≤ c := h2
  have h3 : c ≤ maxLen := h3
  have hrng : (List.range n).map (sv ss) = ss := by
    apply List.ext_getElem
    · simp [hsl]
    · intro j h1 h2
      simp [sv, List.getD_eq_getElem?_getD, h2]
  have hid : ks.set i (CkR t A n c ((List.range n).map (sv ss))) = ks := by rw [hrng, set_id hk]
  have hSi : ∀ {w' : World}, St w0 w' ks → St w0 w' (ks.set i (CkR t A n c ((List.range n).map (sv ss)))) := fun h => by rw [hid]; exact h
  have get : ∀ l, (ks.set i l)[i]? = some l := fun l => by simp [hil]
  have hrg0 : ∀ j : Nat, rg ss (j : Int) = sv ss j := fun j => rfl
  have hrd : ∀ {w' : World}, St w0 w' ks → ∀ a, a < n → RdI w' (sv ss a).a (sv ss a).n (xs a) := fun h => hrow _ (List.range n) (by simp) (fun j hj => List.mem_range.1 hj) (hSi h)
  refine Ret.of_cd Tryz.func141 rfl Tryz.ntmps141 rfl (post1 rfl) ?_
  refine Cd.seq ?_
  refine Cd.region ?_
  refine Ops.mv_sl rfl rfl rfl ?_
  refine Ops.nil ?_
  refine thenQ_n ?_
  refine Cd.seq ?_
  refine Cd.seq ?_
  refine Cd.region ?_
  refine Ops.mv_sl rfl rfl rfl ?_
  refine Ops.len rfl rfl ?_
  refine Ops.lss rfl rfl rfl ?_
  refine Ops.nil ?_
  refine thenQ_n ?_
  refine Cd.cond_p _ rfl (fun h4 => ?_) (fun h4 => ?_)
  · have hall : kepC xs n = List.range n := kepC_all fun j hj => .inl (by omega)
    refine Cd.seq ?_
    refine Cd.region ?_
    refine Ops.mv_sl rfl rfl rfl ?_
    refine Ops.mv_sl rfl rfl rfl ?_
    refine Ops.nil ?_
    refine thenQ_n ?_
    refine Cd.ret ?_
    refine thenQ_r ?_
    refine ret1_s rfl ?_
    rw [hall, List.length_range, hid]
    exact ⟨rfl, hS⟩
  · refine Cd.skip ?_
    refine thenQ_n ?_
    refine Cd.seq ?_
    refine Cd.seq ?_
    refine Cd.region ?_
    refine Ops.mv_int rfl rfl rfl ?_
    refine Ops.nil ?_
    refine thenQ_n ?_
    refine Cd.block ?_
    refine Cd.loop (α := Nat) (fun k => [(0, .slice A n c), (1, .func (.func 142) #[] #[]), (5, .int .i64 (k : Int))]) (fun k w' => 1 ≤ k ∧ k ≤ n ∧ (∀ j, j < k → j = 0 ∨ xs j ≠ xs (j - 1)) ∧ St w0 w' ks) (fun k => n - k) 1 ⟨rfl, rfl, rfl, trivial⟩ ⟨Nat.le_refl _, by omega, fun j hj => .inl (by omega), hS⟩ ?_
    rintro k e w1 ⟨hk1, hkn, hne, hS1⟩
    refine Cd.seq ?_
    refine Cd.seq ?_
    refine Cd.region ?_
    refine Ops.mv_int rfl rfl rfl ?_
    refine Ops.mv_sl rfl rfl rfl ?_
    refine Ops.len rfl rfl ?_
    refine Ops.lss rfl rfl rfl ?_
    refine Ops.nil ?_
    refine thenQ_n ?_
    refine Cd.cond_p _ rfl (fun h5 => ?_) (fun h5 => ?_)
    · have hR1 := hS1.rdR i hk
      have hra : RdI w1 (rg ss (k : Int)).a (rg ss (k : Int)).n (xs k) := hrd hS1 k (by omega)
      have hrb : RdI w1 (rg ss ((k : Int) - 1)).a (rg ss ((k : Int) - 1)).n (xs (k - 1)) := by
        rw [show (k : Int) - 1 = ((k - 1 : Nat) : Int) by omega]
        exact hrd hS1 (k - 1) (by omega)
      have hca : (rg ss (k : Int)).n ≤ 9223372036854775807 := hcap k (by omega)
      refine Cd.skip ?_
      refine thenQ_n ?_
      refine Cd.seq ?_
      refine Cd.block ?_
      refine Cd.seq ?_
      by_cases h6 : xs k = xs (k - 1)
      · --dup 2
        refine Cd.draw [.ex (.func (.func 142) #[] #[]), .ex (.slice (A) (n) (c)), .ex (.int .i64 ((k : Int))), .ex (.pointer (ptrAt (A) ((k : Int)).toNat)), .ex (.slice ((rg (ss) ((k : Int))).a) ((rg (ss) ((k : Int))).n) ((rg (ss) ((k : Int))).c)), .ex (.slice (A) (n) (c)), .ex (.int .i64 ((k : Int))), .ex (.int .i64 (((k : Int)) - ((1 : Int)))), .ex (.pointer (ptrAt (A) (((k : Int)) - ((1 : Int))).toNat)), .ex (.slice ((rg (ss) (((k : Int)) - ((1 : Int)))).a) ((rg (ss) (((k : Int)) - ((1 : Int)))).n) ((rg (ss) (((k : Int)) - ((1 : Int)))).c)), .ex (.bool (true))] (by kernel_rfl) (by kernel_rfl) rfl (List.forall_mem_cons.2 ⟨Yd.lasts_ex _, (List.forall_mem_cons.2 ⟨Yd.lasts_ex _, (List.forall_mem_cons.2 ⟨Yd.lasts_ex _, (List.forall_mem_cons.2 ⟨Yd.lasts_ex _, (List.forall_mem_cons.2 ⟨Yd.lasts_ex _, (List.forall_mem_cons.2 ⟨Yd.lasts_ex _, (List.forall_mem_cons.2 ⟨Yd.lasts_ex _, (List.forall_mem_cons.2 ⟨Yd.lasts_ex _, (List.forall_mem_cons.2 ⟨Yd.lasts_ex _, (List.forall_mem_cons.2 ⟨Yd.lasts_ex _, (List.forall_mem_cons.2 ⟨Yd.lasts_ex _, (fun _ h => by cases h)⟩)⟩)⟩)⟩)⟩)⟩)⟩)⟩)⟩)⟩)⟩) ⟨?_, ?_, ?_, ?_, ?_, ?_, ?_, ?_, ?_, ?_, ?_, trivial⟩ ?_
        · intro e1 w1 hb hp hun
          refine Ops.mv_fn rfl rfl rfl ?_
          refine Ops.nil ?_
          exact After.dn (Below.refl _ _) (by exact rfl)
        · intro e1 w1 hb hp hun
          refine Ops.mv_sl rfl rfl rfl ?_
          refine Ops.nil ?_
          exact After.dn (Below.refl _ _) (by exact rfl)
        · intro e1 w1 hb hp hun
          refine Ops.mv_int rfl rfl rfl ?_
          refine Ops.nil ?_
          exact After.dn (Below.refl _ _) (by exact rfl)
        · intro e1 w1 hb hp hun
          refine Ops.idx (hR1.later hb).2 rfl rfl rfl (by omega) (by omega) ?_
          refine Ops.nil ?_
          exact After.dn (Below.refl _ _) (by exact rfl)
        · intro e1 w1 hb hp hun
          refine Ops.ld_sl (hR1.later hb) rfl (by omega) rfl rfl ?_
          refine Ops.nil ?_
          exact After.dn (Below.refl _ _) (by exact rfl)
        · intro e1 w1 hb hp hun
          refine Ops.mv_sl rfl rfl rfl ?_
          refine Ops.nil ?_
          exact After.dn (Below.refl _ _) (by exact rfl)
        · intro e1 w1 hb hp hun
          refine Ops.mv_int rfl rfl rfl ?_
          refine Ops.nil ?_
          exact After.dn (Below.refl _ _) (by exact rfl)
        · intro e1 w1 hb hp hun
          refine Ops.sub rfl rfl rfl (by omega) ?_
          refine Ops.nil ?_
          exact After.dn (Below.refl _ _) (by exact rfl)
        · intro e1 w1 hb hp hun
          refine Ops.idx (hR1.later hb).2 rfl rfl rfl (by omega) (by omega) ?_
          refine Ops.nil ?_
          exact After.dn (Below.refl _ _) (by exact rfl)
        · intro e1 w1 hb hp hun
          refine Ops.ld_sl (hR1.later hb) rfl (by omega) rfl rfl ?_
          refine Ops.nil ?_
          exact After.dn (Below.refl _ _) (by exact rfl)
        · intro e1 w1 hb hp hun
          refine Ops.call (Equal_c _ _ _ (xs k) _ _ _ (xs (k - 1)) _ (hra.later hb) (hrb.later hb) hca) rfl rfl rfl ?_
          rintro _ w2 ⟨rfl, hst⟩
          refine Ops.nil ?_
          exact After.dn hst.below (by exact congrArg Value.bool (decide_eq_true h6))
        intro u w2 hb _
        have hS2 := hS1.later hb
        have hk0 : kepC xs k = List.range k := kepC_all hne
        refine thenQ_n ?_
        refine Cd.cond_t rfl ?_
        refine Cd.seq ?_
        refine Cd.region ?_
        refine Ops.mv_sl rfl rfl rfl ?_
        refine Ops.mv_int rfl rfl rfl ?_
        refine Ops.cut_l (A := A) (n := n) (c := c) (l := (k : Int)) rfl rfl rfl (by omega) ?_
        rw [Int.toNat_natCast]
        refine Ops.mv_sl rfl rfl rfl ?_
        refine Ops.nil ?_
        refine thenQ_n ?_
        refine Cd.seq ?_
        refine Cd.seq ?_
        refine Cd.region ?_
        refine Ops.mv_int rfl rfl rfl ?_
        refine Ops.nil ?_
        refine thenQ_n ?_
        refine Cd.block ?_
        refine Cd.loop (α := Nat × Nat × List Nat) (fun z => [(0, .slice A n c), (1, .func (.func 142) #[] #[]), (5, .int .i64 (z.1 : Int)), (6, .slice (cutAt A c k) (n - k) (c - k)), (7, .int .i64 (z.2.1 : Int))])
          (fun z w' => 1 ≤ z.2.1 ∧ z.2.1 ≤ n - k ∧ z.1 < k + z.2.1 ∧ z.2.2.length = n ∧ (∀ j ∈ z.2.2, j < n) ∧ z.1 = (kepC xs (k + z.2.1)).length ∧ z.2.2.take z.1 = kepC xs (k + z.2.1) ∧ (∀ m, z.1 ≤ m → m < n → z.2.2[m]? = some m) ∧ St w0 w' (ks.set i (CkR t A n c (z.2.2.map (sv ss))))) (fun z => n - k - z.2.1) (k, 1, List.range n) ⟨rfl, rfl, rfl, rfl, rfl, trivial⟩
          ⟨Nat.le_refl _, by show 1 ≤ n - k; omega, by show k < k + 1; omega, by simp, fun j hj => List.mem_range.1 hj, by
            show k = (kepC xs (k + 1)).length
            rw [kepC_succ, if_neg (fun h => h.elim (fun h => by omega) (fun h => h h6)), List.append_nil, hk0, List.length_range], by
            show (List.range n).take k = kepC xs (k + 1)
            rw [kepC_succ, if_neg (fun h => h.elim (fun h => by omega) (fun h => h h6)), List.append_nil, hk0, List.take_range, Nat.min_eq_left (by omega)], fun m hm hm' => by simp [hm'], hSi hS2⟩ ?_
        rintro ⟨a, b, q⟩ e w3 ⟨hb1, hbn, hab, hql, hqm, hal, hqt, hqr, hS3⟩
        dsimp only at hb1 hbn hab hql hqm hal hqt hqr hS3 ⊢
        refine Cd.seq ?_
        refine Cd.seq ?_
        refine Cd.region ?_
        refine Ops.mv_int rfl rfl rfl ?_
        refine Ops.mv_sl rfl rfl rfl ?_
        refine Ops.len rfl rfl ?_
        refine Ops.lss rfl rfl rfl ?_
        refine Ops.nil ?_
        refine thenQ_n ?_
        refine Cd.cond_p _ rfl (fun h7 => ?_) (fun h7 => ?_)
        · have hR3 := hS3.rdR i (get _)
          have hcut := hR3.drop (l := k) (by omega) h2
          have hg : ∀ m : Nat, a ≤ k + m → k + m < n → rg ((q.map (sv ss)).drop k) (m : Int) = sv ss (k + m) := fun m h8 h9 => by
            have := hqr (k + m) h8 h9
            simp [rg, List.getD_eq_getElem?_getD, this]
          have hra : RdI w3 (rg ((q.map (sv ss)).drop k) (b : Int)).a (rg ((q.map (sv ss)).drop k) (b : Int)).n (xs (k + b)) := by rw [hg b (by omega) (by omega)]; exact hrow _ q hql hqm hS3 _ (by omega)
          have hrb : RdI w3 (rg ((q.map (sv ss)).drop k) ((b : Int) - 1)).a (rg ((q.map (sv ss)).drop k) ((b : Int) - 1)).n (xs (k + b - 1)) := by
            rw [show (b : Int) - 1 = ((b - 1 : Nat) : Int) by omega, hg (b - 1) (by omega) (by omega), show k + (b - 1) = k + b - 1 by omega]
            exact hrow _ q hql hqm hS3 _ (by omega)
          have hca : (rg ((q.map (sv ss)).drop k) (b : Int)).n ≤ 9223372036854775807 := by rw [hg b (by omega) (by omega)]; exact hcap _ (by omega)
          have hsuc := kepC_succ xs (k + b)
          refine Cd.skip ?_
          refine thenQ_n ?_
          refine Cd.seq ?_
          refine Cd.block ?_
          refine Cd.seq ?_
          by_cases h8 : xs (k + b) = xs (k + b - 1)
          · --dup 2
            refine Cd.draw [.ex (.func (.func 142) #[] #[]), .ex (.slice (cutAt A c k) (n - k) (c - k)), .ex (.int .i64 ((b : Int))), .ex (.pointer (ptrAt (cutAt A c k) ((b : Int)).toNat)), .ex (.slice ((rg ((q.map (sv ss)).drop k) ((b : Int))).a) ((rg ((q.map (sv ss)).drop k) ((b : Int))).n) ((rg ((q.map (sv ss)).drop k) ((b : Int))).c)), .ex (.slice (cutAt A c k) (n - k) (c - k)), .ex (.int .i64 ((b : Int))), .ex (.int .i64 (((b : Int)) - ((1 : Int)))), .ex (.pointer (ptrAt (cutAt A c k) (((b : Int)) - ((1 : Int))).toNat)), .ex (.slice ((rg ((q.map (sv ss)).drop k) (((b : Int)) - ((1 : Int)))).a) ((rg ((q.map (sv ss)).drop k) (((b : Int)) - ((1 : Int)))).n) ((rg ((q.map (sv ss)).drop k) (((b : Int)) - ((1 : Int)))).c)), .ex (.bool (decide (xs (k + b) = xs (k + b - 1)))), .ex (.bool (false))] (by kernel_rfl) (by kernel_rfl) rfl (List.forall_mem_cons.2 ⟨Yd.lasts_ex _, (List.forall_mem_cons.2 ⟨Yd.lasts_ex _, (List.forall_mem_cons.2 ⟨Yd.lasts_ex _, (List.forall_mem_cons.2 ⟨Yd.lasts_ex _, (List.forall_mem_cons.2 ⟨Yd.lasts_ex _, (List.forall_mem_cons.2 ⟨Yd.lasts_ex _, (List.forall_mem_cons.2 ⟨Yd.lasts_ex _, (List.forall_mem_cons.2 ⟨Yd.lasts_ex _, (List.forall_mem_cons.2 ⟨Yd.lasts_ex _, (List.forall_mem_cons.2 ⟨Yd.lasts_ex _, (List.forall_mem_cons.2 ⟨Yd.lasts_ex _, (List.forall_mem_cons.2 ⟨Yd.lasts_ex _, (fun _ h => by cases h)⟩)⟩)⟩)⟩)⟩)⟩)⟩)⟩)⟩)⟩)⟩)⟩) ⟨?_, ?_, ?_, ?_, ?_, ?_, ?_, ?_, ?_, ?_, ?_, ?_, trivial⟩ ?_
            · intro e1 w1 hb hp hun
              refine Ops.mv_fn rfl rfl rfl ?_
              refine Ops.nil ?_
              exact After.dn (Below.refl _ _) (by exact rfl)
            · intro e1 w1 hb hp hun
              refine Ops.mv_sl rfl rfl rfl ?_
              refine Ops.nil ?_
              exact After.dn (Below.refl _ _) (by exact rfl)
            · intro e1 w1 hb hp hun
              refine Ops.mv_int rfl rfl rfl ?_
              refine Ops.nil ?_
              exact After.dn (Below.refl _ _) (by exact rfl)
            · intro e1 w1 hb hp hun
              refine Ops.idx (hcut.later hb).2 rfl rfl rfl (by omega) (by omega) ?_
              refine Ops.nil ?_
              exact After.dn (Below.refl _ _) (by exact rfl)
            · intro e1 w1 hb hp hun
              refine Ops.ld_sl (hcut.later hb) rfl (by omega) rfl rfl ?_
              refine Ops.nil ?_
              exact After.dn (Below.refl _ _) (by exact rfl)
            · intro e1 w1 hb hp hun
              refine Ops.mv_sl rfl rfl rfl ?_
              refine Ops.nil ?_
              exact After.dn (Below.refl _ _) (by exact rfl)
            · intro e1 w1 hb hp hun
              refine Ops.mv_int rfl rfl rfl ?_
              refine Ops.nil ?_
              exact After.dn (Below.refl _ _) (by exact rfl)
            · intro e1 w1 hb hp hun
              refine Ops.sub rfl rfl rfl (by omega) ?_
              refine Ops.nil ?_
              exact After.dn (Below.refl _ _) (by exact rfl)
            · intro e1 w1 hb hp hun
              refine Ops.idx (hcut.later hb).2 rfl rfl rfl (by omega) (by omega) ?_
              refine Ops.nil ?_
              exact After.dn (Below.refl _ _) (by exact rfl)
            · intro e1 w1 hb hp hun
              refine Ops.ld_sl (hcut.later hb) rfl (by omega) rfl rfl ?_
              refine Ops.nil ?_
              exact After.dn (Below.refl _ _) (by exact rfl)
            · intro e1 w1 hb hp hun
              refine Ops.call (Equal_c _ _ _ (xs (k + b)) _ _ _ (xs (k + b - 1)) _ (hra.later hb) (hrb.later hb) hca) rfl rfl rfl ?_
              rintro _ w2 ⟨rfl, hst⟩
              refine Ops.nil ?_
              exact After.dn hst.below (by exact rfl)
            · intro e1 w1 hb hp hun
              refine Ops.not_p rfl rfl ?_
              refine Ops.nil ?_
              exact After.dn (Below.refl _ _) (by exact congrArg Value.bool (decide_eq_false (fun h => h h8)))
            intro u w4 hb _
            rw [if_neg (fun h => h.elim (fun h => by omega) (fun h => h h8)), List.append_nil] at hsuc
            refine thenQ_n ?_
            refine Cd.cond_f rfl ?_
            refine Cd.skip ?_
            refine blockQ_n ?_
            refine thenQ_n ?_
            refine Cd.region ?_
            refine Ops.mv_int rfl rfl rfl ?_
            refine Ops.add rfl rfl rfl (by omega) ?_
            refine Ops.mv_int rfl rfl rfl ?_
            refine Ops.nil ?_
            refine thenQ_n ?_
            exact ⟨(a, b + 1, q), by show n - k - (b + 1) < n - k - b; omega, ⟨rfl, rfl, rfl, rfl, rfl, trivial⟩, by show 1 ≤ b + 1; omega, by show b + 1 ≤ n - k; omega, by show a < k + (b + 1); omega, hql, hqm, by show a = (kepC xs (k + b + 1)).length; rw [hsuc]; exact hal, by show q.take a = kepC xs (k + b + 1); rw [hsuc]; exact hqt, hqr, hS3.later hb⟩
          · refine Cd.draw [.ex (.func (.func 142) #[] #[]), .ex (.slice (cutAt A c k) (n - k) (c - k)), .ex (.int .i64 ((b : Int))), .ex (.pointer (ptrAt (cutAt A c k) ((b : Int)).toNat)), .ex (.slice ((rg ((q.map (sv ss)).drop k) ((b : Int))).a) ((rg ((q.map (sv ss)).drop k) ((b : Int))).n) ((rg ((q.map (sv ss)).drop k) ((b : Int))).c)), .ex (.slice (cutAt A c k) (n - k) (c - k)), .ex (.int .i64 ((b : Int))), .ex (.int .i64 (((b : Int)) - ((1 : Int)))), .ex (.pointer (ptrAt (cutAt A c k) (((b : Int)) - ((1 : Int))).toNat)), .ex (.slice ((rg ((q.map (sv ss)).drop k) (((b : Int)) - ((1 : Int)))).a) ((rg ((q.map (sv ss)).drop k) (((b : Int)) - ((1 : Int)))).n) ((rg ((q.map (sv ss)).drop k) (((b : Int)) - ((1 : Int)))).c)), .ex (.bool (decide (xs (k + b) = xs (k + b - 1)))), .ex (.bool (true))] (by kernel_rfl) (by kernel_rfl) rfl (List.forall_mem_cons.2 ⟨Yd.lasts_ex _, (List.forall_mem_cons.2 ⟨Yd.lasts_ex _, (List.forall_mem_cons.2 ⟨Yd.lasts_ex _, (List.forall_mem_cons.2 ⟨Yd.lasts_ex _, (List.forall_mem_cons.2 ⟨Yd.lasts_ex _, (List.forall_mem_cons.2 ⟨Yd.lasts_ex _, (List.forall_mem_cons.2 ⟨Yd.lasts_ex _, (List.forall_mem_cons.2 ⟨Yd.lasts_ex _, (List.forall_mem_cons.2 ⟨Yd.lasts_ex _, (List.forall_mem_cons.2 ⟨Yd.lasts_ex _, (List.forall_mem_cons.2 ⟨Yd.lasts_ex _, (List.forall_mem_cons.2 ⟨Yd.lasts_ex _, (fun _ h => by cases h)⟩)⟩)⟩)⟩)⟩)⟩)⟩)⟩)⟩)⟩)⟩)⟩) ⟨?_, ?_, ?_, ?_, ?_, ?_, ?_, ?_, ?_, ?_, ?_, ?_, trivial⟩ ?_
            · intro e1 w1 hb hp hun
              refine Ops.mv_fn rfl rfl rfl ?_
              refine Ops.nil ?_
              exact After.dn (Below.refl _ _) (by exact rfl)
            · intro e1 w1 hb hp hun
              refine Ops.mv_sl rfl rfl rfl ?_
              refine Ops.nil ?_
              exact After.dn (Below.refl _ _) (by exact rfl)
            · intro e1 w1 hb hp hun
              refine Ops.mv_int rfl rfl rfl ?_
              refine Ops.nil ?_
              exact After.dn (Below.refl _ _) (by exact rfl)
            · intro e1 w1 hb hp hun
              refine Ops.idx (hcut.later hb).2 rfl rfl rfl (by omega) (by omega) ?_
              refine Ops.nil ?_
              exact After.dn (Below.refl _ _) (by exact rfl)
            · intro e1 w1 hb hp hun
              refine Ops.ld_sl (hcut.later hb) rfl (by omega) rfl rfl ?_
              refine Ops.nil ?_
              exact After.dn (Below.refl _ _) (by exact rfl)
            · intro e1 w1 hb hp hun
              refine Ops.mv_sl rfl rfl rfl ?_
              refine Ops.nil ?_
              exact After.dn (Below.refl _ _) (by exact rfl)
            · intro e1 w1 hb hp hun
              refine Ops.mv_int rfl rfl rfl ?_
              refine Ops.nil ?_
              exact After.dn (Below.refl _ _) (by exact rfl)
            · intro e1 w1 hb hp hun
              refine Ops.sub rfl rfl rfl (by omega) ?_
              refine Ops.nil ?_
              exact After.dn (Below.refl _ _) (by exact rfl)
            · intro e1 w1 hb hp hun
              refine Ops.idx (hcut.later hb).2 rfl rfl rfl (by omega) (by omega) ?_
              refine Ops.nil ?_
              exact After.dn (Below.refl _ _) (by exact rfl)
            · intro e1 w1 hb hp hun
              refine Ops.ld_sl (hcut.later hb) rfl (by omega) rfl rfl ?_
              refine Ops.nil ?_
              exact After.dn (Below.refl _ _) (by exact rfl)
            · intro e1 w1 hb hp hun
              refine Ops.call (Equal_c _ _ _ (xs (k + b)) _ _ _ (xs (k + b - 1)) _ (hra.later hb) (hrb.later hb) hca) rfl rfl rfl ?_
              rintro _ w2 ⟨rfl, hst⟩
              refine Ops.nil ?_
              exact After.dn hst.below (by exact rfl)
            · intro e1 w1 hb hp hun
              refine Ops.not_p rfl rfl ?_
              refine Ops.nil ?_
              exact After.dn (Below.refl _ _) (by exact congrArg Value.bool (decide_eq_true h8))
            intro u w4 hb _
            have hS4 := hS3.later hb
            have hR4 := hS4.rdR i (get _)
            have hcut4 := hR4.drop (l := k) (by omega) h2
            rw [if_pos (.inr h8)] at hsuc
            refine thenQ_n ?_
            refine Cd.cond_t rfl ?_
            refine Cd.seq ?_
            refine Cd.region ?_
            refine Ops.mv_sl rfl rfl rfl ?_
            refine Ops.mv_int rfl rfl rfl ?_
            refine Ops.mv_sl rfl rfl rfl ?_
            refine Ops.mv_int rfl rfl rfl ?_
            refine Ops.idx hcut4.2 rfl rfl rfl (by omega) (by omega) ?_
            refine Ops.ld_sl hcut4 rfl (by omega) rfl rfl ?_
            rw [hg b (by omega) (by omega)]
            refine Ops.idx hR4.2 rfl rfl rfl (by omega) (by omega) ?_
            refine Ops.st_sl i hS4 (get _) rfl rfl (by omega) ?_
            intro w5 hS5
            have hS5 : St w0 w5 (ks.set i (CkR t A n c ((q.set a (k + b)).map (sv ss)))) := by
              rw [List.set_set] at hS5
              rw [List.map_set]
              exact hS5
            refine Ops.nil ?_
            refine thenQ_n ?_
            refine Cd.region ?_
            refine Ops.mv_int rfl rfl rfl ?_
            refine Ops.add rfl rfl rfl (by omega) ?_
            refine Ops.mv_int rfl rfl rfl ?_
            refine Ops.nil ?_
            refine blockQ_n ?_
            refine thenQ_n ?_
            refine Cd.region ?_
            refine Ops.mv_int rfl rfl rfl ?_
            refine Ops.add rfl rfl rfl (by omega) ?_
            refine Ops.mv_int rfl rfl rfl ?_
            refine Ops.nil ?_
            refine thenQ_n ?_
            refine ⟨(a + 1, b + 1, q.set a (k + b)), by show n - k - (b + 1) < n - k - b; omega, ⟨rfl, rfl, rfl, rfl, rfl, trivial⟩, by show 1 ≤ b + 1; omega, by show b + 1 ≤ n - k; omega, by show a + 1 < k + (b + 1); omega, by show (q.set a _).length = n; rw [List.length_set]; exact hql, ?_, by show a + 1 = (kepC xs (k + b + 1)).length; rw [hsuc, List.length_append, ← hal]; rfl, ?_, ?_, hS5⟩
            · show ∀ j ∈ q.set a (k + b), j < n
              intro j hj
              rcases List.mem_or_eq_of_mem_set hj with h | h
              · exact hqm j h
              · omega
            · show (q.set a (k + b)).take (a + 1) = kepC xs (k + b + 1)
              rw [hsuc, ← hqt, List.take_succ_eq_append_getElem (by rw [List.length_set]; omega), List.take_set_of_le (Nat.le_refl _), List.getElem_set_self]
            · show ∀ m, a + 1 ≤ m → m < n → (q.set a (k + b))[m]? = some m
              intro m hm hm'
              rw [List.getElem?_set, if_neg (by omega)]
              exact hqr m (by omega) hm'
        · have hbe : k + b = n := by omega
          rw [hbe] at hal hqt
          have hle := kepC_len xs n
          have han : a < n := by omega
          refine Cd.exit ?_
          refine thenQ_x ?_
          refine thenQ_x ?_
          refine blockQ_x ?_
          refine thenQ_n ?_
          refine Cd.seq ?_
          refine Cd.region ?_
          refine Ops.mv_sl rfl rfl rfl ?_
          refine Ops.mv_int rfl rfl rfl ?_
          refine Ops.cut_l (A := A) (n := n) (c := c) (l := (a : Int)) rfl rfl rfl (by omega) ?_
          skip
          refine Ops.clr i a hS3 (get _) (show a < n by omega) (by show n - _ = n - a; omega) rfl rfl rfl ?_
          intro w4 hS4
          rw [List.set_set] at hS4
          refine Ops.nil ?_
          refine thenQ_n ?_
          refine Cd.seq ?_
          refine Cd.region ?_
          refine Ops.mv_sl rfl rfl rfl ?_
          refine Ops.mv_int rfl rfl rfl ?_
          refine Ops.cut_h (A := A) (n := n) (c := c) (h := (a : Int)) rfl rfl rfl (by omega) ?_
          refine Ops.mv_sl rfl rfl rfl ?_
          refine Ops.nil ?_
          refine thenQ_n ?_
          refine Cd.ret ?_
          refine blockQ_r ?_
          refine thenQ_r ?_
          refine thenQ_r ?_
          refine blockQ_r ?_
          refine thenQ_r ?_
          refine ret1_s rfl ?_
          rw [← hal]
          refine ⟨rfl, ?_⟩
          have e9 : ({ CkR t A n c (q.map (sv ss)) with n := a, vs := (CkR t A n c (q.map (sv ss))).vs.take a } : Ck) = CkR t A a c ((kepC xs n).map (sv ss)) := by
            rw [← hqt]
            simp [CkR, List.map_take]
          rw [← e9]
          exact hS4
      · refine Cd.draw [.ex (.func (.func 142) #[] #[]), .ex (.slice (A) (n) (c)), .ex (.int .i64 ((k : Int))), .ex (.pointer (ptrAt (A) ((k : Int)).toNat)), .ex (.slice ((rg (ss) ((k : Int))).a) ((rg (ss) ((k : Int))).n) ((rg (ss) ((k : Int))).c)), .ex (.slice (A) (n) (c)), .ex (.int .i64 ((k : Int))), .ex (.int .i64 (((k : Int)) - ((1 : Int)))), .ex (.pointer (ptrAt (A) (((k : Int)) - ((1 : Int))).toNat)), .ex (.slice ((rg (ss) (((k : Int)) - ((1 : Int)))).a) ((rg (ss) (((k : Int)) - ((1 : Int)))).n) ((rg (ss) (((k : Int)) - ((1 : Int)))).c)), .ex (.bool (false))] (by kernel_rfl) (by kernel_rfl) rfl (List.forall_mem_cons.2 ⟨Yd.lasts_ex _, (List.forall_mem_cons.2 ⟨Yd.lasts_ex _, (List.forall_mem_cons.2 ⟨Yd.lasts_ex _, (List.forall_mem_cons.2 ⟨Yd.lasts_ex _, (List.forall_mem_cons.2 ⟨Yd.lasts_ex _, (List.forall_mem_cons.2 ⟨Yd.lasts_ex _, (List.forall_mem_cons.2 ⟨Yd.lasts_ex _, (List.forall_mem_cons.2 ⟨Yd.lasts_ex _, (List.forall_mem_cons.2 ⟨Yd.lasts_ex _, (List.forall_mem_cons.2 ⟨Yd.lasts_ex _, (List.forall_mem_cons.2 ⟨Yd.lasts_ex _, (fun _ h => by cases h)⟩)⟩)⟩)⟩)⟩)⟩)⟩)⟩)⟩)⟩)⟩) ⟨?_, ?_, ?_, ?_, ?_, ?_, ?_, ?_, ?_, ?_, ?_, trivial⟩ ?_
        · intro e1 w1 hb hp hun
          refine Ops.mv_fn rfl rfl rfl ?_
          refine Ops.nil ?_
          exact After.dn (Below.refl _ _) (by exact rfl)
        · intro e1 w1 hb hp hun
          refine Ops.mv_sl rfl rfl rfl ?_
          refine Ops.nil ?_
          exact After.dn (Below.refl _ _) (by exact rfl)
        · intro e1 w1 hb hp hun
          refine Ops.mv_int rfl rfl rfl ?_
          refine Ops.nil ?_
          exact After.dn (Below.refl _ _) (by exact rfl)
        · intro e1 w1 hb hp hun
          refine Ops.idx (hR1.later hb).2 rfl rfl rfl (by omega) (by omega) ?_
          refine Ops.nil ?_
          exact After.dn (Below.refl _ _) (by exact rfl)
        · intro e1 w1 hb hp hun
          refine Ops.ld_sl (hR1.later hb) rfl (by omega) rfl rfl ?_
          refine Ops.nil ?_
          exact After.dn (Below.refl _ _) (by exact rfl)
        · intro e1 w1 hb hp hun
          refine Ops.mv_sl rfl rfl rfl ?_
          refine Ops.nil ?_
          exact After.dn (Below.refl _ _) (by exact rfl)
        · intro e1 w1 hb hp hun
          refine Ops.mv_int rfl rfl rfl ?_
          refine Ops.nil ?_
          exact After.dn (Below.refl _ _) (by exact rfl)
        · intro e1 w1 hb hp hun
          refine Ops.sub rfl rfl rfl (by omega) ?_
          refine Ops.nil ?_
          exact After.dn (Below.refl _ _) (by exact rfl)
        · intro e1 w1 hb hp hun
          refine Ops.idx (hR1.later hb).2 rfl rfl rfl (by omega) (by omega) ?_
          refine Ops.nil ?_
          exact After.dn (Below.refl _ _) (by exact rfl)
        · intro e1 w1 hb hp hun
          refine Ops.ld_sl (hR1.later hb) rfl (by omega) rfl rfl ?_
          refine Ops.nil ?_
          exact After.dn (Below.refl _ _) (by exact rfl)
        · intro e1 w1 hb hp hun
          refine Ops.call (Equal_c _ _ _ (xs k) _ _ _ (xs (k - 1)) _ (hra.later hb) (hrb.later hb) hca) rfl rfl rfl ?_
          rintro _ w2 ⟨rfl, hst⟩
          refine Ops.nil ?_
          exact After.dn hst.below (by exact congrArg Value.bool (decide_eq_false h6))
        intro u w2 hb _
        refine thenQ_n ?_
        refine Cd.cond_f rfl ?_
        refine Cd.skip ?_
        refine blockQ_n ?_
        refine thenQ_n ?_
        refine Cd.region ?_
        refine Ops.mv_int rfl rfl rfl ?_
        refine Ops.add rfl rfl rfl (by omega) ?_
        refine Ops.mv_int rfl rfl rfl ?_
        refine Ops.nil ?_
        refine thenQ_n ?_
        refine ⟨k + 1, by show n - (k + 1) < n - k; omega, ⟨rfl, rfl, rfl, trivial⟩, by omega, by omega, fun j hj => ?_, hS1.later hb⟩
        by_cases e : j = k
        · subst e; exact .inr h6
        · exact hne j (by omega)
    · have hall : kepC xs n = List.range n := kepC_all fun j hj => hne j (by omega)
      refine Cd.exit ?_
      refine thenQ_x ?_
      refine thenQ_x ?_
      refine blockQ_x ?_
      refine thenQ_n ?_
      refine Cd.seq ?_
      refine Cd.region ?_
      refine Ops.mv_sl rfl rfl rfl ?_
      refine Ops.mv_sl rfl rfl rfl ?_
      refine Ops.nil ?_
      refine thenQ_n ?_
      refine Cd.ret ?_
      refine ret1_s rfl ?_
      rw [hall, List.length_range, hid]
      exact ⟨rfl, hS1⟩
end Go.Proofs.YtdedegbendjmbaaGreatDoor.Vc
/-
  The faces with so many elements of a complex, walked in the program. Conditions: as each states them.
-/
namespace Go.Proofs.YtdedegbendjmbaaGreatDoor.Vc
open Go.RowKit

/-! those that are kept of an ascending row -/
theorem kepC_mem_lt {xs : Nat → List Int} {n a : Nat} (h : a ∈ kepC xs n) : a < n := by
  unfold kepC at h
  exact List.mem_range.1 (List.mem_filter.1 h).1
theorem kepC_nodup (xs : Nat → List Int) (n : Nat) : (kepC xs n).Nodup := List.nodup_range.filter _
theorem kepC_SL {xs : Nat → List Int} : ∀ {n : Nat}, (∀ a b, a < b → b < n → ¬ LT (xs b) (xs a)) → SL ((kepC xs n).map xs) ∧ ∀ x, x ∈ (kepC xs n).map xs ↔ ∃ a, a < n ∧ xs a = x
  | 0, _ => ⟨by simp [kepC, SL], fun x => by simp [kepC]⟩
  | n + 1, h => by
    obtain ⟨ih1, ih2⟩ := kepC_SL (xs := xs) (n := n) fun a b h1 h2 => h a b h1 (by omega)
    rw [kepC_succ, List.map_append]
    by_cases e : n = 0 ∨ xs n ≠ xs (n - 1)
    · rw [if_pos e]
      constructor
      · unfold SL
        rw [List.pairwise_append]
        refine ⟨ih1, by simp, fun a ha b hb => ?_⟩
        obtain rfl : b = xs n := by simpa using hb
        obtain ⟨i, hi, rfl⟩ := (ih2 a).1 ha
        rcases e with e | e
        · omega
        · have h1 : LT (xs (n - 1)) (xs n) := LT.tri (h (n - 1) n (by omega) (by omega)) e
          by_cases e2 : i = n - 1
          · rw [e2]; exact h1
          · by_cases e3 : xs i = xs (n - 1)
            · rw [e3]; exact h1
            · exact (LT.tri (h i (n - 1) (by omega) (by omega)) (Ne.symm e3)).trans h1
      · intro x
        rw [List.mem_append, ih2]
        constructor
        · rintro (⟨a, h1, h2⟩ | h1)
          · exact ⟨a, by omega, h2⟩
          · exact ⟨n, by omega, by simpa using (show x = xs n by simpa using h1).symm⟩
        · rintro ⟨a, h1, h2⟩
          by_cases e2 : a = n
          · subst e2; exact .inr (by simp [h2])
          · exact .inl ⟨a, by omega, h2⟩
    · rw [if_neg e]
      have e1 : n ≠ 0 := fun h => e (.inl h)
      have e2 : xs n = xs (n - 1) := Classical.byContradiction fun h => e (.inr h)
      refine ⟨by simpa using ih1, fun x => ?_⟩
      rw [List.map_nil, List.append_nil, ih2]
      constructor
      · rintro ⟨a, h1, h2⟩; exact ⟨a, by omega, h2⟩
      · rintro ⟨a, h1, h2⟩
        by_cases e3 : a = n
        · subst e3; exact ⟨a - 1, by omega, by rw [← e2]; exact h2⟩
        · exact ⟨a, by omega, h2⟩
theorem St.rowAt {w0 w : World} {p : Ck} {t2 : TypeId} {rs : List SlV} {L : List (List Int)} (h : St w0 w (p :: rowsCk t2 rs L)) (hl : rs.length = L.length) {a : Nat} (ha : a < L.length) : RdI w (sv rs a).a (sv rs a).n (L.getD a []) :=
  h.rdI (a + 1) (by rw [List.getElem?_cons_succ]; exact rowsCk_get hl (by omega))
/-- a row of lists in order, each once -/
theorem sortOnce {L : List (List Int)} {q : List Nat} (hq : q.Perm (List.range L.length)) (hs : q.Pairwise fun a b => ¬ LT (L.getD b []) (L.getD a [])) (k : Nat) {F : List (List Int)} (hL : ∀ x, x ∈ L ↔ x ∈ faL F k) :
    let xs := fun a => L.getD (q.getD a 0) []
    let q2 := (kepC xs L.length).map fun a => q.getD a 0
    q2.map (fun i => L.getD i []) = fcs F k ∧ q2.Nodup ∧ (∀ i ∈ q2, i < L.length) ∧ (kepC xs L.length).length = (fcs F k).length := by
  intro xs q2
  have hql : q.length = L.length := by rw [hq.length_eq, List.length_range]
  have hqn : q.Nodup := hq.nodup_iff.2 List.nodup_range
  have hqg : ∀ a (h : a < L.length), q.getD a 0 = q[a] := fun a h => by simp [List.getD_eq_getElem?_getD, show a < q.length by omega]
  have hqm : ∀ a, a < L.length → q.getD a 0 < L.length := fun a h => List.mem_range.1 (hq.mem_iff.1 (by rw [hqg a h]; exact List.getElem_mem _))
  obtain ⟨h1, h2⟩ := kepC_SL (xs := xs) (n := L.length) fun a b hab hb => by
    show ¬ LT (L.getD (q.getD b 0) []) (L.getD (q.getD a 0) [])
    rw [hqg a (by omega), hqg b hb]
    exact List.pairwise_iff_getElem.1 hs a b (by omega) (by omega) hab
  have e : q2.map (fun i => L.getD i []) = (kepC xs L.length).map xs := by simp [q2, xs]
  have e2 : (kepC xs L.length).map xs = fcs F k := fcs_of h1 fun x => by
    rw [h2, ← hL]
    constructor
    · rintro ⟨a, ha, rfl⟩
      show L.getD _ [] ∈ L
      rw [List.getD_eq_getElem?_getD, List.getElem?_eq_getElem (hqm a ha)]
      exact List.getElem_mem _
    · intro hx
      obtain ⟨i, hi, rfl⟩ := List.mem_iff_getElem.1 hx
      obtain ⟨a, ha, e⟩ := List.mem_iff_getElem.1 (hq.mem_iff.2 (List.mem_range.2 hi))
      refine ⟨a, by omega, ?_⟩
      show L.getD (q.getD a 0) [] = _
      rw [hqg a (by omega), e]
      simp [List.getD_eq_getElem?_getD, hi]
  refine ⟨e.trans e2, ?_, fun i hi => ?_, by rw [← e2, List.length_map]⟩
  · refine List.Pairwise.map _ ?_ ((kepC_nodup xs L.length).imp_of_mem (S := fun a b => q.getD a 0 ≠ q.getD b 0) ?_)
    · exact fun a b h => h
    · intro a b ha hb hab
      have ha := kepC_mem_lt ha
      have hb := kepC_mem_lt hb
      rw [hqg a ha, hqg b hb]
      exact fun h => hab ((List.getElem_inj hqn).1 h)
  · obtain ⟨a, ha, rfl⟩ := List.mem_map.1 hi
    exact hqm a (kepC_mem_lt ha)

/-- parts of the first lists -/
def faG (F : List (List Int)) (k i : Nat) : List (List Int) := if k = 0 then [[]] else (F.take i).flatMap fun f => ptsP f k
theorem faG_all (F : List (List Int)) (k : Nat) : faG F k F.length = faL F k := by unfold faG faL; rw [List.take_length]
theorem faG_zero (F : List (List Int)) (k : Nat) : faG F k 0 = if k = 0 then [[]] else [] := by unfold faG; split <;> rfl
theorem faG_succ {F : List (List Int)} {k i : Nat} (h : i < F.length) : faG F k (i + 1) = if 0 < k ∧ k ≤ (gl F (i : Int)).length then faG F k i ++ ptsP (gl F (i : Int)) k else faG F k i := by
  unfold faG
  by_cases e : k = 0
  · simp [e]
  · rw [if_neg e, if_neg e, take_succ_gl h, List.flatMap_append]
    by_cases e2 : k ≤ (gl F (i : Int)).length
    · rw [if_pos ⟨by omega, e2⟩]; simp
    · rw [if_neg (fun h => e2 h.2)]
      have := ptsP_short (l := gl F (i : Int)) (k := k) (by omega)
      simp [this]
theorem faG_num {F : List (List Int)} (k i : Nat) (h6 : ∀ f ∈ F, f.length ≤ 6) : (faG F k i).length ≤ 64 * F.length + 1 := by
  have h := faL_num (F := F.take i) k fun f hf => h6 f (List.mem_of_mem_take hf)
  have e : faG F k i = faL (F.take i) k := rfl
  rw [e]
  have : (F.take i).length ≤ F.length := by simp; omega
  omega

theorem facesWith_c (Pc : Option Addr) (V : Int) (A : Option Addr) (n c : Nat) (rs : List SlV) (F : List (List Int)) (k : Nat) (w : World) (hP : Rd w Pc 2 (fun j => [Value.int .i64 V, .slice A n c].getD j undef)) (hR : RowsI w A n rs F) (hn : n ≤ 1000) (h6 : ∀ f ∈ F, f.length ≤ 6) (hk : k ≤ 7) :
    Ret Tryz.prog 93 [.pointer Pc, .int .i64 (k : Int)] w (fun v w' => ∃ A' c' rs', v = .slice A' (fcs F k).length c' ∧ rs'.length = (fcs F k).length ∧ St w w' (mat 25 2 A' (fcs F k).length c' rs' (fcs F k) ++ [])) := by
  have hFl := hR.len
  have hz := faG_zero F k
  refine Ret.of_cd Tryz.func93 rfl Tryz.ntmps93 rfl (post1 rfl) ?_
  refine Cd.seq ?_
  refine Cd.region ?_
  refine Ops.mv_sl rfl rfl rfl ?_
  refine Ops.nil ?_
  refine thenQ_n ?_
  refine Cd.seq ?_
  refine Cd.region ?_
  refine Ops.bs0 (St.refl w) rfl ?_
  intro A1 w1 hS1
  have hS1 : St w w1 [CkR 25 A1 0 0 []] := hS1
  refine Ops.mv_sl rfl rfl rfl ?_
  refine Ops.nil ?_
  refine thenQ_n ?_
  refine Cd.join (α := Option Addr × Nat × List SlV) (fun z => [(0, .pointer Pc), (1, .int .i64 (k : Int)), (5, .slice z.1 (faG F k 0).length z.2.1)]) (fun z w' => z.2.2.length = (faG F k 0).length ∧ St w w' (mat 25 2 z.1 (faG F k 0).length z.2.1 z.2.2 (faG F k 0))) ?_ ?_
  · refine Cd.seq ?_
    refine Cd.region ?_
    refine Ops.mv_int rfl rfl rfl ?_
    refine Ops.eql rfl rfl rfl ?_
    refine Ops.nil ?_
    refine thenQ_n ?_
    refine Cd.cond_p _ rfl (fun h1 => ?_) (fun h1 => ?_)
    · rw [if_pos (by omega)] at hz
      rw [hz]
      refine Cd.region ?_
      refine Ops.mv_sl rfl rfl rfl ?_
      refine Ops.bs1R hS1 rfl rfl rfl ?_
      intro A2 w2 hS2
      refine Ops.appR 1 hS2 rfl (hS2.rdR 0 rfl) rfl rfl rfl (by omega) (by omega) rfl ?_
      intro A3 c3 w3 hS3
      have hS3 : St w w3 [CkR 25 A3 (0 + 1) c3 ([] ++ [slNil])] := hS3.tail
      refine Ops.mv_sl rfl rfl rfl ?_
      refine Ops.nil ?_
      refine thenQ_n ?_
      exact ⟨(A3, c3, [slNil]), ⟨rfl, rfl, rfl, trivial⟩, rfl, (List.append_nil (mat 25 2 A3 1 c3 [slNil] [[]])) ▸ nilRows 1 hS3⟩
    · rw [if_neg (by omega)] at hz
      rw [hz]
      refine Cd.skip ?_
      refine thenQ_n ?_
      exact ⟨(A1, 0, []), ⟨rfl, rfl, rfl, trivial⟩, rfl, hS1⟩
  rintro ⟨A5, c5, rs5⟩ e w2 ⟨hrl5, hS2⟩
  dsimp only at hrl5 hS2 ⊢
  clear hS1
  refine Cd.seq ?_
  refine Cd.seq ?_
  refine Cd.region ?_
  refine Ops.mv_ptr rfl rfl rfl ?_
  refine Ops.nilp (hS2.old hP) (by omega) rfl rfl ?_
  skip
  refine Ops.fld (hS2.old hP) rfl rfl rfl rfl inferInstance ?_
  skip
  refine Ops.ldf_s (hS2.old hP) rfl rfl rfl rfl rfl ?_
  refine Ops.len rfl rfl ?_
  refine Ops.mv_int rfl rfl rfl ?_
  refine Ops.nil ?_
  refine thenQ_n ?_
  refine Cd.block ?_
  refine Cd.loop (α := Nat × Option Addr × Nat × List SlV) (fun z => [(1, .int .i64 (k : Int)), (5, .slice z.2.1 (faG F k z.1).length z.2.2.1), (17, .slice A n c), (18, .int .i64 (n : Int)), (19, .int .i64 (z.1 : Int))])
    (fun z w' => z.1 ≤ n ∧ z.2.2.2.length = (faG F k z.1).length ∧ St w w' (mat 25 2 z.2.1 (faG F k z.1).length z.2.2.1 z.2.2.2 (faG F k z.1))) (fun z => n - z.1) (0, A5, c5, rs5) ⟨rfl, rfl, rfl, rfl, rfl, trivial⟩ ⟨Nat.zero_le _, hrl5, hS2⟩ ?_
  clear hrl5 hS2 hz
  rintro ⟨i, A5, c5, rs5⟩ e w3 ⟨hi, hrl, hS3⟩
  dsimp only at hi hrl hS3 ⊢
  refine Cd.seq ?_
  refine Cd.region ?_
  refine Ops.lss rfl rfl rfl ?_
  refine Ops.nil ?_
  refine thenQ_n ?_
  refine Cd.seq ?_
  refine Cd.cond_p _ rfl (fun h3 => ?_) (fun h3 => ?_)
  · have hiF : i < F.length := by omega
    have hM := hS3.oldRows hR
    have hrow := hM.at_ (i := (i : Int)) (by omega) (by omega)
    have hcap := hM.cap_ (i := (i : Int)) (by omega) (by omega)
    have hrl0 := hrow.1
    have hsucc := faG_succ (k := k) hiF
    have hnum := faG_num (F := F) k i h6
    have hf6 := h6 (gl F (i : Int)) (by rw [gl_mem hiF]; exact List.getElem_mem _)
    have hpn := ptsP_small (l := gl F (i : Int)) k hf6
    refine Cd.skip ?_
    refine thenQ_n ?_
    refine Cd.seq ?_
    refine Cd.block ?_
    refine Cd.seq ?_
    refine Cd.region ?_
    refine Ops.idx hM.top.2 rfl rfl rfl (by omega) (by omega) ?_
    refine Ops.ld_sl hM.top rfl (by omega) rfl rfl ?_
    refine Ops.mv_sl rfl rfl rfl ?_
    refine Ops.nil ?_
    refine thenQ_n ?_
    refine Cd.seq ?_
    refine Cd.region ?_
    refine Ops.mv_int rfl rfl rfl ?_
    refine Ops.gtr rfl rfl rfl ?_
    refine Ops.mv_bool rfl rfl rfl ?_
    refine Ops.split_p 25 rfl (fun h4 => ?_) (fun h4 => ?_)
    · refine Ops.rung rfl rfl rfl ?_
      refine Ops.mv_int rfl rfl rfl ?_
      refine Ops.rung rfl rfl rfl ?_
      refine Ops.mv_sl rfl rfl rfl ?_
      refine Ops.rung rfl rfl rfl ?_
      refine Ops.call (sizeI_c _ _ _ _) rfl rfl rfl ?_
      rintro _ _ ⟨rfl, rfl⟩
      refine Ops.rung rfl rfl rfl ?_
      refine Ops.leq rfl rfl rfl ?_
      refine Ops.pick_t rfl rfl rfl ?_
      refine Ops.nil ?_
      refine thenQ_n ?_
      refine Cd.cond_p _ rfl (fun h5 => ?_) (fun h5 => ?_)
      · rw [if_pos ⟨by omega, by omega⟩] at hsucc
        refine Cd.region ?_
        refine Ops.mv_sl rfl rfl rfl ?_
        refine Ops.mv_sl rfl rfl rfl ?_
        refine Ops.mv_int rfl rfl rfl ?_
        refine Ops.call (partsOf_c k _ _ _ (gl F (i : Int)) _ hrow hcap.1 (by omega) hk) rfl rfl rfl ?_
        rintro _ w4 ⟨A6, c6, rs6, rfl, hrl6, hT⟩
        have hR6 : RdR w4 A6 (ptsP (gl F (i : Int)) k).length rs6 := hT.rdR 0 rfl
        have hS4 := hS3.call2 hT
        refine Ops.appR 0 hS4 rfl hR6 rfl rfl rfl (by omega) (by omega) rfl ?_
        intro A7 c7 w5 hS5
        have hS5 : St w w5 (CkR 25 A7 ((faG F k i).length + (ptsP (gl F (i : Int)) k).length) c7 (rs5 ++ rs6) :: (rowsCk 2 rs5 (faG F k i) ++ (CkR 25 A6 (ptsP (gl F (i : Int)) k).length c6 rs6 :: (rowsCk 2 rs6 (ptsP (gl F (i : Int)) k) ++ [])))) := hS5
        have hS6 : St w w5 (mat 25 2 A7 (faG F k (i + 1)).length c7 (rs5 ++ rs6) (faG F k (i + 1))) := by
          rw [hsucc, List.length_append]
          unfold mat
          rw [rowsCk_append hrl]
          refine hS5.sub (List.Sublist.cons_cons _ ((List.Sublist.refl _).append ?_))
          rw [List.append_nil]
          exact List.sublist_cons_self _ _
        refine Ops.mv_sl rfl rfl rfl ?_
        refine Ops.nil ?_
        refine blockQ_n ?_
        refine thenQ_n ?_
        refine Cd.region ?_
        refine Ops.add rfl rfl rfl (by omega) ?_
        refine Ops.mv_int rfl rfl rfl ?_
        refine Ops.nil ?_
        refine thenQ_n ?_
        exact ⟨(i + 1, A7, c7, rs5 ++ rs6), by show n - (i + 1) < n - i; omega, ⟨rfl, by show Value.slice A7 ((faG F k i).length + (ptsP (gl F (i : Int)) k).length) c7 = .slice A7 (faG F k (i + 1)).length c7; rw [hsucc, List.length_append], rfl, rfl, rfl, trivial⟩, by show i + 1 ≤ n; omega, by show (rs5 ++ rs6).length = _; rw [hsucc, List.length_append, List.length_append, hrl, hrl6], hS6⟩
      · rw [if_neg (by omega)] at hsucc
        rw [← hsucc] at hrl hS3 ⊢
        refine Cd.skip ?_
        refine blockQ_n ?_
        refine thenQ_n ?_
        refine Cd.region ?_
        refine Ops.add rfl rfl rfl (by omega) ?_
        refine Ops.mv_int rfl rfl rfl ?_
        refine Ops.nil ?_
        refine thenQ_n ?_
        exact ⟨(i + 1, A5, c5, rs5), by show n - (i + 1) < n - i; omega, ⟨rfl, rfl, rfl, rfl, rfl, trivial⟩, by show i + 1 ≤ n; omega, hrl, hS3⟩
    · rw [if_neg (by omega)] at hsucc
      rw [← hsucc] at hrl hS3 ⊢
      refine Ops.skipg rfl rfl rfl rfl rfl ?_
      refine Ops.skipg rfl rfl rfl rfl rfl ?_
      refine Ops.skipg rfl rfl rfl rfl rfl ?_
      refine Ops.skipg rfl rfl rfl rfl rfl ?_
      refine Ops.pick_f rfl rfl rfl ?_
      refine Ops.nil ?_
      refine thenQ_n ?_
      refine Cd.cond_f rfl ?_
      refine Cd.skip ?_
      refine blockQ_n ?_
      refine thenQ_n ?_
      refine Cd.region ?_
      refine Ops.add rfl rfl rfl (by omega) ?_
      refine Ops.mv_int rfl rfl rfl ?_
      refine Ops.nil ?_
      refine thenQ_n ?_
      exact ⟨(i + 1, A5, c5, rs5), by show n - (i + 1) < n - i; omega, ⟨rfl, rfl, rfl, rfl, rfl, trivial⟩, by show i + 1 ≤ n; omega, hrl, hS3⟩
  · have hie : i = F.length := by omega
    rw [hie, faG_all] at hrl hS3 ⊢
    have hnum := faL_num (F := F) k h6
    have hLm : ∀ a, a < (faL F k).length → ((faL F k).getD a []).length ≤ 6 := fun a ha => by
      have hm : (faL F k).getD a [] ∈ faL F k := by
        rw [List.getD_eq_getElem?_getD, List.getElem?_eq_getElem ha]; exact List.getElem_mem _
      rcases faL_mem.1 hm with ⟨_, h⟩ | ⟨_, f, hf, h, _⟩
      · rw [h]; simp
      · have := h.length_le
        have := h6 f hf
        omega
    generalize hLe : faL F k = L at *
    have hcapL : ∀ a, a < L.length → (sv rs5 a).n ≤ 9223372036854775807 := fun a ha => by
      have h := (St.rowAt hS3 hrl ha).1
      have := hLm a ha
      omega
    refine Cd.exit ?_
    refine thenQ_x ?_
    refine thenQ_x ?_
    refine blockQ_x ?_
    refine thenQ_n ?_
    refine Cd.seq ?_
    refine Cd.region ?_
    refine Ops.mv_sl rfl rfl rfl ?_
    refine Ops.call (sortL_c 0 hS3 rfl (by omega) (fun a => L.getD a []) hcapL (fun w' q hq1 hq2 h a ha => St.rowAt (p := CkR 25 A5 L.length c5 (q.map (sv rs5))) h hrl ha)) rfl rfl rfl ?_
    rintro _ w4 ⟨rfl, q, hq, hqs, hS4⟩
    have hS4 : St w w4 (CkR 25 A5 L.length c5 (q.map (sv rs5)) :: rowsCk 2 rs5 L) := hS4
    have hql : q.length = L.length := by rw [hq.length_eq, List.length_range]
    have hqm : ∀ a, a < L.length → q.getD a 0 < L.length := fun a h => List.mem_range.1 (hq.mem_iff.1 (by
      rw [List.getD_eq_getElem?_getD, List.getElem?_eq_getElem (show a < q.length by omega)]; exact List.getElem_mem _))
    have hsv : ∀ a, a < L.length → sv (q.map (sv rs5)) a = sv rs5 (q.getD a 0) := fun a h => by
      show (q.map (sv rs5)).getD a slNil = _
      simp only [List.getD_eq_getElem?_getD, List.getElem?_map, List.getElem?_eq_getElem (show a < q.length by omega), Option.map_some, Option.getD_some]
    obtain ⟨e1, e2, e3, e4⟩ := sortOnce hq hqs k (F := F) (fun x => by rw [hLe])
    refine Ops.nil ?_
    refine thenQ_n ?_
    refine Cd.seq ?_
    refine Cd.region ?_
    refine Ops.mv_sl rfl rfl rfl ?_
    refine Ops.call (compactF_c 0 hS4 rfl (by omega) (fun a => L.getD (q.getD a 0) []) (fun a ha => by rw [hsv a ha]; exact hcapL _ (hqm a ha)) (fun w' q2 hq1 hq2 h a ha => by
      rw [hsv a ha]
      exact St.rowAt (p := CkR 25 A5 L.length c5 (q2.map (sv (q.map (sv rs5))))) h hrl (hqm a ha))) rfl rfl rfl ?_
    rintro _ w5 ⟨rfl, hS5⟩
    generalize hkp : kepC (fun a => L.getD (q.getD a 0) []) L.length = kp at *
    have hss : kp.map (sv (q.map (sv rs5))) = (kp.map fun a => q.getD a 0).map fun i => rs5.getD i slNil := by
      rw [List.map_map]
      exact List.map_congr_left fun a ha => by rw [← hkp] at ha; exact hsv a (kepC_mem_lt ha)
    have hS5 : St w w5 ([CkR 25 A5 kp.length c5 (kp.map (sv (q.map (sv rs5))))] ++ rowsCk 2 rs5 L) := hS5
    have hS6 := hS5.pick hrl e2 (fun i hi => by rw [hrl]; exact e3 i hi)
    rw [e1, hss, e4] at hS6
    refine Ops.mv_sl rfl rfl rfl ?_
    refine Ops.nil ?_
    refine thenQ_n ?_
    refine Cd.ret ?_
    refine ret1_s rfl ?_
    exact ⟨A5, c5, (kp.map fun a => q.getD a 0).map fun i => rs5.getD i slNil, by rw [e4], by rw [List.length_map, List.length_map]; exact e4, by rw [List.append_nil]; exact hS6⟩
end Go.Proofs.YtdedegbendjmbaaGreatDoor.Vc
/-
  Numbers of faces, vectors and characteristics of complexes, walked in the program. Conditions: as each states them.
-/
namespace Go.Proofs.YtdedegbendjmbaaGreatDoor.Vc
open Go.RowKit

theorem depth_c (Pc : Option Addr) (V : Int) (A : Option Addr) (n c : Nat) (rs : List SlV) (F : List (List Int)) (w : World) (hP : Rd w Pc 2 (fun j => [Value.int .i64 V, .slice A n c].getD j undef)) (hR : RowsI w A n rs F) (hn : n ≤ 1000) (h6 : ∀ f ∈ F, f.length ≤ 1000000) :
    Ret Tryz.prog 132 [.pointer Pc] w (fun v w' => v = .int .i64 (dpt F : Int) ∧ w' = w) := by
  have hFl := hR.len
  refine Ret.of_cd Tryz.func132 rfl Tryz.ntmps132 rfl (post1 rfl) ?_
  refine Cd.seq ?_
  refine Cd.region ?_
  refine Ops.mv_int rfl rfl rfl ?_
  refine Ops.nil ?_
  refine thenQ_n ?_
  refine Cd.seq ?_
  refine Cd.region ?_
  refine Ops.mv_int rfl rfl rfl ?_
  refine Ops.nil ?_
  refine thenQ_n ?_
  refine Cd.seq ?_
  refine Cd.seq ?_
  refine Cd.region ?_
  refine Ops.mv_ptr rfl rfl rfl ?_
  refine Ops.nilp hP (by omega) rfl rfl ?_
  skip
  refine Ops.fld hP rfl rfl rfl rfl inferInstance ?_
  skip
  refine Ops.ldf_s hP rfl rfl rfl rfl rfl ?_
  refine Ops.len rfl rfl ?_
  refine Ops.mv_int rfl rfl rfl ?_
  refine Ops.nil ?_
  refine thenQ_n ?_
  refine Cd.block ?_
  refine Cd.loop (α := Nat) (fun i => [(3, .int .i64 ((dpt (F.take i) : Nat) : Int)), (9, .slice A n c), (10, .int .i64 (n : Int)), (11, .int .i64 (i : Int))]) (fun i w' => w' = w ∧ i ≤ n) (fun i => n - i) 0 ⟨rfl, rfl, rfl, rfl, trivial⟩ ⟨rfl, Nat.zero_le _⟩ ?_
  rintro i e w ⟨rfl, hi⟩
  refine Cd.seq ?_
  refine Cd.region ?_
  refine Ops.lss rfl rfl rfl ?_
  refine Ops.nil ?_
  refine thenQ_n ?_
  refine Cd.seq ?_
  refine Cd.cond_p _ rfl (fun h3 => ?_) (fun h3 => ?_)
  · have hiF : i < F.length := by omega
    have hrow := hR.at_ (i := (i : Int)) (by omega) (by omega)
    have hrl0 := hrow.1
    refine Cd.skip ?_
    refine thenQ_n ?_
    refine Cd.seq ?_
    refine Cd.block ?_
    refine Cd.seq ?_
    refine Cd.region ?_
    refine Ops.idx hR.top.2 rfl rfl rfl (by omega) (by omega) ?_
    refine Ops.ld_sl hR.top rfl (by omega) rfl rfl ?_
    refine Ops.mv_sl rfl rfl rfl ?_
    refine Ops.nil ?_
    refine thenQ_n ?_
    refine Cd.region ?_
    refine Ops.mv_int rfl rfl rfl ?_
    refine Ops.mv_sl rfl rfl rfl ?_
    refine Ops.call (sizeI_c _ _ _ _) rfl rfl rfl ?_
    rintro _ _ ⟨rfl, rfl⟩
    refine Ops.maxI rfl rfl rfl ?_
    refine Ops.mv_int rfl rfl rfl ?_
    refine Ops.nil ?_
    refine blockQ_n ?_
    refine thenQ_n ?_
    refine Cd.region ?_
    refine Ops.add rfl rfl rfl (by omega) ?_
    refine Ops.mv_int rfl rfl rfl ?_
    refine Ops.nil ?_
    refine thenQ_n ?_
    exact ⟨i + 1, by show n - (i + 1) < n - i; omega, ⟨by show Value.int .i64 _ = .int .i64 _; rw [dpt_succ hiF]; congr 1; omega, rfl, rfl, rfl, trivial⟩, rfl, by omega⟩
  · refine Cd.exit ?_
    refine thenQ_x ?_
    refine thenQ_x ?_
    refine blockQ_x ?_
    refine thenQ_n ?_
    refine Cd.seq ?_
    refine Cd.region ?_
    refine Ops.mv_int rfl rfl rfl ?_
    refine Ops.mv_int rfl rfl rfl ?_
    refine Ops.nil ?_
    refine thenQ_n ?_
    refine Cd.ret ?_
    refine ret1_i rfl ?_
    have hin : i = F.length := by omega
    refine ⟨?_, rfl⟩
    rw [hin, List.take_length]

/-- the numbers of faces with fewer than so many elements -/
def fvG (F : List (List Int)) (k : Nat) : List Int := (List.range k).map fun j => ((fcs F j).length : Int)
theorem fvG_succ (F : List (List Int)) (k : Nat) : fvG F (k + 1) = fvG F k ++ [((fcs F k).length : Int)] := by simp [fvG, List.range_succ]
theorem fvP_bd {F : List (List Int)} (hn : F.length ≤ 400) (h6 : ∀ f ∈ F, f.length ≤ 6) : ∀ x ∈ fvP F, 0 ≤ x ∧ x ≤ 30000 := fun x hx => by
  obtain ⟨k, _, rfl⟩ := List.mem_map.1 hx
  have := fcs_num k h6
  omega

theorem fVector_c (Pc : Option Addr) (V : Int) (A : Option Addr) (n c : Nat) (rs : List SlV) (F : List (List Int)) (w : World) (hP : Rd w Pc 2 (fun j => [Value.int .i64 V, .slice A n c].getD j undef)) (hR : RowsI w A n rs F) (hn : n ≤ 1000) (h6 : ∀ f ∈ F, f.length ≤ 6) :
    Ret Tryz.prog 94 [.pointer Pc] w (fun v w' => ∃ A' c', v = .slice A' (dpt F + 1) c' ∧ St w w' [CkI 2 A' (dpt F + 1) c' (fvP F)]) := by
  have hd := dpt_bd h6
  refine Ret.of_cd Tryz.func94 rfl Tryz.ntmps94 rfl (post1 rfl) ?_
  refine Cd.seq ?_
  refine Cd.region ?_
  refine Ops.mv_sl rfl rfl rfl ?_
  refine Ops.nil ?_
  refine thenQ_n ?_
  refine Cd.seq ?_
  refine Cd.region ?_
  refine Ops.mv_sl rfl rfl rfl ?_
  refine Ops.nil ?_
  refine thenQ_n ?_
  refine Cd.seq ?_
  refine Cd.seq ?_
  refine Cd.region ?_
  refine Ops.mv_ptr rfl rfl rfl ?_
  refine Ops.call (depth_c Pc V A n c rs F w hP hR hn (fun f hf => by have := h6 f hf; omega)) rfl rfl rfl ?_
  rintro _ w ⟨rfl, rfl⟩
  refine Ops.add rfl rfl rfl (by omega) ?_
  refine Ops.mv_int rfl rfl rfl ?_
  refine Ops.nil ?_
  refine thenQ_n ?_
  refine Cd.block ?_
  refine Cd.loop (α := Nat × Option Addr × Nat) (fun z => [(0, .pointer Pc), (3, .slice z.2.1 z.1 z.2.2), (7, .int .i64 ((dpt F : Int) + 1)), (8, .int .i64 (z.1 : Int))]) (fun z w' => z.1 ≤ dpt F + 1 ∧ St w w' [CkI 2 z.2.1 z.1 z.2.2 (fvG F z.1)]) (fun z => dpt F + 1 - z.1) (0, none, 0) ⟨rfl, rfl, rfl, rfl, trivial⟩ ⟨Nat.zero_le _, (St.refl w).nil _⟩ ?_
  rintro ⟨k, A3, c3⟩ e w1 ⟨hk, hS⟩
  dsimp only at hk hS ⊢
  refine Cd.seq ?_
  refine Cd.region ?_
  refine Ops.lss rfl rfl rfl ?_
  refine Ops.nil ?_
  refine thenQ_n ?_
  refine Cd.seq ?_
  refine Cd.cond_p _ rfl (fun h1 => ?_) (fun h1 => ?_)
  · refine Cd.skip ?_
    refine thenQ_n ?_
    refine Cd.seq ?_
    refine Cd.block ?_
    refine Cd.seq ?_
    refine Cd.region ?_
    refine Ops.mv_int rfl rfl rfl ?_
    refine Ops.mv_int rfl rfl rfl ?_
    refine Ops.nil ?_
    refine thenQ_n ?_
    refine Cd.region ?_
    refine Ops.mv_sl rfl rfl rfl ?_
    refine Ops.mv_ptr rfl rfl rfl ?_
    refine Ops.mv_int rfl rfl rfl ?_
    refine Ops.call (facesWith_c Pc V A n c rs F k _ (hS.old hP) (hS.oldRows hR) hn h6 (by omega)) rfl rfl rfl ?_
    rintro _ w2 ⟨A4, c4, rs4, rfl, _, hT⟩
    have hS2 : St w w2 [CkI 2 A3 k c3 (fvG F k)] := hS.later hT.below
    have hnum := fcs_num (F := F) k h6
    refine Ops.call (sizeR_c _ _ _ _) rfl rfl rfl ?_
    rintro _ _ ⟨rfl, rfl⟩
    refine Ops.bs1I hS2 rfl rfl rfl ?_
    intro A5 w3 hS3
    refine Ops.appI 1 hS3 rfl (hS3.rdI 0 rfl) rfl rfl rfl (by omega) (by omega) rfl ?_
    intro A6 c6 w4 hS4
    have hS4 : St w w4 [CkI 2 A6 (k + 1) c6 (fvG F (k + 1))] := by rw [fvG_succ]; exact hS4.tail
    refine Ops.mv_sl rfl rfl rfl ?_
    refine Ops.nil ?_
    refine blockQ_n ?_
    refine thenQ_n ?_
    refine Cd.region ?_
    refine Ops.add rfl rfl rfl (by omega) ?_
    refine Ops.mv_int rfl rfl rfl ?_
    refine Ops.nil ?_
    refine thenQ_n ?_
    exact ⟨(k + 1, A6, c6), by show dpt F + 1 - (k + 1) < dpt F + 1 - k; omega, ⟨rfl, rfl, rfl, rfl, trivial⟩, by show k + 1 ≤ dpt F + 1; omega, hS4⟩
  · have hke : k = dpt F + 1 := by omega
    subst hke
    refine Cd.exit ?_
    refine thenQ_x ?_
    refine thenQ_x ?_
    refine blockQ_x ?_
    refine thenQ_n ?_
    refine Cd.seq ?_
    refine Cd.region ?_
    refine Ops.mv_sl rfl rfl rfl ?_
    refine Ops.mv_sl rfl rfl rfl ?_
    refine Ops.nil ?_
    refine thenQ_n ?_
    refine Cd.ret ?_
    refine ret1_s rfl ?_
    exact ⟨A3, c3, rfl, hS⟩

theorem FVector_c (V : Int) (A : Option Addr) (n c : Nat) (rs : List SlV) (F : List (List Int)) (w : World) (hT : Tab w) (hR : RowsI w A n rs F) (hC : Cplx V F) :
    Ret Tryz.prog 35 [.agg #[.int .i64 V, .slice A n c]] w (AnsR (fvP F) 0 w) := by
  have hFl := hR.len
  have hF4 := hC.f
  refine Ret.of_cd Tryz.func35 rfl Tryz.ntmps35 rfl (post2 rfl) ?_
  refine Cd.seq ?_
  refine Cd.region ?_
  refine Ops.box2 (St.refl w) rfl rfl ?_
  intro Ab w1 hS1
  refine Ops.mv_sl rfl rfl rfl ?_
  refine Ops.mv_int rfl rfl rfl ?_
  refine Ops.nil ?_
  refine thenQ_n ?_
  refine Cd.seq ?_
  refine Cd.seq ?_
  refine Cd.region ?_
  refine Ops.ld_agg 1 (hS1.rd 0 rfl) rfl rfl rfl ?_
  refine Ops.call (isComplex_c V A n c rs F _ (hT.later hS1.below) (hS1.oldRows hR) (by omega)) rfl rfl rfl ?_
  rintro _ w2 ⟨rfl, hst⟩
  have hS2 := hS1.later hst.below
  first | refine Ops.not_p rfl rfl ?_ | refine Ops.not rfl rfl ?_
  refine Ops.nil ?_
  refine thenQ_n ?_
  refine Cd.cond_pf rfl (fun h => h hC) ?_
  refine Cd.skip ?_
  refine thenQ_n ?_
  refine Cd.seq ?_
  refine Cd.region ?_
  refine Ops.call (fVector_c Ab V A n c rs F _ (hS2.rd 0 rfl) (hS2.oldRows hR) (by omega) (fun f hf => (hC.row f hf).1.2)) rfl rfl rfl ?_
  rintro _ w3 ⟨A4, c4, rfl, hst3⟩
  have hS3 := hS2.call2 hst3
  refine Ops.mv_sl rfl rfl rfl ?_
  refine Ops.mv_int rfl rfl rfl ?_
  refine Ops.nil ?_
  refine thenQ_n ?_
  refine Cd.ret ?_
  refine ret2_si rfl rfl ?_
  exact ⟨A4, c4, by rw [fvP_len], by rw [fvP_len]; exact hS3.tail⟩
end Go.Proofs.YtdedegbendjmbaaGreatDoor.Vc
/-
  The walk of the law FnLinks: it returns true. Conditions: the library's table of powers of ten holds what the program's text lays there.
-/
namespace Go.Proofs.YtdedegbendjmbaaGreatDoor.Vc
open Go.RowKit

theorem DrawDeletionOf_c (Ac : Option Addr) (nc cc : Nat) (bs : List Int) (w : World) (hY : RdY w Ac nc bs) (hnc : nc ≤ 1000000) :
    Ret Tryz.prog 37 [.slice Ac nc cc] w (fun v w' => ∃ (V v0 : Int) (n : Nat) (F : List (List Int)) (A : Option Addr) (c : Nat) (rs : List SlV), v = .tuple #[.agg #[.int .i64 V, .slice A n c], .int .i64 v0] ∧ (-10 ≤ V ∧ V ≤ 200) ∧ (-10 ≤ v0 ∧ v0 ≤ 300) ∧ n ≤ 401 ∧ rs.length = n ∧ F.length = n ∧ St w w' (mat 25 2 A n c rs F ++ [])) := by
  refine Ret.of_cd Tryz.func37 rfl Tryz.ntmps37 rfl (postc2 rfl rfl) ?_
  refine Cd.seq ?_
  refine Cd.region ?_
  refine Ops.new2 (St.refl w) rfl ?_
  intro A2 wA hS1
  have hS1 : St w wA [cxZ A2] := hS1
  refine Ops.mv_int rfl rfl rfl ?_
  refine Ops.nil ?_
  refine thenQ_n ?_
  refine Cd.seq ?_
  refine Cd.region ?_
  refine Ops.mv_sl rfl rfl rfl ?_
  refine Ops.call (l01From_c Ac nc cc bs wA (hY.below hS1.below) hnc) rfl rfl rfl ?_
  rintro _ w2 ⟨As, k0, rfl, hK0, hS2⟩
  refine Ops.mv_ptr rfl rfl rfl ?_
  refine Ops.nil ?_
  refine thenQ_n ?_
  refine Cd.seq ?_
  refine Cd.region ?_
  refine Ops.mv_ptr rfl rfl rfl ?_
  refine Ops.call (l17DrawAny_c 0 hS2 rfl hK0) rfl rfl rfl ?_
  rintro _ w3 ⟨V, n, F, A, c, rs, k1, rfl, hV, hn, hrl, hFl, hK1, hS4⟩
  refine Ops.new2 hS4 rfl ?_
  intro A5 w4 hS5
  refine Ops.st_agg 2 0 hS5 rfl rfl rfl rfl rfl rfl rfl ?_
  intro wB hS6
  have hB : St wA wB (cxB A5 V A n c :: (mat 25 2 A n c rs F ++ [k1])) := hS6
  clear hS2 hS4 hS5 hS6
  refine Ops.nil ?_
  refine thenQ_n ?_
  refine Cd.seq ?_
  refine Cd.drawP [6, 8, 11] [.ex (.agg #[.int .i64 V, .slice A n c]), .ex (.pointer As), .ex (.pointer (ptrAt A5 0)), .ex (.int .i64 (V)), .ex (.int .i64 (max 1 V)), .ex (.int .i64 ((max 1 V) + ((1 : Int)))), .al (fun v => ∃ r : Int, v = .int .i64 r ∧ (0 ≤ r ∧ r ≤ 201)) (fun v w' => ∃ k3, srcK wA As k3 ∧ St wA w' (cxB A5 V A n c :: (mat 25 2 A n c rs F ++ [k3]))), .ex (.pointer As), .al (fun v => ∃ r : Int, v = .int .i64 r ∧ (0 ≤ r ∧ r ≤ 15)) (fun v w' => ∃ k3, srcK wA As k3 ∧ St wA w' (cxB A5 V A n c :: (mat 25 2 A n c rs F ++ [k3]))), .al (fun v => ∃ q : Int, v = .int .i64 q ∧ (0 ≤ q ∧ q ≤ 1)) (fun _ _ => True), .al (fun v => ∃ q : Int, v = .int .i64 q ∧ (-10 ≤ q ∧ q ≤ 300)) (fun _ _ => True), .pr (fun _ w' => St w w' (mat 25 2 A n c rs F ++ [cxB A2 V A n c])), .al (fun v => ∃ q : Int, v = .int .i64 q ∧ (-10 ≤ q ∧ q ≤ 300)) (fun _ _ => True)] (by kernel_rfl) (by kernel_rfl) (List.forall_mem_cons.2 ⟨Ye.lasts_ex _, (List.forall_mem_cons.2 ⟨Ye.lasts_ex _, (List.forall_mem_cons.2 ⟨Ye.lasts_ex _, (List.forall_mem_cons.2 ⟨Ye.lasts_ex _, (List.forall_mem_cons.2 ⟨Ye.lasts_ex _, (List.forall_mem_cons.2 ⟨Ye.lasts_ex _, (List.forall_mem_cons.2 ⟨Ye.lasts_al (fun v w w' h hb => by obtain ⟨k3, hK3, hT⟩ := h; exact ⟨k3, hK3, hT.later hb⟩), (List.forall_mem_cons.2 ⟨Ye.lasts_ex _, (List.forall_mem_cons.2 ⟨Ye.lasts_al (fun v w w' h hb => by obtain ⟨k3, hK3, hT⟩ := h; exact ⟨k3, hK3, hT.later hb⟩), (List.forall_mem_cons.2 ⟨Ye.lasts_al (fun v w w' h hb => trivial), (List.forall_mem_cons.2 ⟨Ye.lasts_al (fun v w w' h hb => trivial), (List.forall_mem_cons.2 ⟨Ye.lasts_pr (fun v w w' h hb => h.later hb), (List.forall_mem_cons.2 ⟨Ye.lasts_al (fun v w w' h hb => trivial), (fun _ h => by cases h)⟩)⟩)⟩)⟩)⟩)⟩)⟩)⟩)⟩)⟩)⟩)⟩)⟩) ⟨?_, ?_, ?_, ?_, ?_, ?_, ?_, ?_, ?_, ?_, ?_, ?_, ?_, trivial⟩ ?_
  · intro e1 w1 cc hlo hhi hb0 hp hun hq
    show Ops _ _ _ _ _ _ _
    have hX : Rd w1 A5 2 (fun j => [Value.int .i64 V, .slice A n c].getD j undef) := by { have hhi := le_of_hi hhi (b := 2) (by kernel_rfl); rcases (show cc = 0 ∨ cc = 1 ∨ cc = 2 by omega) with h | h | h; { exact (hB.later (hb0 h)).rd 0 rfl }; { subst h; obtain ⟨k3, _, hT⟩ := (hq 6 _ _ (by kernel_rfl) (by kernel_rfl) (by kernel_rfl) rfl rfl).2 (by kernel_rfl); exact hT.rd 0 rfl }; { subst h; obtain ⟨k3, _, hT⟩ := (hq 8 _ _ (by kernel_rfl) (by kernel_rfl) (by kernel_rfl) rfl rfl).2 (by kernel_rfl); exact hT.rd 0 rfl } }
    refine Ops.ld_agg 1 hX rfl rfl rfl ?_
    refine Ops.nil ?_
    exact AfterP.dn rfl (Below.refl _ _) (by exact rfl)
  · intro e1 w1 cc hlo hhi hb0 hp hun hq
    show Ops _ _ _ _ _ _ _
    refine Ops.mv_ptr rfl rfl rfl ?_
    refine Ops.nil ?_
    exact AfterP.dn rfl (Below.refl _ _) (by exact rfl)
  · intro e1 w1 cc hlo hhi hb0 hp hun hq
    show Ops _ _ _ _ _ _ _
    replace hlo := le_of_lo hlo (b := 0) (by kernel_rfl)
    replace hhi := le_of_hi hhi (b := 0) (by kernel_rfl)
    obtain rfl : cc = 0 := by omega
    have hb := hb0 rfl
    refine Ops.fld ((hB.later hb).rd 0 rfl) rfl rfl rfl rfl inferInstance ?_
    refine Ops.nil ?_
    exact AfterP.dn rfl (Below.refl _ _) (by exact rfl)
  · intro e1 w1 cc hlo hhi hb0 hp hun hq
    show Ops _ _ _ _ _ _ _
    replace hlo := le_of_lo hlo (b := 0) (by kernel_rfl)
    replace hhi := le_of_hi hhi (b := 0) (by kernel_rfl)
    obtain rfl : cc = 0 := by omega
    have hb := hb0 rfl
    refine Ops.ldf_i ((hB.later hb).rd 0 rfl) rfl rfl rfl rfl rfl ?_
    refine Ops.nil ?_
    exact AfterP.dn rfl (Below.refl _ _) (by exact rfl)
  · intro e1 w1 cc hlo hhi hb0 hp hun hq
    show Ops _ _ _ _ _ _ _
    refine Ops.maxI rfl rfl rfl ?_
    refine Ops.nil ?_
    exact AfterP.dn rfl (Below.refl _ _) (by exact rfl)
  · intro e1 w1 cc hlo hhi hb0 hp hun hq
    show Ops _ _ _ _ _ _ _
    refine Ops.add rfl rfl rfl (by omega) ?_
    refine Ops.nil ?_
    exact AfterP.dn rfl (Below.refl _ _) (by exact rfl)
  · intro e1 w1 cc hlo hhi hb0 hp hun hq
    show Ops _ _ _ _ _ _ _
    replace hlo := le_of_lo hlo (b := 0) (by kernel_rfl)
    replace hhi := le_of_hi hhi (b := 0) (by kernel_rfl)
    obtain rfl : cc = 0 := by omega
    have hb := hb0 rfl
    refine Ops.call (srcNextP_c (cxB A5 V A n c :: mat 25 2 A n c rs F) 0 (max 1 V + 1) (ks := [k1]) (hB.later hb) rfl hK1) rfl rfl rfl ?_
    rintro _ w9 ⟨r, k3, rfl, hr, hK3, hS9⟩
    refine Ops.nil ?_
    exact AfterU.dn rfl ⟨⟨r, rfl, by omega⟩, k3, hK3, hS9⟩
  · intro e1 w1 cc hlo hhi hb0 hp hun hq
    show Ops _ _ _ _ _ _ _
    refine Ops.mv_ptr rfl rfl rfl ?_
    refine Ops.nil ?_
    exact AfterP.dn rfl (Below.refl _ _) (by exact rfl)
  · intro e1 w1 cc hlo hhi hb0 hp hun hq
    show Ops _ _ _ _ _ _ _
    replace hlo := le_of_lo hlo (b := 1) (by kernel_rfl)
    replace hhi := le_of_hi hhi (b := 1) (by kernel_rfl)
    obtain rfl : cc = 1 := by omega
    have hph := (hp 6 _ _ (by kernel_rfl) rfl rfl).2 (by kernel_rfl)
    obtain ⟨k2, hK2, hT⟩ := ((hp 6 _ _ (by kernel_rfl) rfl rfl).2 (by kernel_rfl))
    refine Ops.call (srcNextP_c (cxB A5 V A n c :: mat 25 2 A n c rs F) 0 16 (ks := [k2]) hT rfl hK2) rfl rfl rfl ?_
    rintro _ w9 ⟨r, k3, rfl, hr, hK3, hS9⟩
    refine Ops.nil ?_
    exact AfterU.dn rfl ⟨⟨r, rfl, by omega⟩, k3, hK3, hS9⟩
  · intro e1 w1 cc hlo hhi hb0 hp hun hq
    show Ops _ _ _ _ _ _ _
    obtain ⟨r, h18, hr⟩ := (hp 8 _ _ (by kernel_rfl) rfl rfl).1
    refine Ops.quo (by exact h18) rfl rfl (by omega) ?_
    refine Ops.nil ?_
    exact AfterP.dn rfl (Below.refl _ _) ⟨⟨r / 15, rfl, by omega⟩, trivial⟩
  · intro e1 w1 cc hlo hhi hb0 hp hun hq
    show Ops _ _ _ _ _ _ _
    obtain ⟨r, h16, hr⟩ := (hp 6 _ _ (by kernel_rfl) rfl rfl).1
    obtain ⟨q, h19, hqr⟩ := (hp 9 _ _ (by kernel_rfl) rfl rfl).1
    refine Ops.sub (by exact h16) (by exact h19) rfl (by omega) ?_
    refine Ops.nil ?_
    exact AfterP.dn rfl (Below.refl _ _) ⟨⟨r - q, rfl, by omega⟩, trivial⟩
  · intro e1 w1 cc hlo hhi hb0 hp hun hq
    show Ops _ _ _ _ _ _ _
    replace hlo := le_of_lo hlo (b := 2) (by kernel_rfl)
    replace hhi := le_of_hi hhi (b := 2) (by kernel_rfl)
    obtain rfl : cc = 2 := by omega
    have hph := (hp 8 _ _ (by kernel_rfl) rfl rfl).2 (by kernel_rfl)
    obtain ⟨k3, hK3, hT⟩ := ((hp 8 _ _ (by kernel_rfl) rfl rfl).2 (by kernel_rfl))
    have hX : St w _ (cxZ A2 :: (mat 25 2 A n c rs F)) := (hS1.call2 hT).sub (List.Sublist.cons_cons _ ((List.sublist_append_left _ _).cons _))
    refine Ops.st_agg 2 0 hX rfl rfl rfl rfl rfl rfl rfl ?_
    intro w9 hS9
    refine Ops.nil ?_
    exact AfterU.st rfl (hS9.perm (List.perm_append_comm (l₁ := [cxB A2 V A n c])))
  · intro e1 w1 cc hlo hhi hb0 hp hun hq
    show Ops _ _ _ _ _ _ _
    obtain ⟨q, h20, hqr⟩ := (hp 10 _ _ (by kernel_rfl) rfl rfl).1
    refine Ops.mv_int rfl (by exact h20) rfl ?_
    refine Ops.nil ?_
    exact AfterP.dn rfl (Below.refl _ _) ⟨⟨q, rfl, hqr⟩, trivial⟩
  intro u w5 _ hu hu2 hu3
  have hS9 : St w w5 (mat 25 2 A n c rs F ++ [cxB A2 V A n c]) := hu 11 _ rfl (by kernel_rfl)
  obtain ⟨⟨q, h3, hqr⟩, _⟩ := hu3 12 _ _ rfl
  have hS10 := hS9.perm List.perm_append_comm
  refine thenQ_n ?_
  refine Cd.ret ?_
  skip
  refine retc2_r rfl (hS10.rd 0 rfl) (by exact h3) ?_
  exact ⟨V, q, n, F, A, c, rs, rfl, hV, hqr, hn, hrl, hFl, hS9.sub ((List.Sublist.refl _).append (List.nil_sublist _))⟩

theorem at9_c (A : Option Addr) (n c : Nat) (f : List Int) (i : Int) (w : World) (hR : RdI w A n f) (hn : n ≤ 9223372036854775807) :
    Ret Tryz.prog 40 [.slice A n c, .int .i64 i] w (fun v w' => v = .int .i64 (at0 f i) ∧ w' = w) := by
  have hfl := hR.1
  unfold at0
  refine Ret.of_cd Tryz.func40 rfl Tryz.ntmps40 rfl (post1 rfl) ?_
  refine Cd.seq ?_
  refine Cd.region ?_
  refine Ops.mv_int rfl rfl rfl ?_
  refine Ops.nil ?_
  refine thenQ_n ?_
  refine Cd.seq ?_
  refine Cd.seq ?_
  refine Cd.region ?_
  refine Ops.mv_int rfl rfl rfl ?_
  refine Ops.lss rfl rfl rfl ?_
  refine Ops.mv_bool rfl rfl rfl ?_
  refine Ops.split_p 7 rfl (fun h1 => ?_) (fun h1 => ?_)
  · rw [if_neg (by omega)]
    refine Ops.skipg rfl rfl rfl rfl rfl ?_
    refine Ops.skipg rfl rfl rfl rfl rfl ?_
    refine Ops.skipg rfl rfl rfl rfl rfl ?_
    refine Ops.skipg rfl rfl rfl rfl rfl ?_
    refine Ops.pick_t rfl rfl rfl ?_
    refine Ops.nil ?_
    refine thenQ_n ?_
    refine Cd.cond_t rfl ?_
    refine Cd.seq ?_
    refine Cd.region ?_
    refine Ops.mv_int rfl rfl rfl ?_
    refine Ops.nil ?_
    refine thenQ_n ?_
    refine Cd.ret ?_
    refine thenQ_r ?_
    refine ret1_i rfl ?_
    exact ⟨rfl, rfl⟩
  refine Ops.rung rfl rfl rfl ?_
  refine Ops.mv_int rfl rfl rfl ?_
  refine Ops.rung rfl rfl rfl ?_
  refine Ops.mv_sl rfl rfl rfl ?_
  refine Ops.rung rfl rfl rfl ?_
  refine Ops.len rfl rfl ?_
  refine Ops.rung rfl rfl rfl ?_
  refine Ops.geq rfl rfl rfl ?_
  refine Ops.pick_f rfl rfl rfl ?_
  refine Ops.nil ?_
  refine thenQ_n ?_
  refine Cd.cond_p _ rfl (fun h2 => ?_) (fun h2 => ?_)
  · rw [if_neg (by omega)]
    refine Cd.seq ?_
    refine Cd.region ?_
    refine Ops.mv_int rfl rfl rfl ?_
    refine Ops.nil ?_
    refine thenQ_n ?_
    refine Cd.ret ?_
    refine thenQ_r ?_
    refine ret1_i rfl ?_
    exact ⟨rfl, rfl⟩
  · rw [if_pos (by omega)]
    refine Cd.skip ?_
    refine thenQ_n ?_
    refine Cd.seq ?_
    refine Cd.region ?_
    refine Ops.mv_sl rfl rfl rfl ?_
    refine Ops.mv_int rfl rfl rfl ?_
    refine Ops.idx hR.2 rfl rfl rfl (by omega) (by omega) ?_
    refine Ops.ld_int hR rfl (by omega) rfl rfl ?_
    refine Ops.mv_int rfl rfl rfl ?_
    refine Ops.nil ?_
    refine thenQ_n ?_
    refine Cd.ret ?_
    refine ret1_i rfl ?_
    exact ⟨rfl, rfl⟩

theorem dlK_ok {V : Int} {F : List (List Int)} {v : Int} (h : dlK V F v = 0) : Cplx V F ∧ (0 ≤ v ∧ v < V) := by
  unfold dlK at h
  by_cases h1 : Cplx V F
  · rw [if_pos h1] at h
    by_cases h2 : 0 ≤ v ∧ v < V
    · exact ⟨h1, h2⟩
    · rw [if_neg h2] at h; exact absurd h (by decide)
  · rw [if_neg h1] at h; exact absurd h (by decide)
theorem dlK_bad {V : Int} {F : List (List Int)} {v : Int} (h : ¬ dlK V F v = 0) : dlL V F v = [] := by
  unfold dlL
  unfold dlK at h
  by_cases h1 : Cplx V F
  · by_cases h2 : 0 ≤ v ∧ v < V
    · rw [if_pos h1, if_pos h2] at h
      rw [if_pos ⟨h1, h2⟩]
      exact (cx_bad h).2.1
    · rw [if_neg (fun h => h2 h.2)]
  · rw [if_neg (fun h => h1 h.1)]
theorem skK_bad {V : Int} {F : List (List Int)} {k : Int} (h : ¬ skK V F k = 0) : skL V F k = [] := by
  unfold skL
  unfold skK at h
  by_cases h1 : Cplx V F
  · by_cases h2 : 0 ≤ k ∧ k ≤ 6
    · rw [if_pos h1, if_pos h2] at h
      rw [if_pos ⟨h1, h2⟩]
      exact (cx_bad h).2.1
    · rw [if_neg (fun h => h2 h.2)]
  · rw [if_neg (fun h => h1 h.1)]
theorem cxL_bd' (ls : List (List Int)) : (cxL ls).length ≤ 1000 ∧ ∀ x ∈ cxL ls, x.length ≤ 1000 := by
  unfold cxL
  split
  · simp
  · rename_i h
    have h1 : ¬ (∃ l ∈ ls, 6 < l.length) := fun h' => h (.inl h')
    have h2 : (facP ls).length ≤ 400 := Nat.le_of_not_lt fun h' => h (.inr (.inr h'))
    unfold cxF
    refine ⟨by rw [List.length_map]; omega, fun x hx => ?_⟩
    obtain ⟨l, hl, rfl⟩ := List.mem_map.1 hx
    rw [List.length_map]
    have : ¬ 6 < l.length := fun h' => h1 ⟨l, (facP_mem.1 hl).1, h'⟩
    omega
theorem dlL_bd (V : Int) (F : List (List Int)) (v : Int) : (dlL V F v).length ≤ 1000 ∧ ∀ x ∈ dlL V F v, x.length ≤ 1000 := by
  unfold dlL
  split
  · exact cxL_bd' _
  · simp
theorem face_one {V : Int} {F : List (List Int)} (h : Cplx V F) {v : Int} (h0 : 0 ≤ v) (h1 : v < V) : Fce F [v] := by
  obtain ⟨f, hf, hv⟩ := h.all v h0 h1
  exact ⟨by simp [SA], .inr ⟨f, hf, fun x hx => by
    obtain rfl : x = v := by simpa using hx
    exact hv⟩⟩
theorem link_split {V : Int} {F : List (List Int)} (hc : Cplx V F) {v : Int} (hv0 : 0 ≤ v) (hv1 : v < V) {k : Nat} (hk : k ≤ dpt F) : gi (fvP F) (k : Int) = at0 (fvP (cxL (delL F v))) (k : Int) + at0 (fvP (cxL (lnkL F [v]))) ((k : Int) - 1) := by
  have hs : ∀ f ∈ F, SA f := fun f hf => (hc.row f hf).2.1
  rw [fv_cx (delL_sa hs v) (del_fine hc v), fv_cx (fun l hl => ((hc.lnk [v]).2.1 l hl).1) (lnk_fine hc [v]), at0_fv, fvP_at F hk]
  match k with
  | 0 =>
    have e0 : at0 (fvP (lnkL F [v])) (((0 : Nat) : Int) - 1) = 0 := by unfold at0; rw [if_neg (by omega)]
    rw [e0, nf_zero, fcs_zero]; rfl
  | k + 1 =>
    rw [show ((k + 1 : Nat) : Int) - 1 = ((k : Nat) : Int) by omega, at0_fv]
    have := nf_split hc hv0 hv1 k
    show ((nf F (k + 1) : Nat) : Int) = _
    omega

set_option maxHeartbeats 1000000 in
theorem FnLinks_c (Ac : Option Addr) (nc cc : Nat) (bs : List Int) (w : World) (hT : Tab w) (hY : RdY w Ac nc bs) :
    Ret Tryz.prog 7 [.slice Ac nc cc] w (fun v w' => v = .bool true ∧ St w w' []) := by
  refine Ret.of_cd Tryz.func7 rfl Tryz.ntmps7 rfl (post1 rfl) ?_
  refine Cd.seq ?_
  refine Cd.region ?_
  refine Ops.mv_bool rfl rfl rfl ?_
  refine Ops.nil ?_
  refine thenQ_n ?_
  refine Cd.seq ?_
  refine Cd.seq ?_
  refine Cd.region ?_
  refine Ops.mv_sl rfl rfl rfl ?_
  refine Ops.call (big_c Ac nc cc w) rfl rfl rfl ?_
  rintro _ w1 ⟨rfl, hW⟩
  refine Ops.nil ?_
  refine thenQ_n ?_
  refine Cd.cond_p _ rfl (fun h1 => ?_) (fun h1 => ?_)
  · refine Cd.seq ?_
    refine Cd.region ?_
    refine Ops.mv_bool rfl rfl rfl ?_
    refine Ops.nil ?_
    refine thenQ_n ?_
    refine Cd.ret ?_
    refine thenQ_r ?_
    refine ret1_b rfl ?_
    exact ⟨rfl, hW⟩
  have hT := hT.later hW.below
  have hY := hY.below hW.below
  refine Cd.skip ?_
  refine thenQ_n ?_
  refine Cd.seq ?_
  refine Cd.region ?_
  refine Ops.mv_sl rfl rfl rfl ?_
  refine Ops.call (DrawDeletionOf_c Ac nc cc bs w1 hY (by omega)) rfl rfl rfl ?_
  rintro _ w2 ⟨V, v, n, F, A, c, rs, rfl, hV, hv, hn, hrl, hFl, hst⟩
  have hX : RowsI w2 A n rs F := St.rowsI hst hFl
  have hb := hst.below
  have hW := hW.later hb; have hT := hT.later hb; have hY := hY.below hb
  clear hst
  refine Ops.mv_tup rfl rfl rfl ?_
  refine Ops.extract rfl rfl rfl ?_
  refine Ops.extract rfl rfl rfl ?_
  refine Ops.new2 (St.refl w2) rfl ?_
  intro A3 w3 hU
  refine Ops.st_agg 2 0 hU rfl rfl rfl rfl rfl rfl rfl ?_
  intro w4 hU
  have hb := hU.below
  have h3 : Rd w4 A3 2 (fun j => [Value.int .i64 V, .slice A n c].getD j undef) := hU.rd 0 rfl
  have hW := hW.later hb; have hT := hT.later hb; have hY := hY.below hb; have hX := hX.later hb
  clear hU
  refine Ops.mv_int rfl rfl rfl ?_
  refine Ops.nil ?_
  refine thenQ_n ?_
  refine Cd.seq ?_
  refine Cd.region ?_
  refine Ops.ld_agg 1 h3 rfl rfl rfl ?_
  refine Ops.mv_int rfl rfl rfl ?_
  refine Ops.call (implDeletionOf_c V A n c rs F v w4 hT hX (by omega)) rfl rfl rfl ?_
  rintro _ w5 ⟨A5, c5, rs5, rfl, hrl5, hst⟩
  have hD : RowsI w5 A5 (dlL V F v).length rs5 (dlL V F v) := St.rowsI hst rfl
  have hb := hst.below
  have hW := hW.later hb; have hT := hT.later hb; have hY := hY.below hb; have hX := hX.later hb; have h3 := Rd.below h3 hb
  clear hst
  refine Ops.mv_tup rfl rfl rfl ?_
  refine Ops.extract rfl rfl rfl ?_
  refine Ops.extract rfl rfl rfl ?_
  refine Ops.new2 (St.refl w5) rfl ?_
  intro A6 w6 hU
  refine Ops.st_agg 2 0 hU rfl rfl rfl rfl rfl rfl rfl ?_
  intro w7 hU
  have hb := hU.below
  have h5 : Rd w7 A6 2 (fun j => [Value.int .i64 (dlV V F v), .slice A5 (dlL V F v).length c5].getD j undef) := hU.rd 0 rfl
  have hD := hD.later hb
  have hW := hW.later hb; have hT := hT.later hb; have hY := hY.below hb; have hX := hX.later hb; have h3 := Rd.below h3 hb
  clear hU
  refine Ops.mv_int rfl rfl rfl ?_
  refine Ops.nil ?_
  refine thenQ_n ?_
  refine Cd.seq ?_
  refine Cd.seq ?_
  refine Cd.region ?_
  refine Ops.ld_agg 1 h3 rfl rfl rfl ?_
  refine Ops.mv_int rfl rfl rfl ?_
  refine Ops.call (specDeletionOf_c V A n c rs F v w7 hX (by omega)) rfl rfl rfl ?_
  rintro _ w8 ⟨A7, c7, rs7, rfl, hrl7, hst⟩
  have hG : RowsI w8 A7 (dlL V F v).length rs7 (dlL V F v) := St.rowsI hst rfl
  have hb := hst.below
  have hW := hW.later hb; have hT := hT.later hb; have hY := hY.below hb; have hX := hX.later hb; have h3 := Rd.below h3 hb; have hD := hD.later hb; have h5 := Rd.below h5 hb
  clear hst
  refine Ops.mv_tup rfl rfl rfl ?_
  refine Ops.extract rfl rfl rfl ?_
  refine Ops.extract rfl rfl rfl ?_
  refine Ops.new2 (St.refl w8) rfl ?_
  intro A8 w9 hU
  refine Ops.st_agg 2 0 hU rfl rfl rfl rfl rfl rfl rfl ?_
  intro w10 hU
  have hb := hU.below
  have h7 : Rd w10 A8 2 (fun j => [Value.int .i64 (dlV V F v), .slice A7 (dlL V F v).length c7].getD j undef) := hU.rd 0 rfl
  have hG := hG.later hb
  have hW := hW.later hb; have hT := hT.later hb; have hY := hY.below hb; have hX := hX.later hb; have h3 := Rd.below h3 hb; have hD := hD.later hb; have h5 := Rd.below h5 hb
  clear hU
  have hdb := dlL_bd V F v
  refine Ops.mv_int rfl rfl rfl ?_
  refine Ops.nil ?_
  refine thenQ_n ?_
  refine Cd.seq ?_
  refine Cd.region ?_
  refine Ops.mv_int rfl rfl rfl ?_
  refine Ops.mv_int rfl rfl rfl ?_
  refine Ops.neq rfl rfl rfl ?_
  refine Ops.mv_bool rfl rfl rfl ?_
  refine Ops.split_p 47 rfl (fun h => absurd rfl h) (fun _ => ?_) --f
  refine Ops.rung rfl rfl rfl ?_
  refine Ops.ld_agg 1 h5 rfl rfl rfl ?_
  refine Ops.rung rfl rfl rfl ?_
  refine Ops.ld_agg 1 h7 rfl rfl rfl ?_
  refine Ops.rung rfl rfl rfl ?_
  refine Ops.call (likeComplex9_c _ A5 _ c5 rs5 (dlL V F v) _ A7 _ c7 rs7 (dlL V F v) w10 hD hG (by omega) (fun f hf => by have := hdb.2 f hf; omega)) rfl rfl rfl ?_
  rintro _ w11 ⟨rfl, hst⟩
  have hb := hst.below
  have hW := hW.later hb; have hT := hT.later hb; have hY := hY.below hb; have hX := hX.later hb; have h3 := Rd.below h3 hb; have hD := hD.later hb; have h5 := Rd.below h5 hb
  clear hst hG h7
  refine Ops.rung rfl rfl rfl ?_
  first | refine Ops.not_p rfl rfl ?_ | refine Ops.not rfl rfl ?_
  refine Ops.pick_f rfl rfl rfl ?_
  refine Ops.nil ?_
  refine thenQ_n ?_
  refine Cd.cond_pf rfl (fun h => h ⟨rfl, rfl⟩) ?_
  refine Cd.skip ?_
  refine thenQ_n ?_
  refine Cd.seq ?_
  refine Cd.seq ?_
  refine Cd.region ?_
  refine Ops.mv_int rfl rfl rfl ?_
  refine Ops.neq rfl rfl rfl ?_
  refine Ops.nil ?_
  refine thenQ_n ?_
  refine Cd.cond_p _ rfl (fun h2 => ?_) (fun h2 => ?_)
  · rw [dlK_bad h2] at h5
    refine Cd.seq ?_
    refine Cd.region ?_
    refine Ops.fld h5 rfl rfl rfl rfl inferInstance ?_
    refine Ops.ldf_s h5 rfl rfl rfl rfl rfl ?_
    refine Ops.len rfl rfl ?_
    refine Ops.eql rfl rfl rfl ?_
    refine Ops.mv_bool rfl rfl rfl ?_
    refine Ops.nil ?_
    refine thenQ_n ?_
    refine Cd.ret ?_
    refine thenQ_r ?_
    refine ret1_b rfl ?_
    exact ⟨rfl, hW⟩
  obtain ⟨hC, hv2⟩ := dlK_ok (Classical.not_not.1 h2)
  have hCV := hC.v
  have hs : ∀ f ∈ F, SA f := fun f hf => (hC.row f hf).2.1
  have hf6 : ∀ f ∈ F, f.length ≤ 6 := fun f hf => (hC.row f hf).1.2
  have hd6 := dpt_bd hf6
  have hCD := cx_cplx (delL_sa hs v) (del_fine hC v)
  have hls : ∀ l ∈ lnkL F [v], SA l := fun l hl => ((hC.lnk [v]).2.1 l hl).1
  have hCL := cx_cplx hls (lnk_fine hC [v])
  have eD : dlL V F v = cxL (delL F v) := by unfold dlL; rw [if_pos ⟨hC, hv2⟩]
  have eV : dlV V F v = cxV (delL F v) := by unfold dlV; rw [if_pos ⟨hC, hv2⟩]
  rw [eD] at hD
  rw [eD, eV] at h5
  have hsplit := fun k hk => link_split hC hv2.1 hv2.2 (k := k) hk
  have hFc := face_one hC hv2.1 hv2.2
  have hK0 : cxK (lnkL F [v]) = 0 := by unfold cxK; rw [if_neg (lnk_fine hC [v])]
  refine Cd.skip ?_
  refine thenQ_n ?_
  refine Cd.seq ?_
  refine Cd.region ?_
  refine Ops.ld_agg 1 h3 rfl rfl rfl ?_
  refine Ops.mv_int rfl rfl rfl ?_
  refine Ops.bs1I (St.refl w11) rfl rfl rfl ?_
  intro B w12 hU
  have hv1 : RdI w12 B 1 [v] := hU.rdI 0 rfl
  have hb := hU.below
  have hW := hW.later hb; have hT := hT.later hb; have hY := hY.below hb; have hX := hX.later hb; have h3 := Rd.below h3 hb; have hD := hD.later hb; have h5 := Rd.below h5 hb
  clear hU
  have hLk := implLinkOf_c V A n c rs F B 1 1 [v] w12 hT hX hv1 (by omega) (by omega)
  unfold lkV lkL lkK at hLk
  rw [if_pos ⟨hC, hFc⟩, if_pos ⟨hC, hFc⟩, if_pos hC, if_pos hFc, hK0] at hLk
  refine Ops.call hLk rfl rfl rfl ?_
  rintro _ w13 ⟨A9, c9, rs9, rfl, hrl9, hst⟩
  have hb := hst.below
  have hL : RowsI w13 A9 (cxL (lnkL F [v])).length rs9 (cxL (lnkL F [v])) := St.rowsI hst rfl
  have hW := hW.later hb; have hT := hT.later hb; have hY := hY.below hb; have hX := hX.later hb; have h3 := Rd.below h3 hb; have hD := hD.later hb; have h5 := Rd.below h5 hb
  clear hst hv1 hLk
  refine Ops.mv_tup rfl rfl rfl ?_
  refine Ops.extract rfl rfl rfl ?_
  refine Ops.extract rfl rfl rfl ?_
  refine Ops.new2 (St.refl w13) rfl ?_
  intro A10 w14 hU
  refine Ops.st_agg 2 0 hU rfl rfl rfl rfl rfl rfl rfl ?_
  intro w15 hU
  have hb := hU.below
  have h9 : Rd w15 A10 2 (fun j => [Value.int .i64 (cxV (lnkL F [v])), .slice A9 (cxL (lnkL F [v])).length c9].getD j undef) := hU.rd 0 rfl
  have hL := hL.later hb
  have hW := hW.later hb; have hT := hT.later hb; have hY := hY.below hb; have hX := hX.later hb; have h3 := Rd.below h3 hb; have hD := hD.later hb; have h5 := Rd.below h5 hb
  clear hU
  refine Ops.mv_int rfl rfl rfl ?_
  refine Ops.nil ?_
  refine thenQ_n ?_
  refine Cd.seq ?_
  refine Cd.region ?_
  refine Ops.ld_agg 1 h3 rfl rfl rfl ?_
  refine Ops.call (FVector_c V A n c rs F w15 hT hX hC) rfl rfl rfl ?_
  rintro _ w16 ⟨A11, c11, rfl, hst⟩
  have hf : RdI w16 A11 (fvP F).length (fvP F) := hst.rdI 0 rfl
  have hfc : (fvP F).length ≤ c11 := (hst.cap 0 rfl).1
  have hb := hst.below
  have hL := hL.later hb; have h9 := Rd.below h9 hb
  have hW := hW.later hb; have hT := hT.later hb; have hY := hY.below hb; have hX := hX.later hb; have h3 := Rd.below h3 hb; have hD := hD.later hb; have h5 := Rd.below h5 hb
  clear hst
  refine Ops.mv_tup rfl rfl rfl ?_
  refine Ops.extract rfl rfl rfl ?_
  refine Ops.extract rfl rfl rfl ?_
  refine Ops.mv_sl rfl rfl rfl ?_
  refine Ops.mv_int rfl rfl rfl ?_
  refine Ops.nil ?_
  refine thenQ_n ?_
  refine Cd.seq ?_
  refine Cd.region ?_
  refine Ops.ld_agg 1 h5 rfl rfl rfl ?_
  refine Ops.call (FVector_c _ A5 _ c5 rs5 (cxL (delL F v)) w16 hT hD hCD) rfl (by rw [eD]; rfl) rfl ?_
  rintro _ w17 ⟨A13, c13, rfl, hst⟩
  have hg : RdI w17 A13 (fvP (cxL (delL F v))).length (fvP (cxL (delL F v))) := hst.rdI 0 rfl
  have hb := hst.below
  have hL := hL.later hb; have h9 := Rd.below h9 hb; have hf := hf.later hb
  have hW := hW.later hb; have hT := hT.later hb; have hY := hY.below hb; have hX := hX.later hb; have h3 := Rd.below h3 hb
  clear hst hD h5
  refine Ops.mv_tup rfl rfl rfl ?_
  refine Ops.extract rfl rfl rfl ?_
  refine Ops.extract rfl rfl rfl ?_
  refine Ops.mv_sl rfl rfl rfl ?_
  refine Ops.mv_int rfl rfl rfl ?_
  refine Ops.nil ?_
  refine thenQ_n ?_
  refine Cd.seq ?_
  refine Cd.region ?_
  refine Ops.ld_agg 1 h9 rfl rfl rfl ?_
  refine Ops.call (FVector_c _ A9 _ c9 rs9 (cxL (lnkL F [v])) w17 hT hL hCL) rfl rfl rfl ?_
  rintro _ w18 ⟨A15, c15, rfl, hst⟩
  have hh : RdI w18 A15 (fvP (cxL (lnkL F [v]))).length (fvP (cxL (lnkL F [v]))) := hst.rdI 0 rfl
  have hb := hst.below
  have hf := hf.later hb; have hg := hg.later hb
  have hW := hW.later hb; have hT := hT.later hb; have hY := hY.below hb; have hX := hX.later hb; have h3 := Rd.below h3 hb
  clear hst hL h9
  have hfl := fvP_len F
  have hbg : ∀ (L : List (List Int)) (k : Int), Cplx (cxV L) (cxL L) → -30000 ≤ at0 (fvP (cxL L)) k ∧ at0 (fvP (cxL L)) k ≤ 30000 := fun L k hc => by
    unfold at0
    split
    · rename_i h
      have h6 : ∀ f ∈ cxL L, f.length ≤ 6 := fun f hf => (hc.row f hf).1.2
      have := fvP_bd hc.f h6 (gi (fvP (cxL L)) k) (by
        obtain ⟨kn, rfl⟩ : ∃ kn : Nat, k = kn := ⟨k.toNat, by omega⟩
        rw [gi_mem (by omega)]; exact List.getElem_mem _)
      omega
    · omega
  have hbd := fun k => hbg (delL F v) k hCD
  have hbl := fun k => hbg (lnkL F [v]) k hCL
  have hgl : (fvP (cxL (delL F v))).length ≤ 9223372036854775807 := by rw [fvP_len]; have := dpt_bd (b := 6) fun f hf => (hCD.row f hf).1.2; omega
  have hhl : (fvP (cxL (lnkL F [v]))).length ≤ 9223372036854775807 := by rw [fvP_len]; have := dpt_bd (b := 6) fun f hf => (hCL.row f hf).1.2; omega
  refine Ops.mv_tup rfl rfl rfl ?_
  refine Ops.extract rfl rfl rfl ?_
  refine Ops.extract rfl rfl rfl ?_
  refine Ops.mv_sl rfl rfl rfl ?_
  refine Ops.mv_int rfl rfl rfl ?_
  refine Ops.nil ?_
  refine thenQ_n ?_
  refine Cd.seq ?_
  refine Cd.seq ?_
  refine Cd.region ?_
  refine Ops.mv_int rfl rfl rfl ?_
  refine Ops.neq rfl rfl rfl ?_
  refine Ops.mv_bool rfl rfl rfl ?_
  refine Ops.split_p 83 rfl (fun h => absurd rfl h) (fun _ => ?_) --f
  refine Ops.rung rfl rfl rfl ?_
  refine Ops.mv_int rfl rfl rfl ?_
  refine Ops.rung rfl rfl rfl ?_
  refine Ops.neq rfl rfl rfl ?_
  refine Ops.pick_f rfl rfl rfl ?_
  refine Ops.mv_bool rfl rfl rfl ?_
  refine Ops.split_p 87 rfl (fun h => absurd rfl h) (fun _ => ?_) --f
  refine Ops.rung rfl rfl rfl ?_
  refine Ops.mv_int rfl rfl rfl ?_
  refine Ops.rung rfl rfl rfl ?_
  refine Ops.neq rfl rfl rfl ?_
  refine Ops.pick_f rfl rfl rfl ?_
  refine Ops.mv_bool rfl rfl rfl ?_
  refine Ops.split_p 91 rfl (fun h => absurd rfl h) (fun _ => ?_) --f
  refine Ops.rung rfl rfl rfl ?_
  refine Ops.mv_int rfl rfl rfl ?_
  refine Ops.rung rfl rfl rfl ?_
  refine Ops.neq rfl rfl rfl ?_
  refine Ops.pick_f rfl rfl rfl ?_
  refine Ops.nil ?_
  refine thenQ_n ?_
  refine Cd.cond_pf rfl (fun h => h rfl) ?_
  refine Cd.skip ?_
  refine thenQ_n ?_
  refine Cd.seq ?_
  refine Cd.seq ?_
  refine Cd.region ?_
  refine Ops.mv_int rfl rfl rfl ?_
  refine Ops.nil ?_
  refine thenQ_n ?_
  refine Cd.block ?_
  refine Cd.loop (α := Nat) (fun k => [(0, .slice Ac nc cc), (3, .pointer A3), (11, .slice A11 (fvP F).length c11), (13, .slice A13 (fvP (cxL (delL F v))).length c13), (15, .slice A15 (fvP (cxL (lnkL F [v]))).length c15), (17, .int .i64 (k : Int))]) (fun k w' => k ≤ dpt F + 1 ∧ Below w18.heap.size w18 w') (fun k => dpt F + 1 - k) 0 ⟨rfl, rfl, rfl, rfl, rfl, rfl, trivial⟩ ⟨Nat.zero_le _, Below.refl _ _⟩ ?_
  rintro k e w19 ⟨hk, hb⟩
  have hf3 := hf.later hb
  have hg3 := hg.later hb
  have hh3 := hh.later hb
  refine Cd.seq ?_
  refine Cd.seq ?_
  refine Cd.region ?_
  refine Ops.mv_int rfl rfl rfl ?_
  refine Ops.mv_sl rfl rfl rfl ?_
  refine Ops.len rfl rfl ?_
  refine Ops.lss rfl rfl rfl ?_
  refine Ops.nil ?_
  refine thenQ_n ?_
  refine Cd.cond_p _ rfl (fun h3' => ?_) (fun h3' => ?_)
  · have hkd : k ≤ dpt F := by omega
    have hsk := hsplit k hkd
    have hbd1 := hbd (k : Int)
    have hbl1 := hbl ((k : Int) - 1)
    refine Cd.skip ?_
    refine thenQ_n ?_
    refine Cd.seq ?_
    refine Cd.block ?_
    refine Cd.seq ?_
    refine Cd.draw [.ex (.slice (A11) ((fvP F).length) (c11)), .ex (.int .i64 ((k : Int))), .ex (.pointer (ptrAt (A11) ((k : Int)).toNat)), .ex (.int .i64 (gi (fvP F) ((k : Int)))), .ex (.slice (A13) ((fvP (cxL (delL F v))).length) (c13)), .ex (.int .i64 ((k : Int))), .ex (.int .i64 (at0 (fvP (cxL (delL F v))) (k : Int))), .ex (.slice (A15) ((fvP (cxL (lnkL F [v]))).length) (c15)), .ex (.int .i64 ((k : Int))), .ex (.int .i64 (((k : Int)) - ((1 : Int)))), .ex (.int .i64 (at0 (fvP (cxL (lnkL F [v]))) ((k : Int) - 1))), .ex (.int .i64 ((at0 (fvP (cxL (delL F v))) (k : Int)) + (at0 (fvP (cxL (lnkL F [v]))) ((k : Int) - 1)))), .ex (.bool (false))] (by kernel_rfl) (by kernel_rfl) rfl (List.forall_mem_cons.2 ⟨Yd.lasts_ex _, (List.forall_mem_cons.2 ⟨Yd.lasts_ex _, (List.forall_mem_cons.2 ⟨Yd.lasts_ex _, (List.forall_mem_cons.2 ⟨Yd.lasts_ex _, (List.forall_mem_cons.2 ⟨Yd.lasts_ex _, (List.forall_mem_cons.2 ⟨Yd.lasts_ex _, (List.forall_mem_cons.2 ⟨Yd.lasts_ex _, (List.forall_mem_cons.2 ⟨Yd.lasts_ex _, (List.forall_mem_cons.2 ⟨Yd.lasts_ex _, (List.forall_mem_cons.2 ⟨Yd.lasts_ex _, (List.forall_mem_cons.2 ⟨Yd.lasts_ex _, (List.forall_mem_cons.2 ⟨Yd.lasts_ex _, (List.forall_mem_cons.2 ⟨Yd.lasts_ex _, (fun _ h => by cases h)⟩)⟩)⟩)⟩)⟩)⟩)⟩)⟩)⟩)⟩)⟩)⟩)⟩) ⟨?_, ?_, ?_, ?_, ?_, ?_, ?_, ?_, ?_, ?_, ?_, ?_, ?_, trivial⟩ ?_
    · intro e1 w1 hb hp hun
      refine Ops.mv_sl rfl rfl rfl ?_
      refine Ops.nil ?_
      exact After.dn (Below.refl _ _) (by exact rfl)
    · intro e1 w1 hb hp hun
      refine Ops.mv_int rfl rfl rfl ?_
      refine Ops.nil ?_
      exact After.dn (Below.refl _ _) (by exact rfl)
    · intro e1 w1 hb hp hun
      refine Ops.idx (hf3.later hb).2 rfl rfl rfl (by omega) (by omega) ?_
      refine Ops.nil ?_
      exact After.dn (Below.refl _ _) (by exact rfl)
    · intro e1 w1 hb hp hun
      refine Ops.ld_int (hf3.later hb) rfl (by omega) rfl rfl ?_
      refine Ops.nil ?_
      exact After.dn (Below.refl _ _) (by exact rfl)
    · intro e1 w1 hb hp hun
      refine Ops.mv_sl rfl rfl rfl ?_
      refine Ops.nil ?_
      exact After.dn (Below.refl _ _) (by exact rfl)
    · intro e1 w1 hb hp hun
      refine Ops.mv_int rfl rfl rfl ?_
      refine Ops.nil ?_
      exact After.dn (Below.refl _ _) (by exact rfl)
    · intro e1 w1 hb hp hun
      refine Ops.call (at9_c _ _ _ _ _ _ (hg3.later hb) hgl) rfl rfl rfl ?_
      rintro _ w2 ⟨rfl, hst⟩
      subst hst
      refine Ops.nil ?_
      exact After.dn (Below.refl _ _) (by exact rfl)
    · intro e1 w1 hb hp hun
      refine Ops.mv_sl rfl rfl rfl ?_
      refine Ops.nil ?_
      exact After.dn (Below.refl _ _) (by exact rfl)
    · intro e1 w1 hb hp hun
      refine Ops.mv_int rfl rfl rfl ?_
      refine Ops.nil ?_
      exact After.dn (Below.refl _ _) (by exact rfl)
    · intro e1 w1 hb hp hun
      refine Ops.sub rfl rfl rfl (by omega) ?_
      refine Ops.nil ?_
      exact After.dn (Below.refl _ _) (by exact rfl)
    · intro e1 w1 hb hp hun
      refine Ops.call (at9_c _ _ _ _ _ _ (hh3.later hb) hhl) rfl rfl rfl ?_
      rintro _ w2 ⟨rfl, hst⟩
      subst hst
      refine Ops.nil ?_
      exact After.dn (Below.refl _ _) (by exact rfl)
    · intro e1 w1 hb hp hun
      refine Ops.add rfl rfl rfl (by omega) ?_
      refine Ops.nil ?_
      exact After.dn (Below.refl _ _) (by exact rfl)
    · intro e1 w1 hb hp hun
      refine Ops.neq rfl rfl rfl ?_
      refine Ops.nil ?_
      exact After.dn (Below.refl _ _) (by exact congrArg Value.bool (decide_eq_false (fun h => h hsk)))
    intro u w20 hb2 _
    refine thenQ_n ?_
    refine Cd.cond_f rfl ?_
    refine Cd.skip ?_
    refine blockQ_n ?_
    refine thenQ_n ?_
    refine Cd.region ?_
    refine Ops.mv_int rfl rfl rfl ?_
    refine Ops.add rfl rfl rfl (by omega) ?_
    refine Ops.mv_int rfl rfl rfl ?_
    refine Ops.nil ?_
    refine thenQ_n ?_
    exact ⟨k + 1, by show dpt F + 1 - (k + 1) < dpt F + 1 - k; omega, ⟨rfl, rfl, rfl, rfl, rfl, rfl, trivial⟩, by omega, hb.trans (hb2.mono hb.size)⟩
  have hf := hf3
  have hW := hW.later hb; have hT := hT.later hb; have hY := hY.below hb; have hX := hX.later hb; have h3 := Rd.below h3 hb
  clear hg hh hg3 hh3 hf3
  refine Cd.exit ?_
  refine thenQ_x ?_
  refine thenQ_x ?_
  refine blockQ_x ?_
  refine thenQ_n ?_
  refine Cd.seq ?_
  refine Cd.region ?_
  refine Ops.mv_sl rfl rfl rfl ?_
  refine Ops.call (roll_c Ac nc cc bs 1172 w19 hY (by omega)) rfl rfl rfl ?_
  rintro _ w20 ⟨As, kd, rfl, hkd, hst⟩
  have hb := hst.below
  refine Ops.mv_sl rfl rfl rfl ?_
  refine Ops.len rfl rfl ?_
  refine Ops.call (dicNext_c 0 ((fvP F).length : Int) hst rfl hkd) rfl rfl rfl ?_
  rintro _ w21 ⟨r, kd2, rfl, hr, _, hst⟩
  have hb := hst.below
  have hf := hf.later hb
  have hW := hW.later hb; have hT := hT.later hb; have hY := hY.below hb; have hX := hX.later hb; have h3 := Rd.below h3 hb
  clear hst hkd
  obtain ⟨k, rfl⟩ : ∃ k : Nat, r = k := ⟨r.toNat, by omega⟩
  have hkd : k ≤ dpt F := by omega
  have hS := sklL_sa (k := k) hs
  have hk6 : 0 ≤ (k : Int) ∧ (k : Int) ≤ 6 := by omega
  refine Ops.mv_int rfl rfl rfl ?_
  refine Ops.nil ?_
  refine thenQ_n ?_
  refine Cd.seq ?_
  refine Cd.region ?_
  refine Ops.ld_agg 1 h3 rfl rfl rfl ?_
  refine Ops.mv_int rfl rfl rfl ?_
  refine Ops.call (implSkeletonOf_c V A n c rs F (k : Int) w21 hT hX (by omega)) rfl rfl rfl ?_
  rintro _ w22 ⟨A19, c19, rs19, rfl, hrl19, hst⟩
  have hP : RowsI w22 A19 (skL V F k).length rs19 (skL V F k) := St.rowsI hst rfl
  have hb := hst.below
  have hf := hf.later hb
  have hW := hW.later hb; have hT := hT.later hb; have hY := hY.below hb; have hX := hX.later hb; have h3 := Rd.below h3 hb
  clear hst
  refine Ops.mv_tup rfl rfl rfl ?_
  refine Ops.extract rfl rfl rfl ?_
  refine Ops.extract rfl rfl rfl ?_
  refine Ops.new2 (St.refl w22) rfl ?_
  intro A20 w23 hU
  refine Ops.st_agg 2 0 hU rfl rfl rfl rfl rfl rfl rfl ?_
  intro w24 hU
  have hb := hU.below
  have h19 : Rd w24 A20 2 (fun j => [Value.int .i64 (skV V F k), .slice A19 (skL V F k).length c19].getD j undef) := hU.rd 0 rfl
  have hP := hP.later hb; have hf := hf.later hb
  have hW := hW.later hb; have hT := hT.later hb; have hY := hY.below hb; have hX := hX.later hb; have h3 := Rd.below h3 hb
  clear hU
  refine Ops.mv_int rfl rfl rfl ?_
  refine Ops.nil ?_
  refine thenQ_n ?_
  refine Cd.seq ?_
  refine Cd.seq ?_
  refine Cd.region ?_
  refine Ops.ld_agg 1 h3 rfl rfl rfl ?_
  refine Ops.mv_int rfl rfl rfl ?_
  refine Ops.call (specSkeletonOf_c V A n c rs F (k : Int) w24 hX (by omega)) rfl rfl rfl ?_
  rintro _ w25 ⟨A21, c21, rs21, rfl, hrl21, hst⟩
  have hb := hst.below
  have hP := hP.later hb; have hf := hf.later hb; have h19 := Rd.below h19 hb
  have hW := hW.later hb; have hT := hT.later hb; have hY := hY.below hb; have hX := hX.later hb; have h3 := Rd.below h3 hb
  clear hst
  refine Ops.mv_tup rfl rfl rfl ?_
  refine Ops.extract rfl rfl rfl ?_
  refine Ops.extract rfl rfl rfl ?_
  refine Ops.new2 (St.refl w25) rfl ?_
  intro A22 w26 hU
  refine Ops.st_agg 2 0 hU rfl rfl rfl rfl rfl rfl rfl ?_
  intro w27 hU
  have hb := hU.below
  have hP := hP.later hb; have hf := hf.later hb; have h19 := Rd.below h19 hb
  have hW := hW.later hb; have hT := hT.later hb; have hY := hY.below hb; have hX := hX.later hb; have h3 := Rd.below h3 hb
  clear hU
  refine Ops.mv_int rfl rfl rfl ?_
  refine Ops.nil ?_
  refine thenQ_n ?_
  refine Cd.seq ?_
  refine Cd.region ?_
  refine Ops.mv_int rfl rfl rfl ?_
  refine Ops.mv_int rfl rfl rfl ?_
  refine Ops.neq rfl rfl rfl ?_
  refine Ops.nil ?_
  refine thenQ_n ?_
  refine Cd.cond_pf rfl (fun h => h rfl) ?_
  refine Cd.skip ?_
  refine thenQ_n ?_
  refine Cd.seq ?_
  refine Cd.seq ?_
  refine Cd.region ?_
  refine Ops.mv_int rfl rfl rfl ?_
  refine Ops.neq rfl rfl rfl ?_
  refine Ops.nil ?_
  refine thenQ_n ?_
  refine Cd.cond_p _ rfl (fun h4 => ?_) (fun h4 => ?_)
  · rw [skK_bad h4] at h19
    refine Cd.seq ?_
    refine Cd.region ?_
    refine Ops.fld h19 rfl rfl rfl rfl inferInstance ?_
    refine Ops.ldf_s h19 rfl rfl rfl rfl rfl ?_
    refine Ops.len rfl rfl ?_
    refine Ops.eql rfl rfl rfl ?_
    refine Ops.mv_bool rfl rfl rfl ?_
    refine Ops.nil ?_
    refine thenQ_n ?_
    refine Cd.ret ?_
    refine thenQ_r ?_
    refine ret1_b rfl ?_
    exact ⟨rfl, hW⟩
  have h4 := Classical.not_not.1 h4
  have eK : skK V F k = cxK (sklL F k) := by unfold skK; rw [if_pos hC, if_pos hk6, Int.toNat_natCast]
  have eS : skL V F k = cxL (sklL F k) := by unfold skL; rw [if_pos ⟨hC, hk6⟩, Int.toNat_natCast]
  have eW : skV V F k = cxV (sklL F k) := by unfold skV; rw [if_pos ⟨hC, hk6⟩, Int.toNat_natCast]
  rw [eK] at h4
  have hok := cx_ok h4
  have hCS := cx_cplx hS hok
  have hfs : fvP (cxL (sklL F k)) = (fvP F).take (k + 1) := by rw [fv_cx hS hok, skl_fv hkd]
  rw [eS] at hP
  rw [eS, eW] at h19
  have htl : ((fvP F).take (k + 1)).length = k + 1 := by rw [List.length_take, hfl]; omega
  refine Cd.skip ?_
  refine thenQ_n ?_
  refine Cd.seq ?_
  refine Cd.region ?_
  refine Ops.ld_agg 1 h19 rfl rfl rfl ?_
  refine Ops.call (FVector_c _ A19 _ c19 rs19 (cxL (sklL F k)) w27 hT hP hCS) rfl (by rw [eS]; rfl) rfl ?_
  rw [hfs]
  rintro _ w28 ⟨A23, c23, rfl, hst⟩
  have ho : RdI w28 A23 ((fvP F).take (k + 1)).length ((fvP F).take (k + 1)) := hst.rdI 0 rfl
  have hb := hst.below
  have hf := hf.later hb
  have hW := hW.later hb
  clear hst
  refine Ops.mv_tup rfl rfl rfl ?_
  refine Ops.extract rfl rfl rfl ?_
  refine Ops.extract rfl rfl rfl ?_
  refine Ops.mv_sl rfl rfl rfl ?_
  refine Ops.mv_int rfl rfl rfl ?_
  refine Ops.nil ?_
  refine thenQ_n ?_
  refine Cd.seq ?_
  refine Cd.region ?_
  refine Ops.mv_int rfl rfl rfl ?_
  refine Ops.eql rfl rfl rfl ?_
  refine Ops.mv_bool rfl rfl rfl ?_
  refine Ops.split_p 147 rfl (fun _ => ?_) (fun h => absurd rfl h) --t
  refine Ops.rung rfl rfl rfl ?_
  refine Ops.mv_sl rfl rfl rfl ?_
  refine Ops.rung rfl rfl rfl ?_
  refine Ops.len rfl rfl ?_
  refine Ops.rung rfl rfl rfl ?_
  refine Ops.mv_int rfl rfl rfl ?_
  refine Ops.rung rfl rfl rfl ?_
  refine Ops.add rfl rfl rfl (by omega) ?_
  refine Ops.rung rfl rfl rfl ?_
  refine Ops.eql rfl rfl rfl ?_
  refine Ops.pick_t rfl rfl rfl ?_
  refine Ops.mv_bool rfl rfl rfl ?_
  refine Ops.split_p 154 rfl (fun _ => ?_) (fun h => absurd (by rw [htl]; rfl) h) --t
  refine Ops.rung rfl rfl rfl ?_
  refine Ops.mv_sl rfl rfl rfl ?_
  refine Ops.rung rfl rfl rfl ?_
  refine Ops.mv_sl rfl rfl rfl ?_
  refine Ops.rung rfl rfl rfl ?_
  refine Ops.mv_int rfl rfl rfl ?_
  refine Ops.rung rfl rfl rfl ?_
  refine Ops.add rfl rfl rfl (by omega) ?_
  refine Ops.rung rfl rfl rfl ?_
  refine Ops.cut_h (h := ((k + 1 : Nat) : Int)) rfl rfl rfl (by omega) ?_
  refine Ops.rung rfl rfl rfl ?_
  refine Ops.call (likeInts_c A23 _ c23 _ A11 (k + 1) c11 ((fvP F).take (k + 1)) w28 ho (hf.take (by omega)) (by omega)) rfl rfl rfl ?_
  rintro _ w29 ⟨rfl, hst⟩
  refine Ops.pick_t rfl rfl rfl ?_
  refine Ops.mv_bool rfl rfl rfl ?_
  refine Ops.nil ?_
  refine thenQ_n ?_
  refine Cd.ret ?_
  refine ret1_b rfl ?_
  exact ⟨by rw [decide_eq_true rfl], hW.later hst.below⟩
end Go.Proofs.YtdedegbendjmbaaGreatDoor.Vc
