/-
  The walk of cloneManiplex. Conditions: as each states them.
-/
import Derived.Test.YtpdhjnacnmfbjaaG5
namespace Go.Proofs.Ytpdhjnacnmfbjaa.Vc
open Go.RowKit

/-- what a copy owns while it grows -/
def clK (Ab Ac Ad A : Option Addr) (n c : Nat) (A1 A3 : Option Addr) (k c1 c3 : Nat) (rs1 : List SlV) (rows : List Ck) : List Ck :=
  Bx 32 1 Ad [.slice A1 k c1] :: Bx 32 1 Ac [.slice none 0 0] :: Bx 32 1 Ab [.slice A n c] :: CkR 39 A3 c3 c1 rs1 :: rows

theorem cloneManiplex_c (A : Option Addr) (n c : Nat) (rs : List SlV) (xss : List (List Int)) (w : World) (hR : RowsI w A n rs xss) (hn : n ≤ 1000000000) (hr : ∀ i, i < n → (rs.getD i slNil).n ≤ 1000000000) :
    Ret Try.prog 114 [.agg #[.slice A n c]] w (fun v w' => ∃ A' c' rs', v = .agg #[.slice A' n c'] ∧ rs'.length = n ∧ St w w' (mat 39 2 A' n c' rs' xss)) := by
  refine Ret.of_cd Try.func114 rfl Try.ntmps114 rfl (postc rfl rfl) ?_
  refine Cd.seq ?_
  refine Cd.region ?_
  -- stop: BOX 32 t0=m -> 1
  refine Ops.box1 (St.refl w) rfl rfl ?_
  intro Ab w1 hS1
  refine Ops.new1 hS1 rfl ?_
  intro Ac w2 hS2
  refine Ops.nil ?_
  refine thenQ_n ?_
  refine Cd.seq ?_
  refine Cd.region ?_
  -- stop: ALLOC 32 -> 3
  refine Ops.new1 hS2 rfl ?_
  intro Ad w3 hS3
  have hS3 : St w w3 (Bx 32 1 Ad [.slice none 0 0] :: Bx 32 1 Ac [.slice none 0 0] :: Bx 32 1 Ab [.slice A n c] :: []) := hS3
  refine Ops.nil ?_
  refine thenQ_n ?_
  refine Cd.seq ?_
  refine Cd.seq ?_
  refine Cd.region ?_
  -- stop: FIELDADDR 32 t1=m 0 -> 6
  refine Ops.fld (hS3.rd 2 rfl) rfl rfl rfl rfl inferInstance ?_
  refine Ops.ldf_s (hS3.rd 2 rfl) rfl rfl rfl rfl rfl ?_
  refine Ops.len rfl rfl ?_
  refine Ops.mv_int rfl rfl rfl ?_
  refine Ops.nil ?_
  refine thenQ_n ?_
  refine Cd.block ?_
  -- stop: loop
  have hS0 : St w w3 (Bx 32 1 Ad [.slice none 0 0] :: Bx 32 1 Ac [.slice none 0 0] :: Bx 32 1 Ab [.slice A n c] :: CkR 39 none 0 0 [] :: []) :=
    (hS3.nil 39).perm (List.perm_append_comm (l₁ := [_]) (l₂ := [_, _, _]))
  refine Cd.loop (α := Nat × Option Addr × Nat × List SlV) (fun s => [(2, .pointer Ac), (3, .pointer Ad), (7, .slice A n c), (8, .int .i64 (n : Int)), (9, .int .i64 (s.1 : Int))]) (fun s w' => St w w' (Bx 32 1 Ad [.slice s.2.1 s.1 s.2.2.1] :: Bx 32 1 Ac [.slice none 0 0] :: Bx 32 1 Ab [.slice A n c] :: CkR 39 s.2.1 s.1 s.2.2.1 s.2.2.2 :: rowsCk 2 s.2.2.2 (xss.take s.1)) ∧ s.1 ≤ n ∧ s.2.2.2.length = s.1) (fun s => n - s.1) (0, none, 0, []) ⟨rfl, rfl, rfl, rfl, rfl, trivial⟩ ⟨hS0, Nat.zero_le _, rfl⟩ ?_
  rintro ⟨k, A3, c3, rs1⟩ e w4 ⟨hS4, hk, hlen⟩
  dsimp only at hS4 hk hlen ⊢
  refine Cd.seq ?_
  refine Cd.region ?_
  refine Ops.lss rfl rfl rfl ?_
  refine Ops.nil ?_
  refine thenQ_n ?_
  refine Cd.seq ?_
  -- stop: cond
  refine Cd.cond_p _ rfl (fun h1 => ?_) (fun h1 => ?_)
  · have hk' : k < n := by omega
    have hx : k < xss.length := by rw [hR.len]; exact hk'
    have hM := hS4.oldRows hR
    refine Cd.skip ?_
    refine thenQ_n ?_
    refine Cd.seq ?_
    refine Cd.block ?_
    refine Cd.seq ?_
    refine Cd.region ?_
    -- stop: INDEXADDR 25 t7 t9 -> 11
    refine Ops.idx hM.top.2 rfl rfl rfl (by omega) h1 ?_
    refine Ops.ld_sl hM.top rfl (by omega) rfl rfl ?_
    refine Ops.mv_sl rfl rfl rfl ?_
    refine Ops.nil ?_
    refine thenQ_n ?_
    -- stop: draw
    have hB := hS4.rd 0 rfl
    have hrow := hM.at_ (i := (k : Int)) (by omega) h1
    refine Cd.drawN [5, 7] [.ex (.pointer (ptrAt (Ad) 0)), .ex (.slice (A3) (k) (c3)), .ex (.slice ((rg rs k).a) ((rg rs k).n) ((rg rs k).c)), .pr (fun v w' => ∃ A4 c4, v = .slice A4 (rg rs k).n c4 ∧ St w w' (CkI 2 A4 (rg rs k).n c4 (gl xss k) :: Bx 32 1 Ad [.slice A3 k c3] :: Bx 32 1 Ac [.slice none 0 0] :: Bx 32 1 Ab [.slice A n c] :: CkR 39 A3 k c3 rs1 :: rowsCk 2 rs1 (xss.take k))), .pr (fun v w' => ∃ A4 c4 A9, v = .slice A9 1 1 ∧ St w w' (CkR 39 A9 1 1 [⟨A4, (rg rs k).n, c4⟩] :: CkI 2 A4 (rg rs k).n c4 (gl xss k) :: Bx 32 1 Ad [.slice A3 k c3] :: Bx 32 1 Ac [.slice none 0 0] :: Bx 32 1 Ab [.slice A n c] :: CkR 39 A3 k c3 rs1 :: rowsCk 2 rs1 (xss.take k))), .pr (fun v w' => ∃ A4 c4 A10 c10, v = .slice A10 (k + 1) c10 ∧ St w w' (CkI 2 A4 (rg rs k).n c4 (gl xss k) :: Bx 32 1 Ad [.slice A3 k c3] :: Bx 32 1 Ac [.slice none 0 0] :: Bx 32 1 Ab [.slice A n c] :: CkR 39 A10 (k + 1) c10 (rs1 ++ [⟨A4, (rg rs k).n, c4⟩]) :: rowsCk 2 rs1 (xss.take k))), .ex (.pointer (ptrAt (Ad) 0)), .pr (fun _ w' => ∃ A4 c4 A10 c10, St w w' (CkI 2 A4 (rg rs k).n c4 (gl xss k) :: Bx 32 1 Ad [.slice A10 (k + 1) c10] :: Bx 32 1 Ac [.slice none 0 0] :: Bx 32 1 Ab [.slice A n c] :: CkR 39 A10 (k + 1) c10 (rs1 ++ [⟨A4, (rg rs k).n, c4⟩]) :: rowsCk 2 rs1 (xss.take k)))] (by kernel_rfl) (by kernel_rfl) (List.forall_mem_cons.2 ⟨Yd.lasts_ex _, (List.forall_mem_cons.2 ⟨Yd.lasts_ex _, (List.forall_mem_cons.2 ⟨Yd.lasts_ex _, (List.forall_mem_cons.2 ⟨Yd.lasts_pr (fun v w w' h hb => by obtain ⟨A4, c4, hv, hT⟩ := h; exact ⟨A4, c4, hv, hT.later hb⟩), (List.forall_mem_cons.2 ⟨Yd.lasts_pr (fun v w w' h hb => by obtain ⟨A4, c4, A9, hv, hT⟩ := h; exact ⟨A4, c4, A9, hv, hT.later hb⟩), (List.forall_mem_cons.2 ⟨Yd.lasts_pr (fun v w w' h hb => by obtain ⟨A4, c4, A10, c10, hv, hT⟩ := h; exact ⟨A4, c4, A10, c10, hv, hT.later hb⟩), (List.forall_mem_cons.2 ⟨Yd.lasts_ex _, (List.forall_mem_cons.2 ⟨Yd.lasts_pr (fun v w w' h hb => by obtain ⟨A4, c4, A10, c10, hT⟩ := h; exact ⟨A4, c4, A10, c10, hT.later hb⟩), (fun _ h => by cases h)⟩)⟩)⟩)⟩)⟩)⟩)⟩)⟩) ⟨?_, ?_, ?_, ?_, ?_, ?_, ?_, ?_, trivial⟩ ?_
    · intro e1 w1 c hlo hhi hb0 hp hun
      show Ops _ _ _ _ _ _ _
      replace hlo := le_of_lo hlo (b := 0) (by kernel_rfl)
      replace hhi := le_of_hi hhi (b := 0) (by kernel_rfl)
      obtain rfl : c = 0 := by omega
      have hb := hb0 rfl
      refine Ops.fld (hB.below hb) rfl rfl rfl rfl inferInstance ?_
      refine Ops.nil ?_
      exact AfterN.dn rfl (Below.refl _ _) (by exact rfl)
    · intro e1 w1 c hlo hhi hb0 hp hun
      show Ops _ _ _ _ _ _ _
      replace hlo := le_of_lo hlo (b := 0) (by kernel_rfl)
      replace hhi := le_of_hi hhi (b := 0) (by kernel_rfl)
      obtain rfl : c = 0 := by omega
      have hb := hb0 rfl
      refine Ops.ldf_s (hB.below hb) rfl rfl rfl rfl rfl ?_
      refine Ops.nil ?_
      exact AfterN.dn rfl (Below.refl _ _) (by exact rfl)
    · intro e1 w1 c hlo hhi hb0 hp hun
      show Ops _ _ _ _ _ _ _
      refine Ops.mv_sl rfl rfl rfl ?_
      refine Ops.nil ?_
      exact AfterN.dn rfl (Below.refl _ _) (by exact rfl)
    · intro e1 w1 c hlo hhi hb0 hp hun
      show Ops _ _ _ _ _ _ _
      replace hlo := le_of_lo hlo (b := 0) (by kernel_rfl)
      replace hhi := le_of_hi hhi (b := 0) (by kernel_rfl)
      obtain rfl : c = 0 := by omega
      have hb := hb0 rfl
      refine Ops.call (Clone_c _ _ _ _ _ (hrow.later hb) (hr k hk')) rfl rfl rfl ?_
      rintro _ w2 ⟨A4, c4, rfl, hst⟩
      refine Ops.nil ?_
      exact AfterN.dn rfl hst.below ⟨A4, c4, rfl, (hS4.later hb).call hst⟩
    · intro e1 w1 c hlo hhi hb0 hp hun
      show Ops _ _ _ _ _ _ _
      replace hlo := le_of_lo hlo (b := 0) (by kernel_rfl)
      replace hhi := le_of_hi hhi (b := 0) (by kernel_rfl)
      obtain rfl : c = 0 := by omega
      have hb := hb0 rfl
      obtain ⟨A4, c4, h16, hT⟩ := (hp 3 _ _ (by kernel_rfl) rfl rfl (by kernel_rfl))
      have hb := hb0 rfl
      refine Ops.bs1R (St.refl _) (by exact h16) rfl rfl ?_
      intro A9 w9 hst
      refine Ops.nil ?_
      exact AfterN.dn rfl hst.below ⟨A4, c4, A9, rfl, hT.call hst⟩
    · intro e1 w1 c hlo hhi hb0 hp hun
      show Ops _ _ _ _ _ _ _
      replace hlo := le_of_lo hlo (b := 0) (by kernel_rfl)
      replace hhi := le_of_hi hhi (b := 0) (by kernel_rfl)
      obtain rfl : c = 0 := by omega
      have hb := hb0 rfl
      obtain ⟨A4, c4, A9, h17, hT⟩ := (hp 4 _ _ (by kernel_rfl) rfl rfl (by kernel_rfl))
      refine Ops.appR 5 hT rfl (hT.rdR 0 rfl) rfl (by exact h17) rfl (by omega) (by omega) rfl ?_
      intro A10 c10 w10 hT10
      refine Ops.nil ?_
      exact AfterT.dn rfl ⟨A4, c4, A10, c10, rfl, hT10.tail⟩
    · intro e1 w1 c hlo hhi hb0 hp hun
      show Ops _ _ _ _ _ _ _
      replace hlo := le_of_lo hlo (b := 1) (by kernel_rfl)
      replace hhi := le_of_hi hhi (b := 1) (by kernel_rfl)
      obtain rfl : c = 1 := by omega
      have hph := hp 5 _ _ (by kernel_rfl) rfl rfl (by kernel_rfl)
      obtain ⟨A4, c4, A10, c10, h18, hT⟩ := hph
      refine Ops.fld ((hT.rd 1 rfl)) rfl rfl rfl rfl inferInstance ?_
      refine Ops.nil ?_
      exact AfterN.dn rfl (Below.refl _ _) (by exact rfl)
    · intro e1 w1 c hlo hhi hb0 hp hun
      show Ops _ _ _ _ _ _ _
      replace hlo := le_of_lo hlo (b := 1) (by kernel_rfl)
      replace hhi := le_of_hi hhi (b := 1) (by kernel_rfl)
      obtain rfl : c = 1 := by omega
      have hph := hp 5 _ _ (by kernel_rfl) rfl rfl (by kernel_rfl)
      obtain ⟨A4, c4, A10, c10, h18, hT⟩ := hph
      refine Ops.stf 1 hT rfl rfl (by exact h18) rfl rfl ?_
      intro w11 hT11
      refine Ops.nil ?_
      exact AfterT.st rfl ⟨A4, c4, A10, c10, hT11⟩
    intro u w5 _ hu
    obtain ⟨A4, c4, A10, c10, hT⟩ := hu 7 _ rfl (by kernel_rfl)
    refine blockQ_n ?_
    refine thenQ_n ?_
    refine Cd.region ?_
    refine Ops.add rfl rfl rfl (by omega) ?_
    refine Ops.mv_int rfl rfl rfl ?_
    refine Ops.nil ?_
    refine thenQ_n ?_
    -- stop: round
    refine ⟨(k + 1, A10, c10, rs1 ++ [⟨A4, (rg rs k).n, c4⟩]), by show n - (k + 1) < n - k; omega, ⟨rfl, rfl, rfl, rfl, rfl, trivial⟩, ?_, hk', by simp [hlen]⟩
    have e2 : gl xss k = xss[k] := by simp [gl, List.getD_eq_getElem?_getD, List.getElem?_eq_getElem hx]
    show St w w5 (_ :: _ :: _ :: CkR _ A10 (k + 1) c10 (rs1 ++ [_]) :: rowsCk _ (rs1 ++ [_]) (xss.take (k + 1)))
    rw [List.take_succ_eq_append_getElem hx, rowsCk_append (by simp [hlen]; omega), ← e2]
    refine hT.perm ?_
    exact List.perm_append_comm (l₁ := [_]) (l₂ := _ :: _ :: _ :: _ :: rowsCk 2 rs1 (xss.take k))
  · refine Cd.exit ?_
    refine thenQ_x ?_
    refine thenQ_x ?_
    refine blockQ_x ?_
    refine thenQ_n ?_
    refine Cd.seq ?_
    refine Cd.region ?_
    -- stop: LOAD 32 t3=out -> 21
    have hkn : k = n := by omega
    subst hkn
    rw [← hR.len, List.take_length, hR.len] at hS4
    refine Ops.ld_agg 0 (hS4.rd 0 rfl) rfl rfl rfl ?_
    refine Ops.st_agg 1 1 hS4 rfl rfl rfl rfl rfl rfl rfl ?_
    intro w5 hS5
    refine Ops.nil ?_
    refine thenQ_n ?_
    refine Cd.ret ?_
    skip
    -- stop: end
    refine retc_r rfl (hS5.rd 1 rfl) ?_
    exact ⟨A3, c3, rs1, rfl, hlen, hS5.sub (((List.sublist_cons_self _ _).trans (List.sublist_cons_self _ _)).trans (List.sublist_cons_self _ _))⟩
end Go.Proofs.Ytpdhjnacnmfbjaa.Vc
