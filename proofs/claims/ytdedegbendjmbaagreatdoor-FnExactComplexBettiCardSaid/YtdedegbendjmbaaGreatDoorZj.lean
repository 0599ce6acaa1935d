/-
  The texts Co26, Sr2, Sr3, Sr4, Co27, Co28, Co29, Co23, Co30, Co31, Cw1, Rk8, Rk9, Co32, Drs, Rk10, Cx3 in one. Conditions: as each part states them.
-/
import Derived.Test.YtdedegbendjmbaaGreatDoorZh
import Derived.Test.YtdedegbendjmbaaGreatDoorZf
import Derived.Test.YtdedegbendjmbaaGreatDoorZg
import Derived.Test.YtdedegbendjmbaaGreatDoorZc
import Derived.Test.YtdedegbendjmbaaGreatDoorZa
import Derived.Test.YtdedegbendjmbaaGreatDoorZi
import Derived.Test.YtdedegbendjmbaaGreatDoorZe
import Derived.Test.YtdedegbendjmbaaGreatDoorZb
/-
  Parts of a list and faces with so many elements, walked in the reference. Conditions: as each states them.
-/
namespace Go.Proofs.YtdedegbendjmbaaGreatDoor.Vc
open Go.RowKit

/-- an answer: lists in memory of their own -/
def AnsL (L : List (List Int)) (w : World) (v : Value) (w' : World) : Prop := ∃ A c rs, v = .slice A L.length c ∧ rs.length = L.length ∧ St w w' (mat 25 2 A L.length c rs L ++ [])
theorem rowsCk_put {t : TypeId} {rs : List SlV} {xss : List (List Int)} (hl : rs.length = xss.length) (s : SlV) {x : List Int} (hx : ¬ x ∈ xss) : (rowsCk t (putR rs xss s x) (putL xss x)).Perm (CkI t s.a s.n s.c x :: rowsCk t rs xss) := by
  unfold putR putL
  rw [if_neg hx, if_neg hx, rowsCk_append (by simp [hl])]
  have e : rowsCk t rs xss = rowsCk t (rs.take (atL x xss)) (xss.take (atL x xss)) ++ rowsCk t (rs.drop (atL x xss)) (xss.drop (atL x xss)) := by
    rw [← rowsCk_append (by simp [hl]), List.take_append_drop, List.take_append_drop]
  rw [e]
  exact List.perm_middle
theorem putR_len {rs : List SlV} {xss : List (List Int)} (hl : rs.length = xss.length) (s : SlV) (x : List Int) : (putR rs xss s x).length = (putL xss x).length := by
  unfold putR putL
  split
  · exact hl
  · simp [hl]
/-- lists with the parts of a list put in, each behind the same front -/
def prP (L : List (List Int)) (xs ch : List Int) (m a : Nat) : List (List Int) := ((ptsP (xs.drop a) m).map (ch ++ ·)).foldl putL L
theorem prP_zero (L : List (List Int)) (xs ch : List Int) (a : Nat) : prP L xs ch 0 a = putL L ch := by
  unfold prP
  have e0 : ptsP (xs.drop a) 0 = [[]] := by cases xs.drop a <;> rfl
  rw [e0]; simp
theorem prP_step {L : List (List Int)} {xs ch : List Int} {m i : Nat} (h : i < xs.length) : prP L xs ch (m + 1) i = prP (prP L xs (ch ++ [gi xs (i : Int)]) m (i + 1)) xs ch (m + 1) (i + 1) := by
  unfold prP
  rw [ptsP_step h, List.map_append, List.foldl_append, List.map_map]
  congr 2
  exact List.map_congr_left fun x _ => by simp
theorem prP_end {L : List (List Int)} {xs ch : List Int} {m i : Nat} (h : xs.length ≤ i) : prP L xs ch (m + 1) i = L := by
  unfold prP
  rw [ptsP_short (by rw [List.length_drop]; omega)]; rfl
theorem prP_SL {L : List (List Int)} (h : SL L) (xs ch : List Int) (m a : Nat) : SL (prP L xs ch m a) := (foldPut_SL _ h).1
theorem prP_len (L : List (List Int)) (xs ch : List Int) (m a : Nat) : (prP L xs ch m a).length ≤ L.length + (ptsP (xs.drop a) m).length := by
  have := foldPut_len ((ptsP (xs.drop a) m).map (ch ++ ·)) L
  rwa [List.length_map] at this

/-- an answer: lists in memory of their own, beside other memory of one's own -/
def AnsP (L : List (List Int)) (w0 : World) (ks : List Ck) (w : World) (v : Value) (w' : World) : Prop := ∃ A c rs, v = .slice A L.length c ∧ rs.length = L.length ∧ Below w.heap.size w w' ∧ St w0 w' (mat 25 2 A L.length c rs L ++ ks)

set_option maxHeartbeats 1000000 in
theorem l17Parts_c (xs : List Int) (Ax : Option Addr) (nx cx : Nat) (hnx : nx ≤ 1000000) : ∀ (m : Nat) (A : Option Addr) (c : Nat) (rs : List SlV) (L : List (List Int)) (B : Option Addr) (cB : Nat) (ch : List Int) (k a : Nat) (w0 w : World) (ks : List Ck), St w0 w (mat 25 2 A L.length c rs L ++ (CkI 2 B ch.length cB ch :: ks)) → rs.length = L.length → SL L → L.length + (ptsP (xs.drop a) m).length ≤ 100000000 → RdI w Ax nx xs → ch.length + m = k → a ≤ nx →
    k ≤ 1000000 → Ret Tryz.prog 100 [.slice A L.length c, .slice Ax nx cx, .int .i64 (k : Int), .slice B ch.length cB, .int .i64 (a : Int)] w (AnsP (prP L xs ch m a) w0 ks w) := by
  intro m
  induction m with
  | zero =>
    intro A c rs L B cB ch k a w0 w ks hS hrl hs hN hX hk ha hk2
    have hR : RowsI w A L.length rs L := St.rowsI hS rfl
    have hS2 : St w0 w (CkI 2 B ch.length cB ch :: (mat 25 2 A L.length c rs L ++ ks)) := hS.perm List.perm_middle
    have hcA : L.length ≤ c := (hS.cap 0 rfl).1
    refine Ret.of_cd Tryz.func100 rfl Tryz.ntmps100 rfl (post1 rfl) ?_
    refine Cd.seq ?_
    refine Cd.region ?_
    refine Ops.mv_sl rfl rfl rfl ?_
    refine Ops.nil ?_
    refine thenQ_n ?_
    refine Cd.seq ?_
    refine Cd.seq ?_
    refine Cd.region ?_
    refine Ops.mv_sl rfl rfl rfl ?_
    refine Ops.len rfl rfl ?_
    refine Ops.mv_int rfl rfl rfl ?_
    refine Ops.eql rfl rfl rfl ?_
    refine Ops.nil ?_
    refine thenQ_n ?_
    refine Cd.cond_p _ rfl (fun h1 => ?_) (fun h1 => absurd h1 (by omega))
    refine Cd.seq ?_
    refine Cd.region ?_
    refine Ops.mv_sl rfl rfl rfl ?_
    refine Ops.mv_sl rfl rfl rfl ?_
    refine Ops.call (l17Put_c A _ c rs L B _ cB ch _ hR hcA (hS2.rdI 0 rfl) (by omega) (by omega) hs) rfl rfl rfl ?_
    rintro _ w3 ⟨A5, c5, rfl, hc5, hb5, hor⟩
    rw [prP_zero]
    refine Ops.mv_sl rfl rfl rfl ?_
    refine Ops.nil ?_
    refine thenQ_n ?_
    refine Cd.ret ?_
    refine thenQ_r ?_
    refine ret1_s rfl ?_
    rcases hor with ⟨rfl, rfl, hx⟩ | ⟨hx, hst⟩
    · have e : putL L ch = L := by unfold putL; rw [if_pos hx]
      rw [e]
      exact ⟨A5, c5, rs, rfl, hrl, hb5, hS2.tail.later hb5⟩
    · refine ⟨A5, c5, putR rs L ⟨B, ch.length, cB⟩ ch, rfl, putR_len hrl _ _, hb5, ?_⟩
      have h1 : St w0 w3 (CkR 25 A5 (putL L ch).length c5 (putR rs L ⟨B, ch.length, cB⟩ ch) :: (CkI 2 B ch.length cB ch :: (rowsCk 2 rs L ++ ks))) := (hS2.call hst).sub (List.Sublist.cons_cons _ (List.Sublist.cons_cons _ (List.sublist_cons_self _ _)))
      exact h1.perm (List.Perm.cons _ ((rowsCk_put hrl ⟨B, ch.length, cB⟩ hx).symm.append_right ks))
  | succ m ih =>
    intro A c rs L B cB ch k a w0 w ks hS hrl hs hN hX hk ha hk2
    have hxl := hX.1
    refine Ret.of_cd Tryz.func100 rfl Tryz.ntmps100 rfl (post1 rfl) ?_
    refine Cd.seq ?_
    refine Cd.region ?_
    refine Ops.mv_sl rfl rfl rfl ?_
    refine Ops.nil ?_
    refine thenQ_n ?_
    refine Cd.seq ?_
    refine Cd.seq ?_
    refine Cd.region ?_
    refine Ops.mv_sl rfl rfl rfl ?_
    refine Ops.len rfl rfl ?_
    refine Ops.mv_int rfl rfl rfl ?_
    refine Ops.eql rfl rfl rfl ?_
    refine Ops.nil ?_
    refine thenQ_n ?_
    refine Cd.cond_pf rfl (by omega) ?_
    refine Cd.skip ?_
    refine thenQ_n ?_
    refine Cd.seq ?_
    refine Cd.seq ?_
    refine Cd.region ?_
    refine Ops.mv_int rfl rfl rfl ?_
    refine Ops.mv_int rfl rfl rfl ?_
    refine Ops.nil ?_
    refine thenQ_n ?_
    refine Cd.block ?_
    refine Cd.loop (α := Nat × (Option Addr × Nat) × List SlV × List (List Int)) (fun z => [(0, .slice z.2.1.1 z.2.2.2.length z.2.1.2), (1, .slice Ax nx cx), (2, .int .i64 (k : Int)), (3, .slice B ch.length cB), (11, .int .i64 (z.1 : Int))])
      (fun z w' => z.1 ≤ nx ∧ Below w.heap.size w w' ∧ St w0 w' (mat 25 2 z.2.1.1 z.2.2.2.length z.2.1.2 z.2.2.1 z.2.2.2 ++ (CkI 2 B ch.length cB ch :: ks)) ∧ z.2.2.1.length = z.2.2.2.length ∧ SL z.2.2.2 ∧ z.2.2.2.length + (ptsP (xs.drop z.1) (m + 1)).length ≤ 100000000 ∧ prP z.2.2.2 xs ch (m + 1) z.1 = prP L xs ch (m + 1) a) (fun z => nx - z.1) (a, (A, c), rs, L) ⟨rfl, rfl, rfl, rfl, rfl, trivial⟩ ⟨ha, Below.refl _ _, hS, hrl, hs, hN, rfl⟩ ?_
    rintro ⟨i, ⟨A1, c1⟩, rs1, L1⟩ e wB ⟨hi, hb1, hS1, hrl1, hs1, hN1, hP1⟩
    dsimp only at hi hb1 hS1 hrl1 hs1 hN1 hP1 ⊢
    refine Cd.seq ?_
    refine Cd.seq ?_
    refine Cd.region ?_
    refine Ops.mv_int rfl rfl rfl ?_
    refine Ops.mv_sl rfl rfl rfl ?_
    refine Ops.len rfl rfl ?_
    refine Ops.lss rfl rfl rfl ?_
    refine Ops.nil ?_
    refine thenQ_n ?_
    refine Cd.cond_p _ rfl (fun h2 => ?_) (fun h2 => ?_)
    · have hin : i < xs.length := by omega
      have hX1 := hX.later hb1
      have hB1 : RdI wB B ch.length ch := (hS1.perm List.perm_middle).rdI 0 rfl
      have hst := ptsP_step (k := m) hin
      have hsl : (ptsP (xs.drop i) (m + 1)).length = (ptsP (xs.drop (i + 1)) m).length + (ptsP (xs.drop (i + 1)) (m + 1)).length := by rw [hst, List.length_append, List.length_map]
      have hlen2 := prP_len L1 xs (ch ++ [gi xs (i : Int)]) m (i + 1)
      have hcl : (ch ++ [gi xs (i : Int)]).length = ch.length + 1 := by simp
      have hih : ∀ (A5 : Option Addr) (c5 : Nat) (w2 : World), St wB w2 [CkI 2 A5 (ch.length + 1) c5 (ch ++ [gi xs (i : Int)])] → Ret Tryz.prog 100 [.slice A1 L1.length c1, .slice Ax nx cx, .int .i64 (k : Int), .slice A5 (ch.length + 1) c5, .int .i64 ((i + 1 : Nat) : Int)] w2 (AnsP (prP L1 xs (ch ++ [gi xs (i : Int)]) m (i + 1)) w0 (CkI 2 B ch.length cB ch :: ks) w2) := fun A5 c5 w2 h1 => by
        have h2 : St w0 w2 (mat 25 2 A1 L1.length c1 rs1 L1 ++ (CkI 2 A5 (ch ++ [gi xs (i : Int)]).length c5 (ch ++ [gi xs (i : Int)]) :: (CkI 2 B ch.length cB ch :: ks))) := by
          rw [hcl]
          exact (show St w0 w2 (CkI 2 A5 (ch.length + 1) c5 (ch ++ [gi xs (i : Int)]) :: (mat 25 2 A1 L1.length c1 rs1 L1 ++ (CkI 2 B ch.length cB ch :: ks))) from hS1.call h1).perm List.perm_middle.symm
        have := ih A1 c1 rs1 L1 A5 c5 (ch ++ [gi xs (i : Int)]) k (i + 1) w0 w2 _ h2 hrl1 hs1 (by omega) (hX1.later h1.below) (by rw [hcl]; omega) (by omega) hk2
        rwa [hcl] at this
      rw [prP_step hin] at hP1
      generalize hL2 : prP L1 xs (ch ++ [gi xs (i : Int)]) m (i + 1) = L2 at *
      have hs2 : SL L2 := by rw [← hL2]; exact prP_SL hs1 _ _ _ _
      refine Cd.skip ?_
      refine thenQ_n ?_
      refine Cd.seq ?_
      refine Cd.block ?_
      refine Cd.drawN [10] [.ex (.slice (A1) (L1.length) (c1)), .ex (.slice (Ax) (nx) (cx)), .ex (.int .i64 ((k : Int))), .ex (.slice (B) (ch.length) (cB)), .pr (fun v w' => ∃ A4 c4, v = .slice A4 ch.length c4 ∧ St wB w' [CkI 2 A4 ch.length c4 ch]), .ex (.slice (Ax) (nx) (cx)), .ex (.int .i64 ((i : Int))), .ex (.pointer (ptrAt (Ax) ((i : Int)).toNat)), .ex (.int .i64 (gi (xs) ((i : Int)))), .pr (fun v w' => ∃ A9, v = .slice A9 1 1 ∧ RdI w' A9 1 [gi xs (i : Int)]), .pr (fun v w' => ∃ A5 c5, v = .slice A5 (ch.length + 1) c5 ∧ St wB w' [CkI 2 A5 (ch.length + 1) c5 (ch ++ [gi xs (i : Int)])]), .ex (.int .i64 ((i : Int))), .ex (.int .i64 (((i : Int)) + ((1 : Int)))), .pr (fun v w' => ∃ A6 c6 rs6, v = .slice A6 L2.length c6 ∧ rs6.length = L2.length ∧ Below wB.heap.size wB w' ∧ St w0 w' (mat 25 2 A6 L2.length c6 rs6 L2 ++ (CkI 2 B ch.length cB ch :: ks))), .pr (fun v w' => ∃ A6 c6 rs6, v = .slice A6 L2.length c6 ∧ rs6.length = L2.length ∧ Below wB.heap.size wB w' ∧ St w0 w' (mat 25 2 A6 L2.length c6 rs6 L2 ++ (CkI 2 B ch.length cB ch :: ks)))] (by kernel_rfl) (by kernel_rfl) (List.forall_mem_cons.2 ⟨Yd.lasts_ex _, (List.forall_mem_cons.2 ⟨Yd.lasts_ex _, (List.forall_mem_cons.2 ⟨Yd.lasts_ex _, (List.forall_mem_cons.2 ⟨Yd.lasts_ex _, (List.forall_mem_cons.2 ⟨Yd.lasts_pr (fun v w w' h hb => by obtain ⟨A4, c4, hv, hT⟩ := h; exact ⟨A4, c4, hv, hT.later hb⟩), (List.forall_mem_cons.2 ⟨Yd.lasts_ex _, (List.forall_mem_cons.2 ⟨Yd.lasts_ex _, (List.forall_mem_cons.2 ⟨Yd.lasts_ex _, (List.forall_mem_cons.2 ⟨Yd.lasts_ex _, (List.forall_mem_cons.2 ⟨Yd.lasts_pr (fun v w w' h hb => by obtain ⟨A9, hv, hT⟩ := h; exact ⟨A9, hv, hT.later hb⟩), (List.forall_mem_cons.2 ⟨Yd.lasts_pr (fun v w w' h hb => by obtain ⟨A5, c5, hv, hT⟩ := h; exact ⟨A5, c5, hv, hT.later hb⟩), (List.forall_mem_cons.2 ⟨Yd.lasts_ex _, (List.forall_mem_cons.2 ⟨Yd.lasts_ex _, (List.forall_mem_cons.2 ⟨Yd.lasts_pr (fun v w w' h hb => by obtain ⟨A6, c6, rs6, hv, hr6, hb6, hS6⟩ := h; exact ⟨A6, c6, rs6, hv, hr6, hb6.trans (hb.mono hb6.size), hS6.later hb⟩), (List.forall_mem_cons.2 ⟨Yd.lasts_pr (fun v w w' h hb => by obtain ⟨A6, c6, rs6, hv, hr6, hb6, hS6⟩ := h; exact ⟨A6, c6, rs6, hv, hr6, hb6.trans (hb.mono hb6.size), hS6.later hb⟩), (fun _ h => by cases h)⟩)⟩)⟩)⟩)⟩)⟩)⟩)⟩)⟩)⟩)⟩)⟩)⟩)⟩)⟩) ⟨?_, ?_, ?_, ?_, ?_, ?_, ?_, ?_, ?_, ?_, ?_, ?_, ?_, ?_, ?_, trivial⟩ ?_
      · intro e1 w1 cc hlo hhi hb0 hp hun hq
        show Ops _ _ _ _ _ _ _
        refine Ops.mv_sl rfl (by exact hun 14 _ rfl (by kernel_rfl)) rfl ?_
        refine Ops.nil ?_
        exact AfterN.dn rfl (Below.refl _ _) (by exact rfl)
      · intro e1 w1 cc hlo hhi hb0 hp hun hq
        show Ops _ _ _ _ _ _ _
        refine Ops.mv_sl rfl rfl rfl ?_
        refine Ops.nil ?_
        exact AfterN.dn rfl (Below.refl _ _) (by exact rfl)
      · intro e1 w1 cc hlo hhi hb0 hp hun hq
        show Ops _ _ _ _ _ _ _
        refine Ops.mv_int rfl rfl rfl ?_
        refine Ops.nil ?_
        exact AfterN.dn rfl (Below.refl _ _) (by exact rfl)
      · intro e1 w1 cc hlo hhi hb0 hp hun hq
        show Ops _ _ _ _ _ _ _
        refine Ops.mv_sl rfl rfl rfl ?_
        refine Ops.nil ?_
        exact AfterN.dn rfl (Below.refl _ _) (by exact rfl)
      · intro e1 w1 cc hlo hhi hb0 hp hun hq
        show Ops _ _ _ _ _ _ _
        replace hlo := le_of_lo hlo (b := 0) (by kernel_rfl)
        replace hhi := le_of_hi hhi (b := 0) (by kernel_rfl)
        obtain rfl : cc = 0 := by omega
        have hb := hb0 rfl
        refine Ops.call (l01Own_c B _ cB ch _ (hB1.later hb) (by omega)) rfl rfl rfl ?_
        rintro _ w2 ⟨A4, c4, rfl, hst⟩
        refine Ops.nil ?_
        exact AfterN.dn rfl hst.below ⟨A4, c4, rfl, ((St.refl wB).later hb).call hst⟩
      · intro e1 w1 cc hlo hhi hb0 hp hun hq
        show Ops _ _ _ _ _ _ _
        refine Ops.mv_sl rfl rfl rfl ?_
        refine Ops.nil ?_
        exact AfterN.dn rfl (Below.refl _ _) (by exact rfl)
      · intro e1 w1 cc hlo hhi hb0 hp hun hq
        show Ops _ _ _ _ _ _ _
        refine Ops.mv_int rfl rfl rfl ?_
        refine Ops.nil ?_
        exact AfterN.dn rfl (Below.refl _ _) (by exact rfl)
      · intro e1 w1 cc hlo hhi hb0 hp hun hq
        show Ops _ _ _ _ _ _ _
        replace hlo := le_of_lo hlo (b := 0) (by kernel_rfl)
        replace hhi := le_of_hi hhi (b := 0) (by kernel_rfl)
        obtain rfl : cc = 0 := by omega
        have hb := hb0 rfl
        refine Ops.idx (hX1.later hb).2 rfl rfl rfl (by omega) (by omega) ?_
        refine Ops.nil ?_
        exact AfterN.dn rfl (Below.refl _ _) (by exact rfl)
      · intro e1 w1 cc hlo hhi hb0 hp hun hq
        show Ops _ _ _ _ _ _ _
        replace hlo := le_of_lo hlo (b := 0) (by kernel_rfl)
        replace hhi := le_of_hi hhi (b := 0) (by kernel_rfl)
        obtain rfl : cc = 0 := by omega
        have hb := hb0 rfl
        refine Ops.ld_int (hX1.later hb) rfl (by omega) rfl rfl ?_
        refine Ops.nil ?_
        exact AfterN.dn rfl (Below.refl _ _) (by exact rfl)
      · intro e1 w1 cc hlo hhi hb0 hp hun hq
        show Ops _ _ _ _ _ _ _
        refine Ops.bs1I (St.refl _) rfl rfl rfl ?_
        intro A9 w9 hst
        refine Ops.nil ?_
        exact AfterN.dn rfl hst.below ⟨A9, rfl, hst.rdI 0 rfl⟩
      · intro e1 w1 cc hlo hhi hb0 hp hun hq
        show Ops _ _ _ _ _ _ _
        replace hlo := le_of_lo hlo (b := 0) (by kernel_rfl)
        replace hhi := le_of_hi hhi (b := 0) (by kernel_rfl)
        obtain rfl : cc = 0 := by omega
        have hb := hb0 rfl
        obtain ⟨A4, c4, h30, hT0⟩ := (hp 4 _ _ (by kernel_rfl) rfl rfl (by kernel_rfl))
        obtain ⟨A9, h35, hT2⟩ := (hp 9 _ _ (by kernel_rfl) rfl rfl (by kernel_rfl))
        refine Ops.appI 0 hT0 rfl hT2 (by exact h30) (by exact h35) rfl (by omega) (by omega) rfl ?_
        intro A5 c5 w10 hT10
        refine Ops.nil ?_
        exact AfterT.dn rfl ⟨A5, c5, rfl, hT10⟩
      · intro e1 w1 cc hlo hhi hb0 hp hun hq
        show Ops _ _ _ _ _ _ _
        refine Ops.mv_int rfl rfl rfl ?_
        refine Ops.nil ?_
        exact AfterN.dn rfl (Below.refl _ _) (by exact rfl)
      · intro e1 w1 cc hlo hhi hb0 hp hun hq
        show Ops _ _ _ _ _ _ _
        refine Ops.add rfl rfl rfl (by omega) ?_
        refine Ops.nil ?_
        exact AfterN.dn rfl (Below.refl _ _) (by exact rfl)
      · intro e1 w1 cc hlo hhi hb0 hp hun hq
        show Ops _ _ _ _ _ _ _
        replace hlo := le_of_lo hlo (b := 1) (by kernel_rfl)
        replace hhi := le_of_hi hhi (b := 1) (by kernel_rfl)
        obtain rfl : cc = 1 := by omega
        have hph := hp 10 _ _ (by kernel_rfl) rfl rfl (by kernel_rfl)
        obtain ⟨A5, c5, h36, hT⟩ := (hp 10 _ _ (by kernel_rfl) rfl rfl (by kernel_rfl))
        refine Ops.call (hih A5 c5 _ hT) rfl (by exact congrArg (fun v => [Value.slice A1 L1.length c1, .slice Ax nx cx, .int .i64 (k : Int), v, .int .i64 ((i : Int) + 1)]) h36) rfl ?_
        rintro _ w2 ⟨A6, c6, rs6, rfl, hr6, hb6, hS6⟩
        refine Ops.nil ?_
        exact AfterN.dn rfl hb6 ⟨A6, c6, rs6, rfl, hr6, hT.below.trans (hb6.mono hT.below.size), hS6⟩
      · intro e1 w1 cc hlo hhi hb0 hp hun hq
        show Ops _ _ _ _ _ _ _
        replace hlo := le_of_lo hlo (b := 1) (by kernel_rfl)
        replace hhi := le_of_hi hhi (b := 1) (by kernel_rfl)
        obtain rfl : cc = 1 := by omega
        have hph := hp 10 _ _ (by kernel_rfl) rfl rfl (by kernel_rfl)
        obtain ⟨A6, c6, rs6, h39, hr6, hb6, hS6⟩ := (hp 13 _ _ (by kernel_rfl) rfl rfl (by kernel_rfl))
        refine Ops.mv_sl rfl (by exact h39) rfl ?_
        refine Ops.nil ?_
        exact AfterN.dn rfl (Below.refl _ _) ⟨A6, c6, rs6, rfl, hr6, hb6, hS6⟩
      intro u w3 _ hu
      obtain ⟨A6, c6, rs6, hv, hr6, hb6, hS6⟩ := hu 14 _ rfl (by kernel_rfl)
      refine blockQ_n ?_
      refine thenQ_n ?_
      refine Cd.region ?_
      refine Ops.mv_int rfl rfl rfl ?_
      refine Ops.add rfl rfl rfl (by omega) ?_
      refine Ops.mv_int rfl rfl rfl ?_
      refine Ops.nil ?_
      refine thenQ_n ?_
      exact ⟨(i + 1, (A6, c6), rs6, L2), by show nx - (i + 1) < nx - i; omega, ⟨hv, rfl, rfl, rfl, rfl, trivial⟩, by show i + 1 ≤ nx; omega, hb1.trans (hb6.mono hb1.size), hS6, hr6, hs2, by show L2.length + (ptsP (xs.drop (i + 1)) (m + 1)).length ≤ _; omega, hP1⟩
    · rw [prP_end (by omega)] at hP1
      rw [← hP1]
      refine Cd.exit ?_
      refine thenQ_x ?_
      refine thenQ_x ?_
      refine blockQ_x ?_
      refine thenQ_n ?_
      refine Cd.seq ?_
      refine Cd.region ?_
      refine Ops.mv_sl rfl rfl rfl ?_
      refine Ops.mv_sl rfl rfl rfl ?_
      refine Ops.nil ?_
      refine thenQ_n ?_
      refine Cd.ret ?_
      refine ret1_s rfl ?_
      exact ⟨A1, c1, rs1, rfl, hrl1, hb1, hS1.sub ((List.Sublist.refl _).append (List.sublist_cons_self _ _))⟩

theorem faP_step {F : List (List Int)} {k i : Nat} (hk : k ≠ 0) (h : i < F.length) : (faL (F.take (i + 1)) k).foldl putL [] = prP ((faL (F.take i) k).foldl putL []) (gl F (i : Int)) [] k 0 := by
  unfold faL prP
  rw [if_neg hk, if_neg hk, take_succ_gl h, List.flatMap_append, List.foldl_append]
  simp

theorem l17Faces_c (V : Int) (A : Option Addr) (n c : Nat) (rs : List SlV) (F : List (List Int)) (k : Nat) (w : World) (hR : RowsI w A n rs F) (hn : n ≤ 1000) (h6 : ∀ f ∈ F, f.length ≤ 6) (hk : k ≤ 1000) :
    Ret Tryz.prog 77 [.agg #[.int .i64 V, .slice A n c], .int .i64 (k : Int)] w (AnsL (fcs F k) w) := by
  have hFl := hR.len
  refine Ret.of_cd Tryz.func77 rfl Tryz.ntmps77 rfl (post1 rfl) ?_
  refine Cd.seq ?_
  refine Cd.region ?_
  refine Ops.box2 (St.refl w) rfl rfl ?_
  intro Ab w1 hS1
  refine Ops.mv_sl rfl rfl rfl ?_
  refine Ops.nil ?_
  refine thenQ_n ?_
  refine Cd.seq ?_
  refine Cd.region ?_
  refine Ops.bs0 hS1 rfl ?_
  intro A5 w2 hS2
  have hS2 : St w w2 [CkR 25 A5 0 0 [], cxB Ab V A n c] := hS2
  refine Ops.mv_sl rfl rfl rfl ?_
  refine Ops.nil ?_
  refine thenQ_n ?_
  refine Cd.seq ?_
  refine Cd.seq ?_
  refine Cd.region ?_
  refine Ops.mv_int rfl rfl rfl ?_
  refine Ops.eql rfl rfl rfl ?_
  refine Ops.nil ?_
  refine thenQ_n ?_
  refine Cd.cond_p _ rfl (fun h1 => ?_) (fun h1 => ?_)
  · have hk0 : k = 0 := by omega
    subst hk0
    rw [fcs_zero]
    refine Cd.seq ?_
    refine Cd.region ?_
    refine Ops.bs0 hS2 rfl ?_
    intro A6 w3 hS3
    refine Ops.bs1R hS3 rfl rfl rfl ?_
    intro A7 w4 hS4
    have hS4 : St w w4 [CkR 25 A7 1 1 [⟨A6, 0, 0⟩], CkI 2 A6 0 0 [], CkR 25 A5 0 0 [], cxB Ab V A n c] := hS4
    refine Ops.mv_sl rfl rfl rfl ?_
    refine Ops.nil ?_
    refine thenQ_n ?_
    refine Cd.ret ?_
    refine thenQ_r ?_
    refine ret1_s rfl ?_
    exact ⟨A7, 1, [⟨A6, 0, 0⟩], rfl, rfl, hS4.sub (List.Sublist.cons_cons _ (List.Sublist.cons_cons _ (List.nil_sublist _)))⟩
  · have hk0 : k ≠ 0 := by omega
    have hB2 : Rd w2 Ab 2 (fun j => [Value.int .i64 V, .slice A n c].getD j undef) := hS2.rd 1 rfl
    refine Cd.skip ?_
    refine thenQ_n ?_
    refine Cd.seq ?_
    refine Cd.seq ?_
    refine Cd.region ?_
    refine Ops.mv_int rfl rfl rfl ?_
    refine Ops.nil ?_
    refine thenQ_n ?_
    refine Cd.block ?_
    refine Cd.loop (α := Nat × (Option Addr × Nat) × List SlV × List (List Int)) (fun z => [(1, .int .i64 (k : Int)), (2, .pointer Ab), (5, .slice z.2.1.1 z.2.2.2.length z.2.1.2), (6, .int .i64 (z.1 : Int))])
      (fun z w' => z.1 ≤ n ∧ St w w' (mat 25 2 z.2.1.1 z.2.2.2.length z.2.1.2 z.2.2.1 z.2.2.2 ++ [cxB Ab V A n c]) ∧ z.2.2.1.length = z.2.2.2.length ∧ SL z.2.2.2 ∧ z.2.2.2 = (faL (F.take z.1) k).foldl putL []) (fun z => n - z.1) (0, (A5, 0), [], []) ⟨rfl, rfl, rfl, rfl, trivial⟩ ⟨Nat.zero_le _, hS2, rfl, by simp [SL], by show [] = (faL (F.take 0) k).foldl putL []; unfold faL; rw [if_neg hk0]; rfl⟩ ?_
    rintro ⟨i, ⟨A1, c1⟩, rs1, L1⟩ e w3 ⟨hi, hS3, hrl1, hs1, hL1⟩
    dsimp only at hi hS3 hrl1 hs1 hL1 ⊢
    have hB3 := (hS3.perm List.perm_append_comm).rd 0 rfl
    refine Cd.seq ?_
    refine Cd.seq ?_
    refine Cd.region ?_
    refine Ops.mv_int rfl rfl rfl ?_
    refine Ops.fld hB3 rfl rfl rfl rfl inferInstance ?_
    refine Ops.ldf_s hB3 rfl rfl rfl rfl rfl ?_
    refine Ops.len rfl rfl ?_
    refine Ops.lss rfl rfl rfl ?_
    refine Ops.nil ?_
    refine thenQ_n ?_
    refine Cd.cond_p _ rfl (fun h3 => ?_) (fun h3 => ?_)
    · have hiF : i < F.length := by omega
      have hM := hS3.oldRows hR
      have hrow := hM.at_ (i := (i : Int)) (by omega) (by omega)
      have hrl := hrow.1
      have hfl := h6 (gl F (i : Int)) (by rw [gl_mem hiF]; exact List.getElem_mem _)
      have hstep := faP_step hk0 hiF
      rw [← hL1] at hstep
      have hpn := ptsP_small (l := (gl F (i : Int)).drop 0) k (by simpa using hfl)
      have hnum := faL_num (F := F.take i) k fun f hf => h6 f (List.mem_of_mem_take hf)
      have hfl2 := foldPut_len (faL (F.take i) k) []
      rw [← hL1] at hfl2
      have htl : (F.take i).length ≤ 1000 := by simp; omega
      have hl0 : ([] : List (List Int)).length = 0 := rfl
      refine Cd.skip ?_
      refine thenQ_n ?_
      refine Cd.seq ?_
      refine Cd.block ?_
      refine Cd.region ?_
      refine Ops.mv_sl rfl rfl rfl ?_
      refine Ops.fld hB3 rfl rfl rfl rfl inferInstance ?_
      refine Ops.ldf_s hB3 rfl rfl rfl rfl rfl ?_
      refine Ops.mv_int rfl rfl rfl ?_
      refine Ops.idx hM.top.2 rfl rfl rfl (by omega) (by omega) ?_
      refine Ops.ld_sl hM.top rfl (by omega) rfl rfl ?_
      refine Ops.mv_int rfl rfl rfl ?_
      refine Ops.bs0 (St.refl w3) rfl ?_
      intro A8 w4 hT4
      have hT4 : St w3 w4 [CkI 2 A8 ([] : List Int).length 0 []] := hT4
      have hS4 := (hS3.call hT4).perm (List.perm_middle (l₁ := mat 25 2 A1 L1.length c1 rs1 L1)).symm
      refine Ops.call (l17Parts_c (gl F (i : Int)) _ _ _ (by omega) k A1 c1 rs1 L1 A8 0 [] k 0 w w4 [cxB Ab V A n c] hS4 hrl1 hs1 (by omega) (hrow.later hT4.below) (by simp) (by omega) (by omega)) rfl rfl rfl ?_
      rintro _ w5 ⟨A6, c6, rs6, rfl, hr6, hb6, hS6⟩
      rw [← hstep] at hS6 hr6 ⊢
      refine Ops.mv_sl rfl rfl rfl ?_
      refine Ops.nil ?_
      refine blockQ_n ?_
      refine thenQ_n ?_
      refine Cd.region ?_
      refine Ops.mv_int rfl rfl rfl ?_
      refine Ops.add rfl rfl rfl (by omega) ?_
      refine Ops.mv_int rfl rfl rfl ?_
      refine Ops.nil ?_
      refine thenQ_n ?_
      exact ⟨(i + 1, (A6, c6), rs6, _), by show n - (i + 1) < n - i; omega, ⟨rfl, rfl, rfl, rfl, trivial⟩, by show i + 1 ≤ n; omega, hS6, hr6, (foldPut_SL _ (by simp [SL])).1, rfl⟩
    · rw [List.take_of_length_le (by omega)] at hL1
      have hL2 : L1 = fcs F k := hL1
      subst hL2
      refine Cd.exit ?_
      refine thenQ_x ?_
      refine thenQ_x ?_
      refine blockQ_x ?_
      refine thenQ_n ?_
      refine Cd.seq ?_
      refine Cd.region ?_
      refine Ops.mv_sl rfl rfl rfl ?_
      refine Ops.mv_sl rfl rfl rfl ?_
      refine Ops.nil ?_
      refine thenQ_n ?_
      refine Cd.ret ?_
      refine ret1_s rfl ?_
      exact ⟨A1, c1, rs1, rfl, hrl1, hS3.sub ((List.Sublist.refl _).append (List.nil_sublist _))⟩
end Go.Proofs.YtdedegbendjmbaaGreatDoor.Vc
/-
  The sources of numbers that the draws and the laws' dice read, walked: each number lies in its range, and the source stays one. Conditions: as each states them.
-/
namespace Go.Proofs.YtdedegbendjmbaaGreatDoor.Vc
open Go.RowKit

/-- a source in memory -/
def srcK (w0 : World) (As : Option Addr) (k : Ck) : Prop := ∃ (Ac : Option Addr) (nc cc : Nat) (a h : Int) (bs : List Int), k = Bx 117 3 As [.slice Ac nc cc, .int .i64 a, .int .u64 h] ∧ (0 ≤ a ∧ a ≤ nc) ∧ nc ≤ 1000000 ∧ RdY w0 Ac nc bs
/-- a source in memory -/
def dicK (w0 : World) (As : Option Addr) (k : Ck) : Prop := ∃ (Ac : Option Addr) (nc cc : Nat) (a h : Int) (bs : List Int), k = Bx 94 3 As [.slice Ac nc cc, .int .i64 a, .int .u64 h] ∧ (0 ≤ a ∧ a ≤ nc) ∧ nc ≤ 1000000 ∧ RdY w0 Ac nc bs
end Go.Proofs.YtdedegbendjmbaaGreatDoor.Vc
/-
  The sources of numbers begun from a list of bytes, and picks. Conditions: as each states them.
-/
namespace Go.Proofs.YtdedegbendjmbaaGreatDoor.Vc
open Go.RowKit

end Go.Proofs.YtdedegbendjmbaaGreatDoor.Vc
/-
  Literals of slices; and the source's next number beside other memory. Conditions: as each states them.
-/
namespace Go.Proofs.YtdedegbendjmbaaGreatDoor.Vc
open Go.RowKit

section
variable {P : Program} {N : Nat} {ops : Array Oper} {K : Env → World → Prop} {rest : List Oper} {e : Env} {w0 w w' : World} {ks : List Ck} {d : Nat} {ty : TypeId} {pos : String} {af : Array Edge}
def idxV : Nat → List Value → List (Nat × Value)
  | _, [] => []
  | k, v :: r => (k, v) :: idxV (k + 1) r
end

end Go.Proofs.YtdedegbendjmbaaGreatDoor.Vc
/-
  A vertex left out of a complex, walked on both sides. Conditions: as each states them.
-/
namespace Go.Proofs.YtdedegbendjmbaaGreatDoor.Vc
open Go.RowKit

def dlV (V : Int) (F : List (List Int)) (v : Int) : Int := if Cplx V F ∧ 0 ≤ v ∧ v < V then cxV (delL F v) else 0
def dlL (V : Int) (F : List (List Int)) (v : Int) : List (List Int) := if Cplx V F ∧ 0 ≤ v ∧ v < V then cxL (delL F v) else []
def dlK (V : Int) (F : List (List Int)) (v : Int) : Int := if Cplx V F then (if 0 ≤ v ∧ v < V then cxK (delL F v) else 2) else 1
end Go.Proofs.YtdedegbendjmbaaGreatDoor.Vc
/-
  Skeletons of complexes, walked on both sides. Conditions: as each states them.
-/
namespace Go.Proofs.YtdedegbendjmbaaGreatDoor.Vc
open Go.RowKit

def skV (V : Int) (F : List (List Int)) (k : Int) : Int := if Cplx V F ∧ 0 ≤ k ∧ k ≤ 6 then cxV (sklL F k.toNat) else 0
def skL (V : Int) (F : List (List Int)) (k : Int) : List (List Int) := if Cplx V F ∧ 0 ≤ k ∧ k ≤ 6 then cxL (sklL F k.toNat) else []
def skK (V : Int) (F : List (List Int)) (k : Int) : Int := if Cplx V F then (if 0 ≤ k ∧ k ≤ 6 then cxK (sklL F k.toNat) else 2) else 1
/-- rows that are read below a base or are one's own -/
structure RowsS (w : World) (ks : List Ck) (n : Nat) (rs : List SlV) (xss : List (List Int)) : Prop where
  rl : rs.length = n
  len : xss.length = n
  at_ : ∀ j, j < n → (RdI w (rs.getD j slNil).a (rs.getD j slNil).n (xss.getD j []) ∧ (rs.getD j slNil).n ≤ (rs.getD j slNil).c ∧ (rs.getD j slNil).c ≤ maxLen) ∨ CkI 2 (rs.getD j slNil).a (rs.getD j slNil).n (rs.getD j slNil).c (xss.getD j []) ∈ ks
end Go.Proofs.YtdedegbendjmbaaGreatDoor.Vc
/-
  The complex of any lists, walked on both sides. Conditions: as each states them.
-/
namespace Go.Proofs.YtdedegbendjmbaaGreatDoor.Vc
open Go.RowKit

def NegL (ls : List (List Int)) : Prop := ∃ l ∈ ls, ∃ x ∈ l, x < 0
instance (ls : List (List Int)) : Decidable (NegL ls) := by unfold NegL; exact inferInstance
def coV (ls : List (List Int)) : Int := if NegL ls then 0 else cxV (ls.map cs)
def coL (ls : List (List Int)) : List (List Int) := if NegL ls then [] else cxL (ls.map cs)
def coK (ls : List (List Int)) : Int := if NegL ls then 1 else cxK (ls.map cs)
end Go.Proofs.YtdedegbendjmbaaGreatDoor.Vc
/-
  Plain mathematics of complexes: the join of two, and its numbers of faces. Conditions: as each states them. No program in sight.
-/
namespace Go.Proofs.YtdedegbendjmbaaGreatDoor.Vc

def jnL (V : Int) (F G : List (List Int)) : List (List Int) := F.flatMap fun a => G.map fun b => a ++ b.map (V + ·)
/-- the lists whose complex is the join -/
def jnS (V : Int) (F G : List (List Int)) : List (List Int) := if F = [] ∨ G = [] then F ++ G else jnL V F G
/-- the faces of a join, pair by pair -/
def jnF (V : Int) (F G : List (List Int)) (k : Nat) : List (List Int) := (List.range (k + 1)).flatMap fun i => (fcs F i).flatMap fun y => (fcs G (k - i)).map fun z => y ++ z.map (V + ·)
end Go.Proofs.YtdedegbendjmbaaGreatDoor.Vc
/-
  Joins of complexes, walked in the program. Conditions: as each states them.
-/
namespace Go.Proofs.YtdedegbendjmbaaGreatDoor.Vc
open Go.RowKit

def JnBig (F G : List (List Int)) : Prop := F ≠ [] ∧ G ≠ [] ∧ 400 < F.length * G.length
instance (F G : List (List Int)) : Decidable (JnBig F G) := by unfold JnBig; exact inferInstance
def jnV (V : Int) (F G : List (List Int)) : Int := if JnBig F G then 0 else cxV (jnS V F G)
def jnLs (V : Int) (F G : List (List Int)) : List (List Int) := if JnBig F G then [] else cxL (jnS V F G)
def jnK (V : Int) (F G : List (List Int)) : Int := if JnBig F G then 3 else cxK (jnS V F G)
/-- lists of a join, as they are met -/
def jnG (V : Int) (F G : List (List Int)) (i k : Nat) : List (List Int) := jnL V (F.take i) G ++ (G.take k).map fun b => gl F (i : Int) ++ b.map (V + ·)
end Go.Proofs.YtdedegbendjmbaaGreatDoor.Vc
/-
  Joins of complexes, walked in the reference; and joins on both sides. Conditions: as each states them.
-/
namespace Go.Proofs.YtdedegbendjmbaaGreatDoor.Vc
open Go.RowKit

end Go.Proofs.YtdedegbendjmbaaGreatDoor.Vc
/-
  A complex drawn, walked. Conditions: as each states them.
-/
namespace Go.Proofs.YtdedegbendjmbaaGreatDoor.Vc
open Go.RowKit

/-- a list more -/
theorem St.matAdd {w0 w : World} {t1 t2 : TypeId} {a A : Option Addr} {m d n c : Nat} {x : List Int} {rs : List SlV} {L : List (List Int)} {X : List Ck} (h : St w0 w (CkI t2 a m d x :: (CkR t1 A n c (rs ++ [⟨a, m, d⟩]) :: (rowsCk t2 rs L ++ X)))) (hl : rs.length = L.length) : St w0 w (mat t1 t2 A n c (rs ++ [⟨a, m, d⟩]) (L ++ [x]) ++ X) := by
  refine h.perm ?_
  unfold mat
  rw [rowsCk_append hl]
  refine (List.Perm.swap _ _ _).trans (List.Perm.cons _ ?_)
  show (CkI t2 a m d x :: (rowsCk t2 rs L ++ X)).Perm ((rowsCk t2 rs L ++ [CkI t2 a m d x]) ++ X)
  rw [List.append_assoc]
  exact List.perm_middle.symm

/-- a drawn complex, in memory of its own -/
def AnsDr (w0 : World) (ks : List Ck) (ix : Nat) (As : Option Addr) (v : Value) (w' : World) : Prop :=
  ∃ (V : Int) (F : List (List Int)) (A : Option Addr) (c : Nat) (rs : List SlV) (k' : Ck), v = .agg #[.int .i64 V, .slice A F.length c] ∧ Cplx V F ∧ rs.length = F.length ∧ srcK w0 As k' ∧ St w0 w' (mat 25 2 A F.length c rs F ++ ks.set ix k')

end Go.Proofs.YtdedegbendjmbaaGreatDoor.Vc
/-
  The reference's matrix of faces and its elimination, walked. Conditions: as each states them.
-/
namespace Go.Proofs.YtdedegbendjmbaaGreatDoor.Vc
open Go.RowKit

theorem rows_sw {t : TypeId} {rs : List SlV} {M : List (List Int)} {r k : Nat} (hl : rs.length = M.length) (hr : r < rs.length) (hk : k < rs.length) : (rowsCk t (sw2 slNil rs r k) (sw2 [] M r k)).Perm (rowsCk t rs M) := by
  have hg : ∀ j, j < rs.length → ∀ h, (rowsCk t rs M)[j]'h = CkI t (rs.getD j slNil).a (rs.getD j slNil).n (rs.getD j slNil).c (M.getD j []) := fun j hj h => by
    have := rowsCk_get (t := t) hl hj
    rw [List.getElem?_eq_getElem h] at this
    exact Option.some.inj this
  have hrl := rowsCk_length (t := t) hl
  have e : rowsCk t (sw2 slNil rs r k) (sw2 [] M r k) = ((rowsCk t rs M).set r (rowsCk t rs M)[k]).set k (rowsCk t rs M)[r] := by
    rw [hg k hk (by omega), hg r hr (by omega), rowsCk_upd hl, rowsCk_upd (by simpa using hl)]
    rfl
  rw [e]
  exact List.set_set_perm (by omega) (by omega)

/-- a row of the matrix, as far as it is told -/
def rwK (G : List (List Int)) (x : List Int) (k : Nat) : List Int := (List.range G.length).map fun (j : Nat) => if j < k ∧ Ins (gl G (j : Int)) x then 1 else 0
theorem rwK_len (G : List (List Int)) (x : List Int) (k : Nat) : (rwK G x k).length = G.length := by simp [rwK]
theorem rwK_zero (G : List (List Int)) (x : List Int) : rwK G x 0 = List.replicate G.length 0 := by
  rw [List.eq_replicate_iff]
  refine ⟨rwK_len _ _ _, fun b hb => ?_⟩
  obtain ⟨j, _, rfl⟩ := List.mem_map.1 hb
  rw [if_neg (by omega)]
theorem rwK_all (G : List (List Int)) (x : List Int) : rwK G x G.length = rwB G x := by
  apply List.ext_getElem
  · simp [rwK, rwB]
  · intro j h1 h2
    have hj : j < G.length := by rw [rwK_len] at h1; exact h1
    simp [rwK, rwB, hj, gl, List.getD_eq_getElem?_getD]
theorem rwK_succ (G : List (List Int)) (x : List Int) {k : Nat} (hk : k < G.length) : rwK G x (k + 1) = if Ins (gl G (k : Int)) x then (rwK G x k).set k 1 else rwK G x k := by
  apply List.ext_getElem
  · split <;> simp [rwK_len]
  · intro j h1 h2
    have hj : j < G.length := by rw [rwK_len] at h1; exact h1
    by_cases e : j = k
    · subst e
      by_cases hI : Ins (gl G (j : Int)) x
      · simp [rwK, hI]
      · simp [rwK, hI]
    · by_cases hI : Ins (gl G (k : Int)) x
      · simp only [if_pos hI, List.getElem_set, if_neg (show ¬ k = j from fun h => e h.symm)]
        simp only [rwK, List.getElem_map, List.getElem_range]
        have : (j < k + 1 ∧ Ins (gl G (j : Int)) x) ↔ (j < k ∧ Ins (gl G (j : Int)) x) := ⟨fun h => ⟨by omega, h.2⟩, fun h => ⟨by omega, h.2⟩⟩
        simp only [this]
      · simp only [if_neg hI]
        simp only [rwK, List.getElem_map, List.getElem_range]
        have : (j < k + 1 ∧ Ins (gl G (j : Int)) x) ↔ (j < k ∧ Ins (gl G (j : Int)) x) := ⟨fun h => ⟨by omega, h.2⟩, fun h => ⟨by omega, h.2⟩⟩
        simp only [this]
theorem rwB_bin (G : List (List Int)) (x : List Int) : Bin G.length (rwB G x) := by
  refine ⟨by simp [rwB], fun e he => ?_⟩
  obtain ⟨y, _, rfl⟩ := List.mem_map.1 he
  split
  · exact .inr rfl
  · exact .inl rfl

set_option maxHeartbeats 1000000 in
theorem l17Matrix_c (A : Option Addr) (n c : Nat) (rs : List SlV) (H : List (List Int)) (B : Option Addr) (m d : Nat) (ts : List SlV) (G : List (List Int)) (w : World) (hA : RowsI w A n rs H) (hB : RowsI w B m ts G) (hn : n ≤ 1000000) (hm : m ≤ 1000000) (hHl : ∀ x ∈ H, x.length ≤ 1000000) (hGl : ∀ x ∈ G, x.length ≤ 1000000) :
    Ret Tryz.prog 79 [.slice A n c, .slice B m d] w (AnsL (H.map (rwB G)) w) := by
  have hHn := hA.len
  have hGm := hB.len
  refine Ret.of_cd Tryz.func79 rfl Tryz.ntmps79 rfl (post1 rfl) ?_
  refine Cd.seq ?_
  refine Cd.region ?_
  refine Ops.mv_sl rfl rfl rfl ?_
  refine Ops.nil ?_
  refine thenQ_n ?_
  refine Cd.seq ?_
  refine Cd.region ?_
  refine Ops.bs0 (St.refl w) rfl ?_
  intro A5 w1 hS1
  have hS1 : St w w1 (mat 25 2 A5 0 0 [] [] ++ []) := hS1
  refine Ops.mv_sl rfl rfl rfl ?_
  refine Ops.nil ?_
  refine thenQ_n ?_
  refine Cd.seq ?_
  refine Cd.seq ?_
  refine Cd.region ?_
  refine Ops.mv_int rfl rfl rfl ?_
  refine Ops.nil ?_
  refine thenQ_n ?_
  refine Cd.block ?_
  refine Cd.loop (α := Nat × (Option Addr × Nat) × List SlV) (fun z => [(0, .slice A n c), (1, .slice B m d), (5, .slice z.2.1.1 z.1 z.2.1.2), (6, .int .i64 (z.1 : Int))])
    (fun z w' => z.1 ≤ n ∧ z.2.2.length = z.1 ∧ St w w' (mat 25 2 z.2.1.1 z.1 z.2.1.2 z.2.2 ((H.take z.1).map (rwB G)) ++ [])) (fun z => n - z.1) (0, (A5, 0), []) ⟨rfl, rfl, rfl, rfl, trivial⟩ ⟨Nat.zero_le _, rfl, hS1⟩ ?_
  clear hS1
  rintro ⟨i, ⟨A5, c5⟩, rs5⟩ e w2 ⟨hi, hrl, hS⟩
  dsimp only at hi hrl hS ⊢
  refine Cd.seq ?_
  refine Cd.seq ?_
  refine Cd.region ?_
  refine Ops.mv_int rfl rfl rfl ?_
  refine Ops.mv_sl rfl rfl rfl ?_
  refine Ops.len rfl rfl ?_
  refine Ops.lss rfl rfl rfl ?_
  refine Ops.nil ?_
  refine thenQ_n ?_
  refine Cd.cond_p _ rfl (fun h1 => ?_) (fun h1 => ?_)
  · have hiH : i < H.length := by omega
    have hz := rwK_zero G (gl H (i : Int))
    have hal := rwK_all G (gl H (i : Int))
    have hsc := fun k hk => rwK_succ G (gl H (i : Int)) (k := k) hk
    have hgH : (gl H (i : Int)).length ≤ 1000000 := hHl _ (by rw [gl_mem hiH]; exact List.getElem_mem _)
    have htk : (H.take (i + 1)).map (rwB G) = (H.take i).map (rwB G) ++ [rwB G (gl H (i : Int))] := by rw [take_succ_gl hiH, List.map_append]; rfl
    have hml : ((H.take i).map (rwB G)).length = i := by simp; omega
    refine Cd.skip ?_
    refine thenQ_n ?_
    refine Cd.seq ?_
    refine Cd.block ?_
    refine Cd.seq ?_
    refine Cd.region ?_
    refine Ops.mv_sl rfl rfl rfl ?_
    refine Ops.len rfl rfl ?_
    refine Ops.mkI m hS rfl rfl (by omega) ?_
    intro A7 w3 hS3
    rw [← hGm, ← hz, hGm] at hS3
    refine Ops.mv_sl rfl rfl rfl ?_
    refine Ops.nil ?_
    refine thenQ_n ?_
    refine Cd.seq ?_
    refine Cd.seq ?_
    refine Cd.region ?_
    refine Ops.mv_int rfl rfl rfl ?_
    refine Ops.nil ?_
    refine thenQ_n ?_
    refine Cd.block ?_
    refine Cd.loop (α := Nat) (fun z => [(0, .slice A n c), (1, .slice B m d), (5, .slice A5 i c5), (6, .int .i64 (i : Int)), (7, .slice A7 m m), (8, .int .i64 (z : Int))])
      (fun z w' => z ≤ m ∧ St w w' (CkI 2 A7 m m (rwK G (gl H (i : Int)) z) :: (mat 25 2 A5 i c5 rs5 ((H.take i).map (rwB G)) ++ []))) (fun z => m - z) 0 ⟨rfl, rfl, rfl, rfl, rfl, rfl, trivial⟩ ⟨Nat.zero_le _, hS3⟩ ?_
    clear hS3 hS
    rintro k e w4 ⟨hk, hS⟩
    refine Cd.seq ?_
    refine Cd.seq ?_
    refine Cd.region ?_
    refine Ops.mv_int rfl rfl rfl ?_
    refine Ops.mv_sl rfl rfl rfl ?_
    refine Ops.len rfl rfl ?_
    refine Ops.lss rfl rfl rfl ?_
    refine Ops.nil ?_
    refine thenQ_n ?_
    refine Cd.cond_p _ rfl (fun h2 => ?_) (fun h2 => ?_)
    · have hkG : k < G.length := by omega
      have hM := hS.oldRows hA
      have hQ := hS.oldRows hB
      have hra := hQ.at_ (i := (k : Int)) (by omega) (by omega)
      have hrb := hM.at_ (i := (i : Int)) (by omega) (by omega)
      have hla := hra.1
      have hlb := hrb.1
      have hgG : (gl G (k : Int)).length ≤ 1000000 := hGl _ (by rw [gl_mem hkG]; exact List.getElem_mem _)
      have hs := hsc k hkG
      refine Cd.skip ?_
      refine thenQ_n ?_
      refine Cd.seq ?_
      refine Cd.block ?_
      refine Cd.seq ?_
      refine Cd.draw [.ex (.slice (B) (m) (d)), .ex (.int .i64 ((k : Int))), .ex (.pointer (ptrAt (B) ((k : Int)).toNat)), .ex (.slice ((rg (ts) ((k : Int))).a) ((rg (ts) ((k : Int))).n) ((rg (ts) ((k : Int))).c)), .ex (.slice (A) (n) (c)), .ex (.int .i64 ((i : Int))), .ex (.pointer (ptrAt (A) ((i : Int)).toNat)), .ex (.slice ((rg (rs) ((i : Int))).a) ((rg (rs) ((i : Int))).n) ((rg (rs) ((i : Int))).c)), .ex (.bool (decide (Ins (gl G (k : Int)) (gl H (i : Int)))))] (by kernel_rfl) (by kernel_rfl) rfl (List.forall_mem_cons.2 ⟨Yd.lasts_ex _, (List.forall_mem_cons.2 ⟨Yd.lasts_ex _, (List.forall_mem_cons.2 ⟨Yd.lasts_ex _, (List.forall_mem_cons.2 ⟨Yd.lasts_ex _, (List.forall_mem_cons.2 ⟨Yd.lasts_ex _, (List.forall_mem_cons.2 ⟨Yd.lasts_ex _, (List.forall_mem_cons.2 ⟨Yd.lasts_ex _, (List.forall_mem_cons.2 ⟨Yd.lasts_ex _, (List.forall_mem_cons.2 ⟨Yd.lasts_ex _, (fun _ h => by cases h)⟩)⟩)⟩)⟩)⟩)⟩)⟩)⟩)⟩) ⟨?_, ?_, ?_, ?_, ?_, ?_, ?_, ?_, ?_, trivial⟩ ?_
      · intro e1 w1 hb hp hun
        refine Ops.mv_sl rfl rfl rfl ?_
        refine Ops.nil ?_
        exact After.dn (Below.refl _ _) (by exact rfl)
      · intro e1 w1 hb hp hun
        refine Ops.mv_int rfl rfl rfl ?_
        refine Ops.nil ?_
        exact After.dn (Below.refl _ _) (by exact rfl)
      · intro e1 w1 hb hp hun
        refine Ops.idx (hQ.top.later hb).2 rfl rfl rfl (by omega) (by omega) ?_
        refine Ops.nil ?_
        exact After.dn (Below.refl _ _) (by exact rfl)
      · intro e1 w1 hb hp hun
        refine Ops.ld_sl (hQ.top.later hb) rfl (by omega) rfl rfl ?_
        refine Ops.nil ?_
        exact After.dn (Below.refl _ _) (by exact rfl)
      · intro e1 w1 hb hp hun
        refine Ops.mv_sl rfl rfl rfl ?_
        refine Ops.nil ?_
        exact After.dn (Below.refl _ _) (by exact rfl)
      · intro e1 w1 hb hp hun
        refine Ops.mv_int rfl rfl rfl ?_
        refine Ops.nil ?_
        exact After.dn (Below.refl _ _) (by exact rfl)
      · intro e1 w1 hb hp hun
        refine Ops.idx (hM.top.later hb).2 rfl rfl rfl (by omega) (by omega) ?_
        refine Ops.nil ?_
        exact After.dn (Below.refl _ _) (by exact rfl)
      · intro e1 w1 hb hp hun
        refine Ops.ld_sl (hM.top.later hb) rfl (by omega) rfl rfl ?_
        refine Ops.nil ?_
        exact After.dn (Below.refl _ _) (by exact rfl)
      · intro e1 w1 hb hp hun
        refine Ops.call (l17Within_c _ _ _ _ _ _ _ _ _ (hra.later hb) (hrb.later hb) (by omega) (by omega)) rfl rfl rfl ?_
        rintro _ w2 ⟨rfl, hst⟩
        subst hst
        refine Ops.nil ?_
        exact After.dn (Below.refl _ _) (by exact rfl)
      intro u w5 hb _
      have hS5 := hS.later hb
      refine thenQ_n ?_
      refine Cd.cond_p _ rfl (fun h3 => ?_) (fun h3 => ?_)
      · rw [if_pos h3] at hs
        have hO : RdI w5 A7 m (rwK G (gl H (i : Int)) k) := hS5.rdI 0 rfl
        refine Cd.region ?_
        refine Ops.mv_sl rfl rfl rfl ?_
        refine Ops.mv_int rfl rfl rfl ?_
        refine Ops.idx hO.2 rfl rfl rfl (by omega) (by omega) ?_
        refine Ops.st_int 0 hS5 rfl rfl rfl (by omega) ?_
        intro w6 hS6
        refine Ops.nil ?_
        refine blockQ_n ?_
        refine thenQ_n ?_
        refine Cd.region ?_
        refine Ops.mv_int rfl rfl rfl ?_
        refine Ops.add rfl rfl rfl (by omega) ?_
        refine Ops.mv_int rfl rfl rfl ?_
        refine Ops.nil ?_
        refine thenQ_n ?_
        exact ⟨k + 1, by show m - (k + 1) < m - k; omega, ⟨rfl, rfl, rfl, rfl, rfl, rfl, trivial⟩, by show k + 1 ≤ m; omega, by rw [hs]; exact hS6⟩
      · rw [if_neg h3] at hs
        refine Cd.skip ?_
        refine blockQ_n ?_
        refine thenQ_n ?_
        refine Cd.region ?_
        refine Ops.mv_int rfl rfl rfl ?_
        refine Ops.add rfl rfl rfl (by omega) ?_
        refine Ops.mv_int rfl rfl rfl ?_
        refine Ops.nil ?_
        refine thenQ_n ?_
        exact ⟨k + 1, by show m - (k + 1) < m - k; omega, ⟨rfl, rfl, rfl, rfl, rfl, rfl, trivial⟩, by show k + 1 ≤ m; omega, by rw [hs]; exact hS5⟩
    · have hke : k = G.length := by omega
      rw [hke, hal] at hS
      have hkm : k = m := by omega
      refine Cd.exit ?_
      refine thenQ_x ?_
      refine thenQ_x ?_
      refine blockQ_x ?_
      refine thenQ_n ?_
      refine Cd.region ?_
      refine Ops.mv_sl rfl rfl rfl ?_
      refine Ops.mv_sl rfl rfl rfl ?_
      refine Ops.bs1R hS rfl rfl rfl ?_
      intro A39 w5 hS5
      refine Ops.appR 2 hS5 rfl (hS5.rdR 0 rfl) rfl rfl rfl (by omega) (by omega) rfl ?_
      intro A40 c40 w6 hS6
      have hS6 : St w w6 (CkI 2 A7 m m (rwB G (gl H (i : Int))) :: (CkR 25 A40 (i + 1) c40 (rs5 ++ [⟨A7, m, m⟩]) :: (rowsCk 2 rs5 ((H.take i).map (rwB G)) ++ []))) := St.tail hS6
      refine Ops.mv_sl rfl rfl rfl ?_
      refine Ops.nil ?_
      refine blockQ_n ?_
      refine thenQ_n ?_
      refine Cd.region ?_
      refine Ops.mv_int rfl rfl rfl ?_
      refine Ops.add rfl rfl rfl (by omega) ?_
      refine Ops.mv_int rfl rfl rfl ?_
      refine Ops.nil ?_
      refine thenQ_n ?_
      exact ⟨(i + 1, (A40, c40), rs5 ++ [⟨A7, m, m⟩]), by show n - (i + 1) < n - i; omega, ⟨rfl, rfl, rfl, rfl, trivial⟩, by show i + 1 ≤ n; omega, by simp; omega, by rw [htk]; exact hS6.matAdd (by omega)⟩
  · have hin : i = H.length := by omega
    rw [hin, List.take_length] at hS
    have hl : (H.map (rwB G)).length = H.length := by simp
    refine Cd.exit ?_
    refine thenQ_x ?_
    refine thenQ_x ?_
    refine blockQ_x ?_
    refine thenQ_n ?_
    refine Cd.seq ?_
    refine Cd.region ?_
    refine Ops.mv_sl rfl rfl rfl ?_
    refine Ops.mv_sl rfl rfl rfl ?_
    refine Ops.nil ?_
    refine thenQ_n ?_
    refine Cd.ret ?_
    refine ret1_s rfl ?_
    refine ⟨A5, c5, rs5, by rw [hl, ← hin], by rw [hl]; omega, ?_⟩
    rw [hl]; exact hS
end Go.Proofs.YtdedegbendjmbaaGreatDoor.Vc
/-
  The reference's elimination, walked. Conditions: as each states them.
-/
namespace Go.Proofs.YtdedegbendjmbaaGreatDoor.Vc
open Go.RowKit

theorem rg_sw {rs : List SlV} {r k j : Nat} (hr : r < rs.length) (hk : k < rs.length) (hj : j < rs.length) : rg (sw2 slNil rs r k) (j : Int) = rg rs ((if j = k then r else if j = r then k else j : Nat) : Int) := by
  have := sw2_at slNil hr hk hj
  simpa [rg] using this
theorem gl_sw {M : List (List Int)} {r k j : Nat} (hr : r < M.length) (hk : k < M.length) (hj : j < M.length) : gl (sw2 [] M r k) (j : Int) = gl M ((if j = k then r else if j = r then k else j : Nat) : Int) := by
  have := sw2_at [] hr hk hj
  simpa [gl] using this
theorem gl_set_ne {M : List (List Int)} {i j : Nat} {x : List Int} (h : j ≠ i) : gl (M.set i x) (j : Int) = gl M (j : Int) := by
  simp only [gl, Int.toNat_natCast, List.getD_eq_getElem?_getD, List.getElem?_set]
  rw [if_neg fun e => h e.symm]
theorem gl_set_eq {M : List (List Int)} {i : Nat} {x : List Int} (h : i < M.length) : gl (M.set i x) (i : Int) = x := by
  simp only [gl, Int.toNat_natCast, List.getD_eq_getElem?_getD, List.getElem?_set]
  simp [h]
theorem set_gl {M : List (List Int)} {i : Nat} (h : i < M.length) : M.set i (gl M (i : Int)) = M := by
  rw [gl_mem h]; exact List.set_getElem_self h

set_option maxHeartbeats 4000000 in
theorem l17Rank_c (A : Option Addr) (n c : Nat) (rs : List SlV) (M0 : List (List Int)) (m : Nat) (w : World) (hR : RowsI w A n rs M0) (hn : n ≤ 1000000) (hm : m ≤ 1000000) (hB : ∀ x ∈ M0, Bin m x) :
    Ret Tryz.prog 78 [.slice A n c] w (fun v w' => ∃ r : Nat, v = .int .i64 (r : Int) ∧ IsRk (M0.map rowM) r ∧ St w w' []) := by
  have hMl := hR.len
  obtain ⟨mm, hmm, hmB⟩ : ∃ mm, (mm = if n = 0 then 0 else m) ∧ ∀ x ∈ M0, Bin mm x := by
    by_cases e : n = 0
    · exact ⟨0, by rw [if_pos e], fun x hx => by rw [List.eq_nil_of_length_eq_zero (by omega : M0.length = 0)] at hx; cases hx⟩
    · exact ⟨m, by rw [if_neg e], hB⟩
  have hmm1 : mm ≤ 1000000 := by rw [hmm]; split <;> omega
  refine Ret.of_cd Tryz.func78 rfl Tryz.ntmps78 rfl (post1 rfl) ?_
  refine Cd.seq ?_
  refine Cd.region ?_
  refine Ops.mv_int rfl rfl rfl ?_
  refine Ops.nil ?_
  refine thenQ_n ?_
  refine Cd.seq ?_
  refine Cd.region ?_
  refine Ops.mv_sl rfl rfl rfl ?_
  refine Ops.call (l01Own2_c A n c rs M0 _ hR (by omega) (fun i hi => by
    have h1 := (hR.row i hi).1
    have h2 : (M0.getD i []).length = m := (hB _ (by rw [List.getD_eq_getElem?_getD, List.getElem?_eq_getElem (by omega : i < M0.length)]; exact List.getElem_mem _)).1
    omega)) rfl rfl rfl ?_
  rintro _ w1 ⟨A3, c3, rs3, rfl, hrl3, hst⟩
  have hS : St w w1 (mat 25 2 A3 n c3 rs3 M0 ++ []) := by rw [List.append_nil]; exact hst
  clear hst
  refine Ops.mv_sl rfl rfl rfl ?_
  refine Ops.mv_int rfl rfl rfl ?_
  refine Ops.nil ?_
  refine thenQ_n ?_
  refine Cd.seq ?_
  refine Cd.region ?_
  refine Ops.mv_int rfl rfl rfl ?_
  refine Ops.nil ?_
  refine thenQ_n ?_
  refine Cd.join (α := Unit) (fun z => [(3, .slice A3 n c3), (4, .int .i64 0), (5, .int .i64 (mm : Int))]) (fun z w' => St w w' (mat 25 2 A3 n c3 rs3 M0 ++ [])) ?_ ?_
  · refine Cd.seq ?_
    refine Cd.region ?_
    refine Ops.mv_sl rfl rfl rfl ?_
    refine Ops.len rfl rfl ?_
    refine Ops.gtr rfl rfl rfl ?_
    refine Ops.nil ?_
    refine thenQ_n ?_
    refine Cd.cond_p _ rfl (fun h1 => ?_) (fun h1 => ?_)
    · have hM3 := hS.rowsI hMl
      have h0 := hM3.at_ (i := ((0 : Nat) : Int)) (by omega) (by omega)
      have h0l := h0.1
      have hb0 := (hmB _ (show gl M0 ((0 : Nat) : Int) ∈ M0 by rw [gl_mem (by omega)]; exact List.getElem_mem _)).1
      refine Cd.region ?_
      refine Ops.mv_sl rfl rfl rfl ?_
      refine Ops.idx hM3.top.2 rfl rfl rfl (by omega) (by omega) ?_
      refine Ops.ld_sl (i := ((0 : Nat) : Int)) hM3.top rfl (by simp; omega) rfl rfl ?_
      refine Ops.len rfl rfl ?_
      refine Ops.mv_int rfl rfl rfl ?_
      refine Ops.nil ?_
      refine thenQ_n ?_
      exact ⟨(), ⟨rfl, rfl, by show Value.int .i64 _ = .int .i64 _; congr 1; omega, trivial⟩, hS⟩
    · refine Cd.skip ?_
      refine thenQ_n ?_
      exact ⟨(), ⟨rfl, rfl, by rw [hmm, if_pos (by omega)]; rfl, trivial⟩, hS⟩
  clear hS
  rintro _ e w2 hS
  refine Cd.seq ?_
  refine Cd.seq ?_
  refine Cd.region ?_
  refine Ops.mv_int rfl rfl rfl ?_
  refine Ops.nil ?_
  refine thenQ_n ?_
  refine Cd.block ?_
  refine Cd.loop (α := Nat × Nat × List SlV × List (List Int)) (fun z => [(3, .slice A3 n c3), (4, .int .i64 (z.2.1 : Int)), (5, .int .i64 (mm : Int)), (6, .int .i64 (z.1 : Int))])
    (fun z w' => z.1 ≤ mm ∧ GI M0 z.2.2.2 mm z.2.1 z.1 ∧ z.2.2.1.length = n ∧ St w w' (mat 25 2 A3 n c3 z.2.2.1 z.2.2.2 ++ [])) (fun z => mm - z.1) (0, 0, rs3, M0) ⟨rfl, rfl, rfl, rfl, trivial⟩ ⟨Nat.zero_le _, GI.start hmB, by show rs3.length = n; omega, hS⟩ ?_
  clear hS hrl3
  rintro ⟨k, rank, rs3, M⟩ e w3 ⟨hk, hG, hrl, hS⟩
  dsimp only at hk hG hrl hS ⊢
  have hl0 := hG.len
  have hrle := hG.rle
  have hMn : M.length = n := by omega
  refine Cd.seq ?_
  refine Cd.seq ?_
  refine Cd.region ?_
  refine Ops.mv_int rfl rfl rfl ?_
  refine Ops.mv_int rfl rfl rfl ?_
  refine Ops.lss rfl rfl rfl ?_
  refine Ops.nil ?_
  refine thenQ_n ?_
  refine Cd.cond_p _ rfl (fun h1 => ?_) (fun h1 => ?_)
  · have hM3 := hS.rowsI hMn
    refine Cd.skip ?_
    refine thenQ_n ?_
    refine Cd.seq ?_
    refine Cd.block ?_
    refine Cd.seq ?_
    refine Cd.region ?_
    refine Ops.mv_int rfl rfl rfl ?_
    refine Ops.mv_int rfl rfl rfl ?_
    refine Ops.nil ?_
    refine thenQ_n ?_
    refine Cd.seq ?_
    refine Cd.block ?_
    refine Cd.loop (α := Nat) (fun z => [(3, .slice A3 n c3), (4, .int .i64 (rank : Int)), (5, .int .i64 (mm : Int)), (6, .int .i64 (k : Int)), (7, .int .i64 (z : Int))])
      (fun z w' => w' = w3 ∧ rank ≤ z ∧ z ≤ n ∧ ∀ j, rank ≤ j → j < z → gi (gl M (j : Int)) (k : Int) = 0) (fun z => n - z) rank ⟨rfl, rfl, rfl, rfl, rfl, trivial⟩ ⟨rfl, Nat.le_refl _, by omega, fun j a b => by omega⟩ ?_
    rintro r e w4 ⟨rfl, hr1, hr2, hz⟩
    -- behind the search
    have after : ∀ h : ¬ (r < n ∧ gi (gl M (r : Int)) (k : Int) = 0), (r = n ∧ ∀ j, rank ≤ j → j < M.length → gi (gl M (j : Int)) (k : Int) = 0) ∨ (r < n ∧ gi (gl M (r : Int)) (k : Int) = 1) := fun h => by
      by_cases e : r < n
      · right
        refine ⟨e, ?_⟩
        rcases (hG.at_ (show r < M.length by omega)).gi (show k < mm by omega) with h2 | h2
        · exact absurd ⟨e, h2⟩ h
        · exact h2
      · left
        exact ⟨by omega, fun j a b => hz j a (by omega)⟩
    refine Cd.seq ?_
    refine Cd.seq ?_
    refine Cd.region ?_
    refine Ops.mv_int rfl rfl rfl ?_
    refine Ops.mv_sl rfl rfl rfl ?_
    refine Ops.len rfl rfl ?_
    refine Ops.lss rfl rfl rfl ?_
    refine Ops.mv_bool rfl rfl rfl ?_
    refine Ops.split_p 30 rfl (fun h2 => ?_) (fun h2 => ?_)
    · have hrow := hM3.at_ (i := (r : Int)) (by omega) (by omega)
      have hrw := hrow.1
      have hbn := (hG.at_ (show r < M.length by omega)).1
      refine Ops.rung rfl rfl rfl ?_
      refine Ops.mv_sl rfl rfl rfl ?_
      refine Ops.rung rfl rfl rfl ?_
      refine Ops.mv_int rfl rfl rfl ?_
      refine Ops.rung rfl rfl rfl ?_
      refine Ops.idx hM3.top.2 rfl rfl rfl (by omega) (by omega) ?_
      refine Ops.rung rfl rfl rfl ?_
      refine Ops.ld_sl hM3.top rfl (by omega) rfl rfl ?_
      refine Ops.rung rfl rfl rfl ?_
      refine Ops.mv_int rfl rfl rfl ?_
      refine Ops.rung rfl rfl rfl ?_
      refine Ops.idx hrow.2 rfl rfl rfl (by omega) (by omega) ?_
      refine Ops.rung rfl rfl rfl ?_
      refine Ops.ld_int hrow rfl (by omega) rfl rfl ?_
      refine Ops.rung rfl rfl rfl ?_
      refine Ops.eql rfl rfl rfl ?_
      refine Ops.pick_t rfl rfl rfl ?_
      refine Ops.nil ?_
      refine thenQ_n ?_
      refine Cd.cond_p _ rfl (fun h3 => ?_) (fun h3 => ?_)
      · refine Cd.skip ?_
        refine thenQ_n ?_
        refine Cd.block ?_
        refine Cd.region ?_
        refine Ops.mv_int rfl rfl rfl ?_
        refine Ops.add rfl rfl rfl (by omega) ?_
        refine Ops.mv_int rfl rfl rfl ?_
        refine Ops.nil ?_
        refine blockQ_n ?_
        refine thenQ_n ?_
        exact ⟨r + 1, by show n - (r + 1) < n - r; omega, ⟨rfl, rfl, rfl, rfl, rfl, trivial⟩, rfl, by omega, by omega, fun j a b => by
          by_cases ej : j = r
          · subst ej; exact h3
          · exact hz j a (by omega)⟩
      · have hgr : gi (gl M (r : Int)) (k : Int) = 1 := by
          rcases after (fun h => h3 h.2) with h | h
          · omega
          · exact h.2
        have hsl : (sw2 slNil rs3 r rank).length = n := by rw [sw2_len]; exact hrl
        have hsm : (sw2 [] M r rank).length = n := by rw [sw2_len]; exact hMn
        have hGs := hG.swap hr1 (show r < M.length by omega)
        have hgk : gi (gl (sw2 [] M r rank) (rank : Int)) (k : Int) = 1 := by rw [gl_sw (by omega) (by omega) (by omega), if_pos rfl]; exact hgr
        have hpv : rg (sw2 slNil rs3 r rank) (rank : Int) = rg rs3 (r : Int) := by rw [rg_sw (by omega) (by omega) (by omega), if_pos rfl]
        refine Cd.exit ?_
        refine thenQ_x ?_
        refine thenQ_x ?_
        refine blockQ_x ?_
        refine thenQ_n ?_
        refine Cd.seq ?_
        refine Cd.seq ?_
        refine Cd.region ?_
        refine Ops.mv_int rfl rfl rfl ?_
        refine Ops.mv_sl rfl rfl rfl ?_
        refine Ops.len rfl rfl ?_
        refine Ops.eql rfl rfl rfl ?_
        refine Ops.nil ?_
        refine thenQ_n ?_
        refine Cd.cond_pf rfl (by omega) ?_
        refine Cd.skip ?_
        refine thenQ_n ?_
        refine Cd.seq ?_
        refine Cd.region ?_
        refine Ops.mv_sl rfl rfl rfl ?_
        refine Ops.mv_int rfl rfl rfl ?_
        refine Ops.idx hM3.top.2 rfl rfl rfl (by omega) (by omega) ?_
        refine Ops.ld_sl hM3.top rfl (by omega) rfl rfl ?_
        refine Ops.mv_sl rfl rfl rfl ?_
        refine Ops.nil ?_
        refine thenQ_n ?_
        refine Cd.seq ?_
        refine Cd.region ?_
        refine Ops.mv_sl rfl rfl rfl ?_
        refine Ops.mv_int rfl rfl rfl ?_
        refine Ops.mv_sl rfl rfl rfl ?_
        refine Ops.mv_int rfl rfl rfl ?_
        refine Ops.idx hM3.top.2 rfl rfl rfl (by omega) (by omega) ?_
        refine Ops.ld_sl hM3.top rfl (by omega) rfl rfl ?_
        refine Ops.idx hM3.top.2 rfl rfl rfl (by omega) (by omega) ?_
        refine Ops.st_sl (te := 25) (n := n) (c := c3) (A := A3) (xs := rs3) 0 hS rfl rfl rfl (by omega) ?_
        intro w5 hS5
        have hT5 : RdR w5 A3 n (rs3.set (r : Int).toNat (rg rs3 (rank : Int))) := hS5.rdR 0 rfl
        refine Ops.nil ?_
        refine thenQ_n ?_
        refine Cd.seq ?_
        refine Cd.region ?_
        refine Ops.mv_sl rfl rfl rfl ?_
        refine Ops.mv_int rfl rfl rfl ?_
        refine Ops.mv_sl rfl rfl rfl ?_
        refine Ops.idx hT5.2 rfl rfl rfl (by omega) (by omega) ?_
        refine Ops.st_sl (te := 25) (n := n) (c := c3) (A := A3) (xs := rs3.set (r : Int).toNat (rg rs3 (rank : Int))) 0 hS5 rfl rfl rfl (by omega) ?_
        intro w6 hS6
        have hS6 : St w w6 (mat 25 2 A3 n c3 (sw2 slNil rs3 r rank) (sw2 [] M r rank) ++ []) := by
          have h6 : St w w6 (CkR 25 A3 n c3 (sw2 slNil rs3 r rank) :: (rowsCk 2 rs3 M ++ [])) := hS6
          exact h6.perm (List.Perm.cons _ ((rows_sw (by omega) (by omega) (by omega)).symm.append_right _))
        generalize hRS : sw2 slNil rs3 r rank = rs4 at *
        generalize hMS : sw2 [] M r rank = M4 at *
        clear hS5 hT5 hM3 hS
        refine Ops.nil ?_
        refine thenQ_n ?_
        refine Cd.seq ?_
        refine Cd.seq ?_
        refine Cd.region ?_
        refine Ops.mv_int rfl rfl rfl ?_
        refine Ops.add rfl rfl rfl (by omega) ?_
        refine Ops.mv_int rfl rfl rfl ?_
        refine Ops.nil ?_
        refine thenQ_n ?_
        refine Cd.block ?_
        refine Cd.loop (α := Nat × List (List Int)) (fun z => [(3, .slice A3 n c3), (4, .int .i64 (rank : Int)), (5, .int .i64 (mm : Int)), (6, .int .i64 (k : Int)), (8, .slice (rg rs3 (r : Int)).a (rg rs3 (r : Int)).n (rg rs3 (r : Int)).c), (9, .int .i64 (z.1 : Int))])
          (fun z w' => rank < z.1 ∧ z.1 ≤ n ∧ GI M0 z.2 mm rank k ∧ gi (gl z.2 (rank : Int)) (k : Int) = 1 ∧ (∀ j, rank < j → j < z.1 → gi (gl z.2 (j : Int)) (k : Int) = 0) ∧ St w w' (mat 25 2 A3 n c3 rs4 z.2 ++ [])) (fun z => n - z.1) (rank + 1, M4) ⟨rfl, rfl, rfl, rfl, rfl, rfl, trivial⟩ ⟨by show rank < rank + 1; omega, by show rank + 1 ≤ n; omega, hGs, hgk, fun j a b => absurd b (by show ¬ j < rank + 1; omega), hS6⟩ ?_
        clear hS6 hGs hgk
        rintro ⟨i, M5⟩ e w7 ⟨hi1, hi2, hG5, hg5, hz5, hS⟩
        dsimp only at hi1 hi2 hG5 hg5 hz5 hS ⊢
        have hl5 := hG5.len
        have hM5n : M5.length = n := by omega
        refine Cd.seq ?_
        refine Cd.seq ?_
        refine Cd.region ?_
        refine Ops.mv_int rfl rfl rfl ?_
        refine Ops.mv_sl rfl rfl rfl ?_
        refine Ops.len rfl rfl ?_
        refine Ops.lss rfl rfl rfl ?_
        refine Ops.nil ?_
        refine thenQ_n ?_
        refine Cd.cond_p _ rfl (fun h4 => ?_) (fun h4 => ?_)
        · have hM5 := hS.rowsI hM5n
          have hri := hM5.at_ (i := (i : Int)) (by omega) (by omega)
          have hril := hri.1
          have hbi := hG5.at_ (show i < M5.length by omega)
          have hbl := hbi.1
          have hbr := hG5.at_ (show rank < M5.length by omega)
          have hbrl := hbr.1
          refine Cd.skip ?_
          refine thenQ_n ?_
          refine Cd.seq ?_
          refine Cd.block ?_
          refine Cd.seq ?_
          refine Cd.region ?_
          refine Ops.mv_sl rfl rfl rfl ?_
          refine Ops.mv_int rfl rfl rfl ?_
          refine Ops.idx hM5.top.2 rfl rfl rfl (by omega) (by omega) ?_
          refine Ops.ld_sl hM5.top rfl (by omega) rfl rfl ?_
          refine Ops.mv_int rfl rfl rfl ?_
          refine Ops.idx hri.2 rfl rfl rfl (by omega) (by omega) ?_
          refine Ops.ld_int hri rfl (by omega) rfl rfl ?_
          refine Ops.eql rfl rfl rfl ?_
          refine Ops.nil ?_
          refine thenQ_n ?_
          refine Cd.cond_p _ rfl (fun h5 => ?_) (fun h5 => ?_)
          · have hel := hG5.elim hi1 (show i < M5.length by omega)
            have hrn : (rg rs4 (i : Int)).n = mm := by omega
            generalize hx : gl M5 (i : Int) = x at *
            generalize hy : gl M5 (rank : Int) = y at *
            refine Cd.seq ?_
            refine Cd.region ?_
            refine Ops.mv_int rfl rfl rfl ?_
            refine Ops.mv_int rfl rfl rfl ?_
            refine Ops.nil ?_
            refine thenQ_n ?_
            refine Cd.block ?_
            refine Cd.loop (α := Nat) (fun z => [(3, .slice A3 n c3), (4, .int .i64 (rank : Int)), (5, .int .i64 (mm : Int)), (6, .int .i64 (k : Int)), (8, .slice (rg rs3 (r : Int)).a (rg rs3 (r : Int)).n (rg rs3 (r : Int)).c), (9, .int .i64 (i : Int)), (10, .int .i64 (z : Int))])
              (fun z w' => k ≤ z ∧ z ≤ mm ∧ St w w' (mat 25 2 A3 n c3 rs4 (M5.set i (adR x y k z)) ++ [])) (fun z => mm - z) k ⟨rfl, rfl, rfl, rfl, rfl, rfl, rfl, trivial⟩ ⟨Nat.le_refl _, by omega, by rw [adR_zero, ← hx, set_gl (by omega)]; exact hS⟩ ?_
            clear hS hM5 hri
            rintro q e w8 ⟨hq1, hq2, hS⟩
            refine Cd.seq ?_
            refine Cd.seq ?_
            refine Cd.region ?_
            refine Ops.mv_int rfl rfl rfl ?_
            refine Ops.mv_int rfl rfl rfl ?_
            refine Ops.lss rfl rfl rfl ?_
            refine Ops.nil ?_
            refine thenQ_n ?_
            refine Cd.cond_p _ rfl (fun h6 => ?_) (fun h6 => ?_)
            · have hM6 := hS.rowsI (show (M5.set i (adR x y k q)).length = n by simpa using hM5n)
              have hri := hM6.at_ (i := (i : Int)) (by omega) (by omega)
              rw [gl_set_eq (by omega)] at hri
              have hrp := hM6.at_ (i := (rank : Int)) (by omega) (by omega)
              rw [gl_set_ne (by omega), hpv, hy] at hrp
              have hrpl := hrp.1
              have hal := adR_len x y k q
              have hb1 := (adR_bin (c := k) hbi hbr q).gi (show q < mm by omega)
              have hb2 := hbr.gi (show q < mm by omega)
              have hset := adR_succ (x := x) (y := y) hq1 (show q < x.length by omega)
              generalize hz : adR x y k q = z at *
              refine Cd.skip ?_
              refine thenQ_n ?_
              refine Cd.seq ?_
              refine Cd.block ?_
              refine Cd.drawN [19] [.ex (.slice (A3) (n) (c3)), .ex (.int .i64 ((i : Int))), .ex (.pointer (ptrAt (A3) ((i : Int)).toNat)), .ex (.slice ((rg (rs4) ((i : Int))).a) ((rg (rs4) ((i : Int))).n) ((rg (rs4) ((i : Int))).c)), .ex (.int .i64 ((q : Int))), .ex (.slice (A3) (n) (c3)), .ex (.int .i64 ((i : Int))), .ex (.pointer (ptrAt (A3) ((i : Int)).toNat)), .ex (.slice ((rg (rs4) ((i : Int))).a) ((rg (rs4) ((i : Int))).n) ((rg (rs4) ((i : Int))).c)), .ex (.int .i64 ((q : Int))), .ex (.pointer (ptrAt ((rg (rs4) ((i : Int))).a) ((q : Int)).toNat)), .ex (.int .i64 (gi (z) ((q : Int)))), .ex (.slice ((rg rs3 (r : Int)).a) ((rg rs3 (r : Int)).n) ((rg rs3 (r : Int)).c)), .ex (.int .i64 ((q : Int))), .ex (.pointer (ptrAt ((rg rs3 (r : Int)).a) ((q : Int)).toNat)), .ex (.int .i64 (gi (y) ((q : Int)))), .ex (.int .i64 ((gi (z) ((q : Int))) + (gi (y) ((q : Int))))), .ex (.int .i64 ((gi z (q : Int) + gi y (q : Int)) % 2)), .ex (.pointer (ptrAt ((rg (rs4) ((i : Int))).a) ((q : Int)).toNat)), .pr (fun _ w' => St w w' (mat 25 2 A3 n c3 rs4 (M5.set i (adR x y k (q + 1))) ++ []))] (by kernel_rfl) (by kernel_rfl) (List.forall_mem_cons.2 ⟨Yd.lasts_ex _, (List.forall_mem_cons.2 ⟨Yd.lasts_ex _, (List.forall_mem_cons.2 ⟨Yd.lasts_ex _, (List.forall_mem_cons.2 ⟨Yd.lasts_ex _, (List.forall_mem_cons.2 ⟨Yd.lasts_ex _, (List.forall_mem_cons.2 ⟨Yd.lasts_ex _, (List.forall_mem_cons.2 ⟨Yd.lasts_ex _, (List.forall_mem_cons.2 ⟨Yd.lasts_ex _, (List.forall_mem_cons.2 ⟨Yd.lasts_ex _, (List.forall_mem_cons.2 ⟨Yd.lasts_ex _, (List.forall_mem_cons.2 ⟨Yd.lasts_ex _, (List.forall_mem_cons.2 ⟨Yd.lasts_ex _, (List.forall_mem_cons.2 ⟨Yd.lasts_ex _, (List.forall_mem_cons.2 ⟨Yd.lasts_ex _, (List.forall_mem_cons.2 ⟨Yd.lasts_ex _, (List.forall_mem_cons.2 ⟨Yd.lasts_ex _, (List.forall_mem_cons.2 ⟨Yd.lasts_ex _, (List.forall_mem_cons.2 ⟨Yd.lasts_ex _, (List.forall_mem_cons.2 ⟨Yd.lasts_ex _, (List.forall_mem_cons.2 ⟨Yd.lasts_pr (fun v w w' h hb => h.later hb), (fun _ h => by cases h)⟩)⟩)⟩)⟩)⟩)⟩)⟩)⟩)⟩)⟩)⟩)⟩)⟩)⟩)⟩)⟩)⟩)⟩)⟩)⟩) ⟨?_, ?_, ?_, ?_, ?_, ?_, ?_, ?_, ?_, ?_, ?_, ?_, ?_, ?_, ?_, ?_, ?_, ?_, ?_, ?_, trivial⟩ ?_
              · intro e1 w1 cc hlo hhi hb0 hp hun hq
                show Ops _ _ _ _ _ _ _
                refine Ops.mv_sl rfl rfl rfl ?_
                refine Ops.nil ?_
                exact AfterN.dn rfl (Below.refl _ _) (by exact rfl)
              · intro e1 w1 cc hlo hhi hb0 hp hun hq
                show Ops _ _ _ _ _ _ _
                refine Ops.mv_int rfl rfl rfl ?_
                refine Ops.nil ?_
                exact AfterN.dn rfl (Below.refl _ _) (by exact rfl)
              · intro e1 w1 cc hlo hhi hb0 hp hun hq
                show Ops _ _ _ _ _ _ _
                replace hlo := le_of_lo hlo (b := 0) (by kernel_rfl)
                replace hhi := le_of_hi hhi (b := 0) (by kernel_rfl)
                obtain rfl : cc = 0 := by omega
                have hb := hb0 rfl
                refine Ops.idx (hM6.top.later hb).2 rfl rfl rfl (by omega) (by omega) ?_
                refine Ops.nil ?_
                exact AfterN.dn rfl (Below.refl _ _) (by exact rfl)
              · intro e1 w1 cc hlo hhi hb0 hp hun hq
                show Ops _ _ _ _ _ _ _
                replace hlo := le_of_lo hlo (b := 0) (by kernel_rfl)
                replace hhi := le_of_hi hhi (b := 0) (by kernel_rfl)
                obtain rfl : cc = 0 := by omega
                have hb := hb0 rfl
                refine Ops.ld_sl (hM6.top.later hb) rfl (by omega) rfl rfl ?_
                refine Ops.nil ?_
                exact AfterN.dn rfl (Below.refl _ _) (by exact rfl)
              · intro e1 w1 cc hlo hhi hb0 hp hun hq
                show Ops _ _ _ _ _ _ _
                refine Ops.mv_int rfl rfl rfl ?_
                refine Ops.nil ?_
                exact AfterN.dn rfl (Below.refl _ _) (by exact rfl)
              · intro e1 w1 cc hlo hhi hb0 hp hun hq
                show Ops _ _ _ _ _ _ _
                refine Ops.mv_sl rfl rfl rfl ?_
                refine Ops.nil ?_
                exact AfterN.dn rfl (Below.refl _ _) (by exact rfl)
              · intro e1 w1 cc hlo hhi hb0 hp hun hq
                show Ops _ _ _ _ _ _ _
                refine Ops.mv_int rfl rfl rfl ?_
                refine Ops.nil ?_
                exact AfterN.dn rfl (Below.refl _ _) (by exact rfl)
              · intro e1 w1 cc hlo hhi hb0 hp hun hq
                show Ops _ _ _ _ _ _ _
                replace hlo := le_of_lo hlo (b := 0) (by kernel_rfl)
                replace hhi := le_of_hi hhi (b := 0) (by kernel_rfl)
                obtain rfl : cc = 0 := by omega
                have hb := hb0 rfl
                refine Ops.idx (hM6.top.later hb).2 rfl rfl rfl (by omega) (by omega) ?_
                refine Ops.nil ?_
                exact AfterN.dn rfl (Below.refl _ _) (by exact rfl)
              · intro e1 w1 cc hlo hhi hb0 hp hun hq
                show Ops _ _ _ _ _ _ _
                replace hlo := le_of_lo hlo (b := 0) (by kernel_rfl)
                replace hhi := le_of_hi hhi (b := 0) (by kernel_rfl)
                obtain rfl : cc = 0 := by omega
                have hb := hb0 rfl
                refine Ops.ld_sl (hM6.top.later hb) rfl (by omega) rfl rfl ?_
                refine Ops.nil ?_
                exact AfterN.dn rfl (Below.refl _ _) (by exact rfl)
              · intro e1 w1 cc hlo hhi hb0 hp hun hq
                show Ops _ _ _ _ _ _ _
                refine Ops.mv_int rfl rfl rfl ?_
                refine Ops.nil ?_
                exact AfterN.dn rfl (Below.refl _ _) (by exact rfl)
              · intro e1 w1 cc hlo hhi hb0 hp hun hq
                show Ops _ _ _ _ _ _ _
                replace hlo := le_of_lo hlo (b := 0) (by kernel_rfl)
                replace hhi := le_of_hi hhi (b := 0) (by kernel_rfl)
                obtain rfl : cc = 0 := by omega
                have hb := hb0 rfl
                refine Ops.idx (hri.later hb).2 rfl rfl rfl (by omega) (by omega) ?_
                refine Ops.nil ?_
                exact AfterN.dn rfl (Below.refl _ _) (by exact rfl)
              · intro e1 w1 cc hlo hhi hb0 hp hun hq
                show Ops _ _ _ _ _ _ _
                replace hlo := le_of_lo hlo (b := 0) (by kernel_rfl)
                replace hhi := le_of_hi hhi (b := 0) (by kernel_rfl)
                obtain rfl : cc = 0 := by omega
                have hb := hb0 rfl
                refine Ops.ld_int (hri.later hb) rfl (by omega) rfl rfl ?_
                refine Ops.nil ?_
                exact AfterN.dn rfl (Below.refl _ _) (by exact rfl)
              · intro e1 w1 cc hlo hhi hb0 hp hun hq
                show Ops _ _ _ _ _ _ _
                refine Ops.mv_sl rfl rfl rfl ?_
                refine Ops.nil ?_
                exact AfterN.dn rfl (Below.refl _ _) (by exact rfl)
              · intro e1 w1 cc hlo hhi hb0 hp hun hq
                show Ops _ _ _ _ _ _ _
                refine Ops.mv_int rfl rfl rfl ?_
                refine Ops.nil ?_
                exact AfterN.dn rfl (Below.refl _ _) (by exact rfl)
              · intro e1 w1 cc hlo hhi hb0 hp hun hq
                show Ops _ _ _ _ _ _ _
                replace hlo := le_of_lo hlo (b := 0) (by kernel_rfl)
                replace hhi := le_of_hi hhi (b := 0) (by kernel_rfl)
                obtain rfl : cc = 0 := by omega
                have hb := hb0 rfl
                refine Ops.idx (hrp.later hb).2 rfl rfl rfl (by omega) (by omega) ?_
                refine Ops.nil ?_
                exact AfterN.dn rfl (Below.refl _ _) (by exact rfl)
              · intro e1 w1 cc hlo hhi hb0 hp hun hq
                show Ops _ _ _ _ _ _ _
                replace hlo := le_of_lo hlo (b := 0) (by kernel_rfl)
                replace hhi := le_of_hi hhi (b := 0) (by kernel_rfl)
                obtain rfl : cc = 0 := by omega
                have hb := hb0 rfl
                refine Ops.ld_int (hrp.later hb) rfl (by omega) rfl rfl ?_
                refine Ops.nil ?_
                exact AfterN.dn rfl (Below.refl _ _) (by exact rfl)
              · intro e1 w1 cc hlo hhi hb0 hp hun hq
                show Ops _ _ _ _ _ _ _
                refine Ops.add rfl rfl rfl (by omega) ?_
                refine Ops.nil ?_
                exact AfterN.dn rfl (Below.refl _ _) (by exact rfl)
              · intro e1 w1 cc hlo hhi hb0 hp hun hq
                show Ops _ _ _ _ _ _ _
                refine Ops.rem rfl rfl rfl (by omega) ?_
                refine Ops.nil ?_
                exact AfterN.dn rfl (Below.refl _ _) (by exact rfl)
              · intro e1 w1 cc hlo hhi hb0 hp hun hq
                show Ops _ _ _ _ _ _ _
                replace hlo := le_of_lo hlo (b := 0) (by kernel_rfl)
                replace hhi := le_of_hi hhi (b := 0) (by kernel_rfl)
                obtain rfl : cc = 0 := by omega
                have hb := hb0 rfl
                refine Ops.idx (hri.later hb).2 rfl rfl rfl (by omega) (by omega) ?_
                refine Ops.nil ?_
                exact AfterN.dn rfl (Below.refl _ _) (by exact rfl)
              · intro e1 w1 cc hlo hhi hb0 hp hun hq
                show Ops _ _ _ _ _ _ _
                replace hlo := le_of_lo hlo (b := 0) (by kernel_rfl)
                replace hhi := le_of_hi hhi (b := 0) (by kernel_rfl)
                obtain rfl : cc = 0 := by omega
                have hb := hb0 rfl
                refine Ops.st_row (pre := []) i (hS.later hb) (by simp; omega) (by omega) rfl rfl (by omega) ?_
                intro w9 hS9
                refine Ops.nil ?_
                rw [gl_set_eq (by omega), Int.toNat_natCast, hset, List.set_set] at hS9
                exact AfterT.st rfl hS9
              intro _ w9 _ hu
              have hT := hu 19 _ rfl (by kernel_rfl)
              refine blockQ_n ?_
              refine thenQ_n ?_
              refine Cd.region ?_
              refine Ops.mv_int rfl rfl rfl ?_
              refine Ops.add rfl rfl rfl (by omega) ?_
              refine Ops.mv_int rfl rfl rfl ?_
              refine Ops.nil ?_
              refine thenQ_n ?_
              exact ⟨q + 1, by show mm - (q + 1) < mm - q; omega, ⟨rfl, rfl, rfl, rfl, rfl, rfl, rfl, trivial⟩, by omega, by omega, hT⟩
            · have hqe : q = mm := by omega
              subst hqe
              refine Cd.exit ?_
              refine thenQ_x ?_
              refine thenQ_x ?_
              refine blockQ_x ?_
              refine blockQ_n ?_
              refine thenQ_n ?_
              refine Cd.region ?_
              refine Ops.mv_int rfl rfl rfl ?_
              refine Ops.add rfl rfl rfl (by omega) ?_
              refine Ops.mv_int rfl rfl rfl ?_
              refine Ops.nil ?_
              refine thenQ_n ?_
              refine ⟨(i + 1, M5.set i (adR x y k q)), by show n - (i + 1) < n - i; omega, ⟨rfl, rfl, rfl, rfl, rfl, rfl, trivial⟩, by show rank < i + 1; omega, by show i + 1 ≤ n; omega, hel, ?_, fun j a b => ?_, hS⟩
              · show gi (gl (M5.set i _) (rank : Int)) (k : Int) = 1
                rw [gl_set_ne (by omega), hy]; exact hg5
              · show gi (gl (M5.set i _) (j : Int)) (k : Int) = 0
                have b : j < i + 1 := b
                by_cases ej : j = i
                · subst ej
                  rw [gl_set_eq (by omega), adR_at (by omega), if_pos ⟨Nat.le_refl _, by omega⟩, h5, hg5]; decide
                · rw [gl_set_ne ej]; exact hz5 j a (by omega)
          · have h50 : gi (gl M5 (i : Int)) (k : Int) = 0 := by
              rcases hbi.gi (show k < mm by omega) with h | h
              · exact h
              · exact absurd h h5
            refine Cd.skip ?_
            refine blockQ_n ?_
            refine thenQ_n ?_
            refine Cd.region ?_
            refine Ops.mv_int rfl rfl rfl ?_
            refine Ops.add rfl rfl rfl (by omega) ?_
            refine Ops.mv_int rfl rfl rfl ?_
            refine Ops.nil ?_
            refine thenQ_n ?_
            exact ⟨(i + 1, M5), by show n - (i + 1) < n - i; omega, ⟨rfl, rfl, rfl, rfl, rfl, rfl, trivial⟩, by show rank < i + 1; omega, by show i + 1 ≤ n; omega, hG5, hg5, fun j a b => by
              have b : j < i + 1 := b
              by_cases ej : j = i
              · subst ej; exact h50
              · exact hz5 j a (by omega), hS⟩
        · have hnx := hG5.next (show k < mm by omega) (show rank < M5.length by omega) hg5 fun j a b => hz5 j a (by omega)
          refine Cd.exit ?_
          refine thenQ_x ?_
          refine thenQ_x ?_
          refine blockQ_x ?_
          refine thenQ_n ?_
          refine Cd.region ?_
          refine Ops.mv_int rfl rfl rfl ?_
          refine Ops.add rfl rfl rfl (by omega) ?_
          refine Ops.mv_int rfl rfl rfl ?_
          refine Ops.nil ?_
          refine blockQ_n ?_
          refine thenQ_n ?_
          refine Cd.region ?_
          refine Ops.mv_int rfl rfl rfl ?_
          refine Ops.add rfl rfl rfl (by omega) ?_
          refine Ops.mv_int rfl rfl rfl ?_
          refine Ops.nil ?_
          refine thenQ_n ?_
          exact ⟨(k + 1, rank + 1, rs4, M5), by show mm - (k + 1) < mm - k; omega, ⟨rfl, rfl, rfl, rfl, trivial⟩, by show k + 1 ≤ mm; omega, hnx, hsl, hS⟩
    · have hre : r = n := by omega
      have hsk := hG.skip (show k < mm by omega) fun j a b => hz j a (by omega)
      refine Ops.skipg rfl rfl rfl rfl rfl ?_
      refine Ops.skipg rfl rfl rfl rfl rfl ?_
      refine Ops.skipg rfl rfl rfl rfl rfl ?_
      refine Ops.skipg rfl rfl rfl rfl rfl ?_
      refine Ops.skipg rfl rfl rfl rfl rfl ?_
      refine Ops.skipg rfl rfl rfl rfl rfl ?_
      refine Ops.skipg rfl rfl rfl rfl rfl ?_
      refine Ops.skipg rfl rfl rfl rfl rfl ?_
      refine Ops.pick_f rfl rfl rfl ?_
      refine Ops.nil ?_
      refine thenQ_n ?_
      refine Cd.cond_f rfl ?_
      refine Cd.exit ?_
      refine thenQ_x ?_
      refine thenQ_x ?_
      refine blockQ_x ?_
      refine thenQ_n ?_
      refine Cd.seq ?_
      refine Cd.seq ?_
      refine Cd.region ?_
      refine Ops.mv_int rfl rfl rfl ?_
      refine Ops.mv_sl rfl rfl rfl ?_
      refine Ops.len rfl rfl ?_
      refine Ops.eql rfl rfl rfl ?_
      refine Ops.nil ?_
      refine thenQ_n ?_
      refine Cd.cond_pt rfl (by omega) ?_
      refine Cd.exit ?_
      refine thenQ_x ?_
      refine blockQ_x ?_
      refine thenQ_n ?_
      refine Cd.region ?_
      refine Ops.mv_int rfl rfl rfl ?_
      refine Ops.add rfl rfl rfl (by omega) ?_
      refine Ops.mv_int rfl rfl rfl ?_
      refine Ops.nil ?_
      refine thenQ_n ?_
      exact ⟨(k + 1, rank, rs3, M), by show mm - (k + 1) < mm - k; omega, ⟨rfl, rfl, rfl, rfl, trivial⟩, by show k + 1 ≤ mm; omega, hsk, hrl, hS⟩
  · have hke : k = mm := by omega
    refine Cd.exit ?_
    refine thenQ_x ?_
    refine thenQ_x ?_
    refine blockQ_x ?_
    refine thenQ_n ?_
    refine Cd.seq ?_
    refine Cd.region ?_
    refine Ops.mv_int rfl rfl rfl ?_
    refine Ops.mv_int rfl rfl rfl ?_
    refine Ops.nil ?_
    refine thenQ_n ?_
    refine Cd.ret ?_
    refine ret1_i rfl ?_
    exact ⟨rank, rfl, hG.rank (by omega), hS.none⟩
end Go.Proofs.YtdedegbendjmbaaGreatDoor.Vc
/-
  Joins of complexes and vectors, walked on both sides. Conditions: as each states them.
-/
namespace Go.Proofs.YtdedegbendjmbaaGreatDoor.Vc
open Go.RowKit

def jcV (V : Int) (F : List (List Int)) (W : Int) (G : List (List Int)) : Int := if Cplx V F ∧ Cplx W G then jnV V F G else 0
def jcL (V : Int) (F : List (List Int)) (W : Int) (G : List (List Int)) : List (List Int) := if Cplx V F ∧ Cplx W G then jnLs V F G else []
def jcK (V : Int) (F : List (List Int)) (W : Int) (G : List (List Int)) : Int := if Cplx V F ∧ Cplx W G then jnK V F G else 1
theorem l17Size_c (V : Int) (A : Option Addr) (n c : Nat) (rs : List SlV) (F : List (List Int)) (w : World) (hR : RowsI w A n rs F) (hn : n ≤ 1000) (h6 : ∀ f ∈ F, f.length ≤ 1000000) :
    Ret Tryz.prog 76 [.agg #[.int .i64 V, .slice A n c]] w (fun v w' => v = .int .i64 (dpt F : Int) ∧ St w w' []) := by
  have hFl := hR.len
  refine Ret.of_cd Tryz.func76 rfl Tryz.ntmps76 rfl (post1 rfl) ?_
  refine Cd.seq ?_
  refine Cd.region ?_
  refine Ops.box2 (St.refl w) rfl rfl ?_
  intro Ab w1 hS1
  have hS1 : St w w1 [cxB Ab V A n c] := hS1
  refine Ops.mv_int rfl rfl rfl ?_
  refine Ops.nil ?_
  refine thenQ_n ?_
  refine Cd.seq ?_
  refine Cd.region ?_
  refine Ops.mv_int rfl rfl rfl ?_
  refine Ops.nil ?_
  refine thenQ_n ?_
  refine Cd.seq ?_
  refine Cd.seq ?_
  refine Cd.region ?_
  refine Ops.mv_int rfl rfl rfl ?_
  refine Ops.nil ?_
  refine thenQ_n ?_
  refine Cd.block ?_
  refine Cd.loop (α := Nat) (fun i => [(1, .pointer Ab), (3, .int .i64 ((dpt (F.take i) : Nat) : Int)), (4, .int .i64 (i : Int))]) (fun i w' => St w w' [cxB Ab V A n c] ∧ i ≤ n) (fun i => n - i) 0 ⟨rfl, rfl, rfl, trivial⟩ ⟨hS1, Nat.zero_le _⟩ ?_
  rintro i e w2 ⟨hS, hi⟩
  refine Cd.seq ?_
  refine Cd.seq ?_
  refine Cd.region ?_
  refine Ops.mv_int rfl rfl rfl ?_
  refine Ops.fld (hS.rd 0 rfl) rfl rfl rfl rfl inferInstance ?_
  refine Ops.ldf_s (hS.rd 0 rfl) rfl rfl rfl rfl rfl ?_
  refine Ops.len rfl rfl ?_
  refine Ops.lss rfl rfl rfl ?_
  refine Ops.nil ?_
  refine thenQ_n ?_
  refine Cd.cond_p _ rfl (fun h3 => ?_) (fun h3 => ?_)
  · have hiF : i < F.length := by omega
    have hM := hS.oldRows hR
    have hrow := hM.at_ (i := (i : Int)) (by omega) (by omega)
    have hrl0 := hrow.1
    refine Cd.skip ?_
    refine thenQ_n ?_
    refine Cd.seq ?_
    refine Cd.block ?_
    refine Cd.region ?_
    refine Ops.mv_int rfl rfl rfl ?_
    refine Ops.fld (hS.rd 0 rfl) rfl rfl rfl rfl inferInstance ?_
    refine Ops.ldf_s (hS.rd 0 rfl) rfl rfl rfl rfl rfl ?_
    refine Ops.mv_int rfl rfl rfl ?_
    refine Ops.idx hM.top.2 rfl rfl rfl (by omega) (by omega) ?_
    refine Ops.ld_sl hM.top rfl (by omega) rfl rfl ?_
    refine Ops.len rfl rfl ?_
    refine Ops.maxI rfl rfl rfl ?_
    refine Ops.mv_int rfl rfl rfl ?_
    refine Ops.nil ?_
    refine blockQ_n ?_
    refine thenQ_n ?_
    refine Cd.region ?_
    refine Ops.mv_int rfl rfl rfl ?_
    refine Ops.add rfl rfl rfl (by omega) ?_
    refine Ops.mv_int rfl rfl rfl ?_
    refine Ops.nil ?_
    refine thenQ_n ?_
    exact ⟨i + 1, by show n - (i + 1) < n - i; omega, ⟨rfl, by show Value.int .i64 _ = .int .i64 _; rw [dpt_succ hiF]; congr 1; omega, rfl, trivial⟩, hS, by omega⟩
  · have hin : i = F.length := by omega
    refine Cd.exit ?_
    refine thenQ_x ?_
    refine thenQ_x ?_
    refine blockQ_x ?_
    refine thenQ_n ?_
    refine Cd.seq ?_
    refine Cd.region ?_
    refine Ops.mv_int rfl rfl rfl ?_
    refine Ops.mv_int rfl rfl rfl ?_
    refine Ops.nil ?_
    refine thenQ_n ?_
    refine Cd.ret ?_
    refine ret1_i rfl ?_
    refine ⟨?_, hS.none⟩
    rw [hin, List.take_length]

/-! the reference's polynomial -/
def plH (f : List Int) (k : Nat) : List Int := (List.range k).map fun i => pW (f.take k) (k - 1) (k - 1 - i)
def nxE (p : List Int) (i j : Nat) : Int := (if 1 ≤ j ∧ j ≤ i then gi p ((j - 1 : Nat) : Int) else 0) - (if j < i then gi p (j : Int) else 0)
def nxL (p : List Int) (i : Nat) : List Int := (List.range (p.length + 1)).map (nxE p i)
end Go.Proofs.YtdedegbendjmbaaGreatDoor.Vc
/-
  A statement whose order Go leaves open, by a property of what is done so far. Conditions: as the rule names them.
-/
namespace Go.Proofs.YtdedegbendjmbaaGreatDoor.Vc
open Go.RowKit

/-- the order of the text is one of the orders -/
def backB (l : List Oper) : Bool := l.zipIdx.all fun p => (aft p.1).all fun ed => Nat.blt ed.on p.2
theorem thenQ_ext {K : Env → World → Prop} {Q : Post} {e : Env} {w : World} {F : List (Nat × Value)} (hM : Mt e F) (h : thenQ K Q .normal (ext e F) w) : thenQ K Q .normal e w := by rwa [ext_of_mt hM] at h
section
variable {P : Program} {N : Nat} {e : Env} {w : World}
end
end Go.Proofs.YtdedegbendjmbaaGreatDoor.Vc
/-
  The reference's Betti numbers of complexes, walked. Conditions: as each states them.
-/
namespace Go.Proofs.YtdedegbendjmbaaGreatDoor.Vc
open Go.RowKit

theorem IsRk.le {L : List Nat} {r : Nat} (h : IsRk L r) : r ≤ L.length := by
  obtain ⟨B, rfl, hB, hE⟩ := h
  have h1 := sub_len _ _ hB fun x hx => (hE x).2 hx
  rw [sums_len, sums_len] at h1
  rcases Nat.lt_or_ge L.length B.length with hl | hl
  · have := Nat.pow_lt_pow_right (a := 2) (by omega) hl; omega
  · exact hl

set_option maxHeartbeats 2000000 in
theorem specComplexBetti_c (V : Int) (A : Option Addr) (n c : Nat) (rs : List SlV) (F : List (List Int)) (w : World) (hR : RowsI w A n rs F) (hn : n ≤ 9223372036854775807) :
    Ret Tryz.prog 21 [.agg #[.int .i64 V, .slice A n c]] w (AnsR (btV V F) (hvK V F) w) := by
  have hFl := hR.len
  refine Ret.of_cd Tryz.func21 rfl Tryz.ntmps21 rfl (post2 rfl) ?_
  refine Cd.seq ?_
  refine Cd.region ?_
  refine Ops.box2 (St.refl w) rfl rfl ?_
  intro Ab w1 hS1
  refine Ops.mv_sl rfl rfl rfl ?_
  refine Ops.mv_int rfl rfl rfl ?_
  refine Ops.nil ?_
  refine thenQ_n ?_
  refine Cd.seq ?_
  refine Cd.seq ?_
  refine Cd.region ?_
  refine Ops.ld_agg 1 (hS1.rd 0 rfl) rfl rfl rfl ?_
  refine Ops.call (l17Is_c V A n c rs F _ (hS1.oldRows hR) hn) rfl rfl rfl ?_
  rintro _ w2 ⟨rfl, hst⟩
  have hS2 : St w w2 [cxB Ab V A n c] := hS1.later hst.below
  unfold btV hvK
  first | refine Ops.not_p rfl rfl ?_ | refine Ops.not rfl rfl ?_
  refine Ops.nil ?_
  refine thenQ_n ?_
  refine Cd.cond_p _ rfl (fun h1 => ?_) (fun h1 => ?_)
  · rw [if_neg h1, if_neg h1]
    refine Cd.seq ?_
    refine Cd.region ?_
    refine Ops.mv_sl rfl rfl rfl ?_
    refine Ops.mv_int rfl rfl rfl ?_
    refine Ops.nil ?_
    refine thenQ_n ?_
    refine Cd.ret ?_
    refine thenQ_r ?_
    refine ret2_si rfl rfl ?_
    exact ⟨none, 0, rfl, hS2.none.nil _⟩
  have hC := Classical.not_not.1 h1
  have hF4 := hC.f
  have h6 : ∀ f ∈ F, f.length ≤ 6 := fun f hf => (hC.row f hf).1.2
  have hd := dpt_bd h6
  rw [if_pos hC, if_pos hC]
  refine Cd.skip ?_
  refine thenQ_n ?_
  refine Cd.seq ?_
  refine Cd.region ?_
  refine Ops.bs0 hS2 rfl ?_
  intro A4 w3 hS3
  have hS3 : St w w3 [CkI 2 A4 0 0 [], cxB Ab V A n c] := hS3
  clear hS1 hS2 hst
  refine Ops.mv_sl rfl rfl rfl ?_
  refine Ops.nil ?_
  refine thenQ_n ?_
  refine Cd.seq ?_
  refine Cd.region ?_
  refine Ops.mv_int rfl rfl rfl ?_
  refine Ops.nil ?_
  refine thenQ_n ?_
  refine Cd.seq ?_
  refine Cd.seq ?_
  refine Cd.region ?_
  refine Ops.mv_int rfl rfl rfl ?_
  refine Ops.nil ?_
  refine thenQ_n ?_
  refine Cd.block ?_
  refine Cd.loop (α := Nat × Option Addr × Nat) (fun z => [(1, .pointer Ab), (4, .slice z.2.1 z.1 z.2.2), (5, .int .i64 (rkF F z.1 : Int)), (6, .int .i64 ((z.1 : Int) + 1))])
    (fun z w' => z.1 ≤ dpt F ∧ rkF F z.1 ≤ 30000 ∧ St w w' [CkI 2 z.2.1 z.1 z.2.2 (btG F z.1), cxB Ab V A n c]) (fun z => dpt F - z.1) (0, A4, 0) ⟨rfl, rfl, rfl, rfl, trivial⟩ ⟨Nat.zero_le _, by show rkF F 0 ≤ 30000; simp [rkF], hS3⟩ ?_
  clear hS3
  rintro ⟨j, A4, c4⟩ e w2 ⟨hj, hrk, hS⟩
  dsimp only at hj hrk hS ⊢
  refine Cd.seq ?_
  refine Cd.seq ?_
  refine Cd.region ?_
  refine Ops.mv_int rfl rfl rfl ?_
  refine Ops.ld_agg 1 (hS.rd 1 rfl) rfl rfl rfl ?_
  refine Ops.call (l17Size_c V A n c rs F _ (hS.oldRows hR) (by omega) (fun f hf => by have := h6 f hf; omega)) rfl rfl rfl ?_
  rintro _ w3 ⟨rfl, hst⟩
  have hS := hS.later hst.below
  refine Ops.leq rfl rfl rfl ?_
  refine Ops.nil ?_
  refine thenQ_n ?_
  refine Cd.cond_p _ rfl (fun h2 => ?_) (fun h2 => ?_)
  · have hn1 := fcs_num (j + 1) h6
    have hn2 := fcs_num (j + 1 + 1) h6
    have hB := hS.rd 1 rfl
    have hX := hS.oldRows hR
    refine Cd.skip ?_
    refine thenQ_n ?_
    refine Cd.seq ?_
    refine Cd.block ?_
    refine Cd.seq ?_
    refine Cd.draw [.ex (.agg #[.int .i64 (V), .slice (A) (n) (c)]), .ex (.int .i64 (((j : Int) + 1))), .pr (fun v w' => ∃ D d ts, v = .slice D (fcs F (j + 1)).length d ∧ RowsI w' D (fcs F (j + 1)).length ts (fcs F (j + 1))), .ex (.agg #[.int .i64 (V), .slice (A) (n) (c)]), .ex (.int .i64 (((j : Int) + 1))), .ex (.int .i64 ((((j : Int) + 1)) + ((1 : Int)))), .pr (fun v w' => ∃ D d ts, v = .slice D (fcs F (j + 1 + 1)).length d ∧ RowsI w' D (fcs F (j + 1 + 1)).length ts (fcs F (j + 1 + 1))), .pr (fun v w' => ∃ D d ts, v = .slice D (fcs F (j + 1)).length d ∧ RowsI w' D (fcs F (j + 1)).length ts (fcs F (j + 1))), .pr (fun v w' => ∃ D d ts, v = .slice D (fcs F (j + 1 + 1)).length d ∧ RowsI w' D (fcs F (j + 1 + 1)).length ts (fcs F (j + 1 + 1)))] (by kernel_rfl) (by kernel_rfl) rfl (List.forall_mem_cons.2 ⟨Yd.lasts_ex _, (List.forall_mem_cons.2 ⟨Yd.lasts_ex _, (List.forall_mem_cons.2 ⟨Yd.lasts_pr (fun v w w' h hb => by obtain ⟨D, d, ts, hv, h1⟩ := h; exact ⟨D, d, ts, hv, h1.later hb⟩), (List.forall_mem_cons.2 ⟨Yd.lasts_ex _, (List.forall_mem_cons.2 ⟨Yd.lasts_ex _, (List.forall_mem_cons.2 ⟨Yd.lasts_ex _, (List.forall_mem_cons.2 ⟨Yd.lasts_pr (fun v w w' h hb => by obtain ⟨D, d, ts, hv, h1⟩ := h; exact ⟨D, d, ts, hv, h1.later hb⟩), (List.forall_mem_cons.2 ⟨Yd.lasts_pr (fun v w w' h hb => by obtain ⟨D, d, ts, hv, h1⟩ := h; exact ⟨D, d, ts, hv, h1.later hb⟩), (List.forall_mem_cons.2 ⟨Yd.lasts_pr (fun v w w' h hb => by obtain ⟨D, d, ts, hv, h1⟩ := h; exact ⟨D, d, ts, hv, h1.later hb⟩), (fun _ h => by cases h)⟩)⟩)⟩)⟩)⟩)⟩)⟩)⟩)⟩) ⟨?_, ?_, ?_, ?_, ?_, ?_, ?_, ?_, ?_, trivial⟩ ?_
    · intro e1 w1 hb hp hun
      refine Ops.ld_agg 1 (hB.below hb) rfl rfl rfl ?_
      refine Ops.nil ?_
      exact After.dn (Below.refl _ _) (by exact rfl)
    · intro e1 w1 hb hp hun
      refine Ops.mv_int rfl rfl rfl ?_
      refine Ops.nil ?_
      exact After.dn (Below.refl _ _) (by exact rfl)
    · intro e1 w1 hb hp hun
      refine Ops.call (l17Faces_c V A n c rs F (j + 1) _ (hX.later hb) (by omega) h6 (by omega)) rfl rfl rfl ?_
      rintro _ w9 ⟨D, d, ts, rfl, hl9, hst9⟩
      refine Ops.nil ?_
      exact After.dn hst9.below ⟨D, d, ts, rfl, hst9.rowsI rfl⟩
    · intro e1 w1 hb hp hun
      refine Ops.ld_agg 1 (hB.below hb) rfl rfl rfl ?_
      refine Ops.nil ?_
      exact After.dn (Below.refl _ _) (by exact rfl)
    · intro e1 w1 hb hp hun
      refine Ops.mv_int rfl rfl rfl ?_
      refine Ops.nil ?_
      exact After.dn (Below.refl _ _) (by exact rfl)
    · intro e1 w1 hb hp hun
      refine Ops.add rfl rfl rfl (by omega) ?_
      refine Ops.nil ?_
      exact After.dn (Below.refl _ _) (by exact rfl)
    · intro e1 w1 hb hp hun
      refine Ops.call (l17Faces_c V A n c rs F (j + 1 + 1) _ (hX.later hb) (by omega) h6 (by omega)) rfl rfl rfl ?_
      rintro _ w9 ⟨D, d, ts, rfl, hl9, hst9⟩
      refine Ops.nil ?_
      exact After.dn hst9.below ⟨D, d, ts, rfl, hst9.rowsI rfl⟩
    · intro e1 w1 hb hp hun
      obtain ⟨D, d, ts, h22, h1⟩ := (hp 2 (by decide) rfl _ _ rfl rfl)
      refine Ops.mv_sl rfl (by exact h22) rfl ?_
      refine Ops.nil ?_
      exact After.dn (Below.refl _ _) ⟨D, d, ts, rfl, h1⟩
    · intro e1 w1 hb hp hun
      obtain ⟨D, d, ts, h26, h1⟩ := (hp 6 (by decide) rfl _ _ rfl rfl)
      refine Ops.mv_sl rfl (by exact h26) rfl ?_
      refine Ops.nil ?_
      exact After.dn (Below.refl _ _) ⟨D, d, ts, rfl, h1⟩
    intro u w4 hb4 hu
    obtain ⟨D7, d7, ts7, h7, hR7⟩ := hu 7 _ rfl
    obtain ⟨D8, d8, ts8, h8, hR8⟩ := hu 8 _ rfl
    have hS4 := hS.later hb4
    have hl1 : ∀ x ∈ fcs F (j + 1), x.length ≤ 1000000 := fun x hx => by rw [fcs_len hx]; omega
    have hl2 : ∀ x ∈ fcs F (j + 1 + 1), x.length ≤ 1000000 := fun x hx => by rw [fcs_len hx]; omega
    have hmt : ((fcs F (j + 1 + 1)).map (rwB (fcs F (j + 1)))).map rowM = matF F (j + 1) := by rw [List.map_map]; rfl
    have hml : (matF F (j + 1)).length = (fcs F (j + 1 + 1)).length := by simp [matF]
    have hba : btA F j = ((fcs F (j + 1)).length : Int) - (rkF F j : Int) - (rkF F (j + 1) : Int) := rfl
    have hbn : ∀ x ∈ (fcs F (j + 1 + 1)).map (rwB (fcs F (j + 1))), Bin (fcs F (j + 1)).length x := fun x hx => by obtain ⟨y, _, rfl⟩ := List.mem_map.1 hx; exact rwB_bin _ _
    generalize fcs F (j + 1) = G at *
    generalize fcs F (j + 1 + 1) = H at *
    refine thenQ_ext (F := [(1, .pointer Ab), (4, .slice A4 j c4), (5, .int .i64 (rkF F j : Int)), (6, .int .i64 ((j : Int) + 1)), (7, .slice D7 G.length d7), (8, .slice D8 H.length d8)]) ⟨rfl, rfl, rfl, rfl, h7, h8, trivial⟩ ?_
    refine thenQ_n ?_
    refine Cd.seq ?_
    refine Cd.region ?_
    refine Ops.mv_sl rfl rfl rfl ?_
    refine Ops.mv_sl rfl rfl rfl ?_
    refine Ops.call (l17Matrix_c D8 _ d8 ts8 H D7 _ d7 ts7 G _ hR8 hR7 (by omega) (by omega) hl2 hl1) rfl rfl rfl ?_
    rintro _ w5 ⟨A9, c9, rs9, rfl, hl9, hst9⟩
    refine Ops.call (l17Rank_c A9 _ c9 rs9 _ G.length _ (hst9.rowsI rfl) (by simp; omega) (by omega) hbn) rfl rfl rfl ?_
    rintro _ w6 ⟨r, rfl, hr, hst10⟩
    rw [hmt] at hr
    have e := rkF_eq (by omega) hr
    have hle := hr.le
    have hS6 := hS4.later (hst9.later hst10.below).below
    refine Ops.mv_int rfl rfl rfl ?_
    refine Ops.nil ?_
    refine thenQ_n ?_
    refine Cd.seq ?_
    refine Cd.region ?_
    refine Ops.mv_sl rfl rfl rfl ?_
    refine Ops.mv_sl rfl rfl rfl ?_
    refine Ops.len rfl rfl ?_
    refine Ops.mv_int rfl rfl rfl ?_
    refine Ops.sub rfl rfl rfl (by omega) ?_
    refine Ops.mv_int rfl rfl rfl ?_
    refine Ops.sub rfl rfl rfl (by omega) ?_
    refine Ops.bs1I hS6 rfl rfl rfl ?_
    intro A38 w7 hS7
    refine Ops.appI 1 hS7 rfl (hS7.rdI 0 rfl) rfl rfl rfl (by omega) (by omega) rfl ?_
    intro A39 c39 w8 hS8
    refine Ops.mv_sl rfl rfl rfl ?_
    refine Ops.nil ?_
    refine thenQ_n ?_
    refine Cd.region ?_
    refine Ops.mv_int rfl rfl rfl ?_
    refine Ops.mv_int rfl rfl rfl ?_
    refine Ops.nil ?_
    refine blockQ_n ?_
    refine thenQ_n ?_
    refine Cd.region ?_
    refine Ops.mv_int rfl rfl rfl ?_
    refine Ops.add rfl rfl rfl (by omega) ?_
    refine Ops.mv_int rfl rfl rfl ?_
    refine Ops.nil ?_
    refine thenQ_n ?_
    refine ⟨(j + 1, A39, c39), by show dpt F - (j + 1) < dpt F - j; omega, ⟨rfl, rfl, by rw [e]; rfl, rfl, trivial⟩, by show j + 1 ≤ dpt F; omega, by show rkF F (j + 1) ≤ 30000; omega, ?_⟩
    show St w w8 [CkI 2 A39 (j + 1) c39 (btG F (j + 1)), _]
    rw [btG_succ, hba, e]
    exact St.tail hS8
  · have hje : j = dpt F := by omega
    have hl : (btP F).length = dpt F := btG_len _ _
    refine Cd.exit ?_
    refine thenQ_x ?_
    refine thenQ_x ?_
    refine blockQ_x ?_
    refine thenQ_n ?_
    refine Cd.seq ?_
    refine Cd.region ?_
    refine Ops.mv_sl rfl rfl rfl ?_
    refine Ops.mv_sl rfl rfl rfl ?_
    refine Ops.mv_int rfl rfl rfl ?_
    refine Ops.nil ?_
    refine thenQ_n ?_
    refine Cd.ret ?_
    refine ret2_si rfl rfl ?_
    subst hje
    exact ⟨A4, c4, by rw [hl], by rw [hl]; exact hS.sub (List.Sublist.cons_cons _ (List.nil_sublist _))⟩
end Go.Proofs.YtdedegbendjmbaaGreatDoor.Vc
/-
  The walk of the law FnExactComplexBetti: it returns true. Conditions: the library's table of powers of ten holds what the program's text lays there.
-/
namespace Go.Proofs.YtdedegbendjmbaaGreatDoor.Vc
open Go.RowKit

theorem btV_len (V : Int) (F : List (List Int)) : (btV V F).length ≤ 1000 := by
  unfold btV
  split
  · rename_i hC
    have := dpt_bd (F := F) (b := 6) fun f hf => (hC.row f hf).1.2
    have hl : (btP F).length = dpt F := btG_len _ _
    omega
  · simp

set_option maxHeartbeats 1000000 in
theorem FnExactComplexBetti_c (V : Int) (A : Option Addr) (n c : Nat) (rs : List SlV) (F : List (List Int)) (w : World) (hT : Tab w) (hR : RowsI w A n rs F) (hn : n ≤ 9223372036854775807) :
    Ret Tryz.prog 4 [.agg #[.int .i64 V, .slice A n c]] w (fun v w' => v = .bool true ∧ St w w' []) := by
  have hxl := hR.len
  refine Ret.of_cd Tryz.func4 rfl Tryz.ntmps4 rfl (post1 rfl) ?_
  refine Cd.seq ?_
  refine Cd.region ?_
  refine Ops.box2 (St.refl w) rfl rfl ?_
  intro Ab w1 hS
  refine Ops.mv_bool rfl rfl rfl ?_
  refine Ops.nil ?_
  refine thenQ_n ?_
  refine Cd.seq ?_
  refine Cd.region ?_
  refine Ops.mv_int rfl rfl rfl ?_
  refine Ops.nil ?_
  refine thenQ_n ?_
  refine Cd.seq ?_
  refine Cd.region ?_
  refine Ops.ld_agg 1 (hS.rd 0 rfl) rfl rfl rfl ?_
  refine Ops.mv_int rfl rfl rfl ?_
  refine Ops.call (szComplex_c V A n c rs F 1048576 _ (hS.oldRows hR) hn (by omega)) rfl rfl rfl ?_
  rintro _ w2 ⟨rfl, hst⟩
  have hS := hS.later hst.below
  refine Ops.mv_int rfl rfl rfl ?_
  refine Ops.nil ?_
  refine thenQ_n ?_
  refine Cd.seq ?_
  refine Cd.seq ?_
  refine Cd.region ?_
  refine Ops.mv_int rfl rfl rfl ?_
  refine Ops.lss rfl rfl rfl ?_
  refine Ops.nil ?_
  refine thenQ_n ?_
  refine Cd.cond_p _ rfl (fun h1 => ?_) (fun h1 => ?_)
  · refine Cd.seq ?_
    refine Cd.region ?_
    refine Ops.mv_bool rfl rfl rfl ?_
    refine Ops.nil ?_
    refine thenQ_n ?_
    refine Cd.ret ?_
    refine thenQ_r ?_
    refine ret1_b rfl ?_
    exact ⟨rfl, hS.none⟩
  have hsm := small_of hR.top.1 (Int.not_lt.1 h1)
  have hfit := fits_of hR.top.1 (by omega) (Int.not_lt.1 h1)
  refine Cd.skip ?_
  refine thenQ_n ?_
  refine Cd.seq ?_
  refine Cd.region ?_
  refine Ops.ld_agg 1 (hS.rd 0 rfl) rfl rfl rfl ?_
  refine Ops.call (toComplex_c V A n c rs F _ (hS.oldRows hR) hfit) rfl rfl rfl ?_
  rintro _ w3 ⟨A1, rs1, rfl, hrl1, hst1⟩
  have hS3 := hS.later hst1.below
  have hX3 : RowsI w3 A1 n rs1 F := St.rowsI (ks := []) (by rwa [List.append_nil]) hxl
  refine Ops.call (specComplexBetti_c V A1 n n rs1 F _ hX3 hn) rfl rfl rfl ?_
  rintro _ w5 ⟨A5, c5, rfl, hst5⟩
  have hL := btV_len V F
  have hS5 := hS3.later hst5.below
  generalize hLe : btV V F = L at *
  generalize hKe : hvK V F = K at *
  have hP5 : RdI w5 A5 L.length L := hst5.rdI 0 rfl
  have hAb := hS5.rd 0 rfl
  have hR5 := hS5.oldRows hR
  have hT5 := hT.later hS5.below
  refine Ops.mv_tup rfl rfl rfl ?_
  refine Ops.extract rfl rfl rfl ?_
  refine Ops.extract rfl rfl rfl ?_
  refine Ops.mv_sl rfl rfl rfl ?_
  refine Ops.mv_int rfl rfl rfl ?_
  refine Ops.nil ?_
  refine thenQ_n ?_
  refine Cd.seq ?_
  refine Cd.region ?_
  refine Ops.ld_agg 1 hAb rfl rfl rfl ?_
  refine Ops.call (toComplex_c V A n c rs F _ hR5 hfit) rfl rfl rfl ?_
  rintro _ w8 ⟨A7, rs7, rfl, hrl7, hT8⟩
  refine Ops.new2 hT8 rfl ?_
  intro A8 w9 hT9
  refine Ops.st_agg 2 0 hT9 rfl rfl rfl rfl rfl rfl rfl ?_
  intro w11 hT11
  have hT11 : St w5 w11 (cxB A8 V A7 n n :: mat 25 2 A7 n n rs7 F) := hT11
  refine Ops.nil ?_
  refine thenQ_n ?_
  refine Cd.seq ?_
  refine Cd.region ?_
  refine Ops.ld_agg 1 (hT11.rd 0 rfl) rfl rfl rfl ?_
  have hI := ComplexBetti_c V A7 n n rs7 F w11 (hT5.later hT11.below) (St.rowsI (ks := []) (by rw [List.append_nil]; exact hT11.tail) hxl) hn
  rw [hLe, hKe] at hI
  refine Ops.call hI rfl rfl rfl ?_
  rintro _ w12 ⟨A10, c10, rfl, hst12⟩
  have hT12 : St w5 w12 ([CkI 2 A10 L.length c10 L, cxB A8 V A7 n n] ++ (mat 25 2 A7 n n rs7 F ++ [])) := by
    rw [List.append_nil]; exact hT11.call hst12
  refine Ops.mv_tup rfl rfl rfl ?_
  refine Ops.extract rfl rfl rfl ?_
  refine Ops.extract rfl rfl rfl ?_
  refine Ops.mv_sl rfl rfl rfl ?_
  refine Ops.mv_int rfl rfl rfl ?_
  refine Ops.nil ?_
  refine thenQ_n ?_
  refine Cd.seq ?_
  refine Cd.seq ?_
  refine Cd.region ?_
  refine Ops.mv_sl rfl rfl rfl ?_
  refine Ops.mv_sl rfl rfl rfl ?_
  refine Ops.call (eqInt64S_c A10 _ c10 L A5 _ c5 L _ (hT12.rdI 0 rfl) (hT12.oldI hP5) (by omega)) rfl rfl rfl ?_
  rintro _ w15 ⟨rfl, hst15⟩
  have hT15 := hT12.later hst15.below
  first | refine Ops.not_p rfl rfl ?_ | refine Ops.not rfl rfl ?_
  refine Ops.mv_bool rfl rfl rfl ?_
  refine Ops.split_p 36 rfl (fun h => absurd rfl h) (fun _ => ?_) --f
  refine Ops.rung rfl rfl rfl ?_
  refine Ops.mv_int rfl rfl rfl ?_
  refine Ops.rung rfl rfl rfl ?_
  refine Ops.mv_int rfl rfl rfl ?_
  refine Ops.rung rfl rfl rfl ?_
  refine Ops.neq rfl rfl rfl ?_
  refine Ops.pick_f rfl rfl rfl ?_
  refine Ops.nil ?_
  refine thenQ_n ?_
  refine Cd.cond_pf rfl (fun h => h rfl) ?_
  refine Cd.skip ?_
  refine thenQ_n ?_
  refine Cd.seq ?_
  refine Cd.seq ?_
  have hX8 := hT15.rd 1 rfl
  have hAb15 := hT15.old hAb
  have hR15 := hT15.oldRows hR5
  have hF15 : RowsI w15 A7 n rs7 F := (hT15.sub (List.sublist_append_right _ _)).rowsI hxl
  refine Cd.draw [.ex (.agg #[.int .i64 (V), .slice (A7) (n) (n)]), .ex (.agg #[.int .i64 (V), .slice (A) (n) (c)]), .pr (fun v w' => ∃ D rd, v = .agg #[.int .i64 V, .slice D n n] ∧ RowsI w' D n rd F), .ex (.bool (true)), .ex (.bool (false))] (by kernel_rfl) (by kernel_rfl) rfl (List.forall_mem_cons.2 ⟨Yd.lasts_ex _, (List.forall_mem_cons.2 ⟨Yd.lasts_ex _, (List.forall_mem_cons.2 ⟨Yd.lasts_pr (fun v w w' h hb => by obtain ⟨D, rd, hv, h1⟩ := h; exact ⟨D, rd, hv, h1.later hb⟩), (List.forall_mem_cons.2 ⟨Yd.lasts_ex _, (List.forall_mem_cons.2 ⟨Yd.lasts_ex _, (fun _ h => by cases h)⟩)⟩)⟩)⟩)⟩) ⟨?_, ?_, ?_, ?_, ?_, trivial⟩ ?_
  · intro e1 w1 hb hp hun
    refine Ops.ld_agg 1 (hX8.below hb) rfl rfl rfl ?_
    refine Ops.nil ?_
    exact After.dn (Below.refl _ _) (by exact rfl)
  · intro e1 w1 hb hp hun
    refine Ops.ld_agg 1 (hAb15.below hb) rfl rfl rfl ?_
    refine Ops.nil ?_
    exact After.dn (Below.refl _ _) (by exact rfl)
  · intro e1 w1 hb hp hun
    refine Ops.call (toComplex_c V A n c rs F _ (hR15.later hb) hfit) rfl rfl rfl ?_
    rintro _ w2 ⟨D, rd, rfl, hrd, hst⟩
    refine Ops.nil ?_
    exact After.dn hst.below ⟨D, rd, rfl, St.rowsI (ks := []) (by rwa [List.append_nil]) hxl⟩
  · intro e1 w1 hb hp hun
    obtain ⟨D, rd, h43, h1⟩ := (hp 2 (by decide) rfl _ _ rfl rfl)
    refine Ops.call (eqComplex_c V A7 n n rs7 F V D n n rd F _ (hF15.later hb) h1 hn) rfl (by exact congrArg (fun v => [Value.agg #[.int .i64 V, .slice A7 n n], v]) h43) rfl ?_
    rintro _ w2 ⟨rfl, hst⟩
    refine Ops.nil ?_
    exact After.dn hst.below (congrArg Value.bool (decide_eq_true ⟨rfl, rfl⟩))
  · intro e1 w1 hb hp hun
    refine Ops.not rfl rfl ?_
    refine Ops.nil ?_
    exact After.dn (Below.refl _ _) (by exact congrArg Value.bool (rfl))
  intro u w16 hb16 _
  have hT18 := hT15.later hb16
  refine thenQ_n ?_
  refine Cd.cond_f rfl ?_
  refine Cd.skip ?_
  refine thenQ_n ?_
  refine Cd.seq ?_
  refine Cd.region ?_
  refine Ops.mv_int rfl rfl rfl ?_
  refine Ops.nil ?_
  refine thenQ_n ?_
  refine Cd.seq ?_
  refine Cd.region ?_
  refine Ops.ld_agg 1 (hT18.rd 1 rfl) rfl rfl rfl ?_
  refine Ops.mv_int rfl rfl rfl ?_
  refine Ops.call (markComplex_c (pre := [CkI 2 A10 L.length c10 L, cxB A8 V A7 n n]) (post := []) (rs := rs7) V 1 hT18 hrl7 hxl (by omega) (fun i hi => ?_) (by omega)) rfl rfl rfl ?_
  · have h1 := (((hT18.sub (List.sublist_append_right _ _)).rowsI hxl).row i hi).1
    have h2 := (hR.row i hi).1
    have h3 := hsm.2 i hi
    omega
  rintro _ w19 ⟨K1, ys, rfl, hK1, hyl, hT19⟩
  refine Ops.mv_int rfl rfl rfl ?_
  refine Ops.nil ?_
  refine thenQ_n ?_
  refine Cd.seq ?_
  refine Cd.seq ?_
  refine Cd.region ?_
  refine Ops.mv_int rfl rfl rfl ?_
  refine Ops.lss rfl rfl rfl ?_
  refine Ops.mv_bool rfl rfl rfl ?_
  refine Ops.split_p 51 rfl (fun h => absurd h (by omega)) (fun _ => ?_) --f
  refine Ops.rung rfl rfl rfl ?_
  refine Ops.mv_sl rfl rfl rfl ?_
  refine Ops.rung rfl rfl rfl ?_
  refine Ops.mv_sl rfl rfl rfl ?_
  refine Ops.rung rfl rfl rfl ?_
  refine Ops.call (eqInt64S_c A10 _ c10 L A5 _ c5 L _ (hT19.rdI 0 rfl) (hT19.oldI hP5) (by omega)) rfl rfl rfl ?_
  rintro _ w21 ⟨rfl, hst21⟩
  have hT21 := hT19.later hst21.below
  refine Ops.rung rfl rfl rfl ?_
  first | refine Ops.not_p rfl rfl ?_ | refine Ops.not rfl rfl ?_
  refine Ops.pick_f rfl rfl rfl ?_
  refine Ops.mv_bool rfl rfl rfl ?_
  refine Ops.split_p 57 rfl (fun h => absurd rfl h) (fun _ => ?_) --f
  refine Ops.rung rfl rfl rfl ?_
  refine Ops.mv_int rfl rfl rfl ?_
  refine Ops.rung rfl rfl rfl ?_
  refine Ops.mv_int rfl rfl rfl ?_
  refine Ops.rung rfl rfl rfl ?_
  refine Ops.neq rfl rfl rfl ?_
  refine Ops.pick_f rfl rfl rfl ?_
  refine Ops.nil ?_
  refine thenQ_n ?_
  refine Cd.cond_pf rfl (fun h => h rfl) ?_
  refine Cd.skip ?_
  refine thenQ_n ?_
  refine Cd.seq ?_
  refine Cd.region ?_
  refine Ops.mv_int rfl rfl rfl ?_
  refine Ops.nil ?_
  refine thenQ_n ?_
  refine Cd.seq ?_
  refine Cd.region ?_
  refine Ops.mv_sl rfl rfl rfl ?_
  refine Ops.mv_int rfl rfl rfl ?_
  refine Ops.call (markInt64S_c 0 1 hT21 rfl (by omega)) rfl rfl rfl ?_
  rintro _ w22 ⟨rfl, hT22⟩
  refine Ops.mv_int rfl rfl rfl ?_
  refine Ops.nil ?_
  refine thenQ_n ?_
  refine Cd.seq ?_
  refine Cd.region ?_
  refine Ops.mv_int rfl rfl rfl ?_
  refine Ops.nil ?_
  refine thenQ_n ?_
  refine Cd.seq ?_
  refine Cd.region ?_
  refine Ops.mv_sl rfl rfl rfl ?_
  refine Ops.mv_int rfl rfl rfl ?_
  refine Ops.call (heldInt64S_c A10 L.length c10 1 _ (hT22.rdI 0 rfl) (by omega)) rfl rfl rfl ?_
  rintro _ w23 ⟨rfl, rfl⟩
  refine Ops.mv_int rfl rfl rfl ?_
  refine Ops.nil ?_
  refine thenQ_n ?_
  refine Cd.seq ?_
  refine Cd.seq ?_
  refine Cd.region ?_
  refine Ops.mv_int rfl rfl rfl ?_
  refine Ops.lss rfl rfl rfl ?_
  refine Ops.nil ?_
  refine thenQ_n ?_
  refine Cd.cond_pf rfl (by omega) ?_
  refine Cd.skip ?_
  refine thenQ_n ?_
  refine Cd.seq ?_
  refine Cd.seq ?_
  refine Cd.region ?_
  refine Ops.mv_int rfl rfl rfl ?_
  refine Ops.mv_int rfl rfl rfl ?_
  refine Ops.neq rfl rfl rfl ?_
  refine Ops.nil ?_
  refine thenQ_n ?_
  refine Cd.cond_pf rfl (fun h => h rfl) ?_
  refine Cd.skip ?_
  refine thenQ_n ?_
  refine Cd.seq ?_
  refine Cd.region ?_
  refine Ops.ld_agg 1 (hT22.old hAb) rfl rfl rfl ?_
  refine Ops.call (toComplex_c V A n c rs F _ (hT22.oldRows hR5) hfit) rfl rfl rfl ?_
  rintro _ w24 ⟨A13, rs13, rfl, hrl13, hst24⟩
  have hT24 := hT22.later hst24.below
  have hX24 : RowsI w24 A13 n rs13 F := St.rowsI (ks := []) (by rwa [List.append_nil]) hxl
  have hI2 := ComplexBetti_c V A13 n n rs13 F w24 (hT5.later hT24.below) hX24 hn
  rw [hLe, hKe] at hI2
  refine Ops.call hI2 rfl rfl rfl ?_
  rintro _ w26 ⟨A15, c15, rfl, hst26⟩
  have hT26 := hT24.later hst26.below
  refine Ops.mv_tup rfl rfl rfl ?_
  refine Ops.extract rfl rfl rfl ?_
  refine Ops.extract rfl rfl rfl ?_
  refine Ops.mv_sl rfl rfl rfl ?_
  refine Ops.mv_int rfl rfl rfl ?_
  refine Ops.nil ?_
  refine thenQ_n ?_
  refine Cd.seq ?_
  refine Cd.seq ?_
  refine Cd.region ?_
  refine Ops.mv_sl rfl rfl rfl ?_
  refine Ops.mv_sl rfl rfl rfl ?_
  refine Ops.call (eqInt64S_c A15 _ c15 L A5 _ c5 L _ (hst26.rdI 0 rfl) (hT26.oldI hP5) (by omega)) rfl rfl rfl ?_
  rintro _ w29 ⟨rfl, hst29⟩
  have hT29 := hT26.later hst29.below
  first | refine Ops.not_p rfl rfl ?_ | refine Ops.not rfl rfl ?_
  refine Ops.mv_bool rfl rfl rfl ?_
  refine Ops.split_p 83 rfl (fun h => absurd rfl h) (fun _ => ?_) --f
  refine Ops.rung rfl rfl rfl ?_
  refine Ops.mv_int rfl rfl rfl ?_
  refine Ops.rung rfl rfl rfl ?_
  refine Ops.mv_int rfl rfl rfl ?_
  refine Ops.rung rfl rfl rfl ?_
  refine Ops.neq rfl rfl rfl ?_
  refine Ops.pick_f rfl rfl rfl ?_
  refine Ops.nil ?_
  refine thenQ_n ?_
  refine Cd.cond_pf rfl (fun h => h rfl) ?_
  refine Cd.skip ?_
  refine thenQ_n ?_
  refine Cd.seq ?_
  refine Cd.region ?_
  refine Ops.mv_int rfl rfl rfl ?_
  refine Ops.nil ?_
  refine thenQ_n ?_
  refine Cd.seq ?_
  refine Cd.region ?_
  refine Ops.mv_sl rfl rfl rfl ?_
  refine Ops.mv_int rfl rfl rfl ?_
  refine Ops.call (heldInt64S_c A10 L.length c10 1 _ (hT29.rdI 0 rfl) (by omega)) rfl rfl rfl ?_
  rintro _ w30 ⟨rfl, rfl⟩
  refine Ops.mv_int rfl rfl rfl ?_
  refine Ops.nil ?_
  refine thenQ_n ?_
  refine Cd.seq ?_
  refine Cd.seq ?_
  refine Cd.region ?_
  refine Ops.mv_int rfl rfl rfl ?_
  refine Ops.lss rfl rfl rfl ?_
  refine Ops.nil ?_
  refine thenQ_n ?_
  refine Cd.cond_pf rfl (by omega) ?_
  refine Cd.skip ?_
  refine thenQ_n ?_
  refine Cd.seq ?_
  refine Cd.seq ?_
  refine Cd.region ?_
  refine Ops.mv_int rfl rfl rfl ?_
  refine Ops.mv_int rfl rfl rfl ?_
  refine Ops.neq rfl rfl rfl ?_
  refine Ops.nil ?_
  refine thenQ_n ?_
  refine Cd.cond_pf rfl (fun h => h rfl) ?_
  refine Cd.skip ?_
  refine thenQ_n ?_
  refine Cd.seq ?_
  refine Cd.region ?_
  refine Ops.mv_bool rfl rfl rfl ?_
  refine Ops.nil ?_
  refine thenQ_n ?_
  refine Cd.ret ?_
  refine ret1_b rfl ?_
  exact ⟨rfl, (hS5.later hT29.below).none⟩
end Go.Proofs.YtdedegbendjmbaaGreatDoor.Vc
