/-
  The texts Co7, Grw, Grv, Frm in one. Conditions: as each part states them.
-/
import Derived.Test.YtdedegbendjmbaaGreatDoorZc
import Derived.Test.YtdedegbendjmbaaGreatDoorZb
/-
  The library's stable sort of rows by their lengths, walked: two sorted ranges joined. Conditions: as each states them.
-/
namespace Go.Proofs.YtdedegbendjmbaaGreatDoor.Vc
open Go.RowKit
section
variable {P : Program} {N : Nat} {ops : Array Oper} {K : Env → World → Prop} {rest : List Oper} {e : Env} {w : World} {d : Nat} {ty : TypeId} {pos : String} {af : Array Edge} {x y : Operand} {xt yt : TypeId} {i : Int}
theorem Ops.shr1 {k : IntKind} (hx : ev e x = .int .u64 i) (hy : ev e y = .int k 1) (hb : Nat.blt d N = true) (h0 : 0 ≤ i) (hK : Ops P N ops K rest (upd e d (.int .u64 (i / 2))) w) :
    Ops P N ops K (⟨some d, .binOp .shr xt x y yt, ty, pos, af, none⟩ :: rest) e w := by
  refine .val (v := .int .u64 (i / 2)) ?_ hb hK
  have e1 : min 1 IntKind.u64.bits = 1 := by decide
  have e2 : i.fdiv 2 = i / 2 := Int.fdiv_eq_ediv_of_nonneg _ (by decide)
  simp [execOp, hx, hy, eqGuard, binOp, Op.shift, e1, e2]
end
theorem cut_rng {a m b : Nat} (h1 : a < m) (h2 : m < b) {c : Nat} (hc : lo0 a m b ≤ c) (hc2 : c < hi0 a m b) : a ≤ c ∧ c < m ∧ m ≤ (a + b) / 2 + m - 1 - c ∧ (a + b) / 2 + m - 1 - c < b := by
  unfold lo0 at hc
  unfold hi0 at hc2
  by_cases h : (a + b) / 2 < m
  · rw [if_pos h] at hc hc2; omega
  · rw [if_neg h] at hc hc2; omega
theorem lo_hi {a m b : Nat} (h1 : a < m) (h2 : m < b) : lo0 a m b ≤ hi0 a m b := by
  unfold lo0 hi0
  split <;> omega

theorem symMerge_c {w0 : World} {ks : List Ck} {t : TypeId} {A : Option Addr} {n c : Nat} (hn : n ≤ 4000000000000) : ∀ (f a m b : Nat), b - a ≤ f → a < m → m < b → b ≤ n → ∀ (ds : List SlV) (w : World), (∀ s ∈ ds, s.n ≤ 9223372036854775807) → SR knS ds a m → SR knS ds m b → St w0 w (CkR t A n c ds :: ks) →
    Ret Tryz.prog 186 [.slice A n c, .int .i64 (a : Int), .int .i64 (m : Int), .int .i64 (b : Int), .func (.func 153) #[] #[]] w (fun v w' => v = .tuple #[] ∧ ∃ ds', RP ds ds' a b ∧ SR knS ds' a b ∧ St w0 w' (CkR t A n c ds' :: ks)) := by
  intro f
  induction f with
  | zero => intro a m b h1 h2 h3; omega
  | succ f ih =>
    intro a m b hf ham hmb hbn ds w hc hA hB hS
    have hln : ds.length = n := (hS.rdR 0 rfl).1
    have hcap := gs_capd hc
    refine Ret.of_cd Tryz.func186 rfl Tryz.ntmps186 rfl (post0 rfl) ?_
    refine Cd.seq ?_
    refine Cd.seq ?_
    refine Cd.region ?_
    refine Ops.mv_int rfl rfl rfl ?_
    refine Ops.mv_int rfl rfl rfl ?_
    refine Ops.sub rfl rfl rfl (by omega) ?_
    refine Ops.eql rfl rfl rfl ?_
    refine Ops.nil ?_
    refine thenQ_n ?_
    refine Cd.cond_p _ rfl (fun h1 => ?_) (fun h1 => ?_)
    · have hm : m = a + 1 := by omega
      refine Cd.seq ?_
      refine Cd.region ?_
      refine Ops.mv_int rfl rfl rfl ?_
      refine Ops.mv_int rfl rfl rfl ?_
      refine Ops.nil ?_
      refine thenQ_n ?_
      refine Cd.seq ?_
      refine Cd.region ?_
      refine Ops.mv_int rfl rfl rfl ?_
      refine Ops.mv_int rfl rfl rfl ?_
      refine Ops.nil ?_
      refine thenQ_n ?_
      refine Cd.seq ?_
      refine Cd.block ?_
      refine Cd.loop (α := Nat × Nat) (fun z => [(0, .slice A n c), (1, .int .i64 (a : Int)), (2, .int .i64 (m : Int)), (3, .int .i64 (b : Int)), (4, .func (.func 153) #[] #[]), (10, .int .i64 (z.1 : Int)), (11, .int .i64 (z.2 : Int))])
        (fun z w' => (m ≤ z.1 ∧ z.1 ≤ z.2 ∧ z.2 ≤ b) ∧ (∀ x, m ≤ x → x < z.1 → knS (gs ds x) < knS (gs ds a)) ∧ (∀ x, z.2 ≤ x → x < b → knS (gs ds a) ≤ knS (gs ds x)) ∧ St w0 w' (CkR t A n c ds :: ks)) (fun z => z.2 - z.1) (m, b) ⟨rfl, rfl, rfl, rfl, rfl, rfl, rfl, trivial⟩ ⟨⟨Nat.le_refl _, by show m ≤ b; omega, Nat.le_refl _⟩, fun x h h' => by omega, fun x h h' => by omega, hS⟩ ?_
      rintro ⟨i, j⟩ e w1 ⟨⟨hi0, hij, hjb⟩, hL, hR, hS1⟩
      dsimp only at hi0 hij hjb hL hR hS1 ⊢
      refine Cd.seq ?_
      refine Cd.seq ?_
      refine Cd.region ?_
      refine Ops.mv_int rfl rfl rfl ?_
      refine Ops.mv_int rfl rfl rfl ?_
      refine Ops.lss rfl rfl rfl ?_
      refine Ops.nil ?_
      refine thenQ_n ?_
      refine Cd.cond_p _ rfl (fun h2 => ?_) (fun h2 => ?_)
      · refine Cd.skip ?_
        refine thenQ_n ?_
        refine Cd.block ?_
        refine Cd.seq ?_
        refine Cd.region ?_
        refine Ops.mv_int rfl rfl rfl ?_
        refine Ops.mv_int rfl rfl rfl ?_
        refine Ops.add rfl rfl rfl (by omega) ?_
        refine Ops.convK rfl rfl (wrap_u64_in _ (by omega)) ?_
        refine Ops.shr1 rfl rfl rfl (by omega) ?_
        refine Ops.convK rfl rfl (IntWalk.i64_in _ (by omega)) ?_
        refine Ops.mv_int rfl rfl rfl ?_
        refine Ops.nil ?_
        refine thenQ_n ?_
        refine Cd.seq ?_
        obtain ⟨h, hh⟩ : ∃ h : Nat, h = (i + j) / 2 := ⟨_, rfl⟩
        rw [show ((i : Int) + (j : Int)) / 2 = (h : Int) by omega]
        have hR1 := hS1.rdR 0 rfl
        have g1 : rg ds (h : Int) = gs ds h := rfl
        have g2 : rg ds (a : Int) = gs ds a := rfl
        refine Cd.draw [.ex (.func (.func 153) #[] #[]), .ex (.slice (A) (n) (c)), .ex (.int .i64 ((h : Int))), .ex (.pointer (ptrAt (A) ((h : Int)).toNat)), .ex (.slice ((rg (ds) ((h : Int))).a) ((rg (ds) ((h : Int))).n) ((rg (ds) ((h : Int))).c)), .ex (.slice (A) (n) (c)), .ex (.int .i64 ((a : Int))), .ex (.pointer (ptrAt (A) ((a : Int)).toNat)), .ex (.slice ((rg (ds) ((a : Int))).a) ((rg (ds) ((a : Int))).n) ((rg (ds) ((a : Int))).c)), .ex (.int .i64 (((gs ds a).n : Int) - (gs ds h).n)), .ex (.bool (decide ((((gs ds a).n : Int) - (gs ds h).n) < ((0 : Int)))))] (by kernel_rfl) (by kernel_rfl) rfl (List.forall_mem_cons.2 ⟨Yd.lasts_ex _, (List.forall_mem_cons.2 ⟨Yd.lasts_ex _, (List.forall_mem_cons.2 ⟨Yd.lasts_ex _, (List.forall_mem_cons.2 ⟨Yd.lasts_ex _, (List.forall_mem_cons.2 ⟨Yd.lasts_ex _, (List.forall_mem_cons.2 ⟨Yd.lasts_ex _, (List.forall_mem_cons.2 ⟨Yd.lasts_ex _, (List.forall_mem_cons.2 ⟨Yd.lasts_ex _, (List.forall_mem_cons.2 ⟨Yd.lasts_ex _, (List.forall_mem_cons.2 ⟨Yd.lasts_ex _, (List.forall_mem_cons.2 ⟨Yd.lasts_ex _, (fun _ h => by cases h)⟩)⟩)⟩)⟩)⟩)⟩)⟩)⟩)⟩)⟩)⟩) ⟨?_, ?_, ?_, ?_, ?_, ?_, ?_, ?_, ?_, ?_, ?_, trivial⟩ ?_
        · intro e1 w1 hb hp hun
          refine Ops.mv_fn rfl rfl rfl ?_
          refine Ops.nil ?_
          exact After.dn (Below.refl _ _) (by exact rfl)
        · intro e1 w1 hb hp hun
          refine Ops.mv_sl rfl rfl rfl ?_
          refine Ops.nil ?_
          exact After.dn (Below.refl _ _) (by exact rfl)
        · intro e1 w1 hb hp hun
          refine Ops.mv_int rfl rfl rfl ?_
          refine Ops.nil ?_
          exact After.dn (Below.refl _ _) (by exact rfl)
        · intro e1 w1 hb hp hun
          refine Ops.idx (hR1.later hb).2 rfl rfl rfl (by omega) (by omega) ?_
          refine Ops.nil ?_
          exact After.dn (Below.refl _ _) (by exact rfl)
        · intro e1 w1 hb hp hun
          refine Ops.ld_sl (hR1.later hb) rfl (by omega) rfl rfl ?_
          refine Ops.nil ?_
          exact After.dn (Below.refl _ _) (by exact rfl)
        · intro e1 w1 hb hp hun
          refine Ops.mv_sl rfl rfl rfl ?_
          refine Ops.nil ?_
          exact After.dn (Below.refl _ _) (by exact rfl)
        · intro e1 w1 hb hp hun
          refine Ops.mv_int rfl rfl rfl ?_
          refine Ops.nil ?_
          exact After.dn (Below.refl _ _) (by exact rfl)
        · intro e1 w1 hb hp hun
          refine Ops.idx (hR1.later hb).2 rfl rfl rfl (by omega) (by omega) ?_
          refine Ops.nil ?_
          exact After.dn (Below.refl _ _) (by exact rfl)
        · intro e1 w1 hb hp hun
          refine Ops.ld_sl (hR1.later hb) rfl (by omega) rfl rfl ?_
          refine Ops.nil ?_
          exact After.dn (Below.refl _ _) (by exact rfl)
        · intro e1 w1 hb hp hun
          refine Ops.call (cmpG_c (gs ds h).a (gs ds h).n (gs ds h).c (gs ds a).a (gs ds a).n (gs ds a).c _ (hcap h) (hcap a)) rfl rfl rfl ?_
          rintro _ w9 ⟨rfl, rfl⟩
          refine Ops.nil ?_
          exact After.dn (Below.refl _ _) (by exact rfl)
        · intro e1 w1 hb hp hun
          refine Ops.lss rfl rfl rfl ?_
          refine Ops.nil ?_
          exact After.dn (Below.refl _ _) (by exact rfl)
        intro u w2 hb2 _
        have hS2 := hS1.later hb2
        refine thenQ_n ?_
        refine Cd.cond_p _ rfl (fun h3 => ?_) (fun h3 => ?_)
        · refine Cd.region ?_
          refine Ops.mv_int rfl rfl rfl ?_
          refine Ops.add rfl rfl rfl (by omega) ?_
          refine Ops.mv_int rfl rfl rfl ?_
          refine Ops.nil ?_
          refine blockQ_n ?_
          refine thenQ_n ?_
          refine ⟨(h + 1, j), by show j - (h + 1) < j - i; omega, ⟨rfl, rfl, rfl, rfl, rfl, rfl, rfl, trivial⟩, ⟨by show m ≤ h + 1; omega, by show h + 1 ≤ j; omega, hjb⟩, fun x hx1 hx2 => ?_, hR, hS2⟩
          have hx2 : x < h + 1 := hx2
          have k1 : knS (gs ds x) ≤ knS (gs ds h) := hB.le hx1 (by omega) (by omega)
          have k2 : knS (gs ds h) < knS (gs ds a) := by unfold knS; omega
          omega
        · refine Cd.region ?_
          refine Ops.mv_int rfl rfl rfl ?_
          refine Ops.mv_int rfl rfl rfl ?_
          refine Ops.nil ?_
          refine blockQ_n ?_
          refine thenQ_n ?_
          refine ⟨(i, h), by show h - i < j - i; omega, ⟨rfl, rfl, rfl, rfl, rfl, rfl, rfl, trivial⟩, ⟨hi0, by show i ≤ h; omega, by show h ≤ b; omega⟩, hL, fun x hx1 hx2 => ?_, hS2⟩
          have hx1 : h ≤ x := hx1
          have k1 : knS (gs ds h) ≤ knS (gs ds x) := hB.le (by omega) hx1 hx2
          have k2 : knS (gs ds a) ≤ knS (gs ds h) := by unfold knS; omega
          omega
      · have hije : i = j := by omega
        subst hije
        refine Cd.exit ?_
        refine thenQ_x ?_
        refine thenQ_x ?_
        refine blockQ_x ?_
        refine thenQ_n ?_
        refine Cd.seq ?_
        refine Cd.seq ?_
        refine Cd.region ?_
        refine Ops.mv_int rfl rfl rfl ?_
        refine Ops.mv_int rfl rfl rfl ?_
        refine Ops.nil ?_
        refine thenQ_n ?_
        refine Cd.block ?_
        refine Cd.loop (α := Nat × List SlV) (fun z => [(0, .slice A n c), (4, .func (.func 153) #[] #[]), (10, .int .i64 (i : Int)), (13, .int .i64 (z.1 : Int))]) (fun z w' => (a ≤ z.1 ∧ z.1 ≤ i - 1) ∧ RP ds z.2 a b ∧ MovU ds z.2 a z.1 ∧ St w0 w' (CkR t A n c z.2 :: ks)) (fun z => i - z.1) (a, ds) ⟨rfl, rfl, rfl, rfl, trivial⟩ ⟨⟨Nat.le_refl _, by show a ≤ i - 1; omega⟩, RP.refl _ _ _, MovU.start _ _, hS1⟩ ?_
        rintro ⟨k, cu⟩ e w2 ⟨⟨hk1, hk2⟩, hp, hmv, hS2⟩
        dsimp only at hk1 hk2 hp hmv hS2 ⊢
        have hcl : cu.length = n := (hS2.rdR 0 rfl).1
        refine Cd.seq ?_
        refine Cd.seq ?_
        refine Cd.region ?_
        refine Ops.mv_int rfl rfl rfl ?_
        refine Ops.mv_int rfl rfl rfl ?_
        refine Ops.sub rfl rfl rfl (by omega) ?_
        refine Ops.lss rfl rfl rfl ?_
        refine Ops.nil ?_
        refine thenQ_n ?_
        refine Cd.cond_p _ rfl (fun h3 => ?_) (fun h3 => ?_)
        · have hR3 := hS2.rdR 0 rfl
          have ek : ((k : Int) + 1).toNat = k + 1 := by omega
          have g1 : rg cu (k : Int) = gs cu k := rfl
          have g2 : rg cu ((k : Int) + 1) = gs cu (k + 1) := by unfold rg gs; rw [ek]
          refine Cd.skip ?_
          refine thenQ_n ?_
          refine Cd.seq ?_
          refine Cd.block ?_
          refine Cd.drawN [15, 17] [.ex (.slice (A) (n) (c)), .ex (.int .i64 ((k : Int))), .ex (.slice (A) (n) (c)), .ex (.int .i64 ((k : Int))), .ex (.int .i64 (((k : Int)) + ((1 : Int)))), .ex (.slice (A) (n) (c)), .ex (.int .i64 ((k : Int))), .ex (.int .i64 (((k : Int)) + ((1 : Int)))), .ex (.pointer (ptrAt (A) (((k : Int)) + ((1 : Int))).toNat)), .ex (.slice ((rg (cu) (((k : Int)) + ((1 : Int)))).a) ((rg (cu) (((k : Int)) + ((1 : Int)))).n) ((rg (cu) (((k : Int)) + ((1 : Int)))).c)), .ex (.slice (A) (n) (c)), .ex (.int .i64 ((k : Int))), .ex (.pointer (ptrAt (A) ((k : Int)).toNat)), .ex (.slice ((rg (cu) ((k : Int))).a) ((rg (cu) ((k : Int))).n) ((rg (cu) ((k : Int))).c)), .ex (.pointer (ptrAt (A) ((k : Int)).toNat)), .pr (fun _ w' => St w0 w' (CkR t A n c (cu.set k (gs cu (k + 1))) :: ks)), .ex (.pointer (ptrAt (A) (((k : Int)) + ((1 : Int))).toNat)), .pr (fun _ w' => St w0 w' (CkR t A n c (swp cu k (k + 1)) :: ks))] (by kernel_rfl) (by kernel_rfl) (List.forall_mem_cons.2 ⟨Yd.lasts_ex _, (List.forall_mem_cons.2 ⟨Yd.lasts_ex _, (List.forall_mem_cons.2 ⟨Yd.lasts_ex _, (List.forall_mem_cons.2 ⟨Yd.lasts_ex _, (List.forall_mem_cons.2 ⟨Yd.lasts_ex _, (List.forall_mem_cons.2 ⟨Yd.lasts_ex _, (List.forall_mem_cons.2 ⟨Yd.lasts_ex _, (List.forall_mem_cons.2 ⟨Yd.lasts_ex _, (List.forall_mem_cons.2 ⟨Yd.lasts_ex _, (List.forall_mem_cons.2 ⟨Yd.lasts_ex _, (List.forall_mem_cons.2 ⟨Yd.lasts_ex _, (List.forall_mem_cons.2 ⟨Yd.lasts_ex _, (List.forall_mem_cons.2 ⟨Yd.lasts_ex _, (List.forall_mem_cons.2 ⟨Yd.lasts_ex _, (List.forall_mem_cons.2 ⟨Yd.lasts_ex _, (List.forall_mem_cons.2 ⟨Yd.lasts_pr (fun v w w' h hb => h.later hb), (List.forall_mem_cons.2 ⟨Yd.lasts_ex _, (List.forall_mem_cons.2 ⟨Yd.lasts_pr (fun v w w' h hb => h.later hb), (fun _ h => by cases h)⟩)⟩)⟩)⟩)⟩)⟩)⟩)⟩)⟩)⟩)⟩)⟩)⟩)⟩)⟩)⟩)⟩)⟩) ⟨?_, ?_, ?_, ?_, ?_, ?_, ?_, ?_, ?_, ?_, ?_, ?_, ?_, ?_, ?_, ?_, ?_, ?_, trivial⟩ ?_
          · intro e1 w1 cc hlo hhi hb0 hp hun hq
            show Ops _ _ _ _ _ _ _
            refine Ops.mv_sl rfl rfl rfl ?_
            refine Ops.nil ?_
            exact AfterN.dn rfl (Below.refl _ _) (by exact rfl)
          · intro e1 w1 cc hlo hhi hb0 hp hun hq
            show Ops _ _ _ _ _ _ _
            refine Ops.mv_int rfl rfl rfl ?_
            refine Ops.nil ?_
            exact AfterN.dn rfl (Below.refl _ _) (by exact rfl)
          · intro e1 w1 cc hlo hhi hb0 hp hun hq
            show Ops _ _ _ _ _ _ _
            refine Ops.mv_sl rfl rfl rfl ?_
            refine Ops.nil ?_
            exact AfterN.dn rfl (Below.refl _ _) (by exact rfl)
          · intro e1 w1 cc hlo hhi hb0 hp hun hq
            show Ops _ _ _ _ _ _ _
            refine Ops.mv_int rfl rfl rfl ?_
            refine Ops.nil ?_
            exact AfterN.dn rfl (Below.refl _ _) (by exact rfl)
          · intro e1 w1 cc hlo hhi hb0 hp hun hq
            show Ops _ _ _ _ _ _ _
            refine Ops.add rfl rfl rfl (by omega) ?_
            refine Ops.nil ?_
            exact AfterN.dn rfl (Below.refl _ _) (by exact rfl)
          · intro e1 w1 cc hlo hhi hb0 hp hun hq
            show Ops _ _ _ _ _ _ _
            refine Ops.mv_sl rfl rfl rfl ?_
            refine Ops.nil ?_
            exact AfterN.dn rfl (Below.refl _ _) (by exact rfl)
          · intro e1 w1 cc hlo hhi hb0 hp hun hq
            show Ops _ _ _ _ _ _ _
            refine Ops.mv_int rfl rfl rfl ?_
            refine Ops.nil ?_
            exact AfterN.dn rfl (Below.refl _ _) (by exact rfl)
          · intro e1 w1 cc hlo hhi hb0 hp hun hq
            show Ops _ _ _ _ _ _ _
            refine Ops.add rfl rfl rfl (by omega) ?_
            refine Ops.nil ?_
            exact AfterN.dn rfl (Below.refl _ _) (by exact rfl)
          · intro e1 w1 cc hlo hhi hb0 hp hun hq
            show Ops _ _ _ _ _ _ _
            replace hlo := le_of_lo hlo (b := 0) (by kernel_rfl)
            replace hhi := le_of_hi hhi (b := 0) (by kernel_rfl)
            obtain rfl : cc = 0 := by omega
            have hb := hb0 rfl
            refine Ops.idx (hR3.later hb).2 rfl rfl rfl (by omega) (by omega) ?_
            refine Ops.nil ?_
            exact AfterN.dn rfl (Below.refl _ _) (by exact rfl)
          · intro e1 w1 cc hlo hhi hb0 hp hun hq
            show Ops _ _ _ _ _ _ _
            replace hlo := le_of_lo hlo (b := 0) (by kernel_rfl)
            replace hhi := le_of_hi hhi (b := 0) (by kernel_rfl)
            obtain rfl : cc = 0 := by omega
            have hb := hb0 rfl
            refine Ops.ld_sl (hR3.later hb) rfl (by omega) rfl rfl ?_
            refine Ops.nil ?_
            exact AfterN.dn rfl (Below.refl _ _) (by exact rfl)
          · intro e1 w1 cc hlo hhi hb0 hp hun hq
            show Ops _ _ _ _ _ _ _
            refine Ops.mv_sl rfl rfl rfl ?_
            refine Ops.nil ?_
            exact AfterN.dn rfl (Below.refl _ _) (by exact rfl)
          · intro e1 w1 cc hlo hhi hb0 hp hun hq
            show Ops _ _ _ _ _ _ _
            refine Ops.mv_int rfl rfl rfl ?_
            refine Ops.nil ?_
            exact AfterN.dn rfl (Below.refl _ _) (by exact rfl)
          · intro e1 w1 cc hlo hhi hb0 hp hun hq
            show Ops _ _ _ _ _ _ _
            replace hlo := le_of_lo hlo (b := 0) (by kernel_rfl)
            replace hhi := le_of_hi hhi (b := 0) (by kernel_rfl)
            obtain rfl : cc = 0 := by omega
            have hb := hb0 rfl
            refine Ops.idx (hR3.later hb).2 rfl rfl rfl (by omega) (by omega) ?_
            refine Ops.nil ?_
            exact AfterN.dn rfl (Below.refl _ _) (by exact rfl)
          · intro e1 w1 cc hlo hhi hb0 hp hun hq
            show Ops _ _ _ _ _ _ _
            replace hlo := le_of_lo hlo (b := 0) (by kernel_rfl)
            replace hhi := le_of_hi hhi (b := 0) (by kernel_rfl)
            obtain rfl : cc = 0 := by omega
            have hb := hb0 rfl
            refine Ops.ld_sl (hR3.later hb) rfl (by omega) rfl rfl ?_
            refine Ops.nil ?_
            exact AfterN.dn rfl (Below.refl _ _) (by exact rfl)
          · intro e1 w1 cc hlo hhi hb0 hp hun hq
            show Ops _ _ _ _ _ _ _
            replace hlo := le_of_lo hlo (b := 0) (by kernel_rfl)
            replace hhi := le_of_hi hhi (b := 0) (by kernel_rfl)
            obtain rfl : cc = 0 := by omega
            have hb := hb0 rfl
            refine Ops.idx (hR3.later hb).2 rfl rfl rfl (by omega) (by omega) ?_
            refine Ops.nil ?_
            exact AfterN.dn rfl (Below.refl _ _) (by exact rfl)
          · intro e1 w1 cc hlo hhi hb0 hp hun hq
            show Ops _ _ _ _ _ _ _
            replace hlo := le_of_lo hlo (b := 0) (by kernel_rfl)
            replace hhi := le_of_hi hhi (b := 0) (by kernel_rfl)
            obtain rfl : cc = 0 := by omega
            have hb := hb0 rfl
            refine Ops.st_sl 0 (hS2.later hb) rfl rfl rfl (by omega) ?_
            intro w6 hS6
            refine Ops.nil ?_
            exact AfterT.st rfl (st_gs (i := (k : Int)) rfl g2 hS6)
          · intro e1 w1 cc hlo hhi hb0 hp hun hq
            show Ops _ _ _ _ _ _ _
            replace hlo := le_of_lo hlo (b := 1) (by kernel_rfl)
            replace hhi := le_of_hi hhi (b := 1) (by kernel_rfl)
            obtain rfl : cc = 1 := by omega
            have hph := hp 15 _ _ (by kernel_rfl) rfl rfl (by kernel_rfl)
            have hR6 := hph.rdR 0 rfl
            have hl6 : (cu.set k (gs cu (k + 1))).length = n := by rw [List.length_set]; exact hcl
            refine Ops.idx (hR6).2 rfl rfl rfl (by omega) (by omega) ?_
            refine Ops.nil ?_
            exact AfterN.dn rfl (Below.refl _ _) (by exact rfl)
          · intro e1 w1 cc hlo hhi hb0 hp hun hq
            show Ops _ _ _ _ _ _ _
            replace hlo := le_of_lo hlo (b := 1) (by kernel_rfl)
            replace hhi := le_of_hi hhi (b := 1) (by kernel_rfl)
            obtain rfl : cc = 1 := by omega
            have hph := hp 15 _ _ (by kernel_rfl) rfl rfl (by kernel_rfl)
            have hR6 := hph.rdR 0 rfl
            have hl6 : (cu.set k (gs cu (k + 1))).length = n := by rw [List.length_set]; exact hcl
            refine Ops.st_sl 0 hph rfl rfl rfl (by omega) ?_
            intro w7 hS7
            refine Ops.nil ?_
            exact AfterT.st rfl (st_gs ek g1 hS7)
          intro u w5 _ hu
          have hS5 := hu 17 _ rfl (by kernel_rfl)
          refine blockQ_n ?_
          refine thenQ_n ?_
          refine Cd.region ?_
          refine Ops.mv_int rfl rfl rfl ?_
          refine Ops.add rfl rfl rfl (by omega) ?_
          refine Ops.mv_int rfl rfl rfl ?_
          refine Ops.nil ?_
          refine thenQ_n ?_
          exact ⟨(k + 1, swp cu k (k + 1)), by show i - (k + 1) < i - k; omega, ⟨rfl, rfl, rfl, rfl, trivial⟩, ⟨by show a ≤ k + 1; omega, by show k + 1 ≤ i - 1; omega⟩, hp.trans (swp_RP (by omega) (by omega) hk1 (by omega) (by omega) (by omega)) (Nat.le_refl _) (Nat.le_refl _), hmv.next hk1 (by omega), hS5⟩
        · have hke : k = i - 1 := by omega
          subst hke
          refine Cd.exit ?_
          refine thenQ_x ?_
          refine thenQ_x ?_
          refine blockQ_x ?_
          refine thenQ_n ?_
          refine Cd.ret ?_
          refine thenQ_r ?_
          refine ret0_r ?_
          exact ⟨rfl, cu, hp, hmv.sorted (hm ▸ hB) (by omega) hjb (fun x h4 h5 => Int.le_of_lt (hL x (by omega) h5)) hR, hS2⟩
    refine Cd.skip ?_
    refine thenQ_n ?_
    refine Cd.seq ?_
    refine Cd.seq ?_
    refine Cd.region ?_
    refine Ops.mv_int rfl rfl rfl ?_
    refine Ops.mv_int rfl rfl rfl ?_
    refine Ops.sub rfl rfl rfl (by omega) ?_
    refine Ops.eql rfl rfl rfl ?_
    refine Ops.nil ?_
    refine thenQ_n ?_
    refine Cd.cond_p _ rfl (fun h2 => ?_) (fun h2 => ?_)
    · have hb1 : b = m + 1 := by omega
      refine Cd.seq ?_
      refine Cd.region ?_
      refine Ops.mv_int rfl rfl rfl ?_
      refine Ops.mv_int rfl rfl rfl ?_
      refine Ops.nil ?_
      refine thenQ_n ?_
      refine Cd.seq ?_
      refine Cd.region ?_
      refine Ops.mv_int rfl rfl rfl ?_
      refine Ops.mv_int rfl rfl rfl ?_
      refine Ops.nil ?_
      refine thenQ_n ?_
      refine Cd.seq ?_
      refine Cd.block ?_
      refine Cd.loop (α := Nat × Nat) (fun z => [(0, .slice A n c), (1, .int .i64 (a : Int)), (2, .int .i64 (m : Int)), (3, .int .i64 (b : Int)), (4, .func (.func 153) #[] #[]), (14, .int .i64 (z.1 : Int)), (15, .int .i64 (z.2 : Int))])
        (fun z w' => (a ≤ z.1 ∧ z.1 ≤ z.2 ∧ z.2 ≤ m) ∧ (∀ x, a ≤ x → x < z.1 → knS (gs ds x) ≤ knS (gs ds m)) ∧ (∀ x, z.2 ≤ x → x < m → knS (gs ds m) ≤ knS (gs ds x)) ∧ St w0 w' (CkR t A n c ds :: ks)) (fun z => z.2 - z.1) (a, m) ⟨rfl, rfl, rfl, rfl, rfl, rfl, rfl, trivial⟩ ⟨⟨Nat.le_refl _, by show a ≤ m; omega, Nat.le_refl _⟩, fun x h h' => by omega, fun x h h' => by omega, hS⟩ ?_
      rintro ⟨i, j⟩ e w1 ⟨⟨hi0, hij, hjb⟩, hL, hR, hS1⟩
      dsimp only at hi0 hij hjb hL hR hS1 ⊢
      refine Cd.seq ?_
      refine Cd.seq ?_
      refine Cd.region ?_
      refine Ops.mv_int rfl rfl rfl ?_
      refine Ops.mv_int rfl rfl rfl ?_
      refine Ops.lss rfl rfl rfl ?_
      refine Ops.nil ?_
      refine thenQ_n ?_
      refine Cd.cond_p _ rfl (fun h3 => ?_) (fun h3 => ?_)
      · refine Cd.skip ?_
        refine thenQ_n ?_
        refine Cd.block ?_
        refine Cd.seq ?_
        refine Cd.region ?_
        refine Ops.mv_int rfl rfl rfl ?_
        refine Ops.mv_int rfl rfl rfl ?_
        refine Ops.add rfl rfl rfl (by omega) ?_
        refine Ops.convK rfl rfl (wrap_u64_in _ (by omega)) ?_
        refine Ops.shr1 rfl rfl rfl (by omega) ?_
        refine Ops.convK rfl rfl (IntWalk.i64_in _ (by omega)) ?_
        refine Ops.mv_int rfl rfl rfl ?_
        refine Ops.nil ?_
        refine thenQ_n ?_
        refine Cd.seq ?_
        obtain ⟨h, hh⟩ : ∃ h : Nat, h = (i + j) / 2 := ⟨_, rfl⟩
        rw [show ((i : Int) + (j : Int)) / 2 = (h : Int) by omega]
        have hR1 := hS1.rdR 0 rfl
        have g1 : rg ds (h : Int) = gs ds h := rfl
        have g2 : rg ds (m : Int) = gs ds m := rfl
        refine Cd.draw [.ex (.func (.func 153) #[] #[]), .ex (.slice (A) (n) (c)), .ex (.int .i64 ((m : Int))), .ex (.pointer (ptrAt (A) ((m : Int)).toNat)), .ex (.slice ((rg (ds) ((m : Int))).a) ((rg (ds) ((m : Int))).n) ((rg (ds) ((m : Int))).c)), .ex (.slice (A) (n) (c)), .ex (.int .i64 ((h : Int))), .ex (.pointer (ptrAt (A) ((h : Int)).toNat)), .ex (.slice ((rg (ds) ((h : Int))).a) ((rg (ds) ((h : Int))).n) ((rg (ds) ((h : Int))).c)), .ex (.int .i64 (((gs ds h).n : Int) - (gs ds m).n)), .ex (.bool (decide ((((gs ds h).n : Int) - (gs ds m).n) < ((0 : Int))))), .ex (.bool (decide (¬ ((((gs ds h).n : Int) - (gs ds m).n) < ((0 : Int))))))] (by kernel_rfl) (by kernel_rfl) rfl (List.forall_mem_cons.2 ⟨Yd.lasts_ex _, (List.forall_mem_cons.2 ⟨Yd.lasts_ex _, (List.forall_mem_cons.2 ⟨Yd.lasts_ex _, (List.forall_mem_cons.2 ⟨Yd.lasts_ex _, (List.forall_mem_cons.2 ⟨Yd.lasts_ex _, (List.forall_mem_cons.2 ⟨Yd.lasts_ex _, (List.forall_mem_cons.2 ⟨Yd.lasts_ex _, (List.forall_mem_cons.2 ⟨Yd.lasts_ex _, (List.forall_mem_cons.2 ⟨Yd.lasts_ex _, (List.forall_mem_cons.2 ⟨Yd.lasts_ex _, (List.forall_mem_cons.2 ⟨Yd.lasts_ex _, (List.forall_mem_cons.2 ⟨Yd.lasts_ex _, (fun _ h => by cases h)⟩)⟩)⟩)⟩)⟩)⟩)⟩)⟩)⟩)⟩)⟩)⟩) ⟨?_, ?_, ?_, ?_, ?_, ?_, ?_, ?_, ?_, ?_, ?_, ?_, trivial⟩ ?_
        · intro e1 w1 hb hp hun
          refine Ops.mv_fn rfl rfl rfl ?_
          refine Ops.nil ?_
          exact After.dn (Below.refl _ _) (by exact rfl)
        · intro e1 w1 hb hp hun
          refine Ops.mv_sl rfl rfl rfl ?_
          refine Ops.nil ?_
          exact After.dn (Below.refl _ _) (by exact rfl)
        · intro e1 w1 hb hp hun
          refine Ops.mv_int rfl rfl rfl ?_
          refine Ops.nil ?_
          exact After.dn (Below.refl _ _) (by exact rfl)
        · intro e1 w1 hb hp hun
          refine Ops.idx (hR1.later hb).2 rfl rfl rfl (by omega) (by omega) ?_
          refine Ops.nil ?_
          exact After.dn (Below.refl _ _) (by exact rfl)
        · intro e1 w1 hb hp hun
          refine Ops.ld_sl (hR1.later hb) rfl (by omega) rfl rfl ?_
          refine Ops.nil ?_
          exact After.dn (Below.refl _ _) (by exact rfl)
        · intro e1 w1 hb hp hun
          refine Ops.mv_sl rfl rfl rfl ?_
          refine Ops.nil ?_
          exact After.dn (Below.refl _ _) (by exact rfl)
        · intro e1 w1 hb hp hun
          refine Ops.mv_int rfl rfl rfl ?_
          refine Ops.nil ?_
          exact After.dn (Below.refl _ _) (by exact rfl)
        · intro e1 w1 hb hp hun
          refine Ops.idx (hR1.later hb).2 rfl rfl rfl (by omega) (by omega) ?_
          refine Ops.nil ?_
          exact After.dn (Below.refl _ _) (by exact rfl)
        · intro e1 w1 hb hp hun
          refine Ops.ld_sl (hR1.later hb) rfl (by omega) rfl rfl ?_
          refine Ops.nil ?_
          exact After.dn (Below.refl _ _) (by exact rfl)
        · intro e1 w1 hb hp hun
          refine Ops.call (cmpG_c (gs ds m).a (gs ds m).n (gs ds m).c (gs ds h).a (gs ds h).n (gs ds h).c _ (hcap m) (hcap h)) rfl rfl rfl ?_
          rintro _ w9 ⟨rfl, rfl⟩
          refine Ops.nil ?_
          exact After.dn (Below.refl _ _) (by exact rfl)
        · intro e1 w1 hb hp hun
          refine Ops.lss rfl rfl rfl ?_
          refine Ops.nil ?_
          exact After.dn (Below.refl _ _) (by exact rfl)
        · intro e1 w1 hb hp hun
          refine Ops.not_p rfl rfl ?_
          refine Ops.nil ?_
          exact After.dn (Below.refl _ _) (by exact rfl)
        intro u w2 hb2 _
        have hS2 := hS1.later hb2
        refine thenQ_n ?_
        refine Cd.cond_p _ rfl (fun h4 => ?_) (fun h4 => ?_)
        · refine Cd.region ?_
          refine Ops.mv_int rfl rfl rfl ?_
          refine Ops.add rfl rfl rfl (by omega) ?_
          refine Ops.mv_int rfl rfl rfl ?_
          refine Ops.nil ?_
          refine blockQ_n ?_
          refine thenQ_n ?_
          refine ⟨(h + 1, j), by show j - (h + 1) < j - i; omega, ⟨rfl, rfl, rfl, rfl, rfl, rfl, rfl, trivial⟩, ⟨by show a ≤ h + 1; omega, by show h + 1 ≤ j; omega, hjb⟩, fun x hx1 hx2 => ?_, hR, hS2⟩
          have hx2 : x < h + 1 := hx2
          have k1 : knS (gs ds x) ≤ knS (gs ds h) := hA.le hx1 (by omega) (by omega)
          have k2 : knS (gs ds h) ≤ knS (gs ds m) := by unfold knS; omega
          omega
        · refine Cd.region ?_
          refine Ops.mv_int rfl rfl rfl ?_
          refine Ops.mv_int rfl rfl rfl ?_
          refine Ops.nil ?_
          refine blockQ_n ?_
          refine thenQ_n ?_
          refine ⟨(i, h), by show h - i < j - i; omega, ⟨rfl, rfl, rfl, rfl, rfl, rfl, rfl, trivial⟩, ⟨hi0, by show i ≤ h; omega, by show h ≤ m; omega⟩, hL, fun x hx1 hx2 => ?_, hS2⟩
          have hx1 : h ≤ x := hx1
          have k1 : knS (gs ds h) ≤ knS (gs ds x) := hA.le (by omega) hx1 hx2
          have k2 : knS (gs ds m) ≤ knS (gs ds h) := by unfold knS; omega
          omega
      · have hije : i = j := by omega
        subst hije
        refine Cd.exit ?_
        refine thenQ_x ?_
        refine thenQ_x ?_
        refine blockQ_x ?_
        refine thenQ_n ?_
        refine Cd.seq ?_
        refine Cd.seq ?_
        refine Cd.region ?_
        refine Ops.mv_int rfl rfl rfl ?_
        refine Ops.mv_int rfl rfl rfl ?_
        refine Ops.nil ?_
        refine thenQ_n ?_
        refine Cd.block ?_
        refine Cd.loop (α := Nat × List SlV) (fun z => [(0, .slice A n c), (4, .func (.func 153) #[] #[]), (14, .int .i64 (i : Int)), (17, .int .i64 (z.1 : Int))]) (fun z w' => (i ≤ z.1 ∧ z.1 ≤ m) ∧ RP ds z.2 a b ∧ MovD ds z.2 m z.1 ∧ St w0 w' (CkR t A n c z.2 :: ks)) (fun z => z.1) (m, ds) ⟨rfl, rfl, rfl, rfl, trivial⟩ ⟨⟨hjb, Nat.le_refl _⟩, RP.refl _ _ _, MovD.start _ _, hS1⟩ ?_
        rintro ⟨k, cu⟩ e w2 ⟨⟨hk1, hk2⟩, hp, hmv, hS2⟩
        dsimp only at hk1 hk2 hp hmv hS2 ⊢
        have hcl : cu.length = n := (hS2.rdR 0 rfl).1
        refine Cd.seq ?_
        refine Cd.seq ?_
        refine Cd.region ?_
        refine Ops.mv_int rfl rfl rfl ?_
        refine Ops.mv_int rfl rfl rfl ?_
        refine Ops.gtr rfl rfl rfl ?_
        refine Ops.nil ?_
        refine thenQ_n ?_
        refine Cd.cond_p _ rfl (fun h4 => ?_) (fun h4 => ?_)
        · have hR3 := hS2.rdR 0 rfl
          have ek : ((k : Int) - 1).toNat = k - 1 := by omega
          have g1 : rg cu (k : Int) = gs cu k := rfl
          have g2 : rg cu ((k : Int) - 1) = gs cu (k - 1) := by unfold rg gs; rw [ek]
          refine Cd.skip ?_
          refine thenQ_n ?_
          refine Cd.seq ?_
          refine Cd.block ?_
          refine Cd.drawN [15, 17] [.ex (.slice (A) (n) (c)), .ex (.int .i64 ((k : Int))), .ex (.slice (A) (n) (c)), .ex (.int .i64 ((k : Int))), .ex (.int .i64 (((k : Int)) - ((1 : Int)))), .ex (.slice (A) (n) (c)), .ex (.int .i64 ((k : Int))), .ex (.int .i64 (((k : Int)) - ((1 : Int)))), .ex (.pointer (ptrAt (A) (((k : Int)) - ((1 : Int))).toNat)), .ex (.slice ((rg (cu) (((k : Int)) - ((1 : Int)))).a) ((rg (cu) (((k : Int)) - ((1 : Int)))).n) ((rg (cu) (((k : Int)) - ((1 : Int)))).c)), .ex (.slice (A) (n) (c)), .ex (.int .i64 ((k : Int))), .ex (.pointer (ptrAt (A) ((k : Int)).toNat)), .ex (.slice ((rg (cu) ((k : Int))).a) ((rg (cu) ((k : Int))).n) ((rg (cu) ((k : Int))).c)), .ex (.pointer (ptrAt (A) ((k : Int)).toNat)), .pr (fun _ w' => St w0 w' (CkR t A n c (cu.set k (gs cu (k - 1))) :: ks)), .ex (.pointer (ptrAt (A) (((k : Int)) - ((1 : Int))).toNat)), .pr (fun _ w' => St w0 w' (CkR t A n c (swp cu k (k - 1)) :: ks))] (by kernel_rfl) (by kernel_rfl) (List.forall_mem_cons.2 ⟨Yd.lasts_ex _, (List.forall_mem_cons.2 ⟨Yd.lasts_ex _, (List.forall_mem_cons.2 ⟨Yd.lasts_ex _, (List.forall_mem_cons.2 ⟨Yd.lasts_ex _, (List.forall_mem_cons.2 ⟨Yd.lasts_ex _, (List.forall_mem_cons.2 ⟨Yd.lasts_ex _, (List.forall_mem_cons.2 ⟨Yd.lasts_ex _, (List.forall_mem_cons.2 ⟨Yd.lasts_ex _, (List.forall_mem_cons.2 ⟨Yd.lasts_ex _, (List.forall_mem_cons.2 ⟨Yd.lasts_ex _, (List.forall_mem_cons.2 ⟨Yd.lasts_ex _, (List.forall_mem_cons.2 ⟨Yd.lasts_ex _, (List.forall_mem_cons.2 ⟨Yd.lasts_ex _, (List.forall_mem_cons.2 ⟨Yd.lasts_ex _, (List.forall_mem_cons.2 ⟨Yd.lasts_ex _, (List.forall_mem_cons.2 ⟨Yd.lasts_pr (fun v w w' h hb => h.later hb), (List.forall_mem_cons.2 ⟨Yd.lasts_ex _, (List.forall_mem_cons.2 ⟨Yd.lasts_pr (fun v w w' h hb => h.later hb), (fun _ h => by cases h)⟩)⟩)⟩)⟩)⟩)⟩)⟩)⟩)⟩)⟩)⟩)⟩)⟩)⟩)⟩)⟩)⟩)⟩) ⟨?_, ?_, ?_, ?_, ?_, ?_, ?_, ?_, ?_, ?_, ?_, ?_, ?_, ?_, ?_, ?_, ?_, ?_, trivial⟩ ?_
          · intro e1 w1 cc hlo hhi hb0 hp hun hq
            show Ops _ _ _ _ _ _ _
            refine Ops.mv_sl rfl rfl rfl ?_
            refine Ops.nil ?_
            exact AfterN.dn rfl (Below.refl _ _) (by exact rfl)
          · intro e1 w1 cc hlo hhi hb0 hp hun hq
            show Ops _ _ _ _ _ _ _
            refine Ops.mv_int rfl rfl rfl ?_
            refine Ops.nil ?_
            exact AfterN.dn rfl (Below.refl _ _) (by exact rfl)
          · intro e1 w1 cc hlo hhi hb0 hp hun hq
            show Ops _ _ _ _ _ _ _
            refine Ops.mv_sl rfl rfl rfl ?_
            refine Ops.nil ?_
            exact AfterN.dn rfl (Below.refl _ _) (by exact rfl)
          · intro e1 w1 cc hlo hhi hb0 hp hun hq
            show Ops _ _ _ _ _ _ _
            refine Ops.mv_int rfl rfl rfl ?_
            refine Ops.nil ?_
            exact AfterN.dn rfl (Below.refl _ _) (by exact rfl)
          · intro e1 w1 cc hlo hhi hb0 hp hun hq
            show Ops _ _ _ _ _ _ _
            refine Ops.sub rfl rfl rfl (by omega) ?_
            refine Ops.nil ?_
            exact AfterN.dn rfl (Below.refl _ _) (by exact rfl)
          · intro e1 w1 cc hlo hhi hb0 hp hun hq
            show Ops _ _ _ _ _ _ _
            refine Ops.mv_sl rfl rfl rfl ?_
            refine Ops.nil ?_
            exact AfterN.dn rfl (Below.refl _ _) (by exact rfl)
          · intro e1 w1 cc hlo hhi hb0 hp hun hq
            show Ops _ _ _ _ _ _ _
            refine Ops.mv_int rfl rfl rfl ?_
            refine Ops.nil ?_
            exact AfterN.dn rfl (Below.refl _ _) (by exact rfl)
          · intro e1 w1 cc hlo hhi hb0 hp hun hq
            show Ops _ _ _ _ _ _ _
            refine Ops.sub rfl rfl rfl (by omega) ?_
            refine Ops.nil ?_
            exact AfterN.dn rfl (Below.refl _ _) (by exact rfl)
          · intro e1 w1 cc hlo hhi hb0 hp hun hq
            show Ops _ _ _ _ _ _ _
            replace hlo := le_of_lo hlo (b := 0) (by kernel_rfl)
            replace hhi := le_of_hi hhi (b := 0) (by kernel_rfl)
            obtain rfl : cc = 0 := by omega
            have hb := hb0 rfl
            refine Ops.idx (hR3.later hb).2 rfl rfl rfl (by omega) (by omega) ?_
            refine Ops.nil ?_
            exact AfterN.dn rfl (Below.refl _ _) (by exact rfl)
          · intro e1 w1 cc hlo hhi hb0 hp hun hq
            show Ops _ _ _ _ _ _ _
            replace hlo := le_of_lo hlo (b := 0) (by kernel_rfl)
            replace hhi := le_of_hi hhi (b := 0) (by kernel_rfl)
            obtain rfl : cc = 0 := by omega
            have hb := hb0 rfl
            refine Ops.ld_sl (hR3.later hb) rfl (by omega) rfl rfl ?_
            refine Ops.nil ?_
            exact AfterN.dn rfl (Below.refl _ _) (by exact rfl)
          · intro e1 w1 cc hlo hhi hb0 hp hun hq
            show Ops _ _ _ _ _ _ _
            refine Ops.mv_sl rfl rfl rfl ?_
            refine Ops.nil ?_
            exact AfterN.dn rfl (Below.refl _ _) (by exact rfl)
          · intro e1 w1 cc hlo hhi hb0 hp hun hq
            show Ops _ _ _ _ _ _ _
            refine Ops.mv_int rfl rfl rfl ?_
            refine Ops.nil ?_
            exact AfterN.dn rfl (Below.refl _ _) (by exact rfl)
          · intro e1 w1 cc hlo hhi hb0 hp hun hq
            show Ops _ _ _ _ _ _ _
            replace hlo := le_of_lo hlo (b := 0) (by kernel_rfl)
            replace hhi := le_of_hi hhi (b := 0) (by kernel_rfl)
            obtain rfl : cc = 0 := by omega
            have hb := hb0 rfl
            refine Ops.idx (hR3.later hb).2 rfl rfl rfl (by omega) (by omega) ?_
            refine Ops.nil ?_
            exact AfterN.dn rfl (Below.refl _ _) (by exact rfl)
          · intro e1 w1 cc hlo hhi hb0 hp hun hq
            show Ops _ _ _ _ _ _ _
            replace hlo := le_of_lo hlo (b := 0) (by kernel_rfl)
            replace hhi := le_of_hi hhi (b := 0) (by kernel_rfl)
            obtain rfl : cc = 0 := by omega
            have hb := hb0 rfl
            refine Ops.ld_sl (hR3.later hb) rfl (by omega) rfl rfl ?_
            refine Ops.nil ?_
            exact AfterN.dn rfl (Below.refl _ _) (by exact rfl)
          · intro e1 w1 cc hlo hhi hb0 hp hun hq
            show Ops _ _ _ _ _ _ _
            replace hlo := le_of_lo hlo (b := 0) (by kernel_rfl)
            replace hhi := le_of_hi hhi (b := 0) (by kernel_rfl)
            obtain rfl : cc = 0 := by omega
            have hb := hb0 rfl
            refine Ops.idx (hR3.later hb).2 rfl rfl rfl (by omega) (by omega) ?_
            refine Ops.nil ?_
            exact AfterN.dn rfl (Below.refl _ _) (by exact rfl)
          · intro e1 w1 cc hlo hhi hb0 hp hun hq
            show Ops _ _ _ _ _ _ _
            replace hlo := le_of_lo hlo (b := 0) (by kernel_rfl)
            replace hhi := le_of_hi hhi (b := 0) (by kernel_rfl)
            obtain rfl : cc = 0 := by omega
            have hb := hb0 rfl
            refine Ops.st_sl 0 (hS2.later hb) rfl rfl rfl (by omega) ?_
            intro w6 hS6
            refine Ops.nil ?_
            exact AfterT.st rfl (st_gs (i := (k : Int)) rfl g2 hS6)
          · intro e1 w1 cc hlo hhi hb0 hp hun hq
            show Ops _ _ _ _ _ _ _
            replace hlo := le_of_lo hlo (b := 1) (by kernel_rfl)
            replace hhi := le_of_hi hhi (b := 1) (by kernel_rfl)
            obtain rfl : cc = 1 := by omega
            have hph := hp 15 _ _ (by kernel_rfl) rfl rfl (by kernel_rfl)
            have hR6 := hph.rdR 0 rfl
            have hl6 : (cu.set k (gs cu (k - 1))).length = n := by rw [List.length_set]; exact hcl
            refine Ops.idx (hR6).2 rfl rfl rfl (by omega) (by omega) ?_
            refine Ops.nil ?_
            exact AfterN.dn rfl (Below.refl _ _) (by exact rfl)
          · intro e1 w1 cc hlo hhi hb0 hp hun hq
            show Ops _ _ _ _ _ _ _
            replace hlo := le_of_lo hlo (b := 1) (by kernel_rfl)
            replace hhi := le_of_hi hhi (b := 1) (by kernel_rfl)
            obtain rfl : cc = 1 := by omega
            have hph := hp 15 _ _ (by kernel_rfl) rfl rfl (by kernel_rfl)
            have hR6 := hph.rdR 0 rfl
            have hl6 : (cu.set k (gs cu (k - 1))).length = n := by rw [List.length_set]; exact hcl
            refine Ops.st_sl 0 hph rfl rfl rfl (by omega) ?_
            intro w7 hS7
            refine Ops.nil ?_
            exact AfterT.st rfl (st_gs ek g1 hS7)
          intro u w5 _ hu
          have hS5 := hu 17 _ rfl (by kernel_rfl)
          refine blockQ_n ?_
          refine thenQ_n ?_
          refine Cd.region ?_
          refine Ops.mv_int rfl rfl rfl ?_
          refine Ops.sub rfl rfl rfl (by omega) ?_
          refine Ops.mv_int rfl rfl rfl ?_
          refine Ops.nil ?_
          refine thenQ_n ?_
          exact ⟨(k - 1, swp cu k (k - 1)), by show k - 1 < k; omega, ⟨rfl, rfl, rfl, by show Value.int .i64 _ = .int .i64 _; congr 1; omega, trivial⟩, ⟨by show i ≤ k - 1; omega, by show k - 1 ≤ m; omega⟩, hp.trans (swp_RP (by omega) (by omega) (by omega) (by omega) (by omega) (by omega)) (Nat.le_refl _) (Nat.le_refl _), hmv.next (by omega) hk2 (by omega), hS5⟩
        · have hke : k = i := by omega
          subst hke
          refine Cd.exit ?_
          refine thenQ_x ?_
          refine thenQ_x ?_
          refine blockQ_x ?_
          refine thenQ_n ?_
          refine Cd.ret ?_
          refine thenQ_r ?_
          refine ret0_r ?_
          exact ⟨rfl, cu, hp, hb1 ▸ hmv.sorted hA hi0 hjb hL hR, hS2⟩
    have h1 : a + 1 < m := by omega
    have h2 : m + 1 < b := by omega
    refine Cd.skip ?_
    refine thenQ_n ?_
    refine Cd.seq ?_
    refine Cd.region ?_
    refine Ops.mv_int rfl rfl rfl ?_
    refine Ops.mv_int rfl rfl rfl ?_
    refine Ops.add rfl rfl rfl (by omega) ?_
    refine Ops.convK rfl rfl (wrap_u64_in _ (by omega)) ?_
    refine Ops.shr1 rfl rfl rfl (by omega) ?_
    refine Ops.convK rfl rfl (IntWalk.i64_in _ (by omega)) ?_
    obtain ⟨mid, hmid⟩ : ∃ h : Nat, h = (a + b) / 2 := ⟨_, rfl⟩
    rw [show ((a : Int) + (b : Int)) / 2 = (mid : Int) by omega]
    have hm2 : 2 * mid ≤ a + b ∧ a + b ≤ 2 * mid + 1 := by omega
    have hlh := lo_hi ham hmb
    have hh0 : hi0 a m b ≤ m := by unfold hi0; split <;> omega
    have hrng := fun c => cut_rng ham hmb (c := c)
    rw [← hmid] at hrng
    refine Ops.mv_int rfl rfl rfl ?_
    refine Ops.nil ?_
    refine thenQ_n ?_
    refine Cd.seq ?_
    refine Cd.region ?_
    refine Ops.mv_int rfl rfl rfl ?_
    refine Ops.mv_int rfl rfl rfl ?_
    refine Ops.add rfl rfl rfl (by omega) ?_
    refine Ops.mv_int rfl rfl rfl ?_
    refine Ops.nil ?_
    refine thenQ_n ?_
    refine Cd.seq ?_
    refine Cd.region ?_
    refine Ops.mv_int rfl rfl rfl ?_
    refine Ops.mv_int rfl rfl rfl ?_
    refine Ops.nil ?_
    refine thenQ_n ?_
    refine Cd.join (α := Unit) (fun _ => [(0, .slice A n c), (1, .int .i64 (a : Int)), (2, .int .i64 (m : Int)), (3, .int .i64 (b : Int)), (4, .func (.func 153) #[] #[]), (18, .int .i64 (mid : Int)), (19, .int .i64 ((mid : Int) + (m : Int))), (20, .int .i64 ((lo0 a m b : Nat) : Int)), (21, .int .i64 ((hi0 a m b : Nat) : Int))]) (fun _ w' => w' = w) ?_ ?_
    · refine Cd.seq ?_
      refine Cd.region ?_
      refine Ops.mv_int rfl rfl rfl ?_
      refine Ops.mv_int rfl rfl rfl ?_
      refine Ops.gtr rfl rfl rfl ?_
      refine Ops.nil ?_
      refine thenQ_n ?_
      refine Cd.cond_p _ rfl (fun h3 => ?_) (fun h3 => ?_)
      · have e1 : lo0 a m b = mid + m - b := by unfold lo0; rw [if_pos (by omega), ← hmid]
        have e2 : hi0 a m b = mid := by unfold hi0; rw [if_pos (by omega), ← hmid]
        rw [e1, e2]
        refine Cd.seq ?_
        refine Cd.region ?_
        refine Ops.mv_int rfl rfl rfl ?_
        refine Ops.mv_int rfl rfl rfl ?_
        refine Ops.sub rfl rfl rfl (by omega) ?_
        refine Ops.mv_int rfl rfl rfl ?_
        refine Ops.nil ?_
        refine thenQ_n ?_
        refine Cd.region ?_
        refine Ops.mv_int rfl rfl rfl ?_
        refine Ops.mv_int rfl rfl rfl ?_
        refine Ops.nil ?_
        refine thenQ_n ?_
        exact ⟨(), ⟨rfl, rfl, rfl, rfl, rfl, rfl, rfl, by show Value.int .i64 ((mid : Int) + (m : Int) - (b : Int)) = .int .i64 ((mid + m - b : Nat) : Int); congr 1; omega, rfl, trivial⟩, rfl⟩
      · have e1 : lo0 a m b = a := by unfold lo0; rw [if_neg (by omega)]
        have e2 : hi0 a m b = m := by unfold hi0; rw [if_neg (by omega)]
        rw [e1, e2]
        refine Cd.seq ?_
        refine Cd.region ?_
        refine Ops.mv_int rfl rfl rfl ?_
        refine Ops.mv_int rfl rfl rfl ?_
        refine Ops.nil ?_
        refine thenQ_n ?_
        refine Cd.region ?_
        refine Ops.mv_int rfl rfl rfl ?_
        refine Ops.mv_int rfl rfl rfl ?_
        refine Ops.nil ?_
        refine thenQ_n ?_
        exact ⟨(), ⟨rfl, rfl, rfl, rfl, rfl, rfl, rfl, rfl, rfl, trivial⟩, rfl⟩
    rintro _ e w1 rfl
    refine Cd.seq ?_
    refine Cd.region ?_
    refine Ops.mv_int rfl rfl rfl ?_
    refine Ops.sub rfl rfl rfl (by omega) ?_
    refine Ops.mv_int rfl rfl rfl ?_
    refine Ops.nil ?_
    refine thenQ_n ?_
    refine Cd.seq ?_
    refine Cd.block ?_
    refine Cd.loop (α := Nat × Nat) (fun z => [(0, .slice A n c), (1, .int .i64 (a : Int)), (2, .int .i64 (m : Int)), (3, .int .i64 (b : Int)), (4, .func (.func 153) #[] #[]), (18, .int .i64 (mid : Int)), (19, .int .i64 ((mid : Int) + (m : Int))), (20, .int .i64 (z.1 : Int)), (21, .int .i64 (z.2 : Int)), (22, .int .i64 ((mid : Int) + (m : Int) - 1))])
      (fun z w' => (lo0 a m b ≤ z.1 ∧ z.1 ≤ z.2 ∧ z.2 ≤ hi0 a m b) ∧ (∀ x, lo0 a m b ≤ x → x < z.1 → knS (gs ds x) ≤ knS (gs ds (mid + m - 1 - x))) ∧ (∀ x, z.2 ≤ x → x < hi0 a m b → knS (gs ds (mid + m - 1 - x)) < knS (gs ds x)) ∧ St w0 w' (CkR t A n c ds :: ks)) (fun z => z.2 - z.1) (lo0 a m b, hi0 a m b) ⟨rfl, rfl, rfl, rfl, rfl, rfl, rfl, rfl, rfl, rfl, trivial⟩ ⟨⟨Nat.le_refl _, hlh, Nat.le_refl _⟩, fun x h h' => by omega, fun x h h' => by omega, hS⟩ ?_
    rintro ⟨i, j⟩ e w2 ⟨⟨hi0', hij, hjb⟩, hL, hR, hS1⟩
    dsimp only at hi0' hij hjb hL hR hS1 ⊢
    refine Cd.seq ?_
    refine Cd.seq ?_
    refine Cd.region ?_
    refine Ops.mv_int rfl rfl rfl ?_
    refine Ops.mv_int rfl rfl rfl ?_
    refine Ops.lss rfl rfl rfl ?_
    refine Ops.nil ?_
    refine thenQ_n ?_
    refine Cd.cond_p _ rfl (fun h3 => ?_) (fun h3 => ?_)
    · refine Cd.skip ?_
      refine thenQ_n ?_
      refine Cd.block ?_
      refine Cd.seq ?_
      refine Cd.region ?_
      refine Ops.mv_int rfl rfl rfl ?_
      refine Ops.mv_int rfl rfl rfl ?_
      refine Ops.add rfl rfl rfl (by omega) ?_
      refine Ops.convK rfl rfl (wrap_u64_in _ (by omega)) ?_
      refine Ops.shr1 rfl rfl rfl (by omega) ?_
      refine Ops.convK rfl rfl (IntWalk.i64_in _ (by omega)) ?_
      refine Ops.mv_int rfl rfl rfl ?_
      refine Ops.nil ?_
      refine thenQ_n ?_
      refine Cd.seq ?_
      obtain ⟨h, hh⟩ : ∃ h : Nat, h = (i + j) / 2 := ⟨_, rfl⟩
      rw [show ((i : Int) + (j : Int)) / 2 = (h : Int) by omega]
      have hr1 := hrng h (by omega) (by omega)
      have hR1 := hS1.rdR 0 rfl
      have ep : ((mid : Int) + (m : Int) - 1 - (h : Int)).toNat = mid + m - 1 - h := by omega
      have g1 : rg ds (h : Int) = gs ds h := rfl
      have g2 : rg ds ((mid : Int) + (m : Int) - 1 - (h : Int)) = gs ds (mid + m - 1 - h) := by unfold rg gs; rw [ep]
      refine Cd.draw [.ex (.func (.func 153) #[] #[]), .ex (.slice (A) (n) (c)), .ex (.int .i64 (((mid : Int) + (m : Int) - 1))), .ex (.int .i64 ((h : Int))), .ex (.int .i64 ((((mid : Int) + (m : Int) - 1)) - ((h : Int)))), .ex (.pointer (ptrAt (A) ((((mid : Int) + (m : Int) - 1)) - ((h : Int))).toNat)), .ex (.slice ((rg (ds) ((((mid : Int) + (m : Int) - 1)) - ((h : Int)))).a) ((rg (ds) ((((mid : Int) + (m : Int) - 1)) - ((h : Int)))).n) ((rg (ds) ((((mid : Int) + (m : Int) - 1)) - ((h : Int)))).c)), .ex (.slice (A) (n) (c)), .ex (.int .i64 ((h : Int))), .ex (.pointer (ptrAt (A) ((h : Int)).toNat)), .ex (.slice ((rg (ds) ((h : Int))).a) ((rg (ds) ((h : Int))).n) ((rg (ds) ((h : Int))).c)), .ex (.int .i64 (((gs ds h).n : Int) - (gs ds (mid + m - 1 - h)).n)), .ex (.bool (decide ((((gs ds h).n : Int) - (gs ds (mid + m - 1 - h)).n) < ((0 : Int))))), .ex (.bool (decide (¬ ((((gs ds h).n : Int) - (gs ds (mid + m - 1 - h)).n) < ((0 : Int))))))] (by kernel_rfl) (by kernel_rfl) rfl (List.forall_mem_cons.2 ⟨Yd.lasts_ex _, (List.forall_mem_cons.2 ⟨Yd.lasts_ex _, (List.forall_mem_cons.2 ⟨Yd.lasts_ex _, (List.forall_mem_cons.2 ⟨Yd.lasts_ex _, (List.forall_mem_cons.2 ⟨Yd.lasts_ex _, (List.forall_mem_cons.2 ⟨Yd.lasts_ex _, (List.forall_mem_cons.2 ⟨Yd.lasts_ex _, (List.forall_mem_cons.2 ⟨Yd.lasts_ex _, (List.forall_mem_cons.2 ⟨Yd.lasts_ex _, (List.forall_mem_cons.2 ⟨Yd.lasts_ex _, (List.forall_mem_cons.2 ⟨Yd.lasts_ex _, (List.forall_mem_cons.2 ⟨Yd.lasts_ex _, (List.forall_mem_cons.2 ⟨Yd.lasts_ex _, (List.forall_mem_cons.2 ⟨Yd.lasts_ex _, (fun _ h => by cases h)⟩)⟩)⟩)⟩)⟩)⟩)⟩)⟩)⟩)⟩)⟩)⟩)⟩)⟩) ⟨?_, ?_, ?_, ?_, ?_, ?_, ?_, ?_, ?_, ?_, ?_, ?_, ?_, ?_, trivial⟩ ?_
      · intro e1 w1 hb hp hun
        refine Ops.mv_fn rfl rfl rfl ?_
        refine Ops.nil ?_
        exact After.dn (Below.refl _ _) (by exact rfl)
      · intro e1 w1 hb hp hun
        refine Ops.mv_sl rfl rfl rfl ?_
        refine Ops.nil ?_
        exact After.dn (Below.refl _ _) (by exact rfl)
      · intro e1 w1 hb hp hun
        refine Ops.mv_int rfl rfl rfl ?_
        refine Ops.nil ?_
        exact After.dn (Below.refl _ _) (by exact rfl)
      · intro e1 w1 hb hp hun
        refine Ops.mv_int rfl rfl rfl ?_
        refine Ops.nil ?_
        exact After.dn (Below.refl _ _) (by exact rfl)
      · intro e1 w1 hb hp hun
        refine Ops.sub rfl rfl rfl (by omega) ?_
        refine Ops.nil ?_
        exact After.dn (Below.refl _ _) (by exact rfl)
      · intro e1 w1 hb hp hun
        refine Ops.idx (hR1.later hb).2 rfl rfl rfl (by omega) (by omega) ?_
        refine Ops.nil ?_
        exact After.dn (Below.refl _ _) (by exact rfl)
      · intro e1 w1 hb hp hun
        refine Ops.ld_sl (hR1.later hb) rfl (by omega) rfl rfl ?_
        refine Ops.nil ?_
        exact After.dn (Below.refl _ _) (by exact rfl)
      · intro e1 w1 hb hp hun
        refine Ops.mv_sl rfl rfl rfl ?_
        refine Ops.nil ?_
        exact After.dn (Below.refl _ _) (by exact rfl)
      · intro e1 w1 hb hp hun
        refine Ops.mv_int rfl rfl rfl ?_
        refine Ops.nil ?_
        exact After.dn (Below.refl _ _) (by exact rfl)
      · intro e1 w1 hb hp hun
        refine Ops.idx (hR1.later hb).2 rfl rfl rfl (by omega) (by omega) ?_
        refine Ops.nil ?_
        exact After.dn (Below.refl _ _) (by exact rfl)
      · intro e1 w1 hb hp hun
        refine Ops.ld_sl (hR1.later hb) rfl (by omega) rfl rfl ?_
        refine Ops.nil ?_
        exact After.dn (Below.refl _ _) (by exact rfl)
      · intro e1 w1 hb hp hun
        refine Ops.call (cmpG_c (gs ds (mid + m - 1 - h)).a (gs ds (mid + m - 1 - h)).n (gs ds (mid + m - 1 - h)).c (gs ds h).a (gs ds h).n (gs ds h).c _ (hcap _) (hcap h)) rfl (by rw [← g2]; rfl) rfl ?_
        rintro _ w9 ⟨rfl, rfl⟩
        refine Ops.nil ?_
        exact After.dn (Below.refl _ _) (by exact rfl)
      · intro e1 w1 hb hp hun
        refine Ops.lss rfl rfl rfl ?_
        refine Ops.nil ?_
        exact After.dn (Below.refl _ _) (by exact rfl)
      · intro e1 w1 hb hp hun
        refine Ops.not_p rfl rfl ?_
        refine Ops.nil ?_
        exact After.dn (Below.refl _ _) (by exact rfl)
      intro u w3 hb3 _
      have hS2 := hS1.later hb3
      refine thenQ_n ?_
      refine Cd.cond_p _ rfl (fun h4 => ?_) (fun h4 => ?_)
      · refine Cd.region ?_
        refine Ops.mv_int rfl rfl rfl ?_
        refine Ops.add rfl rfl rfl (by omega) ?_
        refine Ops.mv_int rfl rfl rfl ?_
        refine Ops.nil ?_
        refine blockQ_n ?_
        refine thenQ_n ?_
        refine ⟨(h + 1, j), by show j - (h + 1) < j - i; omega, ⟨rfl, rfl, rfl, rfl, rfl, rfl, rfl, rfl, rfl, rfl, trivial⟩, ⟨by show lo0 a m b ≤ h + 1; omega, by show h + 1 ≤ j; omega, hjb⟩, fun x hx1 hx2 => ?_, hR, hS2⟩
        have hx2 : x < h + 1 := hx2
        have hr2 := hrng x hx1 (by omega)
        have k1 : knS (gs ds x) ≤ knS (gs ds h) := hA.le (by omega) (by omega) (by omega)
        have k2 : knS (gs ds h) ≤ knS (gs ds (mid + m - 1 - h)) := by unfold knS; omega
        have k3 : knS (gs ds (mid + m - 1 - h)) ≤ knS (gs ds (mid + m - 1 - x)) := hB.le (by omega) (by omega) (by omega)
        omega
      · refine Cd.region ?_
        refine Ops.mv_int rfl rfl rfl ?_
        refine Ops.mv_int rfl rfl rfl ?_
        refine Ops.nil ?_
        refine blockQ_n ?_
        refine thenQ_n ?_
        refine ⟨(i, h), by show h - i < j - i; omega, ⟨rfl, rfl, rfl, rfl, rfl, rfl, rfl, rfl, rfl, rfl, trivial⟩, ⟨hi0', by show i ≤ h; omega, by show h ≤ hi0 a m b; omega⟩, hL, fun x hx1 hx2 => ?_, hS2⟩
        have hx1 : h ≤ x := hx1
        have hr2 := hrng x (by omega) hx2
        have k1 : knS (gs ds h) ≤ knS (gs ds x) := hA.le (by omega) (by omega) (by omega)
        have k2 : knS (gs ds (mid + m - 1 - h)) < knS (gs ds h) := by unfold knS; omega
        have k3 : knS (gs ds (mid + m - 1 - x)) ≤ knS (gs ds (mid + m - 1 - h)) := hB.le (by omega) (by omega) (by omega)
        omega
    have hije : i = j := by omega
    subst hije
    have hcut : CutI knS ds a m b i := ⟨hi0', hjb, by rw [← hmid]; exact hL, by rw [← hmid]; exact hR⟩
    -- the rotation
    have hrot := fun l1 => cut_all (l1 := l1) h1 h2 hA hB hcut
    rw [← hmid] at hrot
    have b1 : a ≤ i := by have := hi0'; unfold lo0 at this; split at this <;> omega
    have b2 : i ≤ mid := by have := hjb; unfold hi0 at this; split at this <;> omega
    have b3 : i ≤ m := by have := hjb; unfold hi0 at this; split at this <;> omega
    have b4 : mid + m - i ≤ b := by have := hi0'; unfold lo0 at this; split at this <;> omega
    refine Cd.exit ?_
    refine thenQ_x ?_
    refine thenQ_x ?_
    refine blockQ_x ?_
    refine thenQ_n ?_
    refine Cd.seq ?_
    refine Cd.region ?_
    refine Ops.mv_int rfl rfl rfl ?_
    refine Ops.mv_int rfl rfl rfl ?_
    refine Ops.sub rfl rfl rfl (by omega) ?_
    refine Ops.mv_int rfl rfl rfl ?_
    refine Ops.nil ?_
    refine thenQ_n ?_
    refine Cd.join (α := List SlV) (fun _ => [(0, .slice A n c), (1, .int .i64 (a : Int)), (3, .int .i64 (b : Int)), (4, .func (.func 153) #[] #[]), (18, .int .i64 (mid : Int)), (20, .int .i64 (i : Int)), (24, .int .i64 ((mid + m - i : Nat) : Int))]) (fun l1 w' => RotI ds l1 i m (mid + m - i) ∧ RP ds l1 a b ∧ St w0 w' (CkR t A n c l1 :: ks)) ?_ ?_
    · have e24 : ((mid : Int) + (m : Int) - (i : Int)) = ((mid + m - i : Nat) : Int) := by omega
      rw [e24]
      refine Cd.seq ?_
      refine Cd.region ?_
      refine Ops.mv_int rfl rfl rfl ?_
      refine Ops.mv_int rfl rfl rfl ?_
      refine Ops.lss rfl rfl rfl ?_
      refine Ops.mv_bool rfl rfl rfl ?_
      refine Ops.split_p 181 rfl (fun h4 => ?_) (fun h4 => ?_)
      · refine Ops.rung rfl rfl rfl ?_
        refine Ops.mv_int rfl rfl rfl ?_
        refine Ops.rung rfl rfl rfl ?_
        refine Ops.mv_int rfl rfl rfl ?_
        refine Ops.rung rfl rfl rfl ?_
        refine Ops.lss rfl rfl rfl ?_
        refine Ops.pick_t rfl rfl rfl ?_
        refine Ops.nil ?_
        refine thenQ_n ?_
        refine Cd.cond_p _ rfl (fun h5 => ?_) (fun h5 => ?_)
        · obtain ⟨P, X, Y, S, hds, lP, lX, lY⟩ : ∃ P X Y S : List SlV, ds = P ++ (X ++ (Y ++ S)) ∧ P.length = i ∧ X.length = m - i ∧ Y.length = mid - i := by
            refine ⟨ds.take i, (ds.drop i).take (m - i), (ds.drop m).take (mid - i), (ds.drop m).drop (mid - i), ?_, by simp; omega, by simp; omega, by simp; omega⟩
            rw [List.take_append_drop, show ds.drop m = (ds.drop i).drop (m - i) by rw [List.drop_drop]; congr 1; omega, List.take_append_drop, List.take_append_drop]
          have hrotI : RotI ds (P ++ (Y ++ (X ++ S))) i m (mid + m - i) := by
            have := RotI.of P X Y S
            rw [← hds, lP, lX, lY] at this
            rwa [show i + (m - i) = m by omega, show m + (mid - i) = mid + m - i by omega] at this
          rw [hds] at hS1
          refine Cd.region ?_
          refine Ops.mv_sl rfl rfl rfl ?_
          refine Ops.mv_int rfl rfl rfl ?_
          refine Ops.mv_int rfl rfl rfl ?_
          refine Ops.mv_int rfl rfl rfl ?_
          refine Ops.mv_fn rfl rfl rfl ?_
          refine Ops.call (rotate_c (P := P) (X := X) (Y := Y) (S := S) i m (mid + m - i) lP (by omega) (by omega) (by omega) (by omega) hn hS1) rfl rfl rfl ?_
          rintro _ w4 ⟨rfl, hS4⟩
          refine Ops.nil ?_
          refine thenQ_n ?_
          exact ⟨P ++ (Y ++ (X ++ S)), ⟨rfl, rfl, rfl, rfl, rfl, rfl, rfl, trivial⟩, hrotI, ⟨by rw [hds]; exact rot_perm P X Y S, fun x hx => hrotI.out x (by omega)⟩, hS4⟩
        · refine Cd.skip ?_
          refine thenQ_n ?_
          exact ⟨ds, ⟨rfl, rfl, rfl, rfl, rfl, rfl, rfl, trivial⟩, RotI.same ds (by omega) (by omega) (by omega), RP.refl _ _ _, hS1⟩
      · refine Ops.skipg rfl rfl rfl rfl rfl ?_
        refine Ops.skipg rfl rfl rfl rfl rfl ?_
        refine Ops.skipg rfl rfl rfl rfl rfl ?_
        refine Ops.pick_f rfl rfl rfl ?_
        refine Ops.nil ?_
        refine thenQ_n ?_
        refine Cd.cond_f rfl ?_
        refine Cd.skip ?_
        refine thenQ_n ?_
        exact ⟨ds, ⟨rfl, rfl, rfl, rfl, rfl, rfl, rfl, trivial⟩, RotI.same ds (by omega) (by omega) (by omega), RP.refl _ _ _, hS1⟩
    rintro l1 e w4 ⟨hr, hp1, hS4⟩
    obtain ⟨_, s1, s2, s3, s4, hx⟩ := hrot l1 hr
    have hl1 := hp1.len
    skip
    refine Cd.join (α := List SlV) (fun _ => [(0, .slice A n c), (3, .int .i64 (b : Int)), (4, .func (.func 153) #[] #[]), (18, .int .i64 (mid : Int)), (24, .int .i64 ((mid + m - i : Nat) : Int))]) (fun l2 w' => RP l1 l2 a mid ∧ SR knS l2 a mid ∧ St w0 w' (CkR t A n c l2 :: ks)) ?_ ?_
    · refine Cd.seq ?_
      refine Cd.region ?_
      refine Ops.mv_int rfl rfl rfl ?_
      refine Ops.mv_int rfl rfl rfl ?_
      refine Ops.lss rfl rfl rfl ?_
      refine Ops.mv_bool rfl rfl rfl ?_
      refine Ops.split_p 195 rfl (fun h4 => ?_) (fun h4 => ?_)
      · refine Ops.rung rfl rfl rfl ?_
        refine Ops.mv_int rfl rfl rfl ?_
        refine Ops.rung rfl rfl rfl ?_
        refine Ops.mv_int rfl rfl rfl ?_
        refine Ops.rung rfl rfl rfl ?_
        refine Ops.lss rfl rfl rfl ?_
        refine Ops.pick_t rfl rfl rfl ?_
        refine Ops.nil ?_
        refine thenQ_n ?_
        refine Cd.cond_p _ rfl (fun h5 => ?_) (fun h5 => ?_)
        · refine Cd.region ?_
          refine Ops.mv_sl rfl rfl rfl ?_
          refine Ops.mv_int rfl rfl rfl ?_
          refine Ops.mv_int rfl rfl rfl ?_
          refine Ops.mv_int rfl rfl rfl ?_
          refine Ops.mv_fn rfl rfl rfl ?_
          refine Ops.call (ih a i mid (by omega) (by omega) (by omega) (by omega) l1 _ (hp1.cap hc) s1 s2 hS4) rfl rfl rfl ?_
          rintro _ w5 ⟨rfl, l2, hp2, hs2, hS5⟩
          refine Ops.nil ?_
          refine thenQ_n ?_
          exact ⟨l2, ⟨rfl, rfl, rfl, rfl, rfl, trivial⟩, hp2, hs2, hS5⟩
        · have hie : i = mid := by omega
          refine Cd.skip ?_
          refine thenQ_n ?_
          exact ⟨l1, ⟨rfl, rfl, rfl, rfl, rfl, trivial⟩, RP.refl _ _ _, hie ▸ s1, hS4⟩
      · have hie : a = i := by omega
        refine Ops.skipg rfl rfl rfl rfl rfl ?_
        refine Ops.skipg rfl rfl rfl rfl rfl ?_
        refine Ops.skipg rfl rfl rfl rfl rfl ?_
        refine Ops.pick_f rfl rfl rfl ?_
        refine Ops.nil ?_
        refine thenQ_n ?_
        refine Cd.cond_f rfl ?_
        refine Cd.skip ?_
        refine thenQ_n ?_
        exact ⟨l1, ⟨rfl, rfl, rfl, rfl, rfl, trivial⟩, RP.refl _ _ _, hie ▸ s2, hS4⟩
    rintro l2 e w5 ⟨hp2, hs2, hS5⟩
    have hl2 := hp2.len
    have t3 : SR knS l2 mid (mid + m - i) := s3.congr fun x h h' => hp2.out x (.inr h)
    have t4 : SR knS l2 (mid + m - i) b := s4.congr fun x h h' => hp2.out x (.inr (by omega))
    have hfin : ∀ l3, RP l2 l3 mid b → SR knS l3 mid b → RP ds l3 a b ∧ SR knS l3 a b := fun l3 hp3 hs3 =>
      ⟨(hp1.trans hp2 (Nat.le_refl _) (by omega)).trans hp3 (by omega) (Nat.le_refl _), cut_join (by omega) (by omega) (by omega) hx hp2 hs2 hp3 hs3⟩
    refine Cd.seq ?_
    refine Cd.region ?_
    refine Ops.mv_int rfl rfl rfl ?_
    refine Ops.mv_int rfl rfl rfl ?_
    refine Ops.lss rfl rfl rfl ?_
    refine Ops.mv_bool rfl rfl rfl ?_
    refine Ops.split_p 209 rfl (fun h4 => ?_) (fun h4 => ?_)
    · refine Ops.rung rfl rfl rfl ?_
      refine Ops.mv_int rfl rfl rfl ?_
      refine Ops.rung rfl rfl rfl ?_
      refine Ops.mv_int rfl rfl rfl ?_
      refine Ops.rung rfl rfl rfl ?_
      refine Ops.lss rfl rfl rfl ?_
      refine Ops.pick_t rfl rfl rfl ?_
      refine Ops.nil ?_
      refine thenQ_n ?_
      refine Cd.cond_p _ rfl (fun h5 => ?_) (fun h5 => ?_)
      · refine Cd.region ?_
        refine Ops.mv_sl rfl rfl rfl ?_
        refine Ops.mv_int rfl rfl rfl ?_
        refine Ops.mv_int rfl rfl rfl ?_
        refine Ops.mv_int rfl rfl rfl ?_
        refine Ops.mv_fn rfl rfl rfl ?_
        refine Ops.call (ih mid (mid + m - i) b (by omega) (by omega) (by omega) hbn l2 _ (hp2.cap (hp1.cap hc)) t3 t4 hS5) rfl rfl rfl ?_
        rintro _ w6 ⟨rfl, l3, hp3, hs3, hS6⟩
        have := hfin l3 hp3 hs3
        refine Ops.nil ?_
        refine ret0_n ?_
        exact ⟨rfl, l3, this.1, this.2, hS6⟩
      · have hie : mid + m - i = b := by omega
        have := hfin l2 (RP.refl _ _ _) (hie ▸ t3)
        refine Cd.skip ?_
        refine ret0_n ?_
        exact ⟨rfl, l2, this.1, this.2, hS5⟩
    · have hie : mid = mid + m - i := by omega
      have := hfin l2 (RP.refl _ _ _) (hie ▸ t4)
      refine Ops.skipg rfl rfl rfl rfl rfl ?_
      refine Ops.skipg rfl rfl rfl rfl rfl ?_
      refine Ops.skipg rfl rfl rfl rfl rfl ?_
      refine Ops.pick_f rfl rfl rfl ?_
      refine Ops.nil ?_
      refine thenQ_n ?_
      refine Cd.cond_f rfl ?_
      refine Cd.skip ?_
      refine ret0_n ?_
      exact ⟨rfl, l2, this.1, this.2, hS5⟩

theorem stable_c {w0 w : World} {ks : List Ck} {t : TypeId} {A : Option Addr} {n c : Nat} {ds : List SlV} (hn : n ≤ 1000000000000) (hc : ∀ s ∈ ds, s.n ≤ 9223372036854775807) (hS : St w0 w (CkR t A n c ds :: ks)) :
    Ret Tryz.prog 165 [.slice A n c, .int .i64 (n : Int), .func (.func 153) #[] #[]] w (fun v w' => v = .tuple #[] ∧ ∃ ds', ds'.Perm ds ∧ SR knS ds' 0 n ∧ St w0 w' (CkR t A n c ds' :: ks)) := by
  have hln : ds.length = n := (hS.rdR 0 rfl).1
  refine Ret.of_cd Tryz.func165 rfl Tryz.ntmps165 rfl (post0 rfl) ?_
  refine Cd.seq ?_
  refine Cd.region ?_
  refine Ops.mv_int rfl rfl rfl ?_
  refine Ops.nil ?_
  refine thenQ_n ?_
  refine Cd.seq ?_
  refine Cd.region ?_
  refine Ops.mv_int rfl rfl rfl ?_
  refine Ops.mv_int rfl rfl rfl ?_
  refine Ops.mv_int rfl rfl rfl ?_
  refine Ops.nil ?_
  refine thenQ_n ?_
  refine Cd.seq ?_
  refine Cd.block ?_
  refine Cd.loop (α := Nat × List SlV) (fun z => [(0, .slice A n c), (1, .int .i64 (n : Int)), (2, .func (.func 153) #[] #[]), (6, .int .i64 20), (7, .int .i64 ((z.1 * 20 : Nat) : Int)), (8, .int .i64 ((z.1 * 20 + 20 : Nat) : Int))]) (fun z w' => z.1 * 20 ≤ n ∧ z.2.Perm ds ∧ Blks knS z.2 n 20 0 (z.1 * 20) ∧ St w0 w' (CkR t A n c z.2 :: ks)) (fun z => n - z.1 * 20) (0, ds) ⟨rfl, rfl, rfl, rfl, rfl, rfl, trivial⟩ ⟨by omega, List.Perm.refl _, fun k h h' => by omega, hS⟩ ?_
  rintro ⟨k, cu⟩ e w1 ⟨hk, hp, hB, hS1⟩
  dsimp only at hk hp hB hS1 ⊢
  have hcc : ∀ s ∈ cu, s.n ≤ 9223372036854775807 := fun s hs => hc s (hp.mem_iff.1 hs)
  have sep : ∀ (j : Nat), j * 20 < k * 20 → min (j * 20 + 20) n ≤ k * 20 := fun j hj => by omega
  refine Cd.seq ?_
  refine Cd.seq ?_
  refine Cd.region ?_
  refine Ops.mv_int rfl rfl rfl ?_
  refine Ops.mv_int rfl rfl rfl ?_
  refine Ops.leq rfl rfl rfl ?_
  refine Ops.nil ?_
  refine thenQ_n ?_
  refine Cd.cond_p _ rfl (fun h1 => ?_) (fun h1 => ?_)
  · refine Cd.skip ?_
    refine thenQ_n ?_
    refine Cd.block ?_
    refine Cd.seq ?_
    refine Cd.region ?_
    refine Ops.mv_sl rfl rfl rfl ?_
    refine Ops.mv_int rfl rfl rfl ?_
    refine Ops.mv_int rfl rfl rfl ?_
    refine Ops.mv_fn rfl rfl rfl ?_
    refine Ops.call (insertion_c (k * 20) (k * 20 + 20) (by omega) hk (by omega) hcc hS1) rfl rfl rfl ?_
    rintro _ w2 ⟨rfl, cu2, hp2, hs2, hS2⟩
    refine Ops.nil ?_
    refine thenQ_n ?_
    refine Cd.seq ?_
    refine Cd.region ?_
    refine Ops.mv_int rfl rfl rfl ?_
    refine Ops.mv_int rfl rfl rfl ?_
    refine Ops.nil ?_
    refine thenQ_n ?_
    refine Cd.region ?_
    refine Ops.mv_int rfl rfl rfl ?_
    refine Ops.mv_int rfl rfl rfl ?_
    refine Ops.add rfl rfl rfl (by omega) ?_
    refine Ops.mv_int rfl rfl rfl ?_
    refine Ops.nil ?_
    refine blockQ_n ?_
    refine thenQ_n ?_
    refine ⟨(k + 1, cu2), by show n - (k + 1) * 20 < n - k * 20; omega, ⟨rfl, rfl, rfl, rfl, by show Value.int .i64 ((k * 20 + 20 : Nat) : Int) = .int .i64 (((k + 1) * 20 : Nat) : Int); congr 1; omega, by show Value.int .i64 (((k * 20 + 20 : Nat) : Int) + 20) = .int .i64 (((k + 1) * 20 + 20 : Nat) : Int); congr 1; omega, trivial⟩, by show (k + 1) * 20 ≤ n; omega, hp2.perm.trans hp, fun j hj hj2 => ?_, hS2⟩
    have hj2 : j * 20 < (k + 1) * 20 := hj2
    by_cases e : j = k
    · subst e
      rw [Nat.min_eq_left (by omega)]
      exact hs2
    · exact (hB j hj (by omega)).congr fun x h h' => hp2.out x (.inl (by omega))
  · refine Cd.exit ?_
    refine thenQ_x ?_
    refine thenQ_x ?_
    refine blockQ_x ?_
    refine thenQ_n ?_
    refine Cd.seq ?_
    refine Cd.region ?_
    refine Ops.mv_sl rfl rfl rfl ?_
    refine Ops.mv_int rfl rfl rfl ?_
    refine Ops.mv_int rfl rfl rfl ?_
    refine Ops.mv_fn rfl rfl rfl ?_
    refine Ops.call (insertion_c (k * 20) n (Nat.le_refl _) hk (by omega) hcc hS1) rfl rfl rfl ?_
    rintro _ w2 ⟨rfl, cu2, hp2, hs2, hS2⟩
    have hB2 : Blks knS cu2 n 20 0 n := fun j hj hj2 => by
      by_cases e : j = k
      · subst e
        rw [Nat.min_eq_right (by omega)]
        exact hs2
      · exact (hB j hj (by omega)).congr fun x h h' => hp2.out x (.inl (by omega))
    refine Ops.nil ?_
    refine thenQ_n ?_
    refine Cd.block ?_
    refine Cd.loop (α := Nat × List SlV) (fun z => [(0, .slice A n c), (1, .int .i64 (n : Int)), (2, .func (.func 153) #[] #[]), (6, .int .i64 (z.1 : Int))]) (fun z w' => (0 < z.1 ∧ z.1 ≤ 2 * n + 20) ∧ z.2.Perm ds ∧ Blks knS z.2 n z.1 0 n ∧ St w0 w' (CkR t A n c z.2 :: ks)) (fun z => 2 * n + 20 - z.1) (20, cu2) ⟨rfl, rfl, rfl, rfl, trivial⟩ ⟨⟨by show 0 < 20; omega, by show 20 ≤ 2 * n + 20; omega⟩, hp2.perm.trans hp, hB2, hS2⟩ ?_
    rintro ⟨s, c3⟩ e w3 ⟨⟨hs0, hsn⟩, hp3, hB3, hS3⟩
    dsimp only at hs0 hsn hp3 hB3 hS3 ⊢
    refine Cd.seq ?_
    refine Cd.seq ?_
    refine Cd.region ?_
    refine Ops.mv_int rfl rfl rfl ?_
    refine Ops.mv_int rfl rfl rfl ?_
    refine Ops.lss rfl rfl rfl ?_
    refine Ops.nil ?_
    refine thenQ_n ?_
    refine Cd.cond_p _ rfl (fun h2 => ?_) (fun h2 => ?_)
    · refine Cd.skip ?_
      refine thenQ_n ?_
      refine Cd.block ?_
      refine Cd.seq ?_
      refine Cd.region ?_
      refine Ops.mv_int rfl rfl rfl ?_
      refine Ops.mul rfl rfl rfl (by omega) ?_
      refine Ops.mv_int rfl rfl rfl ?_
      refine Ops.mv_int rfl rfl rfl ?_
      refine Ops.nil ?_
      refine thenQ_n ?_
      refine Cd.seq ?_
      refine Cd.block ?_
      obtain ⟨p, hp⟩ : ∃ p : Nat, p = 2 * s := ⟨_, rfl⟩
      have hcp : ((2 : Int) * (s : Int)) = (p : Int) := by omega
      rw [hcp]
      refine Cd.loop (α := Nat × Nat × List SlV) (fun z => [(0, .slice A n c), (1, .int .i64 (n : Int)), (2, .func (.func 153) #[] #[]), (6, .int .i64 (s : Int)), (7, .int .i64 (z.2.1 : Int)), (8, .int .i64 ((z.2.1 + p : Nat) : Int))]) (fun z w' => z.2.1 = z.1 * p ∧ z.2.1 ≤ n ∧ z.2.2.Perm ds ∧ Blks knS z.2.2 n p 0 z.2.1 ∧ Blks knS z.2.2 n s z.2.1 n ∧ St w0 w' (CkR t A n c z.2.2 :: ks)) (fun z => n - z.2.1) (0, 0, c3) ⟨rfl, rfl, rfl, rfl, rfl, by show Value.int .i64 (p : Int) = .int .i64 ((0 + p : Nat) : Int); rw [Nat.zero_add], trivial⟩ ⟨(Nat.zero_mul p).symm, Nat.zero_le _, hp3, fun k h h' => absurd h' (Nat.not_lt_zero _), hB3, hS3⟩ ?_
      rintro ⟨k, a, c4⟩ e w4 ⟨ha, han, hp4, hBp, hBs, hS4⟩
      dsimp only at ha han hp4 hBp hBs hS4 ⊢
      have hcc4 : ∀ s ∈ c4, s.n ≤ 9223372036854775807 := fun s hs => hc s (hp4.mem_iff.1 hs)
      have q1 : 2 * k * s = a := by rw [ha, hp, Nat.mul_comm 2 k, Nat.mul_assoc]
      have q2 : (2 * k + 1) * s = a + s := by rw [Nat.succ_mul, q1]
      have q3 : (k + 1) * p = a + p := by rw [Nat.succ_mul, ha]
      have hA1 : a < n → SR knS c4 a (min (a + s) n) := fun h => by
        have := hBs (2 * k) (by rw [q1]; exact Nat.le_refl _) (by rw [q1]; exact h)
        rwa [q1] at this
      have hA2 : a + s < n → SR knS c4 (a + s) (min (a + s + s) n) := fun h => by
        have := hBs (2 * k + 1) (by rw [q2]; omega) (by rw [q2]; exact h)
        rwa [q2] at this
      refine Cd.seq ?_
      refine Cd.seq ?_
      refine Cd.region ?_
      refine Ops.mv_int rfl rfl rfl ?_
      refine Ops.mv_int rfl rfl rfl ?_
      refine Ops.leq rfl rfl rfl ?_
      refine Ops.nil ?_
      refine thenQ_n ?_
      refine Cd.cond_p _ rfl (fun h3 => ?_) (fun h3 => ?_)
      · have hap : a + p ≤ n := by omega
        have m1 := hA1 (by omega)
        have m2 := hA2 (by omega)
        rw [Nat.min_eq_left (by omega)] at m1 m2
        rw [show a + s + s = a + p by omega] at m2
        refine Cd.skip ?_
        refine thenQ_n ?_
        refine Cd.block ?_
        refine Cd.seq ?_
        refine Cd.region ?_
        refine Ops.mv_sl rfl rfl rfl ?_
        refine Ops.mv_int rfl rfl rfl ?_
        refine Ops.mv_int rfl rfl rfl ?_
        refine Ops.mv_int rfl rfl rfl ?_
        refine Ops.add rfl rfl rfl (by omega) ?_
        refine Ops.mv_int rfl rfl rfl ?_
        refine Ops.mv_fn rfl rfl rfl ?_
        refine Ops.call (symMerge_c (by omega) p a (a + s) (a + p) (by omega) (by omega) (by omega) hap c4 _ hcc4 m1 m2 hS4) rfl rfl rfl ?_
        rintro _ w5 ⟨rfl, c5, hp5, hs5, hS5⟩
        refine Ops.nil ?_
        refine thenQ_n ?_
        refine Cd.seq ?_
        refine Cd.region ?_
        refine Ops.mv_int rfl rfl rfl ?_
        refine Ops.mv_int rfl rfl rfl ?_
        refine Ops.nil ?_
        refine thenQ_n ?_
        refine Cd.region ?_
        refine Ops.mv_int rfl rfl rfl ?_
        refine Ops.mv_int rfl rfl rfl ?_
        refine Ops.mul rfl rfl rfl (by omega) ?_
        refine Ops.add rfl rfl rfl (by omega) ?_
        refine Ops.mv_int rfl rfl rfl ?_
        refine Ops.nil ?_
        refine blockQ_n ?_
        refine thenQ_n ?_
        refine ⟨(k + 1, a + p, c5), by show n - (a + p) < n - a; omega, ⟨rfl, rfl, rfl, rfl, rfl, by show Value.int .i64 (((a + p : Nat) : Int) + (2 : Int) * (s : Int)) = .int .i64 ((a + p + p : Nat) : Int); congr 1; omega, trivial⟩, q3.symm, hap, hp5.perm.trans hp4, fun j hj hj2 => ?_, fun j hj hj2 => ?_, hS5⟩
        · have hj2 : j * p < a + p := hj2
          by_cases e : j = k
          · subst e
            rw [← ha, Nat.min_eq_left hap]; exact hs5
          · have hjk : j < k + 1 := by rw [← q3] at hj2; exact Nat.lt_of_mul_lt_mul_right hj2
            have h6 : j * p < k * p := Nat.mul_lt_mul_of_pos_right (by omega) (by omega)
            have h7 := mul_gap h6
            exact (hBp j (Nat.zero_le _) (by rw [ha]; exact h6)).congr fun x h h' => hp5.out x (.inl (by omega))
        · have hj : a + p ≤ j * s := hj
          exact (hBs j (by omega) hj2).congr fun x h h' => hp5.out x (.inr (by omega))
      · have hap : n < a + p := by omega
        have key : ∀ c5 : List SlV, RP c4 c5 a n → SR knS c5 a n → Blks knS c5 n p 0 n := fun c5 hp5 hs5 j hj hj2 => by
          by_cases e : j = k
          · subst e
            rw [← ha, Nat.min_eq_right (by omega)]; exact hs5
          · have hjk : j < k + 1 := by
              have : j * p < (k + 1) * p := by rw [q3]; omega
              exact Nat.lt_of_mul_lt_mul_right this
            have h6 : j * p < k * p := Nat.mul_lt_mul_of_pos_right (by omega) (by omega)
            have h7 := mul_gap h6
            exact (hBp j (Nat.zero_le _) (by rw [ha]; exact h6)).congr fun x h h' => hp5.out x (.inl (by omega))
        refine Cd.exit ?_
        refine thenQ_x ?_
        refine thenQ_x ?_
        refine blockQ_x ?_
        refine thenQ_n ?_
        refine Cd.seq ?_
        refine Cd.seq ?_
        refine Cd.region ?_
        refine Ops.mv_int rfl rfl rfl ?_
        refine Ops.mv_int rfl rfl rfl ?_
        refine Ops.add rfl rfl rfl (by omega) ?_
        refine Ops.mv_int rfl rfl rfl ?_
        refine Ops.nil ?_
        refine thenQ_n ?_
        refine Cd.seq ?_
        refine Cd.region ?_
        refine Ops.mv_int rfl rfl rfl ?_
        refine Ops.mv_int rfl rfl rfl ?_
        refine Ops.lss rfl rfl rfl ?_
        refine Ops.nil ?_
        refine thenQ_n ?_
        refine Cd.cond_p _ rfl (fun h4 => ?_) (fun h4 => ?_)
        · have m1 := hA1 (by omega)
          have m2 := hA2 (by omega)
          rw [Nat.min_eq_left (by omega)] at m1
          rw [Nat.min_eq_right (by omega)] at m2
          refine Cd.region ?_
          refine Ops.mv_sl rfl rfl rfl ?_
          refine Ops.mv_int rfl rfl rfl ?_
          refine Ops.mv_int rfl rfl rfl ?_
          refine Ops.mv_int rfl rfl rfl ?_
          refine Ops.mv_fn rfl rfl rfl ?_
          refine Ops.call (symMerge_c (by omega) n a (a + s) n (by omega) (by omega) (by omega) (Nat.le_refl _) c4 _ hcc4 m1 m2 hS4) rfl rfl rfl ?_
          rintro _ w5 ⟨rfl, c5, hp5, hs5, hS5⟩
          refine Ops.nil ?_
          refine thenQ_n ?_
          refine Cd.region ?_
          refine Ops.mv_int rfl rfl rfl ?_
          refine Ops.mul rfl rfl rfl (by omega) ?_
          refine Ops.mv_int rfl rfl rfl ?_
          refine Ops.nil ?_
          refine blockQ_n ?_
          refine thenQ_n ?_
          exact ⟨(p, c5), by show 2 * n + 20 - p < 2 * n + 20 - s; omega, ⟨rfl, rfl, rfl, by show Value.int .i64 ((s : Int) * 2) = .int .i64 (p : Int); congr 1; omega, trivial⟩, ⟨by show 0 < p; omega, by show p ≤ 2 * n + 20; omega⟩, hp5.perm.trans hp4, key c5 hp5 hs5, hS5⟩
        · have hs4 : SR knS c4 a n := by
            by_cases h5 : a < n
            · have := hA1 h5
              rwa [Nat.min_eq_right (by omega)] at this
            · exact SR.one _ _ (by omega)
          refine Cd.skip ?_
          refine thenQ_n ?_
          refine Cd.region ?_
          refine Ops.mv_int rfl rfl rfl ?_
          refine Ops.mul rfl rfl rfl (by omega) ?_
          refine Ops.mv_int rfl rfl rfl ?_
          refine Ops.nil ?_
          refine blockQ_n ?_
          refine thenQ_n ?_
          exact ⟨(p, c4), by show 2 * n + 20 - p < 2 * n + 20 - s; omega, ⟨rfl, rfl, rfl, by show Value.int .i64 ((s : Int) * 2) = .int .i64 (p : Int); congr 1; omega, trivial⟩, ⟨by show 0 < p; omega, by show p ≤ 2 * n + 20; omega⟩, hp4, key c4 (RP.refl _ _ _) hs4, hS4⟩
    · refine Cd.exit ?_
      refine thenQ_x ?_
      refine thenQ_x ?_
      refine blockQ_x ?_
      refine ret0_n ?_
      exact ⟨rfl, c3, hp3, hB3.done (by omega), hS3⟩

theorem sortStable_c {w0 w : World} {ks : List Ck} {t : TypeId} {A : Option Addr} {n c : Nat} {ds : List SlV} (hn : n ≤ 1000000000000) (hc : ∀ s ∈ ds, s.n ≤ 9223372036854775807) (hS : St w0 w (CkR t A n c ds :: ks)) :
    Ret Tryz.prog 152 [.slice A n c, .func (.func 153) #[] #[]] w (fun v w' => v = .tuple #[] ∧ ∃ ds', ds'.Perm ds ∧ SR knS ds' 0 n ∧ St w0 w' (CkR t A n c ds' :: ks)) := by
  refine Ret.of_cd Tryz.func152 rfl Tryz.ntmps152 rfl (post0 rfl) ?_
  refine Cd.region ?_
  refine Ops.mv_sl rfl rfl rfl ?_
  refine Ops.mv_sl rfl rfl rfl ?_
  refine Ops.len rfl rfl ?_
  refine Ops.mv_fn rfl rfl rfl ?_
  refine Ops.call (stable_c hn hc hS) rfl rfl rfl ?_
  rintro _ w1 ⟨rfl, ds', h1, h2, h3⟩
  refine Ops.nil ?_
  refine ret0_n ?_
  exact ⟨rfl, ds', h1, h2, h3⟩
end Go.Proofs.YtdedegbendjmbaaGreatDoor.Vc
/-
  Plain mathematics of rooted forms: a tree of partial moves, and two ways of cutting it that keep the same leaves. Conditions: as each states them. No program in sight.
-/
namespace Go.Proofs.YtdedegbendjmbaaGreatDoor.Vc

def cell (M : List (List Int)) (i : Nat) (f : Int) : Int := gi (gl M i) f
def setc (M : List (List Int)) (i f : Nat) (v : Int) : List (List Int) := M.set i ((gl M i).set f v)
def put (M : List (List Int)) (i f g : Nat) : List (List Int) := setc (setc M i f g) i g f
def Shp (n F : Nat) (M : List (List Int)) : Prop := M.length = n ∧ ∀ p ∈ M, p.length = F

section
variable {n F : Nat} {M : List (List Int)}
theorem Shp.row (h : Shp n F M) {i : Nat} (hi : i < n) : (gl M i).length = F := h.2 _ (by rw [gl_mem (by rw [h.1]; exact hi)]; exact List.getElem_mem _)
theorem gl_set {i k : Nat} {p : List Int} (hi : i < M.length) : gl (M.set i p) k = if i = k then p else gl M k := by
  simp only [gl, Int.toNat_natCast, List.getD_eq_getElem?_getD, List.getElem?_set]
  by_cases e : i = k
  · subst e; simp [hi]
  · simp [e]
theorem Shp.setc (h : Shp n F M) {i : Nat} (hi : i < n) (f : Nat) (v : Int) : Shp n F (setc M i f v) := by
  refine ⟨by simp [Vc.setc, h.1], fun p hp => ?_⟩
  rcases List.mem_or_eq_of_mem_set hp with hp | rfl
  · exact h.2 p hp
  · simpa using h.row hi
theorem cell_setc (h : Shp n F M) {i : Nat} (hi : i < n) {f : Nat} (hf : f < F) {v : Int} {k : Nat} {x : Int} (hx : 0 ≤ x) : cell (setc M i f v) k x = if i = k ∧ (f : Int) = x then v else cell M k x := by
  simp only [cell, setc]
  rw [gl_set (by rw [h.1]; exact hi)]
  by_cases e : i = k
  · subst e
    rw [if_pos rfl]
    have := gi_set (S := gl M i) (x := (f : Int)) (y := x) (b := v) (by omega) (by rw [h.row hi]; omega) hx
    rw [Int.toNat_natCast] at this
    rw [this]
    by_cases e2 : (f : Int) = x <;> simp [e2]
  · simp [e]
theorem cell_put (h : Shp n F M) {i : Nat} (hi : i < n) {f g : Nat} (hf : f < F) (hg : g < F) {k : Nat} {x : Int} (hx : 0 ≤ x) : cell (put M i f g) k x = if i = k ∧ (g : Int) = x then (f : Int) else if i = k ∧ (f : Int) = x then (g : Int) else cell M k x := by
  rw [put, cell_setc (h.setc hi f g) hi hg hx, cell_setc h hi hf hx]
theorem Shp.put (h : Shp n F M) {i : Nat} (hi : i < n) (f g : Nat) : Shp n F (put M i f g) := (h.setc hi f g).setc hi g f
end

inductive Con (n : Nat) (M : List (List Int)) : Int → Prop where
  | zero : Con n M 0
  | step {y : Int} {i : Nat} : Con n M y → i < n → 0 ≤ y → 0 ≤ cell M i y → Con n M (cell M i y)

def Ext (n F : Nat) (M L : List (List Int)) : Prop := ∀ (i : Nat) (f : Int), i < n → 0 ≤ f → f < F → 0 ≤ cell M i f → cell L i f = cell M i f
theorem Ext.refl (n F : Nat) (M : List (List Int)) : Ext n F M M := fun _ _ _ _ _ _ => rfl
theorem Ext.trans {n F : Nat} {M L K : List (List Int)} (h : Ext n F M L) (h' : Ext n F L K) : Ext n F M K := fun i f hi h0 h1 h2 => by
  have e := h i f hi h0 h1 h2
  rw [h' i f hi h0 h1 (by rw [e]; exact h2), e]
theorem Ext.put {n F : Nat} {M : List (List Int)} (h : Shp n F M) {i f g : Nat} (hi : i < n) (hf : f < F) (hg : g < F) (h1 : cell M i f < 0) (h2 : cell M i g < 0) : Ext n F M (put M i f g) := fun k x hk h0 hx hc => by
  rw [cell_put h hi hf hg h0]
  split
  · rename_i e; obtain ⟨rfl, rfl⟩ := e; omega
  · split
    · rename_i e; obtain ⟨rfl, rfl⟩ := e; omega
    · rfl

structure Inv (n F : Nat) (M : List (List Int)) (met at_ : Nat) : Prop where
  shp : Shp n F M
  n0 : 0 < n
  met1 : 1 ≤ met
  metF : met ≤ F
  cells : ∀ (i : Nat) (f : Int), i < n → 0 ≤ f → f < F → cell M i f = -1 ∨ (0 ≤ cell M i f ∧ cell M i f < met ∧ f < met ∧ cell M i (cell M i f) = f ∧ cell M i f ≠ f)
  known : ∀ a : Nat, a < at_ → 0 ≤ cell M (a % n) (a / n : Nat)
  con : ∀ f : Nat, f < met → Con n M f
  le : at_ ≤ met * n

section
variable {n F : Nat} {M : List (List Int)} {met at_ : Nat}
theorem Inv.pos (h : Inv n F M met at_) (ha : at_ ≠ met * n) : at_ % n < n ∧ at_ / n < met := by
  have := h.le
  have hn := h.n0
  exact ⟨Nat.mod_lt _ hn, Nat.div_lt_of_lt_mul (by rw [Nat.mul_comm]; omega)⟩
theorem Inv.next (h : Inv n F M met at_) (ha : at_ ≠ met * n) (hk : 0 ≤ cell M (at_ % n) (at_ / n : Nat)) : Inv n F M met (at_ + 1) :=
  ⟨h.shp, h.n0, h.met1, h.metF, h.cells, fun a hlt => by
    by_cases e : a = at_
    · subst e; exact hk
    · exact h.known a (by omega), h.con, by have := h.le; omega⟩
theorem Con.ext {L : List (List Int)} (hM : ∀ (i : Nat) (f : Int), i < n → 0 ≤ f → 0 ≤ cell M i f → cell L i f = cell M i f) {x : Int} (h : Con n M x) : Con n L x := by
  induction h with
  | zero => exact .zero
  | @step y i hy hi h0 hc ih =>
    have e := hM i y hi h0 hc
    rw [← e]
    exact .step ih hi h0 (by rw [e]; exact hc)
theorem Inv.put {g : Nat} (h : Inv n F M met at_) (ha : at_ ≠ met * n) (hk : ¬ 0 ≤ cell M (at_ % n) (at_ / n : Nat)) (h1 : at_ / n < g) (h2 : g ≤ met) (h3 : g < F) (hg : ¬ 0 ≤ cell M (at_ % n) g) :
    Inv n F (put M (at_ % n) (at_ / n) g) (max met (g + 1)) (at_ + 1) := by
  obtain ⟨hi, hf⟩ := h.pos ha
  have hback : ∀ a, a < at_ → 0 ≤ cell M (a % n) (a / n : Nat) := h.known
  have hself : ∀ a, a = at_ → a % n = at_ % n ∧ a / n = at_ / n := fun a e => by subst e; exact ⟨rfl, rfl⟩
  generalize at_ / n = q at *
  generalize at_ % n = r at *
  have hfF : q < F := by have := h.metF; omega
  have hc : ∀ (k : Nat) (x : Int), 0 ≤ x → cell (Vc.put M r q g) k x = if r = k ∧ (g : Int) = x then ((q : Nat) : Int) else if r = k ∧ ((q : Nat) : Int) = x then (g : Int) else cell M k x := fun k x hx => cell_put h.shp hi hfF h3 hx
  have ext : ∀ (k : Nat) (x : Int), k < n → 0 ≤ x → 0 ≤ cell M k x → cell (Vc.put M r q g) k x = cell M k x := fun k x _ hx hcx => by
    rw [hc k x hx]
    split
    · rename_i e; obtain ⟨rfl, rfl⟩ := e; omega
    · split
      · rename_i e; obtain ⟨rfl, rfl⟩ := e; omega
      · rfl
  refine ⟨h.shp.put hi _ _, h.n0, by have := h.met1; omega, by have := h.metF; omega, fun k x hk hx hxF => ?_, fun a hlt => ?_, fun x hx => ?_, ?_⟩
  · rw [hc k x hx]
    split
    · rename_i e
      obtain ⟨rfl, rfl⟩ := e
      refine .inr ⟨by omega, by omega, by omega, ?_, by omega⟩
      rw [hc _ _ (by omega), if_neg (by omega), if_pos ⟨rfl, rfl⟩]
    · rename_i e1
      split
      · rename_i e
        obtain ⟨rfl, rfl⟩ := e
        refine .inr ⟨by omega, by omega, by omega, ?_, by omega⟩
        rw [hc _ _ (by omega), if_pos ⟨rfl, rfl⟩]
      · rename_i e2
        rcases h.cells k x hk hx hxF with h4 | ⟨h4, h5, h6, h7, h8⟩
        · exact .inl h4
        · refine .inr ⟨h4, by omega, by omega, ?_, h8⟩
          rw [ext k _ hk h4 (by rw [h7]; exact hx), h7]
  · by_cases e : a = at_
    · rw [(hself a e).1, (hself a e).2, hc _ _ (by omega)]
      split
      · omega
      · rw [if_pos ⟨rfl, rfl⟩]; omega
    · have := hback a (by omega)
      rw [ext _ _ (Nat.mod_lt _ h.n0) (Int.natCast_nonneg _) this]; exact this
  · by_cases hlt : x < met
    · exact (h.con x hlt).ext (fun k y hk h0 hcy => ext k y hk h0 hcy)
    · have hxg : x = g := by omega
      subst hxg
      have h0 := (h.con _ hf).ext (L := Vc.put M r q x) (fun k y hk h0 hcy => ext k y hk h0 hcy)
      have e : cell (Vc.put M r q x) r ((q : Nat) : Int) = (x : Int) := by rw [hc _ _ (by omega), if_neg (by omega), if_pos ⟨rfl, rfl⟩]
      have := Con.step h0 hi (by omega) (by rw [e]; omega)
      rw [e] at this; exact this
  · have := h.le
    have h5 : met * n ≤ (max met (g + 1)) * n := Nat.mul_le_mul_right n (by omega)
    omega

/-- the tree: 'ok' cuts, 'fin' judges the whole -/
def grow (n F : Nat) (ok : List (List Int) → Nat → Nat → Bool) (fin : List (List Int) → Bool) : Nat → Nat → Nat → List (List Int) → List (List (List Int))
  | 0, _, _, _ => []
  | k + 1, at_, met, M =>
    if at_ = met * n then (if met = F ∧ fin M = true then [M] else [])
    else if 0 ≤ cell M (at_ % n) (at_ / n : Nat) then grow n F ok fin k (at_ + 1) met M
    else (List.range' (at_ / n + 1) (min met (F - 1) - at_ / n)).flatMap fun g =>
      if 0 ≤ cell M (at_ % n) (g : Nat) then [] else if ok (put M (at_ % n) (at_ / n) g) (at_ % n) (at_ / n) = true then grow n F ok fin k (at_ + 1) (max met (g + 1)) (put M (at_ % n) (at_ / n) g) else []

theorem range_mem (h : Inv n F M met at_) (ha : at_ ≠ met * n) {g : Nat} (hg : g ∈ List.range' (at_ / n + 1) (min met (F - 1) - at_ / n)) : at_ / n < g ∧ g ≤ met ∧ g < F := by
  rw [List.mem_range'_1] at hg
  have := (h.pos ha).2
  have := h.met1
  have := h.metF
  omega
end

theorem grow_leaf {n F : Nat} {ok : List (List Int) → Nat → Nat → Bool} {fin : List (List Int) → Bool} : ∀ (k at_ met : Nat) (M : List (List Int)), Inv n F M met at_ → ∀ L ∈ grow n F ok fin k at_ met M, Ext n F M L ∧ Inv n F L F (F * n)
  | 0, _, _, _, _, L, hL => by simp [grow] at hL
  | k + 1, at_, met, M, h, L, hL => by
    simp only [grow] at hL
    split at hL
    · rename_i ha
      split at hL
      · rename_i hm
        simp at hL; subst hL
        refine ⟨Ext.refl _ _ _, ?_⟩
        have h1 := hm.1
        subst h1
        rw [← ha]; exact h
      · simp at hL
    · rename_i ha
      split at hL
      · rename_i hk
        exact grow_leaf k _ _ _ (h.next ha hk) L hL
      · rename_i hk
        rw [List.mem_flatMap] at hL
        obtain ⟨g, hg, hL⟩ := hL
        have hr := range_mem h ha hg
        split at hL
        · simp at hL
        · rename_i hgc
          split at hL
          · have h1 := h.put ha hk hr.1 hr.2.1 hr.2.2 hgc
            have hp := h.pos ha
            have h2 := grow_leaf k _ _ _ h1 L hL
            exact ⟨(Ext.put h.shp hp.1 (by have := h.metF; omega) hr.2.2 (by omega) (by omega)).trans h2.1, h2.2⟩
          · simp at hL

theorem filter_flatMap' {α β : Type} (p : β → Bool) (f : α → List β) : ∀ (l : List α), (l.flatMap f).filter p = l.flatMap fun a => (f a).filter p
  | [] => rfl
  | a :: l => by simp [List.filter_append, filter_flatMap' p f l]

/-! what is asked of partial moves -/
def kn (M : List (List Int)) (i : Nat) (x : Int) : Int := if x < 0 then -1 else cell M i x
/-- at one flag, all pairs of moves that commute -/
def FitsP (M : List (List Int)) (i k : Nat) (f : Int) : Prop := (0 ≤ cell M i f → cell M i f ≠ cell M k f) ∧ (0 ≤ kn M k (cell M i f) → 0 ≤ kn M i (cell M k f) → kn M k (cell M i f) = kn M i (cell M k f))
instance (M : List (List Int)) (i k : Nat) (f : Int) : Decidable (FitsP M i k f) := by unfold FitsP; exact inferInstance
def FitsAll (M : List (List Int)) (f : Int) : Prop := ∀ i, i < M.length → ∀ k, k < M.length → i + 2 ≤ k → FitsP M i k f
instance (M : List (List Int)) (f : Int) : Decidable (FitsAll M f) := by unfold FitsAll; exact inferInstance
def okS (F : Nat) (M : List (List Int)) (_ _ : Nat) : Bool := decide (∀ e, e < F → FitsAll M (e : Nat))
/-- at one place, the moves that commute with one -/
def BadP (M : List (List Int)) (i k : Nat) (f g : Int) : Prop := cell M k f = g ∨ (0 ≤ cell M k f ∧ 0 ≤ cell M k g ∧ 0 ≤ cell M i (cell M k f) ∧ cell M i (cell M k f) ≠ cell M k g) ∨ (0 ≤ cell M k f ∧ 0 ≤ cell M k g ∧ 0 ≤ cell M i (cell M k g) ∧ cell M i (cell M k g) ≠ cell M k f)
instance (M : List (List Int)) (i k : Nat) (f g : Int) : Decidable (BadP M i k f g) := by unfold BadP; exact inferInstance
def okI (M : List (List Int)) (i f : Nat) : Bool := decide (∀ k, k < M.length → ¬ (-1 ≤ (k : Int) - i ∧ (k : Int) - i ≤ 1) → ¬ BadP M i k f (cell M i f))
end Go.Proofs.YtdedegbendjmbaaGreatDoor.Vc
/-
  Plain mathematics of rooted forms: both ways of cutting the tree keep the maniplexes, in the same order. Conditions: as each states them. No program in sight.
-/
namespace Go.Proofs.YtdedegbendjmbaaGreatDoor.Vc

section
variable {n F : Nat} {L M : List (List Int)}
theorem Inv.full (h : Inv n F L F (F * n)) {i : Nat} {f : Int} (hi : i < n) (h0 : 0 ≤ f) (hf : f < F) : 0 ≤ cell L i f := by
  obtain ⟨q, rfl⟩ : ∃ q : Nat, f = q := ⟨f.toNat, by omega⟩
  have h1 : q * n + i < F * n := by
    have : (q + 1) * n ≤ F * n := Nat.mul_le_mul_right n (by omega)
    rw [Nat.succ_mul] at this
    omega
  have h2 := h.known (q * n + i) h1
  rw [Nat.add_comm, Nat.add_mul_mod_self_right, Nat.mod_eq_of_lt hi, Nat.add_mul_div_right _ _ h.n0, Nat.div_eq_of_lt hi, Nat.zero_add] at h2
  exact h2
/-- a maniplex, told by cells -/
theorem Mani.cells (hL : Inv n F L F (F * n)) (h : Mani L) {i k : Nat} (hi : i < n) (hk : k < n) (hik : i + 2 ≤ k) {f : Int} (h0 : 0 ≤ f) (hf : f < F) : cell L k (cell L i f) = cell L i (cell L k f) ∧ cell L i f ≠ cell L k f := by
  have hl0 : (gl L 0).length = F := hL.shp.row hL.n0
  have hlen := hL.shp.1
  have h1 := h.2.2.2.1 i (by omega) k (by omega) hik f.toNat (by omega)
  unfold Comm at h1
  rw [Int.toNat_of_nonneg h0] at h1
  exact h1
/-- all rooted forms that go on from here, in order -/
def forms (n F : Nat) (k at_ met : Nat) (M : List (List Int)) : List (List (List Int)) := (grow n F (fun _ _ _ => true) (fun _ => true) k at_ met M).filter fun L => decide (Mani L)

/-- nothing known -/
def blank (n F : Nat) : List (List Int) := List.replicate n (List.replicate F (-1))
end
end Go.Proofs.YtdedegbendjmbaaGreatDoor.Vc
/-
  Forms of maniplexes, their order, and rooted forms, without a program. Conditions: as each states them.
-/
namespace Go.Proofs.YtdedegbendjmbaaGreatDoor.Vc
open Go.RowKit

/-! scattered writes -/
def scat (init : List Int) (ix v : Nat → Int) : Nat → List Int
  | 0 => init
  | k + 1 => (scat init ix v k).set (ix k).toNat (v k)
theorem scat_len (init : List Int) (ix v : Nat → Int) : ∀ k, (scat init ix v k).length = init.length
  | 0 => rfl
  | k + 1 => by simp [scat, scat_len init ix v k]
def seqI (m : Nat) : List Int := (List.range m).map fun (k : Nat) => (k : Int)
theorem seqI_len (m : Nat) : (seqI m).length = m := by simp [seqI]
theorem seqI_get {m k : Nat} (h : k < m) : gi (seqI m) (k : Int) = k := by rw [gi_mem (by rw [seqI_len]; exact h)]; simp [seqI]
theorem seqI_mem {m : Nat} {x : Int} : x ∈ seqI m ↔ 0 ≤ x ∧ x < m := by
  simp only [seqI, List.mem_map, List.mem_range]
  exact ⟨fun ⟨k, hk, e⟩ => by omega, fun h => ⟨x.toNat, by omega, by omega⟩⟩
theorem seqI_succ (m : Nat) : seqI (m + 1) = seqI m ++ [(m : Int)] := by simp [seqI, List.range_succ]
/-! the inverse, and a system renumbered -/
def backI (N : Nat) (o : List Int) : List Int := scat (List.replicate N 0) (fun k => gi o k) (fun k => (k : Int)) o.length
/-- each of the N places once -/
structure Prm (N : Nat) (o : List Int) : Prop where
  len : o.length = N
  nodup : o.Nodup
  range : ∀ x ∈ o, 0 ≤ x ∧ x < (N : Int)
section
variable {N : Nat} {o : List Int}
end
/-- a move in new numbers: read along the order of the flags -/
def rowF (o b mv : List Int) : List Int := o.map fun x => gi b (gi mv x)
/-- .. and written place by place -/
def renI (N : Nat) (p mv : List Int) : List Int := scat (List.replicate N 0) (fun f => gi p f) (fun f => gi p (gi mv f)) N
/-- the form of a system from a flag -/
def formL (N : Nat) (xss : List (List Int)) (f : Int) : List (List Int) := xss.map fun mv => rowF (orbit N xss f) (backI N (orbit N xss f)) mv
theorem formL_len (N : Nat) (xss : List (List Int)) (f : Int) : (formL N xss f).length = xss.length := by simp [formL]

/-! lexicographic order -/
def cmpI (a b : Int) : Int := if a < b then -1 else if b < a then 1 else 0
def lexC : List Int → List Int → Int
  | [], [] => 0
  | [], _ :: _ => -1
  | _ :: _, [] => 1
  | a :: l, b :: r => if cmpI a b = 0 then lexC l r else cmpI a b
def lexCC : List (List Int) → List (List Int) → Int
  | [], [] => 0
  | [], _ :: _ => -1
  | _ :: _, [] => 1
  | a :: l, b :: r => if lexC a b = 0 then lexCC l r else lexC a b
theorem cmpI_zero {a b : Int} : cmpI a b = 0 ↔ a = b := by unfold cmpI; by_cases h : a < b <;> by_cases h' : b < a <;> simp [h, h'] <;> omega
theorem cmpI_neg {a b : Int} : cmpI a b < 0 ↔ a < b := by unfold cmpI; by_cases h : a < b <;> by_cases h' : b < a <;> simp [h, h'] <;> omega
theorem cmpI_swap (a b : Int) : cmpI b a = - cmpI a b := by unfold cmpI; split <;> split <;> omega
theorem lexC_zero : ∀ {a b : List Int}, lexC a b = 0 ↔ a = b
  | [], [] => by simp [lexC]
  | [], _ :: _ => by simp [lexC]
  | _ :: _, [] => by simp [lexC]
  | a :: l, b :: r => by
    simp only [lexC]
    split
    · rename_i h
      rw [lexC_zero, cmpI_zero.1 h]
      simp
    · rename_i h
      constructor
      · intro h'; exact absurd h' h
      · intro h'; exact absurd (cmpI_zero.2 (List.cons.inj h').1) h
theorem lexCC_zero : ∀ {a b : List (List Int)}, lexCC a b = 0 ↔ a = b
  | [], [] => by simp [lexCC]
  | [], _ :: _ => by simp [lexCC]
  | _ :: _, [] => by simp [lexCC]
  | a :: l, b :: r => by
    simp only [lexCC]
    split
    · rename_i h
      rw [lexCC_zero, lexC_zero.1 h]
      simp
    · rename_i h
      constructor
      · intro h'; exact absurd h' h
      · intro h'; exact absurd (lexC_zero.2 (List.cons.inj h').1) h
theorem lexC_swap : ∀ (a b : List Int), lexC b a = - lexC a b
  | [], [] => rfl
  | [], _ :: _ => rfl
  | _ :: _, [] => rfl
  | a :: l, b :: r => by
    simp only [lexC]
    rw [cmpI_swap a b, lexC_swap l r]
    by_cases h : cmpI a b = 0
    · rw [if_pos h, if_pos (by omega)]
    · rw [if_neg h, if_neg (by omega)]
theorem lexCC_swap : ∀ (a b : List (List Int)), lexCC b a = - lexCC a b
  | [], [] => rfl
  | [], _ :: _ => rfl
  | _ :: _, [] => rfl
  | a :: l, b :: r => by
    simp only [lexCC]
    rw [lexC_swap a b, lexCC_swap l r]
    by_cases h : lexC a b = 0
    · rw [if_pos h, if_pos (by omega)]
    · rw [if_neg h, if_neg (by omega)]
theorem lexC_trans : ∀ {a b c : List Int}, lexC a b < 0 → lexC b c < 0 → lexC a c < 0
  | [], [], _, h, _ => by simp [lexC] at h
  | [], _ :: _, [], _, h => by simp [lexC] at h
  | [], _ :: _, _ :: _, _, _ => by simp [lexC]
  | _ :: _, [], _, h, _ => by simp [lexC] at h
  | _ :: _, _ :: _, [], _, h => by simp [lexC] at h
  | a :: l, b :: r, c :: s, h, h' => by
    simp only [lexC] at h h' ⊢
    by_cases e1 : cmpI a b = 0
    · have := cmpI_zero.1 e1
      subst this
      rw [if_pos e1] at h
      by_cases e2 : cmpI a c = 0
      · rw [if_pos e2] at h' ⊢
        exact lexC_trans h h'
      · rw [if_neg e2] at h' ⊢
        exact h'
    · rw [if_neg e1] at h
      have hab := cmpI_neg.1 h
      by_cases e2 : cmpI b c = 0
      · have := cmpI_zero.1 e2
        subst this
        rw [if_neg e1]
        exact h
      · rw [if_neg e2] at h'
        have hbc := cmpI_neg.1 h'
        have hac : cmpI a c < 0 := cmpI_neg.2 (by omega)
        rw [if_neg (by omega)]
        exact hac
theorem lexCC_trans : ∀ {a b c : List (List Int)}, lexCC a b < 0 → lexCC b c < 0 → lexCC a c < 0
  | [], [], _, h, _ => by simp [lexCC] at h
  | [], _ :: _, [], _, h => by simp [lexCC] at h
  | [], _ :: _, _ :: _, _, _ => by simp [lexCC]
  | _ :: _, [], _, h, _ => by simp [lexCC] at h
  | _ :: _, _ :: _, [], _, h => by simp [lexCC] at h
  | a :: l, b :: r, c :: s, h, h' => by
    simp only [lexCC] at h h' ⊢
    by_cases e1 : lexC a b = 0
    · have := lexC_zero.1 e1
      subst this
      rw [if_pos e1] at h
      by_cases e2 : lexC a c = 0
      · rw [if_pos e2] at h' ⊢
        exact lexCC_trans h h'
      · rw [if_neg e2] at h' ⊢
        exact h'
    · rw [if_neg e1] at h
      by_cases e2 : lexC b c = 0
      · have := lexC_zero.1 e2
        subst this
        rw [if_neg e1]
        exact h
      · rw [if_neg e2] at h'
        have hac : lexC a c < 0 := lexC_trans h h'
        rw [if_neg (by omega)]
        exact hac

/-! the least form -/
def leastTo (N : Nat) (xss : List (List Int)) : Nat → List (List Int)
  | 0 => formL N xss 0
  | k + 1 => if lexCC (formL N xss k) (leastTo N xss k) < 0 then formL N xss k else leastTo N xss k
def leastL (N : Nat) (xss : List (List Int)) : List (List Int) := leastTo N xss N
/-! rooted forms are their own forms from the flag 0 -/
section
variable {n F : Nat}
/-- how many flags are numbered ahead of a place -/
def mtL (L : List (List Int)) (n : Nat) : Nat → Nat
  | 0 => 1
  | a + 1 => max (mtL L n a) ((cell L (a % n) (a / n : Nat)).toNat + 1)
def RG (L : List (List Int)) (n a : Nat) : Prop := 0 ≤ cell L (a % n) (a / n : Nat) ∧ cell L (a % n) (a / n : Nat) ≤ mtL L n a ∧ a / n < mtL L n a
theorem push_seq {m : Nat} {v : Int} (h0 : 0 ≤ v) (h1 : v ≤ m) : push1 (seqI m) v = seqI (max m (v.toNat + 1)) := by
  unfold push1
  by_cases h : v < m
  · rw [if_pos (seqI_mem.2 ⟨h0, h⟩), show max m (v.toNat + 1) = m by omega]
  · rw [if_neg (fun hm => h (seqI_mem.1 hm).2), show max m (v.toNat + 1) = m + 1 by omega, seqI_succ, show v = (m : Int) by omega]
theorem expand_seq {L : List (List Int)} {f : Nat} (hl : L.length = n) (hn : 0 < n) (hR : ∀ a, f * n ≤ a → a < (f + 1) * n → RG L n a) : expand L (f : Int) (seqI (mtL L n (f * n))) = seqI (mtL L n ((f + 1) * n)) := by
  have e1 : (f + 1) * n = f * n + n := by rw [Nat.succ_mul]
  have key : ∀ j, j ≤ n → (L.take j).foldl (fun o p => push1 o (gi p f)) (seqI (mtL L n (f * n))) = seqI (mtL L n (f * n + j)) := by
    intro j
    induction j with
    | zero => intro _; rfl
    | succ j ih =>
      intro hj
      have hj' : j < L.length := by omega
      rw [List.take_succ_eq_append_getElem hj', List.foldl_append, ih (by omega)]
      have ha1 : (f * n + j) % n = j := by rw [Nat.mul_comm, Nat.mul_add_mod]; exact Nat.mod_eq_of_lt (by omega)
      have ha2 : (f * n + j) / n = f := by rw [Nat.mul_comm, Nat.mul_add_div hn]; rw [Nat.div_eq_of_lt (by omega)]; omega
      have hr := hR (f * n + j) (by omega) (by omega)
      unfold RG at hr
      rw [ha1, ha2] at hr
      have hc : cell L j (f : Int) = gi (L[j]) f := by
        unfold cell
        rw [show gl L (j : Int) = L[j] by simp [gl, List.getD_eq_getElem?_getD, List.getElem?_eq_getElem hj']]
      show push1 _ (gi L[j] f) = seqI (max (mtL L n (f * n + j)) ((cell L ((f * n + j) % n) ((f * n + j) / n : Nat)).toNat + 1))
      rw [ha1, ha2, ← hc]
      exact push_seq hr.1 hr.2.1
  have := key n (Nat.le_refl _)
  rw [List.take_of_length_le (by omega)] at this
  rw [e1]
  exact this
end
end Go.Proofs.YtdedegbendjmbaaGreatDoor.Vc
