/-
  The texts F1, F2, F3, Iso, Cmp, Cyc, C1, C2 in one. Conditions: as each part states them.
-/
import Derived.Test.YtgobjpcankaicaaZc
import Derived.Test.YtgobjpcankaicaaZd
import Derived.Test.YtgobjpcankaicaaZb
import Derived.Test.YtgobjpcankaicaaZa
/-
  The walks of the reference's forms. Conditions: as each states them.
-/
namespace Go.Proofs.Ytgobjpcankaicaa.Vc
open Go.RowKit

section
variable {P : Program} {N : Nat} {ops : Array Oper} {K : Env → World → Prop} {rest : List Oper} {e : Env} {w : World} {d : Nat} {ty : TypeId} {pos : String} {af : Array Edge}
theorem Ops.bld0 {t : TypeId} {f0 : Field} {z0 zf : Value} {b bf : Nat} [Und P t (.struct #[f0])] [Inf P t (.agg #[z0]) 1 b] (hI : Inf P f0.type zf 1 bf) (hb : Nat.blt d N = true)
    (hK : Ops P N ops K rest (upd e d (.agg #[z0])) w) : Ops P N ops K (⟨some d, .build t #[], ty, pos, af, none⟩ :: rest) e w := by
  obtain ⟨inf, hi, hz0, hs, hby⟩ := Inf.get P t
  obtain ⟨inf', hi', hz0', hs', hby'⟩ := hI.get P f0.type
  have ez : (Value.agg #[z0]).cells = #[z0] := rfl
  refine .val (w' := w) ?_ hb hK
  simp [execOp, Instr.build, run_underlying (Und.out (P := P) (t := t)), sizeOf, typeInfo, zeroValue, hi, hz0, hs, hi', hs', ez, Instr.fill]
end

theorem l01Back_c (A : Option Addr) (n c : Nat) (p : List Int) (w : World) (hP : RdI w A n p) (hn : n ≤ 1000000000) (hp : ∀ k : Nat, k < n → 0 ≤ gi p k ∧ gi p k < n) :
    Ret Try.prog 225 [.slice A n c] w (fun v w' => ∃ A', v = .slice A' n n ∧ St w w' [CkI 2 A' n n (backI n p)]) := by
  have hpl := hP.1
  refine Ret.of_cd Try.func225 rfl Try.ntmps225 rfl (post1 rfl) ?_
  refine Cd.seq ?_
  refine Cd.region ?_
  refine Ops.mv_sl rfl rfl rfl ?_
  refine Ops.nil ?_
  refine thenQ_n ?_
  refine Cd.seq ?_
  refine Cd.region ?_
  refine Ops.mv_sl rfl rfl rfl ?_
  refine Ops.len rfl rfl ?_
  -- stop: MAKESLICE 33 t6 t6 -> 7
  refine Ops.mkI n (St.refl w) rfl rfl (by omega) ?_
  intro A1 w1 hS1
  refine Ops.mv_sl rfl rfl rfl ?_
  refine Ops.nil ?_
  refine thenQ_n ?_
  refine Cd.seq ?_
  refine Cd.seq ?_
  refine Cd.region ?_
  refine Ops.mv_int rfl rfl rfl ?_
  refine Ops.nil ?_
  refine thenQ_n ?_
  refine Cd.block ?_
  -- stop: loop
  refine Cd.loop (α := Nat) (fun k => [(0, .slice A n c), (3, .slice A1 n n), (4, .int .i64 (k : Int))]) (fun k w' => St w w' [CkI 2 A1 n n (scat (List.replicate n 0) (fun k => gi p k) (fun k => (k : Int)) k)] ∧ k ≤ n) (fun k => n - k) 0 ⟨rfl, rfl, rfl, trivial⟩ ⟨hS1, Nat.zero_le _⟩ ?_
  rintro k e w2 ⟨hS2, hk⟩
  have hP2 := hS2.oldI hP
  refine Cd.seq ?_
  refine Cd.seq ?_
  refine Cd.region ?_
  refine Ops.mv_int rfl rfl rfl ?_
  refine Ops.mv_sl rfl rfl rfl ?_
  refine Ops.len rfl rfl ?_
  refine Ops.lss rfl rfl rfl ?_
  refine Ops.nil ?_
  refine thenQ_n ?_
  -- stop: cond
  refine Cd.cond_p _ rfl (fun h1 => ?_) (fun h1 => ?_)
  · have hpk := hp k (by omega)
    refine Cd.skip ?_
    refine thenQ_n ?_
    refine Cd.seq ?_
    refine Cd.block ?_
    refine Cd.region ?_
    refine Ops.mv_sl rfl rfl rfl ?_
    refine Ops.mv_sl rfl rfl rfl ?_
    refine Ops.mv_int rfl rfl rfl ?_
    -- stop: INDEXADDR 33 t15 t16 -> 17
    refine Ops.idx hP2.2 rfl rfl rfl (by omega) (by omega) ?_
    refine Ops.ld_int hP2 rfl (by omega) rfl rfl ?_
    refine Ops.mv_int rfl rfl rfl ?_
    -- stop: INDEXADDR 33 t14 t18 -> 20
    refine Ops.idx (hS2.rdI 0 rfl).2 rfl rfl rfl (by omega) (by omega) ?_
    refine Ops.st_int 0 hS2 rfl rfl rfl (by omega) ?_
    intro w3 hS3
    refine Ops.nil ?_
    refine blockQ_n ?_
    refine thenQ_n ?_
    refine Cd.region ?_
    refine Ops.mv_int rfl rfl rfl ?_
    refine Ops.add rfl rfl rfl (by omega) ?_
    refine Ops.mv_int rfl rfl rfl ?_
    refine Ops.nil ?_
    refine thenQ_n ?_
    -- stop: round
    exact ⟨k + 1, by show n - (k + 1) < n - k; omega, ⟨rfl, rfl, rfl, trivial⟩, hS3, by omega⟩
  · refine Cd.exit ?_
    refine thenQ_x ?_
    refine thenQ_x ?_
    refine blockQ_x ?_
    refine thenQ_n ?_
    refine Cd.seq ?_
    refine Cd.region ?_
    refine Ops.mv_sl rfl rfl rfl ?_
    refine Ops.mv_sl rfl rfl rfl ?_
    refine Ops.nil ?_
    refine thenQ_n ?_
    refine Cd.ret ?_
    refine ret1_s rfl ?_
    -- stop: end
    have hkn : k = n := by omega
    subst hkn
    refine ⟨A1, rfl, ?_⟩
    unfold backI
    rw [hpl]
    exact hS2

theorem l02Numbers_c (A : Option Addr) (n c : Nat) (rs : List SlV) (xss : List (List Int)) (N : Nat) (pt : Int) (w : World) (hR : RowsI w A n rs xss) (hn : n ≤ 9223372036854775807) (hs : Sys N xss) (hN : N ≤ 1000000) (h0 : 0 ≤ pt) (h1 : pt < N) (hP : Prm N (orbit N xss pt)) :
    Ret Try.prog 193 [.agg #[.slice A n c], .int .i64 pt] w (fun v w' => ∃ A', v = .slice A' N N ∧ St w w' [CkI 2 A' N N (backI N (orbit N xss pt))]) := by
  refine Ret.of_cd Try.func193 rfl Try.ntmps193 rfl (post1 rfl) ?_
  refine Cd.seq ?_
  refine Cd.region ?_
  -- stop: BOX 24 t0=m -> 2
  refine Ops.box1 (St.refl w) rfl rfl ?_
  intro Ab w1 hS1
  refine Ops.mv_sl rfl rfl rfl ?_
  refine Ops.nil ?_
  refine thenQ_n ?_
  refine Cd.seq ?_
  refine Cd.region ?_
  -- stop: FIELDADDR 24 t2=m 0 -> 6
  refine Ops.fld (hS1.rd 0 rfl) rfl rfl rfl rfl inferInstance ?_
  refine Ops.ldf_s (hS1.rd 0 rfl) rfl rfl rfl rfl rfl ?_
  refine Ops.mv_int rfl rfl rfl ?_
  -- stop: CALL spec.l01Orbit(t7, t8) -> 9
  refine Ops.call (l01Orbit_c A n c rs xss N pt _ (hS1.oldRows hR) hn hs (by omega) h0 h1) rfl rfl rfl ?_
  rintro _ w2 ⟨A2, c2, rfl, hst⟩
  rw [hP.len] at hst ⊢
  have hS2 := hS1.none.call hst
  refine Ops.mv_sl rfl rfl rfl ?_
  refine Ops.nil ?_
  refine thenQ_n ?_
  refine Cd.seq ?_
  refine Cd.region ?_
  refine Ops.mv_sl rfl rfl rfl ?_
  -- stop: CALL spec.l01Back(t10) -> 11
  refine Ops.call (l01Back_c A2 N c2 _ _ (hS2.rdI 0 rfl) (by omega) (fun k hk => hP.rng hk)) rfl rfl rfl ?_
  rintro _ w3 ⟨A3, rfl, hst3⟩
  refine Ops.mv_sl rfl rfl rfl ?_
  refine Ops.nil ?_
  refine thenQ_n ?_
  refine Cd.ret ?_
  refine ret1_s rfl ?_
  -- stop: end
  exact ⟨A3, rfl, (hS2.none).call hst3⟩

theorem l02Renumber_c (A : Option Addr) (n c : Nat) (rs : List SlV) (xss : List (List Int)) (N : Nat) (Ap : Option Addr) (cp : Nat) (p : List Int) (w : World) (hR : RowsI w A n rs xss) (hn : n ≤ 1000000) (hs : Sys N xss) (hN : N ≤ 1000000) (hP : RdI w Ap N p) (hp : ∀ x : Int, 0 ≤ x → x < N → 0 ≤ gi p x ∧ gi p x < N) :
    Ret Try.prog 192 [.agg #[.slice A n c], .slice Ap N cp] w (fun v w' => ∃ A' c' rs', v = .agg #[.slice A' n c'] ∧ rs'.length = n ∧ St w w' (mat 33 2 A' n c' rs' (xss.map (renI N p)))) := by
  have hpl := hP.1
  have hxl := hR.len
  refine Ret.of_cd Try.func192 rfl Try.ntmps192 rfl (postc rfl rfl) ?_
  refine Cd.seq ?_
  refine Cd.region ?_
  -- stop: BOX 24 t0=m -> 2
  refine Ops.box1 (St.refl w) rfl rfl ?_
  intro Ab w1 hS1
  refine Ops.new1 hS1 rfl ?_
  intro Ac w2 hS2
  refine Ops.nil ?_
  refine thenQ_n ?_
  refine Cd.seq ?_
  refine Cd.region ?_
  -- stop: BUILD 24 [] -> 9
  refine Ops.bld0 (by exact inferInstance) rfl ?_
  refine Ops.new1 hS2 rfl ?_
  intro Ad w3 hS3
  refine Ops.st_agg 1 0 hS3 rfl rfl rfl rfl rfl rfl rfl ?_
  intro w4 hS4
  have hS4 : St w w4 (Bx 24 1 Ad [.slice none 0 0] :: Bx 24 1 Ac [.slice none 0 0] :: Bx 24 1 Ab [.slice A n c] :: []) := hS4
  have hS0 : St w w4 (Bx 24 1 Ad [.slice none 0 0] :: Bx 24 1 Ac [.slice none 0 0] :: Bx 24 1 Ab [.slice A n c] :: CkR 33 none 0 0 [] :: []) :=
    (hS4.nil 33).perm (List.perm_append_comm (l₁ := [_]) (l₂ := [_, _, _]))
  refine Ops.nil ?_
  refine thenQ_n ?_
  refine Cd.seq ?_
  refine Cd.seq ?_
  refine Cd.region ?_
  refine Ops.mv_int rfl rfl rfl ?_
  refine Ops.nil ?_
  refine thenQ_n ?_
  refine Cd.block ?_
  -- stop: loop
  refine Cd.loop (α := Nat × Option Addr × Nat × List SlV) (fun s => [(1, .slice Ap N cp), (2, .pointer Ab), (4, .pointer Ac), (5, .pointer Ad), (6, .int .i64 (s.1 : Int))]) (fun s w' => St w w' (Bx 24 1 Ad [.slice s.2.1 s.1 s.2.2.1] :: Bx 24 1 Ac [.slice none 0 0] :: Bx 24 1 Ab [.slice A n c] :: CkR 33 s.2.1 s.1 s.2.2.1 s.2.2.2 :: rowsCk 2 s.2.2.2 ((xss.map (renI N p)).take s.1)) ∧ s.1 ≤ n ∧ s.2.2.2.length = s.1) (fun s => n - s.1) (0, none, 0, []) ⟨rfl, rfl, rfl, rfl, rfl, trivial⟩ ⟨hS0, Nat.zero_le _, rfl⟩ ?_
  rintro ⟨i, A3, c3, rs1⟩ e w5 ⟨hS5, hi, hlen⟩
  dsimp only at hS5 hi hlen ⊢
  refine Cd.seq ?_
  refine Cd.seq ?_
  refine Cd.region ?_
  refine Ops.mv_int rfl rfl rfl ?_
  -- stop: FIELDADDR 24 t2=m 0 -> 11
  refine Ops.fld (hS5.rd 2 rfl) rfl rfl rfl rfl inferInstance ?_
  refine Ops.ldf_s (hS5.rd 2 rfl) rfl rfl rfl rfl rfl ?_
  refine Ops.len rfl rfl ?_
  refine Ops.lss rfl rfl rfl ?_
  refine Ops.nil ?_
  refine thenQ_n ?_
  -- stop: cond
  refine Cd.cond_p _ rfl (fun h1 => ?_) (fun h1 => ?_)
  · have hi' : i < n := by omega
    have hx : i < xss.length := by omega
    refine Cd.skip ?_
    refine thenQ_n ?_
    refine Cd.seq ?_
    refine Cd.block ?_
    refine Cd.seq ?_
    refine Cd.region ?_
    refine Ops.mv_sl rfl rfl rfl ?_
    refine Ops.len rfl rfl ?_
    -- stop: MAKESLICE 33 t18 t18 -> 19
    refine Ops.mkI N hS5 rfl rfl (by omega) ?_
    intro A7 w6 hS6
    refine Ops.mv_sl rfl rfl rfl ?_
    refine Ops.nil ?_
    refine thenQ_n ?_
    refine Cd.seq ?_
    refine Cd.seq ?_
    refine Cd.region ?_
    refine Ops.mv_int rfl rfl rfl ?_
    refine Ops.nil ?_
    refine thenQ_n ?_
    refine Cd.block ?_
    -- stop: loop
    have e2 : gl xss i = xss[i] := by simp [gl, List.getD_eq_getElem?_getD, List.getElem?_eq_getElem hx]
    have hmv := hs (gl xss i) (gl_in (by omega) (by omega))
    refine Cd.loop (α := Nat) (fun k => [(1, .slice Ap N cp), (2, .pointer Ab), (4, .pointer Ac), (5, .pointer Ad), (6, .int .i64 (i : Int)), (7, .slice A7 N N), (8, .int .i64 (k : Int))]) (fun k w' => St w w' (CkI 2 A7 N N (scat (List.replicate N 0) (fun f => gi p f) (fun f => gi p (gi (gl xss i) f)) k) :: Bx 24 1 Ad [.slice A3 i c3] :: Bx 24 1 Ac [.slice none 0 0] :: Bx 24 1 Ab [.slice A n c] :: CkR 33 A3 i c3 rs1 :: rowsCk 2 rs1 ((xss.map (renI N p)).take i)) ∧ k ≤ N) (fun k => N - k) 0 ⟨rfl, rfl, rfl, rfl, rfl, rfl, rfl, trivial⟩ ⟨hS6, Nat.zero_le _⟩ ?_
    rintro k e w7 ⟨hS7, hk⟩
    have hM := hS7.oldRows hR
    have hP7 := hS7.oldI hP
    refine Cd.seq ?_
    refine Cd.seq ?_
    refine Cd.region ?_
    refine Ops.mv_int rfl rfl rfl ?_
    refine Ops.mv_sl rfl rfl rfl ?_
    refine Ops.len rfl rfl ?_
    refine Ops.lss rfl rfl rfl ?_
    refine Ops.nil ?_
    refine thenQ_n ?_
    -- stop: cond
    refine Cd.cond_p _ rfl (fun h2 => ?_) (fun h2 => ?_)
    · have hrow := hM.at_ (i := (i : Int)) (by omega) h1
      have hrn := hM.rowLen (k := (i : Int)) (by omega) h1
      have hv := hmv.2 (k : Int) (by omega) (by omega)
      have hpk := hp (k : Int) (by omega) (by omega)
      have hpv := hp _ hv.1 hv.2
      have hml := hmv.1
      have hB := hS7.rd 3 rfl
      have hO := hS7.rdI 0 rfl
      have hlt : (gi p (k : Int)).toNat < N := by omega
      refine Cd.skip ?_
      refine thenQ_n ?_
      refine Cd.seq ?_
      refine Cd.block ?_
      -- stop: draw
      refine Cd.drawN [17] [.ex (.slice (A7) (N) (N)), .ex (.slice (Ap) (N) (cp)), .ex (.int .i64 ((k : Int))), .ex (.pointer (ptrAt (Ap) ((k : Int)).toNat)), .ex (.int .i64 (gi (p) ((k : Int)))), .ex (.slice (Ap) (N) (cp)), .ex (.pointer (ptrAt (Ab) 0)), .ex (.slice (A) (n) (c)), .ex (.int .i64 ((i : Int))), .ex (.pointer (ptrAt (A) ((i : Int)).toNat)), .ex (.slice ((rg (rs) ((i : Int))).a) ((rg (rs) ((i : Int))).n) ((rg (rs) ((i : Int))).c)), .ex (.int .i64 ((k : Int))), .ex (.pointer (ptrAt ((rg (rs) ((i : Int))).a) ((k : Int)).toNat)), .ex (.int .i64 (gi (gl xss (i : Int)) ((k : Int)))), .ex (.pointer (ptrAt (Ap) (gi (gl xss (i : Int)) ((k : Int))).toNat)), .ex (.int .i64 (gi (p) (gi (gl xss (i : Int)) ((k : Int))))), .ex (.pointer (ptrAt (A7) (gi (p) ((k : Int))).toNat)), .pr (fun _ w' => St w w' (CkI 2 A7 N N (scat (List.replicate N 0) (fun f => gi p f) (fun f => gi p (gi (gl xss i) f)) (k + 1)) :: Bx 24 1 Ad [.slice A3 i c3] :: Bx 24 1 Ac [.slice none 0 0] :: Bx 24 1 Ab [.slice A n c] :: CkR 33 A3 i c3 rs1 :: rowsCk 2 rs1 ((xss.map (renI N p)).take i)))] (by kernel_rfl) (by kernel_rfl) (List.forall_mem_cons.2 ⟨Yd.lasts_ex _, (List.forall_mem_cons.2 ⟨Yd.lasts_ex _, (List.forall_mem_cons.2 ⟨Yd.lasts_ex _, (List.forall_mem_cons.2 ⟨Yd.lasts_ex _, (List.forall_mem_cons.2 ⟨Yd.lasts_ex _, (List.forall_mem_cons.2 ⟨Yd.lasts_ex _, (List.forall_mem_cons.2 ⟨Yd.lasts_ex _, (List.forall_mem_cons.2 ⟨Yd.lasts_ex _, (List.forall_mem_cons.2 ⟨Yd.lasts_ex _, (List.forall_mem_cons.2 ⟨Yd.lasts_ex _, (List.forall_mem_cons.2 ⟨Yd.lasts_ex _, (List.forall_mem_cons.2 ⟨Yd.lasts_ex _, (List.forall_mem_cons.2 ⟨Yd.lasts_ex _, (List.forall_mem_cons.2 ⟨Yd.lasts_ex _, (List.forall_mem_cons.2 ⟨Yd.lasts_ex _, (List.forall_mem_cons.2 ⟨Yd.lasts_ex _, (List.forall_mem_cons.2 ⟨Yd.lasts_ex _, (List.forall_mem_cons.2 ⟨Yd.lasts_pr (fun v w w' h hb => h.later hb), (fun _ h => by cases h)⟩)⟩)⟩)⟩)⟩)⟩)⟩)⟩)⟩)⟩)⟩)⟩)⟩)⟩)⟩)⟩)⟩)⟩) ⟨?_, ?_, ?_, ?_, ?_, ?_, ?_, ?_, ?_, ?_, ?_, ?_, ?_, ?_, ?_, ?_, ?_, ?_, trivial⟩ ?_
      · intro e1 w1 cc hlo hhi hb0 hp hun hq
        show Ops _ _ _ _ _ _ _
        refine Ops.mv_sl rfl rfl rfl ?_
        refine Ops.nil ?_
        exact AfterN.dn rfl (Below.refl _ _) (by exact rfl)
      · intro e1 w1 cc hlo hhi hb0 hp hun hq
        show Ops _ _ _ _ _ _ _
        refine Ops.mv_sl rfl rfl rfl ?_
        refine Ops.nil ?_
        exact AfterN.dn rfl (Below.refl _ _) (by exact rfl)
      · intro e1 w1 cc hlo hhi hb0 hp hun hq
        show Ops _ _ _ _ _ _ _
        refine Ops.mv_int rfl rfl rfl ?_
        refine Ops.nil ?_
        exact AfterN.dn rfl (Below.refl _ _) (by exact rfl)
      · intro e1 w1 cc hlo hhi hb0 hp hun hq
        show Ops _ _ _ _ _ _ _
        replace hlo := le_of_lo hlo (b := 0) (by kernel_rfl)
        replace hhi := le_of_hi hhi (b := 0) (by kernel_rfl)
        obtain rfl : cc = 0 := by omega
        have hb := hb0 rfl
        refine Ops.idx (hP7.later hb).2 rfl rfl rfl (by omega) (by omega) ?_
        refine Ops.nil ?_
        exact AfterN.dn rfl (Below.refl _ _) (by exact rfl)
      · intro e1 w1 cc hlo hhi hb0 hp hun hq
        show Ops _ _ _ _ _ _ _
        replace hlo := le_of_lo hlo (b := 0) (by kernel_rfl)
        replace hhi := le_of_hi hhi (b := 0) (by kernel_rfl)
        obtain rfl : cc = 0 := by omega
        have hb := hb0 rfl
        refine Ops.ld_int (hP7.later hb) rfl (by omega) rfl rfl ?_
        refine Ops.nil ?_
        exact AfterN.dn rfl (Below.refl _ _) (by exact rfl)
      · intro e1 w1 cc hlo hhi hb0 hp hun hq
        show Ops _ _ _ _ _ _ _
        refine Ops.mv_sl rfl rfl rfl ?_
        refine Ops.nil ?_
        exact AfterN.dn rfl (Below.refl _ _) (by exact rfl)
      · intro e1 w1 cc hlo hhi hb0 hp hun hq
        show Ops _ _ _ _ _ _ _
        replace hlo := le_of_lo hlo (b := 0) (by kernel_rfl)
        replace hhi := le_of_hi hhi (b := 0) (by kernel_rfl)
        obtain rfl : cc = 0 := by omega
        have hb := hb0 rfl
        refine Ops.fld (hB.below hb) rfl rfl rfl rfl inferInstance ?_
        refine Ops.nil ?_
        exact AfterN.dn rfl (Below.refl _ _) (by exact rfl)
      · intro e1 w1 cc hlo hhi hb0 hp hun hq
        show Ops _ _ _ _ _ _ _
        replace hlo := le_of_lo hlo (b := 0) (by kernel_rfl)
        replace hhi := le_of_hi hhi (b := 0) (by kernel_rfl)
        obtain rfl : cc = 0 := by omega
        have hb := hb0 rfl
        refine Ops.ldf_s (hB.below hb) rfl rfl rfl rfl rfl ?_
        refine Ops.nil ?_
        exact AfterN.dn rfl (Below.refl _ _) (by exact rfl)
      · intro e1 w1 cc hlo hhi hb0 hp hun hq
        show Ops _ _ _ _ _ _ _
        refine Ops.mv_int rfl rfl rfl ?_
        refine Ops.nil ?_
        exact AfterN.dn rfl (Below.refl _ _) (by exact rfl)
      · intro e1 w1 cc hlo hhi hb0 hp hun hq
        show Ops _ _ _ _ _ _ _
        replace hlo := le_of_lo hlo (b := 0) (by kernel_rfl)
        replace hhi := le_of_hi hhi (b := 0) (by kernel_rfl)
        obtain rfl : cc = 0 := by omega
        have hb := hb0 rfl
        refine Ops.idx (hM.top.later hb).2 rfl rfl rfl (by omega) (by omega) ?_
        refine Ops.nil ?_
        exact AfterN.dn rfl (Below.refl _ _) (by exact rfl)
      · intro e1 w1 cc hlo hhi hb0 hp hun hq
        show Ops _ _ _ _ _ _ _
        replace hlo := le_of_lo hlo (b := 0) (by kernel_rfl)
        replace hhi := le_of_hi hhi (b := 0) (by kernel_rfl)
        obtain rfl : cc = 0 := by omega
        have hb := hb0 rfl
        refine Ops.ld_sl (hM.top.later hb) rfl (by omega) rfl rfl ?_
        refine Ops.nil ?_
        exact AfterN.dn rfl (Below.refl _ _) (by exact rfl)
      · intro e1 w1 cc hlo hhi hb0 hp hun hq
        show Ops _ _ _ _ _ _ _
        refine Ops.mv_int rfl rfl rfl ?_
        refine Ops.nil ?_
        exact AfterN.dn rfl (Below.refl _ _) (by exact rfl)
      · intro e1 w1 cc hlo hhi hb0 hp hun hq
        show Ops _ _ _ _ _ _ _
        replace hlo := le_of_lo hlo (b := 0) (by kernel_rfl)
        replace hhi := le_of_hi hhi (b := 0) (by kernel_rfl)
        obtain rfl : cc = 0 := by omega
        have hb := hb0 rfl
        refine Ops.idx (hrow.later hb).2 rfl rfl rfl (by omega) (by omega) ?_
        refine Ops.nil ?_
        exact AfterN.dn rfl (Below.refl _ _) (by exact rfl)
      · intro e1 w1 cc hlo hhi hb0 hp hun hq
        show Ops _ _ _ _ _ _ _
        replace hlo := le_of_lo hlo (b := 0) (by kernel_rfl)
        replace hhi := le_of_hi hhi (b := 0) (by kernel_rfl)
        obtain rfl : cc = 0 := by omega
        have hb := hb0 rfl
        refine Ops.ld_int (hrow.later hb) rfl (by omega) rfl rfl ?_
        refine Ops.nil ?_
        exact AfterN.dn rfl (Below.refl _ _) (by exact rfl)
      · intro e1 w1 cc hlo hhi hb0 hp hun hq
        show Ops _ _ _ _ _ _ _
        replace hlo := le_of_lo hlo (b := 0) (by kernel_rfl)
        replace hhi := le_of_hi hhi (b := 0) (by kernel_rfl)
        obtain rfl : cc = 0 := by omega
        have hb := hb0 rfl
        refine Ops.idx (hP7.later hb).2 rfl rfl rfl (by omega) (by omega) ?_
        refine Ops.nil ?_
        exact AfterN.dn rfl (Below.refl _ _) (by exact rfl)
      · intro e1 w1 cc hlo hhi hb0 hp hun hq
        show Ops _ _ _ _ _ _ _
        replace hlo := le_of_lo hlo (b := 0) (by kernel_rfl)
        replace hhi := le_of_hi hhi (b := 0) (by kernel_rfl)
        obtain rfl : cc = 0 := by omega
        have hb := hb0 rfl
        refine Ops.ld_int (hP7.later hb) rfl (by omega) rfl rfl ?_
        refine Ops.nil ?_
        exact AfterN.dn rfl (Below.refl _ _) (by exact rfl)
      · intro e1 w1 cc hlo hhi hb0 hp hun hq
        show Ops _ _ _ _ _ _ _
        replace hlo := le_of_lo hlo (b := 0) (by kernel_rfl)
        replace hhi := le_of_hi hhi (b := 0) (by kernel_rfl)
        obtain rfl : cc = 0 := by omega
        have hb := hb0 rfl
        refine Ops.idx (hO.later hb).2 rfl rfl rfl (by omega) (by omega) ?_
        refine Ops.nil ?_
        exact AfterN.dn rfl (Below.refl _ _) (by exact rfl)
      · intro e1 w1 cc hlo hhi hb0 hp hun hq
        show Ops _ _ _ _ _ _ _
        replace hlo := le_of_lo hlo (b := 0) (by kernel_rfl)
        replace hhi := le_of_hi hhi (b := 0) (by kernel_rfl)
        obtain rfl : cc = 0 := by omega
        have hb := hb0 rfl
        refine Ops.st_int 0 (hS7.later hb) rfl rfl rfl hlt ?_
        intro w9 hst
        refine Ops.nil ?_
        exact AfterT.st rfl hst
      intro u w8 _ hu
      have hS8 := hu 17 _ rfl (by kernel_rfl)
      refine blockQ_n ?_
      refine thenQ_n ?_
      refine Cd.region ?_
      refine Ops.mv_int rfl rfl rfl ?_
      refine Ops.add rfl rfl rfl (by omega) ?_
      refine Ops.mv_int rfl rfl rfl ?_
      refine Ops.nil ?_
      refine thenQ_n ?_
      -- stop: round
      exact ⟨k + 1, by show N - (k + 1) < N - k; omega, ⟨rfl, rfl, rfl, rfl, rfl, rfl, rfl, trivial⟩, hS8, by omega⟩
    · have hkN : k = N := by omega
      subst hkN
      refine Cd.exit ?_
      refine thenQ_x ?_
      refine thenQ_x ?_
      refine blockQ_x ?_
      refine thenQ_n ?_
      refine Cd.region ?_
      -- stop: FIELDADDR 24 t5=out 0 -> 43
      refine Ops.fld (hS7.rd 1 rfl) rfl rfl rfl rfl inferInstance ?_
      refine Ops.ldf_s (hS7.rd 1 rfl) rfl rfl rfl rfl rfl ?_
      refine Ops.mv_sl rfl rfl rfl ?_
      -- stop: BUILDSLICE 22 1 [('pair', [0, ('app', 'Go.Operand.tmp', [45])])] -> 46
      refine Ops.bs1R hS7 rfl rfl rfl ?_
      intro A9 w9 hS9
      refine Ops.appR 5 hS9 rfl (hS9.rdR 0 rfl) rfl rfl rfl (by omega) (by omega) rfl ?_
      intro A10 c10 w10 hS10
      have hS10 := hS10.tail
      refine Ops.fld (hS10.rd 1 rfl) rfl rfl rfl rfl inferInstance ?_
      refine Ops.stf 1 hS10 rfl rfl rfl rfl rfl ?_
      intro w11 hS11
      have hS11 : St w w11 (CkI 2 A7 k k (renI k p (gl xss i)) :: Bx 24 1 Ad [.slice A10 (i + 1) c10] :: Bx 24 1 Ac [.slice none 0 0] :: Bx 24 1 Ab [.slice A n c] :: CkR 33 A10 (i + 1) c10 (rs1 ++ [⟨A7, k, k⟩]) :: rowsCk 2 rs1 ((xss.map (renI k p)).take i)) := hS11
      refine Ops.nil ?_
      refine blockQ_n ?_
      refine thenQ_n ?_
      refine Cd.region ?_
      refine Ops.mv_int rfl rfl rfl ?_
      refine Ops.add rfl rfl rfl (by omega) ?_
      refine Ops.mv_int rfl rfl rfl ?_
      refine Ops.nil ?_
      refine thenQ_n ?_
      -- stop: round
      refine ⟨(i + 1, A10, c10, rs1 ++ [⟨A7, k, k⟩]), by show n - (i + 1) < n - i; omega, ⟨rfl, rfl, rfl, rfl, rfl, trivial⟩, ?_, hi', by simp [hlen]⟩
      show St w w11 (_ :: _ :: _ :: CkR _ A10 (i + 1) c10 (rs1 ++ [_]) :: rowsCk _ (rs1 ++ [_]) ((xss.map (renI k p)).take (i + 1)))
      rw [List.take_succ_eq_append_getElem (by rw [List.length_map]; exact hx), rowsCk_append (by simp [hlen]; omega), List.getElem_map, ← e2]
      refine hS11.perm ?_
      exact List.perm_append_comm (l₁ := [_]) (l₂ := _ :: _ :: _ :: _ :: rowsCk 2 rs1 ((xss.map (renI k p)).take i))
  · refine Cd.exit ?_
    refine thenQ_x ?_
    refine thenQ_x ?_
    refine blockQ_x ?_
    refine thenQ_n ?_
    refine Cd.seq ?_
    refine Cd.region ?_
    -- stop: LOAD 24 t5=out -> 49
    have hin : i = n := by omega
    subst hin
    rw [List.take_of_length_le (by rw [List.length_map]; omega)] at hS5
    refine Ops.ld_agg 0 (hS5.rd 0 rfl) rfl rfl rfl ?_
    refine Ops.st_agg 1 1 hS5 rfl rfl rfl rfl rfl rfl rfl ?_
    intro w6 hS6
    refine Ops.nil ?_
    refine thenQ_n ?_
    refine Cd.ret ?_
    skip
    -- stop: end
    refine retc_r rfl (hS6.rd 1 rfl) ?_
    exact ⟨A3, c3, rs1, rfl, hlen, hS6.sub (((List.sublist_cons_self _ _).trans (List.sublist_cons_self _ _)).trans (List.sublist_cons_self _ _))⟩
end Go.Proofs.Ytgobjpcankaicaa.Vc
/-
  The walks of forms on both sides. Conditions: as each states them.
-/
namespace Go.Proofs.Ytgobjpcankaicaa.Vc
open Go.RowKit

theorem Mani.prm {xss : List (List Int)} (hM : Mani xss) {f : Int} (h0 : 0 ≤ f) (hf : f < (gl xss 0).length) : Prm (gl xss 0).length (orbit (gl xss 0).length xss f) := by
  have hs := hM.2.2.1.sys
  have hi := hM.2.2.1.inj
  have h2 := hM.2.1
  obtain ⟨g, _, hm⟩ := orbit_spec hs h0 hf
  have hall := (orbit_all hs (by omega)).1 hM.2.2.2.2
  refine ⟨?_, g.nodup, g.range⟩
  have h1 := sub_len (seqI (gl xss 0).length) (orbit (gl xss 0).length xss f) (by
    unfold seqI
    rw [List.nodup_iff_pairwise_ne, List.pairwise_map]
    exact (List.nodup_iff_pairwise_ne.1 List.nodup_range).imp (fun h e => h (by omega))) (fun z hz => by
    have hz := seqI_mem.1 hz
    exact (hm z).2 ((Reach.symm hs hi (by omega) (by omega) (hall f h0 hf)).trans (hall z hz.1 hz.2)))
  rw [seqI_len] at h1
  have := g.len
  omega

theorem l02Form_c (A : Option Addr) (n c : Nat) (rs : List SlV) (xss : List (List Int)) (N : Nat) (f : Int) (w : World) (hR : RowsI w A n rs xss) (hM : Mani xss) (hN : N = (gl xss 0).length) (h0 : 0 ≤ f) (hf : f < N) :
    Ret Try.prog 154 [.agg #[.slice A n c], .int .i64 f] w (fun v w' => ∃ A' c' rs', v = .agg #[.slice A' n c'] ∧ rs'.length = n ∧ St w w' (mat 33 2 A' n c' rs' (formL N xss f))) := by
  subst hN
  have hP := hM.prm h0 hf
  have hs := hM.2.2.1.sys
  have h5 := hM.1
  have h40 := hM.2.1
  have hxl := hR.len
  have hfr : xss.map (renI (gl xss 0).length (backI (gl xss 0).length (orbit (gl xss 0).length xss f))) = formL (gl xss 0).length xss f := List.map_congr_left (fun mv _ => ren_row hP)
  have hbk : ∀ x : Int, 0 ≤ x → x < ((gl xss 0).length : Int) → 0 ≤ gi (backI (gl xss 0).length (orbit (gl xss 0).length xss f)) x ∧ gi (backI (gl xss 0).length (orbit (gl xss 0).length xss f)) x < ((gl xss 0).length : Int) := fun x h0 h1 => by
    obtain ⟨k, hk, _, hb⟩ := hP.backR h0 h1
    omega
  generalize hNe : (gl xss 0).length = N at *
  refine Ret.of_cd Try.func154 rfl Try.ntmps154 rfl (postc rfl rfl) ?_
  refine Cd.seq ?_
  refine Cd.region ?_
  -- stop: BOX 24 t0=m -> 2
  refine Ops.box1 (St.refl w) rfl rfl ?_
  intro Ab w1 hS1
  refine Ops.new1 hS1 rfl ?_
  intro Ac w2 hS2
  refine Ops.nil ?_
  refine thenQ_n ?_
  refine Cd.seq ?_
  -- stop: draw
  have hB := hS2.rd 1 rfl
  refine Cd.drawN [5] [.ex (.agg #[.slice (A) (n) (c)]), .ex (.agg #[.slice (A) (n) (c)]), .ex (.int .i64 (f)), .pr (fun v w' => ∃ A4, v = .slice A4 N N ∧ St w w' [CkI 2 A4 N N (backI N (orbit N xss f)), Bx 24 1 Ac [.slice none 0 0], Bx 24 1 Ab [.slice A n c]]), .pr (fun v w' => ∃ A4 c4 rs4, v = .agg #[.slice A4 n c4] ∧ rs4.length = n ∧ St w w' (Bx 24 1 Ac [.slice none 0 0] :: Bx 24 1 Ab [.slice A n c] :: mat 33 2 A4 n c4 rs4 (formL N xss f))), .pr (fun _ w' => ∃ A4 c4 rs4, rs4.length = n ∧ St w w' (Bx 24 1 Ac [.slice A4 n c4] :: Bx 24 1 Ab [.slice A n c] :: mat 33 2 A4 n c4 rs4 (formL N xss f)))] (by kernel_rfl) (by kernel_rfl) (List.forall_mem_cons.2 ⟨Yd.lasts_ex _, (List.forall_mem_cons.2 ⟨Yd.lasts_ex _, (List.forall_mem_cons.2 ⟨Yd.lasts_ex _, (List.forall_mem_cons.2 ⟨Yd.lasts_pr (fun v w w' h hb => by obtain ⟨A4, hv, hT⟩ := h; exact ⟨A4, hv, hT.later hb⟩), (List.forall_mem_cons.2 ⟨Yd.lasts_pr (fun v w w' h hb => by obtain ⟨A4, c4, rs4, hv, hl, hT⟩ := h; exact ⟨A4, c4, rs4, hv, hl, hT.later hb⟩), (List.forall_mem_cons.2 ⟨Yd.lasts_pr (fun v w w' h hb => by obtain ⟨A4, c4, rs4, hl, hT⟩ := h; exact ⟨A4, c4, rs4, hl, hT.later hb⟩), (fun _ h => by cases h)⟩)⟩)⟩)⟩)⟩)⟩) ⟨?_, ?_, ?_, ?_, ?_, ?_, trivial⟩ ?_
  · intro e1 w1 cc hlo hhi hb0 hp hun hq
    show Ops _ _ _ _ _ _ _
    replace hlo := le_of_lo hlo (b := 0) (by kernel_rfl)
    replace hhi := le_of_hi hhi (b := 0) (by kernel_rfl)
    obtain rfl : cc = 0 := by omega
    have hb := hb0 rfl
    refine Ops.ld_agg 0 (hB.below hb) rfl rfl rfl ?_
    refine Ops.nil ?_
    exact AfterN.dn rfl (Below.refl _ _) (by exact rfl)
  · intro e1 w1 cc hlo hhi hb0 hp hun hq
    show Ops _ _ _ _ _ _ _
    replace hlo := le_of_lo hlo (b := 0) (by kernel_rfl)
    replace hhi := le_of_hi hhi (b := 0) (by kernel_rfl)
    obtain rfl : cc = 0 := by omega
    have hb := hb0 rfl
    refine Ops.ld_agg 0 (hB.below hb) rfl rfl rfl ?_
    refine Ops.nil ?_
    exact AfterN.dn rfl (Below.refl _ _) (by exact rfl)
  · intro e1 w1 cc hlo hhi hb0 hp hun hq
    show Ops _ _ _ _ _ _ _
    refine Ops.mv_int rfl rfl rfl ?_
    refine Ops.nil ?_
    exact AfterN.dn rfl (Below.refl _ _) (by exact rfl)
  · intro e1 w1 cc hlo hhi hb0 hp hun hq
    show Ops _ _ _ _ _ _ _
    replace hlo := le_of_lo hlo (b := 0) (by kernel_rfl)
    replace hhi := le_of_hi hhi (b := 0) (by kernel_rfl)
    obtain rfl : cc = 0 := by omega
    have hb := hb0 rfl
    refine Ops.call (l02Numbers_c A n c rs xss N f _ ((hS2.later hb).oldRows hR) (by omega) hs (by omega) h0 hf hP) rfl rfl rfl ?_
    rintro _ w9 ⟨A4, rfl, hst⟩
    refine Ops.nil ?_
    exact AfterN.dn rfl hst.below ⟨A4, rfl, (hS2.later hb).call hst⟩
  · intro e1 w1 cc hlo hhi hb0 hp hun hq
    show Ops _ _ _ _ _ _ _
    replace hlo := le_of_lo hlo (b := 0) (by kernel_rfl)
    replace hhi := le_of_hi hhi (b := 0) (by kernel_rfl)
    obtain rfl : cc = 0 := by omega
    have hb := hb0 rfl
    obtain ⟨A4, h8, hT⟩ := (hp 3 _ _ (by kernel_rfl) rfl rfl (by kernel_rfl))
    have hb := hb0 rfl
    refine Ops.call (l02Renumber_c A n c rs xss N A4 N _ _ (hT.oldRows hR) (by omega) hs (by omega) (hT.rdI 0 rfl) hbk) rfl (by exact congrArg (fun v => [Value.agg #[.slice A n c], v]) h8) rfl ?_
    rintro _ w9 ⟨A5, c5, rs5, rfl, hl5, hst⟩
    refine Ops.nil ?_
    exact AfterN.dn rfl hst.below ⟨A5, c5, rs5, rfl, hl5, by rw [hfr] at hst; exact (hT.tail.call hst).perm List.perm_append_comm⟩
  · intro e1 w1 cc hlo hhi hb0 hp hun hq
    show Ops _ _ _ _ _ _ _
    replace hlo := le_of_lo hlo (b := 0) (by kernel_rfl)
    replace hhi := le_of_hi hhi (b := 0) (by kernel_rfl)
    obtain rfl : cc = 0 := by omega
    have hb := hb0 rfl
    obtain ⟨A4, c4, rs4, h9, hl, hT⟩ := (hp 4 _ _ (by kernel_rfl) rfl rfl (by kernel_rfl))
    refine Ops.st_agg 1 0 hT rfl rfl (by exact h9) rfl rfl rfl rfl ?_
    intro w9 hst
    refine Ops.nil ?_
    exact AfterT.st rfl ⟨A4, c4, rs4, hl, hst⟩
  intro u w3 _ hu
  obtain ⟨A4, c4, rs4, hl4, hT⟩ := hu 5 _ rfl (by kernel_rfl)
  refine thenQ_n ?_
  refine Cd.ret ?_
  skip
  -- stop: end
  refine retc_r rfl (hT.rd 0 rfl) ?_
  exact ⟨A4, c4, rs4, rfl, hl4, hT.sub ((List.sublist_cons_self _ _).trans (List.sublist_cons_self _ _))⟩

theorem numberedFrom_c (A : Option Addr) (n c : Nat) (rs : List SlV) (xss : List (List Int)) (N : Nat) (pt : Int) (w : World) (hR : RowsI w A n rs xss) (hn : n ≤ 9223372036854775807) (hn0 : 0 < n) (hs : Sys N xss) (hN : N ≤ 1000000000) (h0 : 0 ≤ pt) (h1 : pt < N) :
    Ret Try.prog 196 [.slice A n c, .int .i64 pt] w (fun v w' => ∃ A' c', v = .slice A' (orbit N xss pt).length c' ∧ St w w' [CkI 2 A' (orbit N xss pt).length c' (orbit N xss pt)]) := by
  have hrl : ∀ k : Int, 0 ≤ k → k < n → (rg rs k).n = N := fun k hk0 hk => by
    rw [← hR.rowLen hk0 hk]
    exact (hs _ (gl_in hk0 (by rw [hR.len]; exact hk))).1
  have hr0 := hrl 0 (by omega) (by omega)
  refine Ret.of_cd Try.func196 rfl Try.ntmps196 rfl (post1 rfl) ?_
  refine Cd.seq ?_
  refine Cd.region ?_
  refine Ops.mv_sl rfl rfl rfl ?_
  refine Ops.nil ?_
  refine thenQ_n ?_
  refine Cd.seq ?_
  refine Cd.region ?_
  refine Ops.mv_sl rfl rfl rfl ?_
  -- stop: INDEXADDR 22 t11 0 -> 12
  refine Ops.idx hR.top.2 rfl rfl rfl (by omega) (by omega) ?_
  refine Ops.ld_sl hR.top rfl (by omega) rfl rfl ?_
  refine Ops.len rfl rfl ?_
  -- stop: MAKESLICE 160 t14 t14 -> 15
  refine Ops.mkB N (St.refl w) (by rw [hr0]; rfl) rfl (by omega) ?_
  intro A5 w1 hS1
  refine Ops.mv_sl rfl rfl rfl ?_
  refine Ops.nil ?_
  refine thenQ_n ?_
  refine Cd.seq ?_
  refine Cd.region ?_
  refine Ops.mv_sl rfl rfl rfl ?_
  refine Ops.mv_int rfl rfl rfl ?_
  -- stop: INDEXADDR 160 t16 t17 -> 18
  refine Ops.idx (hS1.rdB 0 rfl).2 (by rw [hr0]; rfl) rfl rfl (by omega) (by omega) ?_
  refine Ops.st_bool 0 hS1 rfl rfl rfl (by omega) ?_
  intro w2 hS2
  refine Ops.nil ?_
  refine thenQ_n ?_
  refine Cd.seq ?_
  refine Cd.region ?_
  refine Ops.mv_int rfl rfl rfl ?_
  -- stop: BUILDSLICE 33 1 [('pair', [0, ('app', 'Go.Operand.tmp', [19])])] -> 20
  refine Ops.bs1I hS2 rfl rfl rfl ?_
  intro A6 w3 hS3
  refine Ops.mv_sl rfl rfl rfl ?_
  refine Ops.nil ?_
  refine thenQ_n ?_
  refine Cd.seq ?_
  refine Cd.seq ?_
  refine Cd.region ?_
  refine Ops.mv_int rfl rfl rfl ?_
  refine Ops.nil ?_
  refine thenQ_n ?_
  refine Cd.block ?_
  -- stop: loop
  refine Cd.loop (α := Nat × List Int × Option Addr × Nat × List Bool) (fun q => [(0, .slice A n c), (5, .slice A5 N N), (6, .slice q.2.2.1 q.2.1.length q.2.2.2.1), (7, .int .i64 (q.1 : Int))])
    (fun q w' => St w w' [CkI 2 q.2.2.1 q.2.1.length q.2.2.2.1 q.2.1, CkB 4 A5 N N q.2.2.2.2] ∧ q.1 ≤ q.2.1.length ∧ Good N xss pt q.2.1 ∧ Marked N q.2.2.2.2 q.2.1 ∧ bfs xss (N + 1 - q.1) q.1 q.2.1 = orbit N xss pt)
    (fun q => N + 1 - q.1) (0, [pt], A6, 1, (List.replicate N false).set pt.toNat true) ⟨rfl, by rw [hr0]; rfl, rfl, rfl, trivial⟩ ⟨hS3, Nat.zero_le _, good_one h0 h1, Marked.init h0 (by omega), rfl⟩ ?_
  rintro ⟨i, out, Ao, co, S⟩ e2 w5 ⟨hS5, hi, hg, hm, hb⟩
  dsimp only at hS5 hi hg hm hb ⊢
  have hlen := hg.len
  refine Cd.seq ?_
  refine Cd.seq ?_
  refine Cd.region ?_
  refine Ops.mv_int rfl rfl rfl ?_
  refine Ops.mv_sl rfl rfl rfl ?_
  refine Ops.len rfl rfl ?_
  refine Ops.lss rfl rfl rfl ?_
  refine Ops.nil ?_
  refine thenQ_n ?_
  -- stop: cond
  refine Cd.cond_p _ rfl (fun h2 => ?_) (fun h2 => ?_)
  · refine Cd.skip ?_
    refine thenQ_n ?_
    refine Cd.seq ?_
    refine Cd.block ?_
    refine Cd.seq ?_
    refine Cd.region ?_
    refine Ops.mv_sl rfl rfl rfl ?_
    refine Ops.len rfl rfl ?_
    refine Ops.mv_int rfl rfl rfl ?_
    refine Ops.nil ?_
    refine thenQ_n ?_
    refine Cd.block ?_
    -- stop: loop
    refine Cd.loop (α := Nat × List Int × Option Addr × Nat × List Bool) (fun q => [(0, .slice A n c), (5, .slice A5 N N), (6, .slice q.2.2.1 q.2.1.length q.2.2.2.1), (7, .int .i64 (i : Int)), (27, .slice A n c), (28, .int .i64 (n : Int)), (29, .int .i64 (q.1 : Int))])
      (fun q w' => St w w' [CkI 2 q.2.2.1 q.2.1.length q.2.2.2.1 q.2.1, CkB 4 A5 N N q.2.2.2.2] ∧ q.1 ≤ n ∧ Good N xss pt q.2.1 ∧ Marked N q.2.2.2.2 q.2.1 ∧ out <+: q.2.1 ∧ (xss.drop q.1).foldl (fun o p => push1 o (gi p (gi out i))) q.2.1 = expand xss (gi out i) out)
      (fun q => n - q.1) (0, out, Ao, co, S) ⟨rfl, rfl, rfl, rfl, rfl, rfl, rfl, trivial⟩ ⟨hS5, Nat.zero_le _, hg, hm, List.prefix_rfl, rfl⟩ ?_
    rintro ⟨k, out', Ao', co', S'⟩ e3 w6 ⟨hS6, hk, hg', hm', hp', hf⟩
    dsimp only at hS6 hk hg' hm' hp' hf ⊢
    have hlen' := hg'.len
    refine Cd.seq ?_
    refine Cd.region ?_
    refine Ops.lss rfl rfl rfl ?_
    refine Ops.nil ?_
    refine thenQ_n ?_
    refine Cd.seq ?_
    -- stop: cond
    refine Cd.cond_p _ rfl (fun h3 => ?_) (fun h3 => ?_)
    · have hio : i < out'.length := by have := hp'.length_le; omega
      have hgi : gi out' i = gi out i := gi_prefix hp' (by omega)
      have hxi := hg.range _ (gi_in (i := i) (by omega))
      have hmem : gl xss k ∈ xss := gl_in (by omega) (by rw [hR.len]; omega)
      have hy := (hs _ hmem).2 (gi out i) hxi.1 hxi.2
      have hrk := hrl k (by omega) (by omega)
      have hT := (hS6.oldRows hR)
      have hO := hS6.rdI 0 rfl
      have hrow := hT.at_ (i := k) (by omega) (by omega)
      have hfold : (xss.drop (k + 1)).foldl (fun o p => push1 o (gi p (gi out i))) (push1 out' (gi (gl xss k) (gi out i))) = expand xss (gi out i) out := by
        rw [← hf, List.drop_eq_getElem_cons (show k < xss.length by rw [hR.len]; omega), List.foldl_cons, gl_mem (by rw [hR.len]; omega)]
      refine Cd.skip ?_
      refine thenQ_n ?_
      refine Cd.seq ?_
      refine Cd.block ?_
      refine Cd.seq ?_
      refine Cd.region ?_
      -- stop: INDEXADDR 22 t27 t29 -> 31
      refine Ops.idx hT.top.2 rfl rfl rfl (by omega) (by omega) ?_
      refine Ops.ld_sl hT.top rfl (by omega) rfl rfl ?_
      refine Ops.mv_sl rfl rfl rfl ?_
      refine Ops.nil ?_
      refine thenQ_n ?_
      refine Cd.seq ?_
      refine Cd.region ?_
      refine Ops.mv_sl rfl rfl rfl ?_
      refine Ops.mv_sl rfl rfl rfl ?_
      refine Ops.mv_int rfl rfl rfl ?_
      -- stop: INDEXADDR 33 t34 t35 -> 36
      refine Ops.idx hO.2 rfl rfl rfl (by omega) (by omega) ?_
      refine Ops.ld_int hO rfl (by omega) rfl rfl ?_
      rw [hgi]
      refine Ops.idx hrow.2 rfl rfl rfl (by omega) (by omega) ?_
      refine Ops.ld_int hrow rfl (by omega) rfl rfl ?_
      refine Ops.mv_int rfl rfl rfl ?_
      refine Ops.nil ?_
      refine thenQ_n ?_
      refine Cd.seq ?_
      refine Cd.region ?_
      refine Ops.mv_sl rfl rfl rfl ?_
      refine Ops.mv_int rfl rfl rfl ?_
      -- stop: INDEXADDR 160 t40 t41 -> 42
      refine Ops.idx (hS6.rdB 1 rfl).2 rfl rfl rfl (by omega) (by omega) ?_
      refine Ops.ld_bool (hS6.rdB 1 rfl) rfl (by omega) rfl rfl ?_
      first | refine Ops.not_p rfl rfl ?_ | refine Ops.not rfl rfl ?_
      refine Ops.nil ?_
      refine thenQ_n ?_
      -- stop: cond
      refine Cd.cond rfl (fun h4 => ?_) (fun h4 => ?_)
      · have hnin : ¬ gi (gl xss k) (gi out i) ∈ out' := fun hin => by
          have := (hm'.2 _ hy.1 (by omega)).2 hin
          rw [this] at h4; cases h4
        have hpush : push1 out' (gi (gl xss k) (gi out i)) = out' ++ [gi (gl xss k) (gi out i)] := by unfold push1; rw [if_neg hnin]
        have hg7 := hg'.push hs (hp'.subset (gi_in (i := i) (by omega))) hmem
        have hp7 := hp'.trans (push1_prefix out' (gi (gl xss k) (gi out i)))
        rw [hpush] at hfold hg7 hp7
        have hlen7 := hg7.len
        simp only [List.length_append, List.length_singleton] at hlen7
        refine Cd.seq ?_
        refine Cd.region ?_
        refine Ops.mv_sl rfl rfl rfl ?_
        refine Ops.mv_int rfl rfl rfl ?_
        -- stop: INDEXADDR 160 t45 t46 -> 47
        refine Ops.idx (hS6.rdB 1 rfl).2 rfl rfl rfl (by omega) (by omega) ?_
        refine Ops.st_bool 1 hS6 rfl rfl rfl (by omega) ?_
        intro w8 hS8
        refine Ops.nil ?_
        refine thenQ_n ?_
        refine Cd.region ?_
        refine Ops.mv_sl rfl rfl rfl ?_
        refine Ops.mv_int rfl rfl rfl ?_
        -- stop: BUILDSLICE 33 1 [('pair', [0, ('app', 'Go.Operand.tmp', [49])])] -> 50
        refine Ops.bs1I hS8 rfl rfl rfl ?_
        intro A3 w9 hS9
        refine Ops.appI 1 hS9 rfl (hS9.rdI 0 rfl) rfl rfl rfl (by omega) (by omega) rfl ?_
        intro A4 c4 w10 hS10
        refine Ops.mv_sl rfl rfl rfl ?_
        refine Ops.nil ?_
        refine blockQ_n ?_
        refine thenQ_n ?_
        refine Cd.region ?_
        refine Ops.add rfl rfl rfl (by omega) ?_
        refine Ops.mv_int rfl rfl rfl ?_
        refine Ops.nil ?_
        refine thenQ_n ?_
        -- stop: round
        refine ⟨(k + 1, out' ++ [gi (gl xss k) (gi out i)], A4, c4, S'.set (gi (gl xss k) (gi out i)).toNat true), by show n - (k + 1) < n - k; omega, ⟨rfl, rfl, by rw [List.length_append]; rfl, rfl, rfl, rfl, rfl, trivial⟩, ?_, by show k + 1 ≤ n; omega, hg7, hm'.push hy.1 (by omega), hp7, hfold⟩
        have h11 := hS10.tail
        simp only [List.length_append, List.length_singleton]
        exact h11
      · have hin : gi (gl xss k) (gi out i) ∈ out' := (hm'.2 _ hy.1 (by omega)).1 (by simpa using h4)
        have hpush : push1 out' (gi (gl xss k) (gi out i)) = out' := by unfold push1; rw [if_pos hin]
        rw [hpush] at hfold
        refine Cd.skip ?_
        refine blockQ_n ?_
        refine thenQ_n ?_
        refine Cd.region ?_
        refine Ops.add rfl rfl rfl (by omega) ?_
        refine Ops.mv_int rfl rfl rfl ?_
        refine Ops.nil ?_
        refine thenQ_n ?_
        -- stop: round
        exact ⟨(k + 1, out', Ao', co', S'), by show n - (k + 1) < n - k; omega, ⟨rfl, rfl, rfl, rfl, rfl, rfl, rfl, trivial⟩, hS6, by show k + 1 ≤ n; omega, hg', hm', hp', hfold⟩
    · refine Cd.exit ?_
      refine thenQ_x ?_
      refine thenQ_x ?_
      refine blockQ_x ?_
      refine blockQ_n ?_
      refine thenQ_n ?_
      refine Cd.region ?_
      refine Ops.mv_int rfl rfl rfl ?_
      refine Ops.add rfl rfl rfl (by omega) ?_
      refine Ops.mv_int rfl rfl rfl ?_
      refine Ops.nil ?_
      refine thenQ_n ?_
      -- stop: round
      have hkn : k = n := by omega
      rw [hkn, List.drop_of_length_le (by rw [hR.len]; omega)] at hf
      have hf : out' = expand xss (gi out i) out := hf
      refine ⟨(i + 1, out', Ao', co', S'), by show N + 1 - (i + 1) < N + 1 - i; omega, ⟨rfl, rfl, rfl, rfl, trivial⟩, hS6, by show i + 1 ≤ out'.length; have := hp'.length_le; omega, hg', hm', ?_⟩
      show bfs xss (N + 1 - (i + 1)) (i + 1) out' = _
      rw [← hb, show N + 1 - i = (N + 1 - (i + 1)) + 1 by omega]
      simp only [bfs]
      rw [if_pos (by omega), hf]
  · refine Cd.exit ?_
    refine thenQ_x ?_
    refine thenQ_x ?_
    refine blockQ_x ?_
    refine thenQ_n ?_
    refine Cd.seq ?_
    refine Cd.region ?_
    refine Ops.mv_sl rfl rfl rfl ?_
    refine Ops.mv_sl rfl rfl rfl ?_
    refine Ops.nil ?_
    refine thenQ_n ?_
    refine Cd.ret ?_
    refine ret1_s rfl ?_
    -- stop: end
    rw [bfs_out (by omega)] at hb
    subst hb
    exact ⟨Ao, co, rfl, hS5.sub (List.Sublist.cons_cons _ (List.nil_sublist _))⟩
end Go.Proofs.Ytgobjpcankaicaa.Vc
/-
  The walks of the program's forms, and of comparisons on both sides. Conditions: as each states them.
-/
namespace Go.Proofs.Ytgobjpcankaicaa.Vc
open Go.RowKit

theorem rowF_len (o b mv : List Int) : (rowF o b mv).length = o.length := by simp [rowF]
theorem rowF_take {o b mv : List Int} {k : Nat} (hk : k < o.length) : (rowF o b mv).take (k + 1) = (rowF o b mv).take k ++ [gi b (gi mv (gi o (k : Int)))] := by
  rw [List.take_succ_eq_append_getElem (by rw [rowF_len]; exact hk), gi_mem hk]
  simp [rowF]

theorem formFrom_c (A : Option Addr) (n c : Nat) (rs : List SlV) (xss : List (List Int)) (N : Nat) (f : Int) (w : World) (hR : RowsI w A n rs xss) (hM : Mani xss) (hN : N = (gl xss 0).length) (h0 : 0 ≤ f) (hf : f < N) :
    Ret Try.prog 157 [.slice A n c, .int .i64 f] w (fun v w' => ∃ A' c' rs', v = .agg #[.slice A' n c'] ∧ rs'.length = n ∧ St w w' (mat 33 2 A' n c' rs' (formL N xss f))) := by
  subst hN
  have hP := hM.prm h0 hf
  have hs := hM.2.2.1.sys
  have h5 := hM.1
  have h40 := hM.2.1
  have hxl := hR.len
  have hr0 : (gl xss 0).length = (rg rs 0).n := hR.rowLen (by omega) (by omega)
  have hform : formL (gl xss 0).length xss f = xss.map fun mv => rowF (orbit (gl xss 0).length xss f) (backI (gl xss 0).length (orbit (gl xss 0).length xss f)) mv := rfl
  have hbk : ∀ x : Int, 0 ≤ x → x < ((gl xss 0).length : Int) → 0 ≤ gi (backI (gl xss 0).length (orbit (gl xss 0).length xss f)) x ∧ gi (backI (gl xss 0).length (orbit (gl xss 0).length xss f)) x < ((gl xss 0).length : Int) := fun x h0 h1 => by
    obtain ⟨k, hk, _, hb⟩ := hP.backR h0 h1
    omega
  have hbl := backI_len (gl xss 0).length (orbit (gl xss 0).length xss f)
  have hbe : backI (gl xss 0).length (orbit (gl xss 0).length xss f) = scat (List.replicate (gl xss 0).length 0) (fun k => gi (orbit (gl xss 0).length xss f) k) (fun k => (k : Int)) (gl xss 0).length := by
    unfold backI; rw [hP.len]
  have hnum := numberedFrom_c A n c rs xss (gl xss 0).length f
  generalize hNe : (gl xss 0).length = N at *
  generalize hoe : orbit N xss f = o at *
  generalize hb0 : backI N o = b at *
  have hol := hP.len
  have hrow : ∀ k : Nat, k < N → 0 ≤ gi o (k : Int) ∧ gi o (k : Int) < N := fun k hk => hP.rng hk
  rw [hform]
  refine Ret.of_cd Try.func157 rfl Try.ntmps157 rfl (postc rfl rfl) ?_
  refine Cd.seq ?_
  refine Cd.region ?_
  -- stop: ALLOC 24 -> 4
  refine Ops.new1 (St.refl w) rfl ?_
  intro Ac w1 hS1
  refine Ops.nil ?_
  refine thenQ_n ?_
  refine Cd.seq ?_
  refine Cd.region ?_
  refine Ops.mv_sl rfl rfl rfl ?_
  refine Ops.mv_int rfl rfl rfl ?_
  -- stop: CALL impl.numberedFrom(t15, t16) -> 17
  refine Ops.call (hnum _ (hS1.oldRows hR) (by omega) (by omega) hs (by omega) h0 hf) rfl rfl rfl ?_
  rintro _ w2 ⟨Ao, co, rfl, hst⟩
  rw [hol] at hst ⊢
  have hS2 := hS1.call hst
  have hR2 := hS2.oldRows hR
  refine Ops.mv_sl rfl rfl rfl ?_
  refine Ops.nil ?_
  refine thenQ_n ?_
  refine Cd.seq ?_
  refine Cd.region ?_
  refine Ops.mv_sl rfl rfl rfl ?_
  -- stop: INDEXADDR 22 t18 0 -> 19
  refine Ops.idx hR2.top.2 rfl rfl rfl (by omega) (by omega) ?_
  refine Ops.ld_sl hR2.top rfl (by omega) rfl rfl ?_
  refine Ops.len rfl rfl ?_
  -- stop: MAKESLICE 33 t21 t21 -> 22
  refine Ops.mkI N hS2 (by rw [← hr0]; rfl) rfl (by omega) ?_
  intro A6 w3 hS3
  refine Ops.mv_sl rfl rfl rfl ?_
  refine Ops.nil ?_
  refine thenQ_n ?_
  refine Cd.seq ?_
  refine Cd.seq ?_
  refine Cd.region ?_
  refine Ops.mv_sl rfl rfl rfl ?_
  refine Ops.len rfl rfl ?_
  refine Ops.mv_int rfl rfl rfl ?_
  refine Ops.nil ?_
  refine thenQ_n ?_
  refine Cd.block ?_
  -- stop: loop
  refine Cd.loop (α := Nat) (fun k => [(0, .slice A n c), (4, .pointer Ac), (5, .slice Ao N co), (6, .slice A6 N N), (23, .slice Ao N co), (24, .int .i64 (N : Int)), (25, .int .i64 (k : Int))]) (fun k w' => St w w' [CkI 2 A6 N N (scat (List.replicate N 0) (fun k => gi o k) (fun k => (k : Int)) k), CkI 2 Ao N co o, Bx 24 1 Ac [.slice none 0 0]] ∧ k ≤ N) (fun k => N - k) 0 ⟨rfl, rfl, rfl, by rw [← hr0]; rfl, rfl, rfl, rfl, trivial⟩ ⟨hS3, Nat.zero_le _⟩ ?_
  rintro k e w4 ⟨hS4, hk⟩
  have hO4 := hS4.rdI 1 rfl
  refine Cd.seq ?_
  refine Cd.region ?_
  refine Ops.lss rfl rfl rfl ?_
  refine Ops.nil ?_
  refine thenQ_n ?_
  refine Cd.seq ?_
  -- stop: cond
  refine Cd.cond_p _ rfl (fun h1 => ?_) (fun h1 => ?_)
  · have hok := hrow k (by omega)
    refine Cd.skip ?_
    refine thenQ_n ?_
    refine Cd.seq ?_
    refine Cd.block ?_
    refine Cd.seq ?_
    refine Cd.region ?_
    refine Ops.mv_int rfl rfl rfl ?_
    -- stop: INDEXADDR 33 t23 t25 -> 28
    refine Ops.idx hO4.2 rfl rfl rfl (by omega) (by omega) ?_
    refine Ops.ld_int hO4 rfl (by omega) rfl rfl ?_
    refine Ops.mv_int rfl rfl rfl ?_
    refine Ops.mv_int rfl rfl rfl ?_
    refine Ops.nil ?_
    refine thenQ_n ?_
    refine Cd.region ?_
    refine Ops.mv_sl rfl rfl rfl ?_
    refine Ops.mv_int rfl rfl rfl ?_
    refine Ops.mv_int rfl rfl rfl ?_
    -- stop: INDEXADDR 33 t30 t31 -> 33
    refine Ops.idx (hS4.rdI 0 rfl).2 rfl rfl rfl (by omega) (by omega) ?_
    refine Ops.st_int 0 hS4 rfl rfl rfl (by omega) ?_
    intro w5 hS5
    refine Ops.nil ?_
    refine blockQ_n ?_
    refine thenQ_n ?_
    refine Cd.region ?_
    refine Ops.add rfl rfl rfl (by omega) ?_
    refine Ops.mv_int rfl rfl rfl ?_
    refine Ops.nil ?_
    refine thenQ_n ?_
    -- stop: round
    exact ⟨k + 1, by show N - (k + 1) < N - k; omega, ⟨rfl, rfl, rfl, rfl, rfl, rfl, rfl, trivial⟩, hS5, by omega⟩
  have hkN : k = N := by omega
  subst hkN
  rw [← hbe] at hS4
  refine Cd.exit ?_
  refine thenQ_x ?_
  refine thenQ_x ?_
  refine blockQ_x ?_
  refine thenQ_n ?_
  refine Cd.seq ?_
  refine Cd.region ?_
  -- stop: ALLOC 24 -> 9
  refine Ops.new1 hS4 rfl ?_
  intro Ad w5 hS5
  have hS0 : St w w5 (Bx 24 1 Ad [.slice none 0 0] :: CkI 2 A6 k k b :: CkI 2 Ao k co o :: Bx 24 1 Ac [.slice none 0 0] :: CkR 33 none 0 0 [] :: []) :=
    (hS5.nil 33).perm (List.perm_append_comm (l₁ := [_]) (l₂ := [_, _, _, _]))
  refine Ops.nil ?_
  refine thenQ_n ?_
  refine Cd.seq ?_
  refine Cd.seq ?_
  refine Cd.region ?_
  refine Ops.mv_sl rfl rfl rfl ?_
  refine Ops.len rfl rfl ?_
  refine Ops.mv_int rfl rfl rfl ?_
  refine Ops.nil ?_
  refine thenQ_n ?_
  refine Cd.block ?_
  -- stop: loop
  refine Cd.loop (α := Nat × Option Addr × Nat × List SlV) (fun s => [(4, .pointer Ac), (5, .slice Ao k co), (6, .slice A6 k k), (9, .pointer Ad), (35, .slice A n c), (36, .int .i64 (n : Int)), (37, .int .i64 (s.1 : Int))]) (fun s w' => St w w' (Bx 24 1 Ad [.slice s.2.1 s.1 s.2.2.1] :: CkI 2 A6 k k b :: CkI 2 Ao k co o :: Bx 24 1 Ac [.slice none 0 0] :: CkR 33 s.2.1 s.1 s.2.2.1 s.2.2.2 :: rowsCk 2 s.2.2.2 ((xss.map fun mv => rowF o b mv).take s.1)) ∧ s.1 ≤ n ∧ s.2.2.2.length = s.1) (fun s => n - s.1) (0, none, 0, []) ⟨rfl, rfl, rfl, rfl, rfl, rfl, rfl, trivial⟩ ⟨hS0, Nat.zero_le _, rfl⟩ ?_
  rintro ⟨i, A3, c3, rs1⟩ e w6 ⟨hS6, hi, hlen⟩
  dsimp only at hS6 hi hlen ⊢
  refine Cd.seq ?_
  refine Cd.region ?_
  refine Ops.lss rfl rfl rfl ?_
  refine Ops.nil ?_
  refine thenQ_n ?_
  refine Cd.seq ?_
  -- stop: cond
  refine Cd.cond_p _ rfl (fun h1 => ?_) (fun h1 => ?_)
  · have hi' : i < n := by omega
    have hx : i < xss.length := by omega
    have hM6 := hS6.oldRows hR
    have e2 : gl xss i = xss[i] := by simp [gl, List.getD_eq_getElem?_getD, List.getElem?_eq_getElem hx]
    have hmv := hs (gl xss i) (gl_in (by omega) (by omega))
    have hmr := hM6.rowLen (k := (i : Int)) (by omega) h1
    refine Cd.skip ?_
    refine thenQ_n ?_
    refine Cd.seq ?_
    refine Cd.block ?_
    refine Cd.seq ?_
    refine Cd.region ?_
    -- stop: INDEXADDR 22 t35 t37 -> 39
    refine Ops.idx hM6.top.2 rfl rfl rfl (by omega) (by omega) ?_
    refine Ops.ld_sl hM6.top rfl (by omega) rfl rfl ?_
    refine Ops.mv_sl rfl rfl rfl ?_
    refine Ops.nil ?_
    refine thenQ_n ?_
    refine Cd.seq ?_
    refine Cd.region ?_
    refine Ops.mv_sl rfl rfl rfl ?_
    refine Ops.nil ?_
    refine thenQ_n ?_
    refine Cd.seq ?_
    refine Cd.seq ?_
    refine Cd.region ?_
    refine Ops.mv_sl rfl rfl rfl ?_
    refine Ops.len rfl rfl ?_
    refine Ops.mv_int rfl rfl rfl ?_
    refine Ops.nil ?_
    refine thenQ_n ?_
    refine Cd.block ?_
    -- stop: loop
    refine Cd.loop (α := Nat × Option Addr × Nat) (fun s => [(4, .pointer Ac), (5, .slice Ao k co), (6, .slice A6 k k), (9, .pointer Ad), (35, .slice A n c), (36, .int .i64 (n : Int)), (37, .int .i64 (i : Int)), (11, .slice (rg rs i).a (rg rs i).n (rg rs i).c), (12, .slice s.2.1 s.1 s.2.2), (41, .slice Ao k co), (42, .int .i64 (k : Int)), (43, .int .i64 (s.1 : Int))]) (fun s w' => St w w' (CkI 2 s.2.1 s.1 s.2.2 ((rowF o b (gl xss i)).take s.1) :: Bx 24 1 Ad [.slice A3 i c3] :: CkI 2 A6 k k b :: CkI 2 Ao k co o :: Bx 24 1 Ac [.slice none 0 0] :: CkR 33 A3 i c3 rs1 :: rowsCk 2 rs1 ((xss.map fun mv => rowF o b mv).take i)) ∧ s.1 ≤ k) (fun s => k - s.1) (0, none, 0) ⟨rfl, rfl, rfl, rfl, rfl, rfl, rfl, rfl, rfl, rfl, rfl, rfl, trivial⟩ ⟨hS6.nil _, Nat.zero_le _⟩ ?_
    rintro ⟨j, A12, c12⟩ e w7 ⟨hS7, hj⟩
    dsimp only at hS7 hj ⊢
    have hO7 := hS7.rdI 3 rfl
    have hB7 := hS7.rdI 2 rfl
    have hM7 := (hS7.oldRows hR).at_ (i := (i : Int)) (by omega) h1
    refine Cd.seq ?_
    refine Cd.region ?_
    refine Ops.lss rfl rfl rfl ?_
    refine Ops.nil ?_
    refine thenQ_n ?_
    refine Cd.seq ?_
    -- stop: cond
    refine Cd.cond_p _ rfl (fun h2 => ?_) (fun h2 => ?_)
    · have hoj := hrow j (by omega)
      have hv := hmv.2 _ hoj.1 hoj.2
      have hbv := hbk _ hv.1 hv.2
      refine Cd.skip ?_
      refine thenQ_n ?_
      refine Cd.seq ?_
      refine Cd.block ?_
      refine Cd.seq ?_
      refine Cd.region ?_
      -- stop: INDEXADDR 33 t41 t43 -> 45
      refine Ops.idx hO7.2 rfl rfl rfl (by omega) (by omega) ?_
      refine Ops.ld_int hO7 rfl (by omega) rfl rfl ?_
      refine Ops.mv_int rfl rfl rfl ?_
      refine Ops.nil ?_
      refine thenQ_n ?_
      refine Cd.region ?_
      refine Ops.mv_sl rfl rfl rfl ?_
      refine Ops.mv_sl rfl rfl rfl ?_
      refine Ops.mv_sl rfl rfl rfl ?_
      refine Ops.mv_int rfl rfl rfl ?_
      -- stop: INDEXADDR 33 t49 t50 -> 51
      refine Ops.idx hM7.2 rfl rfl rfl (by omega) (by omega) ?_
      refine Ops.ld_int hM7 rfl (by omega) rfl rfl ?_
      refine Ops.idx hB7.2 rfl rfl rfl (by omega) (by omega) ?_
      refine Ops.ld_int hB7 rfl (by omega) rfl rfl ?_
      refine Ops.bs1I hS7 rfl rfl rfl ?_
      intro A9 w9 hS9
      refine Ops.appI 1 hS9 rfl (hS9.rdI 0 rfl) rfl rfl rfl (by omega) (by omega) rfl ?_
      intro A10 c10 w10 hS10
      have hS10 := hS10.tail
      refine Ops.mv_sl rfl rfl rfl ?_
      refine Ops.nil ?_
      refine blockQ_n ?_
      refine thenQ_n ?_
      refine Cd.region ?_
      refine Ops.add rfl rfl rfl (by omega) ?_
      refine Ops.mv_int rfl rfl rfl ?_
      refine Ops.nil ?_
      refine thenQ_n ?_
      -- stop: round
      refine ⟨(j + 1, A10, c10), by show k - (j + 1) < k - j; omega, ⟨rfl, rfl, rfl, rfl, rfl, rfl, rfl, rfl, rfl, rfl, rfl, rfl, trivial⟩, ?_, by show j + 1 ≤ k; omega⟩
      show St w w10 (CkI _ A10 (j + 1) c10 ((rowF o b (gl xss i)).take (j + 1)) :: _)
      rw [rowF_take (by omega)]
      exact hS10
    · have hjk : j = k := by omega
      subst hjk
      rw [List.take_of_length_le (by rw [rowF_len]; omega)] at hS7
      refine Cd.exit ?_
      refine thenQ_x ?_
      refine thenQ_x ?_
      refine blockQ_x ?_
      refine thenQ_n ?_
      refine Cd.region ?_
      -- stop: FIELDADDR 24 t9 0 -> 58
      refine Ops.fld (hS7.rd 1 rfl) rfl rfl rfl rfl inferInstance ?_
      refine Ops.ldf_s (hS7.rd 1 rfl) rfl rfl rfl rfl rfl ?_
      refine Ops.mv_sl rfl rfl rfl ?_
      -- stop: BUILDSLICE 22 1 [('pair', [0, ('app', 'Go.Operand.tmp', [60])])] -> 61
      refine Ops.bs1R hS7 rfl rfl rfl ?_
      intro A9 w9 hS9
      refine Ops.appR 6 hS9 rfl (hS9.rdR 0 rfl) rfl rfl rfl (by omega) (by omega) rfl ?_
      intro A10 c10 w10 hS10
      have hS10 := hS10.tail
      refine Ops.fld (hS10.rd 1 rfl) rfl rfl rfl rfl inferInstance ?_
      refine Ops.stf 1 hS10 rfl rfl rfl rfl rfl ?_
      intro w11 hS11
      have hS11 : St w w11 (CkI 2 A12 j c12 (rowF o b (gl xss i)) :: Bx 24 1 Ad [.slice A10 (i + 1) c10] :: CkI 2 A6 j j b :: CkI 2 Ao j co o :: Bx 24 1 Ac [.slice none 0 0] :: CkR 33 A10 (i + 1) c10 (rs1 ++ [⟨A12, j, c12⟩]) :: rowsCk 2 rs1 ((xss.map fun mv => rowF o b mv).take i)) := hS11
      refine Ops.nil ?_
      refine blockQ_n ?_
      refine thenQ_n ?_
      refine Cd.region ?_
      refine Ops.add rfl rfl rfl (by omega) ?_
      refine Ops.mv_int rfl rfl rfl ?_
      refine Ops.nil ?_
      refine thenQ_n ?_
      -- stop: round
      refine ⟨(i + 1, A10, c10, rs1 ++ [⟨A12, j, c12⟩]), by show n - (i + 1) < n - i; omega, ⟨rfl, rfl, rfl, rfl, rfl, rfl, rfl, trivial⟩, ?_, hi', by simp [hlen]⟩
      show St w w11 (_ :: _ :: _ :: _ :: CkR _ A10 (i + 1) c10 (rs1 ++ [_]) :: rowsCk _ (rs1 ++ [_]) ((xss.map fun mv => rowF o b mv).take (i + 1)))
      rw [List.take_succ_eq_append_getElem (by rw [List.length_map]; exact hx), rowsCk_append (by simp [hlen]; omega), List.getElem_map, ← e2]
      refine hS11.perm ?_
      exact List.perm_append_comm (l₁ := [_]) (l₂ := _ :: _ :: _ :: _ :: _ :: rowsCk 2 rs1 ((xss.map fun mv => rowF o b mv).take i))
  · have hin : i = n := by omega
    subst hin
    rw [List.take_of_length_le (by rw [List.length_map]; omega)] at hS6
    refine Cd.exit ?_
    refine thenQ_x ?_
    refine thenQ_x ?_
    refine blockQ_x ?_
    refine thenQ_n ?_
    refine Cd.seq ?_
    refine Cd.region ?_
    -- stop: LOAD 24 t9 -> 65
    refine Ops.ld_agg 0 (hS6.rd 0 rfl) rfl rfl rfl ?_
    refine Ops.st_agg 1 3 hS6 rfl rfl rfl rfl rfl rfl rfl ?_
    intro w7 hS7
    refine Ops.nil ?_
    refine thenQ_n ?_
    refine Cd.ret ?_
    skip
    -- stop: end
    refine retc_r rfl (hS7.rd 3 rfl) ?_
    exact ⟨A3, c3, rs1, rfl, hlen, hS7.sub ((((List.sublist_cons_self _ _).trans (List.sublist_cons_self _ _)).trans (List.sublist_cons_self _ _)).trans (List.sublist_cons_self _ _))⟩
end Go.Proofs.Ytgobjpcankaicaa.Vc
/-
  Plain mathematics: numbering anew keeps what a search finds; the form of a form; every maniplex in the numbers of its own search is a rooted form. Conditions: as each states them. No program in sight.
-/
namespace Go.Proofs.Ytgobjpcankaicaa.Vc

theorem gl_succ (p : List Int) (ps : List (List Int)) (j : Nat) : gl (p :: ps) ((j + 1 : Nat) : Int) = gl ps (j : Int) := by
  simp only [gl, Int.toNat_natCast, List.getD_cons_succ]
theorem gi_map {φ : Int → Int} {l : List Int} {k : Nat} (h : k < l.length) : gi (l.map φ) (k : Int) = φ (gi l (k : Int)) := by
  rw [gi_mem (by simpa using h), gi_mem h, List.getElem_map]

/-- numbering anew -/
structure Ism (N : Nat) (xss yss : List (List Int)) (φ : Int → Int) : Prop where
  len : yss.length = xss.length
  rng : ∀ x : Int, 0 ≤ x → x < N → 0 ≤ φ x ∧ φ x < N
  inj : ∀ x y : Int, 0 ≤ x → x < N → 0 ≤ y → y < N → φ x = φ y → x = y
  com : ∀ (i : Nat) (x : Int), i < xss.length → 0 ≤ x → x < N → gi (gl yss i) (φ x) = φ (gi (gl xss i) x)

section
variable {N : Nat} {xss yss : List (List Int)} {φ : Int → Int}
theorem push_map (hinj : ∀ x y : Int, 0 ≤ x → x < N → 0 ≤ y → y < N → φ x = φ y → x = y) {out : List Int} (ho : ∀ x ∈ out, 0 ≤ x ∧ x < (N : Int)) {y : Int} (h0 : 0 ≤ y) (h1 : y < N) : push1 (out.map φ) (φ y) = (push1 out y).map φ := by
  unfold push1
  by_cases h : y ∈ out
  · rw [if_pos h, if_pos (List.mem_map_of_mem h)]
  · rw [if_neg h, if_neg (fun hm => by
      obtain ⟨z, hz, e⟩ := List.mem_map.1 hm
      exact h (hinj z y (ho z hz).1 (ho z hz).2 h0 h1 e ▸ hz)), List.map_append]
    rfl
theorem fold_map (hinj : ∀ x y : Int, 0 ≤ x → x < N → 0 ≤ y → y < N → φ x = φ y → x = y) {x : Int} : ∀ (ps qs : List (List Int)) (out : List Int), qs.length = ps.length → (∀ z ∈ out, 0 ≤ z ∧ z < (N : Int)) → (∀ j : Nat, j < ps.length → (0 ≤ gi (gl ps j) x ∧ gi (gl ps j) x < N) ∧ gi (gl qs j) (φ x) = φ (gi (gl ps j) x)) → qs.foldl (fun o p => push1 o (gi p (φ x))) (out.map φ) = (ps.foldl (fun o p => push1 o (gi p x)) out).map φ
  | [], [], _, _, _, _ => rfl
  | p :: ps, q :: qs, out, hl, ho, h => by
    have h0 : (0 ≤ gi p x ∧ gi p x < N) ∧ gi q (φ x) = φ (gi p x) := h 0 (by simp)
    simp only [List.foldl_cons]
    rw [h0.2, push_map hinj ho h0.1.1 h0.1.2]
    exact fold_map hinj ps qs _ (by simpa using hl) (fun z hz => by
      rcases push1_mem.1 hz with hz | rfl
      · exact ho z hz
      · exact h0.1) (fun j hj => by
      have := h (j + 1) (by simpa using hj)
      rw [gl_succ, gl_succ] at this
      exact this)
  | [], _ :: _, _, hl, _, _ => by simp at hl
  | _ :: _, [], _, hl, _, _ => by simp at hl
theorem bfs_map (h : Ism N xss yss φ) (hs : Sys N xss) {pt : Int} : ∀ (f i : Nat) (out : List Int), Good N xss pt out → bfs yss f i (out.map φ) = (bfs xss f i out).map φ
  | 0, _, _, _ => rfl
  | f + 1, i, out, hg => by
    simp only [bfs, List.length_map]
    by_cases hi : i < out.length
    · rw [if_pos hi, if_pos hi, gi_map hi]
      have hx := gi_in hi
      have hr := hg.range _ hx
      have e : expand yss (φ (gi out i)) (out.map φ) = (expand xss (gi out i) out).map φ := fold_map h.inj xss yss out h.len hg.range (fun j hj => ⟨(hs (gl xss j) (by rw [gl_mem hj]; exact List.getElem_mem _)).2 _ hr.1 hr.2, h.com j _ hj hr.1 hr.2⟩)
      rw [e]
      exact bfs_map h hs f (i + 1) _ (foldl_push hs xss out (fun p hp => hp) hg hx).1
    · rw [if_neg hi, if_neg hi]
theorem orbit_map (h : Ism N xss yss φ) (hs : Sys N xss) {pt : Int} (h0 : 0 ≤ pt) (h1 : pt < N) : orbit N yss (φ pt) = (orbit N xss pt).map φ := bfs_map h hs (N + 1) 0 [pt] (good_one h0 h1)

theorem form_map (h : Ism N xss yss φ) (hM : Mani xss) (hN : N = (gl xss 0).length) {pt : Int} (h0 : 0 ≤ pt) (h1 : pt < N) : formL N yss (φ pt) = formL N xss pt := by
  have hs := hM.2.2.1.sys
  have hP := hM.prm h0 (by rw [← hN]; exact h1)
  rw [← hN] at hs hP
  have ho := orbit_map h hs h0 h1
  have hP' : Prm N ((orbit N xss pt).map φ) := by
    refine ⟨by rw [List.length_map]; exact hP.len, ?_, fun x hx => ?_⟩
    · rw [List.nodup_iff_pairwise_ne, List.pairwise_map]
      exact List.Pairwise.imp_of_mem (fun ha hb hab e => hab (h.inj _ _ (hP.range _ ha).1 (hP.range _ ha).2 (hP.range _ hb).1 (hP.range _ hb).2 e)) (List.nodup_iff_pairwise_ne.1 hP.nodup)
    · obtain ⟨y, hy, rfl⟩ := List.mem_map.1 hx
      exact h.rng y (hP.range y hy).1 (hP.range y hy).2
  have hb : ∀ z : Int, 0 ≤ z → z < N → gi (backI N ((orbit N xss pt).map φ)) (φ z) = gi (backI N (orbit N xss pt)) z := fun z h0 h1 => by
    obtain ⟨k, hk, e1, e2⟩ := hP.backR h0 h1
    have := hP'.back hk
    rw [gi_map (by rw [hP.len]; exact hk), e1] at this
    rw [this, e2]
  unfold formL
  rw [ho]
  apply List.ext_getElem
  · simp [h.len]
  · intro i h2 h3
    simp only [List.length_map] at h2 h3
    simp only [List.getElem_map]
    unfold rowF
    rw [List.map_map]
    apply List.map_congr_left
    intro x hx
    have hx := hP.range x hx
    have hr := (hs (gl xss i) (by rw [gl_mem h3]; exact List.getElem_mem _)).2 x hx.1 hx.2
    have hc := h.com i x h3 hx.1 hx.2
    rw [gl_mem h2, gl_mem h3] at hc
    rw [gl_mem h3] at hr
    show gi _ (gi yss[i] (φ x)) = _
    rw [hc, hb _ hr.1 hr.2]

/-! a maniplex and its forms -/
variable {f : Int}
theorem form_ism (hM : Mani xss) (hN : N = (gl xss 0).length) (h0 : 0 ≤ f) (h1 : f < N) : Ism N xss (formL N xss f) (gi (backI N (orbit N xss f))) := by
  have hs := hM.2.2.1.sys
  have hP := hM.prm h0 (by rw [← hN]; exact h1)
  rw [← hN] at hs hP
  refine ⟨formL_len _ _ _, fun x hx hx' => ?_, fun x y hx hx' hy hy' e => ?_, fun i x hi hx hx' => ?_⟩
  · obtain ⟨k, hk, _, e⟩ := hP.backR hx hx'
    omega
  · obtain ⟨k, hk, e1, e2⟩ := hP.backR hx hx'
    obtain ⟨j, hj, e3, e4⟩ := hP.backR hy hy'
    have : (k : Int) = j := by omega
    rw [← e1, ← e3, this]
  · obtain ⟨k, hk, e1, e2⟩ := hP.backR hx hx'
    rw [e2, gl_mem (by rw [formL_len]; exact hi)]
    simp only [formL, List.getElem_map]
    rw [gi_mem (by rw [rowF_len, hP.len]; exact hk)]
    simp only [rowF, List.getElem_map]
    rw [← gi_mem (by rw [hP.len]; exact hk), e1, gl_mem hi]
theorem form_pt (hM : Mani xss) (hN : N = (gl xss 0).length) (h0 : 0 ≤ f) (h1 : f < N) : gi (orbit N xss f) 0 = f ∧ gi (backI N (orbit N xss f)) f = 0 := by
  have hs := hM.2.2.1.sys
  have hP := hM.prm h0 (by rw [← hN]; exact h1)
  rw [← hN] at hs hP
  have e := gi_prefix (orbit_spec hs h0 h1).2.1 (i := 0) (by simp)
  have e : gi (orbit N xss f) 0 = f := e
  refine ⟨e, ?_⟩
  have := hP.back (k := 0) (by omega)
  have this : gi (backI N (orbit N xss f)) (gi (orbit N xss f) 0) = 0 := this
  rwa [e] at this
theorem form_orbit (hM : Mani xss) (hN : N = (gl xss 0).length) (h0 : 0 ≤ f) (h1 : f < N) : orbit N (formL N xss f) 0 = seqI N := by
  have hs := hM.2.2.1.sys
  have hP := hM.prm h0 (by rw [← hN]; exact h1)
  rw [← hN] at hs hP
  have h := orbit_map (form_ism hM hN h0 h1) hs h0 h1
  rw [(form_pt hM hN h0 h1).2] at h
  rw [h]
  apply List.ext_getElem
  · rw [List.length_map, hP.len, seqI_len]
  · intro i h2 h3
    rw [seqI_len] at h3
    rw [List.getElem_map, ← gi_mem (by rw [hP.len]; exact h3), hP.back h3]
    simp [seqI]
theorem form_form (hM : Mani xss) (hN : N = (gl xss 0).length) (h0 : 0 ≤ f) (h1 : f < N) {g : Int} (h2 : 0 ≤ g) (h3 : g < N) : ∃ k : Nat, k < N ∧ (k : Int) = gi (orbit N xss f) g ∧ formL N (formL N xss f) g = formL N xss (k : Int) := by
  have hP := hM.prm h0 (by rw [← hN]; exact h1)
  rw [← hN] at hP
  obtain ⟨q, rfl⟩ : ∃ q : Nat, g = q := ⟨g.toNat, by omega⟩
  have hr := hP.rng (k := q) (by omega)
  have h := form_map (form_ism hM hN h0 h1) hM hN hr.1 hr.2
  rw [hP.back (by omega)] at h
  refine ⟨(gi (orbit N xss f) q).toNat, by omega, by omega, ?_⟩
  rw [h, Int.toNat_of_nonneg hr.1]
end
end Go.Proofs.Ytgobjpcankaicaa.Vc
/-
  Plain mathematics: the tree of partial moves grows every maniplex that has the numbers of its own search, so the least form of a maniplex is in the list. Conditions: as each states them. No program in sight.
-/
namespace Go.Proofs.Ytgobjpcankaicaa.Vc

section
variable {n F : Nat} {L : List (List Int)}
theorem fold_prefix (x : Int) : ∀ (ps : List (List Int)) (out : List Int), out <+: ps.foldl (fun o p => push1 o (gi p x)) out
  | [], _ => List.prefix_rfl
  | p :: ps, out => (push1_prefix out (gi p x)).trans (fold_prefix x ps _)
theorem bfs_prefix (xss : List (List Int)) : ∀ (k i : Nat) (out : List Int), out <+: bfs xss k i out
  | 0, _, _ => List.prefix_rfl
  | k + 1, i, out => by
    simp only [bfs]
    split
    · exact (fold_prefix _ xss out).trans (bfs_prefix xss k (i + 1) _)
    · exact List.prefix_rfl
theorem seqI_prefix {m : Nat} {l : List Int} (h : l <+: seqI m) : l = seqI l.length ∧ l.length ≤ m := by
  have hl := h.length_le
  rw [seqI_len] at hl
  refine ⟨?_, hl⟩
  apply List.ext_getElem
  · rw [seqI_len]
  · intro i h1 h2
    have := gi_prefix h h1
    rw [seqI_get (by omega)] at this
    rw [← gi_mem h1, ← this]
    simp [seqI]
theorem push_seq' {m : Nat} {v : Int} (h0 : 0 ≤ v) (h : push1 (seqI m) v <+: seqI F) : v ≤ m ∧ push1 (seqI m) v = seqI (max m (v.toNat + 1)) := by
  have hv : v ≤ m := by
    unfold push1 at h
    by_cases hm : v ∈ seqI m
    · have := (seqI_mem.1 hm).2; omega
    · rw [if_neg hm] at h
      have h1 := (seqI_prefix h).1
      rw [List.length_append, seqI_len, List.length_singleton, seqI_succ] at h1
      have := List.append_cancel_left h1
      simp at this
      omega
  exact ⟨hv, push_seq h0 hv⟩
theorem expand_rg (hl : L.length = n) (hn : 0 < n) (hs : Sys F L) {f : Nat} (hf : f < F) (hfm : f < mtL L n (f * n)) (hp : expand L (f : Int) (seqI (mtL L n (f * n))) <+: seqI F) :
    expand L (f : Int) (seqI (mtL L n (f * n))) = seqI (mtL L n ((f + 1) * n)) ∧ ∀ a, f * n ≤ a → a < (f + 1) * n → RG L n a := by
  have e1 : (f + 1) * n = f * n + n := by rw [Nat.succ_mul]
  have key : ∀ j, j ≤ n → (L.take j).foldl (fun o p => push1 o (gi p f)) (seqI (mtL L n (f * n))) = seqI (mtL L n (f * n + j)) ∧ f < mtL L n (f * n + j) ∧ ∀ a, f * n ≤ a → a < f * n + j → RG L n a := by
    intro j
    induction j with
    | zero => intro _; exact ⟨rfl, hfm, fun a h1 h2 => by omega⟩
    | succ j ih =>
      intro hj
      obtain ⟨ih1, ih2, ih3⟩ := ih (by omega)
      have hj' : j < L.length := by omega
      have ha1 : (f * n + j) % n = j := by rw [Nat.mul_comm, Nat.mul_add_mod]; exact Nat.mod_eq_of_lt (by omega)
      have ha2 : (f * n + j) / n = f := by rw [Nat.mul_comm, Nat.mul_add_div hn]; rw [Nat.div_eq_of_lt (by omega)]; omega
      have hc : cell L j (f : Int) = gi (L[j]) f := by
        unfold cell
        rw [show gl L (j : Int) = L[j] by simp [gl, List.getD_eq_getElem?_getD, List.getElem?_eq_getElem hj']]
      have h0 := ((hs L[j] (List.getElem_mem _)).2 f (by omega) (by omega)).1
      have e2 : (L.take (j + 1)).foldl (fun o p => push1 o (gi p f)) (seqI (mtL L n (f * n))) = push1 (seqI (mtL L n (f * n + j))) (gi L[j] f) := by
        rw [List.take_succ_eq_append_getElem hj', List.foldl_append, ih1]
        rfl
      have hpre : (L.take (j + 1)).foldl (fun o p => push1 o (gi p f)) (seqI (mtL L n (f * n))) <+: seqI F := by
        refine List.IsPrefix.trans ?_ hp
        have e3 : expand L (f : Int) (seqI (mtL L n (f * n))) = (L.drop (j + 1)).foldl (fun o p => push1 o (gi p f)) ((L.take (j + 1)).foldl (fun o p => push1 o (gi p f)) (seqI (mtL L n (f * n)))) := by
          rw [← List.foldl_append, List.take_append_drop]
          rfl
        rw [e3]
        exact fold_prefix _ _ _
      rw [e2] at hpre
      have h3 := push_seq' h0 hpre
      have em : mtL L n (f * n + (j + 1)) = max (mtL L n (f * n + j)) ((gi L[j] f).toNat + 1) := by
        show max (mtL L n (f * n + j)) ((cell L ((f * n + j) % n) ((f * n + j) / n : Nat)).toNat + 1) = _
        rw [ha1, ha2, hc]
      refine ⟨by rw [e2, h3.2, em], by rw [em]; omega, fun a h1 h2 => ?_⟩
      by_cases e : a = f * n + j
      · subst e
        unfold RG
        rw [ha1, ha2, hc]
        exact ⟨h0, h3.1, ih2⟩
      · exact ih3 a h1 (by omega)
  have := key n (Nat.le_refl _)
  rw [List.take_of_length_le (by omega)] at this
  rw [e1]
  exact ⟨this.1, this.2.2⟩
theorem seq_rg (hl : L.length = n) (hn : 0 < n) (hs : Sys F L) : ∀ (k i : Nat), bfs L k i (seqI (mtL L n (i * n))) = seqI F → i ≤ mtL L n (i * n) → F < k + i → (∀ a, a < i * n → RG L n a) → mtL L n (F * n) = F ∧ ∀ a, a < F * n → RG L n a
  | 0, i, h, hi, hk, hR => by
    have h1 := (seqI_prefix (m := F) (l := seqI (mtL L n (i * n))) (by have := bfs_prefix L 0 i (seqI (mtL L n (i * n))); rwa [h] at this)).2
    rw [seqI_len] at h1
    omega
  | k + 1, i, h, hi, hk, hR => by
    have h1 := (seqI_prefix (m := F) (l := seqI (mtL L n (i * n))) (by have := bfs_prefix L (k + 1) i (seqI (mtL L n (i * n))); rwa [h] at this)).2
    rw [seqI_len] at h1
    simp only [bfs] at h
    rw [seqI_len] at h
    by_cases hlt : i < mtL L n (i * n)
    · rw [if_pos hlt, seqI_get hlt] at h
      have hp := bfs_prefix L k (i + 1) (expand L (i : Int) (seqI (mtL L n (i * n))))
      rw [h] at hp
      obtain ⟨e, hE⟩ := expand_rg hl hn hs (by omega) hlt hp
      rw [e] at h hp
      refine seq_rg hl hn hs k (i + 1) h ?_ (by omega) (fun a ha => ?_)
      · have h2 := (hE (i * n + (n - 1)) (by omega) (by rw [Nat.succ_mul]; omega))
        have h3 : mtL L n ((i + 1) * n) ≥ mtL L n (i * n) := by
          have : seqI (mtL L n (i * n)) <+: seqI (mtL L n ((i + 1) * n)) := by rw [← e]; exact fold_prefix _ L _
          have := this.length_le
          rwa [seqI_len, seqI_len] at this
        omega
      · by_cases h4 : a < i * n
        · exact hR a h4
        · exact hE a (by omega) ha
    · rw [if_neg hlt] at h
      have h2 := congrArg List.length h
      rw [seqI_len, seqI_len] at h2
      have : i = F := by omega
      subst this
      exact ⟨h2, hR⟩

theorem Reach.con (hI : Shp n F L) (hs : Sys F L) (hF : 0 < F) {x : Int} (h : Reach L 0 x) : (0 ≤ x ∧ x < F) ∧ Con n L x := by
  induction h with
  | refl => exact ⟨⟨by omega, by omega⟩, .zero⟩
  | @step y p _ hp ih =>
    obtain ⟨i, hi, rfl⟩ := List.mem_iff_getElem.1 hp
    have hr := (hs _ hp).2 y ih.1.1 ih.1.2
    have e : gi L[i] y = cell L i y := by
      unfold cell
      rw [gl_mem hi]
    rw [e] at hr ⊢
    exact ⟨hr, .step ih.2 (by rw [← hI.1]; exact hi) ih.1.1 hr.1⟩

theorem cells_eq {M L : List (List Int)} (hM : Shp n F M) (hL : Shp n F L) (h : ∀ (i f : Nat), i < n → f < F → cell M i f = cell L i f) : M = L := by
  apply List.ext_getElem
  · rw [hM.1, hL.1]
  · intro i h1 h2
    apply List.ext_getElem
    · rw [hM.2 _ (List.getElem_mem _), hL.2 _ (List.getElem_mem _)]
    · intro j h3 h4
      have hj := hM.2 _ (List.getElem_mem h1)
      have := h i j (by rw [← hM.1]; exact h1) (by omega)
      unfold cell at this
      rw [gl_mem h1, gl_mem h2, gi_mem h3, gi_mem h4] at this
      exact this

/-- all that goes on with what is known is grown -/
theorem grow_all (hL : Inv n F L F (F * n)) (hm : mtL L n (F * n) = F) (hR : ∀ a, a < F * n → RG L n a) : ∀ (k at_ met : Nat) (M : List (List Int)), Inv n F M met at_ → Ext n F M L → mtL L n at_ = met → F * n < k + at_ → L ∈ grow n F (fun _ _ _ => true) (fun _ => true) k at_ met M
  | 0, at_, met, M, h, hE, hmt, hk => by
    have := h.le
    have := Nat.mul_le_mul_right n h.metF
    omega
  | k + 1, at_, met, M, h, hE, hmt, hk => by
    have hle := h.le
    have hmF := h.metF
    have hmn := Nat.mul_le_mul_right n hmF
    have hn := h.n0
    simp only [grow]
    by_cases ha : at_ = met * n
    · have h1 : at_ = F * n := by
        apply Classical.byContradiction
        intro hne
        have := (hR at_ (by omega)).2.2
        rw [hmt, ha, Nat.mul_div_cancel _ hn] at this
        omega
      rw [h1, hm] at hmt
      subst hmt
      rw [if_pos ha, if_pos ⟨rfl, trivial⟩]
      have : M = L := cells_eq h.shp hL.shp (fun i f hi hf => by
        have hlt : f * n + i < at_ := by
          have : (f + 1) * n ≤ F * n := Nat.mul_le_mul_right n (by omega)
          rw [Nat.succ_mul] at this
          omega
        have hkn := h.known _ hlt
        rw [Nat.add_comm, Nat.add_mul_mod_self_right, Nat.mod_eq_of_lt hi, Nat.add_mul_div_right _ _ hn, Nat.div_eq_of_lt hi, Nat.zero_add] at hkn
        exact (hE i f hi (by omega) (by omega) hkn).symm)
      rw [this]
      simp
    · rw [if_neg ha]
      have hp := h.pos ha
      have hat : at_ < F * n := by omega
      have hRa := hR at_ hat
      rw [RG, hmt] at hRa
      have hstep : mtL L n (at_ + 1) = max met ((cell L (at_ % n) (at_ / n : Nat)).toNat + 1) := by rw [← hmt]; rfl
      by_cases hc : 0 ≤ cell M (at_ % n) (at_ / n : Nat)
      · rw [if_pos hc]
        have e := hE (at_ % n) (at_ / n : Nat) hp.1 (Int.natCast_nonneg _) (Int.ofNat_lt.2 (by omega)) hc
        have hcell := h.cells (at_ % n) (at_ / n : Nat) hp.1 (Int.natCast_nonneg _) (Int.ofNat_lt.2 (by omega))
        refine grow_all hL hm hR k _ _ _ (h.next ha hc) hE ?_ (by omega)
        rw [hstep, e]
        omega
      · rw [if_neg hc, List.mem_flatMap]
        have hLc := hL.inv hp.1 (f := ((at_ / n : Nat) : Int)) (Int.natCast_nonneg _) (Int.ofNat_lt.2 (by omega))
        generalize hg : (cell L (at_ % n) (at_ / n : Nat)).toNat = g at *
        have hgc : cell L (at_ % n) (at_ / n : Nat) = (g : Int) := by omega
        rw [hgc] at hLc hRa
        have hMg : ¬ 0 ≤ cell M (at_ % n) (g : Nat) := fun h0 => by
          have e := hE (at_ % n) (g : Nat) hp.1 (Int.natCast_nonneg _) hLc.2.1 h0
          have hcg := h.cells (at_ % n) (g : Nat) hp.1 (Int.natCast_nonneg _) hLc.2.1
          rw [← e, hLc.2.2.1] at hcg
          rcases hcg with hcg | hcg
          · omega
          · rw [hcg.2.2.2.1] at hc
            omega
        have hgt : at_ / n < g := by
          apply Classical.byContradiction
          intro hng
          have hne : g ≠ at_ / n := fun e => hLc.2.2.2 (by omega)
          have hlt : g * n + at_ % n < at_ := by
            have h1 : (g + 1) * n ≤ (at_ / n) * n := Nat.mul_le_mul_right n (by omega)
            rw [Nat.succ_mul] at h1
            have h2 := Nat.div_add_mod at_ n
            rw [Nat.mul_comm] at h2
            have := hp.1
            omega
          have hkn := h.known _ hlt
          rw [Nat.add_comm, Nat.add_mul_mod_self_right, Nat.mod_mod, Nat.add_mul_div_right _ _ hn, Nat.div_eq_of_lt hp.1, Nat.zero_add] at hkn
          exact hMg hkn
        refine ⟨g, List.mem_range'_1.2 ⟨by omega, by omega⟩, ?_⟩
        rw [if_neg hMg, if_pos trivial]
        have hg1 : g ≤ met := by omega
        have hg2 : g < F := by omega
        refine grow_all hL hm hR k _ _ _ (h.put ha hc hgt hg1 hg2 hMg) (fun i x hi hx hxF hcx => ?_) (by rw [hstep]) (by omega)
        rw [cell_put h.shp hp.1 (by omega) hg2 hx] at hcx ⊢
        split
        · rename_i e
          obtain ⟨rfl, rfl⟩ := e
          exact hLc.2.2.1
        · rename_i e1
          rw [if_neg e1] at hcx
          split
          · rename_i e
            obtain ⟨rfl, rfl⟩ := e
            exact hgc
          · rename_i e2
            rw [if_neg e2] at hcx
            exact hE i x hi hx hxF hcx
end

section
variable {N : Nat} {xss : List (List Int)} {f : Int}
theorem form_inv (hM : Mani xss) (hN : N = (gl xss 0).length) (h0 : 0 ≤ f) (h1 : f < N) : Inv xss.length N (formL N xss f) N (N * xss.length) ∧ Mani (formL N xss f) := by
  have hP := hM.prm h0 (by rw [← hN]; exact h1)
  have hs := hM.2.2.1.sys
  rw [← hN] at hP hs
  have hI := form_ism hM hN h0 h1
  have hN2 := hM.2.1
  have hn := hM.1
  have hN40 : 2 ≤ N ∧ N ≤ 400 := by omega
  have hshp : Shp xss.length N (formL N xss f) := ⟨formL_len _ _ _, fun p hp => by
    obtain ⟨mv, _, rfl⟩ := List.mem_map.1 hp
    rw [rowF_len, hP.len]⟩
  have hc : ∀ (i : Nat) (k : Nat), i < xss.length → k < N → cell (formL N xss f) i (k : Int) = gi (backI N (orbit N xss f)) (gi (gl xss i) (gi (orbit N xss f) k)) := fun i k hi hk => by
    have hr := hP.rng hk
    have := hI.com i _ hi hr.1 hr.2
    rw [hP.back hk] at this
    exact this
  have hin : ∀ (i : Nat) (x : Int), i < xss.length → 0 ≤ x → x < N → 0 ≤ gi (gl xss i) x ∧ gi (gl xss i) x < N := fun i x hi hx hx' => (hs (gl xss i) (by rw [gl_mem hi]; exact List.getElem_mem _)).2 x hx hx'
  have hfree : ∀ (i : Nat) (x : Int), i < xss.length → 0 ≤ x → x < N → gi (gl xss i) x ≠ x ∧ gi (gl xss i) (gi (gl xss i) x) = x := fun i x hi hx hx' => by
    have h := (hM.2.2.1.at_ hi)
    have := h.2.2 x.toNat (by omega)
    rw [Int.toNat_of_nonneg hx] at this
    exact this
  -- cells by the numbers of the orbit
  have hcell : ∀ (i : Nat) (k : Nat), i < xss.length → k < N → ∃ j : Nat, j < N ∧ cell (formL N xss f) i (k : Int) = j ∧ gi (orbit N xss f) j = gi (gl xss i) (gi (orbit N xss f) k) := fun i k hi hk => by
    have hr := hP.rng hk
    have hq := hin i _ hi hr.1 hr.2
    obtain ⟨j, hj, e1, e2⟩ := hP.backR hq.1 hq.2
    exact ⟨j, hj, by rw [hc i k hi hk, e2], e1⟩
  have hInv : Inv xss.length N (formL N xss f) N (N * xss.length) := by
    refine ⟨hshp, by omega, by omega, Nat.le_refl _, fun i x hi hx hx' => .inr ?_, fun a ha => ?_, fun x hx => ?_, Nat.le_refl _⟩
    · obtain ⟨k, rfl⟩ : ∃ k : Nat, x = k := ⟨x.toNat, by omega⟩
      have hk : k < N := by omega
      obtain ⟨j, hj, e1, e2⟩ := hcell i k hi hk
      obtain ⟨l, hl, e3, e4⟩ := hcell i j hi hj
      have hr := hP.rng hk
      have hf := hfree i _ hi hr.1 hr.2
      rw [e2, hf.2] at e4
      have el := hP.inj hl hk e4
      rw [e1, e3, el]
      refine ⟨by omega, by omega, hx', rfl, fun e => ?_⟩
      have : j = k := by omega
      rw [this] at e2
      exact hf.1 e2.symm
    · have ha2 : a / xss.length < N := Nat.div_lt_of_lt_mul (by rw [Nat.mul_comm]; exact ha)
      obtain ⟨j, hj, e1, _⟩ := hcell (a % xss.length) (a / xss.length) (Nat.mod_lt _ (by omega)) ha2
      rw [e1]
      omega
    · have hsF : Sys N (formL N xss f) := fun p hp => by
        refine ⟨hshp.2 p hp, fun x hx hx' => ?_⟩
        obtain ⟨i, hi, rfl⟩ := List.mem_iff_getElem.1 hp
        rw [formL_len] at hi
        obtain ⟨k, rfl⟩ : ∃ k : Nat, x = k := ⟨x.toNat, by omega⟩
        obtain ⟨j, hj, e1, _⟩ := hcell i k hi (by omega)
        unfold cell at e1
        rw [gl_mem (by rw [formL_len]; exact hi)] at e1
        omega
      have ho := form_orbit hM hN h0 h1
      have := (orbit_spec hsF (pt := 0) (by omega) (by omega)).2.2 (x : Int)
      rw [ho] at this
      exact (Reach.con hshp hsF (by omega) (this.1 (seqI_mem.2 ⟨by omega, by omega⟩))).2
  refine ⟨hInv, hInv.mani hn.2 hN40 (fun e he i hi k hk hik => ?_)⟩
  rw [formL_len] at hi hk
  have hr := hP.rng he
  obtain ⟨j1, hj1, a1, b1⟩ := hcell i e hi he
  obtain ⟨j2, hj2, a2, b2⟩ := hcell k e hk he
  obtain ⟨j3, hj3, a3, b3⟩ := hcell k j1 hk hj1
  obtain ⟨j4, hj4, a4, b4⟩ := hcell i j2 hi hj2
  obtain ⟨q, hq⟩ : ∃ q : Nat, gi (orbit N xss f) e = q := ⟨(gi (orbit N xss f) e).toNat, by omega⟩
  have hcm := hM.2.2.2.1 i hi k hk hik q (by omega)
  unfold Comm at hcm
  rw [← hq] at hcm
  refine ⟨fun _ e1 => ?_, fun _ _ => ?_⟩
  · rw [a1, a2] at e1
    have : j1 = j2 := by omega
    rw [this] at b1
    exact hcm.2 (by rw [← b1, ← b2])
  · unfold kn
    rw [a1, a2, if_neg (by omega), if_neg (by omega), a3, a4]
    have : gi (orbit N xss f) (j3 : Int) = gi (orbit N xss f) (j4 : Int) := by rw [b3, b4, b1, b2]; exact hcm.1
    rw [hP.inj hj3 hj4 this]
theorem form_mem (hM : Mani xss) (hN : N = (gl xss 0).length) (h0 : 0 ≤ f) (h1 : f < N) : formL N xss f ∈ formsL xss.length N := by
  obtain ⟨hI, hV⟩ := form_inv hM hN h0 h1
  have hn := hI.n0
  have hN0 : 0 < N := by omega
  have hs : Sys N (formL N xss f) := by
    have := hV.2.2.1.sys
    have e : (gl (formL N xss f) 0).length = N := hI.shp.row (i := 0) hn
    rwa [e] at this
  have ho := form_orbit hM hN h0 h1
  have hR := seq_rg (L := formL N xss f) (n := xss.length) (F := N) (formL_len _ _ _) hn hs (N + 1) 0 (by rw [Nat.zero_mul]; exact ho) (Nat.zero_le _) (by omega) (fun a ha => by omega)
  refine List.mem_filter.2 ⟨grow_all hI hR.1 hR.2 _ _ _ _ (Inv.blank hn hN0) (fun i x hi hx hxF hc => ?_) rfl (by omega), decide_eq_true hV⟩
  exfalso
  have := cell_blank (n := xss.length) (F := N) hi hx hxF
  omega

theorem least_is (hM : Mani xss) (hN : N = (gl xss 0).length) : ∃ f : Nat, f < N ∧ leastL N xss = formL N xss f := leastTo_is (by have := hM.2.1; omega) N (Nat.le_refl _)
/-- the least form is in the list -/
theorem least_mem (hM : Mani xss) (hN : N = (gl xss 0).length) : leastL N xss ∈ listL xss.length N := by
  obtain ⟨f, hf, e⟩ := least_is hM hN
  rw [listL_mem]
  refine ⟨by rw [e]; exact form_mem hM hN (by omega) (by omega), fun g hg => ?_⟩
  obtain ⟨k, hk, _, e2⟩ := form_form hM hN (f := (f : Int)) (by omega) (by omega) (g := (g : Int)) (by omega) (by omega)
  have := (leastTo_le (N := N) (xss := xss) N).2 k hk
  rw [e, e2, ← e]
  exact this
end
end Go.Proofs.Ytgobjpcankaicaa.Vc
/-
  The cycles of a list of numbers, by their least points, and lists in ascending order: a plain law, with no program in sight. Conditions: as each states them.
-/
namespace Go.Proofs.Ytgobjpcankaicaa.Vc
open Go.RowKit

/-- from x on, till a point comes that was seen -/
def goC (p : List Int) : Nat → Nat → List Bool → List Int × List Bool
  | 0, _, s => ([], s)
  | k + 1, x, s => if gb s (x : Int) = true then ([], s) else ((x : Int) :: (goC p k (gi p x).toNat (s.set x true)).1, (goC p k (gi p x).toNat (s.set x true)).2)

theorem gb_nat {s : List Bool} {x : Nat} (hx : x < s.length) : gb s (x : Int) = s[x] := by simp [gb, List.getD_eq_getElem?_getD, List.getElem?_eq_getElem hx]
theorem count_seen {s : List Bool} {x : Nat} (hx : x < s.length) (h : ¬ gb s (x : Int) = true) : (s.set x true).count false + 1 = s.count false := by
  have e := gb_nat hx
  rw [e, Bool.not_eq_true] at h
  have h1 : 0 < s.count false := by
    rw [List.count_pos_iff, ← h]
    exact List.getElem_mem hx
  rw [List.count_set hx, h]
  simp
  omega
theorem goC_seen {p : List Int} {s : List Bool} {x : Nat} (h : gb s (x : Int) = true) (k : Nat) : goC p k x s = ([], s) := by
  cases k with
  | zero => rfl
  | succ k => simp [goC, h]
theorem goC_step {p : List Int} {s : List Bool} {x : Nat} (hx : x < s.length) (h : ¬ gb s (x : Int) = true) : goC p (s.count false) x s = ((x : Int) :: (goC p ((s.set x true).count false) (gi p x).toNat (s.set x true)).1, (goC p ((s.set x true).count false) (gi p x).toNat (s.set x true)).2) := by
  rw [← count_seen hx h]
  simp [goC, h]
theorem goC_len {p : List Int} : ∀ (k x : Nat) (s : List Bool), (goC p k x s).2.length = s.length
  | 0, _, _ => rfl
  | k + 1, x, s => by
    unfold goC
    split
    · rfl
    · show (goC p k _ _).2.length = _
      rw [goC_len k, List.length_set]
theorem goC_le {p : List Int} : ∀ (k x : Nat) (s : List Bool), (goC p k x s).1.length ≤ k
  | 0, _, _ => Nat.le_refl _
  | k + 1, x, s => by
    unfold goC
    split
    · exact Nat.zero_le _
    · show (goC p k _ _).1.length + 1 ≤ _
      have := goC_le (p := p) k (gi p x).toNat (s.set x true)
      omega

/-- all cycles from some points on -/
def cycs (p : List Int) : List Nat → List Bool → List (List Int)
  | [], _ => []
  | i :: is, s => (if (goC p (s.count false) i s).1 = [] then [] else [(goC p (s.count false) i s).1]) ++ cycs p is (goC p (s.count false) i s).2
theorem cycs_le {p : List Int} : ∀ (is : List Nat) (s : List Bool), (cycs p is s).length ≤ is.length
  | [], _ => Nat.le_refl _
  | i :: is, s => by
    have := cycs_le (p := p) is (goC p (s.count false) i s).2
    unfold cycs
    rw [List.length_append, List.length_cons]
    split <;> simp <;> omega
/-- the cycles of n points -/
def cyAll (p : List Int) (n : Nat) : List (List Int) := cycs p (List.range n) (List.replicate n false)
def lenAll (p : List Int) (n : Nat) : List Int := (cyAll p n).map fun c => (c.length : Int)
theorem cyAll_le (p : List Int) (n : Nat) : (cyAll p n).length ≤ n := by
  have := cycs_le (p := p) (List.range n) (List.replicate n false)
  rwa [List.length_range] at this
theorem lenAll_le (p : List Int) (n : Nat) : (lenAll p n).length ≤ n := by
  unfold lenAll; rw [List.length_map]; exact cyAll_le p n
theorem range_drop (n i : Nat) (h : i < n) : List.range' i (n - i) = i :: List.range' (i + 1) (n - (i + 1)) := by
  obtain ⟨m, hm⟩ : ∃ m, n - i = m + 1 := ⟨n - i - 1, by omega⟩
  rw [hm, show n - (i + 1) = m by omega]
  rfl
theorem cyAll_eq (p : List Int) (n : Nat) : cyAll p n = cycs p (List.range' 0 (n - 0)) (List.replicate n false) := by
  unfold cyAll
  rw [List.range_eq_range']
  rfl
theorem cycs_step {p : List Int} {n i : Nat} (h : i < n) (s : List Bool) : cycs p (List.range' i (n - i)) s = (if (goC p (s.count false) i s).1 = [] then [] else [(goC p (s.count false) i s).1]) ++ cycs p (List.range' (i + 1) (n - (i + 1))) (goC p (s.count false) i s).2 := by
  rw [range_drop n i h]; rfl
theorem cycs_end {p : List Int} {n : Nat} (s : List Bool) : cycs p (List.range' n (n - n)) s = [] := by
  rw [Nat.sub_self]; rfl

/-! ascending lists -/
def Asc (l : List Int) : Prop := l.Pairwise (· ≤ ·)
def srt (l : List Int) : List Int := l.mergeSort fun x y => decide (x ≤ y)
theorem srt_perm (l : List Int) : (srt l).Perm l := List.mergeSort_perm _ _
theorem srt_asc (l : List Int) : Asc (srt l) := by
  have := List.pairwise_mergeSort (le := fun x y : Int => decide (x ≤ y)) (fun a b c h1 h2 => by simp at h1 h2 ⊢; omega) (fun a b => by simp; omega) l
  exact this.imp fun h => by simpa using h
theorem asc_unique {l l' : List Int} (h : l.Perm l') (h1 : Asc l) (h2 : Asc l') : l = l' :=
  List.Perm.eq_of_pairwise (le := (· ≤ ·)) (fun a b _ _ h1 h2 => by omega) h1 h2 h
theorem asc_srt {l l' : List Int} (h : l.Perm l') (h1 : Asc l) : l = srt l' := asc_unique (h.trans (srt_perm l').symm) h1 (srt_asc l')
/-- a number put in where all ahead are less, and the one there is not -/
theorem asc_put {out : List Int} {a : Nat} {v : Int} (h : Asc out) (ha : a ≤ out.length) (hl : ∀ j : Nat, j < a → gi out (j : Int) < v) (hg : a < out.length → v ≤ gi out (a : Int)) : Asc (out.take a ++ (v :: out.drop a)) := by
  have key : ∀ j (hj : j < out.length), gi out (j : Int) = out[j] := fun j hj => by simp [gi, List.getD_eq_getElem?_getD, List.getElem?_eq_getElem hj]
  have hidx : ∀ i j (hi : i < out.length) (hj : j < out.length), i ≤ j → out[i] ≤ out[j] := fun i j hi hj hij => by
    by_cases e : i = j
    · subst e; exact Int.le_refl _
    · exact (List.pairwise_iff_getElem.1 h) i j hi hj (by omega)
  unfold Asc
  rw [List.pairwise_append, List.pairwise_cons]
  refine ⟨h.sublist (List.take_sublist _ _), ⟨fun x hx => ?_, h.sublist (List.drop_sublist _ _)⟩, fun x hx y hy => ?_⟩
  · obtain ⟨j, hj, rfl⟩ := List.mem_iff_getElem.1 hx
    rw [List.length_drop] at hj
    rw [List.getElem_drop]
    have h1 := hg (by omega)
    rw [key a (by omega)] at h1
    exact Int.le_trans h1 (hidx _ _ (by omega) (by omega) (by omega))
  · obtain ⟨j, hj, rfl⟩ := List.mem_iff_getElem.1 hx
    rw [List.length_take] at hj
    rw [List.getElem_take]
    have hxv : out[j] < v := by rw [← key j (by omega)]; exact hl j (by omega)
    rcases List.mem_cons.1 hy with rfl | hy
    · omega
    · obtain ⟨m, hm, rfl⟩ := List.mem_iff_getElem.1 hy
      rw [List.length_drop] at hm
      rw [List.getElem_drop]
      exact hidx _ _ (by omega) (by omega) (by omega)
theorem put_perm {out : List Int} {a : Nat} {v : Int} : (out.take a ++ (v :: out.drop a)).Perm (out ++ [v]) := by
  have h1 : (out.take a ++ (v :: out.drop a)).Perm (v :: (out.take a ++ out.drop a)) := List.perm_middle
  rw [List.take_append_drop] at h1
  exact h1.trans (List.perm_append_comm (l₁ := [v]))
end Go.Proofs.Ytgobjpcankaicaa.Vc
/-
  The walks of the reference's runs of a word over flags, and of the lengths of a word. Conditions: as each states them.
-/
namespace Go.Proofs.Ytgobjpcankaicaa.Vc
open Go.RowKit

/-- where a word leads from x -/
def runW (xss : List (List Int)) (x : Int) (ws : List Int) : Int := ws.foldl (fun x i => gi (gl xss i) x) x
/-- what a word does -/
def doesL (xss : List (List Int)) (F : Nat) (ws : List Int) : List Int := (List.range F).map fun x : Nat => runW xss (x : Int) ws
theorem runW_take {xss : List (List Int)} {x : Int} {ws : List Int} {k : Nat} (hk : k < ws.length) : runW xss x (ws.take (k + 1)) = gi (gl xss (gi ws k)) (runW xss x (ws.take k)) := by
  unfold runW
  rw [List.take_succ_eq_append_getElem hk, List.foldl_append]
  simp [gi, List.getD_eq_getElem?_getD, List.getElem?_eq_getElem hk]
theorem runW_lt {F : Nat} {xss : List (List Int)} (hs : Sys F xss) : ∀ (ws : List Int) (x : Int), (∀ i ∈ ws, 0 ≤ i ∧ i < xss.length) → 0 ≤ x → x < F → 0 ≤ runW xss x ws ∧ runW xss x ws < F
  | [], _, _, h0, h1 => ⟨h0, h1⟩
  | i :: ws, x, hw, h0, h1 => by
    have hi := hw i (by simp)
    have hg := (hs _ (gl_in hi.1 hi.2)).2 x h0 h1
    exact runW_lt hs ws _ (fun j hj => hw j (by simp [hj])) hg.1 hg.2
theorem gi_does {xss : List (List Int)} {F : Nat} {ws : List Int} {x : Int} (h0 : 0 ≤ x) (hx : x < F) : gi (doesL xss F ws) x = runW xss x ws := by
  have h : x.toNat < F := by omega
  have e : ((x.toNat : Nat) : Int) = x := by omega
  simp [gi, doesL, List.getD_eq_getElem?_getD, h, e]
theorem mem_gi {l : List Int} {a b : Int} (h : ∀ k : Nat, k < l.length → a ≤ gi l k ∧ gi l k < b) : ∀ i ∈ l, a ≤ i ∧ i < b := fun i hi => by
  obtain ⟨k, hk, rfl⟩ := List.mem_iff_getElem.1 hi
  have := h k hk
  simpa [gi, List.getD_eq_getElem?_getD, List.getElem?_eq_getElem hk] using this
theorem does_lt {F : Nat} {xss : List (List Int)} (hs : Sys F xss) {ws : List Int} (hw : ∀ i ∈ ws, 0 ≤ i ∧ i < xss.length) {x : Nat} (hx : x < F) : 0 ≤ gi (doesL xss F ws) x ∧ gi (doesL xss F ws) x < F := by
  rw [gi_does (by omega) (by omega)]
  exact runW_lt hs ws _ hw (by omega) (by omega)

/-- rows of two kinds of elements lie apart -/
theorem St.beside {w0 w : World} {k : Ck} {ks : List Ck} (h1 : St w0 w ks) (h2 : St w0 w [k]) (he : ∀ k' ∈ ks, k'.e ≠ k.e) (hM : isM k.vs = false := by first | rfl | exact isM_I _ | exact isM_B _ | exact isM_R _) : St w0 w (k :: ks) := by
  refine ⟨h1.below, fun x hx => ?_, ?_⟩
  · rcases List.mem_cons.1 hx with rfl | hx
    · exact h2.own _ (by simp)
    · exact h1.own _ hx
  · rw [List.filterMap_cons]
    split
    · exact h1.apart
    · rename_i g hg
      rw [List.nodup_cons]
      refine ⟨fun hm => ?_, h1.apart⟩
      obtain ⟨k', hk', hg'⟩ := List.mem_filterMap.1 hm
      have o1 := h2.own k (by simp)
      have o2 := h1.own k' hk'
      have find : ∀ {k : Ck}, OwnC w0.heap.size w k → k.blk = some g → ∃ cur, w.heap[g]? = some (.cells cur k.e (0, 0)) := fun {k} o hb => by
        obtain ⟨_, _, _, h4⟩ := o
        rcases h4 with ⟨h0, _⟩ | ⟨g', o, cur, hA, _, hh, _⟩
        · simp [Ck.blk, h0] at hb
        · simp [Ck.blk, hA] at hb
          subst hb
          exact ⟨cur, hh⟩
      obtain ⟨c1, e1⟩ := find (o1.toC hM) hg
      rcases o2.cases with ⟨_, _, _, g2, es2, cl2, hA2, _, hh2, _⟩ | ⟨_, o2⟩
      · simp [Ck.blk, hA2] at hg'
        subst hg'
        rw [e1] at hh2
        cases hh2
      obtain ⟨c2, e2⟩ := find o2 hg'
      rw [e1] at e2
      simp only [Option.some.injEq, Obj.cells.injEq] at e2
      exact he k' hk' e2.2.1.symm

/-- a maniplex with edges -/
def Grph (xss : List (List Int)) : Prop := Mani xss ∧ 2 ≤ xss.length
instance (xss : List (List Int)) : Decidable (Grph xss) := by unfold Grph; exact inferInstance

theorem l18Is_c (A : Option Addr) (n c : Nat) (rs : List SlV) (xss : List (List Int)) (w : World) (hR : RowsI w A n rs xss) (hn : n ≤ 9223372036854775807) :
    Ret Try.prog 56 [.agg #[.slice A n c]] w (fun v w' => v = .bool (decide (Grph xss)) ∧ St w w' []) := by
  have hl := hR.len
  refine Ret.of_cd Try.func56 rfl Try.ntmps56 rfl (post1 rfl) ?_
  refine Cd.seq ?_
  refine Cd.region ?_
  -- stop: BOX 24 t0=m -> 1
  refine Ops.box1 (St.refl w) rfl rfl ?_
  intro Ab w1 hS
  refine Ops.mv_bool rfl rfl rfl ?_
  refine Ops.nil ?_
  refine thenQ_n ?_
  refine Cd.seq ?_
  refine Cd.region ?_
  -- stop: LOAD 24 t1=m -> 3
  refine Ops.ld_agg 0 (hS.rd 0 rfl) rfl rfl rfl ?_
  refine Ops.call (l02Is_c A n c rs xss _ (hS.oldRows hR) hn) rfl rfl rfl ?_
  rintro _ w2 ⟨rfl, hst⟩
  have hS := hS.later hst.below
  refine Ops.mv_bool rfl rfl rfl ?_
  -- stop: guard 5
  refine Ops.split_p 5 rfl (fun h => ?_) (fun h => ?_)
  · refine Ops.rung rfl rfl rfl ?_
    -- stop: FIELDADDR 24 t1=m 0 -> 6
    refine Ops.fld (hS.rd 0 rfl) rfl rfl rfl rfl inferInstance ?_
    refine Ops.rung rfl rfl rfl ?_
    -- stop: LOAD 22 t6 -> 7
    refine Ops.ldf_s (hS.rd 0 rfl) rfl rfl rfl rfl rfl ?_
    refine Ops.rung rfl rfl rfl ?_
    refine Ops.len rfl rfl ?_
    refine Ops.rung rfl rfl rfl ?_
    refine Ops.geq rfl rfl rfl ?_
    refine Ops.pick_t rfl rfl rfl ?_
    refine Ops.mv_bool rfl rfl rfl ?_
    refine Ops.nil ?_
    refine thenQ_n ?_
    refine Cd.ret ?_
    refine ret1_b rfl ?_
    -- stop: end
    exact ⟨by simp [Grph, h, hl]; omega, hS.none⟩
  · refine Ops.skipg rfl rfl rfl rfl rfl ?_
    refine Ops.skipg rfl rfl rfl rfl rfl ?_
    refine Ops.skipg rfl rfl rfl rfl rfl ?_
    refine Ops.skipg rfl rfl rfl rfl rfl ?_
    refine Ops.pick_f rfl rfl rfl ?_
    refine Ops.mv_bool rfl rfl rfl ?_
    refine Ops.nil ?_
    refine thenQ_n ?_
    refine Cd.ret ?_
    refine ret1_b rfl ?_
    -- stop: end
    exact ⟨by simp [Grph, h], hS.none⟩

theorem l02Flags_c (A : Option Addr) (n c : Nat) (rs : List SlV) (xss : List (List Int)) (w : World) (hR : RowsI w A n rs xss) (hn : 0 < n) :
    Ret Try.prog 119 [.agg #[.slice A n c]] w (fun v w' => v = .int .i64 ((gl xss 0).length : Int) ∧ St w w' []) := by
  refine Ret.of_cd Try.func119 rfl Try.ntmps119 rfl (post1 rfl) ?_
  refine Cd.seq ?_
  refine Cd.region ?_
  -- stop: BOX 24 t0=m -> 1
  refine Ops.box1 (St.refl w) rfl rfl ?_
  intro Ab w1 hS
  have hR1 := hS.oldRows hR
  have e0 : (gl xss 0).length = (rg rs 0).n := hR.rowLen (by omega) (by omega)
  refine Ops.mv_int rfl rfl rfl ?_
  refine Ops.nil ?_
  refine thenQ_n ?_
  refine Cd.seq ?_
  refine Cd.region ?_
  -- stop: FIELDADDR 24 t1=m 0 -> 3
  refine Ops.fld (hS.rd 0 rfl) rfl rfl rfl rfl inferInstance ?_
  refine Ops.ldf_s (hS.rd 0 rfl) rfl rfl rfl rfl rfl ?_
  refine Ops.idx hR1.top.2 rfl rfl rfl (by omega) (by omega) ?_
  refine Ops.ld_sl hR1.top rfl (by omega) rfl rfl ?_
  refine Ops.len rfl rfl ?_
  refine Ops.mv_int rfl rfl rfl ?_
  refine Ops.nil ?_
  refine thenQ_n ?_
  refine Cd.ret ?_
  refine ret1_i rfl ?_
  -- stop: end
  exact ⟨by rw [e0], hS.none⟩

end Go.Proofs.Ytgobjpcankaicaa.Vc
/-
  The walk of the reference's lengths of a word. Conditions: as it states them.
-/
namespace Go.Proofs.Ytgobjpcankaicaa.Vc
open Go.RowKit

theorem goC_fst_le {p : List Int} {x : Nat} {s : List Bool} {F : Nat} (hs : s.length = F) : (goC p (s.count false) x s).1.length ≤ F := by
  have h1 := goC_le (p := p) (s.count false) x s
  have h2 : s.count false ≤ s.length := List.count_le_length
  omega

theorem RdI.drop {w : World} {A : Option Addr} {n c l : Nat} {xs : List Int} (h : RdI w A n xs) (hl : l ≤ n) (hc : n ≤ c) : RdI w (cutAt A c l) (n - l) (xs.drop l) := by
  have := h.cut (l := l) (h := n) (c := c) hl (Nat.le_refl _) hc
  rwa [List.take_of_length_le (by rw [List.length_drop, h.1]; omega)] at this
theorem RdI.take {w : World} {A : Option Addr} {n l : Nat} {xs : List Int} (h : RdI w A n xs) (hl : l ≤ n) : RdI w A l (xs.take l) := by
  have := h.cut (l := 0) (h := l) (c := 0) (Nat.zero_le _) hl
  refine ⟨by rw [List.length_take, h.1]; omega, fun k hk => ?_⟩
  obtain ⟨q, h1, h2⟩ := h.2 k (by omega)
  exact ⟨q, h1, by rw [h2]; simp [List.getElem?_take, hk, List.getD_eq_getElem?_getD]⟩

end Go.Proofs.Ytgobjpcankaicaa.Vc
