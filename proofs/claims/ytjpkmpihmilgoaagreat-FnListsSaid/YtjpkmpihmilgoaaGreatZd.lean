/-
  The texts F1, F2, Cyc, C1, C2 in one. Conditions: as each part states them.
-/
import Derived.Test.YtjpkmpihmilgoaaGreatZc
import Derived.Test.YtjpkmpihmilgoaaGreatZb
import Derived.Test.YtjpkmpihmilgoaaGreatZa
/-
  The walks of the reference's forms. Conditions: as each states them.
-/
namespace Go.Proofs.YtjpkmpihmilgoaaGreat.Vc
open Go.RowKit

section
variable {P : Program} {N : Nat} {ops : Array Oper} {K : Env → World → Prop} {rest : List Oper} {e : Env} {w : World} {d : Nat} {ty : TypeId} {pos : String} {af : Array Edge}
theorem Ops.bld0 {t : TypeId} {f0 : Field} {z0 zf : Value} {b bf : Nat} [Und P t (.struct #[f0])] [Inf P t (.agg #[z0]) 1 b] (hI : Inf P f0.type zf 1 bf) (hb : Nat.blt d N = true)
    (hK : Ops P N ops K rest (upd e d (.agg #[z0])) w) : Ops P N ops K (⟨some d, .build t #[], ty, pos, af, none⟩ :: rest) e w := by
  obtain ⟨inf, hi, hz0, hs, hby⟩ := Inf.get P t
  obtain ⟨inf', hi', hz0', hs', hby'⟩ := hI.get P f0.type
  have ez : (Value.agg #[z0]).cells = #[z0] := rfl
  refine .val (w' := w) ?_ hb hK
  simp [execOp, Instr.build, run_underlying (Und.out (P := P) (t := t)), sizeOf, typeInfo, zeroValue, hi, hz0, hs, hi', hs', ez, Instr.fill]
end

theorem l01Back_c (A : Option Addr) (n c : Nat) (p : List Int) (w : World) (hP : RdI w A n p) (hn : n ≤ 1000000000) (hp : ∀ k : Nat, k < n → 0 ≤ gi p k ∧ gi p k < n) :
    Ret Tryz.prog 204 [.slice A n c] w (fun v w' => ∃ A', v = .slice A' n n ∧ St w w' [CkI 2 A' n n (backI n p)]) := by
  have hpl := hP.1
  refine Ret.of_cd Tryz.func204 rfl Tryz.ntmps204 rfl (post1 rfl) ?_
  refine Cd.seq ?_
  refine Cd.region ?_
  refine Ops.mv_sl rfl rfl rfl ?_
  refine Ops.nil ?_
  refine thenQ_n ?_
  refine Cd.seq ?_
  refine Cd.region ?_
  refine Ops.mv_sl rfl rfl rfl ?_
  refine Ops.len rfl rfl ?_
  refine Ops.mkI n (St.refl w) rfl rfl (by omega) ?_
  intro A1 w1 hS1
  refine Ops.mv_sl rfl rfl rfl ?_
  refine Ops.nil ?_
  refine thenQ_n ?_
  refine Cd.seq ?_
  refine Cd.seq ?_
  refine Cd.region ?_
  refine Ops.mv_int rfl rfl rfl ?_
  refine Ops.nil ?_
  refine thenQ_n ?_
  refine Cd.block ?_
  refine Cd.loop (α := Nat) (fun k => [(0, .slice A n c), (3, .slice A1 n n), (4, .int .i64 (k : Int))]) (fun k w' => St w w' [CkI 2 A1 n n (scat (List.replicate n 0) (fun k => gi p k) (fun k => (k : Int)) k)] ∧ k ≤ n) (fun k => n - k) 0 ⟨rfl, rfl, rfl, trivial⟩ ⟨hS1, Nat.zero_le _⟩ ?_
  rintro k e w2 ⟨hS2, hk⟩
  have hP2 := hS2.oldI hP
  refine Cd.seq ?_
  refine Cd.seq ?_
  refine Cd.region ?_
  refine Ops.mv_int rfl rfl rfl ?_
  refine Ops.mv_sl rfl rfl rfl ?_
  refine Ops.len rfl rfl ?_
  refine Ops.lss rfl rfl rfl ?_
  refine Ops.nil ?_
  refine thenQ_n ?_
  refine Cd.cond_p _ rfl (fun h1 => ?_) (fun h1 => ?_)
  · have hpk := hp k (by omega)
    refine Cd.skip ?_
    refine thenQ_n ?_
    refine Cd.seq ?_
    refine Cd.block ?_
    refine Cd.region ?_
    refine Ops.mv_sl rfl rfl rfl ?_
    refine Ops.mv_sl rfl rfl rfl ?_
    refine Ops.mv_int rfl rfl rfl ?_
    refine Ops.idx hP2.2 rfl rfl rfl (by omega) (by omega) ?_
    refine Ops.ld_int hP2 rfl (by omega) rfl rfl ?_
    refine Ops.mv_int rfl rfl rfl ?_
    refine Ops.idx (hS2.rdI 0 rfl).2 rfl rfl rfl (by omega) (by omega) ?_
    refine Ops.st_int 0 hS2 rfl rfl rfl (by omega) ?_
    intro w3 hS3
    refine Ops.nil ?_
    refine blockQ_n ?_
    refine thenQ_n ?_
    refine Cd.region ?_
    refine Ops.mv_int rfl rfl rfl ?_
    refine Ops.add rfl rfl rfl (by omega) ?_
    refine Ops.mv_int rfl rfl rfl ?_
    refine Ops.nil ?_
    refine thenQ_n ?_
    exact ⟨k + 1, by show n - (k + 1) < n - k; omega, ⟨rfl, rfl, rfl, trivial⟩, hS3, by omega⟩
  · refine Cd.exit ?_
    refine thenQ_x ?_
    refine thenQ_x ?_
    refine blockQ_x ?_
    refine thenQ_n ?_
    refine Cd.seq ?_
    refine Cd.region ?_
    refine Ops.mv_sl rfl rfl rfl ?_
    refine Ops.mv_sl rfl rfl rfl ?_
    refine Ops.nil ?_
    refine thenQ_n ?_
    refine Cd.ret ?_
    refine ret1_s rfl ?_
    have hkn : k = n := by omega
    subst hkn
    refine ⟨A1, rfl, ?_⟩
    unfold backI
    rw [hpl]
    exact hS2

theorem l02Numbers_c (A : Option Addr) (n c : Nat) (rs : List SlV) (xss : List (List Int)) (N : Nat) (pt : Int) (w : World) (hR : RowsI w A n rs xss) (hn : n ≤ 9223372036854775807) (hs : Sys N xss) (hN : N ≤ 1000000) (h0 : 0 ≤ pt) (h1 : pt < N) (hP : Prm N (orbit N xss pt)) :
    Ret Tryz.prog 174 [.agg #[.slice A n c], .int .i64 pt] w (fun v w' => ∃ A', v = .slice A' N N ∧ St w w' [CkI 2 A' N N (backI N (orbit N xss pt))]) := by
  refine Ret.of_cd Tryz.func174 rfl Tryz.ntmps174 rfl (post1 rfl) ?_
  refine Cd.seq ?_
  refine Cd.region ?_
  refine Ops.box1 (St.refl w) rfl rfl ?_
  intro Ab w1 hS1
  refine Ops.mv_sl rfl rfl rfl ?_
  refine Ops.nil ?_
  refine thenQ_n ?_
  refine Cd.seq ?_
  refine Cd.region ?_
  refine Ops.fld (hS1.rd 0 rfl) rfl rfl rfl rfl inferInstance ?_
  refine Ops.ldf_s (hS1.rd 0 rfl) rfl rfl rfl rfl rfl ?_
  refine Ops.mv_int rfl rfl rfl ?_
  refine Ops.call (l01Orbit_c A n c rs xss N pt _ (hS1.oldRows hR) hn hs (by omega) h0 h1) rfl rfl rfl ?_
  rintro _ w2 ⟨A2, c2, rfl, hst⟩
  rw [hP.len] at hst ⊢
  have hS2 := hS1.none.call hst
  refine Ops.mv_sl rfl rfl rfl ?_
  refine Ops.nil ?_
  refine thenQ_n ?_
  refine Cd.seq ?_
  refine Cd.region ?_
  refine Ops.mv_sl rfl rfl rfl ?_
  refine Ops.call (l01Back_c A2 N c2 _ _ (hS2.rdI 0 rfl) (by omega) (fun k hk => hP.rng hk)) rfl rfl rfl ?_
  rintro _ w3 ⟨A3, rfl, hst3⟩
  refine Ops.mv_sl rfl rfl rfl ?_
  refine Ops.nil ?_
  refine thenQ_n ?_
  refine Cd.ret ?_
  refine ret1_s rfl ?_
  exact ⟨A3, rfl, (hS2.none).call hst3⟩

theorem l02Renumber_c (A : Option Addr) (n c : Nat) (rs : List SlV) (xss : List (List Int)) (N : Nat) (Ap : Option Addr) (cp : Nat) (p : List Int) (w : World) (hR : RowsI w A n rs xss) (hn : n ≤ 1000000) (hs : Sys N xss) (hN : N ≤ 1000000) (hP : RdI w Ap N p) (hp : ∀ x : Int, 0 ≤ x → x < N → 0 ≤ gi p x ∧ gi p x < N) :
    Ret Tryz.prog 173 [.agg #[.slice A n c], .slice Ap N cp] w (fun v w' => ∃ A' c' rs', v = .agg #[.slice A' n c'] ∧ rs'.length = n ∧ St w w' (mat 34 2 A' n c' rs' (xss.map (renI N p)))) := by
  have hpl := hP.1
  have hxl := hR.len
  refine Ret.of_cd Tryz.func173 rfl Tryz.ntmps173 rfl (postc rfl rfl) ?_
  refine Cd.seq ?_
  refine Cd.region ?_
  refine Ops.box1 (St.refl w) rfl rfl ?_
  intro Ab w1 hS1
  refine Ops.new1 hS1 rfl ?_
  intro Ac w2 hS2
  refine Ops.nil ?_
  refine thenQ_n ?_
  refine Cd.seq ?_
  refine Cd.region ?_
  refine Ops.bld0 (by exact inferInstance) rfl ?_
  refine Ops.new1 hS2 rfl ?_
  intro Ad w3 hS3
  refine Ops.st_agg 1 0 hS3 rfl rfl rfl rfl rfl rfl rfl ?_
  intro w4 hS4
  have hS4 : St w w4 (Bx 32 1 Ad [.slice none 0 0] :: Bx 32 1 Ac [.slice none 0 0] :: Bx 32 1 Ab [.slice A n c] :: []) := hS4
  have hS0 : St w w4 (Bx 32 1 Ad [.slice none 0 0] :: Bx 32 1 Ac [.slice none 0 0] :: Bx 32 1 Ab [.slice A n c] :: CkR 34 none 0 0 [] :: []) :=
    (hS4.nil 34).perm (List.perm_append_comm (l₁ := [_]) (l₂ := [_, _, _]))
  refine Ops.nil ?_
  refine thenQ_n ?_
  refine Cd.seq ?_
  refine Cd.seq ?_
  refine Cd.region ?_
  refine Ops.mv_int rfl rfl rfl ?_
  refine Ops.nil ?_
  refine thenQ_n ?_
  refine Cd.block ?_
  refine Cd.loop (α := Nat × Option Addr × Nat × List SlV) (fun s => [(1, .slice Ap N cp), (2, .pointer Ab), (4, .pointer Ac), (5, .pointer Ad), (6, .int .i64 (s.1 : Int))]) (fun s w' => St w w' (Bx 32 1 Ad [.slice s.2.1 s.1 s.2.2.1] :: Bx 32 1 Ac [.slice none 0 0] :: Bx 32 1 Ab [.slice A n c] :: CkR 34 s.2.1 s.1 s.2.2.1 s.2.2.2 :: rowsCk 2 s.2.2.2 ((xss.map (renI N p)).take s.1)) ∧ s.1 ≤ n ∧ s.2.2.2.length = s.1) (fun s => n - s.1) (0, none, 0, []) ⟨rfl, rfl, rfl, rfl, rfl, trivial⟩ ⟨hS0, Nat.zero_le _, rfl⟩ ?_
  rintro ⟨i, A3, c3, rs1⟩ e w5 ⟨hS5, hi, hlen⟩
  dsimp only at hS5 hi hlen ⊢
  refine Cd.seq ?_
  refine Cd.seq ?_
  refine Cd.region ?_
  refine Ops.mv_int rfl rfl rfl ?_
  refine Ops.fld (hS5.rd 2 rfl) rfl rfl rfl rfl inferInstance ?_
  refine Ops.ldf_s (hS5.rd 2 rfl) rfl rfl rfl rfl rfl ?_
  refine Ops.len rfl rfl ?_
  refine Ops.lss rfl rfl rfl ?_
  refine Ops.nil ?_
  refine thenQ_n ?_
  refine Cd.cond_p _ rfl (fun h1 => ?_) (fun h1 => ?_)
  · have hi' : i < n := by omega
    have hx : i < xss.length := by omega
    refine Cd.skip ?_
    refine thenQ_n ?_
    refine Cd.seq ?_
    refine Cd.block ?_
    refine Cd.seq ?_
    refine Cd.region ?_
    refine Ops.mv_sl rfl rfl rfl ?_
    refine Ops.len rfl rfl ?_
    refine Ops.mkI N hS5 rfl rfl (by omega) ?_
    intro A7 w6 hS6
    refine Ops.mv_sl rfl rfl rfl ?_
    refine Ops.nil ?_
    refine thenQ_n ?_
    refine Cd.seq ?_
    refine Cd.seq ?_
    refine Cd.region ?_
    refine Ops.mv_int rfl rfl rfl ?_
    refine Ops.nil ?_
    refine thenQ_n ?_
    refine Cd.block ?_
    have e2 : gl xss i = xss[i] := by simp [gl, List.getD_eq_getElem?_getD, List.getElem?_eq_getElem hx]
    have hmv := hs (gl xss i) (gl_in (by omega) (by omega))
    refine Cd.loop (α := Nat) (fun k => [(1, .slice Ap N cp), (2, .pointer Ab), (4, .pointer Ac), (5, .pointer Ad), (6, .int .i64 (i : Int)), (7, .slice A7 N N), (8, .int .i64 (k : Int))]) (fun k w' => St w w' (CkI 2 A7 N N (scat (List.replicate N 0) (fun f => gi p f) (fun f => gi p (gi (gl xss i) f)) k) :: Bx 32 1 Ad [.slice A3 i c3] :: Bx 32 1 Ac [.slice none 0 0] :: Bx 32 1 Ab [.slice A n c] :: CkR 34 A3 i c3 rs1 :: rowsCk 2 rs1 ((xss.map (renI N p)).take i)) ∧ k ≤ N) (fun k => N - k) 0 ⟨rfl, rfl, rfl, rfl, rfl, rfl, rfl, trivial⟩ ⟨hS6, Nat.zero_le _⟩ ?_
    rintro k e w7 ⟨hS7, hk⟩
    have hM := hS7.oldRows hR
    have hP7 := hS7.oldI hP
    refine Cd.seq ?_
    refine Cd.seq ?_
    refine Cd.region ?_
    refine Ops.mv_int rfl rfl rfl ?_
    refine Ops.mv_sl rfl rfl rfl ?_
    refine Ops.len rfl rfl ?_
    refine Ops.lss rfl rfl rfl ?_
    refine Ops.nil ?_
    refine thenQ_n ?_
    refine Cd.cond_p _ rfl (fun h2 => ?_) (fun h2 => ?_)
    · have hrow := hM.at_ (i := (i : Int)) (by omega) h1
      have hrn := hM.rowLen (k := (i : Int)) (by omega) h1
      have hv := hmv.2 (k : Int) (by omega) (by omega)
      have hpk := hp (k : Int) (by omega) (by omega)
      have hpv := hp _ hv.1 hv.2
      have hml := hmv.1
      have hB := hS7.rd 3 rfl
      have hO := hS7.rdI 0 rfl
      have hlt : (gi p (k : Int)).toNat < N := by omega
      refine Cd.skip ?_
      refine thenQ_n ?_
      refine Cd.seq ?_
      refine Cd.block ?_
      refine Cd.drawN [17] [.ex (.slice (A7) (N) (N)), .ex (.slice (Ap) (N) (cp)), .ex (.int .i64 ((k : Int))), .ex (.pointer (ptrAt (Ap) ((k : Int)).toNat)), .ex (.int .i64 (gi (p) ((k : Int)))), .ex (.slice (Ap) (N) (cp)), .ex (.pointer (ptrAt (Ab) 0)), .ex (.slice (A) (n) (c)), .ex (.int .i64 ((i : Int))), .ex (.pointer (ptrAt (A) ((i : Int)).toNat)), .ex (.slice ((rg (rs) ((i : Int))).a) ((rg (rs) ((i : Int))).n) ((rg (rs) ((i : Int))).c)), .ex (.int .i64 ((k : Int))), .ex (.pointer (ptrAt ((rg (rs) ((i : Int))).a) ((k : Int)).toNat)), .ex (.int .i64 (gi (gl xss (i : Int)) ((k : Int)))), .ex (.pointer (ptrAt (Ap) (gi (gl xss (i : Int)) ((k : Int))).toNat)), .ex (.int .i64 (gi (p) (gi (gl xss (i : Int)) ((k : Int))))), .ex (.pointer (ptrAt (A7) (gi (p) ((k : Int))).toNat)), .pr (fun _ w' => St w w' (CkI 2 A7 N N (scat (List.replicate N 0) (fun f => gi p f) (fun f => gi p (gi (gl xss i) f)) (k + 1)) :: Bx 32 1 Ad [.slice A3 i c3] :: Bx 32 1 Ac [.slice none 0 0] :: Bx 32 1 Ab [.slice A n c] :: CkR 34 A3 i c3 rs1 :: rowsCk 2 rs1 ((xss.map (renI N p)).take i)))] (by kernel_rfl) (by kernel_rfl) (List.forall_mem_cons.2 ⟨Yd.lasts_ex _, (List.forall_mem_cons.2 ⟨Yd.lasts_ex _, (List.forall_mem_cons.2 ⟨Yd.lasts_ex _, (List.forall_mem_cons.2 ⟨Yd.lasts_ex _, (List.forall_mem_cons.2 ⟨Yd.lasts_ex _, (List.forall_mem_cons.2 ⟨Yd.lasts_ex _, (List.forall_mem_cons.2 ⟨Yd.lasts_ex _, (List.forall_mem_cons.2 ⟨Yd.lasts_ex _, (List.forall_mem_cons.2 ⟨Yd.lasts_ex _, (List.forall_mem_cons.2 ⟨Yd.lasts_ex _, (List.forall_mem_cons.2 ⟨Yd.lasts_ex _, (List.forall_mem_cons.2 ⟨Yd.lasts_ex _, (List.forall_mem_cons.2 ⟨Yd.lasts_ex _, (List.forall_mem_cons.2 ⟨Yd.lasts_ex _, (List.forall_mem_cons.2 ⟨Yd.lasts_ex _, (List.forall_mem_cons.2 ⟨Yd.lasts_ex _, (List.forall_mem_cons.2 ⟨Yd.lasts_ex _, (List.forall_mem_cons.2 ⟨Yd.lasts_pr (fun v w w' h hb => h.later hb), (fun _ h => by cases h)⟩)⟩)⟩)⟩)⟩)⟩)⟩)⟩)⟩)⟩)⟩)⟩)⟩)⟩)⟩)⟩)⟩)⟩) ⟨?_, ?_, ?_, ?_, ?_, ?_, ?_, ?_, ?_, ?_, ?_, ?_, ?_, ?_, ?_, ?_, ?_, ?_, trivial⟩ ?_
      · intro e1 w1 cc hlo hhi hb0 hp hun hq
        show Ops _ _ _ _ _ _ _
        refine Ops.mv_sl rfl rfl rfl ?_
        refine Ops.nil ?_
        exact AfterN.dn rfl (Below.refl _ _) (by exact rfl)
      · intro e1 w1 cc hlo hhi hb0 hp hun hq
        show Ops _ _ _ _ _ _ _
        refine Ops.mv_sl rfl rfl rfl ?_
        refine Ops.nil ?_
        exact AfterN.dn rfl (Below.refl _ _) (by exact rfl)
      · intro e1 w1 cc hlo hhi hb0 hp hun hq
        show Ops _ _ _ _ _ _ _
        refine Ops.mv_int rfl rfl rfl ?_
        refine Ops.nil ?_
        exact AfterN.dn rfl (Below.refl _ _) (by exact rfl)
      · intro e1 w1 cc hlo hhi hb0 hp hun hq
        show Ops _ _ _ _ _ _ _
        replace hlo := le_of_lo hlo (b := 0) (by kernel_rfl)
        replace hhi := le_of_hi hhi (b := 0) (by kernel_rfl)
        obtain rfl : cc = 0 := by omega
        have hb := hb0 rfl
        refine Ops.idx (hP7.later hb).2 rfl rfl rfl (by omega) (by omega) ?_
        refine Ops.nil ?_
        exact AfterN.dn rfl (Below.refl _ _) (by exact rfl)
      · intro e1 w1 cc hlo hhi hb0 hp hun hq
        show Ops _ _ _ _ _ _ _
        replace hlo := le_of_lo hlo (b := 0) (by kernel_rfl)
        replace hhi := le_of_hi hhi (b := 0) (by kernel_rfl)
        obtain rfl : cc = 0 := by omega
        have hb := hb0 rfl
        refine Ops.ld_int (hP7.later hb) rfl (by omega) rfl rfl ?_
        refine Ops.nil ?_
        exact AfterN.dn rfl (Below.refl _ _) (by exact rfl)
      · intro e1 w1 cc hlo hhi hb0 hp hun hq
        show Ops _ _ _ _ _ _ _
        refine Ops.mv_sl rfl rfl rfl ?_
        refine Ops.nil ?_
        exact AfterN.dn rfl (Below.refl _ _) (by exact rfl)
      · intro e1 w1 cc hlo hhi hb0 hp hun hq
        show Ops _ _ _ _ _ _ _
        replace hlo := le_of_lo hlo (b := 0) (by kernel_rfl)
        replace hhi := le_of_hi hhi (b := 0) (by kernel_rfl)
        obtain rfl : cc = 0 := by omega
        have hb := hb0 rfl
        refine Ops.fld (hB.below hb) rfl rfl rfl rfl inferInstance ?_
        refine Ops.nil ?_
        exact AfterN.dn rfl (Below.refl _ _) (by exact rfl)
      · intro e1 w1 cc hlo hhi hb0 hp hun hq
        show Ops _ _ _ _ _ _ _
        replace hlo := le_of_lo hlo (b := 0) (by kernel_rfl)
        replace hhi := le_of_hi hhi (b := 0) (by kernel_rfl)
        obtain rfl : cc = 0 := by omega
        have hb := hb0 rfl
        refine Ops.ldf_s (hB.below hb) rfl rfl rfl rfl rfl ?_
        refine Ops.nil ?_
        exact AfterN.dn rfl (Below.refl _ _) (by exact rfl)
      · intro e1 w1 cc hlo hhi hb0 hp hun hq
        show Ops _ _ _ _ _ _ _
        refine Ops.mv_int rfl rfl rfl ?_
        refine Ops.nil ?_
        exact AfterN.dn rfl (Below.refl _ _) (by exact rfl)
      · intro e1 w1 cc hlo hhi hb0 hp hun hq
        show Ops _ _ _ _ _ _ _
        replace hlo := le_of_lo hlo (b := 0) (by kernel_rfl)
        replace hhi := le_of_hi hhi (b := 0) (by kernel_rfl)
        obtain rfl : cc = 0 := by omega
        have hb := hb0 rfl
        refine Ops.idx (hM.top.later hb).2 rfl rfl rfl (by omega) (by omega) ?_
        refine Ops.nil ?_
        exact AfterN.dn rfl (Below.refl _ _) (by exact rfl)
      · intro e1 w1 cc hlo hhi hb0 hp hun hq
        show Ops _ _ _ _ _ _ _
        replace hlo := le_of_lo hlo (b := 0) (by kernel_rfl)
        replace hhi := le_of_hi hhi (b := 0) (by kernel_rfl)
        obtain rfl : cc = 0 := by omega
        have hb := hb0 rfl
        refine Ops.ld_sl (hM.top.later hb) rfl (by omega) rfl rfl ?_
        refine Ops.nil ?_
        exact AfterN.dn rfl (Below.refl _ _) (by exact rfl)
      · intro e1 w1 cc hlo hhi hb0 hp hun hq
        show Ops _ _ _ _ _ _ _
        refine Ops.mv_int rfl rfl rfl ?_
        refine Ops.nil ?_
        exact AfterN.dn rfl (Below.refl _ _) (by exact rfl)
      · intro e1 w1 cc hlo hhi hb0 hp hun hq
        show Ops _ _ _ _ _ _ _
        replace hlo := le_of_lo hlo (b := 0) (by kernel_rfl)
        replace hhi := le_of_hi hhi (b := 0) (by kernel_rfl)
        obtain rfl : cc = 0 := by omega
        have hb := hb0 rfl
        refine Ops.idx (hrow.later hb).2 rfl rfl rfl (by omega) (by omega) ?_
        refine Ops.nil ?_
        exact AfterN.dn rfl (Below.refl _ _) (by exact rfl)
      · intro e1 w1 cc hlo hhi hb0 hp hun hq
        show Ops _ _ _ _ _ _ _
        replace hlo := le_of_lo hlo (b := 0) (by kernel_rfl)
        replace hhi := le_of_hi hhi (b := 0) (by kernel_rfl)
        obtain rfl : cc = 0 := by omega
        have hb := hb0 rfl
        refine Ops.ld_int (hrow.later hb) rfl (by omega) rfl rfl ?_
        refine Ops.nil ?_
        exact AfterN.dn rfl (Below.refl _ _) (by exact rfl)
      · intro e1 w1 cc hlo hhi hb0 hp hun hq
        show Ops _ _ _ _ _ _ _
        replace hlo := le_of_lo hlo (b := 0) (by kernel_rfl)
        replace hhi := le_of_hi hhi (b := 0) (by kernel_rfl)
        obtain rfl : cc = 0 := by omega
        have hb := hb0 rfl
        refine Ops.idx (hP7.later hb).2 rfl rfl rfl (by omega) (by omega) ?_
        refine Ops.nil ?_
        exact AfterN.dn rfl (Below.refl _ _) (by exact rfl)
      · intro e1 w1 cc hlo hhi hb0 hp hun hq
        show Ops _ _ _ _ _ _ _
        replace hlo := le_of_lo hlo (b := 0) (by kernel_rfl)
        replace hhi := le_of_hi hhi (b := 0) (by kernel_rfl)
        obtain rfl : cc = 0 := by omega
        have hb := hb0 rfl
        refine Ops.ld_int (hP7.later hb) rfl (by omega) rfl rfl ?_
        refine Ops.nil ?_
        exact AfterN.dn rfl (Below.refl _ _) (by exact rfl)
      · intro e1 w1 cc hlo hhi hb0 hp hun hq
        show Ops _ _ _ _ _ _ _
        replace hlo := le_of_lo hlo (b := 0) (by kernel_rfl)
        replace hhi := le_of_hi hhi (b := 0) (by kernel_rfl)
        obtain rfl : cc = 0 := by omega
        have hb := hb0 rfl
        refine Ops.idx (hO.later hb).2 rfl rfl rfl (by omega) (by omega) ?_
        refine Ops.nil ?_
        exact AfterN.dn rfl (Below.refl _ _) (by exact rfl)
      · intro e1 w1 cc hlo hhi hb0 hp hun hq
        show Ops _ _ _ _ _ _ _
        replace hlo := le_of_lo hlo (b := 0) (by kernel_rfl)
        replace hhi := le_of_hi hhi (b := 0) (by kernel_rfl)
        obtain rfl : cc = 0 := by omega
        have hb := hb0 rfl
        refine Ops.st_int 0 (hS7.later hb) rfl rfl rfl hlt ?_
        intro w9 hst
        refine Ops.nil ?_
        exact AfterT.st rfl hst
      intro u w8 _ hu
      have hS8 := hu 17 _ rfl (by kernel_rfl)
      refine blockQ_n ?_
      refine thenQ_n ?_
      refine Cd.region ?_
      refine Ops.mv_int rfl rfl rfl ?_
      refine Ops.add rfl rfl rfl (by omega) ?_
      refine Ops.mv_int rfl rfl rfl ?_
      refine Ops.nil ?_
      refine thenQ_n ?_
      exact ⟨k + 1, by show N - (k + 1) < N - k; omega, ⟨rfl, rfl, rfl, rfl, rfl, rfl, rfl, trivial⟩, hS8, by omega⟩
    · have hkN : k = N := by omega
      subst hkN
      refine Cd.exit ?_
      refine thenQ_x ?_
      refine thenQ_x ?_
      refine blockQ_x ?_
      refine thenQ_n ?_
      refine Cd.region ?_
      refine Ops.fld (hS7.rd 1 rfl) rfl rfl rfl rfl inferInstance ?_
      refine Ops.ldf_s (hS7.rd 1 rfl) rfl rfl rfl rfl rfl ?_
      refine Ops.mv_sl rfl rfl rfl ?_
      refine Ops.bs1R hS7 rfl rfl rfl ?_
      intro A9 w9 hS9
      refine Ops.appR 5 hS9 rfl (hS9.rdR 0 rfl) rfl rfl rfl (by omega) (by omega) rfl ?_
      intro A10 c10 w10 hS10
      have hS10 := hS10.tail
      refine Ops.fld (hS10.rd 1 rfl) rfl rfl rfl rfl inferInstance ?_
      refine Ops.stf 1 hS10 rfl rfl rfl rfl rfl ?_
      intro w11 hS11
      have hS11 : St w w11 (CkI 2 A7 k k (renI k p (gl xss i)) :: Bx 32 1 Ad [.slice A10 (i + 1) c10] :: Bx 32 1 Ac [.slice none 0 0] :: Bx 32 1 Ab [.slice A n c] :: CkR 34 A10 (i + 1) c10 (rs1 ++ [⟨A7, k, k⟩]) :: rowsCk 2 rs1 ((xss.map (renI k p)).take i)) := hS11
      refine Ops.nil ?_
      refine blockQ_n ?_
      refine thenQ_n ?_
      refine Cd.region ?_
      refine Ops.mv_int rfl rfl rfl ?_
      refine Ops.add rfl rfl rfl (by omega) ?_
      refine Ops.mv_int rfl rfl rfl ?_
      refine Ops.nil ?_
      refine thenQ_n ?_
      refine ⟨(i + 1, A10, c10, rs1 ++ [⟨A7, k, k⟩]), by show n - (i + 1) < n - i; omega, ⟨rfl, rfl, rfl, rfl, rfl, trivial⟩, ?_, hi', by simp [hlen]⟩
      show St w w11 (_ :: _ :: _ :: CkR _ A10 (i + 1) c10 (rs1 ++ [_]) :: rowsCk _ (rs1 ++ [_]) ((xss.map (renI k p)).take (i + 1)))
      rw [List.take_succ_eq_append_getElem (by rw [List.length_map]; exact hx), rowsCk_append (by simp [hlen]; omega), List.getElem_map, ← e2]
      refine hS11.perm ?_
      exact List.perm_append_comm (l₁ := [_]) (l₂ := _ :: _ :: _ :: _ :: rowsCk 2 rs1 ((xss.map (renI k p)).take i))
  · refine Cd.exit ?_
    refine thenQ_x ?_
    refine thenQ_x ?_
    refine blockQ_x ?_
    refine thenQ_n ?_
    refine Cd.seq ?_
    refine Cd.region ?_
    have hin : i = n := by omega
    subst hin
    rw [List.take_of_length_le (by rw [List.length_map]; omega)] at hS5
    refine Ops.ld_agg 0 (hS5.rd 0 rfl) rfl rfl rfl ?_
    refine Ops.st_agg 1 1 hS5 rfl rfl rfl rfl rfl rfl rfl ?_
    intro w6 hS6
    refine Ops.nil ?_
    refine thenQ_n ?_
    refine Cd.ret ?_
    skip
    refine retc_r rfl (hS6.rd 1 rfl) ?_
    exact ⟨A3, c3, rs1, rfl, hlen, hS6.sub (((List.sublist_cons_self _ _).trans (List.sublist_cons_self _ _)).trans (List.sublist_cons_self _ _))⟩
end Go.Proofs.YtjpkmpihmilgoaaGreat.Vc
/-
  The walks of forms on both sides. Conditions: as each states them.
-/
namespace Go.Proofs.YtjpkmpihmilgoaaGreat.Vc
open Go.RowKit

theorem Mani.prm {xss : List (List Int)} (hM : Mani xss) {f : Int} (h0 : 0 ≤ f) (hf : f < (gl xss 0).length) : Prm (gl xss 0).length (orbit (gl xss 0).length xss f) := by
  have hs := hM.2.2.1.sys
  have hi := hM.2.2.1.inj
  have h2 := hM.2.1
  obtain ⟨g, _, hm⟩ := orbit_spec hs h0 hf
  have hall := (orbit_all hs (by omega)).1 hM.2.2.2.2
  refine ⟨?_, g.nodup, g.range⟩
  have h1 := sub_len (seqI (gl xss 0).length) (orbit (gl xss 0).length xss f) (by
    unfold seqI
    rw [List.nodup_iff_pairwise_ne, List.pairwise_map]
    exact (List.nodup_iff_pairwise_ne.1 List.nodup_range).imp (fun h e => h (by omega))) (fun z hz => by
    have hz := seqI_mem.1 hz
    exact (hm z).2 ((Reach.symm hs hi (by omega) (by omega) (hall f h0 hf)).trans (hall z hz.1 hz.2)))
  rw [seqI_len] at h1
  have := g.len
  omega

theorem l02Form_c (A : Option Addr) (n c : Nat) (rs : List SlV) (xss : List (List Int)) (N : Nat) (f : Int) (w : World) (hR : RowsI w A n rs xss) (hM : Mani xss) (hN : N = (gl xss 0).length) (h0 : 0 ≤ f) (hf : f < N) :
    Ret Tryz.prog 133 [.agg #[.slice A n c], .int .i64 f] w (fun v w' => ∃ A' c' rs', v = .agg #[.slice A' n c'] ∧ rs'.length = n ∧ St w w' (mat 34 2 A' n c' rs' (formL N xss f))) := by
  subst hN
  have hP := hM.prm h0 hf
  have hs := hM.2.2.1.sys
  have h5 := hM.1
  have h40 := hM.2.1
  have hxl := hR.len
  have hfr : xss.map (renI (gl xss 0).length (backI (gl xss 0).length (orbit (gl xss 0).length xss f))) = formL (gl xss 0).length xss f := List.map_congr_left (fun mv _ => ren_row hP)
  have hbk : ∀ x : Int, 0 ≤ x → x < ((gl xss 0).length : Int) → 0 ≤ gi (backI (gl xss 0).length (orbit (gl xss 0).length xss f)) x ∧ gi (backI (gl xss 0).length (orbit (gl xss 0).length xss f)) x < ((gl xss 0).length : Int) := fun x h0 h1 => by
    obtain ⟨k, hk, _, hb⟩ := hP.backR h0 h1
    omega
  generalize hNe : (gl xss 0).length = N at *
  refine Ret.of_cd Tryz.func133 rfl Tryz.ntmps133 rfl (postc rfl rfl) ?_
  refine Cd.seq ?_
  refine Cd.region ?_
  refine Ops.box1 (St.refl w) rfl rfl ?_
  intro Ab w1 hS1
  refine Ops.new1 hS1 rfl ?_
  intro Ac w2 hS2
  refine Ops.nil ?_
  refine thenQ_n ?_
  refine Cd.seq ?_
  have hB := hS2.rd 1 rfl
  refine Cd.drawN [5] [.ex (.agg #[.slice (A) (n) (c)]), .ex (.agg #[.slice (A) (n) (c)]), .ex (.int .i64 (f)), .pr (fun v w' => ∃ A4, v = .slice A4 N N ∧ St w w' [CkI 2 A4 N N (backI N (orbit N xss f)), Bx 32 1 Ac [.slice none 0 0], Bx 32 1 Ab [.slice A n c]]), .pr (fun v w' => ∃ A4 c4 rs4, v = .agg #[.slice A4 n c4] ∧ rs4.length = n ∧ St w w' (Bx 32 1 Ac [.slice none 0 0] :: Bx 32 1 Ab [.slice A n c] :: mat 34 2 A4 n c4 rs4 (formL N xss f))), .pr (fun _ w' => ∃ A4 c4 rs4, rs4.length = n ∧ St w w' (Bx 32 1 Ac [.slice A4 n c4] :: Bx 32 1 Ab [.slice A n c] :: mat 34 2 A4 n c4 rs4 (formL N xss f)))] (by kernel_rfl) (by kernel_rfl) (List.forall_mem_cons.2 ⟨Yd.lasts_ex _, (List.forall_mem_cons.2 ⟨Yd.lasts_ex _, (List.forall_mem_cons.2 ⟨Yd.lasts_ex _, (List.forall_mem_cons.2 ⟨Yd.lasts_pr (fun v w w' h hb => by obtain ⟨A4, hv, hT⟩ := h; exact ⟨A4, hv, hT.later hb⟩), (List.forall_mem_cons.2 ⟨Yd.lasts_pr (fun v w w' h hb => by obtain ⟨A4, c4, rs4, hv, hl, hT⟩ := h; exact ⟨A4, c4, rs4, hv, hl, hT.later hb⟩), (List.forall_mem_cons.2 ⟨Yd.lasts_pr (fun v w w' h hb => by obtain ⟨A4, c4, rs4, hl, hT⟩ := h; exact ⟨A4, c4, rs4, hl, hT.later hb⟩), (fun _ h => by cases h)⟩)⟩)⟩)⟩)⟩)⟩) ⟨?_, ?_, ?_, ?_, ?_, ?_, trivial⟩ ?_
  · intro e1 w1 cc hlo hhi hb0 hp hun hq
    show Ops _ _ _ _ _ _ _
    replace hlo := le_of_lo hlo (b := 0) (by kernel_rfl)
    replace hhi := le_of_hi hhi (b := 0) (by kernel_rfl)
    obtain rfl : cc = 0 := by omega
    have hb := hb0 rfl
    refine Ops.ld_agg 0 (hB.below hb) rfl rfl rfl ?_
    refine Ops.nil ?_
    exact AfterN.dn rfl (Below.refl _ _) (by exact rfl)
  · intro e1 w1 cc hlo hhi hb0 hp hun hq
    show Ops _ _ _ _ _ _ _
    replace hlo := le_of_lo hlo (b := 0) (by kernel_rfl)
    replace hhi := le_of_hi hhi (b := 0) (by kernel_rfl)
    obtain rfl : cc = 0 := by omega
    have hb := hb0 rfl
    refine Ops.ld_agg 0 (hB.below hb) rfl rfl rfl ?_
    refine Ops.nil ?_
    exact AfterN.dn rfl (Below.refl _ _) (by exact rfl)
  · intro e1 w1 cc hlo hhi hb0 hp hun hq
    show Ops _ _ _ _ _ _ _
    refine Ops.mv_int rfl rfl rfl ?_
    refine Ops.nil ?_
    exact AfterN.dn rfl (Below.refl _ _) (by exact rfl)
  · intro e1 w1 cc hlo hhi hb0 hp hun hq
    show Ops _ _ _ _ _ _ _
    replace hlo := le_of_lo hlo (b := 0) (by kernel_rfl)
    replace hhi := le_of_hi hhi (b := 0) (by kernel_rfl)
    obtain rfl : cc = 0 := by omega
    have hb := hb0 rfl
    refine Ops.call (l02Numbers_c A n c rs xss N f _ ((hS2.later hb).oldRows hR) (by omega) hs (by omega) h0 hf hP) rfl rfl rfl ?_
    rintro _ w9 ⟨A4, rfl, hst⟩
    refine Ops.nil ?_
    exact AfterN.dn rfl hst.below ⟨A4, rfl, (hS2.later hb).call hst⟩
  · intro e1 w1 cc hlo hhi hb0 hp hun hq
    show Ops _ _ _ _ _ _ _
    replace hlo := le_of_lo hlo (b := 0) (by kernel_rfl)
    replace hhi := le_of_hi hhi (b := 0) (by kernel_rfl)
    obtain rfl : cc = 0 := by omega
    have hb := hb0 rfl
    obtain ⟨A4, h8, hT⟩ := (hp 3 _ _ (by kernel_rfl) rfl rfl (by kernel_rfl))
    have hb := hb0 rfl
    refine Ops.call (l02Renumber_c A n c rs xss N A4 N _ _ (hT.oldRows hR) (by omega) hs (by omega) (hT.rdI 0 rfl) hbk) rfl (by exact congrArg (fun v => [Value.agg #[.slice A n c], v]) h8) rfl ?_
    rintro _ w9 ⟨A5, c5, rs5, rfl, hl5, hst⟩
    refine Ops.nil ?_
    exact AfterN.dn rfl hst.below ⟨A5, c5, rs5, rfl, hl5, by rw [hfr] at hst; exact (hT.tail.call hst).perm List.perm_append_comm⟩
  · intro e1 w1 cc hlo hhi hb0 hp hun hq
    show Ops _ _ _ _ _ _ _
    replace hlo := le_of_lo hlo (b := 0) (by kernel_rfl)
    replace hhi := le_of_hi hhi (b := 0) (by kernel_rfl)
    obtain rfl : cc = 0 := by omega
    have hb := hb0 rfl
    obtain ⟨A4, c4, rs4, h9, hl, hT⟩ := (hp 4 _ _ (by kernel_rfl) rfl rfl (by kernel_rfl))
    refine Ops.st_agg 1 0 hT rfl rfl (by exact h9) rfl rfl rfl rfl ?_
    intro w9 hst
    refine Ops.nil ?_
    exact AfterT.st rfl ⟨A4, c4, rs4, hl, hst⟩
  intro u w3 _ hu
  obtain ⟨A4, c4, rs4, hl4, hT⟩ := hu 5 _ rfl (by kernel_rfl)
  refine thenQ_n ?_
  refine Cd.ret ?_
  skip
  refine retc_r rfl (hT.rd 0 rfl) ?_
  exact ⟨A4, c4, rs4, rfl, hl4, hT.sub ((List.sublist_cons_self _ _).trans (List.sublist_cons_self _ _))⟩

theorem numberedFrom_c (A : Option Addr) (n c : Nat) (rs : List SlV) (xss : List (List Int)) (N : Nat) (pt : Int) (w : World) (hR : RowsI w A n rs xss) (hn : n ≤ 9223372036854775807) (hn0 : 0 < n) (hs : Sys N xss) (hN : N ≤ 1000000000) (h0 : 0 ≤ pt) (h1 : pt < N) :
    Ret Tryz.prog 152 [.slice A n c, .int .i64 pt] w (fun v w' => ∃ A' c', v = .slice A' (orbit N xss pt).length c' ∧ St w w' [CkI 2 A' (orbit N xss pt).length c' (orbit N xss pt)]) := by
  have hrl : ∀ k : Int, 0 ≤ k → k < n → (rg rs k).n = N := fun k hk0 hk => by
    rw [← hR.rowLen hk0 hk]
    exact (hs _ (gl_in hk0 (by rw [hR.len]; exact hk))).1
  have hr0 := hrl 0 (by omega) (by omega)
  refine Ret.of_cd Tryz.func152 rfl Tryz.ntmps152 rfl (post1 rfl) ?_
  refine Cd.seq ?_
  refine Cd.region ?_
  refine Ops.mv_sl rfl rfl rfl ?_
  refine Ops.nil ?_
  refine thenQ_n ?_
  refine Cd.seq ?_
  refine Cd.region ?_
  refine Ops.mv_sl rfl rfl rfl ?_
  refine Ops.idx hR.top.2 rfl rfl rfl (by omega) (by omega) ?_
  refine Ops.ld_sl hR.top rfl (by omega) rfl rfl ?_
  refine Ops.len rfl rfl ?_
  refine Ops.mkB N (St.refl w) (by rw [hr0]; rfl) rfl (by omega) ?_
  intro A5 w1 hS1
  refine Ops.mv_sl rfl rfl rfl ?_
  refine Ops.nil ?_
  refine thenQ_n ?_
  refine Cd.seq ?_
  refine Cd.region ?_
  refine Ops.mv_sl rfl rfl rfl ?_
  refine Ops.mv_int rfl rfl rfl ?_
  refine Ops.idx (hS1.rdB 0 rfl).2 (by rw [hr0]; rfl) rfl rfl (by omega) (by omega) ?_
  refine Ops.st_bool 0 hS1 rfl rfl rfl (by omega) ?_
  intro w2 hS2
  refine Ops.nil ?_
  refine thenQ_n ?_
  refine Cd.seq ?_
  refine Cd.region ?_
  refine Ops.mv_int rfl rfl rfl ?_
  refine Ops.bs1I hS2 rfl rfl rfl ?_
  intro A6 w3 hS3
  refine Ops.mv_sl rfl rfl rfl ?_
  refine Ops.nil ?_
  refine thenQ_n ?_
  refine Cd.seq ?_
  refine Cd.seq ?_
  refine Cd.region ?_
  refine Ops.mv_int rfl rfl rfl ?_
  refine Ops.nil ?_
  refine thenQ_n ?_
  refine Cd.block ?_
  refine Cd.loop (α := Nat × List Int × Option Addr × Nat × List Bool) (fun q => [(0, .slice A n c), (5, .slice A5 N N), (6, .slice q.2.2.1 q.2.1.length q.2.2.2.1), (7, .int .i64 (q.1 : Int))])
    (fun q w' => St w w' [CkI 2 q.2.2.1 q.2.1.length q.2.2.2.1 q.2.1, CkB 4 A5 N N q.2.2.2.2] ∧ q.1 ≤ q.2.1.length ∧ Good N xss pt q.2.1 ∧ Marked N q.2.2.2.2 q.2.1 ∧ bfs xss (N + 1 - q.1) q.1 q.2.1 = orbit N xss pt)
    (fun q => N + 1 - q.1) (0, [pt], A6, 1, (List.replicate N false).set pt.toNat true) ⟨rfl, by rw [hr0]; rfl, rfl, rfl, trivial⟩ ⟨hS3, Nat.zero_le _, good_one h0 h1, Marked.init h0 (by omega), rfl⟩ ?_
  rintro ⟨i, out, Ao, co, S⟩ e2 w5 ⟨hS5, hi, hg, hm, hb⟩
  dsimp only at hS5 hi hg hm hb ⊢
  have hlen := hg.len
  refine Cd.seq ?_
  refine Cd.seq ?_
  refine Cd.region ?_
  refine Ops.mv_int rfl rfl rfl ?_
  refine Ops.mv_sl rfl rfl rfl ?_
  refine Ops.len rfl rfl ?_
  refine Ops.lss rfl rfl rfl ?_
  refine Ops.nil ?_
  refine thenQ_n ?_
  refine Cd.cond_p _ rfl (fun h2 => ?_) (fun h2 => ?_)
  · refine Cd.skip ?_
    refine thenQ_n ?_
    refine Cd.seq ?_
    refine Cd.block ?_
    refine Cd.seq ?_
    refine Cd.region ?_
    refine Ops.mv_sl rfl rfl rfl ?_
    refine Ops.len rfl rfl ?_
    refine Ops.mv_int rfl rfl rfl ?_
    refine Ops.nil ?_
    refine thenQ_n ?_
    refine Cd.block ?_
    refine Cd.loop (α := Nat × List Int × Option Addr × Nat × List Bool) (fun q => [(0, .slice A n c), (5, .slice A5 N N), (6, .slice q.2.2.1 q.2.1.length q.2.2.2.1), (7, .int .i64 (i : Int)), (27, .slice A n c), (28, .int .i64 (n : Int)), (29, .int .i64 (q.1 : Int))])
      (fun q w' => St w w' [CkI 2 q.2.2.1 q.2.1.length q.2.2.2.1 q.2.1, CkB 4 A5 N N q.2.2.2.2] ∧ q.1 ≤ n ∧ Good N xss pt q.2.1 ∧ Marked N q.2.2.2.2 q.2.1 ∧ out <+: q.2.1 ∧ (xss.drop q.1).foldl (fun o p => push1 o (gi p (gi out i))) q.2.1 = expand xss (gi out i) out)
      (fun q => n - q.1) (0, out, Ao, co, S) ⟨rfl, rfl, rfl, rfl, rfl, rfl, rfl, trivial⟩ ⟨hS5, Nat.zero_le _, hg, hm, List.prefix_rfl, rfl⟩ ?_
    rintro ⟨k, out', Ao', co', S'⟩ e3 w6 ⟨hS6, hk, hg', hm', hp', hf⟩
    dsimp only at hS6 hk hg' hm' hp' hf ⊢
    have hlen' := hg'.len
    refine Cd.seq ?_
    refine Cd.region ?_
    refine Ops.lss rfl rfl rfl ?_
    refine Ops.nil ?_
    refine thenQ_n ?_
    refine Cd.seq ?_
    refine Cd.cond_p _ rfl (fun h3 => ?_) (fun h3 => ?_)
    · have hio : i < out'.length := by have := hp'.length_le; omega
      have hgi : gi out' i = gi out i := gi_prefix hp' (by omega)
      have hxi := hg.range _ (gi_in (i := i) (by omega))
      have hmem : gl xss k ∈ xss := gl_in (by omega) (by rw [hR.len]; omega)
      have hy := (hs _ hmem).2 (gi out i) hxi.1 hxi.2
      have hrk := hrl k (by omega) (by omega)
      have hT := (hS6.oldRows hR)
      have hO := hS6.rdI 0 rfl
      have hrow := hT.at_ (i := k) (by omega) (by omega)
      have hfold : (xss.drop (k + 1)).foldl (fun o p => push1 o (gi p (gi out i))) (push1 out' (gi (gl xss k) (gi out i))) = expand xss (gi out i) out := by
        rw [← hf, List.drop_eq_getElem_cons (show k < xss.length by rw [hR.len]; omega), List.foldl_cons, gl_mem (by rw [hR.len]; omega)]
      refine Cd.skip ?_
      refine thenQ_n ?_
      refine Cd.seq ?_
      refine Cd.block ?_
      refine Cd.seq ?_
      refine Cd.region ?_
      refine Ops.idx hT.top.2 rfl rfl rfl (by omega) (by omega) ?_
      refine Ops.ld_sl hT.top rfl (by omega) rfl rfl ?_
      refine Ops.mv_sl rfl rfl rfl ?_
      refine Ops.nil ?_
      refine thenQ_n ?_
      refine Cd.seq ?_
      refine Cd.region ?_
      refine Ops.mv_sl rfl rfl rfl ?_
      refine Ops.mv_sl rfl rfl rfl ?_
      refine Ops.mv_int rfl rfl rfl ?_
      refine Ops.idx hO.2 rfl rfl rfl (by omega) (by omega) ?_
      refine Ops.ld_int hO rfl (by omega) rfl rfl ?_
      rw [hgi]
      refine Ops.idx hrow.2 rfl rfl rfl (by omega) (by omega) ?_
      refine Ops.ld_int hrow rfl (by omega) rfl rfl ?_
      refine Ops.mv_int rfl rfl rfl ?_
      refine Ops.nil ?_
      refine thenQ_n ?_
      refine Cd.seq ?_
      refine Cd.region ?_
      refine Ops.mv_sl rfl rfl rfl ?_
      refine Ops.mv_int rfl rfl rfl ?_
      refine Ops.idx (hS6.rdB 1 rfl).2 rfl rfl rfl (by omega) (by omega) ?_
      refine Ops.ld_bool (hS6.rdB 1 rfl) rfl (by omega) rfl rfl ?_
      first | refine Ops.not_p rfl rfl ?_ | refine Ops.not rfl rfl ?_
      refine Ops.nil ?_
      refine thenQ_n ?_
      refine Cd.cond rfl (fun h4 => ?_) (fun h4 => ?_)
      · have hnin : ¬ gi (gl xss k) (gi out i) ∈ out' := fun hin => by
          have := (hm'.2 _ hy.1 (by omega)).2 hin
          rw [this] at h4; cases h4
        have hpush : push1 out' (gi (gl xss k) (gi out i)) = out' ++ [gi (gl xss k) (gi out i)] := by unfold push1; rw [if_neg hnin]
        have hg7 := hg'.push hs (hp'.subset (gi_in (i := i) (by omega))) hmem
        have hp7 := hp'.trans (push1_prefix out' (gi (gl xss k) (gi out i)))
        rw [hpush] at hfold hg7 hp7
        have hlen7 := hg7.len
        simp only [List.length_append, List.length_singleton] at hlen7
        refine Cd.seq ?_
        refine Cd.region ?_
        refine Ops.mv_sl rfl rfl rfl ?_
        refine Ops.mv_int rfl rfl rfl ?_
        refine Ops.idx (hS6.rdB 1 rfl).2 rfl rfl rfl (by omega) (by omega) ?_
        refine Ops.st_bool 1 hS6 rfl rfl rfl (by omega) ?_
        intro w8 hS8
        refine Ops.nil ?_
        refine thenQ_n ?_
        refine Cd.region ?_
        refine Ops.mv_sl rfl rfl rfl ?_
        refine Ops.mv_int rfl rfl rfl ?_
        refine Ops.bs1I hS8 rfl rfl rfl ?_
        intro A3 w9 hS9
        refine Ops.appI 1 hS9 rfl (hS9.rdI 0 rfl) rfl rfl rfl (by omega) (by omega) rfl ?_
        intro A4 c4 w10 hS10
        refine Ops.mv_sl rfl rfl rfl ?_
        refine Ops.nil ?_
        refine blockQ_n ?_
        refine thenQ_n ?_
        refine Cd.region ?_
        refine Ops.add rfl rfl rfl (by omega) ?_
        refine Ops.mv_int rfl rfl rfl ?_
        refine Ops.nil ?_
        refine thenQ_n ?_
        refine ⟨(k + 1, out' ++ [gi (gl xss k) (gi out i)], A4, c4, S'.set (gi (gl xss k) (gi out i)).toNat true), by show n - (k + 1) < n - k; omega, ⟨rfl, rfl, by rw [List.length_append]; rfl, rfl, rfl, rfl, rfl, trivial⟩, ?_, by show k + 1 ≤ n; omega, hg7, hm'.push hy.1 (by omega), hp7, hfold⟩
        have h11 := hS10.tail
        simp only [List.length_append, List.length_singleton]
        exact h11
      · have hin : gi (gl xss k) (gi out i) ∈ out' := (hm'.2 _ hy.1 (by omega)).1 (by simpa using h4)
        have hpush : push1 out' (gi (gl xss k) (gi out i)) = out' := by unfold push1; rw [if_pos hin]
        rw [hpush] at hfold
        refine Cd.skip ?_
        refine blockQ_n ?_
        refine thenQ_n ?_
        refine Cd.region ?_
        refine Ops.add rfl rfl rfl (by omega) ?_
        refine Ops.mv_int rfl rfl rfl ?_
        refine Ops.nil ?_
        refine thenQ_n ?_
        exact ⟨(k + 1, out', Ao', co', S'), by show n - (k + 1) < n - k; omega, ⟨rfl, rfl, rfl, rfl, rfl, rfl, rfl, trivial⟩, hS6, by show k + 1 ≤ n; omega, hg', hm', hp', hfold⟩
    · refine Cd.exit ?_
      refine thenQ_x ?_
      refine thenQ_x ?_
      refine blockQ_x ?_
      refine blockQ_n ?_
      refine thenQ_n ?_
      refine Cd.region ?_
      refine Ops.mv_int rfl rfl rfl ?_
      refine Ops.add rfl rfl rfl (by omega) ?_
      refine Ops.mv_int rfl rfl rfl ?_
      refine Ops.nil ?_
      refine thenQ_n ?_
      have hkn : k = n := by omega
      rw [hkn, List.drop_of_length_le (by rw [hR.len]; omega)] at hf
      have hf : out' = expand xss (gi out i) out := hf
      refine ⟨(i + 1, out', Ao', co', S'), by show N + 1 - (i + 1) < N + 1 - i; omega, ⟨rfl, rfl, rfl, rfl, trivial⟩, hS6, by show i + 1 ≤ out'.length; have := hp'.length_le; omega, hg', hm', ?_⟩
      show bfs xss (N + 1 - (i + 1)) (i + 1) out' = _
      rw [← hb, show N + 1 - i = (N + 1 - (i + 1)) + 1 by omega]
      simp only [bfs]
      rw [if_pos (by omega), hf]
  · refine Cd.exit ?_
    refine thenQ_x ?_
    refine thenQ_x ?_
    refine blockQ_x ?_
    refine thenQ_n ?_
    refine Cd.seq ?_
    refine Cd.region ?_
    refine Ops.mv_sl rfl rfl rfl ?_
    refine Ops.mv_sl rfl rfl rfl ?_
    refine Ops.nil ?_
    refine thenQ_n ?_
    refine Cd.ret ?_
    refine ret1_s rfl ?_
    rw [bfs_out (by omega)] at hb
    subst hb
    exact ⟨Ao, co, rfl, hS5.sub (List.Sublist.cons_cons _ (List.nil_sublist _))⟩
end Go.Proofs.YtjpkmpihmilgoaaGreat.Vc
/-
  The cycles of a list of numbers, by their least points, and lists in ascending order: a plain law, with no program in sight. Conditions: as each states them.
-/
namespace Go.Proofs.YtjpkmpihmilgoaaGreat.Vc
open Go.RowKit

/-- from x on, till a point comes that was seen -/
def goC (p : List Int) : Nat → Nat → List Bool → List Int × List Bool
  | 0, _, s => ([], s)
  | k + 1, x, s => if gb s (x : Int) = true then ([], s) else ((x : Int) :: (goC p k (gi p x).toNat (s.set x true)).1, (goC p k (gi p x).toNat (s.set x true)).2)

/-- all cycles from some points on -/
def cycs (p : List Int) : List Nat → List Bool → List (List Int)
  | [], _ => []
  | i :: is, s => (if (goC p (s.count false) i s).1 = [] then [] else [(goC p (s.count false) i s).1]) ++ cycs p is (goC p (s.count false) i s).2
/-- the cycles of n points -/
def cyAll (p : List Int) (n : Nat) : List (List Int) := cycs p (List.range n) (List.replicate n false)
def lenAll (p : List Int) (n : Nat) : List Int := (cyAll p n).map fun c => (c.length : Int)
/-! ascending lists -/
def Asc (l : List Int) : Prop := l.Pairwise (· ≤ ·)
def srt (l : List Int) : List Int := l.mergeSort fun x y => decide (x ≤ y)
end Go.Proofs.YtjpkmpihmilgoaaGreat.Vc
/-
  The walks of the reference's runs of a word over flags, and of the lengths of a word. Conditions: as each states them.
-/
namespace Go.Proofs.YtjpkmpihmilgoaaGreat.Vc
open Go.RowKit

/-- where a word leads from x -/
def runW (xss : List (List Int)) (x : Int) (ws : List Int) : Int := ws.foldl (fun x i => gi (gl xss i) x) x
/-- what a word does -/
def doesL (xss : List (List Int)) (F : Nat) (ws : List Int) : List Int := (List.range F).map fun x : Nat => runW xss (x : Int) ws
/-- a maniplex with edges -/
def Grph (xss : List (List Int)) : Prop := Mani xss ∧ 2 ≤ xss.length
instance (xss : List (List Int)) : Decidable (Grph xss) := by unfold Grph; exact inferInstance

theorem l02Flags_c (A : Option Addr) (n c : Nat) (rs : List SlV) (xss : List (List Int)) (w : World) (hR : RowsI w A n rs xss) (hn : 0 < n) :
    Ret Tryz.prog 119 [.agg #[.slice A n c]] w (fun v w' => v = .int .i64 ((gl xss 0).length : Int) ∧ St w w' []) := by
  refine Ret.of_cd Tryz.func119 rfl Tryz.ntmps119 rfl (post1 rfl) ?_
  refine Cd.seq ?_
  refine Cd.region ?_
  refine Ops.box1 (St.refl w) rfl rfl ?_
  intro Ab w1 hS
  have hR1 := hS.oldRows hR
  have e0 : (gl xss 0).length = (rg rs 0).n := hR.rowLen (by omega) (by omega)
  refine Ops.mv_int rfl rfl rfl ?_
  refine Ops.nil ?_
  refine thenQ_n ?_
  refine Cd.seq ?_
  refine Cd.region ?_
  refine Ops.fld (hS.rd 0 rfl) rfl rfl rfl rfl inferInstance ?_
  refine Ops.ldf_s (hS.rd 0 rfl) rfl rfl rfl rfl rfl ?_
  refine Ops.idx hR1.top.2 rfl rfl rfl (by omega) (by omega) ?_
  refine Ops.ld_sl hR1.top rfl (by omega) rfl rfl ?_
  refine Ops.len rfl rfl ?_
  refine Ops.mv_int rfl rfl rfl ?_
  refine Ops.nil ?_
  refine thenQ_n ?_
  refine Cd.ret ?_
  refine ret1_i rfl ?_
  exact ⟨by rw [e0], hS.none⟩

end Go.Proofs.YtjpkmpihmilgoaaGreat.Vc
/-
  The walk of the reference's lengths of a word. Conditions: as it states them.
-/
namespace Go.Proofs.YtjpkmpihmilgoaaGreat.Vc
open Go.RowKit

theorem RdI.drop {w : World} {A : Option Addr} {n c l : Nat} {xs : List Int} (h : RdI w A n xs) (hl : l ≤ n) (hc : n ≤ c) : RdI w (cutAt A c l) (n - l) (xs.drop l) := by
  have := h.cut (l := l) (h := n) (c := c) hl (Nat.le_refl _) hc
  rwa [List.take_of_length_le (by rw [List.length_drop, h.1]; omega)] at this
theorem RdI.take {w : World} {A : Option Addr} {n l : Nat} {xs : List Int} (h : RdI w A n xs) (hl : l ≤ n) : RdI w A l (xs.take l) := by
  have := h.cut (l := 0) (h := l) (c := 0) (Nat.zero_le _) hl
  refine ⟨by rw [List.length_take, h.1]; omega, fun k hk => ?_⟩
  obtain ⟨q, h1, h2⟩ := h.2 k (by omega)
  exact ⟨q, h1, by rw [h2]; simp [List.getElem?_take, hk, List.getD_eq_getElem?_getD]⟩

end Go.Proofs.YtjpkmpihmilgoaaGreat.Vc
