/-
  The texts G4, G5, F1, Db, Cyc, C1, F2, C2 in one. Conditions: as each part states them.
-/
import Derived.Test.YtjpkmpihmilgoaaGreatZc
import Derived.Test.YtjpkmpihmilgoaaGreatZb
import Derived.Test.YtjpkmpihmilgoaaGreatZa
/-
 The walks of the reference's list of rooted forms and of its count. Conditions: as each states them.
-/
namespace Go.Proofs.YtjpkmpihmilgoaaGreat.Vc
open Go.RowKit

def Small (rank flags : Int) : Prop := (1 ≤ rank ∧ rank ≤ 4) ∧ (2 ≤ flags ∧ flags ≤ 12)
instance (rank flags : Int) : Decidable (Small rank flags) := by unfold Small; exact inferInstance
/-- the answer: how many, and the code -/
def cnt1 (rank flags : Int) : Int := if Small rank flags then ((forms rank.toNat flags.toNat (flags.toNat * rank.toNat + 1) 0 1 (blank rank.toNat flags.toNat)).length : Int) else 0
def cnt2 (rank flags : Int) : Int := if Small rank flags then 0 else 2
end Go.Proofs.YtjpkmpihmilgoaaGreat.Vc
/-
 The walks of the program's copies and of its test of a move. Conditions: as each states them.
-/
namespace Go.Proofs.YtjpkmpihmilgoaaGreat.Vc
open Go.RowKit

end Go.Proofs.YtjpkmpihmilgoaaGreat.Vc
/-
 The walks of the reference's forms. Conditions: as each states them.
-/
namespace Go.Proofs.YtjpkmpihmilgoaaGreat.Vc
open Go.RowKit

section
variable {P : Program} {N : Nat} {ops : Array Oper} {K : Env → World → Prop} {rest : List Oper} {e : Env} {w : World} {d : Nat} {ty : TypeId} {pos : String} {af : Array Edge}
theorem Ops.bld0 {t : TypeId} {f0 : Field} {z0 zf : Value} {b bf : Nat} [Und P t (.struct #[f0])] [Inf P t (.agg #[z0]) 1 b] (hI : Inf P f0.type zf 1 bf) (hb : Nat.blt d N = true)
    (hK : Ops P N ops K rest (upd e d (.agg #[z0])) w) : Ops P N ops K (⟨some d, .build t #[], ty, pos, af, none⟩ :: rest) e w := by
  obtain ⟨inf, hi, hz0, hs, hby⟩ := Inf.get P t
  obtain ⟨inf', hi', hz0', hs', hby'⟩ := hI.get P f0.type
  have ez : (Value.agg #[z0]).cells = #[z0] := rfl
  refine .val (w' := w) ?_ hb hK
  simp [execOp, Instr.build, run_underlying (Und.out (P := P) (t := t)), sizeOf, typeInfo, zeroValue, hi, hz0, hs, hi', hs', ez, Instr.fill]
end

theorem l02Renumber_c (A : Option Addr) (n c : Nat) (rs : List SlV) (xss : List (List Int)) (N : Nat) (Ap : Option Addr) (cp : Nat) (p : List Int) (w : World) (hR : RowsI w A n rs xss) (hn : n ≤ 1000000) (hs : Sys N xss) (hN : N ≤ 1000000) (hP : RdI w Ap N p) (hp : ∀ x : Int, 0 ≤ x → x < N → 0 ≤ gi p x ∧ gi p x < N) :
    Ret Tryz.prog 173 [.agg #[.slice A n c], .slice Ap N cp] w (fun v w' => ∃ A' c' rs', v = .agg #[.slice A' n c'] ∧ rs'.length = n ∧ St w w' (mat 34 2 A' n c' rs' (xss.map (renI N p)))) := by
  have hpl := hP.1
  have hxl := hR.len
  refine Ret.of_cd Tryz.func173 rfl Tryz.ntmps173 rfl (postc rfl rfl) ?_
  refine Cd.seq ?_
  refine Cd.region ?_
  refine Ops.box1 (St.refl w) rfl rfl ?_
  intro Ab w1 hS1
  refine Ops.new1 hS1 rfl ?_
  intro Ac w2 hS2
  refine Ops.nil ?_
  refine thenQ_n ?_
  refine Cd.seq ?_
  refine Cd.region ?_
  refine Ops.bld0 (by exact inferInstance) rfl ?_
  refine Ops.new1 hS2 rfl ?_
  intro Ad w3 hS3
  refine Ops.st_agg 1 0 hS3 rfl rfl rfl rfl rfl rfl rfl ?_
  intro w4 hS4
  have hS4 : St w w4 (Bx 32 1 Ad [.slice none 0 0] :: Bx 32 1 Ac [.slice none 0 0] :: Bx 32 1 Ab [.slice A n c] :: []) := hS4
  have hS0 : St w w4 (Bx 32 1 Ad [.slice none 0 0] :: Bx 32 1 Ac [.slice none 0 0] :: Bx 32 1 Ab [.slice A n c] :: CkR 34 none 0 0 [] :: []) :=
    (hS4.nil 34).perm (List.perm_append_comm (l₁ := [_]) (l₂ := [_, _, _]))
  refine Ops.nil ?_
  refine thenQ_n ?_
  refine Cd.seq ?_
  refine Cd.seq ?_
  refine Cd.region ?_
  refine Ops.mv_int rfl rfl rfl ?_
  refine Ops.nil ?_
  refine thenQ_n ?_
  refine Cd.block ?_
  refine Cd.loop (α := Nat × Option Addr × Nat × List SlV) (fun s => [(1, .slice Ap N cp), (2, .pointer Ab), (4, .pointer Ac), (5, .pointer Ad), (6, .int .i64 (s.1 : Int))]) (fun s w' => St w w' (Bx 32 1 Ad [.slice s.2.1 s.1 s.2.2.1] :: Bx 32 1 Ac [.slice none 0 0] :: Bx 32 1 Ab [.slice A n c] :: CkR 34 s.2.1 s.1 s.2.2.1 s.2.2.2 :: rowsCk 2 s.2.2.2 ((xss.map (renI N p)).take s.1)) ∧ s.1 ≤ n ∧ s.2.2.2.length = s.1) (fun s => n - s.1) (0, none, 0, []) ⟨rfl, rfl, rfl, rfl, rfl, trivial⟩ ⟨hS0, Nat.zero_le _, rfl⟩ ?_
  rintro ⟨i, A3, c3, rs1⟩ e w5 ⟨hS5, hi, hlen⟩
  dsimp only at hS5 hi hlen ⊢
  refine Cd.seq ?_
  refine Cd.seq ?_
  refine Cd.region ?_
  refine Ops.mv_int rfl rfl rfl ?_
  refine Ops.fld (hS5.rd 2 rfl) rfl rfl rfl rfl inferInstance ?_
  refine Ops.ldf_s (hS5.rd 2 rfl) rfl rfl rfl rfl rfl ?_
  refine Ops.len rfl rfl ?_
  refine Ops.lss rfl rfl rfl ?_
  refine Ops.nil ?_
  refine thenQ_n ?_
  refine Cd.cond_p _ rfl (fun h1 => ?_) (fun h1 => ?_)
  · have hi' : i < n := by omega
    have hx : i < xss.length := by omega
    refine Cd.skip ?_
    refine thenQ_n ?_
    refine Cd.seq ?_
    refine Cd.block ?_
    refine Cd.seq ?_
    refine Cd.region ?_
    refine Ops.mv_sl rfl rfl rfl ?_
    refine Ops.len rfl rfl ?_
    refine Ops.mkI N hS5 rfl rfl (by omega) ?_
    intro A7 w6 hS6
    refine Ops.mv_sl rfl rfl rfl ?_
    refine Ops.nil ?_
    refine thenQ_n ?_
    refine Cd.seq ?_
    refine Cd.seq ?_
    refine Cd.region ?_
    refine Ops.mv_int rfl rfl rfl ?_
    refine Ops.nil ?_
    refine thenQ_n ?_
    refine Cd.block ?_
    have e2 : gl xss i = xss[i] := by simp [gl, List.getD_eq_getElem?_getD, List.getElem?_eq_getElem hx]
    have hmv := hs (gl xss i) (gl_in (by omega) (by omega))
    refine Cd.loop (α := Nat) (fun k => [(1, .slice Ap N cp), (2, .pointer Ab), (4, .pointer Ac), (5, .pointer Ad), (6, .int .i64 (i : Int)), (7, .slice A7 N N), (8, .int .i64 (k : Int))]) (fun k w' => St w w' (CkI 2 A7 N N (scat (List.replicate N 0) (fun f => gi p f) (fun f => gi p (gi (gl xss i) f)) k) :: Bx 32 1 Ad [.slice A3 i c3] :: Bx 32 1 Ac [.slice none 0 0] :: Bx 32 1 Ab [.slice A n c] :: CkR 34 A3 i c3 rs1 :: rowsCk 2 rs1 ((xss.map (renI N p)).take i)) ∧ k ≤ N) (fun k => N - k) 0 ⟨rfl, rfl, rfl, rfl, rfl, rfl, rfl, trivial⟩ ⟨hS6, Nat.zero_le _⟩ ?_
    rintro k e w7 ⟨hS7, hk⟩
    have hM := hS7.oldRows hR
    have hP7 := hS7.oldI hP
    refine Cd.seq ?_
    refine Cd.seq ?_
    refine Cd.region ?_
    refine Ops.mv_int rfl rfl rfl ?_
    refine Ops.mv_sl rfl rfl rfl ?_
    refine Ops.len rfl rfl ?_
    refine Ops.lss rfl rfl rfl ?_
    refine Ops.nil ?_
    refine thenQ_n ?_
    refine Cd.cond_p _ rfl (fun h2 => ?_) (fun h2 => ?_)
    · have hrow := hM.at_ (i := (i : Int)) (by omega) h1
      have hrn := hM.rowLen (k := (i : Int)) (by omega) h1
      have hv := hmv.2 (k : Int) (by omega) (by omega)
      have hpk := hp (k : Int) (by omega) (by omega)
      have hpv := hp _ hv.1 hv.2
      have hml := hmv.1
      have hB := hS7.rd 3 rfl
      have hO := hS7.rdI 0 rfl
      have hlt : (gi p (k : Int)).toNat < N := by omega
      refine Cd.skip ?_
      refine thenQ_n ?_
      refine Cd.seq ?_
      refine Cd.block ?_
      refine Cd.drawN [17] [.ex (.slice (A7) (N) (N)), .ex (.slice (Ap) (N) (cp)), .ex (.int .i64 ((k : Int))), .ex (.pointer (ptrAt (Ap) ((k : Int)).toNat)), .ex (.int .i64 (gi (p) ((k : Int)))), .ex (.slice (Ap) (N) (cp)), .ex (.pointer (ptrAt (Ab) 0)), .ex (.slice (A) (n) (c)), .ex (.int .i64 ((i : Int))), .ex (.pointer (ptrAt (A) ((i : Int)).toNat)), .ex (.slice ((rg (rs) ((i : Int))).a) ((rg (rs) ((i : Int))).n) ((rg (rs) ((i : Int))).c)), .ex (.int .i64 ((k : Int))), .ex (.pointer (ptrAt ((rg (rs) ((i : Int))).a) ((k : Int)).toNat)), .ex (.int .i64 (gi (gl xss (i : Int)) ((k : Int)))), .ex (.pointer (ptrAt (Ap) (gi (gl xss (i : Int)) ((k : Int))).toNat)), .ex (.int .i64 (gi (p) (gi (gl xss (i : Int)) ((k : Int))))), .ex (.pointer (ptrAt (A7) (gi (p) ((k : Int))).toNat)), .pr (fun _ w' => St w w' (CkI 2 A7 N N (scat (List.replicate N 0) (fun f => gi p f) (fun f => gi p (gi (gl xss i) f)) (k + 1)) :: Bx 32 1 Ad [.slice A3 i c3] :: Bx 32 1 Ac [.slice none 0 0] :: Bx 32 1 Ab [.slice A n c] :: CkR 34 A3 i c3 rs1 :: rowsCk 2 rs1 ((xss.map (renI N p)).take i)))] (by kernel_rfl) (by kernel_rfl) (List.forall_mem_cons.2 ⟨Yd.lasts_ex _, (List.forall_mem_cons.2 ⟨Yd.lasts_ex _, (List.forall_mem_cons.2 ⟨Yd.lasts_ex _, (List.forall_mem_cons.2 ⟨Yd.lasts_ex _, (List.forall_mem_cons.2 ⟨Yd.lasts_ex _, (List.forall_mem_cons.2 ⟨Yd.lasts_ex _, (List.forall_mem_cons.2 ⟨Yd.lasts_ex _, (List.forall_mem_cons.2 ⟨Yd.lasts_ex _, (List.forall_mem_cons.2 ⟨Yd.lasts_ex _, (List.forall_mem_cons.2 ⟨Yd.lasts_ex _, (List.forall_mem_cons.2 ⟨Yd.lasts_ex _, (List.forall_mem_cons.2 ⟨Yd.lasts_ex _, (List.forall_mem_cons.2 ⟨Yd.lasts_ex _, (List.forall_mem_cons.2 ⟨Yd.lasts_ex _, (List.forall_mem_cons.2 ⟨Yd.lasts_ex _, (List.forall_mem_cons.2 ⟨Yd.lasts_ex _, (List.forall_mem_cons.2 ⟨Yd.lasts_ex _, (List.forall_mem_cons.2 ⟨Yd.lasts_pr (fun v w w' h hb => h.later hb), (fun _ h => by cases h)⟩)⟩)⟩)⟩)⟩)⟩)⟩)⟩)⟩)⟩)⟩)⟩)⟩)⟩)⟩)⟩)⟩)⟩) ⟨?_, ?_, ?_, ?_, ?_, ?_, ?_, ?_, ?_, ?_, ?_, ?_, ?_, ?_, ?_, ?_, ?_, ?_, trivial⟩ ?_
      · intro e1 w1 cc hlo hhi hb0 hp hun hq
        show Ops _ _ _ _ _ _ _
        refine Ops.mv_sl rfl rfl rfl ?_
        refine Ops.nil ?_
        exact AfterN.dn rfl (Below.refl _ _) (by exact rfl)
      · intro e1 w1 cc hlo hhi hb0 hp hun hq
        show Ops _ _ _ _ _ _ _
        refine Ops.mv_sl rfl rfl rfl ?_
        refine Ops.nil ?_
        exact AfterN.dn rfl (Below.refl _ _) (by exact rfl)
      · intro e1 w1 cc hlo hhi hb0 hp hun hq
        show Ops _ _ _ _ _ _ _
        refine Ops.mv_int rfl rfl rfl ?_
        refine Ops.nil ?_
        exact AfterN.dn rfl (Below.refl _ _) (by exact rfl)
      · intro e1 w1 cc hlo hhi hb0 hp hun hq
        show Ops _ _ _ _ _ _ _
        replace hlo := le_of_lo hlo (b := 0) (by kernel_rfl)
        replace hhi := le_of_hi hhi (b := 0) (by kernel_rfl)
        obtain rfl : cc = 0 := by omega
        have hb := hb0 rfl
        refine Ops.idx (hP7.later hb).2 rfl rfl rfl (by omega) (by omega) ?_
        refine Ops.nil ?_
        exact AfterN.dn rfl (Below.refl _ _) (by exact rfl)
      · intro e1 w1 cc hlo hhi hb0 hp hun hq
        show Ops _ _ _ _ _ _ _
        replace hlo := le_of_lo hlo (b := 0) (by kernel_rfl)
        replace hhi := le_of_hi hhi (b := 0) (by kernel_rfl)
        obtain rfl : cc = 0 := by omega
        have hb := hb0 rfl
        refine Ops.ld_int (hP7.later hb) rfl (by omega) rfl rfl ?_
        refine Ops.nil ?_
        exact AfterN.dn rfl (Below.refl _ _) (by exact rfl)
      · intro e1 w1 cc hlo hhi hb0 hp hun hq
        show Ops _ _ _ _ _ _ _
        refine Ops.mv_sl rfl rfl rfl ?_
        refine Ops.nil ?_
        exact AfterN.dn rfl (Below.refl _ _) (by exact rfl)
      · intro e1 w1 cc hlo hhi hb0 hp hun hq
        show Ops _ _ _ _ _ _ _
        replace hlo := le_of_lo hlo (b := 0) (by kernel_rfl)
        replace hhi := le_of_hi hhi (b := 0) (by kernel_rfl)
        obtain rfl : cc = 0 := by omega
        have hb := hb0 rfl
        refine Ops.fld (hB.below hb) rfl rfl rfl rfl inferInstance ?_
        refine Ops.nil ?_
        exact AfterN.dn rfl (Below.refl _ _) (by exact rfl)
      · intro e1 w1 cc hlo hhi hb0 hp hun hq
        show Ops _ _ _ _ _ _ _
        replace hlo := le_of_lo hlo (b := 0) (by kernel_rfl)
        replace hhi := le_of_hi hhi (b := 0) (by kernel_rfl)
        obtain rfl : cc = 0 := by omega
        have hb := hb0 rfl
        refine Ops.ldf_s (hB.below hb) rfl rfl rfl rfl rfl ?_
        refine Ops.nil ?_
        exact AfterN.dn rfl (Below.refl _ _) (by exact rfl)
      · intro e1 w1 cc hlo hhi hb0 hp hun hq
        show Ops _ _ _ _ _ _ _
        refine Ops.mv_int rfl rfl rfl ?_
        refine Ops.nil ?_
        exact AfterN.dn rfl (Below.refl _ _) (by exact rfl)
      · intro e1 w1 cc hlo hhi hb0 hp hun hq
        show Ops _ _ _ _ _ _ _
        replace hlo := le_of_lo hlo (b := 0) (by kernel_rfl)
        replace hhi := le_of_hi hhi (b := 0) (by kernel_rfl)
        obtain rfl : cc = 0 := by omega
        have hb := hb0 rfl
        refine Ops.idx (hM.top.later hb).2 rfl rfl rfl (by omega) (by omega) ?_
        refine Ops.nil ?_
        exact AfterN.dn rfl (Below.refl _ _) (by exact rfl)
      · intro e1 w1 cc hlo hhi hb0 hp hun hq
        show Ops _ _ _ _ _ _ _
        replace hlo := le_of_lo hlo (b := 0) (by kernel_rfl)
        replace hhi := le_of_hi hhi (b := 0) (by kernel_rfl)
        obtain rfl : cc = 0 := by omega
        have hb := hb0 rfl
        refine Ops.ld_sl (hM.top.later hb) rfl (by omega) rfl rfl ?_
        refine Ops.nil ?_
        exact AfterN.dn rfl (Below.refl _ _) (by exact rfl)
      · intro e1 w1 cc hlo hhi hb0 hp hun hq
        show Ops _ _ _ _ _ _ _
        refine Ops.mv_int rfl rfl rfl ?_
        refine Ops.nil ?_
        exact AfterN.dn rfl (Below.refl _ _) (by exact rfl)
      · intro e1 w1 cc hlo hhi hb0 hp hun hq
        show Ops _ _ _ _ _ _ _
        replace hlo := le_of_lo hlo (b := 0) (by kernel_rfl)
        replace hhi := le_of_hi hhi (b := 0) (by kernel_rfl)
        obtain rfl : cc = 0 := by omega
        have hb := hb0 rfl
        refine Ops.idx (hrow.later hb).2 rfl rfl rfl (by omega) (by omega) ?_
        refine Ops.nil ?_
        exact AfterN.dn rfl (Below.refl _ _) (by exact rfl)
      · intro e1 w1 cc hlo hhi hb0 hp hun hq
        show Ops _ _ _ _ _ _ _
        replace hlo := le_of_lo hlo (b := 0) (by kernel_rfl)
        replace hhi := le_of_hi hhi (b := 0) (by kernel_rfl)
        obtain rfl : cc = 0 := by omega
        have hb := hb0 rfl
        refine Ops.ld_int (hrow.later hb) rfl (by omega) rfl rfl ?_
        refine Ops.nil ?_
        exact AfterN.dn rfl (Below.refl _ _) (by exact rfl)
      · intro e1 w1 cc hlo hhi hb0 hp hun hq
        show Ops _ _ _ _ _ _ _
        replace hlo := le_of_lo hlo (b := 0) (by kernel_rfl)
        replace hhi := le_of_hi hhi (b := 0) (by kernel_rfl)
        obtain rfl : cc = 0 := by omega
        have hb := hb0 rfl
        refine Ops.idx (hP7.later hb).2 rfl rfl rfl (by omega) (by omega) ?_
        refine Ops.nil ?_
        exact AfterN.dn rfl (Below.refl _ _) (by exact rfl)
      · intro e1 w1 cc hlo hhi hb0 hp hun hq
        show Ops _ _ _ _ _ _ _
        replace hlo := le_of_lo hlo (b := 0) (by kernel_rfl)
        replace hhi := le_of_hi hhi (b := 0) (by kernel_rfl)
        obtain rfl : cc = 0 := by omega
        have hb := hb0 rfl
        refine Ops.ld_int (hP7.later hb) rfl (by omega) rfl rfl ?_
        refine Ops.nil ?_
        exact AfterN.dn rfl (Below.refl _ _) (by exact rfl)
      · intro e1 w1 cc hlo hhi hb0 hp hun hq
        show Ops _ _ _ _ _ _ _
        replace hlo := le_of_lo hlo (b := 0) (by kernel_rfl)
        replace hhi := le_of_hi hhi (b := 0) (by kernel_rfl)
        obtain rfl : cc = 0 := by omega
        have hb := hb0 rfl
        refine Ops.idx (hO.later hb).2 rfl rfl rfl (by omega) (by omega) ?_
        refine Ops.nil ?_
        exact AfterN.dn rfl (Below.refl _ _) (by exact rfl)
      · intro e1 w1 cc hlo hhi hb0 hp hun hq
        show Ops _ _ _ _ _ _ _
        replace hlo := le_of_lo hlo (b := 0) (by kernel_rfl)
        replace hhi := le_of_hi hhi (b := 0) (by kernel_rfl)
        obtain rfl : cc = 0 := by omega
        have hb := hb0 rfl
        refine Ops.st_int 0 (hS7.later hb) rfl rfl rfl hlt ?_
        intro w9 hst
        refine Ops.nil ?_
        exact AfterT.st rfl hst
      intro u w8 _ hu
      have hS8 := hu 17 _ rfl (by kernel_rfl)
      refine blockQ_n ?_
      refine thenQ_n ?_
      refine Cd.region ?_
      refine Ops.mv_int rfl rfl rfl ?_
      refine Ops.add rfl rfl rfl (by omega) ?_
      refine Ops.mv_int rfl rfl rfl ?_
      refine Ops.nil ?_
      refine thenQ_n ?_
      exact ⟨k + 1, by show N - (k + 1) < N - k; omega, ⟨rfl, rfl, rfl, rfl, rfl, rfl, rfl, trivial⟩, hS8, by omega⟩
    · have hkN : k = N := by omega
      subst hkN
      refine Cd.exit ?_
      refine thenQ_x ?_
      refine thenQ_x ?_
      refine blockQ_x ?_
      refine thenQ_n ?_
      refine Cd.region ?_
      refine Ops.fld (hS7.rd 1 rfl) rfl rfl rfl rfl inferInstance ?_
      refine Ops.ldf_s (hS7.rd 1 rfl) rfl rfl rfl rfl rfl ?_
      refine Ops.mv_sl rfl rfl rfl ?_
      refine Ops.bs1R hS7 rfl rfl rfl ?_
      intro A9 w9 hS9
      refine Ops.appR 5 hS9 rfl (hS9.rdR 0 rfl) rfl rfl rfl (by omega) (by omega) rfl ?_
      intro A10 c10 w10 hS10
      have hS10 := hS10.tail
      refine Ops.fld (hS10.rd 1 rfl) rfl rfl rfl rfl inferInstance ?_
      refine Ops.stf 1 hS10 rfl rfl rfl rfl rfl ?_
      intro w11 hS11
      have hS11 : St w w11 (CkI 2 A7 k k (renI k p (gl xss i)) :: Bx 32 1 Ad [.slice A10 (i + 1) c10] :: Bx 32 1 Ac [.slice none 0 0] :: Bx 32 1 Ab [.slice A n c] :: CkR 34 A10 (i + 1) c10 (rs1 ++ [⟨A7, k, k⟩]) :: rowsCk 2 rs1 ((xss.map (renI k p)).take i)) := hS11
      refine Ops.nil ?_
      refine blockQ_n ?_
      refine thenQ_n ?_
      refine Cd.region ?_
      refine Ops.mv_int rfl rfl rfl ?_
      refine Ops.add rfl rfl rfl (by omega) ?_
      refine Ops.mv_int rfl rfl rfl ?_
      refine Ops.nil ?_
      refine thenQ_n ?_
      refine ⟨(i + 1, A10, c10, rs1 ++ [⟨A7, k, k⟩]), by show n - (i + 1) < n - i; omega, ⟨rfl, rfl, rfl, rfl, rfl, trivial⟩, ?_, hi', by simp [hlen]⟩
      show St w w11 (_ :: _ :: _ :: CkR _ A10 (i + 1) c10 (rs1 ++ [_]) :: rowsCk _ (rs1 ++ [_]) ((xss.map (renI k p)).take (i + 1)))
      rw [List.take_succ_eq_append_getElem (by rw [List.length_map]; exact hx), rowsCk_append (by simp [hlen]; omega), List.getElem_map, ← e2]
      refine hS11.perm ?_
      exact List.perm_append_comm (l₁ := [_]) (l₂ := _ :: _ :: _ :: _ :: rowsCk 2 rs1 ((xss.map (renI k p)).take i))
  · refine Cd.exit ?_
    refine thenQ_x ?_
    refine thenQ_x ?_
    refine blockQ_x ?_
    refine thenQ_n ?_
    refine Cd.seq ?_
    refine Cd.region ?_
    have hin : i = n := by omega
    subst hin
    rw [List.take_of_length_le (by rw [List.length_map]; omega)] at hS5
    refine Ops.ld_agg 0 (hS5.rd 0 rfl) rfl rfl rfl ?_
    refine Ops.st_agg 1 1 hS5 rfl rfl rfl rfl rfl rfl rfl ?_
    intro w6 hS6
    refine Ops.nil ?_
    refine thenQ_n ?_
    refine Cd.ret ?_
    skip
    refine retc_r rfl (hS6.rd 1 rfl) ?_
    exact ⟨A3, c3, rs1, rfl, hlen, hS6.sub (((List.sublist_cons_self _ _).trans (List.sublist_cons_self _ _)).trans (List.sublist_cons_self _ _))⟩
end Go.Proofs.YtjpkmpihmilgoaaGreat.Vc
/-
 The draws of maniplexes, walked: polygons. Conditions: as each states them.
-/
namespace Go.Proofs.YtjpkmpihmilgoaaGreat.Vc
open Go.RowKit

/-- rows of numbers in range -/
def GM (N : Nat) (xss : List (List Int)) : Prop := ∀ p ∈ xss, Rg N p
theorem GM.sys {N : Nat} {xss : List (List Int)} (h : GM N xss) : Sys N xss := fun p hp => ⟨(h p hp).1, fun x h0 h1 => (h p hp).gi h0 h1⟩
/-- an answer: a maniplex with so many rows and flags, in memory of its own -/
def AnsG (n N : Nat) (w : World) (v : Value) (w' : World) : Prop := ∃ A c rs xss, v = .agg #[.slice A n c] ∧ rs.length = n ∧ xss.length = n ∧ GM N xss ∧ St w w' (mat 34 2 A n c rs xss)

/-- how far the open statement is -/
structure Po4 (w0 : World) (base : List Ck) (n : Nat) (S : Nat → Bool) (e : Env) (w : World) : Prop where
 f2 : ∃ A, e 2 = .pointer A ∧ base = [Bx 32 1 A [.slice none 0 0]]
 f3 : e 3 = .int .i64 (n : Int)
 p0 : S 0 = true → e 9 = .int .i64 (n : Int)
 p2 : S 2 = true → e 11 = .int .i64 (n : Int)
 mem : ∃ (A1 A2 : Option Addr) (b1 b2 : List Ck), (S 1 = false → b1 = []) ∧ (S 1 = true → e 10 = .slice A1 n n ∧ b1 = [CkI 2 A1 n n (List.replicate n 0)]) ∧ (S 3 = false → b2 = []) ∧ (S 3 = true → e 12 = .slice A2 n n ∧ b2 = [CkI 2 A2 n n (List.replicate n 0)]) ∧ (S 4 = true → e 4 = .slice A1 n n) ∧ (S 5 = true → e 5 = .slice A2 n n) ∧ St w0 w (b1 ++ (b2 ++ base))

theorem l02Polygon_c (p : Nat) (w : World) (hp : 1 ≤ p ∧ p ≤ 100000) : Ret Tryz.prog 206 [.int .i64 (p : Int)] w (AnsG 2 (2 * p) w) := by
 refine Ret.of_cd Tryz.func206 rfl Tryz.ntmps206 rfl (postc rfl rfl) ?_
 refine Cd.seq ?_
 refine Cd.region ?_
 refine Ops.new1 (St.refl w) rfl ?_
 intro A2 w1 hS1
 refine Ops.nil ?_
 refine thenQ_n ?_
 refine Cd.seq ?_
 refine Cd.region ?_
 refine Ops.mv_int rfl rfl rfl ?_
 refine Ops.mul rfl rfl rfl (by omega) ?_
 refine Ops.mv_int rfl rfl rfl ?_
 refine Ops.nil ?_
 refine thenQ_n ?_
 refine Cd.seq ?_
 have hn : (2 : Int) * (p : Int) = ((2 * p : Nat) : Int) := by omega
 rw [hn]
 generalize hN : 2 * p = n
 have hn2 : 2 ≤ n := by omega
 refine Cd.drawS (by kernel_rfl) (by kernel_rfl) (fun S e1 w1 => Po4 w [Bx 32 1 A2 [.slice none 0 0]] n S e1 w1) (fun w4 hb => ⟨⟨A2, rfl, rfl⟩, rfl, fun h => (nomatch h), fun h => (nomatch h), none, none, [], [], fun _ => rfl, fun h => (nomatch h), fun _ => rfl, fun h => (nomatch h), fun h => (nomatch h), fun h => (nomatch h), hS1.later hb⟩) ?_ ?_
 ·intro S q o e1 w4 hq hSk hd hcl hI
  obtain ⟨f2, f3, p0, p2, A, B, b1, b2, m1, m1', m3, m3', m4, m5, hT⟩ := hI
  match q, hq, hSk with
  | 0, hq, hSk =>
   obtain rfl := Option.some.inj hq
   refine Ops.mv_int rfl (by exact f3) rfl ?_
   refine Ops.nil ?_
   exact ⟨f2, f3, fun _ => rfl, p2, A, B, b1, b2, m1, m1', m3, m3', m4, m5, hT⟩
  | 1, hq, hSk =>
   obtain rfl := Option.some.inj hq
   obtain rfl := m1 hSk
   have n4 : S 4 = false := by
    cases h : S 4 with
    | false => rfl
    | true => rw [← hSk]; exact (deps_of (hcl 4 _ h rfl) 1 rfl).symm
   refine Ops.mkI n hT (by exact p0 (deps_of hd 0 rfl)) rfl (by omega) ?_
   intro A' w5 hT5
   refine Ops.nil ?_
   exact ⟨f2, f3, p0, p2, A', B, [CkI 2 A' n n (List.replicate n 0)], b2, fun h => (nomatch (show true = false from h)), fun _ => ⟨rfl, rfl⟩, m3, m3', fun h => (nomatch n4.symm.trans h), m5, hT5⟩
  | 2, hq, hSk =>
   obtain rfl := Option.some.inj hq
   refine Ops.mv_int rfl (by exact f3) rfl ?_
   refine Ops.nil ?_
   exact ⟨f2, f3, p0, fun _ => rfl, A, B, b1, b2, m1, m1', m3, m3', m4, m5, hT⟩
  | 3, hq, hSk =>
   obtain rfl := Option.some.inj hq
   obtain rfl := m3 hSk
   have n5 : S 5 = false := by
    cases h : S 5 with
    | false => rfl
    | true => rw [← hSk]; exact (deps_of (hcl 5 _ h rfl) 3 rfl).symm
   refine Ops.mkI n hT (by exact p2 (deps_of hd 2 rfl)) rfl (by omega) ?_
   intro A' w5 hT5
   refine Ops.nil ?_
   exact ⟨f2, f3, p0, p2, A, A', b1, [CkI 2 A' n n (List.replicate n 0)], m1, m1', fun h => (nomatch (show true = false from h)), fun _ => ⟨rfl, rfl⟩, m4, fun h => (nomatch n5.symm.trans h), hT5.perm (List.perm_middle (l₁ := b1)).symm⟩
  | 4, hq, hSk =>
   obtain rfl := Option.some.inj hq
   refine Ops.mv_sl rfl (by exact (m1' (deps_of hd 1 rfl)).1) rfl ?_
   refine Ops.nil ?_
   exact ⟨f2, f3, p0, p2, A, B, b1, b2, m1, m1', m3, m3', fun _ => rfl, m5, hT⟩
  | 5, hq, hSk =>
   obtain rfl := Option.some.inj hq
   refine Ops.mv_sl rfl (by exact (m3' (deps_of hd 3 rfl)).1) rfl ?_
   refine Ops.nil ?_
   exact ⟨f2, f3, p0, p2, A, B, b1, b2, m1, m1', m3, m3', m4, fun _ => rfl, hT⟩
  | q + 6, hq, _ => exact (nomatch hq)
 ·intro S e1 w4 hall hI
  obtain ⟨⟨A0, f2, hbase⟩, f3, p0, p2, A, B, b1, b2, m1, m1', m3, m3', m4, m5, hT⟩ := hI
  obtain ⟨_, rfl⟩ := m1' (hall 1 (by decide))
  obtain ⟨_, rfl⟩ := m3' (hall 3 (by decide))
  rw [hbase] at hT
  refine thenQ_ext (F := [(2, .pointer A0), (3, .int .i64 (n : Int)), (4, .slice A n n), (5, .slice B n n)]) ⟨f2, f3, m4 (hall 4 (by decide)), m5 (hall 5 (by decide)), trivial⟩ ?_
  have hT : St w w4 [CkI 2 A n n (List.replicate n 0), CkI 2 B n n (List.replicate n 0), Bx 32 1 A0 [.slice none 0 0]] := hT
  have hz : Rg n (List.replicate n 0) := ⟨by simp, fun x hx => by obtain ⟨h0, rfl⟩ := List.mem_replicate.1 hx; omega⟩
  refine thenQ_n ?_
  refine Cd.seq ?_
  refine Cd.seq ?_
  refine Cd.region ?_
  refine Ops.mv_int rfl rfl rfl ?_
  refine Ops.nil ?_
  refine thenQ_n ?_
  refine Cd.block ?_
  refine Cd.loop (α := Nat × List Int × List Int) (fun s => [(2, .pointer A0), (3, .int .i64 (n : Int)), (4, .slice A n n), (5, .slice B n n), (6, .int .i64 (s.1 : Int))]) (fun s w' => St w w' [CkI 2 A n n s.2.1, CkI 2 B n n s.2.2, Bx 32 1 A0 [.slice none 0 0]] ∧ Rg n s.2.1 ∧ Rg n s.2.2 ∧ s.1 ≤ n) (fun s => n - s.1) (0, List.replicate n 0, List.replicate n 0) ⟨rfl, rfl, rfl, rfl, rfl, trivial⟩ ⟨hT, hz, hz, Nat.zero_le _⟩ ?_
  rintro ⟨f, xs, ys⟩ e w5 ⟨hT5, hx, hy, hf⟩
  dsimp only at hT5 hx hy hf ⊢
  refine Cd.seq ?_
  refine Cd.seq ?_
  refine Cd.region ?_
  refine Ops.mv_int rfl rfl rfl ?_
  refine Ops.mv_int rfl rfl rfl ?_
  refine Ops.lss rfl rfl rfl ?_
  refine Ops.nil ?_
  refine thenQ_n ?_
  refine Cd.cond_p _ rfl (fun h1 => ?_) (fun h1 => ?_)
  ·have hX5 := hT5.rdI 0 rfl
   have hm1 := Int.emod_nonneg ((f : Int) + (n : Int) - 1) (b := (n : Int)) (by omega)
   have hm2 := Int.emod_lt_of_pos ((f : Int) + (n : Int) - 1) (b := (n : Int)) (by omega)
   have hm3 := Int.emod_nonneg ((f : Int) + 1) (b := (n : Int)) (by omega)
   have hm4 := Int.emod_lt_of_pos ((f : Int) + 1) (b := (n : Int)) (by omega)
   refine Cd.skip ?_
   refine thenQ_n ?_
   refine Cd.seq ?_
   refine Cd.block ?_
   refine Cd.seq ?_
   refine Cd.region ?_
   refine Ops.mv_int rfl rfl rfl ?_
   refine Ops.rem rfl rfl rfl (by omega) ?_
   refine Ops.eql rfl rfl rfl ?_
   refine Ops.nil ?_
   refine thenQ_n ?_
   refine Cd.cond_p _ rfl (fun h2 => ?_) (fun h2 => ?_)
   ·refine Cd.seq ?_
    refine Cd.region ?_
    refine Ops.mv_sl rfl rfl rfl ?_
    refine Ops.mv_int rfl rfl rfl ?_
    refine Ops.mv_int rfl rfl rfl ?_
    refine Ops.add rfl rfl rfl (by omega) ?_
    refine Ops.idx hX5.2 rfl rfl rfl (by omega) (by omega) ?_
    refine Ops.st_int 0 hT5 rfl rfl rfl (by omega) ?_
    intro w6 hT6
    have hT6 : St w w6 [CkI 2 A n n (xs.set (f : Int).toNat ((f : Int) + 1)), CkI 2 B n n ys, Bx 32 1 A0 [.slice none 0 0]] := hT6
    have hY6 := hT6.rdI 1 rfl
    refine Ops.nil ?_
    refine thenQ_n ?_
    refine Cd.region ?_
    refine Ops.mv_sl rfl rfl rfl ?_
    refine Ops.mv_int rfl rfl rfl ?_
    refine Ops.mv_int rfl rfl rfl ?_
    refine Ops.mv_int rfl rfl rfl ?_
    refine Ops.add rfl rfl rfl (by omega) ?_
    refine Ops.sub rfl rfl rfl (by omega) ?_
    refine Ops.mv_int rfl rfl rfl ?_
    refine Ops.rem rfl rfl rfl (by omega) ?_
    skip
    refine Ops.idx hY6.2 rfl rfl rfl (by omega) (by omega) ?_
    refine Ops.st_int 1 hT6 rfl rfl rfl (by omega) ?_
    intro w7 hT7
    refine Ops.nil ?_
    refine blockQ_n ?_
    refine thenQ_n ?_
    refine Cd.region ?_
    refine Ops.mv_int rfl rfl rfl ?_
    refine Ops.add rfl rfl rfl (by omega) ?_
    refine Ops.mv_int rfl rfl rfl ?_
    refine Ops.nil ?_
    refine thenQ_n ?_
    exact ⟨(f + 1, xs.set (f : Int).toNat ((f : Int) + 1), ys.set (f : Int).toNat (((f : Int) + (n : Int) - 1) % (n : Int))), by show n - (f + 1) < n - f; omega, ⟨rfl, rfl, rfl, rfl, rfl, trivial⟩, hT7, hx.set (by omega) (by omega), hy.set hm1 hm2, by show f + 1 ≤ n; omega⟩
   ·refine Cd.seq ?_
    refine Cd.region ?_
    refine Ops.mv_sl rfl rfl rfl ?_
    refine Ops.mv_int rfl rfl rfl ?_
    refine Ops.mv_int rfl rfl rfl ?_
    refine Ops.sub rfl rfl rfl (by omega) ?_
    refine Ops.idx hX5.2 rfl rfl rfl (by omega) (by omega) ?_
    refine Ops.st_int 0 hT5 rfl rfl rfl (by omega) ?_
    intro w6 hT6
    have hT6 : St w w6 [CkI 2 A n n (xs.set (f : Int).toNat ((f : Int) - 1)), CkI 2 B n n ys, Bx 32 1 A0 [.slice none 0 0]] := hT6
    have hY6 := hT6.rdI 1 rfl
    refine Ops.nil ?_
    refine thenQ_n ?_
    refine Cd.region ?_
    refine Ops.mv_sl rfl rfl rfl ?_
    refine Ops.mv_int rfl rfl rfl ?_
    refine Ops.mv_int rfl rfl rfl ?_
    refine Ops.add rfl rfl rfl (by omega) ?_
    refine Ops.mv_int rfl rfl rfl ?_
    refine Ops.rem rfl rfl rfl (by omega) ?_
    skip
    refine Ops.idx hY6.2 rfl rfl rfl (by omega) (by omega) ?_
    refine Ops.st_int 1 hT6 rfl rfl rfl (by omega) ?_
    intro w7 hT7
    refine Ops.nil ?_
    refine blockQ_n ?_
    refine thenQ_n ?_
    refine Cd.region ?_
    refine Ops.mv_int rfl rfl rfl ?_
    refine Ops.add rfl rfl rfl (by omega) ?_
    refine Ops.mv_int rfl rfl rfl ?_
    refine Ops.nil ?_
    refine thenQ_n ?_
    exact ⟨(f + 1, xs.set (f : Int).toNat ((f : Int) - 1), ys.set (f : Int).toNat (((f : Int) + 1) % (n : Int))), by show n - (f + 1) < n - f; omega, ⟨rfl, rfl, rfl, rfl, rfl, trivial⟩, hT7, hx.set (by omega) (by omega), hy.set hm3 hm4, by show f + 1 ≤ n; omega⟩
  ·refine Cd.exit ?_
   refine thenQ_x ?_
   refine thenQ_x ?_
   refine blockQ_x ?_
   refine thenQ_n ?_
   refine Cd.seq ?_
   refine Cd.region ?_
   refine Ops.mv_sl rfl rfl rfl ?_
   refine Ops.mv_sl rfl rfl rfl ?_
   refine Ops.bs2 hT5 rfl rfl rfl rfl rfl rfl ?_
   intro A9 w6 hT6
   skip
   refine Ops.bld1 (by exact inferInstance) rfl rfl rfl rfl ?_
   refine Ops.st_agg 1 3 hT6 rfl rfl rfl rfl rfl rfl rfl ?_
   intro w7 hT7
   refine Ops.nil ?_
   refine thenQ_n ?_
   refine Cd.ret ?_
   skip
   refine retc_r rfl (hT7.rd 3 rfl) ?_
   refine ⟨A9, 2, [⟨A, n, n⟩, ⟨B, n, n⟩], [xs, ys], rfl, rfl, rfl, fun q hq => ?_, ?_⟩
   ·rcases List.mem_cons.1 hq with rfl | hq
    ·exact hx
    ·rw [List.mem_singleton] at hq; subst hq; exact hy
   ·exact hT7.sub (List.Sublist.cons_cons _ (List.Sublist.cons_cons _ (List.Sublist.cons_cons _ (List.nil_sublist _))))
end Go.Proofs.YtjpkmpihmilgoaaGreat.Vc
/-
 The cycles of a list of numbers, by their least points, and lists in ascending order: a plain law, with no program in sight. Conditions: as each states them.
-/
namespace Go.Proofs.YtjpkmpihmilgoaaGreat.Vc
open Go.RowKit

/-- from x on, till a point comes that was seen -/
def goC (p : List Int) : Nat → Nat → List Bool → List Int × List Bool
 | 0, _, s => ([], s)
 | k + 1, x, s => if gb s (x : Int) = true then ([], s) else ((x : Int) :: (goC p k (gi p x).toNat (s.set x true)).1, (goC p k (gi p x).toNat (s.set x true)).2)

/-- all cycles from some points on -/
def cycs (p : List Int) : List Nat → List Bool → List (List Int)
 | [], _ => []
 | i :: is, s => (if (goC p (s.count false) i s).1 = [] then [] else [(goC p (s.count false) i s).1]) ++ cycs p is (goC p (s.count false) i s).2
/-- the cycles of n points -/
def cyAll (p : List Int) (n : Nat) : List (List Int) := cycs p (List.range n) (List.replicate n false)
def lenAll (p : List Int) (n : Nat) : List Int := (cyAll p n).map fun c => (c.length : Int)
/-! ascending lists -/
def Asc (l : List Int) : Prop := l.Pairwise (· ≤ ·)
def srt (l : List Int) : List Int := l.mergeSort fun x y => decide (x ≤ y)
theorem srt_perm (l : List Int) : (srt l).Perm l := List.mergeSort_perm _ _
theorem srt_asc (l : List Int) : Asc (srt l) := by
 have := List.pairwise_mergeSort (le := fun x y : Int => decide (x ≤ y)) (fun a b c h1 h2 => by simp at h1 h2 ⊢; omega) (fun a b => by simp; omega) l
 exact this.imp fun h => by simpa using h
theorem asc_unique {l l' : List Int} (h : l.Perm l') (h1 : Asc l) (h2 : Asc l') : l = l' :=
 List.Perm.eq_of_pairwise (le := (· ≤ ·)) (fun a b _ _ h1 h2 => by omega) h1 h2 h
/-- a number put in where all ahead are less, and the one there is not -/
theorem asc_put {out : List Int} {a : Nat} {v : Int} (h : Asc out) (ha : a ≤ out.length) (hl : ∀ j : Nat, j < a → gi out (j : Int) < v) (hg : a < out.length → v ≤ gi out (a : Int)) : Asc (out.take a ++ (v :: out.drop a)) := by
 have key : ∀ j (hj : j < out.length), gi out (j : Int) = out[j] := fun j hj => by simp [gi, List.getD_eq_getElem?_getD, List.getElem?_eq_getElem hj]
 have hidx : ∀ i j (hi : i < out.length) (hj : j < out.length), i ≤ j → out[i] ≤ out[j] := fun i j hi hj hij => by
  by_cases e : i = j
  ·subst e; exact Int.le_refl _
  ·exact (List.pairwise_iff_getElem.1 h) i j hi hj (by omega)
 unfold Asc
 rw [List.pairwise_append, List.pairwise_cons]
 refine ⟨h.sublist (List.take_sublist _ _), ⟨fun x hx => ?_, h.sublist (List.drop_sublist _ _)⟩, fun x hx y hy => ?_⟩
 ·obtain ⟨j, hj, rfl⟩ := List.mem_iff_getElem.1 hx
  rw [List.length_drop] at hj
  rw [List.getElem_drop]
  have h1 := hg (by omega)
  rw [key a (by omega)] at h1
  exact Int.le_trans h1 (hidx _ _ (by omega) (by omega) (by omega))
 ·obtain ⟨j, hj, rfl⟩ := List.mem_iff_getElem.1 hx
  rw [List.length_take] at hj
  rw [List.getElem_take]
  have hxv : out[j] < v := by rw [← key j (by omega)]; exact hl j (by omega)
  rcases List.mem_cons.1 hy with rfl | hy
  ·omega
  ·obtain ⟨m, hm, rfl⟩ := List.mem_iff_getElem.1 hy
   rw [List.length_drop] at hm
   rw [List.getElem_drop]
   exact hidx _ _ (by omega) (by omega) (by omega)
theorem put_perm {out : List Int} {a : Nat} {v : Int} : (out.take a ++ (v :: out.drop a)).Perm (out ++ [v]) := by
 have h1 : (out.take a ++ (v :: out.drop a)).Perm (v :: (out.take a ++ out.drop a)) := List.perm_middle
 rw [List.take_append_drop] at h1
 exact h1.trans (List.perm_append_comm (l₁ := [v]))
end Go.Proofs.YtjpkmpihmilgoaaGreat.Vc
/-
 The walks of the reference's runs of a word over flags, and of the lengths of a word. Conditions: as each states them.
-/
namespace Go.Proofs.YtjpkmpihmilgoaaGreat.Vc
open Go.RowKit

/-- where a word leads from x -/
def runW (xss : List (List Int)) (x : Int) (ws : List Int) : Int := ws.foldl (fun x i => gi (gl xss i) x) x
/-- what a word does -/
def doesL (xss : List (List Int)) (F : Nat) (ws : List Int) : List Int := (List.range F).map fun x : Nat => runW xss (x : Int) ws
/-- a maniplex with edges -/
def Grph (xss : List (List Int)) : Prop := Mani xss ∧ 2 ≤ xss.length
instance (xss : List (List Int)) : Decidable (Grph xss) := by unfold Grph; exact inferInstance

theorem l18Is_c (A : Option Addr) (n c : Nat) (rs : List SlV) (xss : List (List Int)) (w : World) (hR : RowsI w A n rs xss) (hn : n ≤ 9223372036854775807) :
  Ret Tryz.prog 70 [.agg #[.slice A n c]] w (fun v w' => v = .bool (decide (Grph xss)) ∧ St w w' []) := by
 have hl := hR.len
 refine Ret.of_cd Tryz.func70 rfl Tryz.ntmps70 rfl (post1 rfl) ?_
 refine Cd.seq ?_
 refine Cd.region ?_
 refine Ops.box1 (St.refl w) rfl rfl ?_
 intro Ab w1 hS
 refine Ops.mv_bool rfl rfl rfl ?_
 refine Ops.nil ?_
 refine thenQ_n ?_
 refine Cd.seq ?_
 refine Cd.region ?_
 refine Ops.ld_agg 0 (hS.rd 0 rfl) rfl rfl rfl ?_
 refine Ops.call (l02Is_c A n c rs xss _ (hS.oldRows hR) hn) rfl rfl rfl ?_
 rintro _ w2 ⟨rfl, hst⟩
 have hS := hS.later hst.below
 refine Ops.mv_bool rfl rfl rfl ?_
 refine Ops.split_p 5 rfl (fun h => ?_) (fun h => ?_)
 ·refine Ops.rung rfl rfl rfl ?_
  refine Ops.fld (hS.rd 0 rfl) rfl rfl rfl rfl inferInstance ?_
  refine Ops.rung rfl rfl rfl ?_
  refine Ops.ldf_s (hS.rd 0 rfl) rfl rfl rfl rfl rfl ?_
  refine Ops.rung rfl rfl rfl ?_
  refine Ops.len rfl rfl ?_
  refine Ops.rung rfl rfl rfl ?_
  refine Ops.geq rfl rfl rfl ?_
  refine Ops.pick_t rfl rfl rfl ?_
  refine Ops.mv_bool rfl rfl rfl ?_
  refine Ops.nil ?_
  refine thenQ_n ?_
  refine Cd.ret ?_
  refine ret1_b rfl ?_
  exact ⟨by simp [Grph, h, hl]; omega, hS.none⟩
 ·refine Ops.skipg rfl rfl rfl rfl rfl ?_
  refine Ops.skipg rfl rfl rfl rfl rfl ?_
  refine Ops.skipg rfl rfl rfl rfl rfl ?_
  refine Ops.skipg rfl rfl rfl rfl rfl ?_
  refine Ops.pick_f rfl rfl rfl ?_
  refine Ops.mv_bool rfl rfl rfl ?_
  refine Ops.nil ?_
  refine thenQ_n ?_
  refine Cd.ret ?_
  refine ret1_b rfl ?_
  exact ⟨by simp [Grph, h], hS.none⟩

theorem l02Flags_c (A : Option Addr) (n c : Nat) (rs : List SlV) (xss : List (List Int)) (w : World) (hR : RowsI w A n rs xss) (hn : 0 < n) :
  Ret Tryz.prog 119 [.agg #[.slice A n c]] w (fun v w' => v = .int .i64 ((gl xss 0).length : Int) ∧ St w w' []) := by
 refine Ret.of_cd Tryz.func119 rfl Tryz.ntmps119 rfl (post1 rfl) ?_
 refine Cd.seq ?_
 refine Cd.region ?_
 refine Ops.box1 (St.refl w) rfl rfl ?_
 intro Ab w1 hS
 have hR1 := hS.oldRows hR
 have e0 : (gl xss 0).length = (rg rs 0).n := hR.rowLen (by omega) (by omega)
 refine Ops.mv_int rfl rfl rfl ?_
 refine Ops.nil ?_
 refine thenQ_n ?_
 refine Cd.seq ?_
 refine Cd.region ?_
 refine Ops.fld (hS.rd 0 rfl) rfl rfl rfl rfl inferInstance ?_
 refine Ops.ldf_s (hS.rd 0 rfl) rfl rfl rfl rfl rfl ?_
 refine Ops.idx hR1.top.2 rfl rfl rfl (by omega) (by omega) ?_
 refine Ops.ld_sl hR1.top rfl (by omega) rfl rfl ?_
 refine Ops.len rfl rfl ?_
 refine Ops.mv_int rfl rfl rfl ?_
 refine Ops.nil ?_
 refine thenQ_n ?_
 refine Cd.ret ?_
 refine ret1_i rfl ?_
 exact ⟨by rw [e0], hS.none⟩

end Go.Proofs.YtjpkmpihmilgoaaGreat.Vc
/-
 The walks of forms on both sides. Conditions: as each states them.
-/
namespace Go.Proofs.YtjpkmpihmilgoaaGreat.Vc
open Go.RowKit

theorem Mani.prm {xss : List (List Int)} (hM : Mani xss) {f : Int} (h0 : 0 ≤ f) (hf : f < (gl xss 0).length) : Prm (gl xss 0).length (orbit (gl xss 0).length xss f) := by
 have hs := hM.2.2.1.sys
 have hi := hM.2.2.1.inj
 have h2 := hM.2.1
 obtain ⟨g, _, hm⟩ := orbit_spec hs h0 hf
 have hall := (orbit_all hs (by omega)).1 hM.2.2.2.2
 refine ⟨?_, g.nodup, g.range⟩
 have h1 := sub_len (seqI (gl xss 0).length) (orbit (gl xss 0).length xss f) (by
  unfold seqI
  rw [List.nodup_iff_pairwise_ne, List.pairwise_map]
  exact (List.nodup_iff_pairwise_ne.1 List.nodup_range).imp (fun h e => h (by omega))) (fun z hz => by
  have hz := seqI_mem.1 hz
  exact (hm z).2 ((Reach.symm hs hi (by omega) (by omega) (hall f h0 hf)).trans (hall z hz.1 hz.2)))
 rw [seqI_len] at h1
 have := g.len
 omega

end Go.Proofs.YtjpkmpihmilgoaaGreat.Vc
/-
 The walk of the reference's lengths of a word. Conditions: as it states them.
-/
namespace Go.Proofs.YtjpkmpihmilgoaaGreat.Vc
open Go.RowKit

theorem RdI.drop {w : World} {A : Option Addr} {n c l : Nat} {xs : List Int} (h : RdI w A n xs) (hl : l ≤ n) (hc : n ≤ c) : RdI w (cutAt A c l) (n - l) (xs.drop l) := by
 have := h.cut (l := l) (h := n) (c := c) hl (Nat.le_refl _) hc
 rwa [List.take_of_length_le (by rw [List.length_drop, h.1]; omega)] at this
theorem RdI.take {w : World} {A : Option Addr} {n l : Nat} {xs : List Int} (h : RdI w A n xs) (hl : l ≤ n) : RdI w A l (xs.take l) := by
 have := h.cut (l := 0) (h := l) (c := 0) (Nat.zero_le _) hl
 refine ⟨by rw [List.length_take, h.1]; omega, fun k hk => ?_⟩
 obtain ⟨q, h1, h2⟩ := h.2 k (by omega)
 exact ⟨q, h1, by rw [h2]; simp [List.getElem?_take, hk, List.getD_eq_getElem?_getD]⟩

end Go.Proofs.YtjpkmpihmilgoaaGreat.Vc
