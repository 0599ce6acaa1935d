/-
  The texts G4, G5, F1, Db, Cyc, C1, F2, C2 in one. Conditions: as each part states them.
-/
import Derived.Test.YtjpkmpihmilgoaaGreatZc
import Derived.Test.YtjpkmpihmilgoaaGreatZb
import Derived.Test.YtjpkmpihmilgoaaGreatZa
/-
 The walks of the reference's list of rooted forms and of its count. Conditions: as each states them.
-/
namespace Go.Proofs.YtjpkmpihmilgoaaGreat.Vc
open Go.RowKit

def Small (rank flags : Int) : Prop := (1 ≤ rank ∧ rank ≤ 4) ∧ (2 ≤ flags ∧ flags ≤ 12)
instance (rank flags : Int) : Decidable (Small rank flags) := by unfold Small; exact inferInstance
/-- the answer: how many, and the code -/
def cnt1 (rank flags : Int) : Int := if Small rank flags then ((forms rank.toNat flags.toNat (flags.toNat * rank.toNat + 1) 0 1 (blank rank.toNat flags.toNat)).length : Int) else 0
def cnt2 (rank flags : Int) : Int := if Small rank flags then 0 else 2
end Go.Proofs.YtjpkmpihmilgoaaGreat.Vc
/-
 The walks of the program's copies and of its test of a move. Conditions: as each states them.
-/
namespace Go.Proofs.YtjpkmpihmilgoaaGreat.Vc
open Go.RowKit

end Go.Proofs.YtjpkmpihmilgoaaGreat.Vc
/-
 The walks of the reference's forms. Conditions: as each states them.
-/
namespace Go.Proofs.YtjpkmpihmilgoaaGreat.Vc
open Go.RowKit

section
variable {P : Program} {N : Nat} {ops : Array Oper} {K : Env → World → Prop} {rest : List Oper} {e : Env} {w : World} {d : Nat} {ty : TypeId} {pos : String} {af : Array Edge}
theorem Ops.bld0 {t : TypeId} {f0 : Field} {z0 zf : Value} {b bf : Nat} [Und P t (.struct #[f0])] [Inf P t (.agg #[z0]) 1 b] (hI : Inf P f0.type zf 1 bf) (hb : Nat.blt d N = true)
    (hK : Ops P N ops K rest (upd e d (.agg #[z0])) w) : Ops P N ops K (⟨some d, .build t #[], ty, pos, af, none⟩ :: rest) e w := by
  obtain ⟨inf, hi, hz0, hs, hby⟩ := Inf.get P t
  obtain ⟨inf', hi', hz0', hs', hby'⟩ := hI.get P f0.type
  have ez : (Value.agg #[z0]).cells = #[z0] := rfl
  refine .val (w' := w) ?_ hb hK
  simp [execOp, Instr.build, run_underlying (Und.out (P := P) (t := t)), sizeOf, typeInfo, zeroValue, hi, hz0, hs, hi', hs', ez, Instr.fill]
end

theorem l02Renumber_c (A : Option Addr) (n c : Nat) (rs : List SlV) (xss : List (List Int)) (N : Nat) (Ap : Option Addr) (cp : Nat) (p : List Int) (w : World) (hR : RowsI w A n rs xss) (hn : n ≤ 1000000) (hs : Sys N xss) (hN : N ≤ 1000000) (hP : RdI w Ap N p) (hp : ∀ x : Int, 0 ≤ x → x < N → 0 ≤ gi p x ∧ gi p x < N) :
    Ret Tryz.prog 173 [.agg #[.slice A n c], .slice Ap N cp] w (fun v w' => ∃ A' c' rs', v = .agg #[.slice A' n c'] ∧ rs'.length = n ∧ St w w' (mat 34 2 A' n c' rs' (xss.map (renI N p)))) := by
  have hpl := hP.1
  have hxl := hR.len
  refine Ret.of_cd Tryz.func173 rfl Tryz.ntmps173 rfl (postc rfl rfl) ?_
  refine Cd.seq ?_
  refine Cd.region ?_
  refine Ops.box1 (St.refl w) rfl rfl ?_
  intro Ab w1 hS1
  refine Ops.new1 hS1 rfl ?_
  intro Ac w2 hS2
  refine Ops.nil ?_
  refine thenQ_n ?_
  refine Cd.seq ?_
  refine Cd.region ?_
  refine Ops.bld0 (by exact inferInstance) rfl ?_
  refine Ops.new1 hS2 rfl ?_
  intro Ad w3 hS3
  refine Ops.st_agg 1 0 hS3 rfl rfl rfl rfl rfl rfl rfl ?_
  intro w4 hS4
  have hS4 : St w w4 (Bx 32 1 Ad [.slice none 0 0] :: Bx 32 1 Ac [.slice none 0 0] :: Bx 32 1 Ab [.slice A n c] :: []) := hS4
  have hS0 : St w w4 (Bx 32 1 Ad [.slice none 0 0] :: Bx 32 1 Ac [.slice none 0 0] :: Bx 32 1 Ab [.slice A n c] :: CkR 34 none 0 0 [] :: []) :=
    (hS4.nil 34).perm (List.perm_append_comm (l₁ := [_]) (l₂ := [_, _, _]))
  refine Ops.nil ?_
  refine thenQ_n ?_
  refine Cd.seq ?_
  refine Cd.seq ?_
  refine Cd.region ?_
  refine Ops.mv_int rfl rfl rfl ?_
  refine Ops.nil ?_
  refine thenQ_n ?_
  refine Cd.block ?_
  refine Cd.loop (α := Nat × Option Addr × Nat × List SlV) (fun s => [(1, .slice Ap N cp), (2, .pointer Ab), (4, .pointer Ac), (5, .pointer Ad), (6, .int .i64 (s.1 : Int))]) (fun s w' => St w w' (Bx 32 1 Ad [.slice s.2.1 s.1 s.2.2.1] :: Bx 32 1 Ac [.slice none 0 0] :: Bx 32 1 Ab [.slice A n c] :: CkR 34 s.2.1 s.1 s.2.2.1 s.2.2.2 :: rowsCk 2 s.2.2.2 ((xss.map (renI N p)).take s.1)) ∧ s.1 ≤ n ∧ s.2.2.2.length = s.1) (fun s => n - s.1) (0, none, 0, []) ⟨rfl, rfl, rfl, rfl, rfl, trivial⟩ ⟨hS0, Nat.zero_le _, rfl⟩ ?_
  rintro ⟨i, A3, c3, rs1⟩ e w5 ⟨hS5, hi, hlen⟩
  dsimp only at hS5 hi hlen ⊢
  refine Cd.seq ?_
  refine Cd.seq ?_
  refine Cd.region ?_
  refine Ops.mv_int rfl rfl rfl ?_
  refine Ops.fld (hS5.rd 2 rfl) rfl rfl rfl rfl inferInstance ?_
  refine Ops.ldf_s (hS5.rd 2 rfl) rfl rfl rfl rfl rfl ?_
  refine Ops.len rfl rfl ?_
  refine Ops.lss rfl rfl rfl ?_
  refine Ops.nil ?_
  refine thenQ_n ?_
  refine Cd.cond_p _ rfl (fun h1 => ?_) (fun h1 => ?_)
  · have hi' : i < n := by omega
    have hx : i < xss.length := by omega
    refine Cd.skip ?_
    refine thenQ_n ?_
    refine Cd.seq ?_
    refine Cd.block ?_
    refine Cd.seq ?_
    refine Cd.region ?_
    refine Ops.mv_sl rfl rfl rfl ?_
    refine Ops.len rfl rfl ?_
    refine Ops.mkI N hS5 rfl rfl (by omega) ?_
    intro A7 w6 hS6
    refine Ops.mv_sl rfl rfl rfl ?_
    refine Ops.nil ?_
    refine thenQ_n ?_
    refine Cd.seq ?_
    refine Cd.seq ?_
    refine Cd.region ?_
    refine Ops.mv_int rfl rfl rfl ?_
    refine Ops.nil ?_
    refine thenQ_n ?_
    refine Cd.block ?_
    have e2 : gl xss i = xss[i] := by simp [gl, List.getD_eq_getElem?_getD, List.getElem?_eq_getElem hx]
    have hmv := hs (gl xss i) (gl_in (by omega) (by omega))
    refine Cd.loop (α := Nat) (fun k => [(1, .slice Ap N cp), (2, .pointer Ab), (4, .pointer Ac), (5, .pointer Ad), (6, .int .i64 (i : Int)), (7, .slice A7 N N), (8, .int .i64 (k : Int))]) (fun k w' => St w w' (CkI 2 A7 N N (scat (List.replicate N 0) (fun f => gi p f) (fun f => gi p (gi (gl xss i) f)) k) :: Bx 32 1 Ad [.slice A3 i c3] :: Bx 32 1 Ac [.slice none 0 0] :: Bx 32 1 Ab [.slice A n c] :: CkR 34 A3 i c3 rs1 :: rowsCk 2 rs1 ((xss.map (renI N p)).take i)) ∧ k ≤ N) (fun k => N - k) 0 ⟨rfl, rfl, rfl, rfl, rfl, rfl, rfl, trivial⟩ ⟨hS6, Nat.zero_le _⟩ ?_
    rintro k e w7 ⟨hS7, hk⟩
    have hM := hS7.oldRows hR
    have hP7 := hS7.oldI hP
    refine Cd.seq ?_
    refine Cd.seq ?_
    refine Cd.region ?_
    refine Ops.mv_int rfl rfl rfl ?_
    refine Ops.mv_sl rfl rfl rfl ?_
    refine Ops.len rfl rfl ?_
    refine Ops.lss rfl rfl rfl ?_
    refine Ops.nil ?_
    refine thenQ_n ?_
    refine Cd.cond_p _ rfl (fun h2 => ?_) (fun h2 => ?_)
    · have hrow := hM.at_ (i := (i : Int)) (by omega) h1
      have hrn := hM.rowLen (k := (i : Int)) (by omega) h1
      have hv := hmv.2 (k : Int) (by omega) (by omega)
      have hpk := hp (k : Int) (by omega) (by omega)
      have hpv := hp _ hv.1 hv.2
      have hml := hmv.1
      have hB := hS7.rd 3 rfl
      have hO := hS7.rdI 0 rfl
      have hlt : (gi p (k : Int)).toNat < N := by omega
      refine Cd.skip ?_
      refine thenQ_n ?_
      refine Cd.seq ?_
      refine Cd.block ?_
      refine Cd.drawN [17] [.ex (.slice (A7) (N) (N)), .ex (.slice (Ap) (N) (cp)), .ex (.int .i64 ((k : Int))), .ex (.pointer (ptrAt (Ap) ((k : Int)).toNat)), .ex (.int .i64 (gi (p) ((k : Int)))), .ex (.slice (Ap) (N) (cp)), .ex (.pointer (ptrAt (Ab) 0)), .ex (.slice (A) (n) (c)), .ex (.int .i64 ((i : Int))), .ex (.pointer (ptrAt (A) ((i : Int)).toNat)), .ex (.slice ((rg (rs) ((i : Int))).a) ((rg (rs) ((i : Int))).n) ((rg (rs) ((i : Int))).c)), .ex (.int .i64 ((k : Int))), .ex (.pointer (ptrAt ((rg (rs) ((i : Int))).a) ((k : Int)).toNat)), .ex (.int .i64 (gi (gl xss (i : Int)) ((k : Int)))), .ex (.pointer (ptrAt (Ap) (gi (gl xss (i : Int)) ((k : Int))).toNat)), .ex (.int .i64 (gi (p) (gi (gl xss (i : Int)) ((k : Int))))), .ex (.pointer (ptrAt (A7) (gi (p) ((k : Int))).toNat)), .pr (fun _ w' => St w w' (CkI 2 A7 N N (scat (List.replicate N 0) (fun f => gi p f) (fun f => gi p (gi (gl xss i) f)) (k + 1)) :: Bx 32 1 Ad [.slice A3 i c3] :: Bx 32 1 Ac [.slice none 0 0] :: Bx 32 1 Ab [.slice A n c] :: CkR 34 A3 i c3 rs1 :: rowsCk 2 rs1 ((xss.map (renI N p)).take i)))] (by kernel_rfl) (by kernel_rfl) (List.forall_mem_cons.2 ⟨Yd.lasts_ex _, (List.forall_mem_cons.2 ⟨Yd.lasts_ex _, (List.forall_mem_cons.2 ⟨Yd.lasts_ex _, (List.forall_mem_cons.2 ⟨Yd.lasts_ex _, (List.forall_mem_cons.2 ⟨Yd.lasts_ex _, (List.forall_mem_cons.2 ⟨Yd.lasts_ex _, (List.forall_mem_cons.2 ⟨Yd.lasts_ex _, (List.forall_mem_cons.2 ⟨Yd.lasts_ex _, (List.forall_mem_cons.2 ⟨Yd.lasts_ex _, (List.forall_mem_cons.2 ⟨Yd.lasts_ex _, (List.forall_mem_cons.2 ⟨Yd.lasts_ex _, (List.forall_mem_cons.2 ⟨Yd.lasts_ex _, (List.forall_mem_cons.2 ⟨Yd.lasts_ex _, (List.forall_mem_cons.2 ⟨Yd.lasts_ex _, (List.forall_mem_cons.2 ⟨Yd.lasts_ex _, (List.forall_mem_cons.2 ⟨Yd.lasts_ex _, (List.forall_mem_cons.2 ⟨Yd.lasts_ex _, (List.forall_mem_cons.2 ⟨Yd.lasts_pr (fun v w w' h hb => h.later hb), (fun _ h => by cases h)⟩)⟩)⟩)⟩)⟩)⟩)⟩)⟩)⟩)⟩)⟩)⟩)⟩)⟩)⟩)⟩)⟩)⟩) ⟨?_, ?_, ?_, ?_, ?_, ?_, ?_, ?_, ?_, ?_, ?_, ?_, ?_, ?_, ?_, ?_, ?_, ?_, trivial⟩ ?_
      · intro e1 w1 cc hlo hhi hb0 hp hun hq
        show Ops _ _ _ _ _ _ _
        refine Ops.mv_sl rfl rfl rfl ?_
        refine Ops.nil ?_
        exact AfterN.dn rfl (Below.refl _ _) (by exact rfl)
      · intro e1 w1 cc hlo hhi hb0 hp hun hq
        show Ops _ _ _ _ _ _ _
        refine Ops.mv_sl rfl rfl rfl ?_
        refine Ops.nil ?_
        exact AfterN.dn rfl (Below.refl _ _) (by exact rfl)
      · intro e1 w1 cc hlo hhi hb0 hp hun hq
        show Ops _ _ _ _ _ _ _
        refine Ops.mv_int rfl rfl rfl ?_
        refine Ops.nil ?_
        exact AfterN.dn rfl (Below.refl _ _) (by exact rfl)
      · intro e1 w1 cc hlo hhi hb0 hp hun hq
        show Ops _ _ _ _ _ _ _
        replace hlo := le_of_lo hlo (b := 0) (by kernel_rfl)
        replace hhi := le_of_hi hhi (b := 0) (by kernel_rfl)
        obtain rfl : cc = 0 := by omega
        have hb := hb0 rfl
        refine Ops.idx (hP7.later hb).2 rfl rfl rfl (by omega) (by omega) ?_
        refine Ops.nil ?_
        exact AfterN.dn rfl (Below.refl _ _) (by exact rfl)
      · intro e1 w1 cc hlo hhi hb0 hp hun hq
        show Ops _ _ _ _ _ _ _
        replace hlo := le_of_lo hlo (b := 0) (by kernel_rfl)
        replace hhi := le_of_hi hhi (b := 0) (by kernel_rfl)
        obtain rfl : cc = 0 := by omega
        have hb := hb0 rfl
        refine Ops.ld_int (hP7.later hb) rfl (by omega) rfl rfl ?_
        refine Ops.nil ?_
        exact AfterN.dn rfl (Below.refl _ _) (by exact rfl)
      · intro e1 w1 cc hlo hhi hb0 hp hun hq
        show Ops _ _ _ _ _ _ _
        refine Ops.mv_sl rfl rfl rfl ?_
        refine Ops.nil ?_
        exact AfterN.dn rfl (Below.refl _ _) (by exact rfl)
      · intro e1 w1 cc hlo hhi hb0 hp hun hq
        show Ops _ _ _ _ _ _ _
        replace hlo := le_of_lo hlo (b := 0) (by kernel_rfl)
        replace hhi := le_of_hi hhi (b := 0) (by kernel_rfl)
        obtain rfl : cc = 0 := by omega
        have hb := hb0 rfl
        refine Ops.fld (hB.below hb) rfl rfl rfl rfl inferInstance ?_
        refine Ops.nil ?_
        exact AfterN.dn rfl (Below.refl _ _) (by exact rfl)
      · intro e1 w1 cc hlo hhi hb0 hp hun hq
        show Ops _ _ _ _ _ _ _
        replace hlo := le_of_lo hlo (b := 0) (by kernel_rfl)
        replace hhi := le_of_hi hhi (b := 0) (by kernel_rfl)
        obtain rfl : cc = 0 := by omega
        have hb := hb0 rfl
        refine Ops.ldf_s (hB.below hb) rfl rfl rfl rfl rfl ?_
        refine Ops.nil ?_
        exact AfterN.dn rfl (Below.refl _ _) (by exact rfl)
      · intro e1 w1 cc hlo hhi hb0 hp hun hq
        show Ops _ _ _ _ _ _ _
        refine Ops.mv_int rfl rfl rfl ?_
        refine Ops.nil ?_
        exact AfterN.dn rfl (Below.refl _ _) (by exact rfl)
      · intro e1 w1 cc hlo hhi hb0 hp hun hq
        show Ops _ _ _ _ _ _ _
        replace hlo := le_of_lo hlo (b := 0) (by kernel_rfl)
        replace hhi := le_of_hi hhi (b := 0) (by kernel_rfl)
        obtain rfl : cc = 0 := by omega
        have hb := hb0 rfl
        refine Ops.idx (hM.top.later hb).2 rfl rfl rfl (by omega) (by omega) ?_
        refine Ops.nil ?_
        exact AfterN.dn rfl (Below.refl _ _) (by exact rfl)
      · intro e1 w1 cc hlo hhi hb0 hp hun hq
        show Ops _ _ _ _ _ _ _
        replace hlo := le_of_lo hlo (b := 0) (by kernel_rfl)
        replace hhi := le_of_hi hhi (b := 0) (by kernel_rfl)
        obtain rfl : cc = 0 := by omega
        have hb := hb0 rfl
        refine Ops.ld_sl (hM.top.later hb) rfl (by omega) rfl rfl ?_
        refine Ops.nil ?_
        exact AfterN.dn rfl (Below.refl _ _) (by exact rfl)
      · intro e1 w1 cc hlo hhi hb0 hp hun hq
        show Ops _ _ _ _ _ _ _
        refine Ops.mv_int rfl rfl rfl ?_
        refine Ops.nil ?_
        exact AfterN.dn rfl (Below.refl _ _) (by exact rfl)
      · intro e1 w1 cc hlo hhi hb0 hp hun hq
        show Ops _ _ _ _ _ _ _
        replace hlo := le_of_lo hlo (b := 0) (by kernel_rfl)
        replace hhi := le_of_hi hhi (b := 0) (by kernel_rfl)
        obtain rfl : cc = 0 := by omega
        have hb := hb0 rfl
        refine Ops.idx (hrow.later hb).2 rfl rfl rfl (by omega) (by omega) ?_
        refine Ops.nil ?_
        exact AfterN.dn rfl (Below.refl _ _) (by exact rfl)
      · intro e1 w1 cc hlo hhi hb0 hp hun hq
        show Ops _ _ _ _ _ _ _
        replace hlo := le_of_lo hlo (b := 0) (by kernel_rfl)
        replace hhi := le_of_hi hhi (b := 0) (by kernel_rfl)
        obtain rfl : cc = 0 := by omega
        have hb := hb0 rfl
        refine Ops.ld_int (hrow.later hb) rfl (by omega) rfl rfl ?_
        refine Ops.nil ?_
        exact AfterN.dn rfl (Below.refl _ _) (by exact rfl)
      · intro e1 w1 cc hlo hhi hb0 hp hun hq
        show Ops _ _ _ _ _ _ _
        replace hlo := le_of_lo hlo (b := 0) (by kernel_rfl)
        replace hhi := le_of_hi hhi (b := 0) (by kernel_rfl)
        obtain rfl : cc = 0 := by omega
        have hb := hb0 rfl
        refine Ops.idx (hP7.later hb).2 rfl rfl rfl (by omega) (by omega) ?_
        refine Ops.nil ?_
        exact AfterN.dn rfl (Below.refl _ _) (by exact rfl)
      · intro e1 w1 cc hlo hhi hb0 hp hun hq
        show Ops _ _ _ _ _ _ _
        replace hlo := le_of_lo hlo (b := 0) (by kernel_rfl)
        replace hhi := le_of_hi hhi (b := 0) (by kernel_rfl)
        obtain rfl : cc = 0 := by omega
        have hb := hb0 rfl
        refine Ops.ld_int (hP7.later hb) rfl (by omega) rfl rfl ?_
        refine Ops.nil ?_
        exact AfterN.dn rfl (Below.refl _ _) (by exact rfl)
      · intro e1 w1 cc hlo hhi hb0 hp hun hq
        show Ops _ _ _ _ _ _ _
        replace hlo := le_of_lo hlo (b := 0) (by kernel_rfl)
        replace hhi := le_of_hi hhi (b := 0) (by kernel_rfl)
        obtain rfl : cc = 0 := by omega
        have hb := hb0 rfl
        refine Ops.idx (hO.later hb).2 rfl rfl rfl (by omega) (by omega) ?_
        refine Ops.nil ?_
        exact AfterN.dn rfl (Below.refl _ _) (by exact rfl)
      · intro e1 w1 cc hlo hhi hb0 hp hun hq
        show Ops _ _ _ _ _ _ _
        replace hlo := le_of_lo hlo (b := 0) (by kernel_rfl)
        replace hhi := le_of_hi hhi (b := 0) (by kernel_rfl)
        obtain rfl : cc = 0 := by omega
        have hb := hb0 rfl
        refine Ops.st_int 0 (hS7.later hb) rfl rfl rfl hlt ?_
        intro w9 hst
        refine Ops.nil ?_
        exact AfterT.st rfl hst
      intro u w8 _ hu
      have hS8 := hu 17 _ rfl (by kernel_rfl)
      refine blockQ_n ?_
      refine thenQ_n ?_
      refine Cd.region ?_
      refine Ops.mv_int rfl rfl rfl ?_
      refine Ops.add rfl rfl rfl (by omega) ?_
      refine Ops.mv_int rfl rfl rfl ?_
      refine Ops.nil ?_
      refine thenQ_n ?_
      exact ⟨k + 1, by show N - (k + 1) < N - k; omega, ⟨rfl, rfl, rfl, rfl, rfl, rfl, rfl, trivial⟩, hS8, by omega⟩
    · have hkN : k = N := by omega
      subst hkN
      refine Cd.exit ?_
      refine thenQ_x ?_
      refine thenQ_x ?_
      refine blockQ_x ?_
      refine thenQ_n ?_
      refine Cd.region ?_
      refine Ops.fld (hS7.rd 1 rfl) rfl rfl rfl rfl inferInstance ?_
      refine Ops.ldf_s (hS7.rd 1 rfl) rfl rfl rfl rfl rfl ?_
      refine Ops.mv_sl rfl rfl rfl ?_
      refine Ops.bs1R hS7 rfl rfl rfl ?_
      intro A9 w9 hS9
      refine Ops.appR 5 hS9 rfl (hS9.rdR 0 rfl) rfl rfl rfl (by omega) (by omega) rfl ?_
      intro A10 c10 w10 hS10
      have hS10 := hS10.tail
      refine Ops.fld (hS10.rd 1 rfl) rfl rfl rfl rfl inferInstance ?_
      refine Ops.stf 1 hS10 rfl rfl rfl rfl rfl ?_
      intro w11 hS11
      have hS11 : St w w11 (CkI 2 A7 k k (renI k p (gl xss i)) :: Bx 32 1 Ad [.slice A10 (i + 1) c10] :: Bx 32 1 Ac [.slice none 0 0] :: Bx 32 1 Ab [.slice A n c] :: CkR 34 A10 (i + 1) c10 (rs1 ++ [⟨A7, k, k⟩]) :: rowsCk 2 rs1 ((xss.map (renI k p)).take i)) := hS11
      refine Ops.nil ?_
      refine blockQ_n ?_
      refine thenQ_n ?_
      refine Cd.region ?_
      refine Ops.mv_int rfl rfl rfl ?_
      refine Ops.add rfl rfl rfl (by omega) ?_
      refine Ops.mv_int rfl rfl rfl ?_
      refine Ops.nil ?_
      refine thenQ_n ?_
      refine ⟨(i + 1, A10, c10, rs1 ++ [⟨A7, k, k⟩]), by show n - (i + 1) < n - i; omega, ⟨rfl, rfl, rfl, rfl, rfl, trivial⟩, ?_, hi', by simp [hlen]⟩
      show St w w11 (_ :: _ :: _ :: CkR _ A10 (i + 1) c10 (rs1 ++ [_]) :: rowsCk _ (rs1 ++ [_]) ((xss.map (renI k p)).take (i + 1)))
      rw [List.take_succ_eq_append_getElem (by rw [List.length_map]; exact hx), rowsCk_append (by simp [hlen]; omega), List.getElem_map, ← e2]
      refine hS11.perm ?_
      exact List.perm_append_comm (l₁ := [_]) (l₂ := _ :: _ :: _ :: _ :: rowsCk 2 rs1 ((xss.map (renI k p)).take i))
  · refine Cd.exit ?_
    refine thenQ_x ?_
    refine thenQ_x ?_
    refine blockQ_x ?_
    refine thenQ_n ?_
    refine Cd.seq ?_
    refine Cd.region ?_
    have hin : i = n := by omega
    subst hin
    rw [List.take_of_length_le (by rw [List.length_map]; omega)] at hS5
    refine Ops.ld_agg 0 (hS5.rd 0 rfl) rfl rfl rfl ?_
    refine Ops.st_agg 1 1 hS5 rfl rfl rfl rfl rfl rfl rfl ?_
    intro w6 hS6
    refine Ops.nil ?_
    refine thenQ_n ?_
    refine Cd.ret ?_
    skip
    refine retc_r rfl (hS6.rd 1 rfl) ?_
    exact ⟨A3, c3, rs1, rfl, hlen, hS6.sub (((List.sublist_cons_self _ _).trans (List.sublist_cons_self _ _)).trans (List.sublist_cons_self _ _))⟩
end Go.Proofs.YtjpkmpihmilgoaaGreat.Vc
/-
 The draws of maniplexes, walked: polygons. Conditions: as each states them.
-/
namespace Go.Proofs.YtjpkmpihmilgoaaGreat.Vc
open Go.RowKit

/-- rows of numbers in range -/
def GM (N : Nat) (xss : List (List Int)) : Prop := ∀ p ∈ xss, Rg N p
theorem GM.sys {N : Nat} {xss : List (List Int)} (h : GM N xss) : Sys N xss := fun p hp => ⟨(h p hp).1, fun x h0 h1 => (h p hp).gi h0 h1⟩
/-- an answer: a maniplex with so many rows and flags, in memory of its own -/
def AnsG (n N : Nat) (w : World) (v : Value) (w' : World) : Prop := ∃ A c rs xss, v = .agg #[.slice A n c] ∧ rs.length = n ∧ xss.length = n ∧ GM N xss ∧ St w w' (mat 34 2 A n c rs xss)

/-- how far the open statement is -/
structure Po4 (w0 : World) (base : List Ck) (n : Nat) (S : Nat → Bool) (e : Env) (w : World) : Prop where
 f2 : ∃ A, e 2 = .pointer A ∧ base = [Bx 32 1 A [.slice none 0 0]]
 f3 : e 3 = .int .i64 (n : Int)
 p0 : S 0 = true → e 9 = .int .i64 (n : Int)
 p2 : S 2 = true → e 11 = .int .i64 (n : Int)
 mem : ∃ (A1 A2 : Option Addr) (b1 b2 : List Ck), (S 1 = false → b1 = []) ∧ (S 1 = true → e 10 = .slice A1 n n ∧ b1 = [CkI 2 A1 n n (List.replicate n 0)]) ∧ (S 3 = false → b2 = []) ∧ (S 3 = true → e 12 = .slice A2 n n ∧ b2 = [CkI 2 A2 n n (List.replicate n 0)]) ∧ (S 4 = true → e 4 = .slice A1 n n) ∧ (S 5 = true → e 5 = .slice A2 n n) ∧ St w0 w (b1 ++ (b2 ++ base))

theorem l02Polygon_c (p : Nat) (w : World) (hp : 1 ≤ p ∧ p ≤ 100000) : Ret Tryz.prog 206 [.int .i64 (p : Int)] w (AnsG 2 (2 * p) w) := by
 refine Ret.of_cd Tryz.func206 rfl Tryz.ntmps206 rfl (postc rfl rfl) ?_
 refine Cd.seq ?_
 refine Cd.region ?_
 refine Ops.new1 (St.refl w) rfl ?_
 intro A2 w1 hS1
 refine Ops.nil ?_
 refine thenQ_n ?_
 refine Cd.seq ?_
 refine Cd.region ?_
 refine Ops.mv_int rfl rfl rfl ?_
 refine Ops.mul rfl rfl rfl (by omega) ?_
 refine Ops.mv_int rfl rfl rfl ?_
 refine Ops.nil ?_
 refine thenQ_n ?_
 refine Cd.seq ?_
 have hn : (2 : Int) * (p : Int) = ((2 * p : Nat) : Int) := by omega
 rw [hn]
 generalize hN : 2 * p = n
 have hn2 : 2 ≤ n := by omega
 refine Cd.drawS (by kernel_rfl) (by kernel_rfl) (fun S e1 w1 => Po4 w [Bx 32 1 A2 [.slice none 0 0]] n S e1 w1) (fun w4 hb => ⟨⟨A2, rfl, rfl⟩, rfl, fun h => (nomatch h), fun h => (nomatch h), none, none, [], [], fun _ => rfl, fun h => (nomatch h), fun _ => rfl, fun h => (nomatch h), fun h => (nomatch h), fun h => (nomatch h), hS1.later hb⟩) ?_ ?_
 ·intro S q o e1 w4 hq hSk hd hcl hI
  obtain ⟨f2, f3, p0, p2, A, B, b1, b2, m1, m1', m3, m3', m4, m5, hT⟩ := hI
  match q, hq, hSk with
  | 0, hq, hSk =>
   obtain rfl := Option.some.inj hq
   refine Ops.mv_int rfl (by exact f3) rfl ?_
   refine Ops.nil ?_
   exact ⟨f2, f3, fun _ => rfl, p2, A, B, b1, b2, m1, m1', m3, m3', m4, m5, hT⟩
  | 1, hq, hSk =>
   obtain rfl := Option.some.inj hq
   obtain rfl := m1 hSk
   have n4 : S 4 = false := by
    cases h : S 4 with
    | false => rfl
    | true => rw [← hSk]; exact (deps_of (hcl 4 _ h rfl) 1 rfl).symm
   refine Ops.mkI n hT (by exact p0 (deps_of hd 0 rfl)) rfl (by omega) ?_
   intro A' w5 hT5
   refine Ops.nil ?_
   exact ⟨f2, f3, p0, p2, A', B, [CkI 2 A' n n (List.replicate n 0)], b2, fun h => (nomatch (show true = false from h)), fun _ => ⟨rfl, rfl⟩, m3, m3', fun h => (nomatch n4.symm.trans h), m5, hT5⟩
  | 2, hq, hSk =>
   obtain rfl := Option.some.inj hq
   refine Ops.mv_int rfl (by exact f3) rfl ?_
   refine Ops.nil ?_
   exact ⟨f2, f3, p0, fun _ => rfl, A, B, b1, b2, m1, m1', m3, m3', m4, m5, hT⟩
  | 3, hq, hSk =>
   obtain rfl := Option.some.inj hq
   obtain rfl := m3 hSk
   have n5 : S 5 = false := by
    cases h : S 5 with
    | false => rfl
    | true => rw [← hSk]; exact (deps_of (hcl 5 _ h rfl) 3 rfl).symm
   refine Ops.mkI n hT (by exact p2 (deps_of hd 2 rfl)) rfl (by omega) ?_
   intro A' w5 hT5
   refine Ops.nil ?_
   exact ⟨f2, f3, p0, p2, A, A', b1, [CkI 2 A' n n (List.replicate n 0)], m1, m1', fun h => (nomatch (show true = false from h)), fun _ => ⟨rfl, rfl⟩, m4, fun h => (nomatch n5.symm.trans h), hT5.perm (List.perm_middle (l₁ := b1)).symm⟩
  | 4, hq, hSk =>
   obtain rfl := Option.some.inj hq
   refine Ops.mv_sl rfl (by exact (m1' (deps_of hd 1 rfl)).1) rfl ?_
   refine Ops.nil ?_
   exact ⟨f2, f3, p0, p2, A, B, b1, b2, m1, m1', m3, m3', fun _ => rfl, m5, hT⟩
  | 5, hq, hSk =>
   obtain rfl := Option.some.inj hq
   refine Ops.mv_sl rfl (by exact (m3' (deps_of hd 3 rfl)).1) rfl ?_
   refine Ops.nil ?_
   exact ⟨f2, f3, p0, p2, A, B, b1, b2, m1, m1', m3, m3', m4, fun _ => rfl, hT⟩
  | q + 6, hq, _ => exact (nomatch hq)
 ·intro S e1 w4 hall hI
  obtain ⟨⟨A0, f2, hbase⟩, f3, p0, p2, A, B, b1, b2, m1, m1', m3, m3', m4, m5, hT⟩ := hI
  obtain ⟨_, rfl⟩ := m1' (hall 1 (by decide))
  obtain ⟨_, rfl⟩ := m3' (hall 3 (by decide))
  rw [hbase] at hT
  refine thenQ_ext (F := [(2, .pointer A0), (3, .int .i64 (n : Int)), (4, .slice A n n), (5, .slice B n n)]) ⟨f2, f3, m4 (hall 4 (by decide)), m5 (hall 5 (by decide)), trivial⟩ ?_
  have hT : St w w4 [CkI 2 A n n (List.replicate n 0), CkI 2 B n n (List.replicate n 0), Bx 32 1 A0 [.slice none 0 0]] := hT
  have hz : Rg n (List.replicate n 0) := ⟨by simp, fun x hx => by obtain ⟨h0, rfl⟩ := List.mem_replicate.1 hx; omega⟩
  refine thenQ_n ?_
  refine Cd.seq ?_
  refine Cd.seq ?_
  refine Cd.region ?_
  refine Ops.mv_int rfl rfl rfl ?_
  refine Ops.nil ?_
  refine thenQ_n ?_
  refine Cd.block ?_
  refine Cd.loop (α := Nat × List Int × List Int) (fun s => [(2, .pointer A0), (3, .int .i64 (n : Int)), (4, .slice A n n), (5, .slice B n n), (6, .int .i64 (s.1 : Int))]) (fun s w' => St w w' [CkI 2 A n n s.2.1, CkI 2 B n n s.2.2, Bx 32 1 A0 [.slice none 0 0]] ∧ Rg n s.2.1 ∧ Rg n s.2.2 ∧ s.1 ≤ n) (fun s => n - s.1) (0, List.replicate n 0, List.replicate n 0) ⟨rfl, rfl, rfl, rfl, rfl, trivial⟩ ⟨hT, hz, hz, Nat.zero_le _⟩ ?_
  rintro ⟨f, xs, ys⟩ e w5 ⟨hT5, hx, hy, hf⟩
  dsimp only at hT5 hx hy hf ⊢
  refine Cd.seq ?_
  refine Cd.seq ?_
  refine Cd.region ?_
  refine Ops.mv_int rfl rfl rfl ?_
  refine Ops.mv_int rfl rfl rfl ?_
  refine Ops.lss rfl rfl rfl ?_
  refine Ops.nil ?_
  refine thenQ_n ?_
  refine Cd.cond_p _ rfl (fun h1 => ?_) (fun h1 => ?_)
  ·have hX5 := hT5.rdI 0 rfl
   have hm1 := Int.emod_nonneg ((f : Int) + (n : Int) - 1) (b := (n : Int)) (by omega)
   have hm2 := Int.emod_lt_of_pos ((f : Int) + (n : Int) - 1) (b := (n : Int)) (by omega)
   have hm3 := Int.emod_nonneg ((f : Int) + 1) (b := (n : Int)) (by omega)
   have hm4 := Int.emod_lt_of_pos ((f : Int) + 1) (b := (n : Int)) (by omega)
   refine Cd.skip ?_
   refine thenQ_n ?_
   refine Cd.seq ?_
   refine Cd.block ?_
   refine Cd.seq ?_
   refine Cd.region ?_
   refine Ops.mv_int rfl rfl rfl ?_
   refine Ops.rem rfl rfl rfl (by omega) ?_
   refine Ops.eql rfl rfl rfl ?_
   refine Ops.nil ?_
   refine thenQ_n ?_
   refine Cd.cond_p _ rfl (fun h2 => ?_) (fun h2 => ?_)
   ·refine Cd.seq ?_
    refine Cd.region ?_
    refine Ops.mv_sl rfl rfl rfl ?_
    refine Ops.mv_int rfl rfl rfl ?_
    refine Ops.mv_int rfl rfl rfl ?_
    refine Ops.add rfl rfl rfl (by omega) ?_
    refine Ops.idx hX5.2 rfl rfl rfl (by omega) (by omega) ?_
    refine Ops.st_int 0 hT5 rfl rfl rfl (by omega) ?_
    intro w6 hT6
    have hT6 : St w w6 [CkI 2 A n n (xs.set (f : Int).toNat ((f : Int) + 1)), CkI 2 B n n ys, Bx 32 1 A0 [.slice none 0 0]] := hT6
    have hY6 := hT6.rdI 1 rfl
    refine Ops.nil ?_
    refine thenQ_n ?_
    refine Cd.region ?_
    refine Ops.mv_sl rfl rfl rfl ?_
    refine Ops.mv_int rfl rfl rfl ?_
    refine Ops.mv_int rfl rfl rfl ?_
    refine Ops.mv_int rfl rfl rfl ?_
    refine Ops.add rfl rfl rfl (by omega) ?_
    refine Ops.sub rfl rfl rfl (by omega) ?_
    refine Ops.mv_int rfl rfl rfl ?_
    refine Ops.rem rfl rfl rfl (by omega) ?_
    skip
    refine Ops.idx hY6.2 rfl rfl rfl (by omega) (by omega) ?_
    refine Ops.st_int 1 hT6 rfl rfl rfl (by omega) ?_
    intro w7 hT7
    refine Ops.nil ?_
    refine blockQ_n ?_
    refine thenQ_n ?_
    refine Cd.region ?_
    refine Ops.mv_int rfl rfl rfl ?_
    refine Ops.add rfl rfl rfl (by omega) ?_
    refine Ops.mv_int rfl rfl rfl ?_
    refine Ops.nil ?_
    refine thenQ_n ?_
    exact ⟨(f + 1, xs.set (f : Int).toNat ((f : Int) + 1), ys.set (f : Int).toNat (((f : Int) + (n : Int) - 1) % (n : Int))), by show n - (f + 1) < n - f; omega, ⟨rfl, rfl, rfl, rfl, rfl, trivial⟩, hT7, hx.set (by omega) (by omega), hy.set hm1 hm2, by show f + 1 ≤ n; omega⟩
   ·refine Cd.seq ?_
    refine Cd.region ?_
    refine Ops.mv_sl rfl rfl rfl ?_
    refine Ops.mv_int rfl rfl rfl ?_
    refine Ops.mv_int rfl rfl rfl ?_
    refine Ops.sub rfl rfl rfl (by omega) ?_
    refine Ops.idx hX5.2 rfl rfl rfl (by omega) (by omega) ?_
    refine Ops.st_int 0 hT5 rfl rfl rfl (by omega) ?_
    intro w6 hT6
    have hT6 : St w w6 [CkI 2 A n n (xs.set (f : Int).toNat ((f : Int) - 1)), CkI 2 B n n ys, Bx 32 1 A0 [.slice none 0 0]] := hT6
    have hY6 := hT6.rdI 1 rfl
    refine Ops.nil ?_
    refine thenQ_n ?_
    refine Cd.region ?_
    refine Ops.mv_sl rfl rfl rfl ?_
    refine Ops.mv_int rfl rfl rfl ?_
    refine Ops.mv_int rfl rfl rfl ?_
    refine Ops.add rfl rfl rfl (by omega) ?_
    refine Ops.mv_int rfl rfl rfl ?_
    refine Ops.rem rfl rfl rfl (by omega) ?_
    skip
    refine Ops.idx hY6.2 rfl rfl rfl (by omega) (by omega) ?_
    refine Ops.st_int 1 hT6 rfl rfl rfl (by omega) ?_
    intro w7 hT7
    refine Ops.nil ?_
    refine blockQ_n ?_
    refine thenQ_n ?_
    refine Cd.region ?_
    refine Ops.mv_int rfl rfl rfl ?_
    refine Ops.add rfl rfl rfl (by omega) ?_
    refine Ops.mv_int rfl rfl rfl ?_
    refine Ops.nil ?_
    refine thenQ_n ?_
    exact ⟨(f + 1, xs.set (f : Int).toNat ((f : Int) - 1), ys.set (f : Int).toNat (((f : Int) + 1) % (n : Int))), by show n - (f + 1) < n - f; omega, ⟨rfl, rfl, rfl, rfl, rfl, trivial⟩, hT7, hx.set (by omega) (by omega), hy.set hm3 hm4, by show f + 1 ≤ n; omega⟩
  ·refine Cd.exit ?_
   refine thenQ_x ?_
   refine thenQ_x ?_
   refine blockQ_x ?_
   refine thenQ_n ?_
   refine Cd.seq ?_
   refine Cd.region ?_
   refine Ops.mv_sl rfl rfl rfl ?_
   refine Ops.mv_sl rfl rfl rfl ?_
   refine Ops.bs2 hT5 rfl rfl rfl rfl rfl rfl ?_
   intro A9 w6 hT6
   skip
   refine Ops.bld1 (by exact inferInstance) rfl rfl rfl rfl ?_
   refine Ops.st_agg 1 3 hT6 rfl rfl rfl rfl rfl rfl rfl ?_
   intro w7 hT7
   refine Ops.nil ?_
   refine thenQ_n ?_
   refine Cd.ret ?_
   skip
   refine retc_r rfl (hT7.rd 3 rfl) ?_
   refine ⟨A9, 2, [⟨A, n, n⟩, ⟨B, n, n⟩], [xs, ys], rfl, rfl, rfl, fun q hq => ?_, ?_⟩
   ·rcases List.mem_cons.1 hq with rfl | hq
    ·exact hx
    ·rw [List.mem_singleton] at hq; subst hq; exact hy
   ·exact hT7.sub (List.Sublist.cons_cons _ (List.Sublist.cons_cons _ (List.Sublist.cons_cons _ (List.nil_sublist _))))
end Go.Proofs.YtjpkmpihmilgoaaGreat.Vc
/-
 The cycles of a list of numbers, by their least points, and lists in ascending order: a plain law, with no program in sight. Conditions: as each states them.
-/
namespace Go.Proofs.YtjpkmpihmilgoaaGreat.Vc
open Go.RowKit

/-- from x on, till a point comes that was seen -/
def goC (p : List Int) : Nat → Nat → List Bool → List Int × List Bool
 | 0, _, s => ([], s)
 | k + 1, x, s => if gb s (x : Int) = true then ([], s) else ((x : Int) :: (goC p k (gi p x).toNat (s.set x true)).1, (goC p k (gi p x).toNat (s.set x true)).2)

theorem gb_nat {s : List Bool} {x : Nat} (hx : x < s.length) : gb s (x : Int) = s[x] := by simp [gb, List.getD_eq_getElem?_getD, List.getElem?_eq_getElem hx]
theorem count_seen {s : List Bool} {x : Nat} (hx : x < s.length) (h : ¬ gb s (x : Int) = true) : (s.set x true).count false + 1 = s.count false := by
 have e := gb_nat hx
 rw [e, Bool.not_eq_true] at h
 have h1 : 0 < s.count false := by
  rw [List.count_pos_iff, ← h]
  exact List.getElem_mem hx
 rw [List.count_set hx, h]
 simp
 omega
theorem goC_seen {p : List Int} {s : List Bool} {x : Nat} (h : gb s (x : Int) = true) (k : Nat) : goC p k x s = ([], s) := by
 cases k with
 | zero => rfl
 | succ k => simp [goC, h]
theorem goC_step {p : List Int} {s : List Bool} {x : Nat} (hx : x < s.length) (h : ¬ gb s (x : Int) = true) : goC p (s.count false) x s = ((x : Int) :: (goC p ((s.set x true).count false) (gi p x).toNat (s.set x true)).1, (goC p ((s.set x true).count false) (gi p x).toNat (s.set x true)).2) := by
 rw [← count_seen hx h]
 simp [goC, h]
theorem goC_len {p : List Int} : ∀ (k x : Nat) (s : List Bool), (goC p k x s).2.length = s.length
 | 0, _, _ => rfl
 | k + 1, x, s => by
  unfold goC
  split
  ·rfl
  ·show (goC p k _ _).2.length = _
   rw [goC_len k, List.length_set]
theorem goC_le {p : List Int} : ∀ (k x : Nat) (s : List Bool), (goC p k x s).1.length ≤ k
 | 0, _, _ => Nat.le_refl _
 | k + 1, x, s => by
  unfold goC
  split
  ·exact Nat.zero_le _
  ·show (goC p k _ _).1.length + 1 ≤ _
   have := goC_le (p := p) k (gi p x).toNat (s.set x true)
   omega

/-- all cycles from some points on -/
def cycs (p : List Int) : List Nat → List Bool → List (List Int)
 | [], _ => []
 | i :: is, s => (if (goC p (s.count false) i s).1 = [] then [] else [(goC p (s.count false) i s).1]) ++ cycs p is (goC p (s.count false) i s).2
theorem cycs_le {p : List Int} : ∀ (is : List Nat) (s : List Bool), (cycs p is s).length ≤ is.length
 | [], _ => Nat.le_refl _
 | i :: is, s => by
  have := cycs_le (p := p) is (goC p (s.count false) i s).2
  unfold cycs
  rw [List.length_append, List.length_cons]
  split <;> simp <;> omega
/-- the cycles of n points -/
def cyAll (p : List Int) (n : Nat) : List (List Int) := cycs p (List.range n) (List.replicate n false)
def lenAll (p : List Int) (n : Nat) : List Int := (cyAll p n).map fun c => (c.length : Int)
theorem cyAll_le (p : List Int) (n : Nat) : (cyAll p n).length ≤ n := by
 have := cycs_le (p := p) (List.range n) (List.replicate n false)
 rwa [List.length_range] at this
theorem lenAll_le (p : List Int) (n : Nat) : (lenAll p n).length ≤ n := by
 unfold lenAll; rw [List.length_map]; exact cyAll_le p n
theorem range_drop (n i : Nat) (h : i < n) : List.range' i (n - i) = i :: List.range' (i + 1) (n - (i + 1)) := by
 obtain ⟨m, hm⟩ : ∃ m, n - i = m + 1 := ⟨n - i - 1, by omega⟩
 rw [hm, show n - (i + 1) = m by omega]
 rfl
theorem cyAll_eq (p : List Int) (n : Nat) : cyAll p n = cycs p (List.range' 0 (n - 0)) (List.replicate n false) := by
 unfold cyAll
 rw [List.range_eq_range']
 rfl
theorem cycs_step {p : List Int} {n i : Nat} (h : i < n) (s : List Bool) : cycs p (List.range' i (n - i)) s = (if (goC p (s.count false) i s).1 = [] then [] else [(goC p (s.count false) i s).1]) ++ cycs p (List.range' (i + 1) (n - (i + 1))) (goC p (s.count false) i s).2 := by
 rw [range_drop n i h]; rfl
theorem cycs_end {p : List Int} {n : Nat} (s : List Bool) : cycs p (List.range' n (n - n)) s = [] := by
 rw [Nat.sub_self]; rfl

/-! ascending lists -/
def Asc (l : List Int) : Prop := l.Pairwise (· ≤ ·)
def srt (l : List Int) : List Int := l.mergeSort fun x y => decide (x ≤ y)
theorem srt_perm (l : List Int) : (srt l).Perm l := List.mergeSort_perm _ _
theorem srt_asc (l : List Int) : Asc (srt l) := by
 have := List.pairwise_mergeSort (le := fun x y : Int => decide (x ≤ y)) (fun a b c h1 h2 => by simp at h1 h2 ⊢; omega) (fun a b => by simp; omega) l
 exact this.imp fun h => by simpa using h
theorem asc_unique {l l' : List Int} (h : l.Perm l') (h1 : Asc l) (h2 : Asc l') : l = l' :=
 List.Perm.eq_of_pairwise (le := (· ≤ ·)) (fun a b _ _ h1 h2 => by omega) h1 h2 h
theorem asc_srt {l l' : List Int} (h : l.Perm l') (h1 : Asc l) : l = srt l' := asc_unique (h.trans (srt_perm l').symm) h1 (srt_asc l')
/-- a number put in where all ahead are less, and the one there is not -/
theorem asc_put {out : List Int} {a : Nat} {v : Int} (h : Asc out) (ha : a ≤ out.length) (hl : ∀ j : Nat, j < a → gi out (j : Int) < v) (hg : a < out.length → v ≤ gi out (a : Int)) : Asc (out.take a ++ (v :: out.drop a)) := by
 have key : ∀ j (hj : j < out.length), gi out (j : Int) = out[j] := fun j hj => by simp [gi, List.getD_eq_getElem?_getD, List.getElem?_eq_getElem hj]
 have hidx : ∀ i j (hi : i < out.length) (hj : j < out.length), i ≤ j → out[i] ≤ out[j] := fun i j hi hj hij => by
  by_cases e : i = j
  ·subst e; exact Int.le_refl _
  ·exact (List.pairwise_iff_getElem.1 h) i j hi hj (by omega)
 unfold Asc
 rw [List.pairwise_append, List.pairwise_cons]
 refine ⟨h.sublist (List.take_sublist _ _), ⟨fun x hx => ?_, h.sublist (List.drop_sublist _ _)⟩, fun x hx y hy => ?_⟩
 ·obtain ⟨j, hj, rfl⟩ := List.mem_iff_getElem.1 hx
  rw [List.length_drop] at hj
  rw [List.getElem_drop]
  have h1 := hg (by omega)
  rw [key a (by omega)] at h1
  exact Int.le_trans h1 (hidx _ _ (by omega) (by omega) (by omega))
 ·obtain ⟨j, hj, rfl⟩ := List.mem_iff_getElem.1 hx
  rw [List.length_take] at hj
  rw [List.getElem_take]
  have hxv : out[j] < v := by rw [← key j (by omega)]; exact hl j (by omega)
  rcases List.mem_cons.1 hy with rfl | hy
  ·omega
  ·obtain ⟨m, hm, rfl⟩ := List.mem_iff_getElem.1 hy
   rw [List.length_drop] at hm
   rw [List.getElem_drop]
   exact hidx _ _ (by omega) (by omega) (by omega)
theorem put_perm {out : List Int} {a : Nat} {v : Int} : (out.take a ++ (v :: out.drop a)).Perm (out ++ [v]) := by
 have h1 : (out.take a ++ (v :: out.drop a)).Perm (v :: (out.take a ++ out.drop a)) := List.perm_middle
 rw [List.take_append_drop] at h1
 exact h1.trans (List.perm_append_comm (l₁ := [v]))
end Go.Proofs.YtjpkmpihmilgoaaGreat.Vc
/-
 The walks of the reference's runs of a word over flags, and of the lengths of a word. Conditions: as each states them.
-/
namespace Go.Proofs.YtjpkmpihmilgoaaGreat.Vc
open Go.RowKit

/-- where a word leads from x -/
def runW (xss : List (List Int)) (x : Int) (ws : List Int) : Int := ws.foldl (fun x i => gi (gl xss i) x) x
/-- what a word does -/
def doesL (xss : List (List Int)) (F : Nat) (ws : List Int) : List Int := (List.range F).map fun x : Nat => runW xss (x : Int) ws
theorem runW_take {xss : List (List Int)} {x : Int} {ws : List Int} {k : Nat} (hk : k < ws.length) : runW xss x (ws.take (k + 1)) = gi (gl xss (gi ws k)) (runW xss x (ws.take k)) := by
 unfold runW
 rw [List.take_succ_eq_append_getElem hk, List.foldl_append]
 simp [gi, List.getD_eq_getElem?_getD, List.getElem?_eq_getElem hk]
theorem runW_lt {F : Nat} {xss : List (List Int)} (hs : Sys F xss) : ∀ (ws : List Int) (x : Int), (∀ i ∈ ws, 0 ≤ i ∧ i < xss.length) → 0 ≤ x → x < F → 0 ≤ runW xss x ws ∧ runW xss x ws < F
 | [], _, _, h0, h1 => ⟨h0, h1⟩
 | i :: ws, x, hw, h0, h1 => by
  have hi := hw i (by simp)
  have hg := (hs _ (gl_in hi.1 hi.2)).2 x h0 h1
  exact runW_lt hs ws _ (fun j hj => hw j (by simp [hj])) hg.1 hg.2
theorem gi_does {xss : List (List Int)} {F : Nat} {ws : List Int} {x : Int} (h0 : 0 ≤ x) (hx : x < F) : gi (doesL xss F ws) x = runW xss x ws := by
 have h : x.toNat < F := by omega
 have e : ((x.toNat : Nat) : Int) = x := by omega
 simp [gi, doesL, List.getD_eq_getElem?_getD, h, e]
theorem mem_gi {l : List Int} {a b : Int} (h : ∀ k : Nat, k < l.length → a ≤ gi l k ∧ gi l k < b) : ∀ i ∈ l, a ≤ i ∧ i < b := fun i hi => by
 obtain ⟨k, hk, rfl⟩ := List.mem_iff_getElem.1 hi
 have := h k hk
 simpa [gi, List.getD_eq_getElem?_getD, List.getElem?_eq_getElem hk] using this
theorem does_lt {F : Nat} {xss : List (List Int)} (hs : Sys F xss) {ws : List Int} (hw : ∀ i ∈ ws, 0 ≤ i ∧ i < xss.length) {x : Nat} (hx : x < F) : 0 ≤ gi (doesL xss F ws) x ∧ gi (doesL xss F ws) x < F := by
 rw [gi_does (by omega) (by omega)]
 exact runW_lt hs ws _ hw (by omega) (by omega)

/-- rows of two kinds of elements lie apart -/
theorem St.beside {w0 w : World} {k : Ck} {ks : List Ck} (h1 : St w0 w ks) (h2 : St w0 w [k]) (he : ∀ k' ∈ ks, k'.e ≠ k.e) (hM : isM k.vs = false := by first | rfl | exact isM_I _ | exact isM_B _ | exact isM_R _) : St w0 w (k :: ks) := by
 refine ⟨h1.below, fun x hx => ?_, ?_⟩
 ·rcases List.mem_cons.1 hx with rfl | hx
  ·exact h2.own _ (by simp)
  ·exact h1.own _ hx
 ·rw [List.filterMap_cons]
  split
  ·exact h1.apart
  ·rename_i g hg
   rw [List.nodup_cons]
   refine ⟨fun hm => ?_, h1.apart⟩
   obtain ⟨k', hk', hg'⟩ := List.mem_filterMap.1 hm
   have o1 := h2.own k (by simp)
   have o2 := h1.own k' hk'
   have find : ∀ {k : Ck}, OwnC w0.heap.size w k → k.blk = some g → ∃ cur, w.heap[g]? = some (.cells cur k.e (0, 0)) := fun {k} o hb => by
    obtain ⟨_, _, _, h4⟩ := o
    rcases h4 with ⟨h0, _⟩ | ⟨g', o, cur, hA, _, hh, _⟩
    ·simp [Ck.blk, h0] at hb
    ·simp [Ck.blk, hA] at hb
     subst hb
     exact ⟨cur, hh⟩
   obtain ⟨c1, e1⟩ := find (o1.toC hM) hg
   rcases o2.cases with ⟨_, _, _, g2, es2, cl2, hA2, _, hh2, _⟩ | ⟨_, o2⟩
   ·simp [Ck.blk, hA2] at hg'
    subst hg'
    rw [e1] at hh2
    cases hh2
   obtain ⟨c2, e2⟩ := find o2 hg'
   rw [e1] at e2
   simp only [Option.some.injEq, Obj.cells.injEq] at e2
   exact he k' hk' e2.2.1.symm

/-- a maniplex with edges -/
def Grph (xss : List (List Int)) : Prop := Mani xss ∧ 2 ≤ xss.length
instance (xss : List (List Int)) : Decidable (Grph xss) := by unfold Grph; exact inferInstance

theorem l18Is_c (A : Option Addr) (n c : Nat) (rs : List SlV) (xss : List (List Int)) (w : World) (hR : RowsI w A n rs xss) (hn : n ≤ 9223372036854775807) :
  Ret Tryz.prog 70 [.agg #[.slice A n c]] w (fun v w' => v = .bool (decide (Grph xss)) ∧ St w w' []) := by
 have hl := hR.len
 refine Ret.of_cd Tryz.func70 rfl Tryz.ntmps70 rfl (post1 rfl) ?_
 refine Cd.seq ?_
 refine Cd.region ?_
 refine Ops.box1 (St.refl w) rfl rfl ?_
 intro Ab w1 hS
 refine Ops.mv_bool rfl rfl rfl ?_
 refine Ops.nil ?_
 refine thenQ_n ?_
 refine Cd.seq ?_
 refine Cd.region ?_
 refine Ops.ld_agg 0 (hS.rd 0 rfl) rfl rfl rfl ?_
 refine Ops.call (l02Is_c A n c rs xss _ (hS.oldRows hR) hn) rfl rfl rfl ?_
 rintro _ w2 ⟨rfl, hst⟩
 have hS := hS.later hst.below
 refine Ops.mv_bool rfl rfl rfl ?_
 refine Ops.split_p 5 rfl (fun h => ?_) (fun h => ?_)
 ·refine Ops.rung rfl rfl rfl ?_
  refine Ops.fld (hS.rd 0 rfl) rfl rfl rfl rfl inferInstance ?_
  refine Ops.rung rfl rfl rfl ?_
  refine Ops.ldf_s (hS.rd 0 rfl) rfl rfl rfl rfl rfl ?_
  refine Ops.rung rfl rfl rfl ?_
  refine Ops.len rfl rfl ?_
  refine Ops.rung rfl rfl rfl ?_
  refine Ops.geq rfl rfl rfl ?_
  refine Ops.pick_t rfl rfl rfl ?_
  refine Ops.mv_bool rfl rfl rfl ?_
  refine Ops.nil ?_
  refine thenQ_n ?_
  refine Cd.ret ?_
  refine ret1_b rfl ?_
  exact ⟨by simp [Grph, h, hl]; omega, hS.none⟩
 ·refine Ops.skipg rfl rfl rfl rfl rfl ?_
  refine Ops.skipg rfl rfl rfl rfl rfl ?_
  refine Ops.skipg rfl rfl rfl rfl rfl ?_
  refine Ops.skipg rfl rfl rfl rfl rfl ?_
  refine Ops.pick_f rfl rfl rfl ?_
  refine Ops.mv_bool rfl rfl rfl ?_
  refine Ops.nil ?_
  refine thenQ_n ?_
  refine Cd.ret ?_
  refine ret1_b rfl ?_
  exact ⟨by simp [Grph, h], hS.none⟩

theorem l02Flags_c (A : Option Addr) (n c : Nat) (rs : List SlV) (xss : List (List Int)) (w : World) (hR : RowsI w A n rs xss) (hn : 0 < n) :
  Ret Tryz.prog 119 [.agg #[.slice A n c]] w (fun v w' => v = .int .i64 ((gl xss 0).length : Int) ∧ St w w' []) := by
 refine Ret.of_cd Tryz.func119 rfl Tryz.ntmps119 rfl (post1 rfl) ?_
 refine Cd.seq ?_
 refine Cd.region ?_
 refine Ops.box1 (St.refl w) rfl rfl ?_
 intro Ab w1 hS
 have hR1 := hS.oldRows hR
 have e0 : (gl xss 0).length = (rg rs 0).n := hR.rowLen (by omega) (by omega)
 refine Ops.mv_int rfl rfl rfl ?_
 refine Ops.nil ?_
 refine thenQ_n ?_
 refine Cd.seq ?_
 refine Cd.region ?_
 refine Ops.fld (hS.rd 0 rfl) rfl rfl rfl rfl inferInstance ?_
 refine Ops.ldf_s (hS.rd 0 rfl) rfl rfl rfl rfl rfl ?_
 refine Ops.idx hR1.top.2 rfl rfl rfl (by omega) (by omega) ?_
 refine Ops.ld_sl hR1.top rfl (by omega) rfl rfl ?_
 refine Ops.len rfl rfl ?_
 refine Ops.mv_int rfl rfl rfl ?_
 refine Ops.nil ?_
 refine thenQ_n ?_
 refine Cd.ret ?_
 refine ret1_i rfl ?_
 exact ⟨by rw [e0], hS.none⟩

theorem l02Run_c (A : Option Addr) (n c : Nat) (rs : List SlV) (xss : List (List Int)) (F : Nat) (x : Int) (Aw : Option Addr) (nw cw : Nat) (ws : List Int) (w : World) (hR : RowsI w A n rs xss) (hs : Sys F xss) (hW : RdI w Aw nw ws) (hnw : nw ≤ 9223372036854775807) (hw : ∀ k : Nat, k < nw → 0 ≤ gi ws k ∧ gi ws k < n) (h0 : 0 ≤ x) (hx : x < F) :
  Ret Tryz.prog 120 [.agg #[.slice A n c], .int .i64 x, .slice Aw nw cw] w (fun v w' => v = .int .i64 (runW xss x ws) ∧ St w w' []) := by
 have hl := hR.len
 have hwl := hW.1
 refine Ret.of_cd Tryz.func120 rfl Tryz.ntmps120 rfl (post1 rfl) ?_
 refine Cd.seq ?_
 refine Cd.region ?_
 refine Ops.box1 (St.refl w) rfl rfl ?_
 intro Ab w1 hS
 refine Ops.mv_int rfl rfl rfl ?_
 refine Ops.nil ?_
 refine thenQ_n ?_
 refine Cd.seq ?_
 refine Cd.seq ?_
 refine Cd.region ?_
 refine Ops.mv_int rfl rfl rfl ?_
 refine Ops.nil ?_
 refine thenQ_n ?_
 refine Cd.block ?_
 refine Cd.loop (α := Nat) (fun k => [(1, .int .i64 (runW xss x (ws.take k))), (2, .slice Aw nw cw), (3, .pointer Ab), (7, .int .i64 (k : Int))]) (fun k w' => St w w' [Bx 32 1 Ab [.slice A n c]] ∧ k ≤ nw) (fun k => nw - k) 0 ⟨rfl, rfl, rfl, rfl, trivial⟩ ⟨hS, Nat.zero_le _⟩ ?_
 rintro k e w2 ⟨hS2, hk⟩
 refine Cd.seq ?_
 refine Cd.seq ?_
 refine Cd.region ?_
 refine Ops.mv_int rfl rfl rfl ?_
 refine Ops.mv_sl rfl rfl rfl ?_
 refine Ops.len rfl rfl ?_
 refine Ops.lss rfl rfl rfl ?_
 refine Ops.nil ?_
 refine thenQ_n ?_
 refine Cd.cond_p _ rfl (fun h1 => ?_) (fun h1 => ?_)
 ·have hk' : k < nw := by omega
  have hR2 := hS2.oldRows hR
  have hW2 := hS2.oldI hW
  have hwk := hw k hk'
  have hrow := hR2.at_ (i := gi ws k) hwk.1 hwk.2
  have hlt := runW_lt hs (ws.take k) x (fun i hi => by
   have := mem_gi (l := ws) (a := 0) (b := (n : Int)) (fun j hj => hw j (by omega)) i (List.mem_of_mem_take hi)
   omega) h0 hx
  have hrn : (rg rs (gi ws k)).n = F := by
   rw [← hR2.rowLen hwk.1 hwk.2]
   exact (hs _ (gl_in hwk.1 (by omega))).1
  have hstep := runW_take (xss := xss) (x := x) (ws := ws) (k := k) (by omega)
  generalize hy : runW xss x (ws.take k) = y at *
  refine Cd.skip ?_
  refine thenQ_n ?_
  refine Cd.seq ?_
  refine Cd.block ?_
  refine Cd.draw [.ex (.pointer (ptrAt (Ab) 0)), .ex (.slice (A) (n) (c)), .ex (.slice (Aw) (nw) (cw)), .ex (.int .i64 ((k : Int))), .ex (.pointer (ptrAt (Aw) ((k : Int)).toNat)), .ex (.int .i64 (gi (ws) ((k : Int)))), .ex (.pointer (ptrAt (A) (gi (ws) ((k : Int))).toNat)), .ex (.slice ((rg (rs) (gi (ws) ((k : Int)))).a) ((rg (rs) (gi (ws) ((k : Int)))).n) ((rg (rs) (gi (ws) ((k : Int)))).c)), .ex (.int .i64 (y)), .ex (.pointer (ptrAt ((rg (rs) (gi (ws) ((k : Int)))).a) (y).toNat)), .ex (.int .i64 (gi (gl xss (gi ws k)) (y))), .ex (.int .i64 (gi (gl xss (gi ws k)) (y)))] (by kernel_rfl) (by kernel_rfl) rfl (List.forall_mem_cons.2 ⟨Yd.lasts_ex _, (List.forall_mem_cons.2 ⟨Yd.lasts_ex _, (List.forall_mem_cons.2 ⟨Yd.lasts_ex _, (List.forall_mem_cons.2 ⟨Yd.lasts_ex _, (List.forall_mem_cons.2 ⟨Yd.lasts_ex _, (List.forall_mem_cons.2 ⟨Yd.lasts_ex _, (List.forall_mem_cons.2 ⟨Yd.lasts_ex _, (List.forall_mem_cons.2 ⟨Yd.lasts_ex _, (List.forall_mem_cons.2 ⟨Yd.lasts_ex _, (List.forall_mem_cons.2 ⟨Yd.lasts_ex _, (List.forall_mem_cons.2 ⟨Yd.lasts_ex _, (List.forall_mem_cons.2 ⟨Yd.lasts_ex _, (fun _ h => by cases h)⟩)⟩)⟩)⟩)⟩)⟩)⟩)⟩)⟩)⟩)⟩)⟩) ⟨?_, ?_, ?_, ?_, ?_, ?_, ?_, ?_, ?_, ?_, ?_, ?_, trivial⟩ ?_
  ·intro e1 w1 hb hp hun
   refine Ops.fld ((hS2.rd 0 rfl).below hb) rfl rfl rfl rfl inferInstance ?_
   refine Ops.nil ?_
   exact After.dn (Below.refl _ _) (by exact rfl)
  ·intro e1 w1 hb hp hun
   refine Ops.ldf_s ((hS2.rd 0 rfl).below hb) rfl rfl rfl rfl rfl ?_
   refine Ops.nil ?_
   exact After.dn (Below.refl _ _) (by exact rfl)
  ·intro e1 w1 hb hp hun
   refine Ops.mv_sl rfl rfl rfl ?_
   refine Ops.nil ?_
   exact After.dn (Below.refl _ _) (by exact rfl)
  ·intro e1 w1 hb hp hun
   refine Ops.mv_int rfl rfl rfl ?_
   refine Ops.nil ?_
   exact After.dn (Below.refl _ _) (by exact rfl)
  ·intro e1 w1 hb hp hun
   refine Ops.idx (hW2.later hb).2 rfl rfl rfl (by omega) (by omega) ?_
   refine Ops.nil ?_
   exact After.dn (Below.refl _ _) (by exact rfl)
  ·intro e1 w1 hb hp hun
   refine Ops.ld_int (hW2.later hb) rfl (by omega) rfl rfl ?_
   refine Ops.nil ?_
   exact After.dn (Below.refl _ _) (by exact rfl)
  ·intro e1 w1 hb hp hun
   refine Ops.idx (hR2.top.later hb).2 rfl rfl rfl (by omega) (by omega) ?_
   refine Ops.nil ?_
   exact After.dn (Below.refl _ _) (by exact rfl)
  ·intro e1 w1 hb hp hun
   refine Ops.ld_sl (hR2.top.later hb) rfl (by omega) rfl rfl ?_
   refine Ops.nil ?_
   exact After.dn (Below.refl _ _) (by exact rfl)
  ·intro e1 w1 hb hp hun
   refine Ops.mv_int rfl (by exact hun 11 _ rfl (by kernel_rfl)) rfl ?_
   refine Ops.nil ?_
   exact After.dn (Below.refl _ _) (by exact rfl)
  ·intro e1 w1 hb hp hun
   refine Ops.idx (hrow.later hb).2 rfl rfl rfl (by omega) (by omega) ?_
   refine Ops.nil ?_
   exact After.dn (Below.refl _ _) (by exact rfl)
  ·intro e1 w1 hb hp hun
   refine Ops.ld_int (hrow.later hb) rfl (by omega) rfl rfl ?_
   refine Ops.nil ?_
   exact After.dn (Below.refl _ _) (by exact rfl)
  ·intro e1 w1 hb hp hun
   refine Ops.mv_int rfl rfl rfl ?_
   refine Ops.nil ?_
   exact After.dn (Below.refl _ _) (by exact rfl)
  intro u w3 hb3 _
  have hS3 := hS2.later hb3
  refine blockQ_n ?_
  refine thenQ_n ?_
  refine Cd.region ?_
  refine Ops.mv_int rfl rfl rfl ?_
  refine Ops.add rfl rfl rfl (by omega) ?_
  refine Ops.mv_int rfl rfl rfl ?_
  refine Ops.nil ?_
  refine thenQ_n ?_
  exact ⟨k + 1, by show nw - (k + 1) < nw - k; omega, ⟨by show Value.int .i64 _ = .int .i64 _; rw [hstep], rfl, rfl, rfl, trivial⟩, hS3, hk'⟩
 ·refine Cd.exit ?_
  refine thenQ_x ?_
  refine thenQ_x ?_
  refine blockQ_x ?_
  refine thenQ_n ?_
  refine Cd.seq ?_
  refine Cd.region ?_
  refine Ops.mv_int rfl rfl rfl ?_
  refine Ops.mv_int rfl rfl rfl ?_
  refine Ops.nil ?_
  refine thenQ_n ?_
  refine Cd.ret ?_
  refine ret1_i rfl ?_
  have hkn : k = nw := by omega
  subst hkn
  exact ⟨by rw [← hwl, List.take_length], hS2.none⟩
end Go.Proofs.YtjpkmpihmilgoaaGreat.Vc
/-
 The walks of forms on both sides. Conditions: as each states them.
-/
namespace Go.Proofs.YtjpkmpihmilgoaaGreat.Vc
open Go.RowKit

theorem Mani.prm {xss : List (List Int)} (hM : Mani xss) {f : Int} (h0 : 0 ≤ f) (hf : f < (gl xss 0).length) : Prm (gl xss 0).length (orbit (gl xss 0).length xss f) := by
 have hs := hM.2.2.1.sys
 have hi := hM.2.2.1.inj
 have h2 := hM.2.1
 obtain ⟨g, _, hm⟩ := orbit_spec hs h0 hf
 have hall := (orbit_all hs (by omega)).1 hM.2.2.2.2
 refine ⟨?_, g.nodup, g.range⟩
 have h1 := sub_len (seqI (gl xss 0).length) (orbit (gl xss 0).length xss f) (by
  unfold seqI
  rw [List.nodup_iff_pairwise_ne, List.pairwise_map]
  exact (List.nodup_iff_pairwise_ne.1 List.nodup_range).imp (fun h e => h (by omega))) (fun z hz => by
  have hz := seqI_mem.1 hz
  exact (hm z).2 ((Reach.symm hs hi (by omega) (by omega) (hall f h0 hf)).trans (hall z hz.1 hz.2)))
 rw [seqI_len] at h1
 have := g.len
 omega

end Go.Proofs.YtjpkmpihmilgoaaGreat.Vc
/-
 The walk of the reference's lengths of a word. Conditions: as it states them.
-/
namespace Go.Proofs.YtjpkmpihmilgoaaGreat.Vc
open Go.RowKit

theorem goC_fst_le {p : List Int} {x : Nat} {s : List Bool} {F : Nat} (hs : s.length = F) : (goC p (s.count false) x s).1.length ≤ F := by
 have h1 := goC_le (p := p) (s.count false) x s
 have h2 : s.count false ≤ s.length := List.count_le_length
 omega

theorem RdI.drop {w : World} {A : Option Addr} {n c l : Nat} {xs : List Int} (h : RdI w A n xs) (hl : l ≤ n) (hc : n ≤ c) : RdI w (cutAt A c l) (n - l) (xs.drop l) := by
 have := h.cut (l := l) (h := n) (c := c) hl (Nat.le_refl _) hc
 rwa [List.take_of_length_le (by rw [List.length_drop, h.1]; omega)] at this
theorem RdI.take {w : World} {A : Option Addr} {n l : Nat} {xs : List Int} (h : RdI w A n xs) (hl : l ≤ n) : RdI w A l (xs.take l) := by
 have := h.cut (l := 0) (h := l) (c := 0) (Nat.zero_le _) hl
 refine ⟨by rw [List.length_take, h.1]; omega, fun k hk => ?_⟩
 obtain ⟨q, h1, h2⟩ := h.2 k (by omega)
 exact ⟨q, h1, by rw [h2]; simp [List.getElem?_take, hk, List.getD_eq_getElem?_getD]⟩

theorem l18Lengths_c (A : Option Addr) (n c : Nat) (rs : List SlV) (xss : List (List Int)) (F : Nat) (Aw : Option Addr) (nw cw : Nat) (ws : List Int) (w : World) (hR : RowsI w A n rs xss) (hn : 0 < n ∧ n ≤ 1000) (hF : (gl xss 0).length = F) (hF4 : F ≤ 1000) (hs : Sys F xss) (hW : RdI w Aw nw ws) (hnw : nw ≤ 9223372036854775807) (hw : ∀ k : Nat, k < nw → 0 ≤ gi ws k ∧ gi ws k < n) :
    Ret Tryz.prog 72 [.agg #[.slice A n c], .slice Aw nw cw] w (fun v w' => ∃ A' c', v = .slice A' (lenAll (doesL xss F ws) F).length c' ∧ St w w' [CkI 2 A' (lenAll (doesL xss F ws) F).length c' (srt (lenAll (doesL xss F ws) F))]) := by
  have hl := hR.len
  have hwl := hW.1
  have hwm : ∀ i ∈ ws, 0 ≤ i ∧ i < xss.length := by
    have := mem_gi (l := ws) (a := 0) (b := (n : Int)) (fun j hj => hw j (by omega))
    rw [hl]; exact this
  have hdl : ∀ x : Nat, x < F → 0 ≤ gi (doesL xss F ws) x ∧ gi (doesL xss F ws) x < F := fun x hx => does_lt hs hwm hx
  have hrun : ∀ x : Nat, x < F → runW xss (x : Int) ws = gi (doesL xss F ws) x := fun x hx => (gi_does (by omega) (by omega)).symm
  have hLle := lenAll_le (doesL xss F ws) F
  have hFc : ∀ w', RowsI w' A n rs xss → Ret Tryz.prog 119 [.agg #[.slice A n c]] w' (fun v w'' => v = .int .i64 (F : Int) ∧ St w' w'' []) := fun w' h => by
    have := l02Flags_c A n c rs xss w' h hn.1
    rwa [hF] at this
  generalize hp : doesL xss F ws = p at *
  refine Ret.of_cd Tryz.func72 rfl Tryz.ntmps72 rfl (post1 rfl) ?_
  refine Cd.seq ?_
  refine Cd.region ?_
  refine Ops.box1 (St.refl w) rfl rfl ?_
  intro Ab w1 hS1
  refine Ops.mv_sl rfl rfl rfl ?_
  refine Ops.nil ?_
  refine thenQ_n ?_
  refine Cd.seq ?_
  refine Cd.draw [.pr (fun v w' => ∃ A1, v = .slice A1 0 0 ∧ St w w' [CkI 2 A1 0 0 [], Bx 32 1 Ab [.slice A n c]]), .ex (.agg #[.slice (A) (n) (c)]), .ex (.int .i64 ((F : Int))), .pr (fun v w' => ∃ A1, v = .slice A1 F F ∧ St w w' [CkB 4 A1 F F (List.replicate F false)]), .pr (fun v w' => ∃ A1, v = .slice A1 0 0 ∧ St w w' [CkI 2 A1 0 0 [], Bx 32 1 Ab [.slice A n c]]), .pr (fun v w' => ∃ A1, v = .slice A1 F F ∧ St w w' [CkB 4 A1 F F (List.replicate F false)])] (by kernel_rfl) (by kernel_rfl) rfl (List.forall_mem_cons.2 ⟨Yd.lasts_pr (fun v w w' h hb => by obtain ⟨A1, hv, hT⟩ := h; exact ⟨A1, hv, hT.later hb⟩), (List.forall_mem_cons.2 ⟨Yd.lasts_ex _, (List.forall_mem_cons.2 ⟨Yd.lasts_ex _, (List.forall_mem_cons.2 ⟨Yd.lasts_pr (fun v w w' h hb => by obtain ⟨A1, hv, hT⟩ := h; exact ⟨A1, hv, hT.later hb⟩), (List.forall_mem_cons.2 ⟨Yd.lasts_pr (fun v w w' h hb => by obtain ⟨A1, hv, hT⟩ := h; exact ⟨A1, hv, hT.later hb⟩), (List.forall_mem_cons.2 ⟨Yd.lasts_pr (fun v w w' h hb => by obtain ⟨A1, hv, hT⟩ := h; exact ⟨A1, hv, hT.later hb⟩), (fun _ h => by cases h)⟩)⟩)⟩)⟩)⟩)⟩) ⟨?_, ?_, ?_, ?_, ?_, ?_, trivial⟩ ?_
  · intro e1 w1 hb hp hun
    refine Ops.bs0 (St.refl _) rfl ?_
    intro A1 w2 hst
    refine Ops.nil ?_
    exact After.dn hst.below ⟨A1, rfl, (hS1.later hb).call hst⟩
  · intro e1 w1 hb hp hun
    refine Ops.ld_agg 0 ((hS1.rd 0 rfl).below hb) rfl rfl rfl ?_
    refine Ops.nil ?_
    exact After.dn (Below.refl _ _) (by exact rfl)
  · intro e1 w1 hb hp hun
    refine Ops.call (hFc _ ((hS1.later hb).oldRows hR)) rfl rfl rfl ?_
    rintro _ w2 ⟨rfl, hst⟩
    refine Ops.nil ?_
    exact After.dn hst.below (by exact rfl)
  · intro e1 w1 hb hp hun
    refine Ops.mkB F (St.refl _) rfl rfl (by omega) ?_
    intro A1 w2 hst
    refine Ops.nil ?_
    exact After.dn hst.below ⟨A1, rfl, ((hS1.later hb).call hst).sub (List.Sublist.cons_cons _ (List.nil_sublist _))⟩
  · intro e1 w1 hb hp hun
    obtain ⟨A1, h12, hT⟩ := (hp 0 (by decide) rfl _ _ rfl rfl)
    refine Ops.mv_sl rfl (by exact h12) rfl ?_
    refine Ops.nil ?_
    exact After.dn (Below.refl _ _) ⟨A1, rfl, hT⟩
  · intro e1 w1 hb hp hun
    obtain ⟨A1, h15, hT⟩ := (hp 3 (by decide) rfl _ _ rfl rfl)
    refine Ops.mv_sl rfl (by exact h15) rfl ?_
    refine Ops.nil ?_
    exact After.dn (Below.refl _ _) ⟨A1, rfl, hT⟩
  intro u w2 hb2 hu
  obtain ⟨A5, h5, hT5⟩ := hu 4 _ rfl
  obtain ⟨A6, h6, hT6⟩ := hu 5 _ rfl
  have hS2 : St w w2 [CkI 2 A5 0 0 [], CkB 4 A6 F F (List.replicate F false), Bx 32 1 Ab [.slice A n c]] := (hT5.beside hT6 (by intro k' hk'; simp at hk'; rcases hk' with rfl | rfl <;> exact fun h => by cases h)).swap
  refine thenQ_n ?_
  refine Cd.seq ?_
  refine Cd.seq ?_
  refine Cd.region ?_
  refine Ops.mv_int rfl rfl rfl ?_
  refine Ops.nil ?_
  refine thenQ_n ?_
  refine Cd.block ?_
  refine Cd.loop (α := Nat × Option Addr × Nat × List Int × List Bool) (fun z => [(1, .slice Aw nw cw), (2, .pointer Ab), (5, .slice z.2.1 z.2.2.2.1.length z.2.2.1), (6, .slice A6 F F), (7, .int .i64 (z.1 : Int))])
    (fun z w' => St w w' [CkI 2 z.2.1 z.2.2.2.1.length z.2.2.1 z.2.2.2.1, CkB 4 A6 F F z.2.2.2.2, Bx 32 1 Ab [.slice A n c]] ∧ z.1 ≤ F ∧ z.2.2.2.2.length = F ∧ Asc z.2.2.2.1 ∧ ∃ done : List Int, z.2.2.2.1.Perm done ∧ done ++ (cycs p (List.range' z.1 (F - z.1)) z.2.2.2.2).map (fun c => (c.length : Int)) = lenAll p F)
    (fun z => F - z.1) (0, A5, 0, [], List.replicate F false) ⟨rfl, rfl, by exact h5, by exact h6, rfl, trivial⟩ ⟨hS2, Nat.zero_le _, by simp, List.Pairwise.nil, [], List.Perm.refl _, by rw [List.nil_append, lenAll, cyAll_eq]⟩ ?_
  rintro ⟨i, Ao, co, out, s⟩ e w3 ⟨hS3, hi, hsl, hasc, done, hperm, hdone⟩
  dsimp only at hS3 hi hsl hasc hperm hdone ⊢
  have hol : out.length ≤ F := by
    have h1 := congrArg List.length hdone
    rw [List.length_append, ← hperm.length_eq] at h1
    omega
  refine Cd.seq ?_
  refine Cd.seq ?_
  refine Cd.region ?_
  refine Ops.mv_int rfl rfl rfl ?_
  refine Ops.ld_agg 0 (hS3.rd 2 rfl) rfl rfl rfl ?_
  refine Ops.call (hFc _ (hS3.oldRows hR)) rfl rfl rfl ?_
  rintro _ w4 ⟨rfl, hst⟩
  have hS4 := hS3.later hst.below
  refine Ops.lss rfl rfl rfl ?_
  refine Ops.nil ?_
  refine thenQ_n ?_
  refine Cd.cond_p _ rfl (fun h1 => ?_) (fun h1 => ?_)
  · have hi' : i < F := by omega
    rw [cycs_step hi'] at hdone
    have hgle := goC_fst_le (p := p) (x := i) hsl
    generalize hr : goC p (s.count false) i s = r at *
    refine Cd.skip ?_
    refine thenQ_n ?_
    refine Cd.seq ?_
    refine Cd.block ?_
    refine Cd.seq ?_
    refine Cd.region ?_
    refine Ops.mv_int rfl rfl rfl ?_
    refine Ops.nil ?_
    refine thenQ_n ?_
    refine Cd.join (α := Nat × List Bool) (fun z => [(1, .slice Aw nw cw), (2, .pointer Ab), (5, .slice Ao out.length co), (6, .slice A6 F F), (7, .int .i64 (i : Int)), (8, .int .i64 (r.1.length : Int))])
      (fun z w' => St w w' [CkI 2 Ao out.length co out, CkB 4 A6 F F r.2, Bx 32 1 Ab [.slice A n c]]) ?_ ?_
    · refine Cd.seq ?_
      refine Cd.region ?_
      refine Ops.mv_int rfl rfl rfl ?_
      refine Ops.mv_int rfl rfl rfl ?_
      refine Ops.nil ?_
      refine thenQ_n ?_
      refine Cd.block ?_
      refine Cd.loop (α := Nat × Nat × List Bool) (fun z => [(1, .slice Aw nw cw), (2, .pointer Ab), (5, .slice Ao out.length co), (6, .slice A6 F F), (7, .int .i64 (i : Int)), (8, .int .i64 (z.2.1 : Int)), (9, .int .i64 (z.1 : Int))])
        (fun z w' => St w w' [CkI 2 Ao out.length co out, CkB 4 A6 F F z.2.2, Bx 32 1 Ab [.slice A n c]] ∧ z.1 < F ∧ z.2.2.length = F ∧ z.2.1 + (goC p (z.2.2.count false) z.1 z.2.2).1.length = r.1.length ∧ (goC p (z.2.2.count false) z.1 z.2.2).2 = r.2)
        (fun z => z.2.2.count false) (i, 0, s) ⟨rfl, rfl, rfl, rfl, rfl, rfl, rfl, trivial⟩ ⟨hS4, hi', hsl, by rw [hr]; exact Nat.zero_add _, by rw [hr]⟩ ?_
      rintro ⟨x, ln, s'⟩ e w5 ⟨hS5, hx, hsl', hlen, hend⟩
      dsimp only at hS5 hx hsl' hlen hend ⊢
      have hB5 := hS5.rdB 1 rfl
      refine Cd.seq ?_
      refine Cd.seq ?_
      refine Cd.region ?_
      refine Ops.mv_sl rfl rfl rfl ?_
      refine Ops.mv_int rfl rfl rfl ?_
      refine Ops.idx hB5.2 rfl rfl rfl (by omega) (by omega) ?_
      refine Ops.ld_bool hB5 rfl (by omega) rfl rfl ?_
      first | refine Ops.not_p rfl rfl ?_ | refine Ops.not rfl rfl ?_
      refine Ops.nil ?_
      refine thenQ_n ?_
      refine Cd.cond rfl (fun h2 => ?_) (fun h2 => ?_)
      · have hns : ¬ gb s' (x : Int) = true := by simpa using h2
        have hst' := goC_step (p := p) (s := s') (x := x) (by omega) hns
        have hcs := count_seen (s := s') (x := x) (by omega) hns
        have hlx := hdl x hx
        rw [hst'] at hlen hend
        dsimp only at hlen hend
        rw [List.length_cons] at hlen
        refine Cd.skip ?_
        refine thenQ_n ?_
        refine Cd.seq ?_
        refine Cd.block ?_
        refine Cd.seq ?_
        refine Cd.region ?_
        refine Ops.mv_sl rfl rfl rfl ?_
        refine Ops.mv_int rfl rfl rfl ?_
        refine Ops.idx hB5.2 rfl rfl rfl (by omega) (by omega) ?_
        refine Ops.st_bool 1 hS5 rfl rfl rfl (by omega) ?_
        intro w6 hS6
        have hS6 : St w w6 [CkI 2 Ao out.length co out, CkB 4 A6 F F (s'.set x true), Bx 32 1 Ab [.slice A n c]] := hS6
        refine Ops.nil ?_
        refine thenQ_n ?_
        refine Cd.region ?_
        refine Ops.mv_int rfl rfl rfl ?_
        refine Ops.add rfl rfl rfl (by omega) ?_
        refine Ops.mv_int rfl rfl rfl ?_
        refine Ops.nil ?_
        refine blockQ_n ?_
        refine thenQ_n ?_
        refine Cd.region ?_
        refine Ops.ld_agg 0 (hS6.rd 2 rfl) rfl rfl rfl ?_
        refine Ops.mv_int rfl rfl rfl ?_
        refine Ops.mv_sl rfl rfl rfl ?_
        refine Ops.call (l02Run_c A n c rs xss F x Aw nw cw ws _ (hS6.oldRows hR) hs (hS6.oldI hW) hnw hw (by omega) (by omega)) rfl rfl rfl ?_
        rintro _ w7 ⟨rfl, hst⟩
        have hS7 := hS6.later hst.below
        refine Ops.mv_int rfl rfl rfl ?_
        refine Ops.nil ?_
        refine thenQ_n ?_
        refine ⟨((gi p x).toNat, ln + 1, s'.set x true), by show (s'.set x true).count false < s'.count false; omega, ⟨rfl, rfl, rfl, rfl, rfl, rfl, by show Value.int .i64 _ = .int .i64 _; rw [hrun x hx, Int.toNat_of_nonneg hlx.1], trivial⟩, hS7, by show (gi p x).toNat < F; omega, by show (s'.set x true).length = F; rw [List.length_set]; exact hsl', by show ln + 1 + (goC p ((s'.set x true).count false) (gi p x).toNat (s'.set x true)).1.length = _; omega, hend⟩
      · have hsn : gb s' (x : Int) = true := by simpa using h2
        rw [goC_seen hsn] at hlen hend
        dsimp only at hlen hend
        subst hend
        refine Cd.exit ?_
        refine thenQ_x ?_
        refine thenQ_x ?_
        refine blockQ_x ?_
        refine thenQ_n ?_
        exact ⟨(ln, r.2), ⟨rfl, rfl, rfl, rfl, rfl, by rw [← hlen]; rfl, trivial⟩, hS5⟩
    · rintro _ e w5 hS5
      refine Cd.seq ?_
      refine Cd.region ?_
      refine Ops.mv_int rfl rfl rfl ?_
      refine Ops.gtr rfl rfl rfl ?_
      refine Ops.nil ?_
      refine thenQ_n ?_
      refine Cd.cond_p _ rfl (fun h3 => ?_) (fun h3 => ?_)
      · have hne : r.1 ≠ [] := by intro h; rw [h] at h3; simp at h3
        rw [if_neg hne] at hdone
        have hcap := (hS5.cap 0 rfl).1
        have hcap : out.length ≤ co := hcap
        refine Cd.seq ?_
        refine Cd.region ?_
        refine Ops.mv_int rfl rfl rfl ?_
        refine Ops.nil ?_
        refine thenQ_n ?_
        refine Cd.join (α := Nat) (fun a => [(1, .slice Aw nw cw), (2, .pointer Ab), (5, .slice Ao out.length co), (6, .slice A6 F F), (7, .int .i64 (i : Int)), (8, .int .i64 (r.1.length : Int)), (10, .int .i64 (a : Int))])
          (fun a w' => w' = w5 ∧ a ≤ out.length ∧ (∀ j : Nat, j < a → gi out (j : Int) < (r.1.length : Int)) ∧ (a < out.length → (r.1.length : Int) ≤ gi out (a : Int))) ?_ ?_
        · refine Cd.block ?_
          refine Cd.loop (α := Nat) (fun a => [(1, .slice Aw nw cw), (2, .pointer Ab), (5, .slice Ao out.length co), (6, .slice A6 F F), (7, .int .i64 (i : Int)), (8, .int .i64 (r.1.length : Int)), (10, .int .i64 (a : Int))]) (fun a w' => w' = w5 ∧ a ≤ out.length ∧ ∀ j : Nat, j < a → gi out (j : Int) < (r.1.length : Int)) (fun a => out.length - a) 0 ⟨rfl, rfl, rfl, rfl, rfl, rfl, rfl, trivial⟩ ⟨rfl, Nat.zero_le _, fun j hj => by omega⟩ ?_
          rintro a e w6 ⟨rfl, ha, hlt⟩
          have hO := hS5.rdI 0 rfl
          refine Cd.seq ?_
          refine Cd.seq ?_
          refine Cd.region ?_
          refine Ops.mv_int rfl rfl rfl ?_
          refine Ops.mv_sl rfl rfl rfl ?_
          refine Ops.len rfl rfl ?_
          refine Ops.lss rfl rfl rfl ?_
          refine Ops.mv_bool rfl rfl rfl ?_
          refine Ops.split_p 43 rfl (fun h4 => ?_) (fun h4 => ?_)
          · refine Ops.rung rfl rfl rfl ?_
            refine Ops.mv_sl rfl rfl rfl ?_
            refine Ops.rung rfl rfl rfl ?_
            refine Ops.mv_int rfl rfl rfl ?_
            refine Ops.rung rfl rfl rfl ?_
            refine Ops.idx hO.2 rfl rfl rfl (by omega) (by omega) ?_
            refine Ops.rung rfl rfl rfl ?_
            refine Ops.ld_int hO rfl (by omega) rfl rfl ?_
            refine Ops.rung rfl rfl rfl ?_
            refine Ops.mv_int rfl rfl rfl ?_
            refine Ops.rung rfl rfl rfl ?_
            refine Ops.lss rfl rfl rfl ?_
            refine Ops.pick_t rfl rfl rfl ?_
            refine Ops.nil ?_
            refine thenQ_n ?_
            refine Cd.cond_p _ rfl (fun h5 => ?_) (fun h5 => ?_)
            · refine Cd.skip ?_
              refine thenQ_n ?_
              refine Cd.block ?_
              refine Cd.region ?_
              refine Ops.mv_int rfl rfl rfl ?_
              refine Ops.add rfl rfl rfl (by omega) ?_
              refine Ops.mv_int rfl rfl rfl ?_
              refine Ops.nil ?_
              refine blockQ_n ?_
              refine thenQ_n ?_
              refine ⟨a + 1, by show out.length - (a + 1) < out.length - a; omega, ⟨rfl, rfl, rfl, rfl, rfl, rfl, rfl, trivial⟩, rfl, by omega, fun j hj => ?_⟩
              by_cases ej : j = a
              · subst ej; exact h5
              · exact hlt j (by omega)
            · refine Cd.exit ?_
              refine thenQ_x ?_
              refine thenQ_x ?_
              refine blockQ_x ?_
              refine thenQ_n ?_
              exact ⟨a, ⟨rfl, rfl, rfl, rfl, rfl, rfl, rfl, trivial⟩, rfl, ha, hlt, fun _ => by omega⟩
          · refine Ops.skipg rfl rfl rfl rfl rfl ?_
            refine Ops.skipg rfl rfl rfl rfl rfl ?_
            refine Ops.skipg rfl rfl rfl rfl rfl ?_
            refine Ops.skipg rfl rfl rfl rfl rfl ?_
            refine Ops.skipg rfl rfl rfl rfl rfl ?_
            refine Ops.skipg rfl rfl rfl rfl rfl ?_
            refine Ops.pick_f rfl rfl rfl ?_
            refine Ops.nil ?_
            refine thenQ_n ?_
            refine Cd.cond_f rfl ?_
            refine Cd.exit ?_
            refine thenQ_x ?_
            refine thenQ_x ?_
            refine blockQ_x ?_
            refine thenQ_n ?_
            exact ⟨a, ⟨rfl, rfl, rfl, rfl, rfl, rfl, rfl, trivial⟩, rfl, ha, hlt, fun h => absurd h (by omega)⟩
        · rintro a e w6 ⟨rfl, ha, hlt, hge⟩
          refine Cd.seq ?_
          refine Cd.region ?_
          refine Ops.mv_int rfl rfl rfl ?_
          refine Ops.bs1I hS5 rfl rfl rfl ?_
          intro A7 w7 hS7
          refine Ops.mv_sl rfl rfl rfl ?_
          refine Ops.mv_int rfl rfl rfl ?_
          refine Ops.cut_l rfl rfl rfl (by omega) ?_
          refine Ops.appI 0 hS7 rfl ((hS7.rdI 1 rfl).drop (l := a) ha hcap) rfl rfl rfl (by omega) (by omega) rfl ?_
          intro A8 c8 w8 hS8
          refine Ops.mv_sl rfl rfl rfl ?_
          refine Ops.nil ?_
          refine thenQ_n ?_
          refine Cd.region ?_
          refine Ops.bs0 hS8 rfl ?_
          intro A9 w9 hS9
          have hS9 : St w w9 (CkI 2 A9 0 0 [] :: CkI 2 A8 (1 + (out.length - a)) c8 ([(r.1.length : Int)] ++ out.drop a) :: CkI 2 Ao out.length co out :: [CkB 4 A6 F F r.2, Bx 32 1 Ab [.slice A n c]]) := hS9
          refine Ops.mv_sl rfl rfl rfl ?_
          refine Ops.mv_int rfl rfl rfl ?_
          refine Ops.cut_h rfl rfl rfl (by omega) ?_
          refine Ops.appI 0 hS9 rfl ((hS9.rdI 2 rfl).take (l := a) ha) rfl rfl rfl (by omega) (by omega) rfl ?_
          intro A10 c10 w10 hS10
          refine Ops.mv_sl rfl rfl rfl ?_
          refine Ops.appI 0 hS10 rfl (hS10.rdI 1 rfl) rfl rfl rfl (by omega) (by omega) rfl ?_
          intro A11 c11 w11 hS11
          refine Ops.mv_sl rfl rfl rfl ?_
          refine Ops.nil ?_
          refine blockQ_n ?_
          refine thenQ_n ?_
          refine Cd.region ?_
          refine Ops.mv_int rfl rfl rfl ?_
          refine Ops.add rfl rfl rfl (by omega) ?_
          refine Ops.mv_int rfl rfl rfl ?_
          refine Ops.nil ?_
          refine thenQ_n ?_
          have hS11 : St w w11 (CkI 2 A11 (0 + a + (1 + (out.length - a))) c11 (([] ++ out.take a) ++ ([(r.1.length : Int)] ++ out.drop a)) :: CkI 2 A8 (1 + (out.length - a)) c8 ([(r.1.length : Int)] ++ out.drop a) :: CkI 2 Ao out.length co out :: [CkB 4 A6 F F r.2, Bx 32 1 Ab [.slice A n c]]) := hS11
          have hS12 := hS11.sub (List.Sublist.cons_cons _ ((List.sublist_cons_self _ _).trans (List.sublist_cons_self _ _)))
          rw [List.nil_append, List.singleton_append] at hS12
          have hlen' : (out.take a ++ ((r.1.length : Int) :: out.drop a)).length = 0 + a + (1 + (out.length - a)) := by simp; omega
          refine ⟨(i + 1, A11, c11, out.take a ++ ((r.1.length : Int) :: out.drop a), r.2), by show F - (i + 1) < F - i; omega, ⟨rfl, rfl, by show Value.slice _ _ _ = .slice _ _ _; rw [hlen'], rfl, rfl, trivial⟩, by rw [hlen']; exact hS12, hi', by show r.2.length = F; rw [← hr, goC_len]; exact hsl, asc_put hasc ha hlt hge, done ++ [(r.1.length : Int)], put_perm.trans (hperm.append_right _), ?_⟩
          rw [← hdone]
          simp
      · have hnil : r.1 = [] := List.eq_nil_of_length_eq_zero (by omega)
        rw [if_pos hnil, List.nil_append] at hdone
        refine Cd.skip ?_
        refine blockQ_n ?_
        refine thenQ_n ?_
        refine Cd.region ?_
        refine Ops.mv_int rfl rfl rfl ?_
        refine Ops.add rfl rfl rfl (by omega) ?_
        refine Ops.mv_int rfl rfl rfl ?_
        refine Ops.nil ?_
        refine thenQ_n ?_
        exact ⟨(i + 1, Ao, co, out, r.2), by show F - (i + 1) < F - i; omega, ⟨rfl, rfl, rfl, rfl, rfl, trivial⟩, hS5, hi', by show r.2.length = F; rw [← hr, goC_len]; exact hsl, hasc, done, hperm, hdone⟩
  · refine Cd.exit ?_
    refine thenQ_x ?_
    refine thenQ_x ?_
    refine blockQ_x ?_
    refine thenQ_n ?_
    refine Cd.seq ?_
    refine Cd.region ?_
    refine Ops.mv_sl rfl rfl rfl ?_
    refine Ops.mv_sl rfl rfl rfl ?_
    refine Ops.nil ?_
    refine thenQ_n ?_
    refine Cd.ret ?_
    refine ret1_s rfl ?_
    have hiF : i = F := by omega
    subst hiF
    rw [cycs_end, List.map_nil, List.append_nil] at hdone
    rw [hdone] at hperm
    have he := asc_srt hperm hasc
    rw [← he, ← hperm.length_eq]
    exact ⟨Ao, co, rfl, hS4.sub (List.Sublist.cons_cons _ (List.nil_sublist _))⟩
end Go.Proofs.YtjpkmpihmilgoaaGreat.Vc
