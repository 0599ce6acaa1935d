/-
  The texts Cs7, Cs8, Im6, Im7, Anx, Cs9, Im8, Uni, D6, Nd1, Nd2, Open, Opm in one. Conditions: as each part states them.
-/
import Derived.Test.YtjpkmpihmilgoaaZg
import Derived.Test.YtjpkmpihmilgoaaZf
import Derived.Test.YtjpkmpihmilgoaaZd
import Derived.Test.YtjpkmpihmilgoaaZc
import Derived.Test.YtjpkmpihmilgoaaZe
import Derived.Lib.AppendZeros
import Derived.Test.YtjpkmpihmilgoaaZa
import Derived.Test.YtjpkmpihmilgoaaInst
import Derived.Deep.Matrix
import Derived.Carry
import Derived.Below
import Derived.ChangeSame
import Derived.ProofKit
import Derived.OpenShut
import Derived.Handed
import Derived.Lib.SmallJoins
/-
  The reference's presentation of a string diagram, walked; tests that hold. Conditions: as each states them.
-/
namespace Go.Proofs.Ytjpkmpihmilgoaa.Vc
open Go.RowKit

def relOf (labels : List Int) (i k : Nat) : List (List Int) :=
  if 0 < (if k = i + 1 then gi labels (i : Int) else 2) then [pow [(i : Int), (k : Int)] (if k = i + 1 then gi labels (i : Int) else 2).toNat] else []
def presK (labels : List Int) (gens i : Nat) : Nat → Nat → List (List Int)
  | 0, _ => []
  | f + 1, k => if k < gens then relOf labels i k ++ presK labels gens i f (k + 1) else []
def presI (labels : List Int) (gens : Nat) : Nat → Nat → List (List Int)
  | 0, _ => []
  | f + 1, i => if i < gens then presK labels gens i f (i + 1) ++ presI labels gens f (i + 1) else []
def presP (labels : List Int) : List (List Int) := presI labels (labels.length + 1) 20 0

theorem l12Rank_c (A : Option Addr) (n c : Nat) (w : World) (hn : n ≤ 1000) : Ret Try.prog 38 [.slice A n c] w (fun v w' => v = .int .i64 ((n : Int) + 1) ∧ w' = w) := by
  refine Ret.of_cd Try.func38 rfl Try.ntmps38 rfl (post1 rfl) ?_
  refine Cd.seq ?_
  refine Cd.region ?_
  refine Ops.mv_int rfl rfl rfl ?_
  refine Ops.nil ?_
  refine thenQ_n ?_
  refine Cd.seq ?_
  refine Cd.region ?_
  refine Ops.mv_sl rfl rfl rfl ?_
  refine Ops.len rfl rfl ?_
  refine Ops.add rfl rfl rfl (by omega) ?_
  refine Ops.mv_int rfl rfl rfl ?_
  refine Ops.nil ?_
  refine thenQ_n ?_
  refine Cd.ret ?_
  refine ret1_i rfl ?_
  exact ⟨rfl, rfl⟩

section
variable {P : Program} {N : Nat} {ops : Array Oper} {K : Env → World → Prop} {rest : List Oper} {e : Env} {w0 w w' : World} {ks : List Ck} {d : Nat} {ty : TypeId} {pos : String} {af : Array Edge}
theorem Ops.bld0of2 {t : TypeId} {f0 f1 : Field} {z0 z1 y0 y1 : Value} {b b0 b1 : Nat} [Und P t (.struct #[f0, f1])] [Inf P t (.agg #[z0, z1]) 2 b] {x0 : Operand} {v0 : Value} (hI0 : Inf P f0.type y0 1 b0) (hI1 : Inf P f1.type y1 1 b1) (ho : f0.offset = 0) (ho1 : f1.offset = 1) (h0 : ev e x0 = v0) (c0 : v0.oneCell' = true) (hb : Nat.blt d N = true)
    (hK : Ops P N ops K rest (upd e d (.agg #[v0, z1])) w) : Ops P N ops K (⟨some d, .build t #[(0, x0)], ty, pos, af, none⟩ :: rest) e w := by
  obtain ⟨inf, hi, hz0, hs, hby⟩ := Inf.get P t
  obtain ⟨inf0, hi0, _, hs0, _⟩ := hI0.get P f0.type
  obtain ⟨inf1, hi1, _, hs1, _⟩ := hI1.get P f1.type
  have e0 : v0.cells = #[v0] := by cases v0 <;> simp [Value.oneCell'] at c0 <;> rfl
  have ez : (Value.agg #[z0, z1]).cells = #[z0, z1] := rfl
  refine .val (w' := w) ?_ hb hK
  simp [execOp, Instr.build, run_underlying (Und.out (P := P) (t := t)), sizeOf, typeInfo, zeroValue, hi, hz0, hi0, hs0, hi1, hs1, ho, ho1, h0, e0, ez, Instr.fill]
end

structure PrS where
  f : Nat
  k : Nat
  B : Option Addr
  n : Nat
  c : Nat
  rs : List SlV
  xss : List (List Int)
theorem l12Presentation_c (Al : Option Addr) (nl cl : Nat) (labels : List Int) (w : World) (hR : RdI w Al nl labels) (hnl : nl ≤ 10) (hl : ∀ x ∈ labels, 0 ≤ x ∧ x ≤ 32) :
    Ret Try.prog 22 [.slice Al nl cl] w (fun v w' => ∃ B c rs, v = .agg #[.int .i64 ((nl : Int) + 1), .slice B (presP labels).length c] ∧ rs.length = (presP labels).length ∧ St w w' (mat 36 2 B (presP labels).length c rs (presP labels))) := by
  have hll := hR.1
  refine Ret.of_cd Try.func22 rfl Try.ntmps22 rfl (postc rfl rfl) ?_
  refine Cd.seq ?_
  refine Cd.region ?_
  refine Ops.new2 (St.refl w) rfl ?_
  intro A2 w1 hS1
  refine Ops.nil ?_
  refine thenQ_n ?_
  refine Cd.seq ?_
  refine Cd.region ?_
  refine Ops.mv_sl rfl rfl rfl ?_
  refine Ops.call (l12Rank_c Al nl cl _ (by omega)) rfl rfl rfl ?_
  rintro _ w2 ⟨rfl, rfl⟩
  skip
  refine Ops.bld0of2 (by exact inferInstance) (by exact inferInstance) rfl rfl rfl rfl rfl ?_
  refine Ops.new2 hS1 rfl ?_
  intro A3 w2 hS2
  skip
  refine Ops.st_agg 2 0 hS2 rfl rfl rfl rfl rfl rfl rfl ?_
  intro w3 hS3
  have hS3 : St w w3 ([Bx 42 2 A3 [.int .i64 ((nl : Int) + 1), .slice none 0 0], Bx 42 2 A2 [.int .i64 0, .slice none 0 0]]) := hS3
  have hS4 : St w w3 (CkR 36 none 0 0 [] :: [Bx 42 2 A3 [.int .i64 ((nl : Int) + 1), .slice none 0 0], Bx 42 2 A2 [.int .i64 0, .slice none 0 0]]) := hS3.nil _
  have hS5 : St w w3 ([Bx 42 2 A3 [.int .i64 ((nl : Int) + 1), .slice none 0 0], Bx 42 2 A2 [.int .i64 0, .slice none 0 0]] ++ mat 36 2 none 0 0 [] []) := hS4.perm (List.perm_append_comm (l₁ := [_]) (l₂ := [_, _]))
  refine Ops.nil ?_
  refine thenQ_n ?_
  refine Cd.seq ?_
  refine Cd.seq ?_
  refine Cd.region ?_
  refine Ops.mv_int rfl rfl rfl ?_
  refine Ops.nil ?_
  refine thenQ_n ?_
  refine Cd.block ?_
  refine Cd.loop (α := PrS) (fun s => [(0, .slice Al nl cl), (2, .pointer A2), (3, .pointer A3), (4, .int .i64 (s.k : Int))]) (fun s w' => St w w' ([Bx 42 2 A3 [.int .i64 ((nl : Int) + 1), .slice s.B s.n s.c], Bx 42 2 A2 [.int .i64 0, .slice none 0 0]] ++ mat 36 2 s.B s.n s.c s.rs s.xss) ∧ s.rs.length = s.n ∧ s.xss.length = s.n ∧ s.n ≤ 20 * s.k ∧ s.k + s.f = 20 ∧ s.xss ++ presI labels (nl + 1) s.f s.k = presP labels) (fun s => s.f) ⟨20, 0, none, 0, 0, [], []⟩ ⟨rfl, rfl, rfl, rfl, trivial⟩ ⟨hS5, rfl, rfl, Nat.zero_le _, rfl, by unfold presP; rw [hll]; rfl⟩ ?_
  rintro ⟨f, i, B, n, cB, rs, xss⟩ e w4 ⟨hS4, hrl, hxl, hnk, hkf, hpre⟩
  dsimp only at hS4 hrl hxl hnk hkf hpre ⊢
  refine Cd.seq ?_
  refine Cd.seq ?_
  refine Cd.region ?_
  refine Ops.mv_int rfl rfl rfl ?_
  refine Ops.fld (hS4.rd 0 rfl) rfl rfl rfl rfl inferInstance ?_
  refine Ops.ldf_i (hS4.rd 0 rfl) rfl rfl rfl rfl rfl ?_
  refine Ops.lss rfl rfl rfl ?_
  refine Ops.nil ?_
  refine thenQ_n ?_
  refine Cd.cond_p _ rfl (fun h1 => ?_) (fun h1 => ?_)
  · obtain ⟨f, rfl⟩ : ∃ q, f = q + 1 := ⟨f - 1, by omega⟩
    rw [presI, if_pos (by omega)] at hpre
    refine Cd.skip ?_
    refine thenQ_n ?_
    refine Cd.seq ?_
    refine Cd.block ?_
    refine Cd.seq ?_
    refine Cd.region ?_
    refine Ops.mv_int rfl rfl rfl ?_
    refine Ops.add rfl rfl rfl (by omega) ?_
    refine Ops.mv_int rfl rfl rfl ?_
    refine Ops.nil ?_
    refine thenQ_n ?_
    refine Cd.block ?_
    refine Cd.loop (α := PrS) (fun s => [(0, .slice Al nl cl), (2, .pointer A2), (3, .pointer A3), (4, .int .i64 (i : Int)), (5, .int .i64 (s.k : Int))]) (fun s w' => St w w' ([Bx 42 2 A3 [.int .i64 ((nl : Int) + 1), .slice s.B s.n s.c], Bx 42 2 A2 [.int .i64 0, .slice none 0 0]] ++ mat 36 2 s.B s.n s.c s.rs s.xss) ∧ s.rs.length = s.n ∧ s.xss.length = s.n ∧ i + 1 ≤ s.k ∧ s.n + i + 1 ≤ 20 * i + s.k ∧ s.k + s.f = 20 ∧ s.xss ++ (presK labels (nl + 1) i s.f s.k ++ presI labels (nl + 1) f (i + 1)) = presP labels) (fun s => s.f) ⟨f, i + 1, B, n, cB, rs, xss⟩ ⟨rfl, rfl, rfl, rfl, rfl, trivial⟩ ⟨hS4, hrl, hxl, Nat.le_refl _, by show n + i + 1 ≤ 20 * i + (i + 1); omega, by show i + 1 + f = 20; omega, hpre⟩ ?_
    rintro ⟨g, k, B, n, cB, rs, xss⟩ e w5 ⟨hS5, hrl, hxl, hik, hnk2, hkg, hpre⟩
    dsimp only at hS5 hrl hxl hik hnk2 hkg hpre ⊢
    refine Cd.seq ?_
    refine Cd.seq ?_
    refine Cd.region ?_
    refine Ops.mv_int rfl rfl rfl ?_
    refine Ops.fld (hS5.rd 0 rfl) rfl rfl rfl rfl inferInstance ?_
    refine Ops.ldf_i (hS5.rd 0 rfl) rfl rfl rfl rfl rfl ?_
    refine Ops.lss rfl rfl rfl ?_
    refine Ops.nil ?_
    refine thenQ_n ?_
    refine Cd.cond_p _ rfl (fun h2 => ?_) (fun h2 => ?_)
    · obtain ⟨g, rfl⟩ : ∃ q, g = q + 1 := ⟨g - 1, by omega⟩
      rw [presK, if_pos (by omega)] at hpre
      have hLb : ∃ L : Int, L = (if k = i + 1 then gi labels (i : Int) else 2) ∧ 0 ≤ L ∧ L ≤ 32 := by
        refine ⟨_, rfl, ?_⟩
        split
        · have := hl (gi labels (i : Int)) (by rw [gi_mem (by omega)]; exact List.getElem_mem _)
          exact this
        · omega
      obtain ⟨L, hL, hL0, hL32⟩ := hLb
      refine Cd.skip ?_
      refine thenQ_n ?_
      refine Cd.seq ?_
      refine Cd.block ?_
      refine Cd.seq ?_
      refine Cd.region ?_
      refine Ops.mv_int rfl rfl rfl ?_
      refine Ops.nil ?_
      refine thenQ_n ?_
      refine Cd.join (α := Unit) (fun _ => [(0, .slice Al nl cl), (2, .pointer A2), (3, .pointer A3), (4, .int .i64 (i : Int)), (5, .int .i64 (k : Int)), (6, .int .i64 L)]) (fun _ w' => w' = w5) ?_ ?_
      · refine Cd.seq ?_
        refine Cd.region ?_
        refine Ops.mv_int rfl rfl rfl ?_
        refine Ops.mv_int rfl rfl rfl ?_
        refine Ops.add rfl rfl rfl (by omega) ?_
        refine Ops.eql rfl rfl rfl ?_
        refine Ops.nil ?_
        refine thenQ_n ?_
        refine Cd.cond_p _ rfl (fun h3 => ?_) (fun h3 => ?_)
        · have hRl := hS5.oldI hR
          refine Cd.region ?_
          refine Ops.mv_sl rfl rfl rfl ?_
          refine Ops.mv_int rfl rfl rfl ?_
          refine Ops.idx hRl.2 rfl rfl rfl (by omega) (by omega) ?_
          refine Ops.ld_int hRl rfl (by omega) rfl rfl ?_
          refine Ops.mv_int rfl rfl rfl ?_
          refine Ops.nil ?_
          refine thenQ_n ?_
          exact ⟨(), ⟨rfl, rfl, rfl, rfl, rfl, by rw [hL, if_pos (by omega)]; rfl, trivial⟩, rfl⟩
        · refine Cd.skip ?_
          refine thenQ_n ?_
          exact ⟨(), ⟨rfl, rfl, rfl, rfl, rfl, by rw [hL, if_neg (by omega)]; rfl, trivial⟩, rfl⟩
      · rintro ⟨⟩ e w6 rfl
        refine Cd.seq ?_
        refine Cd.region ?_
        refine Ops.mv_int rfl rfl rfl ?_
        refine Ops.gtr rfl rfl rfl ?_
        refine Ops.nil ?_
        refine thenQ_n ?_
        refine Cd.cond_p _ rfl (fun h4 => ?_) (fun h4 => ?_)
        · have hrel : relOf labels i k = [pow [(i : Int), (k : Int)] L.toNat] := by
            unfold relOf
            rw [← hL, if_pos h4]
          rw [hrel] at hpre
          skip
          refine Cd.drawN [8, 10] [.ex (.pointer (ptrAt (A3) 1)), .ex (.slice (B) (n) (cB)), .ex (.int .i64 ((i : Int))), .ex (.int .i64 ((k : Int))), .pr (fun v w' => ∃ A38, v = .slice A38 2 2 ∧ St w w' (CkI 2 A38 2 2 [(i : Int), (k : Int)] :: Bx 42 2 A3 [.int .i64 ((nl : Int) + 1), .slice B n cB] :: Bx 42 2 A2 [.int .i64 0, .slice none 0 0] :: mat 36 2 B n cB rs xss)), .ex (.int .i64 (L)), .pr (fun v w' => ∃ A40 c40, v = .slice A40 (2 * L.toNat) c40 ∧ St w w' (CkI 2 A40 (2 * L.toNat) c40 (pow [(i : Int), (k : Int)] L.toNat) :: Bx 42 2 A3 [.int .i64 ((nl : Int) + 1), .slice B n cB] :: Bx 42 2 A2 [.int .i64 0, .slice none 0 0] :: mat 36 2 B n cB rs xss)), .pr (fun v w' => ∃ A40 c40 A41, v = .slice A41 1 1 ∧ St w w' (CkR 36 A41 1 1 [⟨A40, 2 * L.toNat, c40⟩] :: CkI 2 A40 (2 * L.toNat) c40 (pow [(i : Int), (k : Int)] L.toNat) :: Bx 42 2 A3 [.int .i64 ((nl : Int) + 1), .slice B n cB] :: Bx 42 2 A2 [.int .i64 0, .slice none 0 0] :: mat 36 2 B n cB rs xss)), .pr (fun v w' => ∃ A40 c40 A42 c42, v = .slice A42 (n + 1) c42 ∧ St w w' (CkI 2 A40 (2 * L.toNat) c40 (pow [(i : Int), (k : Int)] L.toNat) :: Bx 42 2 A3 [.int .i64 ((nl : Int) + 1), .slice B n cB] :: Bx 42 2 A2 [.int .i64 0, .slice none 0 0] :: CkR 36 A42 (n + 1) c42 (rs ++ [⟨A40, 2 * L.toNat, c40⟩]) :: rowsCk 2 rs xss)), .ex (.pointer (ptrAt (A3) 1)), .pr (fun _ w' => ∃ A40 c40 A42 c42, St w w' (CkI 2 A40 (2 * L.toNat) c40 (pow [(i : Int), (k : Int)] L.toNat) :: Bx 42 2 A3 [.int .i64 ((nl : Int) + 1), .slice A42 (n + 1) c42] :: Bx 42 2 A2 [.int .i64 0, .slice none 0 0] :: CkR 36 A42 (n + 1) c42 (rs ++ [⟨A40, 2 * L.toNat, c40⟩]) :: rowsCk 2 rs xss))] (by kernel_rfl) (by kernel_rfl) (List.forall_mem_cons.2 ⟨Yd.lasts_ex _, (List.forall_mem_cons.2 ⟨Yd.lasts_ex _, (List.forall_mem_cons.2 ⟨Yd.lasts_ex _, (List.forall_mem_cons.2 ⟨Yd.lasts_ex _, (List.forall_mem_cons.2 ⟨Yd.lasts_pr (fun v w w' h hb => by obtain ⟨A38, hv, h1⟩ := h; exact ⟨A38, hv, h1.later hb⟩), (List.forall_mem_cons.2 ⟨Yd.lasts_ex _, (List.forall_mem_cons.2 ⟨Yd.lasts_pr (fun v w w' h hb => by obtain ⟨A40, c40, hv, h1⟩ := h; exact ⟨A40, c40, hv, h1.later hb⟩), (List.forall_mem_cons.2 ⟨Yd.lasts_pr (fun v w w' h hb => by obtain ⟨A40, c40, A41, hv, h1⟩ := h; exact ⟨A40, c40, A41, hv, h1.later hb⟩), (List.forall_mem_cons.2 ⟨Yd.lasts_pr (fun v w w' h hb => by obtain ⟨A40, c40, A42, c42, hv, h1⟩ := h; exact ⟨A40, c40, A42, c42, hv, h1.later hb⟩), (List.forall_mem_cons.2 ⟨Yd.lasts_ex _, (List.forall_mem_cons.2 ⟨Yd.lasts_pr (fun v w w' h hb => by obtain ⟨A40, c40, A42, c42, h1⟩ := h; exact ⟨A40, c40, A42, c42, h1.later hb⟩), (fun _ h => by cases h)⟩)⟩)⟩)⟩)⟩)⟩)⟩)⟩)⟩)⟩)⟩) ⟨?_, ?_, ?_, ?_, ?_, ?_, ?_, ?_, ?_, ?_, ?_, trivial⟩ ?_
          · intro e1 w1 cc hlo hhi hb0 hp hun hq
            show Ops _ _ _ _ _ _ _
            replace hlo := le_of_lo hlo (b := 0) (by kernel_rfl)
            replace hhi := le_of_hi hhi (b := 0) (by kernel_rfl)
            obtain rfl : cc = 0 := by omega
            have hb := hb0 rfl
            refine Ops.fld ((hS5.rd 0 rfl).below hb) rfl rfl rfl rfl inferInstance ?_
            refine Ops.nil ?_
            exact AfterN.dn rfl (Below.refl _ _) (by exact rfl)
          · intro e1 w1 cc hlo hhi hb0 hp hun hq
            show Ops _ _ _ _ _ _ _
            replace hlo := le_of_lo hlo (b := 0) (by kernel_rfl)
            replace hhi := le_of_hi hhi (b := 0) (by kernel_rfl)
            obtain rfl : cc = 0 := by omega
            have hb := hb0 rfl
            refine Ops.ldf_s ((hS5.rd 0 rfl).below hb) rfl rfl rfl rfl rfl ?_
            refine Ops.nil ?_
            exact AfterN.dn rfl (Below.refl _ _) (by exact rfl)
          · intro e1 w1 cc hlo hhi hb0 hp hun hq
            show Ops _ _ _ _ _ _ _
            refine Ops.mv_int rfl rfl rfl ?_
            refine Ops.nil ?_
            exact AfterN.dn rfl (Below.refl _ _) (by exact rfl)
          · intro e1 w1 cc hlo hhi hb0 hp hun hq
            show Ops _ _ _ _ _ _ _
            refine Ops.mv_int rfl rfl rfl ?_
            refine Ops.nil ?_
            exact AfterN.dn rfl (Below.refl _ _) (by exact rfl)
          · intro e1 w1 cc hlo hhi hb0 hp hun hq
            show Ops _ _ _ _ _ _ _
            replace hlo := le_of_lo hlo (b := 0) (by kernel_rfl)
            replace hhi := le_of_hi hhi (b := 0) (by kernel_rfl)
            obtain rfl : cc = 0 := by omega
            have hb := hb0 rfl
            refine Ops.bsL [(i : Int), (k : Int)] (St.refl _) rfl rfl (by decide) (by decide) rfl rfl ?_
            intro A38 w20 hst20
            refine Ops.nil ?_
            exact AfterN.dn rfl hst20.below ⟨A38, rfl, (hS5.later hb).call hst20⟩
          · intro e1 w1 cc hlo hhi hb0 hp hun hq
            show Ops _ _ _ _ _ _ _
            refine Ops.mv_int rfl rfl rfl ?_
            refine Ops.nil ?_
            exact AfterN.dn rfl (Below.refl _ _) (by exact rfl)
          · intro e1 w1 cc hlo hhi hb0 hp hun hq
            show Ops _ _ _ _ _ _ _
            replace hlo := le_of_lo hlo (b := 0) (by kernel_rfl)
            replace hhi := le_of_hi hhi (b := 0) (by kernel_rfl)
            obtain rfl : cc = 0 := by omega
            have hb := hb0 rfl
            obtain ⟨A38, hv, h1⟩ := (hp 4 _ _ (by kernel_rfl) rfl rfl (by kernel_rfl))
            have hb := hb0 rfl
            refine Ops.call (l11Power_c A38 2 2 [(i : Int), (k : Int)] L.toNat _ (h1.rdI 0 rfl) (by decide) (by omega)) rfl (by rw [Int.toNat_of_nonneg hL0]; exact congrArg (fun v => [v, Value.int .i64 L]) hv) rfl ?_
            rintro _ w21 ⟨A40, c40, rfl, hst21⟩
            refine Ops.nil ?_
            exact AfterN.dn rfl hst21.below ⟨A40, c40, rfl, (h1.tail).call hst21⟩
          · intro e1 w1 cc hlo hhi hb0 hp hun hq
            show Ops _ _ _ _ _ _ _
            replace hlo := le_of_lo hlo (b := 0) (by kernel_rfl)
            replace hhi := le_of_hi hhi (b := 0) (by kernel_rfl)
            obtain rfl : cc = 0 := by omega
            have hb := hb0 rfl
            obtain ⟨A40, c40, hv, h1⟩ := (hp 6 _ _ (by kernel_rfl) rfl rfl (by kernel_rfl))
            have hb := hb0 rfl
            refine Ops.bs1R (St.refl _) (by exact hv) rfl rfl ?_
            intro A41 w22 hst22
            refine Ops.nil ?_
            exact AfterN.dn rfl hst22.below ⟨A40, c40, A41, rfl, h1.call hst22⟩
          · intro e1 w1 cc hlo hhi hb0 hp hun hq
            show Ops _ _ _ _ _ _ _
            replace hlo := le_of_lo hlo (b := 0) (by kernel_rfl)
            replace hhi := le_of_hi hhi (b := 0) (by kernel_rfl)
            obtain rfl : cc = 0 := by omega
            have hb := hb0 rfl
            obtain ⟨A40, c40, A41, hv, h1⟩ := (hp 7 _ _ (by kernel_rfl) rfl rfl (by kernel_rfl))
            refine Ops.appR 4 h1 rfl (h1.rdR 0 rfl) rfl (by exact hv) rfl (by omega) (by omega) rfl ?_
            intro A42 c42 w23 hT23
            refine Ops.nil ?_
            exact AfterT.dn rfl ⟨A40, c40, A42, c42, rfl, hT23.tail⟩
          · intro e1 w1 cc hlo hhi hb0 hp hun hq
            show Ops _ _ _ _ _ _ _
            replace hlo := le_of_lo hlo (b := 1) (by kernel_rfl)
            replace hhi := le_of_hi hhi (b := 1) (by kernel_rfl)
            obtain rfl : cc = 1 := by omega
            have hph := hp 8 _ _ (by kernel_rfl) rfl rfl (by kernel_rfl)
            obtain ⟨A40, c40, A42, c42, h42, hT⟩ := hph
            refine Ops.fld ((hT.rd 1 rfl)) rfl rfl rfl rfl inferInstance ?_
            refine Ops.nil ?_
            exact AfterN.dn rfl (Below.refl _ _) (by exact rfl)
          · intro e1 w1 cc hlo hhi hb0 hp hun hq
            show Ops _ _ _ _ _ _ _
            replace hlo := le_of_lo hlo (b := 1) (by kernel_rfl)
            replace hhi := le_of_hi hhi (b := 1) (by kernel_rfl)
            obtain rfl : cc = 1 := by omega
            have hph := hp 8 _ _ (by kernel_rfl) rfl rfl (by kernel_rfl)
            obtain ⟨A40, c40, A42, c42, h42, hT⟩ := hph
            refine Ops.stf 1 hT rfl rfl (by exact h42) rfl rfl ?_
            intro w24 hT24
            refine Ops.nil ?_
            exact AfterT.st rfl ⟨A40, c40, A42, c42, hT24⟩
          intro u w7 _ hu
          obtain ⟨A40, c40, A42, c42, hT⟩ := hu 10 _ rfl (by kernel_rfl)
          refine blockQ_n ?_
          refine thenQ_n ?_
          refine Cd.region ?_
          refine Ops.mv_int rfl rfl rfl ?_
          refine Ops.add rfl rfl rfl (by omega) ?_
          refine Ops.mv_int rfl rfl rfl ?_
          refine Ops.nil ?_
          refine thenQ_n ?_
          refine ⟨⟨g, k + 1, A42, n + 1, c42, rs ++ [⟨A40, 2 * L.toNat, c40⟩], xss ++ [pow [(i : Int), (k : Int)] L.toNat]⟩, Nat.lt_succ_self g, ⟨rfl, rfl, rfl, rfl, rfl, trivial⟩, ?_, by simp [hrl], by simp [hxl], by show i + 1 ≤ k + 1; omega, by show n + 1 + i + 1 ≤ 20 * i + (k + 1); omega, by show k + 1 + g = 20; omega, by rw [← hpre]; simp⟩
          show St w w7 ([Bx 42 2 A3 [.int .i64 ((nl : Int) + 1), .slice A42 (n + 1) c42], Bx 42 2 A2 [.int .i64 0, .slice none 0 0]] ++ CkR 36 A42 (n + 1) c42 (rs ++ [⟨A40, 2 * L.toNat, c40⟩]) :: rowsCk 2 (rs ++ [⟨A40, 2 * L.toNat, c40⟩]) (xss ++ [pow [(i : Int), (k : Int)] L.toNat]))
          rw [rowsCk_append (by omega)]
          refine hT.perm ?_
          exact List.perm_append_comm (l₁ := [_]) (l₂ := Bx 42 2 A3 [.int .i64 ((nl : Int) + 1), .slice A42 (n + 1) c42] :: Bx 42 2 A2 [.int .i64 0, .slice none 0 0] :: CkR 36 A42 (n + 1) c42 (rs ++ [⟨A40, 2 * L.toNat, c40⟩]) :: rowsCk 2 rs xss)
        · have hrel : relOf labels i k = [] := by
            unfold relOf
            rw [← hL, if_neg h4]
          rw [hrel] at hpre
          refine Cd.skip ?_
          refine blockQ_n ?_
          refine thenQ_n ?_
          refine Cd.region ?_
          refine Ops.mv_int rfl rfl rfl ?_
          refine Ops.add rfl rfl rfl (by omega) ?_
          refine Ops.mv_int rfl rfl rfl ?_
          refine Ops.nil ?_
          refine thenQ_n ?_
          exact ⟨⟨g, k + 1, B, n, cB, rs, xss⟩, Nat.lt_succ_self g, ⟨rfl, rfl, rfl, rfl, rfl, trivial⟩, hS5, hrl, hxl, by show i + 1 ≤ k + 1; omega, by show n + i + 1 ≤ 20 * i + (k + 1); omega, by show k + 1 + g = 20; omega, hpre⟩
    · have hkk : presK labels (nl + 1) i g k = [] := by
        cases g with
        | zero => rfl
        | succ g => rw [presK, if_neg (by omega)]
      rw [hkk] at hpre
      refine Cd.exit ?_
      refine thenQ_x ?_
      refine thenQ_x ?_
      refine blockQ_x ?_
      refine blockQ_n ?_
      refine thenQ_n ?_
      refine Cd.region ?_
      refine Ops.mv_int rfl rfl rfl ?_
      refine Ops.add rfl rfl rfl (by omega) ?_
      refine Ops.mv_int rfl rfl rfl ?_
      refine Ops.nil ?_
      refine thenQ_n ?_
      exact ⟨⟨f, i + 1, B, n, cB, rs, xss⟩, Nat.lt_succ_self f, ⟨rfl, rfl, rfl, rfl, trivial⟩, hS5, hrl, hxl, by show n ≤ 20 * (i + 1); omega, by show i + 1 + f = 20; omega, hpre⟩
  · have hii : presI labels (nl + 1) f i = [] := by
      cases f with
      | zero => rfl
      | succ f => rw [presI, if_neg (by omega)]
    rw [hii, List.append_nil] at hpre
    subst hpre
    refine Cd.exit ?_
    refine thenQ_x ?_
    refine thenQ_x ?_
    refine blockQ_x ?_
    refine thenQ_n ?_
    refine Cd.seq ?_
    refine Cd.region ?_
    refine Ops.ld_agg 1 (hS4.rd 0 rfl) rfl rfl rfl ?_
    skip
    refine Ops.st_agg 2 1 hS4 rfl rfl rfl rfl rfl rfl rfl ?_
    intro w5 hS5
    refine Ops.nil ?_
    refine thenQ_n ?_
    refine Cd.ret ?_
    skip
    refine retc_r rfl (hS5.rd 1 rfl) ?_
    refine ⟨B, cB, rs, by rw [hxl]; rfl, by omega, ?_⟩
    rw [hxl]
    exact (hS5.sub ((List.Sublist.refl _).cons _)).sub ((List.Sublist.refl _).cons _)
end Go.Proofs.Ytjpkmpihmilgoaa.Vc
/-
  The reference's tests of diagrams and presentations, where they hold, and its universal polytope, walked. Conditions: as each states them.
-/
namespace Go.Proofs.Ytjpkmpihmilgoaa.Vc
open Go.RowKit

theorem l12Is_c (A : Option Addr) (n c : Nat) (labels : List Int) (w : World) (hR : RdI w A n labels) (hn : n < 5) (hl : ∀ x ∈ labels, x = 0 ∨ (2 ≤ x ∧ x ≤ 32)) :
    Ret Try.prog 20 [.slice A n c] w (fun v w' => v = .bool true ∧ w' = w) := by
  have hll := hR.1
  refine Ret.of_cd Try.func20 rfl Try.ntmps20 rfl (post1 rfl) ?_
  refine Cd.seq ?_
  refine Cd.region ?_
  refine Ops.mv_bool rfl rfl rfl ?_
  refine Ops.nil ?_
  refine thenQ_n ?_
  refine Cd.seq ?_
  refine Cd.seq ?_
  refine Cd.region ?_
  refine Ops.mv_int rfl rfl rfl ?_
  refine Ops.nil ?_
  refine thenQ_n ?_
  refine Cd.block ?_
  refine Cd.loop (α := Nat) (fun i => [(0, .slice A n c), (3, .int .i64 (i : Int))]) (fun i w' => w' = w ∧ i ≤ n) (fun i => n - i) 0 ⟨rfl, rfl, trivial⟩ ⟨rfl, Nat.zero_le _⟩ ?_
  rintro i e w1 ⟨rfl, hi⟩
  refine Cd.seq ?_
  refine Cd.seq ?_
  refine Cd.region ?_
  refine Ops.mv_int rfl rfl rfl ?_
  refine Ops.mv_sl rfl rfl rfl ?_
  refine Ops.len rfl rfl ?_
  refine Ops.lss rfl rfl rfl ?_
  refine Ops.nil ?_
  refine thenQ_n ?_
  refine Cd.cond_p _ rfl (fun h1 => ?_) (fun h1 => ?_)
  · have hx := hl (gi labels (i : Int)) (by rw [gi_mem (by omega)]; exact List.getElem_mem _)
    refine Cd.skip ?_
    refine thenQ_n ?_
    refine Cd.seq ?_
    refine Cd.block ?_
    refine Cd.seq ?_
    refine Cd.region ?_
    refine Ops.mv_sl rfl rfl rfl ?_
    refine Ops.mv_int rfl rfl rfl ?_
    refine Ops.idx hR.2 rfl rfl rfl (by omega) (by omega) ?_
    refine Ops.ld_int hR rfl (by omega) rfl rfl ?_
    refine Ops.neq rfl rfl rfl ?_
    refine Ops.mv_bool rfl rfl rfl ?_
    refine Ops.split_p 15 rfl (fun h2 => ?_) (fun h2 => ?_)
    · refine Ops.rung rfl rfl rfl ?_
      refine Ops.mv_sl rfl rfl rfl ?_
      refine Ops.rung rfl rfl rfl ?_
      refine Ops.mv_int rfl rfl rfl ?_
      refine Ops.rung rfl rfl rfl ?_
      refine Ops.idx hR.2 rfl rfl rfl (by omega) (by omega) ?_
      refine Ops.rung rfl rfl rfl ?_
      refine Ops.ld_int hR rfl (by omega) rfl rfl ?_
      refine Ops.rung rfl rfl rfl ?_
      refine Ops.call (l01In_c _ _ _ _) rfl rfl rfl ?_
      rintro _ w2 ⟨rfl, rfl⟩
      refine Ops.rung rfl rfl rfl ?_
      first | refine Ops.not_p rfl rfl ?_ | refine Ops.not rfl rfl ?_
      refine Ops.pick_t rfl rfl rfl ?_
      refine Ops.nil ?_
      refine thenQ_n ?_
      refine Cd.cond_pf rfl (fun h => h (by omega)) ?_
      refine Cd.skip ?_
      refine blockQ_n ?_
      refine thenQ_n ?_
      refine Cd.region ?_
      refine Ops.mv_int rfl rfl rfl ?_
      refine Ops.add rfl rfl rfl (by omega) ?_
      refine Ops.mv_int rfl rfl rfl ?_
      refine Ops.nil ?_
      refine thenQ_n ?_
      exact ⟨i + 1, by omega, ⟨rfl, rfl, trivial⟩, rfl, by omega⟩
    · refine Ops.skipg rfl rfl rfl rfl rfl ?_
      refine Ops.skipg rfl rfl rfl rfl rfl ?_
      refine Ops.skipg rfl rfl rfl rfl rfl ?_
      refine Ops.skipg rfl rfl rfl rfl rfl ?_
      refine Ops.skipg rfl rfl rfl rfl rfl ?_
      refine Ops.skipg rfl rfl rfl rfl rfl ?_
      refine Ops.pick_f rfl rfl rfl ?_
      refine Ops.nil ?_
      refine thenQ_n ?_
      refine Cd.cond_f rfl ?_
      refine Cd.skip ?_
      refine blockQ_n ?_
      refine thenQ_n ?_
      refine Cd.region ?_
      refine Ops.mv_int rfl rfl rfl ?_
      refine Ops.add rfl rfl rfl (by omega) ?_
      refine Ops.mv_int rfl rfl rfl ?_
      refine Ops.nil ?_
      refine thenQ_n ?_
      exact ⟨i + 1, by omega, ⟨rfl, rfl, trivial⟩, rfl, by omega⟩
  · refine Cd.exit ?_
    refine thenQ_x ?_
    refine thenQ_x ?_
    refine blockQ_x ?_
    refine thenQ_n ?_
    refine Cd.seq ?_
    refine Cd.region ?_
    refine Ops.mv_sl rfl rfl rfl ?_
    refine Ops.len rfl rfl ?_
    refine Ops.lss rfl rfl rfl ?_
    refine Ops.mv_bool rfl rfl rfl ?_
    refine Ops.nil ?_
    refine thenQ_n ?_
    refine Cd.ret ?_
    refine ret1_b rfl ?_
    exact ⟨by rw [decide_eq_true (by omega)], rfl⟩

theorem l11Word_c (letters : Int) (A : Option Addr) (n c : Nat) (ws : List Int) (w : World) (hR : RdI w A n ws) (hlt : 0 ≤ letters ∧ letters ≤ 1000) (hn : n ≤ 64) (hw : ∀ x ∈ ws, 0 ≤ x ∧ x < letters) :
    Ret Try.prog 75 [.int .i64 letters, .slice A n c] w (fun v w' => v = .bool true ∧ w' = w) := by
  have hll := hR.1
  refine Ret.of_cd Try.func75 rfl Try.ntmps75 rfl (post1 rfl) ?_
  refine Cd.seq ?_
  refine Cd.region ?_
  refine Ops.mv_bool rfl rfl rfl ?_
  refine Ops.nil ?_
  refine thenQ_n ?_
  refine Cd.seq ?_
  refine Cd.seq ?_
  refine Cd.region ?_
  refine Ops.mv_int rfl rfl rfl ?_
  refine Ops.nil ?_
  refine thenQ_n ?_
  refine Cd.block ?_
  refine Cd.loop (α := Nat) (fun i => [(0, .int .i64 letters), (1, .slice A n c), (5, .int .i64 (i : Int))]) (fun i w' => w' = w ∧ i ≤ n) (fun i => n - i) 0 ⟨rfl, rfl, rfl, trivial⟩ ⟨rfl, Nat.zero_le _⟩ ?_
  rintro i e w1 ⟨rfl, hi⟩
  refine Cd.seq ?_
  refine Cd.seq ?_
  refine Cd.region ?_
  refine Ops.mv_int rfl rfl rfl ?_
  refine Ops.mv_sl rfl rfl rfl ?_
  refine Ops.len rfl rfl ?_
  refine Ops.lss rfl rfl rfl ?_
  refine Ops.nil ?_
  refine thenQ_n ?_
  refine Cd.cond_p _ rfl (fun h1 => ?_) (fun h1 => ?_)
  · have hx := hw (gi ws (i : Int)) (by rw [gi_mem (by omega)]; exact List.getElem_mem _)
    refine Cd.skip ?_
    refine thenQ_n ?_
    refine Cd.seq ?_
    refine Cd.block ?_
    refine Cd.seq ?_
    refine Cd.region ?_
    refine Ops.mv_sl rfl rfl rfl ?_
    refine Ops.mv_int rfl rfl rfl ?_
    refine Ops.idx hR.2 rfl rfl rfl (by omega) (by omega) ?_
    refine Ops.ld_int hR rfl (by omega) rfl rfl ?_
    refine Ops.mv_int rfl rfl rfl ?_
    refine Ops.sub rfl rfl rfl (by omega) ?_
    refine Ops.call (l01In_c _ _ _ _) rfl rfl rfl ?_
    rintro _ w2 ⟨rfl, rfl⟩
    first | refine Ops.not_p rfl rfl ?_ | refine Ops.not rfl rfl ?_
    refine Ops.nil ?_
    refine thenQ_n ?_
    refine Cd.cond_pf rfl (fun h => h (by omega)) ?_
    refine Cd.skip ?_
    refine blockQ_n ?_
    refine thenQ_n ?_
    refine Cd.region ?_
    refine Ops.mv_int rfl rfl rfl ?_
    refine Ops.add rfl rfl rfl (by omega) ?_
    refine Ops.mv_int rfl rfl rfl ?_
    refine Ops.nil ?_
    refine thenQ_n ?_
    exact ⟨i + 1, by omega, ⟨rfl, rfl, rfl, trivial⟩, rfl, by omega⟩
  · refine Cd.exit ?_
    refine thenQ_x ?_
    refine thenQ_x ?_
    refine blockQ_x ?_
    refine thenQ_n ?_
    refine Cd.seq ?_
    refine Cd.region ?_
    refine Ops.mv_sl rfl rfl rfl ?_
    refine Ops.len rfl rfl ?_
    refine Ops.leq rfl rfl rfl ?_
    refine Ops.mv_bool rfl rfl rfl ?_
    refine Ops.nil ?_
    refine thenQ_n ?_
    refine Cd.ret ?_
    refine ret1_b rfl ?_
    exact ⟨by rw [decide_eq_true (by omega)], rfl⟩

/-- words that are words -/
def WordsOk (letters : Int) (least : Nat) (wss : List (List Int)) : Prop := wss.length ≤ 24 ∧ ∀ ws ∈ wss, least ≤ ws.length ∧ ws.length ≤ 64 ∧ ∀ x ∈ ws, 0 ≤ x ∧ x < letters
instance (letters : Int) (least : Nat) (wss : List (List Int)) : Decidable (WordsOk letters least wss) := by unfold WordsOk; exact inferInstance
theorem l11Words_c (letters : Int) (least : Nat) (A : Option Addr) (n c : Nat) (rs : List SlV) (wss : List (List Int)) (w : World) (hR : RowsI w A n rs wss) (hlt : 0 ≤ letters ∧ letters ≤ 1000) (hle : least ≤ 1) (hW : WordsOk letters least wss) :
    Ret Try.prog 61 [.int .i64 letters, .slice A n c, .int .i64 (least : Int)] w (fun v w' => v = .bool true ∧ w' = w) := by
  have hll := hR.len
  have hn := hW.1
  refine Ret.of_cd Try.func61 rfl Try.ntmps61 rfl (post1 rfl) ?_
  refine Cd.seq ?_
  refine Cd.region ?_
  refine Ops.mv_bool rfl rfl rfl ?_
  refine Ops.nil ?_
  refine thenQ_n ?_
  refine Cd.seq ?_
  refine Cd.seq ?_
  refine Cd.region ?_
  refine Ops.mv_int rfl rfl rfl ?_
  refine Ops.nil ?_
  refine thenQ_n ?_
  refine Cd.block ?_
  refine Cd.loop (α := Nat) (fun i => [(0, .int .i64 letters), (1, .slice A n c), (2, .int .i64 (least : Int)), (7, .int .i64 (i : Int))]) (fun i w' => w' = w ∧ i ≤ n) (fun i => n - i) 0 ⟨rfl, rfl, rfl, rfl, trivial⟩ ⟨rfl, Nat.zero_le _⟩ ?_
  rintro i e w1 ⟨rfl, hi⟩
  refine Cd.seq ?_
  refine Cd.seq ?_
  refine Cd.region ?_
  refine Ops.mv_int rfl rfl rfl ?_
  refine Ops.mv_sl rfl rfl rfl ?_
  refine Ops.len rfl rfl ?_
  refine Ops.lss rfl rfl rfl ?_
  refine Ops.nil ?_
  refine thenQ_n ?_
  refine Cd.cond_p _ rfl (fun h1 => ?_) (fun h1 => ?_)
  · have hrow := hR.at_ (i := (i : Int)) (by omega) (by omega)
    have hx := hW.2 (gl wss (i : Int)) (by rw [gl_mem (by omega)]; exact List.getElem_mem _)
    have hrl := hrow.1
    refine Cd.skip ?_
    refine thenQ_n ?_
    refine Cd.seq ?_
    refine Cd.block ?_
    refine Cd.seq ?_
    refine Cd.region ?_
    refine Ops.mv_int rfl rfl rfl ?_
    refine Ops.mv_sl rfl rfl rfl ?_
    refine Ops.mv_int rfl rfl rfl ?_
    refine Ops.idx hR.top.2 rfl rfl rfl (by omega) (by omega) ?_
    refine Ops.ld_sl hR.top rfl (by omega) rfl rfl ?_
    skip
    refine Ops.call (l11Word_c letters _ _ _ (gl wss (i : Int)) _ hrow hlt (by omega) hx.2.2) rfl rfl rfl ?_
    rintro _ w2 ⟨rfl, rfl⟩
    first | refine Ops.not_p rfl rfl ?_ | refine Ops.not rfl rfl ?_
    refine Ops.mv_bool rfl rfl rfl ?_
    refine Ops.split 21 rfl (fun h => absurd h (by decide)) (fun _ => ?_) --f
    refine Ops.rung rfl rfl rfl ?_
    refine Ops.mv_sl rfl rfl rfl ?_
    refine Ops.rung rfl rfl rfl ?_
    refine Ops.mv_int rfl rfl rfl ?_
    refine Ops.rung rfl rfl rfl ?_
    refine Ops.idx hR.top.2 rfl rfl rfl (by omega) (by omega) ?_
    refine Ops.rung rfl rfl rfl ?_
    refine Ops.ld_sl hR.top rfl (by omega) rfl rfl ?_
    refine Ops.rung rfl rfl rfl ?_
    refine Ops.len rfl rfl ?_
    refine Ops.rung rfl rfl rfl ?_
    refine Ops.mv_int rfl rfl rfl ?_
    refine Ops.rung rfl rfl rfl ?_
    refine Ops.lss rfl rfl rfl ?_
    refine Ops.pick_f rfl rfl rfl ?_
    refine Ops.nil ?_
    refine thenQ_n ?_
    refine Cd.cond_pf rfl (by omega) ?_
    refine Cd.skip ?_
    refine blockQ_n ?_
    refine thenQ_n ?_
    refine Cd.region ?_
    refine Ops.mv_int rfl rfl rfl ?_
    refine Ops.add rfl rfl rfl (by omega) ?_
    refine Ops.mv_int rfl rfl rfl ?_
    refine Ops.nil ?_
    refine thenQ_n ?_
    exact ⟨i + 1, by omega, ⟨rfl, rfl, rfl, rfl, trivial⟩, rfl, by omega⟩
  · refine Cd.exit ?_
    refine thenQ_x ?_
    refine thenQ_x ?_
    refine blockQ_x ?_
    refine thenQ_n ?_
    refine Cd.seq ?_
    refine Cd.region ?_
    refine Ops.mv_sl rfl rfl rfl ?_
    refine Ops.len rfl rfl ?_
    refine Ops.leq rfl rfl rfl ?_
    refine Ops.mv_bool rfl rfl rfl ?_
    refine Ops.nil ?_
    refine thenQ_n ?_
    refine Cd.ret ?_
    refine ret1_b rfl ?_
    exact ⟨by rw [decide_eq_true (by omega)], rfl⟩

theorem l11Is_c (gens : Nat) (Ar : Option Addr) (nr cr : Nat) (rsr : List SlV) (rel : List (List Int)) (w : World) (hR : RowsI w Ar nr rsr rel) (hg : 1 ≤ gens ∧ gens ≤ 5) (hW : WordsOk (gens : Int) 1 rel) :
    Ret Try.prog 60 [.agg #[.int .i64 (gens : Int), .slice Ar nr cr]] w (fun v w' => v = .bool true ∧ St w w' []) := by
  refine Ret.of_cd Try.func60 rfl Try.ntmps60 rfl (post1 rfl) ?_
  refine Cd.seq ?_
  refine Cd.region ?_
  refine Ops.box2 (St.refl w) rfl rfl ?_
  intro A1 w1 hS1
  refine Ops.mv_bool rfl rfl rfl ?_
  refine Ops.nil ?_
  refine thenQ_n ?_
  refine Cd.seq ?_
  refine Cd.region ?_
  refine Ops.fld (hS1.rd 0 rfl) rfl rfl rfl rfl inferInstance ?_
  refine Ops.ldf_i (hS1.rd 0 rfl) rfl rfl rfl rfl rfl ?_
  skip
  refine Ops.call (l01In_c _ _ _ _) rfl rfl rfl ?_
  rintro _ w2 ⟨rfl, rfl⟩
  refine Ops.mv_bool rfl rfl rfl ?_
  refine Ops.split_p 6 rfl (fun _ => ?_) (fun h => absurd (by omega) h) --t
  refine Ops.rung rfl rfl rfl ?_
  refine Ops.fld (hS1.rd 0 rfl) rfl rfl rfl rfl inferInstance ?_
  refine Ops.rung rfl rfl rfl ?_
  refine Ops.ldf_i (hS1.rd 0 rfl) rfl rfl rfl rfl rfl ?_
  refine Ops.rung rfl rfl rfl ?_
  refine Ops.fld (hS1.rd 0 rfl) rfl rfl rfl rfl inferInstance ?_
  refine Ops.rung rfl rfl rfl ?_
  refine Ops.ldf_s (hS1.rd 0 rfl) rfl rfl rfl rfl rfl ?_
  refine Ops.rung rfl rfl rfl ?_
  refine Ops.call (l11Words_c (gens : Int) 1 Ar nr cr rsr rel _ (hS1.oldRows hR) (by omega) (by decide) hW) rfl rfl rfl ?_
  rintro _ w2 ⟨rfl, rfl⟩
  refine Ops.pick_t rfl rfl rfl ?_
  refine Ops.mv_bool rfl rfl rfl ?_
  refine Ops.nil ?_
  refine thenQ_n ?_
  refine Cd.ret ?_
  refine ret1_b rfl ?_
  exact ⟨rfl, hS1.none⟩
theorem l11Code_c (gens : Nat) (Ar : Option Addr) (nr cr : Nat) (rsr : List SlV) (rel : List (List Int)) (w : World) (hR : RowsI w Ar nr rsr rel) (hg : 1 ≤ gens ∧ gens ≤ 5) (hW : WordsOk (gens : Int) 1 rel) :
    Ret Try.prog 36 [.agg #[.int .i64 (gens : Int), .slice Ar nr cr], .slice none 0 0] w (fun v w' => v = .int .i64 0 ∧ St w w' []) := by
  refine Ret.of_cd Try.func36 rfl Try.ntmps36 rfl (post1 rfl) ?_
  refine Cd.seq ?_
  refine Cd.region ?_
  refine Ops.box2 (St.refl w) rfl rfl ?_
  intro A1 w1 hS1
  refine Ops.mv_int rfl rfl rfl ?_
  refine Ops.nil ?_
  refine thenQ_n ?_
  refine Cd.seq ?_
  refine Cd.seq ?_
  refine Cd.region ?_
  refine Ops.ld_agg 1 (hS1.rd 0 rfl) rfl rfl rfl ?_
  skip
  refine Ops.call (l11Is_c gens Ar nr cr rsr rel _ (hS1.oldRows hR) hg hW) rfl rfl rfl ?_
  rintro _ w2 ⟨rfl, hst⟩
  have hS2 := hS1.later hst.below
  first | refine Ops.not_p rfl rfl ?_ | refine Ops.not rfl rfl ?_
  refine Ops.mv_bool rfl rfl rfl ?_
  refine Ops.split 8 rfl (fun h => absurd h (by decide)) (fun _ => ?_) --f
  refine Ops.rung rfl rfl rfl ?_
  refine Ops.fld (hS2.rd 0 rfl) rfl rfl rfl rfl inferInstance ?_
  refine Ops.rung rfl rfl rfl ?_
  refine Ops.ldf_i (hS2.rd 0 rfl) rfl rfl rfl rfl rfl ?_
  refine Ops.rung rfl rfl rfl ?_
  refine Ops.mv_sl rfl rfl rfl ?_
  refine Ops.rung rfl rfl rfl ?_
  refine Ops.call (l11Words_c (gens : Int) 0 none 0 0 [] [] _ (RowsI.nil _) (by omega) (by decide) ⟨by decide, fun x hx => (nomatch hx)⟩) rfl rfl rfl ?_
  rintro _ w3 ⟨rfl, rfl⟩
  refine Ops.rung rfl rfl rfl ?_
  first | refine Ops.not_p rfl rfl ?_ | refine Ops.not rfl rfl ?_
  refine Ops.pick_f rfl rfl rfl ?_
  refine Ops.nil ?_
  refine thenQ_n ?_
  refine Cd.cond_f rfl ?_
  refine Cd.skip ?_
  refine thenQ_n ?_
  refine Cd.seq ?_
  refine Cd.region ?_
  refine Ops.mv_int rfl rfl rfl ?_
  refine Ops.nil ?_
  refine thenQ_n ?_
  refine Cd.ret ?_
  refine ret1_i rfl ?_
  exact ⟨rfl, hS2.none⟩

/-- how far the open statement is -/
structure Wr4 (w0 : World) (A2 A4 : Option Addr) (gens : Nat) (Ar : Option Addr) (nr cr : Nat) (rel : List (List Int)) (S : Nat → Bool) (e : Env) (w : World) : Prop where
  f1 : e 1 = .slice none 0 0
  f2 : e 2 = .pointer A2
  f4 : e 4 = .pointer A4
  p0 : S 0 = true → e 16 = .pointer (ptrAt A2 0)
  p1 : S 1 = true → e 17 = .int .i64 (gens : Int)
  p2 : S 2 = true → e 18 = .pointer (ptrAt A2 1)
  p3 : S 3 = true → e 19 = .slice Ar nr cr
  mem : ∃ (B : Option Addr) (cB : Nat) (rsB : List SlV) (M bs : List Ck) (Ad : Option Addr), (S 4 = false → M = []) ∧ (S 4 = true → e 20 = .slice B nr cB ∧ rsB.length = nr ∧ M = mat 36 2 B nr cB rsB rel) ∧ (S 5 = true → e 21 = .agg #[.int .i64 (gens : Int), .slice B nr cB]) ∧ (S 6 = false → bs = []) ∧
    (S 6 = true → e 7 = .pointer Ad ∧ ((S 7 = false ∧ bs = [Bx 42 2 Ad [.int .i64 0, .slice none 0 0]]) ∨ (S 7 = true ∧ bs = [Bx 42 2 Ad [.int .i64 (gens : Int), .slice B nr cB]]))) ∧
    St w0 w (bs ++ (M ++ [Bx 42 2 A4 [.int .i64 0, .slice none 0 0], Bx 42 2 A2 [.int .i64 (gens : Int), .slice Ar nr cr]]))

theorem WithRelators_c (gens : Nat) (Ar : Option Addr) (nr cr : Nat) (rsr : List SlV) (rel : List (List Int)) (w : World) (hR : RowsI w Ar nr rsr rel) (hg : 1 ≤ gens ∧ gens ≤ 5) (hW : WordsOk (gens : Int) 1 rel) :
    Ret Try.prog 21 [.agg #[.int .i64 (gens : Int), .slice Ar nr cr], .slice none 0 0] w (fun v w' => ∃ B cB rsB, v = .tuple #[.agg #[.int .i64 (gens : Int), .slice B nr cB], .int .i64 0] ∧ rsB.length = nr ∧ St w w' (mat 36 2 B nr cB rsB rel)) := by
  have hrl := hR.len
  have h24 := hW.1
  refine Ret.of_cd Try.func21 rfl Try.ntmps21 rfl (postc2 rfl rfl) ?_
  refine Cd.seq ?_
  refine Cd.region ?_
  refine Ops.box2 (St.refl w) rfl rfl ?_
  intro A2 w1 hS1
  skip
  refine Ops.new2 hS1 rfl ?_
  intro A4 w2 hS2
  refine Ops.mv_int rfl rfl rfl ?_
  refine Ops.nil ?_
  refine thenQ_n ?_
  refine Cd.seq ?_
  refine Cd.seq ?_
  refine Cd.region ?_
  refine Ops.ld_agg 1 (hS2.rd 1 rfl) rfl rfl rfl ?_
  refine Ops.mv_sl rfl rfl rfl ?_
  refine Ops.call (l11Code_c gens Ar nr cr rsr rel _ (hS2.oldRows hR) hg hW) rfl rfl rfl ?_
  rintro _ w3 ⟨rfl, hst⟩
  have hS3 := hS2.later hst.below
  refine Ops.mv_int rfl rfl rfl ?_
  refine Ops.nil ?_
  refine thenQ_n ?_
  refine Cd.seq ?_
  refine Cd.region ?_
  refine Ops.mv_int rfl rfl rfl ?_
  refine Ops.neq rfl rfl rfl ?_
  refine Ops.nil ?_
  refine thenQ_n ?_
  refine Cd.cond_pf rfl (fun h => h rfl) ?_
  refine Cd.skip ?_
  refine thenQ_n ?_
  refine Cd.seq ?_
  refine Cd.drawS (by kernel_rfl) (by kernel_rfl) (fun S e1 w1 => Wr4 w A2 A4 gens Ar nr cr rel S e1 w1) (fun w4 hb => ⟨rfl, rfl, rfl, fun h => (nomatch h), fun h => (nomatch h), fun h => (nomatch h), fun h => (nomatch h), none, 0, [], [], [], none, fun _ => rfl, fun h => (nomatch h), fun h => (nomatch h), fun _ => rfl, fun h => (nomatch h), hS3.later hb⟩) ?_ ?_
  · intro S k o e1 w4 hk hSk hd hcl hI
    obtain ⟨f1, f2, f4, p0, p1, p2, p3, B, cB, rsB, M, bs, Ad, m0, m1, m2, m3, m4, hT⟩ := hI
    have hRR : RowsI w4 Ar nr rsr rel := hT.oldRows hR
    have hB2 : Rd w4 A2 2 (fun j => [Value.int .i64 (gens : Int), .slice Ar nr cr].getD j undef) := (((hT.sub (List.sublist_append_right _ _)).sub (List.sublist_append_right _ _))).rd 1 rfl
    match k, hk, hSk with
    | 0, hk, hSk =>
      obtain rfl := Option.some.inj hk
      refine Ops.fld hB2 (by exact f2) rfl rfl rfl inferInstance ?_
      refine Ops.nil ?_
      exact ⟨f1, f2, f4, fun _ => rfl, p1, p2, p3, B, cB, rsB, M, bs, Ad, m0, m1, m2, m3, m4, hT⟩
    | 1, hk, hSk =>
      obtain rfl := Option.some.inj hk
      refine Ops.ldf_i hB2 (by exact p0 (deps_of hd 0 rfl)) rfl rfl rfl rfl ?_
      refine Ops.nil ?_
      exact ⟨f1, f2, f4, p0, fun _ => rfl, p2, p3, B, cB, rsB, M, bs, Ad, m0, m1, m2, m3, m4, hT⟩
    | 2, hk, hSk =>
      obtain rfl := Option.some.inj hk
      refine Ops.fld hB2 (by exact f2) rfl rfl rfl inferInstance ?_
      refine Ops.nil ?_
      exact ⟨f1, f2, f4, p0, p1, fun _ => rfl, p3, B, cB, rsB, M, bs, Ad, m0, m1, m2, m3, m4, hT⟩
    | 3, hk, hSk =>
      obtain rfl := Option.some.inj hk
      refine Ops.ldf_s hB2 (by exact p2 (deps_of hd 2 rfl)) rfl rfl rfl rfl ?_
      refine Ops.nil ?_
      exact ⟨f1, f2, f4, p0, p1, p2, fun _ => rfl, B, cB, rsB, M, bs, Ad, m0, m1, m2, m3, m4, hT⟩
    | 4, hk, hSk =>
      obtain rfl := Option.some.inj hk
      have hM := m0 hSk
      subst hM
      have n5 : S 5 = false := by
        cases h : S 5 with
        | false => rfl
        | true => rw [← hSk]; exact (deps_of (hcl 5 _ h rfl) 4 rfl).symm
      have n7 : S 7 = false := by
        cases h : S 7 with
        | false => rfl
        | true => rw [← n5]; exact (deps_of (hcl 7 _ h rfl) 5 rfl).symm
      refine Ops.call (l01Own2_c Ar nr cr rsr rel _ hRR (by omega) (fun j hj => by
        have hrow := hR.at_ (i := (j : Int)) (by omega) (by omega)
        have h1 := (hW.2 (gl rel (j : Int)) (by rw [gl_mem (by omega)]; exact List.getElem_mem _)).2.1
        have h2 := hrow.1
        have e : rg rsr (j : Int) = rsr.getD j slNil := by simp [rg]
        rw [← e]
        omega)) rfl (by exact congrArg (fun v => [v]) (p3 (deps_of hd 3 rfl))) rfl ?_
      rintro _ w5 ⟨B', c', rs', rfl, hrl', hst5⟩
      refine Ops.nil ?_
      refine ⟨f1, f2, f4, p0, p1, p2, p3, B', c', rs', _, bs, Ad, fun h => (nomatch (show true = false from h)), fun _ => ⟨rfl, hrl', rfl⟩, fun h => (nomatch n5.symm.trans h), m3, fun h => ?_, ?_⟩
      · obtain ⟨h7, h8⟩ := m4 h
        refine ⟨h7, .inl ⟨n7, ?_⟩⟩
        rcases h8 with h8 | h8
        · exact h8.2
        · exact (nomatch n7.symm.trans h8.1)
      · have h9 := hT.call hst5
        have h9 : St w w5 (mat 36 2 B' nr c' rs' rel ++ (bs ++ [Bx 42 2 A4 [.int .i64 0, .slice none 0 0], Bx 42 2 A2 [.int .i64 (gens : Int), .slice Ar nr cr]])) := h9
        exact h9.toBack
    | 5, hk, hSk =>
      obtain rfl := Option.some.inj hk
      obtain ⟨h20, hrB, hM⟩ := m1 (deps_of hd 4 rfl)
      refine Ops.bld2c (by exact inferInstance) (by exact inferInstance) rfl rfl (by exact p1 (deps_of hd 1 rfl)) (by exact h20) rfl rfl rfl ?_
      refine Ops.nil ?_
      exact ⟨f1, f2, f4, p0, p1, p2, p3, B, cB, rsB, M, bs, Ad, m0, m1, fun _ => rfl, m3, m4, hT⟩
    | 6, hk, hSk =>
      obtain rfl := Option.some.inj hk
      have hbs := m3 hSk
      subst hbs
      have n7 : S 7 = false := by
        cases h : S 7 with
        | false => rfl
        | true => rw [← hSk]; exact (deps_of (hcl 7 _ h rfl) 6 rfl).symm
      refine Ops.new2 hT rfl ?_
      intro Ae w5 hT5
      refine Ops.nil ?_
      exact ⟨f1, f2, f4, p0, p1, p2, p3, B, cB, rsB, M, [Bx 42 2 Ae [.int .i64 0, .slice none 0 0]], Ae, m0, m1, m2, fun h => (nomatch (show true = false from h)), fun _ => ⟨rfl, .inl ⟨n7, rfl⟩⟩, hT5⟩
    | 7, hk, hSk =>
      obtain rfl := Option.some.inj hk
      have hs6 := deps_of hd 6 rfl
      obtain ⟨h7, h8⟩ := m4 hs6
      rcases h8 with ⟨_, rfl⟩ | h8
      · refine Ops.st_agg 2 0 hT rfl (by exact h7) (by exact m2 (deps_of hd 5 rfl)) rfl rfl rfl rfl ?_
        intro w5 hT5
        refine Ops.nil ?_
        exact ⟨f1, f2, f4, p0, p1, p2, p3, B, cB, rsB, M, [Bx 42 2 Ad [.int .i64 (gens : Int), .slice B nr cB]], Ad, m0, m1, m2, fun h => (nomatch hs6.symm.trans h), fun _ => ⟨h7, .inr ⟨rfl, rfl⟩⟩, hT5⟩
      · exact (nomatch hSk.symm.trans h8.1)
    | q + 8, hk, _ => exact (nomatch hk)
  · intro S e1 w4 hall hI
    obtain ⟨f1, f2, f4, p0, p1, p2, p3, B, cB, rsB, M, bs, Ad, m0, m1, m2, m3, m4, hT⟩ := hI
    obtain ⟨h7, h8⟩ := m4 (hall 6 (by decide))
    rcases h8 with h8 | ⟨_, rfl⟩
    · exact (nomatch (hall 7 (by decide)).symm.trans h8.1)
    obtain ⟨_, hrB, hM⟩ := m1 (hall 4 (by decide))
    subst hM
    refine thenQ_ext (F := [(1, .slice none 0 0), (2, .pointer A2), (4, .pointer A4), (7, .pointer Ad)]) ⟨f1, f2, f4, h7, trivial⟩ ?_
    have hT := (hT : St w w4 ([Bx 42 2 Ad [.int .i64 (gens : Int), .slice B nr cB]] ++ (mat 36 2 B nr cB rsB rel ++ [Bx 42 2 A4 [.int .i64 0, .slice none 0 0], Bx 42 2 A2 [.int .i64 (gens : Int), .slice Ar nr cr]])))
    have hT2 : St w w4 ([Bx 42 2 Ad [.int .i64 (gens : Int), .slice B nr cB], Bx 42 2 A4 [.int .i64 0, .slice none 0 0], Bx 42 2 A2 [.int .i64 (gens : Int), .slice Ar nr cr]] ++ mat 36 2 B nr cB rsB rel) := hT.perm (List.Perm.cons _ (List.perm_append_comm (l₂ := [_, _])))
    refine thenQ_n ?_
    refine Cd.seq ?_
    refine Cd.seq ?_
    refine Cd.region ?_
    refine Ops.mv_int rfl rfl rfl ?_
    refine Ops.nil ?_
    refine thenQ_n ?_
    refine Cd.block ?_
    refine Cd.loop (α := Unit) (fun _ => [(1, .slice none 0 0), (4, .pointer A4), (7, .pointer Ad), (8, .int .i64 0)]) (fun _ w' => w' = w4) (fun _ => 0) () ⟨rfl, rfl, rfl, rfl, trivial⟩ rfl ?_
    rintro ⟨⟩ e w5 rfl
    refine Cd.seq ?_
    refine Cd.seq ?_
    refine Cd.region ?_
    refine Ops.mv_int rfl rfl rfl ?_
    refine Ops.mv_sl rfl rfl rfl ?_
    refine Ops.len rfl rfl ?_
    refine Ops.lss rfl rfl rfl ?_
    refine Ops.nil ?_
    refine thenQ_n ?_
    refine Cd.cond_pf rfl (by decide) ?_
    refine Cd.exit ?_
    refine thenQ_x ?_
    refine thenQ_x ?_
    refine blockQ_x ?_
    refine thenQ_n ?_
    refine Cd.seq ?_
    refine Cd.seq ?_
    refine Cd.region ?_
    refine Ops.fld (hT2.rd 0 rfl) rfl rfl rfl rfl inferInstance ?_
    refine Ops.ldf_s (hT2.rd 0 rfl) rfl rfl rfl rfl rfl ?_
    refine Ops.len rfl rfl ?_
    refine Ops.gtr rfl rfl rfl ?_
    refine Ops.nil ?_
    refine thenQ_n ?_
    refine Cd.cond_pf rfl (by omega) ?_
    refine Cd.skip ?_
    refine thenQ_n ?_
    refine Cd.seq ?_
    refine Cd.region ?_
    refine Ops.ld_agg 1 (hT2.rd 0 rfl) rfl rfl rfl ?_
    skip
    refine Ops.st_agg 2 1 hT2 rfl rfl rfl rfl rfl rfl rfl ?_
    intro w6 hT6
    refine Ops.mv_int rfl rfl rfl ?_
    refine Ops.nil ?_
    refine thenQ_n ?_
    refine Cd.ret ?_
    skip
    refine retc2_r rfl (hT6.rd 1 rfl) rfl ?_
    exact ⟨B, cB, rsB, rfl, hrB, ((hT6.sub ((List.Sublist.refl _).cons _)).sub ((List.Sublist.refl _).cons _)).sub ((List.Sublist.refl _).cons _)⟩
end Go.Proofs.Ytjpkmpihmilgoaa.Vc
/-
  The program's coset enumeration, walked: the table's code, and the tests of presentations. Conditions: as each states them.
-/
namespace Go.Proofs.Ytjpkmpihmilgoaa.Vc
open Go.RowKit

theorem cosetTable_c (gens : Nat) (Ar : Option Addr) (nr cr : Nat) (rsr : List SlV) (rel : List (List Int)) (tb : List (List Int)) (w : World) (hR : RowsI w Ar nr rsr rel) (hrel : ∀ x ∈ rel, x.length ≤ 1000000) (hnr : nr ≤ 1000000) (hgens : gens ≤ 100) (hp : tableI gens rel = some tb) (hT0 : 0 < tb.length) (hT4 : (gl tb 0).length ≤ 400) :
    Ret Try.prog 30 [.agg #[.int .i64 (gens : Int), .slice Ar nr cr], .slice none 0 0] w (fun v w' => ∃ A c rs, v = .tuple #[.slice A tb.length c, .int .i64 0] ∧ rs.length = tb.length ∧ St w w' (mat 36 2 A tb.length c rs tb)) := by
  refine Ret.of_cd Try.func30 rfl Try.ntmps30 rfl (post2 rfl) ?_
  refine Cd.seq ?_
  refine Cd.region ?_
  refine Ops.box2 (St.refl w) rfl rfl ?_
  intro A2 w1 hS1
  refine Ops.mv_sl rfl rfl rfl ?_
  refine Ops.mv_int rfl rfl rfl ?_
  refine Ops.nil ?_
  refine thenQ_n ?_
  refine Cd.seq ?_
  refine Cd.region ?_
  refine Ops.ld_agg 1 (hS1.rd 0 rfl) rfl rfl rfl ?_
  refine Ops.mv_sl rfl rfl rfl ?_
  refine Ops.call (enumerated_c gens Ar nr cr rsr rel tb _ (hS1.oldRows hR) hrel hnr hgens hp) rfl rfl rfl ?_
  rintro _ w2 ⟨A, c, rs, rfl, hrl, hst⟩
  have hS2 := hS1.call hst
  have hRT : RowsI w2 A tb.length rs tb := St.rowsI hS2 rfl
  have hr0 := hRT.at_ (i := 0) (Int.le_refl _) (by omega)
  have hr1 := hr0.1
  refine Ops.mv_tup rfl rfl rfl ?_
  refine Ops.extract rfl rfl rfl ?_
  refine Ops.extract rfl rfl rfl ?_
  refine Ops.mv_sl rfl rfl rfl ?_
  refine Ops.mv_bool rfl rfl rfl ?_
  refine Ops.nil ?_
  refine thenQ_n ?_
  refine Cd.seq ?_
  refine Cd.seq ?_
  refine Cd.region ?_
  refine Ops.mv_bool rfl rfl rfl ?_
  first | refine Ops.not_p rfl rfl ?_ | refine Ops.not rfl rfl ?_
  refine Ops.mv_bool rfl rfl rfl ?_
  refine Ops.split 16 rfl (fun h => absurd h (by decide)) (fun _ => ?_) --f
  refine Ops.rung rfl rfl rfl ?_
  refine Ops.mv_sl rfl rfl rfl ?_
  refine Ops.rung rfl rfl rfl ?_
  refine Ops.idx hRT.top.2 rfl rfl rfl (by omega) (by omega) ?_
  refine Ops.rung rfl rfl rfl ?_
  refine Ops.ld_sl (i := 0) hRT.top rfl (by omega) rfl rfl ?_
  refine Ops.rung rfl rfl rfl ?_
  refine Ops.len rfl rfl ?_
  refine Ops.rung rfl rfl rfl ?_
  refine Ops.gtr rfl rfl rfl ?_
  refine Ops.pick_f rfl rfl rfl ?_
  refine Ops.nil ?_
  refine thenQ_n ?_
  refine Cd.cond_pf rfl (by omega) ?_
  refine Cd.skip ?_
  refine thenQ_n ?_
  refine Cd.seq ?_
  refine Cd.region ?_
  refine Ops.mv_sl rfl rfl rfl ?_
  refine Ops.mv_sl rfl rfl rfl ?_
  refine Ops.mv_int rfl rfl rfl ?_
  refine Ops.nil ?_
  refine thenQ_n ?_
  refine Cd.ret ?_
  refine ret2_si rfl rfl ?_
  exact ⟨A, c, rs, rfl, hrl, hS2.sub (List.sublist_append_left _ _)⟩

/-! no element is found -/
theorem indexR_none (A : Option Addr) (n c : Nat) (rs : List SlV) (G : FuncId) [hF : Fnc Try.prog G] (cv : List Value) (w : World) (hR : RdR w A n rs) (hn : n ≤ 1000000)
    (hcall : ∀ (w' : World) (i : Nat), Below w.heap.size w w' → i < n → Ret Try.prog G (.slice (rg rs (i : Int)).a (rg rs (i : Int)).n (rg rs (i : Int)).c :: cv) w' (fun v w'' => v = .bool false ∧ St w' w'' [])) :
    Ret Try.prog 67 [.slice A n c, .func (.func G) #[] cv.toArray] w (fun v w' => v = .int .i64 (-1) ∧ St w w' []) := by
  have hxl := hR.1
  refine Ret.of_cd Try.func67 rfl Try.ntmps67 rfl (post1 rfl) ?_
  refine Cd.seq ?_
  refine Cd.region ?_
  refine Ops.mv_int rfl rfl rfl ?_
  refine Ops.nil ?_
  refine thenQ_n ?_
  refine Cd.seq ?_
  refine Cd.seq ?_
  refine Cd.region ?_
  refine Ops.mv_sl rfl rfl rfl ?_
  refine Ops.len rfl rfl ?_
  refine Ops.mv_int rfl rfl rfl ?_
  refine Ops.nil ?_
  refine thenQ_n ?_
  refine Cd.block ?_
  refine Cd.loop (α := Nat) (fun k => [(0, .slice A n c), (1, .func (.func G) #[] cv.toArray), (7, .int .i64 (n : Int)), (8, .int .i64 (k : Int))]) (fun k w' => St w w' [] ∧ k ≤ n) (fun k => n - k) 0 ⟨rfl, rfl, rfl, rfl, trivial⟩ ⟨St.refl w, Nat.zero_le _⟩ ?_
  rintro k e w1 ⟨hS, hk⟩
  refine Cd.seq ?_
  refine Cd.region ?_
  refine Ops.lss rfl rfl rfl ?_
  refine Ops.nil ?_
  refine thenQ_n ?_
  refine Cd.seq ?_
  refine Cd.cond_p _ rfl (fun h3 => ?_) (fun h3 => ?_)
  · have hR1 := hS.oldR hR
    refine Cd.skip ?_
    refine thenQ_n ?_
    refine Cd.seq ?_
    refine Cd.block ?_
    refine Cd.seq ?_
    refine Cd.region ?_
    refine Ops.mv_int rfl rfl rfl ?_
    refine Ops.mv_int rfl rfl rfl ?_
    refine Ops.nil ?_
    refine thenQ_n ?_
    refine Cd.seq ?_
    refine Cd.region ?_
    refine Ops.mv_fn rfl rfl rfl ?_
    refine Ops.mv_sl rfl rfl rfl ?_
    refine Ops.mv_int rfl rfl rfl ?_
    refine Ops.idx hR1.2 rfl rfl rfl (by omega) (by omega) ?_
    refine Ops.ld_sl hR1 rfl (by omega) rfl rfl ?_
    refine Ops.call (hcall w1 k hS.below (by omega)) rfl rfl rfl ?_
    rintro _ w2 ⟨rfl, hst⟩
    refine Ops.nil ?_
    refine thenQ_n ?_
    refine Cd.cond_f rfl ?_
    refine Cd.skip ?_
    refine blockQ_n ?_
    refine thenQ_n ?_
    refine Cd.region ?_
    refine Ops.add rfl rfl rfl (by omega) ?_
    refine Ops.mv_int rfl rfl rfl ?_
    refine Ops.nil ?_
    refine thenQ_n ?_
    exact ⟨k + 1, by show n - (k + 1) < n - k; omega, ⟨rfl, rfl, rfl, rfl, trivial⟩, hS.later hst.below, by omega⟩
  · refine Cd.exit ?_
    refine thenQ_x ?_
    refine thenQ_x ?_
    refine blockQ_x ?_
    refine thenQ_n ?_
    refine Cd.seq ?_
    refine Cd.region ?_
    refine Ops.mv_int rfl rfl rfl ?_
    refine Ops.nil ?_
    refine thenQ_n ?_
    refine Cd.ret ?_
    refine ret1_i rfl ?_
    exact ⟨rfl, hS⟩
theorem containsR_none (A : Option Addr) (n c : Nat) (rs : List SlV) (G : FuncId) [hF : Fnc Try.prog G] (cv : List Value) (w : World) (hR : RdR w A n rs) (hn : n ≤ 1000000)
    (hcall : ∀ (w' : World) (i : Nat), Below w.heap.size w w' → i < n → Ret Try.prog G (.slice (rg rs (i : Int)).a (rg rs (i : Int)).n (rg rs (i : Int)).c :: cv) w' (fun v w'' => v = .bool false ∧ St w' w'' [])) :
    Ret Try.prog 50 [.slice A n c, .func (.func G) #[] cv.toArray] w (fun v w' => v = .bool false ∧ St w w' []) := by
  refine Ret.of_cd Try.func50 rfl Try.ntmps50 rfl (post1 rfl) ?_
  refine Cd.seq ?_
  refine Cd.region ?_
  refine Ops.mv_bool rfl rfl rfl ?_
  refine Ops.nil ?_
  refine thenQ_n ?_
  refine Cd.seq ?_
  refine Cd.region ?_
  refine Ops.mv_sl rfl rfl rfl ?_
  refine Ops.mv_fn rfl rfl rfl ?_
  refine Ops.call (indexR_none A n c rs G cv _ hR hn hcall) rfl rfl rfl ?_
  rintro _ w2 ⟨rfl, hst⟩
  refine Ops.geq rfl rfl rfl ?_
  refine Ops.mv_bool rfl rfl rfl ?_
  refine Ops.nil ?_
  refine thenQ_n ?_
  refine Cd.ret ?_
  refine ret1_b rfl ?_
  exact ⟨rfl, hst⟩
theorem indexI_none (A : Option Addr) (n c : Nat) (xs : List Int) (G : FuncId) [hF : Fnc Try.prog G] (cv : List Value) (w : World) (hR : RdI w A n xs) (hn : n ≤ 1000000)
    (hcall : ∀ (w' : World) (x : Int), Below w.heap.size w w' → x ∈ xs → Ret Try.prog G (.int .i64 x :: cv) w' (fun v w'' => v = .bool false ∧ St w' w'' [])) :
    Ret Try.prog 64 [.slice A n c, .func (.func G) #[] cv.toArray] w (fun v w' => v = .int .i64 (-1) ∧ St w w' []) := by
  have hxl := hR.1
  refine Ret.of_cd Try.func64 rfl Try.ntmps64 rfl (post1 rfl) ?_
  refine Cd.seq ?_
  refine Cd.region ?_
  refine Ops.mv_int rfl rfl rfl ?_
  refine Ops.nil ?_
  refine thenQ_n ?_
  refine Cd.seq ?_
  refine Cd.seq ?_
  refine Cd.region ?_
  refine Ops.mv_sl rfl rfl rfl ?_
  refine Ops.len rfl rfl ?_
  refine Ops.mv_int rfl rfl rfl ?_
  refine Ops.nil ?_
  refine thenQ_n ?_
  refine Cd.block ?_
  refine Cd.loop (α := Nat) (fun k => [(0, .slice A n c), (1, .func (.func G) #[] cv.toArray), (7, .int .i64 (n : Int)), (8, .int .i64 (k : Int))]) (fun k w' => St w w' [] ∧ k ≤ n) (fun k => n - k) 0 ⟨rfl, rfl, rfl, rfl, trivial⟩ ⟨St.refl w, Nat.zero_le _⟩ ?_
  rintro k e w1 ⟨hS, hk⟩
  refine Cd.seq ?_
  refine Cd.region ?_
  refine Ops.lss rfl rfl rfl ?_
  refine Ops.nil ?_
  refine thenQ_n ?_
  refine Cd.seq ?_
  refine Cd.cond_p _ rfl (fun h3 => ?_) (fun h3 => ?_)
  · have hR1 := hS.oldI hR
    refine Cd.skip ?_
    refine thenQ_n ?_
    refine Cd.seq ?_
    refine Cd.block ?_
    refine Cd.seq ?_
    refine Cd.region ?_
    refine Ops.mv_int rfl rfl rfl ?_
    refine Ops.mv_int rfl rfl rfl ?_
    refine Ops.nil ?_
    refine thenQ_n ?_
    refine Cd.seq ?_
    refine Cd.region ?_
    refine Ops.mv_fn rfl rfl rfl ?_
    refine Ops.mv_sl rfl rfl rfl ?_
    refine Ops.mv_int rfl rfl rfl ?_
    refine Ops.idx hR1.2 rfl rfl rfl (by omega) (by omega) ?_
    refine Ops.ld_int hR1 rfl (by omega) rfl rfl ?_
    refine Ops.call (hcall w1 _ hS.below (gi_in (by omega))) rfl rfl rfl ?_
    rintro _ w2 ⟨rfl, hst⟩
    refine Ops.nil ?_
    refine thenQ_n ?_
    refine Cd.cond_f rfl ?_
    refine Cd.skip ?_
    refine blockQ_n ?_
    refine thenQ_n ?_
    refine Cd.region ?_
    refine Ops.add rfl rfl rfl (by omega) ?_
    refine Ops.mv_int rfl rfl rfl ?_
    refine Ops.nil ?_
    refine thenQ_n ?_
    exact ⟨k + 1, by show n - (k + 1) < n - k; omega, ⟨rfl, rfl, rfl, rfl, trivial⟩, hS.later hst.below, by omega⟩
  · refine Cd.exit ?_
    refine thenQ_x ?_
    refine thenQ_x ?_
    refine blockQ_x ?_
    refine thenQ_n ?_
    refine Cd.seq ?_
    refine Cd.region ?_
    refine Ops.mv_int rfl rfl rfl ?_
    refine Ops.nil ?_
    refine thenQ_n ?_
    refine Cd.ret ?_
    refine ret1_i rfl ?_
    exact ⟨rfl, hS⟩
theorem containsI_none (A : Option Addr) (n c : Nat) (xs : List Int) (G : FuncId) [hF : Fnc Try.prog G] (cv : List Value) (w : World) (hR : RdI w A n xs) (hn : n ≤ 1000000)
    (hcall : ∀ (w' : World) (x : Int), Below w.heap.size w w' → x ∈ xs → Ret Try.prog G (.int .i64 x :: cv) w' (fun v w'' => v = .bool false ∧ St w' w'' [])) :
    Ret Try.prog 44 [.slice A n c, .func (.func G) #[] cv.toArray] w (fun v w' => v = .bool false ∧ St w w' []) := by
  refine Ret.of_cd Try.func44 rfl Try.ntmps44 rfl (post1 rfl) ?_
  refine Cd.seq ?_
  refine Cd.region ?_
  refine Ops.mv_bool rfl rfl rfl ?_
  refine Ops.nil ?_
  refine thenQ_n ?_
  refine Cd.seq ?_
  refine Cd.region ?_
  refine Ops.mv_sl rfl rfl rfl ?_
  refine Ops.mv_fn rfl rfl rfl ?_
  refine Ops.call (indexI_none A n c xs G cv _ hR hn hcall) rfl rfl rfl ?_
  rintro _ w2 ⟨rfl, hst⟩
  refine Ops.geq rfl rfl rfl ?_
  refine Ops.mv_bool rfl rfl rfl ?_
  refine Ops.nil ?_
  refine thenQ_n ?_
  refine Cd.ret ?_
  refine ret1_b rfl ?_
  exact ⟨rfl, hst⟩

theorem isLetters_c (A : Option Addr) (n c : Nat) (ws : List Int) (g : Int) (w : World) (hR : RdI w A n ws) (hn : n ≤ 64) (hg : 0 ≤ g ∧ g ≤ 1000) (hw : ∀ x ∈ ws, 0 ≤ x ∧ x < g) :
    Ret Try.prog 52 [.slice A n c, .int .i64 g] w (fun v w' => v = .bool true ∧ St w w' []) := by
  refine Ret.of_cd Try.func52 rfl Try.ntmps52 rfl (post1 rfl) ?_
  refine Cd.seq ?_
  refine Cd.region ?_
  refine Ops.mv_bool rfl rfl rfl ?_
  refine Ops.nil ?_
  refine thenQ_n ?_
  refine Cd.seq ?_
  refine Cd.region ?_
  refine Ops.mv_sl rfl rfl rfl ?_
  refine Ops.len rfl rfl ?_
  refine Ops.leq rfl rfl rfl ?_
  refine Ops.mv_bool rfl rfl rfl ?_
  refine Ops.split_p 8 rfl (fun _ => ?_) (fun h => absurd (by omega) h) --t
  refine Ops.rung rfl rfl rfl ?_
  refine Ops.mv_sl rfl rfl rfl ?_
  refine Ops.rung rfl rfl rfl ?_
  refine Ops.mv_int rfl rfl rfl ?_
  refine Ops.rung rfl rfl rfl ?_
  refine Ops.sub rfl rfl rfl (by omega) ?_
  refine Ops.rung rfl rfl rfl ?_
  refine Ops.call (areWithin_c A n c ws 0 (g - 1) _ hR (by omega)) rfl rfl rfl ?_
  rintro _ w2 ⟨rfl, hst⟩
  refine Ops.pick_t rfl rfl rfl ?_
  refine Ops.mv_bool rfl rfl rfl ?_
  refine Ops.nil ?_
  refine thenQ_n ?_
  refine Cd.ret ?_
  refine ret1_b rfl ?_
  exact ⟨congrArg Value.bool (decide_eq_true (fun x hx => by have := hw x hx; omega)), hst⟩
theorem isDiagram1_c (x : Int) (w : World) (hx : x = 0 ∨ (2 ≤ x ∧ x ≤ 32)) : Ret Try.prog 45 [.int .i64 x] w (fun v w' => v = .bool false ∧ St w w' []) := by
  refine Ret.of_cd Try.func45 rfl Try.ntmps45 rfl (post1 rfl) ?_
  refine Cd.seq ?_
  refine Cd.region ?_
  refine Ops.mv_bool rfl rfl rfl ?_
  refine Ops.nil ?_
  refine thenQ_n ?_
  refine Cd.seq ?_
  refine Cd.region ?_
  refine Ops.mv_int rfl rfl rfl ?_
  refine Ops.neq rfl rfl rfl ?_
  refine Ops.mv_bool rfl rfl rfl ?_
  refine Ops.split_p 5 rfl (fun h => ?_) (fun h => ?_)
  · refine Ops.rung rfl rfl rfl ?_
    refine Ops.mv_int rfl rfl rfl ?_
    refine Ops.rung rfl rfl rfl ?_
    refine Ops.call (within_c x 2 32 _) rfl rfl rfl ?_
    rintro _ w2 ⟨rfl, rfl⟩
    refine Ops.rung rfl rfl rfl ?_
    first | refine Ops.not_p rfl rfl ?_ | refine Ops.not rfl rfl ?_
    refine Ops.pick_t rfl rfl rfl ?_
    refine Ops.mv_bool rfl rfl rfl ?_
    refine Ops.nil ?_
    refine thenQ_n ?_
    refine Cd.ret ?_
    refine ret1_b rfl ?_
    exact ⟨congrArg Value.bool (decide_eq_false (by omega)), St.refl _⟩
  · refine Ops.skipg rfl rfl rfl rfl rfl ?_
    refine Ops.skipg rfl rfl rfl rfl rfl ?_
    refine Ops.skipg rfl rfl rfl rfl rfl ?_
    refine Ops.pick_f rfl rfl rfl ?_
    refine Ops.mv_bool rfl rfl rfl ?_
    refine Ops.nil ?_
    refine thenQ_n ?_
    refine Cd.ret ?_
    refine ret1_b rfl ?_
    exact ⟨rfl, St.refl _⟩
theorem isDiagram_c (A : Option Addr) (n c : Nat) (labels : List Int) (w : World) (hR : RdI w A n labels) (hn : n < 5) (hl : ∀ x ∈ labels, x = 0 ∨ (2 ≤ x ∧ x ≤ 32)) :
    Ret Try.prog 26 [.slice A n c] w (fun v w' => v = .bool true ∧ St w w' []) := by
  refine Ret.of_cd Try.func26 rfl Try.ntmps26 rfl (post1 rfl) ?_
  refine Cd.seq ?_
  refine Cd.region ?_
  refine Ops.mv_bool rfl rfl rfl ?_
  refine Ops.nil ?_
  refine thenQ_n ?_
  refine Cd.seq ?_
  refine Cd.region ?_
  refine Ops.mv_sl rfl rfl rfl ?_
  refine Ops.len rfl rfl ?_
  refine Ops.lss rfl rfl rfl ?_
  refine Ops.mv_bool rfl rfl rfl ?_
  refine Ops.split_p 6 rfl (fun _ => ?_) (fun h => absurd (by omega) h) --t
  refine Ops.rung rfl rfl rfl ?_
  refine Ops.mv_sl rfl rfl rfl ?_
  refine Ops.rung rfl rfl rfl ?_
  refine Ops.call (containsI_none A n c labels 45 [] _ hR (by omega) (fun w' x _ hx => isDiagram1_c x w' (hl x hx))) rfl rfl rfl ?_
  rintro _ w2 ⟨rfl, hst⟩
  refine Ops.rung rfl rfl rfl ?_
  first | refine Ops.not_p rfl rfl ?_ | refine Ops.not rfl rfl ?_
  refine Ops.pick_t rfl rfl rfl ?_
  refine Ops.mv_bool rfl rfl rfl ?_
  refine Ops.nil ?_
  refine thenQ_n ?_
  refine Cd.ret ?_
  refine ret1_b rfl ?_
  exact ⟨rfl, hst⟩
theorem isPresentation1_c (Pa : Option Addr) (A : Option Addr) (n c : Nat) (ws : List Int) (gens nr cr : Nat) (Ar : Option Addr) (w : World) (hP : Rd w Pa 2 (fun j => ([.int .i64 (gens : Int), .slice Ar nr cr] : List Value).getD j undef)) (hR : RdI w A n ws) (hn : 1 ≤ n ∧ n ≤ 64) (hg : gens ≤ 5) (hw : ∀ x ∈ ws, 0 ≤ x ∧ x < (gens : Int)) :
    Ret Try.prog 66 [.slice A n c, .pointer Pa] w (fun v w' => v = .bool false ∧ St w w' []) := by
  refine Ret.of_cd Try.func66 rfl Try.ntmps66 rfl (post1 rfl) ?_
  refine Cd.seq ?_
  refine Cd.region ?_
  refine Ops.mv_bool rfl rfl rfl ?_
  refine Ops.nil ?_
  refine thenQ_n ?_
  refine Cd.seq ?_
  refine Cd.region ?_
  refine Ops.mv_sl rfl rfl rfl ?_
  refine Ops.len rfl rfl ?_
  refine Ops.eql rfl rfl rfl ?_
  refine Ops.mv_bool rfl rfl rfl ?_
  refine Ops.split_p 7 rfl (fun h => absurd h (by omega)) (fun _ => ?_) --f
  refine Ops.rung rfl rfl rfl ?_
  refine Ops.mv_sl rfl rfl rfl ?_
  refine Ops.rung rfl rfl rfl ?_
  refine Ops.fld hP rfl rfl rfl rfl inferInstance ?_
  refine Ops.rung rfl rfl rfl ?_
  refine Ops.ldf_i hP rfl rfl rfl rfl rfl ?_
  refine Ops.rung rfl rfl rfl ?_
  refine Ops.call (isLetters_c A n c ws (gens : Int) _ hR hn.2 (by omega) hw) rfl rfl rfl ?_
  rintro _ w2 ⟨rfl, hst⟩
  refine Ops.rung rfl rfl rfl ?_
  first | refine Ops.not_p rfl rfl ?_ | refine Ops.not rfl rfl ?_
  refine Ops.pick_f rfl rfl rfl ?_
  refine Ops.mv_bool rfl rfl rfl ?_
  refine Ops.nil ?_
  refine thenQ_n ?_
  refine Cd.ret ?_
  refine ret1_b rfl ?_
  exact ⟨rfl, hst⟩
theorem isPresentation_c (gens : Nat) (Ar : Option Addr) (nr cr : Nat) (rsr : List SlV) (rel : List (List Int)) (w : World) (hR : RowsI w Ar nr rsr rel) (hg : 1 ≤ gens ∧ gens ≤ 5) (hW : WordsOk (gens : Int) 1 rel) :
    Ret Try.prog 49 [.agg #[.int .i64 (gens : Int), .slice Ar nr cr]] w (fun v w' => v = .bool true ∧ St w w' []) := by
  have hrl := hR.len
  have hW1 := hW.1
  refine Ret.of_cd Try.func49 rfl Try.ntmps49 rfl (post1 rfl) ?_
  refine Cd.seq ?_
  refine Cd.region ?_
  refine Ops.box2 (St.refl w) rfl rfl ?_
  intro A1 w1 hS1
  refine Ops.mv_bool rfl rfl rfl ?_
  refine Ops.nil ?_
  refine thenQ_n ?_
  refine Cd.seq ?_
  refine Cd.region ?_
  refine Ops.fld (hS1.rd 0 rfl) rfl rfl rfl rfl inferInstance ?_
  refine Ops.ldf_i (hS1.rd 0 rfl) rfl rfl rfl rfl rfl ?_
  skip
  refine Ops.call (within_c (gens : Int) 1 5 _) rfl rfl rfl ?_
  rintro _ w2 ⟨rfl, rfl⟩
  refine Ops.mv_bool rfl rfl rfl ?_
  refine Ops.split_p 6 rfl (fun _ => ?_) (fun h => absurd (by omega) h) --t
  refine Ops.rung rfl rfl rfl ?_
  refine Ops.fld (hS1.rd 0 rfl) rfl rfl rfl rfl inferInstance ?_
  refine Ops.rung rfl rfl rfl ?_
  refine Ops.ldf_s (hS1.rd 0 rfl) rfl rfl rfl rfl rfl ?_
  refine Ops.rung rfl rfl rfl ?_
  refine Ops.len rfl rfl ?_
  refine Ops.rung rfl rfl rfl ?_
  refine Ops.leq rfl rfl rfl ?_
  refine Ops.pick_t rfl rfl rfl ?_
  refine Ops.mv_bool rfl rfl rfl ?_
  refine Ops.split_p 12 rfl (fun _ => ?_) (fun h => absurd (by omega) h) --t
  refine Ops.rung rfl rfl rfl ?_
  refine Ops.fld (hS1.rd 0 rfl) rfl rfl rfl rfl inferInstance ?_
  refine Ops.rung rfl rfl rfl ?_
  refine Ops.ldf_s (hS1.rd 0 rfl) rfl rfl rfl rfl rfl ?_
  refine Ops.rung rfl rfl rfl ?_
  refine Ops.fn1 rfl rfl ?_
  refine Ops.rung rfl rfl rfl ?_
  have hR1 := hS1.oldRows hR
  refine Ops.call (containsR_none Ar nr cr rsr 66 [.pointer A1] _ hR1.top (by omega) (fun w' i hb hi => by
    have hrow := (hR1.later hb).at_ (i := (i : Int)) (by omega) (by omega)
    have hx := hW.2 (gl rel (i : Int)) (gl_in (by omega) (by omega))
    have hrw := hrow.1
    exact isPresentation1_c A1 _ _ _ (gl rel (i : Int)) gens nr cr Ar w' ((hS1.rd 0 rfl).below hb) hrow (by omega) hg.2 hx.2.2)) rfl rfl rfl ?_
  rintro _ w3 ⟨rfl, hst⟩
  refine Ops.rung rfl rfl rfl ?_
  first | refine Ops.not_p rfl rfl ?_ | refine Ops.not rfl rfl ?_
  refine Ops.pick_t rfl rfl rfl ?_
  refine Ops.mv_bool rfl rfl rfl ?_
  refine Ops.nil ?_
  refine thenQ_n ?_
  refine Cd.ret ?_
  refine ret1_b rfl ?_
  exact ⟨rfl, (hS1.later hst.below).none⟩
theorem subgroupCode_c (gens : Nat) (Ar : Option Addr) (nr cr : Nat) (rsr : List SlV) (rel : List (List Int)) (w : World) (hR : RowsI w Ar nr rsr rel) (hg : 1 ≤ gens ∧ gens ≤ 5) (hW : WordsOk (gens : Int) 1 rel) :
    Ret Try.prog 28 [.agg #[.int .i64 (gens : Int), .slice Ar nr cr], .slice none 0 0] w (fun v w' => v = .int .i64 0 ∧ St w w' []) := by
  refine Ret.of_cd Try.func28 rfl Try.ntmps28 rfl (post1 rfl) ?_
  refine Cd.seq ?_
  refine Cd.region ?_
  refine Ops.box2 (St.refl w) rfl rfl ?_
  intro A1 w1 hS1
  refine Ops.mv_int rfl rfl rfl ?_
  refine Ops.nil ?_
  refine thenQ_n ?_
  refine Cd.seq ?_
  refine Cd.seq ?_
  refine Cd.region ?_
  refine Ops.ld_agg 1 (hS1.rd 0 rfl) rfl rfl rfl ?_
  skip
  refine Ops.call (isPresentation_c gens Ar nr cr rsr rel _ (hS1.oldRows hR) hg hW) rfl rfl rfl ?_
  rintro _ w2 ⟨rfl, hst⟩
  have hS2 := hS1.later hst.below
  first | refine Ops.not_p rfl rfl ?_ | refine Ops.not rfl rfl ?_
  refine Ops.mv_bool rfl rfl rfl ?_
  refine Ops.split 8 rfl (fun h => absurd h (by decide)) (fun _ => ?_) --f
  refine Ops.rung rfl rfl rfl ?_
  refine Ops.mv_sl rfl rfl rfl ?_
  refine Ops.rung rfl rfl rfl ?_
  refine Ops.len rfl rfl ?_
  refine Ops.rung rfl rfl rfl ?_
  refine Ops.gtr rfl rfl rfl ?_
  refine Ops.pick_f rfl rfl rfl ?_
  refine Ops.mv_bool rfl rfl rfl ?_
  refine Ops.split_p 13 rfl (fun h => absurd h (by omega)) (fun _ => ?_) --f
  refine Ops.rung rfl rfl rfl ?_
  refine Ops.mv_sl rfl rfl rfl ?_
  refine Ops.rung rfl rfl rfl ?_
  refine Ops.fn1 rfl rfl ?_
  refine Ops.rung rfl rfl rfl ?_
  refine Ops.call (containsR_none none 0 0 [] 51 [.pointer A1] _ RdR.nil (by omega) (fun w' i hb hi => absurd hi (Nat.not_lt_zero _))) rfl rfl rfl ?_
  rintro _ w3 ⟨rfl, hst3⟩
  refine Ops.pick_f rfl rfl rfl ?_
  refine Ops.nil ?_
  refine thenQ_n ?_
  refine Cd.cond_f rfl ?_
  refine Cd.skip ?_
  refine thenQ_n ?_
  refine Cd.seq ?_
  refine Cd.region ?_
  refine Ops.mv_int rfl rfl rfl ?_
  refine Ops.nil ?_
  refine thenQ_n ?_
  refine Cd.ret ?_
  refine ret1_i rfl ?_
  exact ⟨rfl, (hS2.later hst3.below).none⟩
end Go.Proofs.Ytjpkmpihmilgoaa.Vc
/-
  The program's coset enumeration, walked: the library's Grow and Concat of nothing, presentations of diagrams. Conditions: as each states them.
-/
namespace Go.Proofs.Ytjpkmpihmilgoaa.Vc
open Go.RowKit

section
variable {P : Program} {N : Nat} {ops : Array Oper} {K : Env → World → Prop} {rest : List Oper} {e : Env} {w0 w w' : World} {ks : List Ck} {d : Nat} {ty : TypeId} {pos : String} {af : Array Edge}
theorem Ops.cpc {x : Operand} {t el : TypeId} {A : Option Addr} {n c : Nat} [Und P t (.slice el)] (hx : ev e x = .slice A n c) (hb : Nat.blt d N = true) (hK : Ops P N ops K rest (upd e d (.int .i64 (c : Int))) w) :
    Ops P N ops K (⟨some d, .call ⟨.builtin .cap, #[x], #[t]⟩, ty, pos, af, none⟩ :: rest) e w :=
  .val (by simp [execOp, resolve, invoke, builtin, hx, Builtin.cap_, run_underlying (Und.out (P := P) (t := t)), goInt]) hb hK
/-- zeros appended to nothing: the room alone is told -/
theorem Ops.appZ {t tn el : TypeId} {kn : IntKind} {z : Value} {b : Nat} [hU : Und P t (.slice el)] [hN : Und P tn (.int kn)] [Inf P el z 1 b] {x y : Operand} {k : IntKind} (n : Nat) (h0 : 0 < n) (hS : St w0 w ks) (hx : ev e x = .slice none 0 0) (hy : ev e y = .int k (n : Int)) (hz : z.cells = #[z]) (hz1 : z.oneCell' = true) (hm : n ≤ maxLen) (hbytes : n * b ≤ 281474976710656) (hb : Nat.blt d N = true)
    (hK : ∀ A c w', n ≤ c → St w0 w' (⟨A, 0, c, el, []⟩ :: ks) → Ops P N ops K rest (upd e d (.slice A n c)) w') :
    Ops P N ops K (⟨some d, .call ⟨.builtin .append, #[x, y], #[t, tn]⟩, ty, pos, af, none⟩ :: rest) e w := by
  obtain ⟨inf, hi, hz0, hs, hby⟩ := Inf.get P el
  have hge := grownCap_ge w n 0 el
  have hle := grownCap_le_maxLen w n 0 el hm
  have hr := Go.Lib.run_append_nil_zeros (P := P) w t tn ty el inf z k kn hU.out hN.out hi hz0 n h0 (by omega) (by simp only [maxLen] at hm; omega) (by rw [hby]; exact hbytes)
  have hA := hS.drew.allocP (List.replicate (grownCap w n 0 el) z) el 0 (grownCap w n 0 el) (Nat.zero_le _) (by simp) hle (isM_rep _ hz1)
  have hzc : Builtin.zeroCells z.cells n ++ Builtin.zeroCells z.cells (grownCap w n 0 el - n) = (List.replicate (grownCap w n 0 el) z).toArray := by
    have gen : ∀ m, Builtin.zeroCells z.cells m = (List.replicate m z).toArray := fun m => by
      rw [hz]; simp only [Builtin.zeroCells]
      exact (show _ = _ from by have := madeCells_one z m; simpa [madeCells] using this)
    rw [gen, gen, List.append_toArray, List.replicate_append_replicate, Nat.add_sub_cancel' hge]
  rw [hzc] at hr
  refine .val (w' := w.drew.alloc (.cells (List.replicate (grownCap w n 0 el) z).toArray el)) ?_ hb (hK _ _ _ hge hA)
  simp [execOp, resolve, invoke, builtin, hx, hy, hr]
end

theorem Grow_c (n : Nat) (w : World) (hn : n ≤ 1000000) :
    Ret Try.prog 69 [.slice none 0 0, .int .i64 (n : Int)] w (fun v w' => ∃ A c, v = .slice A 0 c ∧ n ≤ c ∧ St w w' [CkR 36 A 0 c []]) := by
  refine Ret.of_cd Try.func69 rfl Try.ntmps69 rfl (post1 rfl) ?_
  refine Cd.seq ?_
  refine Cd.region ?_
  refine Ops.mv_sl rfl rfl rfl ?_
  refine Ops.nil ?_
  refine thenQ_n ?_
  refine Cd.seq ?_
  refine Cd.seq ?_
  refine Cd.region ?_
  refine Ops.mv_int rfl rfl rfl ?_
  refine Ops.lss rfl rfl rfl ?_
  refine Ops.nil ?_
  refine thenQ_n ?_
  refine Cd.cond_pf rfl (by omega) ?_
  refine Cd.skip ?_
  refine thenQ_n ?_
  refine Cd.seq ?_
  refine Cd.seq ?_
  refine Cd.region ?_
  refine Ops.mv_int rfl rfl rfl ?_
  refine Ops.mv_sl rfl rfl rfl ?_
  refine Ops.cpc rfl rfl ?_
  refine Ops.mv_sl rfl rfl rfl ?_
  refine Ops.len rfl rfl ?_
  refine Ops.sub rfl rfl rfl (by omega) ?_
  refine Ops.sub rfl rfl rfl (by omega) ?_
  refine Ops.mv_int rfl rfl rfl ?_
  refine Ops.nil ?_
  refine thenQ_n ?_
  refine Cd.seq ?_
  refine Cd.region ?_
  refine Ops.mv_int rfl rfl rfl ?_
  refine Ops.gtr rfl rfl rfl ?_
  refine Ops.nil ?_
  refine thenQ_n ?_
  refine Cd.cond_p _ rfl (fun h1 => ?_) (fun h1 => ?_)
  · refine Cd.region ?_
    refine Ops.mv_sl rfl rfl rfl ?_
    refine Ops.mv_sl rfl rfl rfl ?_
    refine Ops.cpc rfl rfl ?_
    refine Ops.cut_h rfl rfl rfl (by simp) ?_
    refine Ops.mv_int rfl rfl rfl ?_
    refine Ops.appZ n (by omega) (St.refl w) rfl (by show Value.int _ _ = .int _ _; congr 1) rfl rfl (by simp only [maxLen]; omega) (by omega) rfl ?_
    intro A c w1 hnc hS1
    refine Ops.mv_sl rfl rfl rfl ?_
    refine Ops.len rfl rfl ?_
    refine Ops.cut_h rfl rfl rfl (by simp) ?_
    refine Ops.mv_sl rfl rfl rfl ?_
    refine Ops.nil ?_
    refine thenQ_n ?_
    refine Cd.seq ?_
    refine Cd.region ?_
    refine Ops.mv_sl rfl rfl rfl ?_
    refine Ops.mv_sl rfl rfl rfl ?_
    refine Ops.nil ?_
    refine thenQ_n ?_
    refine Cd.ret ?_
    refine ret1_s rfl ?_
    exact ⟨A, c, rfl, hnc, hS1⟩
  · refine Cd.skip ?_
    refine thenQ_n ?_
    refine Cd.seq ?_
    refine Cd.region ?_
    refine Ops.mv_sl rfl rfl rfl ?_
    refine Ops.mv_sl rfl rfl rfl ?_
    refine Ops.nil ?_
    refine thenQ_n ?_
    refine Cd.ret ?_
    refine ret1_s rfl ?_
    exact ⟨none, 0, rfl, by omega, (St.refl w).nil _⟩

/-- one matrix and nothing more, joined -/
theorem Concat_c (Aq : Option Addr) (A : Option Addr) (n c : Nat) (rs : List SlV) (w : World) (hQ : RdR w Aq 2 [⟨A, n, c⟩, ⟨none, 0, 0⟩]) (hR : RdR w A n rs) (hn : n ≤ 1000000) :
    Ret Try.prog 53 [.slice Aq 2 2] w (fun v w' => ∃ A' c', v = .slice A' n c' ∧ St w w' [CkR 36 A' n c' rs]) := by
  have hrl := hR.1
  refine Ret.of_cd Try.func53 rfl Try.ntmps53 rfl (post1 rfl) ?_
  refine Cd.seq ?_
  refine Cd.region ?_
  refine Ops.mv_sl rfl rfl rfl ?_
  refine Ops.nil ?_
  refine thenQ_n ?_
  refine Cd.seq ?_
  refine Cd.region ?_
  refine Ops.mv_int rfl rfl rfl ?_
  refine Ops.nil ?_
  refine thenQ_n ?_
  refine Cd.seq ?_
  refine Cd.seq ?_
  refine Cd.region ?_
  refine Ops.mv_sl rfl rfl rfl ?_
  refine Ops.len rfl rfl ?_
  refine Ops.mv_int rfl rfl rfl ?_
  refine Ops.nil ?_
  refine thenQ_n ?_
  refine Cd.block ?_
  have e0 : (rg [⟨A, n, c⟩, ⟨none, 0, 0⟩] ((0 : Nat) : Int)).n = n := rfl
  have e1 : (rg [⟨A, n, c⟩, ⟨none, 0, 0⟩] ((1 : Nat) : Int)).n = 0 := rfl
  refine Cd.loop (α := Nat × Nat) (fun k => [(0, .slice Aq 2 2), (3, .int .i64 (k.2 : Int)), (9, .slice Aq 2 2), (10, .int .i64 2), (11, .int .i64 (k.1 : Int))]) (fun k w' => w' = w ∧ k.1 ≤ 2 ∧ k.2 = if k.1 = 0 then 0 else n) (fun k => 2 - k.1) (0, 0) ⟨rfl, rfl, rfl, rfl, rfl, trivial⟩ ⟨rfl, by decide, rfl⟩ ?_
  rintro ⟨k, m⟩ e w1 ⟨rfl, hk, hm⟩
  dsimp only at hk hm ⊢
  refine Cd.seq ?_
  refine Cd.region ?_
  refine Ops.lss rfl rfl rfl ?_
  refine Ops.nil ?_
  refine thenQ_n ?_
  refine Cd.seq ?_
  refine Cd.cond_p _ rfl (fun h1 => ?_) (fun h1 => ?_)
  · rcases (show k = 0 ∨ k = 1 by omega) with rfl | rfl --dup 2
    · obtain rfl : m = 0 := hm
      refine Cd.skip ?_
      refine thenQ_n ?_
      refine Cd.seq ?_
      refine Cd.block ?_
      refine Cd.seq ?_
      refine Cd.region ?_
      refine Ops.idx hQ.2 rfl rfl rfl (by omega) (by omega) ?_
      refine Ops.ld_sl (i := ((0 : Nat) : Int)) hQ rfl (by simp) rfl rfl ?_
      refine Ops.mv_sl rfl rfl rfl ?_
      refine Ops.nil ?_
      refine thenQ_n ?_
      refine Cd.seq ?_
      refine Cd.region ?_
      refine Ops.mv_int rfl rfl rfl ?_
      refine Ops.mv_sl rfl rfl rfl ?_
      refine Ops.len rfl rfl ?_
      refine Ops.add rfl rfl rfl (by omega) ?_
      refine Ops.mv_int rfl rfl rfl ?_
      refine Ops.nil ?_
      refine thenQ_n ?_
      refine Cd.seq ?_
      refine Cd.region ?_
      refine Ops.mv_int rfl rfl rfl ?_
      refine Ops.lss rfl rfl rfl ?_
      refine Ops.nil ?_
      refine thenQ_n ?_
      refine Cd.cond_pf rfl (by omega) ?_
      refine Cd.skip ?_
      refine blockQ_n ?_
      refine thenQ_n ?_
      refine Cd.region ?_
      refine Ops.add rfl rfl rfl (by omega) ?_
      refine Ops.mv_int rfl rfl rfl ?_
      refine Ops.nil ?_
      refine thenQ_n ?_
      exact ⟨(1, n), by show 2 - 1 < 2 - 0; omega, ⟨rfl, by show Value.int .i64 (((0 : Nat) : Int) + (n : Int)) = .int .i64 (n : Int); congr 1; omega, rfl, rfl, rfl, trivial⟩, rfl, by show 1 ≤ 2; omega, rfl⟩
    · obtain rfl : m = n := hm
      refine Cd.skip ?_
      refine thenQ_n ?_
      refine Cd.seq ?_
      refine Cd.block ?_
      refine Cd.seq ?_
      refine Cd.region ?_
      refine Ops.idx hQ.2 rfl rfl rfl (by omega) (by omega) ?_
      refine Ops.ld_sl (i := ((1 : Nat) : Int)) hQ rfl (by simp) rfl rfl ?_
      refine Ops.mv_sl rfl rfl rfl ?_
      refine Ops.nil ?_
      refine thenQ_n ?_
      refine Cd.seq ?_
      refine Cd.region ?_
      refine Ops.mv_int rfl rfl rfl ?_
      refine Ops.mv_sl rfl rfl rfl ?_
      refine Ops.len rfl rfl ?_
      refine Ops.add rfl rfl rfl (by omega) ?_
      refine Ops.mv_int rfl rfl rfl ?_
      refine Ops.nil ?_
      refine thenQ_n ?_
      refine Cd.seq ?_
      refine Cd.region ?_
      refine Ops.mv_int rfl rfl rfl ?_
      refine Ops.lss rfl rfl rfl ?_
      refine Ops.nil ?_
      refine thenQ_n ?_
      refine Cd.cond_pf rfl (by omega) ?_
      refine Cd.skip ?_
      refine blockQ_n ?_
      refine thenQ_n ?_
      refine Cd.region ?_
      refine Ops.add rfl rfl rfl (by omega) ?_
      refine Ops.mv_int rfl rfl rfl ?_
      refine Ops.nil ?_
      refine thenQ_n ?_
      exact ⟨(2, m), by show 2 - 2 < 2 - 1; omega, ⟨rfl, by show Value.int .i64 ((m : Int) + ((0 : Nat) : Int)) = .int .i64 (m : Int); congr 1, rfl, rfl, rfl, trivial⟩, rfl, by show 2 ≤ 2; omega, rfl⟩
  · obtain rfl : k = 2 := by omega
    obtain rfl : m = n := hm
    refine Cd.exit ?_
    refine thenQ_x ?_
    refine thenQ_x ?_
    refine blockQ_x ?_
    refine thenQ_n ?_
    refine Cd.seq ?_
    refine Cd.region ?_
    refine Ops.mv_int rfl rfl rfl ?_
    refine Ops.call (Grow_c m _ hn) rfl rfl rfl ?_
    rintro _ w2 ⟨A6, c6, rfl, hnc, hS2⟩
    refine Ops.mv_sl rfl rfl rfl ?_
    refine Ops.nil ?_
    refine thenQ_n ?_
    refine Cd.seq ?_
    refine Cd.seq ?_
    refine Cd.region ?_
    refine Ops.mv_sl rfl rfl rfl ?_
    refine Ops.len rfl rfl ?_
    refine Ops.mv_int rfl rfl rfl ?_
    refine Ops.nil ?_
    refine thenQ_n ?_
    refine Cd.block ?_
    refine Cd.loop (α := Nat × Option Addr × Nat × List SlV) (fun k => [(6, .slice k.2.1 k.2.2.2.length k.2.2.1), (25, .slice Aq 2 2), (26, .int .i64 2), (27, .int .i64 (k.1 : Int))]) (fun k w' => St w1 w' [CkR 36 k.2.1 k.2.2.2.length k.2.2.1 k.2.2.2] ∧ k.1 ≤ 2 ∧ k.2.2.2 = if k.1 = 0 then [] else rs) (fun k => 2 - k.1) (0, A6, c6, []) ⟨rfl, rfl, rfl, rfl, trivial⟩ ⟨hS2, by show 0 ≤ 2; omega, rfl⟩ ?_
    rintro ⟨k, A6, c6, rs'⟩ e w3 ⟨hS3, hk, hm⟩
    dsimp only at hS3 hk hm ⊢
    have hQ3 := hS3.oldR hQ
    refine Cd.seq ?_
    refine Cd.region ?_
    refine Ops.lss rfl rfl rfl ?_
    refine Ops.nil ?_
    refine thenQ_n ?_
    refine Cd.seq ?_
    refine Cd.cond_p _ rfl (fun h2 => ?_) (fun h2 => ?_)
    · rcases (show k = 0 ∨ k = 1 by omega) with rfl | rfl --dup 2
      · obtain rfl : rs' = [] := hm
        refine Cd.skip ?_
        refine thenQ_n ?_
        refine Cd.seq ?_
        refine Cd.block ?_
        refine Cd.seq ?_
        refine Cd.region ?_
        refine Ops.idx hQ3.2 rfl rfl rfl (by omega) (by omega) ?_
        refine Ops.ld_sl (i := ((0 : Nat) : Int)) hQ3 rfl (by simp) rfl rfl ?_
        refine Ops.mv_sl rfl rfl rfl ?_
        refine Ops.nil ?_
        refine thenQ_n ?_
        refine Cd.region ?_
        refine Ops.mv_sl rfl rfl rfl ?_
        refine Ops.mv_sl rfl rfl rfl ?_
        refine Ops.appR 0 hS3 rfl (hS3.oldR hR) rfl rfl rfl (by simp; omega) (by simp; omega) rfl ?_
        intro A7 c7 w4 hS4
        refine Ops.mv_sl rfl rfl rfl ?_
        refine Ops.nil ?_
        refine blockQ_n ?_
        refine thenQ_n ?_
        refine Cd.region ?_
        refine Ops.add rfl rfl rfl (by omega) ?_
        refine Ops.mv_int rfl rfl rfl ?_
        refine Ops.nil ?_
        refine thenQ_n ?_
        refine ⟨(1, A7, c7, rs), by show 2 - 1 < 2 - 0; omega, ⟨by show Value.slice A7 (0 + m) c7 = .slice A7 rs.length c7; rw [hrl, Nat.zero_add], rfl, rfl, rfl, trivial⟩, ?_, by show 1 ≤ 2; omega, rfl⟩
        show St w1 w4 [CkR 36 A7 rs.length c7 rs]
        have h5 : St w1 w4 [CkR 36 A7 (0 + m) c7 rs] := hS4
        rw [hrl]
        rwa [Nat.zero_add] at h5
      · obtain rfl : rs' = rs := hm
        refine Cd.skip ?_
        refine thenQ_n ?_
        refine Cd.seq ?_
        refine Cd.block ?_
        refine Cd.seq ?_
        refine Cd.region ?_
        refine Ops.idx hQ3.2 rfl rfl rfl (by omega) (by omega) ?_
        refine Ops.ld_sl (i := ((1 : Nat) : Int)) hQ3 rfl (by simp) rfl rfl ?_
        refine Ops.mv_sl rfl rfl rfl ?_
        refine Ops.nil ?_
        refine thenQ_n ?_
        refine Cd.region ?_
        refine Ops.mv_sl rfl rfl rfl ?_
        refine Ops.mv_sl rfl rfl rfl ?_
        refine Ops.appR 0 hS3 rfl RdR.nil rfl rfl rfl (by omega) (by omega) rfl ?_
        intro A7 c7 w4 hS4
        refine Ops.mv_sl rfl rfl rfl ?_
        refine Ops.nil ?_
        refine blockQ_n ?_
        refine thenQ_n ?_
        refine Cd.region ?_
        refine Ops.add rfl rfl rfl (by omega) ?_
        refine Ops.mv_int rfl rfl rfl ?_
        refine Ops.nil ?_
        refine thenQ_n ?_
        refine ⟨(2, A7, c7, rs'), by show 2 - 2 < 2 - 1; omega, ⟨rfl, rfl, rfl, rfl, trivial⟩, ?_, by show 2 ≤ 2; omega, rfl⟩
        have h5 : St w1 w4 [CkR 36 A7 (rs'.length + 0) c7 (rs' ++ [])] := hS4
        rwa [List.append_nil] at h5
    · obtain rfl : k = 2 := by omega
      obtain rfl : rs' = rs := hm
      refine Cd.exit ?_
      refine thenQ_x ?_
      refine thenQ_x ?_
      refine blockQ_x ?_
      refine thenQ_n ?_
      refine Cd.seq ?_
      refine Cd.region ?_
      refine Ops.mv_sl rfl rfl rfl ?_
      refine Ops.mv_sl rfl rfl rfl ?_
      refine Ops.nil ?_
      refine thenQ_n ?_
      refine Cd.ret ?_
      refine ret1_s rfl ?_
      exact ⟨A6, c6, by rw [hrl], by rw [← hrl]; exact hS3⟩
end Go.Proofs.Ytjpkmpihmilgoaa.Vc
/-
  An answer: a maniplex and a code. Conditions: none.
-/
namespace Go.Proofs.Ytjpkmpihmilgoaa.Vc
open Go.RowKit

/-- an answer: a maniplex, or none, and a code -/
def AnsX (L : List (List Int)) (K : Int) (w : World) (v : Value) (w' : World) : Prop := ∃ A c, ∃ rs : List SlV, v = .tuple #[.agg #[.slice A L.length c], .int .i64 K] ∧ rs.length = L.length ∧ St w w' (mat 36 2 A L.length c rs L)
end Go.Proofs.Ytjpkmpihmilgoaa.Vc
/-
  The reference's universal polytope, walked. Conditions: as each states them.
-/
namespace Go.Proofs.Ytjpkmpihmilgoaa.Vc
open Go.RowKit

theorem l11Small_c (gens : Nat) (Ar : Option Addr) (nr cr : Nat) (rsr : List SlV) (rel : List (List Int)) (T : List (List Int)) (w : World) (hR : RowsI w Ar nr rsr rel) (hrel : ∀ x ∈ rel, x.length ≤ 1000000) (hnr : nr ≤ 1000000) (hp : tableP gens rel = some T) (hT0 : 0 < T.length) (hT4 : (gl T 0).length ≤ 400) :
    Ret Try.prog 23 [.agg #[.int .i64 (gens : Int), .slice Ar nr cr], .slice none 0 0] w (fun v w' => ∃ A c rs, v = .tuple #[.slice A T.length c, .int .i64 0] ∧ rs.length = T.length ∧ St w w' (mat 36 2 A T.length c rs T)) := by
  refine Ret.of_cd Try.func23 rfl Try.ntmps23 rfl (post2 rfl) ?_
  refine Cd.seq ?_
  refine Cd.region ?_
  refine Ops.box2 (St.refl w) rfl rfl ?_
  intro A2 w1 hS1
  refine Ops.mv_sl rfl rfl rfl ?_
  refine Ops.mv_int rfl rfl rfl ?_
  refine Ops.nil ?_
  refine thenQ_n ?_
  refine Cd.seq ?_
  refine Cd.region ?_
  refine Ops.ld_agg 1 (hS1.rd 0 rfl) rfl rfl rfl ?_
  refine Ops.mv_sl rfl rfl rfl ?_
  refine Ops.call (l11Table_c gens Ar nr cr rsr rel T _ (hS1.oldRows hR) hrel hnr hp) rfl rfl rfl ?_
  rintro _ w2 ⟨A, c, rs, rfl, hrl, hst⟩
  have hS2 := hS1.call hst
  have hRT : RowsI w2 A T.length rs T := St.rowsI hS2 rfl
  have hr0 := hRT.at_ (i := 0) (Int.le_refl _) (by omega)
  have hr1 := hr0.1
  refine Ops.mv_tup rfl rfl rfl ?_
  refine Ops.extract rfl rfl rfl ?_
  refine Ops.extract rfl rfl rfl ?_
  refine Ops.mv_sl rfl rfl rfl ?_
  refine Ops.mv_bool rfl rfl rfl ?_
  refine Ops.nil ?_
  refine thenQ_n ?_
  refine Cd.seq ?_
  refine Cd.seq ?_
  refine Cd.region ?_
  refine Ops.mv_bool rfl rfl rfl ?_
  first | refine Ops.not_p rfl rfl ?_ | refine Ops.not rfl rfl ?_
  refine Ops.mv_bool rfl rfl rfl ?_
  refine Ops.split 16 rfl (fun h => absurd h (by decide)) (fun _ => ?_) --f
  refine Ops.rung rfl rfl rfl ?_
  refine Ops.mv_sl rfl rfl rfl ?_
  refine Ops.rung rfl rfl rfl ?_
  refine Ops.idx hRT.top.2 rfl rfl rfl (by omega) (by omega) ?_
  refine Ops.rung rfl rfl rfl ?_
  refine Ops.ld_sl (i := 0) hRT.top rfl (by omega) rfl rfl ?_
  refine Ops.rung rfl rfl rfl ?_
  refine Ops.len rfl rfl ?_
  refine Ops.rung rfl rfl rfl ?_
  refine Ops.gtr rfl rfl rfl ?_
  refine Ops.pick_f rfl rfl rfl ?_
  refine Ops.nil ?_
  refine thenQ_n ?_
  refine Cd.cond_pf rfl (by omega) ?_
  refine Cd.skip ?_
  refine thenQ_n ?_
  refine Cd.seq ?_
  refine Cd.region ?_
  refine Ops.mv_sl rfl rfl rfl ?_
  refine Ops.mv_sl rfl rfl rfl ?_
  refine Ops.mv_int rfl rfl rfl ?_
  refine Ops.nil ?_
  refine thenQ_n ?_
  refine Cd.ret ?_
  refine ret2_si rfl rfl ?_
  exact ⟨A, c, rs, rfl, hrl, hS2.sub (List.sublist_append_left _ _)⟩

/-- what a diagram gives -/
structure UniOk (labels : List Int) (T : List (List Int)) : Prop where
  len : labels.length < 5
  lab : ∀ x ∈ labels, x = 0 ∨ (2 ≤ x ∧ x ≤ 32)
  words : WordsOk ((labels.length + 1 : Nat) : Int) 1 (presP labels)
  tab : tableP (labels.length + 1) (presP labels) = some T
  mani : Mani T

theorem specUniversalPolytope_c (Al : Option Addr) (nl cl : Nat) (labels : List Int) (T : List (List Int)) (w : World) (hR : RdI w Al nl labels) (hU : UniOk labels T) :
    Ret Try.prog 14 [.slice Al nl cl, .slice none 0 0] w (AnsX T 0 w) := by
  obtain ⟨u1, u2, u3, u4, u5⟩ := hU
  have hll := hR.1
  have hT5 := u5.1
  have hT40 := u5.2.1
  rw [hll] at u1 u3 u4
  refine Ret.of_cd Try.func14 rfl Try.ntmps14 rfl (postc2 rfl rfl) ?_
  refine Cd.seq ?_
  refine Cd.region ?_
  refine Ops.new1 (St.refl w) rfl ?_
  intro A4 w1 hS1
  refine Ops.mv_int rfl rfl rfl ?_
  refine Ops.nil ?_
  refine thenQ_n ?_
  refine Cd.seq ?_
  refine Cd.seq ?_
  refine Cd.region ?_
  refine Ops.mv_sl rfl rfl rfl ?_
  refine Ops.call (l12Is_c Al nl cl labels _ (hS1.oldI hR) u1 u2) rfl rfl rfl ?_
  rintro _ w2 ⟨rfl, rfl⟩
  first | refine Ops.not_p rfl rfl ?_ | refine Ops.not rfl rfl ?_
  refine Ops.nil ?_
  refine thenQ_n ?_
  refine Cd.cond_f rfl ?_
  refine Cd.skip ?_
  refine thenQ_n ?_
  refine Cd.seq ?_
  refine Cd.region ?_
  refine Ops.mv_sl rfl rfl rfl ?_
  refine Ops.call (l12Presentation_c Al nl cl labels _ (hS1.oldI hR) (by omega) (fun x hx => by have := u2 x hx; omega)) rfl rfl rfl ?_
  rintro _ w3 ⟨B, c, rs, rfl, hrl, hst3⟩
  have hS3 := hS1.call hst3
  have hRp : RowsI w3 B (presP labels).length rs (presP labels) := St.rowsI hS3 rfl
  have hgens : ((nl : Int) + 1) = ((nl + 1 : Nat) : Int) := by omega
  rw [hgens]
  refine Ops.mv_sl rfl rfl rfl ?_
  refine Ops.call (WithRelators_c (nl + 1) B (presP labels).length c rs (presP labels) _ hRp (by omega) u3) rfl rfl rfl ?_
  rintro _ w4 ⟨B2, c2, rs2, rfl, hrl2, hst4⟩
  have hS4 := hS3.call hst4
  refine Ops.mv_tup rfl rfl rfl ?_
  refine Ops.extract rfl rfl rfl ?_
  refine Ops.extract rfl rfl rfl ?_
  refine Ops.new2 hS4 rfl ?_
  intro A6 w5 hS5
  skip
  refine Ops.st_agg 2 0 hS5 rfl rfl rfl rfl rfl rfl rfl ?_
  intro w6 hS6
  have hS6 : St w w6 (Bx 42 2 A6 [.int .i64 ((nl + 1 : Nat) : Int), .slice B2 (presP labels).length c2] :: (mat 36 2 B2 (presP labels).length c2 rs2 (presP labels) ++ (mat 36 2 B (presP labels).length c rs (presP labels) ++ [Bx 24 1 A4 [.slice none 0 0]]))) := hS6
  have hRq : RowsI w6 B2 (presP labels).length rs2 (presP labels) := St.rowsI hS6.tail rfl
  refine Ops.mv_int rfl rfl rfl ?_
  refine Ops.nil ?_
  refine thenQ_n ?_
  refine Cd.seq ?_
  refine Cd.seq ?_
  refine Cd.region ?_
  refine Ops.mv_int rfl rfl rfl ?_
  refine Ops.neq rfl rfl rfl ?_
  refine Ops.nil ?_
  refine thenQ_n ?_
  refine Cd.cond_pf rfl (fun h => h rfl) ?_
  refine Cd.skip ?_
  refine thenQ_n ?_
  refine Cd.seq ?_
  refine Cd.region ?_
  refine Ops.ld_agg 1 (hS6.rd 0 rfl) rfl rfl rfl ?_
  skip
  refine Ops.call (l11Small_c (nl + 1) B2 (presP labels).length c2 rs2 (presP labels) T _ hRq (fun x hx => by have := (u3.2 x hx).2.1; omega) (by have := u3.1; omega) u4 (by omega) (by omega)) rfl rfl rfl ?_
  rintro _ w7 ⟨A, cA, rsA, rfl, hrlA, hst7⟩
  have hS7 := hS6.call hst7
  have hRT : RowsI w7 A T.length rsA T := St.rowsI hS7 rfl
  have hr0 := hRT.at_ (i := 0) (Int.le_refl _) (by omega)
  have hr1 := hr0.1
  refine Ops.mv_tup rfl rfl rfl ?_
  refine Ops.extract rfl rfl rfl ?_
  refine Ops.extract rfl rfl rfl ?_
  refine Ops.mv_sl rfl rfl rfl ?_
  refine Ops.mv_int rfl rfl rfl ?_
  refine Ops.nil ?_
  refine thenQ_n ?_
  refine Cd.seq ?_
  refine Cd.seq ?_
  refine Cd.region ?_
  refine Ops.mv_int rfl rfl rfl ?_
  refine Ops.neq rfl rfl rfl ?_
  refine Ops.mv_bool rfl rfl rfl ?_
  refine Ops.split_p 33 rfl (fun h => absurd rfl h) (fun _ => ?_) --f
  refine Ops.rung rfl rfl rfl ?_
  refine Ops.mv_sl rfl rfl rfl ?_
  refine Ops.rung rfl rfl rfl ?_
  refine Ops.idx hRT.top.2 rfl rfl rfl (by omega) (by omega) ?_
  refine Ops.rung rfl rfl rfl ?_
  refine Ops.ld_sl (i := 0) hRT.top rfl (by omega) rfl rfl ?_
  refine Ops.rung rfl rfl rfl ?_
  refine Ops.len rfl rfl ?_
  refine Ops.rung rfl rfl rfl ?_
  refine Ops.gtr rfl rfl rfl ?_
  refine Ops.pick_f rfl rfl rfl ?_
  refine Ops.nil ?_
  refine thenQ_n ?_
  refine Cd.cond_pf rfl (by omega) ?_
  refine Cd.skip ?_
  refine thenQ_n ?_
  refine Cd.seq ?_
  refine Cd.region ?_
  refine Ops.mv_sl rfl rfl rfl ?_
  refine Ops.bld1 (by exact inferInstance) rfl rfl rfl rfl ?_
  refine Ops.new1 hS7 rfl ?_
  intro A10 w8 hS8
  skip
  refine Ops.st_agg 1 0 hS8 rfl rfl rfl rfl rfl rfl rfl ?_
  intro w9 hS9
  have hS9 : St w w9 (Bx 24 1 A10 [.slice A T.length cA] :: (mat 36 2 A T.length cA rsA T ++ (Bx 42 2 A6 [.int .i64 ((nl + 1 : Nat) : Int), .slice B2 (presP labels).length c2] :: (mat 36 2 B2 (presP labels).length c2 rs2 (presP labels) ++ (mat 36 2 B (presP labels).length c rs (presP labels) ++ [Bx 24 1 A4 [.slice none 0 0]]))))) := hS9
  have hRT9 : RowsI w9 A T.length rsA T := St.rowsI hS9.tail rfl
  refine Ops.nil ?_
  refine thenQ_n ?_
  refine Cd.seq ?_
  refine Cd.seq ?_
  refine Cd.region ?_
  refine Ops.ld_agg 0 (hS9.rd 0 rfl) rfl rfl rfl ?_
  refine Ops.call (l02Is_c A T.length cA rsA T _ hRT9 (by omega)) rfl rfl rfl ?_
  rintro _ w10 ⟨rfl, hst10⟩
  have hS10 := hS9.later hst10.below
  have hS11 : St w w10 ([Bx 24 1 A10 [.slice A T.length cA], Bx 24 1 A4 [.slice none 0 0]] ++ mat 36 2 A T.length cA rsA T) := by
    have h1 : St w w10 (Bx 24 1 A10 [.slice A T.length cA] :: (mat 36 2 A T.length cA rsA T ++ [Bx 24 1 A4 [.slice none 0 0]])) :=
      hS10.sub (List.Sublist.cons_cons _ (List.Sublist.append_left (((List.sublist_append_right _ _).trans (List.sublist_append_right _ _)).cons _) _))
    exact h1.perm (List.Perm.cons _ (List.perm_append_comm (l₂ := [_])))
  first | refine Ops.not_p rfl rfl ?_ | refine Ops.not rfl rfl ?_
  refine Ops.nil ?_
  refine thenQ_n ?_
  refine Cd.cond_pf rfl (fun h => h u5) ?_
  refine Cd.skip ?_
  refine thenQ_n ?_
  refine Cd.seq ?_
  refine Cd.region ?_
  refine Ops.ld_agg 0 (hS11.rd 0 rfl) rfl rfl rfl ?_
  refine Ops.st_agg 1 1 hS11 rfl rfl rfl rfl rfl rfl rfl ?_
  intro w12 hS12
  refine Ops.mv_int rfl rfl rfl ?_
  refine Ops.nil ?_
  refine thenQ_n ?_
  refine Cd.ret ?_
  skip
  refine retc2_r rfl (hS12.rd 1 rfl) rfl ?_
  exact ⟨A, cA, rsA, rfl, hrlA, (hS12.sub ((List.Sublist.refl _).cons _)).sub ((List.Sublist.refl _).cons _)⟩
end Go.Proofs.Ytjpkmpihmilgoaa.Vc
/-
  The program's presentations of diagrams and universal polytopes, walked. Conditions: as each states them.
-/
namespace Go.Proofs.Ytjpkmpihmilgoaa.Vc
open Go.RowKit

theorem coxeterPresentation_c (Al : Option Addr) (nl cl : Nat) (labels : List Int) (w : World) (hR : RdI w Al nl labels) (hnl : nl ≤ 10) (hl : ∀ x ∈ labels, 0 ≤ x ∧ x ≤ 32) :
    Ret Try.prog 27 [.slice Al nl cl] w (fun v w' => ∃ B c rs, v = .agg #[.int .i64 ((nl : Int) + 1), .slice B (presP labels).length c] ∧ rs.length = (presP labels).length ∧ St w w' (mat 36 2 B (presP labels).length c rs (presP labels))) := by
  have hll := hR.1
  refine Ret.of_cd Try.func27 rfl Try.ntmps27 rfl (postc rfl rfl) ?_
  refine Cd.seq ?_
  refine Cd.region ?_
  refine Ops.new2 (St.refl w) rfl ?_
  intro A2 w1 hS1
  refine Ops.nil ?_
  refine thenQ_n ?_
  refine Cd.seq ?_
  refine Cd.region ?_
  refine Ops.mv_sl rfl rfl rfl ?_
  refine Ops.call (sizeI_c Al nl cl _) rfl rfl rfl ?_
  rintro _ w2 ⟨rfl, rfl⟩
  refine Ops.add rfl rfl rfl (by omega) ?_
  refine Ops.mv_int rfl rfl rfl ?_
  refine Ops.nil ?_
  refine thenQ_n ?_
  refine Cd.seq ?_
  refine Cd.region ?_
  refine Ops.mv_int rfl rfl rfl ?_
  refine Ops.bld0of2 (by exact inferInstance) (by exact inferInstance) rfl rfl rfl rfl rfl ?_
  refine Ops.new2 hS1 rfl ?_
  intro A3 w2 hS2
  skip
  refine Ops.st_agg 2 0 hS2 rfl rfl rfl rfl rfl rfl rfl ?_
  intro w3 hS3
  have hS3 : St w w3 ([Bx 42 2 A3 [.int .i64 ((nl : Int) + 1), .slice none 0 0], Bx 42 2 A2 [.int .i64 0, .slice none 0 0]]) := hS3
  have hS4 : St w w3 (CkR 36 none 0 0 [] :: [Bx 42 2 A3 [.int .i64 ((nl : Int) + 1), .slice none 0 0], Bx 42 2 A2 [.int .i64 0, .slice none 0 0]]) := hS3.nil _
  have hS5 : St w w3 ([Bx 42 2 A3 [.int .i64 ((nl : Int) + 1), .slice none 0 0], Bx 42 2 A2 [.int .i64 0, .slice none 0 0]] ++ mat 36 2 none 0 0 [] []) := hS4.perm (List.perm_append_comm (l₁ := [_]) (l₂ := [_, _]))
  refine Ops.nil ?_
  refine thenQ_n ?_
  refine Cd.seq ?_
  refine Cd.seq ?_
  refine Cd.region ?_
  refine Ops.mv_int rfl rfl rfl ?_
  refine Ops.mv_int rfl rfl rfl ?_
  refine Ops.nil ?_
  refine thenQ_n ?_
  refine Cd.block ?_
  refine Cd.loop (α := PrS) (fun s => [(0, .slice Al nl cl), (2, .pointer A2), (3, .int .i64 ((nl : Int) + 1)), (4, .pointer A3), (13, .int .i64 ((nl : Int) + 1)), (14, .int .i64 (s.k : Int))]) (fun s w' => St w w' ([Bx 42 2 A3 [.int .i64 ((nl : Int) + 1), .slice s.B s.n s.c], Bx 42 2 A2 [.int .i64 0, .slice none 0 0]] ++ mat 36 2 s.B s.n s.c s.rs s.xss) ∧ s.rs.length = s.n ∧ s.xss.length = s.n ∧ s.n ≤ 20 * s.k ∧ s.k + s.f = 20 ∧ s.xss ++ presI labels (nl + 1) s.f s.k = presP labels) (fun s => s.f) ⟨20, 0, none, 0, 0, [], []⟩ ⟨rfl, rfl, rfl, rfl, rfl, rfl, trivial⟩ ⟨hS5, rfl, rfl, Nat.zero_le _, rfl, by unfold presP; rw [hll]; rfl⟩ ?_
  rintro ⟨f, i, B, n, cB, rs, xss⟩ e w4 ⟨hS4, hrl, hxl, hnk, hkf, hpre⟩
  dsimp only at hS4 hrl hxl hnk hkf hpre ⊢
  refine Cd.seq ?_
  refine Cd.region ?_
  refine Ops.lss rfl rfl rfl ?_
  refine Ops.nil ?_
  refine thenQ_n ?_
  refine Cd.seq ?_
  refine Cd.cond_p _ rfl (fun h1 => ?_) (fun h1 => ?_)
  · obtain ⟨f, rfl⟩ : ∃ q, f = q + 1 := ⟨f - 1, by omega⟩
    rw [presI, if_pos (by omega)] at hpre
    refine Cd.skip ?_
    refine thenQ_n ?_
    refine Cd.seq ?_
    refine Cd.block ?_
    refine Cd.seq ?_
    refine Cd.region ?_
    refine Ops.mv_int rfl rfl rfl ?_
    refine Ops.mv_int rfl rfl rfl ?_
    refine Ops.nil ?_
    refine thenQ_n ?_
    refine Cd.seq ?_
    refine Cd.region ?_
    refine Ops.mv_int rfl rfl rfl ?_
    refine Ops.add rfl rfl rfl (by omega) ?_
    refine Ops.mv_int rfl rfl rfl ?_
    refine Ops.nil ?_
    refine thenQ_n ?_
    refine Cd.block ?_
    refine Cd.loop (α := PrS) (fun s => [(0, .slice Al nl cl), (2, .pointer A2), (3, .int .i64 ((nl : Int) + 1)), (4, .pointer A3), (13, .int .i64 ((nl : Int) + 1)), (14, .int .i64 (i : Int)), (5, .int .i64 (i : Int)), (6, .int .i64 (s.k : Int))]) (fun s w' => St w w' ([Bx 42 2 A3 [.int .i64 ((nl : Int) + 1), .slice s.B s.n s.c], Bx 42 2 A2 [.int .i64 0, .slice none 0 0]] ++ mat 36 2 s.B s.n s.c s.rs s.xss) ∧ s.rs.length = s.n ∧ s.xss.length = s.n ∧ i + 1 ≤ s.k ∧ s.n + i + 1 ≤ 20 * i + s.k ∧ s.k + s.f = 20 ∧ s.xss ++ (presK labels (nl + 1) i s.f s.k ++ presI labels (nl + 1) f (i + 1)) = presP labels) (fun s => s.f) ⟨f, i + 1, B, n, cB, rs, xss⟩ ⟨rfl, rfl, rfl, rfl, rfl, rfl, rfl, rfl, trivial⟩ ⟨hS4, hrl, hxl, Nat.le_refl _, by show n + i + 1 ≤ 20 * i + (i + 1); omega, by show i + 1 + f = 20; omega, hpre⟩ ?_
    rintro ⟨g, k, B, n, cB, rs, xss⟩ e w5 ⟨hS5, hrl, hxl, hik, hnk2, hkg, hpre⟩
    dsimp only at hS5 hrl hxl hik hnk2 hkg hpre ⊢
    refine Cd.seq ?_
    refine Cd.seq ?_
    refine Cd.region ?_
    refine Ops.mv_int rfl rfl rfl ?_
    refine Ops.mv_int rfl rfl rfl ?_
    refine Ops.lss rfl rfl rfl ?_
    refine Ops.nil ?_
    refine thenQ_n ?_
    refine Cd.cond_p _ rfl (fun h2 => ?_) (fun h2 => ?_)
    · obtain ⟨g, rfl⟩ : ∃ q, g = q + 1 := ⟨g - 1, by omega⟩
      rw [presK, if_pos (by omega)] at hpre
      have hLb : ∃ L : Int, L = (if k = i + 1 then gi labels (i : Int) else 2) ∧ 0 ≤ L ∧ L ≤ 32 := by
        refine ⟨_, rfl, ?_⟩
        split
        · have := hl (gi labels (i : Int)) (by rw [gi_mem (by omega)]; exact List.getElem_mem _)
          exact this
        · omega
      obtain ⟨L, hL, hL0, hL32⟩ := hLb
      refine Cd.skip ?_
      refine thenQ_n ?_
      refine Cd.seq ?_
      refine Cd.block ?_
      refine Cd.seq ?_
      refine Cd.region ?_
      refine Ops.mv_int rfl rfl rfl ?_
      refine Ops.nil ?_
      refine thenQ_n ?_
      refine Cd.join (α := Unit) (fun _ => [(0, .slice Al nl cl), (2, .pointer A2), (3, .int .i64 ((nl : Int) + 1)), (4, .pointer A3), (13, .int .i64 ((nl : Int) + 1)), (14, .int .i64 (i : Int)), (5, .int .i64 (i : Int)), (6, .int .i64 (k : Int)), (7, .int .i64 L)]) (fun _ w' => w' = w5) ?_ ?_
      · refine Cd.seq ?_
        refine Cd.region ?_
        refine Ops.mv_int rfl rfl rfl ?_
        refine Ops.mv_int rfl rfl rfl ?_
        refine Ops.add rfl rfl rfl (by omega) ?_
        refine Ops.eql rfl rfl rfl ?_
        refine Ops.nil ?_
        refine thenQ_n ?_
        refine Cd.cond_p _ rfl (fun h3 => ?_) (fun h3 => ?_)
        · have hRl := hS5.oldI hR
          refine Cd.region ?_
          refine Ops.mv_sl rfl rfl rfl ?_
          refine Ops.mv_int rfl rfl rfl ?_
          refine Ops.idx hRl.2 rfl rfl rfl (by omega) (by omega) ?_
          refine Ops.ld_int hRl rfl (by omega) rfl rfl ?_
          refine Ops.mv_int rfl rfl rfl ?_
          refine Ops.nil ?_
          refine thenQ_n ?_
          exact ⟨(), ⟨rfl, rfl, rfl, rfl, rfl, rfl, rfl, rfl, by rw [hL, if_pos (by omega)]; rfl, trivial⟩, rfl⟩
        · refine Cd.skip ?_
          refine thenQ_n ?_
          exact ⟨(), ⟨rfl, rfl, rfl, rfl, rfl, rfl, rfl, rfl, by rw [hL, if_neg (by omega)]; rfl, trivial⟩, rfl⟩
      · rintro ⟨⟩ e w6 rfl
        refine Cd.seq ?_
        refine Cd.region ?_
        refine Ops.mv_int rfl rfl rfl ?_
        refine Ops.gtr rfl rfl rfl ?_
        refine Ops.nil ?_
        refine thenQ_n ?_
        refine Cd.cond_p _ rfl (fun h4 => ?_) (fun h4 => ?_)
        · have hrel : relOf labels i k = [pow [(i : Int), (k : Int)] L.toNat] := by
            unfold relOf
            rw [← hL, if_pos h4]
          rw [hrel] at hpre
          skip
          refine Cd.drawN [8, 10] [.ex (.pointer (ptrAt (A3) 1)), .ex (.slice (B) (n) (cB)), .ex (.int .i64 ((i : Int))), .ex (.int .i64 ((k : Int))), .pr (fun v w' => ∃ A38, v = .slice A38 2 2 ∧ St w w' (CkI 2 A38 2 2 [(i : Int), (k : Int)] :: Bx 42 2 A3 [.int .i64 ((nl : Int) + 1), .slice B n cB] :: Bx 42 2 A2 [.int .i64 0, .slice none 0 0] :: mat 36 2 B n cB rs xss)), .ex (.int .i64 (L)), .pr (fun v w' => ∃ A40 c40, v = .slice A40 (2 * L.toNat) c40 ∧ St w w' (CkI 2 A40 (2 * L.toNat) c40 (pow [(i : Int), (k : Int)] L.toNat) :: Bx 42 2 A3 [.int .i64 ((nl : Int) + 1), .slice B n cB] :: Bx 42 2 A2 [.int .i64 0, .slice none 0 0] :: mat 36 2 B n cB rs xss)), .pr (fun v w' => ∃ A40 c40 A41, v = .slice A41 1 1 ∧ St w w' (CkR 36 A41 1 1 [⟨A40, 2 * L.toNat, c40⟩] :: CkI 2 A40 (2 * L.toNat) c40 (pow [(i : Int), (k : Int)] L.toNat) :: Bx 42 2 A3 [.int .i64 ((nl : Int) + 1), .slice B n cB] :: Bx 42 2 A2 [.int .i64 0, .slice none 0 0] :: mat 36 2 B n cB rs xss)), .pr (fun v w' => ∃ A40 c40 A42 c42, v = .slice A42 (n + 1) c42 ∧ St w w' (CkI 2 A40 (2 * L.toNat) c40 (pow [(i : Int), (k : Int)] L.toNat) :: Bx 42 2 A3 [.int .i64 ((nl : Int) + 1), .slice B n cB] :: Bx 42 2 A2 [.int .i64 0, .slice none 0 0] :: CkR 36 A42 (n + 1) c42 (rs ++ [⟨A40, 2 * L.toNat, c40⟩]) :: rowsCk 2 rs xss)), .ex (.pointer (ptrAt (A3) 1)), .pr (fun _ w' => ∃ A40 c40 A42 c42, St w w' (CkI 2 A40 (2 * L.toNat) c40 (pow [(i : Int), (k : Int)] L.toNat) :: Bx 42 2 A3 [.int .i64 ((nl : Int) + 1), .slice A42 (n + 1) c42] :: Bx 42 2 A2 [.int .i64 0, .slice none 0 0] :: CkR 36 A42 (n + 1) c42 (rs ++ [⟨A40, 2 * L.toNat, c40⟩]) :: rowsCk 2 rs xss))] (by kernel_rfl) (by kernel_rfl) (List.forall_mem_cons.2 ⟨Yd.lasts_ex _, (List.forall_mem_cons.2 ⟨Yd.lasts_ex _, (List.forall_mem_cons.2 ⟨Yd.lasts_ex _, (List.forall_mem_cons.2 ⟨Yd.lasts_ex _, (List.forall_mem_cons.2 ⟨Yd.lasts_pr (fun v w w' h hb => by obtain ⟨A38, hv, h1⟩ := h; exact ⟨A38, hv, h1.later hb⟩), (List.forall_mem_cons.2 ⟨Yd.lasts_ex _, (List.forall_mem_cons.2 ⟨Yd.lasts_pr (fun v w w' h hb => by obtain ⟨A40, c40, hv, h1⟩ := h; exact ⟨A40, c40, hv, h1.later hb⟩), (List.forall_mem_cons.2 ⟨Yd.lasts_pr (fun v w w' h hb => by obtain ⟨A40, c40, A41, hv, h1⟩ := h; exact ⟨A40, c40, A41, hv, h1.later hb⟩), (List.forall_mem_cons.2 ⟨Yd.lasts_pr (fun v w w' h hb => by obtain ⟨A40, c40, A42, c42, hv, h1⟩ := h; exact ⟨A40, c40, A42, c42, hv, h1.later hb⟩), (List.forall_mem_cons.2 ⟨Yd.lasts_ex _, (List.forall_mem_cons.2 ⟨Yd.lasts_pr (fun v w w' h hb => by obtain ⟨A40, c40, A42, c42, h1⟩ := h; exact ⟨A40, c40, A42, c42, h1.later hb⟩), (fun _ h => by cases h)⟩)⟩)⟩)⟩)⟩)⟩)⟩)⟩)⟩)⟩)⟩) ⟨?_, ?_, ?_, ?_, ?_, ?_, ?_, ?_, ?_, ?_, ?_, trivial⟩ ?_
          · intro e1 w1 cc hlo hhi hb0 hp hun hq
            show Ops _ _ _ _ _ _ _
            replace hlo := le_of_lo hlo (b := 0) (by kernel_rfl)
            replace hhi := le_of_hi hhi (b := 0) (by kernel_rfl)
            obtain rfl : cc = 0 := by omega
            have hb := hb0 rfl
            refine Ops.fld ((hS5.rd 0 rfl).below hb) rfl rfl rfl rfl inferInstance ?_
            refine Ops.nil ?_
            exact AfterN.dn rfl (Below.refl _ _) (by exact rfl)
          · intro e1 w1 cc hlo hhi hb0 hp hun hq
            show Ops _ _ _ _ _ _ _
            replace hlo := le_of_lo hlo (b := 0) (by kernel_rfl)
            replace hhi := le_of_hi hhi (b := 0) (by kernel_rfl)
            obtain rfl : cc = 0 := by omega
            have hb := hb0 rfl
            refine Ops.ldf_s ((hS5.rd 0 rfl).below hb) rfl rfl rfl rfl rfl ?_
            refine Ops.nil ?_
            exact AfterN.dn rfl (Below.refl _ _) (by exact rfl)
          · intro e1 w1 cc hlo hhi hb0 hp hun hq
            show Ops _ _ _ _ _ _ _
            refine Ops.mv_int rfl rfl rfl ?_
            refine Ops.nil ?_
            exact AfterN.dn rfl (Below.refl _ _) (by exact rfl)
          · intro e1 w1 cc hlo hhi hb0 hp hun hq
            show Ops _ _ _ _ _ _ _
            refine Ops.mv_int rfl rfl rfl ?_
            refine Ops.nil ?_
            exact AfterN.dn rfl (Below.refl _ _) (by exact rfl)
          · intro e1 w1 cc hlo hhi hb0 hp hun hq
            show Ops _ _ _ _ _ _ _
            replace hlo := le_of_lo hlo (b := 0) (by kernel_rfl)
            replace hhi := le_of_hi hhi (b := 0) (by kernel_rfl)
            obtain rfl : cc = 0 := by omega
            have hb := hb0 rfl
            refine Ops.bsL [(i : Int), (k : Int)] (St.refl _) rfl rfl (by decide) (by decide) rfl rfl ?_
            intro A38 w20 hst20
            refine Ops.nil ?_
            exact AfterN.dn rfl hst20.below ⟨A38, rfl, (hS5.later hb).call hst20⟩
          · intro e1 w1 cc hlo hhi hb0 hp hun hq
            show Ops _ _ _ _ _ _ _
            refine Ops.mv_int rfl rfl rfl ?_
            refine Ops.nil ?_
            exact AfterN.dn rfl (Below.refl _ _) (by exact rfl)
          · intro e1 w1 cc hlo hhi hb0 hp hun hq
            show Ops _ _ _ _ _ _ _
            replace hlo := le_of_lo hlo (b := 0) (by kernel_rfl)
            replace hhi := le_of_hi hhi (b := 0) (by kernel_rfl)
            obtain rfl : cc = 0 := by omega
            have hb := hb0 rfl
            obtain ⟨A38, hv, h1⟩ := (hp 4 _ _ (by kernel_rfl) rfl rfl (by kernel_rfl))
            have hb := hb0 rfl
            refine Ops.call (RepeatL_c A38 2 2 [(i : Int), (k : Int)] L.toNat _ (h1.rdI 0 rfl) (by decide) (by omega)) rfl (by rw [Int.toNat_of_nonneg hL0]; exact congrArg (fun v => [v, Value.int .i64 L]) hv) rfl ?_
            rintro _ w21 ⟨A40, rfl, hst21⟩
            refine Ops.nil ?_
            exact AfterN.dn rfl hst21.below ⟨A40, 2 * L.toNat, rfl, (h1.tail).call hst21⟩
          · intro e1 w1 cc hlo hhi hb0 hp hun hq
            show Ops _ _ _ _ _ _ _
            replace hlo := le_of_lo hlo (b := 0) (by kernel_rfl)
            replace hhi := le_of_hi hhi (b := 0) (by kernel_rfl)
            obtain rfl : cc = 0 := by omega
            have hb := hb0 rfl
            obtain ⟨A40, c40, hv, h1⟩ := (hp 6 _ _ (by kernel_rfl) rfl rfl (by kernel_rfl))
            have hb := hb0 rfl
            refine Ops.bs1R (St.refl _) (by exact hv) rfl rfl ?_
            intro A41 w22 hst22
            refine Ops.nil ?_
            exact AfterN.dn rfl hst22.below ⟨A40, c40, A41, rfl, h1.call hst22⟩
          · intro e1 w1 cc hlo hhi hb0 hp hun hq
            show Ops _ _ _ _ _ _ _
            replace hlo := le_of_lo hlo (b := 0) (by kernel_rfl)
            replace hhi := le_of_hi hhi (b := 0) (by kernel_rfl)
            obtain rfl : cc = 0 := by omega
            have hb := hb0 rfl
            obtain ⟨A40, c40, A41, hv, h1⟩ := (hp 7 _ _ (by kernel_rfl) rfl rfl (by kernel_rfl))
            refine Ops.appR 4 h1 rfl (h1.rdR 0 rfl) rfl (by exact hv) rfl (by omega) (by omega) rfl ?_
            intro A42 c42 w23 hT23
            refine Ops.nil ?_
            exact AfterT.dn rfl ⟨A40, c40, A42, c42, rfl, hT23.tail⟩
          · intro e1 w1 cc hlo hhi hb0 hp hun hq
            show Ops _ _ _ _ _ _ _
            replace hlo := le_of_lo hlo (b := 1) (by kernel_rfl)
            replace hhi := le_of_hi hhi (b := 1) (by kernel_rfl)
            obtain rfl : cc = 1 := by omega
            have hph := hp 8 _ _ (by kernel_rfl) rfl rfl (by kernel_rfl)
            obtain ⟨A40, c40, A42, c42, h42, hT⟩ := hph
            refine Ops.fld ((hT.rd 1 rfl)) rfl rfl rfl rfl inferInstance ?_
            refine Ops.nil ?_
            exact AfterN.dn rfl (Below.refl _ _) (by exact rfl)
          · intro e1 w1 cc hlo hhi hb0 hp hun hq
            show Ops _ _ _ _ _ _ _
            replace hlo := le_of_lo hlo (b := 1) (by kernel_rfl)
            replace hhi := le_of_hi hhi (b := 1) (by kernel_rfl)
            obtain rfl : cc = 1 := by omega
            have hph := hp 8 _ _ (by kernel_rfl) rfl rfl (by kernel_rfl)
            obtain ⟨A40, c40, A42, c42, h42, hT⟩ := hph
            refine Ops.stf 1 hT rfl rfl (by exact h42) rfl rfl ?_
            intro w24 hT24
            refine Ops.nil ?_
            exact AfterT.st rfl ⟨A40, c40, A42, c42, hT24⟩
          intro u w7 _ hu
          obtain ⟨A40, c40, A42, c42, hT⟩ := hu 10 _ rfl (by kernel_rfl)
          refine blockQ_n ?_
          refine thenQ_n ?_
          refine Cd.region ?_
          refine Ops.mv_int rfl rfl rfl ?_
          refine Ops.add rfl rfl rfl (by omega) ?_
          refine Ops.mv_int rfl rfl rfl ?_
          refine Ops.nil ?_
          refine thenQ_n ?_
          refine ⟨⟨g, k + 1, A42, n + 1, c42, rs ++ [⟨A40, 2 * L.toNat, c40⟩], xss ++ [pow [(i : Int), (k : Int)] L.toNat]⟩, Nat.lt_succ_self g, ⟨rfl, rfl, rfl, rfl, rfl, rfl, rfl, rfl, trivial⟩, ?_, by simp [hrl], by simp [hxl], by show i + 1 ≤ k + 1; omega, by show n + 1 + i + 1 ≤ 20 * i + (k + 1); omega, by show k + 1 + g = 20; omega, by rw [← hpre]; simp⟩
          show St w w7 ([Bx 42 2 A3 [.int .i64 ((nl : Int) + 1), .slice A42 (n + 1) c42], Bx 42 2 A2 [.int .i64 0, .slice none 0 0]] ++ CkR 36 A42 (n + 1) c42 (rs ++ [⟨A40, 2 * L.toNat, c40⟩]) :: rowsCk 2 (rs ++ [⟨A40, 2 * L.toNat, c40⟩]) (xss ++ [pow [(i : Int), (k : Int)] L.toNat]))
          rw [rowsCk_append (by omega)]
          refine hT.perm ?_
          exact List.perm_append_comm (l₁ := [_]) (l₂ := Bx 42 2 A3 [.int .i64 ((nl : Int) + 1), .slice A42 (n + 1) c42] :: Bx 42 2 A2 [.int .i64 0, .slice none 0 0] :: CkR 36 A42 (n + 1) c42 (rs ++ [⟨A40, 2 * L.toNat, c40⟩]) :: rowsCk 2 rs xss)
        · have hrel : relOf labels i k = [] := by
            unfold relOf
            rw [← hL, if_neg h4]
          rw [hrel] at hpre
          refine Cd.skip ?_
          refine blockQ_n ?_
          refine thenQ_n ?_
          refine Cd.region ?_
          refine Ops.mv_int rfl rfl rfl ?_
          refine Ops.add rfl rfl rfl (by omega) ?_
          refine Ops.mv_int rfl rfl rfl ?_
          refine Ops.nil ?_
          refine thenQ_n ?_
          exact ⟨⟨g, k + 1, B, n, cB, rs, xss⟩, Nat.lt_succ_self g, ⟨rfl, rfl, rfl, rfl, rfl, rfl, rfl, rfl, trivial⟩, hS5, hrl, hxl, by show i + 1 ≤ k + 1; omega, by show n + i + 1 ≤ 20 * i + (k + 1); omega, by show k + 1 + g = 20; omega, hpre⟩
    · have hkk : presK labels (nl + 1) i g k = [] := by
        cases g with
        | zero => rfl
        | succ g => rw [presK, if_neg (by omega)]
      rw [hkk] at hpre
      refine Cd.exit ?_
      refine thenQ_x ?_
      refine thenQ_x ?_
      refine blockQ_x ?_
      refine blockQ_n ?_
      refine thenQ_n ?_
      refine Cd.region ?_
      refine Ops.add rfl rfl rfl (by omega) ?_
      refine Ops.mv_int rfl rfl rfl ?_
      refine Ops.nil ?_
      refine thenQ_n ?_
      exact ⟨⟨f, i + 1, B, n, cB, rs, xss⟩, Nat.lt_succ_self f, ⟨rfl, rfl, rfl, rfl, rfl, rfl, trivial⟩, hS5, hrl, hxl, by show n ≤ 20 * (i + 1); omega, by show i + 1 + f = 20; omega, hpre⟩
  · have hii : presI labels (nl + 1) f i = [] := by
      cases f with
      | zero => rfl
      | succ f => rw [presI, if_neg (by omega)]
    rw [hii, List.append_nil] at hpre
    subst hpre
    refine Cd.exit ?_
    refine thenQ_x ?_
    refine thenQ_x ?_
    refine blockQ_x ?_
    refine thenQ_n ?_
    refine Cd.seq ?_
    refine Cd.region ?_
    refine Ops.ld_agg 1 (hS4.rd 0 rfl) rfl rfl rfl ?_
    skip
    refine Ops.st_agg 2 1 hS4 rfl rfl rfl rfl rfl rfl rfl ?_
    intro w5 hS5
    refine Ops.nil ?_
    refine thenQ_n ?_
    refine Cd.ret ?_
    skip
    refine retc_r rfl (hS5.rd 1 rfl) ?_
    refine ⟨B, cB, rs, by rw [hxl]; rfl, by omega, ?_⟩
    rw [hxl]
    exact (hS5.sub ((List.Sublist.refl _).cons _)).sub ((List.Sublist.refl _).cons _)

theorem withRelators_c (gens : Nat) (Ar : Option Addr) (nr cr : Nat) (rsr : List SlV) (rel : List (List Int)) (w : World) (hR : RowsI w Ar nr rsr rel) (hW : WordsOk (gens : Int) 1 rel) :
    Ret Try.prog 29 [.agg #[.int .i64 (gens : Int), .slice Ar nr cr], .slice none 0 0] w (fun v w' => ∃ B c rs, v = .tuple #[.agg #[.int .i64 (gens : Int), .slice B rel.length c], .int .i64 0] ∧ rs.length = rel.length ∧ St w w' (mat 36 2 B rel.length c rs rel)) := by
  have hrl := hR.len
  have hW1 := hW.1
  refine Ret.of_cd Try.func29 rfl Try.ntmps29 rfl (postc2 rfl rfl) ?_
  refine Cd.seq ?_
  refine Cd.region ?_
  refine Ops.box2 (St.refl w) rfl rfl ?_
  intro A2 w1 hS1
  refine Ops.new2 hS1 rfl ?_
  intro A4 w2 hS2
  refine Ops.mv_int rfl rfl rfl ?_
  refine Ops.nil ?_
  refine thenQ_n ?_
  refine Cd.seq ?_
  refine Cd.region ?_
  refine Ops.fld (hS2.rd 1 rfl) rfl rfl rfl rfl inferInstance ?_
  refine Ops.ldf_i (hS2.rd 1 rfl) rfl rfl rfl rfl rfl ?_
  skip
  refine Ops.bld0of2 (by exact inferInstance) (by exact inferInstance) rfl rfl rfl rfl rfl ?_
  refine Ops.new2 hS2 rfl ?_
  intro A6 w3 hS3
  skip
  refine Ops.st_agg 2 0 hS3 rfl rfl rfl rfl rfl rfl rfl ?_
  intro w4 hS4
  have hS4 : St w w4 [Bx 42 2 A6 [.int .i64 (gens : Int), .slice none 0 0], Bx 42 2 A4 [.int .i64 0, .slice none 0 0], Bx 42 2 A2 [.int .i64 (gens : Int), .slice Ar nr cr]] := hS4
  refine Ops.nil ?_
  refine thenQ_n ?_
  refine Cd.seq ?_
  refine Cd.seq ?_
  refine Cd.region ?_
  refine Ops.fld (hS4.rd 2 rfl) rfl rfl rfl rfl inferInstance ?_
  refine Ops.ldf_s (hS4.rd 2 rfl) rfl rfl rfl rfl rfl ?_
  refine Ops.mv_sl rfl rfl rfl ?_
  refine Ops.bs2 hS4 rfl rfl rfl rfl rfl rfl ?_
  intro A15 w5 hS5
  have hS5 : St w w5 (CkR 22 A15 2 2 [⟨Ar, nr, cr⟩, ⟨none, 0, 0⟩] :: [Bx 42 2 A6 [.int .i64 (gens : Int), .slice none 0 0], Bx 42 2 A4 [.int .i64 0, .slice none 0 0], Bx 42 2 A2 [.int .i64 (gens : Int), .slice Ar nr cr]]) := hS5
  refine Ops.call (Concat_c A15 Ar nr cr rsr _ (hS5.rdR 0 rfl) (hS5.oldR hR.top) (by omega)) rfl rfl rfl ?_
  rintro _ w6 ⟨A16, c16, rfl, hst6⟩
  have hS6 : St w w6 (CkR 36 A16 nr c16 rsr :: CkR 22 A15 2 2 [⟨Ar, nr, cr⟩, ⟨none, 0, 0⟩] :: [Bx 42 2 A6 [.int .i64 (gens : Int), .slice none 0 0], Bx 42 2 A4 [.int .i64 0, .slice none 0 0], Bx 42 2 A2 [.int .i64 (gens : Int), .slice Ar nr cr]]) := hS5.call hst6
  have hS6 : St w w6 [CkR 36 A16 nr c16 rsr, Bx 42 2 A6 [.int .i64 (gens : Int), .slice none 0 0], Bx 42 2 A4 [.int .i64 0, .slice none 0 0]] := hS6.sub (List.Sublist.cons_cons _ (List.Sublist.cons _ (List.Sublist.cons_cons _ (List.Sublist.cons_cons _ (List.nil_sublist _)))))
  have hS6 : St w w6 [Bx 42 2 A6 [.int .i64 (gens : Int), .slice none 0 0], CkR 36 A16 nr c16 rsr, Bx 42 2 A4 [.int .i64 0, .slice none 0 0]] := hS6.perm (List.Perm.swap _ _ _)
  have hS7 : St w w6 (CkR 36 none 0 0 [] :: [Bx 42 2 A6 [.int .i64 (gens : Int), .slice none 0 0], CkR 36 A16 nr c16 rsr, Bx 42 2 A4 [.int .i64 0, .slice none 0 0]]) := hS6.nil _
  have hS8 : St w w6 ([Bx 42 2 A6 [.int .i64 (gens : Int), .slice none 0 0], CkR 36 A16 nr c16 rsr, Bx 42 2 A4 [.int .i64 0, .slice none 0 0]] ++ mat 36 2 none 0 0 [] []) := hS7.perm (List.perm_append_comm (l₁ := [_]) (l₂ := [_, _, _]))
  refine Ops.len rfl rfl ?_
  refine Ops.mv_int rfl rfl rfl ?_
  refine Ops.nil ?_
  refine thenQ_n ?_
  refine Cd.block ?_
  refine Cd.loop (α := PrS) (fun s => [(4, .pointer A4), (6, .pointer A6), (16, .slice A16 nr c16), (17, .int .i64 (nr : Int)), (18, .int .i64 (s.n : Int))]) (fun s w' => St w w' ([Bx 42 2 A6 [.int .i64 (gens : Int), .slice s.B s.n s.c], CkR 36 A16 nr c16 rsr, Bx 42 2 A4 [.int .i64 0, .slice none 0 0]] ++ mat 36 2 s.B s.n s.c s.rs s.xss) ∧ s.rs.length = s.n ∧ s.xss.length = s.n ∧ s.n ≤ nr ∧ s.xss ++ rel.drop s.n = rel) (fun s => nr - s.n) ⟨0, 0, none, 0, 0, [], []⟩ ⟨rfl, rfl, rfl, rfl, rfl, trivial⟩ ⟨hS8, rfl, rfl, Nat.zero_le _, rfl⟩ ?_
  rintro ⟨f0, k0, B, i, cB, rs, xss⟩ e w7 ⟨hS7, hrs, hxl, hi, hpre⟩
  dsimp only at hS7 hrs hxl hi hpre ⊢
  have hC7 := hS7.rdR 1 rfl
  have hR7 := hS7.oldRows hR
  refine Cd.seq ?_
  refine Cd.region ?_
  refine Ops.lss rfl rfl rfl ?_
  refine Ops.nil ?_
  refine thenQ_n ?_
  refine Cd.seq ?_
  refine Cd.cond_p _ rfl (fun h1 => ?_) (fun h1 => ?_)
  · have hrow := hR7.at_ (i := (i : Int)) (by omega) (by omega)
    have hx := hW.2 (gl rel (i : Int)) (gl_in (by omega) (by omega))
    have hrw := hrow.1
    refine Cd.skip ?_
    refine thenQ_n ?_
    refine Cd.seq ?_
    refine Cd.block ?_
    refine Cd.seq ?_
    refine Cd.region ?_
    refine Ops.idx hC7.2 rfl rfl rfl (by omega) (by omega) ?_
    refine Ops.ld_sl hC7 rfl (by omega) rfl rfl ?_
    refine Ops.mv_sl rfl rfl rfl ?_
    refine Ops.nil ?_
    refine thenQ_n ?_
    refine Cd.seq ?_
    refine Cd.region ?_
    refine Ops.mv_sl rfl rfl rfl ?_
    refine Ops.len rfl rfl ?_
    refine Ops.gtr rfl rfl rfl ?_
    refine Ops.nil ?_
    refine thenQ_n ?_
    refine Cd.cond_pt rfl (by omega) ?_
    skip
    refine Cd.drawN [5, 7] [.ex (.pointer (ptrAt (A6) 1)), .ex (.slice (B) (i) (cB)), .ex (.slice ((rg rsr (i : Int)).a) ((rg rsr (i : Int)).n) ((rg rsr (i : Int)).c)), .pr (fun v w' => ∃ A28 c28, v = .slice A28 (rg rsr (i : Int)).n c28 ∧ St w w' (CkI 2 A28 (rg rsr (i : Int)).n c28 (gl rel (i : Int)) :: Bx 42 2 A6 [.int .i64 (gens : Int), .slice B i cB] :: CkR 36 A16 nr c16 rsr :: Bx 42 2 A4 [.int .i64 0, .slice none 0 0] :: mat 36 2 B i cB rs xss)), .pr (fun v w' => ∃ A28 c28 A29, v = .slice A29 1 1 ∧ St w w' (CkR 36 A29 1 1 [⟨A28, (rg rsr (i : Int)).n, c28⟩] :: CkI 2 A28 (rg rsr (i : Int)).n c28 (gl rel (i : Int)) :: Bx 42 2 A6 [.int .i64 (gens : Int), .slice B i cB] :: CkR 36 A16 nr c16 rsr :: Bx 42 2 A4 [.int .i64 0, .slice none 0 0] :: mat 36 2 B i cB rs xss)), .pr (fun v w' => ∃ A28 c28 A30 c30, v = .slice A30 (i + 1) c30 ∧ St w w' (CkI 2 A28 (rg rsr (i : Int)).n c28 (gl rel (i : Int)) :: Bx 42 2 A6 [.int .i64 (gens : Int), .slice B i cB] :: CkR 36 A16 nr c16 rsr :: Bx 42 2 A4 [.int .i64 0, .slice none 0 0] :: CkR 36 A30 (i + 1) c30 (rs ++ [⟨A28, (rg rsr (i : Int)).n, c28⟩]) :: rowsCk 2 rs xss)), .ex (.pointer (ptrAt (A6) 1)), .pr (fun _ w' => ∃ A28 c28 A30 c30, St w w' (CkI 2 A28 (rg rsr (i : Int)).n c28 (gl rel (i : Int)) :: Bx 42 2 A6 [.int .i64 (gens : Int), .slice A30 (i + 1) c30] :: CkR 36 A16 nr c16 rsr :: Bx 42 2 A4 [.int .i64 0, .slice none 0 0] :: CkR 36 A30 (i + 1) c30 (rs ++ [⟨A28, (rg rsr (i : Int)).n, c28⟩]) :: rowsCk 2 rs xss))] (by kernel_rfl) (by kernel_rfl) (List.forall_mem_cons.2 ⟨Yd.lasts_ex _, (List.forall_mem_cons.2 ⟨Yd.lasts_ex _, (List.forall_mem_cons.2 ⟨Yd.lasts_ex _, (List.forall_mem_cons.2 ⟨Yd.lasts_pr (fun v w w' h hb => by obtain ⟨A28, c28, hv, h1⟩ := h; exact ⟨A28, c28, hv, h1.later hb⟩), (List.forall_mem_cons.2 ⟨Yd.lasts_pr (fun v w w' h hb => by obtain ⟨A28, c28, A29, hv, h1⟩ := h; exact ⟨A28, c28, A29, hv, h1.later hb⟩), (List.forall_mem_cons.2 ⟨Yd.lasts_pr (fun v w w' h hb => by obtain ⟨A28, c28, A30, c30, hv, h1⟩ := h; exact ⟨A28, c28, A30, c30, hv, h1.later hb⟩), (List.forall_mem_cons.2 ⟨Yd.lasts_ex _, (List.forall_mem_cons.2 ⟨Yd.lasts_pr (fun v w w' h hb => by obtain ⟨A28, c28, A30, c30, h1⟩ := h; exact ⟨A28, c28, A30, c30, h1.later hb⟩), (fun _ h => by cases h)⟩)⟩)⟩)⟩)⟩)⟩)⟩)⟩) ⟨?_, ?_, ?_, ?_, ?_, ?_, ?_, ?_, trivial⟩ ?_
    · intro e1 w1 cc hlo hhi hb0 hp hun hq
      show Ops _ _ _ _ _ _ _
      replace hlo := le_of_lo hlo (b := 0) (by kernel_rfl)
      replace hhi := le_of_hi hhi (b := 0) (by kernel_rfl)
      obtain rfl : cc = 0 := by omega
      have hb := hb0 rfl
      refine Ops.fld ((hS7.rd 0 rfl).below hb) rfl rfl rfl rfl inferInstance ?_
      refine Ops.nil ?_
      exact AfterN.dn rfl (Below.refl _ _) (by exact rfl)
    · intro e1 w1 cc hlo hhi hb0 hp hun hq
      show Ops _ _ _ _ _ _ _
      replace hlo := le_of_lo hlo (b := 0) (by kernel_rfl)
      replace hhi := le_of_hi hhi (b := 0) (by kernel_rfl)
      obtain rfl : cc = 0 := by omega
      have hb := hb0 rfl
      refine Ops.ldf_s ((hS7.rd 0 rfl).below hb) rfl rfl rfl rfl rfl ?_
      refine Ops.nil ?_
      exact AfterN.dn rfl (Below.refl _ _) (by exact rfl)
    · intro e1 w1 cc hlo hhi hb0 hp hun hq
      show Ops _ _ _ _ _ _ _
      refine Ops.mv_sl rfl rfl rfl ?_
      refine Ops.nil ?_
      exact AfterN.dn rfl (Below.refl _ _) (by exact rfl)
    · intro e1 w1 cc hlo hhi hb0 hp hun hq
      show Ops _ _ _ _ _ _ _
      replace hlo := le_of_lo hlo (b := 0) (by kernel_rfl)
      replace hhi := le_of_hi hhi (b := 0) (by kernel_rfl)
      obtain rfl : cc = 0 := by omega
      have hb := hb0 rfl
      have hb := hb0 rfl
      refine Ops.call (Clone_c _ _ _ (gl rel (i : Int)) _ (hrow.later hb) (by omega)) rfl rfl rfl ?_
      rintro _ w8 ⟨A28, c28, rfl, hst⟩
      refine Ops.nil ?_
      exact AfterN.dn rfl hst.below ⟨A28, c28, rfl, (hS7.later hb).call hst⟩
    · intro e1 w1 cc hlo hhi hb0 hp hun hq
      show Ops _ _ _ _ _ _ _
      replace hlo := le_of_lo hlo (b := 0) (by kernel_rfl)
      replace hhi := le_of_hi hhi (b := 0) (by kernel_rfl)
      obtain rfl : cc = 0 := by omega
      have hb := hb0 rfl
      obtain ⟨A28, c28, hv, h1⟩ := (hp 3 _ _ (by kernel_rfl) rfl rfl (by kernel_rfl))
      have hb := hb0 rfl
      refine Ops.bs1R (St.refl _) (by exact hv) rfl rfl ?_
      intro A29 w22 hst22
      refine Ops.nil ?_
      exact AfterN.dn rfl hst22.below ⟨A28, c28, A29, rfl, h1.call hst22⟩
    · intro e1 w1 cc hlo hhi hb0 hp hun hq
      show Ops _ _ _ _ _ _ _
      replace hlo := le_of_lo hlo (b := 0) (by kernel_rfl)
      replace hhi := le_of_hi hhi (b := 0) (by kernel_rfl)
      obtain rfl : cc = 0 := by omega
      have hb := hb0 rfl
      obtain ⟨A28, c28, A29, hv, h1⟩ := (hp 4 _ _ (by kernel_rfl) rfl rfl (by kernel_rfl))
      refine Ops.appR 5 h1 rfl (h1.rdR 0 rfl) rfl (by exact hv) rfl (by omega) (by omega) rfl ?_
      intro A30 c30 w23 hT23
      refine Ops.nil ?_
      exact AfterT.dn rfl ⟨A28, c28, A30, c30, rfl, hT23.tail⟩
    · intro e1 w1 cc hlo hhi hb0 hp hun hq
      show Ops _ _ _ _ _ _ _
      replace hlo := le_of_lo hlo (b := 1) (by kernel_rfl)
      replace hhi := le_of_hi hhi (b := 1) (by kernel_rfl)
      obtain rfl : cc = 1 := by omega
      have hph := hp 5 _ _ (by kernel_rfl) rfl rfl (by kernel_rfl)
      obtain ⟨A28, c28, A30, c30, h42, hT⟩ := hph
      refine Ops.fld ((hT.rd 1 rfl)) rfl rfl rfl rfl inferInstance ?_
      refine Ops.nil ?_
      exact AfterN.dn rfl (Below.refl _ _) (by exact rfl)
    · intro e1 w1 cc hlo hhi hb0 hp hun hq
      show Ops _ _ _ _ _ _ _
      replace hlo := le_of_lo hlo (b := 1) (by kernel_rfl)
      replace hhi := le_of_hi hhi (b := 1) (by kernel_rfl)
      obtain rfl : cc = 1 := by omega
      have hph := hp 5 _ _ (by kernel_rfl) rfl rfl (by kernel_rfl)
      obtain ⟨A28, c28, A30, c30, h42, hT⟩ := hph
      refine Ops.stf 1 hT rfl rfl (by exact h42) rfl rfl ?_
      intro w24 hT24
      refine Ops.nil ?_
      exact AfterT.st rfl ⟨A28, c28, A30, c30, hT24⟩
    intro u w8 _ hu
    obtain ⟨A28, c28, A30, c30, hT⟩ := hu 7 _ rfl (by kernel_rfl)
    refine blockQ_n ?_
    refine thenQ_n ?_
    refine Cd.region ?_
    refine Ops.add rfl rfl rfl (by omega) ?_
    refine Ops.mv_int rfl rfl rfl ?_
    refine Ops.nil ?_
    refine thenQ_n ?_
    refine ⟨⟨f0, k0, A30, i + 1, c30, rs ++ [⟨A28, (rg rsr (i : Int)).n, c28⟩], xss ++ [gl rel (i : Int)]⟩, by show nr - (i + 1) < nr - i; omega, ⟨rfl, rfl, rfl, rfl, rfl, trivial⟩, ?_, by simp [hrs], by simp [hxl], by show i + 1 ≤ nr; omega, ?_⟩
    · show St w w8 ([Bx 42 2 A6 [.int .i64 (gens : Int), .slice A30 (i + 1) c30], CkR 36 A16 nr c16 rsr, Bx 42 2 A4 [.int .i64 0, .slice none 0 0]] ++ CkR 36 A30 (i + 1) c30 (rs ++ [⟨A28, (rg rsr (i : Int)).n, c28⟩]) :: rowsCk 2 (rs ++ [⟨A28, (rg rsr (i : Int)).n, c28⟩]) (xss ++ [gl rel (i : Int)]))
      rw [rowsCk_append (by omega)]
      refine hT.perm ?_
      exact List.perm_append_comm (l₁ := [_]) (l₂ := Bx 42 2 A6 [.int .i64 (gens : Int), .slice A30 (i + 1) c30] :: CkR 36 A16 nr c16 rsr :: Bx 42 2 A4 [.int .i64 0, .slice none 0 0] :: CkR 36 A30 (i + 1) c30 (rs ++ [⟨A28, (rg rsr (i : Int)).n, c28⟩]) :: rowsCk 2 rs xss)
    · show (xss ++ [gl rel (i : Int)]) ++ rel.drop (i + 1) = rel
      rw [List.drop_eq_getElem_cons (by omega), ← gl_mem (by omega)] at hpre
      rw [List.append_assoc]
      exact hpre
  · obtain rfl : i = nr := by omega
    rw [List.drop_eq_nil_of_le (by omega), List.append_nil] at hpre
    subst hpre
    refine Cd.exit ?_
    refine thenQ_x ?_
    refine thenQ_x ?_
    refine blockQ_x ?_
    refine thenQ_n ?_
    refine Cd.seq ?_
    refine Cd.seq ?_
    refine Cd.region ?_
    refine Ops.fld (hS7.rd 0 rfl) rfl rfl rfl rfl inferInstance ?_
    refine Ops.ldf_s (hS7.rd 0 rfl) rfl rfl rfl rfl rfl ?_
    refine Ops.len rfl rfl ?_
    refine Ops.gtr rfl rfl rfl ?_
    refine Ops.nil ?_
    refine thenQ_n ?_
    refine Cd.cond_pf rfl (by omega) ?_
    refine Cd.skip ?_
    refine thenQ_n ?_
    refine Cd.seq ?_
    refine Cd.region ?_
    refine Ops.ld_agg 1 (hS7.rd 0 rfl) rfl rfl rfl ?_
    refine Ops.st_agg 2 2 hS7 rfl rfl rfl rfl rfl rfl rfl ?_
    intro w9 hS9
    refine Ops.mv_int rfl rfl rfl ?_
    refine Ops.nil ?_
    refine thenQ_n ?_
    refine Cd.ret ?_
    skip
    refine retc2_r rfl (hS9.rd 2 rfl) rfl ?_
    refine ⟨B, cB, rs, by rw [hxl]; rfl, by omega, ?_⟩
    rw [hxl]
    exact ((hS9.sub ((List.Sublist.refl _).cons _)).sub ((List.Sublist.refl _).cons _)).sub ((List.Sublist.refl _).cons _)

/-- what a diagram gives in the program -/
structure UniI (labels : List Int) (T : List (List Int)) : Prop where
  len : labels.length < 5
  lab : ∀ x ∈ labels, x = 0 ∨ (2 ≤ x ∧ x ≤ 32)
  words : WordsOk ((labels.length + 1 : Nat) : Int) 1 (presP labels)
  tab : tableI (labels.length + 1) (presP labels) = some T
  mani : Mani T

theorem implUniversalPolytope_c (Al : Option Addr) (nl cl : Nat) (labels : List Int) (T : List (List Int)) (w : World) (hR : RdI w Al nl labels) (hU : UniI labels T) :
    Ret Try.prog 16 [.slice Al nl cl, .slice none 0 0] w (AnsX T 0 w) := by
  obtain ⟨u1, u2, u3, u4, u5⟩ := hU
  have hll := hR.1
  have hT5 := u5.1
  have hT40 := u5.2.1
  rw [hll] at u1 u3 u4
  refine Ret.of_cd Try.func16 rfl Try.ntmps16 rfl (postc2 rfl rfl) ?_
  refine Cd.seq ?_
  refine Cd.region ?_
  refine Ops.new1 (St.refl w) rfl ?_
  intro A4 w1 hS1
  refine Ops.mv_int rfl rfl rfl ?_
  refine Ops.nil ?_
  refine thenQ_n ?_
  refine Cd.seq ?_
  refine Cd.seq ?_
  refine Cd.region ?_
  refine Ops.mv_sl rfl rfl rfl ?_
  refine Ops.call (isDiagram_c Al nl cl labels _ (hS1.oldI hR) u1 u2) rfl rfl rfl ?_
  rintro _ w2 ⟨rfl, hst2⟩
  have hS2 := hS1.later hst2.below
  first | refine Ops.not_p rfl rfl ?_ | refine Ops.not rfl rfl ?_
  refine Ops.nil ?_
  refine thenQ_n ?_
  refine Cd.cond_f rfl ?_
  refine Cd.skip ?_
  refine thenQ_n ?_
  refine Cd.seq ?_
  refine Cd.region ?_
  refine Ops.mv_sl rfl rfl rfl ?_
  refine Ops.call (coxeterPresentation_c Al nl cl labels _ (hS2.oldI hR) (by omega) (fun x hx => by have := u2 x hx; omega)) rfl rfl rfl ?_
  rintro _ w3 ⟨B, c, rs, rfl, hrl, hst3⟩
  have hS3 := hS2.call hst3
  skip
  refine Ops.new2 hS3 rfl ?_
  intro A6 w4 hS4
  skip
  refine Ops.st_agg 2 0 hS4 rfl rfl rfl rfl rfl rfl rfl ?_
  intro w5 hS5
  have hgens : ((nl : Int) + 1) = ((nl + 1 : Nat) : Int) := by omega
  have hS5 : St w w5 (Bx 42 2 A6 [.int .i64 ((nl + 1 : Nat) : Int), .slice B (presP labels).length c] :: (mat 36 2 B (presP labels).length c rs (presP labels) ++ [Bx 24 1 A4 [.slice none 0 0]])) := by
    rw [← hgens]
    exact hS5
  have hRp : RowsI w5 B (presP labels).length rs (presP labels) := St.rowsI hS5.tail rfl
  refine Ops.nil ?_
  refine thenQ_n ?_
  refine Cd.seq ?_
  refine Cd.seq ?_
  refine Cd.region ?_
  refine Ops.ld_agg 1 (hS5.rd 0 rfl) rfl rfl rfl ?_
  refine Ops.mv_sl rfl rfl rfl ?_
  refine Ops.call (subgroupCode_c (nl + 1) B (presP labels).length c rs (presP labels) _ hRp (by omega) u3) rfl rfl rfl ?_
  rintro _ w6 ⟨rfl, hst6⟩
  have hS6 := hS5.later hst6.below
  refine Ops.mv_int rfl rfl rfl ?_
  refine Ops.nil ?_
  refine thenQ_n ?_
  refine Cd.seq ?_
  refine Cd.region ?_
  refine Ops.mv_int rfl rfl rfl ?_
  refine Ops.neq rfl rfl rfl ?_
  refine Ops.nil ?_
  refine thenQ_n ?_
  refine Cd.cond_pf rfl (fun h => h rfl) ?_
  refine Cd.skip ?_
  refine thenQ_n ?_
  refine Cd.seq ?_
  refine Cd.region ?_
  refine Ops.ld_agg 1 (hS6.rd 0 rfl) rfl rfl rfl ?_
  refine Ops.mv_sl rfl rfl rfl ?_
  refine Ops.call (withRelators_c (nl + 1) B (presP labels).length c rs (presP labels) _ (hRp.later hst6.below) u3) rfl rfl rfl ?_
  rintro _ w7 ⟨B2, c2, rs2, rfl, hrl2, hst7⟩
  have hS7 := hS6.call hst7
  have hS7 : St w w7 ([Bx 42 2 A6 [.int .i64 ((nl + 1 : Nat) : Int), .slice B (presP labels).length c], Bx 24 1 A4 [.slice none 0 0]] ++ mat 36 2 B2 (presP labels).length c2 rs2 (presP labels)) := by
    refine St.perm (hS7.sub (List.Sublist.append_left (List.Sublist.cons_cons _ (List.sublist_append_right _ _)) _)) ?_
    exact List.perm_append_comm
  refine Ops.mv_tup rfl rfl rfl ?_
  refine Ops.extract rfl rfl rfl ?_
  refine Ops.extract rfl rfl rfl ?_
  refine Ops.st_agg 2 0 hS7 rfl rfl rfl rfl rfl rfl rfl ?_
  intro w8 hS8
  have hS8 : St w w8 ([Bx 42 2 A6 [.int .i64 ((nl + 1 : Nat) : Int), .slice B2 (presP labels).length c2], Bx 24 1 A4 [.slice none 0 0]] ++ mat 36 2 B2 (presP labels).length c2 rs2 (presP labels)) := hS8
  have hRq : RowsI w8 B2 (presP labels).length rs2 (presP labels) := St.rowsI (ks := []) (by rw [List.append_nil]; exact hS8.sub (List.sublist_append_right _ _)) rfl
  refine Ops.mv_int rfl rfl rfl ?_
  refine Ops.nil ?_
  refine thenQ_n ?_
  refine Cd.seq ?_
  refine Cd.seq ?_
  refine Cd.region ?_
  refine Ops.mv_int rfl rfl rfl ?_
  refine Ops.neq rfl rfl rfl ?_
  refine Ops.nil ?_
  refine thenQ_n ?_
  refine Cd.cond_pf rfl (fun h => h rfl) ?_
  refine Cd.skip ?_
  refine thenQ_n ?_
  refine Cd.seq ?_
  refine Cd.region ?_
  refine Ops.ld_agg 1 (hS8.rd 0 rfl) rfl rfl rfl ?_
  skip
  refine Ops.call (cosetTable_c (nl + 1) B2 (presP labels).length c2 rs2 (presP labels) T _ hRq (fun x hx => by have := (u3.2 x hx).2.1; omega) (by have := u3.1; omega) (by omega) u4 (by omega) (by omega)) rfl rfl rfl ?_
  rintro _ w9 ⟨A, cA, rsA, rfl, hrlA, hst9⟩
  have hS9 := hS8.call hst9
  have hS9 : St w w9 (mat 36 2 A T.length cA rsA T ++ [Bx 24 1 A4 [.slice none 0 0]]) := hS9.sub (List.Sublist.append_left (List.Sublist.cons _ (List.sublist_append_left [_] _)) _)
  refine Ops.mv_tup rfl rfl rfl ?_
  refine Ops.extract rfl rfl rfl ?_
  refine Ops.extract rfl rfl rfl ?_
  refine Ops.mv_sl rfl rfl rfl ?_
  refine Ops.mv_int rfl rfl rfl ?_
  refine Ops.nil ?_
  refine thenQ_n ?_
  refine Cd.seq ?_
  refine Cd.region ?_
  refine Ops.mv_sl rfl rfl rfl ?_
  refine Ops.bld1 (by exact inferInstance) rfl rfl rfl rfl ?_
  refine Ops.new1 hS9 rfl ?_
  intro A10 w10 hS10
  skip
  refine Ops.st_agg 1 0 hS10 rfl rfl rfl rfl rfl rfl rfl ?_
  intro w11 hS11
  have hS11 : St w w11 (Bx 24 1 A10 [.slice A T.length cA] :: (mat 36 2 A T.length cA rsA T ++ [Bx 24 1 A4 [.slice none 0 0]])) := hS11
  have hRT : RowsI w11 A T.length rsA T := St.rowsI hS11.tail rfl
  refine Ops.nil ?_
  refine thenQ_n ?_
  refine Cd.block ?_
  refine Cd.seq ?_
  refine Cd.region ?_
  refine Ops.mv_int rfl rfl rfl ?_
  refine Ops.neq rfl rfl rfl ?_
  refine Ops.mv_bool rfl rfl rfl ?_
  refine Ops.nil ?_
  refine thenQ_n ?_
  refine Cd.cond_pf rfl (fun h => h rfl) ?_
  refine Cd.seq ?_
  refine Cd.region ?_
  refine Ops.ld_agg 0 (hS11.rd 0 rfl) rfl rfl rfl ?_
  have hcap := (hS11.tail).cap 0 rfl
  dsimp only [CkR] at hcap
  simp only [maxLen] at hcap
  refine Ops.call (isManiplex_c A T.length cA rsA T _ hRT (by omega) (by omega)) rfl rfl rfl ?_
  rintro _ w12 ⟨rfl, hst12⟩
  have hS12 := hS11.later hst12.below
  have hS13 : St w w12 ([Bx 24 1 A10 [.slice A T.length cA], Bx 24 1 A4 [.slice none 0 0]] ++ mat 36 2 A T.length cA rsA T) := hS12.perm (List.Perm.cons _ (List.perm_append_comm (l₂ := [_])))
  first | refine Ops.not_p rfl rfl ?_ | refine Ops.not rfl rfl ?_
  refine Ops.mv_bool rfl rfl rfl ?_
  refine Ops.nil ?_
  refine thenQ_n ?_
  refine Cd.cond_pf rfl (fun h => h u5) ?_
  refine Cd.seq ?_
  refine Cd.region ?_
  refine Ops.ld_agg 0 (hS13.rd 0 rfl) rfl rfl rfl ?_
  refine Ops.st_agg 1 1 hS13 rfl rfl rfl rfl rfl rfl rfl ?_
  intro w14 hS14
  refine Ops.mv_int rfl rfl rfl ?_
  refine Ops.nil ?_
  refine thenQ_n ?_
  refine Cd.ret ?_
  refine blockQ_r ?_
  skip
  refine retc2_r rfl (hS14.rd 1 rfl) rfl ?_
  exact ⟨A, cA, rsA, rfl, hrlA, (hS14.sub ((List.Sublist.refl _).cons _)).sub ((List.Sublist.refl _).cons _)⟩
end Go.Proofs.Ytjpkmpihmilgoaa.Vc
/-
  Universal polytopes of small diagrams, computed. Conditions: none.
-/
namespace Go.Proofs.Ytjpkmpihmilgoaa.Vc
open Go.RowKit

def uniT (labels : List Int) : List (List Int) := (tableP (labels.length + 1) (presP labels)).getD []
def uniB (labels : List Int) : Bool := decide (labels.length < 5) && decide (∀ x ∈ labels, x = 0 ∨ (2 ≤ x ∧ x ≤ 32)) && decide (WordsOk ((labels.length + 1 : Nat) : Int) 1 (presP labels)) && (tableP (labels.length + 1) (presP labels)).isSome && decide (Mani (uniT labels))
theorem uniOk {labels : List Int} (h : uniB labels = true) : UniOk labels (uniT labels) := by
  simp only [uniB, Bool.and_eq_true, decide_eq_true_eq] at h
  obtain ⟨⟨⟨⟨h1, h2⟩, h3⟩, h4⟩, h5⟩ := h
  refine ⟨h1, h2, h3, ?_, h5⟩
  obtain ⟨T, hT⟩ := Option.isSome_iff_exists.1 h4
  rw [hT, uniT, hT]
  rfl
set_option maxRecDepth 100000 in
theorem uni_3 : uniB [3] = true := by kernel_rfl
end Go.Proofs.Ytjpkmpihmilgoaa.Vc
/-
  The laws' marks over lists of lists, told exactly. Conditions: as each states them.
-/
namespace Go.Proofs.Ytjpkmpihmilgoaa.Vc
open Go.RowKit

def tot (xss : List (List Int)) : Int := ((xss.map List.length).sum : Nat)
theorem tot_snoc (xs : List (List Int)) (x : List Int) : tot (xs ++ [x]) = tot xs + x.length := by simp [tot]
theorem tot_le {b : Nat} : ∀ (xs : List (List Int)), (∀ x ∈ xs, x.length ≤ b) → 0 ≤ tot xs ∧ tot xs ≤ (xs.length * b : Nat)
  | [], _ => by simp [tot]
  | x :: xs, h => by
    have h1 := tot_le xs (fun y hy => h y (by simp [hy]))
    have h2 := h x (by simp)
    have e : tot (x :: xs) = x.length + tot xs := by simp [tot]
    rw [e, List.length_cons, Nat.succ_mul]
    omega
def mkSS (k : Int) : List (List Int) → List (List Int)
  | [] => []
  | x :: xs => marks k x.length :: mkSS (k + x.length) xs
theorem mkSS_len : ∀ (xs : List (List Int)) (k : Int), (mkSS k xs).length = xs.length
  | [], _ => rfl
  | _ :: xs, k => by simp [mkSS, mkSS_len xs]
theorem mkSS_snoc (x : List Int) : ∀ (xs : List (List Int)) (k : Int), mkSS k (xs ++ [x]) = mkSS k xs ++ [marks (k + tot xs) x.length]
  | [], k => by simp [mkSS, tot]
  | y :: xs, k => by
    have e : tot (y :: xs) = y.length + tot xs := by simp [tot]
    simp only [List.cons_append, mkSS]
    rw [mkSS_snoc x xs, e, Int.add_assoc]
theorem mkSS_get {xs : List (List Int)} {k : Int} {i : Nat} (hi : i < xs.length) : (mkSS k xs)[i]? = some (marks (k + tot (xs.take i)) xs[i].length) := by
  have h1 : xs = (xs.take i ++ [xs[i]]) ++ xs.drop (i + 1) := by rw [← List.take_succ_eq_append_getElem hi, List.take_append_drop]
  have gen : ∀ (a b : List (List Int)) (k : Int), ∃ r, mkSS k (a ++ b) = mkSS k a ++ r := by
    intro a
    induction a with
    | nil => intro b k; exact ⟨_, rfl⟩
    | cons y a ih =>
      intro b k
      obtain ⟨r, hr⟩ := ih b (k + y.length)
      exact ⟨r, by simp only [List.cons_append, mkSS]; rw [hr]⟩
  obtain ⟨r, hr⟩ := gen (xs.take i ++ [xs[i]]) (xs.drop (i + 1)) k
  rw [← h1, mkSS_snoc] at hr
  have h2 : (mkSS k (xs.take i)).length = i := by rw [mkSS_len]; simp; omega
  rw [hr, List.append_assoc, List.getElem?_append_right (by omega), h2]
  simp
def mixM (k : Int) (xs : List (List Int)) (i : Nat) : List (List Int) := mkSS k (xs.take i) ++ xs.drop i
theorem mixM_len (k : Int) (xs : List (List Int)) (i : Nat) : (mixM k xs i).length = xs.length := by simp [mixM, mkSS_len]; omega
theorem mixM_get {k : Int} {xs : List (List Int)} {i : Nat} (h : i < xs.length) : (mixM k xs i).getD i [] = xs[i] := by
  have h2 : (mkSS k (xs.take i)).length = i := by rw [mkSS_len]; simp; omega
  rw [mixM, List.getD_eq_getElem?_getD, List.getElem?_append_right (by omega), h2]
  simp [h]
theorem mixM_step {k : Int} {xs : List (List Int)} {i : Nat} (h : i < xs.length) : (mixM k xs i).set i (marks (k + tot (xs.take i)) xs[i].length) = mixM k xs (i + 1) := by
  have h2 : (mkSS k (xs.take i)).length = i := by rw [mkSS_len]; simp; omega
  unfold mixM
  rw [List.set_append_right _ _ (by omega), h2, Nat.sub_self, List.take_succ_eq_append_getElem h, mkSS_snoc, List.append_assoc, List.drop_eq_getElem_cons h]
  rfl

theorem markSS_c {w0 w : World} {pre post : List Ck} {t1 t2 : TypeId} {A : Option Addr} {n c : Nat} {rs : List SlV} {xss : List (List Int)} (k : Int) (hS : St w0 w (pre ++ (mat t1 t2 A n c rs xss ++ post))) (hrl : rs.length = n) (hxl : xss.length = n) (hn : n ≤ 1000) (hr : ∀ x ∈ xss, x.length ≤ 1000) (hk0 : 0 ≤ k ∧ k ≤ 1000000000000000) :
    Ret Try.prog 18 [.slice A n c, .int .i64 k] w (fun v w' => v = .int .i64 (k + tot xss) ∧ St w0 w' (pre ++ (mat t1 t2 A n c rs (mkSS k xss) ++ post))) := by
  refine Ret.of_cd Try.func18 rfl Try.ntmps18 rfl (post1 rfl) ?_
  refine Cd.seq ?_
  refine Cd.region ?_
  refine Ops.mv_int rfl rfl rfl ?_
  refine Ops.nil ?_
  refine thenQ_n ?_
  refine Cd.seq ?_
  refine Cd.seq ?_
  refine Cd.region ?_
  refine Ops.mv_int rfl rfl rfl ?_
  refine Ops.nil ?_
  refine thenQ_n ?_
  refine Cd.block ?_
  refine Cd.loop (α := Nat) (fun i => [(0, .slice A n c), (1, .int .i64 (k + tot (xss.take i))), (5, .int .i64 (i : Int))]) (fun i w' => St w0 w' (pre ++ (mat t1 t2 A n c rs (mixM k xss i) ++ post)) ∧ i ≤ n) (fun i => n - i) 0 ⟨rfl, by show Value.int .i64 _ = .int .i64 _; simp [tot], rfl, trivial⟩ ⟨by simpa [mixM, mkSS] using hS, Nat.zero_le _⟩ ?_
  rintro i e w1 ⟨hS1, hi⟩
  have hyl := mixM_len k xss i
  have hM := (hS1.sub (List.sublist_append_right _ _)).rowsI (by omega)
  have htb := tot_le (b := 1000) (xss.take i) (fun x hx => hr x (List.mem_of_mem_take hx))
  have htl : (xss.take i).length ≤ 1000 := by simp; omega
  have htm : (xss.take i).length * 1000 ≤ 1000 * 1000 := Nat.mul_le_mul_right 1000 htl
  refine Cd.seq ?_
  refine Cd.seq ?_
  refine Cd.region ?_
  refine Ops.mv_int rfl rfl rfl ?_
  refine Ops.mv_sl rfl rfl rfl ?_
  refine Ops.len rfl rfl ?_
  refine Ops.lss rfl rfl rfl ?_
  refine Ops.nil ?_
  refine thenQ_n ?_
  refine Cd.cond_p _ rfl (fun h1 => ?_) (fun h1 => ?_)
  · have hi' : i < xss.length := by omega
    have hget := mat_get (t1 := t1) (t2 := t2) (A := A) (n := n) (c := c) (rs := rs) (xss := mixM k xss i) (pre := pre) (ks := post) (i := i) (by omega) (by omega)
    have hset := fun l => mat_set (t1 := t1) (t2 := t2) (A := A) (n := n) (c := c) (rs := rs) (xss := mixM k xss i) (pre := pre) (ks := post) (i := i) (xs := l) (by omega) (by omega)
    rw [mixM_get hi'] at hget
    have hln := hS1.lenI _ hget
    have hxi := hr xss[i] (List.getElem_mem hi')
    have hst := mixM_step (k := k) hi'
    have htot : tot (xss.take (i + 1)) = tot (xss.take i) + xss[i].length := by rw [List.take_succ_eq_append_getElem hi', tot_snoc]
    refine Cd.skip ?_
    refine thenQ_n ?_
    refine Cd.seq ?_
    refine Cd.block ?_
    refine Cd.region ?_
    refine Ops.mv_sl rfl rfl rfl ?_
    refine Ops.mv_int rfl rfl rfl ?_
    refine Ops.idx hM.top.2 rfl rfl rfl (by omega) h1 ?_
    refine Ops.ld_sl hM.top rfl (by omega) rfl rfl ?_
    refine Ops.mv_int rfl rfl rfl ?_
    refine Ops.call (markInt64S_c (pre.length + 1 + i) (k + tot (xss.take i)) hS1 hget ⟨by omega, by omega⟩) rfl rfl rfl ?_
    rintro _ w2 ⟨rfl, hS2⟩
    rw [hset, ← hln, hst] at hS2
    refine Ops.mv_int rfl rfl rfl ?_
    refine Ops.nil ?_
    refine blockQ_n ?_
    refine thenQ_n ?_
    refine Cd.region ?_
    refine Ops.mv_int rfl rfl rfl ?_
    refine Ops.add rfl rfl rfl (by omega) ?_
    refine Ops.mv_int rfl rfl rfl ?_
    refine Ops.nil ?_
    refine thenQ_n ?_
    exact ⟨i + 1, by show n - (i + 1) < n - i; omega, ⟨rfl, by show Value.int .i64 _ = .int .i64 _; rw [htot, ← Int.add_assoc, hln], rfl, trivial⟩, hS2, by omega⟩
  · refine Cd.exit ?_
    refine thenQ_x ?_
    refine thenQ_x ?_
    refine blockQ_x ?_
    refine thenQ_n ?_
    refine Cd.seq ?_
    refine Cd.region ?_
    refine Ops.mv_int rfl rfl rfl ?_
    refine Ops.mv_int rfl rfl rfl ?_
    refine Ops.nil ?_
    refine thenQ_n ?_
    refine Cd.ret ?_
    refine ret1_i rfl ?_
    have hin : i = n := by omega
    subst hin
    have e1 : xss.take i = xss := List.take_of_length_le (by omega)
    have e2 : mixM k xss i = mkSS k xss := by rw [mixM, e1, List.drop_of_length_le (by omega), List.append_nil]
    rw [e1]
    rw [e2] at hS1
    exact ⟨rfl, hS1⟩

theorem heldSS_c (A : Option Addr) (n c : Nat) (rs : List SlV) (xss : List (List Int)) (k : Int) (w : World) (hR : RowsI w A n rs (mkSS k xss)) (hn : n ≤ 1000) (hr : ∀ x ∈ xss, x.length ≤ 1000) (hk0 : 0 ≤ k ∧ k ≤ 1000000000000000) :
    Ret Try.prog 19 [.slice A n c, .int .i64 k] w (fun v w' => v = .int .i64 (k + tot xss) ∧ w' = w) := by
  have hxl : xss.length = n := by rw [← mkSS_len xss k]; exact hR.len
  refine Ret.of_cd Try.func19 rfl Try.ntmps19 rfl (post1 rfl) ?_
  refine Cd.seq ?_
  refine Cd.region ?_
  refine Ops.mv_int rfl rfl rfl ?_
  refine Ops.nil ?_
  refine thenQ_n ?_
  refine Cd.seq ?_
  refine Cd.seq ?_
  refine Cd.region ?_
  refine Ops.mv_int rfl rfl rfl ?_
  refine Ops.nil ?_
  refine thenQ_n ?_
  refine Cd.block ?_
  refine Cd.loop (α := Nat) (fun i => [(0, .slice A n c), (1, .int .i64 (k + tot (xss.take i))), (5, .int .i64 (i : Int))]) (fun i w' => w' = w ∧ i ≤ n) (fun i => n - i) 0 ⟨rfl, by show Value.int .i64 _ = .int .i64 _; simp [tot], rfl, trivial⟩ ⟨rfl, Nat.zero_le _⟩ ?_
  rintro i e w ⟨rfl, hi⟩
  have htb := tot_le (b := 1000) (xss.take i) (fun x hx => hr x (List.mem_of_mem_take hx))
  have htl : (xss.take i).length ≤ 1000 := by simp; omega
  have htm : (xss.take i).length * 1000 ≤ 1000 * 1000 := Nat.mul_le_mul_right 1000 htl
  refine Cd.seq ?_
  refine Cd.seq ?_
  refine Cd.region ?_
  refine Ops.mv_int rfl rfl rfl ?_
  refine Ops.mv_sl rfl rfl rfl ?_
  refine Ops.len rfl rfl ?_
  refine Ops.lss rfl rfl rfl ?_
  refine Ops.nil ?_
  refine thenQ_n ?_
  refine Cd.cond_p _ rfl (fun h1 => ?_) (fun h1 => ?_)
  · have hi' : i < xss.length := by omega
    have hxi := hr xss[i] (List.getElem_mem hi')
    have htot : tot (xss.take (i + 1)) = tot (xss.take i) + xss[i].length := by rw [List.take_succ_eq_append_getElem hi', tot_snoc]
    have hrow := hR.at_ (i := (i : Int)) (by omega) h1
    have hg : gl (mkSS k xss) (i : Int) = marks (k + tot (xss.take i)) xss[i].length := by
      simp only [gl, Int.toNat_natCast, List.getD_eq_getElem?_getD, mkSS_get hi', Option.getD_some]
    rw [hg] at hrow
    have hln := hrow.1
    rw [marks_len] at hln
    rw [hln] at hrow
    refine Cd.skip ?_
    refine thenQ_n ?_
    refine Cd.seq ?_
    refine Cd.block ?_
    refine Cd.seq ?_
    refine Cd.region ?_
    refine Ops.mv_sl rfl rfl rfl ?_
    refine Ops.mv_int rfl rfl rfl ?_
    refine Ops.idx hR.top.2 rfl rfl rfl (by omega) h1 ?_
    refine Ops.ld_sl hR.top rfl (by omega) rfl rfl ?_
    refine Ops.mv_int rfl rfl rfl ?_
    refine Ops.call (heldInt64S_c (rg rs (i : Int)).a (rg rs (i : Int)).n (rg rs (i : Int)).c (k + tot (xss.take i)) _ hrow ⟨by omega, by omega⟩) rfl rfl rfl ?_
    rintro _ w ⟨rfl, rfl⟩
    refine Ops.mv_int rfl rfl rfl ?_
    refine Ops.nil ?_
    refine thenQ_n ?_
    refine Cd.seq ?_
    refine Cd.region ?_
    refine Ops.mv_int rfl rfl rfl ?_
    refine Ops.lss rfl rfl rfl ?_
    refine Ops.nil ?_
    refine thenQ_n ?_
    refine Cd.cond_pf rfl (by omega) ?_
    refine Cd.skip ?_
    refine blockQ_n ?_
    refine thenQ_n ?_
    refine Cd.region ?_
    refine Ops.mv_int rfl rfl rfl ?_
    refine Ops.add rfl rfl rfl (by omega) ?_
    refine Ops.mv_int rfl rfl rfl ?_
    refine Ops.nil ?_
    refine thenQ_n ?_
    exact ⟨i + 1, by show n - (i + 1) < n - i; omega, ⟨rfl, by show Value.int .i64 _ = .int .i64 _; rw [htot, ← Int.add_assoc, hln], rfl, trivial⟩, rfl, by omega⟩
  · refine Cd.exit ?_
    refine thenQ_x ?_
    refine thenQ_x ?_
    refine blockQ_x ?_
    refine thenQ_n ?_
    refine Cd.seq ?_
    refine Cd.region ?_
    refine Ops.mv_int rfl rfl rfl ?_
    refine Ops.mv_int rfl rfl rfl ?_
    refine Ops.nil ?_
    refine thenQ_n ?_
    refine Cd.ret ?_
    refine ret1_i rfl ?_
    have hin : i = n := by omega
    subst hin
    rw [List.take_of_length_le (by omega)]
    exact ⟨rfl, rfl⟩
end Go.Proofs.Ytjpkmpihmilgoaa.Vc
/-
  The new desks of both sides. Conditions: as each states them.
-/
namespace Go.Proofs.Ytjpkmpihmilgoaa.Vc
open Go.RowKit

section
variable {P : Program} {N : Nat} {ops : Array Oper} {K : Env → World → Prop} {rest : List Oper} {e : Env} {w0 w w' : World} {ks : List Ck} {d : Nat} {ty : TypeId} {pos : String} {af : Array Edge}
/-- a struct built of two structs of one cell each -/
theorem Ops.bld2a {t : TypeId} {f0 f1 : Field} {z0 z1 y0 y1 : Value} {b b0 b1 : Nat} [Und P t (.struct #[f0, f1])] [Inf P t (.agg #[z0, z1]) 2 b] {x0 x1 : Operand} {v0 v1 : Value} (hI0 : Inf P f0.type y0 1 b0) (hI1 : Inf P f1.type y1 1 b1) (ho : f0.offset = 0) (ho1 : f1.offset = 1) (h0 : ev e x0 = .agg #[v0]) (h1 : ev e x1 = .agg #[v1]) (hb : Nat.blt d N = true)
    (hK : Ops P N ops K rest (upd e d (.agg #[v0, v1])) w) : Ops P N ops K (⟨some d, .build t #[(0, x0), (1, x1)], ty, pos, af, none⟩ :: rest) e w := by
  obtain ⟨inf, hi, hz0, hs, hby⟩ := Inf.get P t
  obtain ⟨inf0, hi0, hz00, hs0, hby0⟩ := hI0.get P f0.type
  obtain ⟨inf1, hi1, hz01, hs1, hby1⟩ := hI1.get P f1.type
  have e0 : (Value.agg #[v0]).cells = #[v0] := rfl
  have e1 : (Value.agg #[v1]).cells = #[v1] := rfl
  have ez : (Value.agg #[z0, z1]).cells = #[z0, z1] := rfl
  refine .val (w' := w) ?_ hb hK
  simp [execOp, Instr.build, run_underlying (Und.out (P := P) (t := t)), sizeOf, typeInfo, zeroValue, hi, hz0, hi0, hs0, hi1, hs1, ho, ho1, h0, h1, e0, e1, ez, Instr.fill]
end

/-- what the triangle's diagram gives on both sides -/
structure TriOk (T : List (List Int)) : Prop where
  spec : UniOk [3] T
  impl : UniI [3] T
  len : T.length = 2
  row : ∀ x ∈ T, x.length ≤ 1000
theorem tri_tab : tableI 2 (presP [3]) = some (uniT [3]) := by kernel_rfl
theorem tri_row : (uniT [3]).all (fun x => decide (x.length ≤ 1000)) = true := by kernel_rfl
theorem tri_len : (uniT [3]).length = 2 := by kernel_rfl
theorem triOk : TriOk (uniT [3]) := by
  have h := uniOk uni_3
  refine ⟨h, ⟨h.len, h.lab, h.words, tri_tab, h.mani⟩, tri_len, fun x hx => ?_⟩
  have := List.all_eq_true.1 tri_row x hx
  simpa using this

theorem polygonDesk_c (T : List (List Int)) (hT : TriOk T) (w : World) : Ret Try.prog 10 [] w (fun v w' => ∃ A c rs, v = .agg #[.slice A T.length c] ∧ rs.length = T.length ∧ St w w' (mat 36 2 A T.length c rs T)) := by
  refine Ret.of_cd Try.func10 rfl Try.ntmps10 rfl (postc rfl rfl) ?_
  refine Cd.seq ?_
  refine Cd.region ?_
  refine Ops.new1 (St.refl w) rfl ?_
  intro A0 w1 hS1
  refine Ops.nil ?_
  refine thenQ_n ?_
  refine Cd.seq ?_
  refine Cd.region ?_
  refine Ops.bs1I hS1 rfl rfl rfl ?_
  intro A4 w2 hS2
  skip
  refine Ops.call (implUniversalPolytope_c A4 1 1 [3] T _ (hS2.rdI 0 rfl) hT.impl) rfl rfl rfl ?_
  rintro _ w3 ⟨A, c, rs, rfl, hrl, hst⟩
  have hS3 : St w w3 (mat 36 2 A T.length c rs T ++ [CkI 2 A4 1 1 [3], Bx 24 1 A0 [.slice none 0 0]]) := hS2.call hst
  have hS3 : St w w3 ([CkI 2 A4 1 1 [3], Bx 24 1 A0 [.slice none 0 0]] ++ mat 36 2 A T.length c rs T) := hS3.perm List.perm_append_comm
  refine Ops.mv_tup rfl rfl rfl ?_
  refine Ops.extract rfl rfl rfl ?_
  refine Ops.extract rfl rfl rfl ?_
  refine Ops.new1 hS3 rfl ?_
  intro A1 w4 hS4
  skip
  refine Ops.st_agg 1 0 hS4 rfl rfl rfl rfl rfl rfl rfl ?_
  intro w5 hS5
  refine Ops.mv_int rfl rfl rfl ?_
  refine Ops.nil ?_
  refine thenQ_n ?_
  refine Cd.seq ?_
  refine Cd.region ?_
  refine Ops.ld_agg 0 (hS5.rd 0 rfl) rfl rfl rfl ?_
  refine Ops.st_agg 1 2 hS5 rfl rfl rfl rfl rfl rfl rfl ?_
  intro w6 hS6
  refine Ops.nil ?_
  refine thenQ_n ?_
  refine Cd.ret ?_
  skip
  refine retc_r rfl (hS6.rd 2 rfl) ?_
  exact ⟨A, c, rs, rfl, hrl, ((hS6.sub ((List.Sublist.refl _).cons _)).sub ((List.Sublist.refl _).cons _)).sub ((List.Sublist.refl _).cons _)⟩

/-- two maniplexes of one's own -/
def AnsDk (T : List (List Int)) (w : World) (v : Value) (w' : World) : Prop := ∃ A c, ∃ rs : List SlV, ∃ B cB, ∃ ts : List SlV, v = .agg #[.slice A T.length c, .slice B T.length cB] ∧ rs.length = T.length ∧ ts.length = T.length ∧ St w w' (mat 36 2 A T.length c rs T ++ mat 36 2 B T.length cB ts T)
theorem implNewDesk_c (T : List (List Int)) (hT : TriOk T) (w : World) : Ret Try.prog 5 [] w (AnsDk T w) := by
  refine Ret.of_cd Try.func5 rfl Try.ntmps5 rfl (postc rfl rfl) ?_
  refine Cd.seq ?_
  refine Cd.region ?_
  refine Ops.new2 (St.refl w) rfl ?_
  intro A0 w1 hS1
  refine Ops.nil ?_
  refine thenQ_n ?_
  refine Cd.seq ?_
  refine Cd.region ?_
  refine Ops.call (polygonDesk_c T hT _) rfl rfl rfl ?_
  rintro _ w2 ⟨A, c, rs, rfl, hrl, hst2⟩
  have hS2 := hS1.call hst2
  skip
  refine Ops.call (polygonDesk_c T hT _) rfl rfl rfl ?_
  rintro _ w3 ⟨B, cB, ts, rfl, htl, hst3⟩
  have hS3 := hS2.call hst3
  have hS3 : St w w3 ([Bx 26 2 A0 [.slice none 0 0, .slice none 0 0]] ++ (mat 36 2 A T.length c rs T ++ mat 36 2 B T.length cB ts T)) := by
    refine hS3.perm ?_
    rw [← List.append_assoc]
    refine List.perm_append_comm.trans ?_
    refine List.Perm.append_left _ ?_
    exact List.perm_append_comm
  refine Ops.bld2a (by exact inferInstance) (by exact inferInstance) rfl rfl rfl rfl rfl ?_
  refine Ops.st_agg 2 0 hS3 rfl rfl rfl rfl rfl rfl rfl ?_
  intro w4 hS4
  refine Ops.nil ?_
  refine thenQ_n ?_
  refine Cd.ret ?_
  skip
  refine retc_r rfl (hS4.rd 0 rfl) ?_
  exact ⟨A, c, rs, B, cB, ts, rfl, hrl, htl, hS4.tail⟩

theorem l02Own_c (A : Option Addr) (n c : Nat) (rs : List SlV) (xss : List (List Int)) (w : World) (hR : RowsI w A n rs xss) (hn : n ≤ 1000) (hr : ∀ x ∈ xss, x.length ≤ 1000) :
    Ret Try.prog 15 [.agg #[.slice A n c]] w (fun v w' => ∃ A' c' rs', v = .agg #[.slice A' n c'] ∧ rs'.length = n ∧ St w w' (mat 36 2 A' n c' rs' xss)) := by
  have hl := hR.len
  refine Ret.of_cd Try.func15 rfl Try.ntmps15 rfl (postc rfl rfl) ?_
  refine Cd.seq ?_
  refine Cd.region ?_
  refine Ops.box1 (St.refl w) rfl rfl ?_
  intro A1 w1 hS1
  refine Ops.new1 hS1 rfl ?_
  intro A2 w2 hS2
  refine Ops.nil ?_
  refine thenQ_n ?_
  refine Cd.seq ?_
  refine Cd.region ?_
  refine Ops.fld (hS2.rd 1 rfl) rfl rfl rfl rfl inferInstance ?_
  refine Ops.ldf_s (hS2.rd 1 rfl) rfl rfl rfl rfl rfl ?_
  refine Ops.call (l01Own2_c A n c rs xss _ (hS2.oldRows hR) (by omega) (fun i hi => by
    have h1 := (hR.at_ (i := (i : Int)) (by omega) (by omega)).1
    have h2 := hr (gl xss (i : Int)) (gl_in (by omega) (by omega))
    have h3 : (rs.getD i slNil).n = (gl xss (i : Int)).length := by rw [h1]; rfl
    omega)) rfl rfl rfl ?_
  rintro _ w3 ⟨A3, c3, rs3, rfl, hrl, hst⟩
  have hS3 : St w w3 (mat 36 2 A3 n c3 rs3 xss ++ [Bx 24 1 A2 [.slice none 0 0], Bx 24 1 A1 [.slice A n c]]) := hS2.call hst
  have hS3 : St w w3 ([Bx 24 1 A2 [.slice none 0 0], Bx 24 1 A1 [.slice A n c]] ++ mat 36 2 A3 n c3 rs3 xss) := hS3.perm List.perm_append_comm
  refine Ops.bld1 (by exact inferInstance) rfl rfl rfl rfl ?_
  refine Ops.st_agg 1 0 hS3 rfl rfl rfl rfl rfl rfl rfl ?_
  intro w4 hS4
  refine Ops.nil ?_
  refine thenQ_n ?_
  refine Cd.ret ?_
  skip
  refine retc_r rfl (hS4.rd 0 rfl) ?_
  exact ⟨A3, c3, rs3, rfl, hrl, (hS4.sub ((List.Sublist.refl _).cons _)).sub ((List.Sublist.refl _).cons _)⟩

theorem l20New_c (T : List (List Int)) (hT : TriOk T) (w : World) : Ret Try.prog 9 [] w (AnsDk T w) := by
  have hlen := hT.len
  refine Ret.of_cd Try.func9 rfl Try.ntmps9 rfl (postc rfl rfl) ?_
  refine Cd.seq ?_
  refine Cd.region ?_
  refine Ops.new2 (St.refl w) rfl ?_
  intro A0 w1 hS1
  refine Ops.nil ?_
  refine thenQ_n ?_
  refine Cd.seq ?_
  refine Cd.region ?_
  refine Ops.bs1I hS1 rfl rfl rfl ?_
  intro A4 w2 hS2
  refine Ops.call (specUniversalPolytope_c A4 1 1 [3] T _ (hS2.rdI 0 rfl) hT.spec) rfl rfl rfl ?_
  rintro _ w3 ⟨A, c, rs, rfl, hrl, hst⟩
  have hS3 : St w w3 (mat 36 2 A T.length c rs T ++ [CkI 2 A4 1 1 [3], Bx 26 2 A0 [.slice none 0 0, .slice none 0 0]]) := hS2.call hst
  have hS3 : St w w3 (mat 36 2 A T.length c rs T ++ [Bx 26 2 A0 [.slice none 0 0, .slice none 0 0]]) := hS3.sub (List.Sublist.append_left (List.sublist_cons_self _ _) _)
  have hS3 : St w w3 ([Bx 26 2 A0 [.slice none 0 0, .slice none 0 0]] ++ mat 36 2 A T.length c rs T) := hS3.perm List.perm_append_comm
  refine Ops.mv_tup rfl rfl rfl ?_
  refine Ops.extract rfl rfl rfl ?_
  refine Ops.extract rfl rfl rfl ?_
  refine Ops.new1 hS3 rfl ?_
  intro A1 w4 hS4
  skip
  refine Ops.st_agg 1 0 hS4 rfl rfl rfl rfl rfl rfl rfl ?_
  intro w5 hS5
  have hS5 : St w w5 ([Bx 24 1 A1 [.slice A T.length c], Bx 26 2 A0 [.slice none 0 0, .slice none 0 0]] ++ mat 36 2 A T.length c rs T) := hS5
  have hR5 : RowsI w5 A T.length rs T := St.rowsI (ks := []) (by rw [List.append_nil]; exact hS5.sub (List.sublist_append_right _ _)) rfl
  refine Ops.mv_int rfl rfl rfl ?_
  refine Ops.nil ?_
  refine thenQ_n ?_
  refine Cd.seq ?_
  refine Cd.drawN [4] [.ex (.agg #[.slice (A) (T.length) (c)]), .ex (.agg #[.slice (A) (T.length) (c)]), .pr (fun v w' => ∃ B cB, ∃ ts : List SlV, v = .agg #[.slice B T.length cB] ∧ ts.length = T.length ∧ St w w' (mat 36 2 B T.length cB ts T ++ ([Bx 24 1 A1 [.slice A T.length c], Bx 26 2 A0 [.slice none 0 0, .slice none 0 0]] ++ mat 36 2 A T.length c rs T))), .pr (fun v w' => ∃ B cB, ∃ ts : List SlV, v = .agg #[.slice A T.length c, .slice B T.length cB] ∧ ts.length = T.length ∧ St w w' (mat 36 2 B T.length cB ts T ++ ([Bx 24 1 A1 [.slice A T.length c], Bx 26 2 A0 [.slice none 0 0, .slice none 0 0]] ++ mat 36 2 A T.length c rs T))), .pr (fun _ w' => ∃ B cB, ∃ ts : List SlV, ts.length = T.length ∧ St w w' ([Bx 24 1 A1 [.slice A T.length c], Bx 26 2 A0 [.slice A T.length c, .slice B T.length cB]] ++ (mat 36 2 A T.length c rs T ++ mat 36 2 B T.length cB ts T)))] (by kernel_rfl) (by kernel_rfl) (List.forall_mem_cons.2 ⟨Yd.lasts_ex _, (List.forall_mem_cons.2 ⟨Yd.lasts_ex _, (List.forall_mem_cons.2 ⟨Yd.lasts_pr (fun v w w' h hb => by obtain ⟨B, cB, ts, hv, ht, h1⟩ := h; exact ⟨B, cB, ts, hv, ht, h1.later hb⟩), (List.forall_mem_cons.2 ⟨Yd.lasts_pr (fun v w w' h hb => by obtain ⟨B, cB, ts, hv, ht, h1⟩ := h; exact ⟨B, cB, ts, hv, ht, h1.later hb⟩), (List.forall_mem_cons.2 ⟨Yd.lasts_pr (fun v w w' h hb => by obtain ⟨B, cB, ts, ht, h1⟩ := h; exact ⟨B, cB, ts, ht, h1.later hb⟩), (fun _ h => by cases h)⟩)⟩)⟩)⟩)⟩) ⟨?_, ?_, ?_, ?_, ?_, trivial⟩ ?_
  · intro e1 w1 cc hlo hhi hb0 hp hun hq
    show Ops _ _ _ _ _ _ _
    replace hlo := le_of_lo hlo (b := 0) (by kernel_rfl)
    replace hhi := le_of_hi hhi (b := 0) (by kernel_rfl)
    obtain rfl : cc = 0 := by omega
    have hb := hb0 rfl
    refine Ops.ld_agg 0 ((hS5.rd 0 rfl).below hb) rfl rfl rfl ?_
    refine Ops.nil ?_
    exact AfterN.dn rfl (Below.refl _ _) (by exact rfl)
  · intro e1 w1 cc hlo hhi hb0 hp hun hq
    show Ops _ _ _ _ _ _ _
    replace hlo := le_of_lo hlo (b := 0) (by kernel_rfl)
    replace hhi := le_of_hi hhi (b := 0) (by kernel_rfl)
    obtain rfl : cc = 0 := by omega
    have hb := hb0 rfl
    refine Ops.ld_agg 0 ((hS5.rd 0 rfl).below hb) rfl rfl rfl ?_
    refine Ops.nil ?_
    exact AfterN.dn rfl (Below.refl _ _) (by exact rfl)
  · intro e1 w1 cc hlo hhi hb0 hp hun hq
    show Ops _ _ _ _ _ _ _
    replace hlo := le_of_lo hlo (b := 0) (by kernel_rfl)
    replace hhi := le_of_hi hhi (b := 0) (by kernel_rfl)
    obtain rfl : cc = 0 := by omega
    have hb := hb0 rfl
    have hb := hb0 rfl
    refine Ops.call (l02Own_c A T.length c rs T _ (hR5.later hb) (by omega) hT.row) rfl rfl rfl ?_
    rintro _ w8 ⟨B, cB, ts, rfl, htl, hst8⟩
    refine Ops.nil ?_
    exact AfterN.dn rfl hst8.below ⟨B, cB, ts, rfl, htl, (hS5.later hb).call hst8⟩
  · intro e1 w1 cc hlo hhi hb0 hp hun hq
    show Ops _ _ _ _ _ _ _
    replace hlo := le_of_lo hlo (b := 0) (by kernel_rfl)
    replace hhi := le_of_hi hhi (b := 0) (by kernel_rfl)
    obtain rfl : cc = 0 := by omega
    have hb := hb0 rfl
    obtain ⟨B, cB, ts, hv, htl, h1⟩ := (hp 2 _ _ (by kernel_rfl) rfl rfl (by kernel_rfl))
    refine Ops.bld2a (by exact inferInstance) (by exact inferInstance) rfl rfl rfl (by exact hv) rfl ?_
    refine Ops.nil ?_
    exact AfterN.dn rfl (Below.refl _ _) ⟨B, cB, ts, rfl, htl, h1⟩
  · intro e1 w1 cc hlo hhi hb0 hp hun hq
    show Ops _ _ _ _ _ _ _
    replace hlo := le_of_lo hlo (b := 0) (by kernel_rfl)
    replace hhi := le_of_hi hhi (b := 0) (by kernel_rfl)
    obtain rfl : cc = 0 := by omega
    have hb := hb0 rfl
    obtain ⟨B, cB, ts, hv, htl, h1⟩ := (hp 3 _ _ (by kernel_rfl) rfl rfl (by kernel_rfl))
    have h2 : St w _ (([Bx 24 1 A1 [.slice A T.length c], Bx 26 2 A0 [.slice none 0 0, .slice none 0 0]] ++ mat 36 2 A T.length c rs T) ++ mat 36 2 B T.length cB ts T) := h1.perm List.perm_append_comm
    rw [List.append_assoc] at h2
    refine Ops.st_agg 2 1 h2 rfl rfl (by exact hv) rfl rfl rfl rfl ?_
    intro w9 h3
    refine Ops.nil ?_
    exact AfterT.st rfl ⟨B, cB, ts, htl, h3⟩
  intro u w6 _ hu
  obtain ⟨B, cB, ts, htl, hS6⟩ := hu 4 _ rfl (by kernel_rfl)
  refine thenQ_n ?_
  refine Cd.ret ?_
  skip
  refine retc_r rfl (hS6.rd 1 rfl) ?_
  exact ⟨A, c, rs, B, cB, ts, rfl, hrl, htl, (hS6.sub ((List.Sublist.refl _).cons _)).sub ((List.Sublist.refl _).cons _)⟩
theorem specNewDesk_c (T : List (List Int)) (hT : TriOk T) (w : World) : Ret Try.prog 4 [] w (AnsDk T w) := by
  refine Ret.of_cd Try.func4 rfl Try.ntmps4 rfl (postc rfl rfl) ?_
  refine Cd.seq ?_
  refine Cd.region ?_
  refine Ops.new2 (St.refl w) rfl ?_
  intro A0 w1 hS1
  refine Ops.nil ?_
  refine thenQ_n ?_
  refine Cd.seq ?_
  refine Cd.region ?_
  refine Ops.call (l20New_c T hT _) rfl rfl rfl ?_
  rintro _ w2 ⟨A, c, rs, B, cB, ts, rfl, hrl, htl, hst⟩
  have hS2 := hS1.call hst
  have hS2 : St w w2 ([Bx 26 2 A0 [.slice none 0 0, .slice none 0 0]] ++ (mat 36 2 A T.length c rs T ++ mat 36 2 B T.length cB ts T)) := hS2.perm List.perm_append_comm
  refine Ops.st_agg 2 0 hS2 rfl rfl rfl rfl rfl rfl rfl ?_
  intro w3 hS3
  refine Ops.nil ?_
  refine thenQ_n ?_
  refine Cd.ret ?_
  skip
  refine retc_r rfl (hS3.rd 0 rfl) ?_
  exact ⟨A, c, rs, B, cB, ts, rfl, hrl, htl, hS3.tail⟩

/-! marks on a desk -/
theorem markMan_c {w0 w : World} {pre post : List Ck} {t1 t2 : TypeId} {A : Option Addr} {n c : Nat} {rs : List SlV} {xss : List (List Int)} (k : Int) (hS : St w0 w (pre ++ (mat t1 t2 A n c rs xss ++ post))) (hrl : rs.length = n) (hxl : xss.length = n) (hn : n ≤ 1000) (hr : ∀ x ∈ xss, x.length ≤ 1000) (hk0 : 0 ≤ k ∧ k ≤ 1000000000000000) :
    Ret Try.prog 12 [.agg #[.slice A n c], .int .i64 k] w (fun v w' => v = .int .i64 (k + tot xss) ∧ St w0 w' (pre ++ (mat t1 t2 A n c rs (mkSS k xss) ++ post))) := by
  refine Ret.of_cd Try.func12 rfl Try.ntmps12 rfl (post1 rfl) ?_
  refine Cd.seq ?_
  refine Cd.region ?_
  refine Ops.box1 hS rfl rfl ?_
  intro Ab w1 hS1
  refine Ops.mv_int rfl rfl rfl ?_
  refine Ops.nil ?_
  refine thenQ_n ?_
  refine Cd.seq ?_
  refine Cd.region ?_
  refine Ops.fld (hS1.rd 0 rfl) rfl rfl rfl rfl inferInstance ?_
  refine Ops.ldf_s (hS1.rd 0 rfl) rfl rfl rfl rfl rfl ?_
  refine Ops.mv_int rfl rfl rfl ?_
  refine Ops.call (markSS_c (pre := Bx 24 1 Ab [.slice A n c] :: pre) (post := post) (rs := rs) k hS1 hrl hxl hn hr hk0) rfl rfl rfl ?_
  rintro _ w2 ⟨rfl, hS2⟩
  refine Ops.mv_int rfl rfl rfl ?_
  refine Ops.nil ?_
  refine thenQ_n ?_
  refine Cd.seq ?_
  refine Cd.region ?_
  refine Ops.mv_int rfl rfl rfl ?_
  refine Ops.mv_int rfl rfl rfl ?_
  refine Ops.nil ?_
  refine thenQ_n ?_
  refine Cd.ret ?_
  refine ret1_i rfl ?_
  exact ⟨rfl, St.tail hS2⟩
theorem heldMan_c (A : Option Addr) (n c : Nat) (rs : List SlV) (xss : List (List Int)) (k : Int) (w : World) (hR : RowsI w A n rs (mkSS k xss)) (hn : n ≤ 1000) (hr : ∀ x ∈ xss, x.length ≤ 1000) (hk0 : 0 ≤ k ∧ k ≤ 1000000000000000) :
    Ret Try.prog 13 [.agg #[.slice A n c], .int .i64 k] w (fun v w' => v = .int .i64 (k + tot xss) ∧ St w w' []) := by
  have hl := hR.len
  rw [mkSS_len] at hl
  have htb := tot_le (b := 1000) xss hr
  refine Ret.of_cd Try.func13 rfl Try.ntmps13 rfl (post1 rfl) ?_
  refine Cd.seq ?_
  refine Cd.region ?_
  refine Ops.box1 (St.refl w) rfl rfl ?_
  intro Ab w1 hS1
  refine Ops.mv_int rfl rfl rfl ?_
  refine Ops.nil ?_
  refine thenQ_n ?_
  refine Cd.seq ?_
  refine Cd.region ?_
  refine Ops.fld (hS1.rd 0 rfl) rfl rfl rfl rfl inferInstance ?_
  refine Ops.ldf_s (hS1.rd 0 rfl) rfl rfl rfl rfl rfl ?_
  refine Ops.mv_int rfl rfl rfl ?_
  refine Ops.call (heldSS_c A n c rs xss k _ (hS1.oldRows hR) hn hr hk0) rfl rfl rfl ?_
  rintro _ w2 ⟨rfl, rfl⟩
  refine Ops.mv_int rfl rfl rfl ?_
  refine Ops.nil ?_
  refine thenQ_n ?_
  refine Cd.seq ?_
  refine Cd.seq ?_
  refine Cd.region ?_
  refine Ops.mv_int rfl rfl rfl ?_
  refine Ops.lss rfl rfl rfl ?_
  refine Ops.nil ?_
  refine thenQ_n ?_
  refine Cd.cond_pf rfl (by omega) ?_
  refine Cd.skip ?_
  refine thenQ_n ?_
  refine Cd.seq ?_
  refine Cd.region ?_
  refine Ops.mv_int rfl rfl rfl ?_
  refine Ops.mv_int rfl rfl rfl ?_
  refine Ops.nil ?_
  refine thenQ_n ?_
  refine Cd.ret ?_
  refine ret1_i rfl ?_
  exact ⟨rfl, hS1.none⟩
theorem markDesk_c {w0 w : World} {post : List Ck} {t1 t2 : TypeId} {A B : Option Addr} {n c m cB : Nat} {rs ts : List SlV} {xss yss : List (List Int)} (k : Int) (hS : St w0 w (mat t1 t2 A n c rs xss ++ (mat t1 t2 B m cB ts yss ++ post))) (hrl : rs.length = n) (hxl : xss.length = n) (hn : n ≤ 1000) (hr : ∀ x ∈ xss, x.length ≤ 1000) (htl : ts.length = m) (hyl : yss.length = m) (hm : m ≤ 1000) (hr2 : ∀ x ∈ yss, x.length ≤ 1000) (hk0 : 0 ≤ k ∧ k ≤ 1000000000) :
    Ret Try.prog 7 [.agg #[.slice A n c, .slice B m cB], .int .i64 k] w (fun v w' => v = .int .i64 (k + tot xss + tot yss) ∧ St w0 w' (mat t1 t2 A n c rs (mkSS k xss) ++ (mat t1 t2 B m cB ts (mkSS (k + tot xss) yss) ++ post))) := by
  have htb := tot_le (b := 1000) xss hr
  have hn2 : xss.length * 1000 ≤ 1000000 := by omega
  refine Ret.of_cd Try.func7 rfl Try.ntmps7 rfl (post1 rfl) ?_
  refine Cd.seq ?_
  refine Cd.region ?_
  refine Ops.box2 hS rfl rfl ?_
  intro Ab w1 hS1
  refine Ops.mv_int rfl rfl rfl ?_
  refine Ops.nil ?_
  refine thenQ_n ?_
  refine Cd.seq ?_
  refine Cd.region ?_
  refine Ops.fld (hS1.rd 0 rfl) rfl rfl rfl rfl inferInstance ?_
  refine Ops.ld_aggf 0 (hS1.rd 0 rfl) rfl rfl rfl rfl ?_
  refine Ops.mv_int rfl rfl rfl ?_
  refine Ops.call (markMan_c (pre := [Bx 26 2 Ab [.slice A n c, .slice B m cB]]) (post := mat t1 t2 B m cB ts yss ++ post) (rs := rs) k hS1 hrl hxl hn hr (by omega)) rfl rfl rfl ?_
  rintro _ w2 ⟨rfl, hS2⟩
  refine Ops.mv_int rfl rfl rfl ?_
  refine Ops.nil ?_
  refine thenQ_n ?_
  refine Cd.seq ?_
  refine Cd.region ?_
  refine Ops.fld (hS2.rd 0 rfl) rfl rfl rfl rfl inferInstance ?_
  refine Ops.ld_aggf 0 (hS2.rd 0 rfl) rfl rfl rfl rfl ?_
  refine Ops.mv_int rfl rfl rfl ?_
  refine Ops.call (markMan_c (pre := [Bx 26 2 Ab [.slice A n c, .slice B m cB]] ++ mat t1 t2 A n c rs (mkSS k xss)) (post := post) (rs := ts) (k + tot xss) (by rw [List.append_assoc]; exact hS2) htl hyl hm hr2 (by omega)) rfl rfl rfl ?_
  rintro _ w3 ⟨rfl, hS3⟩
  refine Ops.mv_int rfl rfl rfl ?_
  refine Ops.nil ?_
  refine thenQ_n ?_
  refine Cd.seq ?_
  refine Cd.region ?_
  refine Ops.mv_int rfl rfl rfl ?_
  refine Ops.mv_int rfl rfl rfl ?_
  refine Ops.nil ?_
  refine thenQ_n ?_
  refine Cd.ret ?_
  refine ret1_i rfl ?_
  rw [List.append_assoc] at hS3
  exact ⟨rfl, hS3.tail⟩
theorem heldDesk_c (A : Option Addr) (n c : Nat) (rs : List SlV) (xss : List (List Int)) (B : Option Addr) (m cB : Nat) (ts : List SlV) (yss : List (List Int)) (k : Int) (w : World) (hR : RowsI w A n rs (mkSS k xss)) (hR2 : RowsI w B m ts (mkSS (k + tot xss) yss)) (hn : n ≤ 1000) (hr : ∀ x ∈ xss, x.length ≤ 1000) (hm : m ≤ 1000) (hr2 : ∀ x ∈ yss, x.length ≤ 1000) (hk0 : 0 ≤ k ∧ k ≤ 1000000000) :
    Ret Try.prog 8 [.agg #[.slice A n c, .slice B m cB], .int .i64 k] w (fun v w' => v = .int .i64 (k + tot xss + tot yss) ∧ St w w' []) := by
  have hl := hR.len
  rw [mkSS_len] at hl
  have hl2 := hR2.len
  rw [mkSS_len] at hl2
  have htb := tot_le (b := 1000) xss hr
  have htb2 := tot_le (b := 1000) yss hr2
  refine Ret.of_cd Try.func8 rfl Try.ntmps8 rfl (post1 rfl) ?_
  refine Cd.seq ?_
  refine Cd.region ?_
  refine Ops.box2 (St.refl w) rfl rfl ?_
  intro Ab w1 hS1
  refine Ops.mv_int rfl rfl rfl ?_
  refine Ops.nil ?_
  refine thenQ_n ?_
  refine Cd.seq ?_
  refine Cd.region ?_
  refine Ops.fld (hS1.rd 0 rfl) rfl rfl rfl rfl inferInstance ?_
  refine Ops.ld_aggf 0 (hS1.rd 0 rfl) rfl rfl rfl rfl ?_
  refine Ops.mv_int rfl rfl rfl ?_
  refine Ops.call (heldMan_c A n c rs xss k _ (hS1.oldRows hR) hn hr (by omega)) rfl rfl rfl ?_
  rintro _ w2 ⟨rfl, hst2⟩
  have hS2 := hS1.later hst2.below
  refine Ops.mv_int rfl rfl rfl ?_
  refine Ops.nil ?_
  refine thenQ_n ?_
  refine Cd.seq ?_
  refine Cd.seq ?_
  refine Cd.region ?_
  refine Ops.mv_int rfl rfl rfl ?_
  refine Ops.lss rfl rfl rfl ?_
  refine Ops.nil ?_
  refine thenQ_n ?_
  refine Cd.cond_pf rfl (by omega) ?_
  refine Cd.skip ?_
  refine thenQ_n ?_
  refine Cd.seq ?_
  refine Cd.region ?_
  refine Ops.fld (hS2.rd 0 rfl) rfl rfl rfl rfl inferInstance ?_
  refine Ops.ld_aggf 0 (hS2.rd 0 rfl) rfl rfl rfl rfl ?_
  refine Ops.mv_int rfl rfl rfl ?_
  refine Ops.call (heldMan_c B m cB ts yss (k + tot xss) _ (hS2.oldRows hR2) hm hr2 (by omega)) rfl rfl rfl ?_
  rintro _ w3 ⟨rfl, hst3⟩
  have hS3 := hS2.later hst3.below
  refine Ops.mv_int rfl rfl rfl ?_
  refine Ops.nil ?_
  refine thenQ_n ?_
  refine Cd.seq ?_
  refine Cd.seq ?_
  refine Cd.region ?_
  refine Ops.mv_int rfl rfl rfl ?_
  refine Ops.lss rfl rfl rfl ?_
  refine Ops.nil ?_
  refine thenQ_n ?_
  refine Cd.cond_pf rfl (by omega) ?_
  refine Cd.skip ?_
  refine thenQ_n ?_
  refine Cd.seq ?_
  refine Cd.region ?_
  refine Ops.mv_int rfl rfl rfl ?_
  refine Ops.mv_int rfl rfl rfl ?_
  refine Ops.nil ?_
  refine thenQ_n ?_
  refine Cd.ret ?_
  refine ret1_i rfl ?_
  exact ⟨rfl, hS3.none⟩
end Go.Proofs.Ytjpkmpihmilgoaa.Vc
/-
  The law FnExactNewDesk, walked: it returns true. Conditions: none.
-/
namespace Go.Proofs.Ytjpkmpihmilgoaa.Vc
open Go.RowKit

theorem FnExactNewDesk_t (T : List (List Int)) (hT : TriOk T) (w : World) : Ret Try.prog 3 [] w (fun v w' => v = .bool true ∧ St w w' []) := by
  have hlen := hT.len
  have hrow := hT.row
  have htb := tot_le (b := 1000) T hrow
  refine Ret.of_cd Try.func3 rfl Try.ntmps3 rfl (post1 rfl) ?_
  refine Cd.seq ?_
  refine Cd.region ?_
  refine Ops.mv_bool rfl rfl rfl ?_
  refine Ops.nil ?_
  refine thenQ_n ?_
  refine Cd.seq ?_
  refine Cd.region ?_
  refine Ops.call (specNewDesk_c T hT w) rfl rfl rfl ?_
  rintro _ w1 ⟨A, c, rs, B, cB, ts, rfl, hrl, htl, hS1⟩
  skip
  refine Ops.new2 hS1 rfl ?_
  intro D1 w2 hS2
  skip
  refine Ops.st_agg 2 0 hS2 rfl rfl rfl rfl rfl rfl rfl ?_
  intro w3 hS3
  have hS3 : St w w3 ([Bx 26 2 D1 [.slice A T.length c, .slice B T.length cB]] ++ (mat 36 2 A T.length c rs T ++ mat 36 2 B T.length cB ts T)) := hS3
  refine Ops.nil ?_
  refine thenQ_n ?_
  refine Cd.seq ?_
  refine Cd.region ?_
  refine Ops.call (implNewDesk_c T hT _) rfl rfl rfl ?_
  rintro _ w4 ⟨C, cC, rc, D, cD, rd, rfl, hcl, hdl, hst4⟩
  have hS4 := hS3.call hst4
  skip
  refine Ops.new2 hS4 rfl ?_
  intro D2 w5 hS5
  skip
  refine Ops.st_agg 2 0 hS5 rfl rfl rfl rfl rfl rfl rfl ?_
  intro w6 hS6
  have hS6 : St w w6 (mat 36 2 C T.length cC rc T ++ (mat 36 2 D T.length cD rd T ++ ([Bx 26 2 D2 [.slice C T.length cC, .slice D T.length cD], Bx 26 2 D1 [.slice A T.length c, .slice B T.length cB]] ++ (mat 36 2 A T.length c rs T ++ mat 36 2 B T.length cB ts T)))) := by
    have h1 : St w w6 ([Bx 26 2 D2 [.slice C T.length cC, .slice D T.length cD]] ++ ((mat 36 2 C T.length cC rc T ++ mat 36 2 D T.length cD rd T) ++ ([Bx 26 2 D1 [.slice A T.length c, .slice B T.length cB]] ++ (mat 36 2 A T.length c rs T ++ mat 36 2 B T.length cB ts T)))) := hS6
    have h2 := h1.toBack
    rw [List.append_assoc] at h2
    exact h2
  have hB6 : Rd w6 D2 2 (fun j => ([.slice C T.length cC, .slice D T.length cD] : List Value).getD j undef) := ((hS6.sub (List.sublist_append_right _ _)).sub (List.sublist_append_right _ _)).rd 0 rfl
  have hA6 : Rd w6 D1 2 (fun j => ([.slice A T.length c, .slice B T.length cB] : List Value).getD j undef) := ((hS6.sub (List.sublist_append_right _ _)).sub (List.sublist_append_right _ _)).rd 1 rfl
  have rC := hS6.rowsI (n := T.length) rfl
  have rD := (hS6.sub (List.sublist_append_right _ _)).rowsI (n := T.length) rfl
  have rA := (((hS6.sub (List.sublist_append_right _ _)).sub (List.sublist_append_right _ _)).sub (List.sublist_append_right _ _)).rowsI (n := T.length) rfl
  have rB := (St.matNil (pre := []) ((((hS6.sub (List.sublist_append_right _ _)).sub (List.sublist_append_right _ _)).sub (List.sublist_append_right _ _)).sub (List.sublist_append_right _ _))).rowsI (n := T.length) rfl
  refine Ops.nil ?_
  refine thenQ_n ?_
  refine Cd.seq ?_
  refine Cd.seq ?_
  refine Cd.region ?_
  refine Ops.ld_agg 1 hB6 rfl rfl rfl ?_
  refine Ops.ld_agg 1 hA6 rfl rfl rfl ?_
  refine Ops.call (eqDesk_c C T.length cC rc T D T.length cD rd T A T.length c rs T B T.length cB ts T _ rC rD rA rB (by omega) (by omega)) rfl rfl rfl ?_
  rintro _ w7 ⟨rfl, hst7⟩
  have hS7 := hS6.later hst7.below
  first | refine Ops.not_p rfl rfl ?_ | refine Ops.not rfl rfl ?_
  refine Ops.nil ?_
  refine thenQ_n ?_
  refine Cd.cond_pf rfl (fun h => h ⟨rfl, rfl⟩) ?_
  refine Cd.skip ?_
  refine thenQ_n ?_
  refine Cd.seq ?_
  refine Cd.region ?_
  refine Ops.mv_int rfl rfl rfl ?_
  refine Ops.nil ?_
  refine thenQ_n ?_
  refine Cd.seq ?_
  refine Cd.region ?_
  refine Ops.ld_agg 1 (hB6.below hst7.below) rfl rfl rfl ?_
  refine Ops.mv_int rfl rfl rfl ?_
  refine Ops.call (markDesk_c (post := [Bx 26 2 D2 [.slice C T.length cC, .slice D T.length cD], Bx 26 2 D1 [.slice A T.length c, .slice B T.length cB]] ++ (mat 36 2 A T.length c rs T ++ mat 36 2 B T.length cB ts T)) (rs := rc) (ts := rd) (xss := T) (yss := T) 1 hS7 hcl rfl (by omega) hrow hdl rfl (by omega) hrow (by omega)) rfl rfl rfl ?_
  rintro _ w8 ⟨rfl, hS8⟩
  have hB8 : Rd w8 D2 2 (fun j => ([.slice C T.length cC, .slice D T.length cD] : List Value).getD j undef) := ((hS8.sub (List.sublist_append_right _ _)).sub (List.sublist_append_right _ _)).rd 0 rfl
  have rC8 := hS8.rowsI (n := T.length) (mkSS_len _ _)
  have rD8 := (hS8.sub (List.sublist_append_right _ _)).rowsI (n := T.length) (mkSS_len _ _)
  refine Ops.mv_int rfl rfl rfl ?_
  refine Ops.nil ?_
  refine thenQ_n ?_
  refine Cd.seq ?_
  refine Cd.region ?_
  refine Ops.mv_int rfl rfl rfl ?_
  refine Ops.nil ?_
  refine thenQ_n ?_
  refine Cd.seq ?_
  refine Cd.region ?_
  refine Ops.ld_agg 1 hB8 rfl rfl rfl ?_
  refine Ops.mv_int rfl rfl rfl ?_
  refine Ops.call (heldDesk_c C T.length cC rc T D T.length cD rd T 1 _ rC8 rD8 (by omega) hrow (by omega) hrow (by omega)) rfl rfl rfl ?_
  rintro _ w9 ⟨rfl, hst9⟩
  have hS9 := hS8.later hst9.below
  refine Ops.mv_int rfl rfl rfl ?_
  refine Ops.nil ?_
  refine thenQ_n ?_
  refine Cd.seq ?_
  refine Cd.seq ?_
  refine Cd.region ?_
  refine Ops.mv_int rfl rfl rfl ?_
  refine Ops.lss rfl rfl rfl ?_
  refine Ops.nil ?_
  refine thenQ_n ?_
  refine Cd.cond_pf rfl (by omega) ?_
  refine Cd.skip ?_
  refine thenQ_n ?_
  refine Cd.seq ?_
  refine Cd.seq ?_
  refine Cd.region ?_
  refine Ops.mv_int rfl rfl rfl ?_
  refine Ops.mv_int rfl rfl rfl ?_
  refine Ops.neq rfl rfl rfl ?_
  refine Ops.nil ?_
  refine thenQ_n ?_
  refine Cd.cond_pf rfl (fun h => h rfl) ?_
  refine Cd.skip ?_
  refine thenQ_n ?_
  refine Cd.seq ?_
  refine Cd.region ?_
  refine Ops.call (implNewDesk_c T hT _) rfl rfl rfl ?_
  rintro _ w10 ⟨E, cE, re, F, cF, rf, rfl, hel, hfl, hst10⟩
  have hS10 := hS9.call hst10
  skip
  refine Ops.new2 hS10 rfl ?_
  intro D5 w11 hS11
  skip
  refine Ops.st_agg 2 0 hS11 rfl rfl rfl rfl rfl rfl rfl ?_
  intro w12 hS12
  have hS12 : St w w12 ([Bx 26 2 D5 [.slice E T.length cE, .slice F T.length cF]] ++ ((mat 36 2 E T.length cE re T ++ mat 36 2 F T.length cF rf T) ++ (mat 36 2 C T.length cC rc (mkSS 1 T) ++ (mat 36 2 D T.length cD rd (mkSS (1 + tot T) T) ++ ([Bx 26 2 D2 [.slice C T.length cC, .slice D T.length cD], Bx 26 2 D1 [.slice A T.length c, .slice B T.length cB]] ++ (mat 36 2 A T.length c rs T ++ mat 36 2 B T.length cB ts T)))))) := hS12
  have hE12 := hS12.rd 0 rfl
  have hK12 : St w w12 (mat 36 2 C T.length cC rc (mkSS 1 T) ++ (mat 36 2 D T.length cD rd (mkSS (1 + tot T) T) ++ ([Bx 26 2 D2 [.slice C T.length cC, .slice D T.length cD], Bx 26 2 D1 [.slice A T.length c, .slice B T.length cB]] ++ (mat 36 2 A T.length c rs T ++ mat 36 2 B T.length cB ts T)))) := (hS12.sub (List.sublist_append_right _ _)).sub (List.sublist_append_right _ _)
  have hEF : St w w12 (mat 36 2 E T.length cE re T ++ (mat 36 2 F T.length cF rf T ++ (mat 36 2 C T.length cC rc (mkSS 1 T) ++ (mat 36 2 D T.length cD rd (mkSS (1 + tot T) T) ++ ([Bx 26 2 D2 [.slice C T.length cC, .slice D T.length cD], Bx 26 2 D1 [.slice A T.length c, .slice B T.length cB]] ++ (mat 36 2 A T.length c rs T ++ mat 36 2 B T.length cB ts T)))))) := by
    have h := hS12.tail
    have h : St w w12 ((mat 36 2 E T.length cE re T ++ mat 36 2 F T.length cF rf T) ++ (mat 36 2 C T.length cC rc (mkSS 1 T) ++ (mat 36 2 D T.length cD rd (mkSS (1 + tot T) T) ++ ([Bx 26 2 D2 [.slice C T.length cC, .slice D T.length cD], Bx 26 2 D1 [.slice A T.length c, .slice B T.length cB]] ++ (mat 36 2 A T.length c rs T ++ mat 36 2 B T.length cB ts T))))) := h
    rwa [List.append_assoc] at h
  have rE := hEF.rowsI (n := T.length) rfl
  have rF := (hEF.sub (List.sublist_append_right _ _)).rowsI (n := T.length) rfl
  have hB12 : Rd w12 D2 2 (fun j => ([.slice C T.length cC, .slice D T.length cD] : List Value).getD j undef) := ((hK12.sub (List.sublist_append_right _ _)).sub (List.sublist_append_right _ _)).rd 0 rfl
  have hA12 : Rd w12 D1 2 (fun j => ([.slice A T.length c, .slice B T.length cB] : List Value).getD j undef) := ((hK12.sub (List.sublist_append_right _ _)).sub (List.sublist_append_right _ _)).rd 1 rfl
  have rC12 := hK12.rowsI (n := T.length) (mkSS_len _ _)
  have rD12 := (hK12.sub (List.sublist_append_right _ _)).rowsI (n := T.length) (mkSS_len _ _)
  have rA12 := (((hK12.sub (List.sublist_append_right _ _)).sub (List.sublist_append_right _ _)).sub (List.sublist_append_right _ _)).rowsI (n := T.length) rfl
  have rB12 := (St.matNil (pre := []) ((((hK12.sub (List.sublist_append_right _ _)).sub (List.sublist_append_right _ _)).sub (List.sublist_append_right _ _)).sub (List.sublist_append_right _ _))).rowsI (n := T.length) rfl
  refine Ops.nil ?_
  refine thenQ_n ?_
  refine Cd.seq ?_
  refine Cd.seq ?_
  refine Cd.region ?_
  refine Ops.ld_agg 1 hE12 rfl rfl rfl ?_
  refine Ops.ld_agg 1 hA12 rfl rfl rfl ?_
  refine Ops.call (eqDesk_c E T.length cE re T F T.length cF rf T A T.length c rs T B T.length cB ts T _ rE rF rA12 rB12 (by omega) (by omega)) rfl rfl rfl ?_
  rintro _ w13 ⟨rfl, hst13⟩
  first | refine Ops.not_p rfl rfl ?_ | refine Ops.not rfl rfl ?_
  refine Ops.nil ?_
  refine thenQ_n ?_
  refine Cd.cond_pf rfl (fun h => h ⟨rfl, rfl⟩) ?_
  refine Cd.skip ?_
  refine thenQ_n ?_
  refine Cd.seq ?_
  refine Cd.region ?_
  refine Ops.mv_int rfl rfl rfl ?_
  refine Ops.nil ?_
  refine thenQ_n ?_
  refine Cd.seq ?_
  refine Cd.region ?_
  refine Ops.ld_agg 1 (hB12.below hst13.below) rfl rfl rfl ?_
  refine Ops.mv_int rfl rfl rfl ?_
  refine Ops.call (heldDesk_c C T.length cC rc T D T.length cD rd T 1 _ (rC12.later hst13.below) (rD12.later hst13.below) (by omega) hrow (by omega) hrow (by omega)) rfl rfl rfl ?_
  rintro _ w14 ⟨rfl, hst14⟩
  refine Ops.mv_int rfl rfl rfl ?_
  refine Ops.nil ?_
  refine thenQ_n ?_
  refine Cd.seq ?_
  refine Cd.seq ?_
  refine Cd.region ?_
  refine Ops.mv_int rfl rfl rfl ?_
  refine Ops.lss rfl rfl rfl ?_
  refine Ops.nil ?_
  refine thenQ_n ?_
  refine Cd.cond_pf rfl (by omega) ?_
  refine Cd.skip ?_
  refine thenQ_n ?_
  refine Cd.seq ?_
  refine Cd.seq ?_
  refine Cd.region ?_
  refine Ops.mv_int rfl rfl rfl ?_
  refine Ops.mv_int rfl rfl rfl ?_
  refine Ops.neq rfl rfl rfl ?_
  refine Ops.nil ?_
  refine thenQ_n ?_
  refine Cd.cond_pf rfl (fun h => h rfl) ?_
  refine Cd.skip ?_
  refine thenQ_n ?_
  refine Cd.seq ?_
  refine Cd.region ?_
  refine Ops.mv_bool rfl rfl rfl ?_
  refine Ops.nil ?_
  refine thenQ_n ?_
  refine Cd.ret ?_
  refine ret1_b rfl ?_
  exact ⟨rfl, ((hS12.later hst13.below).later hst14.below).none⟩
theorem FnExactNewDesk_c (w : World) : Ret Try.prog 3 [] w (fun v w' => v = .bool true ∧ St w w' []) := FnExactNewDesk_t _ triOk w
end Go.Proofs.Ytjpkmpihmilgoaa.Vc
/-
  A statement's frame: the arguments opened, and what a walk gives told in the statement's own words. Conditions: as each states them.
-/
namespace Go.Proofs.Ytjpkmpihmilgoaa.Vc
open Go.RowKit Go.ChangeShapes Go.WideShapes

theorem laid : laidOutB Try.prog = true := by kernel_rfl
theorem own : ownKnob Try.prog.godebug = none := by kernel_rfl

section
variable {H : Type} {enc : TypeId × Value → H} {P : Program}
theorem trodAll_stays (hl : laidOutB P = true) {W W' : World} (hb : Below W.heap.size W W') {sp : Nat → Bool} : ∀ {ts : List TypeId} {vs : List Value} {ds : List (DataW H)} {ps : List MemPlace}, (ts.all fun t => P.readableRec t && Nat.blt t P.types.size) = true → (∀ p ∈ ps, p.block < W.heap.size) → (∀ p ∈ ps, sp p.block = true) →
    DataW.TrodAll enc P W 0 (fun _ => true) true ts vs ds ps → DataW.TrodAll enc P W' 0 sp true ts vs ds ps
  | [], [], [], _, _, _, _, h => h
  | t :: ts, v :: vs, d :: ds, ps, hr, hlt, hsp, h => by
    obtain ⟨p, q, h1, h2, rfl⟩ := h
    simp only [List.all_cons, Bool.and_eq_true] at hr
    exact ⟨p, q, WideElems.Trod_stays hl hr.1.1 (by simpa [Nat.blt_eq] using hr.1.2) h1 (fun x hx => hb.same (hlt x (by simp [hx]))) (fun x hx => hsp x (by simp [hx])), trodAll_stays hl hb hr.2 (fun x hx => hlt x (by simp [hx])) (fun x hx => hsp x (by simp [hx])) h2, rfl⟩
  | [], [], _ :: _, _, _, _, _, h => h.elim
  | [], _ :: _, _, _, _, _, _, h => by cases h
  | _ :: _, [], _, _, _, _, _, h => by cases h
  | _ :: _, _ :: _, [], _, _, _, _, h => by cases h

/-- what a law's walk gives, in its statement's words: it returns true, and its arguments read as they did -/
theorem post_law {f : Func} {s : ChangeSpec} {apart : Bool} {W W' : World} {args : Array Value} {ds gs : List (DataW H)} {before : List MemPlace} (hl : laidOutB P = true) {b : TypeId} (hu : P.underlying b = some .bool) (hres : f.resultTypes = #[b]) (hv : s.vars = [])
    (hr : (f.params.toList.all fun t => P.readableRec t && Nat.blt t P.types.size) = true) (hfn : (s.fn H (ds ++ gs)).results = [.lit (.bool true)] ∧ (s.fn H (ds ++ gs)).args = ds ∧ (s.fn H (ds ++ gs)).vars = [])
    (hW : DataW.Whole enc P f.params.toList s.vars apart W args.toList ds gs before) (hb : Below W.heap.size W W') : s.post enc P f apart true false false W args (.bool true) W' := by
  have hlt : ∀ x ∈ before, x.block < W.heap.size := fun x hx => hW.lt x hx
  have hW0 := hW
  obtain ⟨p, q, hA, hV, rfl, hz, hn⟩ := hW
  rw [hv] at hV
  obtain ⟨rfl, rfl⟩ := trodVars_none hV
  have hlp : ∀ x ∈ p, x.block < W.heap.size := fun x hx => hlt x (by simp [hx])
  have hA' : ∀ sp : Nat → Bool, (∀ x ∈ p, sp x.block = true) → DataW.TrodAll enc P W' 0 sp true f.params.toList args.toList (s.fn H (ds ++ [])).args p := fun sp hsp => by
    rw [hfn.2.1]
    exact trodAll_stays hl hb hr hlp hsp hA
  have hR' : ∀ (b0 : Nat) (sp : Nat → Bool) (hd : Bool), DataW.TrodAll enc P W' b0 sp hd f.resultTypes.toList ((Value.bool true).resultList f.resultTypes.size) (s.fn H (ds ++ [])).results [] := fun b0 sp hd => by
    rw [hfn.1, hres]
    exact trodAll_cons_mk (shut_bool hu _) trodAll_mk0
  have hV' : ∀ sp : Nat → Bool, DataW.TrodVars enc P W' sp s.vars (s.fn H (ds ++ [])).vars [] := fun sp => by
    rw [hfn.2.2, hv]; rfl
  refine ⟨ds, [], p ++ [], [], p, [], hW0, hR' _ _ _, hA' _ (fun x hx => by simpa using hlp x hx), hV' _, World.keptBut_mono (fun x hx => ⟨hx, by simpa using hx⟩) (hb.frame (· ∈ p ++ [])), fun _ => ⟨fun j t r h1 h2 => ?_, _, _, ([] ++ p) ++ [], ⟨[] ++ p, [], trodAll_append (hA' _ fun _ _ => rfl) (hR' _ _ _), hV' _, rfl, fun c off hc => ?_, fun ha => by simpa using hn ha⟩, fun x hx _ => by simpa using hx⟩⟩
  · rw [hres] at h1 h2
    cases j with
    | zero =>
      simp at h1
      subst h1
      simp [Value.resultList] at h2
      subst h2
      exact okWide_bool_mk hu _
    | succ j => simp at h1
  · have hin : MemPlace.cell c off ∈ p ++ [] := by simpa using hc
    rw [hb.frozen (hlt _ hin)]
    exact hz c off hin
end
end Go.Proofs.Ytjpkmpihmilgoaa.Vc
/-
  Arguments opened: a struct of one matrix, a list of integers. Conditions: as each states them.
-/
namespace Go.Proofs.Ytjpkmpihmilgoaa.Vc
open Go.RowKit Go.ChangeShapes Go.WideShapes

section
variable {H : Type} {enc : TypeId × Value → H} {P : Program}
end
end Go.Proofs.Ytjpkmpihmilgoaa.Vc
