/-
  The texts Pu4, Pu5, Pu6, Pu7, Anx, D6, Lx0, Pv3, Pv4, Lx3, Pw3, Qa9, Lx4, Lx5, Qb1, Qb2, Qb3, F3, Lst, F5, Mkx, Qb5, Open, Opm in one. Conditions: as each part states them.
-/
import Derived.Test.YtopgfgdgfjddpaaGreatDoorZh
import Derived.Test.YtopgfgdgfjddpaaGreatDoorZg
import Derived.Test.YtopgfgdgfjddpaaGreatDoorZb
import Derived.Test.YtopgfgdgfjddpaaGreatDoorZd
import Derived.Test.YtopgfgdgfjddpaaGreatDoorZf
import Derived.Test.YtopgfgdgfjddpaaGreatDoorZa
import Derived.Test.YtopgfgdgfjddpaaGreatDoorInst
import Derived.Deep.Matrix
import Derived.Carry
import Derived.Below
import Derived.ChangeSame
import Derived.ProofKit
import Derived.OpenShut
import Derived.Handed
import Derived.Lib.SmallJoins
/-
 All faces of a maniplex, walked in the reference.
-/
namespace Go.Proofs.YtopgfgdgfjddpaaGreatDoor.Vc
open Go.RowKit
abbrev faB (A : Option Addr) (n : Int) (X : Option Addr) (m cx : Nat) (Y : Option Addr) (k cy : Nat) : Ck := Bx 93 3 A [.int .i64 n, .slice X m cx, .slice Y k cy]
section
variable {P : Program} {N : Nat} {ops : Array Oper} {K : Env → World → Prop} {rest : List Oper} {e : Env} {w0 w w' : World} {ks : List Ck} {d : Nat} {ty : TypeId} {pos : String} {af : Array Edge}
theorem Ops.bldP3 {t : TypeId} {f0 f1 f2 : Field} {z0 z1 z2 y0 y1 y2 : Value} {b b0 b1 b2 : Nat} [Und P t (.struct #[f0, f1, f2])] [Inf P t (.agg #[z0, z1, z2]) 3 b] {x0 x1 x2 : Operand} {v0 v1 v2 : Value} (hI0 : Inf P f0.type y0 1 b0) (hI1 : Inf P f1.type y1 1 b1) (hI2 : Inf P f2.type y2 1 b2) (ho : f0.offset = 0) (ho1 : f1.offset = 1) (ho2 : f2.offset = 2) (h0 : ev e x0 = v0) (h1 : ev e x1 = v1) (h2 : ev e x2 = v2) (c0 : v0.oneCell' = true) (c1 : v1.oneCell' = true) (c2 : v2.oneCell' = true) (hb : Nat.blt d N = true) (hK : Ops P N ops K rest (upd e d (.agg #[v0, v1, v2])) w) : Ops P N ops K (⟨some d, .build t #[(0, x0), (1, x1), (2, x2)], ty, pos, af, none⟩ :: rest) e w := by
 obtain ⟨inf, hi, hz0, hs, hby⟩ := Inf.get P t
 obtain ⟨inf0, hi0, _, hs0, _⟩ := hI0.get P f0.type
 obtain ⟨inf1, hi1, _, hs1, _⟩ := hI1.get P f1.type
 obtain ⟨inf2, hi2, _, hs2, _⟩ := hI2.get P f2.type
 have e0 : v0.cells = #[v0] := by cases v0 <;> simp [Value.oneCell'] at c0 <;> rfl
 have e1 : v1.cells = #[v1] := by cases v1 <;> simp [Value.oneCell'] at c1 <;> rfl
 have e2 : v2.cells = #[v2] := by cases v2 <;> simp [Value.oneCell'] at c2 <;> rfl
 have ez : (Value.agg #[z0, z1, z2]).cells = #[z0, z1, z2] := O
 refine .val (w' := w) ?_ hb hK
 simp [execOp, Instr.build, run_underlying (Und.out (P := P) (t := t)), sizeOf, typeInfo, zeroValue, hi, hz0, hi0, hs0, hi1, hs1, hi2, hs2, ho, ho1, ho2, h0, h1, h2, e0, e1, e2, ez, Instr.fill]
end
theorem perm_m {α : Type} (a b c d : α) : [a, b, c, d].Perm [a, d, b, c] := by
 classical
 refine List.perm_iff_count.2 fun z => ?_
 simp only [List.count_cons, List.count_nil]
 omega
theorem perm_n {α : Type} (s a b m : α) (X : List α) : (s :: a :: b :: m :: (X ++ [])).Perm (a :: b :: m :: ((X ++ [s]) ++ [])) := by
 classical
 refine List.perm_iff_count.2 fun z => ?_
 simp only [List.count_append, List.count_cons, List.count_nil]
 omega
set_option maxHeartbeats 4000000 in
theorem l09All_c (A : Option Addr) (n c : Nat) (rs : List SlV) (M : List (List Int)) (w : World) (hR : RowsI w A n rs M) (hM : Mani M) (hbig : offP M M.length ≤ 500) :
  Ret Tryz.prog 104 [.agg #[.slice A n c]] w (fun v w' => ∃ X cx Y cy ys, v = .agg #[.int .i64 (M.length : Int), .slice X (offP M M.length + 2) cx, .slice Y (offP M M.length + 2) cy] ∧ ys.length = offP M M.length + 2 ∧ St w w' (CkI 2 X (offP M M.length + 2) cx (fcR M.length (fpR M M.length)) :: (mat 32 2 Y (offP M M.length + 2) cy ys (alBB (offP M M.length) (fpB M)) ++ []))) := by
 have h5 := hM.1
 have hP := posP_of hM hbig
 have hRl := fpR_len M M.length
 have hBl := fpB_len M
 have hrl : ∀ e : Int, 0 ≤ e → e < ((fpR M M.length).length : Int) → (gl (fpB M) e).length ≤ 500 ∧ ∀ d ∈ gl (fpB M) e, 0 ≤ d ∧ d < ((fpR M M.length).length : Int) := fun e h0 h => by
  have h2 := hP.at_ (e := e) h0 h
  refine ⟨?_, fun d hd => by have := (h2.2.1 d hd).1; omega⟩
  have := nodup_le_int (N := (fpR M M.length).length) h2.1.nodup fun x hx => by have := (h2.2.1 x hx).1; omega
  omega
 have hrr := fun (e : Int) (h0 : 0 ≤ e) (h : e < ((fpR M M.length).length : Int)) => hP.ri h0 h
 have hpo := l03Poset_c A n c rs M
 generalize fpR M M.length = R at *
 generalize fpB M = B at *
 generalize M.length = d at *
 generalize offP M d = N at *
 rw [hRl] at hrl hrr
 refine Ret.of_cd Tryz.func104 O Tryz.ntmps104 O (postc O O) (Gbo O (Ops.box1 (St.refl w) O O ?_))
 intro A1 w1 hS1
 refine Ops.newP hS1 O ?_
 intro A2 w2 hS2
 refine Gdo O (Ops.ld_agg 0 (hS2.rd 1 O) O O O (Ops.call (hpo _ (hS2.oldRows hR) hM) O O O ?_))
 rintro _ w3 ⟨AR, cR, AD, cD, rsD, rfl, hrD, hst⟩
 have hS3 := (hS2.call hst).perm List.perm_append_comm
 refine Ops.newP hS3 O ?_
 intro A3 w4 hS4
 refine Ops.st_agg 3 0 hS4 O O O O O O O ?_
 intro w5 hS5
 have hb3 : Rd w5 A3 3 (fun q => [Value.int .i64 (d : Int), .slice AR N cR, .slice AD N cD].getD q undef) := hS5.rd 0 O
 have hS5 : St w w5 (poB A3 (d : Int) AR N cR AD N cD :: faB A2 0 none 0 0 none 0 0 :: Bx 24 1 A1 [.slice A n c] :: (CkI 2 AR N cR R :: (mat 32 2 AD N cD rsD B ++ []))) := hS5
 have hR5 : RdI w5 AR N R := hS5.rdI 3 O
 have hB5 : RowsI w5 AD N rsD B := (hS5.sub (show (mat 32 2 AD N cD rsD B).Sublist _ from (((((by rw [List.append_nil]; exact List.Sublist.refl _ : (mat 32 2 AD N cD rsD B).Sublist (mat 32 2 AD N cD rsD B ++ [])).cons _).cons _).cons _).cons _))).rowsI1 hBl
 clear hS3 hS2 hS1
 refine Gdo O (Ops.fld hb3 O O O O inferInstance (Ops.ldf_i (j := 0) hb3 (by exact congrArg Value.pointer O) O O O O (Ops.bs1I (i := -1) (St.refl w5) O O O ?_)))
 intro X w6 hT6
 refine Ops.bs0 hT6 O ?_
 intro A13 w7 hT7
 refine Ops.bs1R hT7 O O O ?_
 intro Y w8 hT8
 refine Ops.bldP3 (by exact inferInstance) (by exact inferInstance) (by exact inferInstance) O O O O O O O O O O (Ops.newP hT8 O ?_)
 intro A4 w9 hT9
 refine Ops.st_agg 3 0 hT9 O O O O O O O ?_
 intro w10 hT10
 have hT10 : St w5 w10 (faB A4 (d : Int) X 1 1 Y 1 1 :: CkI 2 X 1 1 (-1 :: R.take 0) :: (mat 32 2 Y 1 1 [⟨A13, 0, 0⟩] (alB B 0) ++ [])) := hT10.perm (perm_m _ _ _ _)
 clear hT9 hT8 hT7 hT6
 refine Gdc O ?_
 refine Cd.loop (α := Nat × (Option Addr × Nat) × (Option Addr × Nat) × List SlV) (fun z => [(2, .pointer A2), (3, .pointer A3), (4, .pointer A4), (5, .int .i64 (z.1 : Int))]) (fun z w' => z.1 ≤ N ∧ z.2.2.2.length = z.1 + 1 ∧ St w5 w' (faB A4 (d : Int) z.2.1.1 (z.1 + 1) z.2.1.2 z.2.2.1.1 (z.1 + 1) z.2.2.1.2 :: CkI 2 z.2.1.1 (z.1 + 1) z.2.1.2 (-1 :: R.take z.1) :: (mat 32 2 z.2.2.1.1 (z.1 + 1) z.2.2.1.2 z.2.2.2 (alB B z.1) ++ []))) (fun z => N - z.1) (0, (X, 1), (Y, 1), [⟨A13, 0, 0⟩]) ⟨O, O, O, O, trivial⟩ ⟨Nat.zero_le _, O, hT10⟩ ?_
 clear hT10
 rintro ⟨i, ⟨X, cX⟩, ⟨Y, cY⟩, ys⟩ e w11 ⟨hi, hys, hT⟩
 dsimp only at hi hys hT ⊢
 have hb3i := Rd.below hb3 hT.below
 refine Gbo O (Ops.fld hb3i O O O O inferInstance (Ops.ldf_s (j := 1) hb3i (by exact congrArg Value.pointer O) O O O O ?_))
 refine Ops.len O O (Gdc O ?_)
 refine Cd.cond_p _ O (fun h1 => ?_) (fun h1 => ?_)
 ·have hiN : i < N := by omega
  have hrli := hrl (i : Int) (by omega) (by omega)
  refine Gao O (Ops.bs1I (i := 0) hT O O O ?_)
  intro A6 w12 hT12
  refine Gdc O ?_
  refine Cd.loop (α := Nat × Option Addr × Nat) (fun z => [(2, .pointer A2), (3, .pointer A3), (4, .pointer A4), (5, .int .i64 (i : Int)), (6, .slice z.2.1 (z.1 + 1) z.2.2), (7, .int .i64 (z.1 : Int))]) (fun z w' => z.1 ≤ (gl B (i : Int)).length ∧ St w5 w' (CkI 2 z.2.1 (z.1 + 1) z.2.2 (0 :: ((gl B (i : Int)).take z.1).map (· + 1)) :: faB A4 (d : Int) X (i + 1) cX Y (i + 1) cY :: CkI 2 X (i + 1) cX (-1 :: R.take i) :: (mat 32 2 Y (i + 1) cY ys (alB B i) ++ []))) (fun z => (gl B (i : Int)).length - z.1) (0, A6, 1) ⟨O, O, O, O, O, O, trivial⟩ ⟨Nat.zero_le _, hT12⟩ ?_
  clear hT12 hT
  rintro ⟨j, A6, c6⟩ e w13 ⟨hj, hT⟩
  dsimp only at hj hT ⊢
  have hb3j := Rd.below hb3 hT.below
  have hBj := hB5.later hT.below
  have hro := hBj.at_ (i := (i : Int)) (by omega) (by omega)
  have hrn := hro.1
  refine Gbo O (Ops.fld hb3j O O O O inferInstance (Ops.ldf_s (j := 2) hb3j (by exact congrArg Value.pointer O) O O O O (Gdo O (Ops.idx hBj.top.2 O O O (by omega) (by omega) (Ops.ld_sl hBj.top O (by omega) O O ?_)))))
  refine Ops.len O O (Gdc O ?_)
  refine Cd.cond_p _ O (fun h2 => ?_) (fun h2 => ?_)
  ·have hjl : j < (gl B (i : Int)).length := by omega
   have hdm := hrli.2 _ (gi_in hjl)
   refine Gao O (Ops.fld hb3j O O O O inferInstance (Ops.ldf_s (j := 2) hb3j (by exact congrArg Value.pointer O) O O O O (Gdo O (Ops.idx hBj.top.2 O O O (by omega) (by omega) (Ops.ld_sl hBj.top O (by omega) O O (Gdo O (Ops.idx hro.2 O O O (by omega) (by omega) (Ops.ld_int hro O (by omega) O O (Ops.add O O O (by omega) ?_)))))))))
   refine Ops.bs1I hT O O O ?_
   intro A9 w14 hT14
   refine Ops.appI 1 hT14 O (hT14.rdI 0 O) O O O (by omega) (by omega) O ?_
   intro AZ cZ w15 hT15
   have hT15 := hT15.tail
   refine Gdo O (Ops.add O O O (by omega) (Gdn O (tQ ?_)))
   refine ⟨(j + 1, AZ, cZ), by show (gl B (i : Int)).length - (j + 1) < (gl B (i : Int)).length - j; omega, ⟨O, O, O, O, O, O, trivial⟩, by show j + 1 ≤ _; omega, ?_⟩
   show St w5 w15 (CkI _ AZ (j + 1 + 1) cZ (0 :: ((gl B (i : Int)).take (j + 1)).map (· + 1)) :: _)
   rw [take_snoc hjl, List.map_append]
   exact hT15
  have hje : (gl B (i : Int)).take j = gl B (i : Int) := List.take_of_length_le (by omega)
  rw [hje] at hT
  have hR6 := hR5.later hT.below
  have hA4 := hT.rd 1 O
  have hrg := hrr (i : Int) (by omega) (by omega)
  have htk : R.take (i + 1) = R.take i ++ [gi R (i : Int)] := take_snoc (by omega)
  refine Gax O (thenQ_x (Gfc O ?_))
  refine Cd.drawP [8, 10] [yP (ptrAt (A4) 1), yS (X) (i + 1) (cX), yP (ptrAt (A3) 1), yS (AR) (N) (cR), yI ((i : Int)), yP (ptrAt (AR) ((i : Int)).toNat), yI (gi (R) ((i : Int))), .pr (fun v w' => ∃ A9, v = .slice A9 1 1 ∧ St w5 w' (CkI 2 A9 1 1 [gi R (i : Int)] :: CkI 2 A6 (j + 1) c6 (0 :: (gl B (i : Int)).map (· + 1)) :: faB A4 (d : Int) X (i + 1) cX Y (i + 1) cY :: CkI 2 X (i + 1) cX (-1 :: R.take i) :: (mat 32 2 Y (i + 1) cY ys (alB B i) ++ []))), .pr (fun v w' => ∃ AZ cZ, v = .slice AZ (i + 1 + 1) cZ ∧ St w5 w' (CkI 2 A6 (j + 1) c6 (0 :: (gl B (i : Int)).map (· + 1)) :: faB A4 (d : Int) X (i + 1) cX Y (i + 1) cY :: CkI 2 AZ (i + 1 + 1) cZ ((-1 :: R.take i) ++ [gi R (i : Int)]) :: (mat 32 2 Y (i + 1) cY ys (alB B i) ++ []))), yP (ptrAt A4 1), .pr (fun _ w' => ∃ AZ cZ, St w5 w' (CkI 2 A6 (j + 1) c6 (0 :: (gl B (i : Int)).map (· + 1)) :: faB A4 (d : Int) AZ (i + 1 + 1) cZ Y (i + 1) cY :: CkI 2 AZ (i + 1 + 1) cZ ((-1 :: R.take i) ++ [gi R (i : Int)]) :: (mat 32 2 Y (i + 1) cY ys (alB B i) ++ [])))] (by kernel_rfl) (by kernel_rfl) (ly (ly (ly (ly (ly (ly (ly (List.forall_mem_cons.2 ⟨Ye.lasts_pr (fun v w w' h hb => by obtain ⟨A9, hv, hT⟩ := h; exact ⟨A9, hv, hT.later hb⟩), (List.forall_mem_cons.2 ⟨Ye.lasts_pr (fun v w w' h hb => by obtain ⟨AZ, cZ, hv, hT⟩ := h; exact ⟨AZ, cZ, hv, hT.later hb⟩), (ly (List.forall_mem_cons.2 ⟨Ye.lasts_pr (fun v w w' h hb => by obtain ⟨AZ, cZ, hT⟩ := h; exact ⟨AZ, cZ, hT.later hb⟩), (fun _ h => by cases h)⟩))⟩)⟩)))))))) ?_ ?_
  ·refine ⟨cP fun _ _ hb _ _ _ => Ops.fld (hA4.below hb) O O O O inferInstance (AzP O O), cP fun _ _ hb _ _ _ => Ops.ldf_s (hA4.below hb) O O O O O (AzP O O), cP fun _ _ hb _ _ _ => Ops.fld (hb3j.below hb) O O O O inferInstance (AzP O O), cP fun _ _ hb _ _ _ => Ops.ldf_s (hb3j.below hb) O O O O O (AzP O O), DrP O, cP fun _ _ hb _ _ _ => Ops.idx (hR6.later hb).2 O O O (by omega) (by omega) (AzP O O), cP fun _ _ hb _ _ _ => Ops.ld_int (hR6.later hb) O (by omega) O O (AzP O O), ?_, ?_, ?_, ?_, trivial⟩
   ·refine cP fun e1 w1 hb hp hun hq => ?_
    refine Ops.bs1I (St.refl _) O O O ?_
    intro A9 w9 hst
    refine Ops.n ?_
    exact AfterP.dn O hst.below ⟨A9, O, (hT.later hb).call hst⟩
   ·refine cPT fun e1 w1 hb hp hun hq => ?_
    obtain ⟨A9, h53, hT9⟩ := (hp 7 _ _ (by kernel_rfl) rfl rfl (by kernel_rfl))
    refine Ops.appI 3 hT9 O (hT9.rdI 0 O) O (by exact h53) O (by omega) (by omega) O ?_
    intro AZ cZ wZ hZ
    refine Ops.n ?_
    exact AfterU.dn O ⟨AZ, cZ, O, hZ.tail⟩
   ·intro e1 w1 cc hlo hhi hb0 hp hun hq; show Ops _ _ _ _ _ _ _
    have hX : Rd w1 A4 3 (fun q => [Value.int .i64 (d : Int), .slice X (i + 1) cX, .slice Y (i + 1) cY].getD q undef) := by { have hhi := le_of_hi hhi (b := 1) (by kernel_rfl); rcases (show cc = 0 ∨ cc = 1 by omega) with h | h; { exact Rd.below hA4 (hb0 h) }; { subst h; obtain ⟨AZ, cZ, _, hTT⟩ := hq 8 _ _ (by kernel_rfl) (by kernel_rfl) (by kernel_rfl) rfl rfl (by kernel_rfl); exact hTT.rd 1 rfl } }
    refine Ops.fld hX O O O O inferInstance (Ops.n (p0_ O (by exact O)))
   refine dPT 1 fun e1 w1 hp hun hq => ?_
   have hph := hp 8 _ _ (by kernel_rfl) O O (by kernel_rfl)
   obtain ⟨AZ, cZ, h54, hTT⟩ := hph
   refine Ops.stf 1 hTT O O (by exact h54) O O ?_
   intro w11 hT11
   refine Ops.n ?_
   exact AfterU.st O ⟨AZ, cZ, hT11⟩
  intro u w14 _ hu _ _
  obtain ⟨AZ, cZ, hT14⟩ := hu 10 _ rfl (by kernel_rfl)
  clear hT hA4
  refine post_ext (F := [(2, .pointer A2), (3, .pointer A3), (4, .pointer A4), (5, .int .i64 (i : Int)), (6, .slice A6 (j + 1) c6)]) ⟨O, O, O, O, O, trivial⟩ (Geo O (Ops.fld (hT14.rd 1 O) O O O O inferInstance (Ops.ldf_s (j := 2) (hT14.rd 1 O) (by exact congrArg Value.pointer O) O O O O (Gdo O (Ops.bs1R hT14 O O O ?_)))))
  intro A9 w15 hT15
  refine Ops.appR 4 hT15 O (hT15.rdR 0 O) O O O (by omega) (by omega) O ?_
  intro AQ cQ w16 hT16
  refine Ops.fld (hT16.rd 2 O) O O O O inferInstance (Ops.stf 2 (j := 2) hT16 O O O O O ?_)
  intro w17 hT17
  have hT17 := hT17.tail
  have hT18 : St w5 w17 (CkI 2 A6 (j + 1) c6 (0 :: (gl B (i : Int)).map (· + 1)) :: faB A4 (d : Int) AZ (i + 1 + 1) cZ AQ (i + 1 + 1) cQ :: CkI 2 AZ (i + 1 + 1) cZ ((-1 :: R.take i) ++ [gi R (i : Int)]) :: CkR 32 AQ (i + 1 + 1) cQ (ys ++ [⟨A6, j + 1, c6⟩]) :: (rowsCk 2 ys (alB B i) ++ [])) := hT17
  have hT18 := hT18.perm (perm_n _ _ _ _ _)
  rw [← rowsCk_snoc (by rw [hys, alB_len]), ← alB_next] at hT18
  refine Gdo O (Ops.add O O O (by omega) (Gdn O (tQ ?_)))
  refine ⟨(i + 1, (AZ, cZ), (AQ, cQ), ys ++ [⟨A6, j + 1, c6⟩]), by show N - (i + 1) < N - i; omega, ⟨O, O, O, O, trivial⟩, by show i + 1 ≤ N; omega, by simp [hys], ?_⟩
  show St w5 w17 (_ :: CkI _ AZ (i + 1 + 1) cZ (-1 :: R.take (i + 1)) :: _)
  rw [htk]
  exact hT18
 obtain rfl : i = N := by omega
 have hA4 := hT.rd 0 O
 have hRt : R.take i = R := List.take_of_length_le (by omega)
 rw [hRt] at hT
 refine Gax O (thenQ_x (Gfc O ?_))
 refine Cd.drawP [7, 9] [yP (ptrAt (A4) 2), yS (Y) (i + 1) (cY), yP (ptrAt (A4) 1), yS (X) (i + 1) (cX), yI (((i + 1 : Nat) : Int)), .pr (fun v w' => ∃ A7 c7, v = .slice A7 (i + 1) c7 ∧ St w5 w' (CkI 2 A7 (i + 1) c7 (rngI (i + 1)) :: faB A4 (d : Int) X (i + 1) cX Y (i + 1) cY :: CkI 2 X (i + 1) cX (-1 :: R) :: (mat 32 2 Y (i + 1) cY ys (alB B i) ++ []))), .pr (fun v w' => ∃ A8 A7 c7, v = .slice A8 1 1 ∧ St w5 w' (CkR 32 A8 1 1 [⟨A7, i + 1, c7⟩] :: CkI 2 A7 (i + 1) c7 (rngI (i + 1)) :: faB A4 (d : Int) X (i + 1) cX Y (i + 1) cY :: CkI 2 X (i + 1) cX (-1 :: R) :: (mat 32 2 Y (i + 1) cY ys (alB B i) ++ []))), .pr (fun v w' => ∃ AQ cQ A7 c7, v = .slice AQ (i + 1 + 1) cQ ∧ St w5 w' (CkI 2 A7 (i + 1) c7 (rngI (i + 1)) :: faB A4 (d : Int) X (i + 1) cX Y (i + 1) cY :: CkI 2 X (i + 1) cX (-1 :: R) :: CkR 32 AQ (i + 1 + 1) cQ (ys ++ [⟨A7, i + 1, c7⟩]) :: (rowsCk 2 ys (alB B i) ++ []))), yP (ptrAt A4 2), .pr (fun _ w' => ∃ AQ cQ A7 c7, St w5 w' (CkI 2 A7 (i + 1) c7 (rngI (i + 1)) :: faB A4 (d : Int) X (i + 1) cX AQ (i + 1 + 1) cQ :: CkI 2 X (i + 1) cX (-1 :: R) :: CkR 32 AQ (i + 1 + 1) cQ (ys ++ [⟨A7, i + 1, c7⟩]) :: (rowsCk 2 ys (alB B i) ++ [])))] (by kernel_rfl) (by kernel_rfl) (ly (ly (ly (ly (ly (List.forall_mem_cons.2 ⟨Ye.lasts_pr (fun v w w' h hb => by obtain ⟨A9, c9, hv, hT⟩ := h; exact ⟨A9, c9, hv, hT.later hb⟩), (List.forall_mem_cons.2 ⟨Ye.lasts_pr (fun v w w' h hb => by obtain ⟨A8, A9, c9, hv, hT⟩ := h; exact ⟨A8, A9, c9, hv, hT.later hb⟩), (List.forall_mem_cons.2 ⟨Ye.lasts_pr (fun v w w' h hb => by obtain ⟨AQ, cQ, A7, c7, hv, hT⟩ := h; exact ⟨AQ, cQ, A7, c7, hv, hT.later hb⟩), (ly (List.forall_mem_cons.2 ⟨Ye.lasts_pr (fun v w w' h hb => by obtain ⟨AQ, cQ, A7, c7, hT⟩ := h; exact ⟨AQ, cQ, A7, c7, hT.later hb⟩), (fun _ h => by cases h)⟩))⟩)⟩)⟩)))))) ?_ ?_
 ·refine ⟨cP fun _ _ hb _ _ _ => Ops.fld (hA4.below hb) O O O O inferInstance (AzP O O), cP fun _ _ hb _ _ _ => Ops.ldf_s (hA4.below hb) O O O O O (AzP O O), cP fun _ _ hb _ _ _ => Ops.fld (hA4.below hb) O O O O inferInstance (AzP O O), cP fun _ _ hb _ _ _ => Ops.ldf_s (hA4.below hb) O O O O O (AzP O O), aP fun _ _ => Ops.len O O (AzP O O), ?_, ?_, ?_, ?_, ?_, trivial⟩
  ·refine cP fun e1 w1 hb hp hun hq => ?_
   refine Ops.call (l01UnitX_c (i + 1) _ (by omega)) O O O ?_
   rintro _ w9 ⟨A7, c7, rfl, hst9⟩
   refine Ops.n ?_
   exact AfterP.dn O hst9.below ⟨A7, c7, O, (hT.later hb).call hst9⟩
  ·refine cP fun e1 w1 hb hp hun hq => ?_
   obtain ⟨A7, c7, h67, hT9⟩ := (hp 5 _ _ (by kernel_rfl) rfl rfl (by kernel_rfl))
   refine Ops.bs1R (St.refl _) (by exact h67) O O ?_
   intro A8 w9 hst9
   refine Ops.n ?_
   exact AfterP.dn O hst9.below ⟨A8, A7, c7, O, hT9.call hst9⟩
  ·refine cPT fun e1 w1 hb hp hun hq => ?_
   obtain ⟨A8, A7, c7, h68, hT9⟩ := (hp 6 _ _ (by kernel_rfl) rfl rfl (by kernel_rfl))
   refine Ops.appR 4 hT9 O (hT9.rdR 0 O) O (by exact h68) O (by omega) (by omega) O ?_
   intro AQ cQ wZ hZ
   refine Ops.n ?_
   exact AfterU.dn O ⟨AQ, cQ, A7, c7, O, hZ.tail⟩
  ·intro e1 w1 cc hlo hhi hb0 hp hun hq; show Ops _ _ _ _ _ _ _
   have hX : Rd w1 A4 3 (fun q => [Value.int .i64 (d : Int), .slice X (i + 1) cX, .slice Y (i + 1) cY].getD q undef) := by { have hhi := le_of_hi hhi (b := 1) (by kernel_rfl); rcases (show cc = 0 ∨ cc = 1 by omega) with h | h; { exact Rd.below hA4 (hb0 h) }; { subst h; obtain ⟨AQ, cQ, A7, c7, _, hTT⟩ := hq 7 _ _ (by kernel_rfl) (by kernel_rfl) (by kernel_rfl) rfl rfl (by kernel_rfl); exact hTT.rd 1 rfl } }
   refine Ops.fld hX O O O O inferInstance (Ops.n (p0_ O (by exact O)))
  refine dPT 1 fun e1 w1 hp hun hq => ?_
  have hph := hp 7 _ _ (by kernel_rfl) O O (by kernel_rfl)
  obtain ⟨AQ, cQ, A7, c7, h69, hTT⟩ := hph
  refine Ops.stf 1 hTT O O (by exact h69) O O ?_
  intro w11 hT11
  refine Ops.n ?_
  exact AfterU.st O ⟨AQ, cQ, A7, c7, hT11⟩
 intro u w14 _ hu _ _
 obtain ⟨AQ, cQ, A7, c7, hT14⟩ := hu 9 _ rfl (by kernel_rfl)
 clear hT hA4
 have hT14 := hT14.perm (perm_n _ _ _ _ _)
 rw [← rowsCk_snoc (by rw [hys, alB_len])] at hT14
 have hb3k := Rd.below hb3 hT14.below
 refine post_ext (F := [(2, .pointer A2), (3, .pointer A3), (4, .pointer A4)]) ⟨O, O, O, trivial⟩ (Geo O (Ops.fld (hT14.rd 0 O) O O O O inferInstance (Ops.ldf_s (j := 1) (hT14.rd 0 O) (by exact congrArg Value.pointer O) O O O O (Ops.fld hb3k O O O O inferInstance (Ops.ldf_i (j := 0) hb3k (by exact congrArg Value.pointer O) O O O O (Ops.bs1I hT14 O O O ?_))))))
 intro A9 w15 hT15
 refine Ops.appI 2 hT15 O (hT15.rdI 0 O) O O O (by omega) (by omega) O ?_
 intro AZ cZ w16 hT16
 refine Ops.fld (hT16.rd 1 O) O O O O inferInstance (Ops.stf 1 (j := 1) hT16 O O O O O ?_)
 intro w17 hT17
 have hT17 := hT17.tail
 have hT18 : St w5 w17 (faB A4 (d : Int) AZ (i + 2) cZ AQ (i + 2) cQ :: CkI 2 AZ (i + 2) cZ (fcR d R) :: (mat 32 2 AQ (i + 2) cQ (ys ++ [⟨A7, i + 1, c7⟩]) (alBB i B) ++ [])) := hT17
 have hS18 := (hS5.call hT18).perm List.perm_append_comm
 refine Gdo O (Ops.ld_agg 2 (hT18.rd 0 O) O O O (Ops.st_agg 3 1 hS18 O O O O O O O ?_))
 intro w18 hS19
 refine Gdr O (retc_r O (hS19.rd 1 O) ?_)
 refine ⟨AZ, cZ, AQ, cQ, ys ++ [⟨A7, i + 1, c7⟩], O, by simp [hys], hS19.sub (show List.Sublist _ (_ :: _ :: _ :: _ :: ((mat 32 2 AD i cD rsD B ++ []) ++ (faB A4 (d : Int) AZ (i + 2) cZ AQ (i + 2) cQ :: _))) from ((((((List.Sublist.refl _).cons _).trans (List.sublist_append_right _ _)).cons _).cons _).cons _).cons _)⟩
end Go.Proofs.YtopgfgdgfjddpaaGreatDoor.Vc
/-
 The reference's order of the pairs of a product, so far as they are gathered: plain.
-/
namespace Go.Proofs.YtopgfgdgfjddpaaGreatDoor.Vc
section
variable (m1 m2 : Nat) (rk1 rk2 : Int → Int) (kind : Int)
def pxR (i : Int) (a : Int) (b : Nat) : List (Int × Int) := ((rngI b).filter fun b => decide (rkP rk1 rk2 kind (a, b) = i ∧ ¬ ExcP m1 m2 kind (a, b))).map fun b => (a, b)
def pxL (i a b : Nat) : List (Int × Int) := prL m1 m2 rk1 rk2 kind i ++ ((rngI a).flatMap (fun a => pxR m1 m2 rk1 rk2 kind i a m2) ++ pxR m1 m2 rk1 rk2 kind i (a : Int) b)
end
section
variable {m1 m2 : Nat} {rk1 rk2 : Int → Int} {kind : Int} {i a b : Nat}
theorem pxL_0 : pxL m1 m2 rk1 rk2 kind i 0 0 = prL m1 m2 rk1 rk2 kind i := by simp [pxL, pxR, rngI]
theorem pxL_row : pxL m1 m2 rk1 rk2 kind i (a + 1) 0 = pxL m1 m2 rk1 rk2 kind i a m2 := by
 unfold pxL
 rw [rngI_snoc, List.flatMap_append]
 simp [pxR, rngI]
theorem pxL_rank : pxL m1 m2 rk1 rk2 kind i m1 0 = pxL m1 m2 rk1 rk2 kind (i + 1) 0 0 := by
 rw [pxL_0]
 unfold pxL
 rw [prL]
 congr 1
 have : pxR m1 m2 rk1 rk2 kind (i : Int) (m1 : Int) 0 = [] := O
 rw [this, List.append_nil]
 rfl
theorem pxL_put (h : rkP rk1 rk2 kind ((a : Int), (b : Int)) = i ∧ ¬ ExcP m1 m2 kind ((a : Int), (b : Int))) : pxL m1 m2 rk1 rk2 kind i a (b + 1) = pxL m1 m2 rk1 rk2 kind i a b ++ [((a : Int), (b : Int))] := by
 unfold pxL
 have e : pxR m1 m2 rk1 rk2 kind (i : Int) (a : Int) (b + 1) = pxR m1 m2 rk1 rk2 kind (i : Int) (a : Int) b ++ [((a : Int), (b : Int))] := by
  unfold pxR
  rw [rngI_snoc, List.filter_append, List.map_append, List.filter_cons_of_pos (by simpa using h)]; rfl
 rw [e, ← List.append_assoc, ← List.append_assoc, ← List.append_assoc]
theorem pxL_skip (h : ¬ (rkP rk1 rk2 kind ((a : Int), (b : Int)) = i ∧ ¬ ExcP m1 m2 kind ((a : Int), (b : Int)))) : pxL m1 m2 rk1 rk2 kind i a (b + 1) = pxL m1 m2 rk1 rk2 kind i a b := by
 unfold pxL
 have e : pxR m1 m2 rk1 rk2 kind (i : Int) (a : Int) (b + 1) = pxR m1 m2 rk1 rk2 kind (i : Int) (a : Int) b := by
  unfold pxR
  rw [rngI_snoc, List.filter_append, List.map_append, List.filter_cons_of_neg (by simpa using h)]; simp
 rw [e]
theorem prL_mono : ∀ {k j : Nat}, j ≤ k → (prL m1 m2 rk1 rk2 kind j).length ≤ (prL m1 m2 rk1 rk2 kind k).length
 | 0, j, h => by
  obtain rfl : j = 0 := by omega
  exact Nat.le_refl _
 | k + 1, j, h => by
  by_cases e : j = k + 1
  ·subst e; exact Nat.le_refl _
  ·have := prL_mono (k := k) (j := j) (by omega)
   rw [prL, List.length_append]; omega
theorem pxR_len (i a : Int) (b : Nat) : (pxR m1 m2 rk1 rk2 kind i a b).length ≤ b := by
 unfold pxR
 rw [List.length_map]
 refine Nat.le_trans (List.length_filter_le _ _) ?_
 rw [rngI, List.length_map, List.length_range]; exact Nat.le_refl _
theorem pxF_len (i : Int) : ∀ a : Nat, ((rngI a).flatMap (fun a => pxR m1 m2 rk1 rk2 kind i a m2)).length ≤ a * m2
 | 0 => by simp [rngI]
 | a + 1 => by
  have h1 := pxF_len i a
  have h2 := pxR_len (m1 := m1) (m2 := m2) (rk1 := rk1) (rk2 := rk2) (kind := kind) i (a : Int) m2
  rw [rngI_snoc, List.flatMap_append, List.length_append, Nat.succ_mul]
  simp only [List.flatMap_cons, List.flatMap_nil, List.append_nil]
  omega
theorem pxL_len (h : (prL m1 m2 rk1 rk2 kind i).length ≤ 500) (hb : b ≤ m2) : (pxL m1 m2 rk1 rk2 kind i a b).length ≤ 500 + (a * m2 + b) := by
 unfold pxL
 have h1 := pxF_len (m1 := m1) (m2 := m2) (rk1 := rk1) (rk2 := rk2) (kind := kind) (i : Int) a
 have h2 := pxR_len (m1 := m1) (m2 := m2) (rk1 := rk1) (rk2 := rk2) (kind := kind) (i : Int) (a : Int) b
 rw [List.length_append, List.length_append]
 omega
end
end Go.Proofs.YtopgfgdgfjddpaaGreatDoor.Vc
/-
 The reference's product of the faces of two polytopes, walked.
-/
namespace Go.Proofs.YtopgfgdgfjddpaaGreatDoor.Vc
open Go.RowKit
structure FaR (w : World) (X8 : Option Addr) (X : List Int) (N : Nat) (Y8 : Option Addr) (ys : List SlV) (B : List (List Int)) : Prop where
 len : X.length = N + 2
 big : N ≤ 500
 rk : RdI w X8 (N + 2) X
 bl : RowsI w Y8 (N + 2) ys (alBB N B)
 bd : ∀ e : Int, 0 ≤ e → e < (N : Int) → (gl B e).length ≤ 500 ∧ ∀ d ∈ gl B e, 0 ≤ d ∧ d < (N : Int)
theorem FaR.later {w w' : World} {X8 : Option Addr} {X : List Int} {N : Nat} {Y8 : Option Addr} {ys : List SlV} {B : List (List Int)} (h : FaR w X8 X N Y8 ys B) (hb : Below w.heap.size w w') : FaR w' X8 X N Y8 ys B := ⟨h.len, h.big, h.rk.later hb, h.bl.later hb, h.bd⟩
def AnsPx (k : Nat) (RL : List Int) (BL : List (List Int)) (w : World) (v : Value) (w' : World) : Prop := ((5 < k ∨ 500 < RL.length) ∧ v = .tuple #[.agg #[.int .i64 0, .slice none 0 0, .slice none 0 0], .bool false] ∧ St w w' []) ∨ ((k ≤ 5 ∧ RL.length ≤ 500) ∧ ∃ AR c AD d rs, v = .tuple #[.agg #[.int .i64 (k : Int), .slice AR RL.length c, .slice AD RL.length d], .bool true] ∧ rs.length = RL.length ∧ BL.length = RL.length ∧ St w w' (CkI 2 AR RL.length c RL :: (mat 32 2 AD RL.length d rs BL ++ [])))
abbrev pxK (A10 A11 A12 AR : Option Addr) (c10 c11 cR : Nat) (L : List (Int × Int)) (rk : Int × Int → Int) (k : Int) (KK : List Ck) : List Ck :=
 CkI 2 A10 L.length c10 (L.map Prod.fst) :: CkI 2 A11 L.length c11 (L.map Prod.snd) :: poB A12 k AR L.length cR none 0 0 :: CkI 2 AR L.length cR (L.map rk) :: KK
abbrev pyK (A10 A11 A12 AR AD : Option Addr) (c10 c11 cR cD e : Nat) (L : List (Int × Int)) (rk : Int × Int → Int) (k : Int) (A6 A4 A3 : Option Addr) (v4 v3 : List Value) (rsD : List SlV) (B : List (List Int)) : List Ck :=
 CkI 2 A10 L.length c10 (L.map Prod.fst) :: CkI 2 A11 L.length c11 (L.map Prod.snd) :: poB A12 k AR L.length cR AD e cD :: CkI 2 AR L.length cR (L.map rk) :: poB A6 0 none 0 0 none 0 0 :: Bx 93 3 A4 v4 :: Bx 93 3 A3 v3 :: (mat 32 2 AD e cD rsD B ++ [])
theorem perm_j9 {α : Type} (b m q1 q2 q3 q4 q5 q6 q7 : α) (X : List α) : (b :: q1 :: q2 :: q3 :: q4 :: q5 :: q6 :: q7 :: m :: (X ++ [])).Perm (q1 :: q2 :: q3 :: q4 :: q5 :: q6 :: q7 :: m :: ((X ++ [b]) ++ [])) := by
 classical
 refine List.perm_iff_count.2 fun z => ?_
 simp only [List.count_append, List.count_cons, List.count_nil]
 omega
theorem perm_q {α : Type} (a b c d : α) (X : List α) : (a :: b :: c :: d :: X).Perm (d :: c :: b :: a :: X) := by
 classical
 refine List.perm_iff_count.2 fun z => ?_
 simp only [List.count_cons]
 omega
set_option maxHeartbeats 8000000 in
theorem l09Poset_c (X8 Z8 Y8 W8 : Option Addr) (cx cz cy cw : Nat) (N1 N2 : Nat) (X1 X2 : List Int) (ys1 ys2 : List SlV) (B1 B2 : List (List Int)) (n1 n2 kind : Int) (k : Nat) (w : World) (hF1 : FaR w X8 X1 N1 Y8 ys1 B1) (hF2 : FaR w Z8 X2 N2 W8 ys2 B2) (hL1 : Lat (N1 + 2) n1 (gi X1) (UndP N1 B1)) (hL2 : Lat (N2 + 2) n2 (gi X2) (UndP N2 B2)) (hk : 0 ≤ kind ∧ kind ≤ 2) (hkn : (k : Int) = rnP n1 n2 kind) (hn1 : n1 ≤ 5) (hn2 : n2 ≤ 5) :
  Ret Tryz.prog 103 [.agg #[.int .i64 n1, .slice X8 (N1 + 2) cx, .slice Y8 (N1 + 2) cy], .agg #[.int .i64 n2, .slice Z8 (N2 + 2) cz, .slice W8 (N2 + 2) cw], .int .i64 kind] w (AnsPx k ((prL (N1 + 2) (N2 + 2) (gi X1) (gi X2) kind k).map (rkP (gi X1) (gi X2) kind)) (prB (UndP N1 B1) (UndP N2 B2) (prL (N1 + 2) (N2 + 2) (gi X1) (gi X2) kind k)) w) := by
 have hb1 := hF1.big; have hb2 := hF2.big
 have hx1 := hF1.len; have hx2 := hF2.len
 have hn10 := hL1.n0; have hn20 := hL2.n0
 have hkr : (k : Int) = n1 + n2 + (if kind = 0 then 1 else 0) := by rw [hkn]; unfold rnP; split <;> omega
 refine Ret.of_cd Tryz.func103 O Tryz.ntmps103 O (postc2 O O) (Gbo O (Ops.box3T (St.refl w) O O ?_))
 intro A3 w1 hS1
 refine Ops.box3T hS1 O O ?_
 intro A4 w2 hS2
 refine Ops.newP hS2 O ?_
 intro A6 w3 hS3
 have hr3 := hS3.rd 2 O
 have hr4 := hS3.rd 1 O
 refine Gdo O (Ops.fld hr3 O O O O inferInstance (Ops.ldf_i (j := 0) hr3 (by exact congrArg Value.pointer O) O O O O (Ops.fld hr4 O O O O inferInstance (Ops.ldf_i (j := 0) hr4 (by exact congrArg Value.pointer O) O O O O ?_))))
 refine Ops.add O O O (by omega) (Gdj 0 O ?_)
 refine Cd.join (α := Unit) (fun _ => [(2, .int .i64 kind), (3, .pointer A3), (4, .pointer A4), (6, .pointer A6), (8, .int .i64 (k : Int)), (9, .int .i64 1)]) (fun _ w' => w' = w3) ?_ ?_
 ·refine Gbc O ?_
  refine Cd.cond_p _ O (fun h1 => ?_) (fun h1 => ?_)
  ·refine Gao O (Ops.add O O O (by omega) (Gdn O (tQ ?_)))
   exact ⟨(), ⟨O, O, O, O, congrArg (Value.int .i64) (by rw [hkr, if_pos h1]), O, trivial⟩, O⟩
  refine Gan O (tQ ?_)
  exact ⟨(), ⟨O, O, O, O, congrArg (Value.int .i64) (by rw [hkr, if_neg h1, Int.add_zero]), O, trivial⟩, O⟩
 rintro _ e w4 rfl
 refine Cd.join (α := Unit) (fun _ => [(2, .int .i64 kind), (3, .pointer A3), (4, .pointer A4), (6, .pointer A6), (8, .int .i64 (k : Int)), (9, .int .i64 (shP kind))]) (fun _ w' => w' = w4) ?_ ?_
 ·refine Gbc O ?_
  refine Cd.cond_p _ O (fun h1 => ?_) (fun h1 => ?_)
  ·refine Gan O (tQ ?_)
   exact ⟨(), ⟨O, O, O, O, O, congrArg (Value.int .i64) (by unfold shP; rw [if_pos h1]), trivial⟩, O⟩
  refine Gan O (tQ ?_)
  exact ⟨(), ⟨O, O, O, O, O, congrArg (Value.int .i64) (by unfold shP; rw [if_neg h1]), trivial⟩, O⟩
 rintro _ e w5 rfl
 refine Gac O ?_
 refine Cd.cond_p _ O (fun h1 => ?_) (fun h1 => ?_)
 ·refine Gao O (Ops.bldP0 (by exact inferInstance) (by exact inferInstance) (by exact inferInstance) O (Ops.st_agg 3 0 hS3 O O O O O O O ?_))
  intro w7 hS7
  refine Gdr O (retc2_r O (hS7.rd 0 O) O ?_)
  exact .inl ⟨.inl (by omega), O, hS7.none⟩
 have hk5 : k ≤ 5 := by omega
 obtain ⟨KK, hKK⟩ : ∃ KK : List Ck, KK = [poB A6 0 none 0 0 none 0 0, Bx 93 3 A4 [.int .i64 n2, .slice Z8 (N2 + 2) cz, .slice W8 (N2 + 2) cw], Bx 93 3 A3 [.int .i64 n1, .slice X8 (N1 + 2) cx, .slice Y8 (N1 + 2) cy]] := ⟨_, rfl⟩
 have hS3 : St w w5 KK := by rw [hKK]; exact hS3
 refine Gao O (Ops.bs0 hS3 O ?_)
 intro A10 w6 hS6
 refine Ops.bs0 hS6 O ?_
 intro A11 w7 hS7
 refine Gdo O (Ops.bldP1 (by exact inferInstance) (by exact inferInstance) (by exact inferInstance) O O O O O O (Ops.newP hS7 O ?_))
 intro A12 w8 hS8
 refine Gdo O (Ops.st_agg 3 0 hS8 O O O O O O O ?_)
 intro w9 hS9
 have hS9 : St w w9 (pxK A10 A11 A12 none 0 0 0 (pxL (N1 + 2) (N2 + 2) (gi X1) (gi X2) kind 0 0 0) (rkP (gi X1) (gi X2) kind) k KK) := by
  have h9 := hS9.nil 2
  rw [pxL_0]
  exact h9.perm (perm_q _ _ _ _ _)
 clear hS8 hS7 hS6
 have hp3 : ∀ {w' : World} {ks : List Ck}, St w w' (ks ++ KK) → Rd w' A3 3 (fun j => [Value.int .i64 n1, .slice X8 (N1 + 2) cx, .slice Y8 (N1 + 2) cy].getD j undef) := fun h => by
  have h9 := h.sub (List.sublist_append_right _ _)
  rw [hKK] at h9
  exact h9.rd 2 O
 have hp4 : ∀ {w' : World} {ks : List Ck}, St w w' (ks ++ KK) → Rd w' A4 3 (fun j => [Value.int .i64 n2, .slice Z8 (N2 + 2) cz, .slice W8 (N2 + 2) cw].getD j undef) := fun h => by
  have h9 := h.sub (List.sublist_append_right _ _)
  rw [hKK] at h9
  exact h9.rd 1 O
 have hsq : ∀ a : Nat, a ≤ N1 + 2 → a * (N2 + 2) ≤ 502 * 502 := fun a h => Nat.mul_le_mul (by omega) (by omega)
 refine Gdc O ?_
 refine Cd.loop (α := Nat × (Option Addr × Nat) × (Option Addr × Nat) × (Option Addr × Nat)) (fun z => [(2, .int .i64 kind), (3, .pointer A3), (4, .pointer A4), (6, .pointer A6), (8, .int .i64 (k : Int)), (9, .int .i64 (shP kind)), (12, .pointer A12), (10, .slice z.2.1.1 (pxL (N1 + 2) (N2 + 2) (gi X1) (gi X2) kind z.1 0 0).length z.2.1.2), (11, .slice z.2.2.1.1 (pxL (N1 + 2) (N2 + 2) (gi X1) (gi X2) kind z.1 0 0).length z.2.2.1.2), (13, .int .i64 (z.1 : Int))]) (fun z w' => z.1 ≤ k ∧ (prL (N1 + 2) (N2 + 2) (gi X1) (gi X2) kind z.1).length ≤ 500 ∧ St w w' (pxK z.2.1.1 z.2.2.1.1 A12 z.2.2.2.1 z.2.1.2 z.2.2.1.2 z.2.2.2.2 (pxL (N1 + 2) (N2 + 2) (gi X1) (gi X2) kind z.1 0 0) (rkP (gi X1) (gi X2) kind) k KK)) (fun z => k - z.1) (0, (A10, 0), (A11, 0), (none, 0)) ⟨O, O, O, O, O, O, O, O, O, O, trivial⟩ ⟨Nat.zero_le _, Nat.zero_le _, hS9⟩ ?_
 clear hS9
 rintro ⟨i, ⟨A10, c10⟩, ⟨A11, c11⟩, ⟨AR, cR⟩⟩ e w10 ⟨hi, hlen, hS⟩
 dsimp only at hi hlen hS ⊢
 refine Gbc O ?_
 refine Cd.cond_p _ O (fun h2 => ?_) (fun h2 => ?_)
 ·have hik : i < k := by omega
  refine Gac O ?_
  refine Cd.loop (α := Nat × (Option Addr × Nat) × (Option Addr × Nat) × (Option Addr × Nat)) (fun z => [(2, .int .i64 kind), (3, .pointer A3), (4, .pointer A4), (6, .pointer A6), (8, .int .i64 (k : Int)), (9, .int .i64 (shP kind)), (12, .pointer A12), (10, .slice z.2.1.1 (pxL (N1 + 2) (N2 + 2) (gi X1) (gi X2) kind i z.1 0).length z.2.1.2), (11, .slice z.2.2.1.1 (pxL (N1 + 2) (N2 + 2) (gi X1) (gi X2) kind i z.1 0).length z.2.2.1.2), (13, .int .i64 (i : Int)), (14, .int .i64 (z.1 : Int))]) (fun z w' => z.1 ≤ N1 + 2 ∧ St w w' (pxK z.2.1.1 z.2.2.1.1 A12 z.2.2.2.1 z.2.1.2 z.2.2.1.2 z.2.2.2.2 (pxL (N1 + 2) (N2 + 2) (gi X1) (gi X2) kind i z.1 0) (rkP (gi X1) (gi X2) kind) k KK)) (fun z => N1 + 2 - z.1) (0, (A10, c10), (A11, c11), (AR, cR)) ⟨O, O, O, O, O, O, O, O, O, O, O, trivial⟩ ⟨Nat.zero_le _, hS⟩ ?_
  clear hS
  rintro ⟨a, ⟨A10, c10⟩, ⟨A11, c11⟩, ⟨AR, cR⟩⟩ e w11 ⟨ha, hS⟩
  dsimp only at ha hS ⊢
  have h3a := hp3 (ks := [_, _, _, _]) hS
  refine Gbo O (Ops.fld h3a O O O O inferInstance (Ops.ldf_s (j := 1) h3a (by exact congrArg Value.pointer O) O O O O ?_))
  refine Ops.len O O (Gdc O ?_)
  refine Cd.cond_p _ O (fun h3 => ?_) (fun h3 => ?_)
  ·have haN : a < N1 + 2 := by omega
   have hsqa := hsq a (by omega)
   refine Gac O ?_
   refine Cd.loop (α := Nat × (Option Addr × Nat) × (Option Addr × Nat) × (Option Addr × Nat)) (fun z => [(2, .int .i64 kind), (3, .pointer A3), (4, .pointer A4), (6, .pointer A6), (8, .int .i64 (k : Int)), (9, .int .i64 (shP kind)), (12, .pointer A12), (10, .slice z.2.1.1 (pxL (N1 + 2) (N2 + 2) (gi X1) (gi X2) kind i a z.1).length z.2.1.2), (11, .slice z.2.2.1.1 (pxL (N1 + 2) (N2 + 2) (gi X1) (gi X2) kind i a z.1).length z.2.2.1.2), (13, .int .i64 (i : Int)), (14, .int .i64 (a : Int)), (15, .int .i64 (z.1 : Int))]) (fun z w' => z.1 ≤ N2 + 2 ∧ St w w' (pxK z.2.1.1 z.2.2.1.1 A12 z.2.2.2.1 z.2.1.2 z.2.2.1.2 z.2.2.2.2 (pxL (N1 + 2) (N2 + 2) (gi X1) (gi X2) kind i a z.1) (rkP (gi X1) (gi X2) kind) k KK)) (fun z => N2 + 2 - z.1) (0, (A10, c10), (A11, c11), (AR, cR)) ⟨O, O, O, O, O, O, O, O, O, O, O, O, trivial⟩ ⟨Nat.zero_le _, hS⟩ ?_
   clear hS h3a
   rintro ⟨b, ⟨A10, c10⟩, ⟨A11, c11⟩, ⟨AR, cR⟩⟩ e w12 ⟨hb, hS⟩
   dsimp only at hb hS ⊢
   have h3b := hp3 (ks := [_, _, _, _]) hS
   have h4b := hp4 (ks := [_, _, _, _]) hS
   have hlL := pxL_len (a := a) hlen hb
   refine Gbo O (Ops.fld h4b O O O O inferInstance (Ops.ldf_s (j := 1) h4b (by exact congrArg Value.pointer O) O O O O ?_))
   refine Ops.len O O (Gdc O ?_)
   refine Cd.cond_p _ O (fun h4 => ?_) (fun h4 => ?_)
   ·have hbN : b < N2 + 2 := by omega
    have hx3 := (hF1.later hS.below).rk
    have hx4 := (hF2.later hS.below).rk
    have ga := hL1.rng (a := (a : Int)) (by omega)
    have gb := hL2.rng (a := (b : Int)) (by omega)
    have gs0 : 0 ≤ shP kind ∧ shP kind ≤ 1 := by unfold shP; split <;> omega
    have hrk : rkP (gi X1) (gi X2) kind ((a : Int), (b : Int)) = gi X1 (a : Int) + gi X2 (b : Int) + shP kind := O
    have hsk := pxL_skip (m1 := N1 + 2) (m2 := N2 + 2) (rk1 := gi X1) (rk2 := gi X2) (kind := kind) (i := i) (a := a) (b := b)
    have hpt := pxL_put (m1 := N1 + 2) (m2 := N2 + 2) (rk1 := gi X1) (rk2 := gi X2) (kind := kind) (i := i) (a := a) (b := b)
    have hex : ExcP (N1 + 2) (N2 + 2) kind ((a : Int), (b : Int)) ↔ ((kind = 1 ∧ ((a : Int) = 0 ∨ (b : Int) = 0)) ∨ (kind = 2 ∧ ((a : Int) = ((N1 + 2 : Nat) : Int) - 1 ∨ (b : Int) = ((N2 + 2 : Nat) : Int) - 1))) := Iff.rfl
    have hcase : (gi X1 (a : Int) + gi X2 (b : Int) + shP kind ≠ (i : Int)) ∨ (gi X1 (a : Int) + gi X2 (b : Int) + shP kind = (i : Int) ∧ ((kind = 1 ∧ (a : Int) = 0) ∨ (kind = 1 ∧ (a : Int) ≠ 0 ∧ (b : Int) = 0) ∨ (kind = 1 ∧ (a : Int) ≠ 0 ∧ (b : Int) ≠ 0) ∨ (kind = 2 ∧ (a : Int) = ((N1 + 2 : Nat) : Int) - 1) ∨ (kind = 2 ∧ (a : Int) ≠ ((N1 + 2 : Nat) : Int) - 1 ∧ (b : Int) = ((N2 + 2 : Nat) : Int) - 1) ∨ (kind = 2 ∧ (a : Int) ≠ ((N1 + 2 : Nat) : Int) - 1 ∧ (b : Int) ≠ ((N2 + 2 : Nat) : Int) - 1) ∨ kind = 0)) := by omega
    rcases hcase with q1 | ⟨q1, ⟨k1, p1⟩ | ⟨k1, p1, p2⟩ | ⟨k1, p1, p2⟩ | ⟨k1, p1⟩ | ⟨k1, p1, p2⟩ | ⟨k1, p1, p2⟩ | k1⟩
    ·
     refine Gac O ?_
     refine Cd.draw [xP (ptrAt (A3) 1), xS (X8) (N1 + 2) (cx), xI ((a : Int)), xP (ptrAt (X8) ((a : Int)).toNat), xI (gi (X1) ((a : Int))), xP (ptrAt (A4) 1), xS (Z8) (N2 + 2) (cz), xI ((b : Int)), xP (ptrAt (Z8) ((b : Int)).toNat), xI (gi (X2) ((b : Int))), xI ((gi (X1) ((a : Int))) + (gi (X2) ((b : Int)))), xI ((shP kind)), xI (((gi (X1) ((a : Int))) + (gi (X2) ((b : Int)))) + ((shP kind))), xI ((i : Int)), xB (decide (¬ (((gi (X1) ((a : Int))) + (gi (X2) ((b : Int)))) + ((shP kind))) = ((i : Int)))), xB (true), xU, xU, xU, xU, xU, xU, xU, xU, xU, xU, xB (true), xB (true), xU, xU, xU, xU, xU, xU, xU, xU, xU, xU, xU, xU, xU, xU, xU, xU, xU, xU, xB (true)] (by kernel_rfl) (by kernel_rfl) O (exL O) ?_ ?_
     ·exact ⟨fun _ _ hb _ _ => Ops.fld (h3b.below hb) O O O O inferInstance (Az O), fun _ _ hb _ _ => Ops.ldf_s (h3b.below hb) O O O O O (Az O), Dr O, fun _ _ hb _ _ => Ops.idx (hx3.later hb).2 O O O (by omega) (by omega) (Az O), fun _ _ hb _ _ => Ops.ld_int (hx3.later hb) O (by omega) O O (Az O), fun _ _ hb _ _ => Ops.fld (h4b.below hb) O O O O inferInstance (Az O), fun _ _ hb _ _ => Ops.ldf_s (h4b.below hb) O O O O O (Az O), Dr O, fun _ _ hb _ _ => Ops.idx (hx4.later hb).2 O O O (by omega) (by omega) (Az O), fun _ _ hb _ _ => Ops.ld_int (hx4.later hb) O (by omega) O O (Az O), fun _ _ _ _ _ => Ops.add O O O (by omega) (Az O), Dr O, fun _ _ _ _ _ => Ops.add O O O (by omega) (Az O), Dr O, Dr O, fun _ _ _ _ _ => Dk O (by exact congrArg Value.bool (decide_eq_true q1)), Dr O, Dr O, Dr O, Dr O, Dr O, Dr O, Dr O, Dr O, Dr O, Dr O, Dr O, fun _ _ _ _ _ => Dk O (by exact congrArg Value.bool (O)), Dr O, Dr O, Dr O, Dr O, Dr O, Dr O, Dr O, Dr O, Dr O, Dr O, Dr O, Dr O, Dr O, Dr O, Dr O, Dr O, Dr O, Dr O, Dr O, trivial⟩
     intro u w13 hb13 _
     have hS := hS.later hb13
     refine Gec O (Cd.cond_t O ?_)
     have hsk := hsk (fun h => q1 (by rw [hrk] at h; exact h.1))
     refine Gao O (Ops.add O O O (by omega) (Gdn O (tQ ?_)))
     exact ⟨(b + 1, (A10, c10), (A11, c11), (AR, cR)), by show N2 + 2 - (b + 1) < N2 + 2 - b; omega, ⟨O, O, O, O, O, O, O, congrArg (fun L : List (Int × Int) => Value.slice A10 L.length c10) hsk.symm, congrArg (fun L : List (Int × Int) => Value.slice A11 L.length c11) hsk.symm, O, O, O, trivial⟩, by show b + 1 ≤ N2 + 2; omega, by show St w w13 (pxK A10 A11 A12 AR c10 c11 cR (pxL _ _ _ _ kind i a (b + 1)) _ k KK); rw [hsk]; exact hS⟩
    ·refine Gac O ?_
     refine Cd.draw [xP (ptrAt (A3) 1), xS (X8) (N1 + 2) (cx), xI ((a : Int)), xP (ptrAt (X8) ((a : Int)).toNat), xI (gi (X1) ((a : Int))), xP (ptrAt (A4) 1), xS (Z8) (N2 + 2) (cz), xI ((b : Int)), xP (ptrAt (Z8) ((b : Int)).toNat), xI (gi (X2) ((b : Int))), xI ((gi (X1) ((a : Int))) + (gi (X2) ((b : Int)))), xI ((shP kind)), xI (((gi (X1) ((a : Int))) + (gi (X2) ((b : Int)))) + ((shP kind))), xI ((i : Int)), xB (decide (¬ (((gi (X1) ((a : Int))) + (gi (X2) ((b : Int)))) + ((shP kind))) = ((i : Int)))), xB (false), xI (kind), xB (decide ((kind) = ((1 : Int)))), xB (true), xI ((a : Int)), xB (decide (((a : Int)) = ((0 : Int)))), xB (true), xU, xU, xB (true), xB (true), xB (true), xB (true), xU, xU, xU, xU, xU, xU, xU, xU, xU, xU, xU, xU, xU, xU, xU, xU, xU, xU, xB (true)] (by kernel_rfl) (by kernel_rfl) O (exL O) ?_ ?_
     ·exact ⟨fun _ _ hb _ _ => Ops.fld (h3b.below hb) O O O O inferInstance (Az O), fun _ _ hb _ _ => Ops.ldf_s (h3b.below hb) O O O O O (Az O), Dr O, fun _ _ hb _ _ => Ops.idx (hx3.later hb).2 O O O (by omega) (by omega) (Az O), fun _ _ hb _ _ => Ops.ld_int (hx3.later hb) O (by omega) O O (Az O), fun _ _ hb _ _ => Ops.fld (h4b.below hb) O O O O inferInstance (Az O), fun _ _ hb _ _ => Ops.ldf_s (h4b.below hb) O O O O O (Az O), Dr O, fun _ _ hb _ _ => Ops.idx (hx4.later hb).2 O O O (by omega) (by omega) (Az O), fun _ _ hb _ _ => Ops.ld_int (hx4.later hb) O (by omega) O O (Az O), fun _ _ _ _ _ => Ops.add O O O (by omega) (Az O), Dr O, fun _ _ _ _ _ => Ops.add O O O (by omega) (Az O), Dr O, Dr O, fun _ _ _ _ _ => Dk O (by exact congrArg Value.bool (decide_eq_false (fun h => h q1))), Dr O, Dr O, fun _ _ _ _ _ => Dk O (by exact congrArg Value.bool (decide_eq_true k1)), Dr O, Dr O, fun _ _ _ _ _ => Dk O (by exact congrArg Value.bool (decide_eq_true p1)), Dr O, Dr O, Dr O, Dr O, Dr O, fun _ _ _ _ _ => Dk O (by exact congrArg Value.bool (O)), Dr O, Dr O, Dr O, Dr O, Dr O, Dr O, Dr O, Dr O, Dr O, Dr O, Dr O, Dr O, Dr O, Dr O, Dr O, Dr O, Dr O, Dr O, Dr O, trivial⟩
     intro u w13 hb13 _
     have hS := hS.later hb13
     refine Gec O (Cd.cond_t O ?_)
     have hsk := hsk (fun h => h.2 (hex.2 (.inl ⟨k1, .inl p1⟩)))
     refine Gao O (Ops.add O O O (by omega) (Gdn O (tQ ?_)))
     exact ⟨(b + 1, (A10, c10), (A11, c11), (AR, cR)), by show N2 + 2 - (b + 1) < N2 + 2 - b; omega, ⟨O, O, O, O, O, O, O, congrArg (fun L : List (Int × Int) => Value.slice A10 L.length c10) hsk.symm, congrArg (fun L : List (Int × Int) => Value.slice A11 L.length c11) hsk.symm, O, O, O, trivial⟩, by show b + 1 ≤ N2 + 2; omega, by show St w w13 (pxK A10 A11 A12 AR c10 c11 cR (pxL _ _ _ _ kind i a (b + 1)) _ k KK); rw [hsk]; exact hS⟩
    ·refine Gac O ?_
     refine Cd.draw [xP (ptrAt (A3) 1), xS (X8) (N1 + 2) (cx), xI ((a : Int)), xP (ptrAt (X8) ((a : Int)).toNat), xI (gi (X1) ((a : Int))), xP (ptrAt (A4) 1), xS (Z8) (N2 + 2) (cz), xI ((b : Int)), xP (ptrAt (Z8) ((b : Int)).toNat), xI (gi (X2) ((b : Int))), xI ((gi (X1) ((a : Int))) + (gi (X2) ((b : Int)))), xI ((shP kind)), xI (((gi (X1) ((a : Int))) + (gi (X2) ((b : Int)))) + ((shP kind))), xI ((i : Int)), xB (decide (¬ (((gi (X1) ((a : Int))) + (gi (X2) ((b : Int)))) + ((shP kind))) = ((i : Int)))), xB (false), xI (kind), xB (decide ((kind) = ((1 : Int)))), xB (true), xI ((a : Int)), xB (decide (((a : Int)) = ((0 : Int)))), xB (false), xI ((b : Int)), xB (decide (((b : Int)) = ((0 : Int)))), xB (decide (((b : Int)) = ((0 : Int)))), xB (decide (((b : Int)) = ((0 : Int)))), xB (decide (((b : Int)) = ((0 : Int)))), xB (true), xU, xU, xU, xU, xU, xU, xU, xU, xU, xU, xU, xU, xU, xU, xU, xU, xU, xU, xB (true)] (by kernel_rfl) (by kernel_rfl) O (exL O) ?_ ?_
     ·exact ⟨fun _ _ hb _ _ => Ops.fld (h3b.below hb) O O O O inferInstance (Az O), fun _ _ hb _ _ => Ops.ldf_s (h3b.below hb) O O O O O (Az O), Dr O, fun _ _ hb _ _ => Ops.idx (hx3.later hb).2 O O O (by omega) (by omega) (Az O), fun _ _ hb _ _ => Ops.ld_int (hx3.later hb) O (by omega) O O (Az O), fun _ _ hb _ _ => Ops.fld (h4b.below hb) O O O O inferInstance (Az O), fun _ _ hb _ _ => Ops.ldf_s (h4b.below hb) O O O O O (Az O), Dr O, fun _ _ hb _ _ => Ops.idx (hx4.later hb).2 O O O (by omega) (by omega) (Az O), fun _ _ hb _ _ => Ops.ld_int (hx4.later hb) O (by omega) O O (Az O), fun _ _ _ _ _ => Ops.add O O O (by omega) (Az O), Dr O, fun _ _ _ _ _ => Ops.add O O O (by omega) (Az O), Dr O, Dr O, fun _ _ _ _ _ => Dk O (by exact congrArg Value.bool (decide_eq_false (fun h => h q1))), Dr O, Dr O, fun _ _ _ _ _ => Dk O (by exact congrArg Value.bool (decide_eq_true k1)), Dr O, Dr O, fun _ _ _ _ _ => Dk O (by exact congrArg Value.bool (decide_eq_false p1)), Dr O, Dr O, Dr O, Dr O, Dr O, fun _ _ _ _ _ => Dk O (by exact congrArg Value.bool (decide_eq_true p2)), Dr O, Dr O, Dr O, Dr O, Dr O, Dr O, Dr O, Dr O, Dr O, Dr O, Dr O, Dr O, Dr O, Dr O, Dr O, Dr O, Dr O, Dr O, Dr O, trivial⟩
     intro u w13 hb13 _
     have hS := hS.later hb13
     refine Gec O (Cd.cond_t O ?_)
     have hsk := hsk (fun h => h.2 (hex.2 (.inl ⟨k1, .inr p2⟩)))
     refine Gao O (Ops.add O O O (by omega) (Gdn O (tQ ?_)))
     exact ⟨(b + 1, (A10, c10), (A11, c11), (AR, cR)), by show N2 + 2 - (b + 1) < N2 + 2 - b; omega, ⟨O, O, O, O, O, O, O, congrArg (fun L : List (Int × Int) => Value.slice A10 L.length c10) hsk.symm, congrArg (fun L : List (Int × Int) => Value.slice A11 L.length c11) hsk.symm, O, O, O, trivial⟩, by show b + 1 ≤ N2 + 2; omega, by show St w w13 (pxK A10 A11 A12 AR c10 c11 cR (pxL _ _ _ _ kind i a (b + 1)) _ k KK); rw [hsk]; exact hS⟩
    ·refine Gac O ?_
     refine Cd.draw [xP (ptrAt (A3) 1), xS (X8) (N1 + 2) (cx), xI ((a : Int)), xP (ptrAt (X8) ((a : Int)).toNat), xI (gi (X1) ((a : Int))), xP (ptrAt (A4) 1), xS (Z8) (N2 + 2) (cz), xI ((b : Int)), xP (ptrAt (Z8) ((b : Int)).toNat), xI (gi (X2) ((b : Int))), xI ((gi (X1) ((a : Int))) + (gi (X2) ((b : Int)))), xI ((shP kind)), xI (((gi (X1) ((a : Int))) + (gi (X2) ((b : Int)))) + ((shP kind))), xI ((i : Int)), xB (decide (¬ (((gi (X1) ((a : Int))) + (gi (X2) ((b : Int)))) + ((shP kind))) = ((i : Int)))), xB (false), xI (kind), xB (decide ((kind) = ((1 : Int)))), xB (true), xI ((a : Int)), xB (decide (((a : Int)) = ((0 : Int)))), xB (false), xI ((b : Int)), xB (decide (((b : Int)) = ((0 : Int)))), xB (decide (((b : Int)) = ((0 : Int)))), xB (decide (((b : Int)) = ((0 : Int)))), xB (decide (((b : Int)) = ((0 : Int)))), xB (false), xI (kind), xB (decide ((kind) = ((2 : Int)))), xB (false), xU, xU, xU, xU, xU, xU, xU, xU, xU, xU, xU, xU, xU, xU, xB (false), xB (false)] (by kernel_rfl) (by kernel_rfl) O (exL O) ?_ ?_
     ·exact ⟨fun _ _ hb _ _ => Ops.fld (h3b.below hb) O O O O inferInstance (Az O), fun _ _ hb _ _ => Ops.ldf_s (h3b.below hb) O O O O O (Az O), Dr O, fun _ _ hb _ _ => Ops.idx (hx3.later hb).2 O O O (by omega) (by omega) (Az O), fun _ _ hb _ _ => Ops.ld_int (hx3.later hb) O (by omega) O O (Az O), fun _ _ hb _ _ => Ops.fld (h4b.below hb) O O O O inferInstance (Az O), fun _ _ hb _ _ => Ops.ldf_s (h4b.below hb) O O O O O (Az O), Dr O, fun _ _ hb _ _ => Ops.idx (hx4.later hb).2 O O O (by omega) (by omega) (Az O), fun _ _ hb _ _ => Ops.ld_int (hx4.later hb) O (by omega) O O (Az O), fun _ _ _ _ _ => Ops.add O O O (by omega) (Az O), Dr O, fun _ _ _ _ _ => Ops.add O O O (by omega) (Az O), Dr O, Dr O, fun _ _ _ _ _ => Dk O (by exact congrArg Value.bool (decide_eq_false (fun h => h q1))), Dr O, Dr O, fun _ _ _ _ _ => Dk O (by exact congrArg Value.bool (decide_eq_true k1)), Dr O, Dr O, fun _ _ _ _ _ => Dk O (by exact congrArg Value.bool (decide_eq_false p1)), Dr O, Dr O, Dr O, Dr O, Dr O, fun _ _ _ _ _ => Dk O (by exact congrArg Value.bool (decide_eq_false p2)), Dr O, Dr O, fun _ _ _ _ _ => Dk O (by exact congrArg Value.bool (decide_eq_false (by omega))), Dr O, Dr O, Dr O, Dr O, Dr O, Dr O, Dr O, Dr O, Dr O, Dr O, Dr O, Dr O, Dr O, Dr O, Dr O, Dr O, trivial⟩
     intro u w13 hb13 _
     have hS := hS.later hb13
     refine Gec O (Cd.cond_f O ?_)
     have hpt := hpt ⟨by rw [hrk]; exact q1, fun h => by have := hex.1 h; omega⟩
     have hl1 : (pxL (N1 + 2) (N2 + 2) (gi X1) (gi X2) kind i a (b + 1)).length = (pxL (N1 + 2) (N2 + 2) (gi X1) (gi X2) kind i a b).length + 1 := by rw [hpt, List.length_append]; rfl
     refine Gao O (Ops.bs1I hS O O O ?_)
     intro A91 w14 hS14
     refine Ops.appI 1 hS14 O (hS14.rdI 0 O) O O O (by omega) (by omega) O ?_
     intro AZ cZ w15 hS15
     have hS15 := hS15.tail
     refine Gdo O (Ops.bs1I hS15 O O O ?_)
     intro A92 w16 hS16
     refine Ops.appI 2 hS16 O (hS16.rdI 0 O) O O O (by omega) (by omega) O ?_
     intro AQ cQ w17 hS17
     have hS17 := hS17.tail
     refine Gdo O (Ops.fld (hS17.rd 2 O) O O O O inferInstance (Ops.ldf_s (j := 1) (hS17.rd 2 O) (by exact congrArg Value.pointer O) O O O O (Gdo O (Ops.bs1I hS17 O O O ?_))))
     intro A93 w18 hS18
     refine Ops.appI 4 hS18 O (hS18.rdI 0 O) O O O (by omega) (by omega) O ?_
     intro AW cW w19 hS19
     refine Ops.fld (hS19.rd 3 O) O O O O inferInstance (Ops.stf 3 (j := 1) hS19 O O O O O ?_)
     intro w20 hS20
     have hS20 := hS20.tail
     refine Gdo O (Ops.add O O O (by omega) (Gdn O (tQ ?_)))
     refine ⟨(b + 1, (AZ, cZ), (AQ, cQ), (AW, cW)), by show N2 + 2 - (b + 1) < N2 + 2 - b; omega, ⟨O, O, O, O, O, O, O, congrArg (fun m : Nat => Value.slice AZ m cZ) hl1.symm, congrArg (fun m : Nat => Value.slice AQ m cQ) hl1.symm, O, O, O, trivial⟩, by show b + 1 ≤ N2 + 2; omega, ?_⟩
     show St w w20 (pxK AZ AQ A12 AW cZ cQ cW (pxL _ _ _ _ kind i a (b + 1)) _ k KK)
     unfold pxK
     rw [hl1, hpt, List.map_append, List.map_append, List.map_append]
     rw [show [((a : Int), (b : Int))].map (rkP (gi X1) (gi X2) kind) = [(i : Int)] from congrArg (fun x => [x]) (hrk.trans q1)]
     exact hS20
    ·refine Gac O ?_
     refine Cd.draw [xP (ptrAt (A3) 1), xS (X8) (N1 + 2) (cx), xI ((a : Int)), xP (ptrAt (X8) ((a : Int)).toNat), xI (gi (X1) ((a : Int))), xP (ptrAt (A4) 1), xS (Z8) (N2 + 2) (cz), xI ((b : Int)), xP (ptrAt (Z8) ((b : Int)).toNat), xI (gi (X2) ((b : Int))), xI ((gi (X1) ((a : Int))) + (gi (X2) ((b : Int)))), xI ((shP kind)), xI (((gi (X1) ((a : Int))) + (gi (X2) ((b : Int)))) + ((shP kind))), xI ((i : Int)), xB (decide (¬ (((gi (X1) ((a : Int))) + (gi (X2) ((b : Int)))) + ((shP kind))) = ((i : Int)))), xB (false), xI (kind), xB (decide ((kind) = ((1 : Int)))), xB (false), xU, xU, xU, xU, xU, xU, xB (false), xB (false), xB (false), xI (kind), xB (decide ((kind) = ((2 : Int)))), xB (true), xI ((a : Int)), xP (ptrAt (A3) 1), xS (X8) (N1 + 2) (cx), xI (((N1 + 2 : Nat) : Int)), xI ((((N1 + 2 : Nat) : Int)) - ((1 : Int))), xB (decide (((a : Int)) = ((((N1 + 2 : Nat) : Int)) - ((1 : Int))))), xB (true), xU, xU, xU, xU, xU, xU, xB (true), xB (true), xB (true)] (by kernel_rfl) (by kernel_rfl) O (exL O) ?_ ?_
     ·exact ⟨fun _ _ hb _ _ => Ops.fld (h3b.below hb) O O O O inferInstance (Az O), fun _ _ hb _ _ => Ops.ldf_s (h3b.below hb) O O O O O (Az O), Dr O, fun _ _ hb _ _ => Ops.idx (hx3.later hb).2 O O O (by omega) (by omega) (Az O), fun _ _ hb _ _ => Ops.ld_int (hx3.later hb) O (by omega) O O (Az O), fun _ _ hb _ _ => Ops.fld (h4b.below hb) O O O O inferInstance (Az O), fun _ _ hb _ _ => Ops.ldf_s (h4b.below hb) O O O O O (Az O), Dr O, fun _ _ hb _ _ => Ops.idx (hx4.later hb).2 O O O (by omega) (by omega) (Az O), fun _ _ hb _ _ => Ops.ld_int (hx4.later hb) O (by omega) O O (Az O), fun _ _ _ _ _ => Ops.add O O O (by omega) (Az O), Dr O, fun _ _ _ _ _ => Ops.add O O O (by omega) (Az O), Dr O, Dr O, fun _ _ _ _ _ => Dk O (by exact congrArg Value.bool (decide_eq_false (fun h => h q1))), Dr O, Dr O, fun _ _ _ _ _ => Dk O (by exact congrArg Value.bool (decide_eq_false (by omega))), Dr O, Dr O, Dr O, Dr O, Dr O, Dr O, Dr O, Dr O, fun _ _ _ _ _ => Dk O (by exact congrArg Value.bool (O)), Dr O, Dr O, fun _ _ _ _ _ => Dk O (by exact congrArg Value.bool (decide_eq_true k1)), Dr O, fun _ _ hb _ _ => Ops.g O O O (Ops.fld (h3b.below hb) O O O O inferInstance (Az O)), fun _ _ hb _ _ => Ops.g O O O (Ops.ldf_s (h3b.below hb) O O O O O (Az O)), fun _ _ _ _ _ => Ops.g O O O (Ops.len O O (Az O)), fun _ _ _ _ _ => Ops.g O O O (Ops.sub O O O (by omega) (Az O)), Dr O, fun _ _ _ _ _ => Dk O (by exact congrArg Value.bool (decide_eq_true p1)), Dr O, Dr O, Dr O, Dr O, Dr O, Dr O, Dr O, Dr O, Dr O, trivial⟩
     intro u w13 hb13 _
     have hS := hS.later hb13
     refine Gec O (Cd.cond_t O ?_)
     have hsk := hsk (fun h => h.2 (hex.2 (.inr ⟨k1, .inl p1⟩)))
     refine Gao O (Ops.add O O O (by omega) (Gdn O (tQ ?_)))
     exact ⟨(b + 1, (A10, c10), (A11, c11), (AR, cR)), by show N2 + 2 - (b + 1) < N2 + 2 - b; omega, ⟨O, O, O, O, O, O, O, congrArg (fun L : List (Int × Int) => Value.slice A10 L.length c10) hsk.symm, congrArg (fun L : List (Int × Int) => Value.slice A11 L.length c11) hsk.symm, O, O, O, trivial⟩, by show b + 1 ≤ N2 + 2; omega, by show St w w13 (pxK A10 A11 A12 AR c10 c11 cR (pxL _ _ _ _ kind i a (b + 1)) _ k KK); rw [hsk]; exact hS⟩
    ·refine Gac O ?_
     refine Cd.draw [xP (ptrAt (A3) 1), xS (X8) (N1 + 2) (cx), xI ((a : Int)), xP (ptrAt (X8) ((a : Int)).toNat), xI (gi (X1) ((a : Int))), xP (ptrAt (A4) 1), xS (Z8) (N2 + 2) (cz), xI ((b : Int)), xP (ptrAt (Z8) ((b : Int)).toNat), xI (gi (X2) ((b : Int))), xI ((gi (X1) ((a : Int))) + (gi (X2) ((b : Int)))), xI ((shP kind)), xI (((gi (X1) ((a : Int))) + (gi (X2) ((b : Int)))) + ((shP kind))), xI ((i : Int)), xB (decide (¬ (((gi (X1) ((a : Int))) + (gi (X2) ((b : Int)))) + ((shP kind))) = ((i : Int)))), xB (false), xI (kind), xB (decide ((kind) = ((1 : Int)))), xB (false), xU, xU, xU, xU, xU, xU, xB (false), xB (false), xB (false), xI (kind), xB (decide ((kind) = ((2 : Int)))), xB (true), xI ((a : Int)), xP (ptrAt (A3) 1), xS (X8) (N1 + 2) (cx), xI (((N1 + 2 : Nat) : Int)), xI ((((N1 + 2 : Nat) : Int)) - ((1 : Int))), xB (decide (((a : Int)) = ((((N1 + 2 : Nat) : Int)) - ((1 : Int))))), xB (false), xI ((b : Int)), xP (ptrAt (A4) 1), xS (Z8) (N2 + 2) (cz), xI (((N2 + 2 : Nat) : Int)), xI ((((N2 + 2 : Nat) : Int)) - ((1 : Int))), xB (decide (((b : Int)) = ((((N2 + 2 : Nat) : Int)) - ((1 : Int))))), xB (decide (((b : Int)) = ((((N2 + 2 : Nat) : Int)) - ((1 : Int))))), xB (decide (((b : Int)) = ((((N2 + 2 : Nat) : Int)) - ((1 : Int))))), xB (decide (((b : Int)) = ((((N2 + 2 : Nat) : Int)) - ((1 : Int)))))] (by kernel_rfl) (by kernel_rfl) O (exL O) ?_ ?_
     ·exact ⟨fun _ _ hb _ _ => Ops.fld (h3b.below hb) O O O O inferInstance (Az O), fun _ _ hb _ _ => Ops.ldf_s (h3b.below hb) O O O O O (Az O), Dr O, fun _ _ hb _ _ => Ops.idx (hx3.later hb).2 O O O (by omega) (by omega) (Az O), fun _ _ hb _ _ => Ops.ld_int (hx3.later hb) O (by omega) O O (Az O), fun _ _ hb _ _ => Ops.fld (h4b.below hb) O O O O inferInstance (Az O), fun _ _ hb _ _ => Ops.ldf_s (h4b.below hb) O O O O O (Az O), Dr O, fun _ _ hb _ _ => Ops.idx (hx4.later hb).2 O O O (by omega) (by omega) (Az O), fun _ _ hb _ _ => Ops.ld_int (hx4.later hb) O (by omega) O O (Az O), fun _ _ _ _ _ => Ops.add O O O (by omega) (Az O), Dr O, fun _ _ _ _ _ => Ops.add O O O (by omega) (Az O), Dr O, Dr O, fun _ _ _ _ _ => Dk O (by exact congrArg Value.bool (decide_eq_false (fun h => h q1))), Dr O, Dr O, fun _ _ _ _ _ => Dk O (by exact congrArg Value.bool (decide_eq_false (by omega))), Dr O, Dr O, Dr O, Dr O, Dr O, Dr O, Dr O, Dr O, fun _ _ _ _ _ => Dk O (by exact congrArg Value.bool (O)), Dr O, Dr O, fun _ _ _ _ _ => Dk O (by exact congrArg Value.bool (decide_eq_true k1)), Dr O, fun _ _ hb _ _ => Ops.g O O O (Ops.fld (h3b.below hb) O O O O inferInstance (Az O)), fun _ _ hb _ _ => Ops.g O O O (Ops.ldf_s (h3b.below hb) O O O O O (Az O)), fun _ _ _ _ _ => Ops.g O O O (Ops.len O O (Az O)), fun _ _ _ _ _ => Ops.g O O O (Ops.sub O O O (by omega) (Az O)), Dr O, fun _ _ _ _ _ => Dk O (by exact congrArg Value.bool (decide_eq_false p1)), Dr O, fun _ _ hb _ _ => Ops.g O O O (Ops.fld (h4b.below hb) O O O O inferInstance (Az O)), fun _ _ hb _ _ => Ops.g O O O (Ops.ldf_s (h4b.below hb) O O O O O (Az O)), fun _ _ _ _ _ => Ops.g O O O (Ops.len O O (Az O)), fun _ _ _ _ _ => Ops.g O O O (Ops.sub O O O (by omega) (Az O)), Dr O, Dr O, Dr O, Dr O, trivial⟩
     intro u w13 hb13 _
     have hS := hS.later hb13
     refine Gec O (Cd.cond_pt O p2 ?_)
     have hsk := hsk (fun h => h.2 (hex.2 (.inr ⟨k1, .inr p2⟩)))
     refine Gao O (Ops.add O O O (by omega) (Gdn O (tQ ?_)))
     exact ⟨(b + 1, (A10, c10), (A11, c11), (AR, cR)), by show N2 + 2 - (b + 1) < N2 + 2 - b; omega, ⟨O, O, O, O, O, O, O, congrArg (fun L : List (Int × Int) => Value.slice A10 L.length c10) hsk.symm, congrArg (fun L : List (Int × Int) => Value.slice A11 L.length c11) hsk.symm, O, O, O, trivial⟩, by show b + 1 ≤ N2 + 2; omega, by show St w w13 (pxK A10 A11 A12 AR c10 c11 cR (pxL _ _ _ _ kind i a (b + 1)) _ k KK); rw [hsk]; exact hS⟩
    ·refine Gac O ?_
     refine Cd.draw [xP (ptrAt (A3) 1), xS (X8) (N1 + 2) (cx), xI ((a : Int)), xP (ptrAt (X8) ((a : Int)).toNat), xI (gi (X1) ((a : Int))), xP (ptrAt (A4) 1), xS (Z8) (N2 + 2) (cz), xI ((b : Int)), xP (ptrAt (Z8) ((b : Int)).toNat), xI (gi (X2) ((b : Int))), xI ((gi (X1) ((a : Int))) + (gi (X2) ((b : Int)))), xI ((shP kind)), xI (((gi (X1) ((a : Int))) + (gi (X2) ((b : Int)))) + ((shP kind))), xI ((i : Int)), xB (decide (¬ (((gi (X1) ((a : Int))) + (gi (X2) ((b : Int)))) + ((shP kind))) = ((i : Int)))), xB (false), xI (kind), xB (decide ((kind) = ((1 : Int)))), xB (false), xU, xU, xU, xU, xU, xU, xB (false), xB (false), xB (false), xI (kind), xB (decide ((kind) = ((2 : Int)))), xB (true), xI ((a : Int)), xP (ptrAt (A3) 1), xS (X8) (N1 + 2) (cx), xI (((N1 + 2 : Nat) : Int)), xI ((((N1 + 2 : Nat) : Int)) - ((1 : Int))), xB (decide (((a : Int)) = ((((N1 + 2 : Nat) : Int)) - ((1 : Int))))), xB (false), xI ((b : Int)), xP (ptrAt (A4) 1), xS (Z8) (N2 + 2) (cz), xI (((N2 + 2 : Nat) : Int)), xI ((((N2 + 2 : Nat) : Int)) - ((1 : Int))), xB (decide (((b : Int)) = ((((N2 + 2 : Nat) : Int)) - ((1 : Int))))), xB (decide (((b : Int)) = ((((N2 + 2 : Nat) : Int)) - ((1 : Int))))), xB (decide (((b : Int)) = ((((N2 + 2 : Nat) : Int)) - ((1 : Int))))), xB (decide (((b : Int)) = ((((N2 + 2 : Nat) : Int)) - ((1 : Int)))))] (by kernel_rfl) (by kernel_rfl) O (exL O) ?_ ?_
     ·exact ⟨fun _ _ hb _ _ => Ops.fld (h3b.below hb) O O O O inferInstance (Az O), fun _ _ hb _ _ => Ops.ldf_s (h3b.below hb) O O O O O (Az O), Dr O, fun _ _ hb _ _ => Ops.idx (hx3.later hb).2 O O O (by omega) (by omega) (Az O), fun _ _ hb _ _ => Ops.ld_int (hx3.later hb) O (by omega) O O (Az O), fun _ _ hb _ _ => Ops.fld (h4b.below hb) O O O O inferInstance (Az O), fun _ _ hb _ _ => Ops.ldf_s (h4b.below hb) O O O O O (Az O), Dr O, fun _ _ hb _ _ => Ops.idx (hx4.later hb).2 O O O (by omega) (by omega) (Az O), fun _ _ hb _ _ => Ops.ld_int (hx4.later hb) O (by omega) O O (Az O), fun _ _ _ _ _ => Ops.add O O O (by omega) (Az O), Dr O, fun _ _ _ _ _ => Ops.add O O O (by omega) (Az O), Dr O, Dr O, fun _ _ _ _ _ => Dk O (by exact congrArg Value.bool (decide_eq_false (fun h => h q1))), Dr O, Dr O, fun _ _ _ _ _ => Dk O (by exact congrArg Value.bool (decide_eq_false (by omega))), Dr O, Dr O, Dr O, Dr O, Dr O, Dr O, Dr O, Dr O, fun _ _ _ _ _ => Dk O (by exact congrArg Value.bool (O)), Dr O, Dr O, fun _ _ _ _ _ => Dk O (by exact congrArg Value.bool (decide_eq_true k1)), Dr O, fun _ _ hb _ _ => Ops.g O O O (Ops.fld (h3b.below hb) O O O O inferInstance (Az O)), fun _ _ hb _ _ => Ops.g O O O (Ops.ldf_s (h3b.below hb) O O O O O (Az O)), fun _ _ _ _ _ => Ops.g O O O (Ops.len O O (Az O)), fun _ _ _ _ _ => Ops.g O O O (Ops.sub O O O (by omega) (Az O)), Dr O, fun _ _ _ _ _ => Dk O (by exact congrArg Value.bool (decide_eq_false p1)), Dr O, fun _ _ hb _ _ => Ops.g O O O (Ops.fld (h4b.below hb) O O O O inferInstance (Az O)), fun _ _ hb _ _ => Ops.g O O O (Ops.ldf_s (h4b.below hb) O O O O O (Az O)), fun _ _ _ _ _ => Ops.g O O O (Ops.len O O (Az O)), fun _ _ _ _ _ => Ops.g O O O (Ops.sub O O O (by omega) (Az O)), Dr O, Dr O, Dr O, Dr O, trivial⟩
     intro u w13 hb13 _
     have hS := hS.later hb13
     refine Gec O (Cd.cond_pf O p2 ?_)
     have hpt := hpt ⟨by rw [hrk]; exact q1, fun h => by have := hex.1 h; omega⟩
     have hl1 : (pxL (N1 + 2) (N2 + 2) (gi X1) (gi X2) kind i a (b + 1)).length = (pxL (N1 + 2) (N2 + 2) (gi X1) (gi X2) kind i a b).length + 1 := by rw [hpt, List.length_append]; rfl
     refine Gao O (Ops.bs1I hS O O O ?_)
     intro A91 w14 hS14
     refine Ops.appI 1 hS14 O (hS14.rdI 0 O) O O O (by omega) (by omega) O ?_
     intro AZ cZ w15 hS15
     have hS15 := hS15.tail
     refine Gdo O (Ops.bs1I hS15 O O O ?_)
     intro A92 w16 hS16
     refine Ops.appI 2 hS16 O (hS16.rdI 0 O) O O O (by omega) (by omega) O ?_
     intro AQ cQ w17 hS17
     have hS17 := hS17.tail
     refine Gdo O (Ops.fld (hS17.rd 2 O) O O O O inferInstance (Ops.ldf_s (j := 1) (hS17.rd 2 O) (by exact congrArg Value.pointer O) O O O O (Gdo O (Ops.bs1I hS17 O O O ?_))))
     intro A93 w18 hS18
     refine Ops.appI 4 hS18 O (hS18.rdI 0 O) O O O (by omega) (by omega) O ?_
     intro AW cW w19 hS19
     refine Ops.fld (hS19.rd 3 O) O O O O inferInstance (Ops.stf 3 (j := 1) hS19 O O O O O ?_)
     intro w20 hS20
     have hS20 := hS20.tail
     refine Gdo O (Ops.add O O O (by omega) (Gdn O (tQ ?_)))
     refine ⟨(b + 1, (AZ, cZ), (AQ, cQ), (AW, cW)), by show N2 + 2 - (b + 1) < N2 + 2 - b; omega, ⟨O, O, O, O, O, O, O, congrArg (fun m : Nat => Value.slice AZ m cZ) hl1.symm, congrArg (fun m : Nat => Value.slice AQ m cQ) hl1.symm, O, O, O, trivial⟩, by show b + 1 ≤ N2 + 2; omega, ?_⟩
     show St w w20 (pxK AZ AQ A12 AW cZ cQ cW (pxL _ _ _ _ kind i a (b + 1)) _ k KK)
     unfold pxK
     rw [hl1, hpt, List.map_append, List.map_append, List.map_append]
     rw [show [((a : Int), (b : Int))].map (rkP (gi X1) (gi X2) kind) = [(i : Int)] from congrArg (fun x => [x]) (hrk.trans q1)]
     exact hS20
    refine Gac O ?_
    refine Cd.draw [xP (ptrAt (A3) 1), xS (X8) (N1 + 2) (cx), xI ((a : Int)), xP (ptrAt (X8) ((a : Int)).toNat), xI (gi (X1) ((a : Int))), xP (ptrAt (A4) 1), xS (Z8) (N2 + 2) (cz), xI ((b : Int)), xP (ptrAt (Z8) ((b : Int)).toNat), xI (gi (X2) ((b : Int))), xI ((gi (X1) ((a : Int))) + (gi (X2) ((b : Int)))), xI ((shP kind)), xI (((gi (X1) ((a : Int))) + (gi (X2) ((b : Int)))) + ((shP kind))), xI ((i : Int)), xB (decide (¬ (((gi (X1) ((a : Int))) + (gi (X2) ((b : Int)))) + ((shP kind))) = ((i : Int)))), xB (false), xI (kind), xB (decide ((kind) = ((1 : Int)))), xB (false), xU, xU, xU, xU, xU, xU, xB (false), xB (false), xB (false), xI (kind), xB (decide ((kind) = ((2 : Int)))), xB (false), xU, xU, xU, xU, xU, xU, xU, xU, xU, xU, xU, xU, xU, xU, xB (false), xB (false)] (by kernel_rfl) (by kernel_rfl) O (exL O) ?_ ?_
    ·exact ⟨fun _ _ hb _ _ => Ops.fld (h3b.below hb) O O O O inferInstance (Az O), fun _ _ hb _ _ => Ops.ldf_s (h3b.below hb) O O O O O (Az O), Dr O, fun _ _ hb _ _ => Ops.idx (hx3.later hb).2 O O O (by omega) (by omega) (Az O), fun _ _ hb _ _ => Ops.ld_int (hx3.later hb) O (by omega) O O (Az O), fun _ _ hb _ _ => Ops.fld (h4b.below hb) O O O O inferInstance (Az O), fun _ _ hb _ _ => Ops.ldf_s (h4b.below hb) O O O O O (Az O), Dr O, fun _ _ hb _ _ => Ops.idx (hx4.later hb).2 O O O (by omega) (by omega) (Az O), fun _ _ hb _ _ => Ops.ld_int (hx4.later hb) O (by omega) O O (Az O), fun _ _ _ _ _ => Ops.add O O O (by omega) (Az O), Dr O, fun _ _ _ _ _ => Ops.add O O O (by omega) (Az O), Dr O, Dr O, fun _ _ _ _ _ => Dk O (by exact congrArg Value.bool (decide_eq_false (fun h => h q1))), Dr O, Dr O, fun _ _ _ _ _ => Dk O (by exact congrArg Value.bool (decide_eq_false (by omega))), Dr O, Dr O, Dr O, Dr O, Dr O, Dr O, Dr O, Dr O, fun _ _ _ _ _ => Dk O (by exact congrArg Value.bool (O)), Dr O, Dr O, fun _ _ _ _ _ => Dk O (by exact congrArg Value.bool (decide_eq_false (by omega))), Dr O, Dr O, Dr O, Dr O, Dr O, Dr O, Dr O, Dr O, Dr O, Dr O, Dr O, Dr O, Dr O, Dr O, Dr O, Dr O, trivial⟩
    intro u w13 hb13 _
    have hS := hS.later hb13
    refine Gec O (Cd.cond_f O ?_)
    have hpt := hpt ⟨by rw [hrk]; exact q1, fun h => by have := hex.1 h; omega⟩
    have hl1 : (pxL (N1 + 2) (N2 + 2) (gi X1) (gi X2) kind i a (b + 1)).length = (pxL (N1 + 2) (N2 + 2) (gi X1) (gi X2) kind i a b).length + 1 := by rw [hpt, List.length_append]; rfl
    refine Gao O (Ops.bs1I hS O O O ?_)
    intro A91 w14 hS14
    refine Ops.appI 1 hS14 O (hS14.rdI 0 O) O O O (by omega) (by omega) O ?_
    intro AZ cZ w15 hS15
    have hS15 := hS15.tail
    refine Gdo O (Ops.bs1I hS15 O O O ?_)
    intro A92 w16 hS16
    refine Ops.appI 2 hS16 O (hS16.rdI 0 O) O O O (by omega) (by omega) O ?_
    intro AQ cQ w17 hS17
    have hS17 := hS17.tail
    refine Gdo O (Ops.fld (hS17.rd 2 O) O O O O inferInstance (Ops.ldf_s (j := 1) (hS17.rd 2 O) (by exact congrArg Value.pointer O) O O O O (Gdo O (Ops.bs1I hS17 O O O ?_))))
    intro A93 w18 hS18
    refine Ops.appI 4 hS18 O (hS18.rdI 0 O) O O O (by omega) (by omega) O ?_
    intro AW cW w19 hS19
    refine Ops.fld (hS19.rd 3 O) O O O O inferInstance (Ops.stf 3 (j := 1) hS19 O O O O O ?_)
    intro w20 hS20
    have hS20 := hS20.tail
    refine Gdo O (Ops.add O O O (by omega) (Gdn O (tQ ?_)))
    refine ⟨(b + 1, (AZ, cZ), (AQ, cQ), (AW, cW)), by show N2 + 2 - (b + 1) < N2 + 2 - b; omega, ⟨O, O, O, O, O, O, O, congrArg (fun m : Nat => Value.slice AZ m cZ) hl1.symm, congrArg (fun m : Nat => Value.slice AQ m cQ) hl1.symm, O, O, O, trivial⟩, by show b + 1 ≤ N2 + 2; omega, ?_⟩
    show St w w20 (pxK AZ AQ A12 AW cZ cQ cW (pxL _ _ _ _ kind i a (b + 1)) _ k KK)
    unfold pxK
    rw [hl1, hpt, List.map_append, List.map_append, List.map_append]
    rw [show [((a : Int), (b : Int))].map (rkP (gi X1) (gi X2) kind) = [(i : Int)] from congrArg (fun x => [x]) (hrk.trans q1)]
    exact hS20
   have hbe : b = N2 + 2 := by omega
   subst hbe
   rw [← pxL_row] at hS ⊢
   refine Gax O (thenQ_x (Gfo O (Ops.add O O O (by omega) (Gdn O (tQ ?_)))))
   exact ⟨(a + 1, (A10, c10), (A11, c11), (AR, cR)), by show N1 + 2 - (a + 1) < N1 + 2 - a; omega, ⟨O, O, O, O, O, O, O, O, O, O, O, trivial⟩, by show a + 1 ≤ N1 + 2; omega, hS⟩
  have hae : a = N1 + 2 := by omega
  subst hae
  rw [pxL_rank] at hS ⊢
  have hmo := prL_mono (m1 := N1 + 2) (m2 := N2 + 2) (rk1 := gi X1) (rk2 := gi X2) (kind := kind) (show i + 1 ≤ k by omega)
  have hpl : pxL (N1 + 2) (N2 + 2) (gi X1) (gi X2) kind (i + 1) 0 0 = prL (N1 + 2) (N2 + 2) (gi X1) (gi X2) kind (i + 1) := pxL_0
  rw [hpl]
  refine Gax O (thenQ_x (Gfo O (Ops.len O O (Gdc O ?_))))
  refine Cd.cond_p _ O (fun h4 => ?_) (fun h4 => ?_)
  ·have hS' := hS
   rw [hKK] at hS'
   refine Gao O (Ops.bldP0 (by exact inferInstance) (by exact inferInstance) (by exact inferInstance) O (Ops.st_agg 3 4 hS' O O O O O O O ?_))
   intro w13 hS13
   refine Gdr O (thenQ_r (Qk_ret ?_))
   refine retc2_r O (hS13.rd 4 O) O ?_
   exact .inl ⟨.inr (by rw [List.length_map]; omega), O, hS13.none⟩
  refine Gao O (Ops.add O O O (by omega) (Gdn O (tQ ?_)))
  rw [← hpl]
  exact ⟨(i + 1, (A10, c10), (A11, c11), (AR, cR)), by show k - (i + 1) < k - i; omega, ⟨O, O, O, O, O, O, O, O, O, O, trivial⟩, by show i + 1 ≤ k; omega, by show (prL _ _ _ _ kind (i + 1)).length ≤ 500; omega, hS⟩
 obtain rfl : i = k := by omega
 rw [pxL_0] at hS ⊢
 have hel := fun (c : Int × Int) => (prL_mem (m1 := N1 + 2) (m2 := N2 + 2) (rk1 := gi X1) (rk2 := gi X2) (kind := kind) (k := i) (c := c))
 have hS9 := hS.nil 32
 generalize prL (N1 + 2) (N2 + 2) (gi X1) (gi X2) kind i = PL at *
 clear hS
 have hPL : PL.length ≤ 500 := hlen
 have hin : ∀ e : Nat, e < PL.length → (0 ≤ (gp PL (e : Int)).1 ∧ (gp PL (e : Int)).1 < (N1 : Int) + 2) ∧ (0 ≤ (gp PL (e : Int)).2 ∧ (gp PL (e : Int)).2 < (N2 : Int) + 2) := fun e he => by
  have hm : gp PL (e : Int) ∈ PL := by rw [gp_mem he]; exact List.getElem_mem _
  obtain ⟨j, hj, hE⟩ := (hel _).1 hm
  have q1 := hE.1; have q2 := hE.2.1
  refine ⟨⟨q1.1, ?_⟩, q2.1, ?_⟩
  ·have := q1.2; omega
  have := q2.2; omega
 have hfs : ∀ e : Nat, e < PL.length → gi (PL.map Prod.fst) (e : Int) = (gp PL (e : Int)).1 ∧ gi (PL.map Prod.snd) (e : Int) = (gp PL (e : Int)).2 := fun e he => by
  rw [gi_mem (by rw [List.length_map]; exact he), gi_mem (by rw [List.length_map]; exact he), List.getElem_map, List.getElem_map, gp_mem he]
  exact ⟨O, O⟩
 have hbt := fun i => prBt_next N1 N2 B1 B2 PL i
 have hbl := fun i => prBt_len N1 N2 B1 B2 PL i
 have hba := fun i (h : i ≤ PL.length) => beP_all N1 N2 B1 B2 PL h
 have hbn := fun i e => beP_next N1 N2 B1 B2 PL i e
 have hbe := fun i e => beP_len N1 N2 B1 B2 PL i e
 have hB1 : ∀ e : Int, 0 ≤ e → e < (N1 : Int) → ∀ d ∈ gl B1 e, 0 ≤ d ∧ d < (N1 : Int) := fun e h0 h1 => (hF1.bd e h0 h1).2
 have hB2 : ∀ e : Int, 0 ≤ e → e < (N2 : Int) → ∀ d ∈ gl B2 e, 0 ≤ d ∧ d < (N2 : Int) := fun e h0 h1 => (hF2.bd e h0 h1).2
 have hl1 := fun (b : Int) h => alBB_len_at (B := B1) (fun e h0 h1 => (hF1.bd e h0 h1).1) hb1 (b := b) h
 have hl2 := fun (b : Int) h => alBB_len_at (B := B2) (fun e h0 h1 => (hF2.bd e h0 h1).1) hb2 (b := b) h
 rw [hKK] at hS9
 have hS9 : St w w10 (pyK A10 A11 A12 AR none c10 c11 cR 0 0 PL (rkP (gi X1) (gi X2) kind) (i : Int) A6 A4 A3 [.int .i64 n2, .slice Z8 (N2 + 2) cz, .slice W8 (N2 + 2) cw] [.int .i64 n1, .slice X8 (N1 + 2) cx, .slice Y8 (N1 + 2) cy] [] (prBt N1 N2 B1 B2 PL 0)) := hS9.perm (List.perm_append_singleton _ _).symm
 clear hp3 hp4 hel
 refine Gax O (thenQ_x (Gfc O ?_))
 refine Cd.loop (α := Nat × (Option Addr × Nat) × List SlV) (fun z => [(3, .pointer A3), (4, .pointer A4), (6, .pointer A6), (10, .slice A10 PL.length c10), (11, .slice A11 PL.length c11), (12, .pointer A12), (16, .int .i64 (z.1 : Int))]) (fun z w' => z.1 ≤ PL.length ∧ z.2.2.length = z.1 ∧ St w w' (pyK A10 A11 A12 AR z.2.1.1 c10 c11 cR z.2.1.2 z.1 PL (rkP (gi X1) (gi X2) kind) (i : Int) A6 A4 A3 [.int .i64 n2, .slice Z8 (N2 + 2) cz, .slice W8 (N2 + 2) cw] [.int .i64 n1, .slice X8 (N1 + 2) cx, .slice Y8 (N1 + 2) cy] z.2.2 (prBt N1 N2 B1 B2 PL z.1))) (fun z => PL.length - z.1) (0, (none, 0), []) ⟨O, O, O, O, O, O, O, trivial⟩ ⟨Nat.zero_le _, O, hS9⟩ ?_
 clear hS9
 rintro ⟨e, ⟨AD, cD⟩, rsD⟩ e0 w11 ⟨he, hrD, hS⟩
 dsimp only at he hrD hS ⊢
 refine Gbo O (Ops.len O O (Gdc O ?_))
 refine Cd.cond_p _ O (fun h2 => ?_) (fun h2 => ?_)
 ·have heL : e < PL.length := by omega
  have hE := hin e heL
  have hEf := hfs e heL
  refine Gao O (Ops.bs0 hS O ?_)
  intro A17 w12 hS12
  refine Gdc O ?_
  refine Cd.loop (α := Nat × Option Addr × Nat) (fun z => [(3, .pointer A3), (4, .pointer A4), (6, .pointer A6), (10, .slice A10 PL.length c10), (11, .slice A11 PL.length c11), (12, .pointer A12), (16, .int .i64 (e : Int)), (17, .slice z.2.1 (beP N1 N2 B1 B2 PL e z.1).length z.2.2), (18, .int .i64 (z.1 : Int))]) (fun z w' => z.1 ≤ e ∧ St w w' (CkI 2 z.2.1 (beP N1 N2 B1 B2 PL e z.1).length z.2.2 (beP N1 N2 B1 B2 PL e z.1) :: pyK A10 A11 A12 AR AD c10 c11 cR cD e PL (rkP (gi X1) (gi X2) kind) (i : Int) A6 A4 A3 [.int .i64 n2, .slice Z8 (N2 + 2) cz, .slice W8 (N2 + 2) cw] [.int .i64 n1, .slice X8 (N1 + 2) cx, .slice Y8 (N1 + 2) cy] rsD (prBt N1 N2 B1 B2 PL e))) (fun z => e - z.1) (0, A17, 0) ⟨O, O, O, O, O, O, O, O, O, trivial⟩ ⟨Nat.zero_le _, hS12⟩ ?_
  clear hS12 hS
  rintro ⟨q, Ab, cb⟩ e1 w13 ⟨hq, hS⟩
  dsimp only at hq hS ⊢
  have hbq := hbe e q
  refine Gbc O ?_
  refine Cd.cond_p _ O (fun h3 => ?_) (fun h3 => ?_)
  ·have hqe : q < e := by omega
   have hQ := hin q (by omega)
   have hQf := hfs q (by omega)
   have hbnq := hbn e q
   have h3b := hS.rd 7 O
   have h4b := hS.rd 6 O
   have hf1 : RdI w13 A10 PL.length (PL.map Prod.fst) := hS.rdI 1 O
   have hf2 : RdI w13 A11 PL.length (PL.map Prod.snd) := hS.rdI 2 O
   have hr1 := (hF1.later hS.below).bl
   have hr2 := (hF2.later hS.below).bl
   have hi1 : 0 ≤ gi (PL.map Prod.fst) (e : Int) ∧ gi (PL.map Prod.fst) (e : Int) < ((N1 + 2 : Nat) : Int) := by rw [hEf.1]; omega
   have hi2 : 0 ≤ gi (PL.map Prod.snd) (e : Int) ∧ gi (PL.map Prod.snd) (e : Int) < ((N2 + 2 : Nat) : Int) := by rw [hEf.2]; omega
   have hn1' : (gl (alBB N1 B1) (gi (PL.map Prod.fst) (e : Int))).length ≤ 1000000 := by have := hl1 _ (show 0 ≤ gi (PL.map Prod.fst) (e : Int) ∧ gi (PL.map Prod.fst) (e : Int) < (N1 : Int) + 2 by omega); omega
   have hn2' : (gl (alBB N2 B2) (gi (PL.map Prod.snd) (e : Int))).length ≤ 1000000 := by have := hl2 _ (show 0 ≤ gi (PL.map Prod.snd) (e : Int) ∧ gi (PL.map Prod.snd) (e : Int) < (N2 : Int) + 2 by omega); omega
   have hu1 : (gi (PL.map Prod.fst) (q : Int) = gi (PL.map Prod.fst) (e : Int) ∨ gi (PL.map Prod.fst) (q : Int) ∈ gl (alBB N1 B1) (gi (PL.map Prod.fst) (e : Int))) ↔ UndP N1 B1 (gp PL (q : Int)).1 (gp PL (e : Int)).1 := by rw [hQf.1, hEf.1]; exact alBB_und hQ.1 hE.1 hB1
   have hu2 : (gi (PL.map Prod.snd) (q : Int) = gi (PL.map Prod.snd) (e : Int) ∨ gi (PL.map Prod.snd) (q : Int) ∈ gl (alBB N2 B2) (gi (PL.map Prod.snd) (e : Int))) ↔ UndP N2 B2 (gp PL (q : Int)).2 (gp PL (e : Int)).2 := by rw [hQf.2, hEf.2]; exact alBB_und hQ.2 hE.2 hB2
   have hskip : ¬ (UndP N1 B1 (gp PL (q : Int)).1 (gp PL (e : Int)).1 ∧ UndP N2 B2 (gp PL (q : Int)).2 (gp PL (e : Int)).2) → beP N1 N2 B1 B2 PL e (q + 1) = beP N1 N2 B1 B2 PL e q := fun h => by rw [hbnq, if_neg h]
   by_cases h5 : gi (PL.map Prod.fst) (q : Int) = gi (PL.map Prod.fst) (e : Int) ∨ gi (PL.map Prod.fst) (q : Int) ∈ gl (alBB N1 B1) (gi (PL.map Prod.fst) (e : Int))
   ·refine Gac O ?_
    refine Cd.draw [.ex (.agg #[.int .i64 (n1), .slice (X8) (N1 + 2) (cx), .slice (Y8) (N1 + 2) (cy)]), xS (A10) (PL.length) (c10), xI ((q : Int)), xP (ptrAt (A10) ((q : Int)).toNat), xI (gi (PL.map Prod.fst) ((q : Int))), xS (A10) (PL.length) (c10), xI ((e : Int)), xP (ptrAt (A10) ((e : Int)).toNat), xI (gi (PL.map Prod.fst) ((e : Int))), xB (true), xB (true), .ex (.agg #[.int .i64 (n2), .slice (Z8) (N2 + 2) (cz), .slice (W8) (N2 + 2) (cw)]), xS (A11) (PL.length) (c11), xI ((q : Int)), xP (ptrAt (A11) ((q : Int)).toNat), xI (gi (PL.map Prod.snd) ((q : Int))), xS (A11) (PL.length) (c11), xI ((e : Int)), xP (ptrAt (A11) ((e : Int)).toNat), xI (gi (PL.map Prod.snd) ((e : Int))), xB (decide (gi (PL.map Prod.snd) (q : Int) = gi (PL.map Prod.snd) (e : Int) ∨ gi (PL.map Prod.snd) (q : Int) ∈ gl (alBB N2 B2) (gi (PL.map Prod.snd) (e : Int)))), xB (decide (gi (PL.map Prod.snd) (q : Int) = gi (PL.map Prod.snd) (e : Int) ∨ gi (PL.map Prod.snd) (q : Int) ∈ gl (alBB N2 B2) (gi (PL.map Prod.snd) (e : Int))))] (by kernel_rfl) (by kernel_rfl) O (exL O) ?_ ?_
    ·refine ⟨fun _ _ hb _ _ => Ops.ld_agg 2 (h3b.below hb) O O O (Az O), Dr O, Dr O, fun _ _ hb _ _ => Ops.idx (hf1.later hb).2 O O O (by omega) (by omega) (Az O), fun _ _ hb _ _ => Ops.ld_int (hf1.later hb) O (by omega) O O (Az O), Dr O, Dr O, fun _ _ hb _ _ => Ops.idx (hf1.later hb).2 O O O (by omega) (by omega) (Az O), fun _ _ hb _ _ => Ops.ld_int (hf1.later hb) O (by omega) O O (Az O), ?_, Dr O, fun _ _ hb _ _ => Ops.g O O O (Ops.ld_agg 2 (h4b.below hb) O O O (Az O)), Dr O, Dr O, fun _ _ hb _ _ => Ops.g O O O (Ops.idx (hf2.later hb).2 O O O (by omega) (by omega) (Az O)), fun _ _ hb _ _ => Ops.g O O O (Ops.ld_int (hf2.later hb) O (by omega) O O (Az O)), Dr O, Dr O, fun _ _ hb _ _ => Ops.g O O O (Ops.idx (hf2.later hb).2 O O O (by omega) (by omega) (Az O)), fun _ _ hb _ _ => Ops.g O O O (Ops.ld_int (hf2.later hb) O (by omega) O O (Az O)), ?_, Dr O, trivial⟩
     ·intro e1 w1 hb hp hun; refine Ops.call (l09Within_c n1 X8 (N1 + 2) cx Y8 (N1 + 2) cy ys1 (alBB N1 B1) (gi (PL.map Prod.fst) (q : Int)) (gi (PL.map Prod.fst) (e : Int)) _ (hr1.later hb) (alBB_len _ _) hi1 hn1') O O O ?_
      rintro _ w2 ⟨rfl, hst⟩
      refine Ops.n ?_
      exact After.dn hst.below (by exact congrArg Value.bool (decide_eq_true h5))
     intro e1 w1 hb hp hun
     refine Ops.g O O O (Ops.call (l09Within_c n2 Z8 (N2 + 2) cz W8 (N2 + 2) cw ys2 (alBB N2 B2) (gi (PL.map Prod.snd) (q : Int)) (gi (PL.map Prod.snd) (e : Int)) _ (hr2.later hb) (alBB_len _ _) hi2 hn2') O O O ?_)
     rintro _ w2 ⟨rfl, hst⟩
     refine Ops.n ?_
     exact After.dn hst.below (by exact O)
    intro u w14 hb14 _
    have hS := hS.later hb14
    refine Gec O ?_
    refine Cd.cond_p _ O (fun h6 => ?_) (fun h6 => ?_)
    ·rw [if_pos ⟨hu1.1 h5, hu2.1 h6⟩] at hbnq
     refine Gao O (Ops.bs1I hS O O O ?_)
     intro A9 w15 hS15
     refine Ops.appI 1 hS15 O (hS15.rdI 0 O) O O O (by omega) (by omega) O ?_
     intro AZ cZ w16 hS16
     have hS16 := hS16.tail
     refine Gdo O (Ops.add O O O (by omega) (Gdn O (tQ ?_)))
     refine ⟨(q + 1, AZ, cZ), by show e - (q + 1) < e - q; omega, ⟨O, O, O, O, O, O, O, ?_, O, trivial⟩, by show q + 1 ≤ e; omega, ?_⟩
     ·show Value.slice _ _ _ = Value.slice _ _ _
      rw [hbnq, List.length_append]; rfl
     show St w w16 (CkI _ AZ (beP N1 N2 B1 B2 PL e (q + 1)).length cZ _ :: _)
     rw [hbnq, List.length_append]; exact hS16
    have hsk := hskip (fun h => h6 (hu2.2 h.2))
    refine Gao O (Ops.add O O O (by omega) (Gdn O (tQ ?_)))
    refine ⟨(q + 1, Ab, cb), by show e - (q + 1) < e - q; omega, ⟨O, O, O, O, O, O, O, ?_, O, trivial⟩, by show q + 1 ≤ e; omega, ?_⟩
    ·show Value.slice _ _ _ = Value.slice _ _ _
     rw [hsk]
    show St w w14 (CkI _ Ab (beP N1 N2 B1 B2 PL e (q + 1)).length cb _ :: _)
    rw [hsk]; exact hS
   refine Gac O ?_
   refine Cd.draw [.ex (.agg #[.int .i64 (n1), .slice (X8) (N1 + 2) (cx), .slice (Y8) (N1 + 2) (cy)]), xS (A10) (PL.length) (c10), xI ((q : Int)), xP (ptrAt (A10) ((q : Int)).toNat), xI (gi (PL.map Prod.fst) ((q : Int))), xS (A10) (PL.length) (c10), xI ((e : Int)), xP (ptrAt (A10) ((e : Int)).toNat), xI (gi (PL.map Prod.fst) ((e : Int))), xB (false), xB (false), xU, xU, xU, xU, xU, xU, xU, xU, xU, xU, xB (false)] (by kernel_rfl) (by kernel_rfl) O (exL O) ?_ ?_
   ·refine ⟨fun _ _ hb _ _ => Ops.ld_agg 2 (h3b.below hb) O O O (Az O), Dr O, Dr O, fun _ _ hb _ _ => Ops.idx (hf1.later hb).2 O O O (by omega) (by omega) (Az O), fun _ _ hb _ _ => Ops.ld_int (hf1.later hb) O (by omega) O O (Az O), Dr O, Dr O, fun _ _ hb _ _ => Ops.idx (hf1.later hb).2 O O O (by omega) (by omega) (Az O), fun _ _ hb _ _ => Ops.ld_int (hf1.later hb) O (by omega) O O (Az O), ?_, Dr O, Dr O, Dr O, Dr O, Dr O, Dr O, Dr O, Dr O, Dr O, Dr O, Dr O, Dr O, trivial⟩
    intro e1 w1 hb hp hun
    refine Ops.call (l09Within_c n1 X8 (N1 + 2) cx Y8 (N1 + 2) cy ys1 (alBB N1 B1) (gi (PL.map Prod.fst) (q : Int)) (gi (PL.map Prod.fst) (e : Int)) _ (hr1.later hb) (alBB_len _ _) hi1 hn1') O O O ?_
    rintro _ w2 ⟨rfl, hst⟩
    refine Ops.n ?_
    exact After.dn hst.below (by exact congrArg Value.bool (decide_eq_false h5))
   intro u w14 hb14 _
   have hS := hS.later hb14
   refine Gec O (Cd.cond_f O ?_)
   have hsk := hskip (fun h => h5 (hu1.2 h.1))
   refine Gao O (Ops.add O O O (by omega) (Gdn O (tQ ?_)))
   refine ⟨(q + 1, Ab, cb), by show e - (q + 1) < e - q; omega, ⟨O, O, O, O, O, O, O, ?_, O, trivial⟩, by show q + 1 ≤ e; omega, ?_⟩
   ·show Value.slice _ _ _ = Value.slice _ _ _
    rw [hsk]
   show St w w14 (CkI _ Ab (beP N1 N2 B1 B2 PL e (q + 1)).length cb _ :: _)
   rw [hsk]; exact hS
  obtain rfl : q = e := by omega
  have hbaq := hba q he
  have hbtq := hbt q
  rw [hbaq] at hS ⊢
  refine Gax O (thenQ_x (Gfo O ?_))
  refine Ops.fld (hS.rd 3 O) O O O O inferInstance (Ops.ldf_s (j := 2) (hS.rd 3 O) (by exact congrArg Value.pointer O) O O O O (Gdo O (Ops.bs1R hS O O O ?_)))
  intro A9 w16 hS16
  refine Ops.appR 9 hS16 O (hS16.rdR 0 O) O O O (by omega) (by omega) O ?_
  intro AZ cZ w17 hS17
  refine Ops.fld (hS17.rd 4 O) O O O O inferInstance (Ops.stf 4 (j := 2) hS17 O O O O O ?_)
  intro w18 hS18
  have hS18 := hS18.tail
  have hS18 := hS18.perm (perm_j9 _ _ _ _ _ _ _ _ _ _)
  refine Gdo O (Ops.add O O O (by omega) (Gdn O (tQ ?_)))
  refine ⟨(q + 1, (AZ, cZ), rsD ++ [⟨Ab, (prBe (UndP N1 B1) (UndP N2 B2) PL (q : Int)).length, cb⟩]), by show PL.length - (q + 1) < PL.length - q; omega, ⟨O, O, O, O, O, O, O, trivial⟩, by show q + 1 ≤ PL.length; omega, by show (rsD ++ [_]).length = q + 1; rw [List.length_append, hrD]; rfl, ?_⟩
  show St w w18 (pyK A10 A11 A12 AR AZ c10 c11 cR cZ (q + 1) PL (rkP (gi X1) (gi X2) kind) (i : Int) A6 A4 A3 [.int .i64 n2, .slice Z8 (N2 + 2) cz, .slice W8 (N2 + 2) cw] [.int .i64 n1, .slice X8 (N1 + 2) cx, .slice Y8 (N1 + 2) cy] (rsD ++ [_]) (prBt N1 N2 B1 B2 PL (q + 1)))
  rw [hbtq]
  unfold pyK mat
  rw [rowsCk_snoc (by rw [hrD, prBt_len])]
  exact hS18
 obtain rfl : e = PL.length := by omega
 refine Gax O (thenQ_x (Gfo O ?_))
 refine Ops.ld_agg 2 (hS.rd 2 O) O O O (Ops.st_agg 3 4 hS O O O O O O O ?_)
 intro w12 hS12
 refine Gdr O (retc2_r O (hS12.rd 4 O) O ?_)
 have hml : (PL.map (rkP (gi X1) (gi X2) kind)).length = PL.length := List.length_map _
 refine .inr ⟨⟨hk5, by omega⟩, AR, cR, AD, cD, rsD, by rw [hml]; rfl, by omega, by rw [hml]; exact prBt_len N1 N2 B1 B2 PL PL.length, ?_⟩
 rw [hml]
 exact hS12.sub (show List.Sublist (CkI 2 AR PL.length cR (PL.map (rkP (gi X1) (gi X2) kind)) :: (mat 32 2 AD PL.length cD rsD (prBt N1 N2 B1 B2 PL PL.length) ++ [])) _ from ((((((List.Sublist.refl _).cons _).cons _).cons _).cons_cons _).cons _).cons _ |>.cons _)
/-
 The product of two maniplexes' posets, walked in the reference.
-/
def AnsPb (n : Int) (R : List Int) (B : List (List Int)) (b : Bool) (w : World) (v : Value) (w' : World) : Prop :=
 ∃ AR c AD d rs, v = .tuple #[.agg #[.int .i64 n, .slice AR R.length c, .slice AD B.length d], .bool b] ∧ rs.length = B.length ∧ St w w' (CkI 2 AR R.length c R :: (mat 32 2 AD B.length d rs B ++ []))
theorem AnsPx.b {k : Nat} {RL : List Int} {BL : List (List Int)} {w w' : World} {v : Value} (h : AnsPx k RL BL w v w') : AnsPb (if k ≤ 5 ∧ RL.length ≤ 500 then (k : Int) else 0) (if k ≤ 5 ∧ RL.length ≤ 500 then RL else []) (if k ≤ 5 ∧ RL.length ≤ 500 then BL else []) (decide (k ≤ 5 ∧ RL.length ≤ 500)) w v w' := by
 rcases h with ⟨hb, rfl, hS⟩ | ⟨hb, AR, c, AD, d, rs, rfl, h1, h2, hS⟩
 ·have hn : ¬ (k ≤ 5 ∧ RL.length ≤ 500) := by omega
  rw [if_neg hn, if_neg hn, if_neg hn, decide_eq_false hn]
  exact ⟨none, 0, none, 0, [], O, O, (hS.nil _).nil _⟩
 rw [if_pos hb, if_pos hb, if_pos hb, decide_eq_true hb]
 exact ⟨AR, c, AD, d, rs, by rw [h2], by rw [h2]; exact h1, by rw [h2]; exact hS⟩
theorem faR_of {M : List (List Int)} {w w' : World} {X Y : Option Addr} {cx cy : Nat} {ys : List SlV} (hM : Mani M) (hb : offP M M.length ≤ 500) (h : St w w' (CkI 2 X (offP M M.length + 2) cx (fcR M.length (fpR M M.length)) :: (mat 32 2 Y (offP M M.length + 2) cy ys (alBB (offP M M.length) (fpB M)) ++ []))) :
  FaR w' X (fcR M.length (fpR M M.length)) (offP M M.length) Y ys (fpB M) := by
 have hP := posP_of hM hb
 have hl := fpR_len M M.length
 refine ⟨by rw [fcR_len, hl], hb, h.rdI 0 O, ?_, fun e h0 h1 => ?_⟩
 ·exact (h.sub (show (mat 32 2 Y (offP M M.length + 2) cy ys (alBB (offP M M.length) (fpB M))).Sublist _ from (List.sublist_append_left _ _).cons _)).rowsI1 (alBB_len _ _)
 have h2 := hP.at_ (e := e) h0 (by rw [hl]; exact h1)
 refine ⟨?_, fun d hd => ?_⟩
 ·have := nodup_le_int (N := (fpR M M.length).length) h2.1.nodup fun x hx => by have := (h2.2.1 x hx).1; omega
  omega
 have := (h2.2.1 d hd).1; omega
theorem poK_e {AR AD : Option Addr} {a c b d : Nat} {R : List Int} {rs : List SlV} {B : List (List Int)} : ∀ k ∈ CkI 2 AR a c R :: (mat 32 2 AD b d rs B ++ []), isM k.vs = false ∧ (k.e = 32 ∨ k.e = 2) := fun k h => by
 rcases List.mem_cons.1 h with rfl | h
 ·exact ⟨isM_I _, .inr O⟩
 exact mat_e k h
theorem St.mergeP {w0 w : World} {Ab A D AR AD : Option Addr} {n : Int} {q p a c b d e f : Nat} {R : List Int} {rs : List SlV} {B : List (List Int)} (h : St w0 w [poB Ab n A q p D e f]) (h' : St w0 w (CkI 2 AR a c R :: (mat 32 2 AD b d rs B ++ []))) : St w0 w (poB Ab n A q p D e f :: (CkI 2 AR a c R :: (mat 32 2 AD b d rs B ++ []))) :=
 h.merge h' (fun k hk => by obtain rfl := List.mem_singleton.1 hk; rfl) (fun k hk => (poK_e k hk).1) (fun k hk k' hk' => by
  obtain rfl := List.mem_singleton.1 hk
  rcases (poK_e k' hk').2 with e | e
  ·rw [e]; exact (by decide : ¬ (34 = 32))
  rw [e]; exact (by decide : ¬ (34 = 2)))
theorem pp_if {M K : List (List Int)} {kind : Int} (h : prC M K kind = 0) : (pdN M K kind ≤ 5 ∧ (pdR M K kind).length ≤ 500 → ppC M K kind = 0) ∧ (¬ (pdN M K kind ≤ 5 ∧ (pdR M K kind).length ≤ 500) → ppC M K kind = 3) := by
 unfold ppC
 rw [if_pos h]
 exact ⟨fun h => if_neg (by omega), fun h => if_pos (by omega)⟩
/-
 An answer: a maniplex and a code.
-/
def AnsX (L : List (List Int)) (K : Int) (w : World) (v : Value) (w' : World) : Prop := ∃ A c, ∃ rs : List SlV, v = .tuple #[.agg #[.slice A L.length c], .int .i64 K] ∧ rs.length = L.length ∧ St w w' (mat 32 2 A L.length c rs L)
theorem AnsX.none {w w' : World} {ks : List Ck} {K : Int} (h : St w w' ks) : AnsX [] K w (.tuple #[.agg #[.slice Option.none 0 0], .int .i64 K]) w' := ⟨Option.none, 0, [], rfl, rfl, h.none.nil _⟩
/-
 The laws' marks over lists of lists, told exactly.
-/
def tot (xss : List (List Int)) : Int := ((xss.map List.length).sum : Nat)
theorem tot_snoc (xs : List (List Int)) (x : List Int) : tot (xs ++ [x]) = tot xs + x.length := by simp [tot]
theorem tot_le {b : Nat} : ∀ (xs : List (List Int)), (∀ x ∈ xs, x.length ≤ b) → 0 ≤ tot xs ∧ tot xs ≤ (xs.length * b : Nat)
 | [], _ => by simp [tot]
 | x :: xs, h => by
  have h1 := tot_le xs (fun y hy => h y (by simp [hy]))
  have h2 := h x (by simp)
  have e : tot (x :: xs) = x.length + tot xs := by simp [tot]
  rw [e, List.length_cons, Nat.succ_mul]
  omega
def mkSS (k : Int) : List (List Int) → List (List Int)
 | [] => []
 | x :: xs => marks k x.length :: mkSS (k + x.length) xs
theorem mkSS_len : ∀ (xs : List (List Int)) (k : Int), (mkSS k xs).length = xs.length
 | [], _ => rfl
 | _ :: xs, k => by simp [mkSS, mkSS_len xs]
theorem mkSS_snoc (x : List Int) : ∀ (xs : List (List Int)) (k : Int), mkSS k (xs ++ [x]) = mkSS k xs ++ [marks (k + tot xs) x.length]
 | [], k => by simp [mkSS, tot]
 | y :: xs, k => by
  have e : tot (y :: xs) = y.length + tot xs := by simp [tot]
  simp only [List.cons_append, mkSS]
  rw [mkSS_snoc x xs, e, Int.add_assoc]
theorem mkSS_get {xs : List (List Int)} {k : Int} {i : Nat} (hi : i < xs.length) : (mkSS k xs)[i]? = some (marks (k + tot (xs.take i)) xs[i].length) := by
 have h1 : xs = (xs.take i ++ [xs[i]]) ++ xs.drop (i + 1) := by rw [← List.take_succ_eq_append_getElem hi, List.take_append_drop]
 have gen : ∀ (a b : List (List Int)) (k : Int), ∃ r, mkSS k (a ++ b) = mkSS k a ++ r := by
  intro a
  induction a with
  | nil => intro b k; exact ⟨_, rfl⟩
  | cons y a ih =>
   intro b k
   obtain ⟨r, hr⟩ := ih b (k + y.length)
   exact ⟨r, by simp only [List.cons_append, mkSS]; rw [hr]⟩
 obtain ⟨r, hr⟩ := gen (xs.take i ++ [xs[i]]) (xs.drop (i + 1)) k
 rw [← h1, mkSS_snoc] at hr
 have h2 : (mkSS k (xs.take i)).length = i := by rw [mkSS_len]; simp; omega
 rw [hr, List.append_assoc, List.getElem?_append_right (by omega), h2]
 simp
def mixM (k : Int) (xs : List (List Int)) (i : Nat) : List (List Int) := mkSS k (xs.take i) ++ xs.drop i
theorem mixM_len (k : Int) (xs : List (List Int)) (i : Nat) : (mixM k xs i).length = xs.length := by simp [mixM, mkSS_len]; omega
theorem mixM_get {k : Int} {xs : List (List Int)} {i : Nat} (h : i < xs.length) : (mixM k xs i).getD i [] = xs[i] := by
 have h2 : (mkSS k (xs.take i)).length = i := by rw [mkSS_len]; simp; omega
 rw [mixM, List.getD_eq_getElem?_getD, List.getElem?_append_right (by omega), h2]
 simp [h]
theorem mixM_step {k : Int} {xs : List (List Int)} {i : Nat} (h : i < xs.length) : (mixM k xs i).set i (marks (k + tot (xs.take i)) xs[i].length) = mixM k xs (i + 1) := by
 have h2 : (mkSS k (xs.take i)).length = i := by rw [mkSS_len]; simp; omega
 unfold mixM
 rw [List.set_append_right _ _ (by omega), h2, Nat.sub_self, List.take_succ_eq_append_getElem h, mkSS_snoc, List.append_assoc, List.drop_eq_getElem_cons h]
 rfl
theorem markSS_c {w0 w : World} {pre post : List Ck} {t1 t2 : TypeId} {A : Option Addr} {n c : Nat} {rs : List SlV} {xss : List (List Int)} (k : Int) (hS : St w0 w (pre ++ (mat t1 t2 A n c rs xss ++ post))) (hrl : rs.length = n) (hxl : xss.length = n) (hn : n ≤ 1000) (hr : ∀ x ∈ xss, x.length ≤ 1000) (hk0 : 0 ≤ k ∧ k ≤ 1000000000000000) :
  Ret Tryz.prog 77 [.slice A n c, .int .i64 k] w (fun v w' => v = .int .i64 (k + tot xss) ∧ St w0 w' (pre ++ (mat t1 t2 A n c rs (mkSS k xss) ++ post))) := by
 refine Ret.of_cd Tryz.func77 O Tryz.ntmps77 O (post1 O) (Gbc O ?_)
 refine Cd.loop (α := Nat) (fun i => [(0, .slice A n c), (1, .int .i64 (k + tot (xss.take i))), (5, .int .i64 (i : Int))]) (fun i w' => St w0 w' (pre ++ (mat t1 t2 A n c rs (mixM k xss i) ++ post)) ∧ i ≤ n) (fun i => n - i) 0 ⟨O, by show Value.int .i64 _ = .int .i64 _; simp [tot], O, trivial⟩ ⟨by simpa [mixM, mkSS] using hS, Nat.zero_le _⟩ ?_
 rintro i e w1 ⟨hS1, hi⟩
 have hyl := mixM_len k xss i
 have hM := (hS1.sub (List.sublist_append_right _ _)).rowsI (by omega)
 have htb := tot_le (b := 1000) (xss.take i) (fun x hx => hr x (List.mem_of_mem_take hx))
 have htl : (xss.take i).length ≤ 1000 := by simp; omega
 have htm : (xss.take i).length * 1000 ≤ 1000 * 1000 := Nat.mul_le_mul_right 1000 htl
 refine Gbo O (Ops.len O O (Gdc O ?_))
 refine Cd.cond_p _ O (fun h1 => ?_) (fun h1 => ?_)
 ·have hi' : i < xss.length := by omega
  have hget := mat_get (t1 := t1) (t2 := t2) (A := A) (n := n) (c := c) (rs := rs) (xss := mixM k xss i) (pre := pre) (ks := post) (i := i) (by omega) (by omega)
  have hset := fun l => mat_set (t1 := t1) (t2 := t2) (A := A) (n := n) (c := c) (rs := rs) (xss := mixM k xss i) (pre := pre) (ks := post) (i := i) (xs := l) (by omega) (by omega)
  rw [mixM_get hi'] at hget
  have hln := hS1.lenI _ hget
  have hxi := hr xss[i] (List.getElem_mem hi')
  have hst := mixM_step (k := k) hi'
  have htot : tot (xss.take (i + 1)) = tot (xss.take i) + xss[i].length := by rw [List.take_succ_eq_append_getElem hi', tot_snoc]
  refine Gao O (Ops.idx hM.top.2 O O O (by omega) h1 (Ops.ld_sl hM.top O (by omega) O O (Gdo O ?_)))
  refine Ops.call (markInt64S_c (pre.length + 1 + i) (k + tot (xss.take i)) hS1 hget ⟨by omega, by omega⟩) O O O ?_
  rintro _ w2 ⟨rfl, hS2⟩
  rw [hset, ← hln, hst] at hS2
  refine Gdo O (Ops.add O O O (by omega) (Gdn O (tQ ?_)))
  exact ⟨i + 1, by show n - (i + 1) < n - i; omega, ⟨O, by show Value.int .i64 _ = .int .i64 _; rw [htot, ← Int.add_assoc, hln], O, trivial⟩, hS2, by omega⟩
 refine Gax O (thenQ_x (Gfr O ?_))
 refine ret1_i O ?_
 have hin : i = n := by omega
 subst hin
 have e1 : xss.take i = xss := List.take_of_length_le (by omega)
 have e2 : mixM k xss i = mkSS k xss := by rw [mixM, e1, List.drop_of_length_le (by omega), List.append_nil]
 rw [e1]
 rw [e2] at hS1
 exact ⟨O, hS1⟩
theorem heldSS_c (A : Option Addr) (n c : Nat) (rs : List SlV) (xss : List (List Int)) (k : Int) (w : World) (hR : RowsI w A n rs (mkSS k xss)) (hn : n ≤ 1000) (hr : ∀ x ∈ xss, x.length ≤ 1000) (hk0 : 0 ≤ k ∧ k ≤ 1000000000000000) :
  Ret Tryz.prog 78 [.slice A n c, .int .i64 k] w (fun v w' => v = .int .i64 (k + tot xss) ∧ w' = w) := by
 have hxl : xss.length = n := by rw [← mkSS_len xss k]; exact hR.len
 refine Ret.of_cd Tryz.func78 O Tryz.ntmps78 O (post1 O) (Gbc O ?_)
 refine Cd.loop (α := Nat) (fun i => [(0, .slice A n c), (1, .int .i64 (k + tot (xss.take i))), (5, .int .i64 (i : Int))]) (fun i w' => w' = w ∧ i ≤ n) (fun i => n - i) 0 ⟨O, by show Value.int .i64 _ = .int .i64 _; simp [tot], O, trivial⟩ ⟨O, Nat.zero_le _⟩ ?_
 rintro i e w ⟨rfl, hi⟩
 have htb := tot_le (b := 1000) (xss.take i) (fun x hx => hr x (List.mem_of_mem_take hx))
 have htl : (xss.take i).length ≤ 1000 := by simp; omega
 have htm : (xss.take i).length * 1000 ≤ 1000 * 1000 := Nat.mul_le_mul_right 1000 htl
 refine Gbo O (Ops.len O O (Gdc O ?_))
 refine Cd.cond_p _ O (fun h1 => ?_) (fun h1 => ?_)
 ·have hi' : i < xss.length := by omega
  have hxi := hr xss[i] (List.getElem_mem hi')
  have htot : tot (xss.take (i + 1)) = tot (xss.take i) + xss[i].length := by rw [List.take_succ_eq_append_getElem hi', tot_snoc]
  have hrow := hR.at_ (i := (i : Int)) (by omega) h1
  have hg : gl (mkSS k xss) (i : Int) = marks (k + tot (xss.take i)) xss[i].length := by
   simp only [gl, Int.toNat_natCast, List.getD_eq_getElem?_getD, mkSS_get hi', Option.getD_some]
  rw [hg] at hrow
  have hln := hrow.1
  rw [marks_len] at hln
  rw [hln] at hrow
  refine Gao O (Ops.idx hR.top.2 O O O (by omega) h1 (Ops.ld_sl hR.top O (by omega) O O (Gdo O ?_)))
  refine Ops.call (heldInt64S_c (rg rs (i : Int)).a (rg rs (i : Int)).n (rg rs (i : Int)).c (k + tot (xss.take i)) _ hrow ⟨by omega, by omega⟩) O O O ?_
  rintro _ w ⟨rfl, rfl⟩
  refine Gdc O (Cd.cond_pf O (by omega) ?_)
  refine Gao O (Ops.add O O O (by omega) (Gdn O (tQ ?_)))
  exact ⟨i + 1, by show n - (i + 1) < n - i; omega, ⟨O, by show Value.int .i64 _ = .int .i64 _; rw [htot, ← Int.add_assoc, hln], O, trivial⟩, O, by omega⟩
 refine Gax O (thenQ_x (Gfr O ?_))
 refine ret1_i O ?_
 have hin : i = n := by omega
 subst hin
 rw [List.take_of_length_le (by omega)]
 exact ⟨O, O⟩
/-
 The laws' helpers for posets; marks on two arguments.
-/
/-
 The maniplex of a poset's flags, walked in the reference.
-/
/-! plain -/
open Classical in
noncomputable def nbB (n : Nat) (fl : List (List Int)) (i a b : Nat) : List Int := ((List.range b).filter fun b => decide (AdjP n fl i a b ∧ b ≠ a)).map fun b : Nat => (b : Int)
noncomputable def mvA (n : Nat) (fl : List (List Int)) (i a b : Nat) : List Int := (List.range a).flatMap (nbsP n fl i) ++ nbB n fl i a b
section
variable {n : Nat} {fl : List (List Int)} {i a b : Nat}
theorem nbB_all : nbB n fl i a fl.length = nbsP n fl i a := rfl
theorem mvA_row : mvA n fl i (a + 1) 0 = mvA n fl i a fl.length := by
 unfold mvA
 rw [List.range_succ, List.flatMap_append, nbB_all]
 simp [nbB]
theorem filter_snoc {p : Nat → Bool} {b : Nat} : ((List.range (b + 1)).filter p) = (List.range b).filter p ++ (if p b = true then [b] else []) := by
 rw [List.range_succ, List.filter_append]
 by_cases h : p b = true
 ·rw [if_pos h, List.filter_cons_of_pos h]; rfl
 rw [if_neg h, List.filter_cons_of_neg h]; rfl
open Classical in
theorem nbB_next : nbB n fl i a (b + 1) = nbB n fl i a b ++ (if AdjP n fl i a b ∧ b ≠ a then [(b : Int)] else []) := by
 unfold nbB
 rw [filter_snoc, List.map_append]
 by_cases h : AdjP n fl i a b ∧ b ≠ a
 ·rw [if_pos h, if_pos (decide_eq_true h)]; rfl
 rw [if_neg h, if_neg (fun h' => h (of_decide_eq_true h'))]; rfl
theorem mvA_put (h : AdjP n fl i a b ∧ b ≠ a) : mvA n fl i a (b + 1) = mvA n fl i a b ++ [(b : Int)] := by
 unfold mvA
 rw [nbB_next, if_pos h, List.append_assoc]
theorem mvA_skip (h : ¬ (AdjP n fl i a b ∧ b ≠ a)) : mvA n fl i a (b + 1) = mvA n fl i a b := by
 unfold mvA
 rw [nbB_next, if_neg h, List.append_nil]
theorem mvA_all : mvA n fl i fl.length 0 = mvP n fl i := by simp [mvA, nbB, mvP]
theorem nbB_len : (nbB n fl i a b).length ≤ b := by
 unfold nbB
 rw [List.length_map]
 refine Nat.le_trans (List.length_filter_le _ _) ?_
 rw [List.length_range]; exact Nat.le_refl _
theorem mvA_len (hb : b ≤ fl.length) : (mvA n fl i a b).length ≤ a * fl.length + b := by
 have key : ∀ a : Nat, ((List.range a).flatMap (nbsP n fl i)).length ≤ a * fl.length := by
  intro a
  induction a with
  | zero => simp
  | succ a ih =>
   rw [List.range_succ, List.flatMap_append, List.length_append, Nat.succ_mul]
   have h := nbB_len (n := n) (fl := fl) (i := i) (a := a) (b := fl.length)
   rw [nbB_all] at h
   simp only [List.flatMap_cons, List.flatMap_nil, List.append_nil]
   omega
 unfold mvA
 have h1 := key a
 have h2 := nbB_len (n := n) (fl := fl) (i := i) (a := a) (b := b)
 rw [List.length_append]; omega
theorem df_one (hn : fl.Nodup) (hl : ∀ x ∈ fl, x.length = n) (hi : i < n) (ha : a < fl.length) (hb : b < fl.length) : (a ≠ b ∧ dfN (gl fl (a : Int)) (gl fl (b : Int)) n = 1 ∧ gi (gl fl (a : Int)) (i : Int) ≠ gi (gl fl (b : Int)) (i : Int)) ↔ AdjP n fl i a b ∧ b ≠ a := by
 have key : ∀ p : Nat → Bool, (∀ c, c < n → (p c = true ↔ c = i)) → ((List.range n).filter p) = [i] := fun p hp => by
  refine List.Perm.eq_singleton ((List.perm_ext_iff_of_nodup (List.nodup_range.filter _) (by simp)).2 fun c => ?_)
  rw [List.mem_filter, List.mem_range, List.mem_singleton]
  exact ⟨fun h => (hp c h.1).1 h.2, fun h => by subst h; exact ⟨hi, (hp c hi).2 rfl⟩⟩
 constructor
 ·rintro ⟨hne, hd, hx⟩
  refine ⟨⟨ha, hb, fun k hk hki => Classical.byContradiction fun h => ?_⟩, fun e => hne e.symm⟩
  unfold dfN at hd
  obtain ⟨x, hx1⟩ := List.length_eq_one_iff.1 hd
  have m1 : i ∈ (List.range n).filter fun k : Nat => decide (gi (gl fl (a : Int)) (k : Int) ≠ gi (gl fl (b : Int)) (k : Int)) := List.mem_filter.2 ⟨List.mem_range.2 hi, decide_eq_true hx⟩
  have m2 : k ∈ (List.range n).filter fun k : Nat => decide (gi (gl fl (a : Int)) (k : Int) ≠ gi (gl fl (b : Int)) (k : Int)) := List.mem_filter.2 ⟨List.mem_range.2 hk, decide_eq_true h⟩
  rw [hx1, List.mem_singleton] at m1 m2
  exact hki (m2.trans m1.symm)
 rintro ⟨hA, hne⟩
 have hx : gi (gl fl (a : Int)) (i : Int) ≠ gi (gl fl (b : Int)) (i : Int) := fun e => hne (flg_same hn hl hb ha fun k hk => by
  by_cases c : k = i
  ·subst c; exact e.symm
  exact (hA.2.2 k hk c).symm)
 refine ⟨fun e => hne e.symm, ?_, hx⟩
 unfold dfN
 rw [key _ fun c hc => ?_]
 ·rfl
 rw [decide_eq_true_eq]
 constructor
 ·intro h
  exact Classical.byContradiction fun h' => h (hA.2.2 c hc h')
 rintro rfl; exact hx
end
noncomputable def mnT (n : Nat) (fl : List (List Int)) (i : Nat) : List (List Int) := (List.range i).map (mvP n fl)
theorem mnT_next (n : Nat) (fl : List (List Int)) (i : Nat) : mnT n fl (i + 1) = mnT n fl i ++ [mvP n fl i] := by
 unfold mnT
 rw [List.range_succ, List.map_append]; rfl
theorem mnT_len (n : Nat) (fl : List (List Int)) (i : Nat) : (mnT n fl i).length = i := by simp [mnT]
abbrev mxB (A : Option Addr) (B : Option Addr) (i c : Nat) : Ck := Bx 24 1 A [.slice B i c]
theorem perm_o {α : Type} (b m q1 q2 q3 : α) (X : List α) : (b :: q1 :: q2 :: q3 :: m :: (X ++ [])).Perm (q1 :: q2 :: q3 :: m :: ((X ++ [b]) ++ [])) := by
 classical
 refine List.perm_iff_count.2 fun z => ?_
 simp only [List.count_append, List.count_cons, List.count_nil]
 omega
set_option maxHeartbeats 4000000 in
theorem l03Maniplex_c (n : Nat) (A D F : Option Addr) (a1 cA d1 cD N cF : Nat) (rsF : List SlV) (fl : List (List Int)) (w : World) (hF : RowsI w F N rsF fl) (hl : ∀ x ∈ fl, x.length = n) (hn : fl.Nodup) (hN : N ≤ 400) (hn5 : n ≤ 1000) :
  Ret Tryz.prog 173 [.agg #[.int .i64 (n : Int), .slice A a1 cA, .slice D d1 cD], .slice F N cF] w (fun v w' => ∃ A' c' rs', v = .agg #[.slice A' n c'] ∧ rs'.length = n ∧ St w w' (mat 32 2 A' n c' rs' (mnP n fl) ++ [])) := by
 have hfl : fl.length = N := hF.len
 refine Ret.of_cd Tryz.func173 O Tryz.ntmps173 O (postc O O) (Gbo O (Ops.box3T (St.refl w) O O ?_))
 intro A2 w1 hS1
 refine Ops.new1 hS1 O ?_
 intro A4 w2 hS2
 refine Gdo O (Ops.bld0 (by exact inferInstance) O (Ops.new1 hS2 O ?_))
 intro A5 w3 hS3
 refine Ops.st_agg 1 0 hS3 O O O O O O O ?_
 intro w4 hS4
 have hS4 : St w w4 (mxB A5 none 0 0 :: mxB A4 none 0 0 :: Bx 34 3 A2 [.int .i64 (n : Int), .slice A a1 cA, .slice D d1 cD] :: (mat 32 2 none 0 0 [] (mnT n fl 0) ++ [])) := (hS4.nil 32).perm (List.perm_append_singleton _ _).symm
 clear hS3 hS2 hS1
 refine Gdc O ?_
 refine Cd.loop (α := Nat × (Option Addr × Nat) × List SlV) (fun z => [(1, .slice F N cF), (2, .pointer A2), (4, .pointer A4), (5, .pointer A5), (6, .int .i64 (z.1 : Int))]) (fun z w' => z.1 ≤ n ∧ z.2.2.length = z.1 ∧ St w w' (mxB A5 z.2.1.1 z.1 z.2.1.2 :: mxB A4 none 0 0 :: Bx 34 3 A2 [.int .i64 (n : Int), .slice A a1 cA, .slice D d1 cD] :: (mat 32 2 z.2.1.1 z.1 z.2.1.2 z.2.2 (mnT n fl z.1) ++ []))) (fun z => n - z.1) (0, (none, 0), []) ⟨O, O, O, O, O, trivial⟩ ⟨Nat.zero_le _, O, hS4⟩ ?_
 clear hS4
 rintro ⟨i, ⟨Am, cm⟩, rsm⟩ e w5 ⟨hi, hrm, hS⟩
 dsimp only at hi hrm hS ⊢
 refine Gbo O (Ops.fld (hS.rd 2 O) O O O O inferInstance (Ops.ldf_i (j := 0) (hS.rd 2 O) (by exact congrArg Value.pointer O) O O O O (Gdc O ?_)))
 refine Cd.cond_p _ O (fun h1 => ?_) (fun h1 => ?_)
 ·have hin : i < n := by omega
  refine Gao O (Ops.bs0 hS O ?_)
  intro A7 w6 hS6
  refine Gdc O ?_
  refine Cd.loop (α := Nat × Option Addr × Nat) (fun z => [(1, .slice F N cF), (2, .pointer A2), (4, .pointer A4), (5, .pointer A5), (6, .int .i64 (i : Int)), (7, .slice z.2.1 (mvA n fl i z.1 0).length z.2.2), (8, .int .i64 (z.1 : Int))]) (fun z w' => z.1 ≤ N ∧ St w w' (CkI 2 z.2.1 (mvA n fl i z.1 0).length z.2.2 (mvA n fl i z.1 0) :: mxB A5 Am i cm :: mxB A4 none 0 0 :: Bx 34 3 A2 [.int .i64 (n : Int), .slice A a1 cA, .slice D d1 cD] :: (mat 32 2 Am i cm rsm (mnT n fl i) ++ []))) (fun z => N - z.1) (0, A7, 0) ⟨O, O, O, O, O, O, O, trivial⟩ ⟨Nat.zero_le _, hS6⟩ ?_
  clear hS6 hS
  rintro ⟨a, Ab, cb⟩ e1 w7 ⟨ha, hS⟩
  dsimp only at ha hS ⊢
  refine Gbo O (Ops.len O O (Gdc O ?_))
  refine Cd.cond_p _ O (fun h2 => ?_) (fun h2 => ?_)
  ·have haN : a < N := by omega
   refine Gac O ?_
   refine Cd.loop (α := Nat × Option Addr × Nat) (fun z => [(1, .slice F N cF), (2, .pointer A2), (4, .pointer A4), (5, .pointer A5), (6, .int .i64 (i : Int)), (7, .slice z.2.1 (mvA n fl i a z.1).length z.2.2), (8, .int .i64 (a : Int)), (9, .int .i64 (z.1 : Int))]) (fun z w' => z.1 ≤ N ∧ St w w' (CkI 2 z.2.1 (mvA n fl i a z.1).length z.2.2 (mvA n fl i a z.1) :: mxB A5 Am i cm :: mxB A4 none 0 0 :: Bx 34 3 A2 [.int .i64 (n : Int), .slice A a1 cA, .slice D d1 cD] :: (mat 32 2 Am i cm rsm (mnT n fl i) ++ []))) (fun z => N - z.1) (0, Ab, cb) ⟨O, O, O, O, O, O, O, O, trivial⟩ ⟨Nat.zero_le _, hS⟩ ?_
   clear hS
   rintro ⟨b, Ab, cb⟩ e2 w8 ⟨hb, hS⟩
   dsimp only at hb hS ⊢
   have hml := mvA_len (n := n) (i := i) (a := a) (b := b) (show b ≤ fl.length by omega)
   have hsq : a * fl.length ≤ 400 * 400 := Nat.mul_le_mul (by omega) (by omega)
   refine Gbo O (Ops.len O O (Gdc O ?_))
   refine Cd.cond_p _ O (fun h3 => ?_) (fun h3 => ?_)
   ·have hbN : b < N := by omega
    have hF8 := hS.oldRows hF
    have hra := hF8.at_ (i := (a : Int)) (by omega) (by omega)
    have hrb := hF8.at_ (i := (b : Int)) (by omega) (by omega)
    have hla : (gl fl (a : Int)).length = n := hl _ (by rw [gl_mem (by omega)]; exact List.getElem_mem _)
    have hlb : (gl fl (b : Int)).length = n := hl _ (by rw [gl_mem (by omega)]; exact List.getElem_mem _)
    have hna : (rg rsF (a : Int)).n = n := by rw [← hra.1]; exact hla
    have hnb : (rg rsF (b : Int)).n = n := by rw [← hrb.1]; exact hlb
    have hdf := df_one hn hl hin (show a < fl.length by omega) (show b < fl.length by omega)
    have hput := mvA_put (n := n) (fl := fl) (i := i) (a := a) (b := b)
    have hskp := mvA_skip (n := n) (fl := fl) (i := i) (a := a) (b := b)
    rw [← hdf] at hput hskp
    have hT8 := hF8.top
    by_cases q1 : a = b
    ·refine Gac O ?_
     refine Cd.draw [xI ((a : Int)), xI ((b : Int)), xB (decide (¬ ((a : Int)) = ((b : Int)))), xB (false), xU, xU, xU, xU, xU, xU, xU, xU, xU, xU, xB (false), xB (false), xU, xU, xU, xU, xU, xU, xU, xU, xU, xU, xU, xU, xU, xU, xU, xB (false)] (by kernel_rfl) (by kernel_rfl) O (exL O) ?_ ?_
     ·exact ⟨Dr O, Dr O, Dr O, fun _ _ _ _ _ => Dk O (by exact congrArg Value.bool (decide_eq_false (by omega))), Dr O, Dr O, Dr O, Dr O, Dr O, Dr O, Dr O, Dr O, Dr O, Dr O, Dr O, Dr O, Dr O, Dr O, Dr O, Dr O, Dr O, Dr O, Dr O, Dr O, Dr O, Dr O, Dr O, Dr O, Dr O, Dr O, Dr O, Dr O, trivial⟩
     intro u w9 hb9 _
     have hS := hS.later hb9
     refine Gec O (Cd.cond_f O ?_)
     have hskp := hskp (fun h => h.1 q1)
     refine Gao O (Ops.add O O O (by omega) (Gdn O (tQ ?_)))
     exact ⟨(b + 1, Ab, cb), by show N - (b + 1) < N - b; omega, ⟨O, O, O, O, O, congrArg (fun L : List Int => Value.slice Ab L.length cb) hskp.symm, O, O, trivial⟩, by show b + 1 ≤ N; omega, by show St w w9 (CkI _ Ab (mvA n fl i a (b + 1)).length cb _ :: _); rw [hskp]; exact hS⟩
    by_cases q2 : dfN (gl fl (a : Int)) (gl fl (b : Int)) n = 1
    ·refine Gac O ?_
     refine Cd.draw [xI ((a : Int)), xI ((b : Int)), xB (decide (¬ ((a : Int)) = ((b : Int)))), xB (true), xS (F) (N) (cF), xI ((a : Int)), xP (ptrAt (F) ((a : Int)).toNat), xS ((rg (rsF) ((a : Int))).a) ((rg (rsF) ((a : Int))).n) ((rg (rsF) ((a : Int))).c), xS (F) (N) (cF), xI ((b : Int)), xP (ptrAt (F) ((b : Int)).toNat), xS ((rg (rsF) ((b : Int))).a) ((rg (rsF) ((b : Int))).n) ((rg (rsF) ((b : Int))).c), xI (((dfN (gl fl (a : Int)) (gl fl (b : Int)) (rg rsF (a : Int)).n : Nat) : Int)), xB (true), xB (true), xB (true), xS (F) (N) (cF), xI ((a : Int)), xP (ptrAt (F) ((a : Int)).toNat), xS ((rg (rsF) ((a : Int))).a) ((rg (rsF) ((a : Int))).n) ((rg (rsF) ((a : Int))).c), xI ((i : Int)), xP (ptrAt ((rg (rsF) ((a : Int))).a) ((i : Int)).toNat), xI (gi (gl fl (a : Int)) ((i : Int))), xS (F) (N) (cF), xI ((b : Int)), xP (ptrAt (F) ((b : Int)).toNat), xS ((rg (rsF) ((b : Int))).a) ((rg (rsF) ((b : Int))).n) ((rg (rsF) ((b : Int))).c), xI ((i : Int)), xP (ptrAt ((rg (rsF) ((b : Int))).a) ((i : Int)).toNat), xI (gi (gl fl (b : Int)) ((i : Int))), xB (decide (¬ (gi (gl fl (a : Int)) ((i : Int))) = (gi (gl fl (b : Int)) ((i : Int))))), xB (decide (¬ (gi (gl fl (a : Int)) ((i : Int))) = (gi (gl fl (b : Int)) ((i : Int)))))] (by kernel_rfl) (by kernel_rfl) O (exL O) ?_ ?_
     ·refine ⟨Dr O, Dr O, Dr O, fun _ _ _ _ _ => Dk O (by exact congrArg Value.bool (decide_eq_true (by omega))), Dr O, Dr O, fun _ _ hb _ _ => Ops.g O O O (Ops.idx (hT8.later hb).2 O O O (by omega) (by omega) (Az O)), fun _ _ hb _ _ => Ops.g O O O (Ops.ld_sl (hT8.later hb) O (by omega) O O (Az O)), Dr O, Dr O, fun _ _ hb _ _ => Ops.g O O O (Ops.idx (hT8.later hb).2 O O O (by omega) (by omega) (Az O)), fun _ _ hb _ _ => Ops.g O O O (Ops.ld_sl (hT8.later hb) O (by omega) O O (Az O)), ?_, fun _ _ _ _ _ => Dk O (by exact congrArg Value.bool (decide_eq_true (by rw [hna, q2]; rfl))), Dr O, Dr O, Dr O, Dr O, fun _ _ hb _ _ => Ops.g O O O (Ops.idx (hT8.later hb).2 O O O (by omega) (by omega) (Az O)), fun _ _ hb _ _ => Ops.g O O O (Ops.ld_sl (hT8.later hb) O (by omega) O O (Az O)), Dr O, fun _ _ hb _ _ => Ops.g O O O (Ops.idx (hra.later hb).2 O O O (by omega) (by omega) (Az O)), fun _ _ hb _ _ => Ops.g O O O (Ops.ld_int (hra.later hb) O (by omega) O O (Az O)), Dr O, Dr O, fun _ _ hb _ _ => Ops.g O O O (Ops.idx (hT8.later hb).2 O O O (by omega) (by omega) (Az O)), fun _ _ hb _ _ => Ops.g O O O (Ops.ld_sl (hT8.later hb) O (by omega) O O (Az O)), Dr O, fun _ _ hb _ _ => Ops.g O O O (Ops.idx (hrb.later hb).2 O O O (by omega) (by omega) (Az O)), fun _ _ hb _ _ => Ops.g O O O (Ops.ld_int (hrb.later hb) O (by omega) O O (Az O)), Dr O, Dr O, trivial⟩
      intro e1 w1 hb hp hun
      refine Ops.g O O O (Ops.call (l03Differ_c (rg rsF (a : Int)).a (rg rsF (b : Int)).a (rg rsF (a : Int)).n (rg rsF (a : Int)).c (rg rsF (b : Int)).n (rg rsF (b : Int)).c (gl fl (a : Int)) (gl fl (b : Int)) _ (hra.later hb) (hrb.later hb) (by omega) (by omega)) O O O ?_)
      rintro _ w2 ⟨rfl, hst⟩
      refine Ops.n ?_
      exact After.dn hst.below (by exact O)
     intro u w9 hb9 _
     have hS := hS.later hb9
     refine Gec O ?_
     refine Cd.cond_p _ O (fun h4 => ?_) (fun h4 => ?_)
     ·have hput := hput ⟨q1, q2, h4⟩
      refine Gao O (Ops.bs1I hS O O O ?_)
      intro A9 w10 hS10
      refine Ops.appI 1 hS10 O (hS10.rdI 0 O) O O O (by omega) (by omega) O ?_
      intro AZ cZ w11 hS11
      have hS11 := hS11.tail
      refine Gdo O (Ops.add O O O (by omega) (Gdn O (tQ ?_)))
      refine ⟨(b + 1, AZ, cZ), by show N - (b + 1) < N - b; omega, ⟨O, O, O, O, O, ?_, O, O, trivial⟩, by show b + 1 ≤ N; omega, ?_⟩
      ·show Value.slice _ _ _ = Value.slice _ _ _
       rw [hput, List.length_append]; rfl
      show St w w11 (CkI _ AZ (mvA n fl i a (b + 1)).length cZ _ :: _)
      rw [hput, List.length_append]; exact hS11
     have hskp := hskp (fun h => h4 h.2.2)
     refine Gao O (Ops.add O O O (by omega) (Gdn O (tQ ?_)))
     exact ⟨(b + 1, Ab, cb), by show N - (b + 1) < N - b; omega, ⟨O, O, O, O, O, congrArg (fun L : List Int => Value.slice Ab L.length cb) hskp.symm, O, O, trivial⟩, by show b + 1 ≤ N; omega, by show St w w9 (CkI _ Ab (mvA n fl i a (b + 1)).length cb _ :: _); rw [hskp]; exact hS⟩
    refine Gac O ?_
    refine Cd.draw [xI ((a : Int)), xI ((b : Int)), xB (decide (¬ ((a : Int)) = ((b : Int)))), xB (true), xS (F) (N) (cF), xI ((a : Int)), xP (ptrAt (F) ((a : Int)).toNat), xS ((rg (rsF) ((a : Int))).a) ((rg (rsF) ((a : Int))).n) ((rg (rsF) ((a : Int))).c), xS (F) (N) (cF), xI ((b : Int)), xP (ptrAt (F) ((b : Int)).toNat), xS ((rg (rsF) ((b : Int))).a) ((rg (rsF) ((b : Int))).n) ((rg (rsF) ((b : Int))).c), xI (((dfN (gl fl (a : Int)) (gl fl (b : Int)) (rg rsF (a : Int)).n : Nat) : Int)), xB (false), xB (false), xB (false), xU, xU, xU, xU, xU, xU, xU, xU, xU, xU, xU, xU, xU, xU, xU, xB (false)] (by kernel_rfl) (by kernel_rfl) O (exL O) ?_ ?_
    ·refine ⟨Dr O, Dr O, Dr O, fun _ _ _ _ _ => Dk O (by exact congrArg Value.bool (decide_eq_true (by omega))), Dr O, Dr O, fun _ _ hb _ _ => Ops.g O O O (Ops.idx (hT8.later hb).2 O O O (by omega) (by omega) (Az O)), fun _ _ hb _ _ => Ops.g O O O (Ops.ld_sl (hT8.later hb) O (by omega) O O (Az O)), Dr O, Dr O, fun _ _ hb _ _ => Ops.g O O O (Ops.idx (hT8.later hb).2 O O O (by omega) (by omega) (Az O)), fun _ _ hb _ _ => Ops.g O O O (Ops.ld_sl (hT8.later hb) O (by omega) O O (Az O)), ?_, fun _ _ _ _ _ => Dk O (by exact congrArg Value.bool (decide_eq_false (by rw [hna]; omega))), Dr O, Dr O, Dr O, Dr O, Dr O, Dr O, Dr O, Dr O, Dr O, Dr O, Dr O, Dr O, Dr O, Dr O, Dr O, Dr O, Dr O, Dr O, trivial⟩
     intro e1 w1 hb hp hun
     refine Ops.g O O O (Ops.call (l03Differ_c (rg rsF (a : Int)).a (rg rsF (b : Int)).a (rg rsF (a : Int)).n (rg rsF (a : Int)).c (rg rsF (b : Int)).n (rg rsF (b : Int)).c (gl fl (a : Int)) (gl fl (b : Int)) _ (hra.later hb) (hrb.later hb) (by omega) (by omega)) O O O ?_)
     rintro _ w2 ⟨rfl, hst⟩
     refine Ops.n ?_
     exact After.dn hst.below (by exact O)
    intro u w9 hb9 _
    have hS := hS.later hb9
    refine Gec O (Cd.cond_f O ?_)
    have hskp := hskp (fun h => q2 h.2.1)
    refine Gao O (Ops.add O O O (by omega) (Gdn O (tQ ?_)))
    exact ⟨(b + 1, Ab, cb), by show N - (b + 1) < N - b; omega, ⟨O, O, O, O, O, congrArg (fun L : List Int => Value.slice Ab L.length cb) hskp.symm, O, O, trivial⟩, by show b + 1 ≤ N; omega, by show St w w9 (CkI _ Ab (mvA n fl i a (b + 1)).length cb _ :: _); rw [hskp]; exact hS⟩
   have hbe : b = fl.length := by omega
   subst hbe
   rw [← mvA_row] at hS ⊢
   refine Gax O (thenQ_x (Gfo O (Ops.add O O O (by omega) (Gdn O (tQ ?_)))))
   exact ⟨(a + 1, Ab, cb), by show N - (a + 1) < N - a; omega, ⟨O, O, O, O, O, O, O, trivial⟩, by show a + 1 ≤ N; omega, hS⟩
  have hae : a = fl.length := by omega
  subst hae
  have hml := mvA_len (n := n) (i := i) (a := fl.length) (b := 0) (show 0 ≤ fl.length by omega)
  have hsq : fl.length * fl.length ≤ 400 * 400 := Nat.mul_le_mul (by omega) (by omega)
  rw [mvA_all] at hS hml ⊢
  have hmn := mnT_next n fl i
  refine Gax O (thenQ_x (Gfo O ?_))
  refine Ops.fld (hS.rd 1 O) O O O O inferInstance (Ops.ldf_s (j := 0) (hS.rd 1 O) O O O O O (Gdo O (Ops.bs1R hS O O O ?_)))
  intro A9 w8 hS8
  refine Ops.appR 5 hS8 O (hS8.rdR 0 O) O O O (by omega) (by omega) O ?_
  intro AZ cZ w9 hS9
  refine Ops.fld (hS9.rd 2 O) O O O O inferInstance (Ops.stf 2 (j := 0) hS9 O O O O O ?_)
  intro w10 hS10
  have hS10 := hS10.tail
  have hS10 := hS10.perm (perm_o _ _ _ _ _ _)
  refine Gdo O (Ops.add O O O (by omega) (Gdn O (tQ ?_)))
  refine ⟨(i + 1, (AZ, cZ), rsm ++ [⟨Ab, (mvP n fl i).length, cb⟩]), by show n - (i + 1) < n - i; omega, ⟨O, O, O, O, O, trivial⟩, by show i + 1 ≤ n; omega, by show (rsm ++ [_]).length = i + 1; rw [List.length_append, hrm]; rfl, ?_⟩
  show St w w10 (mxB A5 AZ (i + 1) cZ :: mxB A4 none 0 0 :: Bx 34 3 A2 [.int .i64 (n : Int), .slice A a1 cA, .slice D d1 cD] :: (mat 32 2 AZ (i + 1) cZ (rsm ++ [_]) (mnT n fl (i + 1)) ++ []))
  rw [hmn]
  unfold mat
  rw [rowsCk_snoc (by rw [hrm, mnT_len])]
  exact hS10
 obtain rfl : i = n := by omega
 refine Gax O (thenQ_x (Gfo O ?_))
 refine Ops.ld_agg 0 (hS.rd 0 O) O O O (Ops.st_agg 1 1 hS O O O O O O O ?_)
 intro w6 hS6
 refine Gdr O (retc_r O (hS6.rd 1 O) ?_)
 exact ⟨Am, cm, rsm, O, hrm, hS6.sub (show List.Sublist _ (_ :: _ :: _ :: _) from ((List.Sublist.refl _).cons _ |>.cons _ |>.cons _))⟩
/-
 The maniplex of a poset's flags, walked in the program. Conditions: the library's table of powers of ten holds what the program's text lays there.
-/
abbrev mvK (A6 : Option Addr) (N : Nat) (mv : List Int) (g : Nat) (L : List (ByteArray × Int)) (A3 A2 Am : Option Addr) (i cm : Nat) (rsm : List SlV) (T : List (List Int)) : List Ck :=
 CkI 2 A6 N N mv :: CkM 138 g (prV Value.string (Value.int .i64) L) :: mxB A3 Am i cm :: mxB A2 none 0 0 :: (mat 32 2 Am i cm rsm T ++ [])
theorem perm_q2 {α : Type} (b m q1 q2 : α) (X : List α) : (b :: q1 :: q2 :: m :: (X ++ [])).Perm (q1 :: q2 :: m :: ((X ++ [b]) ++ [])) := by
 classical
 refine List.perm_iff_count.2 fun z => ?_
 simp only [List.count_append, List.count_cons, List.count_nil]
 omega
set_option maxHeartbeats 4000000 in
theorem maniplexOf_c (n : Nat) (F : Option Addr) (N cF : Nat) (rsF : List SlV) (fl : List (List Int)) (w : World) (hT : Tab w) (hF : RowsI w F N rsF fl) (hl : ∀ x ∈ fl, x.length = n ∧ ∀ e ∈ x, 0 ≤ e ∧ e ≤ 1000) (hNb : NbP n fl) (hN : 0 < N ∧ N ≤ 400) (hn5 : n ≤ 1000) :
  Ret Tryz.prog 90 [.slice F N cF] w (fun v w' => ∃ A' c' rs', v = .agg #[.slice A' n c'] ∧ rs'.length = n ∧ St w w' (mat 32 2 A' n c' rs' (mnP n fl) ++ [])) := by
 have hfl : fl.length = N := hF.len
 have hln : ∀ x ∈ fl, x.length = n := fun x hx => (hl x hx).1
 refine Ret.of_cd Tryz.func90 O Tryz.ntmps90 O (postc O O) (Gbo O (Ops.new1 (St.refl w) O ?_))
 intro A2 w1 hS1
 refine Gdo O (Ops.new1 hS1 O ?_)
 intro A3 w2 hS2
 have hS2 : St w w2 (mxB A3 none 0 0 :: mxB A2 none 0 0 :: (mat 32 2 none 0 0 [] (mnT n fl 0) ++ [])) := (hS2.nil 32).perm (List.perm_append_singleton _ _).symm
 clear hS1
 have hF2 := hS2.oldRows hF
 have h00 := hF2.at_ (i := (0 : Int)) (by omega) (by omega)
 have hn0 : (rg rsF (0 : Int)).n = n := by rw [← h00.1]; exact hln _ (by rw [show (0 : Int) = ((0 : Nat) : Int) from O, gl_mem (by omega)]; exact List.getElem_mem _)
 refine Gdo O (Ops.idx hF2.top.2 O O O (by omega) (by omega) ?_)
 refine Ops.ld_sl hF2.top O (by show (0 : Int).toNat < N; exact hN.1) O O ?_
 refine Ops.len O O (Gdc O ?_)
 refine Cd.loop (α := Nat × (Option Addr × Nat) × List SlV) (fun z => [(0, .slice F N cF), (2, .pointer A2), (3, .pointer A3), (16, .int .i64 (n : Int)), (17, .int .i64 (z.1 : Int))]) (fun z w' => z.1 ≤ n ∧ z.2.2.length = z.1 ∧ St w w' (mxB A3 z.2.1.1 z.1 z.2.1.2 :: mxB A2 none 0 0 :: (mat 32 2 z.2.1.1 z.1 z.2.1.2 z.2.2 (mnT n fl z.1) ++ []))) (fun z => n - z.1) (0, (none, 0), []) ⟨O, O, O, congrArg (fun m : Nat => Value.int .i64 (m : Int)) hn0, O, trivial⟩ ⟨Nat.zero_le _, O, hS2⟩ ?_
 clear hS2 hF2 h00
 rintro ⟨i, ⟨Am, cm⟩, rsm⟩ e w5 ⟨hi, hrm, hS⟩
 dsimp only at hi hrm hS ⊢
 refine Gbc O ?_
 refine Cd.cond_p _ O (fun h1 => ?_) (fun h1 => ?_)
 ·have hin : i < n := by omega
  refine Gao O (Ops.mkmap hS O ?_)
  intro g w6 hS6
  refine Gdo O (Ops.len O O ?_)
  refine Ops.mkI N hS6 O O ⟨by omega, by omega⟩ ?_
  intro A6 w7 hS7
  have hS7 : St w w7 (mvK A6 N (mvF n fl i 0) g [] A3 A2 Am i cm rsm (mnT n fl i)) := by
   have e0 := mvF_0 (n := n) (fl := fl) (i := i)
   rw [hfl] at e0
   rw [e0]
   exact hS7
  clear hS6 hS
  refine Gdo O (Ops.len O O (Gdc O ?_))
  refine Cd.loop (α := Nat × List (ByteArray × Int)) (fun z => [(0, .slice F N cF), (2, .pointer A2), (3, .pointer A3), (4, .int .i64 (i : Int)), (5, .map (some g)), (6, .slice A6 N N), (16, .int .i64 (n : Int)), (17, .int .i64 (i : Int)), (24, .slice F N cF), (25, .int .i64 (N : Int)), (26, .int .i64 (z.1 : Int))]) (fun z w' => z.1 ≤ N ∧ FsP n fl i z.1 z.2 ∧ St w w' (mvK A6 N (mvF n fl i z.1) g z.2 A3 A2 Am i cm rsm (mnT n fl i))) (fun z => N - z.1) (0, []) ⟨O, O, O, O, O, O, O, O, O, O, O, trivial⟩ ⟨Nat.zero_le _, FsP.zero, hS7⟩ ?_
  clear hS7
  rintro ⟨f, L⟩ e1 w8 ⟨hf, hFs, hS⟩
  dsimp only at hf hFs hS ⊢
  refine Gbc O ?_
  refine Cd.cond_p _ O (fun h2 => ?_) (fun h2 => ?_)
  ·have hfN : f < fl.length := by omega
   have hF8 := hS.oldRows hF
   have hrf := hF8.at_ (i := (f : Int)) (by omega) (by omega)
   have hmf : gl fl (f : Int) ∈ fl := by rw [gl_mem hfN]; exact List.getElem_mem _
   have hlf := hl _ hmf
   have hnf : (rg rsF (f : Int)).n = n := by rw [← hrf.1]; exact hlf.1
   have hat := hFs.at_ hfN
   have hpl := hNb.lt hfN hin
   have hmvl := mvF_len (n := n) (fl := fl) (i := i) (f := f)
   refine Gao O (Ops.idx hF8.top.2 O O O (by omega) (by omega) (Ops.ld_sl hF8.top O (by omega) O O (Gdo O (Ops.call (Clone_c _ _ _ (gl fl (f : Int)) _ hrf (by omega)) O O O ?_))))
   rintro _ w9 ⟨A9, c9, rfl, hst⟩
   have hS9 := hS.call hst
   clear hS hst hF8 hrf
   rw [hnf] at hS9 ⊢
   have hS9 : St w w9 (CkI 2 A9 n c9 (gl fl (f : Int)) :: mvK A6 N (mvF n fl i f) g L A3 A2 Am i cm rsm (mnT n fl i)) := hS9
   refine Gdo O (Ops.idx (hS9.rd 0 O) O O O (by omega) (by omega) (Ops.st_int 0 (i := (i : Int)) hS9 O O O (by omega) ?_))
   intro w10 hS10
   have hS10 : St w w10 (CkI 2 A9 n c9 (rstP (gl fl (f : Int)) i) :: mvK A6 N (mvF n fl i f) g L A3 A2 Am i cm rsm (mnT n fl i)) := hS10
   refine Gdo O ?_
   refine Ops.call (keyOf_c A9 n c9 (rstP (gl fl (f : Int)) i) _ (hT.later hS10.below) (hS10.rdI 0 O) (fun x hx => by
    rcases List.mem_or_eq_of_mem_set hx with hx | rfl
    ·have := hlf.2 x hx; omega
    omega) (by omega)) rfl rfl rfl ?_
   rintro _ w11 ⟨rfl, hst⟩
   have hS11 := hS10.tail.later hst.below
   clear hS9 hS10 hst
   refine Gdo O (Ops.lookIok keyS (keyB (rstP (gl fl (f : Int)) i)) (hS11.rdM 1 O) O O O ?_)
   rw [hat]
   by_cases hp : ptP n fl i f < f
   ·rw [if_pos hp]
    have hhit := mvF_hit hNb hin hfN hp
    refine Gdc O (Cd.cond_t O (Gao O (Ops.idx (hS11.rd 0 O) O O O (by omega) (by omega) (Ops.st_int 0 (i := (f : Int)) hS11 O O O (by omega) ?_))))
    intro w12 hS12
    refine Ops.idx (hS12.rd 0 O) O O O (by show (0 : Int) ≤ (ptP n fl i f : Int); omega) (by show (ptP n fl i f : Int) < (N : Int); omega) ?_
    refine Ops.st_int 0 (i := (ptP n fl i f : Int)) hS12 O O O (by omega) ?_
    intro w13 hS13
    refine Gdo O (Ops.add O O O (by omega) (Gdn O (tQ ?_)))
    refine ⟨(f + 1, L), by show N - (f + 1) < N - f; omega, ⟨O, O, O, O, O, O, O, O, O, O, O, trivial⟩, by show f + 1 ≤ N; omega, hFs.hit hNb hin hfN hp, ?_⟩
    show St w w13 (mvK A6 N (mvF n fl i (f + 1)) g L A3 A2 Am i cm rsm (mnT n fl i))
    rw [hhit]
    exact hS13
   rw [if_neg hp]
   have hmis := mvF_miss hNb hin hfN hp
   refine Gdc O (Cd.cond_f O (Gao O (Ops.upm O keyS 1 (u := (f : Int)) (a := keyB (rstP (gl fl (f : Int)) i)) (vv := Value.int .i64) hS11 O O O O ?_)))
   intro w12 hS12
   refine Gdo O (Ops.add O O O (by omega) (Gdn O (tQ ?_)))
   refine ⟨(f + 1, putA L (keyB (rstP (gl fl (f : Int)) i)) (f : Int)), by show N - (f + 1) < N - f; omega, ⟨O, O, O, O, O, O, O, O, O, O, O, trivial⟩, by show f + 1 ≤ N; omega, hFs.miss hNb hln hin hfN hp, ?_⟩
   show St w w12 (mvK A6 N (mvF n fl i (f + 1)) g _ A3 A2 Am i cm rsm (mnT n fl i))
   rw [hmis]
   exact hS12
  have hfe : f = fl.length := by omega
  subst hfe
  rw [mvF_all hNb hin] at hS
  have hmn := mnT_next n fl i
  have hS : St w w8 (CkI 2 A6 N N (mvP n fl i) :: mxB A3 Am i cm :: mxB A2 none 0 0 :: (mat 32 2 Am i cm rsm (mnT n fl i) ++ [])) := hS.sub ((List.Sublist.refl _).cons _ |>.cons_cons _)
  refine Gax O (thenQ_x (Gfo O ?_))
  refine Ops.fld (hS.rd 1 O) O O O O inferInstance (Ops.ldf_s (j := 0) (hS.rd 1 O) O O O O O (Gdo O (Ops.bs1R hS O O O ?_)))
  intro A9 w9 hS9
  refine Ops.appR 4 hS9 O (hS9.rdR 0 O) O O O (by omega) (by omega) O ?_
  intro AZ cZ w10 hS10
  refine Ops.fld (hS10.rd 2 O) O O O O inferInstance (Ops.stf 2 (j := 0) hS10 O O O O O ?_)
  intro w11 hS11
  have hS11 := hS11.tail
  have hS11 := hS11.perm (perm_q2 _ _ _ _ _)
  refine Gdo O (Ops.add O O O (by omega) (Gdn O (tQ ?_)))
  refine ⟨(i + 1, (AZ, cZ), rsm ++ [⟨A6, N, N⟩]), by show n - (i + 1) < n - i; omega, ⟨O, O, O, O, O, trivial⟩, by show i + 1 ≤ n; omega, by show (rsm ++ [_]).length = i + 1; rw [List.length_append, hrm]; rfl, ?_⟩
  show St w w11 (mxB A3 AZ (i + 1) cZ :: mxB A2 none 0 0 :: (mat 32 2 AZ (i + 1) cZ (rsm ++ [_]) (mnT n fl (i + 1)) ++ []))
  rw [hmn]
  unfold mat
  rw [rowsCk_snoc (by rw [hrm, mnT_len])]
  exact hS11
 obtain rfl : i = n := by omega
 refine Gax O (thenQ_x (Gfo O ?_))
 refine Ops.ld_agg 0 (hS.rd 0 O) O O O (Ops.st_agg 1 1 hS O O O O O O O ?_)
 intro w6 hS6
 refine Gdr O (retc_r O (hS6.rd 1 O) ?_)
 exact ⟨Am, cm, rsm, O, hrm, hS6.sub (show List.Sublist _ (_ :: _ :: _) from ((List.Sublist.refl _).cons _ |>.cons _))⟩
noncomputable def mxC (n : Nat) (R : List Int) (B : List (List Int)) : Int := flgK n R B
noncomputable def mxM (n : Nat) (R : List Int) (B : List (List Int)) : List (List Int) := if flgK n R B = 0 then mnP n (flgP n R B) else []
theorem mx_few {n : Nat} {R : List Int} {B : List (List Int)} (h : (flgP n R B).length ≤ 400) : flgK n R B = 0 ∧ flgL n R B = flgP n R B ∧ mxM n R B = mnP n (flgP n R B) := by
 have e : flgK n R B = 0 := by unfold flgK; rw [if_pos h]
 refine ⟨e, by unfold flgL; rw [if_pos h], by unfold mxM; rw [if_pos e]⟩
theorem mx_many {n : Nat} {R : List Int} {B : List (List Int)} (h : ¬ (flgP n R B).length ≤ 400) : flgK n R B = 3 ∧ mxM n R B = [] := by
 have e : flgK n R B = 3 := by unfold flgK; rw [if_neg h]
 exact ⟨e, by unfold mxM; rw [if_neg (by rw [e]; decide)]⟩
theorem flg_el {n : Nat} {R : List Int} {B : List (List Int)} (hP : PosP n R B) : ∀ x ∈ flgP n R B, x.length = n ∧ ∀ e ∈ x, 0 ≤ e ∧ e ≤ 1000 := fun x hx => by
 have hn := hP.n1
 have hb := hP.big
 have h := (flgP_mem (by omega)).1 hx
 refine ⟨h.1, fun e he => ?_⟩
 obtain ⟨k, hk, rfl⟩ := List.mem_iff_getElem.1 he
 have := (h.2.1 k (by omega)).1
 rw [gi_mem hk] at this
 omega
set_option maxHeartbeats 1000000 in
theorem polytopeOf_c (n : Nat) (A D : Option Addr) (cA cD : Nat) (R : List Int) (rs : List SlV) (B : List (List Int)) (w : World) (hT : Tab w) (hR : RdI w A R.length R) (hB : RowsI w D B.length rs B) (hP : PosP n R B) (hD : DiaP n R B) (hne : flgP n R B ≠ []) :
  Ret Tryz.prog 116 [.agg #[.int .i64 n, .slice A R.length cA, .slice D B.length cD], .int .i64 0] w (AnsX (mxM n R B) (mxC n R B) w) := by
 have hn := hP.n1
 refine Ret.of_cd Tryz.func116 O Tryz.ntmps116 O (postc2 O O) (Gbo O (Ops.box3T (St.refl w) O O ?_))
 intro A2 w1 hS1
 refine Ops.new1 hS1 O ?_
 intro A4 w2 hS2
 refine Gdc O ?_
 refine Cd.cond_pf O (fun h => h O) ?_
 refine Gao O (Ops.ld_agg 2 (hS2.rd 1 O) O O O (Ops.call (flagsOf_c n A D cA cD R rs B _ (hS2.oldI hR) (hS2.oldRows hB) hP) O O O ?_))
 rintro _ w3 ⟨AF, cF, rsF, rfl, hrF, hst⟩
 have hb4 := Rd.below (hS2.rd 0 O) hst.below
 by_cases hf : (flgP n R B).length ≤ 400
 ·obtain ⟨e1, e2, e3⟩ := mx_few hf
  have e4 : mxC n R B = 0 := e1
  rw [e2] at hst ⊢
  rw [e1, e3, e4]
  rw [e2] at hrF
  have hF : RowsI w3 AF (flgP n R B).length rsF (flgP n R B) := hst.rowsI O
  have hS3 := hS2.later hst.below
  refine Gdc O (Cd.cond_f O (Gao O ?_))
  have hT3 := hT.later hS3.below
  refine Ops.call (maniplexOf_c n AF _ cF rsF _ _ hT3 hF (flg_el hP) (flg_NbP hP hD) ⟨List.length_pos_iff.2 hne, hf⟩ (by omega)) O O O ?_
  rintro _ w4 ⟨Am, cm, rsm, rfl, hrm, hst4⟩
  have hml := mn_len n (flgP n R B)
  have hS4 := (hS3.call hst4).perm List.perm_append_comm
  refine Ops.st_agg 1 0 hS4 O O O O O O O ?_
  intro w5 hS5
  refine Gdr O (retc2_r O (hS5.rd 0 O) O ?_)
  refine ⟨Am, cm, rsm, by rw [hml]; rfl, by rw [hml]; exact hrm, ?_⟩
  rw [hml]
  have h9 := hS5.sub (show List.Sublist _ (_ :: _ :: _) from ((List.Sublist.refl _).cons _ |>.cons _))
  rwa [List.append_nil] at h9
 obtain ⟨e1, e3⟩ := mx_many hf
 have e4 : mxC n R B = 3 := e1
 rw [e1, e3, e4]
 have hS3 := hS2.later hst.below
 refine Gdc O (Cd.cond_t O (Gao O (Ops.bld0 (by exact inferInstance) O (Gdo O (Ops.st_agg 1 0 hS3 O O O O O O O ?_)))))
 intro w5 hS5
 refine Gdr O (retc2_r O (hS5.rd 0 O) O ?_)
 exact AnsX.none hS5
/-
 The maniplex of a product, walked on both sides. Conditions: the library's table of powers of ten holds what the program's text lays there (the program's side).
-/
/-! the answer -/
noncomputable def poC (M K : List (List Int)) (kind : Int) : Int := if ppC M K kind = 0 then mxC (pdN M K kind) (pdR M K kind) (pdB M K kind) else ppC M K kind
noncomputable def poM (M K : List (List Int)) (kind : Int) : List (List Int) := if ppC M K kind = 0 then mxM (pdN M K kind) (pdR M K kind) (pdB M K kind) else []
theorem pp_0 {M K : List (List Int)} {kind : Int} (h : ppC M K kind = 0) : prC M K kind = 0 ∧ pdN M K kind ≤ 5 ∧ (pdR M K kind).length ≤ 500 := by
 unfold ppC at h
 split at h
 ·rename_i h1
  refine ⟨h1, ?_⟩
  by_cases h2 : 5 < pdN M K kind ∨ 500 < (pdR M K kind).length
  ·rw [if_pos h2] at h; exact absurd h (by decide)
  omega
 contradiction
theorem pd_ok {M K : List (List Int)} {kind : Int} (h : ppC M K kind = 0) : PosP (pdN M K kind : Nat) (pdR M K kind) (pdB M K kind) ∧ DiaP (pdN M K kind : Nat) (pdR M K kind) (pdB M K kind) ∧ flgP (pdN M K kind) (pdR M K kind) (pdB M K kind) ≠ [] := by
 obtain ⟨hp, h5, h500⟩ := pp_0 h
 obtain ⟨hkd, hgM, hgK⟩ := prC_0 hp
 obtain ⟨hMm, hMg⟩ := gdC_0 hgM
 obtain ⟨hKm, hKg⟩ := gdC_0 hgK
 have l1 := latM hMm hMg.1
 have l2 := latM hKm hKg.1
 have d1 := dia_of (posP_of hMm hMg.1) hMg.2.2.2.2.1
 have d2 := dia_of (posP_of hKm hKg.1) hKg.2.2.2.2.1
 have c1 := chn_of (posP_of hMm hMg.1) hMg.2.2.1
 have c2 := chn_of (posP_of hKm hKg.1) hKg.2.2.1
 rw [fpR_len] at d1 d2 c1 c2
 have hk := pdN_rn (kind := kind) hMm hKm
 have m1 := hMm.1; have k1 := hKm.1
 have hrn : 2 ≤ rnP M.length K.length kind := by unfold rnP; split <;> omega
 have hl : (pdL M K kind).length ≤ 500 := by unfold pdR at h500; rwa [List.length_map] at h500
 exact ⟨prod_pos l1 l2 ⟨by omega, h5⟩ hl, prod_dia l1 l2 d1 d2 hkd hk (by omega) ⟨by omega, .inl (by omega)⟩, prod_flg l1 l2 c1 c2 hkd hk (by omega) ⟨by omega, .inl (by omega)⟩⟩
theorem mx_bd {n : Nat} {R : List Int} {B : List (List Int)} (hP : PosP n R B) (hD : DiaP n R B) : (mxM n R B).length ≤ 5 ∧ ∀ x ∈ mxM n R B, x.length ≤ 400 := by
 have hn := hP.n1
 unfold mxM
 split
 ·rename_i h
  have hf : (flgP n R B).length ≤ 400 := by
   unfold flgK at h
   split at h
   ·assumption
   exact absurd h (by decide)
  refine ⟨by rw [mn_len]; omega, fun x hx => ?_⟩
  obtain ⟨i, hi, rfl⟩ := (mn_mem (flg_NbP hP hD)).1 hx
  rw [mn_rl (flg_NbP hP hD) hi]; exact hf
 exact ⟨Nat.zero_le _, fun x hx => nomatch hx⟩
theorem po_bd5 (M K : List (List Int)) (kind : Int) : (poM M K kind).length ≤ 5 ∧ ∀ x ∈ poM M K kind, x.length ≤ 400 := by
 unfold poM
 split
 ·rename_i h
  have := pd_ok h
  exact mx_bd this.1 this.2.1
 exact ⟨Nat.zero_le _, fun x hx => nomatch hx⟩
/-! the program -/
theorem polytopeOf_bad (p : Int) (A D : Option Addr) (a cA d cD : Nat) (K : Int) (hK : K ≠ 0) (w : World) :
  Ret Tryz.prog 116 [.agg #[.int .i64 p, .slice A a cA, .slice D d cD], .int .i64 K] w (AnsX [] K w) := by
 refine Ret.of_cd Tryz.func116 O Tryz.ntmps116 O (postc2 O O) (Gbo O (Ops.box3T (St.refl w) O O ?_))
 intro A2 w1 hS1
 refine Ops.new1 hS1 O ?_
 intro A4 w2 hS2
 refine Gdc O (Cd.cond_pt O hK (Gao O (Ops.bld0 (by exact inferInstance) O (Gdo O (Ops.st_agg 1 0 hS2 O O O O O O O ?_)))))
 intro w3 hS3
 refine Gdr O (retc2_r O (hS3.rd 0 O) O ?_)
 exact AnsX.none hS3
theorem polytopeOfP_c (M K : List (List Int)) (kind : Int) (A D : Option Addr) (cA cD : Nat) (rs : List SlV) (w : World) (hT : Tab w) (hR : RdI w A (ppR M K kind).length (ppR M K kind)) (hB : RowsI w D (ppB M K kind).length rs (ppB M K kind)) :
  Ret Tryz.prog 116 [.agg #[.int .i64 (ppN M K kind), .slice A (ppR M K kind).length cA, .slice D (ppB M K kind).length cD], .int .i64 (ppC M K kind)] w (AnsX (poM M K kind) (poC M K kind) w) := by
 unfold poM poC
 by_cases h : ppC M K kind = 0
 ·rw [if_pos h, if_pos h]
  have hok := pd_ok h
  have e1 : ppN M K kind = (pdN M K kind : Nat) := by unfold ppN; rw [if_pos h]
  have e2 : ppR M K kind = pdR M K kind := by unfold ppR; rw [if_pos h]
  have e3 : ppB M K kind = pdB M K kind := by unfold ppB; rw [if_pos h]
  rw [e1, h]
  rw [e2] at hR ⊢
  rw [e3] at hB ⊢
  exact polytopeOf_c (pdN M K kind) A D cA cD _ rs _ w hT hR hB hok.1 hok.2.1 hok.2.2
 rw [if_neg h, if_neg h]
 exact polytopeOf_bad _ A D _ cA _ cD _ h w
/-! the reference -/
set_option maxHeartbeats 2000000 in
theorem l09Maniplex_c (X8 Z8 Y8 W8 : Option Addr) (cx cz cy cw : Nat) (a1 a2 a3 a4 : Nat) (n1 n2 kind : Int) (ok : Bool) (N : Int) (k : Nat) (R : List Int) (B : List (List Int)) (w : World) (hpx : ∀ w', Below w.heap.size w w' → Ret Tryz.prog 103 [.agg #[.int .i64 n1, .slice X8 a1 cx, .slice Y8 a2 cy], .agg #[.int .i64 n2, .slice Z8 a3 cz, .slice W8 a4 cw], .int .i64 kind] w' (AnsPb N R B ok w')) (hQ : ok = true → N = (k : Int) ∧ PosP k R B) :
  Ret Tryz.prog 112 [.agg #[.int .i64 n1, .slice X8 a1 cx, .slice Y8 a2 cy], .agg #[.int .i64 n2, .slice Z8 a3 cz, .slice W8 a4 cw], .int .i64 kind] w (AnsX (if ok = true then mxM k R B else []) (if ok = true then mxC k R B else 3) w) := by
 refine Ret.of_cd Tryz.func112 O Tryz.ntmps112 O (postc2 O O) (Gbo O (Ops.box3T (St.refl w) O O ?_))
 intro A3 w1 hS1
 refine Ops.box3T hS1 O O ?_
 intro A4 w2 hS2
 refine Ops.new1 hS2 O ?_
 intro A6 w3 hS3
 refine Gdo O (Ops.ld_agg 2 (hS3.rd 2 O) O O O (Ops.ld_agg 2 (hS3.rd 1 O) O O O (Gdo O (Ops.call (hpx _ hS3.below) O O O ?_))))
 rintro _ w4 ⟨AR, cR, AD, cD, rsD, rfl, hrD, hst⟩
 have hRR := hst.rdI 0 O
 have hBB : RowsI w4 AD B.length rsD B := St.rowsI hst.tail O
 have hS4 := hS3.later hst.below
 clear hst hS3 hS2 hS1
 refine Gdo O (Ops.newP (St.refl w4) O ?_)
 intro A8 w5 hU5
 refine Ops.st_agg 3 0 hU5 O O O O O O O ?_
 intro w6 hU6
 have hS6 := hS4.later hU6.below
 have hb8 := hU6.rd 0 O
 have hRR := hRR.later hU6.below
 have hBB := hBB.later hU6.below
 cases ok
 ·refine Gdo O ?_
  first | refine Ops.not_p rfl rfl ?_ | refine Ops.not rfl rfl ?_
  refine Gdc O (Cd.cond_t O (Gao O (Ops.bld0 (by exact inferInstance) O (Ops.st_agg 1 0 hS6 O O O O O O O ?_))))
  intro w7 hS7
  refine Gdr O (retc2_r O (hS7.rd 0 O) O ?_)
  exact AnsX.none hS7
 obtain ⟨rfl, hP⟩ := hQ rfl
 rw [if_pos rfl, if_pos rfl]
 have hn := hP.n1
 refine Gdo O ?_
 first | refine Ops.not_p rfl rfl ?_ | refine Ops.not rfl rfl ?_
 refine Gdc O (Cd.cond_f O (Gao O (Ops.ld_agg 2 hb8 O O O (Ops.call (l03Flags_c k AR AD cR cD R rsD B _ hRR hBB hP) O O O ?_))))
 rintro _ w7 ⟨AF, cF, rsF, rfl, hrF, hst⟩
 have hS7 := hS6.later hst.below
 have hb8 := Rd.below hb8 hst.below
 by_cases hf : (flgP k R B).length ≤ 400
 ·obtain ⟨e1, e2, e3⟩ := mx_few hf
  have e4 : mxC k R B = 0 := e1
  rw [cap_few (cap_few'.2 hf)] at hst hrF ⊢
  rw [e3, e4]
  have hF : RowsI w7 AF (flgP k R B).length rsF (flgP k R B) := hst.rowsI O
  refine Gdo O ?_
  first | refine Ops.not_p rfl rfl ?_ | refine Ops.not rfl rfl ?_
  refine Gdc O ?_
  refine Cd.cond_pf O (fun h => h hf) ?_
  refine Gao O (Ops.ld_agg 2 hb8 O O O (Gdo O ?_))
  refine Ops.call (l03Maniplex_c k AR AD AF _ cR _ cD _ cF rsF _ _ hF (fun x hx => (flg_el hP x hx).1) (flgP_SL k R B).nodup hf (by omega)) O O O ?_
  rintro _ w8 ⟨Am, cm, rsm, rfl, hrm, hst8⟩
  have hml := mn_len k (flgP k R B)
  have hS8 := hS7.call2 hst8
  refine Ops.st_agg 1 0 hS8 O O O O O O O ?_
  intro w9 hS9
  refine Gdr O (retc2_r O (hS9.rd 0 O) O ?_)
  refine ⟨Am, cm, rsm, by rw [hml]; rfl, by rw [hml]; exact hrm, ?_⟩
  rw [hml]
  have h9 := hS9.sub (show List.Sublist _ (_ :: _ :: _ :: _) from ((List.Sublist.refl _).cons _ |>.cons _ |>.cons _))
  rwa [List.append_nil] at h9
 obtain ⟨e1, e3⟩ := mx_many hf
 have e4 : mxC k R B = 3 := e1
 rw [e3, e4]
 refine Gdo O ?_
 first | refine Ops.not_p rfl rfl ?_ | refine Ops.not rfl rfl ?_
 refine Gdc O (Cd.cond_pt O hf (Gao O (Ops.bld0 (by exact inferInstance) O (Ops.st_agg 1 0 hS7 O O O O O O O ?_))))
 intro w8 hS8
 refine Gdr O (retc2_r O (hS8.rd 0 O) O ?_)
 exact AnsX.none hS8
end Go.Proofs.YtopgfgdgfjddpaaGreatDoor.Vc
/-
 Plain mathematics: the maniplex of a polytope's flags is polytopal.
-/
namespace Go.Proofs.YtopgfgdgfjddpaaGreatDoor.Vc
section
variable {n : Nat} {R : List Int} {B : List (List Int)}
theorem Ply.len (h : Ply n R B) : (mnP n (flgP n R B)).length = n := mn_len n _
theorem Ply.feq (h : Ply n R B) {i : Nat} (hi : i < n) {a b : Nat} (ha : a < (flgP n R B).length) (hb : b < (flgP n R B).length) : fpE (mnP n (flgP n R B)) i a = fpE (mnP n (flgP n R B)) i b ↔ gi (gl (flgP n R B) (a : Int)) (i : Int) = gi (gl (flgP n R B) (b : Int)) (i : Int) := by
 rw [← h.lbl hi ha hb]
 unfold fpE
 omega
theorem Ply.fin (h : Ply n R B) {i : Nat} (hi : i < n) {a : Nat} (ha : a < (flgP n R B).length) : (0 ≤ fpE (mnP n (flgP n R B)) i a ∧ fpE (mnP n (flgP n R B)) i a < ((fpR (mnP n (flgP n R B)) n).length : Int)) ∧ gi (fpR (mnP n (flgP n R B)) n) (fpE (mnP n (flgP n R B)) i a) = i := by
 have h1 := fpE_in h.mani (i := i) (f := a) (by rw [h.nl]; exact ha)
 have h2 := offP_mono (mnP n (flgP n R B)) (show i + 1 ≤ n by omega)
 rw [fpR_len]
 exact ⟨⟨by omega, by omega⟩, fpR_at hi h1.1 h1.2⟩
theorem Ply.fsur (h : Ply n R B) {e : Int} (h0 : 0 ≤ e) (h1 : e < ((fpR (mnP n (flgP n R B)) n).length : Int)) : ∃ i : Nat, i < n ∧ ∃ a : Nat, a < (flgP n R B).length ∧ e = fpE (mnP n (flgP n R B)) i a := by
 rw [fpR_len] at h1
 obtain ⟨i, hi, h2, h3⟩ := fpR_rk h0 h1
 have h3 : e < ((offP (mnP n (flgP n R B)) i + (facesN (mnP n (flgP n R B)) i).toNat : Nat) : Int) := h3
 obtain ⟨a, ha, e1⟩ := faces_hit h.mani i (e - (offP (mnP n (flgP n R B)) i : Int)) (by omega) (by omega)
 rw [h.nl] at ha
 refine ⟨i, hi, a, ha, ?_⟩
 unfold fpE
 rw [e1]; omega
theorem Ply.spl (h : Ply n R B) {i : Nat} (hi : i + 1 < n) {a b : Nat} (ha : a < (flgP n R B).length) (hb : b < (flgP n R B).length) (hm : gi (gl (flgP n R B) (a : Int)) (i : Int) ∈ gl B (gi (gl (flgP n R B) (b : Int)) ((i + 1 : Nat) : Int))) :
  ∃ c : Nat, c < (flgP n R B).length ∧ ∀ k : Nat, k < n → gi (gl (flgP n R B) (c : Int)) (k : Int) = if k ≤ i then gi (gl (flgP n R B) (a : Int)) (k : Int) else gi (gl (flgP n R B) (b : Int)) (k : Int) := by
 have fa := flg_at h.n1 ha
 have fb := flg_at h.n1 hb
 obtain ⟨x, hx⟩ : ∃ x : List Int, x = (List.range n).map fun k => if k ≤ i then gi (gl (flgP n R B) (a : Int)) (k : Int) else gi (gl (flgP n R B) (b : Int)) (k : Int) := ⟨_, rfl⟩
 have hxi : ∀ k : Nat, k < n → gi x (k : Int) = if k ≤ i then gi (gl (flgP n R B) (a : Int)) (k : Int) else gi (gl (flgP n R B) (b : Int)) (k : Int) := fun k hk => by
  rw [hx, gi_mem (by simpa using hk), List.getElem_map, List.getElem_range]
 have hxm : x ∈ flgP n R B := by
  refine (flgP_mem h.n1).2 ⟨by rw [hx]; simp, fun k hk => ?_, fun k hk => ?_⟩
  ·rw [hxi k hk]
   split
   ·exact fa.2.1 k hk
   exact fb.2.1 k hk
  rw [hxi k (by omega), hxi (k + 1) hk]
  by_cases c1 : k + 1 ≤ i
  ·rw [if_pos (show k ≤ i by omega), if_pos c1]; exact fa.2.2 k hk
  rw [if_neg c1]
  by_cases c2 : k ≤ i
  ·rw [if_pos c2]
   obtain rfl : k = i := by omega
   exact hm
  rw [if_neg c2]; exact fb.2.2 k hk
 obtain ⟨c, hc, e⟩ := List.mem_iff_getElem.1 hxm
 refine ⟨c, hc, fun k hk => ?_⟩
 rw [gl_mem hc, e]; exact hxi k hk
theorem Ply.inc (h : Ply n R B) {i : Nat} (hi : i + 1 < n) {a b : Nat} (ha : a < (flgP n R B).length) (hb : b < (flgP n R B).length) : fpE (mnP n (flgP n R B)) i a ∈ gl (fpB (mnP n (flgP n R B))) (fpE (mnP n (flgP n R B)) (i + 1) b) ↔ gi (gl (flgP n R B) (a : Int)) (i : Int) ∈ gl B (gi (gl (flgP n R B) (b : Int)) ((i + 1 : Nat) : Int)) := by
 have g1 := h.fin (show i < n by omega) ha
 have g2 := h.fin hi hb
 have hl := h.len
 rw [fpR_len] at g1 g2
 rw [fpB_at g2.1.1 (by rw [hl]; exact g2.1.2), hl]
 constructor
 ·rintro ⟨_, f, hf, j, hj, k, hk, e1, e2⟩
  rw [h.nl] at hf
  rw [hl] at hj
  have r1 := (h.fin hj hf).2
  have r2 := (h.fin (show k < n by omega) hf).2
  rw [← e1, g2.2] at r1
  rw [← e2, g1.2] at r2
  obtain rfl : j = i + 1 := by omega
  obtain rfl : k = i := by omega
  have q1 := (h.feq hi hb hf).1 e1
  have q2 := (h.feq (show k < n by omega) ha hf).1 e2
  rw [q1, q2]
  exact (flg_at h.n1 hf).2.2 k hi
 intro hm
 obtain ⟨c, hc, hk⟩ := h.spl hi ha hb hm
 have q1 := hk i (by omega)
 have q2 := hk (i + 1) hi
 rw [if_pos (Nat.le_refl _)] at q1
 rw [if_neg (by omega)] at q2
 exact ⟨g1.1, c, by rw [h.nl]; exact hc, i + 1, by rw [hl]; exact hi, i, by omega, (h.feq hi hb hc).2 q2.symm, (h.feq (show i < n by omega) ha hc).2 q1.symm⟩
theorem Ply.inc2 (h : Ply n R B) {i : Nat} (hi : i + 2 < n) {a b : Nat} (ha : a < (flgP n R B).length) (hb : b < (flgP n R B).length) (hm : fpE (mnP n (flgP n R B)) i a ∈ gl (fpB (mnP n (flgP n R B))) (fpE (mnP n (flgP n R B)) (i + 2) b)) : gi (gl (flgP n R B) (a : Int)) (i : Int) ∈ gl B (gi (gl (flgP n R B) (b : Int)) ((i + 2 : Nat) : Int)) := by
 have g1 := h.fin (show i < n by omega) ha
 have g2 := h.fin hi hb
 have hl := h.len
 rw [fpR_len] at g1 g2
 rw [fpB_at g2.1.1 (by rw [hl]; exact g2.1.2), hl] at hm
 obtain ⟨_, f, hf, j, hj, k, hk, e1, e2⟩ := hm
 rw [h.nl] at hf
 rw [hl] at hj
 have r1 := (h.fin hj hf).2
 have r2 := (h.fin (show k < n by omega) hf).2
 rw [← e1, g2.2] at r1
 rw [← e2, g1.2] at r2
 obtain rfl : j = i + 2 := by omega
 obtain rfl : k = i := by omega
 have q1 := (h.feq hi hb hf).1 e1
 have q2 := (h.feq (show k < n by omega) ha hf).1 e2
 rw [q1, q2]
 have f1 := (flg_at h.n1 hf).2.2 k (by omega)
 have f2 := (flg_at h.n1 hf).2.2 (k + 1) hi
 have f3 := ((flg_at h.n1 hf).2.1 (k + 2) hi).1
 exact (h.pos.at_ (e := gi (gl (flgP n R B) (f : Int)) ((k + 2 : Nat) : Int)) f3.1 f3.2).2.2 _ f2 _ f1
def flY (n : Nat) (M : List (List Int)) (a : Nat) : List Int := (List.range n).map fun i => fpE M i a
theorem flY_at {M : List (List Int)} {a i : Nat} (hi : i < n) : gi (flY n M a) (i : Int) = fpE M i a := by
 unfold flY
 rw [gi_mem (by simpa using hi), List.getElem_map, List.getElem_range]
theorem Ply.fmem (h : Ply n R B) {y : List Int} : y ∈ flgP n (fpR (mnP n (flgP n R B)) n) (fpB (mnP n (flgP n R B))) ↔ ∃ a : Nat, a < (flgP n R B).length ∧ y = flY n (mnP n (flgP n R B)) a := by
 rw [flgP_mem h.n1]
 constructor
 ·rintro ⟨hl, hr, hc⟩
  have hex : ∀ i : Nat, ∃ a : Nat, i < n → a < (flgP n R B).length ∧ gi y (i : Int) = fpE (mnP n (flgP n R B)) i a := fun i => by
   by_cases hi : i < n
   ·have h1 := hr i hi
    obtain ⟨j, hj, a, ha, e⟩ := h.fsur h1.1.1 h1.1.2
    have r := (h.fin hj ha).2
    rw [← e, h1.2] at r
    obtain rfl : i = j := by omega
    exact ⟨a, fun _ => ⟨ha, e⟩⟩
   exact ⟨0, fun h => absurd h hi⟩
  obtain ⟨A, hA⟩ := Classical.axiomOfChoice hex
  have hA : ∀ i : Nat, i < n → A i < (flgP n R B).length ∧ gi y (i : Int) = fpE (mnP n (flgP n R B)) i (A i) := hA
  obtain ⟨x, hx⟩ : ∃ x : List Int, x = (List.range n).map fun i => gi (gl (flgP n R B) (A i : Int)) (i : Int) := ⟨_, rfl⟩
  have hxi : ∀ i : Nat, i < n → gi x (i : Int) = gi (gl (flgP n R B) (A i : Int)) (i : Int) := fun i hi => by
   rw [hx, gi_mem (by simpa using hi), List.getElem_map, List.getElem_range]
  have hxm : x ∈ flgP n R B := by
   refine (flgP_mem h.n1).2 ⟨by rw [hx]; simp, fun i hi => ?_, fun i hi => ?_⟩
   ·rw [hxi i hi]; exact h.at_ (hA i hi).1 hi
   rw [hxi i (by omega), hxi (i + 1) hi]
   have q := hc i hi
   rw [(hA i (by omega)).2, (hA (i + 1) hi).2] at q
   exact (h.inc hi (hA i (by omega)).1 (hA (i + 1) hi).1).1 q
  obtain ⟨c, hc2, e⟩ := List.mem_iff_getElem.1 hxm
  refine ⟨c, hc2, list_gi (n := n) hl (by simp [flY]) fun i hi => ?_⟩
  rw [flY_at hi, (hA i hi).2]
  refine (h.feq hi (hA i hi).1 hc2).2 ?_
  rw [gl_mem hc2, e]; exact (hxi i hi).symm
 rintro ⟨a, ha, rfl⟩
 refine ⟨by simp [flY], fun i hi => ?_, fun i hi => ?_⟩
 ·rw [flY_at hi]; exact h.fin hi ha
 rw [flY_at (show i < n by omega), flY_at hi]
 exact (h.inc hi ha ha).2 ((flg_at h.n1 ha).2.2 i hi)
theorem Ply.finj (h : Ply n R B) {a b : Nat} (ha : a < (flgP n R B).length) (hb : b < (flgP n R B).length) (e : flY n (mnP n (flgP n R B)) a = flY n (mnP n (flgP n R B)) b) : a = b :=
 flg_inj ha hb (list_gi (n := n) (flg_at h.n1 ha).1 (flg_at h.n1 hb).1 fun i hi => by
  have := congrArg (fun y => gi y (i : Int)) e
  simp only [flY_at hi] at this
  exact (h.feq hi ha hb).1 this)
theorem Ply.flen (h : Ply n R B) : (flgP n (fpR (mnP n (flgP n R B)) n) (fpB (mnP n (flgP n R B)))).length = (flgP n R B).length := by
 have hp : ((List.range (flgP n R B).length).map (flY n (mnP n (flgP n R B)))).Perm (flgP n (fpR (mnP n (flgP n R B)) n) (fpB (mnP n (flgP n R B)))) := by
  refine (List.perm_ext_iff_of_nodup ?_ (flgP_SL _ _ _).nodup).2 fun y => ?_
  ·exact List.pairwise_map.2 ((List.nodup_range (n := (flgP n R B).length)).imp_of_mem fun {a b} ha hb hne e => hne (h.finj (List.mem_range.1 ha) (List.mem_range.1 hb) e))
  rw [h.fmem, List.mem_map]
  constructor
  ·rintro ⟨a, ha, rfl⟩; exact ⟨a, List.mem_range.1 ha, rfl⟩
  rintro ⟨a, ha, rfl⟩; exact ⟨a, List.mem_range.2 ha, rfl⟩
 have := hp.length_eq
 rw [List.length_map, List.length_range] at this
 exact this.symm
theorem Ply.fidx (h : Ply n R B) {p : Nat} (hp : p < (flgP n R B).length) : ∃ a : Nat, a < (flgP n R B).length ∧ gl (flgP n (fpR (mnP n (flgP n R B)) n) (fpB (mnP n (flgP n R B)))) (p : Int) = flY n (mnP n (flgP n R B)) a := by
 have hl := h.flen
 refine h.fmem.1 ?_
 rw [gl_mem (by omega)]
 exact List.getElem_mem _
theorem Ply.fget (h : Ply n R B) {a : Nat} (ha : a < (flgP n R B).length) : ∃ p : Nat, p < (flgP n R B).length ∧ gl (flgP n (fpR (mnP n (flgP n R B)) n) (fpB (mnP n (flgP n R B)))) (p : Int) = flY n (mnP n (flgP n R B)) a := by
 have hl := h.flen
 obtain ⟨p, hp, e⟩ := List.mem_iff_getElem.1 (h.fmem.2 ⟨a, ha, rfl⟩)
 exact ⟨p, by omega, by rw [gl_mem hp]; exact e⟩
theorem Ply.fcon (h : Ply n R B) : ConP n (flgP n (fpR (mnP n (flgP n R B)) n) (fpB (mnP n (flgP n R B)))) := by
  have hl := h.flen
  have key : ∀ {S : Nat → Prop} {a c : Nat}, LnkP n (flgP n R B) S a c → ∀ {S' : Nat → Prop}, (∀ k, k < n → (S' k → S k)) → ∀ p : Nat, p < (flgP n R B).length → gl (flgP n (fpR (mnP n (flgP n R B)) n) (fpB (mnP n (flgP n R B)))) (p : Int) = flY n (mnP n (flgP n R B)) a →
      ∃ q : Nat, q < (flgP n R B).length ∧ gl (flgP n (fpR (mnP n (flgP n R B)) n) (fpB (mnP n (flgP n R B)))) (q : Int) = flY n (mnP n (flgP n R B)) c ∧ LnkP n (flgP n (fpR (mnP n (flgP n R B)) n) (fpB (mnP n (flgP n R B)))) S' p q := by
    intro S a c hL S' hS p hp e
    induction hL with
    | refl ha => exact ⟨p, hp, e, .refl (by omega)⟩
    | step hl2 hi hs hA ih =>
      rename_i b c i
      obtain ⟨q, hq, e1, l1⟩ := ih
      obtain ⟨r, hr, e2⟩ := h.fget hA.2.1
      refine ⟨r, hr, e2, .step l1 hi (fun hx => hs (hS i hi hx)) ⟨by omega, by omega, fun k hk hne => ?_⟩⟩
      rw [e1, e2, flY_at hk, flY_at hk]
      exact (h.feq hk hA.1 hA.2.1).2 (hA.2.2 k hk hne)
  intro p q hpq hq
  rw [hl] at hq
  obtain ⟨a, ha, ea⟩ := h.fidx (show p < (flgP n R B).length by omega)
  obtain ⟨b, hb, eb⟩ := h.fidx hq
  have hlk : LnkP n (flgP n R B) (fun k => gi (gl (flgP n R B) (a : Int)) (k : Int) = gi (gl (flgP n R B) (b : Int)) (k : Int)) a b := by
    rcases Nat.lt_trichotomy a b with hab | hab | hab
    · exact h.ply.2.2.2 a b hab hb
    · subst hab; exact .refl ha
    · have := (h.ply.2.2.2 b a hab ha).symm
      have e : (fun k : Nat => gi (gl (flgP n R B) (b : Int)) (k : Int) = gi (gl (flgP n R B) (a : Int)) (k : Int)) = fun k : Nat => gi (gl (flgP n R B) (a : Int)) (k : Int) = gi (gl (flgP n R B) (b : Int)) (k : Int) := funext fun k => propext ⟨Eq.symm, Eq.symm⟩
      rwa [e] at this
  obtain ⟨r, hr, er, lr⟩ := key hlk (S' := fun k => gi (gl (flgP n (fpR (mnP n (flgP n R B)) n) (fpB (mnP n (flgP n R B)))) (p : Int)) (k : Int) = gi (gl (flgP n (fpR (mnP n (flgP n R B)) n) (fpB (mnP n (flgP n R B)))) (q : Int)) (k : Int)) (fun k hk e => by
    rw [ea, eb, flY_at hk, flY_at hk] at e
    exact (h.feq hk ha hb).1 e) p (by omega) ea
  obtain rfl : r = q := flg_inj (by omega) (by omega) (er.trans eb.symm)
  exact lr
theorem Ply.fdia (h : Ply n R B) : DiaP n (fpR (mnP n (flgP n R B)) n) (fpB (mnP n (flgP n R B))) := by
 intro i e f hi0 hi1 he hf hef
 obtain ⟨j, rfl⟩ : ∃ j : Nat, i = j := ⟨i.toNat, by omega⟩
 have hj : j < n := by omega
 have hlo : ∃ e0 : Int, LoP R (j : Int) e0 ∧ (e < 0 ↔ e0 < 0) ∧ (0 ≤ e → 1 ≤ j ∧ ∃ a : Nat, a < (flgP n R B).length ∧ e = fpE (mnP n (flgP n R B)) (j - 1) a ∧ e0 = gi (gl (flgP n R B) (a : Int)) ((j - 1 : Nat) : Int)) := by
  rcases he with ⟨q1, q2⟩ | ⟨q1, q2, q3⟩
  ·exact ⟨-1, .inl ⟨O, q2⟩, by omega, fun _ => by omega⟩
  obtain ⟨k, hk, a, ha, ea⟩ := h.fsur q1.1 q1.2
  have r := (h.fin hk ha).2
  rw [← ea, q3] at r
  obtain rfl : k = j - 1 := by omega
  have g := h.at_ ha hk
  exact ⟨_, .inr ⟨g.1, q2, by rw [g.2]; omega⟩, by omega, fun _ => ⟨by omega, a, ha, ea, O⟩⟩
 have hhi : ∃ f0 : Int, HiP n R (j : Int) f0 ∧ (f < 0 ↔ f0 < 0) ∧ (0 ≤ f → j + 1 < n ∧ ∃ b : Nat, b < (flgP n R B).length ∧ f = fpE (mnP n (flgP n R B)) (j + 1) b ∧ f0 = gi (gl (flgP n R B) (b : Int)) ((j + 1 : Nat) : Int)) := by
  rcases hf with ⟨q1, q2⟩ | ⟨q1, q2, q3⟩
  ·exact ⟨-1, .inl ⟨O, q2⟩, by omega, fun _ => by omega⟩
  obtain ⟨k, hk, b, hb, eb⟩ := h.fsur q1.1 q1.2
  have r := (h.fin hk hb).2
  rw [← eb, q3] at r
  obtain rfl : k = j + 1 := by omega
  have g := h.at_ hb hk
  exact ⟨_, .inr ⟨g.1, q2, by rw [g.2]; omega⟩, by omega, fun _ => ⟨by omega, b, hb, eb, O⟩⟩
 obtain ⟨e0, hL, he0, hea⟩ := hlo
 obtain ⟨f0, hH, hf0, hfb⟩ := hhi
 have hm := h.ply.2.2.1 (j : Int) e0 f0 hi0 hi1 hL hH (fun k1 k2 => by
  obtain ⟨j1, a, ha, ea, ea0⟩ := hea (by omega)
  obtain ⟨j2, b, hb, eb, eb0⟩ := hfb (by omega)
  have := hef (by omega) (by omega)
  obtain ⟨i, rfl⟩ : ∃ i, j = i + 1 := ⟨j - 1, by omega⟩
  rw [ea, eb] at this
  rw [ea0, eb0]
  have e1 : i + 1 - 1 = i := by omega
  rw [e1] at this ⊢
  exact h.inc2 (by omega) ha hb this)
 have hex : ∀ d0 : Int, ∃ c : Nat, d0 ∈ MidP R B (j : Int) e0 f0 → c < (flgP n R B).length ∧ gi (gl (flgP n R B) (c : Int)) (j : Int) = d0 := fun d0 => by
  by_cases hd : d0 ∈ MidP R B (j : Int) e0 f0
  ·have hd1 := MidP_mem.1 hd
   obtain ⟨c, hc, ec⟩ := h.thr hd1.1.1 hd1.1.2
   rw [hd1.2.1] at ec
   exact ⟨c, fun _ => ⟨hc, ec⟩⟩
  exact ⟨0, fun h => absurd h hd⟩
 obtain ⟨g, hg⟩ := Classical.axiomOfChoice hex
 have hg : ∀ d0 : Int, d0 ∈ MidP R B (j : Int) e0 f0 → g d0 < (flgP n R B).length ∧ gi (gl (flgP n R B) (g d0 : Int)) (j : Int) = d0 := hg
 have hbelow : ∀ c : Nat, c < (flgP n R B).length → ((e < 0 ∨ e ∈ gl (fpB (mnP n (flgP n R B))) (fpE (mnP n (flgP n R B)) j c)) ↔ (e0 < 0 ∨ e0 ∈ gl B (gi (gl (flgP n R B) (c : Int)) (j : Int)))) := fun c hc => by
  by_cases c1 : e < 0
  ·exact ⟨fun _ => .inl (he0.1 c1), fun _ => .inl c1⟩
  obtain ⟨j1, a, ha, ea, ea0⟩ := hea (by omega)
  obtain ⟨i, rfl⟩ : ∃ i, j = i + 1 := ⟨j - 1, by omega⟩
  have e1 : i + 1 - 1 = i := by omega
  rw [e1] at ea ea0
  have := h.inc hj ha hc
  constructor
  ·rintro (q | q)
   ·exact absurd q c1
   rw [ea] at q; exact .inr (by rw [ea0]; exact this.1 q)
  rintro (q | q)
  ·exact absurd (he0.2 q) c1
  rw [ea0] at q; exact .inr (by rw [ea]; exact this.2 q)
 have habove : ∀ c : Nat, c < (flgP n R B).length → ((f < 0 ∨ fpE (mnP n (flgP n R B)) j c ∈ gl (fpB (mnP n (flgP n R B))) f) ↔ (f0 < 0 ∨ gi (gl (flgP n R B) (c : Int)) (j : Int) ∈ gl B f0)) := fun c hc => by
  by_cases c1 : f < 0
  ·exact ⟨fun _ => .inl (hf0.1 c1), fun _ => .inl c1⟩
  obtain ⟨j2, b, hb, eb, eb0⟩ := hfb (by omega)
  have := h.inc j2 hc hb
  constructor
  ·rintro (q | q)
   ·exact absurd q c1
   rw [eb] at q; exact .inr (by rw [eb0]; exact this.1 q)
  rintro (q | q)
  ·exact absurd (hf0.2 q) c1
  rw [eb0] at q; exact .inr (by rw [eb]; exact this.2 q)
 have hp : ((MidP R B (j : Int) e0 f0).map fun d0 => fpE (mnP n (flgP n R B)) j (g d0)).Perm (MidP (fpR (mnP n (flgP n R B)) n) (fpB (mnP n (flgP n R B))) (j : Int) e f) := by
  refine (List.perm_ext_iff_of_nodup ?_ (MidP_nodup _ _ _ _ _)).2 fun d => ?_
  ·refine List.pairwise_map.2 ((MidP_nodup R B (j : Int) e0 f0).imp_of_mem fun {d1 d2} h1 h2 hne q => hne ?_)
   have a1 := hg d1 h1
   have a2 := hg d2 h2
   rw [← a1.2, ← a2.2]
   exact (h.feq hj a1.1 a2.1).1 q
  rw [List.mem_map, MidP_mem]
  constructor
  ·rintro ⟨d0, hd0, rfl⟩
   have a1 := hg d0 hd0
   have a2 := MidP_mem.1 hd0
   have a3 := h.fin hj a1.1
   rw [← a1.2] at a2
   exact ⟨a3.1, a3.2, (hbelow _ a1.1).2 a2.2.2.1, (habove _ a1.1).2 a2.2.2.2⟩
  rintro ⟨q1, q2, q3, q4⟩
  obtain ⟨k, hk, c, hc, ec⟩ := h.fsur q1.1 q1.2
  have r := (h.fin hk hc).2
  rw [← ec, q2] at r
  obtain rfl : k = j := by omega
  have g1 := h.at_ hc hk
  rw [ec] at q3 q4
  have hd0 : gi (gl (flgP n R B) (c : Int)) (k : Int) ∈ MidP R B (k : Int) e0 f0 := MidP_mem.2 ⟨g1.1, g1.2, (hbelow _ hc).1 q3, (habove _ hc).1 q4⟩
  refine ⟨_, hd0, ?_⟩
  have a1 := hg _ hd0
  rw [ec]
  exact (h.feq hk a1.1 hc).2 a1.2
 have := hp.length_eq
 rw [List.length_map, hm] at this
 exact this.symm
theorem Ply.good (h : Ply n R B) : GoodP (mnP n (flgP n R B)) := by
 have hl := h.len
 have hb := h.pos.big
 have hpos : 0 < (flgP n R B).length := List.length_pos_iff.2 h.ply.1
 refine ⟨by rw [hl, h.offAll]; exact hb, ?_, ?_⟩
 ·unfold flM
  rw [hl, h.flen, h.nl]
 rw [hl]
 refine ⟨fun e => ?_, fun e h0 h1 => ?_, h.fdia, h.fcon⟩
 ·have := h.flen
  rw [e] at this
  simp at this
  omega
 obtain ⟨i, hi, a, ha, ea⟩ := h.fsur h0 h1
 refine ⟨_, h.fmem.2 ⟨a, ha, O⟩, ?_⟩
 rw [ea]
 unfold flY
 exact List.mem_map.2 ⟨i, List.mem_range.2 hi, O⟩
theorem Ply.gd (h : Ply n R B) : gdC (mnP n (flgP n R B)) = 0 := gdC_good h.mani h.good
end
/-
 Plain mathematics: the product of two good maniplexes is good.
-/
theorem good_fac {M : List (List Int)} (h : gdC M = 0) : BtwL (offP M M.length + 2) (rkM M) (unM M) ∧ SecC (elL (offP M M.length + 2) (rkM M)) (unM M) ∧ ∃ U, EnZ (elL (offP M M.length + 2) (rkM M)) (unM M) U ∧ cU U M.length 0 = (gl M 0).length := by
 obtain ⟨hM, hG⟩ := gdC_0 h
 have hP := posP_of hM hG.1
 have hb := fp_btw hM
 have rp := repF hP hb
 have hs := secF hP hb hG.2.2.2.2.2
 obtain ⟨U, hU⟩ := rp.en fun e h0 h1 => by have := (hP.ri h0 h1).2; omega
 have hl := lat_of hP
 have hf := rp.flags hU (o := 0) ⟨⟨by omega, by omega⟩, by rw [hl.r0]; rfl⟩ fun i a _ => hl.bot a
 have e : (flM M).length = (gl M 0).length := hG.2.1
 unfold flM at e
 rw [e] at hf
 rw [fpR_len] at hb hs hU
 exact ⟨hb, hs, U, hU, hf.symm⟩
def fcZ (M K : List (List Int)) (kind : Int) : Nat := (gl M 0).length * (gl K 0).length * (if kind = 0 then bnZ (M.length + 1) (K.length + 1) else bnZ M.length K.length)
theorem po_ply {M K : List (List Int)} {kind : Int} (h : ppC M K kind = 0) : PlyP (pdN M K kind) (pdR M K kind) (pdB M K kind) ∧ (flgP (pdN M K kind) (pdR M K kind) (pdB M K kind)).length = fcZ M K kind := by
 obtain ⟨hp, h5, h500⟩ := pp_0 h
 obtain ⟨hkd, hgM, hgK⟩ := prC_0 hp
 obtain ⟨hMm, hMg⟩ := gdC_0 hgM
 obtain ⟨hKm, hKg⟩ := gdC_0 hgK
 have l1 := latM hMm hMg.1
 have l2 := latM hKm hKg.1
 have d1 := dia_of (posP_of hMm hMg.1) hMg.2.2.2.2.1
 have d2 := dia_of (posP_of hKm hKg.1) hKg.2.2.2.2.1
 have c1 := chn_of (posP_of hMm hMg.1) hMg.2.2.1
 have c2 := chn_of (posP_of hKm hKg.1) hKg.2.2.1
 rw [fpR_len] at d1 d2 c1 c2
 have hk := pdN_rn (kind := kind) hMm hKm
 have m1 := hMm.1; have k1 := hKm.1
 have hrn : 2 ≤ rnP M.length K.length kind := by unfold rnP; split <;> omega
 obtain ⟨b1, s1, U1, e1, f1⟩ := good_fac hgM
 obtain ⟨b2, s2, U2, e2, f2⟩ := good_fac hgK
 refine ⟨prod_ply l1 l2 b1 b2 s1 s2 d1 d2 c1 c2 hkd hk (by omega) ⟨by omega, .inl (by omega)⟩, ?_⟩
 have := prod_cnt l1 l2 b1 b2 e1 e2 hkd hk (by omega)
 rw [f1, f2] at this
 exact this
theorem po_Ply {M K : List (List Int)} {kind : Int} (h : ppC M K kind = 0) (hf : fcZ M K kind ≤ 400) : Ply (pdN M K kind) (pdR M K kind) (pdB M K kind) := by
 have hq := po_ply h
 exact ⟨(pd_ok h).1, hq.1, (pp_0 h).2.1, by rw [hq.2]; exact hf⟩
theorem po_good {M K : List (List Int)} {kind : Int} (h : ppC M K kind = 0) (hf : fcZ M K kind ≤ 400) : gdC (poM M K kind) = 0 ∧ (poM M K kind).length = pdN M K kind ∧ (gl (poM M K kind) 0).length = fcZ M K kind ∧ offP (poM M K kind) (poM M K kind).length = (pdR M K kind).length := by
 have hY := po_Ply h hf
 have hq := po_ply h
 have e : poM M K kind = mnP (pdN M K kind) (flgP (pdN M K kind) (pdR M K kind) (pdB M K kind)) := by
  unfold poM; rw [if_pos h]; exact (mx_few (by rw [hq.2]; exact hf)).2.2
 rw [e]
 refine ⟨hY.gd, hY.len, by rw [hY.nl, hq.2], by rw [hY.len, hY.offAll]⟩
theorem pdR_le (M K : List (List Int)) (kind : Int) : (pdR M K kind).length ≤ (offP M M.length + 2) * (offP K K.length + 2) := by
 unfold pdR
 rw [List.length_map]
 unfold pdL
 obtain ⟨m1, e1⟩ : ∃ m1, m1 = offP M M.length + 2 := ⟨_, rfl⟩
 obtain ⟨m2, e2⟩ : ∃ m2, m2 = offP K K.length + 2 := ⟨_, rfl⟩
 rw [← e1, ← e2]
 have hm : ∀ c ∈ prL m1 m2 (rkM M) (rkM K) kind (pdN M K kind), (0 ≤ c.1 ∧ c.1 < (m1 : Int)) ∧ (0 ≤ c.2 ∧ c.2 < (m2 : Int)) := fun c hc => by
  obtain ⟨i, _, h1, h2, _⟩ := prL_mem.1 hc
  exact ⟨h1, h2⟩
 have hn := prL_nodup (m1 := m1) (m2 := m2) (rk1 := rkM M) (rk2 := rkM K) (kind := kind) (pdN M K kind)
 generalize prL m1 m2 (rkM M) (rkM K) kind (pdN M K kind) = L at hm hn
 have h1 : (L.map fun c => c.1 * (m2 : Int) + c.2).Nodup := map_nodup hn fun x hx y hy e => by
  have hx := hm x hx; have hy := hm y hy
  have e : x.1 * (m2 : Int) + x.2 = y.1 * (m2 : Int) + y.2 := e
  have e3 : x.1 = y.1 := by
   have a : (x.1 * (m2 : Int) + x.2) / (m2 : Int) = (y.1 * (m2 : Int) + y.2) / (m2 : Int) := by rw [e]
   rwa [Int.add_comm, Int.add_mul_ediv_right _ _ (by omega), Int.add_comm (y.1 * _), Int.add_mul_ediv_right _ _ (by omega), Int.ediv_eq_zero_of_lt hx.2.1 hx.2.2, Int.ediv_eq_zero_of_lt hy.2.1 hy.2.2, Int.zero_add, Int.zero_add] at a
  rw [e3] at e
  exact Prod.ext e3 (by omega)
 have := nodup_le_int (N := m1 * m2) h1 fun v hv => by
  obtain ⟨c, hc, rfl⟩ := List.mem_map.1 hv
  have hc := hm c hc
  have h3 : 0 ≤ c.1 * (m2 : Int) := Int.mul_nonneg hc.1.1 (by omega)
  have h4 : c.1 * (m2 : Int) ≤ ((m1 : Int) - 1) * (m2 : Int) := Int.mul_le_mul_of_nonneg_right (by omega) (by omega)
  rw [Int.sub_mul, Int.one_mul] at h4
  have h5 : ((m1 * m2 : Nat) : Int) = (m1 : Int) * (m2 : Int) := Int.natCast_mul m1 m2
  exact ⟨by omega, by omega⟩
 rwa [List.length_map] at this
end Go.Proofs.YtopgfgdgfjddpaaGreatDoor.Vc
/-
 The maniplex of a product, walked in the reference.
-/
namespace Go.Proofs.YtopgfgdgfjddpaaGreatDoor.Vc
open Go.RowKit
theorem ppPoset_c {M K : List (List Int)} {kind : Int} (h1 : prC M K kind = 0) : ∃ ok : Bool, (ok = true ↔ ppC M K kind = 0) ∧ (ok = false → ppC M K kind = 3) ∧
  ∀ X Z Y W cx cz cy cw ys1 ys2 w', FaR w' X (fcR M.length (fpR M M.length)) (offP M M.length) Y ys1 (fpB M) → FaR w' Z (fcR K.length (fpR K K.length)) (offP K K.length) W ys2 (fpB K) → Ret Tryz.prog 103 [.agg #[.int .i64 (M.length : Int), .slice X (offP M M.length + 2) cx, .slice Y (offP M M.length + 2) cy], .agg #[.int .i64 (K.length : Int), .slice Z (offP K K.length + 2) cz, .slice W (offP K K.length + 2) cw], .int .i64 kind] w' (AnsPb (ppN M K kind) (ppR M K kind) (ppB M K kind) ok w') := by
 obtain ⟨hkd, hgM, hgK⟩ := prC_0 h1
 obtain ⟨hMm, hMg⟩ := gdC_0 hgM
 obtain ⟨hKm, hKg⟩ := gdC_0 hgK
 have h5 := hMm.1; have h6 := hKm.1
 have hok := pp_if h1
 have hpN : (if pdN M K kind ≤ 5 ∧ (pdR M K kind).length ≤ 500 then ((pdN M K kind : Nat) : Int) else 0) = ppN M K kind := by
  unfold ppN
  by_cases h : pdN M K kind ≤ 5 ∧ (pdR M K kind).length ≤ 500
  ·rw [if_pos h, if_pos (hok.1 h)]
  rw [if_neg h, if_neg (by rw [hok.2 h]; decide)]
 have hpR : (if pdN M K kind ≤ 5 ∧ (pdR M K kind).length ≤ 500 then pdR M K kind else []) = ppR M K kind := by
  unfold ppR
  by_cases h : pdN M K kind ≤ 5 ∧ (pdR M K kind).length ≤ 500
  ·rw [if_pos h, if_pos (hok.1 h)]
  rw [if_neg h, if_neg (by rw [hok.2 h]; decide)]
 have hpB : (if pdN M K kind ≤ 5 ∧ (pdR M K kind).length ≤ 500 then pdB M K kind else []) = ppB M K kind := by
  unfold ppB
  by_cases h : pdN M K kind ≤ 5 ∧ (pdR M K kind).length ≤ 500
  ·rw [if_pos h, if_pos (hok.1 h)]
  rw [if_neg h, if_neg (by rw [hok.2 h]; decide)]
 refine ⟨decide (pdN M K kind ≤ 5 ∧ (pdR M K kind).length ≤ 500), ?_, fun h => hok.2 (of_decide_eq_false h), fun X Z Y W cx cz cy cw ys1 ys2 w' hf1 hf2 => ?_⟩
 ·rw [decide_eq_true_eq]
  refine ⟨hok.1, fun h => Classical.byContradiction fun h' => ?_⟩
  rw [hok.2 h'] at h
  exact absurd h (by decide)
 have := (l09Poset_c X Z Y W cx cz cy cw (offP M M.length) (offP K K.length) _ _ ys1 ys2 (fpB M) (fpB K) M.length K.length kind (pdN M K kind) w' hf1 hf2 (latM hMm hMg.1) (latM hKm hKg.1) hkd (pdN_rn hMm hKm) (by omega) (by omega)).mono fun _ _ h => h.b
 rw [← hpN, ← hpR, ← hpB]
 exact this
/-
 The edge; prisms and bipyramids, walked on both sides. Conditions: the library's table of powers of ten holds what the program's text lays there (the program's side).
-/
abbrev edM : List (List Int) := [[1, 0]]
def AnsE (w : World) (v : Value) (w' : World) : Prop := ∃ A, ∃ r : SlV, v = .agg #[.slice A 1 1] ∧ St w w' (mat 32 2 A 1 1 [r] edM)
theorem AnsE.rows {w w' : World} {v : Value} (h : AnsE w v w') : ∃ A, ∃ r : SlV, v = .agg #[.slice A 1 1] ∧ RowsI w' A 1 [r] edM ∧ Below w.heap.size w w' := by
 obtain ⟨A, r, hv, hst⟩ := h
 exact ⟨A, r, hv, St.rowsI (ks := []) (by rw [List.append_nil]; exact hst) O, hst.below⟩
theorem implEdge_c (w : World) : Ret Tryz.prog 118 [] w (AnsE w) := by
 refine Ret.of_cd Tryz.func118 O Tryz.ntmps118 O (postc O O) (Gbo O (Ops.new1 (St.refl w) O ?_))
 intro A0 w1 hS1
 refine Gdo O (Ops.bs2 hS1 O O O O O O ?_)
 intro A1 w2 hS2
 have hS2 : St w w2 (CkI 2 A1 2 2 [1, 0] :: [mxB A0 none 0 0]) := hS2
 refine Ops.bs1R hS2 O O O ?_
 intro A2 w3 hS3
 refine Ops.bld1 (by exact inferInstance) O O O O (Ops.st_agg 1 2 hS3 O O O O O O O ?_)
 intro w4 hS4
 refine Gdr O (retc_r O (hS4.rd 2 O) ?_)
 exact ⟨A2, ⟨A1, 2, 2⟩, O, hS4.sub (show List.Sublist [_, _] [_, _, _] from ((List.nil_sublist _).cons_cons _).cons_cons _)⟩
theorem specEdge_c (w : World) : Ret Tryz.prog 117 [] w (AnsE w) := by
 refine Ret.of_cd Tryz.func117 O Tryz.ntmps117 O (postc O O) (Gbo O (Ops.new1 (St.refl w) O ?_))
 intro A0 w1 hS1
 refine Gdo O (Ops.bs2 hS1 O O O O O O ?_)
 intro A1 w2 hS2
 have hS2 : St w w2 (CkI 2 A1 2 2 [1, 0] :: [mxB A0 none 0 0]) := hS2
 refine Ops.bs1R hS2 O O O ?_
 intro A2 w3 hS3
 refine Ops.bld1 (by exact inferInstance) O O O O (Ops.st_agg 1 2 hS3 O O O O O O O ?_)
 intro w4 hS4
 refine Gdr O (retc_r O (hS4.rd 2 O) ?_)
 exact ⟨A2, ⟨A1, 2, 2⟩, O, hS4.sub (show List.Sublist [_, _] [_, _, _] from ((List.nil_sublist _).cons_cons _).cons_cons _)⟩
end Go.Proofs.YtopgfgdgfjddpaaGreatDoor.Vc
/-
 Plain mathematics: the edge is good, and what grows of it by products.
-/
namespace Go.Proofs.YtopgfgdgfjddpaaGreatDoor.Vc
theorem ed_mani : Mani edM := by decide
theorem ed_off : offP edM 1 = 2 := by kernel_rfl
theorem ed_fpR : fpR edM 1 = [0, 0] := by kernel_rfl
theorem ed_inc (d e : Int) : ¬ IncP edM d e := fun ⟨_, _, i, hi, k, hk, _⟩ => by
 have : i < 1 := hi
 omega
theorem ed_fpB : fpB edM = [[], []] := by
 have h : ∀ e : Int, (fun e => (rngI (offP edM edM.length)).filter fun d => @decide (IncP edM d e) (Classical.propDecidable _)) e = [] := fun e => List.filter_eq_nil_iff.2 fun d _ hd => ed_inc d e (@of_decide_eq_true _ (Classical.propDecidable _) hd)
 unfold fpB
 rw [List.map_congr_left (g := fun _ => ([] : List Int)) fun e _ => h e]
 show (rngI (offP edM 1)).map _ = _
 rw [ed_off]; rfl
theorem ed_flg : flgP 1 [0, 0] [[], []] = [[0], [1]] := by decide
theorem ed_good : GoodP edM := by
 refine ⟨by show offP edM 1 ≤ 500; rw [ed_off]; omega, ?_, ?_⟩
 ·unfold flM
  show (flgP 1 (fpR edM 1) (fpB edM)).length = _
  rw [ed_fpR, ed_fpB, ed_flg]; rfl
 show PlyP 1 (fpR edM 1) (fpB edM)
 rw [ed_fpR, ed_fpB]
 refine ⟨by rw [ed_flg]; simp, fun e h0 h1 => ?_, ?_, ?_⟩
 ·rw [ed_flg]
  have h1 : e < 2 := h1
  rcases (show e = 0 ∨ e = 1 by omega) with rfl | rfl
  ·exact ⟨[0], by simp, by simp⟩
  exact ⟨[1], by simp, by simp⟩
 ·intro i e f h0 h1 hlo hhi _
  obtain rfl : i = 0 := by omega
  have he : e = -1 := by rcases hlo with h | h <;> omega
  have hf : f = -1 := by rcases hhi with h | h <;> omega
  subst he; subst hf
  decide
 rw [ed_flg]
 intro a b hab hb
 have hb : b < 2 := hb
 obtain rfl : a = 0 := by omega
 obtain rfl : b = 1 := by omega
 exact .step (.refl (by decide)) (i := 0) (by omega) (by decide) ⟨by decide, by decide, fun k hk hne => by omega⟩
theorem ed_gd : gdC edM = 0 := gdC_good ed_mani ed_good
noncomputable def cuM (kind : Int) : Nat → List (List Int)
 | 0 => edM
 | j + 1 => poM (cuM kind j) edM kind
theorem bnZ_r1 (r : Nat) : bnZ r 1 = r + 1 := by
 induction r with
 | zero => exact bnZ_0 1
 | succ r ih => rw [bnZ_s, ih, bnZ_1]
theorem cu_step {kind : Int} (hk : kind = 1 ∨ kind = 2) {M : List (List Int)} {j f e : Nat} (hg : gdC M = 0) (hl : M.length = j + 1) (hf : (gl M 0).length = f) (ho : offP M M.length ≤ e) (h4 : j ≤ 2) (he : (e + 2) * 4 ≤ 500) :
  ppC M edM kind = 0 ∧ (f * 2 * (j + 2) ≤ 400 → gdC (poM M edM kind) = 0 ∧ (poM M edM kind).length = j + 2 ∧ (gl (poM M edM kind) 0).length = f * 2 * (j + 2) ∧ offP (poM M edM kind) (poM M edM kind).length ≤ (e + 2) * 4) := by
 have hN : pdN M edM kind = j + 2 := by
  unfold pdN rnP
  rw [if_neg (by omega), hl]
  show ((((j + 1 : Nat) : Int)) + ((1 : Nat) : Int)).toNat = _
  omega
 have hR : (pdR M edM kind).length ≤ (e + 2) * 4 := by
  have := pdR_le M edM kind
  have e2 : offP edM edM.length = 2 := ed_off
  rw [e2] at this
  exact Nat.le_trans this (Nat.mul_le_mul_right _ (by omega))
 have hp : ppC M edM kind = 0 := by
  have : prC M edM kind = 0 := by
   unfold prC
   rw [if_pos ⟨(gdC_0 hg).1, ed_mani⟩, if_pos (by omega), if_pos hg, ed_gd]
  unfold ppC
  rw [if_pos this, if_neg (by omega)]
 refine ⟨hp, fun hfl => ?_⟩
 have hz : fcZ M edM kind = f * 2 * (j + 2) := by
  unfold fcZ
  rw [if_neg (by omega), hf, hl]
  show f * 2 * bnZ (j + 1) 1 = _
  rw [bnZ_r1]
 have h := po_good hp (by rw [hz]; exact hfl)
 exact ⟨h.1, h.2.1.trans hN, h.2.2.1.trans hz, by rw [h.2.2.2]; exact hR⟩
theorem cu_pp {kind : Int} (hk : kind = 1 ∨ kind = 2) : ∀ j : Nat, j ≤ 2 → gdC (cuM kind j) = 0 ∧ ppC (cuM kind j) edM kind = 0 := by
 have s0 := cu_step hk (M := cuM kind 0) (j := 0) (f := 2) (e := 2) ed_gd O O (by show offP edM 1 ≤ 2; rw [ed_off]; omega) (by omega) (by omega)
 have t0 := s0.2 (by omega)
 have s1 := cu_step hk (M := cuM kind 1) (j := 1) (f := 8) (e := 16) t0.1 t0.2.1 t0.2.2.1 t0.2.2.2 (by omega) (by omega)
 have t1 := s1.2 (by omega)
 have s2 := cu_step hk (M := cuM kind 2) (j := 2) (f := 48) (e := 72) t1.1 t1.2.1 t1.2.2.1 t1.2.2.2 (by omega) (by omega)
 intro j hj
 rcases (show j = 0 ∨ j = 1 ∨ j = 2 by omega) with rfl | rfl | rfl
 ·exact ⟨ed_gd, s0.1⟩
 ·exact ⟨t0.1, s1.1⟩
 exact ⟨t1.1, s2.1⟩
end Go.Proofs.YtopgfgdgfjddpaaGreatDoor.Vc
/-
 What grows of the edge by products, walked in the program. Conditions: the library's table of powers of ten holds what the program's text lays there.
-/
namespace Go.Proofs.YtopgfgdgfjddpaaGreatDoor.Vc
open Go.RowKit
def AnsM (L : List (List Int)) (w : World) (v : Value) (w' : World) : Prop := ∃ A c, ∃ rs : List SlV, v = .agg #[.slice A L.length c] ∧ rs.length = L.length ∧ St w w' (mat 32 2 A L.length c rs L)
theorem cu_len {kind : Int} (hk : kind = 1 ∨ kind = 2) (j : Nat) : (cuM kind j).length ≤ 5 ∧ ∀ x ∈ cuM kind j, x.length ≤ 400 := by
  cases j with
  | zero => exact ⟨by show 1 ≤ 5; omega, fun x hx => by
      have : x = [1, 0] := by simpa [cuM] using hx
      subst this; show 2 ≤ 400; omega⟩
  | succ j => exact po_bd5 (cuM kind j) edM kind
set_option maxHeartbeats 2000000 in
theorem implGrown_c (n kind : Int) (hn : 1 ≤ n ∧ n ≤ 4) (hk : kind = 1 ∨ kind = 2) (w : World) (hT : Tab w) :
  Ret Tryz.prog 75 [.int .i64 n, .int .i64 kind] w (AnsM (cuM kind (n - 1).toNat) w) := by
 refine Ret.of_cd Tryz.func75 O Tryz.ntmps75 O (postc O O) (Gbo O (Ops.new1 (St.refl w) O ?_))
 intro A4 w1 hS1
 refine Gdo O (Ops.call (implEdge_c _) O O O ?_)
 rintro _ w2 ⟨E, r, rfl, hst⟩
 have hS2 := hS1.call2 hst
 refine Ops.new1 hS2 O ?_
 intro A5 w3 hS3
 refine Ops.st_agg 1 0 hS3 O O O O O O O ?_
 intro w4 hS4
 refine Gdo O (Ops.sub O O O (by omega) (Gdc O ?_))
 refine Cd.loop (α := Nat × (Option Addr × Nat) × List SlV) (fun z => [(1, .int .i64 kind), (4, .pointer A4), (5, .pointer A5), (10, .int .i64 (n - 1)), (11, .int .i64 (z.1 : Int))]) (fun z w' => (z.1 : Int) ≤ n - 1 ∧ z.2.2.length = (cuM kind z.1).length ∧ St w w' ([mxB A5 z.2.1.1 (cuM kind z.1).length z.2.1.2, mxB A4 none 0 0] ++ mat 32 2 z.2.1.1 (cuM kind z.1).length z.2.1.2 z.2.2 (cuM kind z.1))) (fun z => (n - 1).toNat - z.1) (0, (E, 1), [r]) ⟨O, O, O, O, O, trivial⟩ ⟨by show (0 : Int) ≤ n - 1; omega, O, hS4⟩ ?_
 clear hS4 hS3 hS2 hS1 hst
 rintro ⟨j, ⟨A, c⟩, rs⟩ e w5 ⟨hj, hrl, hS5⟩
 dsimp only at hj hrl hS5 ⊢
 have hb5 := hS5.rd 0 O
 have hT5 := hT.later hS5.below
 have hM5 : RowsI w5 A (cuM kind j).length rs (cuM kind j) := St.rowsI1 hS5.tail.tail O
 refine Gbc O ?_
 refine Cd.cond_p _ O (fun h1 => ?_) (fun h1 => ?_)
 ·have hPo := fun (w' : World) (E : Option Addr) (r : SlV) (hT : Tab w') (hM : RowsI w' A (cuM kind j).length rs (cuM kind j)) (hE : RowsI w' E 1 [r] edM) => productPoset_c A E (cuM kind j).length c 1 1 rs [r] (cuM kind j) edM kind w' hT hM hE (hS5.cap 2 O).1 (hS5.cap 2 O).2 (Nat.le_refl _) (by omega)
  have hPl := fun (w' : World) A D cA cD rs hT hR hB => polytopeOfP_c (cuM kind j) edM kind A D cA cD rs w' hT hR hB
  generalize ppN (cuM kind j) edM kind = N at *
  generalize ppR (cuM kind j) edM kind = R at *
  generalize ppB (cuM kind j) edM kind = B at *
  generalize ppC (cuM kind j) edM kind = C at *
  refine Gac O ?_
  refine Cd.drawP [8] [.ex (.agg #[.slice (A) ((cuM kind j).length) (c)]), .pr (fun v w' => ∃ E, ∃ r : SlV, v = .agg #[.slice E 1 1] ∧ RowsI w' E 1 [r] edM), yI ((kind)), .pr (fun v w' => AnsPo N R B C w5 v w'), .al (fun v => ∃ u0, v = .tuple #[u0, .int .i64 C]) (fun v w' => AnsPo N R B C w5 v w'), .pr (fun v w' => ∃ AR cR AD cD rsD, v = .agg #[.int .i64 N, .slice AR R.length cR, .slice AD B.length cD] ∧ rsD.length = B.length ∧ St w5 w' (CkI 2 AR R.length cR R :: (mat 32 2 AD B.length cD rsD B ++ []))), yI (C), .pr (fun v w' => ∃ A9, v = .pointer A9 ∧ St w5 w' [poB A9 0 none 0 0 none 0 0]), .p2 7 (fun a v w' => ∃ A9 AR c AD d rs, a = .pointer A9 ∧ rs.length = B.length ∧ St w5 w' (poB A9 N AR R.length c AD B.length d :: (CkI 2 AR R.length c R :: (mat 32 2 AD B.length d rs B ++ [])))), yI (C)] (by kernel_rfl) (by kernel_rfl) (ly (List.forall_mem_cons.2 ⟨Ye.lasts_pr (fun v w w' h hb => by obtain ⟨E, r, hv, h1⟩ := h; exact ⟨E, r, hv, h1.later hb⟩), (ly (List.forall_mem_cons.2 ⟨Ye.lasts_pr (fun v w w' h hb => by obtain ⟨AR, cR, AD, cD, rsD, hv, h1, h2⟩ := h; exact ⟨AR, cR, AD, cD, rsD, hv, h1, h2.later hb⟩), (List.forall_mem_cons.2 ⟨Ye.lasts_al (fun v w w' h hb => by obtain ⟨AR, cR, AD, cD, rsD, hv, h1, h2⟩ := h; exact ⟨AR, cR, AD, cD, rsD, hv, h1, h2.later hb⟩), (List.forall_mem_cons.2 ⟨Ye.lasts_pr (fun v w w' h hb => by obtain ⟨AR, cR, AD, cD, rsD, hv, h1, h2⟩ := h; exact ⟨AR, cR, AD, cD, rsD, hv, h1, h2.later hb⟩), (ly (List.forall_mem_cons.2 ⟨Ye.lasts_pr (fun v w w' h hb => by obtain ⟨A9, hv, hT⟩ := h; exact ⟨A9, hv, hT.later hb⟩), (List.forall_mem_cons.2 ⟨Ye.lasts_p2 (fun a v w w' h hb => by obtain ⟨A9, AR, cR, AD, cD, rsD, h9, h1, hT⟩ := h; exact ⟨A9, AR, cR, AD, cD, rsD, h9, h1, hT.later hb⟩), (ly (fun _ h => by cases h))⟩)⟩))⟩)⟩)⟩))⟩)) ?_ ?_
  ·refine ⟨cP fun _ _ hb _ _ _ => Ops.ld_agg 0 (hb5.below hb) O O O (AzP O O), ?_, DrP O, ?_, ?_, ?_, ?_, ?_, ?_, DrP O, trivial⟩
   ·refine cP fun e1 w1 hb hp hun hq => ?_
    refine Ops.call (implEdge_c _) O O O ?_
    rintro _ w9 h9
    obtain ⟨E, r, hv, hE, hb9⟩ := h9.rows
    refine Ops.n ?_
    exact AfterP.dn O hb9 ⟨E, r, hv, hE⟩
   ·refine cP fun e1 w1 hb hp hun hq => ?_
    obtain ⟨E, r, h8, h1⟩ := (hp 1 _ _ (by kernel_rfl) rfl rfl (by kernel_rfl))
    refine Ops.call (hPo _ E r (hT5.later hb) (hM5.later hb) h1) O (by exact congrArg (fun v => [Value.agg #[.slice A (cuM kind j).length c], v, .int .i64 kind]) h8) O ?_
    rintro _ w9 ⟨AR, cR, AD, cD, rsD, rfl, hrD, hst⟩
    refine Ops.n ?_
    exact AfterP.dn O hst.below ⟨AR, cR, AD, cD, rsD, O, hrD, by have := ((St.refl w5).later hb).call hst; rwa [List.append_nil] at this⟩
   ·refine cP fun e1 w1 hb hp hun hq => ?_
    obtain ⟨AR, cR, AD, cD, rsD, h9, h1, h2⟩ := (hp 3 _ _ (by kernel_rfl) rfl rfl (by kernel_rfl))
    refine Ops.mv_tup O (by exact h9) O (Ops.n ?_)
    exact AfterP.dn O (Below.refl _ _) ⟨⟨_, O⟩, AR, cR, AD, cD, rsD, O, h1, h2⟩
   ·refine cP fun e1 w1 hb hp hun hq => ?_
    obtain ⟨AR, cR, AD, cD, rsD, h6, h1, h2⟩ := ((hp 4 _ _ (by kernel_rfl) rfl rfl).2 (by kernel_rfl))
    refine Ops.extract (by exact h6) O O (Ops.n ?_)
    exact AfterP.dn O (Below.refl _ _) ⟨AR, cR, AD, cD, rsD, O, h1, h2⟩
   ·intro e1 w1 cc hlo hhi hb0 hp hun hq; show Ops _ _ _ _ _ _ _
    obtain ⟨u0, h6⟩ := (hp 4 _ _ (by kernel_rfl) rfl rfl).1
    refine Ops.extract (by exact h6) O O (Ops.n (p0_ O (by exact O)))
   ·refine cP fun e1 w1 hb hp hun hq => ?_
    refine Ops.newP (St.refl _) O ?_
    intro A9 w9 hS9
    refine Ops.n ?_
    exact AfterP.dn O hS9.below ⟨A9, O, by have := ((St.refl w5).later hb).call hS9; rwa [List.append_nil] at this⟩
   refine cPT fun e1 w1 hb hp hun hq => ?_
   obtain ⟨A9, h9, hT⟩ := (hp 7 _ _ (by kernel_rfl) rfl rfl (by kernel_rfl))
   obtain ⟨AR, cR, AD, cD, rsD, h10, h1, h2⟩ := (hp 5 _ _ (by kernel_rfl) rfl rfl (by kernel_rfl))
   refine Ops.st_agg 3 0 (hT.mergeP h2) O (by exact h9) (by exact h10) O O O O ?_
   intro w9 hS9
   refine Ops.n ?_
   exact AfterU.st O ⟨A9, AR, cR, AD, cD, rsD, h9, h1, hS9⟩
  intro u2 w7 _ _ hu2 _
  obtain ⟨A9, AR, cR, AD, cD, rsD, h9, hrD, hU5⟩ := hu2 8 7 _ rfl (by kernel_rfl)
  have hS7 := hS5.later hU5.below
  refine Qk_ext (F := [(1, .int .i64 kind), (4, .pointer A4), (5, .pointer A5), (6, .pointer A9), (7, .int .i64 C), (10, .int .i64 (n - 1)), (11, .int .i64 (j : Int))]) ⟨O, O, O, h9, O, O, O, trivial⟩ (Geo O (Ops.ld_agg 2 (hU5.rd 0 O) O O O (Gdo O (Ops.call (hPl _ AR AD cR cD rsD (hT.later hS7.below) (hU5.rdI 1 O) (St.rowsI hU5.tail.tail O)) O O O ?_))))
  rintro _ w8 ⟨Am, cm, rsm, rfl, hrm, hst⟩
  have hS8 := hS7.call2 hst
  refine Gdo O (Ops.st_agg 1 0 hS8 O O O O O O O ?_)
  intro w9 hS9
  refine Gdo O (Ops.add O O O (by omega) (Gdn O (tQ ?_)))
  exact ⟨(j + 1, (Am, cm), rsm), by show (n - 1).toNat - (j + 1) < (n - 1).toNat - j; omega, ⟨O, O, O, O, O, trivial⟩, by show ((j + 1 : Nat) : Int) ≤ n - 1; omega, hrm, hS9.sub (List.Sublist.cons_cons _ (List.Sublist.cons_cons _ (List.sublist_append_right _ _)))⟩
 have hjn : (n - 1).toNat = j := by omega
 rw [hjn]
 refine Gax O (thenQ_x (Gfo O ?_))
 refine Ops.ld_agg 0 hb5 O O O (Ops.st_agg 1 1 hS5 O O O O O O O ?_)
 intro w6 hS6
 refine Gdr O (retc_r O (hS6.rd 1 O) ?_)
 exact ⟨A, c, rs, O, hrl, hS6.tail.tail⟩
/-
 What grows of the edge by products, walked in the reference; cubes and cross polytopes of both sides.
-/
theorem l09MxP_c {M K : List (List Int)} {kind : Int} (h1 : prC M K kind = 0) : ∀ X Z Y W cx cz cy cw ys1 ys2 w', FaR w' X (fcR M.length (fpR M M.length)) (offP M M.length) Y ys1 (fpB M) → FaR w' Z (fcR K.length (fpR K K.length)) (offP K K.length) W ys2 (fpB K) → Ret Tryz.prog 112 [.agg #[.int .i64 (M.length : Int), .slice X (offP M M.length + 2) cx, .slice Y (offP M M.length + 2) cy], .agg #[.int .i64 (K.length : Int), .slice Z (offP K K.length + 2) cz, .slice W (offP K K.length + 2) cw], .int .i64 kind] w' (AnsX (poM M K kind) (poC M K kind) w') := by
 obtain ⟨hkd, hgM, hgK⟩ := prC_0 h1
 obtain ⟨hMm, hMg⟩ := gdC_0 hgM
 obtain ⟨hKm, hKg⟩ := gdC_0 hgK
 obtain ⟨ok, hok1, hok2, hPx⟩ := ppPoset_c h1
 have hP : ok = true → ppN M K kind = ((pdN M K kind : Nat) : Int) ∧ PosP ((pdN M K kind : Nat) : Int) (ppR M K kind) (ppB M K kind) := fun h => by
  have h0 := hok1.1 h
  have hd := (pd_ok h0).1
  unfold ppN ppR ppB
  rw [if_pos h0, if_pos h0, if_pos h0]
  exact ⟨O, hd⟩
 have e1 : (if ok = true then mxM (pdN M K kind) (ppR M K kind) (ppB M K kind) else []) = poM M K kind := by
  cases ok
  ·have h3 := hok2 O
   unfold poM
   rw [if_neg (by decide), if_neg (by rw [h3]; decide)]
  have h0 := hok1.1 O
  unfold poM ppR ppB
  rw [if_pos rfl, if_pos h0, if_pos h0, if_pos h0]
 have e2 : (if ok = true then mxC (pdN M K kind) (ppR M K kind) (ppB M K kind) else 3) = poC M K kind := by
  cases ok
  ·have h3 := hok2 O
   unfold poC
   rw [if_neg (by decide), if_neg (by rw [h3]; decide), h3]
  have h0 := hok1.1 O
  unfold poC ppR ppB
  rw [if_pos rfl, if_pos h0, if_pos h0, if_pos h0]
 exact fun X Z Y W cx cz cy cw ys1 ys2 w' hf1 hf2 => by
  have := l09Maniplex_c X Z Y W cx cz cy cw _ _ _ _ M.length K.length kind ok (ppN M K kind) (pdN M K kind) (ppR M K kind) (ppB M K kind) w' (fun w2 hb => hPx X Z Y W cx cz cy cw ys1 ys2 w2 (hf1.later hb) (hf2.later hb)) hP
  rw [e1, e2] at this
  exact this
set_option maxHeartbeats 2000000 in
theorem specRepeat_c (n kind : Int) (hn : 1 ≤ n ∧ n ≤ 4) (hk : kind = 1 ∨ kind = 2) (w : World) :
  Ret Tryz.prog 73 [.int .i64 n, .int .i64 kind] w (AnsM (cuM kind (n - 1).toNat) w) := by
 refine Ret.of_cd Tryz.func73 O Tryz.ntmps73 O (postc O O) (Gbo O (Ops.new1 (St.refl w) O ?_))
 intro A4 w1 hS1
 refine Gdo O (Ops.call (specEdge_c _) O O O ?_)
 rintro _ w2 ⟨E, r, rfl, hst⟩
 have hS2 := hS1.call2 hst
 refine Ops.new1 hS2 O ?_
 intro A5 w3 hS3
 refine Ops.st_agg 1 0 hS3 O O O O O O O ?_
 intro w4 hS4
 refine Gdc O ?_
 refine Cd.loop (α := Nat × (Option Addr × Nat) × List SlV) (fun z => [(0, .int .i64 n), (1, .int .i64 kind), (4, .pointer A4), (5, .pointer A5), (6, .int .i64 ((z.1 : Int) + 1))]) (fun z w' => (z.1 : Int) ≤ n - 1 ∧ z.2.2.length = (cuM kind z.1).length ∧ St w w' ([mxB A5 z.2.1.1 (cuM kind z.1).length z.2.1.2, mxB A4 none 0 0] ++ mat 32 2 z.2.1.1 (cuM kind z.1).length z.2.1.2 z.2.2 (cuM kind z.1))) (fun z => (n - 1).toNat - z.1) (0, (E, 1), [r]) ⟨O, O, O, O, O, trivial⟩ ⟨by show (0 : Int) ≤ n - 1; omega, O, hS4⟩ ?_
 clear hS4 hS3 hS2 hS1 hst
 rintro ⟨j, ⟨A, c⟩, rs⟩ e w5 ⟨hj, hrl, hS5⟩
 dsimp only at hj hrl hS5 ⊢
 have hb5 := hS5.rd 0 O
 have hM5 : RowsI w5 A (cuM kind j).length rs (cuM kind j) := St.rowsI1 hS5.tail.tail O
 refine Gbc O ?_
 refine Cd.cond_p _ O (fun h1 => ?_) (fun h1 => ?_)
 ·have hg := cu_pp hk j (by omega)
  have hp := (pp_0 hg.2).1
  obtain ⟨hMm, hMg⟩ := gdC_0 hg.1
  have hMx := l09MxP_c hp
  refine Gao O (Ops.ld_agg 0 hb5 O O O (Ops.call (l09All_c A (cuM kind j).length c rs (cuM kind j) _ hM5 hMm hMg.1) O O O ?_))
  rintro _ w6 ⟨X, cx, Y, cy, ys, rfl, hyl, hst1⟩
  have hf1 := faR_of hMm hMg.1 hst1
  have hS6 := hS5.later hst1.below
  refine Ops.call (specEdge_c _) O O O ?_
  intro v7 w7 h7
  obtain ⟨E', r', rfl, hE, hb7⟩ := h7.rows
  have hS7 := hS6.later hb7
  refine Ops.call (l09All_c E' 1 1 [r'] edM _ hE ed_mani (by show offP edM 1 ≤ 500; rw [ed_off]; omega)) O O O ?_
  rintro _ w8 ⟨Z, cz, W, cw, zs, rfl, hzl, hst2⟩
  have hf2 := faR_of ed_mani (by show offP edM 1 ≤ 500; rw [ed_off]; omega) hst2
  have hS8 := hS7.later hst2.below
  refine Gdo O (Ops.call (hMx X Z Y W cx cz cy cw ys zs _ ((hf1.later hb7).later hst2.below) hf2) O O O ?_)
  rintro _ w9 ⟨Am, cm, rsm, rfl, hrm, hst⟩
  have hS9 := hS8.call2 hst
  refine Gdo O (Ops.new1 hS9 O ?_)
  intro A7 w10 hS10
  refine Ops.st_agg 1 0 hS10 O O O O O O O ?_
  intro w11 hS11
  refine Gdo O (Ops.ld_agg 0 (hS11.rd 0 O) O O O (Ops.st_agg 1 1 hS11 O O O O O O O ?_))
  intro w12 hS12
  refine Gdo O (Ops.add O O O (by omega) (Gdn O (tQ ?_)))
  exact ⟨(j + 1, (Am, cm), rsm), by show (n - 1).toNat - (j + 1) < (n - 1).toNat - j; omega, ⟨O, O, O, O, O, trivial⟩, by show ((j + 1 : Nat) : Int) ≤ n - 1; omega, hrm, hS12.sub (List.Sublist.cons _ (List.Sublist.cons_cons _ (List.Sublist.cons_cons _ (List.sublist_append_right _ _))))⟩
 have hjn : (n - 1).toNat = j := by omega
 rw [hjn]
 refine Gax O (thenQ_x (Gfo O ?_))
 refine Ops.ld_agg 0 hb5 O O O (Ops.st_agg 1 1 hS5 O O O O O O O ?_)
 intro w6 hS6
 refine Gdr O (retc_r O (hS6.rd 1 O) ?_)
 exact ⟨A, c, rs, O, hrl, hS6.tail.tail⟩
theorem implCross_c (n : Int) (w : World) (hT : Tab w) :
  Ret Tryz.prog 16 [.int .i64 n] w (AnsX (if 1 ≤ n ∧ n ≤ 4 then cuM 2 (n - 1).toNat else []) (if 1 ≤ n ∧ n ≤ 4 then 0 else 2) w) := by
 refine Ret.of_cd Tryz.func16 O Tryz.ntmps16 O (postc2 O O) (Gbo O (Ops.new1 (St.refl w) O ?_))
 intro A2 w1 hS1
 refine Gdo O (Ops.call (within_c n 1 4 _) O O O ?_)
 rintro _ w2 ⟨rfl, hst⟩
 subst hst
 first | refine Ops.not_p rfl rfl ?_ | refine Ops.not rfl rfl ?_
 refine Gdc O ?_
 refine Cd.cond_p _ O (fun h1 => ?_) (fun h1 => ?_)
 ·have h1 : ¬ (1 ≤ n ∧ n ≤ 4) := h1
  rw [if_neg h1, if_neg h1]
  refine Gao O (Ops.bld0 (by exact inferInstance) O (Ops.st_agg 1 0 hS1 O O O O O O O ?_))
  intro w3 hS3
  refine Gdr O (retc2_r O (hS3.rd 0 O) O ?_)
  exact AnsX.none hS3
 have h1 : 1 ≤ n ∧ n ≤ 4 := Classical.not_not.1 h1
 rw [if_pos h1, if_pos h1]
 refine Gao O ?_
 refine Ops.call (implGrown_c n 2 ⟨by omega, by omega⟩ (by omega) _ (hT.later hS1.below)) O O O ?_
 rintro _ w3 ⟨A, c, rs, rfl, hrl, hst⟩
 have hS3 := hS1.call2 hst
 refine Ops.st_agg 1 0 hS3 O O O O O O O ?_
 intro w4 hS4
 refine Gdr O (retc2_r O (hS4.rd 0 O) O ?_)
 exact ⟨A, c, rs, O, hrl, hS4.tail⟩
theorem specCross_c (n : Int) (w : World) :
  Ret Tryz.prog 15 [.int .i64 n] w (AnsX (if 1 ≤ n ∧ n ≤ 4 then cuM 2 (n - 1).toNat else []) (if 1 ≤ n ∧ n ≤ 4 then 0 else 2) w) := by
 refine Ret.of_cd Tryz.func15 O Tryz.ntmps15 O (postc2 O O) (Gbo O (Ops.new1 (St.refl w) O ?_))
 intro A2 w1 hS1
 refine Gdo O (Ops.call (l01In_c n 1 4 _) O O O ?_)
 rintro _ w2 ⟨rfl, hst⟩
 subst hst
 first | refine Ops.not_p rfl rfl ?_ | refine Ops.not rfl rfl ?_
 refine Gdc O ?_
 refine Cd.cond_p _ O (fun h1 => ?_) (fun h1 => ?_)
 ·have h1 : ¬ (1 ≤ n ∧ n ≤ 4) := h1
  rw [if_neg h1, if_neg h1]
  refine Gao O (Ops.bld0 (by exact inferInstance) O (Ops.st_agg 1 0 hS1 O O O O O O O ?_))
  intro w3 hS3
  refine Gdr O (retc2_r O (hS3.rd 0 O) O ?_)
  exact AnsX.none hS3
 have h1 : 1 ≤ n ∧ n ≤ 4 := Classical.not_not.1 h1
 rw [if_pos h1, if_pos h1]
 refine Gao O ?_
 refine Ops.call (specRepeat_c n 2 ⟨by omega, by omega⟩ (by omega) _) O O O ?_
 rintro _ w3 ⟨A, c, rs, rfl, hrl, hst⟩
 have hS3 := hS1.call2 hst
 refine Ops.st_agg 1 0 hS3 O O O O O O O ?_
 intro w4 hS4
 refine Gdr O (retc2_r O (hS4.rd 0 O) O ?_)
 exact ⟨A, c, rs, O, hrl, hS4.tail⟩
/-
 The walks of the program's forms, and of comparisons on both sides.
-/
end Go.Proofs.YtopgfgdgfjddpaaGreatDoor.Vc
/-
 Plain mathematics of the list of maniplexes: forms put in ascending order one by one, and that there is one such order.
-/
namespace Go.Proofs.YtopgfgdgfjddpaaGreatDoor.Vc
abbrev Mx := List (List Int)
/-! the list of a rank and a number of flags -/
def Own1 (N : Nat) (xss : Mx) : Prop := ∀ f, f < N → ¬ lexCC (formL N xss (f : Nat)) xss < 0
instance (N : Nat) (xss : Mx) : Decidable (Own1 N xss) := by unfold Own1; exact inferInstance
end Go.Proofs.YtopgfgdgfjddpaaGreatDoor.Vc
/-
 The walks of the program's least form, and of the reference's numbers of orbits.
-/
namespace Go.Proofs.YtopgfgdgfjddpaaGreatDoor.Vc
open Go.RowKit
section
variable {P : Program} {N : Nat} {ops : Array Oper} {K : Env → World → Prop} {rest : List Oper} {e : Env} {w : World} {d : Nat} {ty : TypeId} {pos : String} {af : Array Edge}
end
theorem St.matAt {w0 w : World} {t1 t2 : TypeId} {A : Option Addr} {n c : Nat} {rs : List SlV} {xss : List (List Int)} {ks : List Ck} (h : St w0 w ks) (hsub : (mat t1 t2 A n c rs xss).Sublist ks) (hl : xss.length = n) : RowsI w A n rs xss := (h.sub hsub).rowsI1 hl
/-! the numbers of orbits -/
/-
 Marks on one maniplex, exact.
-/
/-! marks on one maniplex, exact -/
theorem markMx_c {w0 w : World} {pre post : List Ck} {t1 t2 : TypeId} {A : Option Addr} {n c : Nat} {rs : List SlV} {xss : List (List Int)} (k : Int) (hS : St w0 w (pre ++ (mat t1 t2 A n c rs xss ++ post))) (hrl : rs.length = n) (hxl : xss.length = n) (hn : n ≤ 1000) (hr : ∀ x ∈ xss, x.length ≤ 1000) (hk0 : 0 ≤ k ∧ k ≤ 1000000000000000) :
  Ret Tryz.prog 18 [.agg #[.slice A n c], .int .i64 k] w (fun v w' => v = .int .i64 (k + tot xss) ∧ St w0 w' (pre ++ (mat t1 t2 A n c rs (mkSS k xss) ++ post))) := by
 refine Ret.of_cd Tryz.func18 O Tryz.ntmps18 O (post1 O) (Gbo O (Ops.box1 hS O O ?_))
 intro Ab w1 hS1
 refine Gdo O (Ops.fld (hS1.rd 0 O) O O O O inferInstance (Ops.ldf_s (hS1.rd 0 O) O O O O O (Gdo O (Ops.call (markSS_c (pre := Bx 24 1 Ab [.slice A n c] :: pre) (post := post) (rs := rs) k hS1 hrl hxl hn hr hk0) O O O ?_))))
 rintro _ w2 ⟨rfl, hS2⟩
 refine Gdr O (ret1_i O ?_)
 exact ⟨O, St.tail hS2⟩
theorem heldMx_c (A : Option Addr) (n c : Nat) (rs : List SlV) (xss : List (List Int)) (k : Int) (w : World) (hR : RowsI w A n rs (mkSS k xss)) (hn : n ≤ 1000) (hr : ∀ x ∈ xss, x.length ≤ 1000) (hk0 : 0 ≤ k ∧ k ≤ 1000000000000000) :
  Ret Tryz.prog 19 [.agg #[.slice A n c], .int .i64 k] w (fun v w' => v = .int .i64 (k + tot xss) ∧ St w w' []) := by
 have hl := hR.len
 rw [mkSS_len] at hl
 have htb := tot_le (b := 1000) xss hr
 refine Ret.of_cd Tryz.func19 O Tryz.ntmps19 O (post1 O) (Gbo O (Ops.box1 (St.refl w) O O ?_))
 intro Ab w1 hS1
 refine Gdo O (Ops.fld (hS1.rd 0 O) O O O O inferInstance (Ops.ldf_s (hS1.rd 0 O) O O O O O (Gdo O (Ops.call (heldSS_c A n c rs xss k _ (hS1.oldRows hR) hn hr hk0) O O O ?_))))
 rintro _ w2 ⟨rfl, rfl⟩
 refine Gdc O (Cd.cond_pf O (by omega) (Gar O (ret1_i O ?_)))
 exact ⟨O, hS1.none⟩
/-
 The walk of the law FnExactCrossOf: it returns true. Conditions: the library's table of powers of ten holds what the program's text lays there.
-/
set_option maxHeartbeats 2000000 in
theorem FnExactCrossOf_c (n : Int) (w : World) (hT : Tab w) :
  Ret Tryz.prog 3 [.int .i64 n] w (fun v w' => v = .bool true ∧ St w w' []) := by
 have hS_ := fun w => specCross_c n w
 have hI_ := fun w hT => implCross_c n w hT
 have hsm : (if 1 ≤ n ∧ n ≤ 4 then cuM 2 (n - 1).toNat else []).length ≤ 5 ∧ ∀ x ∈ (if 1 ≤ n ∧ n ≤ 4 then cuM 2 (n - 1).toNat else []), x.length ≤ 400 := by
  split
  ·exact cu_len (by omega) _
  exact ⟨by show 0 ≤ 5; omega, fun x hx => by cases hx⟩
 generalize (if 1 ≤ n ∧ n ≤ 4 then cuM 2 (n - 1).toNat else []) = L at *
 generalize (if 1 ≤ n ∧ n ≤ 4 then (0 : Int) else 2) = K at *
 have hr1000 : ∀ x ∈ L, x.length ≤ 1000 := fun x hx => by have := hsm.2 x hx; omega
 have htb := tot_le (b := 1000) L hr1000
 refine Ret.of_cd Tryz.func3 O Tryz.ntmps3 O (post1 O) (Gbo O (Ops.call (hS_ _) O O O ?_))
 rintro _ w1 ⟨W0, cW, rsW, rfl, hrW, hS1⟩
 refine Gdo O (Ops.new1 hS1 O ?_)
 intro A3 w2 hS2
 refine Ops.st_agg 1 0 hS2 O O O O O O O ?_
 intro w3 hS3
 refine Gdo O (Ops.call (hI_ _ (hT.later hS3.below)) O O O ?_)
 rintro _ w4 ⟨G, cG, rsG, rfl, hrG, hst4⟩
 have hS4 := hS3.call2 hst4
 refine Gdo O (Ops.new1 hS4 O ?_)
 intro A5 w5 hS5
 refine Ops.st_agg 1 0 hS5 O O O O O O O ?_
 intro w6 hS6
 obtain ⟨b3, hb3⟩ : ∃ b3, b3 = Bx 24 1 A3 [.slice W0 L.length cW] := ⟨_, rfl⟩
 obtain ⟨b5, hb5⟩ : ∃ b5, b5 = Bx 24 1 A5 [.slice G L.length cG] := ⟨_, rfl⟩
 have hS6 : St w w6 ([b5, b3] ++ (mat 32 2 W0 L.length cW rsW L ++ mat 32 2 G L.length cG rsG L)) := by subst hb3; subst hb5; exact hS6
 have hS6 : St w w6 ([b5, b3] ++ (mat 32 2 G L.length cG rsG L ++ mat 32 2 W0 L.length cW rsW L)) := hS6.perm (List.Perm.append_left [b5, b3] List.perm_append_comm)
 have r5 : ∀ {w' : World} {ks : List Ck}, St w w' (b5 :: ks) → Rd w' A5 1 (fun j => [Value.slice G L.length cG].getD j undef) := fun h => by subst hb5; exact h.rd 0 rfl
 have r3 : ∀ {w' : World} {ks : List Ck}, St w w' (b5 :: b3 :: ks) → Rd w' A3 1 (fun j => [Value.slice W0 L.length cW].getD j undef) := fun h => by subst hb3; exact h.rd 1 rfl
 have mGa : ∀ {w' : World} {Y : List (List Int)} {ks : List Ck}, Y.length = L.length → St w w' ([b5, b3] ++ (mat 32 2 G L.length cG rsG Y ++ ks)) → RowsI w' G L.length rsG Y := fun hY h => h.matAt (c := cG) ((List.sublist_append_left _ _).trans (List.sublist_append_right _ _)) hY
 have mWa : ∀ {w' : World} {k1 : List Ck}, St w w' ([b5, b3] ++ (k1 ++ mat 32 2 W0 L.length cW rsW L)) → RowsI w' W0 L.length rsW L := fun h => h.matAt (c := cW) ((List.sublist_append_right _ _).trans (List.sublist_append_right _ _)) O
 refine Gdo O (Ops.ld_agg 0 (r5 hS6) O O O (Ops.ld_agg 0 (r3 hS6) O O O (Ops.call (eqManiplex_c G _ cG rsG L W0 _ cW rsW L _ (mGa O hS6) (mWa hS6) (by omega)) O O O ?_)))
 rintro _ w7 ⟨rfl, hst7⟩
 have hS7 := hS6.later hst7.below
 first | refine Ops.not_p rfl rfl ?_ | refine Ops.not rfl rfl ?_
 refine Gdo O ?_
 refine Ops.split_p 25 O (fun h => absurd O h) (fun _ => ?_)
 refine Ops.g O O O (Gdo O (Ops.g O O O (Gdo O (Ops.g O O O (Gdc O ?_)))))
 refine Cd.cond_pf O (fun h => h O) ?_
 refine Gao O (Ops.ld_agg 0 (r5 hS7) O O O (Gdo O (Ops.call (markMx_c (rs := rsG) (pre := [b5, b3]) (post := mat 32 2 W0 L.length cW rsW L) 1 hS7 hrG O (by omega) hr1000 (by omega)) O O O ?_)))
 rintro _ w8 ⟨rfl, hS8⟩
 refine Gdo O (Ops.ld_agg 0 (r5 hS8) O O O (Gdo O (Ops.call (heldMx_c G _ cG rsG L 1 _ (mGa (mkSS_len _ _) hS8) (by omega) hr1000 (by omega)) O O O ?_)))
 rintro _ w9 ⟨rfl, hst9⟩
 have hS9 := hS8.later hst9.below
 refine Gdc O (Cd.cond_pf O (by omega) (Gac O ?_))
 refine Cd.cond_pf O (fun h => h O) ?_
 refine Gao O (Ops.call (hI_ _ (hT.later hS9.below)) O O O ?_)
 rintro _ w10 ⟨H, cH, rsH, rfl, hrH, hst10⟩
 have hS10 := hS9.call hst10
 refine Gdo O (Ops.new1 hS10 O ?_)
 intro A9 w11 hS11
 refine Ops.st_agg 1 0 hS11 O O O O O O O ?_
 intro w12 hS12
 have hS12 : St w w12 (Bx 24 1 A9 [.slice H L.length cH] :: (mat 32 2 H L.length cH rsH L ++ ([b5, b3] ++ (mat 32 2 G L.length cG rsG (mkSS 1 L) ++ mat 32 2 W0 L.length cW rsW L)))) := hS12
 have t12 := fun {w' : World} (h : St w w' (Bx 24 1 A9 [.slice H L.length cH] :: (mat 32 2 H L.length cH rsH L ++ ([b5, b3] ++ (mat 32 2 G L.length cG rsG (mkSS 1 L) ++ mat 32 2 W0 L.length cW rsW L))))) => h.sub ((List.sublist_append_right _ _).trans (List.sublist_cons_self _ _))
 have m12 : RowsI w12 H L.length rsH L := hS12.matAt (c := cH) ((List.sublist_append_left _ _).trans (List.sublist_cons_self _ _)) O
 refine Gdo O (Ops.ld_agg 0 (hS12.rd 0 O) O O O (Ops.ld_agg 0 (r3 (t12 hS12)) O O O (Ops.call (eqManiplex_c H _ cH rsH L W0 _ cW rsW L _ m12 (mWa (t12 hS12)) (by omega)) O O O ?_)))
 rintro _ w13 ⟨rfl, hst13⟩
 have hS13 := hS12.later hst13.below
 first | refine Ops.not_p rfl rfl ?_ | refine Ops.not rfl rfl ?_
 refine Gdo O ?_
 refine Ops.split_p 50 O (fun h => absurd O h) (fun _ => ?_)
 refine Ops.g O O O (Gdo O (Ops.g O O O (Gdo O (Ops.g O O O (Gdc O ?_)))))
 refine Cd.cond_pf O (fun h => h O) ?_
 refine Gao O (Ops.ld_agg 0 (r5 (t12 hS13)) O O O (Gdo O (Ops.call (heldMx_c G _ cG rsG L 1 _ (mGa (mkSS_len _ _) (t12 hS13)) (by omega) hr1000 (by omega)) O O O ?_)))
 rintro _ w14 ⟨rfl, hst14⟩
 have hS14 := hS13.later hst14.below
 refine Gdc O (Cd.cond_pf O (by omega) (Gac O ?_))
 refine Cd.cond_pf O (fun h => h O) ?_
 refine Gar O (ret1_b O ?_)
 exact ⟨O, hS14.none⟩
end Go.Proofs.YtopgfgdgfjddpaaGreatDoor.Vc
/-
 A statement's frame: the arguments opened, and what a walk gives told in the statement's own words.
-/
namespace Go.Proofs.YtopgfgdgfjddpaaGreatDoor.Vc
open Go.RowKit Go.ChangeShapes Go.WideShapes
theorem laid : laidOutB Tryz.prog = true := by kernel_rfl
theorem own : ownKnob Tryz.prog.godebug = none := by kernel_rfl
section
variable {H : Type} {enc : TypeId × Value → H} {P : Program}
theorem trodAll_stays (hl : laidOutB P = true) {W W' : World} (hb : Below W.heap.size W W') {sp : Nat → Bool} : ∀ {ts : List TypeId} {vs : List Value} {ds : List (DataW H)} {ps : List MemPlace}, (ts.all fun t => P.readableRec t && Nat.blt t P.types.size) = true → (∀ p ∈ ps, p.block < W.heap.size) → (∀ p ∈ ps, sp p.block = true) →
  DataW.TrodAll enc P W 0 (fun _ => true) true ts vs ds ps → DataW.TrodAll enc P W' 0 sp true ts vs ds ps
 | [], [], [], _, _, _, _, h => h
 | t :: ts, v :: vs, d :: ds, ps, hr, hlt, hsp, h => by
  obtain ⟨p, q, h1, h2, rfl⟩ := h
  simp only [List.all_cons, Bool.and_eq_true] at hr
  exact ⟨p, q, WideElems.Trod_stays hl hr.1.1 (by simpa [Nat.blt_eq] using hr.1.2) h1 (fun x hx => hb.same (hlt x (by simp [hx]))) (fun x hx => hsp x (by simp [hx])), trodAll_stays hl hb hr.2 (fun x hx => hlt x (by simp [hx])) (fun x hx => hsp x (by simp [hx])) h2, O⟩
 | [], [], _ :: _, _, _, _, _, h => h.elim
 | [], _ :: _, _, _, _, _, _, h => by cases h
 | _ :: _, [], _, _, _, _, _, h => by cases h
 | _ :: _, _ :: _, [], _, _, _, _, h => by cases h
theorem post_law {f : Func} {s : ChangeSpec} {apart : Bool} {W W' : World} {args : Array Value} {ds gs : List (DataW H)} {before : List MemPlace} (hl : laidOutB P = true) {b : TypeId} (hu : P.underlying b = some .bool) (hres : f.resultTypes = #[b]) (hv : s.vars = [])
    (hr : (f.params.toList.all fun t => P.readableRec t && Nat.blt t P.types.size) = true) (hfn : (s.fn H (ds ++ gs)).results = [.lit (.bool true)] ∧ (s.fn H (ds ++ gs)).args = ds ∧ (s.fn H (ds ++ gs)).vars = [])
    (hW : DataW.Whole enc P f.params.toList s.vars apart W args.toList ds gs before) (hb : Below W.heap.size W W') : s.post enc P f apart true false false W args (.bool true) W' := by
  have hlt : ∀ x ∈ before, x.block < W.heap.size := fun x hx => hW.lt x hx
  have hW0 := hW
  obtain ⟨p, q, hA, hV, rfl, hz, hn⟩ := hW
  rw [hv] at hV
  obtain ⟨rfl, rfl⟩ := trodVars_none hV
  have hlp : ∀ x ∈ p, x.block < W.heap.size := fun x hx => hlt x (by simp [hx])
  have hA' : ∀ sp : Nat → Bool, (∀ x ∈ p, sp x.block = true) → DataW.TrodAll enc P W' 0 sp true f.params.toList args.toList (s.fn H (ds ++ [])).args p := fun sp hsp => by
    rw [hfn.2.1]
    exact trodAll_stays hl hb hr hlp hsp hA
  have hR' : ∀ (b0 : Nat) (sp : Nat → Bool) (hd : Bool), DataW.TrodAll enc P W' b0 sp hd f.resultTypes.toList ((Value.bool true).resultList f.resultTypes.size) (s.fn H (ds ++ [])).results [] := fun b0 sp hd => by
    rw [hfn.1, hres]
    exact trodAll_cons_mk (shut_bool hu _) trodAll_mk0
  have hV' : ∀ sp : Nat → Bool, DataW.TrodVars enc P W' sp s.vars (s.fn H (ds ++ [])).vars [] := fun sp => by
    rw [hfn.2.2, hv]; rfl
  refine ⟨ds, [], p ++ [], [], p, [], hW0, hR' _ _ _, hA' _ (fun x hx => by simpa using hlp x hx), hV' _, World.keptBut_mono (fun x hx => ⟨hx, by simpa using hx⟩) (hb.frame (· ∈ p ++ [])), fun _ => ⟨fun j t r h1 h2 => ?_, _, _, ([] ++ p) ++ [], ⟨[] ++ p, [], trodAll_append (hA' _ fun _ _ => O) (hR' _ _ _), hV' _, O, fun c off hc => ?_, fun ha => by simpa using hn ha⟩, fun x hx _ => by simpa using hx⟩⟩
  · rw [hres] at h1 h2
    cases j with
    | zero =>
      simp at h1
      subst h1
      simp [Value.resultList] at h2
      subst h2
      exact okWide_bool_mk hu _
    | succ j => simp at h1
  · have hin : MemPlace.cell c off ∈ p ++ [] := by simpa using hc
    rw [hb.frozen (hlt _ hin)]
    exact hz c off hin
end
/-
 Arguments opened: a struct of one matrix, a list of integers.
-/
section
variable {H : Type} {enc : TypeId × Value → H} {P : Program}
end
end Go.Proofs.YtopgfgdgfjddpaaGreatDoor.Vc
