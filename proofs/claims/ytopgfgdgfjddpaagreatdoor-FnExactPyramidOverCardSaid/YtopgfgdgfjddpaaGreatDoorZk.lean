/-
  The texts Lx8, F3, Lst, F5, Mkx, Lx9, Open, Opm in one. Conditions: as each part states them.
-/
import Derived.Test.YtopgfgdgfjddpaaGreatDoorZj
import Derived.Test.YtopgfgdgfjddpaaGreatDoorZc
import Derived.Test.YtopgfgdgfjddpaaGreatDoorZb
import Derived.Test.YtopgfgdgfjddpaaGreatDoorZe
import Derived.Test.YtopgfgdgfjddpaaGreatDoorZa
import Derived.Test.YtopgfgdgfjddpaaGreatDoorInst
import Derived.Deep.Matrix
import Derived.Carry
import Derived.Below
import Derived.ChangeSame
import Derived.ProofKit
import Derived.OpenShut
import Derived.Handed
import Derived.Lib.SmallJoins
/-
 Pyramids, walked on both sides. Conditions: the library's table of powers of ten holds what the program's text lays there (the program's side).
-/
namespace Go.Proofs.YtopgfgdgfjddpaaGreatDoor.Vc
open Go.RowKit
/-! the answer -/
def pyL (M : List (List Int)) : List (Int × Int) := prL (offP M M.length + 2) (0 + 2) (rkM M) (gi [-1, 0]) 0 (M.length + 1)
def pyR (M : List (List Int)) : List Int := (pyL M).map (rkP (rkM M) (gi [-1, 0]) 0)
noncomputable def pyB (M : List (List Int)) : List (List Int) := prB (unM M) (UndP 0 []) (pyL M)
noncomputable def pyC (M : List (List Int)) : Int := if gdC M = 0 then (if 5 < M.length + 1 ∨ 500 < (pyR M).length then 3 else mxC (M.length + 1) (pyR M) (pyB M)) else gdC M
noncomputable def pyM (M : List (List Int)) : List (List Int) := if gdC M = 0 then (if 5 < M.length + 1 ∨ 500 < (pyR M).length then [] else mxM (M.length + 1) (pyR M) (pyB M)) else []
theorem py_ok {M : List (List Int)} (h : gdC M = 0) (h5 : M.length + 1 ≤ 5) (h500 : (pyR M).length ≤ 500) : PosP ((M.length + 1 : Nat) : Int) (pyR M) (pyB M) ∧ DiaP ((M.length + 1 : Nat) : Int) (pyR M) (pyB M) ∧ flgP (M.length + 1) (pyR M) (pyB M) ≠ [] := by
 obtain ⟨hMm, hMg⟩ := gdC_0 h
 have l1 := latM hMm hMg.1
 have d1 := dia_of (posP_of hMm hMg.1) hMg.2.2.2.2.1
 have c1 := chn_of (posP_of hMm hMg.1) hMg.2.2.1
 rw [fpR_len] at d1 c1
 have m1 := hMm.1
 have hk : ((M.length + 1 : Nat) : Int) = rnP M.length 0 0 := by unfold rnP; rw [if_pos O]; omega
 have hl : (pyL M).length ≤ 500 := by unfold pyR at h500; rwa [List.length_map] at h500
 exact ⟨prod_pos l1 lat_pt ⟨by omega, h5⟩ hl, prod_dia l1 lat_pt d1 dia_pt ⟨by omega, by omega⟩ hk (by omega) ⟨by omega, .inr O⟩, prod_flg l1 lat_pt c1 chn_pt ⟨by omega, by omega⟩ hk (by omega) ⟨by omega, .inr O⟩⟩
theorem py_bd (M : List (List Int)) : (pyM M).length ≤ 5 ∧ ∀ x ∈ pyM M, x.length ≤ 400 := by
 unfold pyM
 split
 ·rename_i h
  split
  ·exact ⟨Nat.zero_le _, fun x hx => nomatch hx⟩
  rename_i h2
  have := py_ok h (by omega) (by omega)
  exact mx_bd this.1 this.2.1
 exact ⟨Nat.zero_le _, fun x hx => nomatch hx⟩
theorem pt_fcr {w w' : World} {A : Option Addr} {c : Nat} {ks : List Ck} (h : St w w' (CkI 2 A 2 c [-1, 0] :: ks)) : FcR w' A [-1, 0] 0 none [] [] :=
 ⟨rfl, by omega, h.rdI 0 rfl, ⟨RdR.nil, rfl, fun i hi => by omega, fun i hi => by omega⟩, rfl, fun e h0 h1 => by omega⟩
set_option maxHeartbeats 1000000 in
theorem implPyramidOver_c (A : Option Addr) (n c : Nat) (rs : List SlV) (M : List (List Int)) (w : World) (hT : Tab w) (hM : RowsI w A n rs M) (hn : n ≤ c) (hc : c ≤ 9223372036854775807) :
  Ret Tryz.prog 50 [.agg #[.slice A n c]] w (AnsX (pyM M) (pyC M) w) := by
 refine Ret.of_cd Tryz.func50 O Tryz.ntmps50 O (postc2 O O) (Gbo O (Ops.box1 (St.refl w) O O ?_))
 intro A1 w1 hS1
 refine Ops.new1 hS1 O ?_
 intro A2 w2 hS2
 refine Gdo O (Ops.ld_agg 0 (hS2.rd 1 O) O O O (Ops.call (facesOf_c A n c rs M _ (hT.later hS2.below) (hS2.oldRows hM) hn hc) O O O ?_))
 rintro _ w3 (⟨hg, rfl, hst⟩ | ⟨hg, A8, c8, AR, cR, AD, cD, rsD, rfl, hrD, hst⟩)
 ·have hS3 := hS2.later hst.below
  refine Gdo O (Ops.newQ (St.refl w3) O ?_)
  intro A4 w4 hU4
  refine Ops.st_agg 4 0 hU4 O O O O O O O ?_
  intro w5 hU5
  have hS5 := hS3.later hU5.below
  refine Gdc O (Cd.cond_pt O hg (Gao O (Ops.bld0 (by exact inferInstance) O (Gdo O (Ops.st_agg 1 0 hS5 O O O O O O O ?_)))))
  intro w6 hS6
  refine Gdr O (retc2_r O (hS6.rd 0 O) O ?_)
  unfold pyM pyC
  rw [if_neg hg, if_neg hg]
  exact AnsX.none hS6
 obtain ⟨hMm, hMg⟩ := gdC_0 hg
 have m1 := hMm.1
 have hf1 := fcR_of hMm hMg.1 hst
 have hS3 := hS2.later hst.below
 clear hst hS1 hS2
 refine Gdo O (Ops.newQ (St.refl w3) O ?_)
 intro A4 w4 hU4
 refine Ops.st_agg 4 0 hU4 O O O O O O O ?_
 intro w5 hU5
 have hS5 := hS3.later hU5.below
 have hf1 := hf1.later hU5.below
 refine Gdc O ?_
 refine Cd.cond_pf O (fun h => h O) ?_
 refine Gao O (Ops.ld_agg 3 (hU5.rd 0 O) O O O (Ops.bs2 (St.refl w5) O O O O O O ?_))
 intro A18 w6 hU6
 have hU6 : St w5 w6 [CkI 2 A18 2 2 [-1, 0]] := hU6
 have hS6 := hS5.later hU6.below
 refine Ops.bldP1 (by exact inferInstance) (by exact inferInstance) (by exact inferInstance) O O O O O O (Ops.bldQ (by exact inferInstance) (by exact inferInstance) O O O O O O ?_)
 have hk : ((M.length + 1 : Nat) : Int) = rnP M.length 0 0 := by unfold rnP; rw [if_pos O]; omega
 refine Ops.call (product_c A8 A18 c8 2 M.length 1 AR none (offP M M.length) 0 cR 0 AD none (offP M M.length) 0 cD 0 _ [-1, 0] rsD [] (fpB M) [] M.length 0 0 (M.length + 1) _ (hf1.later hU6.below) (pt_fcr hU6) (latM hMm hMg.1) lat_pt ⟨by omega, by omega⟩ hk (by omega) (by omega)) O O O ?_
 rintro _ w7 (⟨hbad, rfl, hst⟩ | ⟨hok, AQ, cQ, AE, cE, rsP, rfl, hrP, hbl, hst⟩)
 ·have hS7 := hS6.later hst.below
  refine Gdo O (Ops.newP (St.refl w7) O ?_)
  intro A6 w8 hU8
  refine Ops.st_agg 3 0 hU8 O O O O O O O ?_
  intro w9 hU9
  have hS9 := hS7.later hU9.below
  refine Gdo O (Ops.ld_agg 2 (hU9.rd 0 O) O O O (Gdo O ?_))
  refine Ops.call (polytopeOf_bad 0 none none 0 0 0 0 3 (by decide) _) O O O ?_
  rintro _ w10 ⟨Am, cm, rsm, rfl, hrm, hst⟩
  have hS10 := hS9.call2 hst
  refine Gdo O (Ops.st_agg 1 0 hS10 O O O O O O O ?_)
  intro w11 hS11
  refine Gdr O (retc2_r O (hS11.rd 0 O) O ?_)
  have hbad : 5 < M.length + 1 ∨ 500 < (pyR M).length := hbad
  unfold pyM pyC
  rw [if_pos hg, if_pos hg, if_pos hbad, if_pos hbad]
  exact ⟨Am, cm, rsm, O, hrm, hS11.sub (show List.Sublist _ (_ :: _ :: _) from ((List.Sublist.refl _).cons _ |>.cons _))⟩
 have hok : M.length + 1 ≤ 5 ∧ (pyR M).length ≤ 500 := hok
 have hpo := py_ok hg hok.1 hok.2
 have hbad : ¬ (5 < M.length + 1 ∨ 500 < (pyR M).length) := by omega
 have hbl : (pyB M).length = (pyR M).length := hbl
 have hRR := hst.rdI 0 O
 have hBB := St.rowsI hst.tail (hbl)
 have hS7 := hS6.later hst.below
 have hT7 := hT.later hS7.below
 refine Gdo O (Ops.newP (St.refl w7) O ?_)
 intro A6 w8 hU8
 refine Ops.st_agg 3 0 hU8 O O O O O O O ?_
 intro w9 hU9
 have hS9 := hS7.later hU9.below
 refine Gdo O (Ops.ld_agg 2 (hU9.rd 0 O) O O O (Gdo O ?_))
 have hBB9 : RowsI w9 AE (pyB M).length rsP (pyB M) := by rw [hbl]; exact hBB.later hU9.below
 refine Ops.call (polytopeOf_c (M.length + 1) AQ AE cQ cE (pyR M) rsP (pyB M) _ (hT7.later hU9.below) (hRR.later hU9.below) hBB9 hpo.1 hpo.2.1 hpo.2.2) O (by rw [hbl]; rfl) O ?_
 rintro _ w10 ⟨Am, cm, rsm, rfl, hrm, hst⟩
 have hS10 := hS9.call2 hst
 refine Gdo O (Ops.st_agg 1 0 hS10 O O O O O O O ?_)
 intro w11 hS11
 refine Gdr O (retc2_r O (hS11.rd 0 O) O ?_)
 unfold pyM pyC
 rw [if_pos hg, if_pos hg, if_neg hbad, if_neg hbad]
 exact ⟨Am, cm, rsm, O, hrm, hS11.sub (show List.Sublist _ (_ :: _ :: _) from ((List.Sublist.refl _).cons _ |>.cons _))⟩
/-! the reference -/
theorem l09Point_c (w : World) : Ret Tryz.prog 113 [] w (fun v w' => ∃ X cx Y cy ys, v = .agg #[.int .i64 0, .slice X (0 + 2) cx, .slice Y (0 + 2) cy] ∧ FaR w' X [-1, 0] 0 Y ys [] ∧ Below w.heap.size w w') := by
 refine Ret.of_cd Tryz.func113 O Tryz.ntmps113 O (postc O O) (Gbo O (Ops.newP (St.refl w) O ?_))
 intro A0 w1 hS1
 refine Gdo O (Ops.bs2 hS1 O O O O O O ?_)
 intro A1 w2 hS2
 refine Ops.bs0 hS2 O ?_
 intro A2 w3 hS3
 refine Ops.bs1I hS3 O O O ?_
 intro A3 w4 hS4
 refine Ops.bs2 hS4 O O O O O O ?_
 intro A4 w5 hS5
 refine Ops.bldP3 (by exact inferInstance) (by exact inferInstance) (by exact inferInstance) O O O O O O O O O O (Ops.st_agg 3 4 hS5 O O O O O O O ?_)
 intro w6 hS6
 refine Gdr O (retc_r O (hS6.rd 4 O) ?_)
 have hS6 : St w w6 (CkR 32 A4 2 2 [⟨A2, 0, 0⟩, ⟨A3, 1, 1⟩] :: CkI 2 A3 1 1 [0] :: CkI 2 A2 0 0 [] :: [CkI 2 A1 2 2 [-1, 0], Bx 93 3 A0 [.int .i64 0, .slice A1 2 2, .slice A4 2 2]]) := hS6
 have hm : St w w6 (mat 32 2 A4 2 2 [⟨A2, 0, 0⟩, ⟨A3, 1, 1⟩] [[], [0]] ++ [CkI 2 A1 2 2 [-1, 0], Bx 93 3 A0 [.int .i64 0, .slice A1 2 2, .slice A4 2 2]]) := hS6.perm ((List.Perm.swap _ _ _).cons _)
 have ha : alBB 0 [] = [[], [0]] := O
 refine ⟨A1, 2, A4, 2, _, O, ⟨O, by omega, hS6.rdI 3 O, by rw [ha]; exact St.rowsI hm O, fun e h0 h1 => by omega⟩, hS6.below⟩
set_option maxHeartbeats 1000000 in
theorem l09MxPt_c (X Z Y W : Option Addr) (cx cz cy cw : Nat) (ys zs : List SlV) (M : List (List Int)) (w6 : World) (hg : gdC M = 0) (hf1 : FaR w6 X (fcR M.length (fpR M M.length)) (offP M M.length) Y ys (fpB M)) (hf2 : FaR w6 Z [-1, 0] 0 W zs []) :
  Ret Tryz.prog 112 [.agg #[.int .i64 (M.length : Int), .slice X (offP M M.length + 2) cx, .slice Y (offP M M.length + 2) cy], .agg #[.int .i64 0, .slice Z (0 + 2) cz, .slice W (0 + 2) cw], .int .i64 0] w6 (AnsX (pyM M) (pyC M) w6) := by
 have hMm := (gdC_0 hg).1
 have hMg := (gdC_0 hg).2
 have m1 := hMm.1
 have hk : ((M.length + 1 : Nat) : Int) = rnP M.length 0 0 := by unfold rnP; rw [if_pos O]; omega
 have hpx := fun (w' : World) (hb : Below w6.heap.size w6 w') => (l09Poset_c X Z Y W cx cz cy cw (offP M M.length) 0 _ [-1, 0] ys zs (fpB M) [] M.length 0 0 (M.length + 1) w' (hf1.later hb) (hf2.later hb) (latM hMm hMg.1) lat_pt ⟨by omega, by omega⟩ hk (by omega) (by omega)).mono fun _ _ h => h.b
 unfold pyM pyC
 rw [if_pos hg, if_pos hg]
 by_cases hok : M.length + 1 ≤ 5 ∧ (pyR M).length ≤ 500
 ·have hpo := py_ok hg hok.1 hok.2
  rw [if_neg (by omega), if_neg (by omega)]
  have hk2 : M.length + 1 ≤ 5 ∧ ((prL (offP M M.length + 2) (0 + 2) (rkM M) (gi [-1, 0]) 0 (M.length + 1)).map (rkP (rkM M) (gi [-1, 0]) 0)).length ≤ 500 := hok
  have := l09Maniplex_c X Z Y W cx cz cy cw _ _ _ _ M.length 0 0 true ((M.length + 1 : Nat) : Int) (M.length + 1) (pyR M) (pyB M) w6 (fun w' hb => by
   have h9 := hpx w' hb
   rw [if_pos hk2, if_pos hk2, if_pos hk2, decide_eq_true hk2] at h9
   exact h9) (fun _ => ⟨O, hpo.1⟩)
  rw [if_pos rfl, if_pos rfl] at this
  exact this
 rw [if_pos (by omega), if_pos (by omega)]
 have hk2 : ¬ (M.length + 1 ≤ 5 ∧ ((prL (offP M M.length + 2) (0 + 2) (rkM M) (gi [-1, 0]) 0 (M.length + 1)).map (rkP (rkM M) (gi [-1, 0]) 0)).length ≤ 500) := hok
 have := l09Maniplex_c X Z Y W cx cz cy cw _ _ _ _ M.length 0 0 false 0 0 [] [] w6 (fun w' hb => by
  have h9 := hpx w' hb
  rw [if_neg hk2, if_neg hk2, if_neg hk2, decide_eq_false hk2] at h9
  exact h9) (fun h => nomatch h)
 rw [if_neg (by decide), if_neg (by decide)] at this
 exact this
set_option maxHeartbeats 1000000 in
theorem specPyramidOver_c (A : Option Addr) (n c : Nat) (rs : List SlV) (M : List (List Int)) (w : World) (hM : RowsI w A n rs M) (hn : n ≤ 9223372036854775807) :
  Ret Tryz.prog 49 [.agg #[.slice A n c]] w (AnsX (pyM M) (pyC M) w) := by
 refine Ret.of_cd Tryz.func49 O Tryz.ntmps49 O (postc2 O O) (Gbo O (Ops.box1 (St.refl w) O O ?_))
 intro A1 w1 hS1
 refine Ops.new1 hS1 O ?_
 intro A2 w2 hS2
 refine Gdo O (Ops.ld_agg 0 (hS2.rd 1 O) O O O (Ops.call (l02Is_c A n c rs M _ (hS2.oldRows hM) hn) O O O ?_))
 rintro _ w3 ⟨rfl, hst⟩
 have hS3 := hS2.later hst.below
 first | refine Ops.not_p rfl rfl ?_ | refine Ops.not rfl rfl ?_
 refine Gdc O ?_
 refine Cd.cond_p _ O (fun h1 => ?_) (fun h1 => ?_)
 ·refine Gao O (Ops.bld0 (by exact inferInstance) O (Ops.st_agg 1 0 hS3 O O O O O O O ?_))
  intro w4 hS4
  refine Gdr O (retc2_r O (hS4.rd 0 O) O ?_)
  have hg := gdC_no h1
  unfold pyM pyC
  rw [hg, if_neg (by decide), if_neg (by decide)]
  exact AnsX.none hS4
 have hMm : Mani M := Classical.not_not.1 h1
 refine Gao O (Ops.ld_agg 0 (hS3.rd 1 O) O O O (Ops.call (l09Good_c A n c rs M _ (hS3.oldRows hM) hn hMm) O O O ?_))
 rintro _ w4 ⟨rfl, hst⟩
 have hS4 := hS3.later hst.below
 refine Gdc O ?_
 refine Cd.cond_p _ O (fun hg => ?_) (fun hg => ?_)
 ·refine Gao O (Ops.bld0 (by exact inferInstance) O (Gdo O (Ops.st_agg 1 0 hS4 O O O O O O O ?_)))
  intro w5 hS5
  refine Gdr O (retc2_r O (hS5.rd 0 O) O ?_)
  unfold pyM pyC
  rw [if_neg hg, if_neg hg]
  exact AnsX.none hS5
 have hg : gdC M = 0 := Classical.not_not.1 hg
 have hMg := (gdC_0 hg).2
 have m1 := hMm.1
 clear hS1 hS2 hS3 hst
 refine Gao O (Ops.ld_agg 0 (hS4.rd 1 O) O O O (Ops.call (l09All_c A n c rs M _ (hS4.oldRows hM) hMm hMg.1) O O O ?_))
 rintro _ w5 ⟨X, cx, Y, cy, ys, rfl, hyl, hst⟩
 have hf1 := faR_of hMm hMg.1 hst
 have hS5 := hS4.later hst.below
 refine Ops.call (l09Point_c _) O O O ?_
 rintro _ w6 ⟨Z, cz, W, cw, zs, rfl, hf2, hb6⟩
 have hf1 := hf1.later hb6
 have hS6 := hS5.later hb6
 refine Ops.call (l09MxPt_c X Z Y W cx cz cy cw ys zs M _ hg hf1 hf2) O O O ?_
 rintro _ w7 ⟨Am, cm, rsm, rfl, hrm, hst7⟩
 have hS7 := hS6.call2 hst7
 refine Gdo O (Ops.new1 hS7 O ?_)
 intro A5 w8 hS8
 refine Ops.st_agg 1 0 hS8 O O O O O O O ?_
 intro w9 hS9
 refine Gdo O (Ops.ld_agg 0 (hS9.rd 0 O) O O O (Gdo O (Ops.st_agg 1 1 hS9 O O O O O O O ?_)))
 intro w10 hS10
 refine Gdr O (retc2_r O (hS10.rd 1 O) O ?_)
 exact ⟨Am, cm, rsm, O, hrm, hS10.sub (show List.Sublist _ (_ :: _ :: _ :: _) from ((List.Sublist.refl _).cons _ |>.cons _ |>.cons _))⟩
/-
 The walks of the program's forms, and of comparisons on both sides.
-/
end Go.Proofs.YtopgfgdgfjddpaaGreatDoor.Vc
/-
 Plain mathematics of the list of maniplexes: forms put in ascending order one by one, and that there is one such order.
-/
namespace Go.Proofs.YtopgfgdgfjddpaaGreatDoor.Vc
abbrev Mx := List (List Int)
/-! the list of a rank and a number of flags -/
def Own1 (N : Nat) (xss : Mx) : Prop := ∀ f, f < N → ¬ lexCC (formL N xss (f : Nat)) xss < 0
instance (N : Nat) (xss : Mx) : Decidable (Own1 N xss) := by unfold Own1; exact inferInstance
end Go.Proofs.YtopgfgdgfjddpaaGreatDoor.Vc
/-
 The walks of the program's least form, and of the reference's numbers of orbits.
-/
namespace Go.Proofs.YtopgfgdgfjddpaaGreatDoor.Vc
open Go.RowKit
section
variable {P : Program} {N : Nat} {ops : Array Oper} {K : Env → World → Prop} {rest : List Oper} {e : Env} {w : World} {d : Nat} {ty : TypeId} {pos : String} {af : Array Edge}
end
theorem St.matAt {w0 w : World} {t1 t2 : TypeId} {A : Option Addr} {n c : Nat} {rs : List SlV} {xss : List (List Int)} {ks : List Ck} (h : St w0 w ks) (hsub : (mat t1 t2 A n c rs xss).Sublist ks) (hl : xss.length = n) : RowsI w A n rs xss := (h.sub hsub).rowsI1 hl
/-! the numbers of orbits -/
/-
 Marks on one maniplex, exact.
-/
/-! marks on one maniplex, exact -/
theorem markMx_c {w0 w : World} {pre post : List Ck} {t1 t2 : TypeId} {A : Option Addr} {n c : Nat} {rs : List SlV} {xss : List (List Int)} (k : Int) (hS : St w0 w (pre ++ (mat t1 t2 A n c rs xss ++ post))) (hrl : rs.length = n) (hxl : xss.length = n) (hn : n ≤ 1000) (hr : ∀ x ∈ xss, x.length ≤ 1000) (hk0 : 0 ≤ k ∧ k ≤ 1000000000000000) :
  Ret Tryz.prog 18 [.agg #[.slice A n c], .int .i64 k] w (fun v w' => v = .int .i64 (k + tot xss) ∧ St w0 w' (pre ++ (mat t1 t2 A n c rs (mkSS k xss) ++ post))) := by
 refine Ret.of_cd Tryz.func18 O Tryz.ntmps18 O (post1 O) (Gbo O (Ops.box1 hS O O ?_))
 intro Ab w1 hS1
 refine Gdo O (Ops.fld (hS1.rd 0 O) O O O O inferInstance (Ops.ldf_s (hS1.rd 0 O) O O O O O (Gdo O (Ops.call (markSS_c (pre := Bx 24 1 Ab [.slice A n c] :: pre) (post := post) (rs := rs) k hS1 hrl hxl hn hr hk0) O O O ?_))))
 rintro _ w2 ⟨rfl, hS2⟩
 refine Gdr O (ret1_i O ?_)
 exact ⟨O, St.tail hS2⟩
theorem heldMx_c (A : Option Addr) (n c : Nat) (rs : List SlV) (xss : List (List Int)) (k : Int) (w : World) (hR : RowsI w A n rs (mkSS k xss)) (hn : n ≤ 1000) (hr : ∀ x ∈ xss, x.length ≤ 1000) (hk0 : 0 ≤ k ∧ k ≤ 1000000000000000) :
  Ret Tryz.prog 19 [.agg #[.slice A n c], .int .i64 k] w (fun v w' => v = .int .i64 (k + tot xss) ∧ St w w' []) := by
 have hl := hR.len
 rw [mkSS_len] at hl
 have htb := tot_le (b := 1000) xss hr
 refine Ret.of_cd Tryz.func19 O Tryz.ntmps19 O (post1 O) (Gbo O (Ops.box1 (St.refl w) O O ?_))
 intro Ab w1 hS1
 refine Gdo O (Ops.fld (hS1.rd 0 O) O O O O inferInstance (Ops.ldf_s (hS1.rd 0 O) O O O O O (Gdo O (Ops.call (heldSS_c A n c rs xss k _ (hS1.oldRows hR) hn hr hk0) O O O ?_))))
 rintro _ w2 ⟨rfl, rfl⟩
 refine Gdc O (Cd.cond_pf O (by omega) (Gar O (ret1_i O ?_)))
 exact ⟨O, hS1.none⟩
/-
 The walk of the law FnExactPyramidOver: it returns true. Conditions: the library's table of powers of ten holds what the program's text lays there.
-/
set_option maxHeartbeats 2000000 in
theorem FnExactPyramidOver_c (A : Option Addr) (n c : Nat) (rs : List SlV) (xss : List (List Int)) (w : World) (hT : Tab w) (hR : RowsI w A n rs xss) (hn : n ≤ 9223372036854775807) :
  Ret Tryz.prog 8 [.agg #[.slice A n c]] w (fun v w' => v = .bool true ∧ St w w' []) := by
 have hxl := hR.len
 have hsm := py_bd xss
 have hS_ := fun A n c rs w hR hn => specPyramidOver_c A n c rs xss w hR hn
 have hI_ := fun A n c rs w hT hR hn hc => implPyramidOver_c A n c rs xss w hT hR hn hc
 generalize pyM xss = L at *
 generalize pyC xss = K at *
 have hr1000 : ∀ x ∈ L, x.length ≤ 1000 := fun x hx => by have := hsm.2 x hx; omega
 have htb := tot_le (b := 1000) L hr1000
 refine Ret.of_cd Tryz.func8 O Tryz.ntmps8 O (post1 O) (Gbo O (Ops.box1 (St.refl w) O O ?_))
 intro Ab w1 hS
 refine Gdo O (Ops.ld_agg 0 (hS.rd 0 O) O O O (Gdo O (Ops.call (szManiplex_c A n c rs xss 1048576 _ (hS.oldRows hR) hn (by omega)) O O O ?_)))
 rintro _ w2 ⟨rfl, hst⟩
 have hS := hS.later hst.below
 refine Gdc O ?_
 refine Cd.cond_p _ O (fun h1 => ?_) (fun h1 => ?_)
 ·refine Gar O (ret1_b O ?_)
  exact ⟨O, hS.none⟩
 have hsmX := small_of hR.top.1 (Int.not_lt.1 h1)
 have hfit := fits_of hR.top.1 (by omega) (Int.not_lt.1 h1)
 refine Gao O (Ops.ld_agg 0 (hS.rd 0 O) O O O (Ops.call (toManiplex_c A n c rs xss _ (hS.oldRows hR) hfit) O O O ?_))
 rintro _ w3 ⟨A1, rs1, rfl, hrl1, hst1⟩
 refine Ops.call (hS_ A1 n n rs1 _ (St.rowsI (ks := []) (by rwa [List.append_nil]) hxl) hn) O O O ?_
 rintro _ w4 ⟨W0, cW, rsW, rfl, hrW, hst2⟩
 have hS4 := (hS.later hst1.below).call hst2
 refine Gdo O (Ops.new1 hS4 O ?_)
 intro A4 w5 hS5
 refine Ops.st_agg 1 0 hS5 O O O O O O O ?_
 intro w6 hS6
 have hS6 := (hS6.perm (List.Perm.cons _ (List.perm_append_singleton _ _)) : St w w6 (Bx 24 1 A4 [.slice W0 L.length cW] :: Bx 51 1 Ab [.slice A n c] :: mat 32 2 W0 L.length cW rsW L))
 refine Gdo O (Ops.ld_agg 0 (hS6.rd 1 O) O O O (Ops.call (toManiplex_c A n c rs xss _ (hS6.oldRows hR) hfit) O O O ?_))
 rintro _ w7 ⟨X, rsX, rfl, hrX, hst3⟩
 have hS7 := hS6.call2 hst3
 refine Ops.new1 hS7 O ?_
 intro A6 w8 hS8
 refine Ops.st_agg 1 0 hS8 O O O O O O O ?_
 intro w9 hS9
 have hS9 : St w w9 ([Bx 24 1 A6 [.slice X n n], Bx 24 1 A4 [.slice W0 L.length cW], Bx 51 1 Ab [.slice A n c]] ++ (mat 32 2 W0 L.length cW rsW L ++ mat 32 2 X n n rsX xss)) := hS9
 have hX9 : RowsI w9 X n rsX xss := hS9.matAt (c := n) ((List.sublist_append_right _ _).trans (List.sublist_append_right [_, _, _] _)) hxl
 refine Gdo O (Ops.ld_agg 0 (hS9.rd 0 O) O O O (Ops.call (hI_ X n n rsX _ (hT.later hS9.below) hX9 (Nat.le_refl _) hn) O O O ?_))
 rintro _ w10 ⟨G, cG, rsG, rfl, hrG, hst4⟩
 have hS10 := hS9.call hst4
 refine Gdo O (Ops.new1 hS10 O ?_)
 intro A7 w11 hS11
 refine Ops.st_agg 1 0 hS11 O O O O O O O ?_
 intro w12 hS12
 generalize hb1 : Bx 51 1 Ab [.slice A n c] = b1 at *
 generalize hb4 : Bx 24 1 A4 [.slice W0 L.length cW] = b4 at *
 generalize hb6 : Bx 24 1 A6 [.slice X n n] = b6 at *
 obtain ⟨b7, hb7⟩ : ∃ b7, b7 = Bx 24 1 A7 [.slice G L.length cG] := ⟨_, rfl⟩
 have hS12 : St w w12 (b7 :: (mat 32 2 G L.length cG rsG L ++ ([b6, b4, b1] ++ (mat 32 2 W0 L.length cW rsW L ++ mat 32 2 X n n rsX xss)))) := by subst hb7; exact hS12
 have hS12 : St w w12 ([b7, b6, b4, b1] ++ (mat 32 2 G L.length cG rsG L ++ (mat 32 2 X n n rsX xss ++ mat 32 2 W0 L.length cW rsW L))) := hS12.perm (List.Perm.cons _ ((List.perm_append_comm_assoc _ _ _).trans (List.Perm.append_left [b6, b4, b1] (List.Perm.append_left _ List.perm_append_comm))))
 have r7 : ∀ {w' : World} {ks : List Ck}, St w w' (b7 :: ks) → Rd w' A7 1 (fun j => [Value.slice G L.length cG].getD j undef) := fun h => by subst hb7; exact h.rd 0 rfl
 have r6 : ∀ {w' : World} {ks : List Ck}, St w w' (b7 :: b6 :: ks) → Rd w' A6 1 (fun j => [Value.slice X n n].getD j undef) := fun h => by subst hb6; exact h.rd 1 rfl
 have r4 : ∀ {w' : World} {ks : List Ck}, St w w' (b7 :: b6 :: b4 :: ks) → Rd w' A4 1 (fun j => [Value.slice W0 L.length cW].getD j undef) := fun h => by subst hb4; exact h.rd 2 rfl
 have r1 : ∀ {w' : World} {ks : List Ck}, St w w' (b7 :: b6 :: b4 :: b1 :: ks) → Rd w' Ab 1 (fun j => [Value.slice A n c].getD j undef) := fun h => by subst hb1; exact h.rd 3 rfl
 have mGa : ∀ {w' : World} {Y : List (List Int)} {ks : List Ck}, Y.length = L.length → St w w' ([b7, b6, b4, b1] ++ (mat 32 2 G L.length cG rsG Y ++ ks)) → RowsI w' G L.length rsG Y := fun hY h => h.matAt (c := cG) ((List.sublist_append_left _ _).trans (List.sublist_append_right _ _)) hY
 have mWa : ∀ {w' : World} {k1 k2 : List Ck}, St w w' ([b7, b6, b4, b1] ++ (k1 ++ (k2 ++ mat 32 2 W0 L.length cW rsW L))) → RowsI w' W0 L.length rsW L := fun h => h.matAt (c := cW) (((List.sublist_append_right _ _).trans (List.sublist_append_right _ _)).trans (List.sublist_append_right _ _)) O
 refine Gdo O (Ops.ld_agg 0 (r7 hS12) O O O (Ops.ld_agg 0 (r4 hS12) O O O (Ops.call (eqManiplex_c G _ cG rsG L W0 _ cW rsW L _ (mGa O hS12) (mWa hS12) (by omega)) O O O ?_)))
 rintro _ w13 ⟨rfl, hst13⟩
 have hS13 := hS12.later hst13.below
 first | refine Ops.not_p rfl rfl ?_ | refine Ops.not rfl rfl ?_
 refine Gdo O ?_
 refine Ops.split_p 36 O (fun h => absurd O h) (fun _ => ?_)
 refine Ops.g O O O (Gdo O (Ops.g O O O (Gdo O (Ops.g O O O (Gdc O ?_)))))
 refine Cd.cond_pf O (fun h => h O) ?_
 have hM13 : RowsI w13 X n rsX xss := hS13.matAt (c := n) (((List.sublist_append_left _ _).trans (List.sublist_append_right _ _)).trans (List.sublist_append_right [b7, b6, b4, b1] _)) hxl
 have hR13 := hS13.oldRows hR
 refine Gac O ?_
 refine Cd.draw [.ex (.agg #[.slice (X) (n) (n)]), .ex (.agg #[.slice (A) (n) (c)]), .pr (fun v w' => ∃ D rd, v = .agg #[.slice D n n] ∧ RowsI w' D n rd xss), xB (true), xB (false)] (by kernel_rfl) (by kernel_rfl) rfl (lx (lx (List.forall_mem_cons.2 ⟨Yd.lasts_pr (fun v w w' h hb => by obtain ⟨D, rd, hv, h1⟩ := h; exact ⟨D, rd, hv, h1.later hb⟩), (lx (lx (fun _ h => by cases h)))⟩))) ?_ ?_
 ·refine ⟨fun _ _ hb _ _ => Ops.ld_agg 0 ((r6 hS13).below hb) O O O (Az O), fun _ _ hb _ _ => Ops.ld_agg 0 ((r1 hS13).below hb) O O O (Az O), ?_, ?_, fun _ _ _ _ _ => Ops.not O O (Az (by exact congrArg Value.bool (O))), trivial⟩
  ·intro e1 w1 hb hp hun; refine Ops.call (toManiplex_c A n c rs xss _ (hR13.later hb) hfit) O O O ?_
   rintro _ w2 ⟨D, rd, rfl, hrd, hst⟩
   refine Ops.n ?_
   exact After.dn hst.below ⟨D, rd, O, St.rowsI (ks := []) (by rwa [List.append_nil]) hxl⟩
  intro e1 w1 hb hp hun
  obtain ⟨D, rd, h43, h1⟩ := (hp 2 (by decide) rfl _ _ rfl rfl)
  refine Ops.call (eqManiplex_c X n n rsX xss D n n rd xss _ (hM13.later hb) h1 hn) O (by exact congrArg (fun v => [Value.agg #[.slice X n n], v]) h43) O ?_
  rintro _ w2 ⟨rfl, hst⟩
  refine Ops.n ?_
  exact After.dn hst.below (by exact congrArg Value.bool (decide_eq_true O))
 intro u w14 hb14 _
 have hS14 := hS13.later hb14
 refine Gec O (Cd.cond_f O (Gao O (Ops.ld_agg 0 (r6 hS14) O O O (Gdo O ?_))))
 refine Ops.call (markManiplex_c (pre := [b7, b6, b4, b1] ++ mat 32 2 G L.length cG rsG L) (post := mat 32 2 W0 L.length cW rsW L) (rs := rsX) (xss := xss) 1 (by rw [List.append_assoc]; exact hS14) hrX hxl hsmX.1 (fun i hi => ?_) (by omega)) O O O ?_
 ·have := (hM13.row i hi).1
  have h2 := (hR.row i hi).1
  have h3 := hsmX.2 i hi
  omega
 rintro _ w15 ⟨K1, ys, rfl, hK1, hyl, hS15⟩
 rw [List.append_assoc] at hS15
 refine Gdo O ?_
 refine Ops.split_p 51 O (fun h => absurd h (by omega)) (fun _ => ?_)
 refine Ops.g O O O (Ops.ld_agg 0 (r7 hS15) O O O (Ops.g O O O (Ops.ld_agg 0 (r4 hS15) O O O (Ops.g O O O (Ops.call (eqManiplex_c G _ cG rsG L W0 _ cW rsW L _ (mGa O hS15) (mWa hS15) (by omega)) O O O ?_)))))
 rintro _ w16 ⟨rfl, hst16⟩
 have hS16 := hS15.later hst16.below
 refine Ops.g O O O ?_
 first | refine Ops.not_p rfl rfl ?_ | refine Ops.not rfl rfl ?_
 refine Gdo O ?_
 refine Ops.split_p 57 O (fun h => absurd O h) (fun _ => ?_)
 refine Ops.g O O O (Gdo O (Ops.g O O O (Gdo O (Ops.g O O O (Gdc O ?_)))))
 refine Cd.cond_pf O (fun h => h O) ?_
 refine Gao O (Ops.ld_agg 0 (r7 hS16) O O O (Gdo O (Ops.call (markMx_c (rs := rsG) (pre := [b7, b6, b4, b1]) (post := mat 32 2 X n n rsX ys ++ mat 32 2 W0 L.length cW rsW L) 1 hS16 hrG O (by omega) hr1000 (by omega)) O O O ?_)))
 rintro _ w17 ⟨rfl, hS17⟩
 refine Gdo O (Ops.ld_agg 0 (r7 hS17) O O O (Gdo O (Ops.call (heldMx_c G _ cG rsG L 1 _ (mGa (mkSS_len _ _) hS17) (by omega) hr1000 (by omega)) O O O ?_)))
 rintro _ w18 ⟨rfl, hst18⟩
 have hS18 := hS17.later hst18.below
 refine Gdc O (Cd.cond_pf O (by omega) (Gac O ?_))
 refine Cd.cond_pf O (fun h => h O) ?_
 refine Gao O (Ops.ld_agg 0 (r1 hS18) O O O (Ops.call (toManiplex_c A n c rs xss _ (hS18.oldRows hR) hfit) O O O ?_))
 rintro _ w19 ⟨A8, rs8, rfl, hrl8, hst19⟩
 refine Ops.call (hI_ A8 n n rs8 _ (hT.later (hS18.later hst19.below).below) (St.rowsI (ks := []) (by rwa [List.append_nil]) hxl) (Nat.le_refl _) hn) O O O ?_
 rintro _ w20 ⟨H, cH, rsH, rfl, hrH, hst20⟩
 have hS20 := (hS18.later hst19.below).call hst20
 refine Gdo O (Ops.new1 hS20 O ?_)
 intro A12 w21 hS21
 refine Ops.st_agg 1 0 hS21 O O O O O O O ?_
 intro w22 hS22
 have hS22 : St w w22 (Bx 24 1 A12 [.slice H L.length cH] :: (mat 32 2 H L.length cH rsH L ++ ([b7, b6, b4, b1] ++ (mat 32 2 G L.length cG rsG (mkSS 1 L) ++ (mat 32 2 X n n rsX ys ++ mat 32 2 W0 L.length cW rsW L))))) := hS22
 have t22 := fun {w' : World} (h : St w w' (Bx 24 1 A12 [.slice H L.length cH] :: (mat 32 2 H L.length cH rsH L ++ ([b7, b6, b4, b1] ++ (mat 32 2 G L.length cG rsG (mkSS 1 L) ++ (mat 32 2 X n n rsX ys ++ mat 32 2 W0 L.length cW rsW L)))))) => h.sub ((List.sublist_append_right _ _).trans (List.sublist_cons_self _ _))
 have m22 : RowsI w22 H L.length rsH L := hS22.matAt (c := cH) ((List.sublist_append_left _ _).trans (List.sublist_cons_self _ _)) O
 refine Gdo O (Ops.ld_agg 0 (hS22.rd 0 O) O O O (Ops.ld_agg 0 (r4 (t22 hS22)) O O O (Ops.call (eqManiplex_c H _ cH rsH L W0 _ cW rsW L _ m22 (mWa (t22 hS22)) (by omega)) O O O ?_)))
 rintro _ w23 ⟨rfl, hst23⟩
 have hS23 := hS22.later hst23.below
 first | refine Ops.not_p rfl rfl ?_ | refine Ops.not rfl rfl ?_
 refine Gdo O ?_
 refine Ops.split_p 83 O (fun h => absurd O h) (fun _ => ?_)
 refine Ops.g O O O (Gdo O (Ops.g O O O (Gdo O (Ops.g O O O (Gdc O ?_)))))
 refine Cd.cond_pf O (fun h => h O) ?_
 refine Gao O (Ops.ld_agg 0 (r7 (t22 hS23)) O O O (Gdo O (Ops.call (heldMx_c G _ cG rsG L 1 _ (mGa (mkSS_len _ _) (t22 hS23)) (by omega) hr1000 (by omega)) O O O ?_)))
 rintro _ w24 ⟨rfl, hst24⟩
 have hS24 := hS23.later hst24.below
 refine Gdc O (Cd.cond_pf O (by omega) (Gac O ?_))
 refine Cd.cond_pf O (fun h => h O) ?_
 refine Gar O (ret1_b O ?_)
 exact ⟨O, hS24.none⟩
end Go.Proofs.YtopgfgdgfjddpaaGreatDoor.Vc
/-
 A statement's frame: the arguments opened, and what a walk gives told in the statement's own words.
-/
namespace Go.Proofs.YtopgfgdgfjddpaaGreatDoor.Vc
open Go.RowKit Go.ChangeShapes Go.WideShapes
theorem laid : laidOutB Tryz.prog = true := by kernel_rfl
theorem own : ownKnob Tryz.prog.godebug = none := by kernel_rfl
section
variable {H : Type} {enc : TypeId × Value → H} {P : Program}
theorem open_mat {w : World} {t e q : TypeId} {fuel : Nat} {cs : List Value} {x : DataW H × List MemPlace} (ht : P.underlying t = some (.slice e)) (he : P.underlying e = some (.slice q)) (hq : P.underlying q = some (.int .i64)) (ce : P.cellsOf e = 1) (cq : P.cellsOf q = 1)
    (h : DataW.trod enc P w 0 (fun _ => true) true fuel t cs = some x) : ∃ A n c rs xss, cs = [.slice A n c] ∧ RowsI w A n rs xss ∧ n ≤ c ∧ c ≤ 9223372036854775807 := by
  rcases Go.Deep.open_int_rows ht he hq ce cq h with ⟨rfl, _⟩ | ⟨a, len, cap, A, L, C, Z, rfl, _, hl, hm, _, hc⟩
  · exact ⟨none, 0, 0, [], [], O, RowsI.nil w, Nat.le_refl _, by omega⟩
  · refine ⟨some a, len, cap, (List.range len).map fun r => ⟨A r, L r, C r⟩, (List.range len).map fun r => (Z r).take (L r), O, ⟨⟨by simp, fun k hk => ?_⟩, by simp, fun i hi => ?_, fun i hi => ?_⟩, hl, by simpa [maxLen] using hm⟩
    · have := (hc k (by omega)).1
      exact ⟨a.add k, O, by rw [this]; simp [List.getD_eq_getElem?_getD, hk, SlV.v]⟩
    · have h1 := hc i (by omega)
      have e1 : ((List.range len).map fun r => (⟨A r, L r, C r⟩ : SlV)).getD i slNil = ⟨A i, L i, C i⟩ := by simp [List.getD_eq_getElem?_getD, hi]
      have e2 : ((List.range len).map fun r => (Z r).take (L r)).getD i [] = (Z i).take (L i) := by simp [List.getD_eq_getElem?_getD, hi]
      rw [e1, e2]
      refine ⟨by simp; omega, fun k hk => ?_⟩
      have hk' : k < L i := hk
      cases hA : A i with
      | none => have := h1.2.2.2.2.2.1 hA; omega
      | some a' =>
        have h2 := (h1.2.2.2.2.2.2 a' hA).2 k (by omega)
        exact ⟨a'.add k, O, by rw [h2]; simp [List.getD_eq_getElem?_getD, List.getElem?_take, hk']⟩
    · have h1 := hc i (by omega)
      have e1 : ((List.range len).map fun r => (⟨A r, L r, C r⟩ : SlV)).getD i slNil = ⟨A i, L i, C i⟩ := by simp [List.getD_eq_getElem?_getD, hi]
      rw [e1]
      exact ⟨h1.2.1, h1.2.2.1⟩
theorem trodAll_stays (hl : laidOutB P = true) {W W' : World} (hb : Below W.heap.size W W') {sp : Nat → Bool} : ∀ {ts : List TypeId} {vs : List Value} {ds : List (DataW H)} {ps : List MemPlace}, (ts.all fun t => P.readableRec t && Nat.blt t P.types.size) = true → (∀ p ∈ ps, p.block < W.heap.size) → (∀ p ∈ ps, sp p.block = true) →
  DataW.TrodAll enc P W 0 (fun _ => true) true ts vs ds ps → DataW.TrodAll enc P W' 0 sp true ts vs ds ps
 | [], [], [], _, _, _, _, h => h
 | t :: ts, v :: vs, d :: ds, ps, hr, hlt, hsp, h => by
  obtain ⟨p, q, h1, h2, rfl⟩ := h
  simp only [List.all_cons, Bool.and_eq_true] at hr
  exact ⟨p, q, WideElems.Trod_stays hl hr.1.1 (by simpa [Nat.blt_eq] using hr.1.2) h1 (fun x hx => hb.same (hlt x (by simp [hx]))) (fun x hx => hsp x (by simp [hx])), trodAll_stays hl hb hr.2 (fun x hx => hlt x (by simp [hx])) (fun x hx => hsp x (by simp [hx])) h2, O⟩
 | [], [], _ :: _, _, _, _, _, h => h.elim
 | [], _ :: _, _, _, _, _, _, h => by cases h
 | _ :: _, [], _, _, _, _, _, h => by cases h
 | _ :: _, _ :: _, [], _, _, _, _, h => by cases h
theorem post_law {f : Func} {s : ChangeSpec} {apart : Bool} {W W' : World} {args : Array Value} {ds gs : List (DataW H)} {before : List MemPlace} (hl : laidOutB P = true) {b : TypeId} (hu : P.underlying b = some .bool) (hres : f.resultTypes = #[b]) (hv : s.vars = [])
    (hr : (f.params.toList.all fun t => P.readableRec t && Nat.blt t P.types.size) = true) (hfn : (s.fn H (ds ++ gs)).results = [.lit (.bool true)] ∧ (s.fn H (ds ++ gs)).args = ds ∧ (s.fn H (ds ++ gs)).vars = [])
    (hW : DataW.Whole enc P f.params.toList s.vars apart W args.toList ds gs before) (hb : Below W.heap.size W W') : s.post enc P f apart true false false W args (.bool true) W' := by
  have hlt : ∀ x ∈ before, x.block < W.heap.size := fun x hx => hW.lt x hx
  have hW0 := hW
  obtain ⟨p, q, hA, hV, rfl, hz, hn⟩ := hW
  rw [hv] at hV
  obtain ⟨rfl, rfl⟩ := trodVars_none hV
  have hlp : ∀ x ∈ p, x.block < W.heap.size := fun x hx => hlt x (by simp [hx])
  have hA' : ∀ sp : Nat → Bool, (∀ x ∈ p, sp x.block = true) → DataW.TrodAll enc P W' 0 sp true f.params.toList args.toList (s.fn H (ds ++ [])).args p := fun sp hsp => by
    rw [hfn.2.1]
    exact trodAll_stays hl hb hr hlp hsp hA
  have hR' : ∀ (b0 : Nat) (sp : Nat → Bool) (hd : Bool), DataW.TrodAll enc P W' b0 sp hd f.resultTypes.toList ((Value.bool true).resultList f.resultTypes.size) (s.fn H (ds ++ [])).results [] := fun b0 sp hd => by
    rw [hfn.1, hres]
    exact trodAll_cons_mk (shut_bool hu _) trodAll_mk0
  have hV' : ∀ sp : Nat → Bool, DataW.TrodVars enc P W' sp s.vars (s.fn H (ds ++ [])).vars [] := fun sp => by
    rw [hfn.2.2, hv]; rfl
  refine ⟨ds, [], p ++ [], [], p, [], hW0, hR' _ _ _, hA' _ (fun x hx => by simpa using hlp x hx), hV' _, World.keptBut_mono (fun x hx => ⟨hx, by simpa using hx⟩) (hb.frame (· ∈ p ++ [])), fun _ => ⟨fun j t r h1 h2 => ?_, _, _, ([] ++ p) ++ [], ⟨[] ++ p, [], trodAll_append (hA' _ fun _ _ => O) (hR' _ _ _), hV' _, O, fun c off hc => ?_, fun ha => by simpa using hn ha⟩, fun x hx _ => by simpa using hx⟩⟩
  · rw [hres] at h1 h2
    cases j with
    | zero =>
      simp at h1
      subst h1
      simp [Value.resultList] at h2
      subst h2
      exact okWide_bool_mk hu _
    | succ j => simp at h1
  · have hin : MemPlace.cell c off ∈ p ++ [] := by simpa using hc
    rw [hb.frozen (hlt _ hin)]
    exact hz c off hin
end
/-
 Arguments opened: a struct of one matrix, a list of integers.
-/
section
variable {H : Type} {enc : TypeId × Value → H} {P : Program}
theorem open_man {w : World} {r : Go.Reach} {b0 : Nat} {t e q : TypeId} {f0 : Field} {v : Value} {d : DataW H} {p : List MemPlace} (hs : P.underlying t = some (.struct #[f0])) (hf0 : f0.offset = 0) (ht : P.underlying f0.type = some (.slice e)) (he : P.underlying e = some (.slice q)) (hq : P.underlying q = some (.int .i64)) (ce : P.cellsOf e = 1) (cq : P.cellsOf q = 1) (cm : P.cellsOf f0.type = 1) (cc : P.cellsOf t = 1) (hval : Value.okWide P w r b0 t v) (h : DataW.Trod enc P w 0 (fun _ => true) true t v d p) : ∃ A n c rs xss, v = .agg #[.slice A n c] ∧ RowsI w A n rs xss ∧ n ≤ c ∧ c ≤ 9223372036854775807 := by
 obtain ⟨cs, rfl, hsz⟩ := okWide_struct hs hval
 obtain ⟨fuel, hf⟩ := h
 obtain ⟨z0, m0, _, _, hz0⟩ := trod_struct1 hs hf
 obtain ⟨A, n, c, rs, xss, e1, hR, hn, hc⟩ := open_mat ht he hq ce cq hz0
 refine ⟨A, n, c, rs, xss, ?_, hR, hn, hc⟩
 have hl : cs.toList.length = 1 := by rw [Array.length_toList, hsz, cc]
 have e1 : (cs.toList.drop f0.offset).take (P.cellsOf f0.type) = [Value.slice A n c] := e1
 rw [hf0, cm, List.drop_zero, List.take_of_length_le (by omega)] at e1
 congr 1
 exact Array.ext' (by rw [e1])
end
end Go.Proofs.YtopgfgdgfjddpaaGreatDoor.Vc
