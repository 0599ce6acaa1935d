/-
  The texts Pv4, Lx3, Lx4, Lx5, F3, Lst, F5, Mkx, Lx7, Open, Opm in one. Conditions: as each part states them.
-/
import Derived.Test.YtopgfgdgfjddpaaGreatDoorZj
import Derived.Test.YtopgfgdgfjddpaaGreatDoorZc
import Derived.Test.YtopgfgdgfjddpaaGreatDoorZb
import Derived.Test.YtopgfgdgfjddpaaGreatDoorZe
import Derived.Test.YtopgfgdgfjddpaaGreatDoorZa
import Derived.Test.YtopgfgdgfjddpaaGreatDoorInst
import Derived.Deep.Matrix
import Derived.Carry
import Derived.Below
import Derived.ChangeSame
import Derived.ProofKit
import Derived.OpenShut
import Derived.Handed
import Derived.Lib.SmallJoins
/-
 The maniplex of a poset's flags, walked in the program. Conditions: the library's table of powers of ten holds what the program's text lays there.
-/
namespace Go.Proofs.YtopgfgdgfjddpaaGreatDoor.Vc
open Go.RowKit
abbrev mvK (A6 : Option Addr) (N : Nat) (mv : List Int) (g : Nat) (L : List (ByteArray × Int)) (A3 A2 Am : Option Addr) (i cm : Nat) (rsm : List SlV) (T : List (List Int)) : List Ck :=
 CkI 2 A6 N N mv :: CkM 138 g (prV Value.string (Value.int .i64) L) :: mxB A3 Am i cm :: mxB A2 none 0 0 :: (mat 32 2 Am i cm rsm T ++ [])
theorem perm_q2 {α : Type} (b m q1 q2 : α) (X : List α) : (b :: q1 :: q2 :: m :: (X ++ [])).Perm (q1 :: q2 :: m :: ((X ++ [b]) ++ [])) := by
 classical
 refine List.perm_iff_count.2 fun z => ?_
 simp only [List.count_append, List.count_cons, List.count_nil]
 omega
set_option maxHeartbeats 4000000 in
theorem maniplexOf_c (n : Nat) (F : Option Addr) (N cF : Nat) (rsF : List SlV) (fl : List (List Int)) (w : World) (hT : Tab w) (hF : RowsI w F N rsF fl) (hl : ∀ x ∈ fl, x.length = n ∧ ∀ e ∈ x, 0 ≤ e ∧ e ≤ 1000) (hNb : NbP n fl) (hN : 0 < N ∧ N ≤ 400) (hn5 : n ≤ 1000) :
  Ret Tryz.prog 90 [.slice F N cF] w (fun v w' => ∃ A' c' rs', v = .agg #[.slice A' n c'] ∧ rs'.length = n ∧ St w w' (mat 32 2 A' n c' rs' (mnP n fl) ++ [])) := by
 have hfl : fl.length = N := hF.len
 have hln : ∀ x ∈ fl, x.length = n := fun x hx => (hl x hx).1
 refine Ret.of_cd Tryz.func90 O Tryz.ntmps90 O (postc O O) (Gbo O (Ops.new1 (St.refl w) O ?_))
 intro A2 w1 hS1
 refine Gdo O (Ops.new1 hS1 O ?_)
 intro A3 w2 hS2
 have hS2 : St w w2 (mxB A3 none 0 0 :: mxB A2 none 0 0 :: (mat 32 2 none 0 0 [] (mnT n fl 0) ++ [])) := (hS2.nil 32).perm (List.perm_append_singleton _ _).symm
 clear hS1
 have hF2 := hS2.oldRows hF
 have h00 := hF2.at_ (i := (0 : Int)) (by omega) (by omega)
 have hn0 : (rg rsF (0 : Int)).n = n := by rw [← h00.1]; exact hln _ (by rw [show (0 : Int) = ((0 : Nat) : Int) from O, gl_mem (by omega)]; exact List.getElem_mem _)
 refine Gdo O (Ops.idx hF2.top.2 O O O (by omega) (by omega) ?_)
 refine Ops.ld_sl hF2.top O (by show (0 : Int).toNat < N; exact hN.1) O O ?_
 refine Ops.len O O (Gdc O ?_)
 refine Cd.loop (α := Nat × (Option Addr × Nat) × List SlV) (fun z => [(0, .slice F N cF), (2, .pointer A2), (3, .pointer A3), (16, .int .i64 (n : Int)), (17, .int .i64 (z.1 : Int))]) (fun z w' => z.1 ≤ n ∧ z.2.2.length = z.1 ∧ St w w' (mxB A3 z.2.1.1 z.1 z.2.1.2 :: mxB A2 none 0 0 :: (mat 32 2 z.2.1.1 z.1 z.2.1.2 z.2.2 (mnT n fl z.1) ++ []))) (fun z => n - z.1) (0, (none, 0), []) ⟨O, O, O, congrArg (fun m : Nat => Value.int .i64 (m : Int)) hn0, O, trivial⟩ ⟨Nat.zero_le _, O, hS2⟩ ?_
 clear hS2 hF2 h00
 rintro ⟨i, ⟨Am, cm⟩, rsm⟩ e w5 ⟨hi, hrm, hS⟩
 dsimp only at hi hrm hS ⊢
 refine Gbc O ?_
 refine Cd.cond_p _ O (fun h1 => ?_) (fun h1 => ?_)
 ·have hin : i < n := by omega
  refine Gao O (Ops.mkmap hS O ?_)
  intro g w6 hS6
  refine Gdo O (Ops.len O O ?_)
  refine Ops.mkI N hS6 O O ⟨by omega, by omega⟩ ?_
  intro A6 w7 hS7
  have hS7 : St w w7 (mvK A6 N (mvF n fl i 0) g [] A3 A2 Am i cm rsm (mnT n fl i)) := by
   have e0 := mvF_0 (n := n) (fl := fl) (i := i)
   rw [hfl] at e0
   rw [e0]
   exact hS7
  clear hS6 hS
  refine Gdo O (Ops.len O O (Gdc O ?_))
  refine Cd.loop (α := Nat × List (ByteArray × Int)) (fun z => [(0, .slice F N cF), (2, .pointer A2), (3, .pointer A3), (4, .int .i64 (i : Int)), (5, .map (some g)), (6, .slice A6 N N), (16, .int .i64 (n : Int)), (17, .int .i64 (i : Int)), (24, .slice F N cF), (25, .int .i64 (N : Int)), (26, .int .i64 (z.1 : Int))]) (fun z w' => z.1 ≤ N ∧ FsP n fl i z.1 z.2 ∧ St w w' (mvK A6 N (mvF n fl i z.1) g z.2 A3 A2 Am i cm rsm (mnT n fl i))) (fun z => N - z.1) (0, []) ⟨O, O, O, O, O, O, O, O, O, O, O, trivial⟩ ⟨Nat.zero_le _, FsP.zero, hS7⟩ ?_
  clear hS7
  rintro ⟨f, L⟩ e1 w8 ⟨hf, hFs, hS⟩
  dsimp only at hf hFs hS ⊢
  refine Gbc O ?_
  refine Cd.cond_p _ O (fun h2 => ?_) (fun h2 => ?_)
  ·have hfN : f < fl.length := by omega
   have hF8 := hS.oldRows hF
   have hrf := hF8.at_ (i := (f : Int)) (by omega) (by omega)
   have hmf : gl fl (f : Int) ∈ fl := by rw [gl_mem hfN]; exact List.getElem_mem _
   have hlf := hl _ hmf
   have hnf : (rg rsF (f : Int)).n = n := by rw [← hrf.1]; exact hlf.1
   have hat := hFs.at_ hfN
   have hpl := hNb.lt hfN hin
   have hmvl := mvF_len (n := n) (fl := fl) (i := i) (f := f)
   refine Gao O (Ops.idx hF8.top.2 O O O (by omega) (by omega) (Ops.ld_sl hF8.top O (by omega) O O (Gdo O (Ops.call (Clone_c _ _ _ (gl fl (f : Int)) _ hrf (by omega)) O O O ?_))))
   rintro _ w9 ⟨A9, c9, rfl, hst⟩
   have hS9 := hS.call hst
   clear hS hst hF8 hrf
   rw [hnf] at hS9 ⊢
   have hS9 : St w w9 (CkI 2 A9 n c9 (gl fl (f : Int)) :: mvK A6 N (mvF n fl i f) g L A3 A2 Am i cm rsm (mnT n fl i)) := hS9
   refine Gdo O (Ops.idx (hS9.rd 0 O) O O O (by omega) (by omega) (Ops.st_int 0 (i := (i : Int)) hS9 O O O (by omega) ?_))
   intro w10 hS10
   have hS10 : St w w10 (CkI 2 A9 n c9 (rstP (gl fl (f : Int)) i) :: mvK A6 N (mvF n fl i f) g L A3 A2 Am i cm rsm (mnT n fl i)) := hS10
   refine Gdo O ?_
   refine Ops.call (keyOf_c A9 n c9 (rstP (gl fl (f : Int)) i) _ (hT.later hS10.below) (hS10.rdI 0 O) (fun x hx => by
    rcases List.mem_or_eq_of_mem_set hx with hx | rfl
    ·have := hlf.2 x hx; omega
    omega) (by omega)) rfl rfl rfl ?_
   rintro _ w11 ⟨rfl, hst⟩
   have hS11 := hS10.tail.later hst.below
   clear hS9 hS10 hst
   refine Gdo O (Ops.lookIok keyS (keyB (rstP (gl fl (f : Int)) i)) (hS11.rdM 1 O) O O O ?_)
   rw [hat]
   by_cases hp : ptP n fl i f < f
   ·rw [if_pos hp]
    have hhit := mvF_hit hNb hin hfN hp
    refine Gdc O (Cd.cond_t O (Gao O (Ops.idx (hS11.rd 0 O) O O O (by omega) (by omega) (Ops.st_int 0 (i := (f : Int)) hS11 O O O (by omega) ?_))))
    intro w12 hS12
    refine Ops.idx (hS12.rd 0 O) O O O (by show (0 : Int) ≤ (ptP n fl i f : Int); omega) (by show (ptP n fl i f : Int) < (N : Int); omega) ?_
    refine Ops.st_int 0 (i := (ptP n fl i f : Int)) hS12 O O O (by omega) ?_
    intro w13 hS13
    refine Gdo O (Ops.add O O O (by omega) (Gdn O (tQ ?_)))
    refine ⟨(f + 1, L), by show N - (f + 1) < N - f; omega, ⟨O, O, O, O, O, O, O, O, O, O, O, trivial⟩, by show f + 1 ≤ N; omega, hFs.hit hNb hin hfN hp, ?_⟩
    show St w w13 (mvK A6 N (mvF n fl i (f + 1)) g L A3 A2 Am i cm rsm (mnT n fl i))
    rw [hhit]
    exact hS13
   rw [if_neg hp]
   have hmis := mvF_miss hNb hin hfN hp
   refine Gdc O (Cd.cond_f O (Gao O (Ops.upm O keyS 1 (u := (f : Int)) (a := keyB (rstP (gl fl (f : Int)) i)) (vv := Value.int .i64) hS11 O O O O ?_)))
   intro w12 hS12
   refine Gdo O (Ops.add O O O (by omega) (Gdn O (tQ ?_)))
   refine ⟨(f + 1, putA L (keyB (rstP (gl fl (f : Int)) i)) (f : Int)), by show N - (f + 1) < N - f; omega, ⟨O, O, O, O, O, O, O, O, O, O, O, trivial⟩, by show f + 1 ≤ N; omega, hFs.miss hNb hln hin hfN hp, ?_⟩
   show St w w12 (mvK A6 N (mvF n fl i (f + 1)) g _ A3 A2 Am i cm rsm (mnT n fl i))
   rw [hmis]
   exact hS12
  have hfe : f = fl.length := by omega
  subst hfe
  rw [mvF_all hNb hin] at hS
  have hmn := mnT_next n fl i
  have hS : St w w8 (CkI 2 A6 N N (mvP n fl i) :: mxB A3 Am i cm :: mxB A2 none 0 0 :: (mat 32 2 Am i cm rsm (mnT n fl i) ++ [])) := hS.sub ((List.Sublist.refl _).cons _ |>.cons_cons _)
  refine Gax O (thenQ_x (Gfo O ?_))
  refine Ops.fld (hS.rd 1 O) O O O O inferInstance (Ops.ldf_s (j := 0) (hS.rd 1 O) O O O O O (Gdo O (Ops.bs1R hS O O O ?_)))
  intro A9 w9 hS9
  refine Ops.appR 4 hS9 O (hS9.rdR 0 O) O O O (by omega) (by omega) O ?_
  intro AZ cZ w10 hS10
  refine Ops.fld (hS10.rd 2 O) O O O O inferInstance (Ops.stf 2 (j := 0) hS10 O O O O O ?_)
  intro w11 hS11
  have hS11 := hS11.tail
  have hS11 := hS11.perm (perm_q2 _ _ _ _ _)
  refine Gdo O (Ops.add O O O (by omega) (Gdn O (tQ ?_)))
  refine ⟨(i + 1, (AZ, cZ), rsm ++ [⟨A6, N, N⟩]), by show n - (i + 1) < n - i; omega, ⟨O, O, O, O, O, trivial⟩, by show i + 1 ≤ n; omega, by show (rsm ++ [_]).length = i + 1; rw [List.length_append, hrm]; rfl, ?_⟩
  show St w w11 (mxB A3 AZ (i + 1) cZ :: mxB A2 none 0 0 :: (mat 32 2 AZ (i + 1) cZ (rsm ++ [_]) (mnT n fl (i + 1)) ++ []))
  rw [hmn]
  unfold mat
  rw [rowsCk_snoc (by rw [hrm, mnT_len])]
  exact hS11
 obtain rfl : i = n := by omega
 refine Gax O (thenQ_x (Gfo O ?_))
 refine Ops.ld_agg 0 (hS.rd 0 O) O O O (Ops.st_agg 1 1 hS O O O O O O O ?_)
 intro w6 hS6
 refine Gdr O (retc_r O (hS6.rd 1 O) ?_)
 exact ⟨Am, cm, rsm, O, hrm, hS6.sub (show List.Sublist _ (_ :: _ :: _) from ((List.Sublist.refl _).cons _ |>.cons _))⟩
noncomputable def mxC (n : Nat) (R : List Int) (B : List (List Int)) : Int := flgK n R B
noncomputable def mxM (n : Nat) (R : List Int) (B : List (List Int)) : List (List Int) := if flgK n R B = 0 then mnP n (flgP n R B) else []
theorem mx_few {n : Nat} {R : List Int} {B : List (List Int)} (h : (flgP n R B).length ≤ 400) : flgK n R B = 0 ∧ flgL n R B = flgP n R B ∧ mxM n R B = mnP n (flgP n R B) := by
 have e : flgK n R B = 0 := by unfold flgK; rw [if_pos h]
 refine ⟨e, by unfold flgL; rw [if_pos h], by unfold mxM; rw [if_pos e]⟩
theorem mx_many {n : Nat} {R : List Int} {B : List (List Int)} (h : ¬ (flgP n R B).length ≤ 400) : flgK n R B = 3 ∧ mxM n R B = [] := by
 have e : flgK n R B = 3 := by unfold flgK; rw [if_neg h]
 exact ⟨e, by unfold mxM; rw [if_neg (by rw [e]; decide)]⟩
theorem flg_el {n : Nat} {R : List Int} {B : List (List Int)} (hP : PosP n R B) : ∀ x ∈ flgP n R B, x.length = n ∧ ∀ e ∈ x, 0 ≤ e ∧ e ≤ 1000 := fun x hx => by
 have hn := hP.n1
 have hb := hP.big
 have h := (flgP_mem (by omega)).1 hx
 refine ⟨h.1, fun e he => ?_⟩
 obtain ⟨k, hk, rfl⟩ := List.mem_iff_getElem.1 he
 have := (h.2.1 k (by omega)).1
 rw [gi_mem hk] at this
 omega
set_option maxHeartbeats 1000000 in
theorem polytopeOf_c (n : Nat) (A D : Option Addr) (cA cD : Nat) (R : List Int) (rs : List SlV) (B : List (List Int)) (w : World) (hT : Tab w) (hR : RdI w A R.length R) (hB : RowsI w D B.length rs B) (hP : PosP n R B) (hD : DiaP n R B) (hne : flgP n R B ≠ []) :
  Ret Tryz.prog 116 [.agg #[.int .i64 n, .slice A R.length cA, .slice D B.length cD], .int .i64 0] w (AnsX (mxM n R B) (mxC n R B) w) := by
 have hn := hP.n1
 refine Ret.of_cd Tryz.func116 O Tryz.ntmps116 O (postc2 O O) (Gbo O (Ops.box3T (St.refl w) O O ?_))
 intro A2 w1 hS1
 refine Ops.new1 hS1 O ?_
 intro A4 w2 hS2
 refine Gdc O ?_
 refine Cd.cond_pf O (fun h => h O) ?_
 refine Gao O (Ops.ld_agg 2 (hS2.rd 1 O) O O O (Ops.call (flagsOf_c n A D cA cD R rs B _ (hS2.oldI hR) (hS2.oldRows hB) hP) O O O ?_))
 rintro _ w3 ⟨AF, cF, rsF, rfl, hrF, hst⟩
 have hb4 := Rd.below (hS2.rd 0 O) hst.below
 by_cases hf : (flgP n R B).length ≤ 400
 ·obtain ⟨e1, e2, e3⟩ := mx_few hf
  have e4 : mxC n R B = 0 := e1
  rw [e2] at hst ⊢
  rw [e1, e3, e4]
  rw [e2] at hrF
  have hF : RowsI w3 AF (flgP n R B).length rsF (flgP n R B) := hst.rowsI O
  have hS3 := hS2.later hst.below
  refine Gdc O (Cd.cond_f O (Gao O ?_))
  have hT3 := hT.later hS3.below
  refine Ops.call (maniplexOf_c n AF _ cF rsF _ _ hT3 hF (flg_el hP) (flg_NbP hP hD) ⟨List.length_pos_iff.2 hne, hf⟩ (by omega)) O O O ?_
  rintro _ w4 ⟨Am, cm, rsm, rfl, hrm, hst4⟩
  have hml := mn_len n (flgP n R B)
  have hS4 := (hS3.call hst4).perm List.perm_append_comm
  refine Ops.st_agg 1 0 hS4 O O O O O O O ?_
  intro w5 hS5
  refine Gdr O (retc2_r O (hS5.rd 0 O) O ?_)
  refine ⟨Am, cm, rsm, by rw [hml]; rfl, by rw [hml]; exact hrm, ?_⟩
  rw [hml]
  have h9 := hS5.sub (show List.Sublist _ (_ :: _ :: _) from ((List.Sublist.refl _).cons _ |>.cons _))
  rwa [List.append_nil] at h9
 obtain ⟨e1, e3⟩ := mx_many hf
 have e4 : mxC n R B = 3 := e1
 rw [e1, e3, e4]
 have hS3 := hS2.later hst.below
 refine Gdc O (Cd.cond_t O (Gao O (Ops.bld0 (by exact inferInstance) O (Gdo O (Ops.st_agg 1 0 hS3 O O O O O O O ?_)))))
 intro w5 hS5
 refine Gdr O (retc2_r O (hS5.rd 0 O) O ?_)
 exact AnsX.none hS5
/-
 The maniplex of a product, walked on both sides. Conditions: the library's table of powers of ten holds what the program's text lays there (the program's side).
-/
/-! the answer -/
noncomputable def poC (M K : List (List Int)) (kind : Int) : Int := if ppC M K kind = 0 then mxC (pdN M K kind) (pdR M K kind) (pdB M K kind) else ppC M K kind
noncomputable def poM (M K : List (List Int)) (kind : Int) : List (List Int) := if ppC M K kind = 0 then mxM (pdN M K kind) (pdR M K kind) (pdB M K kind) else []
theorem pp_0 {M K : List (List Int)} {kind : Int} (h : ppC M K kind = 0) : prC M K kind = 0 ∧ pdN M K kind ≤ 5 ∧ (pdR M K kind).length ≤ 500 := by
 unfold ppC at h
 split at h
 ·rename_i h1
  refine ⟨h1, ?_⟩
  by_cases h2 : 5 < pdN M K kind ∨ 500 < (pdR M K kind).length
  ·rw [if_pos h2] at h; exact absurd h (by decide)
  omega
 contradiction
theorem pd_ok {M K : List (List Int)} {kind : Int} (h : ppC M K kind = 0) : PosP (pdN M K kind : Nat) (pdR M K kind) (pdB M K kind) ∧ DiaP (pdN M K kind : Nat) (pdR M K kind) (pdB M K kind) ∧ flgP (pdN M K kind) (pdR M K kind) (pdB M K kind) ≠ [] := by
 obtain ⟨hp, h5, h500⟩ := pp_0 h
 obtain ⟨hkd, hgM, hgK⟩ := prC_0 hp
 obtain ⟨hMm, hMg⟩ := gdC_0 hgM
 obtain ⟨hKm, hKg⟩ := gdC_0 hgK
 have l1 := latM hMm hMg.1
 have l2 := latM hKm hKg.1
 have d1 := dia_of (posP_of hMm hMg.1) hMg.2.2.2.2.1
 have d2 := dia_of (posP_of hKm hKg.1) hKg.2.2.2.2.1
 have c1 := chn_of (posP_of hMm hMg.1) hMg.2.2.1
 have c2 := chn_of (posP_of hKm hKg.1) hKg.2.2.1
 rw [fpR_len] at d1 d2 c1 c2
 have hk := pdN_rn (kind := kind) hMm hKm
 have m1 := hMm.1; have k1 := hKm.1
 have hrn : 2 ≤ rnP M.length K.length kind := by unfold rnP; split <;> omega
 have hl : (pdL M K kind).length ≤ 500 := by unfold pdR at h500; rwa [List.length_map] at h500
 exact ⟨prod_pos l1 l2 ⟨by omega, h5⟩ hl, prod_dia l1 l2 d1 d2 hkd hk (by omega) ⟨by omega, .inl (by omega)⟩, prod_flg l1 l2 c1 c2 hkd hk (by omega) ⟨by omega, .inl (by omega)⟩⟩
theorem mx_bd {n : Nat} {R : List Int} {B : List (List Int)} (hP : PosP n R B) (hD : DiaP n R B) : (mxM n R B).length ≤ 5 ∧ ∀ x ∈ mxM n R B, x.length ≤ 400 := by
 have hn := hP.n1
 unfold mxM
 split
 ·rename_i h
  have hf : (flgP n R B).length ≤ 400 := by
   unfold flgK at h
   split at h
   ·assumption
   exact absurd h (by decide)
  refine ⟨by rw [mn_len]; omega, fun x hx => ?_⟩
  obtain ⟨i, hi, rfl⟩ := (mn_mem (flg_NbP hP hD)).1 hx
  rw [mn_rl (flg_NbP hP hD) hi]; exact hf
 exact ⟨Nat.zero_le _, fun x hx => nomatch hx⟩
theorem po_bd5 (M K : List (List Int)) (kind : Int) : (poM M K kind).length ≤ 5 ∧ ∀ x ∈ poM M K kind, x.length ≤ 400 := by
 unfold poM
 split
 ·rename_i h
  have := pd_ok h
  exact mx_bd this.1 this.2.1
 exact ⟨Nat.zero_le _, fun x hx => nomatch hx⟩
theorem St.mergeM {w0 w : World} {Ab D AD : Option Addr} {b d e f : Nat} {rs : List SlV} {B : List (List Int)} (h : St w0 w [mxB Ab D e f]) (h' : St w0 w (mat 32 2 AD b d rs B)) : St w0 w (mxB Ab D e f :: mat 32 2 AD b d rs B) := by
 have h' : St w0 w (mat 32 2 AD b d rs B ++ []) := by rw [List.append_nil]; exact h'
 have := h.merge h' (fun k hk => by obtain rfl := List.mem_singleton.1 hk; rfl) (fun k hk => (mat_e k hk).1) (fun k hk k' hk' => by
  obtain rfl := List.mem_singleton.1 hk
  rcases (mat_e k' hk').2 with e | e
  ·rw [e]; exact (by decide : ¬ (24 = 32))
  rw [e]; exact (by decide : ¬ (24 = 2)))
 rwa [List.append_nil] at this
/-! the program -/
theorem polytopeOf_bad (p : Int) (A D : Option Addr) (a cA d cD : Nat) (K : Int) (hK : K ≠ 0) (w : World) :
  Ret Tryz.prog 116 [.agg #[.int .i64 p, .slice A a cA, .slice D d cD], .int .i64 K] w (AnsX [] K w) := by
 refine Ret.of_cd Tryz.func116 O Tryz.ntmps116 O (postc2 O O) (Gbo O (Ops.box3T (St.refl w) O O ?_))
 intro A2 w1 hS1
 refine Ops.new1 hS1 O ?_
 intro A4 w2 hS2
 refine Gdc O (Cd.cond_pt O hK (Gao O (Ops.bld0 (by exact inferInstance) O (Gdo O (Ops.st_agg 1 0 hS2 O O O O O O O ?_)))))
 intro w3 hS3
 refine Gdr O (retc2_r O (hS3.rd 0 O) O ?_)
 exact AnsX.none hS3
theorem polytopeOfP_c (M K : List (List Int)) (kind : Int) (A D : Option Addr) (cA cD : Nat) (rs : List SlV) (w : World) (hT : Tab w) (hR : RdI w A (ppR M K kind).length (ppR M K kind)) (hB : RowsI w D (ppB M K kind).length rs (ppB M K kind)) :
  Ret Tryz.prog 116 [.agg #[.int .i64 (ppN M K kind), .slice A (ppR M K kind).length cA, .slice D (ppB M K kind).length cD], .int .i64 (ppC M K kind)] w (AnsX (poM M K kind) (poC M K kind) w) := by
 unfold poM poC
 by_cases h : ppC M K kind = 0
 ·rw [if_pos h, if_pos h]
  have hok := pd_ok h
  have e1 : ppN M K kind = (pdN M K kind : Nat) := by unfold ppN; rw [if_pos h]
  have e2 : ppR M K kind = pdR M K kind := by unfold ppR; rw [if_pos h]
  have e3 : ppB M K kind = pdB M K kind := by unfold ppB; rw [if_pos h]
  rw [e1, h]
  rw [e2] at hR ⊢
  rw [e3] at hB ⊢
  exact polytopeOf_c (pdN M K kind) A D cA cD _ rs _ w hT hR hB hok.1 hok.2.1 hok.2.2
 rw [if_neg h, if_neg h]
 exact polytopeOf_bad _ A D _ cA _ cD _ h w
/-! the reference -/
set_option maxHeartbeats 2000000 in
theorem l09Maniplex_c (X8 Z8 Y8 W8 : Option Addr) (cx cz cy cw : Nat) (a1 a2 a3 a4 : Nat) (n1 n2 kind : Int) (ok : Bool) (N : Int) (k : Nat) (R : List Int) (B : List (List Int)) (w : World) (hpx : ∀ w', Below w.heap.size w w' → Ret Tryz.prog 103 [.agg #[.int .i64 n1, .slice X8 a1 cx, .slice Y8 a2 cy], .agg #[.int .i64 n2, .slice Z8 a3 cz, .slice W8 a4 cw], .int .i64 kind] w' (AnsPb N R B ok w')) (hQ : ok = true → N = (k : Int) ∧ PosP k R B) :
  Ret Tryz.prog 112 [.agg #[.int .i64 n1, .slice X8 a1 cx, .slice Y8 a2 cy], .agg #[.int .i64 n2, .slice Z8 a3 cz, .slice W8 a4 cw], .int .i64 kind] w (AnsX (if ok = true then mxM k R B else []) (if ok = true then mxC k R B else 3) w) := by
 refine Ret.of_cd Tryz.func112 O Tryz.ntmps112 O (postc2 O O) (Gbo O (Ops.box3T (St.refl w) O O ?_))
 intro A3 w1 hS1
 refine Ops.box3T hS1 O O ?_
 intro A4 w2 hS2
 refine Ops.new1 hS2 O ?_
 intro A6 w3 hS3
 refine Gdo O (Ops.ld_agg 2 (hS3.rd 2 O) O O O (Ops.ld_agg 2 (hS3.rd 1 O) O O O (Gdo O (Ops.call (hpx _ hS3.below) O O O ?_))))
 rintro _ w4 ⟨AR, cR, AD, cD, rsD, rfl, hrD, hst⟩
 have hRR := hst.rdI 0 O
 have hBB : RowsI w4 AD B.length rsD B := St.rowsI hst.tail O
 have hS4 := hS3.later hst.below
 clear hst hS3 hS2 hS1
 refine Gdo O (Ops.newP (St.refl w4) O ?_)
 intro A8 w5 hU5
 refine Ops.st_agg 3 0 hU5 O O O O O O O ?_
 intro w6 hU6
 have hS6 := hS4.later hU6.below
 have hb8 := hU6.rd 0 O
 have hRR := hRR.later hU6.below
 have hBB := hBB.later hU6.below
 cases ok
 ·refine Gdo O ?_
  first | refine Ops.not_p rfl rfl ?_ | refine Ops.not rfl rfl ?_
  refine Gdc O (Cd.cond_t O (Gao O (Ops.bld0 (by exact inferInstance) O (Ops.st_agg 1 0 hS6 O O O O O O O ?_))))
  intro w7 hS7
  refine Gdr O (retc2_r O (hS7.rd 0 O) O ?_)
  exact AnsX.none hS7
 obtain ⟨rfl, hP⟩ := hQ rfl
 rw [if_pos rfl, if_pos rfl]
 have hn := hP.n1
 refine Gdo O ?_
 first | refine Ops.not_p rfl rfl ?_ | refine Ops.not rfl rfl ?_
 refine Gdc O (Cd.cond_f O (Gao O (Ops.ld_agg 2 hb8 O O O (Ops.call (l03Flags_c k AR AD cR cD R rsD B _ hRR hBB hP) O O O ?_))))
 rintro _ w7 ⟨AF, cF, rsF, rfl, hrF, hst⟩
 have hS7 := hS6.later hst.below
 have hb8 := Rd.below hb8 hst.below
 by_cases hf : (flgP k R B).length ≤ 400
 ·obtain ⟨e1, e2, e3⟩ := mx_few hf
  have e4 : mxC k R B = 0 := e1
  rw [cap_few (cap_few'.2 hf)] at hst hrF ⊢
  rw [e3, e4]
  have hF : RowsI w7 AF (flgP k R B).length rsF (flgP k R B) := hst.rowsI O
  refine Gdo O ?_
  first | refine Ops.not_p rfl rfl ?_ | refine Ops.not rfl rfl ?_
  refine Gdc O ?_
  refine Cd.cond_pf O (fun h => h hf) ?_
  refine Gao O (Ops.ld_agg 2 hb8 O O O (Gdo O ?_))
  refine Ops.call (l03Maniplex_c k AR AD AF _ cR _ cD _ cF rsF _ _ hF (fun x hx => (flg_el hP x hx).1) (flgP_SL k R B).nodup hf (by omega)) O O O ?_
  rintro _ w8 ⟨Am, cm, rsm, rfl, hrm, hst8⟩
  have hml := mn_len k (flgP k R B)
  have hS8 := hS7.call2 hst8
  refine Ops.st_agg 1 0 hS8 O O O O O O O ?_
  intro w9 hS9
  refine Gdr O (retc2_r O (hS9.rd 0 O) O ?_)
  refine ⟨Am, cm, rsm, by rw [hml]; rfl, by rw [hml]; exact hrm, ?_⟩
  rw [hml]
  have h9 := hS9.sub (show List.Sublist _ (_ :: _ :: _ :: _) from ((List.Sublist.refl _).cons _ |>.cons _ |>.cons _))
  rwa [List.append_nil] at h9
 obtain ⟨e1, e3⟩ := mx_many hf
 have e4 : mxC k R B = 3 := e1
 rw [e3, e4]
 refine Gdo O ?_
 first | refine Ops.not_p rfl rfl ?_ | refine Ops.not rfl rfl ?_
 refine Gdc O (Cd.cond_pt O hf (Gao O (Ops.bld0 (by exact inferInstance) O (Ops.st_agg 1 0 hS7 O O O O O O O ?_))))
 intro w8 hS8
 refine Gdr O (retc2_r O (hS8.rd 0 O) O ?_)
 exact AnsX.none hS8
/-
 The maniplex of a product, walked in the reference.
-/
theorem ppPoset_c {M K : List (List Int)} {kind : Int} (h1 : prC M K kind = 0) : ∃ ok : Bool, (ok = true ↔ ppC M K kind = 0) ∧ (ok = false → ppC M K kind = 3) ∧
  ∀ X Z Y W cx cz cy cw ys1 ys2 w', FaR w' X (fcR M.length (fpR M M.length)) (offP M M.length) Y ys1 (fpB M) → FaR w' Z (fcR K.length (fpR K K.length)) (offP K K.length) W ys2 (fpB K) → Ret Tryz.prog 103 [.agg #[.int .i64 (M.length : Int), .slice X (offP M M.length + 2) cx, .slice Y (offP M M.length + 2) cy], .agg #[.int .i64 (K.length : Int), .slice Z (offP K K.length + 2) cz, .slice W (offP K K.length + 2) cw], .int .i64 kind] w' (AnsPb (ppN M K kind) (ppR M K kind) (ppB M K kind) ok w') := by
 obtain ⟨hkd, hgM, hgK⟩ := prC_0 h1
 obtain ⟨hMm, hMg⟩ := gdC_0 hgM
 obtain ⟨hKm, hKg⟩ := gdC_0 hgK
 have h5 := hMm.1; have h6 := hKm.1
 have hok := pp_if h1
 have hpN : (if pdN M K kind ≤ 5 ∧ (pdR M K kind).length ≤ 500 then ((pdN M K kind : Nat) : Int) else 0) = ppN M K kind := by
  unfold ppN
  by_cases h : pdN M K kind ≤ 5 ∧ (pdR M K kind).length ≤ 500
  ·rw [if_pos h, if_pos (hok.1 h)]
  rw [if_neg h, if_neg (by rw [hok.2 h]; decide)]
 have hpR : (if pdN M K kind ≤ 5 ∧ (pdR M K kind).length ≤ 500 then pdR M K kind else []) = ppR M K kind := by
  unfold ppR
  by_cases h : pdN M K kind ≤ 5 ∧ (pdR M K kind).length ≤ 500
  ·rw [if_pos h, if_pos (hok.1 h)]
  rw [if_neg h, if_neg (by rw [hok.2 h]; decide)]
 have hpB : (if pdN M K kind ≤ 5 ∧ (pdR M K kind).length ≤ 500 then pdB M K kind else []) = ppB M K kind := by
  unfold ppB
  by_cases h : pdN M K kind ≤ 5 ∧ (pdR M K kind).length ≤ 500
  ·rw [if_pos h, if_pos (hok.1 h)]
  rw [if_neg h, if_neg (by rw [hok.2 h]; decide)]
 refine ⟨decide (pdN M K kind ≤ 5 ∧ (pdR M K kind).length ≤ 500), ?_, fun h => hok.2 (of_decide_eq_false h), fun X Z Y W cx cz cy cw ys1 ys2 w' hf1 hf2 => ?_⟩
 ·rw [decide_eq_true_eq]
  refine ⟨hok.1, fun h => Classical.byContradiction fun h' => ?_⟩
  rw [hok.2 h'] at h
  exact absurd h (by decide)
 have := (l09Poset_c X Z Y W cx cz cy cw (offP M M.length) (offP K K.length) _ _ ys1 ys2 (fpB M) (fpB K) M.length K.length kind (pdN M K kind) w' hf1 hf2 (latM hMm hMg.1) (latM hKm hKg.1) hkd (pdN_rn hMm hKm) (by omega) (by omega)).mono fun _ _ h => h.b
 rw [← hpN, ← hpR, ← hpB]
 exact this
set_option maxHeartbeats 2000000 in
theorem specProductOf_c (A D : Option Addr) (n c m d : Nat) (rs ts : List SlV) (M K : List (List Int)) (kind : Int) (w : World) (hM : RowsI w A n rs M) (hK : RowsI w D m ts K) (hn : n ≤ 9223372036854775807) (hm : m ≤ 9223372036854775807) :
  Ret Tryz.prog 51 [.agg #[.slice A n c], .agg #[.slice D m d], .int .i64 kind] w (AnsX (poM M K kind) (poC M K kind) w) := by
 refine Ret.of_cd Tryz.func51 O Tryz.ntmps51 O (postc2 O O) (Gbo O (Ops.box1 (St.refl w) O O ?_))
 intro A3 w1 hS1
 refine Ops.box1 hS1 O O ?_
 intro A4 w2 hS2
 refine Ops.new1 hS2 O ?_
 intro A6 w3 hS3
 refine Gdo O (Ops.ld_agg 0 (hS3.rd 2 O) O O O (Ops.ld_agg 0 (hS3.rd 1 O) O O O (Gdo O (Ops.call (l09Code_c A D n c m d rs ts M K kind _ (hS3.oldRows hM) (hS3.oldRows hK) hn hm) O O O ?_))))
 rintro _ w4 ⟨rfl, hst⟩
 have hS4 := hS3.later hst.below
 clear hst hS3 hS2 hS1
 refine Gdc O ?_
 refine Cd.cond_p _ O (fun h1 => ?_) (fun h1 => ?_)
 ·refine Gao O (Ops.bld0 (by exact inferInstance) O (Gdo O (Ops.st_agg 1 0 hS4 O O O O O O O ?_)))
  intro w5 hS5
  refine Gdr O (retc2_r O (hS5.rd 0 O) O ?_)
  have hp : ppC M K kind = prC M K kind := by unfold ppC; rw [if_neg h1]
  unfold poM poC
  rw [hp, if_neg h1, if_neg h1]
  exact AnsX.none hS5
 have h1 : prC M K kind = 0 := Classical.not_not.1 h1
 obtain ⟨hkd, hgM, hgK⟩ := prC_0 h1
 obtain ⟨hMm, hMg⟩ := gdC_0 hgM
 obtain ⟨hKm, hKg⟩ := gdC_0 hgK
 have hM4 := hS4.oldRows hM
 have hK4 := hS4.oldRows hK
 have hb3 := hS4.rd 2 O
 have hb4 := hS4.rd 1 O
 obtain ⟨ok, hok1, hok2, hPx⟩ := ppPoset_c h1
 have hP : ok = true → ppN M K kind = ((pdN M K kind : Nat) : Int) ∧ PosP ((pdN M K kind : Nat) : Int) (ppR M K kind) (ppB M K kind) := fun h => by
  have h0 := hok1.1 h
  have hd := (pd_ok h0).1
  unfold ppN ppR ppB
  rw [if_pos h0, if_pos h0, if_pos h0]
  exact ⟨O, hd⟩
 have e1 : (if ok = true then mxM (pdN M K kind) (ppR M K kind) (ppB M K kind) else []) = poM M K kind := by
  cases ok
  ·have h3 := hok2 O
   unfold poM
   rw [if_neg (by decide), if_neg (by rw [h3]; decide)]
  have h0 := hok1.1 O
  unfold poM ppR ppB
  rw [if_pos rfl, if_pos h0, if_pos h0, if_pos h0]
 have e2 : (if ok = true then mxC (pdN M K kind) (ppR M K kind) (ppB M K kind) else 3) = poC M K kind := by
  cases ok
  ·have h3 := hok2 O
   unfold poC
   rw [if_neg (by decide), if_neg (by rw [h3]; decide), h3]
  have h0 := hok1.1 O
  unfold poC ppR ppB
  rw [if_pos rfl, if_pos h0, if_pos h0, if_pos h0]
 have hMx : ∀ X Z Y W cx cz cy cw ys1 ys2 w', FaR w' X (fcR M.length (fpR M M.length)) (offP M M.length) Y ys1 (fpB M) → FaR w' Z (fcR K.length (fpR K K.length)) (offP K K.length) W ys2 (fpB K) → Ret Tryz.prog 112 [.agg #[.int .i64 (M.length : Int), .slice X (offP M M.length + 2) cx, .slice Y (offP M M.length + 2) cy], .agg #[.int .i64 (K.length : Int), .slice Z (offP K K.length + 2) cz, .slice W (offP K K.length + 2) cw], .int .i64 kind] w' (AnsX (poM M K kind) (poC M K kind) w') := fun X Z Y W cx cz cy cw ys1 ys2 w' hf1 hf2 => by
  have := l09Maniplex_c X Z Y W cx cz cy cw _ _ _ _ M.length K.length kind ok (ppN M K kind) (pdN M K kind) (ppR M K kind) (ppB M K kind) w' (fun w2 hb => hPx X Z Y W cx cz cy cw ys1 ys2 w2 (hf1.later hb) (hf2.later hb)) hP
  rw [e1, e2] at this
  exact this
 clear hPx hP e1 e2 hok1 hok2
 generalize poM M K kind = BL at *
 generalize poC M K kind = C at *
 refine Gac O ?_
 refine Cd.drawP [10] [.ex (.agg #[.slice (A) (n) (c)]), .pr (fun v w' => ∃ X cx Y cy ys, v = .agg #[.int .i64 (M.length : Int), .slice X (offP M M.length + 2) cx, .slice Y (offP M M.length + 2) cy] ∧ FaR w' X (fcR M.length (fpR M M.length)) (offP M M.length) Y ys (fpB M)), .ex (.agg #[.slice (D) (m) (d)]), .pr (fun v w' => ∃ X cx Y cy ys, v = .agg #[.int .i64 (K.length : Int), .slice X (offP K K.length + 2) cx, .slice Y (offP K K.length + 2) cy] ∧ FaR w' X (fcR K.length (fpR K K.length)) (offP K K.length) Y ys (fpB K)), yI (kind), .pr (fun v w' => AnsX BL C w4 v w'), .al (fun v => ∃ u0, v = .tuple #[u0, .int .i64 C]) (fun v w' => AnsX BL C w4 v w'), .pr (fun v w' => ∃ AD cD, ∃ rsD : List SlV, v = .agg #[.slice AD BL.length cD] ∧ rsD.length = BL.length ∧ St w4 w' (mat 32 2 AD BL.length cD rsD BL)), yI (C), .pr (fun v w' => ∃ A9, v = .pointer A9 ∧ St w4 w' [mxB A9 none 0 0]), .p2 9 (fun a v w' => ∃ A9 AD cD, ∃ rsD : List SlV, a = .pointer A9 ∧ rsD.length = BL.length ∧ St w4 w' (mxB A9 AD BL.length cD :: mat 32 2 AD BL.length cD rsD BL)), yI (C)] (by kernel_rfl) (by kernel_rfl) (ly (List.forall_mem_cons.2 ⟨Ye.lasts_pr (fun v w w' h hb => by obtain ⟨X, cx, Y, cy, ys, hv, h1⟩ := h; exact ⟨X, cx, Y, cy, ys, hv, h1.later hb⟩), (ly (List.forall_mem_cons.2 ⟨Ye.lasts_pr (fun v w w' h hb => by obtain ⟨X, cx, Y, cy, ys, hv, h1⟩ := h; exact ⟨X, cx, Y, cy, ys, hv, h1.later hb⟩), (ly (List.forall_mem_cons.2 ⟨Ye.lasts_pr (fun v w w' h hb => by obtain ⟨AD, cD, rsD, hv, h1, h2⟩ := h; exact ⟨AD, cD, rsD, hv, h1, h2.later hb⟩), (List.forall_mem_cons.2 ⟨Ye.lasts_al (fun v w w' h hb => by obtain ⟨AD, cD, rsD, hv, h1, h2⟩ := h; exact ⟨AD, cD, rsD, hv, h1, h2.later hb⟩), (List.forall_mem_cons.2 ⟨Ye.lasts_pr (fun v w w' h hb => by obtain ⟨AD, cD, rsD, hv, h1, h2⟩ := h; exact ⟨AD, cD, rsD, hv, h1, h2.later hb⟩), (ly (List.forall_mem_cons.2 ⟨Ye.lasts_pr (fun v w w' h hb => by obtain ⟨A9, hv, hT⟩ := h; exact ⟨A9, hv, hT.later hb⟩), (List.forall_mem_cons.2 ⟨Ye.lasts_p2 (fun a v w w' h hb => by obtain ⟨A9, AD, cD, rsD, h9, h1, hT⟩ := h; exact ⟨A9, AD, cD, rsD, h9, h1, hT.later hb⟩), (ly (fun _ h => by cases h))⟩)⟩))⟩)⟩)⟩))⟩))⟩)) ?_ ?_
 ·refine ⟨cP fun _ _ hb _ _ _ => Ops.ld_agg 0 (hb3.below hb) O O O (AzP O O), ?_, cP fun _ _ hb _ _ _ => Ops.ld_agg 0 (hb4.below hb) O O O (AzP O O), ?_, DrP O, ?_, ?_, ?_, ?_, ?_, ?_, DrP O, trivial⟩
  ·refine cP fun e1 w1 hb hp hun hq => ?_
   refine Ops.call (l09All_c A n c rs M _ (hM4.later hb) hMm hMg.1) O O O ?_
   rintro _ w9 ⟨X, cx, Y, cy, ys, rfl, hyl, hst⟩
   refine Ops.n ?_
   exact AfterP.dn O hst.below ⟨X, cx, Y, cy, ys, O, faR_of hMm hMg.1 hst⟩
  ·refine cP fun e1 w1 hb hp hun hq => ?_
   refine Ops.call (l09All_c D m d ts K _ (hK4.later hb) hKm hKg.1) O O O ?_
   rintro _ w9 ⟨X, cx, Y, cy, ys, rfl, hyl, hst⟩
   refine Ops.n ?_
   exact AfterP.dn O hst.below ⟨X, cx, Y, cy, ys, O, faR_of hKm hKg.1 hst⟩
  ·refine cP fun e1 w1 hb hp hun hq => ?_
   obtain ⟨X, cx, Y, cy, ys, h21, hf1⟩ := (hp 1 _ _ (by kernel_rfl) rfl rfl (by kernel_rfl))
   obtain ⟨Z, cz, W, cw, zs, h23, hf2⟩ := (hp 3 _ _ (by kernel_rfl) rfl rfl (by kernel_rfl))
   refine Ops.call (hMx X Z Y W cx cz cy cw ys zs _ hf1 hf2) O (by exact eq_21 h21 h23) O ?_
   rintro _ w9 ⟨AD, cD, rsD, rfl, hrD, hst⟩
   refine Ops.n ?_
   exact AfterP.dn O hst.below ⟨AD, cD, rsD, O, hrD, by have := ((St.refl w4).later hb).call hst; rwa [List.append_nil] at this⟩
  ·refine cP fun e1 w1 hb hp hun hq => ?_
   obtain ⟨AD, cD, rsD, h25, h1, h2⟩ := (hp 5 _ _ (by kernel_rfl) rfl rfl (by kernel_rfl))
   refine Ops.mv_tup O (by exact h25) O (Ops.n ?_)
   exact AfterP.dn O (Below.refl _ _) ⟨⟨_, O⟩, AD, cD, rsD, O, h1, h2⟩
  ·refine cP fun e1 w1 hb hp hun hq => ?_
   obtain ⟨AD, cD, rsD, h19, h1, h2⟩ := ((hp 6 _ _ (by kernel_rfl) rfl rfl).2 (by kernel_rfl))
   refine Ops.extract (by exact h19) O O (Ops.n ?_)
   exact AfterP.dn O (Below.refl _ _) ⟨AD, cD, rsD, O, h1, h2⟩
  ·intro e1 w1 cc hlo hhi hb0 hp hun hq; show Ops _ _ _ _ _ _ _
   obtain ⟨u0, h19⟩ := (hp 6 _ _ (by kernel_rfl) rfl rfl).1
   refine Ops.extract (by exact h19) O O (Ops.n (p0_ O (by exact O)))
  ·refine cP fun e1 w1 hb hp hun hq => ?_
   refine Ops.new1 (St.refl _) O ?_
   intro A9 w9 hS9
   refine Ops.n ?_
   exact AfterP.dn O hS9.below ⟨A9, O, by have := ((St.refl w4).later hb).call hS9; rwa [List.append_nil] at this⟩
  refine cPT fun e1 w1 hb hp hun hq => ?_
  obtain ⟨A9, h9, hT⟩ := (hp 9 _ _ (by kernel_rfl) rfl rfl (by kernel_rfl))
  obtain ⟨AD, cD, rsD, h26, h1, h2⟩ := (hp 7 _ _ (by kernel_rfl) rfl rfl (by kernel_rfl))
  refine Ops.st_agg 1 0 (hT.mergeM h2) O (by exact h9) (by exact h26) O O O O ?_
  intro w9 hS9
  refine Ops.n ?_
  exact AfterU.st O ⟨A9, AD, cD, rsD, h9, h1, hS9⟩
 intro u2 w5 _ _ hu2 _
 obtain ⟨A9, AD, cD, rsD, h9, hrD, hT5⟩ := hu2 10 9 _ rfl (by kernel_rfl)
 have hS5 := hS4.call2 hT5
 have hb9 := hT5.rd 0 O
 refine Qk_ext (F := [(6, .pointer A6), (9, .pointer A9), (10, .int .i64 C)]) ⟨O, h9, O, trivial⟩ (Geo O (Ops.ld_agg 0 hb9 O O O (Gdo O (Ops.st_agg 1 0 hS5 O O O O O O O ?_))))
 intro w6 hS6
 refine Gdr O (retc2_r O (hS6.rd 0 O) O ?_)
 exact ⟨AD, cD, rsD, O, hrD, hS6.sub (show List.Sublist _ (_ :: _ :: _ :: _ :: _) from ((List.Sublist.refl _).cons _ |>.cons _ |>.cons _ |>.cons _))⟩
/-
 The edge; prisms and bipyramids, walked on both sides. Conditions: the library's table of powers of ten holds what the program's text lays there (the program's side).
-/
abbrev edM : List (List Int) := [[1, 0]]
def AnsE (w : World) (v : Value) (w' : World) : Prop := ∃ A, ∃ r : SlV, v = .agg #[.slice A 1 1] ∧ St w w' (mat 32 2 A 1 1 [r] edM)
theorem AnsE.rows {w w' : World} {v : Value} (h : AnsE w v w') : ∃ A, ∃ r : SlV, v = .agg #[.slice A 1 1] ∧ RowsI w' A 1 [r] edM ∧ Below w.heap.size w w' := by
 obtain ⟨A, r, hv, hst⟩ := h
 exact ⟨A, r, hv, St.rowsI (ks := []) (by rw [List.append_nil]; exact hst) O, hst.below⟩
theorem implEdge_c (w : World) : Ret Tryz.prog 118 [] w (AnsE w) := by
 refine Ret.of_cd Tryz.func118 O Tryz.ntmps118 O (postc O O) (Gbo O (Ops.new1 (St.refl w) O ?_))
 intro A0 w1 hS1
 refine Gdo O (Ops.bs2 hS1 O O O O O O ?_)
 intro A1 w2 hS2
 have hS2 : St w w2 (CkI 2 A1 2 2 [1, 0] :: [mxB A0 none 0 0]) := hS2
 refine Ops.bs1R hS2 O O O ?_
 intro A2 w3 hS3
 refine Ops.bld1 (by exact inferInstance) O O O O (Ops.st_agg 1 2 hS3 O O O O O O O ?_)
 intro w4 hS4
 refine Gdr O (retc_r O (hS4.rd 2 O) ?_)
 exact ⟨A2, ⟨A1, 2, 2⟩, O, hS4.sub (show List.Sublist [_, _] [_, _, _] from ((List.nil_sublist _).cons_cons _).cons_cons _)⟩
theorem specEdge_c (w : World) : Ret Tryz.prog 117 [] w (AnsE w) := by
 refine Ret.of_cd Tryz.func117 O Tryz.ntmps117 O (postc O O) (Gbo O (Ops.new1 (St.refl w) O ?_))
 intro A0 w1 hS1
 refine Gdo O (Ops.bs2 hS1 O O O O O O ?_)
 intro A1 w2 hS2
 have hS2 : St w w2 (CkI 2 A1 2 2 [1, 0] :: [mxB A0 none 0 0]) := hS2
 refine Ops.bs1R hS2 O O O ?_
 intro A2 w3 hS3
 refine Ops.bld1 (by exact inferInstance) O O O O (Ops.st_agg 1 2 hS3 O O O O O O O ?_)
 intro w4 hS4
 refine Gdr O (retc_r O (hS4.rd 2 O) ?_)
 exact ⟨A2, ⟨A1, 2, 2⟩, O, hS4.sub (show List.Sublist [_, _] [_, _, _] from ((List.nil_sublist _).cons_cons _).cons_cons _)⟩
set_option maxHeartbeats 1000000 in
theorem implBipyramidOver_c (A : Option Addr) (n c : Nat) (rs : List SlV) (M : List (List Int)) (w : World) (hT : Tab w) (hM : RowsI w A n rs M) (hn : n ≤ c) (hc : c ≤ 9223372036854775807) :
  Ret Tryz.prog 54 [.agg #[.slice A n c]] w (AnsX (poM M edM 2) (poC M edM 2) w) := by
 have hPo := fun (w' : World) (E : Option Addr) (r : SlV) (hT : Tab w') (hM : RowsI w' A n rs M) (hE : RowsI w' E 1 [r] edM) => productPoset_c A E n c 1 1 rs [r] M edM 2 w' hT hM hE hn hc (Nat.le_refl _) (by omega)
 have hPl := fun (w' : World) A D cA cD rs hT hR hB => polytopeOfP_c M edM 2 A D cA cD rs w' hT hR hB
 generalize ppN M edM 2 = N at *
 generalize ppR M edM 2 = R at *
 generalize ppB M edM 2 = B at *
 generalize ppC M edM 2 = C at *
 refine Ret.of_cd Tryz.func54 O Tryz.ntmps54 O (postc2 O O) (Gbo O (Ops.box1 (St.refl w) O O ?_))
 intro A1 w1 hS1
 refine Ops.new1 hS1 O ?_
 intro A2 w2 hS2
 have hb1 := hS2.rd 1 O
 have hM2 := hS2.oldRows hM
 have hT2 := hT.later hS2.below
 refine Gdc O ?_
 refine Cd.drawP [7] [.ex (.agg #[.slice (A) (n) (c)]), .pr (fun v w' => ∃ E, ∃ r : SlV, v = .agg #[.slice E 1 1] ∧ RowsI w' E 1 [r] edM), .pr (fun v w' => AnsPo N R B C w2 v w'), .al (fun v => ∃ u0, v = .tuple #[u0, .int .i64 C]) (fun v w' => AnsPo N R B C w2 v w'), .pr (fun v w' => ∃ AR cR AD cD rsD, v = .agg #[.int .i64 N, .slice AR R.length cR, .slice AD B.length cD] ∧ rsD.length = B.length ∧ St w2 w' (CkI 2 AR R.length cR R :: (mat 32 2 AD B.length cD rsD B ++ []))), yI (C), .pr (fun v w' => ∃ A9, v = .pointer A9 ∧ St w2 w' [poB A9 0 none 0 0 none 0 0]), .p2 6 (fun a v w' => ∃ A9 AR c AD d rs, a = .pointer A9 ∧ rs.length = B.length ∧ St w2 w' (poB A9 N AR R.length c AD B.length d :: (CkI 2 AR R.length c R :: (mat 32 2 AD B.length d rs B ++ [])))), yI (C)] (by kernel_rfl) (by kernel_rfl) (ly (List.forall_mem_cons.2 ⟨Ye.lasts_pr (fun v w w' h hb => by obtain ⟨E, r, hv, h1⟩ := h; exact ⟨E, r, hv, h1.later hb⟩), (List.forall_mem_cons.2 ⟨Ye.lasts_pr (fun v w w' h hb => by obtain ⟨AR, cR, AD, cD, rsD, hv, h1, h2⟩ := h; exact ⟨AR, cR, AD, cD, rsD, hv, h1, h2.later hb⟩), (List.forall_mem_cons.2 ⟨Ye.lasts_al (fun v w w' h hb => by obtain ⟨AR, cR, AD, cD, rsD, hv, h1, h2⟩ := h; exact ⟨AR, cR, AD, cD, rsD, hv, h1, h2.later hb⟩), (List.forall_mem_cons.2 ⟨Ye.lasts_pr (fun v w w' h hb => by obtain ⟨AR, cR, AD, cD, rsD, hv, h1, h2⟩ := h; exact ⟨AR, cR, AD, cD, rsD, hv, h1, h2.later hb⟩), (ly (List.forall_mem_cons.2 ⟨Ye.lasts_pr (fun v w w' h hb => by obtain ⟨A9, hv, hT⟩ := h; exact ⟨A9, hv, hT.later hb⟩), (List.forall_mem_cons.2 ⟨Ye.lasts_p2 (fun a v w w' h hb => by obtain ⟨A9, AR, cR, AD, cD, rsD, h9, h1, hT⟩ := h; exact ⟨A9, AR, cR, AD, cD, rsD, h9, h1, hT.later hb⟩), (ly (fun _ h => by cases h))⟩)⟩))⟩)⟩)⟩)⟩)) ?_ ?_
 ·refine ⟨cP fun _ _ hb _ _ _ => Ops.ld_agg 0 (hb1.below hb) O O O (AzP O O), ?_, ?_, ?_, ?_, ?_, ?_, ?_, DrP O, trivial⟩
  ·refine cP fun e1 w1 hb hp hun hq => ?_
   refine Ops.call (implEdge_c _) O O O ?_
   rintro _ w9 h9
   obtain ⟨E, r, hv, hE, hb9⟩ := h9.rows
   refine Ops.n ?_
   exact AfterP.dn O hb9 ⟨E, r, hv, hE⟩
  ·refine cP fun e1 w1 hb hp hun hq => ?_
   obtain ⟨E, r, h8, h1⟩ := (hp 1 _ _ (by kernel_rfl) rfl rfl (by kernel_rfl))
   refine Ops.call (hPo _ E r (hT2.later hb) (hM2.later hb) h1) O (by exact congrArg (fun v => [Value.agg #[.slice A n c], v, .int .i64 2]) h8) O ?_
   rintro _ w9 ⟨AR, cR, AD, cD, rsD, rfl, hrD, hst⟩
   refine Ops.n ?_
   exact AfterP.dn O hst.below ⟨AR, cR, AD, cD, rsD, O, hrD, by have := ((St.refl w2).later hb).call hst; rwa [List.append_nil] at this⟩
  ·refine cP fun e1 w1 hb hp hun hq => ?_
   obtain ⟨AR, cR, AD, cD, rsD, h9, h1, h2⟩ := (hp 2 _ _ (by kernel_rfl) rfl rfl (by kernel_rfl))
   refine Ops.mv_tup O (by exact h9) O (Ops.n ?_)
   exact AfterP.dn O (Below.refl _ _) ⟨⟨_, O⟩, AR, cR, AD, cD, rsD, O, h1, h2⟩
  ·refine cP fun e1 w1 hb hp hun hq => ?_
   obtain ⟨AR, cR, AD, cD, rsD, h6, h1, h2⟩ := ((hp 3 _ _ (by kernel_rfl) rfl rfl).2 (by kernel_rfl))
   refine Ops.extract (by exact h6) O O (Ops.n ?_)
   exact AfterP.dn O (Below.refl _ _) ⟨AR, cR, AD, cD, rsD, O, h1, h2⟩
  ·intro e1 w1 cc hlo hhi hb0 hp hun hq; show Ops _ _ _ _ _ _ _
   obtain ⟨u0, h6⟩ := (hp 3 _ _ (by kernel_rfl) rfl rfl).1
   refine Ops.extract (by exact h6) O O (Ops.n (p0_ O (by exact O)))
  ·refine cP fun e1 w1 hb hp hun hq => ?_
   refine Ops.newP (St.refl _) O ?_
   intro A9 w9 hS9
   refine Ops.n ?_
   exact AfterP.dn O hS9.below ⟨A9, O, by have := ((St.refl w2).later hb).call hS9; rwa [List.append_nil] at this⟩
  refine cPT fun e1 w1 hb hp hun hq => ?_
  obtain ⟨A9, h9, hT⟩ := (hp 6 _ _ (by kernel_rfl) rfl rfl (by kernel_rfl))
  obtain ⟨AR, cR, AD, cD, rsD, h10, h1, h2⟩ := (hp 4 _ _ (by kernel_rfl) rfl rfl (by kernel_rfl))
  refine Ops.st_agg 3 0 (hT.mergeP h2) O (by exact h9) (by exact h10) O O O O ?_
  intro w9 hS9
  refine Ops.n ?_
  exact AfterU.st O ⟨A9, AR, cR, AD, cD, rsD, h9, h1, hS9⟩
 intro u2 w5 _ _ hu2 _
 obtain ⟨A9, AR, cR, AD, cD, rsD, h9, hrD, hU5⟩ := hu2 7 6 _ rfl (by kernel_rfl)
 have hS5 := hS2.later hU5.below
 refine Qk_ext (F := [(2, .pointer A2), (4, .pointer A9), (5, .int .i64 C)]) ⟨O, h9, O, trivial⟩ (Geo O (Ops.ld_agg 2 (hU5.rd 0 O) O O O (Gdo O (Ops.call (hPl _ AR AD cR cD rsD (hT.later hS5.below) (hU5.rdI 1 O) (St.rowsI hU5.tail.tail O)) O O O ?_))))
 rintro _ w7 ⟨Am, cm, rsm, rfl, hrm, hst⟩
 have hS7 := hS5.call2 hst
 refine Gdo O (Ops.st_agg 1 0 hS7 O O O O O O O ?_)
 intro w8 hS8
 refine Gdr O (retc2_r O (hS8.rd 0 O) O ?_)
 exact ⟨Am, cm, rsm, O, hrm, hS8.sub (show List.Sublist _ (_ :: _ :: _) from ((List.Sublist.refl _).cons _ |>.cons _))⟩
set_option maxHeartbeats 1000000 in
theorem specBipyramidOver_c (A : Option Addr) (n c : Nat) (rs : List SlV) (M : List (List Int)) (w : World) (hM : RowsI w A n rs M) (hn : n ≤ 9223372036854775807) :
  Ret Tryz.prog 53 [.agg #[.slice A n c]] w (AnsX (poM M edM 2) (poC M edM 2) w) := by
 have hPo := fun (w' : World) (E : Option Addr) (r : SlV) (hM : RowsI w' A n rs M) (hE : RowsI w' E 1 [r] edM) => specProductOf_c A E n c 1 1 rs [r] M edM 2 w' hM hE hn (by omega)
 generalize poM M edM 2 = BL at *
 generalize poC M edM 2 = C at *
 refine Ret.of_cd Tryz.func53 O Tryz.ntmps53 O (postc2 O O) (Gbo O (Ops.box1 (St.refl w) O O ?_))
 intro A1 w1 hS1
 refine Ops.new1 hS1 O ?_
 intro A2 w2 hS2
 have hb1 := hS2.rd 1 O
 have hM2 := hS2.oldRows hM
 refine Gdc O ?_
 refine Cd.drawP [5] [.ex (.agg #[.slice (A) (n) (c)]), .pr (fun v w' => ∃ E, ∃ r : SlV, v = .agg #[.slice E 1 1] ∧ RowsI w' E 1 [r] edM), .al (fun v => ∃ u0, v = .tuple #[u0, .int .i64 C]) (fun v w' => ∃ AD cD, ∃ rsD : List SlV, v = .tuple #[.agg #[.slice AD BL.length cD], .int .i64 C] ∧ rsD.length = BL.length ∧ St w w' ([mxB A2 none 0 0, Bx 24 1 A1 [.slice A n c]] ++ mat 32 2 AD BL.length cD rsD BL)), .pr (fun v w' => ∃ AD cD, ∃ rsD : List SlV, v = .agg #[.slice AD BL.length cD] ∧ rsD.length = BL.length ∧ St w w' ([mxB A2 none 0 0, Bx 24 1 A1 [.slice A n c]] ++ mat 32 2 AD BL.length cD rsD BL)), yI (C), .pr (fun _ w' => ∃ AD cD, ∃ rsD : List SlV, rsD.length = BL.length ∧ St w w' ([mxB A2 AD BL.length cD, Bx 24 1 A1 [.slice A n c]] ++ mat 32 2 AD BL.length cD rsD BL)), yI (C)] (by kernel_rfl) (by kernel_rfl) (ly (List.forall_mem_cons.2 ⟨Ye.lasts_pr (fun v w w' h hb => by obtain ⟨E, r, hv, h1⟩ := h; exact ⟨E, r, hv, h1.later hb⟩), (List.forall_mem_cons.2 ⟨Ye.lasts_al (fun v w w' h hb => by obtain ⟨AD, cD, rsD, hv, h1, h2⟩ := h; exact ⟨AD, cD, rsD, hv, h1, h2.later hb⟩), (List.forall_mem_cons.2 ⟨Ye.lasts_pr (fun v w w' h hb => by obtain ⟨AD, cD, rsD, hv, h1, h2⟩ := h; exact ⟨AD, cD, rsD, hv, h1, h2.later hb⟩), (ly (List.forall_mem_cons.2 ⟨Ye.lasts_pr (fun v w w' h hb => by obtain ⟨AD, cD, rsD, h1, h2⟩ := h; exact ⟨AD, cD, rsD, h1, h2.later hb⟩), (ly (fun _ h => by cases h))⟩))⟩)⟩)⟩)) ?_ ?_
 ·refine ⟨cP fun _ _ hb _ _ _ => Ops.ld_agg 0 (hb1.below hb) O O O (AzP O O), ?_, ?_, ?_, ?_, ?_, DrP O, trivial⟩
  ·refine cP fun e1 w1 hb hp hun hq => ?_
   refine Ops.call (specEdge_c _) O O O ?_
   rintro _ w9 h9
   obtain ⟨E, r, hv, hE, hb9⟩ := h9.rows
   refine Ops.n ?_
   exact AfterP.dn O hb9 ⟨E, r, hv, hE⟩
  ·refine cP fun e1 w1 hb hp hun hq => ?_
   obtain ⟨E, r, h5, h1⟩ := (hp 1 _ _ (by kernel_rfl) rfl rfl (by kernel_rfl))
   refine Ops.call (hPo _ E r (hM2.later hb) h1) O (by exact congrArg (fun v => [Value.agg #[.slice A n c], v, .int .i64 2]) h5) O ?_
   rintro _ w9 ⟨AD, cD, rsD, rfl, hrD, hst⟩
   refine Ops.n ?_
   exact AfterP.dn O hst.below ⟨⟨_, O⟩, AD, cD, rsD, O, hrD, (hS2.later hb).call2 hst⟩
  ·refine cP fun e1 w1 hb hp hun hq => ?_
   obtain ⟨AD, cD, rsD, h6, h1, h2⟩ := ((hp 2 _ _ (by kernel_rfl) rfl rfl).2 (by kernel_rfl))
   refine Ops.extract (by exact h6) O O (Ops.n ?_)
   exact AfterP.dn O (Below.refl _ _) ⟨AD, cD, rsD, O, h1, h2⟩
  ·intro e1 w1 cc hlo hhi hb0 hp hun hq; show Ops _ _ _ _ _ _ _
   obtain ⟨u0, h6⟩ := (hp 2 _ _ (by kernel_rfl) rfl rfl).1
   refine Ops.extract (by exact h6) O O (Ops.n (p0_ O (by exact O)))
  refine cPT fun e1 w1 hb hp hun hq => ?_
  obtain ⟨AD, cD, rsD, h7, h1, h2⟩ := (hp 3 _ _ (by kernel_rfl) rfl rfl (by kernel_rfl))
  refine Ops.st_agg 1 0 h2 O O (by exact h7) O O O O ?_
  intro w9 hS9
  refine Ops.n ?_
  exact AfterU.st O ⟨AD, cD, rsD, h1, hS9⟩
 intro u w5 _ hu _ _
 obtain ⟨AD, cD, rsD, hrD, hS5⟩ := hu 5 _ rfl (by kernel_rfl)
 refine Ger O (retc2_r O (hS5.rd 0 O) O ?_)
 exact ⟨AD, cD, rsD, O, hrD, hS5.sub (show List.Sublist _ (_ :: _ :: _) from ((List.Sublist.refl _).cons _ |>.cons _))⟩
/-
 The walks of the program's forms, and of comparisons on both sides.
-/
end Go.Proofs.YtopgfgdgfjddpaaGreatDoor.Vc
/-
 Plain mathematics of the list of maniplexes: forms put in ascending order one by one, and that there is one such order.
-/
namespace Go.Proofs.YtopgfgdgfjddpaaGreatDoor.Vc
abbrev Mx := List (List Int)
/-! the list of a rank and a number of flags -/
def Own1 (N : Nat) (xss : Mx) : Prop := ∀ f, f < N → ¬ lexCC (formL N xss (f : Nat)) xss < 0
instance (N : Nat) (xss : Mx) : Decidable (Own1 N xss) := by unfold Own1; exact inferInstance
end Go.Proofs.YtopgfgdgfjddpaaGreatDoor.Vc
/-
 The walks of the program's least form, and of the reference's numbers of orbits.
-/
namespace Go.Proofs.YtopgfgdgfjddpaaGreatDoor.Vc
open Go.RowKit
section
variable {P : Program} {N : Nat} {ops : Array Oper} {K : Env → World → Prop} {rest : List Oper} {e : Env} {w : World} {d : Nat} {ty : TypeId} {pos : String} {af : Array Edge}
end
theorem St.matAt {w0 w : World} {t1 t2 : TypeId} {A : Option Addr} {n c : Nat} {rs : List SlV} {xss : List (List Int)} {ks : List Ck} (h : St w0 w ks) (hsub : (mat t1 t2 A n c rs xss).Sublist ks) (hl : xss.length = n) : RowsI w A n rs xss := (h.sub hsub).rowsI1 hl
/-! the numbers of orbits -/
/-
 Marks on one maniplex, exact.
-/
/-! marks on one maniplex, exact -/
theorem markMx_c {w0 w : World} {pre post : List Ck} {t1 t2 : TypeId} {A : Option Addr} {n c : Nat} {rs : List SlV} {xss : List (List Int)} (k : Int) (hS : St w0 w (pre ++ (mat t1 t2 A n c rs xss ++ post))) (hrl : rs.length = n) (hxl : xss.length = n) (hn : n ≤ 1000) (hr : ∀ x ∈ xss, x.length ≤ 1000) (hk0 : 0 ≤ k ∧ k ≤ 1000000000000000) :
  Ret Tryz.prog 18 [.agg #[.slice A n c], .int .i64 k] w (fun v w' => v = .int .i64 (k + tot xss) ∧ St w0 w' (pre ++ (mat t1 t2 A n c rs (mkSS k xss) ++ post))) := by
 refine Ret.of_cd Tryz.func18 O Tryz.ntmps18 O (post1 O) (Gbo O (Ops.box1 hS O O ?_))
 intro Ab w1 hS1
 refine Gdo O (Ops.fld (hS1.rd 0 O) O O O O inferInstance (Ops.ldf_s (hS1.rd 0 O) O O O O O (Gdo O (Ops.call (markSS_c (pre := Bx 24 1 Ab [.slice A n c] :: pre) (post := post) (rs := rs) k hS1 hrl hxl hn hr hk0) O O O ?_))))
 rintro _ w2 ⟨rfl, hS2⟩
 refine Gdr O (ret1_i O ?_)
 exact ⟨O, St.tail hS2⟩
theorem heldMx_c (A : Option Addr) (n c : Nat) (rs : List SlV) (xss : List (List Int)) (k : Int) (w : World) (hR : RowsI w A n rs (mkSS k xss)) (hn : n ≤ 1000) (hr : ∀ x ∈ xss, x.length ≤ 1000) (hk0 : 0 ≤ k ∧ k ≤ 1000000000000000) :
  Ret Tryz.prog 19 [.agg #[.slice A n c], .int .i64 k] w (fun v w' => v = .int .i64 (k + tot xss) ∧ St w w' []) := by
 have hl := hR.len
 rw [mkSS_len] at hl
 have htb := tot_le (b := 1000) xss hr
 refine Ret.of_cd Tryz.func19 O Tryz.ntmps19 O (post1 O) (Gbo O (Ops.box1 (St.refl w) O O ?_))
 intro Ab w1 hS1
 refine Gdo O (Ops.fld (hS1.rd 0 O) O O O O inferInstance (Ops.ldf_s (hS1.rd 0 O) O O O O O (Gdo O (Ops.call (heldSS_c A n c rs xss k _ (hS1.oldRows hR) hn hr hk0) O O O ?_))))
 rintro _ w2 ⟨rfl, rfl⟩
 refine Gdc O (Cd.cond_pf O (by omega) (Gar O (ret1_i O ?_)))
 exact ⟨O, hS1.none⟩
/-
 The walk of the law FnExactBipyramidOver: it returns true. Conditions: the library's table of powers of ten holds what the program's text lays there.
-/
set_option maxHeartbeats 2000000 in
theorem FnExactBipyramidOver_c (A : Option Addr) (n c : Nat) (rs : List SlV) (xss : List (List Int)) (w : World) (hT : Tab w) (hR : RowsI w A n rs xss) (hn : n ≤ 9223372036854775807) :
  Ret Tryz.prog 10 [.agg #[.slice A n c]] w (fun v w' => v = .bool true ∧ St w w' []) := by
 have hxl := hR.len
 have hsm := po_bd5 xss edM 2
 have hS_ := fun A n c rs w hR hn => specBipyramidOver_c A n c rs xss w hR hn
 have hI_ := fun A n c rs w hT hR hn hc => implBipyramidOver_c A n c rs xss w hT hR hn hc
 generalize poM xss edM 2 = L at *
 generalize poC xss edM 2 = K at *
 have hr1000 : ∀ x ∈ L, x.length ≤ 1000 := fun x hx => by have := hsm.2 x hx; omega
 have htb := tot_le (b := 1000) L hr1000
 refine Ret.of_cd Tryz.func10 O Tryz.ntmps10 O (post1 O) (Gbo O (Ops.box1 (St.refl w) O O ?_))
 intro Ab w1 hS
 refine Gdo O (Ops.ld_agg 0 (hS.rd 0 O) O O O (Gdo O (Ops.call (szManiplex_c A n c rs xss 1048576 _ (hS.oldRows hR) hn (by omega)) O O O ?_)))
 rintro _ w2 ⟨rfl, hst⟩
 have hS := hS.later hst.below
 refine Gdc O ?_
 refine Cd.cond_p _ O (fun h1 => ?_) (fun h1 => ?_)
 ·refine Gar O (ret1_b O ?_)
  exact ⟨O, hS.none⟩
 have hsmX := small_of hR.top.1 (Int.not_lt.1 h1)
 have hfit := fits_of hR.top.1 (by omega) (Int.not_lt.1 h1)
 refine Gao O (Ops.ld_agg 0 (hS.rd 0 O) O O O (Ops.call (toManiplex_c A n c rs xss _ (hS.oldRows hR) hfit) O O O ?_))
 rintro _ w3 ⟨A1, rs1, rfl, hrl1, hst1⟩
 refine Ops.call (hS_ A1 n n rs1 _ (St.rowsI (ks := []) (by rwa [List.append_nil]) hxl) hn) O O O ?_
 rintro _ w4 ⟨W0, cW, rsW, rfl, hrW, hst2⟩
 have hS4 := (hS.later hst1.below).call hst2
 refine Gdo O (Ops.new1 hS4 O ?_)
 intro A4 w5 hS5
 refine Ops.st_agg 1 0 hS5 O O O O O O O ?_
 intro w6 hS6
 have hS6 := (hS6.perm (List.Perm.cons _ (List.perm_append_singleton _ _)) : St w w6 (Bx 24 1 A4 [.slice W0 L.length cW] :: Bx 51 1 Ab [.slice A n c] :: mat 32 2 W0 L.length cW rsW L))
 refine Gdo O (Ops.ld_agg 0 (hS6.rd 1 O) O O O (Ops.call (toManiplex_c A n c rs xss _ (hS6.oldRows hR) hfit) O O O ?_))
 rintro _ w7 ⟨X, rsX, rfl, hrX, hst3⟩
 have hS7 := hS6.call2 hst3
 refine Ops.new1 hS7 O ?_
 intro A6 w8 hS8
 refine Ops.st_agg 1 0 hS8 O O O O O O O ?_
 intro w9 hS9
 have hS9 : St w w9 ([Bx 24 1 A6 [.slice X n n], Bx 24 1 A4 [.slice W0 L.length cW], Bx 51 1 Ab [.slice A n c]] ++ (mat 32 2 W0 L.length cW rsW L ++ mat 32 2 X n n rsX xss)) := hS9
 have hX9 : RowsI w9 X n rsX xss := hS9.matAt (c := n) ((List.sublist_append_right _ _).trans (List.sublist_append_right [_, _, _] _)) hxl
 refine Gdo O (Ops.ld_agg 0 (hS9.rd 0 O) O O O (Ops.call (hI_ X n n rsX _ (hT.later hS9.below) hX9 (Nat.le_refl _) hn) O O O ?_))
 rintro _ w10 ⟨G, cG, rsG, rfl, hrG, hst4⟩
 have hS10 := hS9.call hst4
 refine Gdo O (Ops.new1 hS10 O ?_)
 intro A7 w11 hS11
 refine Ops.st_agg 1 0 hS11 O O O O O O O ?_
 intro w12 hS12
 generalize hb1 : Bx 51 1 Ab [.slice A n c] = b1 at *
 generalize hb4 : Bx 24 1 A4 [.slice W0 L.length cW] = b4 at *
 generalize hb6 : Bx 24 1 A6 [.slice X n n] = b6 at *
 obtain ⟨b7, hb7⟩ : ∃ b7, b7 = Bx 24 1 A7 [.slice G L.length cG] := ⟨_, rfl⟩
 have hS12 : St w w12 (b7 :: (mat 32 2 G L.length cG rsG L ++ ([b6, b4, b1] ++ (mat 32 2 W0 L.length cW rsW L ++ mat 32 2 X n n rsX xss)))) := by subst hb7; exact hS12
 have hS12 : St w w12 ([b7, b6, b4, b1] ++ (mat 32 2 G L.length cG rsG L ++ (mat 32 2 X n n rsX xss ++ mat 32 2 W0 L.length cW rsW L))) := hS12.perm (List.Perm.cons _ ((List.perm_append_comm_assoc _ _ _).trans (List.Perm.append_left [b6, b4, b1] (List.Perm.append_left _ List.perm_append_comm))))
 have r7 : ∀ {w' : World} {ks : List Ck}, St w w' (b7 :: ks) → Rd w' A7 1 (fun j => [Value.slice G L.length cG].getD j undef) := fun h => by subst hb7; exact h.rd 0 rfl
 have r6 : ∀ {w' : World} {ks : List Ck}, St w w' (b7 :: b6 :: ks) → Rd w' A6 1 (fun j => [Value.slice X n n].getD j undef) := fun h => by subst hb6; exact h.rd 1 rfl
 have r4 : ∀ {w' : World} {ks : List Ck}, St w w' (b7 :: b6 :: b4 :: ks) → Rd w' A4 1 (fun j => [Value.slice W0 L.length cW].getD j undef) := fun h => by subst hb4; exact h.rd 2 rfl
 have r1 : ∀ {w' : World} {ks : List Ck}, St w w' (b7 :: b6 :: b4 :: b1 :: ks) → Rd w' Ab 1 (fun j => [Value.slice A n c].getD j undef) := fun h => by subst hb1; exact h.rd 3 rfl
 have mGa : ∀ {w' : World} {Y : List (List Int)} {ks : List Ck}, Y.length = L.length → St w w' ([b7, b6, b4, b1] ++ (mat 32 2 G L.length cG rsG Y ++ ks)) → RowsI w' G L.length rsG Y := fun hY h => h.matAt (c := cG) ((List.sublist_append_left _ _).trans (List.sublist_append_right _ _)) hY
 have mWa : ∀ {w' : World} {k1 k2 : List Ck}, St w w' ([b7, b6, b4, b1] ++ (k1 ++ (k2 ++ mat 32 2 W0 L.length cW rsW L))) → RowsI w' W0 L.length rsW L := fun h => h.matAt (c := cW) (((List.sublist_append_right _ _).trans (List.sublist_append_right _ _)).trans (List.sublist_append_right _ _)) O
 refine Gdo O (Ops.ld_agg 0 (r7 hS12) O O O (Ops.ld_agg 0 (r4 hS12) O O O (Ops.call (eqManiplex_c G _ cG rsG L W0 _ cW rsW L _ (mGa O hS12) (mWa hS12) (by omega)) O O O ?_)))
 rintro _ w13 ⟨rfl, hst13⟩
 have hS13 := hS12.later hst13.below
 first | refine Ops.not_p rfl rfl ?_ | refine Ops.not rfl rfl ?_
 refine Gdo O ?_
 refine Ops.split_p 36 O (fun h => absurd O h) (fun _ => ?_)
 refine Ops.g O O O (Gdo O (Ops.g O O O (Gdo O (Ops.g O O O (Gdc O ?_)))))
 refine Cd.cond_pf O (fun h => h O) ?_
 have hM13 : RowsI w13 X n rsX xss := hS13.matAt (c := n) (((List.sublist_append_left _ _).trans (List.sublist_append_right _ _)).trans (List.sublist_append_right [b7, b6, b4, b1] _)) hxl
 have hR13 := hS13.oldRows hR
 refine Gac O ?_
 refine Cd.draw [.ex (.agg #[.slice (X) (n) (n)]), .ex (.agg #[.slice (A) (n) (c)]), .pr (fun v w' => ∃ D rd, v = .agg #[.slice D n n] ∧ RowsI w' D n rd xss), xB (true), xB (false)] (by kernel_rfl) (by kernel_rfl) rfl (lx (lx (List.forall_mem_cons.2 ⟨Yd.lasts_pr (fun v w w' h hb => by obtain ⟨D, rd, hv, h1⟩ := h; exact ⟨D, rd, hv, h1.later hb⟩), (lx (lx (fun _ h => by cases h)))⟩))) ?_ ?_
 ·refine ⟨fun _ _ hb _ _ => Ops.ld_agg 0 ((r6 hS13).below hb) O O O (Az O), fun _ _ hb _ _ => Ops.ld_agg 0 ((r1 hS13).below hb) O O O (Az O), ?_, ?_, fun _ _ _ _ _ => Ops.not O O (Az (by exact congrArg Value.bool (O))), trivial⟩
  ·intro e1 w1 hb hp hun; refine Ops.call (toManiplex_c A n c rs xss _ (hR13.later hb) hfit) O O O ?_
   rintro _ w2 ⟨D, rd, rfl, hrd, hst⟩
   refine Ops.n ?_
   exact After.dn hst.below ⟨D, rd, O, St.rowsI (ks := []) (by rwa [List.append_nil]) hxl⟩
  intro e1 w1 hb hp hun
  obtain ⟨D, rd, h43, h1⟩ := (hp 2 (by decide) rfl _ _ rfl rfl)
  refine Ops.call (eqManiplex_c X n n rsX xss D n n rd xss _ (hM13.later hb) h1 hn) O (by exact congrArg (fun v => [Value.agg #[.slice X n n], v]) h43) O ?_
  rintro _ w2 ⟨rfl, hst⟩
  refine Ops.n ?_
  exact After.dn hst.below (by exact congrArg Value.bool (decide_eq_true O))
 intro u w14 hb14 _
 have hS14 := hS13.later hb14
 refine Gec O (Cd.cond_f O (Gao O (Ops.ld_agg 0 (r6 hS14) O O O (Gdo O ?_))))
 refine Ops.call (markManiplex_c (pre := [b7, b6, b4, b1] ++ mat 32 2 G L.length cG rsG L) (post := mat 32 2 W0 L.length cW rsW L) (rs := rsX) (xss := xss) 1 (by rw [List.append_assoc]; exact hS14) hrX hxl hsmX.1 (fun i hi => ?_) (by omega)) O O O ?_
 ·have := (hM13.row i hi).1
  have h2 := (hR.row i hi).1
  have h3 := hsmX.2 i hi
  omega
 rintro _ w15 ⟨K1, ys, rfl, hK1, hyl, hS15⟩
 rw [List.append_assoc] at hS15
 refine Gdo O ?_
 refine Ops.split_p 51 O (fun h => absurd h (by omega)) (fun _ => ?_)
 refine Ops.g O O O (Ops.ld_agg 0 (r7 hS15) O O O (Ops.g O O O (Ops.ld_agg 0 (r4 hS15) O O O (Ops.g O O O (Ops.call (eqManiplex_c G _ cG rsG L W0 _ cW rsW L _ (mGa O hS15) (mWa hS15) (by omega)) O O O ?_)))))
 rintro _ w16 ⟨rfl, hst16⟩
 have hS16 := hS15.later hst16.below
 refine Ops.g O O O ?_
 first | refine Ops.not_p rfl rfl ?_ | refine Ops.not rfl rfl ?_
 refine Gdo O ?_
 refine Ops.split_p 57 O (fun h => absurd O h) (fun _ => ?_)
 refine Ops.g O O O (Gdo O (Ops.g O O O (Gdo O (Ops.g O O O (Gdc O ?_)))))
 refine Cd.cond_pf O (fun h => h O) ?_
 refine Gao O (Ops.ld_agg 0 (r7 hS16) O O O (Gdo O (Ops.call (markMx_c (rs := rsG) (pre := [b7, b6, b4, b1]) (post := mat 32 2 X n n rsX ys ++ mat 32 2 W0 L.length cW rsW L) 1 hS16 hrG O (by omega) hr1000 (by omega)) O O O ?_)))
 rintro _ w17 ⟨rfl, hS17⟩
 refine Gdo O (Ops.ld_agg 0 (r7 hS17) O O O (Gdo O (Ops.call (heldMx_c G _ cG rsG L 1 _ (mGa (mkSS_len _ _) hS17) (by omega) hr1000 (by omega)) O O O ?_)))
 rintro _ w18 ⟨rfl, hst18⟩
 have hS18 := hS17.later hst18.below
 refine Gdc O (Cd.cond_pf O (by omega) (Gac O ?_))
 refine Cd.cond_pf O (fun h => h O) ?_
 refine Gao O (Ops.ld_agg 0 (r1 hS18) O O O (Ops.call (toManiplex_c A n c rs xss _ (hS18.oldRows hR) hfit) O O O ?_))
 rintro _ w19 ⟨A8, rs8, rfl, hrl8, hst19⟩
 refine Ops.call (hI_ A8 n n rs8 _ (hT.later (hS18.later hst19.below).below) (St.rowsI (ks := []) (by rwa [List.append_nil]) hxl) (Nat.le_refl _) hn) O O O ?_
 rintro _ w20 ⟨H, cH, rsH, rfl, hrH, hst20⟩
 have hS20 := (hS18.later hst19.below).call hst20
 refine Gdo O (Ops.new1 hS20 O ?_)
 intro A12 w21 hS21
 refine Ops.st_agg 1 0 hS21 O O O O O O O ?_
 intro w22 hS22
 have hS22 : St w w22 (Bx 24 1 A12 [.slice H L.length cH] :: (mat 32 2 H L.length cH rsH L ++ ([b7, b6, b4, b1] ++ (mat 32 2 G L.length cG rsG (mkSS 1 L) ++ (mat 32 2 X n n rsX ys ++ mat 32 2 W0 L.length cW rsW L))))) := hS22
 have t22 := fun {w' : World} (h : St w w' (Bx 24 1 A12 [.slice H L.length cH] :: (mat 32 2 H L.length cH rsH L ++ ([b7, b6, b4, b1] ++ (mat 32 2 G L.length cG rsG (mkSS 1 L) ++ (mat 32 2 X n n rsX ys ++ mat 32 2 W0 L.length cW rsW L)))))) => h.sub ((List.sublist_append_right _ _).trans (List.sublist_cons_self _ _))
 have m22 : RowsI w22 H L.length rsH L := hS22.matAt (c := cH) ((List.sublist_append_left _ _).trans (List.sublist_cons_self _ _)) O
 refine Gdo O (Ops.ld_agg 0 (hS22.rd 0 O) O O O (Ops.ld_agg 0 (r4 (t22 hS22)) O O O (Ops.call (eqManiplex_c H _ cH rsH L W0 _ cW rsW L _ m22 (mWa (t22 hS22)) (by omega)) O O O ?_)))
 rintro _ w23 ⟨rfl, hst23⟩
 have hS23 := hS22.later hst23.below
 first | refine Ops.not_p rfl rfl ?_ | refine Ops.not rfl rfl ?_
 refine Gdo O ?_
 refine Ops.split_p 83 O (fun h => absurd O h) (fun _ => ?_)
 refine Ops.g O O O (Gdo O (Ops.g O O O (Gdo O (Ops.g O O O (Gdc O ?_)))))
 refine Cd.cond_pf O (fun h => h O) ?_
 refine Gao O (Ops.ld_agg 0 (r7 (t22 hS23)) O O O (Gdo O (Ops.call (heldMx_c G _ cG rsG L 1 _ (mGa (mkSS_len _ _) (t22 hS23)) (by omega) hr1000 (by omega)) O O O ?_)))
 rintro _ w24 ⟨rfl, hst24⟩
 have hS24 := hS23.later hst24.below
 refine Gdc O (Cd.cond_pf O (by omega) (Gac O ?_))
 refine Cd.cond_pf O (fun h => h O) ?_
 refine Gar O (ret1_b O ?_)
 exact ⟨O, hS24.none⟩
end Go.Proofs.YtopgfgdgfjddpaaGreatDoor.Vc
/-
 A statement's frame: the arguments opened, and what a walk gives told in the statement's own words.
-/
namespace Go.Proofs.YtopgfgdgfjddpaaGreatDoor.Vc
open Go.RowKit Go.ChangeShapes Go.WideShapes
theorem laid : laidOutB Tryz.prog = true := by kernel_rfl
theorem own : ownKnob Tryz.prog.godebug = none := by kernel_rfl
section
variable {H : Type} {enc : TypeId × Value → H} {P : Program}
theorem open_mat {w : World} {t e q : TypeId} {fuel : Nat} {cs : List Value} {x : DataW H × List MemPlace} (ht : P.underlying t = some (.slice e)) (he : P.underlying e = some (.slice q)) (hq : P.underlying q = some (.int .i64)) (ce : P.cellsOf e = 1) (cq : P.cellsOf q = 1)
    (h : DataW.trod enc P w 0 (fun _ => true) true fuel t cs = some x) : ∃ A n c rs xss, cs = [.slice A n c] ∧ RowsI w A n rs xss ∧ n ≤ c ∧ c ≤ 9223372036854775807 := by
  rcases Go.Deep.open_int_rows ht he hq ce cq h with ⟨rfl, _⟩ | ⟨a, len, cap, A, L, C, Z, rfl, _, hl, hm, _, hc⟩
  · exact ⟨none, 0, 0, [], [], O, RowsI.nil w, Nat.le_refl _, by omega⟩
  · refine ⟨some a, len, cap, (List.range len).map fun r => ⟨A r, L r, C r⟩, (List.range len).map fun r => (Z r).take (L r), O, ⟨⟨by simp, fun k hk => ?_⟩, by simp, fun i hi => ?_, fun i hi => ?_⟩, hl, by simpa [maxLen] using hm⟩
    · have := (hc k (by omega)).1
      exact ⟨a.add k, O, by rw [this]; simp [List.getD_eq_getElem?_getD, hk, SlV.v]⟩
    · have h1 := hc i (by omega)
      have e1 : ((List.range len).map fun r => (⟨A r, L r, C r⟩ : SlV)).getD i slNil = ⟨A i, L i, C i⟩ := by simp [List.getD_eq_getElem?_getD, hi]
      have e2 : ((List.range len).map fun r => (Z r).take (L r)).getD i [] = (Z i).take (L i) := by simp [List.getD_eq_getElem?_getD, hi]
      rw [e1, e2]
      refine ⟨by simp; omega, fun k hk => ?_⟩
      have hk' : k < L i := hk
      cases hA : A i with
      | none => have := h1.2.2.2.2.2.1 hA; omega
      | some a' =>
        have h2 := (h1.2.2.2.2.2.2 a' hA).2 k (by omega)
        exact ⟨a'.add k, O, by rw [h2]; simp [List.getD_eq_getElem?_getD, List.getElem?_take, hk']⟩
    · have h1 := hc i (by omega)
      have e1 : ((List.range len).map fun r => (⟨A r, L r, C r⟩ : SlV)).getD i slNil = ⟨A i, L i, C i⟩ := by simp [List.getD_eq_getElem?_getD, hi]
      rw [e1]
      exact ⟨h1.2.1, h1.2.2.1⟩
theorem trodAll_stays (hl : laidOutB P = true) {W W' : World} (hb : Below W.heap.size W W') {sp : Nat → Bool} : ∀ {ts : List TypeId} {vs : List Value} {ds : List (DataW H)} {ps : List MemPlace}, (ts.all fun t => P.readableRec t && Nat.blt t P.types.size) = true → (∀ p ∈ ps, p.block < W.heap.size) → (∀ p ∈ ps, sp p.block = true) →
  DataW.TrodAll enc P W 0 (fun _ => true) true ts vs ds ps → DataW.TrodAll enc P W' 0 sp true ts vs ds ps
 | [], [], [], _, _, _, _, h => h
 | t :: ts, v :: vs, d :: ds, ps, hr, hlt, hsp, h => by
  obtain ⟨p, q, h1, h2, rfl⟩ := h
  simp only [List.all_cons, Bool.and_eq_true] at hr
  exact ⟨p, q, WideElems.Trod_stays hl hr.1.1 (by simpa [Nat.blt_eq] using hr.1.2) h1 (fun x hx => hb.same (hlt x (by simp [hx]))) (fun x hx => hsp x (by simp [hx])), trodAll_stays hl hb hr.2 (fun x hx => hlt x (by simp [hx])) (fun x hx => hsp x (by simp [hx])) h2, O⟩
 | [], [], _ :: _, _, _, _, _, h => h.elim
 | [], _ :: _, _, _, _, _, _, h => by cases h
 | _ :: _, [], _, _, _, _, _, h => by cases h
 | _ :: _, _ :: _, [], _, _, _, _, h => by cases h
theorem post_law {f : Func} {s : ChangeSpec} {apart : Bool} {W W' : World} {args : Array Value} {ds gs : List (DataW H)} {before : List MemPlace} (hl : laidOutB P = true) {b : TypeId} (hu : P.underlying b = some .bool) (hres : f.resultTypes = #[b]) (hv : s.vars = [])
    (hr : (f.params.toList.all fun t => P.readableRec t && Nat.blt t P.types.size) = true) (hfn : (s.fn H (ds ++ gs)).results = [.lit (.bool true)] ∧ (s.fn H (ds ++ gs)).args = ds ∧ (s.fn H (ds ++ gs)).vars = [])
    (hW : DataW.Whole enc P f.params.toList s.vars apart W args.toList ds gs before) (hb : Below W.heap.size W W') : s.post enc P f apart true false false W args (.bool true) W' := by
  have hlt : ∀ x ∈ before, x.block < W.heap.size := fun x hx => hW.lt x hx
  have hW0 := hW
  obtain ⟨p, q, hA, hV, rfl, hz, hn⟩ := hW
  rw [hv] at hV
  obtain ⟨rfl, rfl⟩ := trodVars_none hV
  have hlp : ∀ x ∈ p, x.block < W.heap.size := fun x hx => hlt x (by simp [hx])
  have hA' : ∀ sp : Nat → Bool, (∀ x ∈ p, sp x.block = true) → DataW.TrodAll enc P W' 0 sp true f.params.toList args.toList (s.fn H (ds ++ [])).args p := fun sp hsp => by
    rw [hfn.2.1]
    exact trodAll_stays hl hb hr hlp hsp hA
  have hR' : ∀ (b0 : Nat) (sp : Nat → Bool) (hd : Bool), DataW.TrodAll enc P W' b0 sp hd f.resultTypes.toList ((Value.bool true).resultList f.resultTypes.size) (s.fn H (ds ++ [])).results [] := fun b0 sp hd => by
    rw [hfn.1, hres]
    exact trodAll_cons_mk (shut_bool hu _) trodAll_mk0
  have hV' : ∀ sp : Nat → Bool, DataW.TrodVars enc P W' sp s.vars (s.fn H (ds ++ [])).vars [] := fun sp => by
    rw [hfn.2.2, hv]; rfl
  refine ⟨ds, [], p ++ [], [], p, [], hW0, hR' _ _ _, hA' _ (fun x hx => by simpa using hlp x hx), hV' _, World.keptBut_mono (fun x hx => ⟨hx, by simpa using hx⟩) (hb.frame (· ∈ p ++ [])), fun _ => ⟨fun j t r h1 h2 => ?_, _, _, ([] ++ p) ++ [], ⟨[] ++ p, [], trodAll_append (hA' _ fun _ _ => O) (hR' _ _ _), hV' _, O, fun c off hc => ?_, fun ha => by simpa using hn ha⟩, fun x hx _ => by simpa using hx⟩⟩
  · rw [hres] at h1 h2
    cases j with
    | zero =>
      simp at h1
      subst h1
      simp [Value.resultList] at h2
      subst h2
      exact okWide_bool_mk hu _
    | succ j => simp at h1
  · have hin : MemPlace.cell c off ∈ p ++ [] := by simpa using hc
    rw [hb.frozen (hlt _ hin)]
    exact hz c off hin
end
/-
 Arguments opened: a struct of one matrix, a list of integers.
-/
section
variable {H : Type} {enc : TypeId × Value → H} {P : Program}
theorem open_man {w : World} {r : Go.Reach} {b0 : Nat} {t e q : TypeId} {f0 : Field} {v : Value} {d : DataW H} {p : List MemPlace} (hs : P.underlying t = some (.struct #[f0])) (hf0 : f0.offset = 0) (ht : P.underlying f0.type = some (.slice e)) (he : P.underlying e = some (.slice q)) (hq : P.underlying q = some (.int .i64)) (ce : P.cellsOf e = 1) (cq : P.cellsOf q = 1) (cm : P.cellsOf f0.type = 1) (cc : P.cellsOf t = 1) (hval : Value.okWide P w r b0 t v) (h : DataW.Trod enc P w 0 (fun _ => true) true t v d p) : ∃ A n c rs xss, v = .agg #[.slice A n c] ∧ RowsI w A n rs xss ∧ n ≤ c ∧ c ≤ 9223372036854775807 := by
 obtain ⟨cs, rfl, hsz⟩ := okWide_struct hs hval
 obtain ⟨fuel, hf⟩ := h
 obtain ⟨z0, m0, _, _, hz0⟩ := trod_struct1 hs hf
 obtain ⟨A, n, c, rs, xss, e1, hR, hn, hc⟩ := open_mat ht he hq ce cq hz0
 refine ⟨A, n, c, rs, xss, ?_, hR, hn, hc⟩
 have hl : cs.toList.length = 1 := by rw [Array.length_toList, hsz, cc]
 have e1 : (cs.toList.drop f0.offset).take (P.cellsOf f0.type) = [Value.slice A n c] := e1
 rw [hf0, cm, List.drop_zero, List.take_of_length_le (by omega)] at e1
 congr 1
 exact Array.ext' (by rw [e1])
end
end Go.Proofs.YtopgfgdgfjddpaaGreatDoor.Vc
