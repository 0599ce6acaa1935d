/-
  The texts Lx1, Open, Opm in one. Conditions: as each part states them.
-/
import Derived.Test.YtopgfgdgfjddpaaGreatDoorZj
import Derived.Test.YtopgfgdgfjddpaaGreatDoorZa
import Derived.Test.YtopgfgdgfjddpaaGreatDoorInst
import Derived.Deep.Matrix
import Derived.Carry
import Derived.Below
import Derived.ChangeSame
import Derived.ProofKit
import Derived.OpenShut
import Derived.Handed
import Derived.Lib.SmallJoins
/-
 The walk of the law FnExactProductPoset: it returns true. Conditions: the library's table of powers of ten holds what the program's text lays there.
-/
namespace Go.Proofs.YtopgfgdgfjddpaaGreatDoor.Vc
open Go.RowKit
abbrev lwS (n m r b : Nat) (N : Int) (A12 GR GD A11 Y A10 X : Option Addr) (cG dG : Nat) (rsG rsY rsX : List SlV) (R : List Int) (B K M : List (List Int)) : List Ck :=
 poB A12 N GR r cG GD b dG :: CkI 2 GR r cG R :: (mat 32 2 GD b dG rsG B ++ (mxB A11 Y m m :: (mat 32 2 Y m m rsY K ++ (mxB A10 X n n :: mat 32 2 X n n rsX M))))
set_option maxHeartbeats 4000000 in
theorem FnExactProductPoset_c (A : Option Addr) (n c : Nat) (rs : List SlV) (M : List (List Int)) (D : Option Addr) (m d : Nat) (ts : List SlV) (K : List (List Int)) (kind : Int) (w : World) (hT : Tab w) (hR : RowsI w A n rs M) (hn : n ≤ 9223372036854775807) (hK : RowsI w D m ts K) (hm : m ≤ 9223372036854775807) :
  Ret Tryz.prog 7 [.agg #[.slice A n c], .agg #[.slice D m d], .int .i64 kind] w (fun v w' => v = .bool true ∧ St w w' []) := by
 have hxl := hR.len
 have hyl := hK.len
 have hbd := pp_bd M K kind
 have hsp := fun A n c D m d rs ts w hM hK hn hm => specProductPoset_c A D n c m d rs ts M K kind w hM hK hn hm
 have him := fun A n c D m d rs ts w hT hM hK hn hc hm hd => implProductPoset_c A D n c m d rs ts M K kind w hT hM hK hn hc hm hd
 generalize ppN M K kind = N at *
 generalize ppR M K kind = RL at *
 generalize ppB M K kind = BL at *
 generalize ppC M K kind = C at *
 have htot := tot_le (b := 1000) BL hbd.2
 refine Ret.of_cd Tryz.func7 O Tryz.ntmps7 O (post1 O) (Gbo O (Ops.box1 (St.refl w) O O ?_))
 intro A3 w1 hS1
 skip
 refine Ops.box1 hS1 O O ?_
 intro A4 w2 hS2
 refine Gdo O (Ops.ld_agg 0 (hS2.rd 1 O) O O O (Gdo O (Ops.call (szManiplex_c A n c rs M 1048576 _ (hS2.oldRows hR) hn (by omega)) O O O ?_)))
 rintro _ w3 ⟨rfl, hst⟩
 have hS3 := hS2.later hst.below
 refine Gdc O ?_
 refine Cd.cond_p _ O (fun h1 => ?_) (fun h1 => ?_)
 ·refine Gar O (ret1_b O ?_)
  exact ⟨O, hS3.none⟩
 have hs1 := szSS_fits (ns := lens rs) (l := 1048576) (by omega) (Int.not_lt.1 h1)
 have hf1 := fits_of hR.top.1 (by omega) (Int.not_lt.1 h1)
 have hm1 := small_of hR.top.1 (Int.not_lt.1 h1)
 refine Gao O (Ops.ld_agg 0 (hS3.rd 0 O) O O O (Gdo O (Ops.call (szManiplex_c D m d ts K _ _ (hS3.oldRows hK) hm ⟨Int.not_lt.1 h1, hs1.1⟩) O O O ?_)))
 rintro _ w4 ⟨rfl, hst⟩
 have hS4 := hS3.later hst.below
 refine Gdc O ?_
 refine Cd.cond_p _ O (fun h2 => ?_) (fun h2 => ?_)
 ·refine Gar O (ret1_b O ?_)
  exact ⟨O, hS4.none⟩
 have hf2 := fits_of hK.top.1 ⟨Int.not_lt.1 h1, hs1.1⟩ (Int.not_lt.1 h2)
 have hm2 := small_of2 ⟨Int.not_lt.1 h1, hs1.1⟩ hK.top.1 (Int.not_lt.1 h2)
 clear hS1 hS2 hS3
 have hb3 := hS4.rd 1 O
 have hb4 := hS4.rd 0 O
 have hM4 := hS4.oldRows hR
 have hK4 := hS4.oldRows hK
 refine Gac O ?_
 refine Cd.drawP [10] [.ex (.agg #[.slice (A) (n) (c)]), .pr (fun v w' => ∃ Q, ∃ qs : List SlV, v = .agg #[.slice Q n n] ∧ RowsI w' Q n qs M), .ex (.agg #[.slice (D) (m) (d)]), .pr (fun v w' => ∃ Q, ∃ qs : List SlV, v = .agg #[.slice Q m m] ∧ RowsI w' Q m qs K), yI (kind), .pr (fun v w' => AnsPo N RL BL C w4 v w'), .al (fun v => ∃ u0, v = .tuple #[u0, .int .i64 C]) (fun v w' => AnsPo N RL BL C w4 v w'), .pr (fun v w' => ∃ AR cR AD cD rsD, v = .agg #[.int .i64 N, .slice AR RL.length cR, .slice AD BL.length cD] ∧ rsD.length = BL.length ∧ St w4 w' (CkI 2 AR RL.length cR RL :: (mat 32 2 AD BL.length cD rsD BL ++ []))), yI (C), .pr (fun v w' => ∃ A9, v = .pointer A9 ∧ St w4 w' [poB A9 0 none 0 0 none 0 0]), .p2 9 (fun a v w' => ∃ A9, ∃ AR cR AD cD rsD, a = .pointer A9 ∧ rsD.length = BL.length ∧ St w4 w' (poB A9 N AR RL.length cR AD BL.length cD :: (CkI 2 AR RL.length cR RL :: (mat 32 2 AD BL.length cD rsD BL ++ [])))), yI (C)] (by kernel_rfl) (by kernel_rfl) (ly (List.forall_mem_cons.2 ⟨Ye.lasts_pr (fun v w w' h hb => by obtain ⟨Q, qs, hv, h1⟩ := h; exact ⟨Q, qs, hv, h1.later hb⟩), (ly (List.forall_mem_cons.2 ⟨Ye.lasts_pr (fun v w w' h hb => by obtain ⟨Q, qs, hv, h1⟩ := h; exact ⟨Q, qs, hv, h1.later hb⟩), (ly (List.forall_mem_cons.2 ⟨Ye.lasts_pr (fun v w w' h hb => by obtain ⟨AR, cR, AD, cD, rsD, hv, h1, h2⟩ := h; exact ⟨AR, cR, AD, cD, rsD, hv, h1, h2.later hb⟩), (List.forall_mem_cons.2 ⟨Ye.lasts_al (fun v w w' h hb => by obtain ⟨AR, cR, AD, cD, rsD, hv, h1, h2⟩ := h; exact ⟨AR, cR, AD, cD, rsD, hv, h1, h2.later hb⟩), (List.forall_mem_cons.2 ⟨Ye.lasts_pr (fun v w w' h hb => by obtain ⟨AR, cR, AD, cD, rsD, hv, h1, h2⟩ := h; exact ⟨AR, cR, AD, cD, rsD, hv, h1, h2.later hb⟩), (ly (List.forall_mem_cons.2 ⟨Ye.lasts_pr (fun v w w' h hb => by obtain ⟨A9, hv, hT⟩ := h; exact ⟨A9, hv, hT.later hb⟩), (List.forall_mem_cons.2 ⟨Ye.lasts_p2 (fun a v w w' h hb => by obtain ⟨A9, AR, cR, AD, cD, rsD, h9, h1, hT⟩ := h; exact ⟨A9, AR, cR, AD, cD, rsD, h9, h1, hT.later hb⟩), (ly (fun _ h => by cases h))⟩)⟩))⟩)⟩)⟩))⟩))⟩)) ?_ ?_
 ·refine ⟨?_, ?_, ?_, ?_, fun _ _ _ _ _ _ _ _ _ => DkP O O, ?_, ?_, ?_, ?_, ?_, ?_, fun _ _ _ _ _ _ _ _ _ => DkP O O, trivial⟩
  ·intro e1 w1 cc hlo hhi hb0 hp hun hq; show Ops _ _ _ _ _ _ _
   obtain rfl := cc_of hlo hhi (b := 0)
   have hb := hb0 O
   refine Ops.ld_agg 0 (hb3.below hb) O O O (Ops.n (p0_ O (by exact O)))
  ·intro e1 w1 cc hlo hhi hb0 hp hun hq; show Ops _ _ _ _ _ _ _
   obtain rfl := cc_of hlo hhi (b := 0)
   have hb := hb0 O
   refine Ops.call (toManiplex_c A n c rs M _ (hM4.later hb) hf1) O O O ?_
   rintro _ w2 ⟨Q, qs, rfl, hql, hst⟩
   refine Ops.n ?_
   exact AfterP.dn O hst.below ⟨Q, qs, O, St.rowsI (ks := []) (by rwa [List.append_nil]) hxl⟩
  ·intro e1 w1 cc hlo hhi hb0 hp hun hq; show Ops _ _ _ _ _ _ _
   obtain rfl := cc_of hlo hhi (b := 0)
   have hb := hb0 O
   refine Ops.ld_agg 0 (hb4.below hb) O O O (Ops.n (p0_ O (by exact O)))
  ·intro e1 w1 cc hlo hhi hb0 hp hun hq; show Ops _ _ _ _ _ _ _
   obtain rfl := cc_of hlo hhi (b := 0)
   have hb := hb0 O
   refine Ops.call (toManiplex_c D m d ts K _ (hK4.later hb) hf2) O O O ?_
   rintro _ w2 ⟨Q, qs, rfl, hql, hst⟩
   refine Ops.n ?_
   exact AfterP.dn O hst.below ⟨Q, qs, O, St.rowsI (ks := []) (by rwa [List.append_nil]) hyl⟩
  ·intro e1 w1 cc hlo hhi hb0 hp hun hq; show Ops _ _ _ _ _ _ _
   obtain rfl := cc_of hlo hhi (b := 0)
   have hb := hb0 O
   obtain ⟨Q, qs, h30, h1⟩ := (hp 1 _ _ (by kernel_rfl) rfl rfl (by kernel_rfl))
   obtain ⟨V, vs, h31, h2⟩ := (hp 3 _ _ (by kernel_rfl) rfl rfl (by kernel_rfl))
   refine Ops.call (hsp Q n n V m m qs vs _ h1 h2 hn hm) O (by exact eq_21 h30 h31) O ?_
   rintro _ w9 ⟨AR, cR, AD, cD, rsD, rfl, hrD, hst⟩
   refine Ops.n ?_
   exact AfterP.dn O hst.below ⟨AR, cR, AD, cD, rsD, O, hrD, by have := ((St.refl w4).later hb).call hst; rwa [List.append_nil] at this⟩
  ·intro e1 w1 cc hlo hhi hb0 hp hun hq; show Ops _ _ _ _ _ _ _
   obtain rfl := cc_of hlo hhi (b := 0)
   have hb := hb0 O
   obtain ⟨AR, cR, AD, cD, rsD, h25, h1, h2⟩ := (hp 5 _ _ (by kernel_rfl) rfl rfl (by kernel_rfl))
   refine Ops.mv_tup O (by exact h25) O (Ops.n ?_)
   exact AfterP.dn O (Below.refl _ _) ⟨⟨_, O⟩, AR, cR, AD, cD, rsD, O, h1, h2⟩
  ·intro e1 w1 cc hlo hhi hb0 hp hun hq; show Ops _ _ _ _ _ _ _
   obtain rfl := cc_of hlo hhi (b := 0)
   have hb := hb0 O
   obtain ⟨AR, cR, AD, cD, rsD, h19, h1, h2⟩ := ((hp 6 _ _ (by kernel_rfl) rfl rfl).2 (by kernel_rfl))
   refine Ops.extract (by exact h19) O O (Ops.n ?_)
   exact AfterP.dn O (Below.refl _ _) ⟨AR, cR, AD, cD, rsD, O, h1, h2⟩
  ·intro e1 w1 cc hlo hhi hb0 hp hun hq; show Ops _ _ _ _ _ _ _
   obtain ⟨u0, h19⟩ := (hp 6 _ _ (by kernel_rfl) rfl rfl).1
   refine Ops.extract (by exact h19) O O (Ops.n (p0_ O (by exact O)))
  ·intro e1 w1 cc hlo hhi hb0 hp hun hq; show Ops _ _ _ _ _ _ _
   obtain rfl := cc_of hlo hhi (b := 0)
   have hb := hb0 O
   refine Ops.newP (St.refl _) O ?_
   intro A9 w9 hst
   refine Ops.n ?_
   exact AfterP.dn O hst.below ⟨A9, O, by have := ((St.refl w4).later hb).call hst; rwa [List.append_nil] at this⟩
  intro e1 w1 cc hlo hhi hb0 hp hun hq
  show Ops _ _ _ _ _ _ _
  obtain rfl := cc_of hlo hhi (b := 0)
  have hb := hb0 O
  obtain ⟨A9, h9, hT⟩ := (hp 9 _ _ (by kernel_rfl) rfl rfl (by kernel_rfl))
  obtain ⟨AR, cR, AD, cD, rsD, h26, h1, h2⟩ := (hp 7 _ _ (by kernel_rfl) rfl rfl (by kernel_rfl))
  refine Ops.st_agg 3 0 (hT.mergeP h2) O (by exact h9) (by exact h26) O O O O ?_
  intro w9 hS9
  refine Ops.n ?_
  exact AfterU.st O ⟨A9, AR, cR, AD, cD, rsD, h9, h1, hS9⟩
 intro u2 w5 _ _ hu2 _
 obtain ⟨A8, AR, cR, AD, cD, rsD, h8, hrD, hV5⟩ := hu2 10 9 _ rfl (by kernel_rfl)
 have hW0 : Rd w5 A8 3 (fun j => [Value.int .i64 N, .slice AR RL.length cR, .slice AD BL.length cD].getD j undef) := hV5.rd 0 O
 have hWR : RdI w5 AR RL.length RL := hV5.rdI 1 O
 have hWB : RowsI w5 AD BL.length rsD BL := St.rowsI hV5.tail.tail O
 have hS5 := hS4.call hV5
 have hb3 := Rd.below hb3 (hV5.below)
 have hb4 := Rd.below hb4 (hV5.below)
 have hM5 := hM4.later hV5.below
 have hK5 := hK4.later hV5.below
 have hT5 := hT.later hS5.below
 have hend : ∀ {w' : World} {ks : List Ck}, St w5 w' ks → St w w' [] := fun h => (hS5.later h.below).none
 clear hM4 hK4 hV5 hS4
 refine Qk_ext (F := [(2, .int .i64 kind), (3, .pointer A3), (4, .pointer A4), (8, .pointer A8), (9, .int .i64 C)]) ⟨O, O, O, h8, O, trivial⟩ (Geo O (Ops.ld_agg 0 hb3 O O O (Ops.call (toManiplex_c A n c rs M _ hM5 hf1) O O O ?_)))
 rintro _ w6 ⟨X, rsX, rfl, hrX, hst⟩
 skip
 refine Ops.new1 hst O ?_
 intro A10 w7 hU7
 refine Ops.st_agg 1 0 hU7 O O O O O O O ?_
 intro w8 hU8
 have hU8 : St w5 w8 (mxB A10 X n n :: mat 32 2 X n n rsX M) := hU8
 clear hst hU7
 have hb10 := hU8.rd 0 O
 have hX8 : RowsI w8 X n rsX M := St.rowsI (ks := []) (by rw [List.append_nil]; exact hU8.tail) hxl
 refine Gdo O (Ops.ld_agg 0 (hU8.old hb4) O O O (Ops.call (toManiplex_c D m d ts K _ (hU8.oldRows hK5) hf2) O O O ?_))
 rintro _ w9 ⟨Y, rsY, rfl, hrY, hst⟩
 skip
 refine Ops.new1 hst O ?_
 intro A11 w10 hU10
 refine Ops.st_agg 1 0 hU10 O O O O O O O ?_
 intro w11 hU11
 have hU11 : St w8 w11 (mxB A11 Y m m :: mat 32 2 Y m m rsY K) := hU11
 clear hst hU10
 have hY11 : RowsI w11 Y m rsY K := St.rowsI (ks := []) (by rw [List.append_nil]; exact hU11.tail) hyl
 have hA11 := hU8.call hU11
 refine Gdo O (Ops.ld_agg 0 (Rd.below hb10 hU11.below) O O O ?_)
 skip
 refine Ops.ld_agg 0 (hU11.rd 0 O) O O O (Gdo O (Ops.call (him X n n Y m m rsX rsY _ (hT5.later hA11.below) (hX8.later hU11.below) hY11 (Nat.le_refl _) hn (Nat.le_refl _) hm) O O O ?_))
 rintro _ w12 ⟨GR, cG, GD, dG, rsG, rfl, hrG, hst⟩
 refine Gdo O (Ops.newP hst O ?_)
 intro A12 w13 hU13
 refine Ops.st_agg 3 0 hU13 O O O O O O O ?_
 intro w14 hU14
 have hU14 : St w11 w14 (poB A12 N GR RL.length cG GD BL.length dG :: CkI 2 GR RL.length cG RL :: (mat 32 2 GD BL.length dG rsG BL ++ [])) := hU14
 have hS14 : St w5 w14 (lwS n m RL.length BL.length N A12 GR GD A11 Y A10 X cG dG rsG rsY rsX RL BL K M) := by
  have := hA11.call hU14
  simpa only [List.append_assoc, List.cons_append, List.nil_append, List.append_nil] using this
 clear hU14 hU13 hst hA11 hU11 hU8 hX8 hY11 hb10
 have r12 : ∀ {w' : World} {R' : List Int} {B' K' M' : List (List Int)}, St w5 w' (lwS n m RL.length BL.length N A12 GR GD A11 Y A10 X cG dG rsG rsY rsX R' B' K' M') → Rd w' A12 3 (fun j => [Value.int .i64 N, .slice GR RL.length cG, .slice GD BL.length dG].getD j undef) := fun h => h.rd 0 O
 have rR : ∀ {w' : World} {R' : List Int} {B' K' M' : List (List Int)}, St w5 w' (lwS n m RL.length BL.length N A12 GR GD A11 Y A10 X cG dG rsG rsY rsX R' B' K' M') → RdI w' GR RL.length R' := fun h => h.rdI 1 O
 have rB : ∀ {w' : World} {R' : List Int} {B' K' M' : List (List Int)}, B'.length = BL.length → St w5 w' (lwS n m RL.length BL.length N A12 GR GD A11 Y A10 X cG dG rsG rsY rsX R' B' K' M') → RowsI w' GD BL.length rsG B' := fun hl h => St.rowsI (h.tail.tail) hl
 have r11 : ∀ {w' : World} {R' : List Int} {B' K' M' : List (List Int)}, St w5 w' (lwS n m RL.length BL.length N A12 GR GD A11 Y A10 X cG dG rsG rsY rsX R' B' K' M') → Rd w' A11 1 (fun j => [Value.slice Y m m].getD j undef) := fun h => ((h.tail.tail).sub (List.sublist_append_right _ _)).rd 0 O
 have rY : ∀ {w' : World} {R' : List Int} {B' K' M' : List (List Int)}, K'.length = m → St w5 w' (lwS n m RL.length BL.length N A12 GR GD A11 Y A10 X cG dG rsG rsY rsX R' B' K' M') → RowsI w' Y m rsY K' := fun hl h => St.rowsI (((h.tail.tail).sub (List.sublist_append_right _ _)).tail) hl
 have r10 : ∀ {w' : World} {R' : List Int} {B' K' M' : List (List Int)}, St w5 w' (lwS n m RL.length BL.length N A12 GR GD A11 Y A10 X cG dG rsG rsY rsX R' B' K' M') → Rd w' A10 1 (fun j => [Value.slice X n n].getD j undef) := fun h => ((((h.tail.tail).sub (List.sublist_append_right _ _)).tail).sub (List.sublist_append_right _ _)).rd 0 O
 have rX : ∀ {w' : World} {R' : List Int} {B' K' M' : List (List Int)}, M'.length = n → St w5 w' (lwS n m RL.length BL.length N A12 GR GD A11 Y A10 X cG dG rsG rsY rsX R' B' K' M') → RowsI w' X n rsX M' := fun hl h => St.rowsI (ks := []) (by rw [List.append_nil]; exact ((((h.tail.tail).sub (List.sublist_append_right _ _)).tail).sub (List.sublist_append_right _ _)).tail) hl
 refine Gdo O (Ops.ld_agg 2 (r12 hS14) O O O ?_)
 skip
 refine Ops.ld_agg 2 (hS14.old hW0) O O O ?_
 skip
 refine Ops.call (eqPoset_c N GR _ cG RL GD _ dG rsG BL N AR _ cR RL AD _ cD rsD BL _ (rR hS14) (rB O hS14) (hS14.oldI hWR) (hS14.oldRows hWB) (by omega) (by omega)) O O O ?_
 rintro _ w15 ⟨rfl, hst⟩
 have hS15 := hS14.later hst.below
 rw [decide_eq_true (show N = N ∧ RL = RL ∧ BL = BL from ⟨rfl, rfl, rfl⟩)]
 first | refine Ops.not_p rfl rfl ?_ | refine Ops.not rfl rfl ?_
 refine Gdo O ?_
 refine Ops.split 53 rfl (fun h => by cases h) (fun _ => ?_)
 refine Ops.g O O O (Gdo O (Ops.g O O O (Gdo O (Ops.g O O O (Gdc O ?_)))))
 refine Cd.cond_pf O (fun h => h O) ?_
 have q3 := hS15.old hb3
 have q10 := r10 hS15
 have qX := rX hxl hS15
 have qM := hS15.oldRows hM5
 refine Gac O ?_
 refine Cd.draw [.ex (.agg #[.slice (X) (n) (n)]), .ex (.agg #[.slice (A) (n) (c)]), .pr (fun v w' => ∃ Q, ∃ qs : List SlV, v = .agg #[.slice Q n n] ∧ RowsI w' Q n qs M), xB (true), xB (false)] (by kernel_rfl) (by kernel_rfl) rfl (lx (lx (List.forall_mem_cons.2 ⟨Yd.lasts_pr (fun v w w' h hb => by obtain ⟨Q, qs, hv, h1⟩ := h; exact ⟨Q, qs, hv, h1.later hb⟩), (lx (lx (fun _ h => by cases h)))⟩))) ?_ ?_
 ·refine ⟨fun _ _ hb _ _ => Ops.ld_agg 0 (q10.below hb) O O O (Az O), fun _ _ hb _ _ => Ops.ld_agg 0 (q3.below hb) O O O (Az O), ?_, ?_, fun _ _ _ _ _ => Ops.not O O (Az (by exact congrArg Value.bool (O))), trivial⟩
  ·intro e1 w1 hb hp hun; refine Ops.call (toManiplex_c A n c rs M _ (qM.later hb) hf1) O O O ?_
   rintro _ w2 ⟨Q, qs, rfl, hql, hst⟩
   refine Ops.n ?_
   exact After.dn hst.below ⟨Q, qs, O, St.rowsI (ks := []) (by rwa [List.append_nil]) hxl⟩
  intro e1 w1 hb hp hun
  obtain ⟨Q, qs, h60, h1⟩ := (hp 2 (by decide) rfl _ _ rfl rfl)
  refine Ops.call (eqManiplex_c X n n rsX M Q n n qs M _ (qX.later hb) h1 hn) O (by exact congrArg (fun v => [Value.agg #[.slice X n n], v]) h60) O ?_
  rintro _ w2 ⟨rfl, hst⟩
  refine Ops.n ?_
  exact After.dn hst.below (by exact congrArg Value.bool (decide_eq_true O))
 intro u w16 hb16 _
 have hS16 := hS15.later hb16
 clear q3 q10 qX qM
 refine Gec O (Cd.cond_f O ?_)
 have q4 := hS16.old hb4
 have q11 := r11 hS16
 have qY := rY hyl hS16
 have qK := hS16.oldRows hK5
 refine Gac O ?_
 refine Cd.draw [.ex (.agg #[.slice (Y) (m) (m)]), .ex (.agg #[.slice (D) (m) (d)]), .pr (fun v w' => ∃ Q, ∃ qs : List SlV, v = .agg #[.slice Q m m] ∧ RowsI w' Q m qs K), xB (true), xB (false)] (by kernel_rfl) (by kernel_rfl) rfl (lx (lx (List.forall_mem_cons.2 ⟨Yd.lasts_pr (fun v w w' h hb => by obtain ⟨Q, qs, hv, h1⟩ := h; exact ⟨Q, qs, hv, h1.later hb⟩), (lx (lx (fun _ h => by cases h)))⟩))) ?_ ?_
 ·refine ⟨fun _ _ hb _ _ => Ops.ld_agg 0 (q11.below hb) O O O (Az O), fun _ _ hb _ _ => Ops.ld_agg 0 (q4.below hb) O O O (Az O), ?_, ?_, fun _ _ _ _ _ => Ops.not O O (Az (by exact congrArg Value.bool (O))), trivial⟩
  ·intro e1 w1 hb hp hun; refine Ops.call (toManiplex_c D m d ts K _ (qK.later hb) hf2) O O O ?_
   rintro _ w2 ⟨Q, qs, rfl, hql, hst⟩
   refine Ops.n ?_
   exact After.dn hst.below ⟨Q, qs, O, St.rowsI (ks := []) (by rwa [List.append_nil]) hyl⟩
  intro e1 w1 hb hp hun
  obtain ⟨Q, qs, h60, h1⟩ := (hp 2 (by decide) rfl _ _ rfl rfl)
  refine Ops.call (eqManiplex_c Y m m rsY K Q m m qs K _ (qY.later hb) h1 hm) O (by exact congrArg (fun v => [Value.agg #[.slice Y m m], v]) h60) O ?_
  rintro _ w2 ⟨rfl, hst⟩
  refine Ops.n ?_
  exact After.dn hst.below (by exact congrArg Value.bool (decide_eq_true O))
 intro u w17 hb17 _
 have hS17 := hS16.later hb17
 clear q4 q11 qY qK
 refine Gec O (Cd.cond_f O (Gao O (Ops.ld_agg 0 (r10 hS17) O O O (Gdo O ?_))))
 refine Ops.call (markMx2_c (pre := poB A12 N GR RL.length cG GD BL.length dG :: CkI 2 GR RL.length cG RL :: (mat 32 2 GD BL.length dG rsG BL ++ (mxB A11 Y m m :: (mat 32 2 Y m m rsY K ++ [mxB A10 X n n])))) (post := []) (rs := rsX) 1 (by simpa only [List.append_assoc, List.cons_append, List.nil_append, List.append_nil] using hS17) hrX hxl hm1.1 (fun i hi => ?_) (by omega)) O O O ?_
 ·have h1 := ((rX hxl hS17).row i hi).1
  have h2 := (hR.row i hi).1
  have h3 := hm1.2 i hi
  omega
 rintro _ w18 ⟨K1, M', rfl, hK1, hMl, hS18⟩
 have hS18 : St w5 w18 (lwS n m RL.length BL.length N A12 GR GD A11 Y A10 X cG dG rsG rsY rsX RL BL K M') := by simpa only [List.append_assoc, List.cons_append, List.nil_append, List.append_nil] using hS18
 refine Gdo O (Ops.ld_agg 0 (r11 hS18) O O O (Gdo O ?_))
 refine Ops.call (markMx2_c (pre := poB A12 N GR RL.length cG GD BL.length dG :: CkI 2 GR RL.length cG RL :: (mat 32 2 GD BL.length dG rsG BL ++ [mxB A11 Y m m])) (post := mxB A10 X n n :: mat 32 2 X n n rsX M') (rs := rsY) K1 (by simpa only [List.append_assoc, List.cons_append, List.nil_append, List.append_nil] using hS18) hrY hyl hm2.1 (fun i hi => ?_) ⟨hK1.1, by omega⟩) O O O ?_
 ·have h1 := ((rY hyl hS18).row i hi).1
  have h2 := (hK.row i hi).1
  have h3 := hm2.2 i hi
  omega
 rintro _ w19 ⟨K2, K', rfl, hK2, hKl, hS19⟩
 have hS19 : St w5 w19 (lwS n m RL.length BL.length N A12 GR GD A11 Y A10 X cG dG rsG rsY rsX RL BL K' M') := by simpa only [List.append_assoc, List.cons_append, List.nil_append, List.append_nil] using hS19
 refine Gdo O ?_
 refine Ops.split_p 76 O (fun h => absurd h (by omega)) (fun _ => ?_)
 refine Ops.g O O O (Ops.ld_agg 2 (r12 hS19) O O O (Ops.g O O O (Ops.ld_agg 2 (hS19.old hW0) O O O (Ops.g O O O (Ops.call (eqPoset_c N GR _ cG RL GD _ dG rsG BL N AR _ cR RL AD _ cD rsD BL _ (rR hS19) (rB O hS19) (hS19.oldI hWR) (hS19.oldRows hWB) (by omega) (by omega)) O O O ?_)))))
 rintro _ w20 ⟨rfl, hst⟩
 have hS20 := hS19.later hst.below
 rw [decide_eq_true (show N = N ∧ RL = RL ∧ BL = BL from ⟨rfl, rfl, rfl⟩)]
 refine Ops.g O O O ?_
 first | refine Ops.not_p rfl rfl ?_ | refine Ops.not rfl rfl ?_
 refine Gdo O ?_
 refine Ops.split 82 rfl (fun h => by cases h) (fun _ => ?_)
 refine Ops.g O O O (Gdo O (Ops.g O O O (Gdo O (Ops.g O O O (Gdc O ?_)))))
 refine Cd.cond_pf O (fun h => h O) ?_
 refine Gao O (Ops.ld_agg 2 (r12 hS20) O O O (Gdo O (Ops.call (markPo_c (p := N) (rs := rsG) 1 hS20 hrG O (by omega) (by omega) hbd.2 (by omega)) O O O ?_)))
 rintro _ w21 ⟨rfl, hS21⟩
 have hS21 : St w5 w21 (lwS n m RL.length BL.length N A12 GR GD A11 Y A10 X cG dG rsG rsY rsX (marks 1 RL.length) (mkSS (1 + RL.length) BL) K' M') := hS21
 refine Gdo O (Ops.ld_agg 2 (r12 hS21) O O O (Gdo O (Ops.call (heldPo_c N GR _ cG GD _ dG rsG BL 1 _ (rR hS21) (rB (mkSS_len _ _) hS21) (by omega) (by omega) hbd.2 (by omega)) O O O ?_)))
 rintro _ w22 ⟨rfl, hst⟩
 have hS22 := hS21.later hst.below
 refine Gdc O (Cd.cond_pf O (by omega) (Gac O ?_))
 refine Cd.cond_pf O (fun h => h O) ?_
 have q3 := hS22.old hb3
 have q4 := hS22.old hb4
 have qM := hS22.oldRows hM5
 have qK := hS22.oldRows hK5
 have qT := hT5.later hS22.below
 refine Gac O ?_
 refine Cd.drawP [10] [.ex (.agg #[.slice (A) (n) (c)]), .pr (fun v w' => ∃ Q, ∃ qs : List SlV, v = .agg #[.slice Q n n] ∧ RowsI w' Q n qs M), .ex (.agg #[.slice (D) (m) (d)]), .pr (fun v w' => ∃ Q, ∃ qs : List SlV, v = .agg #[.slice Q m m] ∧ RowsI w' Q m qs K), yI (kind), .pr (fun v w' => AnsPo N RL BL C w22 v w'), .al (fun v => ∃ u0, v = .tuple #[u0, .int .i64 C]) (fun v w' => AnsPo N RL BL C w22 v w'), .pr (fun v w' => ∃ AR cR AD cD rsD, v = .agg #[.int .i64 N, .slice AR RL.length cR, .slice AD BL.length cD] ∧ rsD.length = BL.length ∧ St w22 w' (CkI 2 AR RL.length cR RL :: (mat 32 2 AD BL.length cD rsD BL ++ []))), yI (C), .pr (fun v w' => ∃ A9, v = .pointer A9 ∧ St w22 w' [poB A9 0 none 0 0 none 0 0]), .p2 9 (fun a v w' => ∃ A9, ∃ AR cR AD cD rsD, a = .pointer A9 ∧ rsD.length = BL.length ∧ St w22 w' (poB A9 N AR RL.length cR AD BL.length cD :: (CkI 2 AR RL.length cR RL :: (mat 32 2 AD BL.length cD rsD BL ++ [])))), yI (C)] (by kernel_rfl) (by kernel_rfl) (ly (List.forall_mem_cons.2 ⟨Ye.lasts_pr (fun v w w' h hb => by obtain ⟨Q, qs, hv, h1⟩ := h; exact ⟨Q, qs, hv, h1.later hb⟩), (ly (List.forall_mem_cons.2 ⟨Ye.lasts_pr (fun v w w' h hb => by obtain ⟨Q, qs, hv, h1⟩ := h; exact ⟨Q, qs, hv, h1.later hb⟩), (ly (List.forall_mem_cons.2 ⟨Ye.lasts_pr (fun v w w' h hb => by obtain ⟨AR, cR, AD, cD, rsD, hv, h1, h2⟩ := h; exact ⟨AR, cR, AD, cD, rsD, hv, h1, h2.later hb⟩), (List.forall_mem_cons.2 ⟨Ye.lasts_al (fun v w w' h hb => by obtain ⟨AR, cR, AD, cD, rsD, hv, h1, h2⟩ := h; exact ⟨AR, cR, AD, cD, rsD, hv, h1, h2.later hb⟩), (List.forall_mem_cons.2 ⟨Ye.lasts_pr (fun v w w' h hb => by obtain ⟨AR, cR, AD, cD, rsD, hv, h1, h2⟩ := h; exact ⟨AR, cR, AD, cD, rsD, hv, h1, h2.later hb⟩), (ly (List.forall_mem_cons.2 ⟨Ye.lasts_pr (fun v w w' h hb => by obtain ⟨A9, hv, hT⟩ := h; exact ⟨A9, hv, hT.later hb⟩), (List.forall_mem_cons.2 ⟨Ye.lasts_p2 (fun a v w w' h hb => by obtain ⟨A9, AR, cR, AD, cD, rsD, h9, h1, hT⟩ := h; exact ⟨A9, AR, cR, AD, cD, rsD, h9, h1, hT.later hb⟩), (ly (fun _ h => by cases h))⟩)⟩))⟩)⟩)⟩))⟩))⟩)) ?_ ?_
 ·refine ⟨?_, ?_, ?_, ?_, fun _ _ _ _ _ _ _ _ _ => DkP O O, ?_, ?_, ?_, ?_, ?_, ?_, fun _ _ _ _ _ _ _ _ _ => DkP O O, trivial⟩
  ·intro e1 w1 cc hlo hhi hb0 hp hun hq; show Ops _ _ _ _ _ _ _
   obtain rfl := cc_of hlo hhi (b := 0)
   have hb := hb0 O
   refine Ops.ld_agg 0 (q3.below hb) O O O (Ops.n (p0_ O (by exact O)))
  ·intro e1 w1 cc hlo hhi hb0 hp hun hq; show Ops _ _ _ _ _ _ _
   obtain rfl := cc_of hlo hhi (b := 0)
   have hb := hb0 O
   refine Ops.call (toManiplex_c A n c rs M _ (qM.later hb) hf1) O O O ?_
   rintro _ w2 ⟨Q, qs, rfl, hql, hst⟩
   refine Ops.n ?_
   exact AfterP.dn O hst.below ⟨Q, qs, O, St.rowsI (ks := []) (by rwa [List.append_nil]) hxl⟩
  ·intro e1 w1 cc hlo hhi hb0 hp hun hq; show Ops _ _ _ _ _ _ _
   obtain rfl := cc_of hlo hhi (b := 0)
   have hb := hb0 O
   refine Ops.ld_agg 0 (q4.below hb) O O O (Ops.n (p0_ O (by exact O)))
  ·intro e1 w1 cc hlo hhi hb0 hp hun hq; show Ops _ _ _ _ _ _ _
   obtain rfl := cc_of hlo hhi (b := 0)
   have hb := hb0 O
   refine Ops.call (toManiplex_c D m d ts K _ (qK.later hb) hf2) O O O ?_
   rintro _ w2 ⟨Q, qs, rfl, hql, hst⟩
   refine Ops.n ?_
   exact AfterP.dn O hst.below ⟨Q, qs, O, St.rowsI (ks := []) (by rwa [List.append_nil]) hyl⟩
  ·intro e1 w1 cc hlo hhi hb0 hp hun hq; show Ops _ _ _ _ _ _ _
   obtain rfl := cc_of hlo hhi (b := 0)
   have hb := hb0 O
   obtain ⟨Q, qs, h30, h1⟩ := (hp 1 _ _ (by kernel_rfl) rfl rfl (by kernel_rfl))
   obtain ⟨V, vs, h31, h2⟩ := (hp 3 _ _ (by kernel_rfl) rfl rfl (by kernel_rfl))
   refine Ops.call (him Q n n V m m qs vs _ (qT.later hb) h1 h2 (Nat.le_refl _) hn (Nat.le_refl _) hm) O (by exact eq_21 h30 h31) O ?_
   rintro _ w9 ⟨AR, cR, AD, cD, rsD, rfl, hrD, hst⟩
   refine Ops.n ?_
   exact AfterP.dn O hst.below ⟨AR, cR, AD, cD, rsD, O, hrD, by have := ((St.refl w22).later hb).call hst; rwa [List.append_nil] at this⟩
  ·intro e1 w1 cc hlo hhi hb0 hp hun hq; show Ops _ _ _ _ _ _ _
   obtain rfl := cc_of hlo hhi (b := 0)
   have hb := hb0 O
   obtain ⟨AR, cR, AD, cD, rsD, h25, h1, h2⟩ := (hp 5 _ _ (by kernel_rfl) rfl rfl (by kernel_rfl))
   refine Ops.mv_tup O (by exact h25) O (Ops.n ?_)
   exact AfterP.dn O (Below.refl _ _) ⟨⟨_, O⟩, AR, cR, AD, cD, rsD, O, h1, h2⟩
  ·intro e1 w1 cc hlo hhi hb0 hp hun hq; show Ops _ _ _ _ _ _ _
   obtain rfl := cc_of hlo hhi (b := 0)
   have hb := hb0 O
   obtain ⟨AR, cR, AD, cD, rsD, h19, h1, h2⟩ := ((hp 6 _ _ (by kernel_rfl) rfl rfl).2 (by kernel_rfl))
   refine Ops.extract (by exact h19) O O (Ops.n ?_)
   exact AfterP.dn O (Below.refl _ _) ⟨AR, cR, AD, cD, rsD, O, h1, h2⟩
  ·intro e1 w1 cc hlo hhi hb0 hp hun hq; show Ops _ _ _ _ _ _ _
   obtain ⟨u0, h19⟩ := (hp 6 _ _ (by kernel_rfl) rfl rfl).1
   refine Ops.extract (by exact h19) O O (Ops.n (p0_ O (by exact O)))
  ·intro e1 w1 cc hlo hhi hb0 hp hun hq; show Ops _ _ _ _ _ _ _
   obtain rfl := cc_of hlo hhi (b := 0)
   have hb := hb0 O
   refine Ops.newP (St.refl _) O ?_
   intro A9 w9 hst
   refine Ops.n ?_
   exact AfterP.dn O hst.below ⟨A9, O, by have := ((St.refl w22).later hb).call hst; rwa [List.append_nil] at this⟩
  intro e1 w1 cc hlo hhi hb0 hp hun hq
  show Ops _ _ _ _ _ _ _
  obtain rfl := cc_of hlo hhi (b := 0)
  have hb := hb0 O
  obtain ⟨A9, h9, hT⟩ := (hp 9 _ _ (by kernel_rfl) rfl rfl (by kernel_rfl))
  obtain ⟨AR, cR, AD, cD, rsD, h26, h1, h2⟩ := (hp 7 _ _ (by kernel_rfl) rfl rfl (by kernel_rfl))
  refine Ops.st_agg 3 0 (hT.mergeP h2) O (by exact h9) (by exact h26) O O O O ?_
  intro w9 hS9
  refine Ops.n ?_
  exact AfterU.st O ⟨A9, AR, cR, AD, cD, rsD, h9, h1, hS9⟩
 intro u2 w23 _ _ hu2 _
 obtain ⟨A17, HR, cH, HD, dH, rsH, h17, hrH, hV23⟩ := hu2 10 9 _ rfl (by kernel_rfl)
 have hS23 := hS22.later hV23.below
 have hV0 := hV23.rd 0 O
 have hVR : RdI w23 HR RL.length RL := hV23.rdI 1 O
 have hVB : RowsI w23 HD BL.length rsH BL := St.rowsI hV23.tail.tail O
 refine Qk_ext (F := [(8, .pointer A8), (9, .int .i64 C), (12, .pointer A12), (15, .int .i64 (1 + RL.length + tot BL)), (17, .pointer A17), (18, .int .i64 C)]) ⟨O, O, O, O, h17, O, trivial⟩ (Geo O (Ops.ld_agg 2 (hV0) O O O ?_))
 skip
 refine Ops.ld_agg 2 (hS23.old hW0) O O O ?_
 skip
 refine Ops.call (eqPoset_c N HR _ cH RL HD _ dH rsH BL N AR _ cR RL AD _ cD rsD BL _ hVR hVB (hS23.oldI hWR) (hS23.oldRows hWB) (by omega) (by omega)) O O O ?_
 rintro _ w24 ⟨rfl, hst⟩
 have hS24 := hS23.later hst.below
 rw [decide_eq_true (show N = N ∧ RL = RL ∧ BL = BL from ⟨rfl, rfl, rfl⟩)]
 first | refine Ops.not_p rfl rfl ?_ | refine Ops.not rfl rfl ?_
 refine Gdo O ?_
 refine Ops.split 111 rfl (fun h => by cases h) (fun _ => ?_)
 refine Ops.g O O O (Gdo O (Ops.g O O O (Gdo O (Ops.g O O O (Gdc O ?_)))))
 refine Cd.cond_pf O (fun h => h O) ?_
 refine Gao O (Ops.ld_agg 2 (r12 hS24) O O O (Gdo O (Ops.call (heldPo_c N GR _ cG GD _ dG rsG BL 1 _ (rR hS24) (rB (mkSS_len _ _) hS24) (by omega) (by omega) hbd.2 (by omega)) O O O ?_)))
 rintro _ w25 ⟨rfl, hst⟩
 have hS25 := hS24.later hst.below
 refine Gdc O (Cd.cond_pf O (by omega) (Gac O ?_))
 refine Cd.cond_pf O (fun h => h O) ?_
 refine Gar O (ret1_b O ?_)
 exact ⟨O, hend hS25⟩
end Go.Proofs.YtopgfgdgfjddpaaGreatDoor.Vc
/-
 A statement's frame: the arguments opened, and what a walk gives told in the statement's own words.
-/
namespace Go.Proofs.YtopgfgdgfjddpaaGreatDoor.Vc
open Go.RowKit Go.ChangeShapes Go.WideShapes
theorem laid : laidOutB Tryz.prog = true := by kernel_rfl
theorem own : ownKnob Tryz.prog.godebug = none := by kernel_rfl
section
variable {H : Type} {enc : TypeId × Value → H} {P : Program}
theorem open_mat {w : World} {t e q : TypeId} {fuel : Nat} {cs : List Value} {x : DataW H × List MemPlace} (ht : P.underlying t = some (.slice e)) (he : P.underlying e = some (.slice q)) (hq : P.underlying q = some (.int .i64)) (ce : P.cellsOf e = 1) (cq : P.cellsOf q = 1)
    (h : DataW.trod enc P w 0 (fun _ => true) true fuel t cs = some x) : ∃ A n c rs xss, cs = [.slice A n c] ∧ RowsI w A n rs xss ∧ n ≤ c ∧ c ≤ 9223372036854775807 := by
  rcases Go.Deep.open_int_rows ht he hq ce cq h with ⟨rfl, _⟩ | ⟨a, len, cap, A, L, C, Z, rfl, _, hl, hm, _, hc⟩
  · exact ⟨none, 0, 0, [], [], O, RowsI.nil w, Nat.le_refl _, by omega⟩
  · refine ⟨some a, len, cap, (List.range len).map fun r => ⟨A r, L r, C r⟩, (List.range len).map fun r => (Z r).take (L r), O, ⟨⟨by simp, fun k hk => ?_⟩, by simp, fun i hi => ?_, fun i hi => ?_⟩, hl, by simpa [maxLen] using hm⟩
    · have := (hc k (by omega)).1
      exact ⟨a.add k, O, by rw [this]; simp [List.getD_eq_getElem?_getD, hk, SlV.v]⟩
    · have h1 := hc i (by omega)
      have e1 : ((List.range len).map fun r => (⟨A r, L r, C r⟩ : SlV)).getD i slNil = ⟨A i, L i, C i⟩ := by simp [List.getD_eq_getElem?_getD, hi]
      have e2 : ((List.range len).map fun r => (Z r).take (L r)).getD i [] = (Z i).take (L i) := by simp [List.getD_eq_getElem?_getD, hi]
      rw [e1, e2]
      refine ⟨by simp; omega, fun k hk => ?_⟩
      have hk' : k < L i := hk
      cases hA : A i with
      | none => have := h1.2.2.2.2.2.1 hA; omega
      | some a' =>
        have h2 := (h1.2.2.2.2.2.2 a' hA).2 k (by omega)
        exact ⟨a'.add k, O, by rw [h2]; simp [List.getD_eq_getElem?_getD, List.getElem?_take, hk']⟩
    · have h1 := hc i (by omega)
      have e1 : ((List.range len).map fun r => (⟨A r, L r, C r⟩ : SlV)).getD i slNil = ⟨A i, L i, C i⟩ := by simp [List.getD_eq_getElem?_getD, hi]
      rw [e1]
      exact ⟨h1.2.1, h1.2.2.1⟩
theorem trodAll_stays (hl : laidOutB P = true) {W W' : World} (hb : Below W.heap.size W W') {sp : Nat → Bool} : ∀ {ts : List TypeId} {vs : List Value} {ds : List (DataW H)} {ps : List MemPlace}, (ts.all fun t => P.readableRec t && Nat.blt t P.types.size) = true → (∀ p ∈ ps, p.block < W.heap.size) → (∀ p ∈ ps, sp p.block = true) →
  DataW.TrodAll enc P W 0 (fun _ => true) true ts vs ds ps → DataW.TrodAll enc P W' 0 sp true ts vs ds ps
 | [], [], [], _, _, _, _, h => h
 | t :: ts, v :: vs, d :: ds, ps, hr, hlt, hsp, h => by
  obtain ⟨p, q, h1, h2, rfl⟩ := h
  simp only [List.all_cons, Bool.and_eq_true] at hr
  exact ⟨p, q, WideElems.Trod_stays hl hr.1.1 (by simpa [Nat.blt_eq] using hr.1.2) h1 (fun x hx => hb.same (hlt x (by simp [hx]))) (fun x hx => hsp x (by simp [hx])), trodAll_stays hl hb hr.2 (fun x hx => hlt x (by simp [hx])) (fun x hx => hsp x (by simp [hx])) h2, O⟩
 | [], [], _ :: _, _, _, _, _, h => h.elim
 | [], _ :: _, _, _, _, _, _, h => by cases h
 | _ :: _, [], _, _, _, _, _, h => by cases h
 | _ :: _, _ :: _, [], _, _, _, _, h => by cases h
theorem post_law {f : Func} {s : ChangeSpec} {apart : Bool} {W W' : World} {args : Array Value} {ds gs : List (DataW H)} {before : List MemPlace} (hl : laidOutB P = true) {b : TypeId} (hu : P.underlying b = some .bool) (hres : f.resultTypes = #[b]) (hv : s.vars = [])
    (hr : (f.params.toList.all fun t => P.readableRec t && Nat.blt t P.types.size) = true) (hfn : (s.fn H (ds ++ gs)).results = [.lit (.bool true)] ∧ (s.fn H (ds ++ gs)).args = ds ∧ (s.fn H (ds ++ gs)).vars = [])
    (hW : DataW.Whole enc P f.params.toList s.vars apart W args.toList ds gs before) (hb : Below W.heap.size W W') : s.post enc P f apart true false false W args (.bool true) W' := by
  have hlt : ∀ x ∈ before, x.block < W.heap.size := fun x hx => hW.lt x hx
  have hW0 := hW
  obtain ⟨p, q, hA, hV, rfl, hz, hn⟩ := hW
  rw [hv] at hV
  obtain ⟨rfl, rfl⟩ := trodVars_none hV
  have hlp : ∀ x ∈ p, x.block < W.heap.size := fun x hx => hlt x (by simp [hx])
  have hA' : ∀ sp : Nat → Bool, (∀ x ∈ p, sp x.block = true) → DataW.TrodAll enc P W' 0 sp true f.params.toList args.toList (s.fn H (ds ++ [])).args p := fun sp hsp => by
    rw [hfn.2.1]
    exact trodAll_stays hl hb hr hlp hsp hA
  have hR' : ∀ (b0 : Nat) (sp : Nat → Bool) (hd : Bool), DataW.TrodAll enc P W' b0 sp hd f.resultTypes.toList ((Value.bool true).resultList f.resultTypes.size) (s.fn H (ds ++ [])).results [] := fun b0 sp hd => by
    rw [hfn.1, hres]
    exact trodAll_cons_mk (shut_bool hu _) trodAll_mk0
  have hV' : ∀ sp : Nat → Bool, DataW.TrodVars enc P W' sp s.vars (s.fn H (ds ++ [])).vars [] := fun sp => by
    rw [hfn.2.2, hv]; rfl
  refine ⟨ds, [], p ++ [], [], p, [], hW0, hR' _ _ _, hA' _ (fun x hx => by simpa using hlp x hx), hV' _, World.keptBut_mono (fun x hx => ⟨hx, by simpa using hx⟩) (hb.frame (· ∈ p ++ [])), fun _ => ⟨fun j t r h1 h2 => ?_, _, _, ([] ++ p) ++ [], ⟨[] ++ p, [], trodAll_append (hA' _ fun _ _ => O) (hR' _ _ _), hV' _, O, fun c off hc => ?_, fun ha => by simpa using hn ha⟩, fun x hx _ => by simpa using hx⟩⟩
  · rw [hres] at h1 h2
    cases j with
    | zero =>
      simp at h1
      subst h1
      simp [Value.resultList] at h2
      subst h2
      exact okWide_bool_mk hu _
    | succ j => simp at h1
  · have hin : MemPlace.cell c off ∈ p ++ [] := by simpa using hc
    rw [hb.frozen (hlt _ hin)]
    exact hz c off hin
end
/-
 Arguments opened: a struct of one matrix, a list of integers.
-/
section
variable {H : Type} {enc : TypeId × Value → H} {P : Program}
theorem open_man {w : World} {r : Go.Reach} {b0 : Nat} {t e q : TypeId} {f0 : Field} {v : Value} {d : DataW H} {p : List MemPlace} (hs : P.underlying t = some (.struct #[f0])) (hf0 : f0.offset = 0) (ht : P.underlying f0.type = some (.slice e)) (he : P.underlying e = some (.slice q)) (hq : P.underlying q = some (.int .i64)) (ce : P.cellsOf e = 1) (cq : P.cellsOf q = 1) (cm : P.cellsOf f0.type = 1) (cc : P.cellsOf t = 1) (hval : Value.okWide P w r b0 t v) (h : DataW.Trod enc P w 0 (fun _ => true) true t v d p) : ∃ A n c rs xss, v = .agg #[.slice A n c] ∧ RowsI w A n rs xss ∧ n ≤ c ∧ c ≤ 9223372036854775807 := by
 obtain ⟨cs, rfl, hsz⟩ := okWide_struct hs hval
 obtain ⟨fuel, hf⟩ := h
 obtain ⟨z0, m0, _, _, hz0⟩ := trod_struct1 hs hf
 obtain ⟨A, n, c, rs, xss, e1, hR, hn, hc⟩ := open_mat ht he hq ce cq hz0
 refine ⟨A, n, c, rs, xss, ?_, hR, hn, hc⟩
 have hl : cs.toList.length = 1 := by rw [Array.length_toList, hsz, cc]
 have e1 : (cs.toList.drop f0.offset).take (P.cellsOf f0.type) = [Value.slice A n c] := e1
 rw [hf0, cm, List.drop_zero, List.take_of_length_le (by omega)] at e1
 congr 1
 exact Array.ext' (by rw [e1])
end
end Go.Proofs.YtopgfgdgfjddpaaGreatDoor.Vc
