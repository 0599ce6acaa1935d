/-
  The texts Co36, Cx2 in one. Conditions: as each part states them.
-/
import Derived.Test.YtdedegbendjmbaaGreatDoorZi
/-
  The boundary of a complex, walked on both sides. Conditions: as each states them.
-/
namespace Go.Proofs.YtdedegbendjmbaaGreatDoor.Vc
open Go.RowKit

def bdV (V : Int) (F : List (List Int)) : Int := if Cplx V F ∧ Pure F then cxV (bdS F) else 0
def bdL (V : Int) (F : List (List Int)) : List (List Int) := if Cplx V F ∧ Pure F then cxL (bdS F) else []
def bdK (V : Int) (F : List (List Int)) : Int := if Cplx V F then (if Pure F then cxK (bdS F) else 5) else 1
theorem bdS_sa {F : List (List Int)} (hs : ∀ f ∈ F, SA f) : ∀ l ∈ bdS F, SA l := fun l hl => fcs_sa hs (List.mem_filter.1 hl).1
theorem Cplx.bd {V : Int} {F : List (List Int)} (h : Cplx V F) : (bdS F).length ≤ 25601 ∧ (∀ l ∈ bdS F, SA l ∧ l.length ≤ 6) ∧ (bdS F).flatten.length ≤ 153606 := by
  have h6 : ∀ f ∈ F, f.length ≤ 6 := fun f hf => (h.row f hf).1.2
  have h1 : (bdS F).length ≤ 25601 := by
    have h2 := List.length_filter_le (fun x => decide ((hasI F x).length % 2 = 1)) (fcs F (dpt F - 1))
    have h3 := fcs_num (dpt F - 1) h6
    have := h.f
    unfold bdS
    omega
  have h2 : ∀ l ∈ bdS F, SA l ∧ l.length ≤ 6 := fun l hl => by
    refine ⟨bdS_sa (fun f hf => (h.row f hf).2.1) l hl, ?_⟩
    have := fcs_len (List.mem_filter.1 hl).1
    have := dpt_bd h6
    omega
  refine ⟨h1, h2, ?_⟩
  have := flat_le2 (b := 6) fun l hl => (h2 l hl).2
  omega
def rvO (rvs : List RV) : List RV := rvs.filter fun r => decide (r.ns.length % 2 = 1)
theorem rvO_succ {rvs : List RV} {k : Nat} (h : k < rvs.length) : rvO (rvs.take (k + 1)) = if rvs[k].ns.length % 2 = 1 then rvO (rvs.take k) ++ [rvs[k]] else rvO (rvs.take k) := by
  unfold rvO
  rw [List.take_succ_eq_append_getElem h, List.filter_append]
  by_cases e : rvs[k].ns.length % 2 = 1 <;> simp [e]
theorem rvO_all {rvs : List RV} {F : List (List Int)} (h : rvs.map RV.pr = rdgs F) : (rvO rvs).map (·.x) = bdR F := by
  unfold rvO bdR
  rw [← h, List.filter_map, List.map_map]; rfl
theorem bd_sets {V : Int} {F : List (List Int)} (hC : Cplx V F) (hP : Pure F) : cxV ((bdR F).map cs) = cxV (bdS F) ∧ cxL ((bdR F).map cs) = cxL (bdS F) ∧ cxK ((bdR F).map cs) = cxK (bdS F) := by
  have hm := bdR_mem hC hP
  rw [map_cs_id fun l hl => bdS_sa (fun f hf => (hC.row f hf).2.1) l ((hm l).1 hl)]
  exact cx_ext hm

set_option maxHeartbeats 1000000 in
theorem implBoundaryOf_c (V : Int) (A : Option Addr) (n c : Nat) (rs : List SlV) (F : List (List Int)) (w : World) (hT : Tab w) (hR : RowsI w A n rs F) (hn : n ≤ 9223372036854775807) :
    Ret Tryz.prog 25 [.agg #[.int .i64 V, .slice A n c]] w (AnsC (bdV V F) (bdL V F) (bdK V F) w) := by
  have hFl := hR.len
  refine Ret.of_cd Tryz.func25 rfl Tryz.ntmps25 rfl (postc2 rfl rfl) ?_
  refine Cd.seq ?_
  refine Cd.region ?_
  refine Ops.box2 (St.refl w) rfl rfl ?_
  intro Ab w1 hS1
  refine Ops.new2 hS1 rfl ?_
  intro A2 w2 hS2
  have hS2 : St w w2 [cxZ A2, cxB Ab V A n c] := hS2
  refine Ops.mv_int rfl rfl rfl ?_
  refine Ops.nil ?_
  refine thenQ_n ?_
  refine Cd.seq ?_
  refine Cd.block ?_
  refine Cd.seq ?_
  refine Cd.region ?_
  refine Ops.ld_agg 1 (hS2.rd 1 rfl) rfl rfl rfl ?_
  refine Ops.call (isComplex_c V A n c rs F _ (hT.later hS2.below) (hS2.oldRows hR) hn) rfl rfl rfl ?_
  rintro _ w3 ⟨rfl, hst⟩
  have hS3 := hS2.later hst.below
  first | refine Ops.not_p rfl rfl ?_ | refine Ops.not rfl rfl ?_
  refine Ops.mv_bool rfl rfl rfl ?_
  refine Ops.nil ?_
  refine thenQ_n ?_
  unfold bdV bdL bdK
  refine Cd.cond_p _ rfl (fun h1 => ?_) (fun h1 => ?_)
  · rw [if_neg (fun h => h1 h.1), if_neg (fun h => h1 h.1), if_neg h1]
    refine Cd.seq ?_
    refine Cd.region ?_
    refine Ops.bldZ2 (by exact inferInstance) (by exact inferInstance) rfl rfl rfl ?_
    refine Ops.st_agg 2 0 hS3 rfl rfl rfl rfl rfl rfl rfl ?_
    intro w9 hS9
    refine Ops.mv_int rfl rfl rfl ?_
    refine Ops.nil ?_
    refine thenQ_n ?_
    refine Cd.ret ?_
    refine blockQ_r ?_
    refine thenQ_r ?_
    skip
    refine retc2_r rfl (hS9.rd 0 rfl) rfl ?_
    exact AnsC.none hS9
  have h1 := Classical.not_not.1 h1
  have hn4 := h1.f
  have h6 : ∀ f ∈ F, f.length ≤ 6 := fun f hf => (h1.row f hf).1.2
  refine Cd.seq ?_
  refine Cd.region ?_
  refine Ops.call (isPure_c Ab V A n c rs F _ (hS3.rd 1 rfl) (hS3.oldRows hR) (by omega) (fun f hf => by have := h6 f hf; omega)) rfl rfl rfl ?_
  rintro _ w4 ⟨rfl, hst⟩
  have hS4 := hS3.later hst.below
  first | refine Ops.not_p rfl rfl ?_ | refine Ops.not rfl rfl ?_
  refine Ops.mv_bool rfl rfl rfl ?_
  refine Ops.nil ?_
  refine thenQ_n ?_
  refine Cd.cond_p _ rfl (fun h2 => ?_) (fun h2 => ?_)
  · rw [if_neg (fun h => h2 h.2), if_neg (fun h => h2 h.2), if_pos h1, if_neg h2]
    refine Cd.seq ?_
    refine Cd.region ?_
    refine Ops.bldZ2 (by exact inferInstance) (by exact inferInstance) rfl rfl rfl ?_
    refine Ops.st_agg 2 0 hS4 rfl rfl rfl rfl rfl rfl rfl ?_
    intro w9 hS9
    refine Ops.mv_int rfl rfl rfl ?_
    refine Ops.nil ?_
    refine thenQ_n ?_
    refine Cd.ret ?_
    refine blockQ_r ?_
    refine thenQ_r ?_
    skip
    refine retc2_r rfl (hS9.rd 0 rfl) rfl ?_
    exact AnsC.none hS9
  have h2 := Classical.not_not.1 h2
  rw [if_pos ⟨h1, h2⟩, if_pos ⟨h1, h2⟩, if_pos h1, if_pos h2]
  obtain ⟨eV, eL, eK⟩ := bd_sets h1 h2
  refine Cd.skip ?_
  refine blockQ_n ?_
  refine thenQ_n ?_
  refine Cd.seq ?_
  refine Cd.region ?_
  refine Ops.mv_sl rfl rfl rfl ?_
  refine Ops.nil ?_
  refine thenQ_n ?_
  refine Cd.seq ?_
  refine Cd.seq ?_
  refine Cd.region ?_
  refine Ops.call (ridges_c Ab V A n c rs F _ (hT.later hS4.below) (hS4.rd 1 rfl) (hS4.oldRows hR) h1) rfl rfl rfl ?_
  rintro _ w5 ⟨A16, c16, rvs, X, rfl, hpr, hrow, hst⟩
  have hbl : rvs.length ≤ 25600 := by
    have e1 := congrArg List.length hpr
    rw [List.length_map] at e1
    have e2 := rdF_len _ (sqR F F.length) rfl
    have e3 := sqR_len h6 F.length (Nat.le_refl _)
    unfold rdgs at e1
    omega
  have hS5 : St w w5 (CkR 25 none (rvO (rvs.take 0)).length 0 [] :: cxZ A2 :: cxB Ab V A n c :: CkP 81 A16 rvs.length c16 (rvs.map (·.P)) :: (rvs.flatMap RV.ck ++ X)) := (hS4.call2 hst).nil 25
  clear hS4 hS3 hS2 hS1 hst
  refine Ops.len rfl rfl ?_
  refine Ops.mv_int rfl rfl rfl ?_
  refine Ops.nil ?_
  refine thenQ_n ?_
  refine Cd.block ?_
  refine Cd.loop (α := Nat × (Option Addr × Nat)) (fun z => [(2, .pointer A2), (4, .slice z.2.1 (rvO (rvs.take z.1)).length z.2.2), (16, .slice A16 rvs.length c16), (17, .int .i64 (rvs.length : Int)), (18, .int .i64 (z.1 : Int))])
    (fun z w' => z.1 ≤ rvs.length ∧ St w w' (CkR 25 z.2.1 (rvO (rvs.take z.1)).length z.2.2 ((rvO (rvs.take z.1)).map (·.s)) :: cxZ A2 :: cxB Ab V A n c :: CkP 81 A16 rvs.length c16 (rvs.map (·.P)) :: (rvs.flatMap RV.ck ++ X))) (fun z => rvs.length - z.1) (0, (none, 0)) ⟨rfl, rfl, rfl, rfl, rfl, trivial⟩ ⟨Nat.zero_le _, hS5⟩ ?_
  clear hS5
  rintro ⟨k, ⟨A4, c4⟩⟩ e w6 ⟨hk, hS⟩
  dsimp only at hk hS ⊢
  have hol : (rvO (rvs.take k)).length ≤ 25600 := by
    have := List.length_filter_le (fun r : RV => decide (r.ns.length % 2 = 1)) (rvs.take k)
    rw [List.length_take] at this
    unfold rvO
    omega
  refine Cd.seq ?_
  refine Cd.region ?_
  refine Ops.lss rfl rfl rfl ?_
  refine Ops.nil ?_
  refine thenQ_n ?_
  refine Cd.seq ?_
  refine Cd.cond_p _ rfl (fun h3 => ?_) (fun h3 => ?_)
  · have hkl : k < rvs.length := by omega
    have hsucc := rvO_succ hkl
    have hrm : rvs[k] ∈ rvs := List.getElem_mem _
    have hrX := hrow rvs[k] hrm
    have hP : RdP w6 A16 rvs.length (rvs.map (·.P)) := hS.rdP 3 rfl
    have hgp : (rvs.map (·.P)).getD ((k : Int)).toNat none = rvs[k].P := by simp [List.getD_eq_getElem?_getD, List.getElem?_eq_getElem hkl]
    obtain ⟨q, hq⟩ := List.mem_iff_getElem?.1 (show rvs[k].bx ∈ rvs.flatMap RV.ck ++ X from List.mem_append_left _ (List.mem_flatMap.2 ⟨rvs[k], hrm, by simp [RV.ck]⟩))
    have hbx : Rd w6 rvs[k].P 2 (fun j => [Value.slice rvs[k].s.a rvs[k].s.n rvs[k].s.c, .slice rvs[k].B rvs[k].ns.length rvs[k].c].getD j undef) := hS.rd (q + 4) hq
    generalize rvs[k] = r at *
    refine Cd.skip ?_
    refine thenQ_n ?_
    refine Cd.seq ?_
    refine Cd.block ?_
    refine Cd.seq ?_
    refine Cd.region ?_
    refine Ops.idx hP.2 rfl rfl rfl (by omega) (by omega) ?_
    refine Ops.ld hP.2 rfl (by omega) rfl rfl rfl ?_
    rw [hgp]
    refine Ops.mv_ptr rfl rfl rfl ?_
    refine Ops.nil ?_
    refine thenQ_n ?_
    refine Cd.seq ?_
    refine Cd.region ?_
    refine Ops.mv_ptr rfl rfl rfl ?_
    refine Ops.nilp hbx (by omega) rfl rfl ?_
    refine Ops.fld hbx rfl rfl rfl rfl inferInstance ?_
    refine Ops.ldf_s hbx rfl rfl rfl rfl rfl ?_
    refine Ops.len rfl rfl ?_
    refine Ops.rem rfl rfl rfl (by omega) ?_
    refine Ops.eql rfl rfl rfl ?_
    refine Ops.nil ?_
    refine thenQ_n ?_
    refine Cd.cond_p _ rfl (fun h4 => ?_) (fun h4 => ?_)
    · rw [if_pos (by omega)] at hsucc
      refine Cd.region ?_
      refine Ops.mv_sl rfl rfl rfl ?_
      refine Ops.mv_ptr rfl rfl rfl ?_
      refine Ops.nilp hbx (by omega) rfl rfl ?_
      refine Ops.fld hbx rfl rfl rfl rfl inferInstance ?_
      refine Ops.ldf_s hbx rfl rfl rfl rfl rfl ?_
      refine Ops.bs1R hS rfl rfl rfl ?_
      intro A7 w7 hS7
      refine Ops.appR 1 hS7 rfl (hS7.rdR 0 rfl) rfl rfl rfl (by omega) (by omega) rfl ?_
      intro A8 c8 w8 hS8
      have hS8 := St.tail hS8
      have hl1 : (rvO (rvs.take (k + 1))).length = (rvO (rvs.take k)).length + 1 := by rw [hsucc]; simp
      refine Ops.mv_sl rfl rfl rfl ?_
      refine Ops.nil ?_
      refine blockQ_n ?_
      refine thenQ_n ?_
      refine Cd.region ?_
      refine Ops.add rfl rfl rfl (by omega) ?_
      refine Ops.mv_int rfl rfl rfl ?_
      refine Ops.nil ?_
      refine thenQ_n ?_
      refine ⟨(k + 1, (A8, c8)), by show rvs.length - (k + 1) < rvs.length - k; omega, ⟨rfl, by show Value.slice A8 ((rvO (rvs.take k)).length + 1) c8 = .slice A8 (rvO (rvs.take (k + 1))).length c8; rw [hl1], rfl, rfl, rfl, trivial⟩, by show k + 1 ≤ _; omega, ?_⟩
      show St w w8 (CkR 25 A8 (rvO (rvs.take (k + 1))).length c8 ((rvO (rvs.take (k + 1))).map (·.s)) :: _)
      rw [hl1, hsucc, List.map_append]
      exact hS8
    · rw [if_neg (by omega)] at hsucc
      rw [← hsucc] at hS ⊢
      refine Cd.skip ?_
      refine blockQ_n ?_
      refine thenQ_n ?_
      refine Cd.region ?_
      refine Ops.add rfl rfl rfl (by omega) ?_
      refine Ops.mv_int rfl rfl rfl ?_
      refine Ops.nil ?_
      refine thenQ_n ?_
      exact ⟨(k + 1, (A4, c4)), by show rvs.length - (k + 1) < rvs.length - k; omega, ⟨rfl, rfl, rfl, rfl, rfl, trivial⟩, by show k + 1 ≤ _; omega, hS⟩
  · rw [List.take_of_length_le (by omega)] at hS hol ⊢
    have hxs := rvO_all hpr
    have hlen : (rvO rvs).length = (bdR F).length := by rw [← hxs, List.length_map]
    have hW : RowsS w X (bdR F).length ((rvO rvs).map (·.s)) (bdR F) := by
      refine ⟨by rw [List.length_map, hlen], rfl, fun j hj => .inr ?_⟩
      have hj2 : j < (rvO rvs).length := by omega
      have hm : (rvO rvs)[j] ∈ rvs := (List.mem_filter.1 (List.getElem_mem hj2)).1
      have e1 : ((rvO rvs).map (·.s)).getD j slNil = (rvO rvs)[j].s := by simp [List.getD_eq_getElem?_getD, List.getElem?_eq_getElem hj2]
      have e2 : (bdR F).getD j [] = (rvO rvs)[j].x := by rw [← hxs]; simp [List.getD_eq_getElem?_getD, List.getElem?_eq_getElem hj2]
      rw [e1, e2]
      exact hrow _ hm
    rw [hlen] at hS hol ⊢
    have hI : RowsI w6 A4 (bdR F).length ((rvO rvs).map (·.s)) (bdR F) := (hW.W hS fun k hk => List.mem_cons_of_mem _ (List.mem_cons_of_mem _ (List.mem_cons_of_mem _ (List.mem_cons_of_mem _ (List.mem_append_right _ hk))))).I (hS.rdR 0 rfl)
    obtain ⟨hL1, hL2, hL3⟩ := h1.bd
    have hC := complexOf_c A4 (bdR F).length c4 ((rvO rvs).map (·.s)) (bdR F) w6 (hT.later hS.below) hI (by omega) (fun l hl => by have := (hL2 l ((bdR_mem h1 h2 l).1 hl)).2; omega)
    rw [eV, eL, eK] at hC
    refine Cd.exit ?_
    refine thenQ_x ?_
    refine thenQ_x ?_
    refine blockQ_x ?_
    refine thenQ_n ?_
    refine Cd.seq ?_
    refine Cd.region ?_
    refine Ops.mv_sl rfl rfl rfl ?_
    refine Ops.call hC rfl rfl rfl ?_
    rintro _ w7 ⟨A6, c6, rs6, rfl, hrl6, hst6⟩
    have hS6 := (St.sub hS (show [cxZ A2].Sublist _ from (List.Sublist.cons_cons _ (List.nil_sublist _)).cons _)).call2 hst6
    refine Ops.extract rfl rfl rfl ?_
    refine Ops.extract rfl rfl rfl ?_
    refine Ops.st_agg 2 0 hS6 rfl rfl rfl rfl rfl rfl rfl ?_
    intro w8 hS7
    refine Ops.mv_int rfl rfl rfl ?_
    refine Ops.nil ?_
    refine thenQ_n ?_
    refine Cd.ret ?_
    skip
    refine retc2_r rfl (hS7.rd 0 rfl) rfl ?_
    exact ⟨A6, c6, rs6, rfl, hrl6, hS7.tail⟩

/-- odd ridges of the first ones -/
def odG (F D : List (List Int)) (r : Nat) : List Nat := (List.range r).filter fun q : Nat => decide ((hasI F (gl D (q : Int))).length % 2 = 1)
theorem odG_succ (F D : List (List Int)) (r : Nat) : odG F D (r + 1) = if (hasI F (gl D (r : Int))).length % 2 = 1 then odG F D r ++ [r] else odG F D r := by
  unfold odG
  rw [List.range_succ, List.filter_append]
  by_cases e : (hasI F (gl D (r : Int))).length % 2 = 1 <;> simp [e]
theorem odG_len (F D : List (List Int)) (r : Nat) : (odG F D r).length ≤ r := by
  have := List.length_filter_le (fun q : Nat => decide ((hasI F (gl D (q : Int))).length % 2 = 1)) (List.range r)
  rwa [List.length_range] at this
theorem odG_mem {F D : List (List Int)} {r q : Nat} (h : q ∈ odG F D r) : q < r := List.mem_range.1 (List.mem_filter.1 h).1
theorem odG_all (F D : List (List Int)) : (odG F D D.length).map (fun q : Nat => gl D (q : Int)) = D.filter fun x => decide ((hasI F x).length % 2 = 1) := by
  have e : D = (List.range D.length).map fun q : Nat => gl D (q : Int) := by
    apply List.ext_getElem
    · simp
    · intro i h1 h2
      simp [gl_mem h1]
  conv => rhs; rw [e, List.filter_map]
  rfl
set_option maxHeartbeats 1000000 in
theorem specBoundaryOf_c (V : Int) (A : Option Addr) (n c : Nat) (rs : List SlV) (F : List (List Int)) (w : World) (hR : RowsI w A n rs F) (hn : n ≤ 9223372036854775807) :
    Ret Tryz.prog 24 [.agg #[.int .i64 V, .slice A n c]] w (AnsC (bdV V F) (bdL V F) (bdK V F) w) := by
  have hFl := hR.len
  refine Ret.of_cd Tryz.func24 rfl Tryz.ntmps24 rfl (postc2 rfl rfl) ?_
  refine Cd.seq ?_
  refine Cd.region ?_
  refine Ops.box2 (St.refl w) rfl rfl ?_
  intro Ab w1 hS1
  refine Ops.new2 hS1 rfl ?_
  intro A2 w2 hS2
  have hS2 : St w w2 [cxZ A2, cxB Ab V A n c] := hS2
  refine Ops.mv_int rfl rfl rfl ?_
  refine Ops.nil ?_
  refine thenQ_n ?_
  refine Cd.seq ?_
  refine Cd.block ?_
  refine Cd.seq ?_
  refine Cd.region ?_
  refine Ops.ld_agg 1 (hS2.rd 1 rfl) rfl rfl rfl ?_
  refine Ops.call (l17Is_c V A n c rs F _ (hS2.oldRows hR) hn) rfl rfl rfl ?_
  rintro _ w3 ⟨rfl, hst⟩
  have hS3 := hS2.later hst.below
  first | refine Ops.not_p rfl rfl ?_ | refine Ops.not rfl rfl ?_
  refine Ops.mv_bool rfl rfl rfl ?_
  refine Ops.nil ?_
  refine thenQ_n ?_
  unfold bdV bdL bdK
  refine Cd.cond_p _ rfl (fun h1 => ?_) (fun h1 => ?_)
  · rw [if_neg (fun h => h1 h.1), if_neg (fun h => h1 h.1), if_neg h1]
    refine Cd.seq ?_
    refine Cd.region ?_
    refine Ops.bldZ2 (by exact inferInstance) (by exact inferInstance) rfl rfl rfl ?_
    refine Ops.st_agg 2 0 hS3 rfl rfl rfl rfl rfl rfl rfl ?_
    intro w9 hS9
    refine Ops.mv_int rfl rfl rfl ?_
    refine Ops.nil ?_
    refine thenQ_n ?_
    refine Cd.ret ?_
    refine blockQ_r ?_
    refine thenQ_r ?_
    skip
    refine retc2_r rfl (hS9.rd 0 rfl) rfl ?_
    exact AnsC.none hS9
  have h1 := Classical.not_not.1 h1
  have hn4 := h1.f
  have h6 : ∀ f ∈ F, f.length ≤ 6 := fun f hf => (h1.row f hf).1.2
  refine Cd.seq ?_
  refine Cd.region ?_
  refine Ops.ld_agg 1 (hS3.rd 1 rfl) rfl rfl rfl ?_
  refine Ops.call (l17Pure_c V A n c rs F _ (hS3.oldRows hR) (by omega)) rfl rfl rfl ?_
  rintro _ w4 ⟨rfl, hst⟩
  have hS4 := hS3.later hst.below
  first | refine Ops.not_p rfl rfl ?_ | refine Ops.not rfl rfl ?_
  refine Ops.mv_bool rfl rfl rfl ?_
  refine Ops.nil ?_
  refine thenQ_n ?_
  refine Cd.cond_p _ rfl (fun h2 => ?_) (fun h2 => ?_)
  · rw [if_neg (fun h => h2 h.2), if_neg (fun h => h2 h.2), if_pos h1, if_neg h2]
    refine Cd.seq ?_
    refine Cd.region ?_
    refine Ops.bldZ2 (by exact inferInstance) (by exact inferInstance) rfl rfl rfl ?_
    refine Ops.st_agg 2 0 hS4 rfl rfl rfl rfl rfl rfl rfl ?_
    intro w9 hS9
    refine Ops.mv_int rfl rfl rfl ?_
    refine Ops.nil ?_
    refine thenQ_n ?_
    refine Cd.ret ?_
    refine blockQ_r ?_
    refine thenQ_r ?_
    skip
    refine retc2_r rfl (hS9.rd 0 rfl) rfl ?_
    exact AnsC.none hS9
  have h2 := Classical.not_not.1 h2
  rw [if_pos ⟨h1, h2⟩, if_pos ⟨h1, h2⟩, if_pos h1, if_pos h2]
  obtain ⟨hL1, hL2, hL3⟩ := h1.bd
  refine Cd.seq ?_
  refine Cd.region ?_
  refine Ops.fld (hS4.rd 1 rfl) rfl rfl rfl rfl inferInstance ?_
  refine Ops.ldf_s (hS4.rd 1 rfl) rfl rfl rfl rfl rfl ?_
  refine Ops.len rfl rfl ?_
  refine Ops.eql rfl rfl rfl ?_
  refine Ops.mv_bool rfl rfl rfl ?_
  refine Ops.nil ?_
  refine thenQ_n ?_
  refine Cd.cond_p _ rfl (fun h3 => ?_) (fun h3 => ?_)
  · have hF0 : F = [] := List.eq_nil_of_length_eq_zero (by omega)
    have e0 : cxV (bdS F) = 0 ∧ cxL (bdS F) = [] ∧ cxK (bdS F) = 0 := by
      subst hF0
      have e : bdS [] = [] := by unfold bdS; rw [show dpt [] - 1 = 0 from rfl, fcs_zero]; rfl
      rw [e]
      obtain ⟨a, b, c, _⟩ := cx_self (V := 0) (F := []) (by decide)
      exact ⟨a, b, c⟩
    rw [e0.1, e0.2.1, e0.2.2]
    refine Cd.seq ?_
    refine Cd.region ?_
    refine Ops.bldZ2 (by exact inferInstance) (by exact inferInstance) rfl rfl rfl ?_
    refine Ops.st_agg 2 0 hS4 rfl rfl rfl rfl rfl rfl rfl ?_
    intro w9 hS9
    refine Ops.mv_int rfl rfl rfl ?_
    refine Ops.nil ?_
    refine thenQ_n ?_
    refine Cd.ret ?_
    refine blockQ_r ?_
    refine thenQ_r ?_
    skip
    refine retc2_r rfl (hS9.rd 0 rfl) rfl ?_
    exact AnsC.none hS9
  have hd1 : 1 ≤ dpt F := by
    obtain ⟨f, hf, e⟩ := dpt_ex (F := F) (fun e => by rw [e] at hFl; simp at hFl; omega)
    have := (h1.row f hf).1.1
    omega
  refine Cd.skip ?_
  refine blockQ_n ?_
  refine thenQ_n ?_
  refine Cd.seq ?_
  refine Cd.region ?_
  refine Ops.ld_agg 1 (hS4.rd 1 rfl) rfl rfl rfl ?_
  refine Ops.call (l17Ridges_c V A n c rs F _ (hS4.oldRows hR) (by omega) h6 hd1) rfl rfl rfl ?_
  rintro _ w5 ⟨A4, c4, rs4, A5, c5, rfl, hrl4, hst⟩
  have hD : bdS F = (fcs F (dpt F - 1)).filter fun x => decide ((hasI F x).length % 2 = 1) := rfl
  have hnum := fcs_num (dpt F - 1) h6
  rw [hD] at hL1 hL2 hL3
  rw [hD]
  generalize fcs F (dpt F - 1) = D at *
  have hod := odG_all F D
  have hS5 : St w w5 (cxZ A2 :: cxB Ab V A n c :: CkI 2 A5 D.length c5 (cnL F D D.length 0) :: mat 25 2 A4 D.length c4 rs4 D) := by
    have h := hS4.call2 hst
    rw [List.append_nil] at h
    exact h
  clear hS4 hS3 hS2 hS1 hst
  refine Ops.mv_tup rfl rfl rfl ?_
  refine Ops.extract rfl rfl rfl ?_
  refine Ops.extract rfl rfl rfl ?_
  refine Ops.mv_sl rfl rfl rfl ?_
  refine Ops.mv_sl rfl rfl rfl ?_
  refine Ops.nil ?_
  refine thenQ_n ?_
  refine Cd.seq ?_
  refine Cd.region ?_
  refine Ops.bs0 hS5 rfl ?_
  intro A6 w6 hS6
  have hS6 : St w w6 (CkR 25 A6 (odG F D 0).length 0 ((odG F D 0).map fun q : Nat => rg rs4 (q : Int)) :: cxZ A2 :: cxB Ab V A n c :: CkI 2 A5 D.length c5 (cnL F D D.length 0) :: mat 25 2 A4 D.length c4 rs4 D) := hS6
  clear hS5
  refine Ops.mv_sl rfl rfl rfl ?_
  refine Ops.nil ?_
  refine thenQ_n ?_
  refine Cd.seq ?_
  refine Cd.seq ?_
  refine Cd.region ?_
  refine Ops.mv_int rfl rfl rfl ?_
  refine Ops.nil ?_
  refine thenQ_n ?_
  refine Cd.block ?_
  refine Cd.loop (α := Nat × (Option Addr × Nat)) (fun z => [(2, .pointer A2), (4, .slice A4 D.length c4), (5, .slice A5 D.length c5), (6, .slice z.2.1 (odG F D z.1).length z.2.2), (7, .int .i64 (z.1 : Int))])
    (fun z w' => z.1 ≤ D.length ∧ St w w' (CkR 25 z.2.1 (odG F D z.1).length z.2.2 ((odG F D z.1).map fun q : Nat => rg rs4 (q : Int)) :: cxZ A2 :: cxB Ab V A n c :: CkI 2 A5 D.length c5 (cnL F D D.length 0) :: mat 25 2 A4 D.length c4 rs4 D)) (fun z => D.length - z.1) (0, (A6, 0)) ⟨rfl, rfl, rfl, rfl, rfl, trivial⟩ ⟨Nat.zero_le _, hS6⟩ ?_
  clear hS6
  rintro ⟨r, ⟨A6, c6⟩⟩ e w6 ⟨hr, hS⟩
  dsimp only at hr hS ⊢
  have hol := odG_len F D r
  refine Cd.seq ?_
  refine Cd.seq ?_
  refine Cd.region ?_
  refine Ops.mv_int rfl rfl rfl ?_
  refine Ops.mv_sl rfl rfl rfl ?_
  refine Ops.len rfl rfl ?_
  refine Ops.lss rfl rfl rfl ?_
  refine Ops.nil ?_
  refine thenQ_n ?_
  refine Cd.cond_p _ rfl (fun h4 => ?_) (fun h4 => ?_)
  · have hrD : r < D.length := by omega
    have hsucc := odG_succ F D r
    have hO : RdI w6 A5 D.length (cnL F D D.length 0) := hS.rdI 3 rfl
    have hQ : RdR w6 A4 D.length rs4 := hS.rdR 4 rfl
    have hat : gi (cnL F D D.length 0) (r : Int) = ((hasI F (gl D (r : Int))).length : Int) := by
      rw [cnL_at hrD]
      unfold cnE
      rw [if_pos hrD, cntI_all]
    have hbd : ((hasI F (gl D (r : Int))).length : Int) ≤ F.length := by
      rw [← cntI_all]
      have := cntI_le F (gl D (r : Int)) F.length
      omega
    refine Cd.skip ?_
    refine thenQ_n ?_
    refine Cd.seq ?_
    refine Cd.block ?_
    refine Cd.seq ?_
    refine Cd.region ?_
    refine Ops.mv_sl rfl rfl rfl ?_
    refine Ops.mv_int rfl rfl rfl ?_
    refine Ops.idx hO.2 rfl rfl rfl (by omega) (by omega) ?_
    refine Ops.ld_int hO rfl (by omega) rfl rfl ?_
    rw [hat]
    refine Ops.rem rfl rfl rfl (by omega) ?_
    refine Ops.eql rfl rfl rfl ?_
    refine Ops.nil ?_
    refine thenQ_n ?_
    refine Cd.cond_p _ rfl (fun h5 => ?_) (fun h5 => ?_)
    · rw [if_pos (by omega)] at hsucc
      refine Cd.region ?_
      refine Ops.mv_sl rfl rfl rfl ?_
      refine Ops.mv_sl rfl rfl rfl ?_
      refine Ops.mv_int rfl rfl rfl ?_
      refine Ops.idx hQ.2 rfl rfl rfl (by omega) (by omega) ?_
      refine Ops.ld_sl hQ rfl (by omega) rfl rfl ?_
      refine Ops.bs1R hS rfl rfl rfl ?_
      intro A7 w7 hS7
      refine Ops.appR 1 hS7 rfl (hS7.rdR 0 rfl) rfl rfl rfl (by omega) (by omega) rfl ?_
      intro A8 c8 w8 hS8
      have hS8 := St.tail hS8
      have hl1 : (odG F D (r + 1)).length = (odG F D r).length + 1 := by rw [hsucc]; simp
      refine Ops.mv_sl rfl rfl rfl ?_
      refine Ops.nil ?_
      refine blockQ_n ?_
      refine thenQ_n ?_
      refine Cd.region ?_
      refine Ops.mv_int rfl rfl rfl ?_
      refine Ops.add rfl rfl rfl (by omega) ?_
      refine Ops.mv_int rfl rfl rfl ?_
      refine Ops.nil ?_
      refine thenQ_n ?_
      refine ⟨(r + 1, (A8, c8)), by show D.length - (r + 1) < D.length - r; omega, ⟨rfl, rfl, rfl, by show Value.slice A8 ((odG F D r).length + 1) c8 = .slice A8 (odG F D (r + 1)).length c8; rw [hl1], rfl, trivial⟩, by show r + 1 ≤ _; omega, ?_⟩
      show St w w8 (CkR 25 A8 (odG F D (r + 1)).length c8 ((odG F D (r + 1)).map fun q : Nat => rg rs4 (q : Int)) :: _)
      rw [hl1, hsucc, List.map_append]
      exact hS8
    · rw [if_neg (by omega)] at hsucc
      rw [← hsucc] at hS ⊢
      refine Cd.skip ?_
      refine blockQ_n ?_
      refine thenQ_n ?_
      refine Cd.region ?_
      refine Ops.mv_int rfl rfl rfl ?_
      refine Ops.add rfl rfl rfl (by omega) ?_
      refine Ops.mv_int rfl rfl rfl ?_
      refine Ops.nil ?_
      refine thenQ_n ?_
      exact ⟨(r + 1, (A6, c6)), by show D.length - (r + 1) < D.length - r; omega, ⟨rfl, rfl, rfl, rfl, rfl, trivial⟩, by show r + 1 ≤ _; omega, hS⟩
  · have hre : r = D.length := by omega
    subst hre
    generalize hqq : odG F D D.length = qs at *
    have hqm : ∀ q ∈ qs, q < D.length := fun q hq => by rw [← hqq] at hq; exact odG_mem hq
    rw [← hod]
    rw [← hod] at hL1 hL2 hL3
    have hlen : (qs.map fun q : Nat => gl D (q : Int)).length = qs.length := List.length_map _
    have hW : RowsS w (mat 25 2 A4 D.length c4 rs4 D) qs.length (qs.map fun q : Nat => rg rs4 (q : Int)) (qs.map fun q : Nat => gl D (q : Int)) := by
      refine ⟨List.length_map _, hlen, fun j hj => .inr ?_⟩
      have hq := hqm _ (List.getElem_mem hj)
      have e1 : (qs.map fun q : Nat => rg rs4 (q : Int)).getD j slNil = rg rs4 (qs[j] : Int) := by simp [List.getD_eq_getElem?_getD, List.getElem?_eq_getElem hj]
      have e2 : (qs.map fun q : Nat => gl D (q : Int)).getD j [] = gl D (qs[j] : Int) := by simp [List.getD_eq_getElem?_getD, List.getElem?_eq_getElem hj]
      rw [e1, e2]
      exact List.mem_cons_of_mem _ (List.mem_iff_getElem?.2 ⟨qs[j], rowsCk_get hrl4 (by omega)⟩)
    have hI : RowsI w6 A6 qs.length (qs.map fun q : Nat => rg rs4 (q : Int)) (qs.map fun q : Nat => gl D (q : Int)) := (hW.W hS fun k hk => List.mem_cons_of_mem _ (List.mem_cons_of_mem _ (List.mem_cons_of_mem _ (List.mem_cons_of_mem _ hk)))).I (hS.rdR 0 rfl)
    refine Cd.exit ?_
    refine thenQ_x ?_
    refine thenQ_x ?_
    refine blockQ_x ?_
    refine thenQ_n ?_
    refine Cd.seq ?_
    refine Cd.region ?_
    refine Ops.mv_sl rfl rfl rfl ?_
    refine Ops.call (l17Make_c A6 qs.length c6 _ _ w6 hI (by omega) (by omega) (fun l hl => (hL2 l hl).1)) rfl rfl rfl ?_
    rintro _ w7 ⟨A7, c7, rs7, rfl, hrl7, hst6⟩
    have hS6 := (St.sub hS (show [cxZ A2].Sublist _ from (List.Sublist.cons_cons _ (List.nil_sublist _)).cons _)).call2 hst6
    refine Ops.extract rfl rfl rfl ?_
    refine Ops.extract rfl rfl rfl ?_
    refine Ops.st_agg 2 0 hS6 rfl rfl rfl rfl rfl rfl rfl ?_
    intro w8 hS7
    refine Ops.mv_int rfl rfl rfl ?_
    refine Ops.nil ?_
    refine thenQ_n ?_
    refine Cd.ret ?_
    skip
    refine retc2_r rfl (hS7.rd 0 rfl) rfl ?_
    exact ⟨A7, c7, rs7, rfl, hrl7, hS7.tail⟩
end Go.Proofs.YtdedegbendjmbaaGreatDoor.Vc
/-
  The walk of the law FnExactBoundaryOf: it returns true. Conditions: the library's table of powers of ten holds what the program's text lays there.
-/
namespace Go.Proofs.YtdedegbendjmbaaGreatDoor.Vc
open Go.RowKit

theorem bdL_bd (V : Int) (F : List (List Int)) : (bdL V F).length ≤ 1000 ∧ ∀ x ∈ bdL V F, x.length ≤ 1000 := by
  unfold bdL
  split
  · exact cxL_bd
  · simp

set_option maxHeartbeats 1000000 in
theorem FnExactBoundaryOf_c (V : Int) (A : Option Addr) (n c : Nat) (rs : List SlV) (F : List (List Int)) (w : World) (hT : Tab w) (hR : RowsI w A n rs F) (hn : n ≤ 9223372036854775807) :
    Ret Tryz.prog 5 [.agg #[.int .i64 V, .slice A n c]] w (fun v w' => v = .bool true ∧ St w w' []) := by
  have hxl := hR.len
  refine Ret.of_cd Tryz.func5 rfl Tryz.ntmps5 rfl (post1 rfl) ?_
  refine Cd.seq ?_
  refine Cd.region ?_
  refine Ops.box2 (St.refl w) rfl rfl ?_
  intro Ab w1 hS
  refine Ops.mv_bool rfl rfl rfl ?_
  refine Ops.nil ?_
  refine thenQ_n ?_
  refine Cd.seq ?_
  refine Cd.region ?_
  refine Ops.mv_int rfl rfl rfl ?_
  refine Ops.nil ?_
  refine thenQ_n ?_
  refine Cd.seq ?_
  refine Cd.region ?_
  refine Ops.ld_agg 1 (hS.rd 0 rfl) rfl rfl rfl ?_
  refine Ops.mv_int rfl rfl rfl ?_
  refine Ops.call (szComplex_c V A n c rs F 1048576 _ (hS.oldRows hR) hn (by omega)) rfl rfl rfl ?_
  rintro _ w2 ⟨rfl, hst⟩
  have hS := hS.later hst.below
  refine Ops.mv_int rfl rfl rfl ?_
  refine Ops.nil ?_
  refine thenQ_n ?_
  refine Cd.seq ?_
  refine Cd.seq ?_
  refine Cd.region ?_
  refine Ops.mv_int rfl rfl rfl ?_
  refine Ops.lss rfl rfl rfl ?_
  refine Ops.nil ?_
  refine thenQ_n ?_
  refine Cd.cond_p _ rfl (fun h1 => ?_) (fun h1 => ?_)
  · refine Cd.seq ?_
    refine Cd.region ?_
    refine Ops.mv_bool rfl rfl rfl ?_
    refine Ops.nil ?_
    refine thenQ_n ?_
    refine Cd.ret ?_
    refine thenQ_r ?_
    refine ret1_b rfl ?_
    exact ⟨rfl, hS.none⟩
  have hsm := small_of hR.top.1 (Int.not_lt.1 h1)
  have hfit := fits_of hR.top.1 (by omega) (Int.not_lt.1 h1)
  refine Cd.skip ?_
  refine thenQ_n ?_
  refine Cd.seq ?_
  refine Cd.region ?_
  refine Ops.ld_agg 1 (hS.rd 0 rfl) rfl rfl rfl ?_
  refine Ops.call (toComplex_c V A n c rs F _ (hS.oldRows hR) hfit) rfl rfl rfl ?_
  rintro _ w3 ⟨A1, rs1, rfl, hrl1, hst1⟩
  have hS3 := hS.later hst1.below
  have hX3 : RowsI w3 A1 n rs1 F := St.rowsI (ks := []) (by rwa [List.append_nil]) hxl
  skip
  refine Ops.call (specBoundaryOf_c V A1 n n rs1 F _ hX3 hn) rfl rfl rfl ?_
  rintro _ w5 ⟨A5, c5, rs5, rfl, hrl5, hst5⟩
  have hS5 := hS3.later hst5.below
  refine Ops.mv_tup rfl rfl rfl ?_
  refine Ops.extract rfl rfl rfl ?_
  refine Ops.extract rfl rfl rfl ?_
  refine Ops.new2 (St.refl w5) rfl ?_
  intro A6 w6 hU6
  refine Ops.st_agg 2 0 hU6 rfl rfl rfl rfl rfl rfl rfl ?_
  intro w7 hU7
  have hS7 := hS5.later hU7.below
  have hbd := bdL_bd V F
  have hP7 := (hst5.rowsI rfl).later hU7.below
  generalize hLe : bdL V F = L at *
  generalize hKe : bdK V F = K at *
  generalize hVe : bdV V F = V' at *
  have hA6 := hU7.rd 0 rfl
  have hAb := hS7.rd 0 rfl
  have hR7 := hS7.oldRows hR
  have hT7 := hT.later hS7.below
  refine Ops.mv_int rfl rfl rfl ?_
  refine Ops.nil ?_
  refine thenQ_n ?_
  refine Cd.seq ?_
  refine Cd.region ?_
  refine Ops.ld_agg 1 hAb rfl rfl rfl ?_
  refine Ops.call (toComplex_c V A n c rs F _ hR7 hfit) rfl rfl rfl ?_
  rintro _ w8 ⟨A7, rs7, rfl, hrl7, hT8⟩
  refine Ops.new2 hT8 rfl ?_
  intro A8 w9 hT9
  refine Ops.st_agg 2 0 hT9 rfl rfl rfl rfl rfl rfl rfl ?_
  intro w11 hT11
  have hT11 : St w7 w11 (cxB A8 V A7 n n :: mat 25 2 A7 n n rs7 F) := hT11
  refine Ops.nil ?_
  refine thenQ_n ?_
  refine Cd.seq ?_
  refine Cd.region ?_
  refine Ops.ld_agg 1 (hT11.rd 0 rfl) rfl rfl rfl ?_
  skip
  have hI := implBoundaryOf_c V A7 n n rs7 F w11 (hT7.later hT11.below) (St.rowsI (ks := []) (by rw [List.append_nil]; exact hT11.tail) hxl) hn
  rw [hLe, hKe, hVe] at hI
  refine Ops.call hI rfl rfl rfl ?_
  rintro _ w12 ⟨A10, c10, rs10, rfl, hrl10, hst12⟩
  have hT12 : St w7 w12 (mat 25 2 A10 L.length c10 rs10 L ++ (cxB A8 V A7 n n :: (mat 25 2 A7 n n rs7 F))) := by
    have := hT11.call hst12
    rw [List.append_nil] at this
    exact this
  refine Ops.mv_tup rfl rfl rfl ?_
  refine Ops.extract rfl rfl rfl ?_
  refine Ops.extract rfl rfl rfl ?_
  refine Ops.new2 hT12 rfl ?_
  intro A11 w13 hT13
  refine Ops.st_agg 2 0 hT13 rfl rfl rfl rfl rfl rfl rfl ?_
  intro w14 hT14
  have hT14 : St w7 w14 ([cxB A11 V' A10 L.length c10] ++ (mat 25 2 A10 L.length c10 rs10 L ++ (cxB A8 V A7 n n :: (mat 25 2 A7 n n rs7 F)))) := hT14
  have box : ∀ {w' : World} {Ls Fs : List (List Int)}, St w7 w' ([cxB A11 V' A10 L.length c10] ++ (mat 25 2 A10 L.length c10 rs10 Ls ++ (cxB A8 V A7 n n :: (mat 25 2 A7 n n rs7 Fs)))) → Rd w' A8 2 (fun j => [Value.int .i64 V, .slice A7 n n].getD j undef) := fun h => ((h.sub (List.sublist_append_right _ _)).sub (List.sublist_append_right _ _)).rd 0 rfl
  have rowF : ∀ {w' : World} {Ls Fs : List (List Int)}, St w7 w' ([cxB A11 V' A10 L.length c10] ++ (mat 25 2 A10 L.length c10 rs10 Ls ++ (cxB A8 V A7 n n :: (mat 25 2 A7 n n rs7 Fs)))) → Fs.length = n → RowsI w' A7 n rs7 Fs := fun h hl => St.rowsI (ks := []) (by rw [List.append_nil]; exact ((h.sub (List.sublist_append_right _ _)).sub (List.sublist_append_right _ _)).tail) hl
  have rowL : ∀ {w' : World} {Ls Fs : List (List Int)}, St w7 w' ([cxB A11 V' A10 L.length c10] ++ (mat 25 2 A10 L.length c10 rs10 Ls ++ (cxB A8 V A7 n n :: (mat 25 2 A7 n n rs7 Fs)))) → Ls.length = L.length → RowsI w' A10 L.length rs10 Ls := fun h hl => (h.sub (List.sublist_append_right _ _)).rowsI hl
  refine Ops.mv_int rfl rfl rfl ?_
  refine Ops.nil ?_
  refine thenQ_n ?_
  refine Cd.seq ?_
  refine Cd.seq ?_
  refine Cd.region ?_
  refine Ops.ld_agg 1 (hT14.rd 0 rfl) rfl rfl rfl ?_
  refine Ops.ld_agg 1 (hT14.old hA6) rfl rfl rfl ?_
  refine Ops.call (eqComplex_c V' A10 _ c10 rs10 L V' A5 _ c5 rs5 L _ (rowL hT14 rfl) (hT14.oldRows hP7) (by omega)) rfl rfl rfl ?_
  rintro _ w15 ⟨rfl, hst15⟩
  have hT15 := hT14.later hst15.below
  rw [decide_eq_true (show V' = V' ∧ L = L from ⟨rfl, rfl⟩)]
  first | refine Ops.not_p rfl rfl ?_ | refine Ops.not rfl rfl ?_
  refine Ops.mv_bool rfl rfl rfl ?_
  refine Ops.split 36 rfl (fun h => by cases h) (fun _ => ?_) --f
  refine Ops.rung rfl rfl rfl ?_
  refine Ops.mv_int rfl rfl rfl ?_
  refine Ops.rung rfl rfl rfl ?_
  refine Ops.mv_int rfl rfl rfl ?_
  refine Ops.rung rfl rfl rfl ?_
  refine Ops.neq rfl rfl rfl ?_
  refine Ops.pick_f rfl rfl rfl ?_
  refine Ops.nil ?_
  refine thenQ_n ?_
  refine Cd.cond_pf rfl (fun h => h rfl) ?_
  refine Cd.skip ?_
  refine thenQ_n ?_
  refine Cd.seq ?_
  refine Cd.seq ?_
  have hX8 := box hT15
  have hAb15 := hT15.old hAb
  have hR15 := hT15.oldRows hR7
  have hF15 := rowF hT15 hxl
  refine Cd.draw [.ex (.agg #[.int .i64 (V), .slice (A7) (n) (n)]), .ex (.agg #[.int .i64 (V), .slice (A) (n) (c)]), .pr (fun v w' => ∃ D rd, v = .agg #[.int .i64 V, .slice D n n] ∧ RowsI w' D n rd F), .ex (.bool (true)), .ex (.bool (false))] (by kernel_rfl) (by kernel_rfl) rfl (List.forall_mem_cons.2 ⟨Yd.lasts_ex _, (List.forall_mem_cons.2 ⟨Yd.lasts_ex _, (List.forall_mem_cons.2 ⟨Yd.lasts_pr (fun v w w' h hb => by obtain ⟨D, rd, hv, h1⟩ := h; exact ⟨D, rd, hv, h1.later hb⟩), (List.forall_mem_cons.2 ⟨Yd.lasts_ex _, (List.forall_mem_cons.2 ⟨Yd.lasts_ex _, (fun _ h => by cases h)⟩)⟩)⟩)⟩)⟩) ⟨?_, ?_, ?_, ?_, ?_, trivial⟩ ?_
  · intro e1 w1 hb hp hun
    refine Ops.ld_agg 1 (hX8.below hb) rfl rfl rfl ?_
    refine Ops.nil ?_
    exact After.dn (Below.refl _ _) (by exact rfl)
  · intro e1 w1 hb hp hun
    refine Ops.ld_agg 1 (hAb15.below hb) rfl rfl rfl ?_
    refine Ops.nil ?_
    exact After.dn (Below.refl _ _) (by exact rfl)
  · intro e1 w1 hb hp hun
    refine Ops.call (toComplex_c V A n c rs F _ (hR15.later hb) hfit) rfl rfl rfl ?_
    rintro _ w2 ⟨D, rd, rfl, hrd, hst⟩
    refine Ops.nil ?_
    exact After.dn hst.below ⟨D, rd, rfl, St.rowsI (ks := []) (by rwa [List.append_nil]) hxl⟩
  · intro e1 w1 hb hp hun
    obtain ⟨D, rd, h43, h1⟩ := (hp 2 (by decide) rfl _ _ rfl rfl)
    refine Ops.call (eqComplex_c V A7 n n rs7 F V D n n rd F _ (hF15.later hb) h1 hn) rfl (by exact congrArg (fun v => [Value.agg #[.int .i64 V, .slice A7 n n], v]) h43) rfl ?_
    rintro _ w2 ⟨rfl, hst⟩
    refine Ops.nil ?_
    exact After.dn hst.below (congrArg Value.bool (decide_eq_true ⟨rfl, rfl⟩))
  · intro e1 w1 hb hp hun
    refine Ops.not rfl rfl ?_
    refine Ops.nil ?_
    exact After.dn (Below.refl _ _) (by exact congrArg Value.bool (rfl))
  intro u w16 hb16 _
  have hT18 := hT15.later hb16
  refine thenQ_n ?_
  refine Cd.cond_f rfl ?_
  refine Cd.skip ?_
  refine thenQ_n ?_
  refine Cd.seq ?_
  refine Cd.region ?_
  refine Ops.mv_int rfl rfl rfl ?_
  refine Ops.nil ?_
  refine thenQ_n ?_
  refine Cd.seq ?_
  refine Cd.region ?_
  refine Ops.ld_agg 1 (box hT18) rfl rfl rfl ?_
  refine Ops.mv_int rfl rfl rfl ?_
  refine Ops.call (markComplex_c (pre := [cxB A11 V' A10 L.length c10] ++ (mat 25 2 A10 L.length c10 rs10 L ++ [cxB A8 V A7 n n])) (post := []) (rs := rs7) V 1 (by simpa only [List.append_assoc, List.cons_append, List.nil_append, List.append_nil] using hT18) hrl7 hxl (by omega) (fun i hi => ?_) (by omega)) rfl rfl rfl ?_
  · have h1 := ((rowF hT18 hxl).row i hi).1
    have h2 := (hR.row i hi).1
    have h3 := hsm.2 i hi
    omega
  rintro _ w19 ⟨K1, ys, rfl, hK1, hyl, hT19⟩
  have hT20 : St w7 w19 ([cxB A11 V' A10 L.length c10] ++ (mat 25 2 A10 L.length c10 rs10 L ++ (cxB A8 V A7 n n :: (mat 25 2 A7 n n rs7 ys)))) := by simpa only [List.append_assoc, List.cons_append, List.nil_append, List.append_nil] using hT19
  refine Ops.mv_int rfl rfl rfl ?_
  refine Ops.nil ?_
  refine thenQ_n ?_
  refine Cd.seq ?_
  refine Cd.seq ?_
  refine Cd.region ?_
  refine Ops.mv_int rfl rfl rfl ?_
  refine Ops.lss rfl rfl rfl ?_
  refine Ops.mv_bool rfl rfl rfl ?_
  refine Ops.split_p 51 rfl (fun h => absurd h (by omega)) (fun _ => ?_) --f
  refine Ops.rung rfl rfl rfl ?_
  refine Ops.ld_agg 1 (hT20.rd 0 rfl) rfl rfl rfl ?_
  refine Ops.rung rfl rfl rfl ?_
  refine Ops.ld_agg 1 (hT20.old hA6) rfl rfl rfl ?_
  refine Ops.rung rfl rfl rfl ?_
  refine Ops.call (eqComplex_c V' A10 _ c10 rs10 L V' A5 _ c5 rs5 L _ (rowL hT20 rfl) (hT20.oldRows hP7) (by omega)) rfl rfl rfl ?_
  rintro _ w21 ⟨rfl, hst21⟩
  have hT21 := hT20.later hst21.below
  rw [decide_eq_true (show V' = V' ∧ L = L from ⟨rfl, rfl⟩)]
  refine Ops.rung rfl rfl rfl ?_
  first | refine Ops.not_p rfl rfl ?_ | refine Ops.not rfl rfl ?_
  refine Ops.pick_f rfl rfl rfl ?_
  refine Ops.mv_bool rfl rfl rfl ?_
  refine Ops.split 57 rfl (fun h => by cases h) (fun _ => ?_) --f
  refine Ops.rung rfl rfl rfl ?_
  refine Ops.mv_int rfl rfl rfl ?_
  refine Ops.rung rfl rfl rfl ?_
  refine Ops.mv_int rfl rfl rfl ?_
  refine Ops.rung rfl rfl rfl ?_
  refine Ops.neq rfl rfl rfl ?_
  refine Ops.pick_f rfl rfl rfl ?_
  refine Ops.nil ?_
  refine thenQ_n ?_
  refine Cd.cond_pf rfl (fun h => h rfl) ?_
  refine Cd.skip ?_
  refine thenQ_n ?_
  refine Cd.seq ?_
  refine Cd.region ?_
  refine Ops.mv_int rfl rfl rfl ?_
  refine Ops.nil ?_
  refine thenQ_n ?_
  refine Cd.seq ?_
  refine Cd.region ?_
  refine Ops.ld_agg 1 (hT21.rd 0 rfl) rfl rfl rfl ?_
  refine Ops.mv_int rfl rfl rfl ?_
  refine Ops.call (markCx_c (pre := [cxB A11 V' A10 L.length c10]) (rs := rs10) V' 1 hT21 hrl10 rfl hbd.1 hbd.2 (by omega)) rfl rfl rfl ?_
  rintro _ w22 ⟨rfl, hT22⟩
  have htot := tot_le (b := 1000) L hbd.2
  refine Ops.mv_int rfl rfl rfl ?_
  refine Ops.nil ?_
  refine thenQ_n ?_
  refine Cd.seq ?_
  refine Cd.region ?_
  refine Ops.mv_int rfl rfl rfl ?_
  refine Ops.nil ?_
  refine thenQ_n ?_
  refine Cd.seq ?_
  refine Cd.region ?_
  refine Ops.ld_agg 1 (hT22.rd 0 rfl) rfl rfl rfl ?_
  refine Ops.mv_int rfl rfl rfl ?_
  refine Ops.call (heldCx_c V' A10 L.length c10 rs10 L 1 _ (rowL hT22 (mkSS_len _ _)) hbd.1 hbd.2 (by omega)) rfl rfl rfl ?_
  rintro _ w23 ⟨rfl, hst23⟩
  have hT23 := hT22.later hst23.below
  refine Ops.mv_int rfl rfl rfl ?_
  refine Ops.nil ?_
  refine thenQ_n ?_
  refine Cd.seq ?_
  refine Cd.seq ?_
  refine Cd.region ?_
  refine Ops.mv_int rfl rfl rfl ?_
  refine Ops.lss rfl rfl rfl ?_
  refine Ops.nil ?_
  refine thenQ_n ?_
  refine Cd.cond_pf rfl (by omega) ?_
  refine Cd.skip ?_
  refine thenQ_n ?_
  refine Cd.seq ?_
  refine Cd.seq ?_
  refine Cd.region ?_
  refine Ops.mv_int rfl rfl rfl ?_
  refine Ops.mv_int rfl rfl rfl ?_
  refine Ops.neq rfl rfl rfl ?_
  refine Ops.nil ?_
  refine thenQ_n ?_
  refine Cd.cond_pf rfl (fun h => h rfl) ?_
  refine Cd.skip ?_
  refine thenQ_n ?_
  refine Cd.seq ?_
  refine Cd.region ?_
  refine Ops.ld_agg 1 (hT23.old hAb) rfl rfl rfl ?_
  refine Ops.call (toComplex_c V A n c rs F _ (hT23.oldRows hR7) hfit) rfl rfl rfl ?_
  rintro _ w24 ⟨A13, rs13, rfl, hrl13, hst24⟩
  have hT24 := hT23.later hst24.below
  have hX24 : RowsI w24 A13 n rs13 F := St.rowsI (ks := []) (by rwa [List.append_nil]) hxl
  skip
  have hI2 := implBoundaryOf_c V A13 n n rs13 F w24 (hT7.later hT24.below) hX24 hn
  rw [hLe, hKe, hVe] at hI2
  refine Ops.call hI2 rfl rfl rfl ?_
  rintro _ w26 ⟨A15, c15, rs15, rfl, hrl15, hst26⟩
  have hT26 := hT24.later hst26.below
  refine Ops.mv_tup rfl rfl rfl ?_
  refine Ops.extract rfl rfl rfl ?_
  refine Ops.extract rfl rfl rfl ?_
  refine Ops.new2 (St.refl w26) rfl ?_
  intro A16 w27 hU27
  refine Ops.st_agg 2 0 hU27 rfl rfl rfl rfl rfl rfl rfl ?_
  intro w28 hU28
  have hT28 := hT26.later hU28.below
  refine Ops.mv_int rfl rfl rfl ?_
  refine Ops.nil ?_
  refine thenQ_n ?_
  refine Cd.seq ?_
  refine Cd.seq ?_
  refine Cd.region ?_
  refine Ops.ld_agg 1 (hU28.rd 0 rfl) rfl rfl rfl ?_
  refine Ops.ld_agg 1 (hT28.old hA6) rfl rfl rfl ?_
  refine Ops.call (eqComplex_c V' A15 _ c15 rs15 L V' A5 _ c5 rs5 L _ ((hst26.rowsI rfl).later hU28.below) (hT28.oldRows hP7) (by omega)) rfl rfl rfl ?_
  rintro _ w29 ⟨rfl, hst29⟩
  have hT29 := hT28.later hst29.below
  rw [decide_eq_true (show V' = V' ∧ L = L from ⟨rfl, rfl⟩)]
  first | refine Ops.not_p rfl rfl ?_ | refine Ops.not rfl rfl ?_
  refine Ops.mv_bool rfl rfl rfl ?_
  refine Ops.split 83 rfl (fun h => by cases h) (fun _ => ?_) --f
  refine Ops.rung rfl rfl rfl ?_
  refine Ops.mv_int rfl rfl rfl ?_
  refine Ops.rung rfl rfl rfl ?_
  refine Ops.mv_int rfl rfl rfl ?_
  refine Ops.rung rfl rfl rfl ?_
  refine Ops.neq rfl rfl rfl ?_
  refine Ops.pick_f rfl rfl rfl ?_
  refine Ops.nil ?_
  refine thenQ_n ?_
  refine Cd.cond_pf rfl (fun h => h rfl) ?_
  refine Cd.skip ?_
  refine thenQ_n ?_
  refine Cd.seq ?_
  refine Cd.region ?_
  refine Ops.mv_int rfl rfl rfl ?_
  refine Ops.nil ?_
  refine thenQ_n ?_
  refine Cd.seq ?_
  refine Cd.region ?_
  refine Ops.ld_agg 1 (hT29.rd 0 rfl) rfl rfl rfl ?_
  refine Ops.mv_int rfl rfl rfl ?_
  refine Ops.call (heldCx_c V' A10 L.length c10 rs10 L 1 _ (rowL hT29 (mkSS_len _ _)) hbd.1 hbd.2 (by omega)) rfl rfl rfl ?_
  rintro _ w30 ⟨rfl, hst30⟩
  refine Ops.mv_int rfl rfl rfl ?_
  refine Ops.nil ?_
  refine thenQ_n ?_
  refine Cd.seq ?_
  refine Cd.seq ?_
  refine Cd.region ?_
  refine Ops.mv_int rfl rfl rfl ?_
  refine Ops.lss rfl rfl rfl ?_
  refine Ops.nil ?_
  refine thenQ_n ?_
  refine Cd.cond_pf rfl (by omega) ?_
  refine Cd.skip ?_
  refine thenQ_n ?_
  refine Cd.seq ?_
  refine Cd.seq ?_
  refine Cd.region ?_
  refine Ops.mv_int rfl rfl rfl ?_
  refine Ops.mv_int rfl rfl rfl ?_
  refine Ops.neq rfl rfl rfl ?_
  refine Ops.nil ?_
  refine thenQ_n ?_
  refine Cd.cond_pf rfl (fun h => h rfl) ?_
  refine Cd.skip ?_
  refine thenQ_n ?_
  refine Cd.seq ?_
  refine Cd.region ?_
  refine Ops.mv_bool rfl rfl rfl ?_
  refine Ops.nil ?_
  refine thenQ_n ?_
  refine Cd.ret ?_
  refine ret1_b rfl ?_
  exact ⟨rfl, (hS7.later ((hT29.later hst30.below).below)).none⟩
end Go.Proofs.YtdedegbendjmbaaGreatDoor.Vc
