/-
  The texts E8, E9, Open, Opm in one. Conditions: as each part states them.
-/
import Derived.Test.YtpdhjnacnmfbjaaZf
import Derived.Test.YtpdhjnacnmfbjaaZa
import Derived.Test.YtpdhjnacnmfbjaaInst
import Derived.Deep.Matrix
import Derived.Carry
import Derived.Below
import Derived.ChangeSame
import Derived.ProofKit
import Derived.OpenShut
import Derived.Handed
import Derived.Lib.SmallJoins
/-
  The parts of the graph on both sides. Conditions: as each states them.
-/
namespace Go.Proofs.Ytpdhjnacnmfbjaa.Vc
open Go.RowKit
section
variable {P : Program} {N : Nat} {ops : Array Oper} {K : Env → World → Prop} {rest : List Oper} {e : Env} {w : World} {d : Nat} {ty xt yt : TypeId} {pos : String} {af : Array Edge} {x y : Operand} {i j : Int}
theorem Ops.remT (hx : ev e x = .int .i64 i) (hy : ev e y = .int .i64 j) (hb : Nat.blt d N = true) (hr : 1 ≤ j) (hK : Ops P N ops K rest (upd e d (.int .i64 (Int.tmod i j))) w) :
    Ops P N ops K (⟨some d, .binOp .rem xt x y yt, ty, pos, af, none⟩ :: rest) e w :=
  .val (by simp [execOp, hx, hy, eqGuard, binOp, Op.intDiv, show j ≠ 0 by omega]) hb hK
end

def p2L (l : List Int) : List Int := l.map fun x => Int.tmod x 2
def mixP (l : List Int) (v : Nat) : List Int := p2L (l.take v) ++ l.drop v
theorem mixP_len (l : List Int) (v : Nat) : (mixP l v).length = l.length := by simp [mixP, p2L]; omega
theorem mixP_get {l : List Int} {v : Nat} (h : v < l.length) : gi (mixP l v) (v : Int) = gi l (v : Int) := by
  have h1 : (p2L (l.take v)).length = v := by simp [p2L]; omega
  simp only [gi, mixP, Int.toNat_natCast, List.getD_eq_getElem?_getD]
  rw [List.getElem?_append_right (by omega), h1]
  simp
theorem mixP_step {l : List Int} {v : Nat} (h : v < l.length) : (mixP l v).set v (Int.tmod (gi l (v : Int)) 2) = mixP l (v + 1) := by
  have h1 : (p2L (l.take v)).length = v := by simp [p2L]; omega
  rw [gi_mem h]
  unfold mixP
  rw [List.set_append_right _ _ (by omega), h1, Nat.sub_self, List.take_succ_eq_append_getElem h, List.drop_eq_getElem_cons h]
  unfold p2L
  rw [List.map_append]
  simp only [List.set_cons_zero, List.map_cons, List.map_nil, List.append_assoc, List.cons_append, List.nil_append]
theorem mixP_zero (l : List Int) : mixP l 0 = l := by simp [mixP, p2L]
theorem mixP_all (l : List Int) : mixP l l.length = p2L l := by simp [mixP]
def partsP (xss : List (List Int)) : List Int := p2L (distP (nbL xss) (-1) 0).1
def Bd (En : List (List Int)) (parts : List Int) (e : Nat) : Prop := (gl En (e : Int)).length = 1 ∨ gi parts (gi (gl En (e : Int)) 0) = gi parts (gi (gl En (e : Int)) 1)
instance (En : List (List Int)) (parts : List Int) (e : Nat) : Decidable (Bd En parts e) := by unfold Bd; exact inferInstance
def ptBad (xss : List (List Int)) : Prop := ∃ e, e < edgesN xss ∧ Bd (endsL xss) (partsP xss) e
instance (xss : List (List Int)) : Decidable (ptBad xss) := by unfold ptBad; exact inferInstance
def ptK (xss : List (List Int)) : Int := if ¬ Grph xss then 1 else if ptBad xss then 4 else 0
def ptL (xss : List (List Int)) : List Int := if Grph xss ∧ ¬ ptBad xss then partsP xss else []
theorem verts_pos {xss : List (List Int)} (hM : Mani xss) : 0 < vertsN xss := by
  have h0 := faces_in hM 0 0 (by have := hM.2.1; omega)
  unfold vertsN
  omega
theorem parts_len {xss : List (List Int)} (hM : Mani xss) : (partsP xss).length = vertsN xss := by
  have hp := verts_pos hM
  have := (dist_BF (wo := -1) (v := 0) (nb_gr hM) (by omega) (by omega)).len
  simp [partsP, p2L, this]
theorem pt_bd (xss : List (List Int)) : (ptL xss).length ≤ 1000 := by
  unfold ptL
  split
  · rename_i h
    have hsm := nb_small h.1.1
    rw [parts_len h.1.1]
    omega
  · exact Nat.zero_le _
/-- each edge has an end -/
theorem ends_pos {xss : List (List Int)} (hM : Mani xss) (e : Nat) (he : e < edgesN xss) : 0 < (gl (endsL xss) (e : Int)).length := by
  have h1 : edgesN xss = (facesN xss 1).toNat := rfl
  have hpos := bag_pos (Vl := facesL xss 0) (El := facesL xss 1) (m := edgesN xss) (gl xss 0).length (fun k hk => by have := faces_in hM 1 k hk; omega) (e : Int) (by omega) (faces_hit hM 1 e (by omega) (by omega))
  rw [endsL, gl_ends]
  have hm : (gl (bag (facesL xss 0) (facesL xss 1) (edgesN xss) (gl xss 0).length) (e : Int))[0] ∈ cs (gl (bag (facesL xss 0) (facesL xss 1) (edgesN xss) (gl xss 0).length) (e : Int)) := (cs_mem _ _).2 (List.getElem_mem hpos)
  exact List.length_pos_of_mem hm

theorem specPartsOf_c (A : Option Addr) (n c : Nat) (rs : List SlV) (xss : List (List Int)) (w : World) (hR : RowsI w A n rs xss) (hn : n ≤ 9223372036854775807) :
    Ret Try.prog 49 [.agg #[.slice A n c]] w (AnsR (ptL xss) (ptK xss) w) := by
  refine Ret.of_cd Try.func49 rfl Try.ntmps49 rfl (post2 rfl) ?_
  refine Cd.seq ?_
  refine Cd.region ?_
  -- stop: BOX 32 t0=m -> 1
  refine Ops.box1 (St.refl w) rfl rfl ?_
  intro Ab w1 hS1
  refine Ops.mv_sl rfl rfl rfl ?_
  refine Ops.mv_int rfl rfl rfl ?_
  refine Ops.nil ?_
  refine thenQ_n ?_
  refine Cd.seq ?_
  refine Cd.seq ?_
  refine Cd.region ?_
  -- stop: LOAD 32 t1=m -> 8
  refine Ops.ld_agg 0 (hS1.rd 0 rfl) rfl rfl rfl ?_
  refine Ops.call (l18Is_c A n c rs xss _ (hS1.oldRows hR) hn) rfl rfl rfl ?_
  rintro _ w2 ⟨rfl, hst⟩
  have hS2 := hS1.later hst.below
  first | refine Ops.not_p rfl rfl ?_ | refine Ops.not rfl rfl ?_
  refine Ops.nil ?_
  refine thenQ_n ?_
  -- stop: cond
  refine Cd.cond_p _ rfl (fun h => ?_) (fun h => ?_)
  · refine Cd.seq ?_
    refine Cd.region ?_
    refine Ops.mv_sl rfl rfl rfl ?_
    refine Ops.mv_int rfl rfl rfl ?_
    refine Ops.nil ?_
    refine thenQ_n ?_
    refine Cd.ret ?_
    refine thenQ_r ?_
    refine ret2_si rfl rfl ?_
    -- stop: end
    rw [ptK, if_pos h, ptL, if_neg (fun h2 => h h2.1)]
    exact AnsR.none hS2
  · have hG : Grph xss := Classical.not_not.1 h
    have hM := hG.1
    have hg := nb_gr hM
    have hsm := nb_small hM
    have hvp := verts_pos hM
    have hdl := (dist_BF (wo := -1) (v := 0) hg (by omega) (by omega)).len
    have hpl := parts_len hM
    have hel := endsL_len xss
    have hmem : ∀ e : Nat, ∀ x ∈ gl (endsL xss) (e : Int), 0 ≤ x ∧ x < (vertsN xss : Int) := fun e => endsL_mem hM e (by omega)
    have hep := ends_pos hM
    have hfinK : ptK xss = if ptBad xss then 4 else 0 := by rw [ptK, if_neg h]
    have hfinL : ptL xss = if ptBad xss then [] else partsP xss := by
      unfold ptL
      by_cases hb : ptBad xss
      · rw [if_neg (fun h2 => h2.2 hb), if_pos hb]
      · rw [if_pos ⟨hG, hb⟩, if_neg hb]
    refine Cd.skip ?_
    refine thenQ_n ?_
    refine Cd.seq ?_
    -- stop: draw
    refine Cd.drawP [] [.ex (.agg #[.slice (A) (n) (c)]), .pr (fun v w' => ∃ A1 rs1, v = .slice A1 (edgesN xss) (edgesN xss) ∧ RowsI w' A1 (edgesN xss) rs1 (endsL xss)), .ex (.agg #[.slice (A) (n) (c)]), .pr (fun v w' => ∃ A1 rs1, v = .slice A1 (vertsN xss) (vertsN xss) ∧ RowsI w' A1 (vertsN xss) rs1 (nbL xss)), .p2 1 (fun a v w' => ∃ A15, v = .slice A15 (vertsN xss) (vertsN xss) ∧ ∃ A12 rs12 wb, a = .slice A12 (edgesN xss) (edgesN xss) ∧ RowsI wb A12 (edgesN xss) rs12 (endsL xss) ∧ St wb w' [CkI 2 A15 (vertsN xss) (vertsN xss) (distP (nbL xss) (-1) 0).1] ∧ Below w2.heap.size w2 wb), .p2 1 (fun a v _ => v = a), .p2 4 (fun a v _ => v = a)] (by kernel_rfl) (by kernel_rfl) (List.forall_mem_cons.2 ⟨Ye.lasts_ex _, (List.forall_mem_cons.2 ⟨Ye.lasts_pr (fun v w w' h hb => by obtain ⟨A1, rs1, hv, hT⟩ := h; exact ⟨A1, rs1, hv, hT.later hb⟩), (List.forall_mem_cons.2 ⟨Ye.lasts_ex _, (List.forall_mem_cons.2 ⟨Ye.lasts_pr (fun v w w' h hb => by obtain ⟨A1, rs1, hv, hT⟩ := h; exact ⟨A1, rs1, hv, hT.later hb⟩), (List.forall_mem_cons.2 ⟨Ye.lasts_p2 (fun a v w w' h hb => by obtain ⟨A15, hv, A12, rs12, wb, h1, h2, h3, h4⟩ := h; exact ⟨A15, hv, A12, rs12, wb, h1, h2, h3.later hb, h4⟩), (List.forall_mem_cons.2 ⟨Ye.lasts_p2 (fun a v w w' h hb => h), (List.forall_mem_cons.2 ⟨Ye.lasts_p2 (fun a v w w' h hb => h), (fun _ h => by cases h)⟩)⟩)⟩)⟩)⟩)⟩)⟩) ⟨?_, ?_, ?_, ?_, ?_, ?_, ?_, trivial⟩ ?_
    · intro e1 w1 cc hlo hhi hb0 hp hun hq
      show Ops _ _ _ _ _ _ _
      replace hlo := le_of_lo hlo (b := 0) (by kernel_rfl)
      replace hhi := le_of_hi hhi (b := 0) (by kernel_rfl)
      obtain rfl : cc = 0 := by omega
      have hb := hb0 rfl
      refine Ops.ld_agg 0 ((hS2.rd 0 rfl).below hb) rfl rfl rfl ?_
      refine Ops.nil ?_
      exact AfterP.dn rfl (Below.refl _ _) (by exact rfl)
    · intro e1 w1 cc hlo hhi hb0 hp hun hq
      show Ops _ _ _ _ _ _ _
      replace hlo := le_of_lo hlo (b := 0) (by kernel_rfl)
      replace hhi := le_of_hi hhi (b := 0) (by kernel_rfl)
      obtain rfl : cc = 0 := by omega
      have hb := hb0 rfl
      refine Ops.call (l18Ends_c A n c rs xss _ ((hS2.later hb).oldRows hR) hG) rfl rfl rfl ?_
      rintro _ w9 ⟨A1, rs1, rfl, hrl, hst⟩
      refine Ops.nil ?_
      exact AfterP.dn rfl hst.below ⟨A1, rs1, rfl, hst.rowsI hel⟩
    · intro e1 w1 cc hlo hhi hb0 hp hun hq
      show Ops _ _ _ _ _ _ _
      replace hlo := le_of_lo hlo (b := 0) (by kernel_rfl)
      replace hhi := le_of_hi hhi (b := 0) (by kernel_rfl)
      obtain rfl : cc = 0 := by omega
      have hb := hb0 rfl
      refine Ops.ld_agg 0 ((hS2.rd 0 rfl).below hb) rfl rfl rfl ?_
      refine Ops.nil ?_
      exact AfterP.dn rfl (Below.refl _ _) (by exact rfl)
    · intro e1 w1 cc hlo hhi hb0 hp hun hq
      show Ops _ _ _ _ _ _ _
      replace hlo := le_of_lo hlo (b := 0) (by kernel_rfl)
      replace hhi := le_of_hi hhi (b := 0) (by kernel_rfl)
      obtain rfl : cc = 0 := by omega
      have hb := hb0 rfl
      refine Ops.call (l18Neighbours_c A n c rs xss _ ((hS2.later hb).oldRows hR) hG) rfl rfl rfl ?_
      rintro _ w9 ⟨A1, rs1, rfl, hrl, hst⟩
      refine Ops.nil ?_
      exact AfterP.dn rfl hst.below ⟨A1, rs1, rfl, hst.rowsI (nbL_len xss)⟩
    · intro e1 w1 cc hlo hhi hb0 hp hun hq
      show Ops _ _ _ _ _ _ _
      replace hlo := le_of_lo hlo (b := 0) (by kernel_rfl)
      replace hhi := le_of_hi hhi (b := 0) (by kernel_rfl)
      obtain rfl : cc = 0 := by omega
      have hb := hb0 rfl
      obtain ⟨A0, rs0, h14, hN⟩ := (hp 3 _ _ (by kernel_rfl) rfl rfl (by kernel_rfl))
      obtain ⟨A12, rs12, h12, hE⟩ := (hp 1 _ _ (by kernel_rfl) rfl rfl (by kernel_rfl))
      have hb := hb0 rfl
      refine Ops.call (l18Distances_c A0 _ _ rs0 (nbL xss) 0 (-1) _ hN hg (by omega) (by omega)) rfl (by exact congrArg (fun v => [v, Value.int .i64 0, Value.int .i64 (-1)]) h14) rfl ?_
      rintro _ w9 ⟨A15, rfl, hst⟩
      refine Ops.nil ?_
      exact AfterP.dn rfl hst.below ⟨A15, rfl, A12, rs12, _, h12, hE, hst, hb⟩
    · intro e1 w1 cc hlo hhi hb0 hp hun hq
      show Ops _ _ _ _ _ _ _
      replace hlo := le_of_lo hlo (b := 0) (by kernel_rfl)
      replace hhi := le_of_hi hhi (b := 0) (by kernel_rfl)
      obtain rfl : cc = 0 := by omega
      have hb := hb0 rfl
      obtain ⟨A1, rs1, h12, _⟩ := (hp 1 _ _ (by kernel_rfl) rfl rfl (by kernel_rfl))
      refine Ops.mv_sl rfl (by exact h12) rfl ?_
      refine Ops.nil ?_
      exact AfterP.dn rfl (Below.refl _ _) h12.symm
    · intro e1 w1 cc hlo hhi hb0 hp hun hq
      show Ops _ _ _ _ _ _ _
      replace hlo := le_of_lo hlo (b := 0) (by kernel_rfl)
      replace hhi := le_of_hi hhi (b := 0) (by kernel_rfl)
      obtain rfl : cc = 0 := by omega
      have hb := hb0 rfl
      obtain ⟨A15, h15, _⟩ := (hp 4 _ _ (by kernel_rfl) rfl rfl (by kernel_rfl))
      refine Ops.mv_sl rfl (by exact h15) rfl ?_
      refine Ops.nil ?_
      exact AfterP.dn rfl (Below.refl _ _) h15.symm
    intro u w3 _ hu hu2
    obtain ⟨A15, h15, A12, rs12, wb, h12, hE, hT, hbl⟩ := hu2 4 1 _ rfl (by kernel_rfl)
    have h4 : u 5 = .slice A12 (edgesN xss) (edgesN xss) := (hu2 5 1 _ rfl (by kernel_rfl)).trans h12
    have h5 : u 6 = .slice A15 (vertsN xss) (vertsN xss) := (hu2 6 4 _ rfl (by kernel_rfl)).trans h15
    have hSb := (hS2.later hbl).none
    rw [pin2 u h4 h5]
    have hparts : partsP xss = p2L (distP (nbL xss) (-1) 0).1 := rfl
    have hbad : ptBad xss ↔ ∃ e, e < edgesN xss ∧ Bd (endsL xss) (partsP xss) e := Iff.rfl
    generalize hm : edgesN xss = m at *
    generalize hv : vertsN xss = N at *
    generalize hEn : endsL xss = En at *
    generalize hpt : partsP xss = parts at *
    generalize hdd : (distP (nbL xss) (-1) 0).1 = dl at *
    refine thenQ_n ?_
    refine Cd.seq ?_
    refine Cd.seq ?_
    refine Cd.region ?_
    refine Ops.mv_int rfl rfl rfl ?_
    refine Ops.nil ?_
    refine thenQ_n ?_
    refine Cd.block ?_
    -- stop: loop
    refine Cd.loop (α := Nat) (fun v => [(4, .slice A12 m m), (5, .slice A15 N N), (6, .int .i64 (v : Int))]) (fun v w' => St wb w' [CkI 2 A15 N N (mixP dl v)] ∧ v ≤ N) (fun v => N - v) 0 ⟨rfl, rfl, rfl, trivial⟩ ⟨by rw [mixP_zero]; exact hT, Nat.zero_le _⟩ ?_
    rintro v e w4 ⟨hS4, hv4⟩
    have hml := mixP_len dl v
    have hO := hS4.rdI 0 rfl
    refine Cd.seq ?_
    refine Cd.seq ?_
    refine Cd.region ?_
    refine Ops.mv_int rfl rfl rfl ?_
    refine Ops.mv_sl rfl rfl rfl ?_
    refine Ops.len rfl rfl ?_
    refine Ops.lss rfl rfl rfl ?_
    refine Ops.nil ?_
    refine thenQ_n ?_
    -- stop: cond
    refine Cd.cond_p _ rfl (fun h1 => ?_) (fun h1 => ?_)
    · refine Cd.skip ?_
      refine thenQ_n ?_
      refine Cd.seq ?_
      refine Cd.block ?_
      refine Cd.region ?_
      refine Ops.mv_sl rfl rfl rfl ?_
      refine Ops.mv_int rfl rfl rfl ?_
      refine Ops.mv_sl rfl rfl rfl ?_
      refine Ops.mv_int rfl rfl rfl ?_
      -- stop: INDEXADDR 39 t24 t25 -> 26
      refine Ops.idx hO.2 rfl rfl rfl (by omega) (by omega) ?_
      refine Ops.ld_int hO rfl (by omega) rfl rfl ?_
      rw [mixP_get (by omega)]
      refine Ops.remT rfl rfl rfl (by omega) ?_
      refine Ops.idx hO.2 rfl rfl rfl (by omega) (by omega) ?_
      refine Ops.st_int 0 hS4 rfl rfl rfl (by omega) ?_
      intro w5 hS5
      refine Ops.nil ?_
      refine blockQ_n ?_
      refine thenQ_n ?_
      refine Cd.region ?_
      refine Ops.mv_int rfl rfl rfl ?_
      refine Ops.add rfl rfl rfl (by omega) ?_
      refine Ops.mv_int rfl rfl rfl ?_
      refine Ops.nil ?_
      refine thenQ_n ?_
      -- stop: round
      exact ⟨v + 1, by show N - (v + 1) < N - v; omega, ⟨rfl, rfl, rfl, trivial⟩, by rw [← mixP_step (by omega)]; exact hS5, by omega⟩
    · refine Cd.exit ?_
      refine thenQ_x ?_
      refine thenQ_x ?_
      refine blockQ_x ?_
      refine thenQ_n ?_
      refine Cd.seq ?_
      refine Cd.seq ?_
      refine Cd.region ?_
      refine Ops.mv_int rfl rfl rfl ?_
      refine Ops.nil ?_
      refine thenQ_n ?_
      refine Cd.block ?_
      -- stop: loop
      have hvN : v = N := by omega
      subst hvN
      have hall : mixP dl v = parts := by rw [← hdl, mixP_all, hparts]
      rw [hall] at hS4
      refine Cd.loop (α := Nat) (fun e => [(4, .slice A12 m m), (5, .slice A15 v v), (7, .int .i64 (e : Int))]) (fun e w' => St wb w' [CkI 2 A15 v v parts] ∧ e ≤ m ∧ ∀ e', e' < e → ¬ Bd En parts e') (fun e => m - e) 0 ⟨rfl, rfl, rfl, trivial⟩ ⟨hS4, Nat.zero_le _, fun e' he' => by omega⟩ ?_
      rintro ed e w6 ⟨hS6, hed, hno⟩
      have hP := hS6.rdI 0 rfl
      have hE6 := hS6.oldRows hE
      refine Cd.seq ?_
      refine Cd.seq ?_
      refine Cd.region ?_
      refine Ops.mv_int rfl rfl rfl ?_
      refine Ops.mv_sl rfl rfl rfl ?_
      refine Ops.len rfl rfl ?_
      refine Ops.lss rfl rfl rfl ?_
      refine Ops.nil ?_
      refine thenQ_n ?_
      -- stop: cond
      refine Cd.cond_p _ rfl (fun h2 => ?_) (fun h2 => ?_)
      · have hed' : ed < m := by omega
        have hrow := hE6.at_ (i := (ed : Int)) (by omega) h2
        have hrn := hE6.rowLen (k := (ed : Int)) (by omega) h2
        have hp := hep ed hed'
        have isbad : Bd En parts ed → ptBad xss := fun h => hbad.2 ⟨ed, hed', h⟩
        by_cases h3 : ((rg rs12 (ed : Int)).n : Int) = 1 --dup 2
        · refine Cd.skip ?_
          refine thenQ_n ?_
          refine Cd.seq ?_
          refine Cd.block ?_
          refine Cd.seq ?_
          -- stop: draw
          refine Cd.draw [.ex (.slice (A12) (m) (m)), .ex (.int .i64 ((ed : Int))), .ex (.pointer (ptrAt (A12) ((ed : Int)).toNat)), .ex (.slice ((rg (rs12) ((ed : Int))).a) ((rg (rs12) ((ed : Int))).n) ((rg (rs12) ((ed : Int))).c)), .ex (.int .i64 ((((rg (rs12) ((ed : Int))).n : Nat) : Int))), .ex (.bool (decide (((((rg (rs12) ((ed : Int))).n : Nat) : Int)) = ((1 : Int))))), .ex (.bool (true)), .ex (undef), .ex (undef), .ex (undef), .ex (undef), .ex (undef), .ex (undef), .ex (undef), .ex (undef), .ex (undef), .ex (undef), .ex (undef), .ex (undef), .ex (undef), .ex (undef), .ex (undef), .ex (undef), .ex (undef), .ex (undef), .ex (undef), .ex (.bool (true))] (by kernel_rfl) (by kernel_rfl) rfl (List.forall_mem_cons.2 ⟨Yd.lasts_ex _, (List.forall_mem_cons.2 ⟨Yd.lasts_ex _, (List.forall_mem_cons.2 ⟨Yd.lasts_ex _, (List.forall_mem_cons.2 ⟨Yd.lasts_ex _, (List.forall_mem_cons.2 ⟨Yd.lasts_ex _, (List.forall_mem_cons.2 ⟨Yd.lasts_ex _, (List.forall_mem_cons.2 ⟨Yd.lasts_ex _, (List.forall_mem_cons.2 ⟨Yd.lasts_ex _, (List.forall_mem_cons.2 ⟨Yd.lasts_ex _, (List.forall_mem_cons.2 ⟨Yd.lasts_ex _, (List.forall_mem_cons.2 ⟨Yd.lasts_ex _, (List.forall_mem_cons.2 ⟨Yd.lasts_ex _, (List.forall_mem_cons.2 ⟨Yd.lasts_ex _, (List.forall_mem_cons.2 ⟨Yd.lasts_ex _, (List.forall_mem_cons.2 ⟨Yd.lasts_ex _, (List.forall_mem_cons.2 ⟨Yd.lasts_ex _, (List.forall_mem_cons.2 ⟨Yd.lasts_ex _, (List.forall_mem_cons.2 ⟨Yd.lasts_ex _, (List.forall_mem_cons.2 ⟨Yd.lasts_ex _, (List.forall_mem_cons.2 ⟨Yd.lasts_ex _, (List.forall_mem_cons.2 ⟨Yd.lasts_ex _, (List.forall_mem_cons.2 ⟨Yd.lasts_ex _, (List.forall_mem_cons.2 ⟨Yd.lasts_ex _, (List.forall_mem_cons.2 ⟨Yd.lasts_ex _, (List.forall_mem_cons.2 ⟨Yd.lasts_ex _, (List.forall_mem_cons.2 ⟨Yd.lasts_ex _, (List.forall_mem_cons.2 ⟨Yd.lasts_ex _, (fun _ h => by cases h)⟩)⟩)⟩)⟩)⟩)⟩)⟩)⟩)⟩)⟩)⟩)⟩)⟩)⟩)⟩)⟩)⟩)⟩)⟩)⟩)⟩)⟩)⟩)⟩)⟩)⟩)⟩) ⟨?_, ?_, ?_, ?_, ?_, ?_, ?_, ?_, ?_, ?_, ?_, ?_, ?_, ?_, ?_, ?_, ?_, ?_, ?_, ?_, ?_, ?_, ?_, ?_, ?_, ?_, ?_, trivial⟩ ?_
          · intro e1 w1 hb hp hun
            refine Ops.mv_sl rfl rfl rfl ?_
            refine Ops.nil ?_
            exact After.dn (Below.refl _ _) (by exact rfl)
          · intro e1 w1 hb hp hun
            refine Ops.mv_int rfl rfl rfl ?_
            refine Ops.nil ?_
            exact After.dn (Below.refl _ _) (by exact rfl)
          · intro e1 w1 hb hp hun
            refine Ops.idx (hE6.top.later hb).2 rfl rfl rfl (by omega) (by omega) ?_
            refine Ops.nil ?_
            exact After.dn (Below.refl _ _) (by exact rfl)
          · intro e1 w1 hb hp hun
            refine Ops.ld_sl (hE6.top.later hb) rfl (by omega) rfl rfl ?_
            refine Ops.nil ?_
            exact After.dn (Below.refl _ _) (by exact rfl)
          · intro e1 w1 hb hp hun
            refine Ops.len rfl rfl ?_
            refine Ops.nil ?_
            exact After.dn (Below.refl _ _) (by exact rfl)
          · intro e1 w1 hb hp hun
            refine Ops.eql rfl rfl rfl ?_
            refine Ops.nil ?_
            exact After.dn (Below.refl _ _) (by exact rfl)
          · intro e1 w1 hb hp hun
            refine Ops.mv_bool rfl rfl rfl ?_
            refine Ops.nil ?_
            exact After.dn (Below.refl _ _) (by exact congrArg Value.bool (decide_eq_true h3))
          · intro e1 w1 hb hp hun
            refine Ops.skipg rfl rfl rfl rfl rfl ?_
            refine Ops.nil ?_
            exact After.dn (Below.refl _ _) (by exact rfl)
          · intro e1 w1 hb hp hun
            refine Ops.skipg rfl rfl rfl rfl rfl ?_
            refine Ops.nil ?_
            exact After.dn (Below.refl _ _) (by exact rfl)
          · intro e1 w1 hb hp hun
            refine Ops.skipg rfl rfl rfl rfl rfl ?_
            refine Ops.nil ?_
            exact After.dn (Below.refl _ _) (by exact rfl)
          · intro e1 w1 hb hp hun
            refine Ops.skipg rfl rfl rfl rfl rfl ?_
            refine Ops.nil ?_
            exact After.dn (Below.refl _ _) (by exact rfl)
          · intro e1 w1 hb hp hun
            refine Ops.skipg rfl rfl rfl rfl rfl ?_
            refine Ops.nil ?_
            exact After.dn (Below.refl _ _) (by exact rfl)
          · intro e1 w1 hb hp hun
            refine Ops.skipg rfl rfl rfl rfl rfl ?_
            refine Ops.nil ?_
            exact After.dn (Below.refl _ _) (by exact rfl)
          · intro e1 w1 hb hp hun
            refine Ops.skipg rfl rfl rfl rfl rfl ?_
            refine Ops.nil ?_
            exact After.dn (Below.refl _ _) (by exact rfl)
          · intro e1 w1 hb hp hun
            refine Ops.skipg rfl rfl rfl rfl rfl ?_
            refine Ops.nil ?_
            exact After.dn (Below.refl _ _) (by exact rfl)
          · intro e1 w1 hb hp hun
            refine Ops.skipg rfl rfl rfl rfl rfl ?_
            refine Ops.nil ?_
            exact After.dn (Below.refl _ _) (by exact rfl)
          · intro e1 w1 hb hp hun
            refine Ops.skipg rfl rfl rfl rfl rfl ?_
            refine Ops.nil ?_
            exact After.dn (Below.refl _ _) (by exact rfl)
          · intro e1 w1 hb hp hun
            refine Ops.skipg rfl rfl rfl rfl rfl ?_
            refine Ops.nil ?_
            exact After.dn (Below.refl _ _) (by exact rfl)
          · intro e1 w1 hb hp hun
            refine Ops.skipg rfl rfl rfl rfl rfl ?_
            refine Ops.nil ?_
            exact After.dn (Below.refl _ _) (by exact rfl)
          · intro e1 w1 hb hp hun
            refine Ops.skipg rfl rfl rfl rfl rfl ?_
            refine Ops.nil ?_
            exact After.dn (Below.refl _ _) (by exact rfl)
          · intro e1 w1 hb hp hun
            refine Ops.skipg rfl rfl rfl rfl rfl ?_
            refine Ops.nil ?_
            exact After.dn (Below.refl _ _) (by exact rfl)
          · intro e1 w1 hb hp hun
            refine Ops.skipg rfl rfl rfl rfl rfl ?_
            refine Ops.nil ?_
            exact After.dn (Below.refl _ _) (by exact rfl)
          · intro e1 w1 hb hp hun
            refine Ops.skipg rfl rfl rfl rfl rfl ?_
            refine Ops.nil ?_
            exact After.dn (Below.refl _ _) (by exact rfl)
          · intro e1 w1 hb hp hun
            refine Ops.skipg rfl rfl rfl rfl rfl ?_
            refine Ops.nil ?_
            exact After.dn (Below.refl _ _) (by exact rfl)
          · intro e1 w1 hb hp hun
            refine Ops.skipg rfl rfl rfl rfl rfl ?_
            refine Ops.nil ?_
            exact After.dn (Below.refl _ _) (by exact rfl)
          · intro e1 w1 hb hp hun
            refine Ops.skipg rfl rfl rfl rfl rfl ?_
            refine Ops.nil ?_
            exact After.dn (Below.refl _ _) (by exact rfl)
          · intro e1 w1 hb hp hun
            refine Ops.pick_t rfl rfl rfl ?_
            refine Ops.nil ?_
            exact After.dn (Below.refl _ _) (by exact rfl)
          intro u w7 hb7 _
          have hS7 := hS6.later hb7
          refine thenQ_n ?_
          -- stop: cond
          refine Cd.cond_t rfl ?_
          refine Cd.seq ?_
          refine Cd.region ?_
          refine Ops.mv_sl rfl rfl rfl ?_
          refine Ops.mv_int rfl rfl rfl ?_
          refine Ops.nil ?_
          refine thenQ_n ?_
          refine Cd.ret ?_
          refine blockQ_r ?_
          refine thenQ_r ?_
          refine thenQ_r ?_
          refine blockQ_r ?_
          refine thenQ_r ?_
          refine ret2_si rfl rfl ?_
          -- stop: end
          rw [hfinK, hfinL, if_pos (isbad (.inl (by omega))), if_pos (isbad (.inl (by omega)))]
          exact AnsR.none (hSb.later hS7.below)
        · have hx0 := hmem ed (gi (gl En (ed : Int)) 0) (by rw [show (0 : Int) = ((0 : Nat) : Int) from rfl, gi_mem (by omega)]; exact List.getElem_mem _)
          have hx1 := hmem ed (gi (gl En (ed : Int)) 1) (by rw [show (1 : Int) = ((1 : Nat) : Int) from rfl, gi_mem (by omega)]; exact List.getElem_mem _)
          refine Cd.skip ?_
          refine thenQ_n ?_
          refine Cd.seq ?_
          refine Cd.block ?_
          refine Cd.seq ?_
          -- stop: draw
          refine Cd.draw [.ex (.slice (A12) (m) (m)), .ex (.int .i64 ((ed : Int))), .ex (.pointer (ptrAt (A12) ((ed : Int)).toNat)), .ex (.slice ((rg (rs12) ((ed : Int))).a) ((rg (rs12) ((ed : Int))).n) ((rg (rs12) ((ed : Int))).c)), .ex (.int .i64 ((((rg (rs12) ((ed : Int))).n : Nat) : Int))), .ex (.bool (decide (((((rg (rs12) ((ed : Int))).n : Nat) : Int)) = ((1 : Int))))), .ex (.bool (false)), .ex (.slice (A15) (v) (v)), .ex (.slice (A12) (m) (m)), .ex (.int .i64 ((ed : Int))), .ex (.pointer (ptrAt (A12) ((ed : Int)).toNat)), .ex (.slice ((rg (rs12) ((ed : Int))).a) ((rg (rs12) ((ed : Int))).n) ((rg (rs12) ((ed : Int))).c)), .ex (.pointer (ptrAt ((rg (rs12) ((ed : Int))).a) ((0 : Int)).toNat)), .ex (.int .i64 (gi (gl En (ed : Int)) ((0 : Int)))), .ex (.pointer (ptrAt (A15) (gi (gl En (ed : Int)) ((0 : Int))).toNat)), .ex (.int .i64 (gi (parts) (gi (gl En (ed : Int)) ((0 : Int))))), .ex (.slice (A15) (v) (v)), .ex (.slice (A12) (m) (m)), .ex (.int .i64 ((ed : Int))), .ex (.pointer (ptrAt (A12) ((ed : Int)).toNat)), .ex (.slice ((rg (rs12) ((ed : Int))).a) ((rg (rs12) ((ed : Int))).n) ((rg (rs12) ((ed : Int))).c)), .ex (.pointer (ptrAt ((rg (rs12) ((ed : Int))).a) ((1 : Int)).toNat)), .ex (.int .i64 (gi (gl En (ed : Int)) ((1 : Int)))), .ex (.pointer (ptrAt (A15) (gi (gl En (ed : Int)) ((1 : Int))).toNat)), .ex (.int .i64 (gi (parts) (gi (gl En (ed : Int)) ((1 : Int))))), .ex (.bool (decide ((gi (parts) (gi (gl En (ed : Int)) ((0 : Int)))) = (gi (parts) (gi (gl En (ed : Int)) ((1 : Int))))))), .ex (.bool (decide ((gi (parts) (gi (gl En (ed : Int)) ((0 : Int)))) = (gi (parts) (gi (gl En (ed : Int)) ((1 : Int)))))))] (by kernel_rfl) (by kernel_rfl) rfl (List.forall_mem_cons.2 ⟨Yd.lasts_ex _, (List.forall_mem_cons.2 ⟨Yd.lasts_ex _, (List.forall_mem_cons.2 ⟨Yd.lasts_ex _, (List.forall_mem_cons.2 ⟨Yd.lasts_ex _, (List.forall_mem_cons.2 ⟨Yd.lasts_ex _, (List.forall_mem_cons.2 ⟨Yd.lasts_ex _, (List.forall_mem_cons.2 ⟨Yd.lasts_ex _, (List.forall_mem_cons.2 ⟨Yd.lasts_ex _, (List.forall_mem_cons.2 ⟨Yd.lasts_ex _, (List.forall_mem_cons.2 ⟨Yd.lasts_ex _, (List.forall_mem_cons.2 ⟨Yd.lasts_ex _, (List.forall_mem_cons.2 ⟨Yd.lasts_ex _, (List.forall_mem_cons.2 ⟨Yd.lasts_ex _, (List.forall_mem_cons.2 ⟨Yd.lasts_ex _, (List.forall_mem_cons.2 ⟨Yd.lasts_ex _, (List.forall_mem_cons.2 ⟨Yd.lasts_ex _, (List.forall_mem_cons.2 ⟨Yd.lasts_ex _, (List.forall_mem_cons.2 ⟨Yd.lasts_ex _, (List.forall_mem_cons.2 ⟨Yd.lasts_ex _, (List.forall_mem_cons.2 ⟨Yd.lasts_ex _, (List.forall_mem_cons.2 ⟨Yd.lasts_ex _, (List.forall_mem_cons.2 ⟨Yd.lasts_ex _, (List.forall_mem_cons.2 ⟨Yd.lasts_ex _, (List.forall_mem_cons.2 ⟨Yd.lasts_ex _, (List.forall_mem_cons.2 ⟨Yd.lasts_ex _, (List.forall_mem_cons.2 ⟨Yd.lasts_ex _, (List.forall_mem_cons.2 ⟨Yd.lasts_ex _, (fun _ h => by cases h)⟩)⟩)⟩)⟩)⟩)⟩)⟩)⟩)⟩)⟩)⟩)⟩)⟩)⟩)⟩)⟩)⟩)⟩)⟩)⟩)⟩)⟩)⟩)⟩)⟩)⟩)⟩) ⟨?_, ?_, ?_, ?_, ?_, ?_, ?_, ?_, ?_, ?_, ?_, ?_, ?_, ?_, ?_, ?_, ?_, ?_, ?_, ?_, ?_, ?_, ?_, ?_, ?_, ?_, ?_, trivial⟩ ?_
          · intro e1 w1 hb hp hun
            refine Ops.mv_sl rfl rfl rfl ?_
            refine Ops.nil ?_
            exact After.dn (Below.refl _ _) (by exact rfl)
          · intro e1 w1 hb hp hun
            refine Ops.mv_int rfl rfl rfl ?_
            refine Ops.nil ?_
            exact After.dn (Below.refl _ _) (by exact rfl)
          · intro e1 w1 hb hp hun
            refine Ops.idx (hE6.top.later hb).2 rfl rfl rfl (by omega) (by omega) ?_
            refine Ops.nil ?_
            exact After.dn (Below.refl _ _) (by exact rfl)
          · intro e1 w1 hb hp hun
            refine Ops.ld_sl (hE6.top.later hb) rfl (by omega) rfl rfl ?_
            refine Ops.nil ?_
            exact After.dn (Below.refl _ _) (by exact rfl)
          · intro e1 w1 hb hp hun
            refine Ops.len rfl rfl ?_
            refine Ops.nil ?_
            exact After.dn (Below.refl _ _) (by exact rfl)
          · intro e1 w1 hb hp hun
            refine Ops.eql rfl rfl rfl ?_
            refine Ops.nil ?_
            exact After.dn (Below.refl _ _) (by exact rfl)
          · intro e1 w1 hb hp hun
            refine Ops.mv_bool rfl rfl rfl ?_
            refine Ops.nil ?_
            exact After.dn (Below.refl _ _) (by exact congrArg Value.bool (decide_eq_false h3))
          · intro e1 w1 hb hp hun
            refine Ops.rung rfl rfl rfl ?_
            refine Ops.mv_sl rfl rfl rfl ?_
            refine Ops.nil ?_
            exact After.dn (Below.refl _ _) (by exact rfl)
          · intro e1 w1 hb hp hun
            refine Ops.rung rfl rfl rfl ?_
            refine Ops.mv_sl rfl rfl rfl ?_
            refine Ops.nil ?_
            exact After.dn (Below.refl _ _) (by exact rfl)
          · intro e1 w1 hb hp hun
            refine Ops.rung rfl rfl rfl ?_
            refine Ops.mv_int rfl rfl rfl ?_
            refine Ops.nil ?_
            exact After.dn (Below.refl _ _) (by exact rfl)
          · intro e1 w1 hb hp hun
            refine Ops.rung rfl rfl rfl ?_
            refine Ops.idx (hE6.top.later hb).2 rfl rfl rfl (by omega) (by omega) ?_
            refine Ops.nil ?_
            exact After.dn (Below.refl _ _) (by exact rfl)
          · intro e1 w1 hb hp hun
            refine Ops.rung rfl rfl rfl ?_
            refine Ops.ld_sl (hE6.top.later hb) rfl (by omega) rfl rfl ?_
            refine Ops.nil ?_
            exact After.dn (Below.refl _ _) (by exact rfl)
          · intro e1 w1 hb hp hun
            refine Ops.rung rfl rfl rfl ?_
            refine Ops.idx (hrow.later hb).2 rfl rfl rfl (by omega) (by omega) ?_
            refine Ops.nil ?_
            exact After.dn (Below.refl _ _) (by exact rfl)
          · intro e1 w1 hb hp hun
            refine Ops.rung rfl rfl rfl ?_
            refine Ops.ld_int (hrow.later hb) rfl (by omega) rfl rfl ?_
            refine Ops.nil ?_
            exact After.dn (Below.refl _ _) (by exact rfl)
          · intro e1 w1 hb hp hun
            refine Ops.rung rfl rfl rfl ?_
            refine Ops.idx (hP.later hb).2 rfl rfl rfl (by omega) (by omega) ?_
            refine Ops.nil ?_
            exact After.dn (Below.refl _ _) (by exact rfl)
          · intro e1 w1 hb hp hun
            refine Ops.rung rfl rfl rfl ?_
            refine Ops.ld_int (hP.later hb) rfl (by omega) rfl rfl ?_
            refine Ops.nil ?_
            exact After.dn (Below.refl _ _) (by exact rfl)
          · intro e1 w1 hb hp hun
            refine Ops.rung rfl rfl rfl ?_
            refine Ops.mv_sl rfl rfl rfl ?_
            refine Ops.nil ?_
            exact After.dn (Below.refl _ _) (by exact rfl)
          · intro e1 w1 hb hp hun
            refine Ops.rung rfl rfl rfl ?_
            refine Ops.mv_sl rfl rfl rfl ?_
            refine Ops.nil ?_
            exact After.dn (Below.refl _ _) (by exact rfl)
          · intro e1 w1 hb hp hun
            refine Ops.rung rfl rfl rfl ?_
            refine Ops.mv_int rfl rfl rfl ?_
            refine Ops.nil ?_
            exact After.dn (Below.refl _ _) (by exact rfl)
          · intro e1 w1 hb hp hun
            refine Ops.rung rfl rfl rfl ?_
            refine Ops.idx (hE6.top.later hb).2 rfl rfl rfl (by omega) (by omega) ?_
            refine Ops.nil ?_
            exact After.dn (Below.refl _ _) (by exact rfl)
          · intro e1 w1 hb hp hun
            refine Ops.rung rfl rfl rfl ?_
            refine Ops.ld_sl (hE6.top.later hb) rfl (by omega) rfl rfl ?_
            refine Ops.nil ?_
            exact After.dn (Below.refl _ _) (by exact rfl)
          · intro e1 w1 hb hp hun
            refine Ops.rung rfl rfl rfl ?_
            refine Ops.idx (hrow.later hb).2 rfl rfl rfl (by omega) (by omega) ?_
            refine Ops.nil ?_
            exact After.dn (Below.refl _ _) (by exact rfl)
          · intro e1 w1 hb hp hun
            refine Ops.rung rfl rfl rfl ?_
            refine Ops.ld_int (hrow.later hb) rfl (by omega) rfl rfl ?_
            refine Ops.nil ?_
            exact After.dn (Below.refl _ _) (by exact rfl)
          · intro e1 w1 hb hp hun
            refine Ops.rung rfl rfl rfl ?_
            refine Ops.idx (hP.later hb).2 rfl rfl rfl (by omega) (by omega) ?_
            refine Ops.nil ?_
            exact After.dn (Below.refl _ _) (by exact rfl)
          · intro e1 w1 hb hp hun
            refine Ops.rung rfl rfl rfl ?_
            refine Ops.ld_int (hP.later hb) rfl (by omega) rfl rfl ?_
            refine Ops.nil ?_
            exact After.dn (Below.refl _ _) (by exact rfl)
          · intro e1 w1 hb hp hun
            refine Ops.rung rfl rfl rfl ?_
            refine Ops.eql rfl rfl rfl ?_
            refine Ops.nil ?_
            exact After.dn (Below.refl _ _) (by exact rfl)
          · intro e1 w1 hb hp hun
            refine Ops.pick_f rfl rfl rfl ?_
            refine Ops.nil ?_
            exact After.dn (Below.refl _ _) (by exact rfl)
          intro u w7 hb7 _
          have hS7 := hS6.later hb7
          refine thenQ_n ?_
          -- stop: cond
          refine Cd.cond_p _ rfl (fun h4 => ?_) (fun h4 => ?_)
          · refine Cd.seq ?_
            refine Cd.region ?_
            refine Ops.mv_sl rfl rfl rfl ?_
            refine Ops.mv_int rfl rfl rfl ?_
            refine Ops.nil ?_
            refine thenQ_n ?_
            refine Cd.ret ?_
            refine blockQ_r ?_
            refine thenQ_r ?_
            refine thenQ_r ?_
            refine blockQ_r ?_
            refine thenQ_r ?_
            refine ret2_si rfl rfl ?_
            -- stop: end
            rw [hfinK, hfinL, if_pos (isbad (.inr h4)), if_pos (isbad (.inr h4))]
            exact AnsR.none (hSb.later hS7.below)
          · refine Cd.skip ?_
            refine blockQ_n ?_
            refine thenQ_n ?_
            refine Cd.region ?_
            refine Ops.mv_int rfl rfl rfl ?_
            refine Ops.add rfl rfl rfl (by omega) ?_
            refine Ops.mv_int rfl rfl rfl ?_
            refine Ops.nil ?_
            refine thenQ_n ?_
            -- stop: round
            refine ⟨ed + 1, by show m - (ed + 1) < m - ed; omega, ⟨rfl, rfl, rfl, trivial⟩, hS7, by omega, fun e' he' => ?_⟩
            by_cases ee : e' = ed
            · subst ee
              intro hb
              rcases hb with hb | hb
              · omega
              · exact h4 hb
            · exact hno e' (by omega)
      · refine Cd.exit ?_
        refine thenQ_x ?_
        refine thenQ_x ?_
        refine blockQ_x ?_
        refine thenQ_n ?_
        refine Cd.seq ?_
        refine Cd.region ?_
        refine Ops.mv_sl rfl rfl rfl ?_
        refine Ops.mv_sl rfl rfl rfl ?_
        refine Ops.mv_int rfl rfl rfl ?_
        refine Ops.nil ?_
        refine thenQ_n ?_
        refine Cd.ret ?_
        refine ret2_si rfl rfl ?_
        -- stop: end
        have hnb : ¬ ptBad xss := fun hb => by
          obtain ⟨e', he', hb'⟩ := hbad.1 hb
          exact hno e' (by omega) hb'
        rw [hfinK, hfinL, if_neg hnb, if_neg hnb]
        have := hSb.call hS6
        exact AnsR.mk (by omega) this
theorem implPartsOf_c (A : Option Addr) (n c : Nat) (rs : List SlV) (xss : List (List Int)) (w : World) (hR : RowsI w A n rs xss) (hn : n ≤ c) (hc : c ≤ 9223372036854775807) :
    Ret Try.prog 50 [.agg #[.slice A n c]] w (AnsR (ptL xss) (ptK xss) w) := by
  refine Ret.of_cd Try.func50 rfl Try.ntmps50 rfl (post2 rfl) ?_
  refine Cd.seq ?_
  refine Cd.region ?_
  -- stop: BOX 32 t0=m -> 1
  refine Ops.box1 (St.refl w) rfl rfl ?_
  intro Ab w1 hS1
  refine Ops.mv_sl rfl rfl rfl ?_
  refine Ops.mv_int rfl rfl rfl ?_
  refine Ops.nil ?_
  refine thenQ_n ?_
  refine Cd.seq ?_
  refine Cd.region ?_
  -- stop: LOAD 32 t1=m -> 11
  refine Ops.ld_agg 0 (hS1.rd 0 rfl) rfl rfl rfl ?_
  refine Ops.call (graphOf_c A n c rs xss none 0 0 [] _ (hS1.oldRows hR) hn hc RdI.nil (by omega)) rfl rfl rfl ?_
  rintro _ w3 ⟨A3, c3, rs3, rfl, hrl, hst3⟩
  have hS3 := hS1.later hst3.below
  rw [goK_nil] at *
  refine Ops.mv_tup rfl rfl rfl ?_
  refine Ops.extract rfl rfl rfl ?_
  refine Ops.extract rfl rfl rfl ?_
  refine Ops.mv_sl rfl rfl rfl ?_
  refine Ops.mv_int rfl rfl rfl ?_
  refine Ops.nil ?_
  refine thenQ_n ?_
  refine Cd.seq ?_
  refine Cd.seq ?_
  refine Cd.region ?_
  refine Ops.mv_int rfl rfl rfl ?_
  refine Ops.neq rfl rfl rfl ?_
  refine Ops.nil ?_
  refine thenQ_n ?_
  -- stop: cond
  refine Cd.cond_p _ rfl (fun h => ?_) (fun h => ?_)
  · have hnG : ¬ Grph xss := fun hG => h (by rw [petrieK, if_pos hG])
    refine Cd.seq ?_
    refine Cd.region ?_
    refine Ops.mv_int rfl rfl rfl ?_
    refine Ops.mv_sl rfl rfl rfl ?_
    refine Ops.mv_int rfl rfl rfl ?_
    refine Ops.nil ?_
    refine thenQ_n ?_
    refine Cd.ret ?_
    refine thenQ_r ?_
    refine ret2_si rfl rfl ?_
    -- stop: end
    rw [petrieK, if_neg hnG, ptK, if_pos hnG, ptL, if_neg (fun h2 => hnG h2.1)]
    exact AnsR.none hS3
  · have hG : Grph xss := by
      apply Classical.byContradiction
      intro hG
      exact h (by rw [petrieK, if_neg hG]; decide)
    have hM := hG.1
    have hg := nb_gr hM
    have hsm := nb_small hM
    have hvp := verts_pos hM
    have hdl := (dist_BF (wo := -1) (v := 0) hg (by omega) (by omega)).len
    have hpl := parts_len hM
    have hel := endsL_len xss
    have hmem : ∀ e : Nat, ∀ x ∈ gl (endsL xss) (e : Int), 0 ≤ x ∧ x < (vertsN xss : Int) := fun e => endsL_mem hM e (by omega)
    have hep := ends_pos hM
    have hfinK : ptK xss = if ptBad xss then 4 else 0 := by rw [ptK, if_neg (fun h => h hG)]
    have hfinL : ptL xss = if ptBad xss then [] else partsP xss := by
      unfold ptL
      by_cases hb : ptBad xss
      · rw [if_neg (fun h2 => h2.2 hb), if_pos hb]
      · rw [if_pos ⟨hG, hb⟩, if_neg hb]
    have hparts : partsP xss = p2L (distP (nbL xss) (-1) 0).1 := rfl
    have hbad : ptBad xss ↔ ∃ e, e < edgesN xss ∧ Bd (endsL xss) (partsP xss) e := Iff.rfl
    rw [goL_nil hG, nbL_len] at *
    have hN3 := hst3.rowsI (nbL_len xss)
    refine Cd.skip ?_
    refine thenQ_n ?_
    refine Cd.seq ?_
    refine Cd.region ?_
    refine Ops.mv_sl rfl rfl rfl ?_
    -- stop: CALL impl.graphDistances(t18, 0) -> 19
    refine Ops.call (graphDistances_c A3 _ _ rs3 (nbL xss) 0 _ hN3 hg (by omega) (by omega)) rfl rfl rfl ?_
    rintro _ w4 ⟨A15, rfl, hst4⟩
    have hS4' := hS3.none.call hst4
    rw [List.append_nil] at hS4'
    generalize hv : vertsN xss = N at *
    generalize hdd : (distP (nbL xss) (-1) 0).1 = dl at *
    refine Ops.mv_sl rfl rfl rfl ?_
    refine Ops.nil ?_
    refine thenQ_n ?_
    refine Cd.seq ?_
    refine Cd.seq ?_
    refine Cd.region ?_
    refine Ops.mv_sl rfl rfl rfl ?_
    refine Ops.len rfl rfl ?_
    refine Ops.mv_int rfl rfl rfl ?_
    refine Ops.nil ?_
    refine thenQ_n ?_
    refine Cd.block ?_
    -- stop: loop
    refine Cd.loop (α := Nat) (fun v => [(1, .pointer Ab), (6, .slice A15 N N), (21, .int .i64 (N : Int)), (22, .int .i64 (v : Int))]) (fun v w' => St w3 w' [CkI 2 A15 N N (mixP dl v)] ∧ v ≤ N) (fun v => N - v) 0 ⟨rfl, rfl, rfl, rfl, trivial⟩ ⟨by rw [mixP_zero]; exact hst4, Nat.zero_le _⟩ ?_
    rintro v e w4 ⟨hS4, hv4⟩
    have hml := mixP_len dl v
    have hO := hS4.rdI 0 rfl
    refine Cd.seq ?_
    refine Cd.region ?_
    refine Ops.lss rfl rfl rfl ?_
    refine Ops.nil ?_
    refine thenQ_n ?_
    refine Cd.seq ?_
    -- stop: cond
    refine Cd.cond_p _ rfl (fun h1 => ?_) (fun h1 => ?_)
    · refine Cd.skip ?_
      refine thenQ_n ?_
      refine Cd.seq ?_
      refine Cd.block ?_
      refine Cd.seq ?_
      refine Cd.region ?_
      refine Ops.mv_int rfl rfl rfl ?_
      refine Ops.mv_int rfl rfl rfl ?_
      refine Ops.nil ?_
      refine thenQ_n ?_
      refine Cd.region ?_
      refine Ops.mv_sl rfl rfl rfl ?_
      refine Ops.mv_int rfl rfl rfl ?_
      -- stop: INDEXADDR 39 t25 t26 -> 27
      refine Ops.idx hO.2 rfl rfl rfl (by omega) (by omega) ?_
      refine Ops.ld_int hO rfl (by omega) rfl rfl ?_
      rw [mixP_get (by omega)]
      refine Ops.remT rfl rfl rfl (by omega) ?_
      refine Ops.idx hO.2 rfl rfl rfl (by omega) (by omega) ?_
      refine Ops.st_int 0 hS4 rfl rfl rfl (by omega) ?_
      intro w5 hS5
      refine Ops.nil ?_
      refine blockQ_n ?_
      refine thenQ_n ?_
      refine Cd.region ?_
      refine Ops.add rfl rfl rfl (by omega) ?_
      refine Ops.mv_int rfl rfl rfl ?_
      refine Ops.nil ?_
      refine thenQ_n ?_
      -- stop: round
      exact ⟨v + 1, by show N - (v + 1) < N - v; omega, ⟨rfl, rfl, rfl, rfl, trivial⟩, by rw [← mixP_step (by omega)]; exact hS5, by omega⟩
    · have hvN : v = N := by omega
      have hall : mixP dl v = partsP xss := by rw [hvN, show N = dl.length by omega, mixP_all, hparts]
      rw [hall] at hS4
      have hS4w := (hS3.later hS4.below)
      refine Cd.exit ?_
      refine thenQ_x ?_
      refine thenQ_x ?_
      refine blockQ_x ?_
      refine thenQ_n ?_
      refine Cd.seq ?_
      refine Cd.seq ?_
      refine Cd.region ?_
      -- stop: LOAD 32 t1=m -> 32
      refine Ops.ld_agg 0 (hS4w.rd 0 rfl) rfl rfl rfl ?_
      refine Ops.call (endsOf_c A n c rs xss _ (hS4w.oldRows hR) hG) rfl rfl rfl ?_
      rintro _ w6 ⟨A12, rs12, rfl, hrl2, hst6⟩
      have hE := hst6.rowsI hel
      have hP6 := hS3.none.call (hS4.call hst6 |>.sub (List.sublist_append_right _ _))
      have hPr := (hS4.later hst6.below).rdI 0 rfl
      rw [List.append_nil] at hP6
      generalize hm : edgesN xss = m at *
      generalize hEn : endsL xss = En at *
      generalize hpt : partsP xss = parts at *
      refine Ops.len rfl rfl ?_
      refine Ops.mv_int rfl rfl rfl ?_
      refine Ops.nil ?_
      refine thenQ_n ?_
      refine Cd.block ?_
      -- stop: loop
      refine Cd.loop (α := Nat) (fun e => [(6, .slice A15 N N), (33, .slice A12 m m), (34, .int .i64 (m : Int)), (35, .int .i64 (e : Int))]) (fun e w' => St w6 w' [] ∧ e ≤ m ∧ ∀ e', e' < e → ¬ Bd En parts e') (fun e => m - e) 0 ⟨rfl, rfl, rfl, rfl, trivial⟩ ⟨St.refl w6, Nat.zero_le _, fun e' he' => by omega⟩ ?_
      rintro ed e w7 ⟨hS7, hed, hno⟩
      have hP := hS7.oldI hPr
      have hE7 := hS7.oldRows hE
      refine Cd.seq ?_
      refine Cd.region ?_
      refine Ops.lss rfl rfl rfl ?_
      refine Ops.nil ?_
      refine thenQ_n ?_
      refine Cd.seq ?_
      -- stop: cond
      refine Cd.cond_p _ rfl (fun h2 => ?_) (fun h2 => ?_)
      · have hed' : ed < m := by omega
        have hrow := hE7.at_ (i := (ed : Int)) (by omega) h2
        have hrn := hE7.rowLen (k := (ed : Int)) (by omega) h2
        have hp := hep ed hed'
        have isbad : Bd En parts ed → ptBad xss := fun h => hbad.2 ⟨ed, hed', h⟩
        refine Cd.skip ?_
        refine thenQ_n ?_
        refine Cd.seq ?_
        refine Cd.block ?_
        refine Cd.seq ?_
        refine Cd.region ?_
        -- stop: INDEXADDR 25 t33 t35 -> 37
        refine Ops.idx hE7.top.2 rfl rfl rfl (by omega) (by omega) ?_
        refine Ops.ld_sl hE7.top rfl (by omega) rfl rfl ?_
        by_cases h3 : ((rg rs12 (ed : Int)).n : Int) = 1 --dup 2
        · refine Ops.mv_sl rfl rfl rfl ?_
          refine Ops.nil ?_
          refine thenQ_n ?_
          refine Cd.seq ?_
          -- stop: draw
          refine Cd.draw [.ex (.slice ((rg rs12 (ed : Int)).a) ((rg rs12 (ed : Int)).n) ((rg rs12 (ed : Int)).c)), .ex (.int .i64 ((((rg rs12 (ed : Int)).n : Nat) : Int))), .ex (.bool (decide (((((rg rs12 (ed : Int)).n : Nat) : Int)) = ((1 : Int))))), .ex (.bool (true)), .ex (undef), .ex (undef), .ex (undef), .ex (undef), .ex (undef), .ex (undef), .ex (undef), .ex (undef), .ex (undef), .ex (undef), .ex (undef), .ex (undef), .ex (undef), .ex (.bool (true))] (by kernel_rfl) (by kernel_rfl) rfl (List.forall_mem_cons.2 ⟨Yd.lasts_ex _, (List.forall_mem_cons.2 ⟨Yd.lasts_ex _, (List.forall_mem_cons.2 ⟨Yd.lasts_ex _, (List.forall_mem_cons.2 ⟨Yd.lasts_ex _, (List.forall_mem_cons.2 ⟨Yd.lasts_ex _, (List.forall_mem_cons.2 ⟨Yd.lasts_ex _, (List.forall_mem_cons.2 ⟨Yd.lasts_ex _, (List.forall_mem_cons.2 ⟨Yd.lasts_ex _, (List.forall_mem_cons.2 ⟨Yd.lasts_ex _, (List.forall_mem_cons.2 ⟨Yd.lasts_ex _, (List.forall_mem_cons.2 ⟨Yd.lasts_ex _, (List.forall_mem_cons.2 ⟨Yd.lasts_ex _, (List.forall_mem_cons.2 ⟨Yd.lasts_ex _, (List.forall_mem_cons.2 ⟨Yd.lasts_ex _, (List.forall_mem_cons.2 ⟨Yd.lasts_ex _, (List.forall_mem_cons.2 ⟨Yd.lasts_ex _, (List.forall_mem_cons.2 ⟨Yd.lasts_ex _, (List.forall_mem_cons.2 ⟨Yd.lasts_ex _, (fun _ h => by cases h)⟩)⟩)⟩)⟩)⟩)⟩)⟩)⟩)⟩)⟩)⟩)⟩)⟩)⟩)⟩)⟩)⟩)⟩) ⟨?_, ?_, ?_, ?_, ?_, ?_, ?_, ?_, ?_, ?_, ?_, ?_, ?_, ?_, ?_, ?_, ?_, ?_, trivial⟩ ?_
          · intro e1 w1 hb hp hun
            refine Ops.mv_sl rfl rfl rfl ?_
            refine Ops.nil ?_
            exact After.dn (Below.refl _ _) (by exact rfl)
          · intro e1 w1 hb hp hun
            refine Ops.len rfl rfl ?_
            refine Ops.nil ?_
            exact After.dn (Below.refl _ _) (by exact rfl)
          · intro e1 w1 hb hp hun
            refine Ops.eql rfl rfl rfl ?_
            refine Ops.nil ?_
            exact After.dn (Below.refl _ _) (by exact rfl)
          · intro e1 w1 hb hp hun
            refine Ops.mv_bool rfl rfl rfl ?_
            refine Ops.nil ?_
            exact After.dn (Below.refl _ _) (by exact congrArg Value.bool (decide_eq_true h3))
          · intro e1 w1 hb hp hun
            refine Ops.skipg rfl rfl rfl rfl rfl ?_
            refine Ops.nil ?_
            exact After.dn (Below.refl _ _) (by exact rfl)
          · intro e1 w1 hb hp hun
            refine Ops.skipg rfl rfl rfl rfl rfl ?_
            refine Ops.nil ?_
            exact After.dn (Below.refl _ _) (by exact rfl)
          · intro e1 w1 hb hp hun
            refine Ops.skipg rfl rfl rfl rfl rfl ?_
            refine Ops.nil ?_
            exact After.dn (Below.refl _ _) (by exact rfl)
          · intro e1 w1 hb hp hun
            refine Ops.skipg rfl rfl rfl rfl rfl ?_
            refine Ops.nil ?_
            exact After.dn (Below.refl _ _) (by exact rfl)
          · intro e1 w1 hb hp hun
            refine Ops.skipg rfl rfl rfl rfl rfl ?_
            refine Ops.nil ?_
            exact After.dn (Below.refl _ _) (by exact rfl)
          · intro e1 w1 hb hp hun
            refine Ops.skipg rfl rfl rfl rfl rfl ?_
            refine Ops.nil ?_
            exact After.dn (Below.refl _ _) (by exact rfl)
          · intro e1 w1 hb hp hun
            refine Ops.skipg rfl rfl rfl rfl rfl ?_
            refine Ops.nil ?_
            exact After.dn (Below.refl _ _) (by exact rfl)
          · intro e1 w1 hb hp hun
            refine Ops.skipg rfl rfl rfl rfl rfl ?_
            refine Ops.nil ?_
            exact After.dn (Below.refl _ _) (by exact rfl)
          · intro e1 w1 hb hp hun
            refine Ops.skipg rfl rfl rfl rfl rfl ?_
            refine Ops.nil ?_
            exact After.dn (Below.refl _ _) (by exact rfl)
          · intro e1 w1 hb hp hun
            refine Ops.skipg rfl rfl rfl rfl rfl ?_
            refine Ops.nil ?_
            exact After.dn (Below.refl _ _) (by exact rfl)
          · intro e1 w1 hb hp hun
            refine Ops.skipg rfl rfl rfl rfl rfl ?_
            refine Ops.nil ?_
            exact After.dn (Below.refl _ _) (by exact rfl)
          · intro e1 w1 hb hp hun
            refine Ops.skipg rfl rfl rfl rfl rfl ?_
            refine Ops.nil ?_
            exact After.dn (Below.refl _ _) (by exact rfl)
          · intro e1 w1 hb hp hun
            refine Ops.skipg rfl rfl rfl rfl rfl ?_
            refine Ops.nil ?_
            exact After.dn (Below.refl _ _) (by exact rfl)
          · intro e1 w1 hb hp hun
            refine Ops.pick_t rfl rfl rfl ?_
            refine Ops.nil ?_
            exact After.dn (Below.refl _ _) (by exact rfl)
          intro u w8 hb8 _
          have hS8 := hS7.later hb8
          refine thenQ_n ?_
          -- stop: cond
          refine Cd.cond_t rfl ?_
          refine Cd.seq ?_
          refine Cd.region ?_
          refine Ops.mv_sl rfl rfl rfl ?_
          refine Ops.mv_int rfl rfl rfl ?_
          refine Ops.nil ?_
          refine thenQ_n ?_
          refine Cd.ret ?_
          refine blockQ_r ?_
          refine thenQ_r ?_
          refine thenQ_r ?_
          refine blockQ_r ?_
          refine thenQ_r ?_
          refine ret2_si rfl rfl ?_
          -- stop: end
          rw [hfinK, hfinL, if_pos (isbad (.inl (by omega))), if_pos (isbad (.inl (by omega)))]
          exact AnsR.none (hP6.later hS8.below)
        · have hx0 := hmem ed (gi (gl En (ed : Int)) 0) (by rw [show (0 : Int) = ((0 : Nat) : Int) from rfl, gi_mem (by omega)]; exact List.getElem_mem _)
          have hx1 := hmem ed (gi (gl En (ed : Int)) 1) (by rw [show (1 : Int) = ((1 : Nat) : Int) from rfl, gi_mem (by omega)]; exact List.getElem_mem _)
          refine Ops.mv_sl rfl rfl rfl ?_
          refine Ops.nil ?_
          refine thenQ_n ?_
          refine Cd.seq ?_
          -- stop: draw
          refine Cd.draw [.ex (.slice ((rg rs12 (ed : Int)).a) ((rg rs12 (ed : Int)).n) ((rg rs12 (ed : Int)).c)), .ex (.int .i64 ((((rg rs12 (ed : Int)).n : Nat) : Int))), .ex (.bool (decide (((((rg rs12 (ed : Int)).n : Nat) : Int)) = ((1 : Int))))), .ex (.bool (false)), .ex (.slice (A15) (N) (N)), .ex (.slice ((rg rs12 (ed : Int)).a) ((rg rs12 (ed : Int)).n) ((rg rs12 (ed : Int)).c)), .ex (.pointer (ptrAt ((rg rs12 (ed : Int)).a) ((0 : Int)).toNat)), .ex (.int .i64 (gi (gl En (ed : Int)) ((0 : Int)))), .ex (.pointer (ptrAt (A15) (gi (gl En (ed : Int)) ((0 : Int))).toNat)), .ex (.int .i64 (gi (parts) (gi (gl En (ed : Int)) ((0 : Int))))), .ex (.slice (A15) (N) (N)), .ex (.slice ((rg rs12 (ed : Int)).a) ((rg rs12 (ed : Int)).n) ((rg rs12 (ed : Int)).c)), .ex (.pointer (ptrAt ((rg rs12 (ed : Int)).a) ((1 : Int)).toNat)), .ex (.int .i64 (gi (gl En (ed : Int)) ((1 : Int)))), .ex (.pointer (ptrAt (A15) (gi (gl En (ed : Int)) ((1 : Int))).toNat)), .ex (.int .i64 (gi (parts) (gi (gl En (ed : Int)) ((1 : Int))))), .ex (.bool (decide ((gi (parts) (gi (gl En (ed : Int)) ((0 : Int)))) = (gi (parts) (gi (gl En (ed : Int)) ((1 : Int))))))), .ex (.bool (decide ((gi (parts) (gi (gl En (ed : Int)) ((0 : Int)))) = (gi (parts) (gi (gl En (ed : Int)) ((1 : Int)))))))] (by kernel_rfl) (by kernel_rfl) rfl (List.forall_mem_cons.2 ⟨Yd.lasts_ex _, (List.forall_mem_cons.2 ⟨Yd.lasts_ex _, (List.forall_mem_cons.2 ⟨Yd.lasts_ex _, (List.forall_mem_cons.2 ⟨Yd.lasts_ex _, (List.forall_mem_cons.2 ⟨Yd.lasts_ex _, (List.forall_mem_cons.2 ⟨Yd.lasts_ex _, (List.forall_mem_cons.2 ⟨Yd.lasts_ex _, (List.forall_mem_cons.2 ⟨Yd.lasts_ex _, (List.forall_mem_cons.2 ⟨Yd.lasts_ex _, (List.forall_mem_cons.2 ⟨Yd.lasts_ex _, (List.forall_mem_cons.2 ⟨Yd.lasts_ex _, (List.forall_mem_cons.2 ⟨Yd.lasts_ex _, (List.forall_mem_cons.2 ⟨Yd.lasts_ex _, (List.forall_mem_cons.2 ⟨Yd.lasts_ex _, (List.forall_mem_cons.2 ⟨Yd.lasts_ex _, (List.forall_mem_cons.2 ⟨Yd.lasts_ex _, (List.forall_mem_cons.2 ⟨Yd.lasts_ex _, (List.forall_mem_cons.2 ⟨Yd.lasts_ex _, (fun _ h => by cases h)⟩)⟩)⟩)⟩)⟩)⟩)⟩)⟩)⟩)⟩)⟩)⟩)⟩)⟩)⟩)⟩)⟩)⟩) ⟨?_, ?_, ?_, ?_, ?_, ?_, ?_, ?_, ?_, ?_, ?_, ?_, ?_, ?_, ?_, ?_, ?_, ?_, trivial⟩ ?_
          · intro e1 w1 hb hp hun
            refine Ops.mv_sl rfl rfl rfl ?_
            refine Ops.nil ?_
            exact After.dn (Below.refl _ _) (by exact rfl)
          · intro e1 w1 hb hp hun
            refine Ops.len rfl rfl ?_
            refine Ops.nil ?_
            exact After.dn (Below.refl _ _) (by exact rfl)
          · intro e1 w1 hb hp hun
            refine Ops.eql rfl rfl rfl ?_
            refine Ops.nil ?_
            exact After.dn (Below.refl _ _) (by exact rfl)
          · intro e1 w1 hb hp hun
            refine Ops.mv_bool rfl rfl rfl ?_
            refine Ops.nil ?_
            exact After.dn (Below.refl _ _) (by exact congrArg Value.bool (decide_eq_false h3))
          · intro e1 w1 hb hp hun
            refine Ops.rung rfl rfl rfl ?_
            refine Ops.mv_sl rfl rfl rfl ?_
            refine Ops.nil ?_
            exact After.dn (Below.refl _ _) (by exact rfl)
          · intro e1 w1 hb hp hun
            refine Ops.rung rfl rfl rfl ?_
            refine Ops.mv_sl rfl rfl rfl ?_
            refine Ops.nil ?_
            exact After.dn (Below.refl _ _) (by exact rfl)
          · intro e1 w1 hb hp hun
            refine Ops.rung rfl rfl rfl ?_
            refine Ops.idx (hrow.later hb).2 rfl rfl rfl (by omega) (by omega) ?_
            refine Ops.nil ?_
            exact After.dn (Below.refl _ _) (by exact rfl)
          · intro e1 w1 hb hp hun
            refine Ops.rung rfl rfl rfl ?_
            refine Ops.ld_int (hrow.later hb) rfl (by omega) rfl rfl ?_
            refine Ops.nil ?_
            exact After.dn (Below.refl _ _) (by exact rfl)
          · intro e1 w1 hb hp hun
            refine Ops.rung rfl rfl rfl ?_
            refine Ops.idx (hP.later hb).2 rfl rfl rfl (by omega) (by omega) ?_
            refine Ops.nil ?_
            exact After.dn (Below.refl _ _) (by exact rfl)
          · intro e1 w1 hb hp hun
            refine Ops.rung rfl rfl rfl ?_
            refine Ops.ld_int (hP.later hb) rfl (by omega) rfl rfl ?_
            refine Ops.nil ?_
            exact After.dn (Below.refl _ _) (by exact rfl)
          · intro e1 w1 hb hp hun
            refine Ops.rung rfl rfl rfl ?_
            refine Ops.mv_sl rfl rfl rfl ?_
            refine Ops.nil ?_
            exact After.dn (Below.refl _ _) (by exact rfl)
          · intro e1 w1 hb hp hun
            refine Ops.rung rfl rfl rfl ?_
            refine Ops.mv_sl rfl rfl rfl ?_
            refine Ops.nil ?_
            exact After.dn (Below.refl _ _) (by exact rfl)
          · intro e1 w1 hb hp hun
            refine Ops.rung rfl rfl rfl ?_
            refine Ops.idx (hrow.later hb).2 rfl rfl rfl (by omega) (by omega) ?_
            refine Ops.nil ?_
            exact After.dn (Below.refl _ _) (by exact rfl)
          · intro e1 w1 hb hp hun
            refine Ops.rung rfl rfl rfl ?_
            refine Ops.ld_int (hrow.later hb) rfl (by omega) rfl rfl ?_
            refine Ops.nil ?_
            exact After.dn (Below.refl _ _) (by exact rfl)
          · intro e1 w1 hb hp hun
            refine Ops.rung rfl rfl rfl ?_
            refine Ops.idx (hP.later hb).2 rfl rfl rfl (by omega) (by omega) ?_
            refine Ops.nil ?_
            exact After.dn (Below.refl _ _) (by exact rfl)
          · intro e1 w1 hb hp hun
            refine Ops.rung rfl rfl rfl ?_
            refine Ops.ld_int (hP.later hb) rfl (by omega) rfl rfl ?_
            refine Ops.nil ?_
            exact After.dn (Below.refl _ _) (by exact rfl)
          · intro e1 w1 hb hp hun
            refine Ops.rung rfl rfl rfl ?_
            refine Ops.eql rfl rfl rfl ?_
            refine Ops.nil ?_
            exact After.dn (Below.refl _ _) (by exact rfl)
          · intro e1 w1 hb hp hun
            refine Ops.pick_f rfl rfl rfl ?_
            refine Ops.nil ?_
            exact After.dn (Below.refl _ _) (by exact rfl)
          intro u w8 hb8 _
          have hS8 := hS7.later hb8
          refine thenQ_n ?_
          -- stop: cond
          refine Cd.cond_p _ rfl (fun h4 => ?_) (fun h4 => ?_)
          · refine Cd.seq ?_
            refine Cd.region ?_
            refine Ops.mv_sl rfl rfl rfl ?_
            refine Ops.mv_int rfl rfl rfl ?_
            refine Ops.nil ?_
            refine thenQ_n ?_
            refine Cd.ret ?_
            refine blockQ_r ?_
            refine thenQ_r ?_
            refine thenQ_r ?_
            refine blockQ_r ?_
            refine thenQ_r ?_
            refine ret2_si rfl rfl ?_
            -- stop: end
            rw [hfinK, hfinL, if_pos (isbad (.inr h4)), if_pos (isbad (.inr h4))]
            exact AnsR.none (hP6.later hS8.below)
          · refine Cd.skip ?_
            refine blockQ_n ?_
            refine thenQ_n ?_
            refine Cd.region ?_
            refine Ops.add rfl rfl rfl (by omega) ?_
            refine Ops.mv_int rfl rfl rfl ?_
            refine Ops.nil ?_
            refine thenQ_n ?_
            -- stop: round
            refine ⟨ed + 1, by show m - (ed + 1) < m - ed; omega, ⟨rfl, rfl, rfl, rfl, trivial⟩, hS8, by omega, fun e' he' => ?_⟩
            by_cases ee : e' = ed
            · subst ee
              intro hb
              rcases hb with hb | hb
              · omega
              · exact h4 hb
            · exact hno e' (by omega)
      · refine Cd.exit ?_
        refine thenQ_x ?_
        refine thenQ_x ?_
        refine blockQ_x ?_
        refine thenQ_n ?_
        refine Cd.seq ?_
        refine Cd.region ?_
        refine Ops.mv_sl rfl rfl rfl ?_
        refine Ops.mv_sl rfl rfl rfl ?_
        refine Ops.mv_int rfl rfl rfl ?_
        refine Ops.nil ?_
        refine thenQ_n ?_
        refine Cd.ret ?_
        refine ret2_si rfl rfl ?_
        -- stop: end
        have hnb : ¬ ptBad xss := fun hb => by
          obtain ⟨e', he', hb'⟩ := hbad.1 hb
          exact hno e' (by omega) hb'
        rw [hfinK, hfinL, if_neg hnb, if_neg hnb]
        exact AnsR.mk (by omega) (hP6.later hS7.below)
end Go.Proofs.Ytpdhjnacnmfbjaa.Vc
/-
  The walk of the law FnExactPartsOf: it returns true. Conditions: as it states them.
-/
namespace Go.Proofs.Ytpdhjnacnmfbjaa.Vc
open Go.RowKit

theorem FnExactPartsOf_c (A : Option Addr) (n c : Nat) (rs : List SlV) (xss : List (List Int)) (w : World) (hR : RowsI w A n rs xss) (hn : n ≤ 9223372036854775807) :
    Ret Try.prog 13 [.agg #[.slice A n c]] w (fun v w' => v = .bool true ∧ St w w' []) := by
  have hxl := hR.len
  refine Ret.of_cd Try.func13 rfl Try.ntmps13 rfl (post1 rfl) ?_
  refine Cd.seq ?_
  refine Cd.region ?_
  -- stop: BOX 27 t0=app -> 1
  refine Ops.box1 (St.refl w) rfl rfl ?_
  intro Ab w1 hS
  refine Ops.mv_bool rfl rfl rfl ?_
  refine Ops.nil ?_
  refine thenQ_n ?_
  refine Cd.seq ?_
  refine Cd.region ?_
  refine Ops.mv_int rfl rfl rfl ?_
  refine Ops.nil ?_
  refine thenQ_n ?_
  refine Cd.seq ?_
  refine Cd.region ?_
  -- stop: LOAD 27 t1=toArray -> 14
  refine Ops.ld_agg 0 (hS.rd 0 rfl) rfl rfl rfl ?_
  refine Ops.mv_int rfl rfl rfl ?_
  -- stop: CALL laws.szManiplex(t14, t15) -> 16
  refine Ops.call (szManiplex_c A n c rs xss 1048576 _ (hS.oldRows hR) hn (by omega)) rfl rfl rfl ?_
  rintro _ w2 ⟨rfl, hst⟩
  have hS := hS.later hst.below
  refine Ops.mv_int rfl rfl rfl ?_
  refine Ops.nil ?_
  refine thenQ_n ?_
  refine Cd.seq ?_
  refine Cd.seq ?_
  refine Cd.region ?_
  refine Ops.mv_int rfl rfl rfl ?_
  refine Ops.lss rfl rfl rfl ?_
  refine Ops.nil ?_
  refine thenQ_n ?_
  -- stop: cond
  refine Cd.cond_p _ rfl (fun h1 => ?_) (fun h1 => ?_)
  · refine Cd.seq ?_
    refine Cd.region ?_
    refine Ops.mv_bool rfl rfl rfl ?_
    refine Ops.nil ?_
    refine thenQ_n ?_
    refine Cd.ret ?_
    refine thenQ_r ?_
    refine ret1_b rfl ?_
    -- stop: end
    exact ⟨rfl, hS.none⟩
  have hsm := small_of hR.top.1 (Int.not_lt.1 h1)
  have hfit := fits_of hR.top.1 (by omega) (Int.not_lt.1 h1)
  refine Cd.skip ?_
  refine thenQ_n ?_
  refine Cd.seq ?_
  refine Cd.region ?_
  -- stop: LOAD 27 t1=toArray -> 20
  refine Ops.ld_agg 0 (hS.rd 0 rfl) rfl rfl rfl ?_
  refine Ops.call (toManiplex_c A n c rs xss _ (hS.oldRows hR) hfit) rfl rfl rfl ?_
  rintro _ w3 ⟨A1, rs1, rfl, hrl1, hst1⟩
  refine Ops.call (specPartsOf_c A1 n n rs1 xss _ (St.rowsI (ks := []) (by rwa [List.append_nil]) hxl) hn) rfl rfl rfl ?_
  rintro _ w4 ⟨A4, c4, rfl, hst2⟩
  have hS4 := ((hS.later hst1.below).call hst2)
  refine Ops.mv_tup rfl rfl rfl ?_
  refine Ops.extract rfl rfl rfl ?_
  refine Ops.extract rfl rfl rfl ?_
  refine Ops.mv_sl rfl rfl rfl ?_
  refine Ops.mv_int rfl rfl rfl ?_
  refine Ops.nil ?_
  refine thenQ_n ?_
  refine Cd.seq ?_
  refine Cd.region ?_
  -- stop: LOAD 27 t1=toArray -> 25
  refine Ops.ld_agg 0 (hS4.rd 1 rfl) rfl rfl rfl ?_
  refine Ops.call (toManiplex_c A n c rs xss _ (hS4.oldRows hR) hfit) rfl rfl rfl ?_
  rintro _ w5 ⟨A2, rs2, rfl, hrl2, hst3⟩
  have hS5 := hS4.call2 hst3
  refine Ops.new1 hS5 rfl ?_
  intro A6 w6 hS6
  refine Ops.st_agg 1 0 hS6 rfl rfl rfl rfl rfl rfl rfl ?_
  intro w7 hS7
  have hS7 : St w w7 ([Bx 32 1 A6 [.slice A2 n n], CkI 2 A4 (ptL xss).length c4 (ptL xss), Bx 27 1 Ab [.slice A n c]] ++ mat 39 2 A2 n n rs2 xss) := hS7
  refine Ops.nil ?_
  refine thenQ_n ?_
  refine Cd.seq ?_
  refine Cd.region ?_
  -- stop: LOAD 32 t6 -> 28
  refine Ops.ld_agg 0 (hS7.rd 0 rfl) rfl rfl rfl ?_
  refine Ops.call (implPartsOf_c A2 n n rs2 xss _ ((hS7.matNil.sub (List.sublist_append_right _ _)).rowsI hxl) (Nat.le_refl _) hn) rfl rfl rfl ?_
  rintro _ w8 ⟨A7, c7, rfl, hst4⟩
  have hS8 : St w w8 ([CkI 2 A7 (ptL xss).length c7 (ptL xss), Bx 32 1 A6 [.slice A2 n n], CkI 2 A4 (ptL xss).length c4 (ptL xss), Bx 27 1 Ab [.slice A n c]] ++ (mat 39 2 A2 n n rs2 xss ++ [])) := (hS7.call hst4).matNil (pre := [_, _, _, _])
  have hcap7 := hS8.cap 0 rfl
  have hL : (ptL xss).length ≤ 1000 := by
    exact pt_bd xss
  generalize hLe : ptL xss = L at *
  generalize hKe : ptK xss = K at *
  refine Ops.mv_tup rfl rfl rfl ?_
  refine Ops.extract rfl rfl rfl ?_
  refine Ops.extract rfl rfl rfl ?_
  refine Ops.mv_sl rfl rfl rfl ?_
  refine Ops.mv_int rfl rfl rfl ?_
  refine Ops.nil ?_
  refine thenQ_n ?_
  refine Cd.seq ?_
  refine Cd.seq ?_
  refine Cd.region ?_
  refine Ops.mv_sl rfl rfl rfl ?_
  refine Ops.mv_sl rfl rfl rfl ?_
  -- stop: CALL laws.eqInt64S(t32, t33) -> 34
  refine Ops.call (eqInt64S_c A7 _ c7 L A4 _ c4 L _ (hS8.rdI 0 rfl) (hS8.rdI 2 rfl) (by omega)) rfl rfl rfl ?_
  rintro _ w9 ⟨rfl, hst5⟩
  have hS9 := hS8.later hst5.below
  first | refine Ops.not_p rfl rfl ?_ | refine Ops.not rfl rfl ?_
  refine Ops.mv_bool rfl rfl rfl ?_
  -- stop: guard 36
  refine Ops.split_p 36 rfl (fun h => absurd rfl h) (fun _ => ?_) --f
  refine Ops.rung rfl rfl rfl ?_
  refine Ops.mv_int rfl rfl rfl ?_
  refine Ops.rung rfl rfl rfl ?_
  refine Ops.mv_int rfl rfl rfl ?_
  refine Ops.rung rfl rfl rfl ?_
  refine Ops.neq rfl rfl rfl ?_
  refine Ops.pick_f rfl rfl rfl ?_
  refine Ops.nil ?_
  refine thenQ_n ?_
  -- stop: cond
  refine Cd.cond_pf rfl (fun h => h rfl) ?_
  refine Cd.skip ?_
  refine thenQ_n ?_
  refine Cd.seq ?_
  refine Cd.seq ?_
  -- stop: draw
  have hM9 := (hS9.sub (List.sublist_append_right _ _)).rowsI hxl
  have hR9 := hS9.oldRows hR
  refine Cd.draw [.ex (.agg #[.slice (A2) (n) (n)]), .ex (.agg #[.slice (A) (n) (c)]), .pr (fun v w' => ∃ D rd, v = .agg #[.slice D n n] ∧ RowsI w' D n rd xss), .ex (.bool (true)), .ex (.bool (false))] (by kernel_rfl) (by kernel_rfl) rfl (List.forall_mem_cons.2 ⟨Yd.lasts_ex _, (List.forall_mem_cons.2 ⟨Yd.lasts_ex _, (List.forall_mem_cons.2 ⟨Yd.lasts_pr (fun v w w' h hb => by obtain ⟨D, rd, hv, h1⟩ := h; exact ⟨D, rd, hv, h1.later hb⟩), (List.forall_mem_cons.2 ⟨Yd.lasts_ex _, (List.forall_mem_cons.2 ⟨Yd.lasts_ex _, (fun _ h => by cases h)⟩)⟩)⟩)⟩)⟩) ⟨?_, ?_, ?_, ?_, ?_, trivial⟩ ?_
  · intro e1 w1 hb hp hun
    refine Ops.ld_agg 0 ((hS9.rd 1 rfl).below hb) rfl rfl rfl ?_
    refine Ops.nil ?_
    exact After.dn (Below.refl _ _) (by exact rfl)
  · intro e1 w1 hb hp hun
    refine Ops.ld_agg 0 ((hS9.rd 3 rfl).below hb) rfl rfl rfl ?_
    refine Ops.nil ?_
    exact After.dn (Below.refl _ _) (by exact rfl)
  · intro e1 w1 hb hp hun
    refine Ops.call (toManiplex_c A n c rs xss _ (hR9.later hb) hfit) rfl rfl rfl ?_
    rintro _ w2 ⟨D, rd, rfl, hrd, hst⟩
    refine Ops.nil ?_
    exact After.dn hst.below ⟨D, rd, rfl, St.rowsI (ks := []) (by rwa [List.append_nil]) hxl⟩
  · intro e1 w1 hb hp hun
    obtain ⟨D, rd, h43, h1⟩ := (hp 2 (by decide) rfl _ _ rfl rfl)
    refine Ops.call (eqManiplex_c A2 n n rs2 xss D n n rd xss _ (hM9.later hb) h1 hn) rfl (by exact congrArg (fun v => [Value.agg #[.slice A2 n n], v]) h43) rfl ?_
    rintro _ w2 ⟨rfl, hst⟩
    refine Ops.nil ?_
    exact After.dn hst.below (by exact congrArg Value.bool (decide_eq_true rfl))
  · intro e1 w1 hb hp hun
    refine Ops.not rfl rfl ?_
    refine Ops.nil ?_
    exact After.dn (Below.refl _ _) (by exact congrArg Value.bool (rfl))
  intro u w10 hb10 _
  have hS10 := hS9.later hb10
  refine thenQ_n ?_
  -- stop: cond
  refine Cd.cond_f rfl ?_
  refine Cd.skip ?_
  refine thenQ_n ?_
  refine Cd.seq ?_
  refine Cd.region ?_
  refine Ops.mv_int rfl rfl rfl ?_
  refine Ops.nil ?_
  refine thenQ_n ?_
  refine Cd.seq ?_
  refine Cd.region ?_
  -- stop: LOAD 32 t6 -> 46
  refine Ops.ld_agg 0 (hS10.rd 1 rfl) rfl rfl rfl ?_
  refine Ops.mv_int rfl rfl rfl ?_
  -- stop: CALL laws.markManiplex(t46, t47) -> 48
  refine Ops.call (markManiplex_c (rs := rs2) 1 hS10 hrl2 hxl hsm.1 (fun i hi => ?_) (by omega)) rfl rfl rfl ?_
  · have := (hM9.row i hi).1
    have h2 := (hR.row i hi).1
    have h3 := hsm.2 i hi
    omega
  rintro _ w11 ⟨K1, ys, rfl, hK1, hyl, hS11⟩
  have hS11 : St w w11 (CkI 2 A7 L.length c7 L :: Bx 32 1 A6 [.slice A2 n n] :: CkI 2 A4 L.length c4 L :: Bx 27 1 Ab [.slice A n c] :: (mat 39 2 A2 n n rs2 ys ++ [])) := hS11
  refine Ops.mv_int rfl rfl rfl ?_
  refine Ops.nil ?_
  refine thenQ_n ?_
  refine Cd.seq ?_
  refine Cd.seq ?_
  refine Cd.region ?_
  refine Ops.mv_int rfl rfl rfl ?_
  refine Ops.lss rfl rfl rfl ?_
  refine Ops.mv_bool rfl rfl rfl ?_
  -- stop: guard 51
  refine Ops.split_p 51 rfl (fun h => absurd h (by omega)) (fun _ => ?_) --f
  refine Ops.rung rfl rfl rfl ?_
  refine Ops.mv_sl rfl rfl rfl ?_
  refine Ops.rung rfl rfl rfl ?_
  refine Ops.mv_sl rfl rfl rfl ?_
  refine Ops.rung rfl rfl rfl ?_
  -- stop: CALL laws.eqInt64S(t52, t53) -> 54
  refine Ops.call (eqInt64S_c A7 _ c7 L A4 _ c4 L _ (hS11.rdI 0 rfl) (hS11.rdI 2 rfl) (by omega)) rfl rfl rfl ?_
  rintro _ w12 ⟨rfl, hst6⟩
  have hS12 := hS11.later hst6.below
  refine Ops.rung rfl rfl rfl ?_
  first | refine Ops.not_p rfl rfl ?_ | refine Ops.not rfl rfl ?_
  refine Ops.pick_f rfl rfl rfl ?_
  refine Ops.mv_bool rfl rfl rfl ?_
  -- stop: guard 57
  refine Ops.split_p 57 rfl (fun h => absurd rfl h) (fun _ => ?_) --f
  refine Ops.rung rfl rfl rfl ?_
  refine Ops.mv_int rfl rfl rfl ?_
  refine Ops.rung rfl rfl rfl ?_
  refine Ops.mv_int rfl rfl rfl ?_
  refine Ops.rung rfl rfl rfl ?_
  refine Ops.neq rfl rfl rfl ?_
  refine Ops.pick_f rfl rfl rfl ?_
  refine Ops.nil ?_
  refine thenQ_n ?_
  -- stop: cond
  refine Cd.cond_pf rfl (fun h => h rfl) ?_
  refine Cd.skip ?_
  refine thenQ_n ?_
  refine Cd.seq ?_
  refine Cd.region ?_
  refine Ops.mv_int rfl rfl rfl ?_
  refine Ops.nil ?_
  refine thenQ_n ?_
  refine Cd.seq ?_
  refine Cd.region ?_
  refine Ops.mv_sl rfl rfl rfl ?_
  refine Ops.mv_int rfl rfl rfl ?_
  -- stop: CALL laws.markInt64S(t62, t63) -> 64
  refine Ops.call (markInt64S_c 0 1 hS12 rfl (by omega)) rfl rfl rfl ?_
  rintro _ w13 ⟨rfl, hS13⟩
  have hS13 : St w w13 (CkI 2 A7 L.length c7 (marks 1 L.length) :: Bx 32 1 A6 [.slice A2 n n] :: CkI 2 A4 L.length c4 L :: Bx 27 1 Ab [.slice A n c] :: (mat 39 2 A2 n n rs2 ys ++ [])) := hS13
  refine Ops.mv_int rfl rfl rfl ?_
  refine Ops.nil ?_
  refine thenQ_n ?_
  refine Cd.seq ?_
  refine Cd.region ?_
  refine Ops.mv_int rfl rfl rfl ?_
  refine Ops.nil ?_
  refine thenQ_n ?_
  refine Cd.seq ?_
  refine Cd.region ?_
  refine Ops.mv_sl rfl rfl rfl ?_
  refine Ops.mv_int rfl rfl rfl ?_
  -- stop: CALL laws.heldInt64S(t65, t66) -> 67
  refine Ops.call (heldInt64S_c A7 L.length c7 1 _ (hS13.rdI 0 rfl) (by omega)) rfl rfl rfl ?_
  rintro _ w13 ⟨rfl, rfl⟩
  refine Ops.mv_int rfl rfl rfl ?_
  refine Ops.nil ?_
  refine thenQ_n ?_
  refine Cd.seq ?_
  refine Cd.seq ?_
  refine Cd.region ?_
  refine Ops.mv_int rfl rfl rfl ?_
  refine Ops.lss rfl rfl rfl ?_
  refine Ops.nil ?_
  refine thenQ_n ?_
  -- stop: cond
  refine Cd.cond_pf rfl (by omega) ?_
  refine Cd.skip ?_
  refine thenQ_n ?_
  refine Cd.seq ?_
  refine Cd.seq ?_
  refine Cd.region ?_
  refine Ops.mv_int rfl rfl rfl ?_
  refine Ops.mv_int rfl rfl rfl ?_
  refine Ops.neq rfl rfl rfl ?_
  refine Ops.nil ?_
  refine thenQ_n ?_
  -- stop: cond
  refine Cd.cond_pf rfl (fun h => h rfl) ?_
  refine Cd.skip ?_
  refine thenQ_n ?_
  refine Cd.seq ?_
  refine Cd.region ?_
  -- stop: LOAD 27 t1=toArray -> 74
  refine Ops.ld_agg 0 (hS13.rd 3 rfl) rfl rfl rfl ?_
  refine Ops.call (toManiplex_c A n c rs xss _ (hS13.oldRows hR) hfit) rfl rfl rfl ?_
  rintro _ w14 ⟨A8, rs8, rfl, hrl8, hst7⟩
  have hI8 := implPartsOf_c A8 n n rs8 xss w14 (St.rowsI (ks := []) (by rwa [List.append_nil]) hxl) (Nat.le_refl _) hn
  rw [hLe, hKe] at hI8
  refine Ops.call hI8 rfl rfl rfl ?_
  rintro _ w15 ⟨A9, c9, rfl, hst8⟩
  have hS15 := (hS13.later hst7.below).call hst8
  have hS15 : St w w15 (CkI 2 A9 L.length c9 L :: CkI 2 A7 L.length c7 (marks 1 L.length) :: Bx 32 1 A6 [.slice A2 n n] :: CkI 2 A4 L.length c4 L :: Bx 27 1 Ab [.slice A n c] :: (mat 39 2 A2 n n rs2 ys ++ [])) := hS15
  refine Ops.mv_tup rfl rfl rfl ?_
  refine Ops.extract rfl rfl rfl ?_
  refine Ops.extract rfl rfl rfl ?_
  refine Ops.mv_sl rfl rfl rfl ?_
  refine Ops.mv_int rfl rfl rfl ?_
  refine Ops.nil ?_
  refine thenQ_n ?_
  refine Cd.seq ?_
  refine Cd.seq ?_
  refine Cd.region ?_
  refine Ops.mv_sl rfl rfl rfl ?_
  refine Ops.mv_sl rfl rfl rfl ?_
  -- stop: CALL laws.eqInt64S(t79, t80) -> 81
  refine Ops.call (eqInt64S_c A9 _ c9 L A4 _ c4 L _ (hS15.rdI 0 rfl) (hS15.rdI 3 rfl) (by omega)) rfl rfl rfl ?_
  rintro _ w16 ⟨rfl, hst9⟩
  have hS16 := hS15.later hst9.below
  first | refine Ops.not_p rfl rfl ?_ | refine Ops.not rfl rfl ?_
  refine Ops.mv_bool rfl rfl rfl ?_
  -- stop: guard 83
  refine Ops.split_p 83 rfl (fun h => absurd rfl h) (fun _ => ?_) --f
  refine Ops.rung rfl rfl rfl ?_
  refine Ops.mv_int rfl rfl rfl ?_
  refine Ops.rung rfl rfl rfl ?_
  refine Ops.mv_int rfl rfl rfl ?_
  refine Ops.rung rfl rfl rfl ?_
  refine Ops.neq rfl rfl rfl ?_
  refine Ops.pick_f rfl rfl rfl ?_
  refine Ops.nil ?_
  refine thenQ_n ?_
  -- stop: cond
  refine Cd.cond_pf rfl (fun h => h rfl) ?_
  refine Cd.skip ?_
  refine thenQ_n ?_
  refine Cd.seq ?_
  refine Cd.region ?_
  refine Ops.mv_int rfl rfl rfl ?_
  refine Ops.nil ?_
  refine thenQ_n ?_
  refine Cd.seq ?_
  refine Cd.region ?_
  refine Ops.mv_sl rfl rfl rfl ?_
  refine Ops.mv_int rfl rfl rfl ?_
  -- stop: CALL laws.heldInt64S(t88, t89) -> 90
  refine Ops.call (heldInt64S_c A7 L.length c7 1 _ (hS16.rdI 1 rfl) (by omega)) rfl rfl rfl ?_
  rintro _ w16 ⟨rfl, rfl⟩
  refine Ops.mv_int rfl rfl rfl ?_
  refine Ops.nil ?_
  refine thenQ_n ?_
  refine Cd.seq ?_
  refine Cd.seq ?_
  refine Cd.region ?_
  refine Ops.mv_int rfl rfl rfl ?_
  refine Ops.lss rfl rfl rfl ?_
  refine Ops.nil ?_
  refine thenQ_n ?_
  -- stop: cond
  refine Cd.cond_pf rfl (by omega) ?_
  refine Cd.skip ?_
  refine thenQ_n ?_
  refine Cd.seq ?_
  refine Cd.seq ?_
  refine Cd.region ?_
  refine Ops.mv_int rfl rfl rfl ?_
  refine Ops.mv_int rfl rfl rfl ?_
  refine Ops.neq rfl rfl rfl ?_
  refine Ops.nil ?_
  refine thenQ_n ?_
  -- stop: cond
  refine Cd.cond_pf rfl (fun h => h rfl) ?_
  refine Cd.skip ?_
  refine thenQ_n ?_
  refine Cd.seq ?_
  refine Cd.region ?_
  refine Ops.mv_bool rfl rfl rfl ?_
  refine Ops.nil ?_
  refine thenQ_n ?_
  refine Cd.ret ?_
  refine ret1_b rfl ?_
  -- stop: end
  exact ⟨rfl, hS16.none⟩
end Go.Proofs.Ytpdhjnacnmfbjaa.Vc
/-
  A statement's frame: the arguments opened, and what a walk gives told in the statement's own words. Conditions: as each states them.
-/
namespace Go.Proofs.Ytpdhjnacnmfbjaa.Vc
open Go.RowKit Go.ChangeShapes Go.WideShapes

theorem laid : laidOutB Try.prog = true := by kernel_rfl
theorem own : ownKnob Try.prog.godebug = none := by kernel_rfl

section
variable {H : Type} {enc : TypeId × Value → H} {P : Program}
theorem open_mat {w : World} {t e q : TypeId} {fuel : Nat} {cs : List Value} {x : DataW H × List MemPlace} (ht : P.underlying t = some (.slice e)) (he : P.underlying e = some (.slice q)) (hq : P.underlying q = some (.int .i64)) (ce : P.cellsOf e = 1) (cq : P.cellsOf q = 1)
    (h : DataW.trod enc P w 0 (fun _ => true) true fuel t cs = some x) : ∃ A n c rs xss, cs = [.slice A n c] ∧ RowsI w A n rs xss ∧ n ≤ c ∧ c ≤ 9223372036854775807 := by
  rcases Go.Deep.open_int_rows ht he hq ce cq h with ⟨rfl, _⟩ | ⟨a, len, cap, A, L, C, Z, rfl, _, hl, hm, _, hc⟩
  · exact ⟨none, 0, 0, [], [], rfl, RowsI.nil w, Nat.le_refl _, by omega⟩
  · refine ⟨some a, len, cap, (List.range len).map fun r => ⟨A r, L r, C r⟩, (List.range len).map fun r => (Z r).take (L r), rfl, ⟨⟨by simp, fun k hk => ?_⟩, by simp, fun i hi => ?_, fun i hi => ?_⟩, hl, by simpa [maxLen] using hm⟩
    · have := (hc k (by omega)).1
      exact ⟨a.add k, rfl, by rw [this]; simp [List.getD_eq_getElem?_getD, hk, SlV.v]⟩
    · have h1 := hc i (by omega)
      have e1 : ((List.range len).map fun r => (⟨A r, L r, C r⟩ : SlV)).getD i slNil = ⟨A i, L i, C i⟩ := by simp [List.getD_eq_getElem?_getD, hi]
      have e2 : ((List.range len).map fun r => (Z r).take (L r)).getD i [] = (Z i).take (L i) := by simp [List.getD_eq_getElem?_getD, hi]
      rw [e1, e2]
      refine ⟨by simp; omega, fun k hk => ?_⟩
      have hk' : k < L i := hk
      cases hA : A i with
      | none => have := h1.2.2.2.2.2.1 hA; omega
      | some a' =>
        have h2 := (h1.2.2.2.2.2.2 a' hA).2 k (by omega)
        exact ⟨a'.add k, rfl, by rw [h2]; simp [List.getD_eq_getElem?_getD, List.getElem?_take, hk']⟩
    · have h1 := hc i (by omega)
      have e1 : ((List.range len).map fun r => (⟨A r, L r, C r⟩ : SlV)).getD i slNil = ⟨A i, L i, C i⟩ := by simp [List.getD_eq_getElem?_getD, hi]
      rw [e1]
      exact ⟨h1.2.1, h1.2.2.1⟩

theorem trodAll_stays (hl : laidOutB P = true) {W W' : World} (hb : Below W.heap.size W W') {sp : Nat → Bool} : ∀ {ts : List TypeId} {vs : List Value} {ds : List (DataW H)} {ps : List MemPlace}, (ts.all fun t => P.readableRec t && Nat.blt t P.types.size) = true → (∀ p ∈ ps, p.block < W.heap.size) → (∀ p ∈ ps, sp p.block = true) →
    DataW.TrodAll enc P W 0 (fun _ => true) true ts vs ds ps → DataW.TrodAll enc P W' 0 sp true ts vs ds ps
  | [], [], [], _, _, _, _, h => h
  | t :: ts, v :: vs, d :: ds, ps, hr, hlt, hsp, h => by
    obtain ⟨p, q, h1, h2, rfl⟩ := h
    simp only [List.all_cons, Bool.and_eq_true] at hr
    exact ⟨p, q, WideElems.Trod_stays hl hr.1.1 (by simpa [Nat.blt_eq] using hr.1.2) h1 (fun x hx => hb.same (hlt x (by simp [hx]))) (fun x hx => hsp x (by simp [hx])), trodAll_stays hl hb hr.2 (fun x hx => hlt x (by simp [hx])) (fun x hx => hsp x (by simp [hx])) h2, rfl⟩
  | [], [], _ :: _, _, _, _, _, h => h.elim
  | [], _ :: _, _, _, _, _, _, h => by cases h
  | _ :: _, [], _, _, _, _, _, h => by cases h
  | _ :: _, _ :: _, [], _, _, _, _, h => by cases h

/-- what a law's walk gives, in its statement's words: it returns true, and its arguments read as they did -/
theorem post_law {f : Func} {s : ChangeSpec} {apart : Bool} {W W' : World} {args : Array Value} {ds gs : List (DataW H)} {before : List MemPlace} (hl : laidOutB P = true) {b : TypeId} (hu : P.underlying b = some .bool) (hres : f.resultTypes = #[b]) (hv : s.vars = [])
    (hr : (f.params.toList.all fun t => P.readableRec t && Nat.blt t P.types.size) = true) (hfn : (s.fn H (ds ++ gs)).results = [.lit (.bool true)] ∧ (s.fn H (ds ++ gs)).args = ds ∧ (s.fn H (ds ++ gs)).vars = [])
    (hW : DataW.Whole enc P f.params.toList s.vars apart W args.toList ds gs before) (hb : Below W.heap.size W W') : s.post enc P f apart true false false W args (.bool true) W' := by
  have hlt : ∀ x ∈ before, x.block < W.heap.size := fun x hx => hW.lt x hx
  have hW0 := hW
  obtain ⟨p, q, hA, hV, rfl, hz, hn⟩ := hW
  rw [hv] at hV
  obtain ⟨rfl, rfl⟩ := trodVars_none hV
  have hlp : ∀ x ∈ p, x.block < W.heap.size := fun x hx => hlt x (by simp [hx])
  have hA' : ∀ sp : Nat → Bool, (∀ x ∈ p, sp x.block = true) → DataW.TrodAll enc P W' 0 sp true f.params.toList args.toList (s.fn H (ds ++ [])).args p := fun sp hsp => by
    rw [hfn.2.1]
    exact trodAll_stays hl hb hr hlp hsp hA
  have hR' : ∀ (b0 : Nat) (sp : Nat → Bool) (hd : Bool), DataW.TrodAll enc P W' b0 sp hd f.resultTypes.toList ((Value.bool true).resultList f.resultTypes.size) (s.fn H (ds ++ [])).results [] := fun b0 sp hd => by
    rw [hfn.1, hres]
    exact trodAll_cons_mk (shut_bool hu _) trodAll_mk0
  have hV' : ∀ sp : Nat → Bool, DataW.TrodVars enc P W' sp s.vars (s.fn H (ds ++ [])).vars [] := fun sp => by
    rw [hfn.2.2, hv]; rfl
  refine ⟨ds, [], p ++ [], [], p, [], hW0, hR' _ _ _, hA' _ (fun x hx => by simpa using hlp x hx), hV' _, World.keptBut_mono (fun x hx => ⟨hx, by simpa using hx⟩) (hb.frame (· ∈ p ++ [])), fun _ => ⟨fun j t r h1 h2 => ?_, _, _, ([] ++ p) ++ [], ⟨[] ++ p, [], trodAll_append (hA' _ fun _ _ => rfl) (hR' _ _ _), hV' _, rfl, fun c off hc => ?_, fun ha => by simpa using hn ha⟩, fun x hx _ => by simpa using hx⟩⟩
  · rw [hres] at h1 h2
    cases j with
    | zero =>
      simp at h1
      subst h1
      simp [Value.resultList] at h2
      subst h2
      exact okWide_bool_mk hu _
    | succ j => simp at h1
  · have hin : MemPlace.cell c off ∈ p ++ [] := by simpa using hc
    rw [hb.frozen (hlt _ hin)]
    exact hz c off hin
end
end Go.Proofs.Ytpdhjnacnmfbjaa.Vc
/-
  Arguments opened: a struct of one matrix, a list of integers. Conditions: as each states them.
-/
namespace Go.Proofs.Ytpdhjnacnmfbjaa.Vc
open Go.RowKit Go.ChangeShapes Go.WideShapes

section
variable {H : Type} {enc : TypeId × Value → H} {P : Program}
theorem open_man {w : World} {r : Go.Reach} {b0 : Nat} {t e q : TypeId} {f0 : Field} {v : Value} {d : DataW H} {p : List MemPlace} (hs : P.underlying t = some (.struct #[f0])) (hf0 : f0.offset = 0) (ht : P.underlying f0.type = some (.slice e)) (he : P.underlying e = some (.slice q)) (hq : P.underlying q = some (.int .i64)) (ce : P.cellsOf e = 1) (cq : P.cellsOf q = 1) (cm : P.cellsOf f0.type = 1) (cc : P.cellsOf t = 1)
    (hval : Value.okWide P w r b0 t v) (h : DataW.Trod enc P w 0 (fun _ => true) true t v d p) : ∃ A n c rs xss, v = .agg #[.slice A n c] ∧ RowsI w A n rs xss ∧ n ≤ c ∧ c ≤ 9223372036854775807 := by
  obtain ⟨cs, rfl, hsz⟩ := okWide_struct hs hval
  obtain ⟨fuel, hf⟩ := h
  obtain ⟨z0, m0, _, _, hz0⟩ := trod_struct1 hs hf
  obtain ⟨A, n, c, rs, xss, e1, hR, hn, hc⟩ := open_mat ht he hq ce cq hz0
  refine ⟨A, n, c, rs, xss, ?_, hR, hn, hc⟩
  have hl : cs.toList.length = 1 := by rw [Array.length_toList, hsz, cc]
  have e1 : (cs.toList.drop f0.offset).take (P.cellsOf f0.type) = [Value.slice A n c] := e1
  rw [hf0, cm, List.drop_zero, List.take_of_length_le (by omega)] at e1
  congr 1
  exact Array.ext' (by rw [e1])

theorem open_row {w : World} {r : Go.Reach} {b0 : Nat} {t e : TypeId} {v : Value} {d : DataW H} {p : List MemPlace} (ht : P.underlying t = some (.slice e)) (he : P.underlying e = some (.int .i64)) (ce : P.cellsOf e = 1)
    (hval : Value.okWide P w r b0 t v) (h : DataW.Trod enc P w 0 (fun _ => true) true t v d p) : ∃ A n c xs, v = .slice A n c ∧ RdI w A n xs ∧ n ≤ c ∧ c ≤ 9223372036854775807 := by
  obtain ⟨a, len, cap, rfl⟩ := okWide_slice ht hval
  obtain ⟨fuel, hf⟩ := h
  have hcs : (Value.slice a len cap).cells.toList = [Value.slice a len cap] := rfl
  rw [hcs] at hf
  rcases open_ints ht he ce hf with ⟨h1, _⟩ | ⟨b, n, c, zs, h1, _, hl, hm, hz, _, hc, _⟩
  · simp only [List.cons.injEq, and_true] at h1
    exact ⟨none, 0, 0, [], h1, RdI.nil, Nat.le_refl _, by omega⟩
  · simp only [List.cons.injEq, and_true] at h1
    refine ⟨some b, n, c, zs.take n, h1, ⟨?_, fun k hk => ?_⟩, hl, by simpa [maxLen] using hm⟩
    · rw [if_pos rfl] at hz; simp; omega
    · rw [if_pos rfl] at hz
      refine ⟨b.add k, rfl, ?_⟩
      rw [hc k (by omega)]
      simp [List.getD_eq_getElem?_getD, List.getElem?_take, hk]
end
end Go.Proofs.Ytpdhjnacnmfbjaa.Vc
