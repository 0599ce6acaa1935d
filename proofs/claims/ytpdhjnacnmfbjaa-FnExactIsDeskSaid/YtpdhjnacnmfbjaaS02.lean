/-
  The statement FnExactIsDeskSaid is proved: the law FnExactIsDesk returns true, and its argument reads as it did. Conditions: none.
-/
import Derived.Test.YtpdhjnacnmfbjaaRows
import Derived.Test.YtpdhjnacnmfbjaaL02
import Derived.Test.YtpdhjnacnmfbjaaOpen
namespace Go.Proofs.Ytpdhjnacnmfbjaa.FnExactIsDesk
open Go.ChangeShapes Go.WideShapes Go.ChangeAt Go.RowKit Go.Proofs.Ytpdhjnacnmfbjaa.Vc

theorem cd : Try.prog.cellsOf 29 = 2 := by kernel_rfl
theorem cr : Try.prog.cellsOf 39 = 1 := by kernel_rfl
theorem ci : Try.prog.cellsOf 2 = 1 := by kernel_rfl
theorem cm : Try.prog.cellsOf 25 = 1 := by kernel_rfl
set_option maxRecDepth 100000 in
theorem contract (H : Type) (enc : TypeId × Value → H) (W : World) (args : Array Value) (ds gs : List (DataW H)) (before : List MemPlace)
    (hval : ∀ (j : Nat) t v, Try.f4.params[j]? = some t → args[j]? = some v → Value.okWide Try.prog W .any 0 t v)
    (hW : DataW.Whole enc Try.prog Try.f4.params.toList Rows.fnExactIsDeskSpec.vars false W args.toList ds gs before) :
    Calls Try.prog 4 args W fun e W' => ∃ v, e = .returned v ∧ Rows.fnExactIsDeskSpec.post enc Try.prog Try.f4 false true false false W args v W' := by
  have hW' := hW
  obtain ⟨p, q, hA0, hV, rfl, _, _⟩ := hW
  have hA : DataW.TrodAll enc Try.prog W 0 (fun _ => true) true Try.f4.params.toList args.toList ds p := hA0
  rw [Try.params4] at hA hval
  obtain ⟨v0, vs0, d0, ds0, p0, q0, hargs, rfl, rfl, h0, r0⟩ := trodAll_cons hA
  obtain ⟨rfl, rfl, rfl⟩ := trodAll_nil r0
  obtain rfl : args = #[v0] := by cases args; simp_all
  obtain ⟨rfl, rfl⟩ := trodVars_none hV
  obtain ⟨c0, c1, y0, y1, m, rfl, rfl, rfl, hy0, hy1⟩ := Joins.open_agg2 Try.underlying29 (by kernel_rfl) cd (hval 0 29 v0 rfl rfl) h0
  obtain ⟨z0, m0, _, _, hz0⟩ := trod_struct1 Try.underlying27 hy0
  obtain ⟨z1, m1, _, _, hz1⟩ := trod_struct1 Try.underlying27 hy1
  obtain ⟨A1, n1, k1, rs1, x1, e1, hR1, hn1, hk1⟩ := open_mat Try.underlying25 Try.underlying39 Try.underlying2 cr ci hz0
  obtain ⟨A2, n2, k2, rs2, x2, e2, hR2, hn2, hk2⟩ := open_mat Try.underlying25 Try.underlying39 Try.underlying2 cr ci hz1
  have e1 : c0 = .slice A1 n1 k1 := by
    have : [c0].take (Try.prog.cellsOf 25) = [Value.slice A1 n1 k1] := e1
    rw [cm] at this
    simpa using this
  have e2 : c1 = .slice A2 n2 k2 := by
    have : [c1].take (Try.prog.cellsOf 25) = [Value.slice A2 n2 k2] := e2
    rw [cm] at this
    simpa using this
  subst e1 e2
  clear hA0
  refine Calls.mono (FnExactIsDesk_c A1 n1 k1 rs1 x1 A2 n2 k2 rs2 x2 W hR1 hR2 (by omega) (by omega)) fun e W' ⟨v, he, hv, hst⟩ => ?_
  subst he hv
  exact ⟨_, rfl, post_law laid Try.underlying4 rfl rfl (by kernel_rfl) ⟨rfl, rfl, rfl⟩ hW' hst.below⟩

set_option maxRecDepth 100000 in
theorem lifted (os : Os) (started : os.Started) (H : Type) (enc : TypeId × Value → H) :
    ReturnsInHanded {} Try.checked os 4 .any (Rows.fnExactIsDeskSpec.pre6 enc Try.prog Try.f4 Rows.fnExactIsDeskRow.domain false) (Rows.fnExactIsDeskSpec.post enc Try.prog Try.f4 false true false false) := by
  refine returnsInHanded_of_change (C := Try.checked) own started (by kernel_rfl) Try.func4
    (ChangeSpec.witness6 (enc := enc) (C := Try.checked) false ⟨#[], #[.agg #[.slice none 0 0, .slice none 0 0]], []⟩ 8 (by kernel_rfl) (by kernel_rfl) (by kernel_rfl) (by kernel_rfl)) ?_
  intro W base args ds gs before hval hW _ _
  exact contract H enc W args ds gs before hval hW

theorem proved : Rows.FnExactIsDeskSaid :=
  OpenClaim.holds_of_wide 4 Try.f4 rfl rfl rfl rfl rfl rfl rfl ⟨rfl, rfl, rfl, rfl, rfl⟩ rfl rfl rfl rfl rfl (by kernel_rfl) Try.func4 (by kernel_rfl)
    (of_decide_eq_true (by kernel_rfl)) (by unfold Func.isWrapper; first | (rw [if_pos (by decide +kernel)]; kernel_rfl) | (rw [if_neg (by decide +kernel)]; exact ⟨rfl, rfl⟩))
    (fun os started H enc _ => lifted os started H enc)
end Go.Proofs.Ytpdhjnacnmfbjaa.FnExactIsDesk
#print axioms Go.Proofs.Ytpdhjnacnmfbjaa.FnExactIsDesk.proved
