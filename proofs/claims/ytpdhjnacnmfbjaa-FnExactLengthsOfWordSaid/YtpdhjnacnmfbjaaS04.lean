/-
  The statement FnExactLengthsOfWordSaid is proved: the law FnExactLengthsOfWord returns true, and its arguments read as they did. Conditions: none.
-/
import Derived.Test.YtpdhjnacnmfbjaaRows
import Derived.Test.YtpdhjnacnmfbjaaC12
import Derived.Test.YtpdhjnacnmfbjaaOpm
namespace Go.Proofs.Ytpdhjnacnmfbjaa.FnExactLengthsOfWord
open Go.ChangeShapes Go.WideShapes Go.ChangeAt Go.RowKit Go.Proofs.Ytpdhjnacnmfbjaa.Vc

theorem cr : Try.prog.cellsOf 39 = 1 := by kernel_rfl
theorem ci : Try.prog.cellsOf 2 = 1 := by kernel_rfl
theorem cm : Try.prog.cellsOf 25 = 1 := by kernel_rfl
theorem ct : Try.prog.cellsOf 27 = 1 := by kernel_rfl
set_option maxRecDepth 100000 in
theorem contract (H : Type) (enc : TypeId × Value → H) (W : World) (args : Array Value) (ds gs : List (DataW H)) (before : List MemPlace)
    (hval : ∀ (j : Nat) t v, Try.f6.params[j]? = some t → args[j]? = some v → Value.okWide Try.prog W .any 0 t v)
    (hW : DataW.Whole enc Try.prog Try.f6.params.toList Rows.fnExactLengthsOfWordSpec.vars false W args.toList ds gs before) :
    Calls Try.prog 6 args W fun e W' => ∃ v, e = .returned v ∧ Rows.fnExactLengthsOfWordSpec.post enc Try.prog Try.f6 false true false false W args v W' := by
  have hW' := hW
  obtain ⟨p, q, hA0, hV, rfl, _, _⟩ := hW
  have hA : DataW.TrodAll enc Try.prog W 0 (fun _ => true) true Try.f6.params.toList args.toList ds p := hA0
  rw [Try.params6] at hA hval
  obtain ⟨v0, vs0, d0, ds0, p0, q0, hargs, rfl, rfl, h0, r0⟩ := trodAll_cons hA
  obtain ⟨v1, vs1, d1, ds1, p1, q1, rfl, rfl, rfl, h1, r1⟩ := trodAll_cons r0
  obtain ⟨rfl, rfl, rfl⟩ := trodAll_nil r1
  obtain rfl : args = #[v0, v1] := by cases args; simp_all
  obtain ⟨rfl, rfl⟩ := trodVars_none hV
  obtain ⟨A0, m0, k0, rs0, x0, rfl, hR0, hn0, hk0⟩ := open_man Try.underlying27 rfl Try.underlying25 Try.underlying39 Try.underlying2 cr ci cm ct (hval 0 27 v0 rfl rfl) h0
  obtain ⟨A1, m1, k1, x1, rfl, hR1, hn1, hk1⟩ := open_row Try.underlying39 Try.underlying2 ci (hval 1 39 v1 rfl rfl) h1
  clear hA0
  refine Calls.mono (FnExactLengthsOfWord_c A0 m0 k0 rs0 x0 A1 m1 k1 x1 W hR0 (by omega) hR1 (by omega)) fun e W' ⟨v, he, hv, hst⟩ => ?_
  subst he hv
  exact ⟨_, rfl, post_law laid Try.underlying4 rfl rfl (by kernel_rfl) ⟨rfl, rfl, rfl⟩ hW' hst.below⟩

set_option maxRecDepth 100000 in
theorem lifted (os : Os) (started : os.Started) (H : Type) (enc : TypeId × Value → H) :
    ReturnsInHanded {} Try.checked os 6 .any (Rows.fnExactLengthsOfWordSpec.pre6 enc Try.prog Try.f6 Rows.fnExactLengthsOfWordRow.domain false) (Rows.fnExactLengthsOfWordSpec.post enc Try.prog Try.f6 false true false false) := by
  refine returnsInHanded_of_change (C := Try.checked) own started (by kernel_rfl) Try.func6
    (ChangeSpec.witness6 (enc := enc) (C := Try.checked) false ⟨#[], #[.agg #[.slice none 0 0], .slice none 0 0], []⟩ 8 (by kernel_rfl) (by kernel_rfl) (by kernel_rfl) (by kernel_rfl)) ?_
  intro W base args ds gs before hval hW _ _
  exact contract H enc W args ds gs before hval hW

theorem proved : Rows.FnExactLengthsOfWordSaid :=
  OpenClaim.holds_of_wide 6 Try.f6 rfl rfl rfl rfl rfl rfl rfl ⟨rfl, rfl, rfl, rfl, rfl⟩ rfl rfl rfl rfl rfl (by kernel_rfl) Try.func6 (by kernel_rfl)
    (of_decide_eq_true (by kernel_rfl)) (by unfold Func.isWrapper; first | (rw [if_pos (by decide +kernel)]; kernel_rfl) | (rw [if_neg (by decide +kernel)]; exact ⟨rfl, rfl⟩))
    (fun os started H enc _ => lifted os started H enc)
end Go.Proofs.Ytpdhjnacnmfbjaa.FnExactLengthsOfWord
#print axioms Go.Proofs.Ytpdhjnacnmfbjaa.FnExactLengthsOfWord.proved
