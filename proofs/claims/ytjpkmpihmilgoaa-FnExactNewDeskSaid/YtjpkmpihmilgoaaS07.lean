/-
  The statement FnExactNewDeskSaid is proved: the law FnExactNewDesk returns true, and its arguments read as they did. Conditions: none.
-/
import Derived.Test.YtjpkmpihmilgoaaRows
import Derived.Test.YtjpkmpihmilgoaaZh
namespace Go.Proofs.Ytjpkmpihmilgoaa.FnExactNewDesk
open Go.ChangeShapes Go.WideShapes Go.ChangeAt Go.RowKit Go.Proofs.Ytjpkmpihmilgoaa.Vc

set_option maxRecDepth 100000 in
theorem contract (H : Type) (enc : TypeId × Value → H) (W : World) (args : Array Value) (ds gs : List (DataW H)) (before : List MemPlace)
    (hval : ∀ (j : Nat) t v, Try.f3.params[j]? = some t → args[j]? = some v → Value.okWide Try.prog W .any 0 t v)
    (hW : DataW.Whole enc Try.prog Try.f3.params.toList Rows.fnExactNewDeskSpec.vars false W args.toList ds gs before) :
    Calls Try.prog 3 args W fun e W' => ∃ v, e = .returned v ∧ Rows.fnExactNewDeskSpec.post enc Try.prog Try.f3 false true false false W args v W' := by
  have hW' := hW
  obtain ⟨p, q, hA0, hV, rfl, _, _⟩ := hW
  have hA : DataW.TrodAll enc Try.prog W 0 (fun _ => true) true Try.f3.params.toList args.toList ds p := hA0
  rw [Try.params3] at hA hval
  obtain ⟨hargs, rfl, rfl⟩ := trodAll_nil hA
  obtain rfl : args = #[] := by cases args; simp_all
  obtain ⟨rfl, rfl⟩ := trodVars_none hV
  clear hA0
  refine Calls.mono (FnExactNewDesk_c  W ) fun e W' ⟨v, he, hv, hst⟩ => ?_
  subst he hv
  exact ⟨_, rfl, post_law laid Try.underlying4 rfl rfl (by kernel_rfl) ⟨rfl, rfl, rfl⟩ hW' hst.below⟩

set_option maxRecDepth 100000 in
theorem lifted (os : Os) (started : os.Started) (H : Type) (enc : TypeId × Value → H) :
    ReturnsInHanded {} Try.checked os 3 .any (Rows.fnExactNewDeskSpec.pre6 enc Try.prog Try.f3 Rows.fnExactNewDeskRow.domain false) (Rows.fnExactNewDeskSpec.post enc Try.prog Try.f3 false true false false) := by
  refine returnsInHanded_of_change (C := Try.checked) own started (by kernel_rfl) Try.func3
    (ChangeSpec.witness6 (enc := enc) (C := Try.checked) false ⟨#[], #[], []⟩ 8 (by kernel_rfl) (by kernel_rfl) (by kernel_rfl) (by kernel_rfl)) ?_
  intro W base args ds gs before hval hW _ _
  exact contract H enc W args ds gs before hval hW

theorem both {a b : Bool} (h : a = true) (h' : b = true) : (a && b) = true := by rw [h, h']; rfl
theorem j0 : (Rows.fnExactNewDeskRow.wf (OpenSpec.ofChange Rows.fnExactNewDeskSpec)) = true := by kernel_rfl
theorem j1 : (laidOutB Try.checked.prog) = true := by kernel_rfl
theorem j2 : (mapsRowed Try.checked.prog) = true := by kernel_rfl
theorem j3 : (Try.f3.params.all (Try.checked.prog.readableRec ·)) = true := by kernel_rfl
theorem j4 : (namedTie Try.checked.prog Rows.fnExactNewDeskRow.named Rows.fnExactNewDeskSpec.vars) = true := by kernel_rfl
theorem j5 : ((Rows.fnExactNewDeskRow.stops == [])) = true := by kernel_rfl
theorem j6 : ((Try.checked.prog.stops == [])) = true := by kernel_rfl
theorem j7 : ((Rows.fnExactNewDeskRow.knobs == [])) = true := by kernel_rfl
theorem j8 : ((Try.checked.prog.stopKnobs == [])) = true := by kernel_rfl
theorem j9 : ((Rows.fnExactNewDeskRow.inPlace == Try.checked.prog.inPlace 3)) = true := by kernel_rfl
theorem j10 : ((Rows.fnExactNewDeskRow.unfollowed == Try.checked.prog.unfollowed 3)) = true := by kernel_rfl
theorem j11 : ((Rows.fnExactNewDeskRow.recurses == Try.checked.prog.recurses 3)) = true := by kernel_rfl
theorem j12 : ((Rows.fnExactNewDeskRow.named == Try.checked.prog.varsNamed 3)) = true := by kernel_rfl
theorem j13 : ((Rows.fnExactNewDeskRow.maps == (Try.f3.params.toList ++ Rows.fnExactNewDeskSpec.plain.varTypes Try.checked.prog).any (Try.checked.prog.mapsRec ·))) = true := by kernel_rfl
theorem j14 : ((Rows.fnExactNewDeskRow.ifaces == (Try.f3.params.toList ++ Rows.fnExactNewDeskSpec.plain.varTypes Try.checked.prog).any (Try.checked.prog.ifacesRec ·))) = true := by kernel_rfl
theorem j15 : ((Rows.fnExactNewDeskRow.mapsOut == Try.checked.prog.mapsAmong Try.f3.resultTypes.toList)) = true := by kernel_rfl
theorem j16 : ((Rows.fnExactNewDeskRow.loops == (Try.f3.params.toList ++ Rows.fnExactNewDeskSpec.plain.varTypes Try.checked.prog).any (Try.checked.prog.loopsFrom ·))) = true := by kernel_rfl
theorem j17 : ((Rows.fnExactNewDeskRow.wideKeys == (Try.f3.params.toList ++ Rows.fnExactNewDeskSpec.plain.varTypes Try.checked.prog ++ Try.f3.resultTypes.toList).any (Try.checked.prog.wideKeysFrom ·))) = true := by kernel_rfl
theorem j18 : (Rows.fnExactNewDeskSpec.vars.all (Try.checked.prog.varReadable ·)) = true := by kernel_rfl
theorem j19 : (Try.f3.resultTypes.all (fun t => Try.checked.prog.readableRec t && decide (t < Try.checked.prog.types.size))) = true := by kernel_rfl
theorem j20 : ((Rows.fnExactNewDeskRow.ifacesOut == Try.f3.resultTypes.toList.any (Try.checked.prog.ifacesRec ·))) = true := by kernel_rfl
theorem j21 : ((Rows.fnExactNewDeskRow.loopsOut == Try.f3.resultTypes.toList.any (Try.checked.prog.loopsFrom ·))) = true := by kernel_rfl
theorem j22 : ((Rows.fnExactNewDeskRow.plainKeys == Try.checked.prog.plainKeys)) = true := by kernel_rfl
theorem j23 : (Rows.fnExactNewDeskRow.shortTexts.isNone) = true := by kernel_rfl
theorem j24 : (Try.checked.prog.stopsHeard) = true := by kernel_rfl
theorem j25 : (Try.checked.prog.mayEnter) = true := by kernel_rfl
theorem j26 : ((Rows.fnExactNewDeskRow.lifted == Try.checked.prog.liftsFinal)) = true := by kernel_rfl
theorem j27 : ((Try.checked.prog.make == some Rows.fnExactNewDeskRow.make)) = true := by kernel_rfl
theorem j29 : ((Rows.fnExactNewDeskRow.pinned == Rows.fnExactNewDeskRow.pinnedBy)) = true := by kernel_rfl
theorem j30 : ((Rows.fnExactNewDeskRow.veiled == (Try.f3.params.toList ++ Rows.fnExactNewDeskSpec.plain.varTypes Try.checked.prog ++ Try.f3.resultTypes.toList).any (Try.checked.prog.veiledRec ·))) = true := by kernel_rfl
theorem j31 : (Rows.fnExactNewDeskRow.veiledFits Try.checked.prog Try.f3.params.toList (Try.f3.params.toList ++ Rows.fnExactNewDeskSpec.plain.varTypes Try.checked.prog ++ Try.f3.resultTypes.toList)) = true := by kernel_rfl
theorem closed : joinedFacts Try.checked.prog 3 Try.f3 Rows.fnExactNewDeskSpec Rows.fnExactNewDeskRow = true := by
  unfold joinedFacts
  exact both (both (both (both (both (both (both (both (both (both (both (both (both (both (both (both (both (both (both (both (both (both (both (both (both (both (both (both (both (both (both (j0) j1) j2) j3) j4) j5) j6) j7) j8) j9) j10) j11) j12) j13) j14) j15) j16) j17) j18) j19) j20) j21) j22) j23) j24) j25) j26) j27) (by kernel_rfl)) j29) j30) j31
theorem name_ : Try.checked.prog.funcNamed Rows.fnExactNewDeskRow.func = some 3 := by kernel_rfl
theorem wrap_ : Try.f3.isWrapper Try.checked.prog Rows.fnExactNewDeskRow.wrapper Rows.fnExactNewDeskRow.mainSum := by unfold Func.isWrapper; first | (rw [if_pos (by decide +kernel)]; kernel_rfl) | (rw [if_neg (by decide +kernel)]; exact ⟨rfl, rfl⟩)

theorem proved : Rows.FnExactNewDeskSaid :=
  OpenClaim.holds_of_wide 3 Try.f3 rfl rfl rfl rfl rfl rfl rfl ⟨rfl, rfl, rfl, rfl, rfl⟩ rfl rfl rfl rfl rfl name_ Try.func3 closed
    (of_decide_eq_true (by kernel_rfl)) wrap_ (fun os started H enc _ => lifted os started H enc)
end Go.Proofs.Ytjpkmpihmilgoaa.FnExactNewDesk
#print axioms Go.Proofs.Ytjpkmpihmilgoaa.FnExactNewDesk.proved
