/-
  The statement FnExactCensusOfSaid is proved: the law FnExactCensusOf returns true, and its arguments read as they did. Conditions: none.
-/
import Derived.Test.YtgobjpcankaicaaRows
import Derived.Test.YtgobjpcankaicaaZi
namespace Go.Proofs.Ytgobjpcankaicaa.FnExactCensusOf
open Go.ChangeShapes Go.WideShapes Go.ChangeAt Go.RowKit Go.Proofs.Ytgobjpcankaicaa.Vc

theorem cr : Try.prog.cellsOf 33 = 1 := by kernel_rfl
theorem ci : Try.prog.cellsOf 2 = 1 := by kernel_rfl
theorem cm : Try.prog.cellsOf 22 = 1 := by kernel_rfl
set_option maxRecDepth 100000 in
theorem contract (H : Type) (enc : TypeId × Value → H) (W : World) (args : Array Value) (ds gs : List (DataW H)) (before : List MemPlace)
    (hval : ∀ (j : Nat) t v, Try.f12.params[j]? = some t → args[j]? = some v → Value.okWide Try.prog W .any 0 t v)
    (hW : DataW.Whole enc Try.prog Try.f12.params.toList Rows.fnExactCensusOfSpec.vars false W args.toList ds gs before) :
    Calls Try.prog 12 args W fun e W' => ∃ v, e = .returned v ∧ Rows.fnExactCensusOfSpec.post enc Try.prog Try.f12 false true false false W args v W' := by
  have hW' := hW
  obtain ⟨p, q, hA0, hV, rfl, _, _⟩ := hW
  have hA : DataW.TrodAll enc Try.prog W 0 (fun _ => true) true Try.f12.params.toList args.toList ds p := hA0
  rw [Try.params12] at hA hval
  obtain ⟨v0, vs0, d0, ds0, p0, q0, hargs, rfl, rfl, h0, r0⟩ := trodAll_cons hA
  obtain ⟨v1, vs1, d1, ds1, p1, q1, rfl, rfl, rfl, h1, r1⟩ := trodAll_cons r0
  obtain ⟨rfl, rfl, rfl⟩ := trodAll_nil r1
  obtain rfl : args = #[v0, v1] := by cases args; simp_all
  obtain ⟨rfl, rfl⟩ := trodVars_none hV
  obtain ⟨n0, rfl, rfl, rfl, _⟩ := open_int Try.underlying2 (hval 0 2 v0 rfl rfl) h0
  obtain ⟨n1, rfl, rfl, rfl, _⟩ := open_int Try.underlying2 (hval 1 2 v1 rfl rfl) h1
  clear hA0
  refine Calls.mono (FnExactCensusOf_c n0 n1 W ) fun e W' ⟨v, he, hv, hst⟩ => ?_
  subst he hv
  exact ⟨_, rfl, post_law laid Try.underlying4 rfl rfl (by kernel_rfl) ⟨rfl, rfl, rfl⟩ hW' hst.below⟩

set_option maxRecDepth 100000 in
theorem lifted (os : Os) (started : os.Started) (H : Type) (enc : TypeId × Value → H) :
    ReturnsInHanded {} Try.checked os 12 .any (Rows.fnExactCensusOfSpec.pre6 enc Try.prog Try.f12 Rows.fnExactCensusOfRow.domain false) (Rows.fnExactCensusOfSpec.post enc Try.prog Try.f12 false true false false) := by
  refine returnsInHanded_of_change (C := Try.checked) own started (by kernel_rfl) Try.func12
    (ChangeSpec.witness6 (enc := enc) (C := Try.checked) false ⟨#[], #[.int .i64 0, .int .i64 0], []⟩ 8 (by kernel_rfl) (by kernel_rfl) (by kernel_rfl) (by kernel_rfl)) ?_
  intro W base args ds gs before hval hW _ _
  exact contract H enc W args ds gs before hval hW

theorem both {a b : Bool} (h : a = true) (h' : b = true) : (a && b) = true := by rw [h, h']; rfl
theorem j0 : (Rows.fnExactCensusOfRow.wf (OpenSpec.ofChange Rows.fnExactCensusOfSpec)) = true := by kernel_rfl
theorem j1 : (laidOutB Try.checked.prog) = true := by kernel_rfl
theorem j2 : (mapsRowed Try.checked.prog) = true := by kernel_rfl
theorem j3 : (Try.f12.params.all (Try.checked.prog.readableRec ·)) = true := by kernel_rfl
theorem j4 : (namedTie Try.checked.prog Rows.fnExactCensusOfRow.named Rows.fnExactCensusOfSpec.vars) = true := by kernel_rfl
theorem j5 : ((Rows.fnExactCensusOfRow.stops == [])) = true := by kernel_rfl
theorem j6 : ((Try.checked.prog.stops == [])) = true := by kernel_rfl
theorem j7 : ((Rows.fnExactCensusOfRow.knobs == [])) = true := by kernel_rfl
theorem j8 : ((Try.checked.prog.stopKnobs == [])) = true := by kernel_rfl
theorem j9 : ((Rows.fnExactCensusOfRow.inPlace == Try.checked.prog.inPlace 12)) = true := by kernel_rfl
theorem j10 : ((Rows.fnExactCensusOfRow.unfollowed == Try.checked.prog.unfollowed 12)) = true := by kernel_rfl
theorem j11 : ((Rows.fnExactCensusOfRow.recurses == Try.checked.prog.recurses 12)) = true := by kernel_rfl
theorem j12 : ((Rows.fnExactCensusOfRow.named == Try.checked.prog.varsNamed 12)) = true := by kernel_rfl
theorem j13 : ((Rows.fnExactCensusOfRow.maps == (Try.f12.params.toList ++ Rows.fnExactCensusOfSpec.plain.varTypes Try.checked.prog).any (Try.checked.prog.mapsRec ·))) = true := by kernel_rfl
theorem j14 : ((Rows.fnExactCensusOfRow.ifaces == (Try.f12.params.toList ++ Rows.fnExactCensusOfSpec.plain.varTypes Try.checked.prog).any (Try.checked.prog.ifacesRec ·))) = true := by kernel_rfl
theorem j15 : ((Rows.fnExactCensusOfRow.mapsOut == Try.checked.prog.mapsAmong Try.f12.resultTypes.toList)) = true := by kernel_rfl
theorem j16 : ((Rows.fnExactCensusOfRow.loops == (Try.f12.params.toList ++ Rows.fnExactCensusOfSpec.plain.varTypes Try.checked.prog).any (Try.checked.prog.loopsFrom ·))) = true := by kernel_rfl
theorem j17 : ((Rows.fnExactCensusOfRow.wideKeys == (Try.f12.params.toList ++ Rows.fnExactCensusOfSpec.plain.varTypes Try.checked.prog ++ Try.f12.resultTypes.toList).any (Try.checked.prog.wideKeysFrom ·))) = true := by kernel_rfl
theorem j18 : (Rows.fnExactCensusOfSpec.vars.all (Try.checked.prog.varReadable ·)) = true := by kernel_rfl
theorem j19 : (Try.f12.resultTypes.all (fun t => Try.checked.prog.readableRec t && decide (t < Try.checked.prog.types.size))) = true := by kernel_rfl
theorem j20 : ((Rows.fnExactCensusOfRow.ifacesOut == Try.f12.resultTypes.toList.any (Try.checked.prog.ifacesRec ·))) = true := by kernel_rfl
theorem j21 : ((Rows.fnExactCensusOfRow.loopsOut == Try.f12.resultTypes.toList.any (Try.checked.prog.loopsFrom ·))) = true := by kernel_rfl
theorem j22 : ((Rows.fnExactCensusOfRow.plainKeys == Try.checked.prog.plainKeys)) = true := by kernel_rfl
theorem j23 : (Rows.fnExactCensusOfRow.shortTexts.isNone) = true := by kernel_rfl
theorem j24 : (Try.checked.prog.stopsHeard) = true := by kernel_rfl
theorem j25 : (Try.checked.prog.mayEnter) = true := by kernel_rfl
theorem j26 : ((Rows.fnExactCensusOfRow.lifted == Try.checked.prog.liftsFinal)) = true := by kernel_rfl
theorem j27 : ((Try.checked.prog.make == some Rows.fnExactCensusOfRow.make)) = true := by kernel_rfl
theorem j29 : ((Rows.fnExactCensusOfRow.pinned == Rows.fnExactCensusOfRow.pinnedBy)) = true := by kernel_rfl
theorem j30 : ((Rows.fnExactCensusOfRow.veiled == (Try.f12.params.toList ++ Rows.fnExactCensusOfSpec.plain.varTypes Try.checked.prog ++ Try.f12.resultTypes.toList).any (Try.checked.prog.veiledRec ·))) = true := by kernel_rfl
theorem j31 : (Rows.fnExactCensusOfRow.veiledFits Try.checked.prog Try.f12.params.toList (Try.f12.params.toList ++ Rows.fnExactCensusOfSpec.plain.varTypes Try.checked.prog ++ Try.f12.resultTypes.toList)) = true := by kernel_rfl
theorem closed : joinedFacts Try.checked.prog 12 Try.f12 Rows.fnExactCensusOfSpec Rows.fnExactCensusOfRow = true := by
  unfold joinedFacts
  exact both (both (both (both (both (both (both (both (both (both (both (both (both (both (both (both (both (both (both (both (both (both (both (both (both (both (both (both (both (both (both (j0) j1) j2) j3) j4) j5) j6) j7) j8) j9) j10) j11) j12) j13) j14) j15) j16) j17) j18) j19) j20) j21) j22) j23) j24) j25) j26) j27) (by kernel_rfl)) j29) j30) j31
theorem name_ : Try.checked.prog.funcNamed Rows.fnExactCensusOfRow.func = some 12 := by kernel_rfl
theorem wrap_ : Try.f12.isWrapper Try.checked.prog Rows.fnExactCensusOfRow.wrapper Rows.fnExactCensusOfRow.mainSum := by unfold Func.isWrapper; first | (rw [if_pos (by decide +kernel)]; kernel_rfl) | (rw [if_neg (by decide +kernel)]; exact ⟨rfl, rfl⟩)

theorem proved : Rows.FnExactCensusOfSaid :=
  OpenClaim.holds_of_wide 12 Try.f12 rfl rfl rfl rfl rfl rfl rfl ⟨rfl, rfl, rfl, rfl, rfl⟩ rfl rfl rfl rfl rfl name_ Try.func12 closed
    (of_decide_eq_true (by kernel_rfl)) wrap_ (fun os started H enc _ => lifted os started H enc)
end Go.Proofs.Ytgobjpcankaicaa.FnExactCensusOf
#print axioms Go.Proofs.Ytgobjpcankaicaa.FnExactCensusOf.proved
