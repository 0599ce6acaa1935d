/-
  The statement FnExactNextManiplexSaid is proved: the law FnExactNextManiplex returns true, and its arguments read as they did. Conditions: none.
-/
import Derived.Test.YtgobjpcankaicaaRows
import Derived.Test.YtgobjpcankaicaaZi
namespace Go.Proofs.Ytgobjpcankaicaa.FnExactNextManiplex
open Go.ChangeShapes Go.WideShapes Go.ChangeAt Go.RowKit Go.Proofs.Ytgobjpcankaicaa.Vc

theorem cr : Try.prog.cellsOf 33 = 1 := by kernel_rfl
theorem ci : Try.prog.cellsOf 2 = 1 := by kernel_rfl
theorem cm : Try.prog.cellsOf 22 = 1 := by kernel_rfl
theorem ct : Try.prog.cellsOf 31 = 1 := by kernel_rfl
set_option maxRecDepth 100000 in
theorem contract (H : Type) (enc : TypeId × Value → H) (W : World) (args : Array Value) (ds gs : List (DataW H)) (before : List MemPlace)
    (hval : ∀ (j : Nat) t v, Try.f13.params[j]? = some t → args[j]? = some v → Value.okWide Try.prog W .any 0 t v)
    (hW : DataW.Whole enc Try.prog Try.f13.params.toList Rows.fnExactNextManiplexSpec.vars false W args.toList ds gs before) :
    Calls Try.prog 13 args W fun e W' => ∃ v, e = .returned v ∧ Rows.fnExactNextManiplexSpec.post enc Try.prog Try.f13 false true false false W args v W' := by
  have hW' := hW
  obtain ⟨p, q, hA0, hV, rfl, _, _⟩ := hW
  have hA : DataW.TrodAll enc Try.prog W 0 (fun _ => true) true Try.f13.params.toList args.toList ds p := hA0
  rw [Try.params13] at hA hval
  obtain ⟨v0, vs0, d0, ds0, p0, q0, hargs, rfl, rfl, h0, r0⟩ := trodAll_cons hA
  obtain ⟨rfl, rfl, rfl⟩ := trodAll_nil r0
  obtain rfl : args = #[v0] := by cases args; simp_all
  obtain ⟨rfl, rfl⟩ := trodVars_none hV
  obtain ⟨A0, m0, k0, rs0, x0, rfl, hR0, hn0, hk0⟩ := open_man Try.underlying31 rfl Try.underlying22 Try.underlying33 Try.underlying2 cr ci cm ct (hval 0 31 v0 rfl rfl) h0
  clear hA0
  refine Calls.mono (FnExactNextManiplex_c A0 m0 k0 rs0 x0 W hR0 (by omega)) fun e W' ⟨v, he, hv, hst⟩ => ?_
  subst he hv
  exact ⟨_, rfl, post_law laid Try.underlying4 rfl rfl (by kernel_rfl) ⟨rfl, rfl, rfl⟩ hW' hst.below⟩

set_option maxRecDepth 100000 in
theorem lifted (os : Os) (started : os.Started) (H : Type) (enc : TypeId × Value → H) :
    ReturnsInHanded {} Try.checked os 13 .any (Rows.fnExactNextManiplexSpec.pre6 enc Try.prog Try.f13 Rows.fnExactNextManiplexRow.domain false) (Rows.fnExactNextManiplexSpec.post enc Try.prog Try.f13 false true false false) := by
  refine returnsInHanded_of_change (C := Try.checked) own started (by kernel_rfl) Try.func13
    (ChangeSpec.witness6 (enc := enc) (C := Try.checked) false ⟨#[], #[.agg #[.slice none 0 0]], []⟩ 8 (by kernel_rfl) (by kernel_rfl) (by kernel_rfl) (by kernel_rfl)) ?_
  intro W base args ds gs before hval hW _ _
  exact contract H enc W args ds gs before hval hW

theorem both {a b : Bool} (h : a = true) (h' : b = true) : (a && b) = true := by rw [h, h']; rfl
theorem j0 : (Rows.fnExactNextManiplexRow.wf (OpenSpec.ofChange Rows.fnExactNextManiplexSpec)) = true := by kernel_rfl
theorem j1 : (laidOutB Try.checked.prog) = true := by kernel_rfl
theorem j2 : (mapsRowed Try.checked.prog) = true := by kernel_rfl
theorem j3 : (Try.f13.params.all (Try.checked.prog.readableRec ·)) = true := by kernel_rfl
theorem j4 : (namedTie Try.checked.prog Rows.fnExactNextManiplexRow.named Rows.fnExactNextManiplexSpec.vars) = true := by kernel_rfl
theorem j5 : ((Rows.fnExactNextManiplexRow.stops == [])) = true := by kernel_rfl
theorem j6 : ((Try.checked.prog.stops == [])) = true := by kernel_rfl
theorem j7 : ((Rows.fnExactNextManiplexRow.knobs == [])) = true := by kernel_rfl
theorem j8 : ((Try.checked.prog.stopKnobs == [])) = true := by kernel_rfl
theorem j9 : ((Rows.fnExactNextManiplexRow.inPlace == Try.checked.prog.inPlace 13)) = true := by kernel_rfl
theorem j10 : ((Rows.fnExactNextManiplexRow.unfollowed == Try.checked.prog.unfollowed 13)) = true := by kernel_rfl
theorem j11 : ((Rows.fnExactNextManiplexRow.recurses == Try.checked.prog.recurses 13)) = true := by kernel_rfl
theorem j12 : ((Rows.fnExactNextManiplexRow.named == Try.checked.prog.varsNamed 13)) = true := by kernel_rfl
theorem j13 : ((Rows.fnExactNextManiplexRow.maps == (Try.f13.params.toList ++ Rows.fnExactNextManiplexSpec.plain.varTypes Try.checked.prog).any (Try.checked.prog.mapsRec ·))) = true := by kernel_rfl
theorem j14 : ((Rows.fnExactNextManiplexRow.ifaces == (Try.f13.params.toList ++ Rows.fnExactNextManiplexSpec.plain.varTypes Try.checked.prog).any (Try.checked.prog.ifacesRec ·))) = true := by kernel_rfl
theorem j15 : ((Rows.fnExactNextManiplexRow.mapsOut == Try.checked.prog.mapsAmong Try.f13.resultTypes.toList)) = true := by kernel_rfl
theorem j16 : ((Rows.fnExactNextManiplexRow.loops == (Try.f13.params.toList ++ Rows.fnExactNextManiplexSpec.plain.varTypes Try.checked.prog).any (Try.checked.prog.loopsFrom ·))) = true := by kernel_rfl
theorem j17 : ((Rows.fnExactNextManiplexRow.wideKeys == (Try.f13.params.toList ++ Rows.fnExactNextManiplexSpec.plain.varTypes Try.checked.prog ++ Try.f13.resultTypes.toList).any (Try.checked.prog.wideKeysFrom ·))) = true := by kernel_rfl
theorem j18 : (Rows.fnExactNextManiplexSpec.vars.all (Try.checked.prog.varReadable ·)) = true := by kernel_rfl
theorem j19 : (Try.f13.resultTypes.all (fun t => Try.checked.prog.readableRec t && decide (t < Try.checked.prog.types.size))) = true := by kernel_rfl
theorem j20 : ((Rows.fnExactNextManiplexRow.ifacesOut == Try.f13.resultTypes.toList.any (Try.checked.prog.ifacesRec ·))) = true := by kernel_rfl
theorem j21 : ((Rows.fnExactNextManiplexRow.loopsOut == Try.f13.resultTypes.toList.any (Try.checked.prog.loopsFrom ·))) = true := by kernel_rfl
theorem j22 : ((Rows.fnExactNextManiplexRow.plainKeys == Try.checked.prog.plainKeys)) = true := by kernel_rfl
theorem j23 : (Rows.fnExactNextManiplexRow.shortTexts.isNone) = true := by kernel_rfl
theorem j24 : (Try.checked.prog.stopsHeard) = true := by kernel_rfl
theorem j25 : (Try.checked.prog.mayEnter) = true := by kernel_rfl
theorem j26 : ((Rows.fnExactNextManiplexRow.lifted == Try.checked.prog.liftsFinal)) = true := by kernel_rfl
theorem j27 : ((Try.checked.prog.make == some Rows.fnExactNextManiplexRow.make)) = true := by kernel_rfl
theorem j29 : ((Rows.fnExactNextManiplexRow.pinned == Rows.fnExactNextManiplexRow.pinnedBy)) = true := by kernel_rfl
theorem j30 : ((Rows.fnExactNextManiplexRow.veiled == (Try.f13.params.toList ++ Rows.fnExactNextManiplexSpec.plain.varTypes Try.checked.prog ++ Try.f13.resultTypes.toList).any (Try.checked.prog.veiledRec ·))) = true := by kernel_rfl
theorem j31 : (Rows.fnExactNextManiplexRow.veiledFits Try.checked.prog Try.f13.params.toList (Try.f13.params.toList ++ Rows.fnExactNextManiplexSpec.plain.varTypes Try.checked.prog ++ Try.f13.resultTypes.toList)) = true := by kernel_rfl
theorem closed : joinedFacts Try.checked.prog 13 Try.f13 Rows.fnExactNextManiplexSpec Rows.fnExactNextManiplexRow = true := by
  unfold joinedFacts
  exact both (both (both (both (both (both (both (both (both (both (both (both (both (both (both (both (both (both (both (both (both (both (both (both (both (both (both (both (both (both (both (j0) j1) j2) j3) j4) j5) j6) j7) j8) j9) j10) j11) j12) j13) j14) j15) j16) j17) j18) j19) j20) j21) j22) j23) j24) j25) j26) j27) (by kernel_rfl)) j29) j30) j31
theorem name_ : Try.checked.prog.funcNamed Rows.fnExactNextManiplexRow.func = some 13 := by kernel_rfl
theorem wrap_ : Try.f13.isWrapper Try.checked.prog Rows.fnExactNextManiplexRow.wrapper Rows.fnExactNextManiplexRow.mainSum := by unfold Func.isWrapper; first | (rw [if_pos (by decide +kernel)]; kernel_rfl) | (rw [if_neg (by decide +kernel)]; exact ⟨rfl, rfl⟩)

theorem proved : Rows.FnExactNextManiplexSaid :=
  OpenClaim.holds_of_wide 13 Try.f13 rfl rfl rfl rfl rfl rfl rfl ⟨rfl, rfl, rfl, rfl, rfl⟩ rfl rfl rfl rfl rfl name_ Try.func13 closed
    (of_decide_eq_true (by kernel_rfl)) wrap_ (fun os started H enc _ => lifted os started H enc)
end Go.Proofs.Ytgobjpcankaicaa.FnExactNextManiplex
#print axioms Go.Proofs.Ytgobjpcankaicaa.FnExactNextManiplex.proved
