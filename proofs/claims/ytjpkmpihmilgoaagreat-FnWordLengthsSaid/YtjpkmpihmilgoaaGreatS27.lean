/-
  The statement FnWordLengthsSaid is proved: the law FnWordLengths returns true, and its arguments read as they did. Conditions: none.
-/
import Derived.Test.YtjpkmpihmilgoaaGreatRows
import Derived.Test.YtjpkmpihmilgoaaGreatZi
namespace Go.Proofs.YtjpkmpihmilgoaaGreat.FnWordLengths
open Go.ChangeShapes Go.WideShapes Go.ChangeAt Go.RowKit Go.Proofs.YtjpkmpihmilgoaaGreat.Vc

theorem cy : Tryz.prog.cellsOf 5 = 1 := by kernel_rfl
set_option maxRecDepth 100000 in
theorem contract (H : Type) (enc : TypeId × Value → H) (W : World) (args : Array Value) (ds gs : List (DataW H)) (before : List MemPlace)
    (hval : ∀ (j : Nat) t v, Tryz.f4.params[j]? = some t → args[j]? = some v → Value.okWide Tryz.prog W .any 0 t v)
    (hW : DataW.Whole enc Tryz.prog Tryz.f4.params.toList Rows.fnWordLengthsSpec.vars false W args.toList ds gs before) :
    Calls Tryz.prog 4 args W fun e W' => ∃ v, e = .returned v ∧ Rows.fnWordLengthsSpec.post enc Tryz.prog Tryz.f4 false true false false W args v W' := by
  have hW' := hW
  obtain ⟨p, q, hA0, hV, rfl, _, _⟩ := hW
  have hA : DataW.TrodAll enc Tryz.prog W 0 (fun _ => true) true Tryz.f4.params.toList args.toList ds p := hA0
  rw [Tryz.params4] at hA hval
  obtain ⟨v0, vs0, d0, ds0, p0, q0, hargs, rfl, rfl, h0, r0⟩ := trodAll_cons hA
  obtain ⟨rfl, rfl, rfl⟩ := trodAll_nil r0
  obtain rfl : args = #[v0] := by cases args; simp_all
  obtain ⟨rfl, rfl⟩ := trodVars_none hV
  obtain ⟨A0, m0, k0, x0, rfl, hR0, hn0, hk0⟩ := open_ybs Tryz.underlying22 Tryz.underlying5 cy (hval 0 22 v0 rfl rfl) h0
  clear hA0
  refine Calls.mono (FnWordLengths_c A0 m0 k0 x0 W hR0) fun e W' ⟨v, he, hv, hst⟩ => ?_
  subst he hv
  exact ⟨_, rfl, post_law laid Tryz.underlying4 rfl rfl (by kernel_rfl) ⟨rfl, rfl, rfl⟩ hW' hst.below⟩

set_option maxRecDepth 100000 in
theorem lifted (os : Os) (started : os.Started) (H : Type) (enc : TypeId × Value → H) :
    ReturnsInHanded {} Tryz.checked os 4 .any (Rows.fnWordLengthsSpec.pre6 enc Tryz.prog Tryz.f4 Rows.fnWordLengthsRow.domain false) (Rows.fnWordLengthsSpec.post enc Tryz.prog Tryz.f4 false true false false) := by
  refine returnsInHanded_of_change (C := Tryz.checked) own started (by kernel_rfl) Tryz.func4
    (ChangeSpec.witness6 (enc := enc) (C := Tryz.checked) false ⟨#[], #[.slice none 0 0], []⟩ 8 (by kernel_rfl) (by kernel_rfl) (by kernel_rfl) (by kernel_rfl)) ?_
  intro W base args ds gs before hval hW _ _
  exact contract H enc W args ds gs before hval hW

theorem both {a b : Bool} (h : a = true) (h' : b = true) : (a && b) = true := by rw [h, h']; rfl
theorem j0 : (Rows.fnWordLengthsRow.wf (OpenSpec.ofChange Rows.fnWordLengthsSpec)) = true := by kernel_rfl
theorem j1 : (laidOutB Tryz.checked.prog) = true := by kernel_rfl
theorem j2 : (mapsRowed Tryz.checked.prog) = true := by kernel_rfl
theorem j3 : (Tryz.f4.params.all (Tryz.checked.prog.readableRec ·)) = true := by kernel_rfl
theorem j4 : (namedTie Tryz.checked.prog Rows.fnWordLengthsRow.named Rows.fnWordLengthsSpec.vars) = true := by kernel_rfl
theorem j5 : ((Rows.fnWordLengthsRow.stops == [])) = true := by kernel_rfl
theorem j6 : ((Tryz.checked.prog.stops == [])) = true := by kernel_rfl
theorem j7 : ((Rows.fnWordLengthsRow.knobs == [])) = true := by kernel_rfl
theorem j8 : ((Tryz.checked.prog.stopKnobs == [])) = true := by kernel_rfl
theorem j9 : ((Rows.fnWordLengthsRow.inPlace == Tryz.checked.prog.inPlace 4)) = true := by kernel_rfl
theorem j10 : ((Rows.fnWordLengthsRow.unfollowed == Tryz.checked.prog.unfollowed 4)) = true := by kernel_rfl
theorem j11 : ((Rows.fnWordLengthsRow.recurses == Tryz.checked.prog.recurses 4)) = true := by kernel_rfl
theorem j12 : ((Rows.fnWordLengthsRow.named == Tryz.checked.prog.varsNamed 4)) = true := by kernel_rfl
theorem j13 : ((Rows.fnWordLengthsRow.maps == (Tryz.f4.params.toList ++ Rows.fnWordLengthsSpec.plain.varTypes Tryz.checked.prog).any (Tryz.checked.prog.mapsRec ·))) = true := by kernel_rfl
theorem j14 : ((Rows.fnWordLengthsRow.ifaces == (Tryz.f4.params.toList ++ Rows.fnWordLengthsSpec.plain.varTypes Tryz.checked.prog).any (Tryz.checked.prog.ifacesRec ·))) = true := by kernel_rfl
theorem j15 : ((Rows.fnWordLengthsRow.mapsOut == Tryz.checked.prog.mapsAmong Tryz.f4.resultTypes.toList)) = true := by kernel_rfl
theorem j16 : ((Rows.fnWordLengthsRow.loops == (Tryz.f4.params.toList ++ Rows.fnWordLengthsSpec.plain.varTypes Tryz.checked.prog).any (Tryz.checked.prog.loopsFrom ·))) = true := by kernel_rfl
theorem j17 : ((Rows.fnWordLengthsRow.wideKeys == (Tryz.f4.params.toList ++ Rows.fnWordLengthsSpec.plain.varTypes Tryz.checked.prog ++ Tryz.f4.resultTypes.toList).any (Tryz.checked.prog.wideKeysFrom ·))) = true := by kernel_rfl
theorem j18 : (Rows.fnWordLengthsSpec.vars.all (Tryz.checked.prog.varReadable ·)) = true := by kernel_rfl
theorem j19 : (Tryz.f4.resultTypes.all (fun t => Tryz.checked.prog.readableRec t && decide (t < Tryz.checked.prog.types.size))) = true := by kernel_rfl
theorem j20 : ((Rows.fnWordLengthsRow.ifacesOut == Tryz.f4.resultTypes.toList.any (Tryz.checked.prog.ifacesRec ·))) = true := by kernel_rfl
theorem j21 : ((Rows.fnWordLengthsRow.loopsOut == Tryz.f4.resultTypes.toList.any (Tryz.checked.prog.loopsFrom ·))) = true := by kernel_rfl
theorem j22 : ((Rows.fnWordLengthsRow.plainKeys == Tryz.checked.prog.plainKeys)) = true := by kernel_rfl
theorem j23 : (Rows.fnWordLengthsRow.shortTexts.isNone) = true := by kernel_rfl
theorem j24 : (Tryz.checked.prog.stopsHeard) = true := by kernel_rfl
theorem j25 : (Tryz.checked.prog.mayEnter) = true := by kernel_rfl
theorem j26 : ((Rows.fnWordLengthsRow.lifted == Tryz.checked.prog.liftsFinal)) = true := by kernel_rfl
theorem j27 : ((Tryz.checked.prog.make == some Rows.fnWordLengthsRow.make)) = true := by kernel_rfl
theorem j29 : ((Rows.fnWordLengthsRow.pinned == Rows.fnWordLengthsRow.pinnedBy)) = true := by kernel_rfl
theorem j30 : ((Rows.fnWordLengthsRow.veiled == (Tryz.f4.params.toList ++ Rows.fnWordLengthsSpec.plain.varTypes Tryz.checked.prog ++ Tryz.f4.resultTypes.toList).any (Tryz.checked.prog.veiledRec ·))) = true := by kernel_rfl
theorem j31 : (Rows.fnWordLengthsRow.veiledFits Tryz.checked.prog Tryz.f4.params.toList (Tryz.f4.params.toList ++ Rows.fnWordLengthsSpec.plain.varTypes Tryz.checked.prog ++ Tryz.f4.resultTypes.toList)) = true := by kernel_rfl
theorem closed : joinedFacts Tryz.checked.prog 4 Tryz.f4 Rows.fnWordLengthsSpec Rows.fnWordLengthsRow = true := by
  unfold joinedFacts
  exact both (both (both (both (both (both (both (both (both (both (both (both (both (both (both (both (both (both (both (both (both (both (both (both (both (both (both (both (both (both (both (j0) j1) j2) j3) j4) j5) j6) j7) j8) j9) j10) j11) j12) j13) j14) j15) j16) j17) j18) j19) j20) j21) j22) j23) j24) j25) j26) j27) (by kernel_rfl)) j29) j30) j31
theorem name_ : Tryz.checked.prog.funcNamed Rows.fnWordLengthsRow.func = some 4 := by kernel_rfl
theorem wrap_ : Tryz.f4.isWrapper Tryz.checked.prog Rows.fnWordLengthsRow.wrapper Rows.fnWordLengthsRow.mainSum := by unfold Func.isWrapper; first | (rw [if_pos (by decide +kernel)]; kernel_rfl) | (rw [if_neg (by decide +kernel)]; exact ⟨rfl, rfl⟩)

theorem proved : Rows.FnWordLengthsSaid :=
  OpenClaim.holds_of_wide 4 Tryz.f4 rfl rfl rfl rfl rfl rfl rfl ⟨rfl, rfl, rfl, rfl, rfl⟩ rfl rfl rfl rfl rfl name_ Tryz.func4 closed
    (of_decide_eq_true (by kernel_rfl)) wrap_ (fun os started H enc _ => lifted os started H enc)
end Go.Proofs.YtjpkmpihmilgoaaGreat.FnWordLengths
#print axioms Go.Proofs.YtjpkmpihmilgoaaGreat.FnWordLengths.proved
