/-
  The statement FnDistancesSaid is proved: the law FnDistances returns true, and its arguments read as they did. Conditions: none.
-/
import Derived.Test.YtjpkmpihmilgoaaGreatRows
import Derived.Test.YtjpkmpihmilgoaaGreatZj
namespace Go.Proofs.YtjpkmpihmilgoaaGreat.FnDistances
open Go.ChangeShapes Go.WideShapes Go.ChangeAt Go.RowKit Go.Proofs.YtjpkmpihmilgoaaGreat.Vc

theorem cy : Tryz.prog.cellsOf 5 = 1 := by kernel_rfl
set_option maxRecDepth 100000 in
theorem contract (H : Type) (enc : TypeId × Value → H) (W : World) (args : Array Value) (ds gs : List (DataW H)) (before : List MemPlace)
    (hval : ∀ (j : Nat) t v, Tryz.f5.params[j]? = some t → args[j]? = some v → Value.okWide Tryz.prog W .any 0 t v)
    (hW : DataW.Whole enc Tryz.prog Tryz.f5.params.toList Rows.fnDistancesSpec.vars false W args.toList ds gs before) :
    Calls Tryz.prog 5 args W fun e W' => ∃ v, e = .returned v ∧ Rows.fnDistancesSpec.post enc Tryz.prog Tryz.f5 false true false false W args v W' := by
  have hW' := hW
  obtain ⟨p, q, hA0, hV, rfl, _, _⟩ := hW
  have hA : DataW.TrodAll enc Tryz.prog W 0 (fun _ => true) true Tryz.f5.params.toList args.toList ds p := hA0
  rw [Tryz.params5] at hA hval
  obtain ⟨v0, vs0, d0, ds0, p0, q0, hargs, rfl, rfl, h0, r0⟩ := trodAll_cons hA
  obtain ⟨rfl, rfl, rfl⟩ := trodAll_nil r0
  obtain rfl : args = #[v0] := by cases args; simp_all
  obtain ⟨rfl, rfl⟩ := trodVars_none hV
  obtain ⟨A0, m0, k0, x0, rfl, hR0, hn0, hk0⟩ := open_ybs Tryz.underlying22 Tryz.underlying5 cy (hval 0 22 v0 rfl rfl) h0
  clear hA0
  refine Calls.mono (FnDistances_c A0 m0 k0 x0 W hR0) fun e W' ⟨v, he, hv, hst⟩ => ?_
  subst he hv
  exact ⟨_, rfl, post_law laid Tryz.underlying4 rfl rfl (by kernel_rfl) ⟨rfl, rfl, rfl⟩ hW' hst.below⟩

set_option maxRecDepth 100000 in
theorem lifted (os : Os) (started : os.Started) (H : Type) (enc : TypeId × Value → H) :
    ReturnsInHanded {} Tryz.checked os 5 .any (Rows.fnDistancesSpec.pre6 enc Tryz.prog Tryz.f5 Rows.fnDistancesRow.domain false) (Rows.fnDistancesSpec.post enc Tryz.prog Tryz.f5 false true false false) := by
  refine returnsInHanded_of_change (C := Tryz.checked) own started (by kernel_rfl) Tryz.func5
    (ChangeSpec.witness6 (enc := enc) (C := Tryz.checked) false ⟨#[], #[.slice none 0 0], []⟩ 8 (by kernel_rfl) (by kernel_rfl) (by kernel_rfl) (by kernel_rfl)) ?_
  intro W base args ds gs before hval hW _ _
  exact contract H enc W args ds gs before hval hW

theorem both {a b : Bool} (h : a = true) (h' : b = true) : (a && b) = true := by rw [h, h']; rfl
theorem j0 : (Rows.fnDistancesRow.wf (OpenSpec.ofChange Rows.fnDistancesSpec)) = true := by kernel_rfl
theorem j1 : (laidOutB Tryz.checked.prog) = true := by kernel_rfl
theorem j2 : (mapsRowed Tryz.checked.prog) = true := by kernel_rfl
theorem j3 : (Tryz.f5.params.all (Tryz.checked.prog.readableRec ·)) = true := by kernel_rfl
theorem j4 : (namedTie Tryz.checked.prog Rows.fnDistancesRow.named Rows.fnDistancesSpec.vars) = true := by kernel_rfl
theorem j5 : ((Rows.fnDistancesRow.stops == [])) = true := by kernel_rfl
theorem j6 : ((Tryz.checked.prog.stops == [])) = true := by kernel_rfl
theorem j7 : ((Rows.fnDistancesRow.knobs == [])) = true := by kernel_rfl
theorem j8 : ((Tryz.checked.prog.stopKnobs == [])) = true := by kernel_rfl
theorem j9 : ((Rows.fnDistancesRow.inPlace == Tryz.checked.prog.inPlace 5)) = true := by kernel_rfl
theorem j10 : ((Rows.fnDistancesRow.unfollowed == Tryz.checked.prog.unfollowed 5)) = true := by kernel_rfl
theorem j11 : ((Rows.fnDistancesRow.recurses == Tryz.checked.prog.recurses 5)) = true := by kernel_rfl
theorem j12 : ((Rows.fnDistancesRow.named == Tryz.checked.prog.varsNamed 5)) = true := by kernel_rfl
theorem j13 : ((Rows.fnDistancesRow.maps == (Tryz.f5.params.toList ++ Rows.fnDistancesSpec.plain.varTypes Tryz.checked.prog).any (Tryz.checked.prog.mapsRec ·))) = true := by kernel_rfl
theorem j14 : ((Rows.fnDistancesRow.ifaces == (Tryz.f5.params.toList ++ Rows.fnDistancesSpec.plain.varTypes Tryz.checked.prog).any (Tryz.checked.prog.ifacesRec ·))) = true := by kernel_rfl
theorem j15 : ((Rows.fnDistancesRow.mapsOut == Tryz.checked.prog.mapsAmong Tryz.f5.resultTypes.toList)) = true := by kernel_rfl
theorem j16 : ((Rows.fnDistancesRow.loops == (Tryz.f5.params.toList ++ Rows.fnDistancesSpec.plain.varTypes Tryz.checked.prog).any (Tryz.checked.prog.loopsFrom ·))) = true := by kernel_rfl
theorem j17 : ((Rows.fnDistancesRow.wideKeys == (Tryz.f5.params.toList ++ Rows.fnDistancesSpec.plain.varTypes Tryz.checked.prog ++ Tryz.f5.resultTypes.toList).any (Tryz.checked.prog.wideKeysFrom ·))) = true := by kernel_rfl
theorem j18 : (Rows.fnDistancesSpec.vars.all (Tryz.checked.prog.varReadable ·)) = true := by kernel_rfl
theorem j19 : (Tryz.f5.resultTypes.all (fun t => Tryz.checked.prog.readableRec t && decide (t < Tryz.checked.prog.types.size))) = true := by kernel_rfl
theorem j20 : ((Rows.fnDistancesRow.ifacesOut == Tryz.f5.resultTypes.toList.any (Tryz.checked.prog.ifacesRec ·))) = true := by kernel_rfl
theorem j21 : ((Rows.fnDistancesRow.loopsOut == Tryz.f5.resultTypes.toList.any (Tryz.checked.prog.loopsFrom ·))) = true := by kernel_rfl
theorem j22 : ((Rows.fnDistancesRow.plainKeys == Tryz.checked.prog.plainKeys)) = true := by kernel_rfl
theorem j23 : (Rows.fnDistancesRow.shortTexts.isNone) = true := by kernel_rfl
theorem j24 : (Tryz.checked.prog.stopsHeard) = true := by kernel_rfl
theorem j25 : (Tryz.checked.prog.mayEnter) = true := by kernel_rfl
theorem j26 : ((Rows.fnDistancesRow.lifted == Tryz.checked.prog.liftsFinal)) = true := by kernel_rfl
theorem j27 : ((Tryz.checked.prog.make == some Rows.fnDistancesRow.make)) = true := by kernel_rfl
theorem j29 : ((Rows.fnDistancesRow.pinned == Rows.fnDistancesRow.pinnedBy)) = true := by kernel_rfl
theorem j30 : ((Rows.fnDistancesRow.veiled == (Tryz.f5.params.toList ++ Rows.fnDistancesSpec.plain.varTypes Tryz.checked.prog ++ Tryz.f5.resultTypes.toList).any (Tryz.checked.prog.veiledRec ·))) = true := by kernel_rfl
theorem j31 : (Rows.fnDistancesRow.veiledFits Tryz.checked.prog Tryz.f5.params.toList (Tryz.f5.params.toList ++ Rows.fnDistancesSpec.plain.varTypes Tryz.checked.prog ++ Tryz.f5.resultTypes.toList)) = true := by kernel_rfl
theorem closed : joinedFacts Tryz.checked.prog 5 Tryz.f5 Rows.fnDistancesSpec Rows.fnDistancesRow = true := by
  unfold joinedFacts
  exact both (both (both (both (both (both (both (both (both (both (both (both (both (both (both (both (both (both (both (both (both (both (both (both (both (both (both (both (both (both (both (j0) j1) j2) j3) j4) j5) j6) j7) j8) j9) j10) j11) j12) j13) j14) j15) j16) j17) j18) j19) j20) j21) j22) j23) j24) j25) j26) j27) (by kernel_rfl)) j29) j30) j31
theorem name_ : Tryz.checked.prog.funcNamed Rows.fnDistancesRow.func = some 5 := by kernel_rfl
theorem wrap_ : Tryz.f5.isWrapper Tryz.checked.prog Rows.fnDistancesRow.wrapper Rows.fnDistancesRow.mainSum := by unfold Func.isWrapper; first | (rw [if_pos (by decide +kernel)]; kernel_rfl) | (rw [if_neg (by decide +kernel)]; exact ⟨rfl, rfl⟩)

theorem proved : Rows.FnDistancesSaid :=
  OpenClaim.holds_of_wide 5 Tryz.f5 rfl rfl rfl rfl rfl rfl rfl ⟨rfl, rfl, rfl, rfl, rfl⟩ rfl rfl rfl rfl rfl name_ Tryz.func5 closed
    (of_decide_eq_true (by kernel_rfl)) wrap_ (fun os started H enc _ => lifted os started H enc)
end Go.Proofs.YtjpkmpihmilgoaaGreat.FnDistances
#print axioms Go.Proofs.YtjpkmpihmilgoaaGreat.FnDistances.proved
