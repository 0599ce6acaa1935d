/-
  The statement FnPosetFlagsCardSaid is proved (the tied card): the law FnPosetFlags returns true, and its arguments read as they did. Conditions: none.
-/
import Derived.Test.YtopgfgdgfjddpaaGreatDoorRows
import Derived.Test.YtopgfgdgfjddpaaGreatDoorZi
import Derived.Test.YtopgfgdgfjddpaaGreatDoorCards
import Derived.Test.YtopgfgdgfjddpaaGreatDoorTie
import Derived.LaidLaws
import Derived.Lay
import Derived.LaidMore
import Derived.MakeChecks
import Derived.Stop.LaidErr
import Derived.Stop.Joined
import Derived.Lib.LaidTab
import Derived.SevenTiedAt
namespace Go.Proofs.YtopgfgdgfjddpaaGreatDoor.FnPosetFlagsCard
open Go.ChangeShapes Go.WideShapes Go.ChangeAt Go.RowKit Go.Proofs.YtopgfgdgfjddpaaGreatDoor.Vc

theorem cr : Tryz.prog.cellsOf 32 = 1 := by kernel_rfl
theorem ci : Tryz.prog.cellsOf 2 = 1 := by kernel_rfl
theorem cm : Tryz.prog.cellsOf 22 = 1 := by kernel_rfl
theorem cy : Tryz.prog.cellsOf 5 = 1 := by kernel_rfl
theorem gT : Tryz.prog.globalNamed "internal/strconv.uint64pow10" = some 0 := by kernel_rfl
theorem tabAt : (Tryz.prog.globals[0]?).map (·.type) = some 246 := by kernel_rfl
theorem ctab : Tryz.prog.cellsOf 246 = 20 := by kernel_rfl
theorem cu : Tryz.prog.cellsOf 116 = 1 := by kernel_rfl
theorem plainLaid : Rows.fnPosetFlagsRow.laid.all (fun x => x.2.handleName?.isNone) = true := by kernel_rfl
theorem tab_of {W : World} (h : laidMetH Tryz.prog Rows.fnPosetFlagsRow.laid W) : Tab W := by
  rw [MakeChecks.laidMetH_plain _ _ _ plainLaid] at h
  have h3 : laidMet Tryz.prog [("internal/strconv.uint64pow10", Rows.laid_internal_strconv_uint64pow10)] W := laidMet.tail (laidMet.tail h)
  exact Lib.tabIs_of_head gT tabAt Tryz.underlying246 Tryz.underlying116 cu ctab (rest := []) (show laidMet Tryz.prog [("internal/strconv.uint64pow10", Lib.tabData .u64 Lib.pow10Tab)] W from h3)

set_option maxRecDepth 100000 in
theorem contract (H : Type) (enc : TypeId × Value → H) (W : World) (args : Array Value) (ds gs : List (DataW H)) (before : List MemPlace)
    (hval : ∀ (j : Nat) t v, Tryz.f6.params[j]? = some t → args[j]? = some v → Value.okWide Tryz.prog W .any 0 t v)
    (hL : laidMetH Tryz.prog Rows.fnPosetFlagsRow.laid W)
    (hW : DataW.Whole enc Tryz.prog Tryz.f6.params.toList Rows.fnPosetFlagsSpec.vars false W args.toList ds gs before) :
    Calls Tryz.prog 6 args W fun e W' => ∃ v, e = .returned v ∧ Rows.fnPosetFlagsSpec.post enc Tryz.prog Tryz.f6 false true false false W args v W' := by
  have hW' := hW
  obtain ⟨p, q, hA0, hV, rfl, _, _⟩ := hW
  have hA : DataW.TrodAll enc Tryz.prog W 0 (fun _ => true) true Tryz.f6.params.toList args.toList ds p := hA0
  rw [Tryz.params6] at hA hval
  obtain ⟨v0, vs0, d0, ds0, p0, q0, hargs, rfl, rfl, h0, r0⟩ := trodAll_cons hA
  obtain ⟨rfl, rfl, rfl⟩ := trodAll_nil r0
  obtain rfl : args = #[v0] := by cases args; simp_all
  obtain ⟨rfl, rfl⟩ := trodVars_none hV
  obtain ⟨A0, m0, k0, x0, rfl, hR0, hn0, hk0⟩ := open_ybs Tryz.underlying30 Tryz.underlying5 cy (hval 0 30 v0 rfl rfl) h0
  clear hA0
  refine Calls.mono (FnPosetFlags_c A0 m0 k0 x0 W (tab_of hL) hR0) fun e W' ⟨v, he, hv, hst⟩ => ?_
  subst he hv
  exact ⟨_, rfl, post_law laid Tryz.underlying4 rfl rfl (by kernel_rfl) ⟨rfl, rfl, rfl⟩ hW' hst.below⟩

theorem laid_met (os : Os) (args : Array Value) : laidMetH Tryz.prog Rows.fnPosetFlagsRow.laid ((World.laidAll Tryz.prog os Rows.fnPosetFlagsRow.laid).forCall (fun _ _ => 0) ⟨#[], args, []⟩).memory := by
  rw [MakeChecks.laidMetH_plain _ _ _ plainLaid]
  exact laidMet_laidAll _ (by kernel_rfl) (by kernel_rfl)
set_option maxRecDepth 100000 in
theorem lifted (os : Os) (started : os.Started) (H : Type) (enc : TypeId × Value → H) :
    ReturnsInHanded {} Tryz.checked os 6 .any (fun w args => (Rows.fnPosetFlagsSpec.pre enc Tryz.prog Tryz.f6 Rows.fnPosetFlagsRow.domain false w args ∧ laidMetH Tryz.prog Rows.fnPosetFlagsRow.laid w) ∧ sizedMet enc Tryz.prog Tryz.f6 (OpenSpec.ofChange Rows.fnPosetFlagsSpec) false w args)
      (Rows.fnPosetFlagsSpec.post enc Tryz.prog Tryz.f6 false true false false) := by
  refine returnsInHanded_of_change_and (C := Tryz.checked) (X := fun w _ => laidMetH Tryz.prog Rows.fnPosetFlagsRow.laid w) (fun _ _ _ hh h => h.of_heap hh) own started (by kernel_rfl) Tryz.func6
    (ChangeSpec.witness_at (enc := enc) (C := Tryz.checked) (os := os) (X := fun w _ => laidMetH Tryz.prog Rows.fnPosetFlagsRow.laid w) false (World.laidAll Tryz.prog os Rows.fnPosetFlagsRow.laid) #[.slice none 0 0] 8 (World.laidAll_os _ _ _) (by kernel_rfl) (by kernel_rfl) (by kernel_rfl) (by kernel_rfl) (by kernel_rfl) (laid_met os _)) ?_
  intro W base args ds gs before hval hW _ _ hL _
  exact contract H enc W args ds gs before hval hL hW

theorem both {a b : Bool} (h : a = true) (h' : b = true) : (a && b) = true := by rw [h, h']; rfl
theorem j0 : (Rows.fnPosetFlagsRow.wf (OpenSpec.ofChange Rows.fnPosetFlagsSpec)) = true := by kernel_rfl
theorem j1 : (laidOutB Tryz.checked.prog) = true := by kernel_rfl
theorem j2 : (mapsRowed Tryz.checked.prog) = true := by kernel_rfl
theorem j3 : (Tryz.f6.params.all (Tryz.checked.prog.readableRec ·)) = true := by kernel_rfl
theorem j4 : (namedTie Tryz.checked.prog Rows.fnPosetFlagsRow.named Rows.fnPosetFlagsSpec.vars) = true := by kernel_rfl
theorem j5 : ((Rows.fnPosetFlagsRow.stops == [])) = true := by kernel_rfl
theorem j6 : ((Tryz.checked.prog.stops == [])) = true := by kernel_rfl
theorem j7 : ((Rows.fnPosetFlagsRow.knobs == [])) = true := by kernel_rfl
theorem j8 : ((Tryz.checked.prog.stopKnobs == [])) = true := by kernel_rfl
theorem j9 : ((Rows.fnPosetFlagsRow.inPlace == Tryz.checked.prog.inPlace 6)) = true := by kernel_rfl
theorem j10 : ((Rows.fnPosetFlagsRow.unfollowed == Tryz.checked.prog.unfollowed 6)) = true := by kernel_rfl
theorem j11 : ((Rows.fnPosetFlagsRow.recurses == Tryz.checked.prog.recurses 6)) = true := by kernel_rfl
theorem j12 : ((Rows.fnPosetFlagsRow.named == Tryz.checked.prog.varsNamed 6)) = true := by kernel_rfl
theorem j13 : ((Rows.fnPosetFlagsRow.maps == (Tryz.f6.params.toList ++ Rows.fnPosetFlagsSpec.plain.varTypes Tryz.checked.prog).any (Tryz.checked.prog.mapsRec ·))) = true := by kernel_rfl
theorem j14 : ((Rows.fnPosetFlagsRow.ifaces == (Tryz.f6.params.toList ++ Rows.fnPosetFlagsSpec.plain.varTypes Tryz.checked.prog).any (Tryz.checked.prog.ifacesRec ·))) = true := by kernel_rfl
theorem j15 : ((Rows.fnPosetFlagsRow.mapsOut == Tryz.checked.prog.mapsAmong Tryz.f6.resultTypes.toList)) = true := by kernel_rfl
theorem j16 : ((Rows.fnPosetFlagsRow.loops == (Tryz.f6.params.toList ++ Rows.fnPosetFlagsSpec.plain.varTypes Tryz.checked.prog).any (Tryz.checked.prog.loopsFrom ·))) = true := by kernel_rfl
theorem j17 : ((Rows.fnPosetFlagsRow.wideKeys == (Tryz.f6.params.toList ++ Rows.fnPosetFlagsSpec.plain.varTypes Tryz.checked.prog ++ Tryz.f6.resultTypes.toList).any (Tryz.checked.prog.wideKeysFrom ·))) = true := by kernel_rfl
theorem j18 : (Rows.fnPosetFlagsSpec.vars.all (Tryz.checked.prog.varReadable ·)) = true := by kernel_rfl
theorem j19 : (Tryz.f6.resultTypes.all (fun t => Tryz.checked.prog.readableRec t && decide (t < Tryz.checked.prog.types.size))) = true := by kernel_rfl
theorem j20 : ((Rows.fnPosetFlagsRow.ifacesOut == Tryz.f6.resultTypes.toList.any (Tryz.checked.prog.ifacesRec ·))) = true := by kernel_rfl
theorem j21 : ((Rows.fnPosetFlagsRow.loopsOut == Tryz.f6.resultTypes.toList.any (Tryz.checked.prog.loopsFrom ·))) = true := by kernel_rfl
theorem j22 : ((Rows.fnPosetFlagsRow.plainKeys == Tryz.checked.prog.plainKeys)) = true := by kernel_rfl
theorem j23 : (Rows.fnPosetFlagsRow.shortTexts.isNone) = true := by kernel_rfl
theorem j24 : (Tryz.checked.prog.stopsHeard) = true := by kernel_rfl
theorem j25 : (Tryz.checked.prog.mayEnter) = true := by kernel_rfl
theorem j26 : ((Rows.fnPosetFlagsRow.lifted == Tryz.checked.prog.liftsFinal)) = true := by kernel_rfl
theorem j27 : ((Tryz.checked.prog.make == some Rows.fnPosetFlagsRow.make)) = true := by kernel_rfl
theorem j29 : ((Rows.fnPosetFlagsRow.pinned == Rows.fnPosetFlagsRow.pinnedBy)) = true := by kernel_rfl
theorem j30 : ((Rows.fnPosetFlagsRow.veiled == (Tryz.f6.params.toList ++ Rows.fnPosetFlagsSpec.plain.varTypes Tryz.checked.prog ++ Tryz.f6.resultTypes.toList).any (Tryz.checked.prog.veiledRec ·))) = true := by kernel_rfl
theorem j31 : (Rows.fnPosetFlagsRow.veiledFits Tryz.checked.prog Tryz.f6.params.toList (Tryz.f6.params.toList ++ Rows.fnPosetFlagsSpec.plain.varTypes Tryz.checked.prog ++ Tryz.f6.resultTypes.toList)) = true := by kernel_rfl
theorem closed : joinedFacts Tryz.checked.prog 6 Tryz.f6 Rows.fnPosetFlagsSpec Rows.fnPosetFlagsRow = true := by
  unfold joinedFacts
  exact both (both (both (both (both (both (both (both (both (both (both (both (both (both (both (both (both (both (both (both (both (both (both (both (both (both (both (both (both (both (both (j0) j1) j2) j3) j4) j5) j6) j7) j8) j9) j10) j11) j12) j13) j14) j15) j16) j17) j18) j19) j20) j21) j22) j23) j24) j25) j26) j27) (by kernel_rfl)) j29) j30) j31
theorem name_ : Tryz.checked.prog.funcNamed Rows.fnPosetFlagsRow.func = some 6 := by kernel_rfl
theorem wrap_ : Tryz.f6.isWrapper Tryz.checked.prog Rows.fnPosetFlagsRow.wrapper Rows.fnPosetFlagsRow.mainSum := by unfold Func.isWrapper; first | (rw [if_pos (by decide +kernel)]; kernel_rfl) | (rw [if_neg (by decide +kernel)]; exact ⟨rfl, rfl⟩)

theorem row : Rows.FnPosetFlagsSaid :=
  OpenClaim.holds_of_wide 6 Tryz.f6 rfl rfl rfl rfl rfl rfl rfl ⟨rfl, rfl, rfl, rfl, rfl⟩ rfl rfl rfl rfl rfl name_ Tryz.func6 closed
    (of_decide_eq_true (by kernel_rfl)) wrap_ (fun os started H enc _ => lifted os started H enc)
theorem kwf : Rows.fnPosetFlagsRow.wfByText (OpenSpec.ofChange Rows.fnPosetFlagsSpec) = true := by kernel_rfl
theorem kmain : Tryz.checked.prog.mainIs = some (true, "473dc7890431d33d033d1c90a124aba5a91054791f7b215955d63ad2420e511d".toList) := by kernel_rfl
theorem klooks : false = Tryz.checked.prog.looks [] := by kernel_rfl
theorem kgoes : false = Rows.fnPosetFlagsRow.goesBy Tryz.checked.prog := by kernel_rfl
theorem standIn : Tryz.f6.params.all (fun t => !Tryz.prog.wantsStandIn t) = true := by kernel_rfl
theorem proved : Rows.FnPosetFlagsCardSaid :=
  Claim7.holds_tied_plain_at .later [] [.data, .data, .data] true (true, "473dc7890431d33d033d1c90a124aba5a91054791f7b215955d63ad2420e511d") false
    row (fun _ h => by cases h) kwf (fun _ h => by cases h) fnPosetFlags_row_tie rfl ⟨rfl, rfl⟩ kmain rfl
    (fun f fn hf hfn => by
      obtain rfl : f = 6 := (Option.some.inj (name_.symm.trans hf)).symm
      obtain rfl : fn = Tryz.f6 := (Option.some.inj (Tryz.func6.symm.trans hfn)).symm
      exact ⟨klooks, fun j t ht => by
        have hm : t ∈ (Tryz.f6).params := Array.mem_of_getElem? ht
        have h' := Array.all_eq_true_iff_forall_mem.1 standIn t hm
        show Tryz.prog.wantsStandIn t = false
        simpa using h'⟩)
    kgoes
end Go.Proofs.YtopgfgdgfjddpaaGreatDoor.FnPosetFlagsCard
#print axioms Go.Proofs.YtopgfgdgfjddpaaGreatDoor.FnPosetFlagsCard.proved
