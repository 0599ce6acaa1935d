/-
  The statement FnExactNamedPolytopeCardSaid is proved (the tied card): the law FnExactNamedPolytope returns true, and its arguments read as they did. Conditions: none.
-/
import Derived.Test.YtkccgdhcpplblaaGreatDoorRows
import Derived.Test.YtkccgdhcpplblaaGreatDoorZm
import Derived.Test.YtkccgdhcpplblaaGreatDoorCards
import Derived.Test.YtkccgdhcpplblaaGreatDoorTie
import Derived.LaidLaws
import Derived.Lay
import Derived.LaidMore
import Derived.MakeChecks
import Derived.Stop.LaidErr
import Derived.Stop.Joined
import Derived.Lib.LaidTab
import Derived.SevenTiedAt
namespace Go.Proofs.YtkccgdhcpplblaaGreatDoor.FnExactNamedPolytopeCard
open Go.ChangeShapes Go.WideShapes Go.ChangeAt Go.RowKit Go.Proofs.YtkccgdhcpplblaaGreatDoor.Vc
theorem cr:Tryz.prog.cellsOf 34=1:=by kernel_rfl
theorem ci:Tryz.prog.cellsOf 2=1:=by kernel_rfl
theorem cm:Tryz.prog.cellsOf 22=1:=by kernel_rfl
theorem gT : Tryz.prog.globalNamed "internal/strconv.uint64pow10" = some 1 := by kernel_rfl
theorem ajt:(Tryz.prog.globals[1]?).map (·.type)=some 317:=by kernel_rfl
theorem Zc:Tryz.prog.cellsOf 317=20:=by kernel_rfl
theorem cu:Tryz.prog.cellsOf 37=1:=by kernel_rfl
theorem NP:Rows.fnExactNamedPolytopeRow.laid.all (fun x=>x.2.handleName?.isNone)=true:=by kernel_rfl
theorem ajw{W:World}(h:laidMetH Tryz.prog Rows.fnExactNamedPolytopeRow.laid W):kX W:=by
 rw [MakeChecks.laidMetH_plain _ _ _ NP] at h;have h3 : laidMet Tryz.prog [("internal/strconv.uint64pow10", Rows.laid_internal_strconv_uint64pow10), ("loop.example/g01108/impl.polytopeNames", Rows.laid_loop_example_g01108_impl_polytopeNames)] W := laidMet.tail (laidMet.tail h)
 exact Lib.tabIs_of_head gT ajt Tryz.underlying317 Tryz.underlying37 cu Zc (rest := [("loop.example/g01108/impl.polytopeNames", Rows.laid_loop_example_g01108_impl_polytopeNames)]) (show laidMet Tryz.prog [("internal/strconv.uint64pow10", Lib.tabData .u64 Lib.pow10Tab), ("loop.example/g01108/impl.polytopeNames", Rows.laid_loop_example_g01108_impl_polytopeNames)] W from h3)
set_option maxRecDepth 10000 in
theorem ag5{W:World}(h:laidMetH Tryz.prog Rows.fnExactNamedPolytopeRow.laid W):zO W:=by
 rw [MakeChecks.laidMetH_plain _ _ _ NP] at h;have h3 : laidMet Tryz.prog [("loop.example/g01108/impl.polytopeNames", Rows.laid_loop_example_g01108_impl_polytopeNames)] W := laidMet.tail (laidMet.tail (laidMet.tail h))
 exact ag6 (rest:=[]) h3
set_option maxRecDepth 100000 in
theorem contract(H:Type)(enc:TypeId×Value→H)(W:World)(args:Array Value)(ds gs:List (DataW H))(before:List MemPlace)
 (vt:∀(j:Nat) t v,Tryz.f3.params[j]?=some t→args[j]?=some v→Value.okWide Tryz.prog W .any 0 t v)
 (hL:laidMetH Tryz.prog Rows.fnExactNamedPolytopeRow.laid W)
 (hW:DataW.Whole enc Tryz.prog Tryz.f3.params.toList Rows.fnExactNamedPolytopeSpec.vars false W args.toList ds gs before):
 Calls Tryz.prog 3 args W fun e W'=>∃v,e= .returned v∧Rows.fnExactNamedPolytopeSpec.post enc Tryz.prog Tryz.f3 false true false false W args v W':=by
 have hW':=hW;obtain⟨p,q,Ru,hV,rfl,_,_⟩:=hW;have hA:DataW.TrodAll enc Tryz.prog W 0 (fun _=>true) true Tryz.f3.params.toList args.toList ds p:=Ru;rw [Tryz.params3]at hA vt;obtain⟨v0,vs0,d0,ds0,p0,q0,hargs,rfl,rfl,h0,r0⟩:=trodAll_cons hA;obtain⟨rfl,rfl,rfl⟩:=trodAll_nil r0;obtain rfl:args= #[v0]:=by cases args;simp_all
 obtain⟨g9,t9,cs9,f9,d9,p9,rfl,_⟩:=trodVars_one hV;obtain⟨s0,rfl,rfl⟩:=ahg Tryz.underlying9 (vt 0 9 v0 rfl rfl) h0;clear Ru;refine Calls.mono (WM s0 W (ajw hL) (ag5 hL)) fun e W' ⟨v,he,hv,aw⟩=>?_
 subst he hv;exact⟨_,rfl,ahY laid Tryz.underlying4 rfl rfl (by kernel_rfl) gN UP (by kernel_rfl) (of_decide_eq_true (by kernel_rfl)) ⟨rfl,rfl,rfl⟩ hW' aw.below⟩
theorem afF(os:Os)(args:Array Value):laidMetH Tryz.prog Rows.fnExactNamedPolytopeRow.laid ((World.laidAll Tryz.prog os Rows.fnExactNamedPolytopeRow.laid).forCall (fun _ _=>0) ⟨#[],args,[]⟩).memory:=by
 rw [MakeChecks.laidMetH_plain _ _ _ NP];exact laidMet_laidAll _ (by kernel_rfl) (by kernel_rfl)
set_option maxRecDepth 100000 in
theorem lifted(os:Os)(started:os.Started)(H:Type)(enc:TypeId×Value→H):
 ReturnsInHanded {} Tryz.checked os 3 .any (fun w args=> (Rows.fnExactNamedPolytopeSpec.pre enc Tryz.prog Tryz.f3 Rows.fnExactNamedPolytopeRow.domain false w args∧laidMetH Tryz.prog Rows.fnExactNamedPolytopeRow.laid w)∧sizedMet enc Tryz.prog Tryz.f3 (OpenSpec.ofChange Rows.fnExactNamedPolytopeSpec) false w args)
  (Rows.fnExactNamedPolytopeSpec.post enc Tryz.prog Tryz.f3 false true false false):=by
 refine returnsInHanded_of_change_and (C:=Tryz.checked) (X:=fun w _=>laidMetH Tryz.prog Rows.fnExactNamedPolytopeRow.laid w) (fun _ _ _ hh h=>h.of_heap hh) own started (by kernel_rfl) Tryz.func3
  (ChangeSpec.witness_at (enc:=enc) (C:=Tryz.checked) (os:=os) (X:=fun w _=>laidMetH Tryz.prog Rows.fnExactNamedPolytopeRow.laid w) false (World.laidAll Tryz.prog os Rows.fnExactNamedPolytopeRow.laid) #[.string ⟨#[]⟩] 8 (World.laidAll_os _ _ _) (by kernel_rfl) (by kernel_rfl) (by kernel_rfl) (by kernel_rfl) (by kernel_rfl) (afF os _)) ?_
 intro W base args ds gs before vt hW _ _ hL _;exact contract H enc W args ds gs before vt hL hW
theorem both{a b:Bool}(h:a=true)(h':b=true):(a && b)=true:=by rw [h,h'];rfl
theorem j0:(Rows.fnExactNamedPolytopeRow.wf (OpenSpec.ofChange Rows.fnExactNamedPolytopeSpec))=true:=by kernel_rfl
theorem j1:(laidOutB Tryz.checked.prog)=true:=by kernel_rfl
theorem j2:(mapsRowed Tryz.checked.prog)=true:=by kernel_rfl
theorem j3:(Tryz.f3.params.all (Tryz.checked.prog.readableRec ·))=true:=by kernel_rfl
theorem j4:(namedTie Tryz.checked.prog Rows.fnExactNamedPolytopeRow.named Rows.fnExactNamedPolytopeSpec.vars)=true:=by kernel_rfl
theorem j5:((Rows.fnExactNamedPolytopeRow.stops==[]))=true:=by kernel_rfl
theorem j6:((Tryz.checked.prog.stops==[]))=true:=by kernel_rfl
theorem j7:((Rows.fnExactNamedPolytopeRow.knobs==[]))=true:=by kernel_rfl
theorem j8:((Tryz.checked.prog.stopKnobs==[]))=true:=by kernel_rfl
theorem j9:((Rows.fnExactNamedPolytopeRow.inPlace==Tryz.checked.prog.inPlace 3))=true:=by kernel_rfl
theorem j10:((Rows.fnExactNamedPolytopeRow.unfollowed==Tryz.checked.prog.unfollowed 3))=true:=by kernel_rfl
theorem j11:((Rows.fnExactNamedPolytopeRow.recurses==Tryz.checked.prog.recurses 3))=true:=by kernel_rfl
theorem j12:((Rows.fnExactNamedPolytopeRow.named==Tryz.checked.prog.varsNamed 3))=true:=by kernel_rfl
theorem j13:((Rows.fnExactNamedPolytopeRow.maps==(Tryz.f3.params.toList++Rows.fnExactNamedPolytopeSpec.plain.varTypes Tryz.checked.prog).any (Tryz.checked.prog.mapsRec ·)))=true:=by kernel_rfl
theorem j14:((Rows.fnExactNamedPolytopeRow.ifaces==(Tryz.f3.params.toList++Rows.fnExactNamedPolytopeSpec.plain.varTypes Tryz.checked.prog).any (Tryz.checked.prog.ifacesRec ·)))=true:=by kernel_rfl
theorem j15:((Rows.fnExactNamedPolytopeRow.mapsOut==Tryz.checked.prog.mapsAmong Tryz.f3.resultTypes.toList))=true:=by kernel_rfl
theorem j16:((Rows.fnExactNamedPolytopeRow.loops==(Tryz.f3.params.toList++Rows.fnExactNamedPolytopeSpec.plain.varTypes Tryz.checked.prog).any (Tryz.checked.prog.loopsFrom ·)))=true:=by kernel_rfl
theorem j17:((Rows.fnExactNamedPolytopeRow.wideKeys==(Tryz.f3.params.toList++Rows.fnExactNamedPolytopeSpec.plain.varTypes Tryz.checked.prog++Tryz.f3.resultTypes.toList).any (Tryz.checked.prog.wideKeysFrom ·)))=true:=by kernel_rfl
theorem j18:(Rows.fnExactNamedPolytopeSpec.vars.all (Tryz.checked.prog.varReadable ·))=true:=by kernel_rfl
theorem j19:(Tryz.f3.resultTypes.all (fun t=>Tryz.checked.prog.readableRec t && decide (t<Tryz.checked.prog.types.size)))=true:=by kernel_rfl
theorem j20:((Rows.fnExactNamedPolytopeRow.ifacesOut==Tryz.f3.resultTypes.toList.any (Tryz.checked.prog.ifacesRec ·)))=true:=by kernel_rfl
theorem j21:((Rows.fnExactNamedPolytopeRow.loopsOut==Tryz.f3.resultTypes.toList.any (Tryz.checked.prog.loopsFrom ·)))=true:=by kernel_rfl
theorem j22:((Rows.fnExactNamedPolytopeRow.plainKeys==Tryz.checked.prog.plainKeys))=true:=by kernel_rfl
theorem j23:(Rows.fnExactNamedPolytopeRow.shortTexts.isNone)=true:=by kernel_rfl
theorem j24:(Tryz.checked.prog.stopsHeard)=true:=by kernel_rfl
theorem j25:(Tryz.checked.prog.mayEnter)=true:=by kernel_rfl
theorem j26:((Rows.fnExactNamedPolytopeRow.lifted==Tryz.checked.prog.liftsFinal))=true:=by kernel_rfl
theorem j27:((Tryz.checked.prog.make==some Rows.fnExactNamedPolytopeRow.make))=true:=by kernel_rfl
theorem j29:((Rows.fnExactNamedPolytopeRow.pinned==Rows.fnExactNamedPolytopeRow.pinnedBy))=true:=by kernel_rfl
theorem j30:((Rows.fnExactNamedPolytopeRow.veiled==(Tryz.f3.params.toList++Rows.fnExactNamedPolytopeSpec.plain.varTypes Tryz.checked.prog++Tryz.f3.resultTypes.toList).any (Tryz.checked.prog.veiledRec ·)))=true:=by kernel_rfl
theorem j31:(Rows.fnExactNamedPolytopeRow.veiledFits Tryz.checked.prog Tryz.f3.params.toList (Tryz.f3.params.toList++Rows.fnExactNamedPolytopeSpec.plain.varTypes Tryz.checked.prog++Tryz.f3.resultTypes.toList))=true:=by kernel_rfl
theorem closed:joinedFacts Tryz.checked.prog 3 Tryz.f3 Rows.fnExactNamedPolytopeSpec Rows.fnExactNamedPolytopeRow=true:=by
 unfold joinedFacts;exact both (both (both (both (both (both (both (both (both (both (both (both (both (both (both (both (both (both (both (both (both (both (both (both (both (both (both (both (both (both (both (j0) j1) j2) j3) j4) j5) j6) j7) j8) j9) j10) j11) j12) j13) j14) j15) j16) j17) j18) j19) j20) j21) j22) j23) j24) j25) j26) j27) (by kernel_rfl)) j29) j30) j31
theorem UK:Tryz.checked.prog.funcNamed Rows.fnExactNamedPolytopeRow.func=some 3:=by kernel_rfl
theorem akj:Tryz.f3.isWrapper Tryz.checked.prog Rows.fnExactNamedPolytopeRow.wrapper Rows.fnExactNamedPolytopeRow.mainSum:=by unfold Func.isWrapper;first | (rw [if_pos (by decide+kernel)];kernel_rfl) | (rw [if_neg (by decide+kernel)];exact⟨rfl,rfl⟩)
theorem row:Rows.FnExactNamedPolytopeSaid:=
 OpenClaim.holds_of_wide 3 Tryz.f3 rfl rfl rfl rfl rfl rfl rfl ⟨rfl,rfl,rfl,rfl,rfl⟩ rfl rfl rfl rfl rfl UK Tryz.func3 closed
  (of_decide_eq_true (by kernel_rfl)) akj (fun os started H enc _=>lifted os started H enc)
theorem kwf:Rows.fnExactNamedPolytopeRow.wfByText (OpenSpec.ofChange Rows.fnExactNamedPolytopeSpec)=true:=by kernel_rfl
theorem ae9 : Tryz.checked.prog.mainIs = some (true, "6db20c8e631e24d66649434c0b904fdbb7d0350cabae6165476696c2503f1052".toList) := by kernel_rfl
theorem ae8:false=Tryz.checked.prog.looks []:=by kernel_rfl
theorem ae7:false=Rows.fnExactNamedPolytopeRow.goesBy Tryz.checked.prog:=by kernel_rfl
theorem ajp:Tryz.f3.params.all (fun t=>!Tryz.prog.wantsStandIn t)=true:=by kernel_rfl
theorem proved:Rows.FnExactNamedPolytopeCardSaid:=
 Claim7.holds_tied_plain_at .later [] [.data, .data, .data, .widerDeep] true (true, "6db20c8e631e24d66649434c0b904fdbb7d0350cabae6165476696c2503f1052") false
  row (fun _ h=>by cases h) kwf (fun _ h=>by cases h) fnExactNamedPolytope_row_tie rfl ⟨rfl,rfl⟩ ae9 rfl
  (fun f fn hf ko=>by
    obtain rfl:f=3:=(Option.some.inj (UK.symm.trans hf)).symm;obtain rfl:fn=Tryz.f3:=(Option.some.inj (Tryz.func3.symm.trans ko)).symm;exact⟨ae8,fun j t ht=>by
     have hm:t∈(Tryz.f3).params:=Array.mem_of_getElem? ht;have h':=Array.all_eq_true_iff_forall_mem.1 ajp t hm;show Tryz.prog.wantsStandIn t=false;simpa using h'⟩)
  ae7
end Go.Proofs.YtkccgdhcpplblaaGreatDoor.FnExactNamedPolytopeCard
#print axioms Go.Proofs.YtkccgdhcpplblaaGreatDoor.FnExactNamedPolytopeCard.proved
