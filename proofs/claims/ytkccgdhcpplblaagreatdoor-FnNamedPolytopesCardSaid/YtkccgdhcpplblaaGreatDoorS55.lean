/-
  The statement FnNamedPolytopesCardSaid is proved (the tied card): the law FnNamedPolytopes returns true, and its arguments read as they did. Conditions: none.
-/
import Derived.Test.YtkccgdhcpplblaaGreatDoorRows
import Derived.Test.YtkccgdhcpplblaaGreatDoorZn
import Derived.Test.YtkccgdhcpplblaaGreatDoorCards
import Derived.Test.YtkccgdhcpplblaaGreatDoorTie
import Derived.LaidLaws
import Derived.Lay
import Derived.LaidMore
import Derived.MakeChecks
import Derived.Stop.LaidErr
import Derived.Stop.Joined
import Derived.Lib.LaidTab
import Derived.SevenTiedAt
namespace Go.Proofs.YtkccgdhcpplblaaGreatDoor.FnNamedPolytopesCard
open Go.ChangeShapes Go.WideShapes Go.ChangeAt Go.RowKit Go.Proofs.YtkccgdhcpplblaaGreatDoor.Vc
theorem cr:Tryz.prog.cellsOf 34=1:=by kernel_rfl
theorem ci:Tryz.prog.cellsOf 2=1:=by kernel_rfl
theorem cm:Tryz.prog.cellsOf 22=1:=by kernel_rfl
theorem cy:Tryz.prog.cellsOf 5=1:=by kernel_rfl
theorem gT : Tryz.prog.globalNamed "internal/strconv.uint64pow10" = some 1 := by kernel_rfl
theorem ana:(Tryz.prog.globals[1]?).map (·.type)=some 317:=by kernel_rfl
theorem ab4:Tryz.prog.cellsOf 317=20:=by kernel_rfl
theorem cu:Tryz.prog.cellsOf 37=1:=by kernel_rfl
theorem PE:Rows.fnNamedPolytopesRow.laid.all (fun x=>x.2.handleName?.isNone)=true:=by kernel_rfl
theorem ane{W:World}(h:laidMetH Tryz.prog Rows.fnNamedPolytopesRow.laid W):lO W:=by
 rw [MakeChecks.laidMetH_plain _ _ _ PE] at h;have h3 : laidMet Tryz.prog [("internal/strconv.uint64pow10", Rows.laid_internal_strconv_uint64pow10), ("loop.example/g01108/impl.polytopeNames", Rows.laid_loop_example_g01108_impl_polytopeNames)] W := laidMet.tail (laidMet.tail h)
 exact Lib.tabIs_of_head gT ana Tryz.underlying317 Tryz.underlying37 cu ab4 (rest := [("loop.example/g01108/impl.polytopeNames", Rows.laid_loop_example_g01108_impl_polytopeNames)]) (show laidMet Tryz.prog [("internal/strconv.uint64pow10", Lib.tabData .u64 Lib.pow10Tab), ("loop.example/g01108/impl.polytopeNames", Rows.laid_loop_example_g01108_impl_polytopeNames)] W from h3)
set_option maxRecDepth 10000 in
theorem akq{W:World}(h:laidMetH Tryz.prog Rows.fnNamedPolytopesRow.laid W):zC W:=by
 rw [MakeChecks.laidMetH_plain _ _ _ PE] at h;have h3 : laidMet Tryz.prog [("loop.example/g01108/impl.polytopeNames", Rows.laid_loop_example_g01108_impl_polytopeNames)] W := laidMet.tail (laidMet.tail (laidMet.tail h))
 exact akr (rest:=[]) h3
set_option maxRecDepth 100000 in
theorem contract(H:Type)(enc:TypeId×Value→H)(W:World)(args:Array Value)(ds gs:List (DataW H))(before:List MemPlace)
 (qX:∀(j:Nat) t v,Tryz.f4.params[j]?=some t→args[j]?=some v→Value.okWide Tryz.prog W .any 0 t v)
 (hL:laidMetH Tryz.prog Rows.fnNamedPolytopesRow.laid W)
 (hW:DataW.Whole enc Tryz.prog Tryz.f4.params.toList Rows.fnNamedPolytopesSpec.vars false W args.toList ds gs before):
 Calls Tryz.prog 4 args W fun e W'=>∃v,e= .returned v∧Rows.fnNamedPolytopesSpec.post enc Tryz.prog Tryz.f4 false true false false W args v W':=by
 have hW':=hW;obtain⟨p,q,TK,hV,rfl,_,_⟩:=hW;have hA:DataW.TrodAll enc Tryz.prog W 0 (fun _=>true) true Tryz.f4.params.toList args.toList ds p:=TK;rw [Tryz.params4]at hA qX;obtain⟨v0,vs0,d0,ds0,p0,q0,hargs,rfl,rfl,h0,r0⟩:=trodAll_cons hA;obtain⟨rfl,rfl,rfl⟩:=trodAll_nil r0;obtain rfl:args= #[v0]:=by cases args;simp_all
 obtain⟨g9,t9,cs9,f9,d9,p9,rfl,_⟩:=trodVars_one hV;obtain⟨A0,m0,k0,x0,rfl,hR0,oe,tm⟩:=akB Tryz.underlying30 Tryz.underlying5 cy (qX 0 30 v0 rfl rfl) h0;clear TK;refine Calls.mono (Zs A0 m0 k0 x0 W (ane hL) (akq hL) hR0) fun e W' ⟨v,he,hv,av⟩=>?_
 subst he hv;exact⟨_,rfl,alm laid Tryz.underlying4 rfl rfl (by kernel_rfl) gN W6 (by kernel_rfl) (of_decide_eq_true (by kernel_rfl)) ⟨rfl,rfl,rfl⟩ hW' av.below⟩
theorem aiB(os:Os)(args:Array Value):laidMetH Tryz.prog Rows.fnNamedPolytopesRow.laid ((World.laidAll Tryz.prog os Rows.fnNamedPolytopesRow.laid).forCall (fun _ _=>0) ⟨#[],args,[]⟩).memory:=by
 rw [MakeChecks.laidMetH_plain _ _ _ PE];exact laidMet_laidAll _ (by kernel_rfl) (by kernel_rfl)
set_option maxRecDepth 100000 in
theorem lifted(os:Os)(started:os.Started)(H:Type)(enc:TypeId×Value→H):
 ReturnsInHanded {} Tryz.checked os 4 .any (fun w args=> (Rows.fnNamedPolytopesSpec.pre enc Tryz.prog Tryz.f4 Rows.fnNamedPolytopesRow.domain false w args∧laidMetH Tryz.prog Rows.fnNamedPolytopesRow.laid w)∧sizedMet enc Tryz.prog Tryz.f4 (OpenSpec.ofChange Rows.fnNamedPolytopesSpec) false w args)
  (Rows.fnNamedPolytopesSpec.post enc Tryz.prog Tryz.f4 false true false false):=by
 refine returnsInHanded_of_change_and (C:=Tryz.checked) (X:=fun w _=>laidMetH Tryz.prog Rows.fnNamedPolytopesRow.laid w) (fun _ _ _ hh h=>h.of_heap hh) own started (by kernel_rfl) Tryz.func4
  (ChangeSpec.witness_at (enc:=enc) (C:=Tryz.checked) (os:=os) (X:=fun w _=>laidMetH Tryz.prog Rows.fnNamedPolytopesRow.laid w) false (World.laidAll Tryz.prog os Rows.fnNamedPolytopesRow.laid) #[.slice none 0 0] 8 (World.laidAll_os _ _ _) (by kernel_rfl) (by kernel_rfl) (by kernel_rfl) (by kernel_rfl) (by kernel_rfl) (aiB os _)) ?_
 intro W base args ds gs before qX hW _ _ hL _;exact contract H enc W args ds gs before qX hL hW
theorem both{a b:Bool}(h:a=true)(h':b=true):(a && b)=true:=by rw [h,h'];rfl
theorem j0:(Rows.fnNamedPolytopesRow.wf (OpenSpec.ofChange Rows.fnNamedPolytopesSpec))=true:=by kernel_rfl
theorem j1:(laidOutB Tryz.checked.prog)=true:=by kernel_rfl
theorem j2:(mapsRowed Tryz.checked.prog)=true:=by kernel_rfl
theorem j3:(Tryz.f4.params.all (Tryz.checked.prog.readableRec ·))=true:=by kernel_rfl
theorem j4:(namedTie Tryz.checked.prog Rows.fnNamedPolytopesRow.named Rows.fnNamedPolytopesSpec.vars)=true:=by kernel_rfl
theorem j5:((Rows.fnNamedPolytopesRow.stops==[]))=true:=by kernel_rfl
theorem j6:((Tryz.checked.prog.stops==[]))=true:=by kernel_rfl
theorem j7:((Rows.fnNamedPolytopesRow.knobs==[]))=true:=by kernel_rfl
theorem j8:((Tryz.checked.prog.stopKnobs==[]))=true:=by kernel_rfl
theorem j9:((Rows.fnNamedPolytopesRow.inPlace==Tryz.checked.prog.inPlace 4))=true:=by kernel_rfl
theorem j10:((Rows.fnNamedPolytopesRow.unfollowed==Tryz.checked.prog.unfollowed 4))=true:=by kernel_rfl
theorem j11:((Rows.fnNamedPolytopesRow.recurses==Tryz.checked.prog.recurses 4))=true:=by kernel_rfl
theorem j12:((Rows.fnNamedPolytopesRow.named==Tryz.checked.prog.varsNamed 4))=true:=by kernel_rfl
theorem j13:((Rows.fnNamedPolytopesRow.maps==(Tryz.f4.params.toList++Rows.fnNamedPolytopesSpec.plain.varTypes Tryz.checked.prog).any (Tryz.checked.prog.mapsRec ·)))=true:=by kernel_rfl
theorem j14:((Rows.fnNamedPolytopesRow.ifaces==(Tryz.f4.params.toList++Rows.fnNamedPolytopesSpec.plain.varTypes Tryz.checked.prog).any (Tryz.checked.prog.ifacesRec ·)))=true:=by kernel_rfl
theorem j15:((Rows.fnNamedPolytopesRow.mapsOut==Tryz.checked.prog.mapsAmong Tryz.f4.resultTypes.toList))=true:=by kernel_rfl
theorem j16:((Rows.fnNamedPolytopesRow.loops==(Tryz.f4.params.toList++Rows.fnNamedPolytopesSpec.plain.varTypes Tryz.checked.prog).any (Tryz.checked.prog.loopsFrom ·)))=true:=by kernel_rfl
theorem j17:((Rows.fnNamedPolytopesRow.wideKeys==(Tryz.f4.params.toList++Rows.fnNamedPolytopesSpec.plain.varTypes Tryz.checked.prog++Tryz.f4.resultTypes.toList).any (Tryz.checked.prog.wideKeysFrom ·)))=true:=by kernel_rfl
theorem j18:(Rows.fnNamedPolytopesSpec.vars.all (Tryz.checked.prog.varReadable ·))=true:=by kernel_rfl
theorem j19:(Tryz.f4.resultTypes.all (fun t=>Tryz.checked.prog.readableRec t && decide (t<Tryz.checked.prog.types.size)))=true:=by kernel_rfl
theorem j20:((Rows.fnNamedPolytopesRow.ifacesOut==Tryz.f4.resultTypes.toList.any (Tryz.checked.prog.ifacesRec ·)))=true:=by kernel_rfl
theorem j21:((Rows.fnNamedPolytopesRow.loopsOut==Tryz.f4.resultTypes.toList.any (Tryz.checked.prog.loopsFrom ·)))=true:=by kernel_rfl
theorem j22:((Rows.fnNamedPolytopesRow.plainKeys==Tryz.checked.prog.plainKeys))=true:=by kernel_rfl
theorem j23:(Rows.fnNamedPolytopesRow.shortTexts.isNone)=true:=by kernel_rfl
theorem j24:(Tryz.checked.prog.stopsHeard)=true:=by kernel_rfl
theorem j25:(Tryz.checked.prog.mayEnter)=true:=by kernel_rfl
theorem j26:((Rows.fnNamedPolytopesRow.lifted==Tryz.checked.prog.liftsFinal))=true:=by kernel_rfl
theorem j27:((Tryz.checked.prog.make==some Rows.fnNamedPolytopesRow.make))=true:=by kernel_rfl
theorem j29:((Rows.fnNamedPolytopesRow.pinned==Rows.fnNamedPolytopesRow.pinnedBy))=true:=by kernel_rfl
theorem j30:((Rows.fnNamedPolytopesRow.veiled==(Tryz.f4.params.toList++Rows.fnNamedPolytopesSpec.plain.varTypes Tryz.checked.prog++Tryz.f4.resultTypes.toList).any (Tryz.checked.prog.veiledRec ·)))=true:=by kernel_rfl
theorem j31:(Rows.fnNamedPolytopesRow.veiledFits Tryz.checked.prog Tryz.f4.params.toList (Tryz.f4.params.toList++Rows.fnNamedPolytopesSpec.plain.varTypes Tryz.checked.prog++Tryz.f4.resultTypes.toList))=true:=by kernel_rfl
theorem closed:joinedFacts Tryz.checked.prog 4 Tryz.f4 Rows.fnNamedPolytopesSpec Rows.fnNamedPolytopesRow=true:=by
 unfold joinedFacts;exact both (both (both (both (both (both (both (both (both (both (both (both (both (both (both (both (both (both (both (both (both (both (both (both (both (both (both (both (both (both (both (j0) j1) j2) j3) j4) j5) j6) j7) j8) j9) j10) j11) j12) j13) j14) j15) j16) j17) j18) j19) j20) j21) j22) j23) j24) j25) j26) j27) (by kernel_rfl)) j29) j30) j31
theorem W0:Tryz.checked.prog.funcNamed Rows.fnNamedPolytopesRow.func=some 4:=by kernel_rfl
theorem aom:Tryz.f4.isWrapper Tryz.checked.prog Rows.fnNamedPolytopesRow.wrapper Rows.fnNamedPolytopesRow.mainSum:=by unfold Func.isWrapper;first | (rw [if_pos (by decide+kernel)];kernel_rfl) | (rw [if_neg (by decide+kernel)];exact⟨rfl,rfl⟩)
theorem row:Rows.FnNamedPolytopesSaid:=
 OpenClaim.holds_of_wide 4 Tryz.f4 rfl rfl rfl rfl rfl rfl rfl ⟨rfl,rfl,rfl,rfl,rfl⟩ rfl rfl rfl rfl rfl W0 Tryz.func4 closed
  (of_decide_eq_true (by kernel_rfl)) aom (fun os started H enc _=>lifted os started H enc)
theorem kwf:Rows.fnNamedPolytopesRow.wfByText (OpenSpec.ofChange Rows.fnNamedPolytopesSpec)=true:=by kernel_rfl
theorem ah5 : Tryz.checked.prog.mainIs = some (true, "6db20c8e631e24d66649434c0b904fdbb7d0350cabae6165476696c2503f1052".toList) := by kernel_rfl
theorem ah4:false=Tryz.checked.prog.looks []:=by kernel_rfl
theorem ah3:false=Rows.fnNamedPolytopesRow.goesBy Tryz.checked.prog:=by kernel_rfl
theorem am5:Tryz.f4.params.all (fun t=>!Tryz.prog.wantsStandIn t)=true:=by kernel_rfl
theorem proved:Rows.FnNamedPolytopesCardSaid:=
 Claim7.holds_tied_plain_at .later [] [.data, .data, .data, .widerDeep] true (true, "6db20c8e631e24d66649434c0b904fdbb7d0350cabae6165476696c2503f1052") false
  row (fun _ h=>by cases h) kwf (fun _ h=>by cases h) fnNamedPolytopes_row_tie rfl ⟨rfl,rfl⟩ ah5 rfl
  (fun f fn hf kW=>by
    obtain rfl:f=4:=(Option.some.inj (W0.symm.trans hf)).symm;obtain rfl:fn=Tryz.f4:=(Option.some.inj (Tryz.func4.symm.trans kW)).symm;exact⟨ah4,fun j t ht=>by
     have hm:t∈(Tryz.f4).params:=Array.mem_of_getElem? ht;have h':=Array.all_eq_true_iff_forall_mem.1 am5 t hm;show Tryz.prog.wantsStandIn t=false;simpa using h'⟩)
  ah3
end Go.Proofs.YtkccgdhcpplblaaGreatDoor.FnNamedPolytopesCard
#print axioms Go.Proofs.YtkccgdhcpplblaaGreatDoor.FnNamedPolytopesCard.proved
