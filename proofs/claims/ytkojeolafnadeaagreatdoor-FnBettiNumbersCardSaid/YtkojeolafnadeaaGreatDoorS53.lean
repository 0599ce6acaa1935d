/-
  The statement FnBettiNumbersCardSaid is proved (the tied card): the law FnBettiNumbers returns true, and its arguments read as they did. Conditions: none.
-/
import Derived.Test.YtkojeolafnadeaaGreatDoorRows
import Derived.Test.YtkojeolafnadeaaGreatDoorZm
import Derived.Test.YtkojeolafnadeaaGreatDoorZk
import Derived.Test.YtkojeolafnadeaaGreatDoorCards
import Derived.Test.YtkojeolafnadeaaGreatDoorTie
import Derived.LaidLaws
import Derived.Lay
import Derived.LaidMore
import Derived.MakeChecks
import Derived.Stop.LaidErr
import Derived.Stop.Joined
import Derived.Lib.LaidTab
import Derived.SevenTiedAt
namespace Go.Proofs.YtkojeolafnadeaaGreatDoor.FnBettiNumbersCard
open Go.ChangeShapes Go.WideShapes Go.ChangeAt Go.RowKit Go.Proofs.YtkojeolafnadeaaGreatDoor.Vc
theorem cr:Tryz.prog.cellsOf 24=1:=by kernel_rfl
theorem ci:Tryz.prog.cellsOf 2=1:=by kernel_rfl
theorem cm:Tryz.prog.cellsOf 25=1:=by kernel_rfl
theorem cy:Tryz.prog.cellsOf 5=1:=by kernel_rfl
theorem gT : Tryz.prog.globalNamed "internal/strconv.uint64pow10" = some 0 := by kernel_rfl
theorem agp:(Tryz.prog.globals[0]?).map (·.type)=some 262:=by kernel_rfl
theorem Xd:Tryz.prog.cellsOf 262=20:=by kernel_rfl
theorem cu:Tryz.prog.cellsOf 28=1:=by kernel_rfl
theorem SQ:Rows.fnBettiNumbersRow.laid.all (fun x=>x.2.handleName?.isNone)=true:=by kernel_rfl
theorem agq{W:World}(h:laidMetH Tryz.prog Rows.fnBettiNumbersRow.laid W):qD W:=by
 rw [MakeChecks.laidMetH_plain _ _ _ SQ] at h;have h3 : laidMet Tryz.prog [("internal/strconv.uint64pow10", Rows.laid_internal_strconv_uint64pow10)] W := laidMet.tail (laidMet.tail h)
 exact Lib.tabIs_of_head gT agp Tryz.underlying262 Tryz.underlying28 cu Xd (rest := []) (show laidMet Tryz.prog [("internal/strconv.uint64pow10", Lib.tabData .u64 Lib.pow10Tab)] W from h3)
set_option maxRecDepth 100000 in
theorem contract(H:Type)(enc:TypeId×Value→H)(W:World)(args:Array Value)(ds gs:List (DataW H))(before:List MemPlace)
 (ta:∀(j:Nat) t v,Tryz.f4.params[j]?=some t→args[j]?=some v→Value.okWide Tryz.prog W .any 0 t v)
 (hL:laidMetH Tryz.prog Rows.fnBettiNumbersRow.laid W)
 (hW:DataW.Whole enc Tryz.prog Tryz.f4.params.toList Rows.fnBettiNumbersSpec.vars false W args.toList ds gs before):
 Calls Tryz.prog 4 args W fun e W'=>∃v,e= .returned v∧Rows.fnBettiNumbersSpec.post enc Tryz.prog Tryz.f4 false true false false W args v W':=by
 have ZR:=hW;obtain⟨p,q,OY,hV,rfl,_,_⟩:=hW;have hA:DataW.TrodAll enc Tryz.prog W 0 (fun _=>true) true Tryz.f4.params.toList args.toList ds p:=OY;rw [Tryz.params4]at hA ta;obtain⟨v0,vs0,d0,ds0,p0,q0,hargs,rfl,rfl,h0,r0⟩:=trodAll_cons hA;obtain⟨rfl,rfl,rfl⟩:=trodAll_nil r0;obtain rfl:args= #[v0]:=by cases args;simp_all
 obtain⟨rfl,rfl⟩:=trodVars_none hV;obtain⟨A0,m0,k0,x0,rfl,FJ,qT,mZ⟩:=ae0 Tryz.underlying22 Tryz.underlying5 cy (ta 0 22 v0 rfl rfl) h0;clear OY;refine Calls.mono (Uz A0 m0 k0 x0 W (agq hL) FJ) fun e W' ⟨v,he,hv,ax⟩=>?_
 subst he hv;exact⟨_,rfl,afr laid Tryz.underlying4 rfl rfl (by kernel_rfl) ⟨rfl,rfl,rfl⟩ ZR ax.below⟩
theorem aec(os:Os)(args:Array Value):laidMetH Tryz.prog Rows.fnBettiNumbersRow.laid ((World.laidAll Tryz.prog os Rows.fnBettiNumbersRow.laid).forCall (fun _ _=>0) ⟨#[],args,[]⟩).memory:=by
 rw [MakeChecks.laidMetH_plain _ _ _ SQ];exact laidMet_laidAll _ (by kernel_rfl) (by kernel_rfl)
set_option maxRecDepth 100000 in
theorem lifted(os:Os)(started:os.Started)(H:Type)(enc:TypeId×Value→H):
 ReturnsInHanded {} Tryz.checked os 4 .any (fun w args=> (Rows.fnBettiNumbersSpec.pre enc Tryz.prog Tryz.f4 Rows.fnBettiNumbersRow.domain false w args∧laidMetH Tryz.prog Rows.fnBettiNumbersRow.laid w)∧sizedMet enc Tryz.prog Tryz.f4 (OpenSpec.ofChange Rows.fnBettiNumbersSpec) false w args)
  (Rows.fnBettiNumbersSpec.post enc Tryz.prog Tryz.f4 false true false false):=by
 refine returnsInHanded_of_change_and (C:=Tryz.checked) (X:=fun w _=>laidMetH Tryz.prog Rows.fnBettiNumbersRow.laid w) (fun _ _ _ hh h=>h.of_heap hh) own started (by kernel_rfl) Tryz.func4
  (ChangeSpec.witness_at (enc:=enc) (C:=Tryz.checked) (os:=os) (X:=fun w _=>laidMetH Tryz.prog Rows.fnBettiNumbersRow.laid w) false (World.laidAll Tryz.prog os Rows.fnBettiNumbersRow.laid) #[.slice none 0 0] 8 (World.laidAll_os _ _ _) (by kernel_rfl) (by kernel_rfl) (by kernel_rfl) (by kernel_rfl) (by kernel_rfl) (aec os _)) ?_
 intro W base args ds gs before ta hW _ _ hL _;exact contract H enc W args ds gs before ta hL hW
theorem both{a b:Bool}(h:a=true)(h':b=true):(a && b)=true:=by rw [h,h'];rfl
theorem j0:(Rows.fnBettiNumbersRow.wf (OpenSpec.ofChange Rows.fnBettiNumbersSpec))=true:=by kernel_rfl
theorem j1:(laidOutB Tryz.checked.prog)=true:=by kernel_rfl
theorem j2:(mapsRowed Tryz.checked.prog)=true:=by kernel_rfl
theorem j3:(Tryz.f4.params.all (Tryz.checked.prog.readableRec ·))=true:=by kernel_rfl
theorem j4:(namedTie Tryz.checked.prog Rows.fnBettiNumbersRow.named Rows.fnBettiNumbersSpec.vars)=true:=by kernel_rfl
theorem j5:((Rows.fnBettiNumbersRow.stops==[]))=true:=by kernel_rfl
theorem j6:((Tryz.checked.prog.stops==[]))=true:=by kernel_rfl
theorem j7:((Rows.fnBettiNumbersRow.knobs==[]))=true:=by kernel_rfl
theorem j8:((Tryz.checked.prog.stopKnobs==[]))=true:=by kernel_rfl
theorem j9:((Rows.fnBettiNumbersRow.inPlace==Tryz.checked.prog.inPlace 4))=true:=by kernel_rfl
theorem j10:((Rows.fnBettiNumbersRow.unfollowed==Tryz.checked.prog.unfollowed 4))=true:=by kernel_rfl
theorem j11:((Rows.fnBettiNumbersRow.recurses==Tryz.checked.prog.recurses 4))=true:=by kernel_rfl
theorem j12:((Rows.fnBettiNumbersRow.named==Tryz.checked.prog.varsNamed 4))=true:=by kernel_rfl
theorem j13:((Rows.fnBettiNumbersRow.maps==(Tryz.f4.params.toList++Rows.fnBettiNumbersSpec.plain.varTypes Tryz.checked.prog).any (Tryz.checked.prog.mapsRec ·)))=true:=by kernel_rfl
theorem j14:((Rows.fnBettiNumbersRow.ifaces==(Tryz.f4.params.toList++Rows.fnBettiNumbersSpec.plain.varTypes Tryz.checked.prog).any (Tryz.checked.prog.ifacesRec ·)))=true:=by kernel_rfl
theorem j15:((Rows.fnBettiNumbersRow.mapsOut==Tryz.checked.prog.mapsAmong Tryz.f4.resultTypes.toList))=true:=by kernel_rfl
theorem j16:((Rows.fnBettiNumbersRow.loops==(Tryz.f4.params.toList++Rows.fnBettiNumbersSpec.plain.varTypes Tryz.checked.prog).any (Tryz.checked.prog.loopsFrom ·)))=true:=by kernel_rfl
theorem j17:((Rows.fnBettiNumbersRow.wideKeys==(Tryz.f4.params.toList++Rows.fnBettiNumbersSpec.plain.varTypes Tryz.checked.prog++Tryz.f4.resultTypes.toList).any (Tryz.checked.prog.wideKeysFrom ·)))=true:=by kernel_rfl
theorem j18:(Rows.fnBettiNumbersSpec.vars.all (Tryz.checked.prog.varReadable ·))=true:=by kernel_rfl
theorem j19:(Tryz.f4.resultTypes.all (fun t=>Tryz.checked.prog.readableRec t && decide (t<Tryz.checked.prog.types.size)))=true:=by kernel_rfl
theorem j20:((Rows.fnBettiNumbersRow.ifacesOut==Tryz.f4.resultTypes.toList.any (Tryz.checked.prog.ifacesRec ·)))=true:=by kernel_rfl
theorem j21:((Rows.fnBettiNumbersRow.loopsOut==Tryz.f4.resultTypes.toList.any (Tryz.checked.prog.loopsFrom ·)))=true:=by kernel_rfl
theorem j22:((Rows.fnBettiNumbersRow.plainKeys==Tryz.checked.prog.plainKeys))=true:=by kernel_rfl
theorem j23:(Rows.fnBettiNumbersRow.shortTexts.isNone)=true:=by kernel_rfl
theorem j24:(Tryz.checked.prog.stopsHeard)=true:=by kernel_rfl
theorem j25:(Tryz.checked.prog.mayEnter)=true:=by kernel_rfl
theorem j26:((Rows.fnBettiNumbersRow.lifted==Tryz.checked.prog.liftsFinal))=true:=by kernel_rfl
theorem j27:((Tryz.checked.prog.make==some Rows.fnBettiNumbersRow.make))=true:=by kernel_rfl
theorem j29:((Rows.fnBettiNumbersRow.pinned==Rows.fnBettiNumbersRow.pinnedBy))=true:=by kernel_rfl
theorem j30:((Rows.fnBettiNumbersRow.veiled==(Tryz.f4.params.toList++Rows.fnBettiNumbersSpec.plain.varTypes Tryz.checked.prog++Tryz.f4.resultTypes.toList).any (Tryz.checked.prog.veiledRec ·)))=true:=by kernel_rfl
theorem j31:(Rows.fnBettiNumbersRow.veiledFits Tryz.checked.prog Tryz.f4.params.toList (Tryz.f4.params.toList++Rows.fnBettiNumbersSpec.plain.varTypes Tryz.checked.prog++Tryz.f4.resultTypes.toList))=true:=by kernel_rfl
theorem closed:joinedFacts Tryz.checked.prog 4 Tryz.f4 Rows.fnBettiNumbersSpec Rows.fnBettiNumbersRow=true:=by
 unfold joinedFacts;exact both (both (both (both (both (both (both (both (both (both (both (both (both (both (both (both (both (both (both (both (both (both (both (both (both (both (both (both (both (both (both (j0) j1) j2) j3) j4) j5) j6) j7) j8) j9) j10) j11) j12) j13) j14) j15) j16) j17) j18) j19) j20) j21) j22) j23) j24) j25) j26) j27) (by kernel_rfl)) j29) j30) j31
theorem Sw:Tryz.checked.prog.funcNamed Rows.fnBettiNumbersRow.func=some 4:=by kernel_rfl
theorem ahh:Tryz.f4.isWrapper Tryz.checked.prog Rows.fnBettiNumbersRow.wrapper Rows.fnBettiNumbersRow.mainSum:=by unfold Func.isWrapper;first | (rw [if_pos (by decide+kernel)];kernel_rfl) | (rw [if_neg (by decide+kernel)];exact⟨rfl,rfl⟩)
theorem row:Rows.FnBettiNumbersSaid:=
 OpenClaim.holds_of_wide 4 Tryz.f4 rfl rfl rfl rfl rfl rfl rfl ⟨rfl,rfl,rfl,rfl,rfl⟩ rfl rfl rfl rfl rfl Sw Tryz.func4 closed
  (of_decide_eq_true (by kernel_rfl)) ahh (fun os started H enc _=>lifted os started H enc)
theorem kwf:Rows.fnBettiNumbersRow.wfByText (OpenSpec.ofChange Rows.fnBettiNumbersSpec)=true:=by kernel_rfl
theorem adp : Tryz.checked.prog.mainIs = some (true, "8a2f5c89ec1e5d1bb047bf4a0088f78556e41b76f0c7aa4d3caf92bdd3cd2d59".toList) := by kernel_rfl
theorem ado:false=Tryz.checked.prog.looks []:=by kernel_rfl
theorem adn:false=Rows.fnBettiNumbersRow.goesBy Tryz.checked.prog:=by kernel_rfl
theorem agk:Tryz.f4.params.all (fun t=>!Tryz.prog.wantsStandIn t)=true:=by kernel_rfl
theorem proved:Rows.FnBettiNumbersCardSaid:=
 Claim7.holds_tied_plain_at .later [] [.data, .data, .data] true (true, "8a2f5c89ec1e5d1bb047bf4a0088f78556e41b76f0c7aa4d3caf92bdd3cd2d59") false
  row (fun _ h=>by cases h) kwf (fun _ h=>by cases h) fnBettiNumbers_row_tie rfl ⟨rfl,rfl⟩ adp rfl
  (fun f fn hf kT=>by
    obtain rfl:f=4:=(Option.some.inj (Sw.symm.trans hf)).symm;obtain rfl:fn=Tryz.f4:=(Option.some.inj (Tryz.func4.symm.trans kT)).symm;exact⟨ado,fun j t ht=>by
     have hm:t∈(Tryz.f4).params:=Array.mem_of_getElem? ht;have h':=Array.all_eq_true_iff_forall_mem.1 agk t hm;show Tryz.prog.wantsStandIn t=false;simpa using h'⟩)
  adn
end Go.Proofs.YtkojeolafnadeaaGreatDoor.FnBettiNumbersCard
#print axioms Go.Proofs.YtkojeolafnadeaaGreatDoor.FnBettiNumbersCard.proved
