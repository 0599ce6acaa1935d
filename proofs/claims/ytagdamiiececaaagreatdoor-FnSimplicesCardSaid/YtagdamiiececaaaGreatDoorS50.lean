/-
  The statement FnSimplicesCardSaid is proved (the tied card): the law FnSimplices returns true, and its arguments read as they did. Conditions: none.
-/
import Derived.Test.YtagdamiiececaaaGreatDoorRows
import Derived.Test.YtagdamiiececaaaGreatDoorZm
import Derived.Test.YtagdamiiececaaaGreatDoorCards
import Derived.Test.YtagdamiiececaaaGreatDoorTie
import Derived.LaidLaws
import Derived.Lay
import Derived.LaidMore
import Derived.MakeChecks
import Derived.Stop.LaidErr
import Derived.Stop.Joined
import Derived.Lib.LaidTab
import Derived.SevenTiedAt
namespace Go.Proofs.YtagdamiiececaaaGreatDoor.FnSimplicesCard
open Go.ChangeShapes Go.WideShapes Go.ChangeAt Go.RowKit Go.Proofs.YtagdamiiececaaaGreatDoor.Vc
theorem cr:Tryz.prog.cellsOf 24=1:=by kernel_rfl
theorem ci:Tryz.prog.cellsOf 2=1:=by kernel_rfl
theorem cm:Tryz.prog.cellsOf 25=1:=by kernel_rfl
theorem cy:Tryz.prog.cellsOf 5=1:=by kernel_rfl
theorem gT : Tryz.prog.globalNamed "internal/strconv.uint64pow10" = some 0 := by kernel_rfl
theorem agT:(Tryz.prog.globals[0]?).map (·.type)=some 283:=by kernel_rfl
theorem W0:Tryz.prog.cellsOf 283=20:=by kernel_rfl
theorem cu:Tryz.prog.cellsOf 53=1:=by kernel_rfl
theorem S0:Rows.fnSimplicesRow.laid.all (fun x=>x.2.handleName?.isNone)=true:=by kernel_rfl
theorem agU{W:World}(h:laidMetH Tryz.prog Rows.fnSimplicesRow.laid W):js W:=by
 rw [MakeChecks.laidMetH_plain _ _ _ S0] at h;have h3 : laidMet Tryz.prog [("internal/strconv.uint64pow10", Rows.laid_internal_strconv_uint64pow10)] W := laidMet.tail (laidMet.tail h)
 exact Lib.tabIs_of_head gT agT Tryz.underlying283 Tryz.underlying53 cu W0 (rest := []) (show laidMet Tryz.prog [("internal/strconv.uint64pow10", Lib.tabData .u64 Lib.pow10Tab)] W from h3)
set_option maxRecDepth 100000 in
theorem contract(H:Type)(enc:TypeId×Value→H)(W:World)(args:Array Value)(ds gs:List (DataW H))(before:List MemPlace)
 (pI:∀(j:Nat) t v,Tryz.f5.params[j]?=some t→args[j]?=some v→Value.okWide Tryz.prog W .any 0 t v)
 (hL:laidMetH Tryz.prog Rows.fnSimplicesRow.laid W)
 (hW:DataW.Whole enc Tryz.prog Tryz.f5.params.toList Rows.fnSimplicesSpec.vars false W args.toList ds gs before):
 Calls Tryz.prog 5 args W fun e W'=>∃v,e= .returned v∧Rows.fnSimplicesSpec.post enc Tryz.prog Tryz.f5 false true false false W args v W':=by
 have Zz:=hW;obtain⟨p,q,Po,hV,rfl,_,_⟩:=hW;have hA:DataW.TrodAll enc Tryz.prog W 0 (fun _=>true) true Tryz.f5.params.toList args.toList ds p:=Po;rw [Tryz.params5]at hA pI;obtain⟨v0,vs0,d0,ds0,p0,q0,hargs,rfl,rfl,h0,r0⟩:=trodAll_cons hA;obtain⟨rfl,rfl,rfl⟩:=trodAll_nil r0;obtain rfl:args= #[v0]:=by cases args;simp_all
 obtain⟨rfl,rfl⟩:=trodVars_none hV;obtain⟨A0,m0,k0,x0,rfl,eJ,qk,rq⟩:=aeu Tryz.underlying22 Tryz.underlying5 cy (pI 0 22 v0 rfl rfl) h0;clear Po;refine Calls.mono (UK A0 m0 k0 x0 W (agU hL) eJ) fun e W' ⟨v,he,hv,au⟩=>?_
 subst he hv;exact⟨_,rfl,ae8 laid Tryz.underlying4 rfl rfl (by kernel_rfl) ⟨rfl,rfl,rfl⟩ Zz au.below⟩
theorem ac8(os:Os)(args:Array Value):laidMetH Tryz.prog Rows.fnSimplicesRow.laid ((World.laidAll Tryz.prog os Rows.fnSimplicesRow.laid).forCall (fun _ _=>0) ⟨#[],args,[]⟩).memory:=by
 rw [MakeChecks.laidMetH_plain _ _ _ S0];exact laidMet_laidAll _ (by kernel_rfl) (by kernel_rfl)
set_option maxRecDepth 100000 in
theorem lifted(os:Os)(started:os.Started)(H:Type)(enc:TypeId×Value→H):
 ReturnsInHanded {} Tryz.checked os 5 .any (fun w args=> (Rows.fnSimplicesSpec.pre enc Tryz.prog Tryz.f5 Rows.fnSimplicesRow.domain false w args∧laidMetH Tryz.prog Rows.fnSimplicesRow.laid w)∧sizedMet enc Tryz.prog Tryz.f5 (OpenSpec.ofChange Rows.fnSimplicesSpec) false w args)
  (Rows.fnSimplicesSpec.post enc Tryz.prog Tryz.f5 false true false false):=by
 refine returnsInHanded_of_change_and (C:=Tryz.checked) (X:=fun w _=>laidMetH Tryz.prog Rows.fnSimplicesRow.laid w) (fun _ _ _ hh h=>h.of_heap hh) own started (by kernel_rfl) Tryz.func5
  (ChangeSpec.witness_at (enc:=enc) (C:=Tryz.checked) (os:=os) (X:=fun w _=>laidMetH Tryz.prog Rows.fnSimplicesRow.laid w) false (World.laidAll Tryz.prog os Rows.fnSimplicesRow.laid) #[.slice none 0 0] 8 (World.laidAll_os _ _ _) (by kernel_rfl) (by kernel_rfl) (by kernel_rfl) (by kernel_rfl) (by kernel_rfl) (ac8 os _)) ?_
 intro W base args ds gs before pI hW _ _ hL _;exact contract H enc W args ds gs before pI hL hW
theorem both{a b:Bool}(h:a=true)(h':b=true):(a && b)=true:=by rw [h,h'];rfl
theorem j0:(Rows.fnSimplicesRow.wf (OpenSpec.ofChange Rows.fnSimplicesSpec))=true:=by kernel_rfl
theorem j1:(laidOutB Tryz.checked.prog)=true:=by kernel_rfl
theorem j2:(mapsRowed Tryz.checked.prog)=true:=by kernel_rfl
theorem j3:(Tryz.f5.params.all (Tryz.checked.prog.readableRec ·))=true:=by kernel_rfl
theorem j4:(namedTie Tryz.checked.prog Rows.fnSimplicesRow.named Rows.fnSimplicesSpec.vars)=true:=by kernel_rfl
theorem j5:((Rows.fnSimplicesRow.stops==[]))=true:=by kernel_rfl
theorem j6:((Tryz.checked.prog.stops==[]))=true:=by kernel_rfl
theorem j7:((Rows.fnSimplicesRow.knobs==[]))=true:=by kernel_rfl
theorem j8:((Tryz.checked.prog.stopKnobs==[]))=true:=by kernel_rfl
theorem j9:((Rows.fnSimplicesRow.inPlace==Tryz.checked.prog.inPlace 5))=true:=by kernel_rfl
theorem j10:((Rows.fnSimplicesRow.unfollowed==Tryz.checked.prog.unfollowed 5))=true:=by kernel_rfl
theorem j11:((Rows.fnSimplicesRow.recurses==Tryz.checked.prog.recurses 5))=true:=by kernel_rfl
theorem j12:((Rows.fnSimplicesRow.named==Tryz.checked.prog.varsNamed 5))=true:=by kernel_rfl
theorem j13:((Rows.fnSimplicesRow.maps==(Tryz.f5.params.toList++Rows.fnSimplicesSpec.plain.varTypes Tryz.checked.prog).any (Tryz.checked.prog.mapsRec ·)))=true:=by kernel_rfl
theorem j14:((Rows.fnSimplicesRow.ifaces==(Tryz.f5.params.toList++Rows.fnSimplicesSpec.plain.varTypes Tryz.checked.prog).any (Tryz.checked.prog.ifacesRec ·)))=true:=by kernel_rfl
theorem j15:((Rows.fnSimplicesRow.mapsOut==Tryz.checked.prog.mapsAmong Tryz.f5.resultTypes.toList))=true:=by kernel_rfl
theorem j16:((Rows.fnSimplicesRow.loops==(Tryz.f5.params.toList++Rows.fnSimplicesSpec.plain.varTypes Tryz.checked.prog).any (Tryz.checked.prog.loopsFrom ·)))=true:=by kernel_rfl
theorem j17:((Rows.fnSimplicesRow.wideKeys==(Tryz.f5.params.toList++Rows.fnSimplicesSpec.plain.varTypes Tryz.checked.prog++Tryz.f5.resultTypes.toList).any (Tryz.checked.prog.wideKeysFrom ·)))=true:=by kernel_rfl
theorem j18:(Rows.fnSimplicesSpec.vars.all (Tryz.checked.prog.varReadable ·))=true:=by kernel_rfl
theorem j19:(Tryz.f5.resultTypes.all (fun t=>Tryz.checked.prog.readableRec t && decide (t<Tryz.checked.prog.types.size)))=true:=by kernel_rfl
theorem j20:((Rows.fnSimplicesRow.ifacesOut==Tryz.f5.resultTypes.toList.any (Tryz.checked.prog.ifacesRec ·)))=true:=by kernel_rfl
theorem j21:((Rows.fnSimplicesRow.loopsOut==Tryz.f5.resultTypes.toList.any (Tryz.checked.prog.loopsFrom ·)))=true:=by kernel_rfl
theorem j22:((Rows.fnSimplicesRow.plainKeys==Tryz.checked.prog.plainKeys))=true:=by kernel_rfl
theorem j23:(Rows.fnSimplicesRow.shortTexts.isNone)=true:=by kernel_rfl
theorem j24:(Tryz.checked.prog.stopsHeard)=true:=by kernel_rfl
theorem j25:(Tryz.checked.prog.mayEnter)=true:=by kernel_rfl
theorem j26:((Rows.fnSimplicesRow.lifted==Tryz.checked.prog.liftsFinal))=true:=by kernel_rfl
theorem j27:((Tryz.checked.prog.make==some Rows.fnSimplicesRow.make))=true:=by kernel_rfl
theorem j29:((Rows.fnSimplicesRow.pinned==Rows.fnSimplicesRow.pinnedBy))=true:=by kernel_rfl
theorem j30:((Rows.fnSimplicesRow.veiled==(Tryz.f5.params.toList++Rows.fnSimplicesSpec.plain.varTypes Tryz.checked.prog++Tryz.f5.resultTypes.toList).any (Tryz.checked.prog.veiledRec ·)))=true:=by kernel_rfl
theorem j31:(Rows.fnSimplicesRow.veiledFits Tryz.checked.prog Tryz.f5.params.toList (Tryz.f5.params.toList++Rows.fnSimplicesSpec.plain.varTypes Tryz.checked.prog++Tryz.f5.resultTypes.toList))=true:=by kernel_rfl
theorem closed:joinedFacts Tryz.checked.prog 5 Tryz.f5 Rows.fnSimplicesSpec Rows.fnSimplicesRow=true:=by
 unfold joinedFacts;exact both (both (both (both (both (both (both (both (both (both (both (both (both (both (both (both (both (both (both (both (both (both (both (both (both (both (both (both (both (both (both (j0) j1) j2) j3) j4) j5) j6) j7) j8) j9) j10) j11) j12) j13) j14) j15) j16) j17) j18) j19) j20) j21) j22) j23) j24) j25) j26) j27) (by kernel_rfl)) j29) j30) j31
theorem Sz:Tryz.checked.prog.funcNamed Rows.fnSimplicesRow.func=some 5:=by kernel_rfl
theorem ahC:Tryz.f5.isWrapper Tryz.checked.prog Rows.fnSimplicesRow.wrapper Rows.fnSimplicesRow.mainSum:=by unfold Func.isWrapper;first | (rw [if_pos (by decide+kernel)];kernel_rfl) | (rw [if_neg (by decide+kernel)];exact⟨rfl,rfl⟩)
theorem row:Rows.FnSimplicesSaid:=
 OpenClaim.holds_of_wide 5 Tryz.f5 rfl rfl rfl rfl rfl rfl rfl ⟨rfl,rfl,rfl,rfl,rfl⟩ rfl rfl rfl rfl rfl Sz Tryz.func5 closed
  (of_decide_eq_true (by kernel_rfl)) ahC (fun os started H enc _=>lifted os started H enc)
theorem kwf:Rows.fnSimplicesRow.wfByText (OpenSpec.ofChange Rows.fnSimplicesSpec)=true:=by kernel_rfl
theorem acL : Tryz.checked.prog.mainIs = some (true, "695ff0f0e136f3b69c139e42955d4878e02d9f258ee3cfc2aae802103585d778".toList) := by kernel_rfl
theorem acK:false=Tryz.checked.prog.looks []:=by kernel_rfl
theorem acJ:false=Rows.fnSimplicesRow.goesBy Tryz.checked.prog:=by kernel_rfl
theorem agQ:Tryz.f5.params.all (fun t=>!Tryz.prog.wantsStandIn t)=true:=by kernel_rfl
theorem proved:Rows.FnSimplicesCardSaid:=
 Claim7.holds_tied_plain_at .later [] [.data, .data, .data] true (true, "695ff0f0e136f3b69c139e42955d4878e02d9f258ee3cfc2aae802103585d778") false
  row (fun _ h=>by cases h) kwf (fun _ h=>by cases h) fnSimplices_row_tie rfl ⟨rfl,rfl⟩ acL rfl
  (fun f fn hf mq=>by
    obtain rfl:f=5:=(Option.some.inj (Sz.symm.trans hf)).symm;obtain rfl:fn=Tryz.f5:=(Option.some.inj (Tryz.func5.symm.trans mq)).symm;exact⟨acK,fun j t ht=>by
     have hm:t∈(Tryz.f5).params:=Array.mem_of_getElem? ht;have h':=Array.all_eq_true_iff_forall_mem.1 agQ t hm;show Tryz.prog.wantsStandIn t=false;simpa using h'⟩)
  acJ
end Go.Proofs.YtagdamiiececaaaGreatDoor.FnSimplicesCard
#print axioms Go.Proofs.YtagdamiiececaaaGreatDoor.FnSimplicesCard.proved
