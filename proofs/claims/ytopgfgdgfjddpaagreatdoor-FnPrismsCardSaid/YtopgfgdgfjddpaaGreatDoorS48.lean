/-
  The statement FnPrismsCardSaid is proved (the tied card): the law FnPrisms returns true, and its arguments read as they did. Conditions: none.
-/
import Derived.Test.YtopgfgdgfjddpaaGreatDoorRows
import Derived.Test.YtopgfgdgfjddpaaGreatDoorZm
import Derived.Test.YtopgfgdgfjddpaaGreatDoorCards
import Derived.Test.YtopgfgdgfjddpaaGreatDoorTie
import Derived.LaidLaws
import Derived.Lay
import Derived.LaidMore
import Derived.MakeChecks
import Derived.Stop.LaidErr
import Derived.Stop.Joined
import Derived.Lib.LaidTab
import Derived.SevenTiedAt
namespace Go.Proofs.YtopgfgdgfjddpaaGreatDoor.FnPrismsCard
open Go.ChangeShapes Go.WideShapes Go.ChangeAt Go.RowKit Go.Proofs.YtopgfgdgfjddpaaGreatDoor.Vc
theorem cr:Tryz.prog.cellsOf 32=1:=by kernel_rfl
theorem ci:Tryz.prog.cellsOf 2=1:=by kernel_rfl
theorem cm:Tryz.prog.cellsOf 22=1:=by kernel_rfl
theorem cy:Tryz.prog.cellsOf 5=1:=by kernel_rfl
theorem gT : Tryz.prog.globalNamed "internal/strconv.uint64pow10" = some 0 := by kernel_rfl
theorem aiT:(Tryz.prog.globals[0]?).map (·.type)=some 246:=by kernel_rfl
theorem ZZ:Tryz.prog.cellsOf 246=20:=by kernel_rfl
theorem cu:Tryz.prog.cellsOf 116=1:=by kernel_rfl
theorem VW:Rows.fnPrismsRow.laid.all (fun x=>x.2.handleName?.isNone)=true:=by kernel_rfl
theorem aiU{W:World}(h:laidMetH Tryz.prog Rows.fnPrismsRow.laid W):na W:=by
 rw [MakeChecks.laidMetH_plain _ _ _ VW] at h;have h3 : laidMet Tryz.prog [("internal/strconv.uint64pow10", Rows.laid_internal_strconv_uint64pow10)] W := laidMet.tail (laidMet.tail h)
 exact Lib.tabIs_of_head gT aiT Tryz.underlying246 Tryz.underlying116 cu ZZ (rest := []) (show laidMet Tryz.prog [("internal/strconv.uint64pow10", Lib.tabData .u64 Lib.pow10Tab)] W from h3)
set_option maxRecDepth 100000 in
theorem contract(H:Type)(enc:TypeId×Value→H)(W:World)(args:Array Value)(ds gs:List (DataW H))(before:List MemPlace)
 (q9:∀(j:Nat) t v,Tryz.f13.params[j]?=some t→args[j]?=some v→Value.okWide Tryz.prog W .any 0 t v)
 (hL:laidMetH Tryz.prog Rows.fnPrismsRow.laid W)
 (hW:DataW.Whole enc Tryz.prog Tryz.f13.params.toList Rows.fnPrismsSpec.vars false W args.toList ds gs before):
 Calls Tryz.prog 13 args W fun e W'=>∃v,e= .returned v∧Rows.fnPrismsSpec.post enc Tryz.prog Tryz.f13 false true false false W args v W':=by
 have hW':=hW;obtain⟨p,q,Sk,hV,rfl,_,_⟩:=hW;have hA:DataW.TrodAll enc Tryz.prog W 0 (fun _=>true) true Tryz.f13.params.toList args.toList ds p:=Sk;rw [Tryz.params13]at hA q9;obtain⟨v0,vs0,d0,ds0,p0,q0,hargs,rfl,rfl,h0,r0⟩:=trodAll_cons hA;obtain⟨rfl,rfl,rfl⟩:=trodAll_nil r0;obtain rfl:args= #[v0]:=by cases args;simp_all
 obtain⟨rfl,rfl⟩:=trodVars_none hV;obtain⟨A0,m0,k0,x0,rfl,hR0,qx,sP⟩:=agV Tryz.underlying30 Tryz.underlying5 cy (q9 0 30 v0 rfl rfl) h0;clear Sk;refine Calls.mono (XN A0 m0 k0 x0 W (aiU hL) hR0) fun e W' ⟨v,he,hv,ax⟩=>?_
 subst he hv;exact⟨_,rfl,ahp laid Tryz.underlying4 rfl rfl (by kernel_rfl) ⟨rfl,rfl,rfl⟩ hW' ax.below⟩
theorem afI(os:Os)(args:Array Value):laidMetH Tryz.prog Rows.fnPrismsRow.laid ((World.laidAll Tryz.prog os Rows.fnPrismsRow.laid).forCall (fun _ _=>0) ⟨#[],args,[]⟩).memory:=by
 rw [MakeChecks.laidMetH_plain _ _ _ VW];exact laidMet_laidAll _ (by kernel_rfl) (by kernel_rfl)
set_option maxRecDepth 100000 in
theorem lifted(os:Os)(started:os.Started)(H:Type)(enc:TypeId×Value→H):
 ReturnsInHanded {} Tryz.checked os 13 .any (fun w args=> (Rows.fnPrismsSpec.pre enc Tryz.prog Tryz.f13 Rows.fnPrismsRow.domain false w args∧laidMetH Tryz.prog Rows.fnPrismsRow.laid w)∧sizedMet enc Tryz.prog Tryz.f13 (OpenSpec.ofChange Rows.fnPrismsSpec) false w args)
  (Rows.fnPrismsSpec.post enc Tryz.prog Tryz.f13 false true false false):=by
 refine returnsInHanded_of_change_and (C:=Tryz.checked) (X:=fun w _=>laidMetH Tryz.prog Rows.fnPrismsRow.laid w) (fun _ _ _ hh h=>h.of_heap hh) own started (by kernel_rfl) Tryz.func13
  (ChangeSpec.witness_at (enc:=enc) (C:=Tryz.checked) (os:=os) (X:=fun w _=>laidMetH Tryz.prog Rows.fnPrismsRow.laid w) false (World.laidAll Tryz.prog os Rows.fnPrismsRow.laid) #[.slice none 0 0] 8 (World.laidAll_os _ _ _) (by kernel_rfl) (by kernel_rfl) (by kernel_rfl) (by kernel_rfl) (by kernel_rfl) (afI os _)) ?_
 intro W base args ds gs before q9 hW _ _ hL _;exact contract H enc W args ds gs before q9 hL hW
theorem both{a b:Bool}(h:a=true)(h':b=true):(a && b)=true:=by rw [h,h'];rfl
theorem j0:(Rows.fnPrismsRow.wf (OpenSpec.ofChange Rows.fnPrismsSpec))=true:=by kernel_rfl
theorem j1:(laidOutB Tryz.checked.prog)=true:=by kernel_rfl
theorem j2:(mapsRowed Tryz.checked.prog)=true:=by kernel_rfl
theorem j3:(Tryz.f13.params.all (Tryz.checked.prog.readableRec ·))=true:=by kernel_rfl
theorem j4:(namedTie Tryz.checked.prog Rows.fnPrismsRow.named Rows.fnPrismsSpec.vars)=true:=by kernel_rfl
theorem j5:((Rows.fnPrismsRow.stops==[]))=true:=by kernel_rfl
theorem j6:((Tryz.checked.prog.stops==[]))=true:=by kernel_rfl
theorem j7:((Rows.fnPrismsRow.knobs==[]))=true:=by kernel_rfl
theorem j8:((Tryz.checked.prog.stopKnobs==[]))=true:=by kernel_rfl
theorem j9:((Rows.fnPrismsRow.inPlace==Tryz.checked.prog.inPlace 13))=true:=by kernel_rfl
theorem j10:((Rows.fnPrismsRow.unfollowed==Tryz.checked.prog.unfollowed 13))=true:=by kernel_rfl
theorem j11:((Rows.fnPrismsRow.recurses==Tryz.checked.prog.recurses 13))=true:=by kernel_rfl
theorem j12:((Rows.fnPrismsRow.named==Tryz.checked.prog.varsNamed 13))=true:=by kernel_rfl
theorem j13:((Rows.fnPrismsRow.maps==(Tryz.f13.params.toList++Rows.fnPrismsSpec.plain.varTypes Tryz.checked.prog).any (Tryz.checked.prog.mapsRec ·)))=true:=by kernel_rfl
theorem j14:((Rows.fnPrismsRow.ifaces==(Tryz.f13.params.toList++Rows.fnPrismsSpec.plain.varTypes Tryz.checked.prog).any (Tryz.checked.prog.ifacesRec ·)))=true:=by kernel_rfl
theorem j15:((Rows.fnPrismsRow.mapsOut==Tryz.checked.prog.mapsAmong Tryz.f13.resultTypes.toList))=true:=by kernel_rfl
theorem j16:((Rows.fnPrismsRow.loops==(Tryz.f13.params.toList++Rows.fnPrismsSpec.plain.varTypes Tryz.checked.prog).any (Tryz.checked.prog.loopsFrom ·)))=true:=by kernel_rfl
theorem j17:((Rows.fnPrismsRow.wideKeys==(Tryz.f13.params.toList++Rows.fnPrismsSpec.plain.varTypes Tryz.checked.prog++Tryz.f13.resultTypes.toList).any (Tryz.checked.prog.wideKeysFrom ·)))=true:=by kernel_rfl
theorem j18:(Rows.fnPrismsSpec.vars.all (Tryz.checked.prog.varReadable ·))=true:=by kernel_rfl
theorem j19:(Tryz.f13.resultTypes.all (fun t=>Tryz.checked.prog.readableRec t && decide (t<Tryz.checked.prog.types.size)))=true:=by kernel_rfl
theorem j20:((Rows.fnPrismsRow.ifacesOut==Tryz.f13.resultTypes.toList.any (Tryz.checked.prog.ifacesRec ·)))=true:=by kernel_rfl
theorem j21:((Rows.fnPrismsRow.loopsOut==Tryz.f13.resultTypes.toList.any (Tryz.checked.prog.loopsFrom ·)))=true:=by kernel_rfl
theorem j22:((Rows.fnPrismsRow.plainKeys==Tryz.checked.prog.plainKeys))=true:=by kernel_rfl
theorem j23:(Rows.fnPrismsRow.shortTexts.isNone)=true:=by kernel_rfl
theorem j24:(Tryz.checked.prog.stopsHeard)=true:=by kernel_rfl
theorem j25:(Tryz.checked.prog.mayEnter)=true:=by kernel_rfl
theorem j26:((Rows.fnPrismsRow.lifted==Tryz.checked.prog.liftsFinal))=true:=by kernel_rfl
theorem j27:((Tryz.checked.prog.make==some Rows.fnPrismsRow.make))=true:=by kernel_rfl
theorem j29:((Rows.fnPrismsRow.pinned==Rows.fnPrismsRow.pinnedBy))=true:=by kernel_rfl
theorem j30:((Rows.fnPrismsRow.veiled==(Tryz.f13.params.toList++Rows.fnPrismsSpec.plain.varTypes Tryz.checked.prog++Tryz.f13.resultTypes.toList).any (Tryz.checked.prog.veiledRec ·)))=true:=by kernel_rfl
theorem j31:(Rows.fnPrismsRow.veiledFits Tryz.checked.prog Tryz.f13.params.toList (Tryz.f13.params.toList++Rows.fnPrismsSpec.plain.varTypes Tryz.checked.prog++Tryz.f13.resultTypes.toList))=true:=by kernel_rfl
theorem closed:joinedFacts Tryz.checked.prog 13 Tryz.f13 Rows.fnPrismsSpec Rows.fnPrismsRow=true:=by
 unfold joinedFacts;exact both (both (both (both (both (both (both (both (both (both (both (both (both (both (both (both (both (both (both (both (both (both (both (both (both (both (both (both (both (both (both (j0) j1) j2) j3) j4) j5) j6) j7) j8) j9) j10) j11) j12) j13) j14) j15) j16) j17) j18) j19) j20) j21) j22) j23) j24) j25) j26) j27) (by kernel_rfl)) j29) j30) j31
theorem VA:Tryz.checked.prog.funcNamed Rows.fnPrismsRow.func=some 13:=by kernel_rfl
theorem aju:Tryz.f13.isWrapper Tryz.checked.prog Rows.fnPrismsRow.wrapper Rows.fnPrismsRow.mainSum:=by unfold Func.isWrapper;first | (rw [if_pos (by decide+kernel)];kernel_rfl) | (rw [if_neg (by decide+kernel)];exact⟨rfl,rfl⟩)
theorem row:Rows.FnPrismsSaid:=
 OpenClaim.holds_of_wide 13 Tryz.f13 rfl rfl rfl rfl rfl rfl rfl ⟨rfl,rfl,rfl,rfl,rfl⟩ rfl rfl rfl rfl rfl VA Tryz.func13 closed
  (of_decide_eq_true (by kernel_rfl)) aju (fun os started H enc _=>lifted os started H enc)
theorem kwf:Rows.fnPrismsRow.wfByText (OpenSpec.ofChange Rows.fnPrismsSpec)=true:=by kernel_rfl
theorem ae7 : Tryz.checked.prog.mainIs = some (true, "473dc7890431d33d033d1c90a124aba5a91054791f7b215955d63ad2420e511d".toList) := by kernel_rfl
theorem ae6:false=Tryz.checked.prog.looks []:=by kernel_rfl
theorem ae5:false=Rows.fnPrismsRow.goesBy Tryz.checked.prog:=by kernel_rfl
theorem aiS:Tryz.f13.params.all (fun t=>!Tryz.prog.wantsStandIn t)=true:=by kernel_rfl
theorem proved:Rows.FnPrismsCardSaid:=
 Claim7.holds_tied_plain_at .later [] [.data, .data, .data] true (true, "473dc7890431d33d033d1c90a124aba5a91054791f7b215955d63ad2420e511d") false
  row (fun _ h=>by cases h) kwf (fun _ h=>by cases h) fnPrisms_row_tie rfl ⟨rfl,rfl⟩ ae7 rfl
  (fun f fn hf mH=>by
    obtain rfl:f=13:=(Option.some.inj (VA.symm.trans hf)).symm;obtain rfl:fn=Tryz.f13:=(Option.some.inj (Tryz.func13.symm.trans mH)).symm;exact⟨ae6,fun j t ht=>by
     have hm:t∈(Tryz.f13).params:=Array.mem_of_getElem? ht;have h':=Array.all_eq_true_iff_forall_mem.1 aiS t hm;show Tryz.prog.wantsStandIn t=false;simpa using h'⟩)
  ae5
end Go.Proofs.YtopgfgdgfjddpaaGreatDoor.FnPrismsCard
#print axioms Go.Proofs.YtopgfgdgfjddpaaGreatDoor.FnPrismsCard.proved
