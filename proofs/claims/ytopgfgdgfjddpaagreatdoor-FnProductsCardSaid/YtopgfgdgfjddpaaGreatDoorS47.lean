/-
  The statement FnProductsCardSaid is proved (the tied card): the law FnProducts returns true, and its arguments read as they did. Conditions: none.
-/
import Derived.Test.YtopgfgdgfjddpaaGreatDoorRows
import Derived.Test.YtopgfgdgfjddpaaGreatDoorZl
import Derived.Test.YtopgfgdgfjddpaaGreatDoorCards
import Derived.Test.YtopgfgdgfjddpaaGreatDoorTie
import Derived.LaidLaws
import Derived.Lay
import Derived.LaidMore
import Derived.MakeChecks
import Derived.Stop.LaidErr
import Derived.Stop.Joined
import Derived.Lib.LaidTab
import Derived.SevenTiedAt
namespace Go.Proofs.YtopgfgdgfjddpaaGreatDoor.FnProductsCard
open Go.ChangeShapes Go.WideShapes Go.ChangeAt Go.RowKit Go.Proofs.YtopgfgdgfjddpaaGreatDoor.Vc
theorem cr:Tryz.prog.cellsOf 32=1:=by kernel_rfl
theorem ci:Tryz.prog.cellsOf 2=1:=by kernel_rfl
theorem cm:Tryz.prog.cellsOf 22=1:=by kernel_rfl
theorem cy:Tryz.prog.cellsOf 5=1:=by kernel_rfl
theorem gT : Tryz.prog.globalNamed "internal/strconv.uint64pow10" = some 0 := by kernel_rfl
theorem agf:(Tryz.prog.globals[0]?).map (·.type)=some 246:=by kernel_rfl
theorem XA:Tryz.prog.cellsOf 246=20:=by kernel_rfl
theorem cu:Tryz.prog.cellsOf 116=1:=by kernel_rfl
theorem TA:Rows.fnProductsRow.laid.all (fun x=>x.2.handleName?.isNone)=true:=by kernel_rfl
theorem agh{W:World}(h:laidMetH Tryz.prog Rows.fnProductsRow.laid W):mL W:=by
 rw [MakeChecks.laidMetH_plain _ _ _ TA] at h;have h3 : laidMet Tryz.prog [("internal/strconv.uint64pow10", Rows.laid_internal_strconv_uint64pow10)] W := laidMet.tail (laidMet.tail h)
 exact Lib.tabIs_of_head gT agf Tryz.underlying246 Tryz.underlying116 cu XA (rest := []) (show laidMet Tryz.prog [("internal/strconv.uint64pow10", Lib.tabData .u64 Lib.pow10Tab)] W from h3)
set_option maxRecDepth 100000 in
theorem contract(H:Type)(enc:TypeId×Value→H)(W:World)(args:Array Value)(ds gs:List (DataW H))(before:List MemPlace)
 (uN:∀(j:Nat) t v,Tryz.f12.params[j]?=some t→args[j]?=some v→Value.okWide Tryz.prog W .any 0 t v)
 (hL:laidMetH Tryz.prog Rows.fnProductsRow.laid W)
 (hW:DataW.Whole enc Tryz.prog Tryz.f12.params.toList Rows.fnProductsSpec.vars false W args.toList ds gs before):
 Calls Tryz.prog 12 args W fun e W'=>∃v,e= .returned v∧Rows.fnProductsSpec.post enc Tryz.prog Tryz.f12 false true false false W args v W':=by
 have ZO:=hW;obtain⟨p,q,PI,hV,rfl,_,_⟩:=hW;have hA:DataW.TrodAll enc Tryz.prog W 0 (fun _=>true) true Tryz.f12.params.toList args.toList ds p:=PI;rw [Tryz.params12]at hA uN;obtain⟨v0,vs0,d0,ds0,p0,q0,hargs,rfl,rfl,h0,r0⟩:=trodAll_cons hA;obtain⟨rfl,rfl,rfl⟩:=trodAll_nil r0;obtain rfl:args= #[v0]:=by cases args;simp_all
 obtain⟨rfl,rfl⟩:=trodVars_none hV;obtain⟨A0,m0,k0,x0,rfl,ZF,qt,uG⟩:=aek Tryz.underlying30 Tryz.underlying5 cy (uN 0 30 v0 rfl rfl) h0;clear PI;refine Calls.mono (Vh A0 m0 k0 x0 W (agh hL) ZF) fun e W' ⟨v,he,hv,ak⟩=>?_
 subst he hv;exact⟨_,rfl,ae1 laid Tryz.underlying4 rfl rfl (by kernel_rfl) ⟨rfl,rfl,rfl⟩ ZO ak.below⟩
theorem ac9(os:Os)(args:Array Value):laidMetH Tryz.prog Rows.fnProductsRow.laid ((World.laidAll Tryz.prog os Rows.fnProductsRow.laid).forCall (fun _ _=>0) ⟨#[],args,[]⟩).memory:=by
 rw [MakeChecks.laidMetH_plain _ _ _ TA];exact laidMet_laidAll _ (by kernel_rfl) (by kernel_rfl)
set_option maxRecDepth 100000 in
theorem lifted(os:Os)(started:os.Started)(H:Type)(enc:TypeId×Value→H):
 ReturnsInHanded {} Tryz.checked os 12 .any (fun w args=> (Rows.fnProductsSpec.pre enc Tryz.prog Tryz.f12 Rows.fnProductsRow.domain false w args∧laidMetH Tryz.prog Rows.fnProductsRow.laid w)∧sizedMet enc Tryz.prog Tryz.f12 (OpenSpec.ofChange Rows.fnProductsSpec) false w args)
  (Rows.fnProductsSpec.post enc Tryz.prog Tryz.f12 false true false false):=by
 refine returnsInHanded_of_change_and (C:=Tryz.checked) (X:=fun w _=>laidMetH Tryz.prog Rows.fnProductsRow.laid w) (fun _ _ _ hh h=>h.of_heap hh) own started (by kernel_rfl) Tryz.func12
  (ChangeSpec.witness_at (enc:=enc) (C:=Tryz.checked) (os:=os) (X:=fun w _=>laidMetH Tryz.prog Rows.fnProductsRow.laid w) false (World.laidAll Tryz.prog os Rows.fnProductsRow.laid) #[.slice none 0 0] 8 (World.laidAll_os _ _ _) (by kernel_rfl) (by kernel_rfl) (by kernel_rfl) (by kernel_rfl) (by kernel_rfl) (ac9 os _)) ?_
 intro W base args ds gs before uN hW _ _ hL _;exact contract H enc W args ds gs before uN hL hW
theorem both{a b:Bool}(h:a=true)(h':b=true):(a && b)=true:=by rw [h,h'];rfl
theorem j0:(Rows.fnProductsRow.wf (OpenSpec.ofChange Rows.fnProductsSpec))=true:=by kernel_rfl
theorem j1:(laidOutB Tryz.checked.prog)=true:=by kernel_rfl
theorem j2:(mapsRowed Tryz.checked.prog)=true:=by kernel_rfl
theorem j3:(Tryz.f12.params.all (Tryz.checked.prog.readableRec ·))=true:=by kernel_rfl
theorem j4:(namedTie Tryz.checked.prog Rows.fnProductsRow.named Rows.fnProductsSpec.vars)=true:=by kernel_rfl
theorem j5:((Rows.fnProductsRow.stops==[]))=true:=by kernel_rfl
theorem j6:((Tryz.checked.prog.stops==[]))=true:=by kernel_rfl
theorem j7:((Rows.fnProductsRow.knobs==[]))=true:=by kernel_rfl
theorem j8:((Tryz.checked.prog.stopKnobs==[]))=true:=by kernel_rfl
theorem j9:((Rows.fnProductsRow.inPlace==Tryz.checked.prog.inPlace 12))=true:=by kernel_rfl
theorem j10:((Rows.fnProductsRow.unfollowed==Tryz.checked.prog.unfollowed 12))=true:=by kernel_rfl
theorem j11:((Rows.fnProductsRow.recurses==Tryz.checked.prog.recurses 12))=true:=by kernel_rfl
theorem j12:((Rows.fnProductsRow.named==Tryz.checked.prog.varsNamed 12))=true:=by kernel_rfl
theorem j13:((Rows.fnProductsRow.maps==(Tryz.f12.params.toList++Rows.fnProductsSpec.plain.varTypes Tryz.checked.prog).any (Tryz.checked.prog.mapsRec ·)))=true:=by kernel_rfl
theorem j14:((Rows.fnProductsRow.ifaces==(Tryz.f12.params.toList++Rows.fnProductsSpec.plain.varTypes Tryz.checked.prog).any (Tryz.checked.prog.ifacesRec ·)))=true:=by kernel_rfl
theorem j15:((Rows.fnProductsRow.mapsOut==Tryz.checked.prog.mapsAmong Tryz.f12.resultTypes.toList))=true:=by kernel_rfl
theorem j16:((Rows.fnProductsRow.loops==(Tryz.f12.params.toList++Rows.fnProductsSpec.plain.varTypes Tryz.checked.prog).any (Tryz.checked.prog.loopsFrom ·)))=true:=by kernel_rfl
theorem j17:((Rows.fnProductsRow.wideKeys==(Tryz.f12.params.toList++Rows.fnProductsSpec.plain.varTypes Tryz.checked.prog++Tryz.f12.resultTypes.toList).any (Tryz.checked.prog.wideKeysFrom ·)))=true:=by kernel_rfl
theorem j18:(Rows.fnProductsSpec.vars.all (Tryz.checked.prog.varReadable ·))=true:=by kernel_rfl
theorem j19:(Tryz.f12.resultTypes.all (fun t=>Tryz.checked.prog.readableRec t && decide (t<Tryz.checked.prog.types.size)))=true:=by kernel_rfl
theorem j20:((Rows.fnProductsRow.ifacesOut==Tryz.f12.resultTypes.toList.any (Tryz.checked.prog.ifacesRec ·)))=true:=by kernel_rfl
theorem j21:((Rows.fnProductsRow.loopsOut==Tryz.f12.resultTypes.toList.any (Tryz.checked.prog.loopsFrom ·)))=true:=by kernel_rfl
theorem j22:((Rows.fnProductsRow.plainKeys==Tryz.checked.prog.plainKeys))=true:=by kernel_rfl
theorem j23:(Rows.fnProductsRow.shortTexts.isNone)=true:=by kernel_rfl
theorem j24:(Tryz.checked.prog.stopsHeard)=true:=by kernel_rfl
theorem j25:(Tryz.checked.prog.mayEnter)=true:=by kernel_rfl
theorem j26:((Rows.fnProductsRow.lifted==Tryz.checked.prog.liftsFinal))=true:=by kernel_rfl
theorem j27:((Tryz.checked.prog.make==some Rows.fnProductsRow.make))=true:=by kernel_rfl
theorem j29:((Rows.fnProductsRow.pinned==Rows.fnProductsRow.pinnedBy))=true:=by kernel_rfl
theorem j30:((Rows.fnProductsRow.veiled==(Tryz.f12.params.toList++Rows.fnProductsSpec.plain.varTypes Tryz.checked.prog++Tryz.f12.resultTypes.toList).any (Tryz.checked.prog.veiledRec ·)))=true:=by kernel_rfl
theorem j31:(Rows.fnProductsRow.veiledFits Tryz.checked.prog Tryz.f12.params.toList (Tryz.f12.params.toList++Rows.fnProductsSpec.plain.varTypes Tryz.checked.prog++Tryz.f12.resultTypes.toList))=true:=by kernel_rfl
theorem closed:joinedFacts Tryz.checked.prog 12 Tryz.f12 Rows.fnProductsSpec Rows.fnProductsRow=true:=by
 unfold joinedFacts;exact both (both (both (both (both (both (both (both (both (both (both (both (both (both (both (both (both (both (both (both (both (both (both (both (both (both (both (both (both (both (both (j0) j1) j2) j3) j4) j5) j6) j7) j8) j9) j10) j11) j12) j13) j14) j15) j16) j17) j18) j19) j20) j21) j22) j23) j24) j25) j26) j27) (by kernel_rfl)) j29) j30) j31
theorem Td:Tryz.checked.prog.funcNamed Rows.fnProductsRow.func=some 12:=by kernel_rfl
theorem agP:Tryz.f12.isWrapper Tryz.checked.prog Rows.fnProductsRow.wrapper Rows.fnProductsRow.mainSum:=by unfold Func.isWrapper;first | (rw [if_pos (by decide+kernel)];kernel_rfl) | (rw [if_neg (by decide+kernel)];exact⟨rfl,rfl⟩)
theorem row:Rows.FnProductsSaid:=
 OpenClaim.holds_of_wide 12 Tryz.f12 rfl rfl rfl rfl rfl rfl rfl ⟨rfl,rfl,rfl,rfl,rfl⟩ rfl rfl rfl rfl rfl Td Tryz.func12 closed
  (of_decide_eq_true (by kernel_rfl)) agP (fun os started H enc _=>lifted os started H enc)
theorem kwf:Rows.fnProductsRow.wfByText (OpenSpec.ofChange Rows.fnProductsSpec)=true:=by kernel_rfl
theorem acy : Tryz.checked.prog.mainIs = some (true, "473dc7890431d33d033d1c90a124aba5a91054791f7b215955d63ad2420e511d".toList) := by kernel_rfl
theorem acx:false=Tryz.checked.prog.looks []:=by kernel_rfl
theorem acw:false=Rows.fnProductsRow.goesBy Tryz.checked.prog:=by kernel_rfl
theorem age:Tryz.f12.params.all (fun t=>!Tryz.prog.wantsStandIn t)=true:=by kernel_rfl
theorem proved:Rows.FnProductsCardSaid:=
 Claim7.holds_tied_plain_at .later [] [.data, .data, .data] true (true, "473dc7890431d33d033d1c90a124aba5a91054791f7b215955d63ad2420e511d") false
  row (fun _ h=>by cases h) kwf (fun _ h=>by cases h) fnProducts_row_tie rfl ⟨rfl,rfl⟩ acy rfl
  (fun f fn hf l5=>by
    obtain rfl:f=12:=(Option.some.inj (Td.symm.trans hf)).symm;obtain rfl:fn=Tryz.f12:=(Option.some.inj (Tryz.func12.symm.trans l5)).symm;exact⟨acx,fun j t ht=>by
     have hm:t∈(Tryz.f12).params:=Array.mem_of_getElem? ht;have h':=Array.all_eq_true_iff_forall_mem.1 age t hm;show Tryz.prog.wantsStandIn t=false;simpa using h'⟩)
  acw
end Go.Proofs.YtopgfgdgfjddpaaGreatDoor.FnProductsCard
#print axioms Go.Proofs.YtopgfgdgfjddpaaGreatDoor.FnProductsCard.proved
