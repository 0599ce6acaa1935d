/-
  The statement FnSubdivisionsCardSaid is proved (the tied card): the law FnSubdivisions returns true, and its arguments read as they did. Conditions: none.
-/
import Derived.Test.YtimbpgackifflaaGreatDoorRows
import Derived.Test.YtimbpgackifflaaGreatDoorZo
import Derived.Test.YtimbpgackifflaaGreatDoorZi
import Derived.Test.YtimbpgackifflaaGreatDoorCards
import Derived.Test.YtimbpgackifflaaGreatDoorTie
import Derived.LaidLaws
import Derived.Lay
import Derived.LaidMore
import Derived.MakeChecks
import Derived.Stop.LaidErr
import Derived.Stop.Joined
import Derived.Lib.LaidTab
import Derived.SevenTiedAt
namespace Go.Proofs.YtimbpgackifflaaGreatDoor.FnSubdivisionsCard
open Go.ChangeShapes Go.WideShapes Go.ChangeAt Go.RowKit Go.Proofs.YtimbpgackifflaaGreatDoor.Vc
theorem cr:Tryz.prog.cellsOf 27=1:=by kernel_rfl
theorem ci:Tryz.prog.cellsOf 2=1:=by kernel_rfl
theorem cm:Tryz.prog.cellsOf 28=1:=by kernel_rfl
theorem cy:Tryz.prog.cellsOf 5=1:=by kernel_rfl
theorem gT:Tryz.prog.globalNamed "internal/strconv.uint64pow10" = some 0:=by kernel_rfl
theorem ar2:(Tryz.prog.globals[0]?).map (·.type)=some 225:=by kernel_rfl
theorem afq:Tryz.prog.cellsOf 225=20:=by kernel_rfl
theorem cu:Tryz.prog.cellsOf 26=1:=by kernel_rfl
theorem aav:Rows.fnSubdivisionsRow.laid.all (λx=>x.2.handleName?.isNone)=true:=by kernel_rfl
theorem ar3{W:World}(h:laidMetH Tryz.prog Rows.fnSubdivisionsRow.laid W):lh W:=by
 rw[MakeChecks.laidMetH_plain _ _ _ aav]at h;have h3:laidMet Tryz.prog [("internal/strconv.uint64pow10", Rows.laid_internal_strconv_uint64pow10)] W:=laidMet.tail (laidMet.tail h)
 exact Lib.tabIs_of_head gT ar2 Tryz.underlying225 Tryz.underlying26 cu afq (rest:=[]) (show laidMet Tryz.prog [("internal/strconv.uint64pow10", Lib.tabData .u64 Lib.pow10Tab)] W from h3)
set_option maxRecDepth 100000 in
theorem contract(H:Type)(enc:TypeId×Value→H)(W:World)(args:Array Value)(ds gs:List (DataW H))(before:List MemPlace)
 (vE:∀(j:Nat) t v,Tryz.f3.params[j]?=some t→args[j]?=some v→Value.okWide Tryz.prog W .any 0 t v)
 (hL:laidMetH Tryz.prog Rows.fnSubdivisionsRow.laid W)
 (hW:DataW.Whole enc Tryz.prog Tryz.f3.params.toList Rows.fnSubdivisionsSpec.vars false W args.toList ds gs before):
 Calls Tryz.prog 3 args W λe W'=>∃v,e=.returned v∧Rows.fnSubdivisionsSpec.post enc Tryz.prog Tryz.f3 false true false false W args v W':=by
 have hW':=hW;obtain⟨p,q,VU,hV,rfl,_,_⟩:=hW;have hA:DataW.TrodAll enc Tryz.prog W 0 (λ_=>true) true Tryz.f3.params.toList args.toList ds p:=VU;rw[Tryz.params3]at hA vE;obtain⟨v0,vs0,d0,ds0,p0,q0,hargs,rfl,rfl,h0,r0⟩:=trodAll_cons hA;obtain⟨rfl,rfl,rfl⟩:=trodAll_nil r0;obtain rfl:args= #[v0]:=by cases args;simp_all
 obtain⟨rfl,rfl⟩:=trodVars_none hV;obtain⟨A0,m0,k0,x0,rfl,Gs,pP,ue⟩:=aox Tryz.underlying22 Tryz.underlying5 cy (vE 0 22 v0 rfl rfl) h0;clear VU;refine Calls.mono (aci A0 m0 k0 x0 W (ar3 hL) Gs) λe W' ⟨v,he,hv,aw⟩=>?_
 subst he hv;exact⟨_,rfl,apd laid Tryz.underlying4 rfl rfl (by kernel_rfl) ⟨rfl,rfl,rfl⟩ hW' aw.below⟩
theorem ani(os:Os)(args:Array Value):laidMetH Tryz.prog Rows.fnSubdivisionsRow.laid ((World.laidAll Tryz.prog os Rows.fnSubdivisionsRow.laid).forCall (λ_ _=>0) ⟨#[],args,[]⟩).memory:=by
 rw[MakeChecks.laidMetH_plain _ _ _ aav];exact laidMet_laidAll _ (by kernel_rfl) (by kernel_rfl)
set_option maxRecDepth 100000 in
theorem lifted(os:Os)(started:os.Started)(H:Type)(enc:TypeId×Value→H):
 ReturnsInHanded {} Tryz.checked os 3 .any (λw args=>(Rows.fnSubdivisionsSpec.pre enc Tryz.prog Tryz.f3 Rows.fnSubdivisionsRow.domain false w args∧laidMetH Tryz.prog Rows.fnSubdivisionsRow.laid w)∧sizedMet enc Tryz.prog Tryz.f3 (OpenSpec.ofChange Rows.fnSubdivisionsSpec) false w args)
  (Rows.fnSubdivisionsSpec.post enc Tryz.prog Tryz.f3 false true false false):=by
 refine returnsInHanded_of_change_and (C:=Tryz.checked) (X:=λw _=>laidMetH Tryz.prog Rows.fnSubdivisionsRow.laid w) (λ_ _ _ hh h=>h.of_heap hh) own started (by kernel_rfl) Tryz.func3
  (ChangeSpec.witness_at (enc:=enc) (C:=Tryz.checked) (os:=os) (X:=λw _=>laidMetH Tryz.prog Rows.fnSubdivisionsRow.laid w) false (World.laidAll Tryz.prog os Rows.fnSubdivisionsRow.laid) #[.slice none 0 0] 8 (World.laidAll_os _ _ _) (by kernel_rfl) (by kernel_rfl) (by kernel_rfl) (by kernel_rfl) (by kernel_rfl) (ani os _)) ?_
 intro W base args ds gs before vE hW _ _ hL _;exact contract H enc W args ds gs before vE hL hW
theorem both{a b:Bool}(h:a=true)(h':b=true):(a && b)=true:=by rw[h,h'];rfl
theorem j0:(Rows.fnSubdivisionsRow.wf (OpenSpec.ofChange Rows.fnSubdivisionsSpec))=true:=by kernel_rfl
theorem j1:(laidOutB Tryz.checked.prog)=true:=by kernel_rfl
theorem j2:(mapsRowed Tryz.checked.prog)=true:=by kernel_rfl
theorem j3:(Tryz.f3.params.all (Tryz.checked.prog.readableRec ·))=true:=by kernel_rfl
theorem j4:(namedTie Tryz.checked.prog Rows.fnSubdivisionsRow.named Rows.fnSubdivisionsSpec.vars)=true:=by kernel_rfl
theorem j5:((Rows.fnSubdivisionsRow.stops==[]))=true:=by kernel_rfl
theorem j6:((Tryz.checked.prog.stops==[]))=true:=by kernel_rfl
theorem j7:((Rows.fnSubdivisionsRow.knobs==[]))=true:=by kernel_rfl
theorem j8:((Tryz.checked.prog.stopKnobs==[]))=true:=by kernel_rfl
theorem j9:((Rows.fnSubdivisionsRow.inPlace==Tryz.checked.prog.inPlace 3))=true:=by kernel_rfl
theorem j10:((Rows.fnSubdivisionsRow.unfollowed==Tryz.checked.prog.unfollowed 3))=true:=by kernel_rfl
theorem j11:((Rows.fnSubdivisionsRow.recurses==Tryz.checked.prog.recurses 3))=true:=by kernel_rfl
theorem j12:((Rows.fnSubdivisionsRow.named==Tryz.checked.prog.varsNamed 3))=true:=by kernel_rfl
theorem j13:((Rows.fnSubdivisionsRow.maps==(Tryz.f3.params.toList++Rows.fnSubdivisionsSpec.plain.varTypes Tryz.checked.prog).any (Tryz.checked.prog.mapsRec ·)))=true:=by kernel_rfl
theorem j14:((Rows.fnSubdivisionsRow.ifaces==(Tryz.f3.params.toList++Rows.fnSubdivisionsSpec.plain.varTypes Tryz.checked.prog).any (Tryz.checked.prog.ifacesRec ·)))=true:=by kernel_rfl
theorem j15:((Rows.fnSubdivisionsRow.mapsOut==Tryz.checked.prog.mapsAmong Tryz.f3.resultTypes.toList))=true:=by kernel_rfl
theorem j16:((Rows.fnSubdivisionsRow.loops==(Tryz.f3.params.toList++Rows.fnSubdivisionsSpec.plain.varTypes Tryz.checked.prog).any (Tryz.checked.prog.loopsFrom ·)))=true:=by kernel_rfl
theorem j17:((Rows.fnSubdivisionsRow.wideKeys==(Tryz.f3.params.toList++Rows.fnSubdivisionsSpec.plain.varTypes Tryz.checked.prog++Tryz.f3.resultTypes.toList).any (Tryz.checked.prog.wideKeysFrom ·)))=true:=by kernel_rfl
theorem j18:(Rows.fnSubdivisionsSpec.vars.all (Tryz.checked.prog.varReadable ·))=true:=by kernel_rfl
theorem j19:(Tryz.f3.resultTypes.all (λt=>Tryz.checked.prog.readableRec t && decide (t<Tryz.checked.prog.types.size)))=true:=by kernel_rfl
theorem j20:((Rows.fnSubdivisionsRow.ifacesOut==Tryz.f3.resultTypes.toList.any (Tryz.checked.prog.ifacesRec ·)))=true:=by kernel_rfl
theorem j21:((Rows.fnSubdivisionsRow.loopsOut==Tryz.f3.resultTypes.toList.any (Tryz.checked.prog.loopsFrom ·)))=true:=by kernel_rfl
theorem j22:((Rows.fnSubdivisionsRow.plainKeys==Tryz.checked.prog.plainKeys))=true:=by kernel_rfl
theorem j23:(Rows.fnSubdivisionsRow.shortTexts.isNone)=true:=by kernel_rfl
theorem j24:(Tryz.checked.prog.stopsHeard)=true:=by kernel_rfl
theorem j25:(Tryz.checked.prog.mayEnter)=true:=by kernel_rfl
theorem j26:((Rows.fnSubdivisionsRow.lifted==Tryz.checked.prog.liftsFinal))=true:=by kernel_rfl
theorem j27:((Tryz.checked.prog.make==some Rows.fnSubdivisionsRow.make))=true:=by kernel_rfl
theorem j29:((Rows.fnSubdivisionsRow.pinned==Rows.fnSubdivisionsRow.pinnedBy))=true:=by kernel_rfl
theorem j30:((Rows.fnSubdivisionsRow.veiled==(Tryz.f3.params.toList++Rows.fnSubdivisionsSpec.plain.varTypes Tryz.checked.prog++Tryz.f3.resultTypes.toList).any (Tryz.checked.prog.veiledRec ·)))=true:=by kernel_rfl
theorem j31:(Rows.fnSubdivisionsRow.veiledFits Tryz.checked.prog Tryz.f3.params.toList (Tryz.f3.params.toList++Rows.fnSubdivisionsSpec.plain.varTypes Tryz.checked.prog++Tryz.f3.resultTypes.toList))=true:=by kernel_rfl
theorem closed:joinedFacts Tryz.checked.prog 3 Tryz.f3 Rows.fnSubdivisionsSpec Rows.fnSubdivisionsRow=true:=by
 unfold joinedFacts;exact both (both (both (both (both (both (both (both (both (both (both (both (both (both (both (both (both (both (both (both (both (both (both (both (both (both (both (both (both (both (both (j0) j1) j2) j3) j4) j5) j6) j7) j8) j9) j10) j11) j12) j13) j14) j15) j16) j17) j18) j19) j20) j21) j22) j23) j24) j25) j26) j27) (by kernel_rfl)) j29) j30) j31
theorem ZP:Tryz.checked.prog.funcNamed Rows.fnSubdivisionsRow.func=some 3:=by kernel_rfl
theorem asV:Tryz.f3.isWrapper Tryz.checked.prog Rows.fnSubdivisionsRow.wrapper Rows.fnSubdivisionsRow.mainSum:=by unfold Func.isWrapper;first|(rw[if_pos (by decide+kernel)];kernel_rfl)|(rw[if_neg (by decide+kernel)];exact⟨rfl,rfl⟩)
theorem row:Rows.FnSubdivisionsSaid:=
 OpenClaim.holds_of_wide 3 Tryz.f3 rfl rfl rfl rfl rfl rfl rfl ⟨rfl,rfl,rfl,rfl,rfl⟩ rfl rfl rfl rfl rfl ZP Tryz.func3 closed
  (of_decide_eq_true (by kernel_rfl)) asV (λos started H enc _=>lifted os started H enc)
theorem kwf:Rows.fnSubdivisionsRow.wfByText (OpenSpec.ofChange Rows.fnSubdivisionsSpec)=true:=by kernel_rfl
theorem amt:Tryz.checked.prog.mainIs = some (true, "d82be0ae185f2ec6a04678d89543e8e16d672bc45df4fcac05a82d4b50e8e1f5".toList):=by kernel_rfl
theorem ams:false=Tryz.checked.prog.looks []:=by kernel_rfl
theorem amr:false=Rows.fnSubdivisionsRow.goesBy Tryz.checked.prog:=by kernel_rfl
theorem arS:Tryz.f3.params.all (λt=>!Tryz.prog.wantsStandIn t)=true:=by kernel_rfl
theorem proved:Rows.FnSubdivisionsCardSaid:=
 Claim7.holds_tied_plain_at .later [] [.data, .data, .data] true (true, "d82be0ae185f2ec6a04678d89543e8e16d672bc45df4fcac05a82d4b50e8e1f5") false
  row (λ_ h=>by cases h) kwf (λ_ h=>by cases h) fnSubdivisions_row_tie rfl ⟨rfl,rfl⟩ amt rfl
  (λf fn hf ox=>by
    obtain rfl:f=3:=(Option.some.inj (ZP.symm.trans hf)).symm;obtain rfl:fn=Tryz.f3:=(Option.some.inj (Tryz.func3.symm.trans ox)).symm;exact⟨ams,λj t ht=>by
     have hm:t∈(Tryz.f3).params:=Array.mem_of_getElem? ht;have h':=Array.all_eq_true_iff_forall_mem.1 arS t hm;show Tryz.prog.wantsStandIn t=false;simpa using h'⟩)
  amr
end Go.Proofs.YtimbpgackifflaaGreatDoor.FnSubdivisionsCard
#print axioms Go.Proofs.YtimbpgackifflaaGreatDoor.FnSubdivisionsCard.proved
