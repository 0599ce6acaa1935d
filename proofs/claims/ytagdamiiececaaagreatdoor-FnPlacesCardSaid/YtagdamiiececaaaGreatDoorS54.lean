/-
  The statement FnPlacesCardSaid is proved (the tied card): the law FnPlaces returns true, and its arguments read as they did. Conditions: none.
-/
import Derived.Test.YtagdamiiececaaaGreatDoorRows
import Derived.Test.YtagdamiiececaaaGreatDoorZk
import Derived.Test.YtagdamiiececaaaGreatDoorCards
import Derived.Test.YtagdamiiececaaaGreatDoorTie
import Derived.LaidLaws
import Derived.Lay
import Derived.LaidMore
import Derived.MakeChecks
import Derived.Stop.LaidErr
import Derived.Stop.Joined
import Derived.Lib.LaidTab
import Derived.SevenTiedAt
namespace Go.Proofs.YtagdamiiececaaaGreatDoor.FnPlacesCard
open Go.ChangeShapes Go.WideShapes Go.ChangeAt Go.RowKit Go.Proofs.YtagdamiiececaaaGreatDoor.Vc
theorem cr:Tryz.prog.cellsOf 24=1:=by kernel_rfl
theorem ci:Tryz.prog.cellsOf 2=1:=by kernel_rfl
theorem cm:Tryz.prog.cellsOf 25=1:=by kernel_rfl
theorem cy:Tryz.prog.cellsOf 5=1:=by kernel_rfl
theorem gT : Tryz.prog.globalNamed "internal/strconv.uint64pow10" = some 0 := by kernel_rfl
theorem aaa:(Tryz.prog.globals[0]?).map (·.type)=some 283:=by kernel_rfl
theorem RO:Tryz.prog.cellsOf 283=20:=by kernel_rfl
theorem cu:Tryz.prog.cellsOf 53=1:=by kernel_rfl
theorem Oc:Rows.fnPlacesRow.laid.all (fun x=>x.2.handleName?.isNone)=true:=by kernel_rfl
theorem aab{W:World}(h:laidMetH Tryz.prog Rows.fnPlacesRow.laid W):nM W:=by
 rw [MakeChecks.laidMetH_plain _ _ _ Oc] at h;have h3 : laidMet Tryz.prog [("internal/strconv.uint64pow10", Rows.laid_internal_strconv_uint64pow10)] W := laidMet.tail (laidMet.tail h)
 exact Lib.tabIs_of_head gT aaa Tryz.underlying283 Tryz.underlying53 cu RO (rest := []) (show laidMet Tryz.prog [("internal/strconv.uint64pow10", Lib.tabData .u64 Lib.pow10Tab)] W from h3)
set_option maxRecDepth 100000 in
theorem contract(H:Type)(enc:TypeId×Value→H)(W:World)(args:Array Value)(ds gs:List (DataW H))(before:List MemPlace)
 (mS:∀(j:Nat) t v,Tryz.f6.params[j]?=some t→args[j]?=some v→Value.okWide Tryz.prog W .any 0 t v)
 (hL:laidMetH Tryz.prog Rows.fnPlacesRow.laid W)
 (hW:DataW.Whole enc Tryz.prog Tryz.f6.params.toList Rows.fnPlacesSpec.vars false W args.toList ds gs before):
 Calls Tryz.prog 6 args W fun e W'=>∃v,e= .returned v∧Rows.fnPlacesSpec.post enc Tryz.prog Tryz.f6 false true false false W args v W':=by
 have Uf:=hW;obtain⟨p,q,KS,hV,rfl,_,_⟩:=hW;have hA:DataW.TrodAll enc Tryz.prog W 0 (fun _=>true) true Tryz.f6.params.toList args.toList ds p:=KS;rw [Tryz.params6]at hA mS;obtain⟨v0,vs0,d0,ds0,p0,q0,hargs,rfl,rfl,h0,r0⟩:=trodAll_cons hA;obtain⟨rfl,rfl,rfl⟩:=trodAll_nil r0;obtain rfl:args= #[v0]:=by cases args;simp_all
 obtain⟨rfl,rfl⟩:=trodVars_none hV;obtain⟨A0,m0,k0,x0,rfl,Lm,lr,oN⟩:=YW Tryz.underlying22 Tryz.underlying5 cy (mS 0 22 v0 rfl rfl) h0;clear KS;refine Calls.mono (PC A0 m0 k0 x0 W (aab hL) Lm) fun e W' ⟨v,he,hv,aA⟩=>?_
 subst he hv;exact⟨_,rfl,Zq laid Tryz.underlying4 rfl rfl (by kernel_rfl) ⟨rfl,rfl,rfl⟩ Uf aA.below⟩
theorem Yc(os:Os)(args:Array Value):laidMetH Tryz.prog Rows.fnPlacesRow.laid ((World.laidAll Tryz.prog os Rows.fnPlacesRow.laid).forCall (fun _ _=>0) ⟨#[],args,[]⟩).memory:=by
 rw [MakeChecks.laidMetH_plain _ _ _ Oc];exact laidMet_laidAll _ (by kernel_rfl) (by kernel_rfl)
set_option maxRecDepth 100000 in
theorem lifted(os:Os)(started:os.Started)(H:Type)(enc:TypeId×Value→H):
 ReturnsInHanded {} Tryz.checked os 6 .any (fun w args=> (Rows.fnPlacesSpec.pre enc Tryz.prog Tryz.f6 Rows.fnPlacesRow.domain false w args∧laidMetH Tryz.prog Rows.fnPlacesRow.laid w)∧sizedMet enc Tryz.prog Tryz.f6 (OpenSpec.ofChange Rows.fnPlacesSpec) false w args)
  (Rows.fnPlacesSpec.post enc Tryz.prog Tryz.f6 false true false false):=by
 refine returnsInHanded_of_change_and (C:=Tryz.checked) (X:=fun w _=>laidMetH Tryz.prog Rows.fnPlacesRow.laid w) (fun _ _ _ hh h=>h.of_heap hh) own started (by kernel_rfl) Tryz.func6
  (ChangeSpec.witness_at (enc:=enc) (C:=Tryz.checked) (os:=os) (X:=fun w _=>laidMetH Tryz.prog Rows.fnPlacesRow.laid w) false (World.laidAll Tryz.prog os Rows.fnPlacesRow.laid) #[.slice none 0 0] 8 (World.laidAll_os _ _ _) (by kernel_rfl) (by kernel_rfl) (by kernel_rfl) (by kernel_rfl) (by kernel_rfl) (Yc os _)) ?_
 intro W base args ds gs before mS hW _ _ hL _;exact contract H enc W args ds gs before mS hL hW
theorem both{a b:Bool}(h:a=true)(h':b=true):(a && b)=true:=by rw [h,h'];rfl
theorem j0:(Rows.fnPlacesRow.wf (OpenSpec.ofChange Rows.fnPlacesSpec))=true:=by kernel_rfl
theorem j1:(laidOutB Tryz.checked.prog)=true:=by kernel_rfl
theorem j2:(mapsRowed Tryz.checked.prog)=true:=by kernel_rfl
theorem j3:(Tryz.f6.params.all (Tryz.checked.prog.readableRec ·))=true:=by kernel_rfl
theorem j4:(namedTie Tryz.checked.prog Rows.fnPlacesRow.named Rows.fnPlacesSpec.vars)=true:=by kernel_rfl
theorem j5:((Rows.fnPlacesRow.stops==[]))=true:=by kernel_rfl
theorem j6:((Tryz.checked.prog.stops==[]))=true:=by kernel_rfl
theorem j7:((Rows.fnPlacesRow.knobs==[]))=true:=by kernel_rfl
theorem j8:((Tryz.checked.prog.stopKnobs==[]))=true:=by kernel_rfl
theorem j9:((Rows.fnPlacesRow.inPlace==Tryz.checked.prog.inPlace 6))=true:=by kernel_rfl
theorem W7:((Rows.fnPlacesRow.unfollowed==Tryz.checked.prog.unfollowed 6))=true:=by kernel_rfl
theorem W8:((Rows.fnPlacesRow.recurses==Tryz.checked.prog.recurses 6))=true:=by kernel_rfl
theorem W9:((Rows.fnPlacesRow.named==Tryz.checked.prog.varsNamed 6))=true:=by kernel_rfl
theorem Xa:((Rows.fnPlacesRow.maps==(Tryz.f6.params.toList++Rows.fnPlacesSpec.plain.varTypes Tryz.checked.prog).any (Tryz.checked.prog.mapsRec ·)))=true:=by kernel_rfl
theorem Xb:((Rows.fnPlacesRow.ifaces==(Tryz.f6.params.toList++Rows.fnPlacesSpec.plain.varTypes Tryz.checked.prog).any (Tryz.checked.prog.ifacesRec ·)))=true:=by kernel_rfl
theorem Xc:((Rows.fnPlacesRow.mapsOut==Tryz.checked.prog.mapsAmong Tryz.f6.resultTypes.toList))=true:=by kernel_rfl
theorem Xd:((Rows.fnPlacesRow.loops==(Tryz.f6.params.toList++Rows.fnPlacesSpec.plain.varTypes Tryz.checked.prog).any (Tryz.checked.prog.loopsFrom ·)))=true:=by kernel_rfl
theorem Xe:((Rows.fnPlacesRow.wideKeys==(Tryz.f6.params.toList++Rows.fnPlacesSpec.plain.varTypes Tryz.checked.prog++Tryz.f6.resultTypes.toList).any (Tryz.checked.prog.wideKeysFrom ·)))=true:=by kernel_rfl
theorem Xf:(Rows.fnPlacesSpec.vars.all (Tryz.checked.prog.varReadable ·))=true:=by kernel_rfl
theorem Xg:(Tryz.f6.resultTypes.all (fun t=>Tryz.checked.prog.readableRec t && decide (t<Tryz.checked.prog.types.size)))=true:=by kernel_rfl
theorem Xh:((Rows.fnPlacesRow.ifacesOut==Tryz.f6.resultTypes.toList.any (Tryz.checked.prog.ifacesRec ·)))=true:=by kernel_rfl
theorem Xi:((Rows.fnPlacesRow.loopsOut==Tryz.f6.resultTypes.toList.any (Tryz.checked.prog.loopsFrom ·)))=true:=by kernel_rfl
theorem Xj:((Rows.fnPlacesRow.plainKeys==Tryz.checked.prog.plainKeys))=true:=by kernel_rfl
theorem Xk:(Rows.fnPlacesRow.shortTexts.isNone)=true:=by kernel_rfl
theorem Xl:(Tryz.checked.prog.stopsHeard)=true:=by kernel_rfl
theorem Xm:(Tryz.checked.prog.mayEnter)=true:=by kernel_rfl
theorem Xn:((Rows.fnPlacesRow.lifted==Tryz.checked.prog.liftsFinal))=true:=by kernel_rfl
theorem Xo:((Tryz.checked.prog.make==some Rows.fnPlacesRow.make))=true:=by kernel_rfl
theorem Xp:((Rows.fnPlacesRow.pinned==Rows.fnPlacesRow.pinnedBy))=true:=by kernel_rfl
theorem Xq:((Rows.fnPlacesRow.veiled==(Tryz.f6.params.toList++Rows.fnPlacesSpec.plain.varTypes Tryz.checked.prog++Tryz.f6.resultTypes.toList).any (Tryz.checked.prog.veiledRec ·)))=true:=by kernel_rfl
theorem Xr:(Rows.fnPlacesRow.veiledFits Tryz.checked.prog Tryz.f6.params.toList (Tryz.f6.params.toList++Rows.fnPlacesSpec.plain.varTypes Tryz.checked.prog++Tryz.f6.resultTypes.toList))=true:=by kernel_rfl
theorem closed:joinedFacts Tryz.checked.prog 6 Tryz.f6 Rows.fnPlacesSpec Rows.fnPlacesRow=true:=by
 unfold joinedFacts;exact both (both (both (both (both (both (both (both (both (both (both (both (both (both (both (both (both (both (both (both (both (both (both (both (both (both (both (both (both (both (both (j0) j1) j2) j3) j4) j5) j6) j7) j8) j9) W7) W8) W9) Xa) Xb) Xc) Xd) Xe) Xf) Xg) Xh) Xi) Xj) Xk) Xl) Xm) Xn) Xo) (by kernel_rfl)) Xp) Xq) Xr
theorem NX:Tryz.checked.prog.funcNamed Rows.fnPlacesRow.func=some 6:=by kernel_rfl
theorem aaN:Tryz.f6.isWrapper Tryz.checked.prog Rows.fnPlacesRow.wrapper Rows.fnPlacesRow.mainSum:=by unfold Func.isWrapper;first | (rw [if_pos (by decide+kernel)];kernel_rfl) | (rw [if_neg (by decide+kernel)];exact⟨rfl,rfl⟩)
theorem row:Rows.FnPlacesSaid:=
 OpenClaim.holds_of_wide 6 Tryz.f6 rfl rfl rfl rfl rfl rfl rfl ⟨rfl,rfl,rfl,rfl,rfl⟩ rfl rfl rfl rfl rfl NX Tryz.func6 closed
  (of_decide_eq_true (by kernel_rfl)) aaN (fun os started H enc _=>lifted os started H enc)
theorem Xx:Rows.fnPlacesRow.wfByText (OpenSpec.ofChange Rows.fnPlacesSpec)=true:=by kernel_rfl
theorem Xw : Tryz.checked.prog.mainIs = some (true, "695ff0f0e136f3b69c139e42955d4878e02d9f258ee3cfc2aae802103585d778".toList) := by kernel_rfl
theorem Xv:false=Tryz.checked.prog.looks []:=by kernel_rfl
theorem Xu:false=Rows.fnPlacesRow.goesBy Tryz.checked.prog:=by kernel_rfl
theorem Z8:Tryz.f6.params.all (fun t=>!Tryz.prog.wantsStandIn t)=true:=by kernel_rfl
theorem proved:Rows.FnPlacesCardSaid:=
 Claim7.holds_tied_plain_at .later [] [.data, .data, .data] true (true, "695ff0f0e136f3b69c139e42955d4878e02d9f258ee3cfc2aae802103585d778") false
  row (fun _ h=>by cases h) Xx (fun _ h=>by cases h) fnPlaces_row_tie rfl ⟨rfl,rfl⟩ Xw rfl
  (fun f fn hf jC=>by
    obtain rfl:f=6:=(Option.some.inj (NX.symm.trans hf)).symm;obtain rfl:fn=Tryz.f6:=(Option.some.inj (Tryz.func6.symm.trans jC)).symm;exact⟨Xv,fun j t ht=>by
     have hm:t∈(Tryz.f6).params:=Array.mem_of_getElem? ht;have h':=Array.all_eq_true_iff_forall_mem.1 Z8 t hm;show Tryz.prog.wantsStandIn t=false;simpa using h'⟩)
  Xu
end Go.Proofs.YtagdamiiececaaaGreatDoor.FnPlacesCard
#print axioms Go.Proofs.YtagdamiiececaaaGreatDoor.FnPlacesCard.proved
