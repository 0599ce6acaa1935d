/-
  The statement FnPolytopesCardSaid is proved (the tied card): the law FnPolytopes returns true, and its arguments read as they did. Conditions: none.
-/
import Derived.Test.YtagdamiiececaaaGreatDoorRows
import Derived.Test.YtagdamiiececaaaGreatDoorZj
import Derived.Test.YtagdamiiececaaaGreatDoorCards
import Derived.Test.YtagdamiiececaaaGreatDoorTie
import Derived.LaidLaws
import Derived.Lay
import Derived.LaidMore
import Derived.MakeChecks
import Derived.Stop.LaidErr
import Derived.Stop.Joined
import Derived.Lib.LaidTab
import Derived.SevenTiedAt
namespace Go.Proofs.YtagdamiiececaaaGreatDoor.FnPolytopesCard
open Go.ChangeShapes Go.WideShapes Go.ChangeAt Go.RowKit Go.Proofs.YtagdamiiececaaaGreatDoor.Vc
theorem cr:Tryz.prog.cellsOf 24=1:=by kernel_rfl
theorem ci:Tryz.prog.cellsOf 2=1:=by kernel_rfl
theorem cm:Tryz.prog.cellsOf 25=1:=by kernel_rfl
theorem cy:Tryz.prog.cellsOf 5=1:=by kernel_rfl
theorem gT : Tryz.prog.globalNamed "internal/strconv.uint64pow10" = some 0 := by kernel_rfl
theorem UN:(Tryz.prog.globals[0]?).map (·.type)=some 283:=by kernel_rfl
theorem Nw:Tryz.prog.cellsOf 283=20:=by kernel_rfl
theorem cu:Tryz.prog.cellsOf 53=1:=by kernel_rfl
theorem Ky:Rows.fnPolytopesRow.laid.all (fun x=>x.2.handleName?.isNone)=true:=by kernel_rfl
theorem UO{W:World}(h:laidMetH Tryz.prog Rows.fnPolytopesRow.laid W):kW W:=by
 rw [MakeChecks.laidMetH_plain _ _ _ Ky] at h;have h3 : laidMet Tryz.prog [("internal/strconv.uint64pow10", Rows.laid_internal_strconv_uint64pow10)] W := laidMet.tail (laidMet.tail h)
 exact Lib.tabIs_of_head gT UN Tryz.underlying283 Tryz.underlying53 cu Nw (rest := []) (show laidMet Tryz.prog [("internal/strconv.uint64pow10", Lib.tabData .u64 Lib.pow10Tab)] W from h3)
set_option maxRecDepth 100000 in
theorem contract(H:Type)(enc:TypeId×Value→H)(W:World)(args:Array Value)(ds gs:List (DataW H))(before:List MemPlace)
 (pq:∀(j:Nat) t v,Tryz.f3.params[j]?=some t→args[j]?=some v→Value.okWide Tryz.prog W .any 0 t v)
 (hL:laidMetH Tryz.prog Rows.fnPolytopesRow.laid W)
 (hW:DataW.Whole enc Tryz.prog Tryz.f3.params.toList Rows.fnPolytopesSpec.vars false W args.toList ds gs before):
 Calls Tryz.prog 3 args W fun e W'=>∃v,e= .returned v∧Rows.fnPolytopesSpec.post enc Tryz.prog Tryz.f3 false true false false W args v W':=by
 have Ps:=hW;obtain⟨p,q,HI,hV,rfl,_,_⟩:=hW;have hA:DataW.TrodAll enc Tryz.prog W 0 (fun _=>true) true Tryz.f3.params.toList args.toList ds p:=HI;rw [Tryz.params3]at hA pq;obtain⟨v0,vs0,d0,ds0,p0,q0,hargs,rfl,rfl,h0,r0⟩:=trodAll_cons hA;obtain⟨rfl,rfl,rfl⟩:=trodAll_nil r0;obtain rfl:args= #[v0]:=by cases args;simp_all
 obtain⟨rfl,rfl⟩:=trodVars_none hV;obtain⟨A0,m0,k0,x0,rfl,DI,pf,qn⟩:=TG Tryz.underlying22 Tryz.underlying5 cy (pq 0 22 v0 rfl rfl) h0;clear HI;refine Calls.mono (LF A0 m0 k0 x0 W (UO hL) DI) fun e W' ⟨v,he,hv,ax⟩=>?_
 subst he hv;exact⟨_,rfl,T7 laid Tryz.underlying4 rfl rfl (by kernel_rfl) ⟨rfl,rfl,rfl⟩ Ps ax.below⟩
theorem SG(os:Os)(args:Array Value):laidMetH Tryz.prog Rows.fnPolytopesRow.laid ((World.laidAll Tryz.prog os Rows.fnPolytopesRow.laid).forCall (fun _ _=>0) ⟨#[],args,[]⟩).memory:=by
 rw [MakeChecks.laidMetH_plain _ _ _ Ky];exact laidMet_laidAll _ (by kernel_rfl) (by kernel_rfl)
set_option maxRecDepth 100000 in
theorem lifted(os:Os)(started:os.Started)(H:Type)(enc:TypeId×Value→H):
 ReturnsInHanded {} Tryz.checked os 3 .any (fun w args=> (Rows.fnPolytopesSpec.pre enc Tryz.prog Tryz.f3 Rows.fnPolytopesRow.domain false w args∧laidMetH Tryz.prog Rows.fnPolytopesRow.laid w)∧sizedMet enc Tryz.prog Tryz.f3 (OpenSpec.ofChange Rows.fnPolytopesSpec) false w args)
  (Rows.fnPolytopesSpec.post enc Tryz.prog Tryz.f3 false true false false):=by
 refine returnsInHanded_of_change_and (C:=Tryz.checked) (X:=fun w _=>laidMetH Tryz.prog Rows.fnPolytopesRow.laid w) (fun _ _ _ hh h=>h.of_heap hh) own started (by kernel_rfl) Tryz.func3
  (ChangeSpec.witness_at (enc:=enc) (C:=Tryz.checked) (os:=os) (X:=fun w _=>laidMetH Tryz.prog Rows.fnPolytopesRow.laid w) false (World.laidAll Tryz.prog os Rows.fnPolytopesRow.laid) #[.slice none 0 0] 8 (World.laidAll_os _ _ _) (by kernel_rfl) (by kernel_rfl) (by kernel_rfl) (by kernel_rfl) (by kernel_rfl) (SG os _)) ?_
 intro W base args ds gs before pq hW _ _ hL _;exact contract H enc W args ds gs before pq hL hW
theorem both{a b:Bool}(h:a=true)(h':b=true):(a && b)=true:=by rw [h,h'];rfl
theorem j0:(Rows.fnPolytopesRow.wf (OpenSpec.ofChange Rows.fnPolytopesSpec))=true:=by kernel_rfl
theorem j1:(laidOutB Tryz.checked.prog)=true:=by kernel_rfl
theorem j2:(mapsRowed Tryz.checked.prog)=true:=by kernel_rfl
theorem j3:(Tryz.f3.params.all (Tryz.checked.prog.readableRec ·))=true:=by kernel_rfl
theorem j4:(namedTie Tryz.checked.prog Rows.fnPolytopesRow.named Rows.fnPolytopesSpec.vars)=true:=by kernel_rfl
theorem j5:((Rows.fnPolytopesRow.stops==[]))=true:=by kernel_rfl
theorem j6:((Tryz.checked.prog.stops==[]))=true:=by kernel_rfl
theorem j7:((Rows.fnPolytopesRow.knobs==[]))=true:=by kernel_rfl
theorem j8:((Tryz.checked.prog.stopKnobs==[]))=true:=by kernel_rfl
theorem j9:((Rows.fnPolytopesRow.inPlace==Tryz.checked.prog.inPlace 3))=true:=by kernel_rfl
theorem RG:((Rows.fnPolytopesRow.unfollowed==Tryz.checked.prog.unfollowed 3))=true:=by kernel_rfl
theorem RH:((Rows.fnPolytopesRow.recurses==Tryz.checked.prog.recurses 3))=true:=by kernel_rfl
theorem RI:((Rows.fnPolytopesRow.named==Tryz.checked.prog.varsNamed 3))=true:=by kernel_rfl
theorem RJ:((Rows.fnPolytopesRow.maps==(Tryz.f3.params.toList++Rows.fnPolytopesSpec.plain.varTypes Tryz.checked.prog).any (Tryz.checked.prog.mapsRec ·)))=true:=by kernel_rfl
theorem RK:((Rows.fnPolytopesRow.ifaces==(Tryz.f3.params.toList++Rows.fnPolytopesSpec.plain.varTypes Tryz.checked.prog).any (Tryz.checked.prog.ifacesRec ·)))=true:=by kernel_rfl
theorem RL:((Rows.fnPolytopesRow.mapsOut==Tryz.checked.prog.mapsAmong Tryz.f3.resultTypes.toList))=true:=by kernel_rfl
theorem RM:((Rows.fnPolytopesRow.loops==(Tryz.f3.params.toList++Rows.fnPolytopesSpec.plain.varTypes Tryz.checked.prog).any (Tryz.checked.prog.loopsFrom ·)))=true:=by kernel_rfl
theorem RN:((Rows.fnPolytopesRow.wideKeys==(Tryz.f3.params.toList++Rows.fnPolytopesSpec.plain.varTypes Tryz.checked.prog++Tryz.f3.resultTypes.toList).any (Tryz.checked.prog.wideKeysFrom ·)))=true:=by kernel_rfl
theorem RO:(Rows.fnPolytopesSpec.vars.all (Tryz.checked.prog.varReadable ·))=true:=by kernel_rfl
theorem RP:(Tryz.f3.resultTypes.all (fun t=>Tryz.checked.prog.readableRec t && decide (t<Tryz.checked.prog.types.size)))=true:=by kernel_rfl
theorem RQ:((Rows.fnPolytopesRow.ifacesOut==Tryz.f3.resultTypes.toList.any (Tryz.checked.prog.ifacesRec ·)))=true:=by kernel_rfl
theorem RR:((Rows.fnPolytopesRow.loopsOut==Tryz.f3.resultTypes.toList.any (Tryz.checked.prog.loopsFrom ·)))=true:=by kernel_rfl
theorem RS:((Rows.fnPolytopesRow.plainKeys==Tryz.checked.prog.plainKeys))=true:=by kernel_rfl
theorem RT:(Rows.fnPolytopesRow.shortTexts.isNone)=true:=by kernel_rfl
theorem RU:(Tryz.checked.prog.stopsHeard)=true:=by kernel_rfl
theorem RV:(Tryz.checked.prog.mayEnter)=true:=by kernel_rfl
theorem RW:((Rows.fnPolytopesRow.lifted==Tryz.checked.prog.liftsFinal))=true:=by kernel_rfl
theorem RX:((Tryz.checked.prog.make==some Rows.fnPolytopesRow.make))=true:=by kernel_rfl
theorem RY:((Rows.fnPolytopesRow.pinned==Rows.fnPolytopesRow.pinnedBy))=true:=by kernel_rfl
theorem RZ:((Rows.fnPolytopesRow.veiled==(Tryz.f3.params.toList++Rows.fnPolytopesSpec.plain.varTypes Tryz.checked.prog++Tryz.f3.resultTypes.toList).any (Tryz.checked.prog.veiledRec ·)))=true:=by kernel_rfl
theorem R0:(Rows.fnPolytopesRow.veiledFits Tryz.checked.prog Tryz.f3.params.toList (Tryz.f3.params.toList++Rows.fnPolytopesSpec.plain.varTypes Tryz.checked.prog++Tryz.f3.resultTypes.toList))=true:=by kernel_rfl
theorem closed:joinedFacts Tryz.checked.prog 3 Tryz.f3 Rows.fnPolytopesSpec Rows.fnPolytopesRow=true:=by
 unfold joinedFacts;exact both (both (both (both (both (both (both (both (both (both (both (both (both (both (both (both (both (both (both (both (both (both (both (both (both (both (both (both (both (both (both (j0) j1) j2) j3) j4) j5) j6) j7) j8) j9) RG) RH) RI) RJ) RK) RL) RM) RN) RO) RP) RQ) RR) RS) RT) RU) RV) RW) RX) (by kernel_rfl)) RY) RZ) R0
theorem Kj:Tryz.checked.prog.funcNamed Rows.fnPolytopesRow.func=some 3:=by kernel_rfl
theorem Vn:Tryz.f3.isWrapper Tryz.checked.prog Rows.fnPolytopesRow.wrapper Rows.fnPolytopesRow.mainSum:=by unfold Func.isWrapper;first | (rw [if_pos (by decide+kernel)];kernel_rfl) | (rw [if_neg (by decide+kernel)];exact⟨rfl,rfl⟩)
theorem row:Rows.FnPolytopesSaid:=
 OpenClaim.holds_of_wide 3 Tryz.f3 rfl rfl rfl rfl rfl rfl rfl ⟨rfl,rfl,rfl,rfl,rfl⟩ rfl rfl rfl rfl rfl Kj Tryz.func3 closed
  (of_decide_eq_true (by kernel_rfl)) Vn (fun os started H enc _=>lifted os started H enc)
theorem R6:Rows.fnPolytopesRow.wfByText (OpenSpec.ofChange Rows.fnPolytopesSpec)=true:=by kernel_rfl
theorem R5 : Tryz.checked.prog.mainIs = some (true, "695ff0f0e136f3b69c139e42955d4878e02d9f258ee3cfc2aae802103585d778".toList) := by kernel_rfl
theorem R4:false=Tryz.checked.prog.looks []:=by kernel_rfl
theorem R3:false=Rows.fnPolytopesRow.goesBy Tryz.checked.prog:=by kernel_rfl
theorem UM:Tryz.f3.params.all (fun t=>!Tryz.prog.wantsStandIn t)=true:=by kernel_rfl
theorem proved:Rows.FnPolytopesCardSaid:=
 Claim7.holds_tied_plain_at .later [] [.data, .data, .data] true (true, "695ff0f0e136f3b69c139e42955d4878e02d9f258ee3cfc2aae802103585d778") false
  row (fun _ h=>by cases h) R6 (fun _ h=>by cases h) fnPolytopes_row_tie rfl ⟨rfl,rfl⟩ R5 rfl
  (fun f fn hf iU=>by
    obtain rfl:f=3:=(Option.some.inj (Kj.symm.trans hf)).symm;obtain rfl:fn=Tryz.f3:=(Option.some.inj (Tryz.func3.symm.trans iU)).symm;exact⟨R4,fun j t ht=>by
     have hm:t∈(Tryz.f3).params:=Array.mem_of_getElem? ht;have h':=Array.all_eq_true_iff_forall_mem.1 UM t hm;show Tryz.prog.wantsStandIn t=false;simpa using h'⟩)
  R3
end Go.Proofs.YtagdamiiececaaaGreatDoor.FnPolytopesCard
#print axioms Go.Proofs.YtagdamiiececaaaGreatDoor.FnPolytopesCard.proved
