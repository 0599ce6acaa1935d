/-
  The statement FnExactPolytopalManiplexesCardSaid is proved (the tied card): the law FnExactPolytopalManiplexes returns true, and its arguments read as they did. Conditions: none.
-/
import Derived.Test.YtagdamiiececaaaGreatDoorRows
import Derived.Test.YtagdamiiececaaaGreatDoorZi
import Derived.Test.YtagdamiiececaaaGreatDoorCards
import Derived.Test.YtagdamiiececaaaGreatDoorTie
import Derived.LaidLaws
import Derived.Lay
import Derived.LaidMore
import Derived.MakeChecks
import Derived.Stop.LaidErr
import Derived.Stop.Joined
import Derived.Lib.LaidTab
import Derived.SevenTiedAt
namespace Go.Proofs.YtagdamiiececaaaGreatDoor.FnExactPolytopalManiplexesCard
open Go.ChangeShapes Go.WideShapes Go.ChangeAt Go.RowKit Go.Proofs.YtagdamiiececaaaGreatDoor.Vc
theorem cr:Tryz.prog.cellsOf 24=1:=by kernel_rfl
theorem ci:Tryz.prog.cellsOf 2=1:=by kernel_rfl
theorem cm:Tryz.prog.cellsOf 25=1:=by kernel_rfl
theorem gT : Tryz.prog.globalNamed "internal/strconv.uint64pow10" = some 0 := by kernel_rfl
theorem T8:(Tryz.prog.globals[0]?).map (·.type)=some 283:=by kernel_rfl
theorem Ml:Tryz.prog.cellsOf 283=20:=by kernel_rfl
theorem cu:Tryz.prog.cellsOf 53=1:=by kernel_rfl
theorem Jt:Rows.fnExactPolytopalManiplexesRow.laid.all (fun x=>x.2.handleName?.isNone)=true:=by kernel_rfl
theorem T9{W:World}(h:laidMetH Tryz.prog Rows.fnExactPolytopalManiplexesRow.laid W):mx W:=by
 rw [MakeChecks.laidMetH_plain _ _ _ Jt] at h;have h3 : laidMet Tryz.prog [("internal/strconv.uint64pow10", Rows.laid_internal_strconv_uint64pow10)] W := laidMet.tail (laidMet.tail h)
 exact Lib.tabIs_of_head gT T8 Tryz.underlying283 Tryz.underlying53 cu Ml (rest := []) (show laidMet Tryz.prog [("internal/strconv.uint64pow10", Lib.tabData .u64 Lib.pow10Tab)] W from h3)
set_option maxRecDepth 100000 in
theorem contract(H:Type)(enc:TypeId×Value→H)(W:World)(args:Array Value)(ds gs:List (DataW H))(before:List MemPlace)
 (pf:∀(j:Nat) t v,Tryz.f4.params[j]?=some t→args[j]?=some v→Value.okWide Tryz.prog W .any 0 t v)
 (hL:laidMetH Tryz.prog Rows.fnExactPolytopalManiplexesRow.laid W)
 (hW:DataW.Whole enc Tryz.prog Tryz.f4.params.toList Rows.fnExactPolytopalManiplexesSpec.vars false W args.toList ds gs before):
 Calls Tryz.prog 4 args W fun e W'=>∃v,e= .returned v∧Rows.fnExactPolytopalManiplexesSpec.post enc Tryz.prog Tryz.f4 false true false false W args v W':=by
 have Oc:=hW;obtain⟨p,q,Gf,hV,rfl,_,_⟩:=hW;have hA:DataW.TrodAll enc Tryz.prog W 0 (fun _=>true) true Tryz.f4.params.toList args.toList ds p:=Gf;rw [Tryz.params4]at hA pf;obtain⟨v0,vs0,d0,ds0,p0,q0,hargs,rfl,rfl,h0,r0⟩:=trodAll_cons hA;obtain⟨v1,vs1,d1,ds1,p1,q1,rfl,rfl,rfl,h1,r1⟩:=trodAll_cons r0;obtain⟨rfl,rfl,rfl⟩:=trodAll_nil r1;obtain rfl:args= #[v0,v1]:=by cases args;simp_all
 obtain⟨rfl,rfl⟩:=trodVars_none hV;obtain⟨n0,rfl,rfl,rfl,_⟩:=open_int Tryz.underlying2 (pf 0 2 v0 rfl rfl) h0;obtain⟨n1,rfl,rfl,rfl,_⟩:=open_int Tryz.underlying2 (pf 1 2 v1 rfl rfl) h1;clear Gf;refine Calls.mono (Kx n0 n1 W (T9 hL)) fun e W' ⟨v,he,hv,ax⟩=>?_
 subst he hv;exact⟨_,rfl,Tm laid Tryz.underlying4 rfl rfl (by kernel_rfl) ⟨rfl,rfl,rfl⟩ Oc ax.below⟩
theorem RO(os:Os)(args:Array Value):laidMetH Tryz.prog Rows.fnExactPolytopalManiplexesRow.laid ((World.laidAll Tryz.prog os Rows.fnExactPolytopalManiplexesRow.laid).forCall (fun _ _=>0) ⟨#[],args,[]⟩).memory:=by
 rw [MakeChecks.laidMetH_plain _ _ _ Jt];exact laidMet_laidAll _ (by kernel_rfl) (by kernel_rfl)
set_option maxRecDepth 100000 in
theorem lifted(os:Os)(started:os.Started)(H:Type)(enc:TypeId×Value→H):
 ReturnsInHanded {} Tryz.checked os 4 .any (fun w args=> (Rows.fnExactPolytopalManiplexesSpec.pre enc Tryz.prog Tryz.f4 Rows.fnExactPolytopalManiplexesRow.domain false w args∧laidMetH Tryz.prog Rows.fnExactPolytopalManiplexesRow.laid w)∧sizedMet enc Tryz.prog Tryz.f4 (OpenSpec.ofChange Rows.fnExactPolytopalManiplexesSpec) false w args)
  (Rows.fnExactPolytopalManiplexesSpec.post enc Tryz.prog Tryz.f4 false true false false):=by
 refine returnsInHanded_of_change_and (C:=Tryz.checked) (X:=fun w _=>laidMetH Tryz.prog Rows.fnExactPolytopalManiplexesRow.laid w) (fun _ _ _ hh h=>h.of_heap hh) own started (by kernel_rfl) Tryz.func4
  (ChangeSpec.witness_at (enc:=enc) (C:=Tryz.checked) (os:=os) (X:=fun w _=>laidMetH Tryz.prog Rows.fnExactPolytopalManiplexesRow.laid w) false (World.laidAll Tryz.prog os Rows.fnExactPolytopalManiplexesRow.laid) #[.int .i64 0,.int .i64 0] 8 (World.laidAll_os _ _ _) (by kernel_rfl) (by kernel_rfl) (by kernel_rfl) (by kernel_rfl) (by kernel_rfl) (RO os _)) ?_
 intro W base args ds gs before pf hW _ _ hL _;exact contract H enc W args ds gs before pf hL hW
theorem both{a b:Bool}(h:a=true)(h':b=true):(a && b)=true:=by rw [h,h'];rfl
theorem j0:(Rows.fnExactPolytopalManiplexesRow.wf (OpenSpec.ofChange Rows.fnExactPolytopalManiplexesSpec))=true:=by kernel_rfl
theorem j1:(laidOutB Tryz.checked.prog)=true:=by kernel_rfl
theorem j2:(mapsRowed Tryz.checked.prog)=true:=by kernel_rfl
theorem j3:(Tryz.f4.params.all (Tryz.checked.prog.readableRec ·))=true:=by kernel_rfl
theorem j4:(namedTie Tryz.checked.prog Rows.fnExactPolytopalManiplexesRow.named Rows.fnExactPolytopalManiplexesSpec.vars)=true:=by kernel_rfl
theorem j5:((Rows.fnExactPolytopalManiplexesRow.stops==[]))=true:=by kernel_rfl
theorem j6:((Tryz.checked.prog.stops==[]))=true:=by kernel_rfl
theorem j7:((Rows.fnExactPolytopalManiplexesRow.knobs==[]))=true:=by kernel_rfl
theorem j8:((Tryz.checked.prog.stopKnobs==[]))=true:=by kernel_rfl
theorem j9:((Rows.fnExactPolytopalManiplexesRow.inPlace==Tryz.checked.prog.inPlace 4))=true:=by kernel_rfl
theorem QL:((Rows.fnExactPolytopalManiplexesRow.unfollowed==Tryz.checked.prog.unfollowed 4))=true:=by kernel_rfl
theorem QM:((Rows.fnExactPolytopalManiplexesRow.recurses==Tryz.checked.prog.recurses 4))=true:=by kernel_rfl
theorem QN:((Rows.fnExactPolytopalManiplexesRow.named==Tryz.checked.prog.varsNamed 4))=true:=by kernel_rfl
theorem QO:((Rows.fnExactPolytopalManiplexesRow.maps==(Tryz.f4.params.toList++Rows.fnExactPolytopalManiplexesSpec.plain.varTypes Tryz.checked.prog).any (Tryz.checked.prog.mapsRec ·)))=true:=by kernel_rfl
theorem QP:((Rows.fnExactPolytopalManiplexesRow.ifaces==(Tryz.f4.params.toList++Rows.fnExactPolytopalManiplexesSpec.plain.varTypes Tryz.checked.prog).any (Tryz.checked.prog.ifacesRec ·)))=true:=by kernel_rfl
theorem QQ:((Rows.fnExactPolytopalManiplexesRow.mapsOut==Tryz.checked.prog.mapsAmong Tryz.f4.resultTypes.toList))=true:=by kernel_rfl
theorem QR:((Rows.fnExactPolytopalManiplexesRow.loops==(Tryz.f4.params.toList++Rows.fnExactPolytopalManiplexesSpec.plain.varTypes Tryz.checked.prog).any (Tryz.checked.prog.loopsFrom ·)))=true:=by kernel_rfl
theorem QS:((Rows.fnExactPolytopalManiplexesRow.wideKeys==(Tryz.f4.params.toList++Rows.fnExactPolytopalManiplexesSpec.plain.varTypes Tryz.checked.prog++Tryz.f4.resultTypes.toList).any (Tryz.checked.prog.wideKeysFrom ·)))=true:=by kernel_rfl
theorem QT:(Rows.fnExactPolytopalManiplexesSpec.vars.all (Tryz.checked.prog.varReadable ·))=true:=by kernel_rfl
theorem QU:(Tryz.f4.resultTypes.all (fun t=>Tryz.checked.prog.readableRec t && decide (t<Tryz.checked.prog.types.size)))=true:=by kernel_rfl
theorem QV:((Rows.fnExactPolytopalManiplexesRow.ifacesOut==Tryz.f4.resultTypes.toList.any (Tryz.checked.prog.ifacesRec ·)))=true:=by kernel_rfl
theorem QW:((Rows.fnExactPolytopalManiplexesRow.loopsOut==Tryz.f4.resultTypes.toList.any (Tryz.checked.prog.loopsFrom ·)))=true:=by kernel_rfl
theorem QX:((Rows.fnExactPolytopalManiplexesRow.plainKeys==Tryz.checked.prog.plainKeys))=true:=by kernel_rfl
theorem QY:(Rows.fnExactPolytopalManiplexesRow.shortTexts.isNone)=true:=by kernel_rfl
theorem QZ:(Tryz.checked.prog.stopsHeard)=true:=by kernel_rfl
theorem Q0:(Tryz.checked.prog.mayEnter)=true:=by kernel_rfl
theorem Q1:((Rows.fnExactPolytopalManiplexesRow.lifted==Tryz.checked.prog.liftsFinal))=true:=by kernel_rfl
theorem Q3:((Tryz.checked.prog.make==some Rows.fnExactPolytopalManiplexesRow.make))=true:=by kernel_rfl
theorem Q4:((Rows.fnExactPolytopalManiplexesRow.pinned==Rows.fnExactPolytopalManiplexesRow.pinnedBy))=true:=by kernel_rfl
theorem Q5:((Rows.fnExactPolytopalManiplexesRow.veiled==(Tryz.f4.params.toList++Rows.fnExactPolytopalManiplexesSpec.plain.varTypes Tryz.checked.prog++Tryz.f4.resultTypes.toList).any (Tryz.checked.prog.veiledRec ·)))=true:=by kernel_rfl
theorem Q6:(Rows.fnExactPolytopalManiplexesRow.veiledFits Tryz.checked.prog Tryz.f4.params.toList (Tryz.f4.params.toList++Rows.fnExactPolytopalManiplexesSpec.plain.varTypes Tryz.checked.prog++Tryz.f4.resultTypes.toList))=true:=by kernel_rfl
theorem closed:joinedFacts Tryz.checked.prog 4 Tryz.f4 Rows.fnExactPolytopalManiplexesSpec Rows.fnExactPolytopalManiplexesRow=true:=by
 unfold joinedFacts;exact both (both (both (both (both (both (both (both (both (both (both (both (both (both (both (both (both (both (both (both (both (both (both (both (both (both (both (both (both (both (both (j0) j1) j2) j3) j4) j5) j6) j7) j8) j9) QL) QM) QN) QO) QP) QQ) QR) QS) QT) QU) QV) QW) QX) QY) QZ) Q0) Q1) Q3) (by kernel_rfl)) Q4) Q5) Q6
theorem Je:Tryz.checked.prog.funcNamed Rows.fnExactPolytopalManiplexesRow.func=some 4:=by kernel_rfl
theorem Uy:Tryz.f4.isWrapper Tryz.checked.prog Rows.fnExactPolytopalManiplexesRow.wrapper Rows.fnExactPolytopalManiplexesRow.mainSum:=by unfold Func.isWrapper;first | (rw [if_pos (by decide+kernel)];kernel_rfl) | (rw [if_neg (by decide+kernel)];exact⟨rfl,rfl⟩)
theorem row:Rows.FnExactPolytopalManiplexesSaid:=
 OpenClaim.holds_of_wide 4 Tryz.f4 rfl rfl rfl rfl rfl rfl rfl ⟨rfl,rfl,rfl,rfl,rfl⟩ rfl rfl rfl rfl rfl Je Tryz.func4 closed
  (of_decide_eq_true (by kernel_rfl)) Uy (fun os started H enc _=>lifted os started H enc)
theorem Rc:Rows.fnExactPolytopalManiplexesRow.wfByText (OpenSpec.ofChange Rows.fnExactPolytopalManiplexesSpec)=true:=by kernel_rfl
theorem Rb : Tryz.checked.prog.mainIs = some (true, "695ff0f0e136f3b69c139e42955d4878e02d9f258ee3cfc2aae802103585d778".toList) := by kernel_rfl
theorem Ra:false=Tryz.checked.prog.looks []:=by kernel_rfl
theorem Q9:false=Rows.fnExactPolytopalManiplexesRow.goesBy Tryz.checked.prog:=by kernel_rfl
theorem T6:Tryz.f4.params.all (fun t=>!Tryz.prog.wantsStandIn t)=true:=by kernel_rfl
theorem proved:Rows.FnExactPolytopalManiplexesCardSaid:=
 Claim7.holds_tied_plain_at .later [] [.data, .data, .data] true (true, "695ff0f0e136f3b69c139e42955d4878e02d9f258ee3cfc2aae802103585d778") false
  row (fun _ h=>by cases h) Rc (fun _ h=>by cases h) fnExactPolytopalManiplexes_row_tie rfl ⟨rfl,rfl⟩ Rb rfl
  (fun f fn hf jn=>by
    obtain rfl:f=4:=(Option.some.inj (Je.symm.trans hf)).symm;obtain rfl:fn=Tryz.f4:=(Option.some.inj (Tryz.func4.symm.trans jn)).symm;exact⟨Ra,fun j t ht=>by
     have hm:t∈(Tryz.f4).params:=Array.mem_of_getElem? ht;have h':=Array.all_eq_true_iff_forall_mem.1 T6 t hm;show Tryz.prog.wantsStandIn t=false;simpa using h'⟩)
  Q9
end Go.Proofs.YtagdamiiececaaaGreatDoor.FnExactPolytopalManiplexesCard
#print axioms Go.Proofs.YtagdamiiececaaaGreatDoor.FnExactPolytopalManiplexesCard.proved
