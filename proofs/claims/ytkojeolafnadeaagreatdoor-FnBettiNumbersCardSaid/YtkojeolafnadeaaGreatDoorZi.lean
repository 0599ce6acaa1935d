/-
 Lemmas. Conditions: as each states them.
-/
import Derived.Test.YtkojeolafnadeaaGreatDoorZg
import Derived.MapKept
import Derived.Carry
set_option maxHeartbeats 8000000
namespace Go.Proofs.YtkojeolafnadeaaGreatDoor.Vc
open Tryz
section
open Go.RowKit
section
variable {P:Program} {N:Nat} {ops:Array Oper} {K:Env->aa->Prop} {rest:List Oper} {e:Env} {w:aa} {d:Nat} {ty:ad} {pos:String} {af:Array Edge}
theorem Vd{F:FuncId}{x y z u:ae}{v1 v2 v3 v4:ab}(hx:ev e x=v1)(hy:ev e y=v2)(hz:ev e z=v3)(hu:ev e u=v4)(hb:Nat.blt d N=true)(hK:ak P N ops K rest (bC e d (.func (.func F) #[] #[v1,v2,v3,v4])) w):
 ak P N ops K (⟨some d,.makeFunc (.func F) #[] #[x,y,z,u],ty,pos,af,none⟩::rest) e w:=
 .val (by simp [execOp,Instr.makeFunc,hx,hy,hz,hu]) hb hK
end
theorem H6{l:ag}(h:l.length<=401):cap l=l:=by
 unfold cap;exact kA h
def ve(U:ag):Nat->Int->ag
 | 0,_=> [[]]
 | k+1,e=> (gl U e).flatMap fun f=> (ve U k f).map (f:: ·)
def l6(U:ag)(k:Nat)(fl xs:ah):ag:=xs.flatMap fun e=> (ve U k e).map fun y=>fl++e::y
theorem Yb{U:ag}{k:Nat}{fl xs:ah}{j:Nat}(h:j<xs.length):l6 U k fl (xs.take (j+1))=l6 U k fl (xs.take j)++ (ve U k (gi xs j)).map fun y=>fl++gi xs j::y:=by
 unfold l6;rw [rC h,List.flatMap_append,bX h];simp
theorem Ya(U:ag)(k:Nat)(fl:ah)(e:Int):(ve U (k+1) e).map (fun y=>fl++e::y)=l6 U k (fl++ [e]) (gl U e):=by
 unfold l6;rw [ve,List.map_flatMap];refine aL (fun g=>List.flatMap g (gl U e)) (funext fun f=>?_);rw [List.map_map];refine pw fun y _=>?_
 show fl++e::f::y=(fl++ [e])++f::y;rw [fK];rfl
abbrev mV(PF A:ai)(c:Nat)(rs:List aX)(F:ag)(PB:ai)(n:Int)(AR:ai)(nR cR:Nat)(AD:ai)(m d:Nat)(PG PU Au:ai)(N cU:Nat)(dU:List aX)(U:ag)(iQ:List Ck):List Ck:=
 Bx 25 1 PF [.slice A F.length c]::(aU 24 2 A F.length c rs F++ (bp PB n AR nR cR AD m d::Bx 139 1 PG [.func (.func 131) #[] #[.pointer PF,.pointer PB,.pointer PG,.pointer PU]]::Bx 25 1 PU [.slice Au N cU]::(aU 24 2 Au N cU dU U++iQ)))
theorem afe{α:Type}(x b c:α)(X Y:List α):(x::b::c::(X++Y)).Perm (b::c::((X++ [x])++Y)):=by
 classical
 refine px.2 fun z=>?_
 simp only [rz,nZ,rA];omega
theorem Fu(PF A:ai)(c:Nat)(rs:List aX)(F:ag)(PB:ai)(n:Int)(AR:ai)(nR cR:Nat)(AD:ai)(m d:Nat)(PG PU Au:ai)(N cU:Nat)(dU:List aX)(U:ag)(iQ:List Ck):(bp PB n AR nR cR AD m d::Bx 139 1 PG [.func (.func 131) #[] #[.pointer PF,.pointer PB,.pointer PG,.pointer PU]]::Bx 25 1 PU [.slice Au N cU]::(aU 24 2 Au N cU dU U++iQ)).Sublist (mV PF A c rs F PB n AR nR cR AD m d PG PU Au N cU dU U iQ):=(dz _ _).cons _
theorem OK(PF A:ai)(c:Nat)(rs:List aX)(F:ag)(PB:ai)(n:Int)(AR:ai)(nR cR:Nat)(AD:ai)(m d:Nat)(PG PU Au:ai)(N cU:Nat)(dU:List aX)(U:ag)(iQ:List Ck)(x:Ck):(x::mV PF A c rs F PB n AR nR cR AD m d PG PU Au N cU dU U iQ).Perm (mV PF A c rs F PB n AR nR cR AD m d PG PU Au N cU dU U (x::iQ)):=by
 classical
 refine px.2 fun z=>?_
 simp only [mV,rz,nZ];omega
theorem Ss{w0 w':aa}{PF A:ai}{c:Nat}{rs:List aX}{F:ag}{PB:ai}{n:Int}{AR:ai}{nR cR:Nat}{AD:ai}{m d:Nat}{PG PU Au:ai}{N cU:Nat}{dU:List aX}{U:ag}{iQ:List Ck}{t:ad}{B:ai}{q r:Nat}{xs:ah}(h:St w0 w' (mV PF A c rs F PB n AR nR cR AD m d PG PU Au N cU dU U (ar t B q r xs::iQ))):bt w' B q xs:=(h.perm (OK ..).symm).bk 0 rfl
theorem Yj(PF A:ai)(c:Nat)(rs:List aX)(F:ag)(PB:ai)(n:Int)(AR:ai)(nR cR:Nat)(AD:ai)(m d:Nat)(PG PU Au:ai)(N cU:Nat)(dU:List aX)(U:ag)(iQ:List Ck)(x:Ck):(mV PF A c rs F PB n AR nR cR AD m d PG PU Au N cU dU U iQ).Sublist (mV PF A c rs F PB n AR nR cR AD m d PG PU Au N cU dU U (x::iQ)):=(((((((dY iQ).cons x).append_left _).cons_cons _).cons_cons _).cons_cons _).append_left _).cons_cons _
theorem OL{w0 w':aa}{PF A:ai}{c:Nat}{rs:List aX}{F:ag}{PB:ai}{n:Int}{AR:ai}{nR cR:Nat}{AD:ai}{m d:Nat}{PG PU Au:ai}{N cU:Nat}{dU:List aX}{U:ag}{iQ:List Ck}(FO:U.length=N)(h:St w0 w' (mV PF A c rs F PB n AR nR cR AD m d PG PU Au N cU dU U iQ)):bL w' Au N dU U:=
 St.eU (t1:=24) (t2:=2) (c:=cU) (h.sub (((((dY (aU 24 2 Au N cU dU U++iQ)).cons _).cons _).cons _).trans (Fu ..))) FO
theorem Yc(w0:aa)(n:Nat)(hn5:n<=5)(PF PB AR AD PG PU Au:ai)(nR cR m d N cU:Nat)(dU:List aX)(U:ag)(FO:U.length=N)(hN:N<=500)(ZQ:∀e:Nat,e<N->(gl U e).length<=500/\∀x∈gl U e,0<=x/\x< (N:Int)):
 ∀(k nf nx:Nat) (fl xs:ah) (Af Ax:ai) (cf cx:Nat) (iQ:List Ck) (w:aa) (A:ai) (c:Nat) (rs:List aX) (F:ag),fl.length=nf->xs.length=nx->nf+ (k+1)=n->nx<=500->(∀x∈xs,0<=x/\x< (N:Int))->
  (∀w' A c rs F,St w0 w' (mV PF A c rs F PB n AR nR cR AD m d PG PU Au N cU dU U iQ)->bt w' Af nf fl)->
  (∀w' A c rs F,St w0 w' (mV PF A c rs F PB n AR nR cR AD m d PG PU Au N cU dU U iQ)->bt w' Ax nx xs)->
  rs.length=F.length->F.length<=401->St w0 w (mV PF A c rs F PB n AR nR cR AD m d PG PU Au N cU dU U iQ)->
  aG prog 131 [.slice Af nf cf,.slice Ax nx cx,.pointer PF,.pointer PB,.pointer PG,.pointer PU] w (fun v w'=>v= .tuple #[]/\∃A' c' rs',rs'.length=(cap (F++l6 U k fl xs)).length/\St w0 w' (mV PF A' c' rs' (cap (F++l6 U k fl xs)) PB n AR nR cR AD m d PG PU Au N cU dU U iQ)):=by
 intro k
 induction k using Nat.strongRecOn with
 | _ k ih=>
  intro nf nx fl xs Af Ax cf cx iQ w A c rs F QP gf kS hxs Rx hf hx sj hF hS;refine bw func131 O ntmps131 O (afq O) ?_;refine bb O (ba O O (az O ?_));refine Cd.loop (α:=Nat×ai×Nat×List aX) (fun z=> [(0,.slice Af nf cf),(2,.pointer PF),(3,.pointer PB),(4,.pointer PG),(5,.pointer PU),(11,.slice Ax nx cx),(12,aj nx),(13,aj (z.1:Int))])
   (fun z w'=>z.1<=nx/\z.2.2.2.length=(cap (F++l6 U k fl (xs.take z.1))).length/\St w0 w' (mV PF z.2.1 z.2.2.1 z.2.2.2 (cap (F++l6 U k fl (xs.take z.1))) PB n AR nR cR AD m d PG PU Au N cU dU U iQ)) (fun z=>nx - z.1) (0,A,c,rs) ⟨rfl,rfl,rfl,rfl,rfl,rfl,rfl,rfl,aw⟩ ⟨bu _,by
     show rs.length=(cap (F++ [])).length;rw [iz,H6 hF];exact sj,by
     show St w0 w (mV PF A c rs (cap (F++ [])) _ _ _ _ _ _ _ _ _ _ _ _ _ _ _ _);rw [iz,H6 hF];exact hS⟩ ?_
  clear hS sj;rintro⟨j,A,c,rs⟩ e w1 ⟨hj,sj,hS⟩;dsimp only at hj sj hS|-;generalize hG:F++l6 U k fl (xs.take j)=G at*;refine b8 O (aM _ O (fun h1=>?_) (fun h1=>?_))
  ·have s5:j<xs.length:=by omega
   have hR:=hx _ _ _ _ _ hS;have vJ:=Rx _ (gi_in s5);have An:F++l6 U k fl (xs.take (j+1))=G++ (ve U k (gi xs j)).map fun y=>fl++gi xs j::y:=by
    rw [Yb s5,<-fK,hG]
   have Ga:F++l6 U k fl xs=G++l6 U k fl (xs.drop j):=by
    rw [<-hG,fK]
    congr 1
    unfold l6;rw [<-List.flatMap_append,List.take_append_drop]
   refine aD O (aA hR.2 O (aY hR O (aq O ?_)));obtain⟨E,hE⟩:∃E:Nat,gi xs j=E:=⟨(gi xs j).toNat,by omega⟩;rw [hE]at An vJ|-;refine aF (Ho Af nf cf fl _ (hf _ _ _ _ _ hS) (by omega)) O ?_;rintro _ w2 ⟨pn,u7,rfl,ax⟩;have aE:=hS.call ax;clear ax hS;refine aq O (dE aE O O O ?_);intro jC w3 aH;refine dS 1 aH O (aH.bk 0 O) O O O ?_;intro dv dG w4 aQ;have aQ:St w0 w4 (ar 2 dv (nf+1) dG (fl++ [(E:Int)])::mV PF A c rs (cap G) PB n AR nR cR AD m d PG PU Au N cU dU U iQ):=aQ.tail;clear aH aE;have fa:Rd w4 PF 1 (fun _=> .slice A (cap G).length c):=Rd.one (aQ.rd 1 O);refine aq O (ajt (j:=0) fa (by exact aL Value.pointer (mF _).symm) O O O O ?_);refine ba O O (az O ?_);refine aM _ O (fun h2=>?_) (fun h2=>?_)
   ·refine dB O (dO (dJ ?_));refine afK ⟨O,A,c,rs,?_,?_⟩
    ·rw [Ga,NC _ (by omega)];exact sj
    ·rw [Ga,NC _ (by omega)];exact aQ.tail
   have bE:=NA (l:=G) (by omega);have gP:=((aQ.tail).sub (Fu ..)).rd 0 O
   by_cases mZ:k=0
   ·--dup 2
    refine cW O (dQ [xS (dv) (nf+1) (dG),xI ((nf+1:Nat):Int),xP (aB (PB) 0),xI ((n:Int)),xB (true),xB (true)] O (eE O) ?_ ?_)
    ·refine⟨Dr O,?_,fun _ _ hb _ _=>aI (gP.below hb) O Az,fun _ _ hb _ _=>fL (gP.below hb) O O O O O Az,fun _ _ _ _ _=>Dk O (by exact aL Value.bool (eC (by omega))),Dr O,aw⟩
     ·intro e1 w1 hb hp bc;refine aF (xX _ _ _ _) O ?_;rintro _ w2 ⟨rfl,ax⟩;subst ax;refine ak.n (d0 (by exact O))
    intro u w5 fS _;have a8:=aQ.ao fS;clear aQ gP fa;have fa:Rd w5 PF 1 (fun _=> .slice A (cap G).length c):=Rd.one (a8.rd 1 O);refine fv O (Cd.eH O (aD O (ajt (j:=0) fa (by exact aL Value.pointer (mF _).symm) O O O O (aq O (lU a8 O O O ?_)))));intro oK w6 bg;refine lS 3 bg O (bg.fq 0 O) O O O (by omega) (by omega) O ?_;intro eR eS w7 bl;refine ak.st (i:=2) (j:=0) bl O (by exact aL Value.pointer (mF _).symm) O O (Nat.succ_pos _) ?_;intro w8 bK;have bh:St w0 w8 (ar 2 dv (nf+1) dG (fl++ [(E:Int)])::Bx 25 1 PF [.slice eR ((cap G).length+1) eS]::br 24 eR ((cap G).length+1) eS (rs++ [⟨dv,nf+1,dG⟩])::(bF 2 rs (cap G)++_)):=bK.tail;have bh:=bh.perm (afe _ _ _ _ _);rw [<-vV sj]at bh;have hex:(ve U k (E:Int)).map (fun y=>fl++ (E:Int)::y)=[fl++ [(E:Int)]]:=by rw [mZ];rfl
    rw [hex]at An;have uf:=WR (l:=G) (fl++ [(E:Int)]) (by omega);refine aq O (aK O (aS O (tQ ?_)));refine⟨(j+1,eR,eS,rs++ [⟨dv,nf+1,dG⟩]),by show nx - (j+1)<nx - j;omega,(ajz O),by show j+1<=nx;omega,?_,?_⟩
    ·show(rs++ [_]).length=(cap (F++l6 U k fl (xs.take (j+1)))).length;rw [An,uf,dh,dh,sj];rfl
    ·show St w0 w8 (mV PF eR eS (rs++ [_]) (cap (F++l6 U k fl (xs.take (j+1)))) PB n AR nR cR AD m d PG PU Au N cU dU U iQ);rw [An,uf];show St w0 w8 (Bx _ 1 PF [.slice eR (cap G++ [fl++ [(E:Int)]]).length eS]::(br _ eR (cap G++ [fl++ [(E:Int)]]).length eS _::_));rw [show(cap G++ [fl++ [(E:Int)]]).length=(cap G).length+1 by simp];exact bh
   ·obtain⟨k',rfl⟩:∃k',k=k'+1:=⟨k - 1,by omega⟩;rw [Ya]at An;refine cW O (dQ [xS (dv) (nf+1) (dG),xI ((nf+1:Nat):Int),xP (aB (PB) 0),xI ((n:Int)),xB (false),xB (false)] O (eE O) ?_ ?_)
    ·refine⟨Dr O,?_,fun _ _ hb _ _=>aI (gP.below hb) O Az,fun _ _ hb _ _=>fL (gP.below hb) O O O O O Az,fun _ _ _ _ _=>Dk O (by exact aL Value.bool (cM (by omega))),Dr O,aw⟩
     ·intro e1 w1 hb hp bc;refine aF (xX _ _ _ _) O ?_;rintro _ w2 ⟨rfl,ax⟩;subst ax;refine ak.n (d0 (by exact O))
    intro u w5 fS _;have a8:=(aQ.ao fS).perm (OK ..);clear aQ gP fa;have km:Rd w5 PG 1 (fun _=> .func (.func 131) #[] #[.pointer PF,.pointer PB,.pointer PG,.pointer PU]):=Rd.one ((a8.sub (Fu ..)).rd 1 O);have jX:Rd w5 PU 1 (fun _=> .slice Au N cU):=Rd.one ((a8.sub (Fu ..)).rd 2 O);have hU:=OL FO a8;have Rb:=hU.at_ (i:=(E:Int)) (by omega) (by omega);have rT:=ZQ E (by omega);refine fv O (Cd.dZ O ?_);refine jm [6] [.ex (.func (.func 131) #[] #[.pointer PF,.pointer PB,.pointer PG,.pointer PU]),yS (dv) (nf+1) (dG),yS (Au) (N) (cU),yI ((E:Int)),yP (aB (Au) ((E:Int)).toNat),yS ((rg (dU) ((E:Int))).a) ((rg (dU) ((E:Int))).n) ((rg (dU) ((E:Int))).c),.pr (fun v w'=>∃A' c' rs',rs'.length=(cap (cap G++l6 U k' (fl++ [(E:Int)]) (gl U E))).length/\St w0 w' (mV PF A' c' rs' (cap (cap G++l6 U k' (fl++ [(E:Int)]) (gl U E))) PB n AR nR cR AD m d PG PU Au N cU dU U iQ))] (ly (ly (ly (ly (ly (ly (cg.2 ⟨Ye.cH (fun v w w' h hb=>by obtain⟨A',c',rs',oy,hT⟩:=h;exact⟨A',c',rs',oy,hT.ao hb⟩),(fun _ h=>by cases h)⟩))))))) ?_ ?_
    ·refine⟨?_,bZ O,cP fun _ _ hb _ _ _=>ajt (j:=0) (jX.below hb) (by exact aL Value.pointer (mF _).symm) O O O O (bq O O),bZ O,cP fun _ _ hb _ _ _=>aA (hU.top.ao hb).2 O (bq O O),cP fun _ _ hb _ _ _=>bQ (hU.top.ao hb) O (bq O O),?_,aw⟩
     ·refine cP fun e1 w1 hb hp bc hq=>?_
      refine ak.ld (Rd.below km hb) (by exact aL Value.pointer (mF _).symm) (by decide) O O O ?_;refine ak.n (gh O (by exact O))
     ·refine ju fun e1 w1 hb hp bc hq=>?_
      refine aF (ih k' (Nat.lt_succ_self _) (nf+1) (rg dU E).n (fl++ [(E:Int)]) (gl U E) dv (rg dU E).a dG (rg dU E).c (ar 2 dv (nf+1) dG (fl++ [(E:Int)])::iQ) _ A c rs (cap G) (by rw [dh,QP];rfl) Rb.1 (by omega) (by have:=Rb.1;omega) rT.2 (fun w' A c rs F h=>Ss h) (fun w' A c rs F h=> (OL FO h).at_ (i:=(E:Int)) (by omega) (by omega)) sj (ND G) (a8.ao hb)) O ?_;rintro _ w9 ⟨rfl,A',c',rs',oy,bh⟩;exact ak.n (fF.dn O ⟨A',c',rs',oy,bh.sub (Yj ..)⟩)
    intro u w6 _ hu _ _;obtain⟨A',c',rs',oy,hT⟩:=hu 6 _ rfl (by kernel_rfl);rw [bE,<-An]at oy hT;refine fJ O (aK O (aS O (tQ ?_)));exact⟨(j+1,A',c',rs'),by show nx - (j+1)<nx - j;omega,(ajz O),by show j+1<=nx;omega,oy,hT⟩
  ·have s5:j=xs.length:=by omega
   rw [s5,List.take_length]at hG;rw [<-hG]at sj hS;refine bo O (bn (zD O ?_));exact afJ ⟨O,A,c,rs,sj,hS⟩
def uQ(n:Nat)(R:ah)(B:ag)(E F x:Nat):ah:=
 if x<E then []else(kJ R B x).filter fun g=>decide (fD n R B g/\(x=E->g< (F:Int)))
def fW(n:Nat)(R:ah)(B:ag)(E F:Nat):ag:=(List.range R.length).map (uQ n R B E F)
def tN(n:Nat)(R:ah)(B:ag)(E F x:Nat):Bool:=
 if x<E then false else if x=E then decide (gi R x=(n:Int) - 1\/∃g∈kJ R B x,fD n R B g/\g< (F:Int))else decide (fD n R B x)
def fP(n:Nat)(R:ah)(B:ag)(E F:Nat):List Bool:=(List.range R.length).map (tN n R B E F)
section
variable {n:Nat} {R:ah} {B:ag} {E F x:Nat}
theorem x8:(fW n R B E F).length=R.length:=by simp [fW]
theorem qE:(fP n R B E F).length=R.length:=by simp [fP]
theorem Mb(h:x<R.length):gl (fW n R B E F) x=uQ n R B E F x:=by
 rw [fm (by rw [x8];exact h)];simp [fW]
theorem MZ(h:x<R.length):gb (fP n R B E F) x=tN n R B E F x:=by
 unfold gb;rw [gB,dt,fU (by rw [qE];exact h),Option.getD_some];simp [fP]
theorem agZ:fW n R B R.length F=List.replicate R.length []:=by
 refine List.eq_replicate_iff.2 ⟨x8,fun y hy=>?_⟩;obtain⟨x,hx,rfl⟩:=eh.1 hy;unfold uQ;rw [aT (nu.1 hx)]
theorem VM:fP n R B R.length F=List.replicate R.length false:=by
 refine List.eq_replicate_iff.2 ⟨qE,fun y hy=>?_⟩;obtain⟨x,hx,rfl⟩:=eh.1 hy;unfold tN;rw [aT (nu.1 hx)]
theorem EA(hP:eV n R B){e g:Int}(h:g∈kJ R B e):e<g/\g<R.length:=by
 obtain⟨h1,_,h3⟩:=sD.1 h;exact⟨((hP.at_ h1.1 h1.2).2.1 e h3).1.2,h1.2⟩
theorem ag2(hP:eV n R B)(hE:E<R.length):fW n R B E (E+1)=fW n R B (E+1) R.length:=by
 refine pw fun x hx=>?_
 have hx:=nu.1 hx;unfold uQ
 by_cases c1:x<E
 ·rw [aT c1,aT (by omega)]
 rw [aR c1]
 by_cases c2:x=E
 ·subst c2;rw [aT (by omega),List.filter_eq_nil_iff];intro g hg h;have h3:=(rb h).2 O;have:=EA hP hg;omega
 rw [aR (by omega)];refine List.filter_congr fun g hg=>nA.2 ?_
 have:=EA hP hg;exact⟨fun h=> ⟨h.1,fun _=>by omega⟩,fun h=> ⟨h.1,fun h=>absurd h c2⟩⟩
theorem ag1(h:¬(fD n R B F/\(F:Int)∈kJ R B E)):fW n R B E (F+1)=fW n R B E F:=by
 refine pw fun x hx=>?_
 unfold uQ
 by_cases c1:x<E
 ·rw [aT c1,aT c1]
 rw [aR c1,aR c1];refine List.filter_congr fun g hg=>nA.2 ⟨fun h2=> ⟨h2.1,fun e=>?_⟩,fun h2=> ⟨h2.1,fun e=>by have:=h2.2 e;omega⟩⟩
 have h3:=h2.2 e;subst e;have:g≠(F:Int):=fun e=>h ⟨e▸h2.1,e▸hg⟩
 omega
theorem ag0(hE:E<R.length)(h:fD n R B F/\(F:Int)∈kJ R B E):(fW n R B E F).set E (gl (fW n R B E F) E++ [(F:Int)])=fW n R B E (F+1):=by
 apply jV (by rw [iR,x8,x8]);intro x h1 h2;rw [x8]at h2;have e2:∀d' (hx:x< (fW n R B E d').length),(fW n R B E d')[x]=uQ n R B E d' x:=fun d' hx=>by simp [fW]
 rw [List.getElem_set,e2 (F+1) (by rw [x8];exact h2),e2 F (by rw [x8];exact h2)]
 by_cases c:E=x
 ·subst c;rw [aT rfl,Mb hE];unfold uQ;rw [aR (Nat.lt_irrefl _),aR (Nat.lt_irrefl _)];have hs:=Hc R B E;refine SA.eq ?_ (tG _ hs) fun y=>?_
  ·rw [SA,List.pairwise_append];refine⟨tG _ hs,List.pairwise_singleton _ _,fun a ha b hb=>?_⟩;obtain rfl:=dK.1 hb;exact(rb (ja.1 ha).2).2 O
  rw [eD,ja,ja,dK];simp only [nB];constructor
  ·rintro(⟨h3,h4,h5⟩ | rfl)
   ·exact⟨h3,h4,fun e=>by have:=h5 e;omega⟩
   exact⟨h.2,h.1,fun _=>by omega⟩
  rintro⟨h3,h4,h5⟩
  by_cases e3:y=(F:Int)
  ·exact .inr e3
  exact .inl ⟨h3,h4,fun e=>by have:=h5 e;omega⟩
 rw [aR c];unfold uQ
 by_cases c1:x<E
 ·rw [aT c1,aT c1]
 rw [aR c1,aR c1];exact List.filter_congr fun g hg=>nA.2 ⟨fun h2=> ⟨h2.1,fun e=>absurd e.symm c⟩,fun h2=> ⟨h2.1,fun e=>absurd e.symm c⟩⟩
theorem M0{x:Nat}(hP:eV n R B)(hx:x<R.length)(h:(gi R x=(n:Int) - 1\/∃g∈kJ R B x,fD n R B g/\g< (R.length:Int))):fD n R B x:=by
 rcases h with h | ⟨g,h1,h2,_⟩
 ·exact VT h
 have h3:=(sD.1 h1);have:=hP.ri h3.1.1 h3.1.2;have:=hP.ri (e:=(x:Int)) (by omega) (by omega);exact(M5 (by omega) (by omega)).2 ⟨g,h1,h2⟩
theorem M1{x:Nat}(hP:eV n R B)(hx:x<R.length)(h:fD n R B x):(gi R x=(n:Int) - 1\/∃g∈kJ R B x,fD n R B g/\g< (R.length:Int)):=by
 have:=hP.ri (e:=(x:Int)) (by omega) (by omega)
 by_cases c:gi R x=(n:Int) - 1
 ·exact .inl c
 obtain⟨g,h1,h2⟩:=(M5 (by omega) (by omega)).1 h;exact .inr ⟨g,h1,h2,(EA hP h1).2⟩
theorem VP(hP:eV n R B)(hE:E<R.length):(fP n R B (E+1) R.length).set E (decide (gi R E=(n:Int) - 1))=fP n R B E (E+1):=by
 apply jV (by rw [iR,qE,qE]);intro x h1 h2;rw [qE]at h2;have e2:∀e' d' (hx:x< (fP n R B e' d').length),(fP n R B e' d')[x]=tN n R B e' d' x:=fun e' d' hx=>by simp [fP]
 rw [List.getElem_set,e2 _ _ (by rw [qE];exact h2),e2 _ _ (by rw [qE];exact h2)];unfold tN
 by_cases c:E=x
 ·subst c;rw [aT rfl,aR (Nat.lt_irrefl _),aT rfl];refine nA.2 ⟨fun h=> .inl h,fun h=>?_⟩;rcases h with h | ⟨g,h3,_,h4⟩
  ·exact h
  have:=EA hP h3;omega
 rw [aR c]
 by_cases c1:x<E
 ·rw [aT (by omega),aT c1]
 rw [aR (by omega),aR c1,aR (show ¬x=E from fun e=>c e.symm)]
 split
 ·refine nA.2 ⟨fun h=>M0 hP h2 h,fun h=>M1 hP h2 h⟩
 rfl
theorem VO(h:¬(fD n R B F/\(F:Int)∈kJ R B E)):fP n R B E (F+1)=fP n R B E F:=by
 refine pw fun x hx=>?_
 unfold tN
 by_cases c1:x<E
 ·rw [aT c1,aT c1]
 rw [aR c1,aR c1]
 by_cases c2:x=E
 ·subst c2;rw [aT rfl,aT rfl];refine nA.2 (or_congr Iff.rfl ⟨?_,?_⟩)
  ·rintro⟨g,h1,h2,h3⟩;have:g≠(F:Int):=fun e=>h ⟨e▸h2,e▸h1⟩
   exact⟨g,h1,h2,by omega⟩
  rintro⟨g,h1,h2,h3⟩;exact⟨g,h1,h2,by omega⟩
 rw [aR c2,aR c2]
theorem VN(hE:E<R.length)(h:fD n R B F/\(F:Int)∈kJ R B E):(fP n R B E F).set E true=fP n R B E (F+1):=by
 apply jV (by rw [iR,qE,qE]);intro x h1 h2;rw [qE]at h2;have e2:∀e' d' (hx:x< (fP n R B e' d').length),(fP n R B e' d')[x]=tN n R B e' d' x:=fun e' d' hx=>by simp [fP]
 rw [List.getElem_set,e2 _ _ (by rw [qE];exact h2),e2 _ _ (by rw [qE];exact h2)];unfold tN
 by_cases c:E=x
 ·subst c;rw [aT rfl,aR (Nat.lt_irrefl _),aT rfl];exact(eC (.inr ⟨_,h.2,h.1,by omega⟩)).symm
 rw [aR c]
 by_cases c1:x<E
 ·rw [aT c1,aT c1]
 rw [aR c1,aR c1,aR (fun e=>c e.symm),aR (fun e=>c e.symm)]
theorem VL(hP:eV n R B)(tX:E<F)(hF:F<R.length):gb (fP n R B E F) F=decide (fD n R B F):=by
 rw [MZ hF];unfold tN;rw [aR (by omega),aR (by omega)]
theorem VK(hP:eV n R B)(hx:x<R.length):gb (fP n R B 0 R.length) x=decide (fD n R B x):=by
 rw [MZ hx];unfold tN;rw [aR (by omega)]
 split
 ·exact nA.2 ⟨fun h=>M0 hP hx h,fun h=>M1 hP hx h⟩
 rfl
theorem TT(hP:eV n R B)(hx:x<R.length):gl (fW n R B 0 R.length) x=(kJ R B x).filter fun g=>decide (fD n R B g):=by
 rw [Mb hx];unfold uQ;rw [aR (by omega)];refine List.filter_congr fun g hg=>nA.2 ⟨fun h=>h.1,fun h=> ⟨h,fun _=> (EA hP hg).2⟩⟩
theorem ID{α β:Type}{f g:α->List β}:∀ {l:List α},(∀x∈l,f x=g x)->l.flatMap f=l.flatMap g
 | [],_=>rfl
 | a::r,h=>by rw [List.flatMap_cons,List.flatMap_cons,h a (List.mem_cons_self ..),ID fun x hx=>h x (eb _ hx)]
theorem Oe(hP:eV n R B):∀(k:Nat) (e:Int),0<=e->e<R.length->(gi R e).toNat+k=n - 1->ve (fW n R B 0 R.length) k e=oW R B k e
 | 0,_,_,_,_=>rfl
 | k+1,e,h0,h1,h2=>by
  have hr:=hP.ri h0 h1;obtain⟨x,rfl⟩:∃x:Nat,e=x:=⟨e.toNat,by omega⟩;rw [ve,TT hP (by omega),ag3 hr.1 (by omega)];refine ID fun f hf=>?_
  have hf:=(sD.1 (ja.1 hf).1);rw [Oe hP k f hf.1.1 hf.1.2 (by omega)]
theorem X9(hn:1<=n)(hP:eV n R B):l6 (fW n R B 0 R.length) (n - 1) [] ((wC R).filter fun f=>decide (fD n R B f))=gy n R B:=by
 rw [Wx];unfold l6;refine ID fun e he=>?_
 have he:=CR.1 (ja.1 he).1;rw [Oe hP _ e he.1.1 he.1.2 (by omega)]
 rfl
theorem Wy{m:Nat}(hm:m<R.length):((dL (m+1)).filter fun e=>decide (gi R e=0) && decide (fD n R B e))=((dL m).filter fun e=>decide (gi R e=0) && decide (fD n R B e))++ (if gi R m=0/\fD n R B m then [(m:Int)]else []):=by
 unfold dL;rw [tI,qA,List.filter_append]
 congr 1
 by_cases c:gi R m=0/\fD n R B m
 ·rw [aT c];simp [c.1,c.2]
 rw [aR c];rw [List.filter_eq_nil_iff];intro a ha h;obtain rfl:=dK.1 ha;simp at h;exact c h
theorem Ww:((dL R.length).filter fun e=>decide (gi R e=0) && decide (fD n R B e))=(wC R).filter fun f=>decide (fD n R B f):=by
 unfold wC;rw [List.filter_filter];exact List.filter_congr fun x _=>Bool.and_comm _ _
end
def yr(n:Nat)(R:ah)(B:ag):ag:=if(gy n R B).length<=400 then gy n R B else []
def yq(n:Nat)(R:ah)(B:ag):Int:=if(gy n R B).length<=400 then 0 else 3
abbrev sR(A1 PU Au fc:ai)(n:Nat)(A D:ai)(N cA cD:Nat)(al:List Bool)(dU:List aX)(U:ag):List Ck:=
 iy 4 fc N N al::Bx 25 1 PU [.slice Au N N]::bp A1 n A N cA D N cD::(aU 24 2 Au N N dU U++ [])
theorem XJ(n:Nat)(A D:ai)(cA cD:Nat)(R:ah)(rs:List aX)(B:ag)(w:aa)(hR:bt w A R.length R)(hB:bL w D B.length rs B)(hP:eV n R B):
 aG prog 71 [.agg #[aj n,.slice A R.length cA,.slice D B.length cD]] w (EF (yr n R B) (yq n R B) w):=by
 have hn:=hP.n1;have rV:=hP.od;have hle:=hP.len;have bM:=fun e (h:e<R.length)=>hP.row e h
 have bT:∀e:Nat,e<R.length->(gl B e).length<=500:=fun e h=>by
  have:=sy (N:=R.length) (bM e h).1.nodup fun x hx=> ((bM e h).2 x hx).1
  omega
 have Kt:∀E F:Nat,(fW n R B E F).length=R.length:=fun E F=>x8
 have pM:∀E F:Nat,(fP n R B E F).length=R.length:=fun E F=>qE
 have Rl:=fun E (h:E<R.length)=>ag2 (n:=n) hP h
 have Rk:=fun E (h:E<R.length)=>VP (n:=n) hP h
 have Qw:=agZ (n:=n) (R:=R) (B:=B) (F:=R.length);have Qx:=VM (n:=n) (R:=R) (B:=B) (F:=R.length);have F3:=fun E F (h:E<F) (hF:F<R.length)=>VL (n:=n) hP h hF
 have DN:=fun E F (hE:E<R.length) h=>ag0 (n:=n) (R:=R) (B:=B) (E:=E) (F:=F) hE h
 have QW:=fun E F (hE:E<R.length) h=>VN (n:=n) (R:=R) (B:=B) (E:=E) (F:=F) hE h
 have Jc:bL w D R.length rs B:=hle▸hB;have aaQ:=RI n A D cA cD R rs B w hR hB hP;have iV:=fun x (h:x<R.length)=>VK (n:=n) hP h
 have Rs:=fun x (h:x<R.length)=>TT (n:=n) hP h
 have Qr:=X9 (n:=n) (by omega) hP;have Ba:=fun m (h:m<R.length)=>Wy (n:=n) (B:=B) h
 have JK:=Ww (n:=n) (R:=R) (B:=B);have Rt:=fun(e f:Int)=>sD (R:=R) (B:=B) (e:=e) (f:=f)
 obtain⟨N,hN⟩:∃N,R.length=N:=⟨_,rfl⟩;rw [hN]at hR rV hle bM bT Jc Rl Rk Qw Qx F3 DN QW iV Rs Qr Ba JK;simp only [hN]at Kt pM Rt;rw [hN,hle]at aaQ|-;refine bw func71 O ntmps71 O (oF O) (bb O (lT (St.refl w) O O ?_));intro A1 w1 aC;have h1:Rd w1 A1 3 (fun j=> [Value.int .i64 (n:Int),.slice A N cA,.slice D N cD].getD j undef):=aC.rd 0 O;refine aq O (bI 2 h1 O O O ?_);refine ajq (RI n A D cA cD R rs B w1 (by rw [hN];exact aC.b9 hR) (by rw [hle];exact aC.cV Jc) hP) O (by rw [hN,hle];rfl) O ?_;rintro _ w2 ⟨rfl,ax⟩;have aE:=aC.ao ax.below;have h1:=Rd.below h1 ax.below;clear ax aC
 first | refine de rfl rfl ?_ | refine dV rfl rfl ?_
 refine az O (Cd.dZ O (aD O (aI h1 O (aV h1 O (aF (xX _ _ _ _) O ?_)))));rintro _ w2 ⟨rfl,rfl⟩;refine aq O (Hz N aE O O (by omega) ?_);intro Au w3 aH;have aH:St w w3 ([br 24 Au N N (List.replicate N bW),bp A1 n A N cA D N cD]):=aH;refine ak.new (z:= .slice none 0 0) aH O O ?_;intro PU w4 aQ;refine ak.st (i:=0) (j:=0) aQ O (by exact aL Value.pointer (mF _).symm) O O (Nat.succ_pos _) ?_;intro w5 a8;have a8:St w w5 (Bx 25 1 PU [.slice Au N N]::[br 24 Au N N (List.replicate N bW),bp A1 n A N cA D N cD]):=a8;refine aq O (zH (v:=false) N a8 O O (by omega) ?_);intro fc w6 bg;have bg:=GK (t:=2) N bg;have bl:St w w6 (sR A1 PU Au fc n A D N cA cD (fP n R B N N) (List.replicate N bW) (fW n R B N N)):=by
  rw [Qw,Qx];refine bg.perm ?_
  classical
  refine px.2 fun z=>?_
  simp only [sR,aU,rz,nZ,rA];omega
 clear bg a8 aQ aH aE h1;refine aq O (dq O (az O ?_));refine Cd.loop (α:=Nat×List aX) (fun z=> [(1,.pointer A1),(4,aj N),(5,.pointer PU),(6,.slice fc N N),(7,aj ((z.1:Int) - 1))]) (fun z w'=>z.1<=N/\z.2.length=N/\St w w' (sR A1 PU Au fc n A D N cA cD (fP n R B z.1 N) z.2 (fW n R B z.1 N))) (fun z=>z.1) (N,List.replicate N bW) (ajz O) ⟨dC _,by simp,bl⟩ ?_;clear bl;rintro⟨E',dU⟩ e w7 ⟨hE,uy,hS⟩;dsimp only at hE uy hS|-;refine b8 O (aM _ O (fun h2=>?_) (fun h2=>?_))
 ·obtain⟨E,rfl⟩:∃E,E'=E+1:=⟨E' - 1,by omega⟩;have pJ:E<N:=by omega
  rw [show((E+1:Nat):Int) - 1=(E:Int) by omega];have FL:=hS.b9 hR;have hal7:=pM (E+1) N;refine cW O ?_;refine jm [12] [yS (fc) (N) (N),yI ((E:Int)),yP (aB (A1) 1),yS (A) (N) (cA),yI ((E:Int)),yP (aB (A) ((E:Int)).toNat),yI (gi (R) ((E:Int))),yP (aB (A1) 0),yI ((n:Int)),yI (((n:Int)) - ((1:Int))),yB (decide ((gi (R) ((E:Int)))=(((n:Int)) - ((1:Int))))),yP (aB (fc) ((E:Int)).toNat),.pr (fun _ w'=>St w w' (sR A1 PU Au fc n A D N cA cD ((fP n R B (E+1) N).set E (decide (gi R E=(n:Int) - 1))) dU (fW n R B (E+1) N)))] (ly (ly (ly (ly (ly (ly (ly (ly (ly (ly (ly (ly (cg.2 ⟨Ye.cH (fun v w w' h hb=>h.ao hb),(fun _ h=>by cases h)⟩))))))))))))) ?_ ?_
  ·refine⟨bZ O,bZ O,cP fun _ _ hb _ _ _=>aI ((hS.rd 2 O).below hb) O (bq O O),cP fun _ _ hb _ _ _=>aV ((hS.rd 2 O).below hb) O (bq O O),bZ O,cP fun _ _ hb _ _ _=>aA (FL.ao hb).2 O (bq O O),cP fun _ _ hb _ _ _=>aY (FL.ao hb) O (bq O O),cP fun _ _ hb _ _ _=>aI ((hS.rd 2 O).below hb) O (bq O O),cP fun _ _ hb _ _ _=>fL ((hS.rd 2 O).below hb) O O O O O (bq O O),aP fun _ _=>dq O (bq O O),bZ O,cP fun _ _ hb _ _ _=>aA ((hS.kY 0 O).ao hb).2 O (bq O O),?_,aw⟩;refine ju fun e1 w1 hb hp bc hq=>?_
   exact wv 0 (hS.ao hb) O O O (by omega) fun w6 bg=>ak.n (fF.st O bg)
  intro u w8 _ hu pY hu3;have bK:=hu 12 _ O (by kernel_rfl);rw [Rk E pJ,<-Rl E pJ]at bK;clear hS hu pY hu3;refine fJ O (aK O (az O ?_));refine Cd.loop (α:=Nat×List aX) (fun z=> [(1,.pointer A1),(4,aj N),(5,.pointer PU),(6,.slice fc N N),(7,aj E),(8,aj (z.1:Int))]) (fun z w'=> (E<z.1/\z.1<=N)/\z.2.length=N/\St w w' (sR A1 PU Au fc n A D N cA cD (fP n R B E z.1) z.2 (fW n R B E z.1))) (fun z=>N - z.1) (E+1,dU) (ajz O) ⟨⟨Nat.lt_succ_self _,by show E+1<=N;omega⟩,uy,bK⟩ ?_;clear bK uy dU;rintro⟨F,dU⟩ e w9 ⟨⟨tX,Y6⟩,uy,hS⟩;dsimp only at tX Y6 uy hS|-;refine b8 O (aM _ O (fun h3=>?_) (fun h3=>?_))
  ·have hF:F<N:=by omega
   have wU:=hS.b9 hR;have wO:=hS.cV Jc;have hal9:=pM E F;have JT:=F3 E F tX hF;have hrF:=bM F hF;have Ku:=Rt (E:Int) (F:Int);have ir:=hP.ri (e:=(E:Int)) (by omega) (by omega);have h1:Rd w9 A1 3 (fun j=> [Value.int .i64 (n:Int),.slice A N cA,.slice D N cD].getD j undef):=hS.rd 2 O;have aag:gb (fP n R B E F) F=false\/(gb (fP n R B E F) F=true/\¬gi R F=gi R E+1)\/(gb (fP n R B E F) F=true/\gi R F=gi R E+1):=by
    cases gb (fP n R B E F) F<;>simp [Decidable.em,Classical.em]
    exact(Classical.em _).symm
   have xC:¬(fD n R B F/\(F:Int)∈kJ R B E)->St w w9 (sR A1 PU Au fc n A D N cA cD (fP n R B E (F+1)) dU (fW n R B E (F+1))):=fun h=>by
    rw [VO h,ag1 h];exact hS
   rcases aag with hg | ⟨hg,hr⟩ | ⟨hg,hr⟩
   ·
    have gE:¬(fD n R B F/\(F:Int)∈kJ R B E):=fun h=>by
     rw [hg]at JT;have:=eC h.1;rw [<-JT]at this;cases this
    refine cW O (dQ [xS (fc) (N) (N),xI ((F:Int)),xP (aB (fc) ((F:Int)).toNat),xB (gb (fP n R B E F) ((F:Int))),xB (false),xU,xU,xU,xU,xU,xU,xU,xU,xU,xU,xU,xU,xB (false),xB (false),xU,xU,xU,xB (false)] O (eE O) ?_ ?_)
    ·exact⟨Dr O,Dr O,fun _ _ hb _ _=>aA ((hS.kY 0 O).ao hb).2 O Az,fun _ _ hb _ _=>uV ((hS.kY 0 O).ao hb) O (by omega) O O Az,fun _ _ _ _ _=>Dk O (by exact aL Value.bool (hg)),Dr O,Dr O,Dr O,Dr O,Dr O,Dr O,Dr O,Dr O,Dr O,Dr O,Dr O,Dr O,Dr O,fun _ _ _ _ _=>Dk O (by exact aL Value.bool (O)),Dr O,Dr O,Dr O,Dr O,aw⟩
    intro u dA hb _;refine fv O (Cd.dZ O ?_);refine aD O (aK O (aS O (tQ ?_)));exact⟨(F+1,dU),by show N - (F+1)<N - F;omega,(ajz O),⟨Nat.lt_succ_of_lt tX,hF⟩,uy,(xC gE).ao hb⟩
   ·have gE:¬(fD n R B F/\(F:Int)∈kJ R B E):=fun h=>hr (Ku.1 h.2).2.1
    refine cW O ?_;refine dQ [xS (fc) (N) (N),xI ((F:Int)),xP (aB (fc) ((F:Int)).toNat),xB (gb (fP n R B E F) ((F:Int))),xB (true),xP (aB (A1) 1),xS (A) (N) (cA),xI ((F:Int)),xP (aB (A) ((F:Int)).toNat),xI (gi (R) ((F:Int))),xP (aB (A1) 1),xS (A) (N) (cA),xI ((E:Int)),xP (aB (A) ((E:Int)).toNat),xI (gi (R) ((E:Int))),xI ((gi (R) ((E:Int)))+ ((1:Int))),xB (decide ((gi (R) ((F:Int)))=((gi (R) ((E:Int)))+ ((1:Int))))),xB (decide ((gi (R) ((F:Int)))=((gi (R) ((E:Int)))+ ((1:Int))))),xB (false),xU,xU,xU,xB (false)] O (eE O) ?_ ?_
    ·exact⟨Dr O,Dr O,fun _ _ hb _ _=>aA ((hS.kY 0 O).ao hb).2 O Az,fun _ _ hb _ _=>uV ((hS.kY 0 O).ao hb) O (by omega) O O Az,fun _ _ _ _ _=>Dk O (by exact aL Value.bool (hg)),fun _ _ hb _ _=>au O (aI (h1.below hb) O Az),fun _ _ hb _ _=>au O (aV (h1.below hb) O Az),Dr O,fun _ _ hb _ _=>au O (aA (wU.ao hb).2 O Az),fun _ _ hb _ _=>au O (aY (wU.ao hb) O Az),fun _ _ hb _ _=>au O (aI (h1.below hb) O Az),fun _ _ hb _ _=>au O (aV (h1.below hb) O Az),Dr O,fun _ _ hb _ _=>au O (aA (wU.ao hb).2 O Az),fun _ _ hb _ _=>au O (aY (wU.ao hb) O Az),fun _ _ _ _ _=>au O (aK O Az),Dr O,Dr O,fun _ _ _ _ _=>Dk O (by exact aL Value.bool (cM hr)),Dr O,Dr O,Dr O,Dr O,aw⟩
    intro u dA hb _;refine fv O (Cd.dZ O ?_);refine aD O (aK O (aS O (tQ ?_)));exact⟨(F+1,dU),by show N - (F+1)<N - F;omega,(ajz O),⟨Nat.lt_succ_of_lt tX,hF⟩,uy,(xC gE).ao hb⟩
   have ha:fD n R B F:=rb (JT▸hg);refine cW O ?_;refine dQ [xS (fc) (N) (N),xI ((F:Int)),xP (aB (fc) ((F:Int)).toNat),xB (gb (fP n R B E F) ((F:Int))),xB (true),xP (aB (A1) 1),xS (A) (N) (cA),xI ((F:Int)),xP (aB (A) ((F:Int)).toNat),xI (gi (R) ((F:Int))),xP (aB (A1) 1),xS (A) (N) (cA),xI ((E:Int)),xP (aB (A) ((E:Int)).toNat),xI (gi (R) ((E:Int))),xI ((gi (R) ((E:Int)))+ ((1:Int))),xB (decide ((gi (R) ((F:Int)))=((gi (R) ((E:Int)))+ ((1:Int))))),xB (decide ((gi (R) ((F:Int)))=((gi (R) ((E:Int)))+ ((1:Int))))),xB (true),xI ((E:Int)),xI ((F:Int)),xB (decide ((E:Int)∈gl B F)),xB (decide ((E:Int)∈gl B F))] O (eE O) ?_ ?_
   ·refine⟨Dr O,Dr O,fun _ _ hb _ _=>aA ((hS.kY 0 O).ao hb).2 O Az,fun _ _ hb _ _=>uV ((hS.kY 0 O).ao hb) O (by omega) O O Az,fun _ _ _ _ _=>Dk O (by exact aL Value.bool (hg)),fun _ _ hb _ _=>au O (aI (h1.below hb) O Az),fun _ _ hb _ _=>au O (aV (h1.below hb) O Az),Dr O,fun _ _ hb _ _=>au O (aA (wU.ao hb).2 O Az),fun _ _ hb _ _=>au O (aY (wU.ao hb) O Az),fun _ _ hb _ _=>au O (aI (h1.below hb) O Az),fun _ _ hb _ _=>au O (aV (h1.below hb) O Az),Dr O,fun _ _ hb _ _=>au O (aA (wU.ao hb).2 O Az),fun _ _ hb _ _=>au O (aY (wU.ao hb) O Az),fun _ _ _ _ _=>au O (aK O Az),Dr O,Dr O,fun _ _ _ _ _=>Dk O (by exact aL Value.bool (eC hr)),Dr O,Dr O,?_,Dr O,aw⟩;intro e1 w1 hb hp bc;refine au O ?_;refine aF (td A1 A D cA cD n R rs B E F _ (by rw [hN,hle];exact Rd.below h1 hb) (by rw [hle];exact wO.ao hb) (by omega) hrF.1 (by have:=bT F hF;omega)) O ?_;rintro _ w2 ⟨rfl,ax⟩;subst ax;refine ak.n (d0 (by exact O))
   intro u dA hb _;have cj:=hS.ao hb;refine fv O (aM _ O (fun h4=>?_) (fun h4=>?_))
   ·have jS:fD n R B F/\(F:Int)∈kJ R B E:=⟨ha,Ku.2 ⟨by omega,hr,h4⟩⟩;have ab8:=Kt E F;have lN:bL dA Au N dU (fW n R B E F):=by
     have h9:=cj.sub (show(aU 24 2 Au N N dU (fW n R B E F)).Sublist _ from(((lQ _ _).cons _).cons _).cons _);exact h9.nn ab8
    have Bw:=(lN.at_ (i:=(E:Int)) (by omega) (by omega)).1;have jG:(rg dU E).n<=500:=by
     rw [<-Bw,Mb (by omega)];unfold uQ
     split
     ·exact bu _
     refine iS (oa _ _) ?_;have:=sy (N:=R.length) (Hc R B E).nodup fun x hx=> (sD.1 hx).1
     omega
    have PY:Rd dA PU 1 (fun _=> .slice Au N N):=Rd.one (cj.rd 1 O);have sZ:∀A9:ai,(ar 2 A9 1 1 [(F:Int)]::sR A1 PU Au fc n A D N cA cD (fP n R B E F) dU (fW n R B E F))[4+1+E]?=some (ar 2 (rg dU E).a (rg dU E).n (rg dU E).c (gl (fW n R B E F) E)):=fun A9=>BJ (t1:=24) (t2:=2) (A:=Au) (n:=N) (c:=N) (rs:=dU) (xss:=fW n R B E F) (pre:=[ar 2 A9 1 1 [(F:Int)],iy 4 fc N N (fP n R B E F),Bx 25 1 PU [.slice Au N N],bp A1 n A N cA D N cD]) (ks:=[]) (i:=E) (by omega) (by omega)
    have xg:=fun(A9:ai) (s:aX) (xs:ah)=>Sq (t1:=24) (t2:=2) (A:=Au) (n:=N) (c:=N) (rs:=dU) (xss:=fW n R B E F) (ks:=[]) (pre:=[ar 2 A9 1 1 [(F:Int)],iy 4 fc N N (fP n R B E F),Bx 25 1 PU [.slice Au N N],bp A1 n A N cA D N cD]) (i:=E) s xs (by omega) (by omega)
    clear hS;refine cW O ?_;refine jm [8,10] [yS Au N N,yI ((E:Int)),yS (Au) (N) (N),yI ((E:Int)),yP (aB (Au) ((E:Int)).toNat),yS ((rg (dU) ((E:Int))).a) ((rg (dU) ((E:Int))).n) ((rg (dU) ((E:Int))).c),yI ((F:Int)),.pr (fun v w'=>∃A9,v= .slice A9 1 1/\St w w' (ar 2 A9 1 1 [(F:Int)]::sR A1 PU Au fc n A D N cA cD (fP n R B E F) dU (fW n R B E F))),.pr (fun v w'=>∃AZ cZ,v= .slice AZ ((rg dU E).n+1) cZ/\St w w' (iy 4 fc N N (fP n R B E F)::Bx 25 1 PU [.slice Au N N]::bp A1 n A N cA D N cD::(br 24 Au N N dU::(bF 2 (dU.set E ⟨AZ,(rg dU E).n+1,cZ⟩) ((fW n R B E F).set E (gl (fW n R B E F) E++ [(F:Int)]))++ [])))),yP (aB Au ((E:Int)).toNat),.pr (fun _ w'=>∃AZ cZ,St w w' (sR A1 PU Au fc n A D N cA cD (fP n R B E F) (dU.set E ⟨AZ,(rg dU E).n+1,cZ⟩) ((fW n R B E F).set E (gl (fW n R B E F) E++ [(F:Int)]))))] (ly (ly (ly (ly (ly (ly (ly (cg.2 ⟨Ye.cH (fun v w w' h hb=>by obtain⟨A9,hv,hT⟩:=h;exact⟨A9,hv,hT.ao hb⟩),(cg.2 ⟨Ye.cH (fun v w w' h hb=>by obtain⟨AZ,cZ,hv,hT⟩:=h;exact⟨AZ,cZ,hv,hT.ao hb⟩),(ly (cg.2 ⟨Ye.cH (fun v w w' h hb=>by obtain⟨AZ,cZ,hT⟩:=h;exact⟨AZ,cZ,hT.ao hb⟩),(fun _ h=>by cases h)⟩))⟩)⟩)))))))) ?_ ?_
    ·refine⟨?_,bZ O,cP fun _ _ hb _ _ _=>ajt (j:=0) (PY.below hb) (by exact aL Value.pointer (mF _).symm) O O O O (bq O O),bZ O,cP fun _ _ hb _ _ _=>aA (lN.top.ao hb).2 O (bq O O),cP fun _ _ hb _ _ _=>bQ (lN.top.ao hb) O (bq O O),bZ O,?_,?_,?_,?_,aw⟩
     ·intro e1 w1 cc fB ea fz hp bc hq;show ak _ _ _ _ _ _ _;have hX:Rd w1 PU 1 (fun _=> .slice Au N N):=by { have ea:=tg ea (b:=1) (by kernel_rfl);rcases(show cc=0\/cc=1 by omega)with h | h; { exact Rd.below PY (fz h) }; { subst h;obtain⟨AZ,cZ,_,hT⟩:=hq 8 _ _ (by kernel_rfl) (by kernel_rfl) (by kernel_rfl) rfl rfl (by kernel_rfl);exact Rd.one (hT.rd 1 rfl) } }
      refine ajt (j:=0) hX (by exact aL Value.pointer (mF _).symm) O O O O (ak.n (gh O (by exact O)))
     ·refine cP fun e1 w1 hb hp bc hq=>?_
      exact dE (St.refl _) O O O fun A9 w9 ax=>ak.n (fu.dn O ax.below ⟨A9,O,(cj.ao hb).call ax⟩)
     ·refine ju fun e1 w1 hb hp bc hq=>?_
      obtain⟨A9,YK,hT⟩:=(hp 7 _ _ (by kernel_rfl) rfl rfl (by kernel_rfl));refine dS (4+1+E) hT (sZ A9) (hT.bk 0 O) O (by exact YK) O ?_;intro AZ cZ wZ hZ;have hZ:=(xg A9 ⟨AZ,(rg dU E).n+1,cZ⟩ (gl (fW n R B E F) E++ [(F:Int)]))▸hZ;exact ak.n (fF.dn O ⟨AZ,cZ,O,hZ.tail⟩)
     ·intro e1 w1 cc fB ea fz hp bc hq;show ak _ _ _ _ _ _ _;have hX:iT w1 Au N dU:=by { have ea:=tg ea (b:=1) (by kernel_rfl);rcases(show cc=0\/cc=1 by omega)with h | h; { exact lN.top.ao (fz h) }; { subst h;obtain⟨AZ,cZ,_,hT⟩:=hq 8 _ _ (by kernel_rfl) (by kernel_rfl) (by kernel_rfl) rfl rfl (by kernel_rfl);exact hT.fq 3 rfl } }
      refine aA hX.2 O (ak.n (gh O (by exact O)))
     refine sP 1 fun e1 w1 hp bc hq=>?_
     have fC:=hp 8 _ _ (by kernel_rfl) O O (by kernel_rfl);obtain⟨AZ,cZ,YL,hT⟩:=fC;refine uY (te:=24) (n:=N) (c:=N) (A:=Au) (xs:=dU) 3 hT O O (by exact YL) (by omega) ?_;intro wY hY;exact ak.n (fF.st O ⟨AZ,cZ,hY⟩)
    intro u rq _ hu _ _;obtain⟨AZ,cZ,hT⟩:=hu 10 _ rfl (by kernel_rfl);rw [DN E F pJ jS]at hT;refine fJ O (aA (hT.kY 0 O).2 O (wv 0 hT O O O (by omega) ?_));intro uR kD;rw [gB,QW E F pJ jS]at kD;refine aq O (aK O (aS O (tQ ?_)));exact⟨(F+1,_),by show N - (F+1)<N - F;omega,(ajz O),⟨Nat.lt_succ_of_lt tX,hF⟩,by simp [uy],kD⟩
   have gE:¬(fD n R B F/\(F:Int)∈kJ R B E):=fun h=>h4 (Ku.1 h.2).2.2
   refine aD O (aK O (aS O (tQ ?_)));exact⟨(F+1,dU),by show N - (F+1)<N - F;omega,(ajz O),⟨Nat.lt_succ_of_lt tX,hF⟩,uy,(xC gE).ao hb⟩
  have hF:F=N:=by omega
  subst hF;refine bo O (bn (cJ O (dq O (aS O (tQ ?_)))));exact⟨(E,dU),by show E<E+1;omega,(ajz O),by show E<=F;omega,uy,hS⟩
 obtain rfl:E'=0:=by omega
 refine bo O (bn (cJ O ?_));refine ak.new (z:= .slice none 0 0) hS O O fun PF w8 bK=>aq O (ak.new (z:= .nilFunc) bK O O ?_);intro PG w9 bh;refine aq O (Vd O O O O O (ak.st (i:=0) (j:=0) bh O (by exact aL Value.pointer (mF _).symm) O O (Nat.succ_pos _) ?_));intro dA cj;have cj:=(cj.nil 2);clear bh bK hS;refine az O (Cd.loop (α:=Nat×ai×Nat) (fun z=> [(1,.pointer A1),(4,aj N),(6,.slice fc N N),(9,.pointer PF),(10,.pointer PG),(11,.slice z.2.1 ((dL z.1).filter fun e=>decide (gi R e=0) && decide (fD n R B e)).length z.2.2),(85,aj N),(86,aj (z.1:Int))]) (fun z w'=>z.1<=N/\St w w' (ar 2 z.2.1 ((dL z.1).filter fun e=>decide (gi R e=0) && decide (fD n R B e)).length z.2.2 ((dL z.1).filter fun e=>decide (gi R e=0) && decide (fD n R B e))::Bx 139 1 PG [.func (.func 131) #[] #[.pointer PF,.pointer A1,.pointer PG,.pointer PU]]::Bx 25 1 PF [.slice none 0 0]::sR A1 PU Au fc n A D N cA cD (fP n R B 0 N) dU (fW n R B 0 N))) (fun z=>N - z.1) (0,none,0) (ajz O) ⟨bu _,cj⟩ ?_);clear cj;rintro⟨j,AF,cF⟩ e eA ⟨hj,hS⟩;dsimp only at hj hS|-;have kS:((dL j).filter fun e=>decide (gi R e=0) && decide (fD n R B e)).length<=500:=by
  refine iS (oa _ _) ?_;rw [dL,mf,tH];omega
 refine b8 O (aM _ O (fun h3=>?_) (fun h3=>?_))
 ·have xo:j<N:=by omega
  have FU:=Ba j xo;have yC:=hS.b9 hR;have h1:Rd eA A1 3 (fun j=> [Value.int .i64 (n:Int),.slice A N cA,.slice D N cD].getD j undef):=hS.rd 5 O;have O0:uZ eA fc N (fP n R B 0 N):=hS.kY 3 O;have hfj:=iV j xo;have xC:¬(gi R j=0/\fD n R B j)->((dL (j+1)).filter fun e=>decide (gi R e=0) && decide (fD n R B e))=((dL j).filter fun e=>decide (gi R e=0) && decide (fD n R B e)):=fun h=>by
   rw [FU,aR h,iz]
  refine aD O (aI h1 O (aV h1 O (aq O (aA yC.2 O (aY yC O (aq O ?_))))));refine cz 95 O (fun h4=>?_) (fun h4=>?_)
  ·refine au O (aq O (au O (aq O (au O ?_))));refine aA O0.2 O (au O (uV O0 O (by omega) O O (az O ?_)));rw [hfj];refine aM _ O (fun h5=>?_) (fun h5=>?_)
   ·rw [aT ⟨h4,h5⟩]at FU;refine aD O (dE hS O O O ?_);intro A9 fY eo;refine dS 1 eo O (eo.bk 0 O) O O O ?_;intro AZ cZ iw fR;have fR:=fR.tail;refine aq O (aK O (aS O (tQ ?_)));refine⟨(j+1,AZ,cZ),by show N - (j+1)<N - j;omega,⟨O,O,O,O,O,?_,O,O,aw⟩,by show j+1<=N;omega,?_⟩
    ·show Value.slice _ _ _=_;rw [FU,dh];rfl
    show St w iw (ar _ _ (((dL (j+1)).filter _).length) _ ((dL (j+1)).filter _)::_);rw [FU,dh];exact fR
   refine aD O (aK O (aS O (tQ ?_)));refine⟨(j+1,AF,cF),by show N - (j+1)<N - j;omega,⟨O,O,O,O,O,?_,O,O,aw⟩,by show j+1<=N;omega,?_⟩
   ·show Value.slice _ _ _=_;rw [xC (fun h=>h5 h.2)]
   show St w eA (ar _ _ (((dL (j+1)).filter _).length) _ ((dL (j+1)).filter _)::_);rw [xC (fun h=>h5 h.2)];exact hS
  refine ay O (ay O (ay O (ay O (az O ?_))));refine Cd.dZ O (aD O (aK O (aS O (tQ ?_))));refine⟨(j+1,AF,cF),by show N - (j+1)<N - j;omega,⟨O,O,O,O,O,?_,O,O,aw⟩,by show j+1<=N;omega,?_⟩
  ·show Value.slice _ _ _=_;rw [xC (fun h=>h4 h.1)]
  show St w eA (ar _ _ (((dL (j+1)).filter _).length) _ ((dL (j+1)).filter _)::_);rw [xC (fun h=>h4 h.1)];exact hS
 obtain rfl:j=N:=by omega
 rw [JK]at hS kS|-;generalize hfi:((wC R).filter fun f=>decide (fD n R B f))=fi at*;have aaD:∀x∈fi,0<=x/\x< (j:Int):=fun x hx=>by
  rw [<-hfi]at hx;have:=(CR.1 (ja.1 hx).1).1;omega
 have fS:Rd eA PG 1 (fun _=> .func (.func 131) #[] #[.pointer PF,.pointer A1,.pointer PG,.pointer PU]):=Rd.one (hS.rd 1 O);have ZN:St w eA (mV PF none 0 [] [] A1 n A j cA D j cD PG PU Au j j dU (fW n R B 0 j) [ar 2 AF fi.length cF fi,iy 4 fc j j (fP n R B 0 j)]):=by
  have h9:=(hS.perm (show List.Perm _ (Bx 25 1 PF [.slice none 0 0]::(bp A1 n A j cA D j cD::Bx 139 1 PG [.func (.func 131) #[] #[.pointer PF,.pointer A1,.pointer PG,.pointer PU]]::Bx 25 1 PU [.slice Au j j]::(aU 24 2 Au j j dU (fW n R B 0 j)++ [ar 2 AF fi.length cF fi,iy 4 fc j j (fP n R B 0 j)]))) from by
   classical
   refine px.2 fun z=>?_
   simp only [sR,rz,nZ,rA];omega))
  exact(h9.nil 24).perm (List.Perm.swap _ _ _)
 clear hS;have rT:∀e:Nat,e<j->(gl (fW n R B 0 j) e).length<=500/\∀x∈gl (fW n R B 0 j) e,0<=x/\x< (j:Int):=fun e he=>by
  rw [Rs e he];refine⟨iS (oa _ _) ?_,fun x hx=>?_⟩
  ·have:=sy (N:=R.length) (Hc R B e).nodup fun x hx=> (sD.1 hx).1
   omega
  have:=(sD.1 (ja.1 hx).1).1;omega
 refine bo O (bn (cJ O ?_));refine ak.ld fS (by exact aL Value.pointer (mF _).symm) (by decide) O O O ?_;refine aq O (aF (Yc w n (by omega) PF A1 A D PG PU Au j cA j cD j j dU (fW n R B 0 j) (Kt 0 j) (by omega) rT (n - 1) 0 fi.length [] fi none AF 0 cF [ar 2 AF fi.length cF fi,iy 4 fc j j (fP n R B 0 j)] _ none 0 [] [] O O (by omega) kS aaD (fun _ _ _ _ _ _=>bt.nil) (fun w' A c rs F h=>Ss h) O (bu _) ZN) O ?_);rintro _ fY ⟨rfl,A',c',rs',oy,hS⟩;rw [List.nil_append,Qr]at oy hS;have fa:Rd fY PF 1 (fun _=> .slice A' (cap (gy n R B)).length c'):=Rd.one (hS.rd 0 O);refine aq O (ajt (j:=0) fa (by exact aL Value.pointer (mF _).symm) O O O O ?_);refine ba O O (az O ?_);have bE:=ND (gy n R B);have P8:=NB (l:=gy n R B);refine aM _ O (fun h4=>?_) (fun h4=>?_)
 ·have gE:¬(gy n R B).length<=400:=fun h=>by have:=P8.2 h;omega
  refine dB O (rh O O ?_);unfold yr yq;rw [aR gE,aR gE];exact EF.none hS
 have jS:(gy n R B).length<=400:=P8.1 (by omega);rw [H6 (by omega)]at oy hS fa|-;refine aD O (ajt (j:=0) fa (by exact aL Value.pointer (mF _).symm) O O O O (bD O (rh O O ?_)));unfold yr yq;rw [aT jS,aT jS];exact⟨A',c',rs',O,oy,Vy (pre:=[]) (hS.sub ((lQ _ _).cons _))⟩
end
section
variable{y:Nat}{L L' L0:ah}{fl:ag}{S:Nat->Prop}{Q:List Nat}
structure zI(N:Nat)(K:Nat->Nat->Prop):Prop where
 sym:∀a b,K a b->K b a
 wa:∀a b c,K a b->K b c->K a c
 lH:∀a b,K a b->a<N/\b<N
def jM(N:Nat)(K:Nat->Nat->Prop)(f:Nat)(L:ah):Prop:=
 L.length=N/\∀x:Nat,x<N->(0<=gi L x->∃r:Nat,gi L x=r/\r<f/\K r x/\∀c,K c x->r<=c)/\(gi L x<0->gi L x= -1/\∀c,c<f->¬K c x)
theorem jM.zero(N:Nat)(K:Nat->Nat->Prop):jM N K 0 (List.replicate N (-1)):=
 ⟨by simp,fun x hx=>by
  rw [wK (by omega) (by omega)];exact⟨fun h=>absurd h (by omega),fun _=> ⟨O,fun c hc=>absurd hc (by omega)⟩⟩⟩
theorem jM.skip{N:Nat}{K:Nat->Nat->Prop}(hK:zI N K){f:Nat}(h:jM N K f L)(hf:f<N)(h0:0<=gi L f\/¬K f f):jM N K (f+1) L:=by
 refine⟨h.1,fun x hx=> ⟨fun h1=>?_,fun h1=>?_⟩⟩
 ·obtain⟨r,h2,h3,h4⟩:=(h.2 x hx).1 h1;exact⟨r,h2,by omega,h4⟩
 obtain⟨h2,h3⟩:=(h.2 x hx).2 h1;refine⟨h2,fun c hc hk=>?_⟩
 by_cases e:c=f
 ·subst e;rcases h0 with h0 | h0
  ·obtain⟨r,h4,h5,h6,_⟩:=(h.2 c hf).1 h0;exact h3 r h5 (hK.wa _ _ _ h6 hk)
  exact h0 (hK.wa _ _ _ hk (hK.sym _ _ hk))
 exact h3 c (by omega) hk
theorem jM.nT{N:Nat}{K:Nat->Nat->Prop}(hK:zI N K){f:Nat}(h:jM N K f L)(hf:f<N)(h0:gi L f<0)(hl:L'.length=N)(hp:∀x:Nat,x<N->(K f x->gi L' x=f)/\(¬K f x->gi L' x=gi L x)):jM N K (f+1) L':=by
 refine⟨hl,fun x hx=>?_⟩;have h9:=(h.2 f hf).2 h0
 by_cases hk:K f x
 ·rw [(hp x hx).1 hk];refine⟨fun _=> ⟨f,O,by omega,hk,fun c hc=>?_⟩,fun h=>absurd h (by omega)⟩;refine Nat.le_of_not_lt fun eL=>h9.2 c eL (hK.wa _ _ _ hc (hK.sym _ _ hk))
 rw [(hp x hx).2 hk];refine⟨fun h1=>?_,fun h1=>?_⟩
 ·obtain⟨r,h2,h3,h4⟩:=(h.2 x hx).1 h1;exact⟨r,h2,by omega,h4⟩
 obtain⟨h2,h3⟩:=(h.2 x hx).2 h1;refine⟨h2,fun c hc lO=>?_⟩
 by_cases e:c=f
 ·subst e;exact hk lO
 exact h3 c (by omega) lO
theorem jM.done{N:Nat}{K:Nat->Nat->Prop}(hK:zI N K)(h:jM N K N L){a b:Nat}(ha:K a a)(hb:K b b):gi L a=gi L b↔K a b:=by
 have get:∀x,K x x->∃r:Nat,gi L x=r/\K r x/\∀c,K c x->r<=c:=fun x hx=>by
  have D0:=(hK.lH _ _ hx).1;rcases Int.lt_or_le (gi L x) 0 with h1 | h1
  ·exact absurd hx (((h.2 x D0).2 h1).2 x D0)
  obtain⟨r,h2,_,h4,h5⟩:=(h.2 x D0).1 h1;exact⟨r,h2,h4,h5⟩
 obtain⟨r,h1,h2,h3⟩:=get a ha;obtain⟨s,h4,h5,h6⟩:=get b hb;rw [h1,h4];constructor
 ·intro e;obtain rfl:r=s:=by omega
  exact hK.wa _ _ _ (hK.sym _ _ h2) h5
 intro hk;have h7:=h3 s (hK.wa _ _ _ h5 (hK.sym _ _ hk));have h8:=h6 r (hK.wa _ _ _ h2 hk);omega
def Cn(n:Nat)(fl:ag)(i a b:Nat):Prop:=a<fl.length/\b<fl.length/\∀k:Nat,k<n->k≠i->gi (gl fl a) k=gi (gl fl b) k
theorem Cn.symm{n:Nat}{i a b:Nat}(h:Cn n fl i a b):Cn n fl i b a:=⟨h.2.1,h.1,fun k hk cS=> (h.2.2 k hk cS).symm⟩
inductive kK(n:Nat)(fl:ag)(S:Nat->Prop)(a:Nat):Nat->Prop where
 | refl:a<fl.length->kK n fl S a a
 | step {b c i:Nat}:kK n fl S a b->i<n->¬S i->Cn n fl i b c->kK n fl S a c
theorem kK.trans{n:Nat}{a b c:Nat}(h:kK n fl S a b)(h':kK n fl S b c):kK n fl S a c:=by
 induction h' with
 | refl=>exact h
 | step _ hi hs ha ih=>exact .step ih hi hs ha
theorem kK.lH{n:Nat}{a b:Nat}(h:kK n fl S a b):a<fl.length/\b<fl.length:=by
 induction h with
 | refl h=>exact⟨h,h⟩
 | step _ _ _ ha ih=>exact⟨ih.1,ha.2.1⟩
theorem kK.symm{n:Nat}{a b:Nat}(h:kK n fl S a b):kK n fl S b a:=by
 induction h with
 | refl h=>exact .refl h
 | step h hi hs ha ih=>exact(kK.step (.refl ha.2.1) hi hs ha.symm).trans ih
theorem kK.keep{n:Nat}{a b:Nat}(h:kK n fl S a b):∀k:Nat,k<n->S k->gi (gl fl b) k=gi (gl fl a) k:=by
 induction h with
 | refl h=>exact fun _ _ _=>rfl
 | step h hi hs ha ih=>
  intro k hk hS;rw [<-ha.2.2 k hk (fun e=>hs (e▸hS)),ih k hk hS]
def Mq(n:Nat)(fl:ag):Prop:=∀a b:Nat,a<b->b<fl.length->kK n fl (fun k=>gi (gl fl a) k=gi (gl fl b) k) a b
structure oc(N:Nat)(K A:Nat->Nat->Prop)(f:Nat)(L0 L:ah)(Q:List Nat)(k:Nat):Prop where
 len:L.length=N
 su:∀x∈Q,x<N/\gi L0 x<0/\K f x
 bG:∀x:Nat,x<N->gi L x=if x∈Q then(f:Int)else gi L0 x
 root:f∈Q
 KO:k<=Q.length
 done:∀p,p<k->∀y,A (Q.getD p 0) y->0<=gi L y
 nd:Q.Nodup
theorem oc.meet{N:Nat}{K A:Nat->Nat->Prop}{f:Nat}{k:Nat}(h:oc N K A f L0 L Q k)(hy:y<N)(hl:gi L y<0)(hk:K f y):oc N K A f L0 (L.set y (f:Int)) (Q++ [y]) k:=by
 have Rz:y∉Q:=fun hm=>by
  have:=h.bG y hy;rw [aT hm]at this;omega
 have e:∀x:Nat,x<N->gi (L.set y (f:Int)) x=if x=y then(f:Int)else gi L x:=fun x hx=>by
  have:=tU (S:=L) (x:=(y:Int)) (y:=(x:Int)) (b:=(f:Int)) (by omega) (by rw [h.len];omega) (by omega);rw [gB]at this;rw [this]
  by_cases e:x=y
  ·subst e;simp
  rw [aR e,aR (by omega)]
 have uk:gi L0 y<0:=by
  have:=h.bG y hy;rw [aR Rz]at this;omega
 refine⟨by rw [iR];exact h.len,fun x hx=>?_,fun x hx=>?_,List.mem_append_left _ h.root,by rw [dh];have:=h.KO;omega,fun p hp z hz=>?_,List.nodup_append.2 ⟨h.nd,by simp,fun a ha b hb e=>Rz (by rw [<-dK.1 hb,<-e];exact ha)⟩⟩
 ·rcases eD.1 hx with hx | hx
  ·exact h.su x hx
  obtain rfl:=dK.1 hx;exact⟨hy,uk,hk⟩
 ·rw [e x hx]
  by_cases ex:x=y
  ·subst ex;simp
  rw [aR ex,h.bG x hx];simp [ex]
 have hk:=h.KO;rw [dt,lh (by omega),<-dt]at hz;have h2:=h.done p hp z hz
 by_cases hzN:z<N
 ·rw [e z hzN]
  split<;>omega
 have:gi L z=gi (L.set y (f:Int)) z:=by
  simp [gi,dt,qy (show L.length<=z by rw [h.len];omega),qy (show(L.set y (f:Int)).length<=z by rw [iR,h.len];omega)]
 omega
theorem oc.next{N:Nat}{K A:Nat->Nat->Prop}{f:Nat}{k:Nat}(h:oc N K A f L0 L Q k)(hk:k<Q.length)(hd:∀y,A (Q.getD k 0) y->0<=gi L y):oc N K A f L0 L Q (k+1):=
 ⟨h.len,h.su,h.bG,h.root,hk,fun p hp y hy=>by
  by_cases e:p=k
  ·subst e;exact hd y hy
  exact h.done p (by omega) y hy,h.nd⟩
theorem oc.LC{N:Nat}{K A:Nat->Nat->Prop}{f:Nat}{k:Nat}(h:oc N K A f L0 L Q k):Q.length<=N:=GL N Q h.nd fun x hx=> (h.su x hx).1
theorem oc.start{N:Nat}{K A:Nat->Nat->Prop}{f:Nat}(hl:L0.length=N)(hf:f<N)(h0:gi L0 f<0)(hk:K f f):oc N K A f L0 (L0.set f (f:Int)) [f] 0:=by
 refine⟨by simp [hl],fun x hx=>?_,fun x hx=>?_,by simp,bu _,fun p hp=>absurd hp (by omega),by simp⟩
 ·obtain rfl:=dK.1 hx;exact⟨hf,h0,hk⟩
 have:=tU (S:=L0) (x:=(f:Int)) (y:=(x:Int)) (b:=(f:Int)) (by omega) (by rw [hl];omega) (by omega);rw [gB]at this;rw [this]
 by_cases e:x=f
 ·subst e;simp
 rw [aR (by omega),aR (by simpa using e)]
theorem oc.end_{N:Nat}{K A:Nat->Nat->Prop}(hK:zI N K){f:Nat}(h:oc N K A f L0 L Q Q.length)(hL:jM N K f L0)(hf:f<N)(h0:gi L0 f<0)(hA:∀S:Nat->Prop,S f->(∀x y,S x->K f x->A x y->S y)->∀x,K f x->S x)(YT:∀x y,A x y->K x y):jM N K (f+1) L:=by
 have hQ:∀x,K f x->x∈Q:=hA (fun x=>x∈Q) h.root fun x y hx pQ ha=>by
  obtain⟨p,hp,e⟩:=gj.1 hx;have e2:Q.getD p 0=x:=by rw [dt,fU hp];exact e
  have h1:=h.done p hp y (by rw [e2];exact ha);have hk:=YT x y ha;have ze:=(hK.lH _ _ hk).2;refine yb fun hn=>?_
  have h2:=h.bG y ze;rw [aR hn]at h2;obtain⟨r,_,h3,h4,_⟩:=(hL.2 y ze).1 (by omega);exact((hL.2 f hf).2 h0).2 r h3 (hK.wa _ _ _ (hK.wa _ _ _ h4 (hK.sym _ _ hk)) (hK.sym _ _ pQ))
 refine hL.nT hK hf h0 h.len fun x hx=> ⟨fun hk=>?_,fun hk=>?_⟩
 ·rw [h.bG x hx,aT (hQ x hk)]
 rw [h.bG x hx,aR fun hm=>hk (h.su x hm).2.2]
section
variable {m1 m2:Nat} {n1 n2:Int} {uL uM:Int->Int} {wb tx:Int->Int->Prop}
def Mv(m1 m2:Nat)(kind:Int)(c:Int×Int):Prop:=(kind=1/\(c.1=0\/c.2=0))\/(kind=2/\(c.1=(m1:Int) - 1\/c.2=(m2:Int) - 1))
instance (m1 m2:Nat)(kind:Int)(c:Int×Int):Decidable (Mv m1 m2 kind c):=by unfold Mv;infer_instance
end
def MY(N:Nat)(B:ag)(a b:Int):Prop:=a=b\/a=0\/b=(N:Int)+1\/(0<a/\a< (N:Int)+1/\0<b/\b< (N:Int)+1/\a - 1∈gl B (b - 1))
instance (N:Nat)(B:ag)(a b:Int):Decidable (MY N B a b):=by unfold MY;infer_instance
def Cz(R:ah)(i e:Int):Prop:=(e= -1/\i=0)\/((0<=e/\e<R.length)/\0<i/\gi R e=i - 1)
def Cx(n:Int)(R:ah)(i f:Int):Prop:=(f= -1/\i=n - 1)\/((0<=f/\f<R.length)/\i<n - 1/\gi R f=i+1)
def oP(R:ah)(B:ag)(i e f:Int):ah:=(dL R.length).filter fun d=>decide (gi R d=i/\(e<0\/e∈gl B d)/\(f<0\/d∈gl B f))
def Hp(n:Int)(R:ah)(B:ag):Prop:=∀i e f:Int,0<=i->i<n->Cz R i e->Cx n R i f->(0<=e->0<=f->e∈gl B f)->(oP R B i e f).length=2
theorem MI{R:ah}{B:ag}{i e f d:Int}:d∈oP R B i e f↔(0<=d/\d<R.length)/\gi R d=i/\(e<0\/e∈gl B d)/\(f<0\/d∈gl B f):=by
 unfold oP;rw [ja,zq,nB]
theorem agu{l:ah}(hn:l.Nodup)(h:l.length=2):∃x y,x≠y/\∀c,c∈l↔(c=x\/c=y):=by
 match l,h with
 | [x,y],_=>exact⟨x,y,by simpa using hn,fun c=>by simp⟩
theorem Ht(R:ah)(B:ag)(i e f:Int):(oP R B i e f).Nodup:=((vT _).nodup).filter _
section
variable (m1 m2:Nat) (uL uM:Int->Int) (kind:Int)
end
section
variable {m1 m2:Nat} {uL uM:Int->Int} {kind:Int}
end
section
variable {m1 m2:Nat} {n1 n2:Int} {uL uM:Int->Int} {wb tx:Int->Int->Prop} [DecidableRel wb] [DecidableRel tx] {kind:Int}
end
theorem Lc{n:Nat}{x y:ah}(hx:x.length=n)(hy:y.length=n)(h:∀i:Nat,i<n->gi x i=gi y i):x=y:=
 jV (by omega) fun i h1 h2=>by
  have:=h i (by omega)
  rwa [bX h1,bX h2]at this
def MV(n:Nat)(R:ah)(B:ag):Prop:=∀e:Int,0<=e->e<R.length->∃x∈gy n R B,e∈x
def MT(n:Nat)(R:ah)(B:ag):Prop:=gy n R B≠[]/\MV n R B/\Hp n R B/\Mq n (gy n R B)
def mn(a b:ah):ah:=(List.range a.length).map fun k:Nat=>if gi a k=gi b k then gi a k else -1
theorem zX(a b:ah):(mn a b).length=a.length:=by simp [mn]
theorem zW{a b:ah}{k:Nat}(h:k<a.length):gi (mn a b) k=if gi a k=gi b k then gi a k else -1:=by
 rw [bX (by rw [zX];exact h)];simp [mn]
def jo(n:Nat)(c x:ah):Prop:=∀k:Nat,k<n->gi c k≠ -1->gi c k=gi x k
instance (n:Nat)(c x:ah):Decidable (jo n c x):=by unfold jo;infer_instance
def jb(n:Nat)(fl:ag)(c:ah)(a b:Nat):Prop:=jo n c (gl fl a)/\kK n fl (fun k=>gi c k≠ -1) a b
theorem jo.of{n:Nat}{fl:ag}{c:ah}{a b:Nat}(h:jo n c (gl fl a))(h':kK n fl (fun k=>gi c k≠ -1) a b):jo n c (gl fl b):=fun k hk cS=>by
 rw [h'.keep k hk cS];exact h k hk cS
theorem Cy(n:Nat)(fl:ag)(c:ah):zI fl.length (jb n fl c):=
 ⟨fun _ _ h=> ⟨h.1.of h.2,h.2.symm⟩,fun _ _ _ h h'=> ⟨h.1,h.2.trans h'.2⟩,fun _ _ h=>h.2.lH⟩
theorem WW{n:Nat}{fl:ag}(hl:∀x∈fl,x.length=n/\∀e∈x,0<=e){a b:Nat}(ha:a<fl.length)(hb:b<fl.length):
 jb n fl (mn (gl fl a) (gl fl b)) a a/\jb n fl (mn (gl fl a) (gl fl b)) b b/\(jb n fl (mn (gl fl a) (gl fl b)) a b↔kK n fl (fun k=>gi (gl fl a) k=gi (gl fl b) k) a b):=by
 have hxa:=hl _ (by rw [fm ha];exact fe _:gl fl a∈fl);have cS:∀k:Nat,k<n->(gi (mn (gl fl a) (gl fl b)) k≠ -1↔gi (gl fl a) k=gi (gl fl b) k):=fun k hk=>by
  rw [zW (by omega)];have:=hxa.2 _ (gi_in (show k< (gl fl a).length by omega))
  split
  ·exact⟨fun _=>by assumption,fun _=>by omega⟩
  ·rename_i h;exact⟨fun h'=>absurd rfl h',fun h'=>absurd h' h⟩
 have h1:jo n (mn (gl fl a) (gl fl b)) (gl fl a):=fun k hk h=>by
  have:=(cS k hk).1 h;rw [zW (by omega),aT this]
 have h2:jo n (mn (gl fl a) (gl fl b)) (gl fl b):=fun k hk h=>by
  have:=(cS k hk).1 h;rw [zW (by omega),aT this,this]
 have cv:∀ {S S':Nat->Prop},(∀k,k<n->(S k↔S' k))->∀ {u v},kK n fl S u v->kK n fl S' u v:=fun {S S'} hS {u v} h=>by
  induction h with
  | refl h=>exact .refl h
  | step _ hi hs ZX ih=>exact .step ih hi (fun h=>hs ((hS _ hi).2 h)) ZX
 exact⟨⟨h1,.refl ha⟩,⟨h2,.refl hb⟩,fun h=>cv cS h.2,fun h=> ⟨h1,cv (fun k hk=> (cS k hk).symm) h⟩⟩
def wg(n:Nat)(fl:ag)(c:ah)(x y:Nat):Prop:=jo n c (gl fl x)/\jo n c (gl fl y)/\∃i,i<n/\Cn n fl i x y
theorem XN{n:Nat}{fl:ag}(hn:fl.Nodup)(hl:∀x∈fl,x.length=n){x y:Nat}(hx:x<fl.length)(hy:y<fl.length)(h:∀k:Nat,k<n->gi (gl fl x) k=gi (gl fl y) k):x=y:=by
 have e:gl fl x=gl fl y:=Lc (hl _ (by rw [fm hx];exact fe _)) (hl _ (by rw [fm hy];exact fe _)) h;rw [fm hx,fm hy]at e;exact(List.getElem_inj hn).1 e
theorem wg.link{n:Nat}{fl:ag}(hn:fl.Nodup)(hl:∀x∈fl,x.length=n){c:ah}{x y:Nat}(h:wg n fl c x y):jb n fl c x y:=by
 obtain⟨h1,h2,i,hi,ha⟩:=h;refine⟨h1,?_⟩
 by_cases hc:gi c i≠ -1
 ·have:x=y:=XN hn hl ha.1 ha.2.1 fun k hk=>by
   by_cases e:k=i
   ·subst e;rw [<-h1 k hk hc,h2 k hk hc]
   exact ha.2.2 k hk e
  subst this;exact .refl ha.1
 exact .step (.refl ha.1) hi hc ha
theorem UJ{n:Nat}{fl:ag}{c:ah}{f:Nat}(S:Nat->Prop)(hf:S f)(hs:∀x y,S x->jb n fl c f x->wg n fl c x y->S y):∀x,jb n fl c f x->S x:=fun x h=>by
 obtain⟨h1,h2⟩:=h
 induction h2 with
 | refl _=>exact hf
 | step h hi hS ha ih=>exact hs _ _ ih ⟨h1,h⟩ ⟨h1.of h,h1.of (.step h hi hS ha),_,hi,ha⟩
end
section
open Go.RowKit
variable{j:Nat}
def mE(H:List Bool)(vs:ah):List Bool:=vs.foldl (fun H v=>H.set v.toNat true) H
theorem afm(H:List Bool)(vs:ah)(v:Int):mE H (vs++ [v])=(mE H vs).set v.toNat true:=by simp [mE,List.foldl_append]
theorem afl(H:List Bool):∀vs,(mE H vs).length=H.length:=by
 intro vs;unfold mE
 induction vs generalizing H with
 | nil=>rfl
 | cons a r ih=>rw [List.foldl_cons,ih,iR]
theorem afk(H:List Bool)(vs:ah)(hv:∀v∈vs,0<=v/\v<H.length)(x:Int)(h0:0<=x):gb (mE H vs) x=(gb H x || decide (x∈vs)):=by
 unfold mE
 induction vs generalizing H with
 | nil=>simp
 | cons a r ih=>
  have ha:=hv a (by simp);rw [List.foldl_cons,ih _ (fun v h=>by rw [iR];exact hv v (by simp [h])),Fp ha.1 ha.2 h0]
  by_cases e:a=x
  ·subst e;simp
  ·have e':¬x=a:=fun h=>e h.symm
   simp [e,e']
theorem X1(n:Nat)(x:Int):gb (List.replicate n false) x=false:=by
 unfold gb;rw [dt,List.getElem?_replicate]
 split<;>rfl
theorem afj{m:Nat}{F:ag}(h:∀l∈F,∀x∈l,0<=x/\x< (m:Int))(x:Int)(h0:0<=x):gb (mE (List.replicate m false) F.flatten) x=decide (∃l∈F,x∈l):=by
 rw [afk _ _ (fun v hv=>by
  obtain⟨l,hl,hx⟩:=List.mem_flatten.1 hv;rw [List.length_replicate];exact h l hl v hx) x h0,X1,Bool.false_or]
 exact nA.2 (by rw [List.mem_flatten])
def sw(m:Nat):List Bool:=List.replicate m false
theorem SS(m:Nat)(vs:ah):(mE (sw m) vs).length=m:=by rw [afl];simp [sw]
theorem aeR{m:Nat}{F:ag}(h:∀l∈F,∀x∈l,0<=x/\x< (m:Int)):¬(false∈mE (sw m) F.flatten)↔∀x:Int,0<=x->x< (m:Int)->∃l∈F,x∈l:=by
 have hl:=SS m F.flatten;have hg:=fun(x:Int) (h0:0<=x)=>afj h x h0
 constructor
 ·intro hn x h0 h1;apply yb;intro hc;have h2:gb (mE (sw m) F.flatten) x=false:=(hg x h0).trans (cM hc);apply hn;have h3:x.toNat< (mE (sw m) F.flatten).length:=by omega
  rw [<-h2,gb,dt,fU h3];exact fe _
 intro ha hm;obtain⟨k,hk,e⟩:=gj.1 hm;have h2:=hg (k:Int) (by omega);rw [eC (ha (k:Int) (by omega) (by omega))]at h2;have h3:gb (mE (sw m) F.flatten) k=(mE (sw m) F.flatten)[k]:=by simp [gb,dt,hk]
 have h4:gb (mE (sw m) F.flatten) k=true:=h2;rw [h3,e]at h4;cases h4
theorem UC(A:ai)(n c:Nat)(xs:List Bool)(v:Bool)(w:aa)(hR:uZ w A n xs)(hn:n<=9223372036854775807):
 aG prog 228 [.slice A n c,.bool v] w (fun r w'=> (∃i:Int,r=aj i/\(0<=i↔v∈xs))/\w'=w):=by
 have di:=hR.1;refine bw func228 O ntmps228 O (b7 O) ?_;refine bb O (ba O O (az O ?_));refine Cd.loop (α:=Nat) (fun k=> [(0,.slice A n c),(1,.bool v),(7,aj n),(8,aj k)]) (fun k w'=>w'=w/\k<=n/\∀j:Nat,j<k->gb xs j≠v) (fun k=>n - k) 0 (ajz O) ⟨O,bu _,fun j hj=>by omega⟩ ?_;rintro k e w ⟨rfl,hk,hK⟩;refine b8 O (aM _ O (fun h3=>?_) (fun h3=>?_))
 ·have hg:gb xs k=xs[k]'(by omega):=by simp [gb,dt,show k<xs.length by omega]
  refine aD O (aA hR.2 O (uV hR O (by omega) O O (U9 O O O (az O ?_))));refine Cd.cond O (fun h4=>?_) (fun h4=>?_)
  ·refine dB O (dO (dJ ?_));refine iY O ?_;have h4:v=gb xs k:=by simpa using h4
   exact⟨⟨(k:Int),O,⟨fun _=>by rw [h4,hg];exact fe _,fun _=>by omega⟩⟩,O⟩
  refine aD O (aK O (aS O (tQ ?_)));have h4:¬v=gb xs k:=by simpa using h4
  refine⟨k+1,by show n - (k+1)<n - k;omega,(ajz O),O,by omega,fun j hj=>?_⟩
  by_cases ej:j=k
  ·subst ej;exact fun h=>h4 h.symm
  exact hK j (by omega)
 refine bo O (bn (eG O ?_));refine iY O ⟨⟨-1,O,⟨fun h=>absurd h (by decide),fun h=>?_⟩⟩,O⟩;obtain⟨j,hj,J2⟩:=gj.1 h;exact absurd (by simpa [gb,dt,hj]using J2) (hK j (by omega))
theorem Uo(A:ai)(n c:Nat)(xs:List Bool)(v:Bool)(w:aa)(hR:uZ w A n xs)(hn:n<=9223372036854775807):
 aG prog 178 [.slice A n c,.bool v] w (fun r w'=>r= .bool (decide (v∈xs))/\w'=w):=by
 refine bw func178 O ntmps178 O (b7 O) (bb O (aF (UC A n c xs v _ hR hn) O ?_));rintro _ w ⟨⟨i,rfl,hi⟩,rfl⟩;refine bD O (ck O ?_);exact⟨aL Value.bool (nA.2 hi),O⟩
theorem CK{w:aa}{A:ai}{n:Nat}{f:Nat->ab}(h:Rd w A n f)(hn:0<n):A.isNone=false:=by
 obtain⟨p,hp,_⟩:=h 0 hn;cases A with
 | none=>simp [aB]at hp
 | some q=>rfl
def wh(L:ah)(w:aa)(v:ab)(w':aa):Prop:=∃A' c',v= .slice A' L.length c'/\St w w' [ar 2 A' L.length c' L]
theorem LZ{xs:ah}(h:j<xs.length):xs.take (j+1)=xs.take j++ [gi xs j]:=by
 rw [rC h,bX h]
theorem acP(n:Int)(A D:ai)(cA N m cD:Nat)(Af:ai)(nf cf:Nat)(rs:List aX)(fl:ag)(w:aa)(hF:bL w Af nf rs fl)(hN:N<=500)(hr:∀l∈fl,l.length<=1000/\∀x∈l,0<=x/\x< (N:Int))(QP:nf<=100000):
 aG prog 132 [.agg #[aj n,.slice A N cA,.slice D m cD],.slice Af nf cf] w (fun v w'=>∃b:Bool,v= .bool b/\(b=true↔∀x:Int,0<=x->x< (N:Int)->∃l∈fl,x∈l)/\St w w' []):=by
 have kS:=hF.len;refine bw func132 O ntmps132 O (b7 O) (bb O (lT (St.refl w) O O ?_));intro A1 w1 aC;have h1:Rd w1 A1 3 (fun j=> [Value.int .i64 n,.slice A N cA,.slice D m cD].getD j undef):=aC.rd 0 O;refine aq O (aI h1 O (aV h1 O (ba O O (zH (v:=false) N aC O O (by omega) ?_))));intro A5 w2 aE;have aE:St w w2 [iy 4 A5 N N (mE (sw N) (fl.take 0).flatten),bp A1 n A N cA D m cD]:=aE;refine aq O (ba O O (az O ?_));refine Cd.loop (α:=Nat) (fun i=> [(2,.pointer A1),(5,.slice A5 N N),(14,.slice Af nf cf),(15,aj nf),(16,aj i)]) (fun i w'=>i<=nf/\St w w' [iy 4 A5 N N (mE (sw N) (fl.take i).flatten),bp A1 n A N cA D m cD]) (fun i=>nf - i) 0 (ajz O) ⟨bu _,aE⟩ ?_;clear aE aC h1;rintro i e w3 ⟨hi,hS⟩;refine b8 O (aM _ O (fun h2=>?_) (fun h2=>?_))
 ·have JY:i<fl.length:=by omega
  have hM:=hS.cV hF;have dM:=hM.at_ (i:=(i:Int)) (by omega) (by omega);have jG:=dM.1;have gp:gl fl i∈fl:=by rw [fm JY];exact fe _
  have ir:=hr _ gp;refine aD O (aA hM.top.2 O (bQ hM.top O ?_));refine aq O (ba O O (az O ?_));refine Cd.loop (α:=Nat) (fun j=> [(2,.pointer A1),(5,.slice A5 N N),(14,.slice Af nf cf),(15,aj nf),(16,aj i),(20,.slice (rg rs i).a (rg rs i).n (rg rs i).c),(21,aj ((rg rs i).n:Int)),(22,aj j)]) (fun j w'=>j<=(rg rs i).n/\St w w' [iy 4 A5 N N (mE (sw N) ((fl.take i).flatten++ (gl fl i).take j)),bp A1 n A N cA D m cD]) (fun j=> (rg rs i).n - j) 0 (ajz O) ⟨bu _,by rw [List.take_zero,iz];exact hS⟩ ?_;clear dM hM hS;rintro j e w4 ⟨hj,hS⟩;refine b8 O (aM _ O (fun h3=>?_) (fun h3=>?_))
  ·have nG:j< (gl fl i).length:=by omega
   have dM:=(hS.cV hF).at_ (i:=(i:Int)) (by omega) (by omega);have hx:=ir.2 _ (gi_in nG);have ox:=SS N ((fl.take i).flatten++ (gl fl i).take j);refine aD O (aA dM.2 O (aY dM O (aq O (aA (hS.kY 0 O).2 O (wv 0 hS O O O (by omega) ?_)))));intro w5 a8;have a8:St w w5 [iy 4 A5 N N (mE (sw N) ((fl.take i).flatten++ (gl fl i).take (j+1))),bp A1 n A N cA D m cD]:=by
    rw [LZ nG,<-fK,afm];exact a8
   refine aq O (aK O (aS O (tQ ?_)));exact⟨j+1,by show(rg rs i).n - (j+1)< (rg rs i).n - j;omega,(ajz O),by omega,a8⟩
  rw [show(gl fl i).take j=gl fl i from kA (by omega)]at hS;refine bo O (bn (cJ O (aK O (aS O (tQ ?_)))));refine⟨i+1,by show nf - (i+1)<nf - i;omega,(ajz O),by omega,?_⟩;rw [rC JY,List.flatten_append,<-fm JY];simpa using hS
 have da:i=fl.length:=by omega
 rw [da,List.take_length]at hS;have abu:=aeR (m:=N) (F:=fl) (fun l hl=> (hr l hl).2);refine bo O (bn (cJ O ?_));refine aF (Uo A5 N N _ false _ (hS.kY 0 O) (by omega)) O ?_;rintro _ _ ⟨rfl,rfl⟩
 first | refine de rfl rfl ?_ | refine dV rfl rfl ?_
 refine bD O (ck O ?_);refine⟨_,O,?_,hS.none⟩;rw [<-abu];simp
def rG(a b:ah)(i:Nat):ah:=(List.range a.length).map fun k:Nat=>if i<=k\/gi a k=gi b k then gi a k else -1
theorem tR(a b:ah)(i:Nat):(rG a b i).length=a.length:=by simp [rG]
theorem wE{a b:ah}{i k:Nat}(h:k<a.length):gi (rG a b i) k=if i<=k\/gi a k=gi b k then gi a k else -1:=by
 rw [bX (by rw [tR];exact h)];simp [rG]
theorem WS(a b:ah):rG a b 0=a:=by
 apply jV (tR ..);intro k h1 h2;rw [<-bX h1,<-bX h2,wE h2,aT (.inl (bu _))]
theorem WT(a b:ah):rG a b a.length=mn a b:=by
 apply jV (by rw [tR,zX]);intro k h1 h2;have h3:k<a.length:=by rw [tR]at h1;exact h1
 rw [<-bX h1,<-bX h2,wE h3,zW h3]
 by_cases c:gi a k=gi b k
 ·rw [aT (.inr c),aT c]
 rw [aR (by omega),aR c]
theorem WU{a b:ah}{i:Nat}:rG a b (i+1)=if gi a i=gi b i then rG a b i else(rG a b i).set i (-1):=by
 by_cases c:gi a i=gi b i
 ·rw [aT c];apply jV (by simp [tR]);intro k h1 h4;have h3:k<a.length:=by rw [tR]at h1;exact h1
  rw [<-bX h1,wE h3,<-bX h4,wE h3]
  by_cases e:k=i
  ·subst e;rw [aT (.inr c),aT (.inr c)]
  by_cases e2:i+1<=k\/gi a k=gi b k
  ·rw [aT e2,aT (by omega)]
  rw [aR e2,aR (by omega)]
 rw [aR c];apply jV (by simp [tR]);intro k h1 h2;have h3:k<a.length:=by rw [tR]at h1;exact h1
 have h4:k< (rG a b i).length:=by rw [tR];exact h3
 rw [<-bX h1,wE h3,List.getElem_set]
 split
 ·rename_i h;rw [aR (fun e=>by subst e;rcases h with h | h<;>first | omega | exact c h),<-bX h4,wE h3,aT (by omega)]
 rename_i h
 by_cases e:i=k
 ·rw [aT e]
 rw [aR e,<-bX h4,wE h3,aR (fun h'=>h (by omega))]
theorem NK(A A2:ai)(n c m c2:Nat)(a b:ah)(w:aa)(hA:bt w A n a)(hB:bt w A2 m b)(hm:n=m)(hn:n<=1000):
 aG prog 180 [.slice A n c,.slice A2 m c2] w (wh (mn a b) w):=by
 subst hm;have ha:=hA.1;have hb:=hB.1;refine bw func180 O ntmps180 O (b7 O) (bb O (aF (Ho A n c a w hA (by omega)) O ?_));rintro _ w1 ⟨A5,c5,rfl,hS⟩;have hS:St w w1 [ar 2 A5 n c5 (rG a b 0)]:=by rw [WS];exact hS
 refine aq O (ba O O (az O ?_));refine Cd.loop (α:=Nat) (fun i=> [(5,.slice A5 n c5),(10,.slice A2 n c2),(11,aj n),(12,aj i)]) (fun i w'=>i<=n/\St w w' [ar 2 A5 n c5 (rG a b i)]) (fun i=>n - i) 0 (ajz O) ⟨bu _,hS⟩ ?_;clear hS;rintro i e w2 ⟨hi,hS⟩;have hl:=tR a b i;refine b8 O (aM _ O (fun h2=>?_) (fun h2=>?_))
 ·have da:i<a.length:=by omega
  have gf:=WU (a:=a) (b:=b) (i:=i);have pN:=wE (b:=b) (i:=i) da;rw [aT (.inl (dC _))]at pN;have tW:=hS.b9 hB;have h5:=hS.bk 0 O;refine aD O (aA tW.2 O (aY tW O (aq O (aA h5.2 O (aY h5 O (az O ?_))))));rw [pN];refine aM _ O (fun h3=>?_) (fun h3=>?_)
  ·rw [aR h3]at gf;refine aD O (aA h5.2 O (ak.iG 0 hS O O O (by omega) ?_));intro w3 aH;refine aq O (aK O (aS O (tQ ?_)));exact⟨i+1,by show n - (i+1)<n - i;omega,(ajz O),by omega,by rw [gf];exact aH⟩
  rw [aT (mM.1 h3)]at gf;refine aD O (aK O (aS O (tQ ?_)));exact⟨i+1,by show n - (i+1)<n - i;omega,(ajz O),by omega,by rw [gf];exact hS⟩
 have da:i=a.length:=by omega
 rw [da,WT]at hS;have F8:=zX a b;refine bo O (bn (eG O ?_));refine fb O ?_;exact⟨A5,c5,by rw [F8,ha],by rw [F8,ha];exact hS⟩
def eO(xs:ah)(x:Int):ah:=(dL xs.length).filter fun e=>decide (gi xs e=x)
theorem SR{xs:ah}{x:Int}{m:Nat}:((dL (m+1)).filter fun e=>decide (gi xs e=x))=if x=gi xs m then((dL m).filter fun e=>decide (gi xs e=x))++ [(m:Int)]else((dL m).filter fun e=>decide (gi xs e=x)):=by
 have:dL (m+1)=dL m++ [(m:Int)]:=by
  unfold dL;rw [tI,qA];rfl
 rw [this,List.filter_append]
 by_cases c:gi xs m=x
 ·rw [aT c.symm];simp [c]
 rw [aR (fun h=>c h.symm)];simp [c]
theorem SP(A:ai)(n c:Nat)(xs:ah)(x:Int)(w:aa)(hA:bt w A n xs)(hn:n<=100000):
 aG prog 175 [.slice A n c,aj x] w (wh (eO xs x) w):=by
 have ha:=hA.1;refine bw func175 O ntmps175 O (b7 O) ?_;refine bb O (ba O O (az O ?_));refine Cd.loop (α:=Nat×ai×Nat) (fun z=> [(1,aj x),(5,.slice z.2.1 ((dL z.1).filter fun e=>decide (gi xs e=x)).length z.2.2),(8,.slice A n c),(9,aj n),(10,aj (z.1:Int))]) (fun z w'=>z.1<=n/\St w w' [ar 2 z.2.1 ((dL z.1).filter fun e=>decide (gi xs e=x)).length z.2.2 ((dL z.1).filter fun e=>decide (gi xs e=x))]) (fun z=>n - z.1) (0,none,0) (ajz O) ⟨bu _,(St.refl w).nil _⟩ ?_;rintro⟨i,A5,c5⟩ e w1 ⟨hi,hS⟩;dsimp only at hi hS|-;have kS:((dL i).filter fun e=>decide (gi xs e=x)).length<=100000:=by
  refine iS (oa _ _) ?_;rw [dL,mf,tH];omega
 have gf:=SR (xs:=xs) (x:=x) (m:=i);refine b8 O (aM _ O (fun h2=>?_) (fun h2=>?_))
 ·have OZ:=hS.b9 hA;refine aD O (aA OZ.2 O (aY OZ O (az O ?_)));refine aM _ O (fun h3=>?_) (fun h3=>?_)
  ·rw [aT h3]at gf;refine aD O (dE hS O O O ?_);intro A9 w2 aE;refine dS 1 aE O (aE.bk 0 O) O O O ?_;intro AZ cZ w3 aH;have aH:=aH.tail;refine aq O (aK O (aS O (tQ ?_)));refine⟨(i+1,AZ,cZ),by show n - (i+1)<n - i;omega,⟨O,?_,O,O,O,aw⟩,by show i+1<=n;omega,?_⟩
   ·show Value.slice _ _ _=_;rw [gf,dh];rfl
   show St w w3 [ar _ _ (((dL (i+1)).filter _).length) _ ((dL (i+1)).filter _)];rw [gf,dh];exact aH
  rw [aR h3]at gf;refine aD O (aK O (aS O (tQ ?_)));refine⟨(i+1,A5,c5),by show n - (i+1)<n - i;omega,⟨O,?_,O,O,O,aw⟩,by show i+1<=n;omega,?_⟩
  ·show Value.slice _ _ _=_;rw [gf]
  show St w w1 [ar _ _ (((dL (i+1)).filter _).length) _ ((dL (i+1)).filter _)];rw [gf];exact hS
 have da:i=xs.length:=by omega
 rw [da]at hS|-;refine bo O (bn (eG O ?_));exact fb O ⟨A5,c5,O,hS⟩
def nm(n:Int)(R:ah)(i:Int):ah:=if 0<=i/\i<=n - 1 then eO R i else [-1]
theorem Lq(P A D:ai)(n:Int)(N cA m cD:Nat)(R:ah)(i:Int)(w:aa)(hP:Rd w P 3 (fun j=> [Value.int .i64 n,.slice A N cA,.slice D m cD].getD j undef))(hR:bt w A N R)(hN:N<=1000)(hn:0<=n/\n<=100):
 aG prog 179 [.pointer P,aj i] w (wh (nm n R i) w):=by
 refine bw func179 O ntmps179 O (b7 O) (bb O ?_);refine ik hP (by decide) O O ?_;refine aI hP O (fL (j:=0) hP (by exact aL Value.pointer O) O O O O (dq O (aF (qm _ _ _ _) O ?_)));rintro _ _ ⟨rfl,rfl⟩
 first | refine de rfl rfl ?_ | refine dV rfl rfl ?_
 refine az O (aM _ O (fun h2=>?_) (fun h2=>?_))
 ·refine aD O (dE (i:= -1) (St.refl _) O O O ?_);intro A9 w2 aE;refine bD O (fb O ?_);unfold wh nm;rw [aR h2];exact⟨A9,1,O,aE⟩
 refine aD O (ik hP (by decide) O O (aI hP O (aV hP O (aq O (aF (SP A N cA R i _ hR (by omega)) O ?_)))));rintro _ w2 ⟨A9,c9,rfl,aE⟩;refine bD O (fb O ?_);unfold wh nm;rw [aT (mM.1 h2)];exact⟨A9,c9,O,aE⟩
end
section
open Go.RowKit Go.MapKept
structure sG{κ:Type}(d:TypeDesc)(kv:κ->ab):Prop where
 isKey:∀a,IsKey d (kv a)
 inj:∀a b,kv a=kv b->a=b
theorem D8:sG (.int .i64) (Value.int .i64):=⟨fun _=>rfl,fun a b h=>by injection h⟩
section
variable {κ ν:Type} [DecidableEq κ]
def eM:List (κ×ν)->κ->Option ν
 | [],_=>none
 | (y,v)::r,x=>if y=x then some v else eM r x
def iD:List (κ×ν)->κ->ν->List (κ×ν)
 | [],x,v=> [(x,v)]
 | (y,u)::r,x,v=>if y=x then(x,v)::r else(y,u)::iD r x v
def mT:List (κ×ν)->κ->Option (Nat×ν)
 | [],_=>none
 | (y,v)::r,x=>if y=x then some (0,v)else(mT r x).map fun p=> (p.1+1,p.2)
theorem Ou:∀(L:List (κ×ν)) (x:κ),eM L x=(mT L x).map (·.2)
 | [],_=>rfl
 | (y,v)::r,x=>by
  simp only [eM,mT]
  split
  ·rfl
  ·rw [Ou r x,Option.map_map];rfl
theorem Ow:∀ {L:List (κ×ν)} {x:κ} {j:Nat} {v:ν},mT L x=some (j,v)->L[j]?=some (x,v)/\∀u,iD L x u=L.set j (x,u)
 | (y,w)::r,x,j,v,h=>by
  simp only [mT]at h
  split at h
  ·rename_i e;simp only [mh,Prod.mk.injEq]at h;obtain⟨rfl,rfl⟩:=h;subst e;exact⟨O,fun u=>by simp [iD]⟩
  ·rename_i e;cases hf:mT r x with
   | none=>simp [hf]at h
   | some p=>
    simp only [hf,Option.map_some,mh,Prod.mk.injEq]at h;obtain⟨rfl,rfl⟩:=h;obtain⟨h1,h2⟩:=Ow (L:=r) (x:=x) (j:=p.1) (v:=p.2) hf;exact⟨by simpa using h1,fun u=>by simp only [iD,aR e,h2 u,List.set_cons_succ]⟩
theorem Ov:∀ {L:List (κ×ν)} {x:κ},mT L x=none->∀u,iD L x u=L++ [(x,u)]
 | [],x,_,u=>rfl
 | (y,w)::r,x,h,u=>by
  simp only [mT]at h
  split at h
  ·cases h
  ·rename_i e;rw [Option.map_eq_none_iff]at h;simp only [iD,aR e,Ov h u,List.cons_append]
theorem IL(L:List (κ×ν))(x y:κ)(u:ν):eM (iD L x u) y=if x=y then some u else eM L y:=by
 induction L with
 | nil=>simp only [iD,eM]
 | cons p r ih=>
  obtain⟨z,w⟩:=p;simp only [iD]
  by_cases e:z=x
  ·subst e;rw [aT rfl];simp only [eM]
   split<;>simp_all
  ·rw [aR e];simp only [eM,ih]
   by_cases e2:z=y
   ·subst e2;rw [aT rfl,aR (fun h=>e h.symm),aT rfl]
   ·rw [aR e2,aR e2]
def ic(kv:κ->ab)(vv:ν->ab)(L:List (κ×ν)):List (ab×ab):=L.map fun p=> (kv p.1,vv p.2)
theorem Fk{d:TypeDesc}{kv:κ->ab}{vv:ν->ab}(K:sG d kv)(x:κ):∀(l:List MapEntry) (L:List (κ×ν)) (i:Nat),l.map (fun e=> (e.key,e.val))=ic kv vv L->Instr.findNow d (kv x) l i=some ((mT L x).map fun p=> (i+p.1,vv p.2))
 | [],[],_,_=>rfl
 | [],_::_,_,h=>by simp [ic]at h
 | _::_,[],_,h=>by simp [ic]at h
 | e::l,(y,v)::L,i,h=>by
  simp only [ic,List.map_cons,List.cons.injEq,Prod.mk.injEq]at h;obtain⟨⟨h1,h2⟩,h3⟩:=h;obtain⟨r,hr,Qv⟩:=sameNow_of_keys (K.isKey x) (K.isKey y);simp only [Instr.findNow,mT];rw [h1,hr];cases r with
  | true=>
   have e1:=K.inj _ _ (Qv.1 O);subst e1;simp [h2]
  | false=>
   have cS:¬y=x:=fun q=>by
    have:=Qv.2 (by rw [q]);cases this
   rw [aR cS];simp only;rw [Fk K x l L (i+1) h3,Option.map_map]
   congr 2
   funext p;simp only [Function.comp];rw [Nat.add_assoc,Nat.add_comm 1]
end
theorem aex{es:Array MapEntry}{cl:Nat}(h:sv es cl)(k v:ab):sv (es.push ⟨k,v,cl⟩) (cl+1):=by
 refine⟨fun x hx=>?_,?_⟩
 ·rw [Array.toList_push,eD]at hx;rcases hx with hx | hx
  ·exact Nat.lt_succ_of_lt (h.1 x hx)
  rw [dK]at hx;subst hx;exact Nat.lt_succ_self _
 rw [Array.toList_push,qA,List.nodup_append];refine⟨h.2,by simp,fun a ha b hb=>?_⟩;obtain⟨x,hx,rfl⟩:=eh.1 ha;have:=h.1 x hx;simp at hb;omega
theorem aew{es:Array MapEntry}{cl:Nat}(h:sv es cl)(j:Nat)(k v:ab):sv (es.modify j fun e=> { e with key:=k,val:=v }) cl:=by
 have e1:(es.modify j fun e=> { e with key:=k,val:=v }).toList.map (·.born)=es.toList.map (·.born):=by
  apply List.ext_getElem?;intro q;simp only [List.getElem?_map,Array.getElem?_toList,Array.getElem?_modify]
  split
  ·rw [Option.map_map];rfl
  rfl
 refine⟨fun x hx=>?_,by rw [e1];exact h.2⟩;have h2:x.born∈(es.modify j fun e=> { e with key:=k,val:=v }).toList.map (·.born):=eh.2 ⟨x,hx,O⟩;rw [e1]at h2;obtain⟨y,hy,e⟩:=eh.1 h2;rw [<-e];exact h.1 y hy
theorem aey{es pC:Array MapEntry}{cl:Nat}(h:sv es cl)(hs:pC.toList.Sublist es.toList):sv pC cl:=⟨fun x hx=>h.1 x (hs.subset hx),h.2.sublist (hs.map _)⟩
def jn(t:ad)(g:Nat)(gS:List (ab×ab)):Ck:=⟨some ⟨g,0,none⟩,0,0,t,.tuple #[]::pE gS⟩
def pz(w:aa)(g:Nat)(gS:List (ab×ab)):Prop:=∃es cl,w.heap[g]?=some (.map es cl)/\es.toList.map (fun e=> (e.key,e.val))=gS
theorem pz.ao{w w':aa}{g:Nat}{gS:List (ab×ab)}(h:pz w g gS)(hb:Below w.heap.size w w'):pz w' g gS:=by
 obtain⟨es,cl,h1,h2⟩:=h;exact⟨es,cl,by rw [hb.block g (Array.getElem?_eq_some_iff.1 h1).1];exact h1,h2⟩
section
variable {w0 w w':aa} {ks:List Ck} {t:ad} {g:Nat} {gS:List (ab×ab)}
theorem St.GO(h:St w0 w ks)(i:Nat)(hk:ks[i]?=some (jn t g gS)):w0.heap.size<=g/\∃es cl,w.heap[g]?=some (.map es cl)/\es.toList.map (fun e=> (e.key,e.val))=gS/\sv es cl:=by
 rcases(h.get hk).cases with⟨_,_,_,g',o,hA,hg,hh,hv⟩ | ⟨hm,_⟩
 ·have hA:some (⟨g,0,Option.none⟩:Addr)=some ⟨g',0,Option.none⟩:=hA;simp only [mh,Addr.mk.injEq,and_true]at hA;subst hA
  match o,hh,hv with
  | .map es cl,hh,⟨hw,.inl hv⟩=>
   have hv:(.tuple #[]::pE gS:List ab)= .tuple #[]::pE (es.toList.map fun e=> (e.key,e.val)):=hv;simp only [List.cons.injEq,true_and]at hv;exact⟨hg,es,cl,hh,(Oo hv).symm,hw⟩
  | .map es cl,hh,⟨hw,.inr hv⟩=>
   have hv:(.tuple #[]::pE gS:List ab)= .tuple #[aj cl]::pF es.toList:=hv;simp at hv
  | .mapIter m since seen c0,hh,⟨_,bm,_,hv⟩=>
   have hv:(.tuple #[]::pE gS:List ab)= .tuple #[.map (some bm),aj since]::_:=hv;simp at hv
 ·cases hm
theorem St.SI(h:St w0 w ks)(i:Nat)(hk:ks[i]?=some (jn t g gS)):w0.heap.size<=g/\pz w g gS:=by
 obtain⟨h1,es,cl,h2,h3,_⟩:=h.GO i hk;exact⟨h1,es,cl,h2,h3⟩
theorem St.BZ(h:St w0 w ks)(i:Nat)(hk:ks[i]?=some (jn t g gS)):pz w g gS:=(h.SI i hk).2
theorem St.SC(h:St w0 w ks)(hR:pz w0 g gS):pz w g gS:=hR.ao h.below
theorem St.VS(h:St w0 w ks)(t:ad):St w0 (w.alloc (.map #[] 0)) (jn t w.heap.size []::ks):=by
 have hb:Below w.heap.size w (w.alloc (.map #[] 0)):=(Below.refl _ _).alloc (dC _) _;have h1:=h.ao hb;refine⟨h1.below,fun k hk=>?_,?_⟩
 ·rcases ij.1 hk with rfl | hk
  ·exact .ofM rfl ⟨rfl,rfl,_,_,rfl,h.below.size,heap_alloc_new w _,⟨(fun _ h=>by cases h),List.nodup_nil⟩,.inl rfl⟩
  exact h1.own k hk
 simp only [List.filterMap_cons,jn,Ck.il,Option.map_some,kz];refine⟨fun da=>?_,h.apart⟩;obtain⟨k',eN,uj⟩:=List.mem_filterMap.1 da;have:=((h.own k' eN).lt uj).2;omega
theorem St.G9{i:Nat}{KR:List (ab×ab)}{pC:Array MapEntry}{tP:Nat}(h:St w0 w ks)(hk:ks[i]?=some (jn t g gS))(hv:pC.toList.map (fun e=> (e.key,e.val))=KR)(oB:sv pC tP):St w0 { w with heap:=w.heap.setIfInBounds g (.map pC tP) } (ks.set i (jn t g KR)):=by
 obtain⟨hg,es,cl,hh,_⟩:=h.SI i hk;refine h.turn (k:=jn t g gS) (k':=jn t g KR) (g:=g) hk O O ⟨⟨O,O,O,by simp,fun x _ hx=>?_⟩,dC _⟩ ?_
 ·exact(heap_set hh).2 x fun e=>hx (by rw [e])
 refine .ofM O ⟨O,O,g,_,O,hg,(heap_set hh).1,oB,.inl ?_⟩;rw [hv];rfl
end
section
variable{t kt et T:ad}{ix x:ae}
variable {P:Program} {N:Nat} {ops:Array Oper} {K:Env->aa->Prop} {rest:List Oper} {e:Env} {w0 w w':aa} {ks:List Ck} {d:Nat} {ty:ad} {pos:String} {af:Array Edge}
variable {κ ν:Type} [DecidableEq κ] {kd:TypeDesc} {kv:κ->ab} {vv:ν->ab}
theorem EO(hS:St w0 w ks)(hb:Nat.blt d N=true)(hK:∀g w',St w0 w' (jn t g []::ks)->ak P N ops K rest (bC e d (.map (some g))) w'):
 ak P N ops K (⟨some d,.makeMap t none,ty,pos,af,none⟩::rest) e w:=
 .val (w':=w.alloc (.map #[] 0)) (by simp [execOp,run_makeMap]) hb (hK _ _ (hS.VS t))
theorem Tj{z:ab}{s b:Nat}[hU:bP P t (.map kt et)][hk:bP P kt kd][bO P et z s b](KT:sG kd kv){g:Nat}{L:List (κ×ν)}{x:κ}(hR:pz w g (ic kv vv L))(ok:Bool):
 (Instr.lookup t (.map (some g)) (kv x) ok).run P w= .ok (if ok then .tuple #[((eM L x).map vv).getD z,.bool (eM L x).isSome]else((eM L x).map vv).getD z) w:=by
 obtain⟨es,cl,hh,hm⟩:=hR;obtain⟨inf,hi,fp,_,_⟩:=bO.get P et;have hf:=Fk (vv:=vv) KT x es.toList L 0 hm;rw [Ou];unfold Instr.lookup;simp only [Sem.run_bind,run_underlying hU.out,Result.andThen,MapKept.run_getObj_map hh,MapKept.run_checkKey hk.out (KT.isKey x)];cases kT:mT L x with
 | none=>
  rw [kT]at hf;have vz:=MapKept.run_findKey (P:=P) (w:=w) hk.out hf;cases ok<;>simp [vz,zeroValue,typeInfo,hi,fp]
 | some p=>
  rw [kT]at hf;have vz:=MapKept.run_findKey (P:=P) (w:=w) hk.out hf;cases ok<;>simp [vz]
theorem ak.look{z v:ab}{s b:Nat}[bP P t (.map kt et)][bP P kt kd][bO P et z s b](KT:sG kd kv){g:Nat}{L:List (κ×ν)}{m:ae}{x:κ}(hR:pz w g (ic kv vv L))(hx:ev e m= .map (some g))(hy:ev e ix=kv x)(hv:((eM L x).map vv).getD z=v)(hb:Nat.blt d N=true)(hK:ak P N ops K rest (bC e d v) w):ak P N ops K (⟨some d,.lookup t m ix false,ty,pos,af,none⟩::rest) e w:=by
 subst hv;refine .val (w':=w) ?_ hb hK;have:=Tj (P:=P) (t:=t) (x:=x) KT hR false;simp [execOp,hx,hy,this]
theorem Vf{b:Nat}[bP P t (.map kt et)][bP P kt kd][bO P et (aj 0) 1 b](KT:sG kd kv){g:Nat}{L:List (κ×Int)}{m:ae}(x:κ)(hR:pz w g (ic kv (Value.int .i64) L))(hx:ev e m= .map (some g))(hy:ev e ix=kv x)(hb:Nat.blt d N=true)(hK:ak P N ops K rest (bC e d (aj ((eM L x).getD 0))) w):ak P N ops K (⟨some d,.lookup t m ix false,ty,pos,af,none⟩::rest) e w:=
 .look KT hR hx hy (by cases eM L x<;>rfl) hb hK
theorem af4[hU:bP P t (.map kt et)][hk:bP P kt kd](KT:sG kd kv){g:Nat}{L:List (κ×ν)}(i:Nat)(x:κ)(u:ν)(hS:St w0 w ks)(hi:ks[i]?=some (jn T g (ic kv vv L))):
 ∃w',(Instr.mapUpdate t (.map (some g)) (kv x) (vv u)).run P w= .ok () w'/\St w0 w' (ks.set i (jn T g (ic kv vv (iD L x u)))):=by
 obtain⟨_,es,cl,hh,hm,oB⟩:=hS.GO i hi;have hf:=Fk (vv:=vv) KT x es.toList L 0 hm;have vz:=MapKept.run_findKey (P:=P) (w:=w) hk.out hf;cases kT:mT L x with
 | none=>
  refine⟨{ w with heap:=w.heap.setIfInBounds g (.map (es.push ⟨kv x,vv u,cl⟩) (cl+1)) },?_,hS.G9 hi ?_ (aex oB _ _)⟩
  ·simp [Instr.mapUpdate,run_underlying hU.out,MapKept.run_getObj_map hh,MapKept.run_checkKey hk.out (KT.isKey x),vz,kT,MapKept.run_setObj_map _ hh,Result.andThen]
  ·rw [Ov kT];simp only [Array.toList_push,qA,hm,ic]
   rfl
 | some p=>
  obtain⟨j,v⟩:=p;obtain⟨h1,h2⟩:=Ow kT;have nG:j<L.length:=(gw.1 h1).1;have xl:es.toList.length=L.length:=by have:=aL List.length hm;simpa [ic]using this
  have hes:es.size=L.length:=by simpa using xl
  have DE:j<es.size:=by omega
  have aaY:es[j].key=kv x:=by
   have:=aL (fun l=>l[j]?) hm;simp [ic,h1,DE]at this;exact this.1
  have ax:=MapKept.run_keyThatStays (P:=P) (w:=w) (KT.isKey x);refine⟨{ w with heap:=w.heap.setIfInBounds g (.map (es.modify j fun e=> { e with key:=kv x,val:=vv u }) cl) },?_,hS.G9 hi ?_ (aew oB _ _ _)⟩
  ·simp [Instr.mapUpdate,run_underlying hU.out,MapKept.run_getObj_map hh,MapKept.run_checkKey hk.out (KT.isKey x),vz,kT,MapKept.run_setObj_map _ hh,Result.andThen,DE,aaY,ax]
  ·rw [h2 u];apply List.ext_getElem?;intro q;have hq:=aL (fun l=>l[q]?) hm;simp only [ic,List.getElem?_map,Array.getElem?_toList]at hq;simp only [ic,List.getElem?_map,n3,Array.getElem?_toList,Array.getElem?_modify]
   by_cases e1:j=q
   ·subst e1;simp [DE,nG]
   ·rw [aR e1,aR e1];exact hq
def TU:Op->Option (ad×ae×ae×ae)
 | .mapUpdate t m k x=>some (t,m,k,x)
 | .insert t m k x=>some (t,m,k,x)
 | _=>none
theorem EP{op:Op}{m k:ae}[hU:bP P t (.map kt et)][bP P kt kd](pS:TU op=some (t,m,k,x))(KT:sG kd kv){g:Nat}{L:List (κ×ν)}(i:Nat){a:κ}{u:ν}(hS:St w0 w ks)(hi:ks[i]?=some (jn T g (ic kv vv L)))(hm:ev e m= .map (some g))(hk:ev e k=kv a)(hx:ev e x=vv u)(hK:∀w',St w0 w' (ks.set i (jn T g (ic kv vv (iD L a u))))->ak P N ops K rest e w'):ak P N ops K (⟨none,op,ty,pos,af,none⟩::rest) e w:=by
 obtain⟨w',o5,l8⟩:=af4 (P:=P) (t:=t) KT i a u hS hi;refine .unit (w':=w') ?_ (hK _ l8);cases op<;>simp [TU]at pS<;>obtain⟨rfl,rfl,rfl,rfl⟩:=pS<;>simp [execOp,hm,hk,hx,o5]
end
end
end Go.Proofs.YtkojeolafnadeaaGreatDoor.Vc
