/-
 Lemmas. Conditions: as each states them.
-/
import Derived.Test.YtkccgdhcpplblaaGreatDoorZi
set_option maxHeartbeats 8000000
namespace Go.Proofs.YtkccgdhcpplblaaGreatDoor.Vc
open Tryz
section
open Go.RowKit
def WC(k:Nat)(RL:ai)(BL:ah)(w:aa)(v:ad)(w':aa):Prop:=((5<k\/500<RL.length)/\v= .tuple #[.agg #[ak 0,.slice none 0 0,.slice none 0 0],ak 3]/\St w w' [])\/((k<=5/\RL.length<=500)/\∃AR c AD d rs,v= .tuple #[.agg #[ak k,.slice AR RL.length c,.slice AD RL.length d],ak 0]/\rs.length=RL.length/\BL.length=RL.length/\St w w' (ax 2 AR RL.length c RL::(aL 34 2 AD RL.length d rs BL++ [])))
abbrev nr(A:aj)(vs:List ad):Ck:=Bx 233 4 A vs
theorem St.ag2{w0 w:aa}{ks:List Ck}(t:ae)(h:St w0 w ks):St w0 w (eu t Option.none 0 0 []::ks):=h.nil t
theorem filter_lt{P:Int->Prop}[DecidablePred P]{n i:Nat}(h:i<=n):((bS n).filter fun f=>decide (f< (i:Int)/\P f))=(bS i).filter fun f=>decide (P f):=by
 refine SA.eq (pc _ (mf _)) (pc _ (mf _)) fun y=>?_
 rw [gg,gg,jU,jU,lg,lg];exact⟨fun h=> ⟨by omega,h.2.2⟩,fun h=> ⟨by omega,by omega,h.2⟩⟩
section
variable (N1 N2:Nat) (B1 B2:ah) (L:List (Int×Int))
def kZ(i e:Nat):ai:=(bS e).filter fun f=>decide (eX N1 B1 (gp L f).1 (gp L i).1/\eX N2 B2 (gp L f).2 (gp L i).2)
theorem Px(i e:Nat):kZ N1 N2 B1 B2 L i (e+1)=if eX N1 B1 (gp L e).1 (gp L i).1/\eX N2 B2 (gp L e).2 (gp L i).2 then kZ N1 N2 B1 B2 L i e++ [(e:Int)]else kZ N1 N2 B1 B2 L i e:=by
 unfold kZ;rw [vB,rJ]
 by_cases c:eX N1 B1 (gp L e).1 (gp L i).1/\eX N2 B2 (gp L e).2 (gp L i).2
 ·rw [aB c];simp [c.1,c.2]
 rw [az c];rw [wO (by simpa using c),List.filter_nil,fj]
theorem Pv{i:Nat}(h:i<=L.length):kZ N1 N2 B1 B2 L i i=tE (eX N1 B1) (eX N2 B2) L i:=by
 unfold kZ tE;exact(filter_lt (P:=fun f=>eX N1 B1 (gp L f).1 (gp L i).1/\eX N2 B2 (gp L f).2 (gp L i).2) h).symm
theorem Pw(i e:Nat):(kZ N1 N2 B1 B2 L i e).length<=e:=by
 refine nU (rL _ _) ?_;rw [bS,fO,qB];exact bs _
def o6(i:Nat):ah:=(bS i).map (tE (eX N1 B1) (eX N2 B2) L)
theorem Vh(i:Nat):o6 N1 N2 B1 B2 L (i+1)=o6 N1 N2 B1 B2 L i++ [tE (eX N1 B1) (eX N2 B2) L i]:=by
 unfold o6;rw [vB,iD];rfl
theorem DB(i:Nat):(o6 N1 N2 B1 B2 L i).length=i:=by simp [o6,bS]
end
abbrev Bt(Ap:aj)(n cp:Nat)(ds:List TV)(bH A6 A4 A3:aj)(k:Int)(v4 v3:List ad):List Ck:=
 [eu 282 Ap n cp ds,bD bH k none 0 0 none 0 0,bD A6 0 none 0 0 none 0 0,nr A4 v4,nr A3 v3]
abbrev FI(AR:aj)(i cR:Nat)(rl:ai)(bH:aj)(k:Int)(AD:aj)(cD:Nat)(Ap:aj)(n cp:Nat)(ds:List TV)(A6 A4 A3:aj)(v4 v3:List ad)(dv:List aO)(B:ah):List Ck:=
 ax 2 AR i cR rl::bD bH k AR i cR AD i cD::eu 282 Ap n cp ds::bD A6 0 none 0 0 none 0 0::nr A4 v4::nr A3 v3::(aL 34 2 AD i cD dv B++ [])
theorem ahv{α:Type}(q1 q2 q3 q4 q5 q6 q7:α):[q1,q2,q3,q4,q5,q6,q7].Perm [q1,q4,q3,q5,q6,q7,q2]:=by
 classical
 refine jA.2 fun z=>?_
 simp only [jz,kC];omega
theorem ahu{α:Type}(b d:α)(q1 q2 q3 q4 q5 q6 q7:α)(X:List α):(b::d::q1::q2::q3::q4::q5::q6::q7::(X++ [])).Perm (d::q1::q2::q3::q4::q5::q6::q7::((X++ [b])++ [])):=by
 classical
 refine jA.2 fun z=>?_
 simp only [lu,jz,kC];omega
theorem aib(A8 B8:aj)(c8 d8:Nat)(q1 q2:Int)(Gb BR:aj)(r1 r2 GJ dR:Nat)(DS BD:aj)(N1 N2 GI dD:Nat)(X1 X2:ai)(rv VI:List aO)(B1 B2:ah)(n1 n2 kind:Int)(k:Nat)(w:aa)(nv:zJ w A8 X1 N1 DS rv B1)(od:zJ w B8 X2 N2 BD VI B2)(yC:fK (N1+2) n1 (gi X1) (eX N1 B1))(yD:fK (N2+2) n2 (gi X2) (eX N2 B2))(hk:0<=kind/\kind<=2)(iM:(k:Int)=iC n1 n2 kind)(sB:n1<=5)(Dc:n2<=5):
 aK prog 244 [.agg #[.slice A8 (N1+2) c8,ak q1,.slice Gb r1 GJ,.slice DS N1 GI],.agg #[.slice B8 (N2+2) d8,ak q2,.slice BR r2 dR,.slice BD N2 dD],ak kind] w (WC k ((ck (N1+2) (N2+2) (gi X1) (gi X2) kind k).map (dd (gi X1) (gi X2) kind)) (pG (eX N1 B1) (eX N2 B2) (ck (N1+2) (N2+2) (gi X1) (gi X2) kind k)) w):=by
 have dF:=nv.pe;have eM:=od.pe;have ka:=nv.len;have qk:=od.len;have hg1:=fun(a:Int) h=>yC.gO (a:=a) h
 have HW:=fun(a:Int) h=>yD.gO (a:=a) h
 have ht1:=yC.rt;have Fk:=yD.rt;have ac2:=yC.n0;have ac4:=yD.n0;have e1:(((N1+2:Nat):Int) - 1)=(N1:Int)+1:=by omega
 have e2:(((N2+2:Nat):Int) - 1)=(N2:Int)+1:=by omega
 have E1:(k:Int)=n1+n2+ (if kind=0 then 1 else 0):=by rw [iM];unfold iC;split<;>omega
 refine bA func244 O ntmps244 O (tD O O) (bg O (OX (St.refl w) O O ?_));intro A3 w1 aI;refine OX aI O O fun A4 w2 aE=>nj aE O ?_;intro A6 w3 aR;obtain⟨v3,wq⟩:∃v3,v3=Ei A8 (N1+2) c8 q1 Gb r1 GJ DS N1 GI:=⟨_,rfl⟩;obtain⟨v4,Ix⟩:∃v4,v4=Ei B8 (N2+2) d8 q2 BR r2 dR BD N2 dD:=⟨_,rfl⟩;have aR:St w w3 [bD A6 0 none 0 0 none 0 0,nr A4 v4,nr A3 v3]:=by rw [wq,Ix];exact aR
 clear aE aI;have qh:∀ {w':aa} {ks:List Ck} (i:Nat),St w w' ks->ks[i]?=some (nr A3 v3)->Rd w' A3 4 (fun j=> (Ei A8 (N1+2) c8 q1 Gb r1 GJ DS N1 GI).getD j undef):=fun i h hk=>by
  have:=h.rd i hk;rw [wq]at this;exact this
 have tv:∀ {w':aa} {ks:List Ck} (i:Nat),St w w' ks->ks[i]?=some (nr A4 v4)->Rd w' A4 4 (fun j=> (Ei B8 (N2+2) d8 q2 BR r2 dR BD N2 dD).getD j undef):=fun i h hk=>by
  have:=h.rd i hk;rw [Ix]at this;exact this
 have iL:=qh 2 aR O;have sg:=tv 1 aR O;have kO:=(nv.aq aR.below).rk;have lq:=(od.aq aR.below).rk;refine aC O (eo [xP (ay (A3) 0),xS (A8) (N1+2) (c8),xI (((N1+2:Nat):Int)),xI ((((N1+2:Nat):Int)) - ((1:Int))),xP (ay (A4) 0),xS (B8) (N2+2) (d8),xI (((N2+2:Nat):Int)),xI ((((N2+2:Nat):Int)) - ((1:Int))),xI ((((N1+2:Nat):Int)) - ((1:Int))),xI ((((N2+2:Nat):Int)) - ((1:Int)))] O (eL O) ?_ ?_)
 ·exact⟨fun _ _ hb _ _=>aU (iL.below hb) O Az,fun _ _ hb _ _=>bh (iL.below hb) O Az,fun _ _ _ _ _=>bc O O Az,fun _ _ _ _ _=>eh O Az,fun _ _ hb _ _=>aU (sg.below hb) O Az,fun _ _ hb _ _=>bh (sg.below hb) O Az,fun _ _ _ _ _=>bc O O Az,fun _ _ _ _ _=>eh O Az,Dr O,Dr O,au⟩
 intro u w4 og _;have aX:=aR.aq og;have iL:=Rd.below iL og;have sg:=Rd.below sg og;have kO:=kO.aq og;have lq:=lq.aq og;have g1:gi X1 (((N1+2:Nat):Int) - 1)=n1:=ht1;have g2:gi X2 (((N2+2:Nat):Int) - 1)=n2:=Fk;refine eP O ?_;refine kB [13] [yP (ay (A3) 0),yS (A8) (N1+2) (c8),yI (((((N1+2:Nat):Int) - 1))),yP (ay (A8) (((((N1+2:Nat):Int) - 1))).toNat),yI (gi (X1) (((((N1+2:Nat):Int) - 1)))),yP (ay (A4) 0),yS (B8) (N2+2) (d8),yI (((((N2+2:Nat):Int) - 1))),yP (ay (B8) (((((N2+2:Nat):Int) - 1))).toNat),yI (gi (X2) (((((N2+2:Nat):Int) - 1)))),yI ((gi (X1) (((((N1+2:Nat):Int) - 1))))+ (gi (X2) (((((N2+2:Nat):Int) - 1))))),.ex (.agg #[ak (gi X1 (((N1+2:Nat):Int) - 1)+gi X2 (((N2+2:Nat):Int) - 1)),.slice none 0 0,.slice none 0 0]),.pr (fun v w'=>∃bH,v= .pointer bH/\St w w' (bD bH 0 none 0 0 none 0 0::[bD A6 0 none 0 0 none 0 0,nr A4 v4,nr A3 v3])),.p2 12 (fun a v w'=>∃bH,a= .pointer bH/\St w w' (bD bH (gi X1 (((N1+2:Nat):Int) - 1)+gi X2 (((N2+2:Nat):Int) - 1)) none 0 0 none 0 0::[bD A6 0 none 0 0 none 0 0,nr A4 v4,nr A3 v3]))] (ly (ly (ly (ly (ly (ly (ly (ly (ly (ly (ly (ly (de.2 ⟨Ye.dp (fun v w w' h hb=>by obtain⟨A9,hv,hT⟩:=h;exact⟨A9,hv,hT.aq hb⟩),(de.2 ⟨O8 (fun a v w w' h hb=>by obtain⟨bH,hv,hT⟩:=h;exact⟨bH,hv,hT.aq hb⟩),(fun _ h=>by cases h)⟩)⟩))))))))))))) ?_ ?_
 ·refine⟨cP fun _ _ hb _ _ _=>aU (iL.below hb) O (bE O O),cP fun _ _ hb _ _ _=>bh (iL.below hb) O (bE O O),bT O,cP fun _ _ hb _ _ _=>aD (kO.aq hb).2 O (bE O O),cP fun _ _ hb _ _ _=>a8 (kO.aq hb) O (bE O O),cP fun _ _ hb _ _ _=>aU (sg.below hb) O (bE O O),cP fun _ _ hb _ _ _=>bh (sg.below hb) O (bE O O),bT O,cP fun _ _ hb _ _ _=>aD (lq.aq hb).2 O (bE O O),cP fun _ _ hb _ _ _=>a8 (lq.aq hb) O (bE O O),aP fun _ _=>aH O (bE O O),aP fun _ _=>Gj (by exact inferInstance) (by exact inferInstance) (by exact inferInstance) O O O O O O (bE O O),?_,?_,au⟩
  ·refine cP fun e1 w1 hb hp aW hq=>?_
   exact nj (St.refl _) O fun A9 w9 aw=>ao.n (fN.dn O aw.below ⟨A9,O,(aX.aq hb).call aw⟩)
  refine kG fun e1 w1 hb hp aW hq=>?_
  obtain⟨bH,eV,hT⟩:=(hp 12 _ _ (by kernel_rfl) rfl rfl (by kernel_rfl));refine bO 3 0 hT O (by exact eV) O O O O O ?_;intro w9 bL;exact ao.n (fY.st O ⟨bH,eV,bL⟩)
 intro u2 w5 _ _ kr _;obtain⟨bH,eV,aY⟩:=kr 13 12 _ rfl (by kernel_rfl);rw [g1,g2]at aY;refine Cc (F:=[(2,ak kind),(3,.pointer A3),(4,.pointer A4),(6,.pointer A6),(8,ak (((N1+2:Nat):Int) - 1)),(9,ak (((N2+2:Nat):Int) - 1)),(10,.pointer bH)]) ⟨O,O,O,O,O,O,eV,au⟩ ?_;clear kO lq iL sg aX aR;refine OP 0 O (tN (α:=Unit) (fun _=> [(2,ak kind),(3,.pointer A3),(4,.pointer A4),(6,.pointer A6),(8,ak (((N1+2:Nat):Int) - 1)),(9,ak (((N2+2:Nat):Int) - 1)),(10,.pointer bH)]) (fun _ w'=>St w w' (bD bH k none 0 0 none 0 0::[bD A6 0 none 0 0 none 0 0,nr A4 v4,nr A3 v3])) ?_ ?_)
 ·refine bJ O (aM _ O (fun h1=>?_) (fun h1=>?_))
  ·refine aA O (aU (aY.rd 0 O) O (iy (j:=0) (aY.rd 0 O) (by exact aF Value.pointer O) O O O O (aH O (aU (aY.rd 0 O) O (kF 0 (j:=0) aY O O O O O ?_)))));intro w6 bk;refine aT O (tQ ?_);exact⟨(),(amz O),by rw [E1,aB h1];exact bk⟩
  refine nS O (tQ ?_);exact⟨(),(amz O),by rw [E1,az h1,Int.add_zero];exact aY⟩
 clear aY;rintro _ e w6 bk;refine aA O (aU (bk.rd 0 O) O (iy (j:=0) (bk.rd 0 O) (by exact aF Value.pointer O) O O O O (aC O ?_)));refine aM _ O (fun h1=>?_) (fun h1=>?_)
 ·refine aA O (BV (by exact inferInstance) (by exact inferInstance) (by exact inferInstance) O (bO 3 1 bk O O O O O O O ?_));intro w7 bG;refine bI O (kb O (bG.rd 1 O) O ?_);exact .inl ⟨.inl (by omega),O,bG.none⟩
 have L2:k<=5:=by omega
 have bG:=bk.ag2 282;have iL:=qh 3 bk O;refine aA O (aU iL O (amv (j:=0) iL (by exact aF Value.pointer O) O O O O ?_));refine bc O O (aC O ?_);refine Cd.loop (α:=Nat×aj×Nat) (fun z=> [(2,ak kind),(3,.pointer A3),(4,.pointer A4),(6,.pointer A6),(8,ak (((N1+2:Nat):Int) - 1)),(9,ak (((N2+2:Nat):Int) - 1)),(10,.pointer bH),(11,.slice z.2.1 (gB (N1+2) (N2+2) kind z.1 0).length z.2.2),(56,.slice A8 (N1+2) c8),(57,ak ((N1+2:Nat):Int)),(58,ak (z.1:Int))]) (fun z w'=>z.1<=N1+2/\St w w' (Bt z.2.1 (gB (N1+2) (N2+2) kind z.1 0).length z.2.2 ((gB (N1+2) (N2+2) kind z.1 0).map (rA (gi X1) (gi X2) kind)) bH A6 A4 A3 k v4 v3)) (fun z=>N1+2 - z.1) (0,none,0) (amz O) ⟨aZ _,bG⟩ ?_;clear bG bk iL;rintro⟨a,Ap,cp⟩ e w7 ⟨ha,hS⟩;dsimp only at ha hS|-;refine bJ O (aM _ O (fun h2=>?_) (fun h2=>?_))
 ·have CY:a<N1+2:=by omega
  have kO:=(nv.aq hS.below).rk;have sg:=tv 3 hS O;have ga:=hg1 (a:Int) (by omega);refine aA O (aD kO.2 O (a8 kO O (ar O (aU sg O (amv (j:=0) sg (by exact aF Value.pointer O) O O O O ?_)))));refine bc O O (aC O ?_);refine Cd.loop (α:=Nat×aj×Nat) (fun z=> [(2,ak kind),(3,.pointer A3),(4,.pointer A4),(6,.pointer A6),(8,ak (((N1+2:Nat):Int) - 1)),(9,ak (((N2+2:Nat):Int) - 1)),(10,.pointer bH),(11,.slice z.2.1 (gB (N1+2) (N2+2) kind a z.1).length z.2.2),(56,.slice A8 (N1+2) c8),(57,ak ((N1+2:Nat):Int)),(58,ak a),(12,ak a),(13,ak (gi X1 a)),(64,.slice B8 (N2+2) d8),(65,ak ((N2+2:Nat):Int)),(66,ak (z.1:Int))]) (fun z w'=>z.1<=N2+2/\St w w' (Bt z.2.1 (gB (N1+2) (N2+2) kind a z.1).length z.2.2 ((gB (N1+2) (N2+2) kind a z.1).map (rA (gi X1) (gi X2) kind)) bH A6 A4 A3 k v4 v3)) (fun z=>N2+2 - z.1) (0,Ap,cp) (amz O) ⟨aZ _,hS⟩ ?_;clear hS kO sg;rintro⟨b,Ap,cp⟩ e w8 ⟨hb,hS⟩;dsimp only at hb hS|-;refine bJ O (aM _ O (fun h3=>?_) (fun h3=>?_))
  ·have HI:b<N2+2:=by omega
   have lq:=(od.aq hS.below).rk;have gb:=HW (b:Int) (by omega);have sj:=Pk (m1:=N1+2) (m2:=N2+2) (kind:=kind) a b (by omega);have Bf:a* (N2+2)<=502*502:=Nat.mul_le_mul (by omega) (by omega);refine aA O (aD lq.2 O (a8 lq O ?_));refine ar O (aH O (aH O ?_));refine W4 (v:=⟨(a:Int),(b:Int),gi X1 a+gi X2 b+1⟩) (by exact inferInstance) (by exact inferInstance) (by exact inferInstance) O O O O O O O (nj hS O ?_);intro gk w9 bL;refine bO 3 0 bL O O O O O O O ?_;intro dV bN;have bN:St w dV (Bx 282 3 gk [ak a,ak b,ak (gi X1 a+gi X2 b+1)]::Bt Ap (gB (N1+2) (N2+2) kind a b).length cp ((gB (N1+2) (N2+2) kind a b).map (rA (gi X1) (gi X2) kind)) bH A6 A4 A3 k v4 v3):=bN;refine DY 0 O (tN (α:=Unit) (fun _=> [(2,ak kind),(3,.pointer A3),(4,.pointer A4),(6,.pointer A6),(8,ak (((N1+2:Nat):Int) - 1)),(9,ak (((N2+2:Nat):Int) - 1)),(10,.pointer bH),(11,.slice Ap (gB (N1+2) (N2+2) kind a b).length cp),(56,.slice A8 (N1+2) c8),(57,ak ((N1+2:Nat):Int)),(58,ak a),(12,ak a),(13,ak (gi X1 a)),(64,.slice B8 (N2+2) d8),(65,ak ((N2+2:Nat):Int)),(66,ak b),(14,ak b),(16,.pointer gk),(17,.bool (decide ((a:Int)=0/\(b:Int)=0))),(18,.bool (decide ((a:Int)=((N1+2:Nat):Int) - 1/\(b:Int)=((N2+2:Nat):Int) - 1)))]) (fun _ w'=>w'=dV) ?_ ?_)
   ·refine bg O (ew 80 O (fun p1=>?_) (fun p1=>?_))
    ·refine av O (ar O (av O (ar O ?_)));refine ew 87 O (fun p2=>?_) (fun p2=>?_)
     ·refine av O (ar O (av O (ar O (av O (aT O (tQ ?_))))));exact⟨(),⟨O,O,O,O,O,O,O,O,O,O,O,O,O,O,O,O,O,O,aF Value.bool (kk.2 ⟨fun h=> ⟨p1,h⟩,fun h=>h.2⟩),aF Value.bool (kk.2 ⟨fun h=> ⟨p2,h⟩,fun h=>h.2⟩),au⟩,O⟩
     refine aJ O (aJ O (aJ O (aT O (tQ ?_))));exact⟨(),⟨O,O,O,O,O,O,O,O,O,O,O,O,O,O,O,O,O,O,aF Value.bool (kk.2 ⟨fun h=> ⟨p1,h⟩,fun h=>h.2⟩),aF Value.bool (cj fun h=>p2 h.1).symm,au⟩,O⟩
    refine aJ O (aJ O (ar O ?_));refine ew 87 O (fun p2=>?_) (fun p2=>?_)
    ·refine av O (ar O (av O (ar O (av O (aT O (tQ ?_))))));exact⟨(),⟨O,O,O,O,O,O,O,O,O,O,O,O,O,O,O,O,O,O,aF Value.bool (cj fun h=>p1 h.1).symm,aF Value.bool (kk.2 ⟨fun h=> ⟨p2,h⟩,fun h=>h.2⟩),au⟩,O⟩
    refine aJ O (aJ O (aJ O (aT O (tQ ?_))));exact⟨(),⟨O,O,O,O,O,O,O,O,O,O,O,O,O,O,O,O,O,O,aF Value.bool (cj fun h=>p1 h.1).symm,aF Value.bool (cj fun h=>p2 h.1).symm,au⟩,O⟩
   rintro _ e dZ rfl;refine tN (α:=Unit) (fun _=> [(2,ak kind),(3,.pointer A3),(4,.pointer A4),(6,.pointer A6),(8,ak (((N1+2:Nat):Int) - 1)),(9,ak (((N2+2:Nat):Int) - 1)),(10,.pointer bH),(11,.slice Ap (gB (N1+2) (N2+2) kind a b).length cp),(56,.slice A8 (N1+2) c8),(57,ak ((N1+2:Nat):Int)),(58,ak a),(12,ak a),(13,ak (gi X1 a)),(64,.slice B8 (N2+2) d8),(65,ak ((N2+2:Nat):Int)),(66,ak b),(14,ak b),(16,.pointer gk),(17,.bool (decide ((a:Int)=0/\(b:Int)=0))),(18,.bool (decide ((a:Int)=((N1+2:Nat):Int) - 1/\(b:Int)=((N2+2:Nat):Int) - 1))),(19,.bool (decide (((a:Int)=0/\(b:Int)=0)\/((a:Int)=((N1+2:Nat):Int) - 1/\(b:Int)=((N2+2:Nat):Int) - 1))))]) (fun _ w'=>w'=dZ) ?_ ?_
   ·refine bg O (ew 93 O (fun p1=>?_) (fun p1=>?_))
    ·refine aJ O (aT O (tQ ?_));exact⟨(),⟨O,O,O,O,O,O,O,O,O,O,O,O,O,O,O,O,O,O,O,O,aF Value.bool (dM (.inl p1)).symm,au⟩,O⟩
    refine av O (aT O (tQ ?_));exact⟨(),⟨O,O,O,O,O,O,O,O,O,O,O,O,O,O,O,O,O,O,O,O,aF Value.bool (kk.2 ⟨fun h=> .inr h,fun h=>h.resolve_left p1⟩),au⟩,O⟩
   rintro _ e fg rfl;have Hv:kind=1->(pb (N1+2) (N2+2) kind a b↔((a:Int)=0\/(b:Int)=0\/((a:Int)=((N1+2:Nat):Int) - 1/\(b:Int)=((N2+2:Nat):Int) - 1))):=fun h=>by unfold pb;rw [if_pos h]
   have Hw:kind=2->(pb (N1+2) (N2+2) kind a b↔((a:Int)=((N1+2:Nat):Int) - 1\/(b:Int)=((N2+2:Nat):Int) - 1\/((a:Int)=0/\(b:Int)=0))):=fun h=>by unfold pb;rw [if_neg (by omega),if_pos h]
   have abe:¬kind=1->¬kind=2->(pb (N1+2) (N2+2) kind a b↔(((a:Int)=0/\(b:Int)=0)\/((a:Int)=((N1+2:Nat):Int) - 1/\(b:Int)=((N2+2:Nat):Int) - 1))):=fun h h'=>by unfold pb;rw [if_neg h,if_neg h']
   have Kv:kind=1->dd (gi X1) (gi X2) kind ((a:Int),(b:Int))=gi X1 a+gi X2 b+1 - 1:=fun h=>by unfold dd fe;rw [if_pos h];show gi X1 a+gi X2 b+0=_;omega
   have G2:¬kind=1->dd (gi X1) (gi X2) kind ((a:Int),(b:Int))=gi X1 a+gi X2 b+1:=fun h=>by unfold dd fe;rw [if_neg h]
   refine tN (α:=Unit) (fun _=> [(2,ak kind),(3,.pointer A3),(4,.pointer A4),(6,.pointer A6),(8,ak (((N1+2:Nat):Int) - 1)),(9,ak (((N2+2:Nat):Int) - 1)),(10,.pointer bH),(11,.slice Ap (gB (N1+2) (N2+2) kind a b).length cp),(56,.slice A8 (N1+2) c8),(57,ak ((N1+2:Nat):Int)),(58,ak a),(12,ak a),(13,ak (gi X1 a)),(64,.slice B8 (N2+2) d8),(65,ak ((N2+2:Nat):Int)),(66,ak b),(14,ak b),(16,.pointer gk),(19,.bool (decide (pb (N1+2) (N2+2) kind a b)))]) (fun _ w'=>St w w' (Bx 282 3 gk [ak a,ak b,ak (dd (gi X1) (gi X2) kind ((a:Int),(b:Int)))]::Bt Ap (gB (N1+2) (N2+2) kind a b).length cp ((gB (N1+2) (N2+2) kind a b).map (rA (gi X1) (gi X2) kind)) bH A6 A4 A3 k v4 v3)) ?_ ?_
   ·refine bJ O (aM _ O (fun k1=>?_) (fun k1=>?_))
    ·refine aA O (ew 101 O (fun p1=>?_) (fun p1=>?_))
     ·refine aJ O (aJ O (ar O (aJ O (ar O ?_))));refine aU (bN.rd 0 O) O (iy (j:=2) (bN.rd 0 O) (by exact aF Value.pointer O) O O O O (eh O (aU (bN.rd 0 O) O (kF 0 (j:=2) bN O O O O O ?_))));intro gj ic;refine aT O (tQ ?_);exact⟨(),⟨O,O,O,O,O,O,O,O,O,O,O,O,O,O,O,O,O,O,aF Value.bool ((dM ((Hv k1).2 (.inl p1))).symm),au⟩,by rw [Kv k1];exact ic⟩
     refine av O (ar O (av O (ar O ?_)));refine ew 105 O (fun p2=>?_) (fun p2=>?_)
     ·refine aJ O (ar O ?_);refine aU (bN.rd 0 O) O (iy (j:=2) (bN.rd 0 O) (by exact aF Value.pointer O) O O O O (eh O (aU (bN.rd 0 O) O (kF 0 (j:=2) bN O O O O O ?_))));intro gj ic;refine aT O (tQ ?_);exact⟨(),⟨O,O,O,O,O,O,O,O,O,O,O,O,O,O,O,O,O,O,aF Value.bool ((dM ((Hv k1).2 (.inr (.inl p2)))).symm),au⟩,by rw [Kv k1];exact ic⟩
     refine av O (ar O ?_);refine aU (bN.rd 0 O) O (iy (j:=2) (bN.rd 0 O) (by exact aF Value.pointer O) O O O O (eh O (aU (bN.rd 0 O) O (kF 0 (j:=2) bN O O O O O ?_))));intro gj ic;refine aT O (tQ ?_);exact⟨(),⟨O,O,O,O,O,O,O,O,O,O,O,O,O,O,O,O,O,O,aF Value.bool (kk.2 ⟨fun h=> (Hv k1).2 (.inr (.inr h)),fun h=> (((Hv k1).1 h).resolve_left p1).resolve_left p2⟩),au⟩,by rw [Kv k1];exact ic⟩
    refine dw O (aM _ O (fun k2=>?_) (fun k2=>?_))
    ·refine aA O (ew 117 O (fun p1=>?_) (fun p1=>?_))
     ·refine aJ O (aJ O (aJ O (ar O (aJ O (aT O (tQ ?_))))));exact⟨(),⟨O,O,O,O,O,O,O,O,O,O,O,O,O,O,O,O,O,O,aF Value.bool (dM ((Hw k2).2 (.inl p1))).symm,au⟩,by rw [G2 k1];exact bN⟩
     refine av O (ar O (av O (ar O (av O (ar O ?_)))));refine ew 122 O (fun p2=>?_) (fun p2=>?_)
     ·refine aJ O (aT O (tQ ?_));exact⟨(),⟨O,O,O,O,O,O,O,O,O,O,O,O,O,O,O,O,O,O,aF Value.bool (dM ((Hw k2).2 (.inr (.inl p2)))).symm,au⟩,by rw [G2 k1];exact bN⟩
     refine av O (aT O (tQ ?_));exact⟨(),⟨O,O,O,O,O,O,O,O,O,O,O,O,O,O,O,O,O,O,aF Value.bool (kk.2 ⟨fun h=> (Hw k2).2 (.inr (.inr h)),fun h=> (((Hw k2).1 h).resolve_left p1).resolve_left p2⟩),au⟩,by rw [G2 k1];exact bN⟩
    refine nS O (tQ ?_);exact⟨(),⟨O,O,O,O,O,O,O,O,O,O,O,O,O,O,O,O,O,O,aF Value.bool (kk.2 (abe k1 k2).symm),au⟩,by rw [G2 k1];exact bN⟩
   rintro _ e gj ic;refine aA O ?_
   first | refine fv rfl rfl ?_ | refine gA rfl rfl ?_
   refine aC O (aM _ O (fun h5=>?_) (fun h5=>?_))
   ·have uq:=XU (m1:=N1+2) (m2:=N2+2) h5;refine aA O (ao.dq 2 (ic.rd 0 O) O O O (W5 (v:=rA (gi X1) (gi X2) kind ((a:Int),(b:Int))) ic O O O ?_));intro A9 lS iT;refine WZ 2 iT O (iT.jT 0 O) O O O (by omega) (by omega) O ?_;intro AZ cZ rB im;have im:=im.tail.tail;refine ar O (aH O (aT O (tQ ?_)));refine⟨(b+1,AZ,cZ),by show N2+2 - (b+1)<N2+2 - b;omega,⟨O,O,O,O,O,O,O,?_,O,O,O,O,O,O,O,O,au⟩,by show b+1<=N2+2;omega,?_⟩
    ·show Value.slice _ _ _=Value.slice _ _ _;rw [uq,b8];rfl
    show St w rB (Bt AZ (gB _ _ kind a (b+1)).length cZ _ _ _ _ _ _ _ _);rw [uq,b8,iD];exact im
   have mU:=XV (m1:=N1+2) (m2:=N2+2) (jb.1 h5);refine aA O (aH O (aT O (tQ ?_)));refine⟨(b+1,Ap,cp),by show N2+2 - (b+1)<N2+2 - b;omega,⟨O,O,O,O,O,O,O,?_,O,O,O,O,O,O,O,O,au⟩,by show b+1<=N2+2;omega,?_⟩
   ·show Value.slice _ _ _=Value.slice _ _ _;rw [mU]
   show St w gj (Bt Ap (gB _ _ kind a (b+1)).length cp _ _ _ _ _ _ _ _);rw [mU];exact ic.tail
  have qS:b=N2+2:=by omega
  subst qS;refine bn O (bo (cL O (aH O (aT O (tQ ?_)))));refine⟨(a+1,Ap,cp),by show N1+2 - (a+1)<N1+2 - a;omega,⟨O,O,O,O,O,O,O,?_,O,O,O,au⟩,by show a+1<=N1+2;omega,?_⟩
  ·show Value.slice _ _ _=Value.slice _ _ _;rw [JR]
  show St w w8 (Bt Ap (gB _ _ kind (a+1) 0).length cp _ _ _ _ _ _ _ _);rw [JR];exact hS
 obtain rfl:a=N1+2:=by omega
 have E8:=XT yC yD hk iM (show N2+2<=1000 by omega);have vn:=E8.length_eq;have eJ:=XS (N1+2) (N2+2) kind (gi X1) (gi X2) (by omega) (by omega);have Tv:=fun(ds:List TV) hp hs=>aje yC yD hk iM (show N1+2<=1000 by omega) (show N2+2<=1000 by omega) (ds:=ds) hp hs
 have LD:=eJ.2;rw [fO]at LD;have sj:=Pk (m1:=N1+2) (m2:=N2+2) (kind:=kind) (N1+2) 0 (by omega);have Bf:(N1+2)* (N2+2)<=502*502:=Nat.mul_le_mul (by omega) (by omega);have ve:((gB (N1+2) (N2+2) kind (N1+2) 0).map (rA (gi X1) (gi X2) kind)).length=(gB (N1+2) (N2+2) kind (N1+2) 0).length:=fO _;have jf:=fun(c:Int×Int)=> (tF (m1:=N1+2) (m2:=N2+2) (rk1:=gi X1) (rk2:=gi X2) (kind:=kind) (k:=k) (c:=c))
 generalize gB (N1+2) (N2+2) kind (N1+2) 0=PA at*;generalize ck (N1+2) (N2+2) (gi X1) (gi X2) kind k=PL at*;refine bn O (bo (cL O (bc O O (aC O ?_))));refine aM _ O (fun h3=>?_) (fun h3=>?_)
 ·refine aA O (BV (by exact inferInstance) (by exact inferInstance) (by exact inferInstance) O (bO 3 2 hS O O O O O O O ?_));intro w8 b6;refine bI O (kb O (b6.rd 2 O) O ?_);exact .inl ⟨.inr (by rw [fO];omega),O,b6.none⟩
 have hP5:PL.length<=500:=by omega
 refine aA O (aQ (TS.ajc (by omega) eJ.1 LD hS) O ?_);rintro _ w8 ⟨rfl,lZ,Mo,RQ,b6⟩;have Sh:lZ.length=PA.length:=by rw [Mo.length_eq,ve]
 obtain rfl:=Tv lZ Mo (by rw [Sh];exact RQ);clear hS;rw [vn]at b6|-;obtain⟨ds,Aq⟩:∃ds,PL.map (rA (gi X1) (gi X2) kind)=ds:=⟨_,rfl⟩;have hdsl:ds.length=PL.length:=by rw [<-Aq,fO]
 rw [Aq]at b6;have MF:=fun i (h:i<PL.length)=>ajy (rA (gi X1) (gi X2) kind) PL h
 rw [Aq]at MF;have du:∀i:Nat,i<PL.length->((0<=(gp PL i).1/\(gp PL i).1< (N1:Int)+2)/\(0<=(gp PL i).2/\(gp PL i).2< (N2:Int)+2))/\0<=dd (gi X1) (gi X2) kind (gp PL i)/\dd (gi X1) (gi X2) kind (gp PL i)<=5:=fun i h=>by
  have hm:gp PL i∈PL:=by rw [ub h];exact dQ _
  obtain⟨j,hj,hE⟩:=(jf _).1 hm;have h9:=hE.2.2.1;refine⟨⟨⟨hE.1.1,?_⟩,hE.2.1.1,?_⟩,by omega,by omega⟩
  ·have:=hE.1.2;omega
  have:=hE.2.1.2;omega
 have cI:∀i:Nat,i<PL.length->(PL.map (dd (gi X1) (gi X2) kind)).take (i+1)=(PL.map (dd (gi X1) (gi X2) kind)).take i++ [dd (gi X1) (gi X2) kind (gp PL i)]:=fun i h=>by
  rw [DL (by rw [fO];exact h)]
  congr 2
  rw [b9 (by rw [fO];exact h),List.getElem_map,ub h]
 have xo:=fun i=>Vh N1 N2 B1 B2 PL i
 have mP:=fun i=>DB N1 N2 B1 B2 PL i
 have qR:=fun i (h:i<=PL.length)=>Pv N1 N2 B1 B2 PL h
 have sr:=fun i e=>Px N1 N2 B1 B2 PL i e
 have qS:=fun i e=>Pw N1 N2 B1 B2 PL i e
 have bL:St w w8 (FI none 0 0 ((PL.map (dd (gi X1) (gi X2) kind)).take 0) bH k none 0 Ap PL.length cp ds A6 A4 A3 v4 v3 [] (o6 N1 N2 B1 B2 PL 0)):=by
  have h9:=(b6.nil 34).nil 2;exact h9.perm (ahv _ _ _ _ _ _ _)
 clear b6 RQ Mo Sh Tv eJ LD sj ve E8 h3;refine ar O (bc O O (aC O ?_));refine Cd.loop (α:=Nat×(aj×Nat)×(aj×Nat)×List aO) (fun z=> [(3,.pointer A3),(4,.pointer A4),(6,.pointer A6),(10,.pointer bH),(11,.slice Ap PL.length cp),(139,.slice Ap PL.length cp),(140,ak (PL.length:Int)),(141,ak (z.1:Int))]) (fun z w'=>z.1<=PL.length/\z.2.2.2.length=z.1/\St w w' (FI z.2.1.1 z.1 z.2.1.2 ((PL.map (dd (gi X1) (gi X2) kind)).take z.1) bH k z.2.2.1.1 z.2.2.1.2 Ap PL.length cp ds A6 A4 A3 v4 v3 z.2.2.2 (o6 N1 N2 B1 B2 PL z.1))) (fun z=>PL.length - z.1) (0,(none,0),(none,0),[]) (amz O) ⟨aZ _,O,bL⟩ ?_;clear bL;rintro⟨i,⟨AR,cR⟩,⟨AD,cD⟩,dv⟩ e w9 ⟨hi,l8,hS⟩;dsimp only at hi l8 hS|-;refine bJ O (aM _ O (fun h3=>?_) (fun h3=>?_))
 ·have LX:i<PL.length:=by omega
  have hI:=du i LX;have CU:=hS.jT 2 O;refine aA O (kE CU O (oF CU O (by omega) O ?_));rw [MF i LX];refine nj hS O fun dW dV bN=>ar O (bO 3 0 bN O O O O O O O ?_);intro dZ eA;obtain⟨ci,Sd⟩:∃ci,gp PL i=ci:=⟨_,rfl⟩;have Ip:=cI i LX;have abU:=qR i hi;have ab0:=sr i;have ab2:=xo i;rw [Sd]at eA Ip hI;have eA:St w dZ (Bx 282 3 dW [ak ci.1,ak ci.2,ak (dd (gi X1) (gi X2) kind ci)]::FI AR i cR ((PL.map (dd (gi X1) (gi X2) kind)).take i) bH k AD cD Ap PL.length cp ds A6 A4 A3 v4 v3 dv (o6 N1 N2 B1 B2 PL i)):=eA;clear bN hS CU;refine ar O (aU (eA.rd 2 O) O (amv (j:=1) (eA.rd 2 O) (by exact aF Value.pointer O) O O O O (aU (eA.rd 0 O) O (iy (j:=2) (eA.rd 0 O) (by exact aF Value.pointer O) O O O O (eS eA O O O ?_)))));intro A9 fg dG;refine fk 2 dG O (dG.bz 0 O) O O O fun AQ cQ gj ic=>aU (ic.rd 3 O) O (kF 3 (j:=1) ic O O O O O ?_);intro lS iT;have iT:=iT.tail;have iT:St w lS (Bx 282 3 dW [ak ci.1,ak ci.2,ak (dd (gi X1) (gi X2) kind ci)]::ax 2 AQ (i+1) cQ ((PL.map (dd (gi X1) (gi X2) kind)).take (i+1))::bD bH k AQ (i+1) cQ AD i cD::eu 282 Ap PL.length cp ds::bD A6 0 none 0 0 none 0 0::nr A4 v4::nr A3 v3::(aL 34 2 AD i cD dv (o6 N1 N2 B1 B2 PL i)++ [])):=by rw [Ip];exact iT
  have hcapT:=iT.PZ 3 O;clear ic dG eA;refine ar O (Xa (h:=(i:Int)) O O O (by omega) ?_);refine bc O O (aC O ?_);rw [jc];have im:=iT.nil 2;refine Cd.loop (α:=Nat×aj×Nat) (fun z=> [(3,.pointer A3),(4,.pointer A4),(6,.pointer A6),(10,.pointer bH),(11,.slice Ap PL.length cp),(139,.slice Ap PL.length cp),(140,ak (PL.length:Int)),(141,ak i),(20,ak i),(21,.pointer dW),(22,.slice z.2.1 (kZ N1 N2 B1 B2 PL i z.1).length z.2.2),(155,.slice Ap i cp),(156,ak i),(157,ak (z.1:Int))]) (fun z w'=>z.1<=i/\St w w' (ax 2 z.2.1 (kZ N1 N2 B1 B2 PL i z.1).length z.2.2 (kZ N1 N2 B1 B2 PL i z.1)::Bx 282 3 dW [ak ci.1,ak ci.2,ak (dd (gi X1) (gi X2) kind ci)]::ax 2 AQ (i+1) cQ ((PL.map (dd (gi X1) (gi X2) kind)).take (i+1))::bD bH k AQ (i+1) cQ AD i cD::eu 282 Ap PL.length cp ds::bD A6 0 none 0 0 none 0 0::nr A4 v4::nr A3 v3::(aL 34 2 AD i cD dv (o6 N1 N2 B1 B2 PL i)++ []))) (fun z=>i - z.1) (0,none,0) (amz O) ⟨aZ _,im⟩ ?_;clear im iT;rintro⟨q,Ab,cb⟩ e rB ⟨hq,hS⟩;dsimp only at hq hS|-;have hbq:=qS i q;refine bJ O (aM _ O (fun h4=>?_) (fun h4=>?_))
  ·have hqi:q<i:=by omega
   have hJ:=(du q (by omega)).1;have CU:=(hS.jT 4 O).take (l:=i) (by omega);have vd:=ab0 q;have ME:=MF q (by omega);rw [<-ajz ds hqi (by omega)]at ME;obtain⟨cq,hcq⟩:∃cq,gp PL q=cq:=⟨_,rfl⟩;rw [hcq]at hJ ME vd;rw [Sd]at vd;refine aA O (kE CU O (oF CU O (by omega) O ?_));rw [ME];refine nj hS O fun BJ uK jY=>ar O (bO 3 0 jY O O O O O O O ?_);intro pK gn;have gn:St w pK (Bx 282 3 BJ [ak cq.1,ak cq.2,ak (dd (gi X1) (gi X2) kind cq)]::ax 2 Ab (kZ N1 N2 B1 B2 PL i q).length cb (kZ N1 N2 B1 B2 PL i q)::Bx 282 3 dW [ak ci.1,ak ci.2,ak (dd (gi X1) (gi X2) kind ci)]::ax 2 AQ (i+1) cQ ((PL.map (dd (gi X1) (gi X2) kind)).take (i+1))::bD bH k AQ (i+1) cQ AD i cD::eu 282 Ap PL.length cp ds::bD A6 0 none 0 0 none 0 0::nr A4 v4::nr A3 v3::(aL 34 2 AD i cD dv (o6 N1 N2 B1 B2 PL i)++ [])):=gn;have mU:¬(eX N1 B1 cq.1 ci.1/\eX N2 B2 cq.2 ci.2)->kZ N1 N2 B1 B2 PL i (q+1)=kZ N1 N2 B1 B2 PL i q:=fun h=>by rw [vd,az h]
   clear jY hS;refine ar O (aU (gn.rd 0 O) O (iy (j:=0) (gn.rd 0 O) (by exact aF Value.pointer O) O O O O (aU (gn.rd 2 O) O (iy (j:=0) (gn.rd 2 O) (by exact aF Value.pointer O) O O O O (aQ (TX A3 A8 c8 q1 Gb r1 GJ DS N1 GI X1 rv B1 cq.1 ci.1 _ (qh 8 gn O) (nv.aq gn.below) hJ.1 hI.1.1) O ?_)))));rintro _ pK ⟨rfl,rfl⟩;refine ar O (ew 167 O (fun h5=>?_) (fun h5=>?_))
   ·refine av O (aU (gn.rd 0 O) O (av O (iy (j:=1) (gn.rd 0 O) (by exact aF Value.pointer O) O O O O (av O (aU (gn.rd 2 O) O (av O (iy (j:=1) (gn.rd 2 O) (by exact aF Value.pointer O) O O O O (av O (aQ (TX A4 B8 d8 q2 BR r2 dR BD N2 dD X2 VI B2 cq.2 ci.2 _ (tv 7 gn O) (od.aq gn.below) hJ.2 hI.1.2) O ?_)))))))));rintro _ pK ⟨rfl,rfl⟩;refine aC O (aM _ O (fun h6=>?_) (fun h6=>?_))
    ·rw [aB ⟨h5,h6⟩]at vd;refine aA O (eS gn O O O ?_);intro A9 yd jZ;refine fk 2 jZ O (jZ.bz 0 O) O O O ?_;intro AZ cZ F4 oK;have oK:=oK.tail.tail;refine ar O (aH O (aT O (tQ ?_)));refine⟨(q+1,AZ,cZ),by show i - (q+1)<i - q;omega,⟨O,O,O,O,O,O,O,O,O,O,?_,O,O,O,au⟩,by show q+1<=i;omega,?_⟩
     ·show Value.slice _ _ _=Value.slice _ _ _;rw [vd,b8];rfl
     show St w F4 (ax _ AZ (kZ N1 N2 B1 B2 PL i (q+1)).length cZ _::_);rw [vd,b8];exact oK
    have fF:=mU (fun h=>h6 h.2);refine aA O (aH O (aT O (tQ ?_)));refine⟨(q+1,Ab,cb),by show i - (q+1)<i - q;omega,⟨O,O,O,O,O,O,O,O,O,O,?_,O,O,O,au⟩,by show q+1<=i;omega,?_⟩
    ·show Value.slice _ _ _=Value.slice _ _ _;rw [fF]
    show St w pK (ax _ Ab (kZ N1 N2 B1 B2 PL i (q+1)).length cb _::_);rw [fF];exact gn.tail
   have fF:=mU (fun h=>h5 h.1);refine aJ O (aJ O (aJ O (aJ O (aJ O (aC O ?_)))));refine Cd.fC O (aA O (aH O (aT O (tQ ?_))));refine⟨(q+1,Ab,cb),by show i - (q+1)<i - q;omega,⟨O,O,O,O,O,O,O,O,O,O,?_,O,O,O,au⟩,by show q+1<=i;omega,?_⟩
   ·show Value.slice _ _ _=Value.slice _ _ _;rw [fF]
   show St w pK (ax _ Ab (kZ N1 N2 B1 B2 PL i (q+1)).length cb _::_);rw [fF];exact gn.tail
  obtain rfl:q=i:=by omega
  rw [abU]at hS|-;refine bn O (bo (cL O ?_));refine aU (hS.rd 3 O) O (amv (j:=2) (hS.rd 3 O) (by exact aF Value.pointer O) O O O O (ar O (kV hS O O O ?_)));intro A9 uK jY;refine lA 9 jY O (jY.fG 0 O) O O O (by omega) (by omega) O fun AZ cZ pK gn=>aU (gn.rd 4 O) O (kF 4 (j:=2) gn O O O O O ?_);intro yd jZ;have jZ:=jZ.tail;have jZ:=(jZ.perm (ahu _ _ _ _ _ _ _ _ _ _)).tail;refine ar O (aH O (aT O (tQ ?_)));refine⟨(q+1,(AQ,cQ),(AZ,cZ),dv++ [⟨Ab,(tE (eX N1 B1) (eX N2 B2) PL q).length,cb⟩]),by show PL.length - (q+1)<PL.length - q;omega,(amz O),by show q+1<=PL.length;omega,by show(dv++ [_]).length=q+1;rw [b8,l8];rfl,?_⟩;show St w yd (FI AQ (q+1) cQ _ bH k AZ cZ Ap PL.length cp ds A6 A4 A3 v4 v3 (dv++ [_]) (o6 N1 N2 B1 B2 PL (q+1)));rw [ab2];unfold FI aL;rw [o9 (by rw [l8,DB])];exact jZ
 obtain rfl:i=PL.length:=by omega
 refine bn O (bo (cL O ?_));refine ao.dq 2 (hS.rd 1 O) O O O (bO 3 3 hS O O O O O O O ?_);intro dV bN;refine bI O (kb O (bN.rd 3 O) O ?_);have l6:(PL.map (dd (gi X1) (gi X2) kind)).length=PL.length:=fO _;refine .inr ⟨⟨L2,by omega⟩,AR,cR,AD,cD,dv,by rw [l6];rfl,by omega,by rw [l6];exact DB N1 N2 B1 B2 PL PL.length,?_⟩;rw [l6];have h9:=bN.sub (show List.Sublist (ax 2 AR PL.length cR ((PL.map (dd (gi X1) (gi X2) kind)).take PL.length)::(aL 34 2 AD PL.length cD dv (o6 N1 N2 B1 B2 PL PL.length)++ [])) _ from(((((kU _).cons _).cons _).cons _).cons _).cons _ |>.cons_cons _);rw [gR (by omega)]at h9;exact h9
def zF(n:Int)(R:ai)(B:ah)(K:Int)(w:aa)(v:ad)(w':aa):Prop:=
 ∃AR c AD d rs,v= .tuple #[.agg #[ak n,.slice AR R.length c,.slice AD B.length d],ak K]/\rs.length=B.length/\St w w' (ax 2 AR R.length c R::(aL 34 2 AD B.length d rs B++ []))
theorem zF.zero{w w':aa}(h:St w w' [])(K:Int):zF 0 [] [] K w (.tuple #[.agg #[ak 0,.slice none 0 0,.slice none 0 0],ak K]) w':=
 ⟨none,0,none,0,[],rfl,rfl,(h.nil _).nil _⟩
noncomputable def o7(M K:ah)(kind:Int):Int:=if cN M/\cN K then(if 0<=kind/\kind<=2 then(if kJ M=0 then kJ K else kJ M)else 2)else 1
abbrev zw(M:ah):Int->Int:=gi (gU M.length (bK M M.length))
noncomputable abbrev DN(M:ah):Int->Int->Prop:=eX (aS M M.length) (bR M)
def gY(M K:ah)(kind:Int):Nat:=(iC M.length K.length kind).toNat
noncomputable def NN(M K:ah)(kind:Int):List (Int×Int):=ck (aS M M.length+2) (aS K K.length+2) (zw M) (zw K) kind (gY M K kind)
noncomputable def jv(M K:ah)(kind:Int):ai:=(NN M K kind).map (dd (zw M) (zw K) kind)
noncomputable def tC(M K:ah)(kind:Int):ah:=pG (DN M) (DN K) (NN M K kind)
noncomputable def jw(M K:ah)(kind:Int):Int:=if o7 M K kind=0 then(if 5<gY M K kind\/500< (jv M K kind).length then 3 else 0)else o7 M K kind
noncomputable def sL(M K:ah)(kind:Int):Int:=if jw M K kind=0 then gY M K kind else 0
noncomputable def nN(M K:ah)(kind:Int):ai:=if jw M K kind=0 then jv M K kind else []
noncomputable def nM(M K:ah)(kind:Int):ah:=if jw M K kind=0 then tC M K kind else []
theorem Vg{M K:ah}{kind:Int}{w w':aa}{c:Int}(h:jw M K kind=c)(hc:c≠0)(hS:St w w' []):zF (sL M K kind) (nN M K kind) (nM M K kind) (jw M K kind) w (.tuple #[.agg #[ak 0,.slice none 0 0,.slice none 0 0],ak c]) w':=by
 unfold sL nN nM;rw [h,az hc,az hc,az hc];exact zF.zero hS c
theorem FN{M K:ah}{kind:Int}(h:o7 M K kind=0):(0<=kind/\kind<=2)/\kJ M=0/\kJ K=0:=by
 unfold o7 at h
 split at h
 ·split at h
  ·split at h
   ·exact⟨by assumption,by assumption,h⟩
   contradiction
  contradiction
 contradiction
theorem zk{M:ah}(hM:cN M)(h:aS M M.length<=500):fK (aS M M.length+2) M.length (zw M) (DN M):=by
 have:=Fz (sK hM h)
 rwa [oH]at this
theorem I1{M K:ah}{kind:Int}(hM:cN M)(hK:cN K):((gY M K kind:Nat):Int)=iC M.length K.length kind:=by
 have:=hM.1;have:=hK.1;unfold gY iC
 split<;>omega
theorem ah9(A D:aj)(n c m d:Nat)(rs ts:List aO)(M K:ah)(kind:Int)(w:aa)(hT:kX w)(hM:bF w A n rs M)(hK:bF w D m ts K)(hn:n<=c)(hc:c<=9223372036854775807)(hm:m<=d)(hd:d<=9223372036854775807):
 aK prog 242 [.agg #[.slice A n c],.agg #[.slice D m d],ak kind] w (fun v w'=>v=ak (o7 M K kind)/\St w w' []):=by
 refine bA func242 O ntmps242 O (df O) (bg O (lB (St.refl w) O O ?_));intro A3 w1 aI;refine lB aI O O fun A4 w2 aE=>ar O (ao.dq 0 (aE.rd 1 O) O O O (aQ (IF A n c rs M _ (aE.cT hM) hn hc) O ?_));rintro _ w3 ⟨rfl,aw⟩;have aR:=aE.aq aw.below;clear aw aE aI
 first | refine fv rfl rfl ?_ | refine gA rfl rfl ?_
 refine ar O (ew 13 O (fun h1=>?_) (fun h1=>?_))
 ·refine aJ O (aJ O (aJ O (aC O ?_)));refine Cd.gC O (dX O (gZ O ?_));unfold o7;rw [az (fun h=>h1 h.1)];exact⟨O,aR.none⟩
 have h1:cN M:=jb.1 h1;refine av O (ao.dq 0 (aR.rd 0 O) O O O (av O (aQ (IF D m d ts K _ (aR.cT hK) hm hd) O ?_)));rintro _ w4 ⟨rfl,aw⟩;have aX:=aR.aq aw.below;clear aw aR;refine av O ?_
 first | refine fv rfl rfl ?_ | refine gA rfl rfl ?_
 refine aC O (aM _ O (fun h2=>?_) (fun h2=>?_))
 ·refine dX O (gZ O ?_);unfold o7;rw [az (fun h=>h2 h.2)];exact⟨O,aX.none⟩
 have h2:cN K:=jb.1 h2;refine aA O (aQ (ye _ _ _ _) O ?_);rintro _ w4 ⟨rfl,rfl⟩
 first | refine fv rfl rfl ?_ | refine gA rfl rfl ?_
 refine aC O (aM _ O (fun h3=>?_) (fun h3=>?_))
 ·refine dX O (gZ O ?_);unfold o7;rw [aB ⟨h1,h2⟩,az h3];exact⟨O,aX.none⟩
 have h3:0<=kind/\kind<=2:=jb.1 h3;refine aA O (ao.dq 0 (aX.rd 1 O) O O O (aQ (G5 A n c rs M _ (hT.aq aX.below) (aX.cT hM) hn hc) O ?_));rintro _ w5 (⟨hg,rfl,aw⟩ | ⟨hg,A8,c8,AR,cR,AD,cD,dv,rfl,l8,aw⟩)
 ·have aY:=aX.aq aw.below;refine ar O (D4 aY O ?_);intro A7 w6 bk;refine bO 4 0 bk O O O O O O O fun w7 bG=>aC O (nP O (fun h=>hg h) (dX O (gZ O ?_)));unfold o7;rw [aB ⟨h1,h2⟩,aB h3,az hg];exact⟨O,bG.none⟩
 have aY:=aX.aq aw.below;refine ar O (D4 aY O ?_);intro A7 w6 bk;refine bO 4 0 bk O O O O O O O fun w7 bG=>aC O (Cd.gC O (aA O (ao.dq 0 (bG.rd 1 O) O O O (aQ (G5 D m d ts K _ (hT.aq bG.below) (bG.cT hK) hm hd) O ?_))));rintro _ w8 hA;have hp:o7 M K kind=kJ K:=by
  unfold o7;rw [aB ⟨h1,h2⟩,aB h3,aB hg]
 rw [hp];rcases hA with⟨HW,rfl,kN⟩ | ⟨HW,B8,e8,BR,eR,BD,eD,VJ,rfl,xF,kN⟩
 ·refine bI O (gZ O ?_);exact⟨O,(bG.aq kN.below).none⟩
 rw [HW];refine bI O (gZ O ?_);exact⟨O,(bG.aq kN.below).none⟩
theorem QK{M:ah}{w w':aa}{A8:aj}{c8:Nat}{AR:aj}{cR:Nat}{AD:aj}{cD:Nat}{rs:List aO}{ks:List Ck}(hM:cN M)(hb:aS M M.length<=500)(h:St w w' (ax 2 A8 (aS M M.length+2) c8 (gU M.length (bK M M.length))::ax 2 AR (aS M M.length) cR (bK M M.length)::(aL 34 2 AD (aS M M.length) cD rs (bR M)++ks))):
 zJ w' A8 (gU M.length (bK M M.length)) (aS M M.length) AD rs (bR M):=by
 have hP:=sK hM hb;have hl:=oH M M.length;refine⟨by rw [QJ,hl],hb,h.bz 0 O,?_,uY M,fun e h0 h1=>?_⟩
 ·exact(h.sub (show(aL 34 2 AD (aS M M.length) cD rs (bR M)).Sublist _ from((ng _ _).cons _).cons _)).oz (uY M)
 have h2:=hP.at_ (e:=e) h0 (by rw [hl];exact h1);refine⟨h2.1,?_⟩;have:=sJ (N:=(bK M M.length).length) h2.1.nodup fun x hx=>by have:=(h2.2.1 x hx).1;omega
 omega
theorem aia(A D:aj)(n c m d:Nat)(rs ts:List aO)(M K:ah)(kind:Int)(w:aa)(hT:kX w)(hM:bF w A n rs M)(hK:bF w D m ts K)(hn:n<=c)(hc:c<=9223372036854775807)(hm:m<=d)(hd:d<=9223372036854775807):
 aK prog 187 [.agg #[.slice A n c],.agg #[.slice D m d],ak kind] w (zF (sL M K kind) (nN M K kind) (nM M K kind) (jw M K kind) w):=by
 refine bA func187 O ntmps187 O (tD O O) (bg O (lB (St.refl w) O O ?_));intro A3 w1 aI;refine lB aI O O fun A4 w2 aE=>nj aE O fun A6 w3 aR=>ar O (ao.dq 0 (aR.rd 2 O) O O O (ao.dq 0 (aR.rd 1 O) O O O (ar O (aQ (ah9 A D n c m d rs ts M K kind _ (hT.aq aR.below) (aR.cT hM) (aR.cT hK) hn hc hm hd) O ?_))));rintro _ w4 ⟨rfl,aw⟩;have aX:=aR.aq aw.below;clear aw aR aE aI;refine aC O (aM _ O (fun h1=>?_) (fun h1=>?_))
 ·refine aA O (BV (by exact inferInstance) (by exact inferInstance) (by exact inferInstance) O (ar O (bO 3 0 aX O O O O O O O ?_)));intro w5 aY;refine bI O (kb O (aY.rd 0 O) O ?_);exact Vg (by unfold jw;rw [if_neg h1]) h1 aY.none
 have h1:o7 M K kind=0:=jb.1 h1;obtain⟨oj,vg,vf⟩:=FN h1;obtain⟨lH,ny⟩:=th vg;obtain⟨mN,pj⟩:=th vf;refine aA O (ao.dq 0 (aX.rd 2 O) O O O (aQ (G5 A n c rs M _ (hT.aq aX.below) (aX.cT hM) hn hc) O ?_));rintro _ w5 (⟨hg,_⟩ | ⟨_,A8,c8,AR,cR,AD,cD,dv,rfl,l8,aw⟩)
 ·exact absurd vg hg
 have jg:=QK lH ny.1 aw;have aY:=aX.aq aw.below;clear aw aX;refine ar O (D4 (St.refl w5) O ?_);intro A9 w6 yJ;refine bO 4 0 yJ O O O O O O O ?_;intro w7 oe;have og:=Rd.below (aY.rd 1 O) oe.below;have hTb:=(hT.aq aY.below).aq oe.below;have hK7:=(aY.cT hK).aq oe.below;have jg:=jg.aq oe.below;have bG:=aY.aq oe.below;refine ar O (ao.dq 0 og O O O (aQ (G5 D m d ts K _ hTb hK7 hm hd) O ?_));rintro _ w8 (⟨hg,_⟩ | ⟨_,B8,e8,BR,eR,BD,eD,VJ,rfl,xF,kN⟩)
 ·exact absurd vf hg
 have oP:=QK mN pj.1 kN;have jg:=jg.aq kN.below;have b6:=bG.aq kN.below;have h9:=Rd.below (oe.rd 0 O) kN.below;refine ar O (D4 (St.refl w8) O ?_);intro cn w9 hU9;refine bO 4 0 hU9 O O O O O O O ?_;intro dV EJ;have jg:=jg.aq EJ.below;have oP:=oP.aq EJ.below;have bN:=b6.aq EJ.below;have h9:=Rd.below h9 EJ.below;refine ar O (ao.dq 3 h9 O O O (ao.dq 3 (EJ.rd 0 O) O O O (ar O ?_)));have h5:=lH.1;have h6:=mN.1;refine aQ (aib A8 B8 c8 e8 M.length K.length AR BR (aS M M.length) (aS K K.length) cR eR AD BD (aS M M.length) (aS K K.length) cD eD _ _ dv VJ (bR M) (bR K) M.length K.length kind (gY M K kind) _ jg oP (zk lH ny.1) (zk mN pj.1) oj (I1 lH mN) (by omega) (by omega)) O ?_;rintro _ dZ (⟨HK,rfl,vr⟩ | ⟨dm,AQ,cQ,AE,cE,rsP,rfl,hrP,mP,vr⟩)
 ·have eA:=bN.aq vr.below;refine ar O (bO 3 0 eA O O O O O O O ?_);intro fg dG;refine bI O (kb O (dG.rd 0 O) O ?_);refine Vg ?_ (by decide) dG.none;unfold jw;rw [aB h1];exact aB HK
 have eA:=(bN.call vr).perm nT;refine ar O (bO 3 0 eA O O O O O O O ?_);intro fg dG;refine bI O (kb O (dG.rd 0 O) O ?_);have hpc:jw M K kind=0:=by
  unfold jw;rw [aB h1,az];intro h;have h7:(jv M K kind).length<=500:=dm.2;omega
 have e9:(tC M K kind).length=(jv M K kind).length:=mP;unfold sL nN nM;rw [hpc,aB rfl,aB rfl,aB rfl];refine⟨AQ,cQ,AE,cE,rsP,by rw [e9];rfl,by rw [e9];exact hrP,?_⟩;rw [e9];exact dG.sub (show List.Sublist _ (_::_::_::_) from((kU _).cons _ |>.cons _ |>.cons _))
theorem M7(q:Int)(A8:aj)(m8 c8:Nat)(Ab:aj)(m cb:Nat)(rsb:List aO)(BB:ah)(a b:Int)(w:aa)(hB:bF w Ab m rsb BB)(hl:BB.length=m)(hb:0<=b/\b< (m:Int))(hn:(gl BB b).length<=1000000):
 aK prog 299 [.agg #[ak q,.slice A8 m8 c8,.slice Ab m cb],ak a,ak b] w (fun v w'=>v= .bool (decide (a=b\/a∈gl BB b))/\St w w' []):=by
 refine bA func299 O ntmps299 O (df O) (bg O (nV (St.refl w) O O ?_));intro A3 w1 aI;have h1:=aI.rd 0 O;have hB:=aI.cT hB;have iA:=hB.at_ (i:=b) (by omega) (by omega);have oV:=iA.1;refine ar O (ew 10 O (fun h2=>?_) (fun h2=>?_))
 ·refine aJ O (aJ O (aJ O (aJ O (aJ O (aJ O (aJ O (bI O ?_)))))));exact dz O ⟨aF Value.bool (dM (.inl h2)).symm,aI.none⟩
 refine av O (aU h1 O (av O (amv (j:=2) h1 (by exact aF Value.pointer O) O O O O ?_)));refine av O (ar O (av O ?_));refine aD hB.top.2 O (av O (bW hB.top O ?_));refine av O (ar O (av O ?_));refine aQ (IJ _ _ _ (gl BB b) a _ iA (by omega)) O ?_;rintro _ w2 ⟨rfl,rfl⟩;refine bI O (dz O ?_);exact⟨aF Value.bool (kk.2 ⟨fun h=> .inr h,fun h=>h.resolve_left h2⟩),aI.none⟩
def nW(B:ah)(i:Nat):ah:=[]::((bS i).map fun e=>0::(gl B e).map (· +1))
def kY(N:Nat)(B:ah):ah:=nW B N++ [bS (N+1)]
theorem Cl(B:ah)(i:Nat):(nW B i).length=i+1:=by simp [nW,bS]
theorem Cj(N:Nat)(B:ah):(kY N B).length=N+2:=by simp [kY,Cl]
theorem XK(B:ah)(i:Nat):nW B (i+1)=nW B i++ [0::(gl B i).map (· +1)]:=by
 unfold nW;rw [vB,iD,List.cons_append];rfl
theorem O9(N:Nat)(B:ah):gl (kY N B) 0=[]:=by simp [kY,nW,gl]
theorem Pb(N:Nat)(B:ah){b:Int}(h0:0<b)(h1:b< (N:Int)+1):gl (kY N B) b=0::(gl B (b - 1)).map (· +1):=by
 obtain⟨k,rfl⟩:∃k:Nat,b=((k+1:Nat):Int):=⟨(b - 1).toNat,by omega⟩;rw [b7 (by rw [Cj];omega)];unfold kY;rw [List.getElem_append_left (by rw [Cl];omega)];have e1:((k+1:Nat):Int) - 1=(k:Int):=by omega
 rw [e1];simp [nW,bS]
theorem Pc(N:Nat)(B:ah):gl (kY N B) ((N:Int)+1)=bS (N+1):=by
 have e1:((N:Int)+1)=((N+1:Nat):Int):=by omega
 rw [e1,b7 (by rw [Cj];omega)];unfold kY;rw [List.getElem_append_right (by rw [Cl];omega)];simp [Cl]
theorem Pf{N:Nat}{B:ah}{a b:Int}(ha:0<=a/\a< (N:Int)+2)(hb:0<=b/\b< (N:Int)+2)(hB:∀e:Int,0<=e->e<N->∀d∈gl B e,0<=d/\d< (N:Int)):(a=b\/a∈gl (kY N B) b)↔eX N B a b:=by
 unfold eX
 by_cases c0:b=0
 ·subst c0;rw [O9];constructor
  ·rintro(h | h)
   ·exact .inl h
   cases h
  rintro(h | h | h | h)
  ·exact .inl h
  ·exact .inl h
  ·omega
  omega
 by_cases c1:b=(N:Int)+1
 ·subst c1;rw [Pc,jU];constructor
  ·intro _;exact .inr (.inr (.inl rfl))
  intro _
  by_cases e:a=(N:Int)+1
  ·exact .inl e
  exact .inr (by omega)
 rw [Pb N B (by omega) (by omega),iP,dA];constructor
 ·rintro(h | h | ⟨d,h,e⟩)
  ·exact .inl h
  ·exact .inr (.inl h)
  have:=hB (b - 1) (by omega) (by omega) d h;exact .inr (.inr (.inr ⟨by omega,by omega,by omega,by omega,by rw [<-e,Int.add_sub_cancel];exact h⟩))
 rintro(h | h | h | h)
 ·exact .inl h
 ·exact .inr (.inl h)
 ·exact absurd h c1
 exact .inr (.inr ⟨a - 1,h.2.2.2.2,by omega⟩)
theorem Pa{N:Nat}{B:ah}(hl:∀e:Int,0<=e->e<N->(gl B e).length<=500)(hN:N<=500){b:Int}(hb:0<=b/\b< (N:Int)+2):(gl (kY N B) b).length<=501:=by
 by_cases c0:b=0
 ·subst c0;rw [O9];exact aZ _
 by_cases c1:b=(N:Int)+1
 ·subst c1;rw [Pc,bS,fO,qB];omega
 rw [Pb N B (by omega) (by omega),List.length_cons,fO];have:=hl (b - 1) (by omega) (by omega);omega
theorem aff(n:Nat)(w:aa)(hn:n<=1000000):
 aK prog 239 [ak n] w (fun v w'=>∃A c,v= .slice A n c/\St w w' [ax 2 A n c (bS n)]):=by
 refine bA func239 O ntmps239 O (df O) (bg O (jn (St.refl w) O ?_));intro A1 w1 aI;refine aC O (Cd.loop (α:=Nat×aj×Nat) (fun s=> [(0,ak n),(3,.slice s.2.1 s.1 s.2.2),(4,ak (s.1:Int))]) (fun s w'=>s.1<=n/\St w w' [ax 2 s.2.1 s.1 s.2.2 (bS s.1)]) (fun s=>n - s.1) (0,A1,0) (amz O) ⟨aZ _,aI⟩ ?_);clear aI;rintro⟨i,A2,c2⟩ e w2 ⟨hi,aE⟩;dsimp only at aE hi|-;refine bJ O (aM _ O (fun h1=>?_) (fun h1=>?_))
 ·refine aA O (eS aE O O O ?_);intro A3 w3 aR;refine fk 1 aR O (aR.bz 0 O) O O O ?_;intro A4 c4 w4 aX;have aX:=aX.tail;refine ar O (aH O (aT O (tQ ?_)));exact⟨(i+1,A4,c4),by show n - (i+1)<n - i;omega,(amz O),by show i+1<=n;omega,by show St w w4 [ax _ A4 (i+1) c4 (bS (i+1))];rw [vB];exact aX⟩
 have du:i=n:=by omega
 subst du;refine bn O (bo (gq O ?_));exact ia O ⟨A2,c2,O,aE⟩
abbrev rW(A:aj)(n:Int)(X:aj)(m cx:Nat)(Y:aj)(k cy:Nat):Ck:=Bx 175 3 A [ak n,.slice X m cx,.slice Y k cy]
section
variable {P:Program} {N:Nat} {ops:Array Oper} {K:Env->aa->Prop} {rest:List Oper} {e:Env} {w0 w w':aa} {ks:List Ck} {d:Nat} {ty:ae} {pos:String} {af:Array Edge}
theorem W2{t:ae}{f0 f1 f2:Field}{z0 z1 z2 y0 y1 y2:ad}{b b0 b1 b2:Nat}[bt P t (.struct #[f0,f1,f2])][bq P t (.agg #[z0,z1,z2]) 3 b]{x0 x1 x2:ag}{v0 v1 v2:ad}(u6:bq P f0.type y0 1 b0)(u7:bq P f1.type y1 1 b1)(xg:bq P f2.type y2 1 b2)(ho:f0.offset=0)(sC:f1.offset=1)(yY:f2.offset=2)(h0:ev e x0=v0)(h1:ev e x1=v1)(h2:ev e x2=v2)(c0:v0.oneCell'=true)(c1:v1.oneCell'=true)(c2:v2.oneCell'=true)(hb:Nat.blt d N=true)(hK:ao P N ops K rest (br e d (.agg #[v0,v1,v2])) w):ao P N ops K (⟨some d,.build t #[(0,x0),(1,x1),(2,x2)],ty,pos,af,none⟩::rest) e w:=by
 obtain⟨inf,hi,dU,hs,gI⟩:=bq.get P t;obtain⟨Dl,eY,_,pB,_⟩:=u6.get P f0.type;obtain⟨Fu,mm,_,vq,_⟩:=u7.get P f1.type;obtain⟨ID,ug,_,mT,_⟩:=xg.get P f2.type;have e0:v0.cells= #[v0]:=by cases v0<;>simp [Value.oneCell']at c0<;>rfl
 have e1:v1.cells= #[v1]:=by cases v1<;>simp [Value.oneCell']at c1<;>rfl
 have e2:v2.cells= #[v2]:=by cases v2<;>simp [Value.oneCell']at c2<;>rfl
 have ez:(Value.agg #[z0,z1,z2]).cells= #[z0,z1,z2]:=O;refine .val (w':=w) ?_ hb hK;simp [execOp,Instr.build,run_underlying (bt.out (P:=P) (t:=t)),sizeOf,typeInfo,zeroValue,hi,dU,eY,pB,mm,vq,ug,mT,ho,sC,yY,h0,h1,h2,e0,e1,e2,ez,Instr.fill]
end
theorem ahz{α:Type}(a b c d:α):[a,b,c,d].Perm [a,d,b,c]:=by
 classical
 refine jA.2 fun z=>?_
 simp only [jz,kC];omega
theorem U6{α:Type}(s a b m:α)(X:List α):(s::a::b::m::(X++ [])).Perm (a::b::m::((X++ [s])++ [])):=by
 classical
 refine jA.2 fun z=>?_
 simp only [lu,jz,kC];omega
theorem Ua(A:aj)(n c:Nat)(rs:List aO)(M:ah)(w:aa)(hR:bF w A n rs M)(hM:cN M)(xn:aS M M.length<=500):
 aK prog 182 [.agg #[.slice A n c]] w (fun v w'=>∃X cx Y cy ys,v= .agg #[ak (M.length:Int),.slice X (aS M M.length+2) cx,.slice Y (aS M M.length+2) cy]/\ys.length=aS M M.length+2/\St w w' (ax 2 X (aS M M.length+2) cx (gU M.length (bK M M.length))::(aL 34 2 Y (aS M M.length+2) cy ys (kY (aS M M.length) (bR M))++ []))):=by
 have h5:=hM.1;have hP:=sK hM xn;have yH:=oH M M.length;have sd:=uY M;have cI:∀e:Int,0<=e->e< ((bK M M.length).length:Int)->(gl (bR M) e).length<=500/\∀d∈gl (bR M) e,0<=d/\d< ((bK M M.length).length:Int):=fun e h0 h=>by
  have h2:=hP.at_ (e:=e) h0 h;refine⟨?_,fun d hd=>by have:=(h2.2.1 d hd).1;omega⟩;have:=sJ (N:=(bK M M.length).length) h2.1.nodup fun x hx=>by have:=(h2.2.1 x hx).1;omega
  omega
 have Tt:=fun(e:Int) (h0:0<=e) (h:e< ((bK M M.length).length:Int))=>hP.ri h0 h
 have hpo:=afp A n c rs M;generalize bK M M.length=R at*;generalize bR M=B at*;generalize M.length=d at*;generalize aS M d=N at*;rw [yH]at cI Tt;refine bA func182 O ntmps182 O (qp O O) (bg O (lB (St.refl w) O O ?_));intro A1 w1 aI;refine nj aI O fun A2 w2 aE=>ar O (ao.dq 0 (aE.rd 1 O) O O O (aQ (hpo _ (aE.cT hR) hM) O ?_));rintro _ w3 ⟨AR,cR,AD,cD,dv,rfl,l8,aw⟩;have aR:=(aE.call aw).perm nT;refine nj aR O fun A3 w4 aX=>bO 3 0 aX O O O O O O O ?_;intro w5 aY;have fR:Rd w5 A3 3 (fun q=> [Value.int .i64 (d:Int),.slice AR N cR,.slice AD N cD].getD q undef):=aY.rd 0 O;have aY:St w w5 (bD A3 d AR N cR AD N cD::rW A2 0 none 0 0 none 0 0::Bx 24 1 A1 [.slice A n c]::(ax 2 AR N cR R::(aL 34 2 AD N cD dv B++ []))):=aY;have Lo:cg w5 AR N R:=aY.bz 3 O;have K8:bF w5 AD N dv B:=(aY.sub (show(aL 34 2 AD N cD dv B).Sublist _ from(((((by rw [fj];exact kU _:(aL 34 2 AD N cD dv B).Sublist (aL 34 2 AD N cD dv B++ [])).cons _).cons _).cons _).cons _))).oz sd;clear aR aE aI;refine ar O (aU fR O (iy (j:=0) fR (by exact aF Value.pointer O) O O O O (eS (i:= -1) (St.refl w5) O O O ?_)));intro X w6 yJ;refine jn yJ O fun pL w7 oe=>kV oe O O O fun Y w8 nz=>W2 (by exact inferInstance) (by exact inferInstance) (by exact inferInstance) O O O O O O O O O O (nj nz O ?_);intro A4 w9 pZ;refine bO 3 0 pZ O O O O O O O ?_;intro dV CW;have CW:St w5 dV (rW A4 d X 1 1 Y 1 1::ax 2 X 1 1 (-1::R.take 0)::(aL 34 2 Y 1 1 [⟨pL,0,0⟩] (nW B 0)++ [])):=CW.perm (ahz _ _ _ _);clear pZ nz oe yJ;refine aC O (Cd.loop (α:=Nat×(aj×Nat)×(aj×Nat)×List aO) (fun z=> [(2,.pointer A2),(3,.pointer A3),(4,.pointer A4),(5,ak (z.1:Int))]) (fun z w'=>z.1<=N/\z.2.2.2.length=z.1+1/\St w5 w' (rW A4 d z.2.1.1 (z.1+1) z.2.1.2 z.2.2.1.1 (z.1+1) z.2.2.1.2::ax 2 z.2.1.1 (z.1+1) z.2.1.2 (-1::R.take z.1)::(aL 34 2 z.2.2.1.1 (z.1+1) z.2.2.1.2 z.2.2.2 (nW B z.1)++ []))) (fun z=>N - z.1) (0,(X,1),(Y,1),[⟨pL,0,0⟩]) (amz O) ⟨aZ _,O,CW⟩ ?_);clear CW;rintro⟨i,⟨X,cX⟩,⟨Y,cY⟩,ys⟩ e dZ ⟨hi,xK,hT⟩;dsimp only at hi xK hT|-;have R4:=Rd.below fR hT.below;refine bg O (aU R4 O (amv (j:=1) R4 (by exact aF Value.pointer O) O O O O ?_));refine bc O O (aC O ?_);refine aM _ O (fun h1=>?_) (fun h1=>?_)
 ·have hiN:i<N:=by omega
  have Ip:=cI (i:Int) (by omega) (by omega);refine aA O (eS (i:=0) hT O O O ?_);intro A6 fg RR;refine aC O (Cd.loop (α:=Nat×aj×Nat) (fun z=> [(2,.pointer A2),(3,.pointer A3),(4,.pointer A4),(5,ak i),(6,.slice z.2.1 (z.1+1) z.2.2),(7,ak (z.1:Int))]) (fun z w'=>z.1<=(gl B i).length/\St w5 w' (ax 2 z.2.1 (z.1+1) z.2.2 (0::((gl B i).take z.1).map (· +1))::rW A4 d X (i+1) cX Y (i+1) cY::ax 2 X (i+1) cX (-1::R.take i)::(aL 34 2 Y (i+1) cY ys (nW B i)++ []))) (fun z=> (gl B i).length - z.1) (0,A6,1) (amz O) ⟨aZ _,RR⟩ ?_);clear RR hT;rintro⟨j,A6,c6⟩ e gj ⟨hj,hT⟩;dsimp only at hj hT|-;have C1:=Rd.below fR hT.below;have EA:=K8.aq hT.below;have iA:=EA.at_ (i:=(i:Int)) (by omega) (by omega);have oV:=iA.1;refine bg O (aU C1 O (amv (j:=2) C1 (by exact aF Value.pointer O) O O O O (ar O (aD EA.top.2 O (bW EA.top O ?_)))));refine bc O O (aC O ?_);refine aM _ O (fun h2=>?_) (fun h2=>?_)
  ·have lK:j< (gl B i).length:=by omega
   have qa:=Ip.2 _ (gi_in lK);refine aA O (aU C1 O (amv (j:=2) C1 (by exact aF Value.pointer O) O O O O (ar O (aD EA.top.2 O (bW EA.top O (ar O (aD iA.2 O (a8 iA O (aH O ?_)))))))));refine eS hT O O O fun A9 lS si=>fk 1 si O (si.bz 0 O) O O O ?_;intro AZ cZ rB xj;have xj:=xj.tail;refine ar O (aH O (aT O (tQ ?_)));refine⟨(j+1,AZ,cZ),by show(gl B i).length - (j+1)< (gl B i).length - j;omega,(amz O),by show j+1<=_;omega,?_⟩;show St w5 rB (ax _ AZ (j+1+1) cZ (0::((gl B i).take (j+1)).map (· +1))::_);rw [DL lK,iD];exact xj
  have uh:(gl B i).take j=gl B i:=gR (by omega);rw [uh]at hT;have je:=Lo.aq hT.below;have u5:=hT.rd 1 O;have Il:=Tt (i:Int) (by omega) (by omega);have xG:R.take (i+1)=R.take i++ [gi R i]:=DL (by omega);refine bn O (bo (rI O ?_));refine kB [8,10] [yP (ay (A4) 1),yS (X) (i+1) (cX),yP (ay (A3) 1),yS (AR) (N) (cR),yI ((i:Int)),yP (ay (AR) ((i:Int)).toNat),yI (gi (R) ((i:Int))),.pr (fun v w'=>∃A9,v= .slice A9 1 1/\St w5 w' (ax 2 A9 1 1 [gi R i]::ax 2 A6 (j+1) c6 (0::(gl B i).map (· +1))::rW A4 d X (i+1) cX Y (i+1) cY::ax 2 X (i+1) cX (-1::R.take i)::(aL 34 2 Y (i+1) cY ys (nW B i)++ []))),.pr (fun v w'=>∃AZ cZ,v= .slice AZ (i+1+1) cZ/\St w5 w' (ax 2 A6 (j+1) c6 (0::(gl B i).map (· +1))::rW A4 d X (i+1) cX Y (i+1) cY::ax 2 AZ (i+1+1) cZ ((-1::R.take i)++ [gi R i])::(aL 34 2 Y (i+1) cY ys (nW B i)++ []))),yP (ay A4 1),.pr (fun _ w'=>∃AZ cZ,St w5 w' (ax 2 A6 (j+1) c6 (0::(gl B i).map (· +1))::rW A4 d AZ (i+1+1) cZ Y (i+1) cY::ax 2 AZ (i+1+1) cZ ((-1::R.take i)++ [gi R i])::(aL 34 2 Y (i+1) cY ys (nW B i)++ [])))] (ly (ly (ly (ly (ly (ly (ly (de.2 ⟨Ye.dp (fun v w w' h hb=>by obtain⟨A9,hv,hT⟩:=h;exact⟨A9,hv,hT.aq hb⟩),(de.2 ⟨Ye.dp (fun v w w' h hb=>by obtain⟨AZ,cZ,hv,hT⟩:=h;exact⟨AZ,cZ,hv,hT.aq hb⟩),(ly (de.2 ⟨Ye.dp (fun v w w' h hb=>by obtain⟨AZ,cZ,hT⟩:=h;exact⟨AZ,cZ,hT.aq hb⟩),(fun _ h=>by cases h)⟩))⟩)⟩)))))))) ?_ ?_
  ·refine⟨cP fun _ _ hb _ _ _=>aU (u5.below hb) O (bE O O),cP fun _ _ hb _ _ _=>bh (u5.below hb) O (bE O O),cP fun _ _ hb _ _ _=>aU (C1.below hb) O (bE O O),cP fun _ _ hb _ _ _=>bh (C1.below hb) O (bE O O),bT O,cP fun _ _ hb _ _ _=>aD (je.aq hb).2 O (bE O O),cP fun _ _ hb _ _ _=>a8 (je.aq hb) O (bE O O),?_,?_,?_,?_,au⟩
   ·refine cP fun e1 w1 hb hp aW hq=>?_
    exact eS (St.refl _) O O O fun A9 w9 aw=>ao.n (fN.dn O aw.below ⟨A9,O,(hT.aq hb).call aw⟩)
   ·refine kG fun e1 w1 hb hp aW hq=>?_
    obtain⟨A9,h53,pZ⟩:=(hp 7 _ _ (by kernel_rfl) rfl rfl (by kernel_rfl));refine fk 3 pZ O (pZ.bz 0 O) O (by exact h53) O ?_;intro AZ cZ wZ hZ;exact ao.n (fY.dn O ⟨AZ,cZ,O,hZ.tail⟩)
   ·intro e1 w1 cc eZ dt fQ hp aW hq;show ao _ _ _ _ _ _ _;have hX:Rd w1 A4 3 (fun q=> [Value.int .i64 (d:Int),.slice X (i+1) cX,.slice Y (i+1) cY].getD q undef):=by { have dt:=qn dt (b:=1) (by kernel_rfl);rcases(show cc=0\/cc=1 by omega)with h | h; { exact Rd.below u5 (fQ h) }; { subst h;obtain⟨AZ,cZ,_,Al⟩:=hq 8 _ _ (by kernel_rfl) (by kernel_rfl) (by kernel_rfl) rfl rfl (by kernel_rfl);exact Al.rd 1 rfl } }
    refine aU hX O (ao.n (iN O (by exact O)))
   refine rU 1 fun e1 w1 hp aW hq=>?_
   have eN:=hp 8 _ _ (by kernel_rfl) O O (by kernel_rfl);obtain⟨AZ,cZ,h54,Al⟩:=eN;refine kF 1 Al O O (by exact h54) O O ?_;intro dZ Ag;exact ao.n (fY.st O ⟨AZ,cZ,Ag⟩)
  intro u lS _ hu _ _;obtain⟨AZ,cZ,si⟩:=hu 10 _ rfl (by kernel_rfl);clear hT u5;refine FM (F:=[(2,.pointer A2),(3,.pointer A3),(4,.pointer A4),(5,ak i),(6,.slice A6 (j+1) c6)]) (amz O) (jW O (aU (si.rd 1 O) O (amv (j:=2) (si.rd 1 O) (by exact aF Value.pointer O) O O O O (ar O (kV si O O O ?_)))));intro A9 rB xj;refine lA 4 xj O (xj.fG 0 O) O O O (by omega) (by omega) O fun AQ cQ uK EI=>aU (EI.rd 2 O) O (kF 2 (j:=2) EI O O O O O ?_);intro pK Ah;have Ah:=Ah.tail;have Aj:St w5 pK (ax 2 A6 (j+1) c6 (0::(gl B i).map (· +1))::rW A4 d AZ (i+1+1) cZ AQ (i+1+1) cQ::ax 2 AZ (i+1+1) cZ ((-1::R.take i)++ [gi R i])::bZ 34 AQ (i+1+1) cQ (ys++ [⟨A6,j+1,c6⟩])::(cK 2 ys (nW B i)++ [])):=Ah;have Aj:=Aj.perm (U6 _ _ _ _ _);rw [<-o9 (by rw [xK,Cl]),<-XK]at Aj;refine ar O (aH O (aT O (tQ ?_)));refine⟨(i+1,(AZ,cZ),(AQ,cQ),ys++ [⟨A6,j+1,c6⟩]),by show N - (i+1)<N - i;omega,(amz O),by show i+1<=N;omega,by simp [xK],?_⟩;show St w5 pK (_::ax _ AZ (i+1+1) cZ (-1::R.take (i+1))::_);rw [xG];exact Aj
 obtain rfl:i=N:=by omega
 have u5:=hT.rd 0 O;have hRt:R.take i=R:=gR (by omega);rw [hRt]at hT;refine bn O (bo (rI O ?_));refine kB [7,9] [yP (ay (A4) 2),yS (Y) (i+1) (cY),yP (ay (A4) 1),yS (X) (i+1) (cX),yI (((i+1:Nat):Int)),.pr (fun v w'=>∃A7 c7,v= .slice A7 (i+1) c7/\St w5 w' (ax 2 A7 (i+1) c7 (bS (i+1))::rW A4 d X (i+1) cX Y (i+1) cY::ax 2 X (i+1) cX (-1::R)::(aL 34 2 Y (i+1) cY ys (nW B i)++ []))),.pr (fun v w'=>∃A8 A7 c7,v= .slice A8 1 1/\St w5 w' (bZ 34 A8 1 1 [⟨A7,i+1,c7⟩]::ax 2 A7 (i+1) c7 (bS (i+1))::rW A4 d X (i+1) cX Y (i+1) cY::ax 2 X (i+1) cX (-1::R)::(aL 34 2 Y (i+1) cY ys (nW B i)++ []))),.pr (fun v w'=>∃AQ cQ A7 c7,v= .slice AQ (i+1+1) cQ/\St w5 w' (ax 2 A7 (i+1) c7 (bS (i+1))::rW A4 d X (i+1) cX Y (i+1) cY::ax 2 X (i+1) cX (-1::R)::bZ 34 AQ (i+1+1) cQ (ys++ [⟨A7,i+1,c7⟩])::(cK 2 ys (nW B i)++ []))),yP (ay A4 2),.pr (fun _ w'=>∃AQ cQ A7 c7,St w5 w' (ax 2 A7 (i+1) c7 (bS (i+1))::rW A4 d X (i+1) cX AQ (i+1+1) cQ::ax 2 X (i+1) cX (-1::R)::bZ 34 AQ (i+1+1) cQ (ys++ [⟨A7,i+1,c7⟩])::(cK 2 ys (nW B i)++ [])))] (ly (ly (ly (ly (ly (de.2 ⟨Ye.dp (fun v w w' h hb=>by obtain⟨A9,c9,hv,hT⟩:=h;exact⟨A9,c9,hv,hT.aq hb⟩),(de.2 ⟨Ye.dp (fun v w w' h hb=>by obtain⟨A8,A9,c9,hv,hT⟩:=h;exact⟨A8,A9,c9,hv,hT.aq hb⟩),(de.2 ⟨Ye.dp (fun v w w' h hb=>by obtain⟨AQ,cQ,A7,c7,hv,hT⟩:=h;exact⟨AQ,cQ,A7,c7,hv,hT.aq hb⟩),(ly (de.2 ⟨Ye.dp (fun v w w' h hb=>by obtain⟨AQ,cQ,A7,c7,hT⟩:=h;exact⟨AQ,cQ,A7,c7,hT.aq hb⟩),(fun _ h=>by cases h)⟩))⟩)⟩)⟩)))))) ?_ ?_
 ·refine⟨cP fun _ _ hb _ _ _=>aU (u5.below hb) O (bE O O),cP fun _ _ hb _ _ _=>bh (u5.below hb) O (bE O O),cP fun _ _ hb _ _ _=>aU (u5.below hb) O (bE O O),cP fun _ _ hb _ _ _=>bh (u5.below hb) O (bE O O),aP fun _ _=>bc O O (bE O O),?_,?_,?_,?_,?_,au⟩
  ·refine cP fun e1 w1 hb hp aW hq=>?_
   refine aQ (aff (i+1) _ (by omega)) O ?_;rintro _ w9 ⟨A7,c7,rfl,iV⟩;exact ao.n (fN.dn O iV.below ⟨A7,c7,O,(hT.aq hb).call iV⟩)
  ·refine cP fun e1 w1 hb hp aW hq=>?_
   obtain⟨A7,c7,Ex,pZ⟩:=(hp 5 _ _ (by kernel_rfl) rfl rfl (by kernel_rfl));refine kV (St.refl _) (by exact Ex) O O ?_;intro A8 w9 iV;exact ao.n (fN.dn O iV.below ⟨A8,A7,c7,O,pZ.call iV⟩)
  ·refine kG fun e1 w1 hb hp aW hq=>?_
   obtain⟨A8,A7,c7,CN,pZ⟩:=(hp 6 _ _ (by kernel_rfl) rfl rfl (by kernel_rfl));refine lA 4 pZ O (pZ.fG 0 O) O (by exact CN) O (by omega) (by omega) O ?_;intro AQ cQ wZ hZ;exact ao.n (fY.dn O ⟨AQ,cQ,A7,c7,O,hZ.tail⟩)
  ·intro e1 w1 cc eZ dt fQ hp aW hq;show ao _ _ _ _ _ _ _;have hX:Rd w1 A4 3 (fun q=> [Value.int .i64 (d:Int),.slice X (i+1) cX,.slice Y (i+1) cY].getD q undef):=by { have dt:=qn dt (b:=1) (by kernel_rfl);rcases(show cc=0\/cc=1 by omega)with h | h; { exact Rd.below u5 (fQ h) }; { subst h;obtain⟨AQ,cQ,A7,c7,_,Al⟩:=hq 7 _ _ (by kernel_rfl) (by kernel_rfl) (by kernel_rfl) rfl rfl (by kernel_rfl);exact Al.rd 1 rfl } }
   refine aU hX O (ao.n (iN O (by exact O)))
  refine rU 1 fun e1 w1 hp aW hq=>?_
  have eN:=hp 7 _ _ (by kernel_rfl) O O (by kernel_rfl);obtain⟨AQ,cQ,A7,c7,Rt,Al⟩:=eN;refine kF 1 Al O O (by exact Rt) O O ?_;intro dZ Ag;exact ao.n (fY.st O ⟨AQ,cQ,A7,c7,Ag⟩)
 intro u lS _ hu _ _;obtain⟨AQ,cQ,A7,c7,si⟩:=hu 9 _ rfl (by kernel_rfl);clear hT u5;have si:=si.perm (U6 _ _ _ _ _);rw [<-o9 (by rw [xK,Cl])]at si;have R5:=Rd.below fR si.below;refine FM (F:=[(2,.pointer A2),(3,.pointer A3),(4,.pointer A4)]) (amz O) (jW O (aU (si.rd 0 O) O (amv (j:=1) (si.rd 0 O) (by exact aF Value.pointer O) O O O O (aU R5 O (iy (j:=0) R5 (by exact aF Value.pointer O) O O O O (eS si O O O ?_))))));intro A9 rB xj;refine fk 2 xj O (xj.bz 0 O) O O O fun AZ cZ uK EI=>aU (EI.rd 1 O) O (kF 1 (j:=1) EI O O O O O ?_);intro pK Ah;have Ah:=Ah.tail;have Aj:St w5 pK (rW A4 d AZ (i+2) cZ AQ (i+2) cQ::ax 2 AZ (i+2) cZ (gU d R)::(aL 34 2 AQ (i+2) cQ (ys++ [⟨A7,i+1,c7⟩]) (kY i B)++ [])):=Ah;have jZ:=(aY.call Aj).perm nT;refine ar O (ao.dq 2 (Aj.rd 0 O) O O O (bO 3 1 jZ O O O O O O O ?_));intro yd oK;refine bI O (ij O (oK.rd 1 O) ?_);refine⟨AZ,cZ,AQ,cQ,ys++ [⟨A7,i+1,c7⟩],O,by simp [xK],oK.sub (show List.Sublist _ (_::_::_::_::((aL 34 2 AD i cD dv B++ [])++ (rW A4 d AZ (i+2) cZ AQ (i+2) cQ::_))) from((((((kU _).cons _).trans (iQ _ _)).cons _).cons _).cons _).cons _)⟩
end
section
section
variable (m1 m2:Nat) (rk1 rk2:Int->Int) (kind:Int)
def sM(i:Int)(a:Int)(b:Nat):List (Int×Int):=((bS b).filter fun b=>decide (dd rk1 rk2 kind (a,b)=i/\¬qz m1 m2 kind (a,b))).map fun b=> (a,b)
def gM(i a b:Nat):List (Int×Int):=ck m1 m2 rk1 rk2 kind i++ ((bS a).flatMap (fun a=>sM m1 m2 rk1 rk2 kind i a m2)++sM m1 m2 rk1 rk2 kind i (a:Int) b)
end
section
variable {m1 m2:Nat} {rk1 rk2:Int->Int} {kind:Int} {i a b:Nat}
theorem I6:gM m1 m2 rk1 rk2 kind i 0 0=ck m1 m2 rk1 rk2 kind i:=by simp [gM,sM,bS]
theorem ail:gM m1 m2 rk1 rk2 kind i (a+1) 0=gM m1 m2 rk1 rk2 kind i a m2:=by
 unfold gM;rw [vB,List.flatMap_append];simp [sM,bS]
theorem aik:gM m1 m2 rk1 rk2 kind i m1 0=gM m1 m2 rk1 rk2 kind (i+1) 0 0:=by
 rw [I6];unfold gM;rw [ck]
 congr 1
 have:sM m1 m2 rk1 rk2 kind (i:Int) (m1:Int) 0=[]:=O;rw [this,fj]
 rfl
theorem aij(h:dd rk1 rk2 kind ((a:Int),(b:Int))=i/\¬qz m1 m2 kind ((a:Int),(b:Int))):gM m1 m2 rk1 rk2 kind i a (b+1)=gM m1 m2 rk1 rk2 kind i a b++ [((a:Int),(b:Int))]:=by
 unfold gM;have e:sM m1 m2 rk1 rk2 kind (i:Int) (a:Int) (b+1)=sM m1 m2 rk1 rk2 kind (i:Int) (a:Int) b++ [((a:Int),(b:Int))]:=by
  unfold sM;rw [vB,rJ,iD,zL (by simpa using h)];rfl
 rw [e,<-gx,<-gx,<-gx]
theorem aim(h:¬(dd rk1 rk2 kind ((a:Int),(b:Int))=i/\¬qz m1 m2 kind ((a:Int),(b:Int)))):gM m1 m2 rk1 rk2 kind i a (b+1)=gM m1 m2 rk1 rk2 kind i a b:=by
 unfold gM;have e:sM m1 m2 rk1 rk2 kind (i:Int) (a:Int) (b+1)=sM m1 m2 rk1 rk2 kind (i:Int) (a:Int) b:=by
  unfold sM;rw [vB,rJ,iD,wO (by simpa using h)];simp
 rw [e]
theorem Vj:∀ {k j:Nat},j<=k->(ck m1 m2 rk1 rk2 kind j).length<=(ck m1 m2 rk1 rk2 kind k).length
 | 0,j,h=>by
  obtain rfl:j=0:=by omega
  exact bs _
 | k+1,j,h=>by
  by_cases e:j=k+1
  ·subst e;exact bs _
  ·have:=Vj (k:=k) (j:=j) (by omega);rw [ck,b8];omega
theorem Vw(i a:Int)(b:Nat):(sM m1 m2 rk1 rk2 kind i a b).length<=b:=by
 unfold sM;rw [fO];refine nU (rL _ _) ?_;rw [bS,fO,qB];exact bs _
theorem Vv(i:Int):∀a:Nat,((bS a).flatMap (fun a=>sM m1 m2 rk1 rk2 kind i a m2)).length<=a*m2
 | 0=>by simp [bS]
 | a+1=>by
  have h1:=Vv i a;have h2:=Vw (m1:=m1) (m2:=m2) (rk1:=rk1) (rk2:=rk2) (kind:=kind) i (a:Int) m2;rw [vB,List.flatMap_append,b8,Nat.succ_mul];simp only [List.flatMap_cons,List.flatMap_nil,fj];omega
theorem aii(h:(ck m1 m2 rk1 rk2 kind i).length<=500)(hb:b<=m2):(gM m1 m2 rk1 rk2 kind i a b).length<=500+ (a*m2+b):=by
 unfold gM;have h1:=Vv (m1:=m1) (m2:=m2) (rk1:=rk1) (rk2:=rk2) (kind:=kind) (i:Int) a;have h2:=Vw (m1:=m1) (m2:=m2) (rk1:=rk1) (rk2:=rk2) (kind:=kind) (i:Int) (a:Int) b;rw [b8,b8];omega
end
end
section
open Go.RowKit
variable{w w' w0:aa}{N cx cy d q p i:Nat}{ys:List aO}{B BL M K xs:ah}{k kind:Int}
structure vH(w:aa)(X8:aj)(X:ai)(N:Nat)(Y8:aj)(ys:List aO)(B:ah):Prop where
 len:X.length=N+2
 pe:N<=500
 rk:cg w X8 (N+2) X
 bl:bF w Y8 (N+2) ys (kY N B)
 bd:∀e:Int,0<=e->e< (N:Int)->(gl B e).length<=500/\∀d∈gl B e,0<=d/\d< (N:Int)
theorem vH.aq{X8:aj}{X:ai}{Y8:aj}(h:vH w X8 X N Y8 ys B)(hb:Below w.heap.size w w'):vH w' X8 X N Y8 ys B:=⟨h.len,h.pe,h.rk.aq hb,h.bl.aq hb,h.bd⟩
def Jt(k:Nat)(RL:ai)(BL:ah)(w:aa)(v:ad)(w':aa):Prop:=((5<k\/500<RL.length)/\v= .tuple #[.agg #[ak 0,.slice none 0 0,.slice none 0 0],.bool false]/\St w w' [])\/((k<=5/\RL.length<=500)/\∃AR c AD d rs,v= .tuple #[.agg #[ak k,.slice AR RL.length c,.slice AD RL.length d],.bool true]/\rs.length=RL.length/\BL.length=RL.length/\St w w' (ax 2 AR RL.length c RL::(aL 34 2 AD RL.length d rs BL++ [])))
abbrev ru(bH cn fJ AR:aj)(dE iF cR:Nat)(L:List (Int×Int))(rk:Int×Int->Int)(k:Int)(KK:List Ck):List Ck:=
 ax 2 bH L.length dE (L.map Prod.fst)::ax 2 cn L.length iF (L.map Prod.snd)::bD fJ k AR L.length cR none 0 0::ax 2 AR L.length cR (L.map rk)::KK
abbrev FP(bH cn fJ AR AD:aj)(dE iF cR cD e:Nat)(L:List (Int×Int))(rk:Int×Int->Int)(k:Int)(A6 A4 A3:aj)(v4 v3:List ad)(dv:List aO)(B:ah):List Ck:=
 ax 2 bH L.length dE (L.map Prod.fst)::ax 2 cn L.length iF (L.map Prod.snd)::bD fJ k AR L.length cR AD e cD::ax 2 AR L.length cR (L.map rk)::bD A6 0 none 0 0 none 0 0::Bx 175 3 A4 v4::Bx 175 3 A3 v3::(aL 34 2 AD e cD dv B++ [])
theorem ahx{α:Type}(b m q1 q2 q3 q4 q5 q6 q7:α)(X:List α):(b::q1::q2::q3::q4::q5::q6::q7::m::(X++ [])).Perm (q1::q2::q3::q4::q5::q6::q7::m::((X++ [b])++ [])):=by
 classical
 refine jA.2 fun z=>?_
 simp only [lu,jz,kC];omega
theorem ahC{α:Type}(a b c d:α)(X:List α):(a::b::c::d::X).Perm (d::c::b::a::X):=by
 classical
 refine jA.2 fun z=>?_
 simp only [jz];omega
theorem afw(X8 Z8 Y8 W8:aj)(cx cz cy cw:Nat)(N1 N2:Nat)(X1 X2:ai)(vF wK:List aO)(B1 B2:ah)(n1 n2 kind:Int)(k:Nat)(w:aa)(nv:vH w X8 X1 N1 Y8 vF B1)(od:vH w Z8 X2 N2 W8 wK B2)(yC:fK (N1+2) n1 (gi X1) (eX N1 B1))(yD:fK (N2+2) n2 (gi X2) (eX N2 B2))(hk:0<=kind/\kind<=2)(iM:(k:Int)=iC n1 n2 kind)(sB:n1<=5)(Dc:n2<=5):
 aK prog 236 [.agg #[ak n1,.slice X8 (N1+2) cx,.slice Y8 (N1+2) cy],.agg #[ak n2,.slice Z8 (N2+2) cz,.slice W8 (N2+2) cw],ak kind] w (Jt k ((ck (N1+2) (N2+2) (gi X1) (gi X2) kind k).map (dd (gi X1) (gi X2) kind)) (pG (eX N1 B1) (eX N2 B2) (ck (N1+2) (N2+2) (gi X1) (gi X2) kind k)) w):=by
 have dF:=nv.pe;have eM:=od.pe;have ka:=nv.len;have qk:=od.len;have ac2:=yC.n0;have ac4:=yD.n0;have E1:(k:Int)=n1+n2+ (if kind=0 then 1 else 0):=by rw [iM];unfold iC;split<;>omega
 refine bA func236 O ntmps236 O (tD O O) (bg O (nV (St.refl w) O O ?_));intro A3 w1 aI;refine nV aI O O fun A4 w2 aE=>nj aE O ?_;intro A6 w3 aR;have wj:=aR.rd 2 O;have wk:=aR.rd 1 O;refine ar O (aU wj O (iy (j:=0) wj (by exact aF Value.pointer O) O O O O (aU wk O (iy (j:=0) wk (by exact aF Value.pointer O) O O O O ?_))));refine aH O (DY 0 O ?_);refine tN (α:=Unit) (fun _=> [(2,ak kind),(3,.pointer A3),(4,.pointer A4),(6,.pointer A6),(8,ak k),(9,ak 1)]) (fun _ w'=>w'=w3) ?_ ?_
 ·refine bJ O (aM _ O (fun h1=>?_) (fun h1=>?_))
  ·refine aA O (aH O (aT O (tQ ?_)));exact⟨(),⟨O,O,O,O,aF (Value.int .i64) (by rw [E1,aB h1]),O,au⟩,O⟩
  refine nS O (tQ ?_);exact⟨(),⟨O,O,O,O,aF (Value.int .i64) (by rw [E1,az h1,Int.add_zero]),O,au⟩,O⟩
 rintro _ e w4 rfl;refine tN (α:=Unit) (fun _=> [(2,ak kind),(3,.pointer A3),(4,.pointer A4),(6,.pointer A6),(8,ak k),(9,ak (fe kind))]) (fun _ w'=>w'=w4) ?_ ?_
 ·refine bJ O (aM _ O (fun h1=>?_) (fun h1=>?_))
  ·refine nS O (tQ ?_);exact⟨(),⟨O,O,O,O,O,congrArg (Value.int .i64) (by unfold fe;rw [if_pos h1]),trivial⟩,O⟩
  refine nS O (tQ ?_);exact⟨(),⟨O,O,O,O,O,congrArg (Value.int .i64) (by unfold fe;rw [if_neg h1]),trivial⟩,O⟩
 rintro _ e w5 rfl;refine dw O (aM _ O (fun h1=>?_) (fun h1=>?_))
 ·refine aA O (BV (by exact inferInstance) (by exact inferInstance) (by exact inferInstance) O (bO 3 0 aR O O O O O O O ?_));intro w7 bG;refine bI O (kb O (bG.rd 0 O) O ?_);exact .inl ⟨.inl (by omega),O,bG.none⟩
 have L2:k<=5:=by omega
 obtain⟨KK,sf⟩:∃KK:List Ck,KK=[bD A6 0 none 0 0 none 0 0,Bx 175 3 A4 [ak n2,.slice Z8 (N2+2) cz,.slice W8 (N2+2) cw],Bx 175 3 A3 [ak n1,.slice X8 (N1+2) cx,.slice Y8 (N1+2) cy]]:=⟨_,rfl⟩;have aR:St w w5 KK:=by rw [sf];exact aR
 refine aA O (jn aR O ?_);intro bH w6 bk;refine jn bk O fun cn w7 bG=>ar O (Gj (by exact inferInstance) (by exact inferInstance) (by exact inferInstance) O O O O O O (nj bG O ?_));intro fJ w8 b6;refine ar O (bO 3 0 b6 O O O O O O O ?_);intro w9 bL;have bL:St w w9 (ru bH cn fJ none 0 0 0 (gM (N1+2) (N2+2) (gi X1) (gi X2) kind 0 0 0) (dd (gi X1) (gi X2) kind) k KK):=by
  have h9:=bL.nil 2;rw [I6];exact h9.perm (ahC _ _ _ _ _)
 clear b6 bG bk;have qh:∀ {w':aa} {ks:List Ck},St w w' (ks++KK)->Rd w' A3 3 (fun j=> [Value.int .i64 n1,.slice X8 (N1+2) cx,.slice Y8 (N1+2) cy].getD j undef):=fun h=>by
  have h9:=h.sub (iQ _ _);rw [sf]at h9;exact h9.rd 2 O
 have tv:∀ {w':aa} {ks:List Ck},St w w' (ks++KK)->Rd w' A4 3 (fun j=> [Value.int .i64 n2,.slice Z8 (N2+2) cz,.slice W8 (N2+2) cw].getD j undef):=fun h=>by
  have h9:=h.sub (iQ _ _);rw [sf]at h9;exact h9.rd 1 O
 have Bf:∀a:Nat,a<=N1+2->a* (N2+2)<=502*502:=fun a h=>Nat.mul_le_mul (by omega) (by omega)
 refine aC O (Cd.loop (α:=Nat×(aj×Nat)×(aj×Nat)×(aj×Nat)) (fun z=> [(2,ak kind),(3,.pointer A3),(4,.pointer A4),(6,.pointer A6),(8,ak k),(9,ak (fe kind)),(12,.pointer fJ),(10,.slice z.2.1.1 (gM (N1+2) (N2+2) (gi X1) (gi X2) kind z.1 0 0).length z.2.1.2),(11,.slice z.2.2.1.1 (gM (N1+2) (N2+2) (gi X1) (gi X2) kind z.1 0 0).length z.2.2.1.2),(13,ak (z.1:Int))]) (fun z w'=>z.1<=k/\(ck (N1+2) (N2+2) (gi X1) (gi X2) kind z.1).length<=500/\St w w' (ru z.2.1.1 z.2.2.1.1 fJ z.2.2.2.1 z.2.1.2 z.2.2.1.2 z.2.2.2.2 (gM (N1+2) (N2+2) (gi X1) (gi X2) kind z.1 0 0) (dd (gi X1) (gi X2) kind) k KK)) (fun z=>k - z.1) (0,(bH,0),(cn,0),(none,0)) (amz O) ⟨aZ _,aZ _,bL⟩ ?_);clear bL;rintro⟨i,⟨bH,dE⟩,⟨cn,iF⟩,⟨AR,cR⟩⟩ e dV ⟨hi,hlen,hS⟩;dsimp only at hi hlen hS|-;refine bJ O (aM _ O (fun h2=>?_) (fun h2=>?_))
 ·have mQ:i<k:=by omega
  refine dw O (Cd.loop (α:=Nat×(aj×Nat)×(aj×Nat)×(aj×Nat)) (fun z=> [(2,ak kind),(3,.pointer A3),(4,.pointer A4),(6,.pointer A6),(8,ak k),(9,ak (fe kind)),(12,.pointer fJ),(10,.slice z.2.1.1 (gM (N1+2) (N2+2) (gi X1) (gi X2) kind i z.1 0).length z.2.1.2),(11,.slice z.2.2.1.1 (gM (N1+2) (N2+2) (gi X1) (gi X2) kind i z.1 0).length z.2.2.1.2),(13,ak i),(14,ak (z.1:Int))]) (fun z w'=>z.1<=N1+2/\St w w' (ru z.2.1.1 z.2.2.1.1 fJ z.2.2.2.1 z.2.1.2 z.2.2.1.2 z.2.2.2.2 (gM (N1+2) (N2+2) (gi X1) (gi X2) kind i z.1 0) (dd (gi X1) (gi X2) kind) k KK)) (fun z=>N1+2 - z.1) (0,(bH,dE),(cn,iF),(AR,cR)) (amz O) ⟨aZ _,hS⟩ ?_);clear hS;rintro⟨a,⟨bH,dE⟩,⟨cn,iF⟩,⟨AR,cR⟩⟩ e dZ ⟨ha,hS⟩;dsimp only at ha hS|-;have K0:=qh (ks:=[_,_,_,_]) hS;refine bg O (aU K0 O (amv (j:=1) K0 (by exact aF Value.pointer O) O O O O ?_));refine bc O O (aC O ?_);refine aM _ O (fun h3=>?_) (fun h3=>?_)
  ·have CY:a<N1+2:=by omega
   have hsqa:=Bf a (by omega);refine dw O (Cd.loop (α:=Nat×(aj×Nat)×(aj×Nat)×(aj×Nat)) (fun z=> [(2,ak kind),(3,.pointer A3),(4,.pointer A4),(6,.pointer A6),(8,ak k),(9,ak (fe kind)),(12,.pointer fJ),(10,.slice z.2.1.1 (gM (N1+2) (N2+2) (gi X1) (gi X2) kind i a z.1).length z.2.1.2),(11,.slice z.2.2.1.1 (gM (N1+2) (N2+2) (gi X1) (gi X2) kind i a z.1).length z.2.2.1.2),(13,ak i),(14,ak a),(15,ak (z.1:Int))]) (fun z w'=>z.1<=N2+2/\St w w' (ru z.2.1.1 z.2.2.1.1 fJ z.2.2.2.1 z.2.1.2 z.2.2.1.2 z.2.2.2.2 (gM (N1+2) (N2+2) (gi X1) (gi X2) kind i a z.1) (dd (gi X1) (gi X2) kind) k KK)) (fun z=>N2+2 - z.1) (0,(bH,dE),(cn,iF),(AR,cR)) (amz O) ⟨aZ _,hS⟩ ?_);clear hS K0;rintro⟨b,⟨bH,dE⟩,⟨cn,iF⟩,⟨AR,cR⟩⟩ e fg ⟨hb,hS⟩;dsimp only at hb hS|-;have lj:=qh (ks:=[_,_,_,_]) hS;have lG:=tv (ks:=[_,_,_,_]) hS;have hlL:=aii (a:=a) hlen hb;refine bg O (aU lG O (amv (j:=1) lG (by exact aF Value.pointer O) O O O O ?_));refine bc O O (aC O ?_);refine aM _ O (fun h4=>?_) (fun h4=>?_)
   ·have HI:b<N2+2:=by omega
    have kO:=(nv.aq hS.below).rk;have lq:=(od.aq hS.below).rk;have ga:=yC.gO (a:=(a:Int)) (by omega);have gb:=yD.gO (a:=(b:Int)) (by omega);have gs0:0<=fe kind/\fe kind<=1:=by unfold fe;split<;>omega
    have js:dd (gi X1) (gi X2) kind ((a:Int),(b:Int))=gi X1 a+gi X2 b+fe kind:=O;have fF:=aim (m1:=N1+2) (m2:=N2+2) (rk1:=gi X1) (rk2:=gi X2) (kind:=kind) (i:=i) (a:=a) (b:=b);have mn:=aij (m1:=N1+2) (m2:=N2+2) (rk1:=gi X1) (rk2:=gi X2) (kind:=kind) (i:=i) (a:=a) (b:=b);have hex:qz (N1+2) (N2+2) kind ((a:Int),(b:Int))↔((kind=1/\((a:Int)=0\/(b:Int)=0))\/(kind=2/\((a:Int)=((N1+2:Nat):Int) - 1\/(b:Int)=((N2+2:Nat):Int) - 1))):=Iff.rfl;have EN:(gi X1 a+gi X2 b+fe kind≠(i:Int))\/(gi X1 a+gi X2 b+fe kind=(i:Int)/\((kind=1/\(a:Int)=0)\/(kind=1/\(a:Int)≠0/\(b:Int)=0)\/(kind=1/\(a:Int)≠0/\(b:Int)≠0)\/(kind=2/\(a:Int)=((N1+2:Nat):Int) - 1)\/(kind=2/\(a:Int)≠((N1+2:Nat):Int) - 1/\(b:Int)=((N2+2:Nat):Int) - 1)\/(kind=2/\(a:Int)≠((N1+2:Nat):Int) - 1/\(b:Int)≠((N2+2:Nat):Int) - 1)\/kind=0)):=by omega
    rcases EN with q1 | ⟨q1,⟨k1,p1⟩ | ⟨k1,p1,p2⟩ | ⟨k1,p1,p2⟩ | ⟨k1,p1⟩ | ⟨k1,p1,p2⟩ | ⟨k1,p1,p2⟩ | k1⟩
    ·
     refine dw O ?_;refine eo [xP (ay (A3) 1),xS (X8) (N1+2) (cx),xI ((a:Int)),xP (ay (X8) ((a:Int)).toNat),xI (gi (X1) ((a:Int))),xP (ay (A4) 1),xS (Z8) (N2+2) (cz),xI ((b:Int)),xP (ay (Z8) ((b:Int)).toNat),xI (gi (X2) ((b:Int))),xI ((gi (X1) ((a:Int)))+ (gi (X2) ((b:Int)))),xI ((fe kind)),xI (((gi (X1) ((a:Int)))+ (gi (X2) ((b:Int))))+ ((fe kind))),xI ((i:Int)),xB (decide (¬(((gi (X1) ((a:Int)))+ (gi (X2) ((b:Int))))+ ((fe kind)))=((i:Int)))),xB (true),xU,xU,xU,xU,xU,xU,xU,xU,xU,xU,xB (true),xB (true),xU,xU,xU,xU,xU,xU,xU,xU,xU,xU,xU,xU,xU,xU,xU,xU,xU,xU,xB (true)] O (eL O) ?_ ?_
     ·exact⟨fun _ _ hb _ _=>aU (lj.below hb) O Az,fun _ _ hb _ _=>bh (lj.below hb) O Az,Dr O,fun _ _ hb _ _=>aD (kO.aq hb).2 O Az,fun _ _ hb _ _=>a8 (kO.aq hb) O Az,fun _ _ hb _ _=>aU (lG.below hb) O Az,fun _ _ hb _ _=>bh (lG.below hb) O Az,Dr O,fun _ _ hb _ _=>aD (lq.aq hb).2 O Az,fun _ _ hb _ _=>a8 (lq.aq hb) O Az,fun _ _ _ _ _=>aH O Az,Dr O,fun _ _ _ _ _=>aH O Az,Dr O,Dr O,fun _ _ _ _ _=>Dk O (by exact aF Value.bool (dM q1)),Dr O,Dr O,Dr O,Dr O,Dr O,Dr O,Dr O,Dr O,Dr O,Dr O,Dr O,fun _ _ _ _ _=>Dk O (by exact aF Value.bool (O)),Dr O,Dr O,Dr O,Dr O,Dr O,Dr O,Dr O,Dr O,Dr O,Dr O,Dr O,Dr O,Dr O,Dr O,Dr O,Dr O,Dr O,Dr O,Dr O,au⟩
     intro u gj qP _;have hS:=hS.aq qP;refine eP O (Cd.gC O ?_);have fF:=fF (fun h=>q1 (by rw [js]at h;exact h.1));refine aA O (aH O (aT O (tQ ?_)));exact⟨(b+1,(bH,dE),(cn,iF),(AR,cR)),by show N2+2 - (b+1)<N2+2 - b;omega,⟨O,O,O,O,O,O,O,aF (fun L:List (Int×Int)=>Value.slice bH L.length dE) fF.symm,aF (fun L:List (Int×Int)=>Value.slice cn L.length iF) fF.symm,O,O,O,au⟩,by show b+1<=N2+2;omega,by show St w gj (ru bH cn fJ AR dE iF cR (gM _ _ _ _ kind i a (b+1)) _ k KK);rw [fF];exact hS⟩
    ·refine dw O ?_;refine eo [xP (ay (A3) 1),xS (X8) (N1+2) (cx),xI ((a:Int)),xP (ay (X8) ((a:Int)).toNat),xI (gi (X1) ((a:Int))),xP (ay (A4) 1),xS (Z8) (N2+2) (cz),xI ((b:Int)),xP (ay (Z8) ((b:Int)).toNat),xI (gi (X2) ((b:Int))),xI ((gi (X1) ((a:Int)))+ (gi (X2) ((b:Int)))),xI ((fe kind)),xI (((gi (X1) ((a:Int)))+ (gi (X2) ((b:Int))))+ ((fe kind))),xI ((i:Int)),xB (decide (¬(((gi (X1) ((a:Int)))+ (gi (X2) ((b:Int))))+ ((fe kind)))=((i:Int)))),xB (false),xI (kind),xB (decide ((kind)=((1:Int)))),xB (true),xI ((a:Int)),xB (decide (((a:Int))=((0:Int)))),xB (true),xU,xU,xB (true),xB (true),xB (true),xB (true),xU,xU,xU,xU,xU,xU,xU,xU,xU,xU,xU,xU,xU,xU,xU,xU,xU,xU,xB (true)] O (eL O) ?_ ?_
     ·exact⟨fun _ _ hb _ _=>aU (lj.below hb) O Az,fun _ _ hb _ _=>bh (lj.below hb) O Az,Dr O,fun _ _ hb _ _=>aD (kO.aq hb).2 O Az,fun _ _ hb _ _=>a8 (kO.aq hb) O Az,fun _ _ hb _ _=>aU (lG.below hb) O Az,fun _ _ hb _ _=>bh (lG.below hb) O Az,Dr O,fun _ _ hb _ _=>aD (lq.aq hb).2 O Az,fun _ _ hb _ _=>a8 (lq.aq hb) O Az,fun _ _ _ _ _=>aH O Az,Dr O,fun _ _ _ _ _=>aH O Az,Dr O,Dr O,fun _ _ _ _ _=>Dk O (by exact aF Value.bool (cj (fun h=>h q1))),Dr O,Dr O,fun _ _ _ _ _=>Dk O (by exact aF Value.bool (dM k1)),Dr O,Dr O,fun _ _ _ _ _=>Dk O (by exact aF Value.bool (dM p1)),Dr O,Dr O,Dr O,Dr O,Dr O,fun _ _ _ _ _=>Dk O (by exact aF Value.bool (O)),Dr O,Dr O,Dr O,Dr O,Dr O,Dr O,Dr O,Dr O,Dr O,Dr O,Dr O,Dr O,Dr O,Dr O,Dr O,Dr O,Dr O,Dr O,Dr O,au⟩
     intro u gj qP _;have hS:=hS.aq qP;refine eP O (Cd.gC O ?_);have fF:=fF (fun h=>h.2 (hex.2 (.inl ⟨k1,.inl p1⟩)));refine aA O (aH O (aT O (tQ ?_)));exact⟨(b+1,(bH,dE),(cn,iF),(AR,cR)),by show N2+2 - (b+1)<N2+2 - b;omega,⟨O,O,O,O,O,O,O,aF (fun L:List (Int×Int)=>Value.slice bH L.length dE) fF.symm,aF (fun L:List (Int×Int)=>Value.slice cn L.length iF) fF.symm,O,O,O,au⟩,by show b+1<=N2+2;omega,by show St w gj (ru bH cn fJ AR dE iF cR (gM _ _ _ _ kind i a (b+1)) _ k KK);rw [fF];exact hS⟩
    ·refine dw O ?_;refine eo [xP (ay (A3) 1),xS (X8) (N1+2) (cx),xI ((a:Int)),xP (ay (X8) ((a:Int)).toNat),xI (gi (X1) ((a:Int))),xP (ay (A4) 1),xS (Z8) (N2+2) (cz),xI ((b:Int)),xP (ay (Z8) ((b:Int)).toNat),xI (gi (X2) ((b:Int))),xI ((gi (X1) ((a:Int)))+ (gi (X2) ((b:Int)))),xI ((fe kind)),xI (((gi (X1) ((a:Int)))+ (gi (X2) ((b:Int))))+ ((fe kind))),xI ((i:Int)),xB (decide (¬(((gi (X1) ((a:Int)))+ (gi (X2) ((b:Int))))+ ((fe kind)))=((i:Int)))),xB (false),xI (kind),xB (decide ((kind)=((1:Int)))),xB (true),xI ((a:Int)),xB (decide (((a:Int))=((0:Int)))),xB (false),xI ((b:Int)),xB (decide (((b:Int))=((0:Int)))),xB (decide (((b:Int))=((0:Int)))),xB (decide (((b:Int))=((0:Int)))),xB (decide (((b:Int))=((0:Int)))),xB (true),xU,xU,xU,xU,xU,xU,xU,xU,xU,xU,xU,xU,xU,xU,xU,xU,xU,xU,xB (true)] O (eL O) ?_ ?_
     ·exact⟨fun _ _ hb _ _=>aU (lj.below hb) O Az,fun _ _ hb _ _=>bh (lj.below hb) O Az,Dr O,fun _ _ hb _ _=>aD (kO.aq hb).2 O Az,fun _ _ hb _ _=>a8 (kO.aq hb) O Az,fun _ _ hb _ _=>aU (lG.below hb) O Az,fun _ _ hb _ _=>bh (lG.below hb) O Az,Dr O,fun _ _ hb _ _=>aD (lq.aq hb).2 O Az,fun _ _ hb _ _=>a8 (lq.aq hb) O Az,fun _ _ _ _ _=>aH O Az,Dr O,fun _ _ _ _ _=>aH O Az,Dr O,Dr O,fun _ _ _ _ _=>Dk O (by exact aF Value.bool (cj (fun h=>h q1))),Dr O,Dr O,fun _ _ _ _ _=>Dk O (by exact aF Value.bool (dM k1)),Dr O,Dr O,fun _ _ _ _ _=>Dk O (by exact aF Value.bool (cj p1)),Dr O,Dr O,Dr O,Dr O,Dr O,fun _ _ _ _ _=>Dk O (by exact aF Value.bool (dM p2)),Dr O,Dr O,Dr O,Dr O,Dr O,Dr O,Dr O,Dr O,Dr O,Dr O,Dr O,Dr O,Dr O,Dr O,Dr O,Dr O,Dr O,Dr O,Dr O,au⟩
     intro u gj qP _;have hS:=hS.aq qP;refine eP O (Cd.gC O ?_);have fF:=fF (fun h=>h.2 (hex.2 (.inl ⟨k1,.inr p2⟩)));refine aA O (aH O (aT O (tQ ?_)));exact⟨(b+1,(bH,dE),(cn,iF),(AR,cR)),by show N2+2 - (b+1)<N2+2 - b;omega,⟨O,O,O,O,O,O,O,aF (fun L:List (Int×Int)=>Value.slice bH L.length dE) fF.symm,aF (fun L:List (Int×Int)=>Value.slice cn L.length iF) fF.symm,O,O,O,au⟩,by show b+1<=N2+2;omega,by show St w gj (ru bH cn fJ AR dE iF cR (gM _ _ _ _ kind i a (b+1)) _ k KK);rw [fF];exact hS⟩
    ·refine dw O ?_;refine eo [xP (ay (A3) 1),xS (X8) (N1+2) (cx),xI ((a:Int)),xP (ay (X8) ((a:Int)).toNat),xI (gi (X1) ((a:Int))),xP (ay (A4) 1),xS (Z8) (N2+2) (cz),xI ((b:Int)),xP (ay (Z8) ((b:Int)).toNat),xI (gi (X2) ((b:Int))),xI ((gi (X1) ((a:Int)))+ (gi (X2) ((b:Int)))),xI ((fe kind)),xI (((gi (X1) ((a:Int)))+ (gi (X2) ((b:Int))))+ ((fe kind))),xI ((i:Int)),xB (decide (¬(((gi (X1) ((a:Int)))+ (gi (X2) ((b:Int))))+ ((fe kind)))=((i:Int)))),xB (false),xI (kind),xB (decide ((kind)=((1:Int)))),xB (true),xI ((a:Int)),xB (decide (((a:Int))=((0:Int)))),xB (false),xI ((b:Int)),xB (decide (((b:Int))=((0:Int)))),xB (decide (((b:Int))=((0:Int)))),xB (decide (((b:Int))=((0:Int)))),xB (decide (((b:Int))=((0:Int)))),xB (false),xI (kind),xB (decide ((kind)=((2:Int)))),xB (false),xU,xU,xU,xU,xU,xU,xU,xU,xU,xU,xU,xU,xU,xU,xB (false),xB (false)] O (eL O) ?_ ?_
     ·exact⟨fun _ _ hb _ _=>aU (lj.below hb) O Az,fun _ _ hb _ _=>bh (lj.below hb) O Az,Dr O,fun _ _ hb _ _=>aD (kO.aq hb).2 O Az,fun _ _ hb _ _=>a8 (kO.aq hb) O Az,fun _ _ hb _ _=>aU (lG.below hb) O Az,fun _ _ hb _ _=>bh (lG.below hb) O Az,Dr O,fun _ _ hb _ _=>aD (lq.aq hb).2 O Az,fun _ _ hb _ _=>a8 (lq.aq hb) O Az,fun _ _ _ _ _=>aH O Az,Dr O,fun _ _ _ _ _=>aH O Az,Dr O,Dr O,fun _ _ _ _ _=>Dk O (by exact aF Value.bool (cj (fun h=>h q1))),Dr O,Dr O,fun _ _ _ _ _=>Dk O (by exact aF Value.bool (dM k1)),Dr O,Dr O,fun _ _ _ _ _=>Dk O (by exact aF Value.bool (cj p1)),Dr O,Dr O,Dr O,Dr O,Dr O,fun _ _ _ _ _=>Dk O (by exact aF Value.bool (cj p2)),Dr O,Dr O,fun _ _ _ _ _=>Dk O (by exact aF Value.bool (cj (by omega))),Dr O,Dr O,Dr O,Dr O,Dr O,Dr O,Dr O,Dr O,Dr O,Dr O,Dr O,Dr O,Dr O,Dr O,Dr O,Dr O,au⟩
     intro u gj qP _;have hS:=hS.aq qP;refine eP O (Cd.fC O ?_);have mn:=mn ⟨by rw [js];exact q1,fun h=>by have:=hex.1 h;omega⟩;have om:(gM (N1+2) (N2+2) (gi X1) (gi X2) kind i a (b+1)).length=(gM (N1+2) (N2+2) (gi X1) (gi X2) kind i a b).length+1:=by rw [mn,b8];rfl
     refine aA O (eS hS O O O ?_);intro OE lS iT;refine fk 1 iT O (iT.bz 0 O) O O O ?_;intro AZ cZ rB im;have im:=im.tail;refine ar O (eS im O O O ?_);intro OG uK jY;refine fk 2 jY O (jY.bz 0 O) O O O ?_;intro AQ cQ pK gn;have gn:=gn.tail;refine ar O (aU (gn.rd 2 O) O (amv (j:=1) (gn.rd 2 O) (by exact aF Value.pointer O) O O O O (ar O (eS gn O O O ?_))));intro OH yd jZ;refine fk 4 jZ O (jZ.bz 0 O) O O O fun AW cW F4 oK=>aU (oK.rd 3 O) O (kF 3 (j:=1) oK O O O O O ?_);intro wJ qM;have qM:=qM.tail;refine ar O (aH O (aT O (tQ ?_)));refine⟨(b+1,(AZ,cZ),(AQ,cQ),(AW,cW)),by show N2+2 - (b+1)<N2+2 - b;omega,⟨O,O,O,O,O,O,O,aF (fun m:Nat=>Value.slice AZ m cZ) om.symm,aF (fun m:Nat=>Value.slice AQ m cQ) om.symm,O,O,O,au⟩,by show b+1<=N2+2;omega,?_⟩;show St w wJ (ru AZ AQ fJ AW cZ cQ cW (gM _ _ _ _ kind i a (b+1)) _ k KK);unfold ru;rw [om,mn,iD,iD,iD];rw [show [((a:Int),(b:Int))].map (dd (gi X1) (gi X2) kind)=[(i:Int)] from aF (fun x=> [x]) (js.trans q1)];exact qM
    ·refine dw O ?_;refine eo [xP (ay (A3) 1),xS (X8) (N1+2) (cx),xI ((a:Int)),xP (ay (X8) ((a:Int)).toNat),xI (gi (X1) ((a:Int))),xP (ay (A4) 1),xS (Z8) (N2+2) (cz),xI ((b:Int)),xP (ay (Z8) ((b:Int)).toNat),xI (gi (X2) ((b:Int))),xI ((gi (X1) ((a:Int)))+ (gi (X2) ((b:Int)))),xI ((fe kind)),xI (((gi (X1) ((a:Int)))+ (gi (X2) ((b:Int))))+ ((fe kind))),xI ((i:Int)),xB (decide (¬(((gi (X1) ((a:Int)))+ (gi (X2) ((b:Int))))+ ((fe kind)))=((i:Int)))),xB (false),xI (kind),xB (decide ((kind)=((1:Int)))),xB (false),xU,xU,xU,xU,xU,xU,xB (false),xB (false),xB (false),xI (kind),xB (decide ((kind)=((2:Int)))),xB (true),xI ((a:Int)),xP (ay (A3) 1),xS (X8) (N1+2) (cx),xI (((N1+2:Nat):Int)),xI ((((N1+2:Nat):Int)) - ((1:Int))),xB (decide (((a:Int))=((((N1+2:Nat):Int)) - ((1:Int))))),xB (true),xU,xU,xU,xU,xU,xU,xB (true),xB (true),xB (true)] O (eL O) ?_ ?_
     ·exact⟨fun _ _ hb _ _=>aU (lj.below hb) O Az,fun _ _ hb _ _=>bh (lj.below hb) O Az,Dr O,fun _ _ hb _ _=>aD (kO.aq hb).2 O Az,fun _ _ hb _ _=>a8 (kO.aq hb) O Az,fun _ _ hb _ _=>aU (lG.below hb) O Az,fun _ _ hb _ _=>bh (lG.below hb) O Az,Dr O,fun _ _ hb _ _=>aD (lq.aq hb).2 O Az,fun _ _ hb _ _=>a8 (lq.aq hb) O Az,fun _ _ _ _ _=>aH O Az,Dr O,fun _ _ _ _ _=>aH O Az,Dr O,Dr O,fun _ _ _ _ _=>Dk O (by exact aF Value.bool (cj (fun h=>h q1))),Dr O,Dr O,fun _ _ _ _ _=>Dk O (by exact aF Value.bool (cj (by omega))),Dr O,Dr O,Dr O,Dr O,Dr O,Dr O,Dr O,Dr O,fun _ _ _ _ _=>Dk O (by exact aF Value.bool (O)),Dr O,Dr O,fun _ _ _ _ _=>Dk O (by exact aF Value.bool (dM k1)),Dr O,fun _ _ hb _ _=>av O (aU (lj.below hb) O Az),fun _ _ hb _ _=>av O (bh (lj.below hb) O Az),fun _ _ _ _ _=>av O (bc O O Az),fun _ _ _ _ _=>av O (eh O Az),Dr O,fun _ _ _ _ _=>Dk O (by exact aF Value.bool (dM p1)),Dr O,Dr O,Dr O,Dr O,Dr O,Dr O,Dr O,Dr O,Dr O,au⟩
     intro u gj qP _;have hS:=hS.aq qP;refine eP O (Cd.gC O ?_);have fF:=fF (fun h=>h.2 (hex.2 (.inr ⟨k1,.inl p1⟩)));refine aA O (aH O (aT O (tQ ?_)));exact⟨(b+1,(bH,dE),(cn,iF),(AR,cR)),by show N2+2 - (b+1)<N2+2 - b;omega,⟨O,O,O,O,O,O,O,aF (fun L:List (Int×Int)=>Value.slice bH L.length dE) fF.symm,aF (fun L:List (Int×Int)=>Value.slice cn L.length iF) fF.symm,O,O,O,au⟩,by show b+1<=N2+2;omega,by show St w gj (ru bH cn fJ AR dE iF cR (gM _ _ _ _ kind i a (b+1)) _ k KK);rw [fF];exact hS⟩
    ·refine dw O ?_;refine eo [xP (ay (A3) 1),xS (X8) (N1+2) (cx),xI ((a:Int)),xP (ay (X8) ((a:Int)).toNat),xI (gi (X1) ((a:Int))),xP (ay (A4) 1),xS (Z8) (N2+2) (cz),xI ((b:Int)),xP (ay (Z8) ((b:Int)).toNat),xI (gi (X2) ((b:Int))),xI ((gi (X1) ((a:Int)))+ (gi (X2) ((b:Int)))),xI ((fe kind)),xI (((gi (X1) ((a:Int)))+ (gi (X2) ((b:Int))))+ ((fe kind))),xI ((i:Int)),xB (decide (¬(((gi (X1) ((a:Int)))+ (gi (X2) ((b:Int))))+ ((fe kind)))=((i:Int)))),xB (false),xI (kind),xB (decide ((kind)=((1:Int)))),xB (false),xU,xU,xU,xU,xU,xU,xB (false),xB (false),xB (false),xI (kind),xB (decide ((kind)=((2:Int)))),xB (true),xI ((a:Int)),xP (ay (A3) 1),xS (X8) (N1+2) (cx),xI (((N1+2:Nat):Int)),xI ((((N1+2:Nat):Int)) - ((1:Int))),xB (decide (((a:Int))=((((N1+2:Nat):Int)) - ((1:Int))))),xB (false),xI ((b:Int)),xP (ay (A4) 1),xS (Z8) (N2+2) (cz),xI (((N2+2:Nat):Int)),xI ((((N2+2:Nat):Int)) - ((1:Int))),xB (decide (((b:Int))=((((N2+2:Nat):Int)) - ((1:Int))))),xB (decide (((b:Int))=((((N2+2:Nat):Int)) - ((1:Int))))),xB (decide (((b:Int))=((((N2+2:Nat):Int)) - ((1:Int))))),xB (decide (((b:Int))=((((N2+2:Nat):Int)) - ((1:Int)))))] O (eL O) ?_ ?_
     ·exact⟨fun _ _ hb _ _=>aU (lj.below hb) O Az,fun _ _ hb _ _=>bh (lj.below hb) O Az,Dr O,fun _ _ hb _ _=>aD (kO.aq hb).2 O Az,fun _ _ hb _ _=>a8 (kO.aq hb) O Az,fun _ _ hb _ _=>aU (lG.below hb) O Az,fun _ _ hb _ _=>bh (lG.below hb) O Az,Dr O,fun _ _ hb _ _=>aD (lq.aq hb).2 O Az,fun _ _ hb _ _=>a8 (lq.aq hb) O Az,fun _ _ _ _ _=>aH O Az,Dr O,fun _ _ _ _ _=>aH O Az,Dr O,Dr O,fun _ _ _ _ _=>Dk O (by exact aF Value.bool (cj (fun h=>h q1))),Dr O,Dr O,fun _ _ _ _ _=>Dk O (by exact aF Value.bool (cj (by omega))),Dr O,Dr O,Dr O,Dr O,Dr O,Dr O,Dr O,Dr O,fun _ _ _ _ _=>Dk O (by exact aF Value.bool (O)),Dr O,Dr O,fun _ _ _ _ _=>Dk O (by exact aF Value.bool (dM k1)),Dr O,fun _ _ hb _ _=>av O (aU (lj.below hb) O Az),fun _ _ hb _ _=>av O (bh (lj.below hb) O Az),fun _ _ _ _ _=>av O (bc O O Az),fun _ _ _ _ _=>av O (eh O Az),Dr O,fun _ _ _ _ _=>Dk O (by exact aF Value.bool (cj p1)),Dr O,fun _ _ hb _ _=>av O (aU (lG.below hb) O Az),fun _ _ hb _ _=>av O (bh (lG.below hb) O Az),fun _ _ _ _ _=>av O (bc O O Az),fun _ _ _ _ _=>av O (eh O Az),Dr O,Dr O,Dr O,Dr O,au⟩
     intro u gj qP _;have hS:=hS.aq qP;refine eP O (DU O p2 ?_);have fF:=fF (fun h=>h.2 (hex.2 (.inr ⟨k1,.inr p2⟩)));refine aA O (aH O (aT O (tQ ?_)));exact⟨(b+1,(bH,dE),(cn,iF),(AR,cR)),by show N2+2 - (b+1)<N2+2 - b;omega,⟨O,O,O,O,O,O,O,aF (fun L:List (Int×Int)=>Value.slice bH L.length dE) fF.symm,aF (fun L:List (Int×Int)=>Value.slice cn L.length iF) fF.symm,O,O,O,au⟩,by show b+1<=N2+2;omega,by show St w gj (ru bH cn fJ AR dE iF cR (gM _ _ _ _ kind i a (b+1)) _ k KK);rw [fF];exact hS⟩
    ·refine dw O ?_;refine eo [xP (ay (A3) 1),xS (X8) (N1+2) (cx),xI ((a:Int)),xP (ay (X8) ((a:Int)).toNat),xI (gi (X1) ((a:Int))),xP (ay (A4) 1),xS (Z8) (N2+2) (cz),xI ((b:Int)),xP (ay (Z8) ((b:Int)).toNat),xI (gi (X2) ((b:Int))),xI ((gi (X1) ((a:Int)))+ (gi (X2) ((b:Int)))),xI ((fe kind)),xI (((gi (X1) ((a:Int)))+ (gi (X2) ((b:Int))))+ ((fe kind))),xI ((i:Int)),xB (decide (¬(((gi (X1) ((a:Int)))+ (gi (X2) ((b:Int))))+ ((fe kind)))=((i:Int)))),xB (false),xI (kind),xB (decide ((kind)=((1:Int)))),xB (false),xU,xU,xU,xU,xU,xU,xB (false),xB (false),xB (false),xI (kind),xB (decide ((kind)=((2:Int)))),xB (true),xI ((a:Int)),xP (ay (A3) 1),xS (X8) (N1+2) (cx),xI (((N1+2:Nat):Int)),xI ((((N1+2:Nat):Int)) - ((1:Int))),xB (decide (((a:Int))=((((N1+2:Nat):Int)) - ((1:Int))))),xB (false),xI ((b:Int)),xP (ay (A4) 1),xS (Z8) (N2+2) (cz),xI (((N2+2:Nat):Int)),xI ((((N2+2:Nat):Int)) - ((1:Int))),xB (decide (((b:Int))=((((N2+2:Nat):Int)) - ((1:Int))))),xB (decide (((b:Int))=((((N2+2:Nat):Int)) - ((1:Int))))),xB (decide (((b:Int))=((((N2+2:Nat):Int)) - ((1:Int))))),xB (decide (((b:Int))=((((N2+2:Nat):Int)) - ((1:Int)))))] O (eL O) ?_ ?_
     ·exact⟨fun _ _ hb _ _=>aU (lj.below hb) O Az,fun _ _ hb _ _=>bh (lj.below hb) O Az,Dr O,fun _ _ hb _ _=>aD (kO.aq hb).2 O Az,fun _ _ hb _ _=>a8 (kO.aq hb) O Az,fun _ _ hb _ _=>aU (lG.below hb) O Az,fun _ _ hb _ _=>bh (lG.below hb) O Az,Dr O,fun _ _ hb _ _=>aD (lq.aq hb).2 O Az,fun _ _ hb _ _=>a8 (lq.aq hb) O Az,fun _ _ _ _ _=>aH O Az,Dr O,fun _ _ _ _ _=>aH O Az,Dr O,Dr O,fun _ _ _ _ _=>Dk O (by exact aF Value.bool (cj (fun h=>h q1))),Dr O,Dr O,fun _ _ _ _ _=>Dk O (by exact aF Value.bool (cj (by omega))),Dr O,Dr O,Dr O,Dr O,Dr O,Dr O,Dr O,Dr O,fun _ _ _ _ _=>Dk O (by exact aF Value.bool (O)),Dr O,Dr O,fun _ _ _ _ _=>Dk O (by exact aF Value.bool (dM k1)),Dr O,fun _ _ hb _ _=>av O (aU (lj.below hb) O Az),fun _ _ hb _ _=>av O (bh (lj.below hb) O Az),fun _ _ _ _ _=>av O (bc O O Az),fun _ _ _ _ _=>av O (eh O Az),Dr O,fun _ _ _ _ _=>Dk O (by exact aF Value.bool (cj p1)),Dr O,fun _ _ hb _ _=>av O (aU (lG.below hb) O Az),fun _ _ hb _ _=>av O (bh (lG.below hb) O Az),fun _ _ _ _ _=>av O (bc O O Az),fun _ _ _ _ _=>av O (eh O Az),Dr O,Dr O,Dr O,Dr O,au⟩
     intro u gj qP _;have hS:=hS.aq qP;refine eP O (nP O p2 ?_);have mn:=mn ⟨by rw [js];exact q1,fun h=>by have:=hex.1 h;omega⟩;have om:(gM (N1+2) (N2+2) (gi X1) (gi X2) kind i a (b+1)).length=(gM (N1+2) (N2+2) (gi X1) (gi X2) kind i a b).length+1:=by rw [mn,b8];rfl
     refine aA O (eS hS O O O ?_);intro OE lS iT;refine fk 1 iT O (iT.bz 0 O) O O O ?_;intro AZ cZ rB im;have im:=im.tail;refine ar O (eS im O O O ?_);intro OG uK jY;refine fk 2 jY O (jY.bz 0 O) O O O ?_;intro AQ cQ pK gn;have gn:=gn.tail;refine ar O (aU (gn.rd 2 O) O (amv (j:=1) (gn.rd 2 O) (by exact aF Value.pointer O) O O O O (ar O (eS gn O O O ?_))));intro OH yd jZ;refine fk 4 jZ O (jZ.bz 0 O) O O O fun AW cW F4 oK=>aU (oK.rd 3 O) O (kF 3 (j:=1) oK O O O O O ?_);intro wJ qM;have qM:=qM.tail;refine ar O (aH O (aT O (tQ ?_)));refine⟨(b+1,(AZ,cZ),(AQ,cQ),(AW,cW)),by show N2+2 - (b+1)<N2+2 - b;omega,⟨O,O,O,O,O,O,O,aF (fun m:Nat=>Value.slice AZ m cZ) om.symm,aF (fun m:Nat=>Value.slice AQ m cQ) om.symm,O,O,O,au⟩,by show b+1<=N2+2;omega,?_⟩;show St w wJ (ru AZ AQ fJ AW cZ cQ cW (gM _ _ _ _ kind i a (b+1)) _ k KK);unfold ru;rw [om,mn,iD,iD,iD];rw [show [((a:Int),(b:Int))].map (dd (gi X1) (gi X2) kind)=[(i:Int)] from aF (fun x=> [x]) (js.trans q1)];exact qM
    refine dw O ?_;refine eo [xP (ay (A3) 1),xS (X8) (N1+2) (cx),xI ((a:Int)),xP (ay (X8) ((a:Int)).toNat),xI (gi (X1) ((a:Int))),xP (ay (A4) 1),xS (Z8) (N2+2) (cz),xI ((b:Int)),xP (ay (Z8) ((b:Int)).toNat),xI (gi (X2) ((b:Int))),xI ((gi (X1) ((a:Int)))+ (gi (X2) ((b:Int)))),xI ((fe kind)),xI (((gi (X1) ((a:Int)))+ (gi (X2) ((b:Int))))+ ((fe kind))),xI ((i:Int)),xB (decide (¬(((gi (X1) ((a:Int)))+ (gi (X2) ((b:Int))))+ ((fe kind)))=((i:Int)))),xB (false),xI (kind),xB (decide ((kind)=((1:Int)))),xB (false),xU,xU,xU,xU,xU,xU,xB (false),xB (false),xB (false),xI (kind),xB (decide ((kind)=((2:Int)))),xB (false),xU,xU,xU,xU,xU,xU,xU,xU,xU,xU,xU,xU,xU,xU,xB (false),xB (false)] O (eL O) ?_ ?_
    ·exact⟨fun _ _ hb _ _=>aU (lj.below hb) O Az,fun _ _ hb _ _=>bh (lj.below hb) O Az,Dr O,fun _ _ hb _ _=>aD (kO.aq hb).2 O Az,fun _ _ hb _ _=>a8 (kO.aq hb) O Az,fun _ _ hb _ _=>aU (lG.below hb) O Az,fun _ _ hb _ _=>bh (lG.below hb) O Az,Dr O,fun _ _ hb _ _=>aD (lq.aq hb).2 O Az,fun _ _ hb _ _=>a8 (lq.aq hb) O Az,fun _ _ _ _ _=>aH O Az,Dr O,fun _ _ _ _ _=>aH O Az,Dr O,Dr O,fun _ _ _ _ _=>Dk O (by exact aF Value.bool (cj (fun h=>h q1))),Dr O,Dr O,fun _ _ _ _ _=>Dk O (by exact aF Value.bool (cj (by omega))),Dr O,Dr O,Dr O,Dr O,Dr O,Dr O,Dr O,Dr O,fun _ _ _ _ _=>Dk O (by exact aF Value.bool (O)),Dr O,Dr O,fun _ _ _ _ _=>Dk O (by exact aF Value.bool (cj (by omega))),Dr O,Dr O,Dr O,Dr O,Dr O,Dr O,Dr O,Dr O,Dr O,Dr O,Dr O,Dr O,Dr O,Dr O,Dr O,Dr O,au⟩
    intro u gj qP _;have hS:=hS.aq qP;refine eP O (Cd.fC O ?_);have mn:=mn ⟨by rw [js];exact q1,fun h=>by have:=hex.1 h;omega⟩;have om:(gM (N1+2) (N2+2) (gi X1) (gi X2) kind i a (b+1)).length=(gM (N1+2) (N2+2) (gi X1) (gi X2) kind i a b).length+1:=by rw [mn,b8];rfl
    refine aA O (eS hS O O O ?_);intro OE lS iT;refine fk 1 iT O (iT.bz 0 O) O O O ?_;intro AZ cZ rB im;have im:=im.tail;refine ar O (eS im O O O ?_);intro OG uK jY;refine fk 2 jY O (jY.bz 0 O) O O O ?_;intro AQ cQ pK gn;have gn:=gn.tail;refine ar O (aU (gn.rd 2 O) O (amv (j:=1) (gn.rd 2 O) (by exact aF Value.pointer O) O O O O (ar O (eS gn O O O ?_))));intro OH yd jZ;refine fk 4 jZ O (jZ.bz 0 O) O O O fun AW cW F4 oK=>aU (oK.rd 3 O) O (kF 3 (j:=1) oK O O O O O ?_);intro wJ qM;have qM:=qM.tail;refine ar O (aH O (aT O (tQ ?_)));refine⟨(b+1,(AZ,cZ),(AQ,cQ),(AW,cW)),by show N2+2 - (b+1)<N2+2 - b;omega,⟨O,O,O,O,O,O,O,aF (fun m:Nat=>Value.slice AZ m cZ) om.symm,aF (fun m:Nat=>Value.slice AQ m cQ) om.symm,O,O,O,au⟩,by show b+1<=N2+2;omega,?_⟩;show St w wJ (ru AZ AQ fJ AW cZ cQ cW (gM _ _ _ _ kind i a (b+1)) _ k KK);unfold ru;rw [om,mn,iD,iD,iD];rw [show [((a:Int),(b:Int))].map (dd (gi X1) (gi X2) kind)=[(i:Int)] from aF (fun x=> [x]) (js.trans q1)];exact qM
   have qS:b=N2+2:=by omega
   subst qS;rw [<-ail]at hS|-;refine bn O (bo (cL O (aH O (aT O (tQ ?_)))));exact⟨(a+1,(bH,dE),(cn,iF),(AR,cR)),by show N1+2 - (a+1)<N1+2 - a;omega,(amz O),by show a+1<=N1+2;omega,hS⟩
  have xk:a=N1+2:=by omega
  subst xk;rw [aik]at hS|-;have uk:=Vj (m1:=N1+2) (m2:=N2+2) (rk1:=gi X1) (rk2:=gi X2) (kind:=kind) (show i+1<=k by omega);have vn:gM (N1+2) (N2+2) (gi X1) (gi X2) kind (i+1) 0 0=ck (N1+2) (N2+2) (gi X1) (gi X2) kind (i+1):=I6;rw [vn];refine bn O (bo (cL O (bc O O (aC O ?_))));refine aM _ O (fun h4=>?_) (fun h4=>?_)
  ·have km:=hS;rw [sf]at km;refine aA O (BV (by exact inferInstance) (by exact inferInstance) (by exact inferInstance) O (bO 3 4 km O O O O O O O ?_));intro gj ic;refine bI O (fz (eW ?_));refine kb O (ic.rd 4 O) O ?_;exact .inl ⟨.inr (by rw [fO];omega),O,ic.none⟩
  refine aA O (aH O (aT O (tQ ?_)));rw [<-vn];exact⟨(i+1,(bH,dE),(cn,iF),(AR,cR)),by show k - (i+1)<k - i;omega,(amz O),by show i+1<=k;omega,by show(ck _ _ _ _ kind (i+1)).length<=500;omega,hS⟩
 obtain rfl:i=k:=by omega
 rw [I6]at hS|-;have jf:=fun(c:Int×Int)=> (tF (m1:=N1+2) (m2:=N2+2) (rk1:=gi X1) (rk2:=gi X2) (kind:=kind) (k:=i) (c:=c))
 have bL:=hS.nil 34;generalize ck (N1+2) (N2+2) (gi X1) (gi X2) kind i=PL at*;clear hS;have hPL:PL.length<=500:=hlen;have du:∀e:Nat,e<PL.length->(0<=(gp PL e).1/\(gp PL e).1< (N1:Int)+2)/\(0<=(gp PL e).2/\(gp PL e).2< (N2:Int)+2):=fun e he=>by
  have hm:gp PL e∈PL:=by rw [ub he];exact dQ _
  obtain⟨j,hj,hE⟩:=(jf _).1 hm;have q1:=hE.1;have q2:=hE.2.1;refine⟨⟨q1.1,?_⟩,q2.1,?_⟩
  ·have:=q1.2;omega
  have:=q2.2;omega
 have Sz:∀e:Nat,e<PL.length->gi (PL.map Prod.fst) e=(gp PL e).1/\gi (PL.map Prod.snd) e=(gp PL e).2:=fun e he=>by
  rw [b9 (by rw [fO];exact he),b9 (by rw [fO];exact he),List.getElem_map,List.getElem_map,ub he];exact⟨O,O⟩
 have xo:=fun i=>Vh N1 N2 B1 B2 PL i
 have mP:=fun i=>DB N1 N2 B1 B2 PL i
 have qR:=fun i (h:i<=PL.length)=>Pv N1 N2 B1 B2 PL h
 have sr:=fun i e=>Px N1 N2 B1 B2 PL i e
 have qS:=fun i e=>Pw N1 N2 B1 B2 PL i e
 have Hn:∀e:Int,0<=e->e< (N1:Int)->∀d∈gl B1 e,0<=d/\d< (N1:Int):=fun e h0 h1=> (nv.bd e h0 h1).2
 have tj:∀e:Int,0<=e->e< (N2:Int)->∀d∈gl B2 e,0<=d/\d< (N2:Int):=fun e h0 h1=> (od.bd e h0 h1).2
 have om:=fun(b:Int) h=>Pa (B:=B1) (fun e h0 h1=> (nv.bd e h0 h1).1) dF (b:=b) h
 have qg:=fun(b:Int) h=>Pa (B:=B2) (fun e h0 h1=> (od.bd e h0 h1).1) eM (b:=b) h
 rw [sf]at bL;have bL:St w dV (FP bH cn fJ AR none dE iF cR 0 0 PL (dd (gi X1) (gi X2) kind) i A6 A4 A3 [ak n2,.slice Z8 (N2+2) cz,.slice W8 (N2+2) cw] [ak n1,.slice X8 (N1+2) cx,.slice Y8 (N1+2) cy] [] (o6 N1 N2 B1 B2 PL 0)):=bL.perm (List.perm_append_singleton _ _).symm;clear qh tv jf;refine bn O (bo (rI O ?_));refine Cd.loop (α:=Nat×(aj×Nat)×List aO) (fun z=> [(3,.pointer A3),(4,.pointer A4),(6,.pointer A6),(10,.slice bH PL.length dE),(11,.slice cn PL.length iF),(12,.pointer fJ),(16,ak (z.1:Int))]) (fun z w'=>z.1<=PL.length/\z.2.2.length=z.1/\St w w' (FP bH cn fJ AR z.2.1.1 dE iF cR z.2.1.2 z.1 PL (dd (gi X1) (gi X2) kind) i A6 A4 A3 [ak n2,.slice Z8 (N2+2) cz,.slice W8 (N2+2) cw] [ak n1,.slice X8 (N1+2) cx,.slice Y8 (N1+2) cy] z.2.2 (o6 N1 N2 B1 B2 PL z.1))) (fun z=>PL.length - z.1) (0,(none,0),[]) (amz O) ⟨aZ _,O,bL⟩ ?_;clear bL;rintro⟨e,⟨AD,cD⟩,dv⟩ e0 dZ ⟨he,l8,hS⟩;dsimp only at he l8 hS|-;refine bg O (bc O O (aC O ?_));refine aM _ O (fun h2=>?_) (fun h2=>?_)
 ·have Sl:e<PL.length:=by omega
  have hE:=du e Sl;have Hq:=Sz e Sl;refine aA O (jn hS O ?_);intro Ww fg dG;refine aC O (Cd.loop (α:=Nat×aj×Nat) (fun z=> [(3,.pointer A3),(4,.pointer A4),(6,.pointer A6),(10,.slice bH PL.length dE),(11,.slice cn PL.length iF),(12,.pointer fJ),(16,ak e),(17,.slice z.2.1 (kZ N1 N2 B1 B2 PL e z.1).length z.2.2),(18,ak (z.1:Int))]) (fun z w'=>z.1<=e/\St w w' (ax 2 z.2.1 (kZ N1 N2 B1 B2 PL e z.1).length z.2.2 (kZ N1 N2 B1 B2 PL e z.1)::FP bH cn fJ AR AD dE iF cR cD e PL (dd (gi X1) (gi X2) kind) i A6 A4 A3 [ak n2,.slice Z8 (N2+2) cz,.slice W8 (N2+2) cw] [ak n1,.slice X8 (N1+2) cx,.slice Y8 (N1+2) cy] dv (o6 N1 N2 B1 B2 PL e))) (fun z=>e - z.1) (0,Ww,0) (amz O) ⟨aZ _,dG⟩ ?_);clear dG hS;rintro⟨q,Ab,cb⟩ e1 gj ⟨hq,hS⟩;dsimp only at hq hS|-;have hbq:=qS e q;refine bJ O (aM _ O (fun h3=>?_) (fun h3=>?_))
  ·have y7:q<e:=by omega
   have hQ:=du q (by omega);have RN:=Sz q (by omega);have vd:=sr e q;have lj:=hS.rd 7 O;have lG:=hS.rd 6 O;have jg:cg gj bH PL.length (PL.map Prod.fst):=hS.bz 1 O;have oP:cg gj cn PL.length (PL.map Prod.snd):=hS.bz 2 O;have l7:=(nv.aq hS.below).bl;have qV:=(od.aq hS.below).bl;have mm:0<=gi (PL.map Prod.fst) e/\gi (PL.map Prod.fst) e< ((N1+2:Nat):Int):=by rw [Hq.1];omega
   have ug:0<=gi (PL.map Prod.snd) e/\gi (PL.map Prod.snd) e< ((N2+2:Nat):Int):=by rw [Hq.2];omega
   have S3:(gl (kY N1 B1) (gi (PL.map Prod.fst) e)).length<=1000000:=by have:=om _ (show 0<=gi (PL.map Prod.fst) e/\gi (PL.map Prod.fst) e< (N1:Int)+2 by omega);omega
   have ac3:(gl (kY N2 B2) (gi (PL.map Prod.snd) e)).length<=1000000:=by have:=qg _ (show 0<=gi (PL.map Prod.snd) e/\gi (PL.map Prod.snd) e< (N2:Int)+2 by omega);omega
   have wo:(gi (PL.map Prod.fst) q=gi (PL.map Prod.fst) e\/gi (PL.map Prod.fst) q∈gl (kY N1 B1) (gi (PL.map Prod.fst) e))↔eX N1 B1 (gp PL q).1 (gp PL e).1:=by rw [RN.1,Hq.1];exact Pf hQ.1 hE.1 Hn
   have kr:(gi (PL.map Prod.snd) q=gi (PL.map Prod.snd) e\/gi (PL.map Prod.snd) q∈gl (kY N2 B2) (gi (PL.map Prod.snd) e))↔eX N2 B2 (gp PL q).2 (gp PL e).2:=by rw [RN.2,Hq.2];exact Pf hQ.2 hE.2 tj
   have mU:¬(eX N1 B1 (gp PL q).1 (gp PL e).1/\eX N2 B2 (gp PL q).2 (gp PL e).2)->kZ N1 N2 B1 B2 PL e (q+1)=kZ N1 N2 B1 B2 PL e q:=fun h=>by rw [vd,az h]
   by_cases h5:gi (PL.map Prod.fst) q=gi (PL.map Prod.fst) e\/gi (PL.map Prod.fst) q∈gl (kY N1 B1) (gi (PL.map Prod.fst) e)
   ·refine dw O ?_;refine eo [.ex (.agg #[ak (n1),.slice (X8) (N1+2) (cx),.slice (Y8) (N1+2) (cy)]),xS (bH) (PL.length) (dE),xI ((q:Int)),xP (ay (bH) ((q:Int)).toNat),xI (gi (PL.map Prod.fst) ((q:Int))),xS (bH) (PL.length) (dE),xI ((e:Int)),xP (ay (bH) ((e:Int)).toNat),xI (gi (PL.map Prod.fst) ((e:Int))),xB (true),xB (true),.ex (.agg #[ak (n2),.slice (Z8) (N2+2) (cz),.slice (W8) (N2+2) (cw)]),xS (cn) (PL.length) (iF),xI ((q:Int)),xP (ay (cn) ((q:Int)).toNat),xI (gi (PL.map Prod.snd) ((q:Int))),xS (cn) (PL.length) (iF),xI ((e:Int)),xP (ay (cn) ((e:Int)).toNat),xI (gi (PL.map Prod.snd) ((e:Int))),xB (decide (gi (PL.map Prod.snd) q=gi (PL.map Prod.snd) e\/gi (PL.map Prod.snd) q∈gl (kY N2 B2) (gi (PL.map Prod.snd) e))),xB (decide (gi (PL.map Prod.snd) q=gi (PL.map Prod.snd) e\/gi (PL.map Prod.snd) q∈gl (kY N2 B2) (gi (PL.map Prod.snd) e)))] O (eL O) ?_ ?_
    ·refine⟨fun _ _ hb _ _=>ao.dq 2 (lj.below hb) O O O Az,Dr O,Dr O,fun _ _ hb _ _=>aD (jg.aq hb).2 O Az,fun _ _ hb _ _=>a8 (jg.aq hb) O Az,Dr O,Dr O,fun _ _ hb _ _=>aD (jg.aq hb).2 O Az,fun _ _ hb _ _=>a8 (jg.aq hb) O Az,?_,Dr O,fun _ _ hb _ _=>av O (ao.dq 2 (lG.below hb) O O O Az),Dr O,Dr O,fun _ _ hb _ _=>av O (aD (oP.aq hb).2 O Az),fun _ _ hb _ _=>av O (a8 (oP.aq hb) O Az),Dr O,Dr O,fun _ _ hb _ _=>av O (aD (oP.aq hb).2 O Az),fun _ _ hb _ _=>av O (a8 (oP.aq hb) O Az),?_,Dr O,au⟩
     ·intro e1 w1 hb hp aW;refine aQ (M7 n1 X8 (N1+2) cx Y8 (N1+2) cy vF (kY N1 B1) (gi (PL.map Prod.fst) q) (gi (PL.map Prod.fst) e) _ (l7.aq hb) (Cj _ _) mm S3) O ?_;rintro _ w2 ⟨rfl,aw⟩;refine ao.n ?_;exact fM.dn aw.below (by exact aF Value.bool (dM h5))
     intro e1 w1 hb hp aW;refine av O (aQ (M7 n2 Z8 (N2+2) cz W8 (N2+2) cw wK (kY N2 B2) (gi (PL.map Prod.snd) q) (gi (PL.map Prod.snd) e) _ (qV.aq hb) (Cj _ _) ug ac3) O ?_);rintro _ w2 ⟨rfl,aw⟩;refine ao.n ?_;exact fM.dn aw.below (by exact O)
    intro u lS LF _;have hS:=hS.aq LF;refine eP O (aM _ O (fun h6=>?_) (fun h6=>?_))
    ·rw [aB ⟨wo.1 h5,kr.1 h6⟩]at vd;refine aA O (eS hS O O O ?_);intro A9 rB im;refine fk 1 im O (im.bz 0 O) O O O ?_;intro AZ cZ uK jY;have jY:=jY.tail;refine ar O (aH O (aT O (tQ ?_)));refine⟨(q+1,AZ,cZ),by show e - (q+1)<e - q;omega,⟨O,O,O,O,O,O,O,?_,O,au⟩,by show q+1<=e;omega,?_⟩
     ·show Value.slice _ _ _=Value.slice _ _ _;rw [vd,b8];rfl
     show St w uK (ax _ AZ (kZ N1 N2 B1 B2 PL e (q+1)).length cZ _::_);rw [vd,b8];exact jY
    have fF:=mU (fun h=>h6 (kr.2 h.2));refine aA O (aH O (aT O (tQ ?_)));refine⟨(q+1,Ab,cb),by show e - (q+1)<e - q;omega,⟨O,O,O,O,O,O,O,?_,O,au⟩,by show q+1<=e;omega,?_⟩
    ·show Value.slice _ _ _=Value.slice _ _ _;rw [fF]
    show St w lS (ax _ Ab (kZ N1 N2 B1 B2 PL e (q+1)).length cb _::_);rw [fF];exact hS
   refine dw O (eo [.ex (.agg #[ak (n1),.slice (X8) (N1+2) (cx),.slice (Y8) (N1+2) (cy)]),xS (bH) (PL.length) (dE),xI ((q:Int)),xP (ay (bH) ((q:Int)).toNat),xI (gi (PL.map Prod.fst) ((q:Int))),xS (bH) (PL.length) (dE),xI ((e:Int)),xP (ay (bH) ((e:Int)).toNat),xI (gi (PL.map Prod.fst) ((e:Int))),xB (false),xB (false),xU,xU,xU,xU,xU,xU,xU,xU,xU,xU,xB (false)] O (eL O) ?_ ?_)
   ·refine⟨fun _ _ hb _ _=>ao.dq 2 (lj.below hb) O O O Az,Dr O,Dr O,fun _ _ hb _ _=>aD (jg.aq hb).2 O Az,fun _ _ hb _ _=>a8 (jg.aq hb) O Az,Dr O,Dr O,fun _ _ hb _ _=>aD (jg.aq hb).2 O Az,fun _ _ hb _ _=>a8 (jg.aq hb) O Az,?_,Dr O,Dr O,Dr O,Dr O,Dr O,Dr O,Dr O,Dr O,Dr O,Dr O,Dr O,Dr O,au⟩;intro e1 w1 hb hp aW;refine aQ (M7 n1 X8 (N1+2) cx Y8 (N1+2) cy vF (kY N1 B1) (gi (PL.map Prod.fst) q) (gi (PL.map Prod.fst) e) _ (l7.aq hb) (Cj _ _) mm S3) O ?_;rintro _ w2 ⟨rfl,aw⟩;refine ao.n ?_;exact fM.dn aw.below (by exact aF Value.bool (cj h5))
   intro u lS LF _;have hS:=hS.aq LF;refine eP O (Cd.fC O ?_);have fF:=mU (fun h=>h5 (wo.2 h.1));refine aA O (aH O (aT O (tQ ?_)));refine⟨(q+1,Ab,cb),by show e - (q+1)<e - q;omega,⟨O,O,O,O,O,O,O,?_,O,au⟩,by show q+1<=e;omega,?_⟩
   ·show Value.slice _ _ _=Value.slice _ _ _;rw [fF]
   show St w lS (ax _ Ab (kZ N1 N2 B1 B2 PL e (q+1)).length cb _::_);rw [fF];exact hS
  obtain rfl:q=e:=by omega
  have abV:=qR q he;have ab3:=xo q;rw [abV]at hS|-;refine bn O (bo (cL O ?_));refine aU (hS.rd 3 O) O (amv (j:=2) (hS.rd 3 O) (by exact aF Value.pointer O) O O O O (ar O (kV hS O O O ?_)));intro A9 uK jY;refine lA 9 jY O (jY.fG 0 O) O O O (by omega) (by omega) O fun AZ cZ pK gn=>aU (gn.rd 4 O) O (kF 4 (j:=2) gn O O O O O ?_);intro yd jZ;have jZ:=jZ.tail;have jZ:=jZ.perm (ahx _ _ _ _ _ _ _ _ _ _);refine ar O (aH O (aT O (tQ ?_)));refine⟨(q+1,(AZ,cZ),dv++ [⟨Ab,(tE (eX N1 B1) (eX N2 B2) PL q).length,cb⟩]),by show PL.length - (q+1)<PL.length - q;omega,(amz O),by show q+1<=PL.length;omega,by show(dv++ [_]).length=q+1;rw [b8,l8];rfl,?_⟩;show St w yd (FP bH cn fJ AR AZ dE iF cR cZ (q+1) PL (dd (gi X1) (gi X2) kind) i A6 A4 A3 [ak n2,.slice Z8 (N2+2) cz,.slice W8 (N2+2) cw] [ak n1,.slice X8 (N1+2) cx,.slice Y8 (N1+2) cy] (dv++ [_]) (o6 N1 N2 B1 B2 PL (q+1)));rw [ab3];unfold FP aL;rw [o9 (by rw [l8,DB])];exact jZ
 obtain rfl:e=PL.length:=by omega
 refine bn O (bo (cL O ?_));refine ao.dq 2 (hS.rd 2 O) O O O (bO 3 4 hS O O O O O O O ?_);intro fg dG;refine bI O (kb O (dG.rd 4 O) O ?_);have l6:(PL.map (dd (gi X1) (gi X2) kind)).length=PL.length:=fO _;refine .inr ⟨⟨L2,by omega⟩,AR,cR,AD,cD,dv,by rw [l6];rfl,by omega,by rw [l6];exact DB N1 N2 B1 B2 PL PL.length,?_⟩;rw [l6];exact dG.sub (show List.Sublist (ax 2 AR PL.length cR (PL.map (dd (gi X1) (gi X2) kind))::(aL 34 2 AD PL.length cD dv (o6 N1 N2 B1 B2 PL PL.length)++ [])) _ from((((((kU _).cons _).cons _).cons _).cons_cons _).cons _).cons _ |>.cons _)
def Js(n:Int)(R:ai)(B:ah)(b:Bool)(w:aa)(v:ad)(w':aa):Prop:=
 ∃AR c AD d rs,v= .tuple #[.agg #[ak n,.slice AR R.length c,.slice AD B.length d],.bool b]/\rs.length=B.length/\St w w' (ax 2 AR R.length c R::(aL 34 2 AD B.length d rs B++ []))
theorem Jt.b{k:Nat}{RL:ai}{v:ad}(h:Jt k RL BL w v w'):Js (if k<=5/\RL.length<=500 then(k:Int)else 0) (if k<=5/\RL.length<=500 then RL else []) (if k<=5/\RL.length<=500 then BL else []) (decide (k<=5/\RL.length<=500)) w v w':=by
 rcases h with⟨hb,rfl,hS⟩ | ⟨hb,AR,c,AD,d,rs,rfl,h1,h2,hS⟩
 ·have hn:¬(k<=5/\RL.length<=500):=by omega
  rw [az hn,az hn,az hn,cj hn];exact⟨none,0,none,0,[],O,O,(hS.nil _).nil _⟩
 rw [aB hb,aB hb,aB hb,dM hb];exact⟨AR,c,AD,d,rs,by rw [h2],by rw [h2];exact h1,by rw [h2];exact hS⟩
theorem QE{X Y:aj}(hM:cN M)(hb:aS M M.length<=500)(h:St w w' (ax 2 X (aS M M.length+2) cx (gU M.length (bK M M.length))::(aL 34 2 Y (aS M M.length+2) cy ys (kY (aS M M.length) (bR M))++ []))):
 vH w' X (gU M.length (bK M M.length)) (aS M M.length) Y ys (bR M):=by
 have hP:=sK hM hb;have hl:=oH M M.length;refine⟨by rw [QJ,hl],hb,h.bz 0 O,?_,fun e h0 h1=>?_⟩
 ·exact(h.sub (show(aL 34 2 Y (aS M M.length+2) cy ys (kY (aS M M.length) (bR M))).Sublist _ from(ng _ _).cons _)).oz (Cj _ _)
 have h2:=hP.at_ (e:=e) h0 (by rw [hl];exact h1);refine⟨?_,fun d hd=>?_⟩
 ·have:=sJ (N:=(bK M M.length).length) h2.1.nodup fun x hx=>by have:=(h2.2.1 x hx).1;omega
  omega
 have:=(h2.2.1 d hd).1;omega
theorem Va{AR AD:aj}{a c b:Nat}{R:ai}{rs:List aO}:∀k∈ax 2 AR a c R::(aL 34 2 AD b d rs B++ []),eK k.vs=false/\(k.e=34\/k.e=2):=fun k h=>by
 rcases iP.1 h with rfl | h
 ·exact⟨uA _,.inr O⟩
 exact agn k h
theorem St.agr{Ab A D AR AD:aj}{n:Int}{a c b e f:Nat}{R:ai}{rs:List aO}(h:St w0 w [bD Ab n A q p D e f])(h':St w0 w (ax 2 AR a c R::(aL 34 2 AD b d rs B++ []))):St w0 w (bD Ab n A q p D e f::(ax 2 AR a c R::(aL 34 2 AD b d rs B++ []))):=
 h.merge h' (fun k hk=>by obtain rfl:=gG.1 hk;rfl) (fun k hk=> (Va k hk).1) (fun k hk k' eQ=>by
  obtain rfl:=gG.1 hk;rcases(Va k' eQ).2 with e | e
  ·rw [e];exact(by decide:¬(58=34))
  rw [e];exact(by decide:¬(58=2)))
theorem ah0(h:o7 M K kind=0):(gY M K kind<=5/\(jv M K kind).length<=500->jw M K kind=0)/\(¬(gY M K kind<=5/\(jv M K kind).length<=500)->jw M K kind=3):=by
 unfold jw;rw [aB h];exact⟨fun h=>az (by omega),fun h=>aB (by omega)⟩
def jx(xss:ah):Int:=((xss.map List.length).sum:Nat)
theorem Wh(xs:ah)(x:ai):jx (xs++ [x])=jx xs+x.length:=by simp [jx]
theorem F2{b:Nat}:∀(xs:ah),(∀x∈xs,x.length<=b)->0<=jx xs/\jx xs<=(xs.length*b:Nat)
 | [],_=>by simp [jx]
 | x::xs,h=>by
  have h1:=F2 xs (fun y hy=>h y (by simp [hy]));have h2:=h x (by simp);have e:jx (x::xs)=x.length+jx xs:=by simp [jx]
  rw [e,List.length_cons,Nat.succ_mul];omega
def lQ(k:Int):ah->ah
 | []=> []
 | x::xs=>marks k x.length::lQ (k+x.length) xs
theorem xT:∀(xs:ah) (k:Int),(lQ k xs).length=xs.length
 | [],_=>rfl
 | _::xs,k=>by simp [lQ,xT xs]
theorem Nu(x:ai):∀(xs:ah) (k:Int),lQ k (xs++ [x])=lQ k xs++ [marks (k+jx xs) x.length]
 | [],k=>by simp [lQ,jx]
 | y::xs,k=>by
  have e:jx (y::xs)=y.length+jx xs:=by simp [jx]
  simp only [List.cons_append,lQ];rw [Nu x xs,e,Int.add_assoc]
theorem agC(hi:i<xs.length):(lQ k xs)[i]?=some (marks (k+jx (xs.take i)) xs[i].length):=by
 have h1:xs=(xs.take i++ [xs[i]])++xs.drop (i+1):=by rw [<-lV hi,List.take_append_drop]
 have gen:∀(a b:ah) (k:Int),∃r,lQ k (a++b)=lQ k a++r:=by
  intro a
  induction a with
  | nil=>intro b k;exact⟨_,rfl⟩
  | cons y a ih=>
   intro b k;obtain⟨r,hr⟩:=ih b (k+y.length);exact⟨r,by simp only [List.cons_append,lQ];rw [hr]⟩
 obtain⟨r,hr⟩:=gen (xs.take i++ [xs[i]]) (xs.drop (i+1)) k;rw [<-h1,Nu]at hr;have h2:(lQ k (xs.take i)).length=i:=by rw [xT];simp;omega
 rw [hr,gx,kD (by omega),h2];simp
def tA(k:Int)(xs:ah)(i:Nat):ah:=lQ k (xs.take i)++xs.drop i
theorem agA(k:Int)(xs:ah)(i:Nat):(tA k xs i).length=xs.length:=by simp [tA,xT];omega
theorem agz(h:i<xs.length):(tA k xs i).getD i []=xs[i]:=by
 have h2:(lQ k (xs.take i)).length=i:=by rw [xT];simp;omega
 rw [tA,da,kD (by omega),h2];simp [h]
theorem agB(h:i<xs.length):(tA k xs i).set i (marks (k+jx (xs.take i)) xs[i].length)=tA k xs (i+1):=by
 have h2:(lQ k (xs.take i)).length=i:=by rw [xT];simp;omega
 unfold tA;rw [List.set_append_right _ _ (by omega),h2,Nat.sub_self,lV h,Nu,gx,List.drop_eq_getElem_cons h]
 rfl
theorem agk{pre post:List Ck}{t1 t2:ae}{A:aj}{n c:Nat}{rs:List aO}{xss:ah}(k:Int)(hS:St w0 w (pre++ (aL t1 t2 A n c rs xss++post)))(cI:rs.length=n)(jH:xss.length=n)(hn:n<=1000)(hr:∀x∈xss,x.length<=1000)(mR:0<=k/\k<=1000000000000000):
 aK prog 51 [.slice A n c,ak k] w (fun v w'=>v=ak (k+jx xss)/\St w0 w' (pre++ (aL t1 t2 A n c rs (lQ k xss)++post))):=by
 refine bA func51 O ntmps51 O (df O) (bJ O ?_);refine Cd.loop (α:=Nat) (fun i=> [(0,.slice A n c),(1,ak (k+jx (xss.take i))),(5,ak i)]) (fun i w'=>St w0 w' (pre++ (aL t1 t2 A n c rs (tA k xss i)++post))/\i<=n) (fun i=>n - i) 0 ⟨O,by show Value.int .i64 _=ak _;simp [jx],O,au⟩ ⟨by simpa [tA,lQ]using hS,aZ _⟩ ?_;rintro i e w1 ⟨aI,hi⟩;have MQ:=agA k xss i;have hM:=(aI.sub (iQ _ _)).jj (by omega);have MC:=F2 (b:=1000) (xss.take i) (fun x hx=>hr x (List.mem_of_mem_take hx));have zd:(xss.take i).length<=1000:=by simp;omega
 have htm:(xss.take i).length*1000<=1000*1000:=Nat.mul_le_mul_right 1000 zd;refine bg O (bc O O (aC O ?_));refine aM _ O (fun h1=>?_) (fun h1=>?_)
 ·have di:i<xss.length:=by omega
  have Ay:=Ds (t1:=t1) (t2:=t2) (A:=A) (n:=n) (c:=c) (rs:=rs) (xss:=tA k xss i) (pre:=pre) (ks:=post) (i:=i) (by omega) (by omega);have Fi:=fun l=>ago (t1:=t1) (t2:=t2) (A:=A) (n:=n) (c:=c) (rs:=rs) (xss:=tA k xss i) (pre:=pre) (ks:=post) (i:=i) (xs:=l) (by omega) (by omega)
  rw [agz di]at Ay;have oT:=aI.zl _ Ay;have gv:=hr xss[i] (dQ di);have aw:=agB (k:=k) di;have MD:jx (xss.take (i+1))=jx (xss.take i)+xss[i].length:=by rw [lV di,Wh]
  refine aA O (amn hM.top.2 O O O (by omega) h1 (bW hM.top O (ar O ?_)));refine aQ (agi (pre.length+1+i) (k+jx (xss.take i)) aI Ay ⟨by omega,by omega⟩) O ?_;rintro _ w2 ⟨rfl,aE⟩;rw [Fi,<-oT,aw]at aE;refine ar O (aH O (aT O (tQ ?_)));exact⟨i+1,by show n - (i+1)<n - i;omega,⟨O,by show Value.int .i64 _=ak _;rw [MD,<-Int.add_assoc,oT],O,au⟩,aE,by omega⟩
 refine bn O (bo (gq O ?_));refine gZ O ?_;have du:i=n:=by omega
 subst du;have e1:xss.take i=xss:=gR (by omega);have e2:tA k xss i=lQ k xss:=by rw [tA,e1,List.drop_of_length_le (by omega),fj]
 rw [e1];rw [e2]at aI;exact⟨O,aI⟩
theorem acs(A:aj)(n c:Nat)(rs:List aO)(xss:ah)(k:Int)(w:aa)(hR:bF w A n rs (lQ k xss))(hn:n<=1000)(hr:∀x∈xss,x.length<=1000)(mR:0<=k/\k<=1000000000000000):
 aK prog 52 [.slice A n c,ak k] w (fun v w'=>v=ak (k+jx xss)/\w'=w):=by
 have jH:xss.length=n:=by rw [<-xT xss k];exact hR.len
 refine bA func52 O ntmps52 O (df O) (bJ O ?_);refine Cd.loop (α:=Nat) (fun i=> [(0,.slice A n c),(1,ak (k+jx (xss.take i))),(5,ak i)]) (fun i w'=>w'=w/\i<=n) (fun i=>n - i) 0 ⟨O,by show Value.int .i64 _=ak _;simp [jx],O,au⟩ ⟨O,aZ _⟩ ?_;rintro i e w ⟨rfl,hi⟩;have MC:=F2 (b:=1000) (xss.take i) (fun x hx=>hr x (List.mem_of_mem_take hx));have zd:(xss.take i).length<=1000:=by simp;omega
 have htm:(xss.take i).length*1000<=1000*1000:=Nat.mul_le_mul_right 1000 zd;refine bg O (bc O O (aC O ?_));refine aM _ O (fun h1=>?_) (fun h1=>?_)
 ·have di:i<xss.length:=by omega
  have gv:=hr xss[i] (dQ di);have MD:jx (xss.take (i+1))=jx (xss.take i)+xss[i].length:=by rw [lV di,Wh]
  have bP:=hR.at_ (i:=(i:Int)) (by omega) h1;have hg:gl (lQ k xss) i=marks (k+jx (xss.take i)) xss[i].length:=by
   simp only [gl,jc,da,agC di,Option.getD_some]
  rw [hg]at bP;have oT:=bP.1;rw [Uv]at oT;rw [oT]at bP;refine aA O (amn hR.top.2 O O O (by omega) h1 (bW hR.top O (ar O ?_)));refine aQ (acr (rg rs i).a (rg rs i).n (rg rs i).c (k+jx (xss.take i)) _ bP ⟨by omega,by omega⟩) O ?_;rintro _ w ⟨rfl,rfl⟩;refine aC O (nP O (by omega) ?_);refine aA O (aH O (aT O (tQ ?_)));exact⟨i+1,by show n - (i+1)<n - i;omega,⟨O,by show Value.int .i64 _=ak _;rw [MD,<-Int.add_assoc,oT],O,au⟩,O,by omega⟩
 refine bn O (bo (gq O ?_));refine gZ O ?_;have du:i=n:=by omega
 subst du;rw [gR (by omega)];exact⟨O,O⟩
open Classical in
noncomputable def xW(n:Nat)(fl:ah)(i a b:Nat):ai:=((List.range b).filter fun b=>decide (mZ n fl i a b/\b≠a)).map fun b:Nat=> (b:Int)
noncomputable def me(n:Nat)(fl:ah)(i a b:Nat):ai:=(List.range a).flatMap (Bs n fl i)++xW n fl i a b
section
variable {n:Nat} {fl:ah} {i a b:Nat}
theorem UM:xW n fl i a fl.length=Bs n fl i a:=rfl
theorem agO:me n fl i (a+1) 0=me n fl i a fl.length:=by
 unfold me;rw [jB,List.flatMap_append,UM];simp [xW]
theorem ZT{p:Nat->Bool}{b:Nat}:((List.range (b+1)).filter p)=(List.range b).filter p++ (if p b=true then [b]else []):=by
 rw [jB,rJ]
 by_cases h:p b=true
 ·rw [aB h,zL h];rfl
 rw [az h,wO h];rfl
open Classical in
theorem UO:xW n fl i a (b+1)=xW n fl i a b++ (if mZ n fl i a b/\b≠a then [(b:Int)]else []):=by
 unfold xW;rw [ZT,iD]
 by_cases h:mZ n fl i a b/\b≠a
 ·rw [aB h,aB (dM h)];rfl
 rw [az h,az (fun h'=>h (tB h'))];rfl
theorem agN(h:mZ n fl i a b/\b≠a):me n fl i a (b+1)=me n fl i a b++ [(b:Int)]:=by
 unfold me;rw [UO,aB h,gx]
theorem agP(h:¬(mZ n fl i a b/\b≠a)):me n fl i a (b+1)=me n fl i a b:=by
 unfold me;rw [UO,az h,fj]
theorem agM:me n fl i fl.length 0=vw n fl i:=by simp [me,xW,vw]
theorem UN:(xW n fl i a b).length<=b:=by
 unfold xW;rw [fO];refine nU (rL _ _) ?_;rw [qB];exact bs _
theorem UF(hb:b<=fl.length):(me n fl i a b).length<=a*fl.length+b:=by
 have key:∀a:Nat,((List.range a).flatMap (Bs n fl i)).length<=a*fl.length:=by
  intro a
  induction a with
  | zero=>simp
  | succ a ih=>
   rw [jB,List.flatMap_append,b8,Nat.succ_mul];have h:=UN (n:=n) (fl:=fl) (i:=i) (a:=a) (b:=fl.length);rw [UM]at h;simp only [List.flatMap_cons,List.flatMap_nil,fj];omega
 unfold me;have h1:=key a;have h2:=UN (n:=n) (fl:=fl) (i:=i) (a:=a) (b:=b);rw [b8];omega
theorem Zs(hn:fl.Nodup)(hl:∀x∈fl,x.length=n)(hi:i<n)(ha:a<fl.length)(hb:b<fl.length):(a≠b/\tc (gl fl a) (gl fl b) n=1/\gi (gl fl a) i≠gi (gl fl b) i)↔mZ n fl i a b/\b≠a:=by
 have key:∀p:Nat->Bool,(∀c,c<n->(p c=true↔c=i))->((List.range n).filter p)=[i]:=fun p hp=>by
  refine List.Perm.eq_singleton ((vJ (List.nodup_range.filter _) (by simp)).2 fun c=>?_);rw [gg,il,gG];exact⟨fun h=> (hp c h.1).1 h.2,fun h=>by subst h;exact⟨hi,(hp c hi).2 rfl⟩⟩
 constructor
 ·rintro⟨bU,hd,hx⟩;refine⟨⟨ha,hb,fun k hk fE=>qy fun h=>?_⟩,fun e=>bU e.symm⟩;unfold tc at hd;obtain⟨x,ka⟩:=List.length_eq_one_iff.1 hd;have m1:i∈(List.range n).filter fun k:Nat=>decide (gi (gl fl a) k≠gi (gl fl b) k):=gg.2 ⟨il.2 hi,dM hx⟩
  have m2:k∈(List.range n).filter fun k:Nat=>decide (gi (gl fl a) k≠gi (gl fl b) k):=gg.2 ⟨il.2 hk,dM h⟩
  rw [ka,gG]at m1 m2;exact fE (m2.trans m1.symm)
 rintro⟨hA,bU⟩;have hx:gi (gl fl a) i≠gi (gl fl b) i:=fun e=>bU (QZ hn hl hb ha fun k hk=>by
  by_cases c:k=i
  ·subst c;exact e.symm
  exact(hA.2.2 k hk c).symm)
 refine⟨fun e=>bU e.symm,?_,hx⟩;unfold tc;rw [key _ fun c hc=>?_]
 ·rfl
 rw [lg];constructor
 ·intro h;exact qy fun h'=>h (hA.2.2 c hc h')
 rintro rfl;exact hx
end
noncomputable def nG(n:Nat)(fl:ah)(i:Nat):ah:=(List.range i).map (vw n fl)
theorem UA(n:Nat)(fl:ah)(i:Nat):nG n fl (i+1)=nG n fl i++ [vw n fl i]:=by
 unfold nG;rw [jB,iD];rfl
theorem Uz(n:Nat)(fl:ah)(i:Nat):(nG n fl i).length=i:=by simp [nG]
abbrev eC(A:aj)(B:aj)(i c:Nat):Ck:=Bx 24 1 A [.slice B i c]
theorem ahB{α:Type}(b m q1 q2 q3:α)(X:List α):(b::q1::q2::q3::m::(X++ [])).Perm (q1::q2::q3::m::((X++ [b])++ [])):=by
 classical
 refine jA.2 fun z=>?_
 simp only [lu,jz,kC];omega
theorem afn(n:Nat)(A D F:aj)(a1 cA d1 cD N cF:Nat)(fH:List aO)(fl:ah)(w:aa)(hF:bF w F N fH fl)(hl:∀x∈fl,x.length=n)(hn:fl.Nodup)(hN:N<=400)(S4:n<=1000):
 aK prog 238 [.agg #[ak n,.slice A a1 cA,.slice D d1 cD],.slice F N cF] w (fun v w'=>∃A' c' rs',v= .agg #[.slice A' n c']/\rs'.length=n/\St w w' (aL 34 2 A' n c' rs' (bV n fl)++ [])):=by
 have jQ:fl.length=N:=hF.len;refine bA func238 O ntmps238 O (qp O O) (bg O (nV (St.refl w) O O ?_));intro A2 w1 aI;refine gH aI O fun A4 w2 aE=>ar O (vN (by exact inferInstance) O (gH aE O ?_));intro A5 w3 aR;refine bO 1 0 aR O O O O O O O ?_;intro w4 aX;have aX:St w w4 (eC A5 none 0 0::eC A4 none 0 0::Bx 58 3 A2 [ak n,.slice A a1 cA,.slice D d1 cD]::(aL 34 2 none 0 0 [] (nG n fl 0)++ [])):=(aX.nil 34).perm (List.perm_append_singleton _ _).symm;clear aR aE aI;refine aC O (Cd.loop (α:=Nat×(aj×Nat)×List aO) (fun z=> [(1,.slice F N cF),(2,.pointer A2),(4,.pointer A4),(5,.pointer A5),(6,ak (z.1:Int))]) (fun z w'=>z.1<=n/\z.2.2.length=z.1/\St w w' (eC A5 z.2.1.1 z.1 z.2.1.2::eC A4 none 0 0::Bx 58 3 A2 [ak n,.slice A a1 cA,.slice D d1 cD]::(aL 34 2 z.2.1.1 z.1 z.2.1.2 z.2.2 (nG n fl z.1)++ []))) (fun z=>n - z.1) (0,(none,0),[]) (amz O) ⟨aZ _,O,aX⟩ ?_);clear aX;rintro⟨i,⟨Am,cm⟩,kc⟩ e w5 ⟨hi,ot,hS⟩;dsimp only at hi ot hS|-;refine bg O (aU (hS.rd 2 O) O (iy (j:=0) (hS.rd 2 O) (by exact aF Value.pointer O) O O O O (aC O ?_)));refine aM _ O (fun h1=>?_) (fun h1=>?_)
 ·have du:i<n:=by omega
  refine aA O (jn hS O ?_);intro A7 w6 bk;refine aC O (Cd.loop (α:=Nat×aj×Nat) (fun z=> [(1,.slice F N cF),(2,.pointer A2),(4,.pointer A4),(5,.pointer A5),(6,ak i),(7,.slice z.2.1 (me n fl i z.1 0).length z.2.2),(8,ak (z.1:Int))]) (fun z w'=>z.1<=N/\St w w' (ax 2 z.2.1 (me n fl i z.1 0).length z.2.2 (me n fl i z.1 0)::eC A5 Am i cm::eC A4 none 0 0::Bx 58 3 A2 [ak n,.slice A a1 cA,.slice D d1 cD]::(aL 34 2 Am i cm kc (nG n fl i)++ []))) (fun z=>N - z.1) (0,A7,0) (amz O) ⟨aZ _,bk⟩ ?_);clear bk hS;rintro⟨a,Ab,cb⟩ e1 w7 ⟨ha,hS⟩;dsimp only at ha hS|-;refine bg O (bc O O (aC O ?_));refine aM _ O (fun h2=>?_) (fun h2=>?_)
  ·have CY:a<N:=by omega
   refine dw O (Cd.loop (α:=Nat×aj×Nat) (fun z=> [(1,.slice F N cF),(2,.pointer A2),(4,.pointer A4),(5,.pointer A5),(6,ak i),(7,.slice z.2.1 (me n fl i a z.1).length z.2.2),(8,ak a),(9,ak (z.1:Int))]) (fun z w'=>z.1<=N/\St w w' (ax 2 z.2.1 (me n fl i a z.1).length z.2.2 (me n fl i a z.1)::eC A5 Am i cm::eC A4 none 0 0::Bx 58 3 A2 [ak n,.slice A a1 cA,.slice D d1 cD]::(aL 34 2 Am i cm kc (nG n fl i)++ []))) (fun z=>N - z.1) (0,Ab,cb) (amz O) ⟨aZ _,hS⟩ ?_);clear hS;rintro⟨b,Ab,cb⟩ e2 w8 ⟨hb,hS⟩;dsimp only at hb hS|-;have l6:=UF (n:=n) (i:=i) (a:=a) (b:=b) (show b<=fl.length by omega);have Bf:a*fl.length<=400*400:=Nat.mul_le_mul (by omega) (by omega);refine bg O (bc O O (aC O ?_));refine aM _ O (fun h3=>?_) (fun h3=>?_)
   ·have HI:b<N:=by omega
    have yz:=hS.cT hF;have ur:=yz.at_ (i:=(a:Int)) (by omega) (by omega);have sD:=yz.at_ (i:=(b:Int)) (by omega) (by omega);have hla:(gl fl a).length=n:=hl _ (by rw [b7 (by omega)];exact dQ _);have H7:(gl fl b).length=n:=hl _ (by rw [b7 (by omega)];exact dQ _);have Ib:(rg fH a).n=n:=by rw [<-ur.1];exact hla
    have hnb:(rg fH b).n=n:=by rw [<-sD.1];exact H7
    have hdf:=Zs hn hl du (show a<fl.length by omega) (show b<fl.length by omega);have uq:=agN (n:=n) (fl:=fl) (i:=i) (a:=a) (b:=b);have tw:=agP (n:=n) (fl:=fl) (i:=i) (a:=a) (b:=b);rw [<-hdf]at uq tw;have nz:=yz.top
    by_cases q1:a=b
    ·refine dw O (eo [xI ((a:Int)),xI ((b:Int)),xB (decide (¬((a:Int))=((b:Int)))),xB (false),xU,xU,xU,xU,xU,xU,xU,xU,xU,xU,xB (false),xB (false),xU,xU,xU,xU,xU,xU,xU,xU,xU,xU,xU,xU,xU,xU,xU,xB (false)] O (eL O) ?_ ?_)
     ·exact⟨Dr O,Dr O,Dr O,fun _ _ _ _ _=>Dk O (by exact aF Value.bool (cj (by omega))),Dr O,Dr O,Dr O,Dr O,Dr O,Dr O,Dr O,Dr O,Dr O,Dr O,Dr O,Dr O,Dr O,Dr O,Dr O,Dr O,Dr O,Dr O,Dr O,Dr O,Dr O,Dr O,Dr O,Dr O,Dr O,Dr O,Dr O,Dr O,au⟩
     intro u w9 pk _;have hS:=hS.aq pk;refine eP O (Cd.fC O ?_);have tw:=tw (fun h=>h.1 q1);refine aA O (aH O (aT O (tQ ?_)));exact⟨(b+1,Ab,cb),by show N - (b+1)<N - b;omega,⟨O,O,O,O,O,aF (fun L:ai=>Value.slice Ab L.length cb) tw.symm,O,O,au⟩,by show b+1<=N;omega,by show St w w9 (ax _ Ab (me n fl i a (b+1)).length cb _::_);rw [tw];exact hS⟩
    by_cases q2:tc (gl fl a) (gl fl b) n=1
    ·refine dw O ?_;refine eo [xI ((a:Int)),xI ((b:Int)),xB (decide (¬((a:Int))=((b:Int)))),xB (true),xS (F) (N) (cF),xI ((a:Int)),xP (ay (F) ((a:Int)).toNat),xS ((rg (fH) ((a:Int))).a) ((rg (fH) ((a:Int))).n) ((rg (fH) ((a:Int))).c),xS (F) (N) (cF),xI ((b:Int)),xP (ay (F) ((b:Int)).toNat),xS ((rg (fH) ((b:Int))).a) ((rg (fH) ((b:Int))).n) ((rg (fH) ((b:Int))).c),xI (((tc (gl fl a) (gl fl b) (rg fH a).n:Nat):Int)),xB (true),xB (true),xB (true),xS (F) (N) (cF),xI ((a:Int)),xP (ay (F) ((a:Int)).toNat),xS ((rg (fH) ((a:Int))).a) ((rg (fH) ((a:Int))).n) ((rg (fH) ((a:Int))).c),xI ((i:Int)),xP (ay ((rg (fH) ((a:Int))).a) ((i:Int)).toNat),xI (gi (gl fl a) ((i:Int))),xS (F) (N) (cF),xI ((b:Int)),xP (ay (F) ((b:Int)).toNat),xS ((rg (fH) ((b:Int))).a) ((rg (fH) ((b:Int))).n) ((rg (fH) ((b:Int))).c),xI ((i:Int)),xP (ay ((rg (fH) ((b:Int))).a) ((i:Int)).toNat),xI (gi (gl fl b) ((i:Int))),xB (decide (¬(gi (gl fl a) ((i:Int)))=(gi (gl fl b) ((i:Int))))),xB (decide (¬(gi (gl fl a) ((i:Int)))=(gi (gl fl b) ((i:Int)))))] O (eL O) ?_ ?_
     ·refine⟨Dr O,Dr O,Dr O,fun _ _ _ _ _=>Dk O (by exact aF Value.bool (dM (by omega))),Dr O,Dr O,fun _ _ hb _ _=>av O (aD (nz.aq hb).2 O Az),fun _ _ hb _ _=>av O (bW (nz.aq hb) O Az),Dr O,Dr O,fun _ _ hb _ _=>av O (aD (nz.aq hb).2 O Az),fun _ _ hb _ _=>av O (bW (nz.aq hb) O Az),?_,fun _ _ _ _ _=>Dk O (by exact aF Value.bool (dM (by rw [Ib,q2];rfl))),Dr O,Dr O,Dr O,Dr O,fun _ _ hb _ _=>av O (aD (nz.aq hb).2 O Az),fun _ _ hb _ _=>av O (bW (nz.aq hb) O Az),Dr O,fun _ _ hb _ _=>av O (aD (ur.aq hb).2 O Az),fun _ _ hb _ _=>av O (a8 (ur.aq hb) O Az),Dr O,Dr O,fun _ _ hb _ _=>av O (aD (nz.aq hb).2 O Az),fun _ _ hb _ _=>av O (bW (nz.aq hb) O Az),Dr O,fun _ _ hb _ _=>av O (aD (sD.aq hb).2 O Az),fun _ _ hb _ _=>av O (a8 (sD.aq hb) O Az),Dr O,Dr O,au⟩;intro e1 w1 hb hp aW;refine av O (aQ (T9 (rg fH a).a (rg fH b).a (rg fH a).n (rg fH a).c (rg fH b).n (rg fH b).c (gl fl a) (gl fl b) _ (ur.aq hb) (sD.aq hb) (by omega) (by omega)) O ?_);rintro _ w2 ⟨rfl,aw⟩;refine ao.n ?_;exact fM.dn aw.below (by exact O)
     intro u w9 pk _;have hS:=hS.aq pk;refine eP O (aM _ O (fun h4=>?_) (fun h4=>?_))
     ·have uq:=uq ⟨q1,q2,h4⟩;refine aA O (eS hS O O O ?_);intro A9 dV bN;refine fk 1 bN O (bN.bz 0 O) O O O ?_;intro AZ cZ dZ eA;have eA:=eA.tail;refine ar O (aH O (aT O (tQ ?_)));refine⟨(b+1,AZ,cZ),by show N - (b+1)<N - b;omega,⟨O,O,O,O,O,?_,O,O,au⟩,by show b+1<=N;omega,?_⟩
      ·show Value.slice _ _ _=Value.slice _ _ _;rw [uq,b8];rfl
      show St w dZ (ax _ AZ (me n fl i a (b+1)).length cZ _::_);rw [uq,b8];exact eA
     have tw:=tw (fun h=>h4 h.2.2);refine aA O (aH O (aT O (tQ ?_)));exact⟨(b+1,Ab,cb),by show N - (b+1)<N - b;omega,⟨O,O,O,O,O,aF (fun L:ai=>Value.slice Ab L.length cb) tw.symm,O,O,au⟩,by show b+1<=N;omega,by show St w w9 (ax _ Ab (me n fl i a (b+1)).length cb _::_);rw [tw];exact hS⟩
    refine dw O ?_;refine eo [xI ((a:Int)),xI ((b:Int)),xB (decide (¬((a:Int))=((b:Int)))),xB (true),xS (F) (N) (cF),xI ((a:Int)),xP (ay (F) ((a:Int)).toNat),xS ((rg (fH) ((a:Int))).a) ((rg (fH) ((a:Int))).n) ((rg (fH) ((a:Int))).c),xS (F) (N) (cF),xI ((b:Int)),xP (ay (F) ((b:Int)).toNat),xS ((rg (fH) ((b:Int))).a) ((rg (fH) ((b:Int))).n) ((rg (fH) ((b:Int))).c),xI (((tc (gl fl a) (gl fl b) (rg fH a).n:Nat):Int)),xB (false),xB (false),xB (false),xU,xU,xU,xU,xU,xU,xU,xU,xU,xU,xU,xU,xU,xU,xU,xB (false)] O (eL O) ?_ ?_
    ·refine⟨Dr O,Dr O,Dr O,fun _ _ _ _ _=>Dk O (by exact aF Value.bool (dM (by omega))),Dr O,Dr O,fun _ _ hb _ _=>av O (aD (nz.aq hb).2 O Az),fun _ _ hb _ _=>av O (bW (nz.aq hb) O Az),Dr O,Dr O,fun _ _ hb _ _=>av O (aD (nz.aq hb).2 O Az),fun _ _ hb _ _=>av O (bW (nz.aq hb) O Az),?_,fun _ _ _ _ _=>Dk O (by exact aF Value.bool (cj (by rw [Ib];omega))),Dr O,Dr O,Dr O,Dr O,Dr O,Dr O,Dr O,Dr O,Dr O,Dr O,Dr O,Dr O,Dr O,Dr O,Dr O,Dr O,Dr O,Dr O,au⟩;intro e1 w1 hb hp aW;refine av O (aQ (T9 (rg fH a).a (rg fH b).a (rg fH a).n (rg fH a).c (rg fH b).n (rg fH b).c (gl fl a) (gl fl b) _ (ur.aq hb) (sD.aq hb) (by omega) (by omega)) O ?_);rintro _ w2 ⟨rfl,aw⟩;refine ao.n ?_;exact fM.dn aw.below (by exact O)
    intro u w9 pk _;have hS:=hS.aq pk;refine eP O (Cd.fC O ?_);have tw:=tw (fun h=>q2 h.2.1);refine aA O (aH O (aT O (tQ ?_)));exact⟨(b+1,Ab,cb),by show N - (b+1)<N - b;omega,⟨O,O,O,O,O,aF (fun L:ai=>Value.slice Ab L.length cb) tw.symm,O,O,au⟩,by show b+1<=N;omega,by show St w w9 (ax _ Ab (me n fl i a (b+1)).length cb _::_);rw [tw];exact hS⟩
   have qS:b=fl.length:=by omega
   subst qS;rw [<-agO]at hS|-;refine bn O (bo (cL O (aH O (aT O (tQ ?_)))));exact⟨(a+1,Ab,cb),by show N - (a+1)<N - a;omega,(amz O),by show a+1<=N;omega,hS⟩
  have xk:a=fl.length:=by omega
  subst xk;have l6:=UF (n:=n) (i:=i) (a:=fl.length) (b:=0) (show 0<=fl.length by omega);have Bf:fl.length*fl.length<=400*400:=Nat.mul_le_mul (by omega) (by omega);rw [agM]at hS l6|-;have wc:=UA n fl i;refine bn O (bo (cL O ?_));refine aU (hS.rd 1 O) O (amv (j:=0) (hS.rd 1 O) O O O O O (ar O (kV hS O O O ?_)));intro A9 w8 b6;refine lA 5 b6 O (b6.fG 0 O) O O O (by omega) (by omega) O fun AZ cZ w9 bL=>aU (bL.rd 2 O) O (kF 2 (j:=0) bL O O O O O ?_);intro dV bN;have bN:=bN.tail;have bN:=bN.perm (ahB _ _ _ _ _ _);refine ar O (aH O (aT O (tQ ?_)));refine⟨(i+1,(AZ,cZ),kc++ [⟨Ab,(vw n fl i).length,cb⟩]),by show n - (i+1)<n - i;omega,(amz O),by show i+1<=n;omega,by show(kc++ [_]).length=i+1;rw [b8,ot];rfl,?_⟩;show St w dV (eC A5 AZ (i+1) cZ::eC A4 none 0 0::Bx 58 3 A2 [ak n,.slice A a1 cA,.slice D d1 cD]::(aL 34 2 AZ (i+1) cZ (kc++ [_]) (nG n fl (i+1))++ []));rw [wc];unfold aL;rw [o9 (by rw [ot,Uz])];exact bN
 obtain rfl:i=n:=by omega
 refine bn O (bo (cL O ?_));refine ao.dq 0 (hS.rd 0 O) O O O (bO 1 1 hS O O O O O O O ?_);intro w6 bk;refine bI O (ij O (bk.rd 1 O) ?_);exact⟨Am,cm,kc,O,ot,bk.sub (show List.Sublist _ (_::_::_::_) from((kU _).cons _ |>.cons _ |>.cons _))⟩
abbrev Dw(A6:aj)(N:Nat)(mv:ai)(g:Nat)(L:List (ByteArray×Int))(A3 A2 Am:aj)(i cm:Nat)(kc:List aO)(T:ah):List Ck:=
 ax 2 A6 N N mv::fu 163 g (dY Value.string (Value.int .i64) L)::eC A3 Am i cm::eC A2 none 0 0::(aL 34 2 Am i cm kc T++ [])
theorem ahD{α:Type}(b m q1 q2:α)(X:List α):(b::q1::q2::m::(X++ [])).Perm (q1::q2::m::((X++ [b])++ [])):=by
 classical
 refine jA.2 fun z=>?_
 simp only [lu,jz,kC];omega
theorem agd(n:Nat)(F:aj)(N cF:Nat)(fH:List aO)(fl:ah)(w:aa)(hT:kX w)(hF:bF w F N fH fl)(hl:∀x∈fl,x.length=n/\∀e∈x,0<=e/\e<=1000)(CT:jX n fl)(hN:0<N/\N<=400)(S4:n<=1000):
 aK prog 94 [.slice F N cF] w (fun v w'=>∃A' c' rs',v= .agg #[.slice A' n c']/\rs'.length=n/\St w w' (aL 34 2 A' n c' rs' (bV n fl)++ [])):=by
 have jQ:fl.length=N:=hF.len;have oT:∀x∈fl,x.length=n:=fun x hx=> (hl x hx).1
 refine bA func94 O ntmps94 O (qp O O) (bg O (gH (St.refl w) O ?_));intro A2 w1 aI;refine ar O (gH aI O ?_);intro A3 w2 aE;have aE:St w w2 (eC A3 none 0 0::eC A2 none 0 0::(aL 34 2 none 0 0 [] (nG n fl 0)++ [])):=(aE.nil 34).perm (List.perm_append_singleton _ _).symm;clear aI;have od:=aE.cT hF;have Rp:=od.at_ (i:=(0:Int)) (by omega) (by omega);have oo:(rg fH (0:Int)).n=n:=by rw [<-Rp.1];exact oT _ (by rw [show(0:Int)=((0:Nat):Int) from O,b7 (by omega)];exact dQ _)
 refine ar O (aD od.top.2 O ?_);refine amt od.top O (by show(0:Int).toNat<N;exact hN.1) O O ?_;refine bc O O (aC O ?_);refine Cd.loop (α:=Nat×(aj×Nat)×List aO) (fun z=> [(0,.slice F N cF),(2,.pointer A2),(3,.pointer A3),(16,ak n),(17,ak (z.1:Int))]) (fun z w'=>z.1<=n/\z.2.2.length=z.1/\St w w' (eC A3 z.2.1.1 z.1 z.2.1.2::eC A2 none 0 0::(aL 34 2 z.2.1.1 z.1 z.2.1.2 z.2.2 (nG n fl z.1)++ []))) (fun z=>n - z.1) (0,(none,0),[]) ⟨O,O,O,aF (fun m:Nat=>Value.int .i64 (m:Int)) oo,O,au⟩ ⟨aZ _,O,aE⟩ ?_;clear aE od Rp;rintro⟨i,⟨Am,cm⟩,kc⟩ e w5 ⟨hi,ot,hS⟩;dsimp only at hi ot hS|-;refine bJ O (aM _ O (fun h1=>?_) (fun h1=>?_))
 ·have du:i<n:=by omega
  refine aA O (BZ hS O ?_);intro g w6 bk;refine ar O (bc O O ?_);refine wP N bk O O ⟨by omega,by omega⟩ ?_;intro A6 w7 bG;have bG:St w w7 (Dw A6 N (mX n fl i 0) g [] A3 A2 Am i cm kc (nG n fl i)):=by
   have e0:=agQ (n:=n) (fl:=fl) (i:=i);rw [jQ]at e0;rw [e0];exact bG
  clear bk hS;refine ar O (bc O O (aC O ?_));refine Cd.loop (α:=Nat×List (ByteArray×Int)) (fun z=> [(0,.slice F N cF),(2,.pointer A2),(3,.pointer A3),(4,ak i),(5,.map (some g)),(6,.slice A6 N N),(16,ak n),(17,ak i),(24,.slice F N cF),(25,ak N),(26,ak (z.1:Int))]) (fun z w'=>z.1<=N/\tO n fl i z.1 z.2/\St w w' (Dw A6 N (mX n fl i z.1) g z.2 A3 A2 Am i cm kc (nG n fl i))) (fun z=>N - z.1) (0,[]) (amz O) ⟨aZ _,tO.zero,bG⟩ ?_;clear bG;rintro⟨f,L⟩ e1 w8 ⟨hf,Hr,hS⟩;dsimp only at hf Hr hS|-;refine bJ O (aM _ O (fun h2=>?_) (fun h2=>?_))
  ·have lp:f<fl.length:=by omega
   have yz:=hS.cT hF;have sE:=yz.at_ (i:=(f:Int)) (by omega) (by omega);have Mh:gl fl f∈fl:=by rw [b7 lp];exact dQ _
   have AG:=hl _ Mh;have Dd:(rg fH f).n=n:=by rw [<-sE.1];exact AG.1
   have EL:=Hr.at_ lp;have vn:=CT.lt lp du;have hmvl:=agT (n:=n) (fl:=fl) (i:=i) (f:=f);refine aA O (aD yz.top.2 O (bW yz.top O (ar O (aQ (Ge _ _ _ (gl fl f) _ sE (by omega)) O ?_))));rintro _ w9 ⟨A9,c9,rfl,aw⟩;have bL:=hS.call aw;clear hS aw yz sE;rw [Dd]at bL|-;have bL:St w w9 (ax 2 A9 n c9 (gl fl f)::Dw A6 N (mX n fl i f) g L A3 A2 Am i cm kc (nG n fl i)):=bL;refine ar O (aD (bL.rd 0 O) O (lC 0 (i:=(i:Int)) bL O O O (by omega) ?_));intro dV bN;have bN:St w dV (ax 2 A9 n c9 (iK (gl fl f) i)::Dw A6 N (mX n fl i f) g L A3 A2 Am i cm kc (nG n fl i)):=bN;refine ar O ?_;refine amq (Bm A9 n c9 (iK (gl fl f) i) _ (hT.aq bN.below) (bN.bz 0 O) (fun x hx=>by
    rcases List.mem_or_eq_of_mem_set hx with hx | rfl
    ·have:=AG.2 x hx;omega
    omega) (by omega)) rfl rfl rfl ?_
   rintro _ dZ ⟨rfl,aw⟩;have eA:=bN.tail.aq aw.below;clear bL bN aw;refine ar O (Xn Bn (ju (iK (gl fl f) i)) (eA.Bz 1 O) O O O ?_);rw [EL]
   by_cases hp:e6 n fl i f<f
   ·rw [aB hp];have acI:=agS CT du lp hp;refine aC O (Cd.gC O (aA O (aD (eA.rd 0 O) O (lC 0 (i:=(f:Int)) eA O O O (by omega) ?_))));intro fg dG;refine amn (dG.rd 0 O) O O O (by show(0:Int)<=(e6 n fl i f:Int);omega) (by show(e6 n fl i f:Int)< (N:Int);omega) ?_;refine lC 0 (i:=(e6 n fl i f:Int)) dG O O O (by omega) fun gj ic=>ar O (aH O (aT O (tQ ?_)));refine⟨(f+1,L),by show N - (f+1)<N - f;omega,(amz O),by show f+1<=N;omega,Hr.H0 CT du lp hp,?_⟩;show St w gj (Dw A6 N (mX n fl i (f+1)) g L A3 A2 Am i cm kc (nG n fl i));rw [acI];exact ic
   rw [az hp];have ac0:=agU CT du lp hp;refine aC O (Cd.fC O (aA O (B3 O Bn 1 (u:=(f:Int)) (a:=ju (iK (gl fl f) i)) (vv:=Value.int .i64) eA O O O O ?_)));intro fg dG;refine ar O (aH O (aT O (tQ ?_)));refine⟨(f+1,eO L (ju (iK (gl fl f) i)) (f:Int)),by show N - (f+1)<N - f;omega,(amz O),by show f+1<=N;omega,Hr.agt CT oT du lp hp,?_⟩;show St w fg (Dw A6 N (mX n fl i (f+1)) g _ A3 A2 Am i cm kc (nG n fl i));rw [ac0];exact dG
  have hfe:f=fl.length:=by omega
  subst hfe;rw [agR CT du]at hS;have wc:=UA n fl i;have hS:St w w8 (ax 2 A6 N N (vw n fl i)::eC A3 Am i cm::eC A2 none 0 0::(aL 34 2 Am i cm kc (nG n fl i)++ [])):=hS.sub ((kU _).cons _ |>.cons_cons _);refine bn O (bo (cL O ?_));refine aU (hS.rd 1 O) O (amv (j:=0) (hS.rd 1 O) O O O O O (ar O (kV hS O O O ?_)));intro A9 w9 bL;refine lA 4 bL O (bL.fG 0 O) O O O (by omega) (by omega) O fun AZ cZ dV bN=>aU (bN.rd 2 O) O (kF 2 (j:=0) bN O O O O O ?_);intro dZ eA;have eA:=eA.tail;have eA:=eA.perm (ahD _ _ _ _ _);refine ar O (aH O (aT O (tQ ?_)));refine⟨(i+1,(AZ,cZ),kc++ [⟨A6,N,N⟩]),by show n - (i+1)<n - i;omega,(amz O),by show i+1<=n;omega,by show(kc++ [_]).length=i+1;rw [b8,ot];rfl,?_⟩;show St w dZ (eC A3 AZ (i+1) cZ::eC A2 none 0 0::(aL 34 2 AZ (i+1) cZ (kc++ [_]) (nG n fl (i+1))++ []));rw [wc];unfold aL;rw [o9 (by rw [ot,Uz])];exact eA
 obtain rfl:i=n:=by omega
 refine bn O (bo (cL O ?_));refine ao.dq 0 (hS.rd 0 O) O O O (bO 1 1 hS O O O O O O O ?_);intro w6 bk;refine bI O (ij O (bk.rd 1 O) ?_);exact⟨Am,cm,kc,O,ot,bk.sub (show List.Sublist _ (_::_::_) from((kU _).cons _ |>.cons _))⟩
noncomputable def zq(n:Nat)(R:ai)(B:ah):Int:=pR n R B
noncomputable def vx(n:Nat)(R:ai)(B:ah):ah:=if pR n R B=0 then bV n (aG n R B)else []
theorem Nv{n:Nat}{R:ai}{B:ah}(h:(aG n R B).length<=400):pR n R B=0/\xa n R B=aG n R B/\vx n R B=bV n (aG n R B):=by
 have e:pR n R B=0:=by unfold pR;rw [if_pos h]
 refine⟨e,by unfold xa;rw [if_pos h],by unfold vx;rw [if_pos e]⟩
theorem UJ{n:Nat}{R:ai}{B:ah}(h:¬(aG n R B).length<=400):pR n R B=3/\vx n R B=[]:=by
 have e:pR n R B=3:=by unfold pR;rw [if_neg h]
 exact⟨e,by unfold vx;rw [if_neg (by rw [e];decide)]⟩
theorem QY{n:Nat}{R:ai}{B:ah}(hP:gr n R B):∀x∈aG n R B,x.length=n/\∀e∈x,0<=e/\e<=1000:=fun x hx=>by
 have hn:=hP.n1;have hb:=hP.pe;have h:=(pS (by omega)).1 hx;refine⟨h.1,fun e he=>?_⟩;obtain⟨k,hk,rfl⟩:=gF.1 he;have:=(h.2.1 k (by omega)).1;rw [b9 hk]at this;omega
theorem ahW(n:Nat)(A D:aj)(cA cD:Nat)(R:ai)(rs:List aO)(B:ah)(w:aa)(hT:kX w)(hR:cg w A R.length R)(hB:bF w D B.length rs B)(hP:gr n R B)(hD:uN n R B)(bU:aG n R B≠[]):
 aK prog 188 [.agg #[ak n,.slice A R.length cA,.slice D B.length cD],ak 0] w (qx (vx n R B) (zq n R B) w):=by
 have hn:=hP.n1;refine bA func188 O ntmps188 O (tD O O) (bg O (nV (St.refl w) O O ?_));intro A2 w1 aI;refine gH aI O fun A4 w2 aE=>aC O (nP O (fun h=>h O) (aA O (ao.dq 2 (aE.rd 1 O) O O O (aQ (QQ n A D cA cD R rs B _ (aE.gh hR) (aE.cT hB) hP) O ?_))));rintro _ w3 ⟨AF,cF,fH,rfl,Fe,aw⟩;have og:=Rd.below (aE.rd 0 O) aw.below
 by_cases hf:(aG n R B).length<=400
 ·obtain⟨e1,e2,e3⟩:=Nv hf;have e4:zq n R B=0:=e1;rw [e2]at aw|-;rw [e1,e3,e4];rw [e2]at Fe;have hF:bF w3 AF (aG n R B).length fH (aG n R B):=aw.jj O;have aR:=aE.aq aw.below;refine aC O (Cd.fC O (aA O ?_));have hT3:=hT.aq aR.below;refine aQ (agd n AF _ cF fH _ _ hT3 hF (QY hP) (CG hP hD) ⟨List.length_pos_iff.2 bU,hf⟩ (by omega)) O ?_;rintro _ w4 ⟨Am,cm,kc,rfl,ot,qW⟩;have l6:=sI n (aG n R B);have aX:=(aR.call qW).perm nT;refine bO 1 0 aX O O O O O O O fun w5 aY=>bI O (kb O (aY.rd 0 O) O ?_);refine⟨Am,cm,kc,by rw [l6];rfl,by rw [l6];exact ot,?_⟩;rw [l6];have h9:=aY.sub (show List.Sublist _ (_::_::_) from((kU _).cons _ |>.cons _))
  rwa [fj]at h9
 obtain⟨e1,e3⟩:=UJ hf;have e4:zq n R B=3:=e1;rw [e1,e3,e4];have aR:=aE.aq aw.below;refine aC O (Cd.gC O (aA O (vN (by exact inferInstance) O (ar O (bO 1 0 aR O O O O O O O ?_)))));intro w5 aY;refine bI O (kb O (aY.rd 0 O) O ?_);exact qx.none aY
noncomputable def Dy(M K:ah)(kind:Int):Int:=if jw M K kind=0 then zq (gY M K kind) (jv M K kind) (tC M K kind)else jw M K kind
noncomputable def mB(M K:ah)(kind:Int):ah:=if jw M K kind=0 then vx (gY M K kind) (jv M K kind) (tC M K kind)else []
theorem I5{M K:ah}{kind:Int}(h:jw M K kind=0):o7 M K kind=0/\gY M K kind<=5/\(jv M K kind).length<=500:=by
 unfold jw at h
 split at h
 ·rename_i h1;refine⟨h1,?_⟩
  by_cases h2:5<gY M K kind\/500< (jv M K kind).length
  ·rw [aB h2]at h;exact absurd h (by decide)
  omega
 contradiction
theorem I2{M K:ah}{kind:Int}(h:jw M K kind=0):gr (gY M K kind:Nat) (jv M K kind) (tC M K kind)/\uN (gY M K kind:Nat) (jv M K kind) (tC M K kind)/\aG (gY M K kind) (jv M K kind) (tC M K kind)≠[]:=by
 obtain⟨hp,h5,K3⟩:=I5 h;obtain⟨oj,vg,vf⟩:=FN hp;obtain⟨lH,ny⟩:=th vg;obtain⟨mN,pj⟩:=th vf;have l1:=zk lH ny.1;have l2:=zk mN pj.1;have d1:=GU (sK lH ny.1) ny.2.2.2.2.1;have d2:=GU (sK mN pj.1) pj.2.2.2.2.1;have c1:=GO (sK lH ny.1) ny.2.2.1;have c2:=GO (sK mN pj.1) pj.2.2.1;rw [oH]at d1 d2 c1 c2;have hk:=I1 (kind:=kind) lH mN;have m1:=lH.1;have k1:=mN.1;have oV:2<=iC M.length K.length kind:=by unfold iC;split<;>omega
 have hl:(NN M K kind).length<=500:=by unfold jv at K3;rwa [List.length_map]at K3
 exact⟨ah6 l1 l2 ⟨by omega,h5⟩ hl,Vm l1 l2 d1 d2 oj hk (by omega) ⟨by omega,.inl (by omega)⟩,Vn l1 l2 c1 c2 oj hk (by omega) ⟨by omega,.inl (by omega)⟩⟩
theorem agV{n:Nat}{R:ai}{B:ah}(hP:gr n R B)(hD:uN n R B):(vx n R B).length<=5/\∀x∈vx n R B,x.length<=400:=by
 have hn:=hP.n1;unfold vx
 split
 ·rename_i h;have hf:(aG n R B).length<=400:=by
   unfold pR at h
   split at h
   ·assumption
   exact absurd h (by decide)
  refine⟨by rw [sI];omega,fun x hx=>?_⟩;obtain⟨i,hi,rfl⟩:=(IW (CG hP hD)).1 hx;rw [Du (CG hP hD) hi];exact hf
 exact⟨aZ _,fun x hx=>nomatch hx⟩
theorem ahS(M K:ah)(kind:Int):(mB M K kind).length<=5/\∀x∈mB M K kind,x.length<=400:=by
 unfold mB
 split
 ·rename_i h;have:=I2 h;exact agV this.1 this.2.1
 exact⟨aZ _,fun x hx=>nomatch hx⟩
theorem ahV(p:Int)(A D:aj)(a cA d cD:Nat)(K:Int)(hK:K≠0)(w:aa):
 aK prog 188 [.agg #[ak p,.slice A a cA,.slice D d cD],ak K] w (qx [] K w):=by
 refine bA func188 O ntmps188 O (tD O O) (bg O (nV (St.refl w) O O ?_));intro A2 w1 aI;refine gH aI O fun A4 w2 aE=>aC O (DU O hK (aA O (vN (by exact inferInstance) O (ar O (bO 1 0 aE O O O O O O O ?_)))));intro w3 aR;refine bI O (kb O (aR.rd 0 O) O ?_);exact qx.none aR
theorem ahU(M K:ah)(kind:Int)(A D:aj)(cA cD:Nat)(rs:List aO)(w:aa)(hT:kX w)(hR:cg w A (nN M K kind).length (nN M K kind))(hB:bF w D (nM M K kind).length rs (nM M K kind)):
 aK prog 188 [.agg #[ak (sL M K kind),.slice A (nN M K kind).length cA,.slice D (nM M K kind).length cD],ak (jw M K kind)] w (qx (mB M K kind) (Dy M K kind) w):=by
 unfold mB Dy
 by_cases h:jw M K kind=0
 ·rw [aB h,aB h];have dm:=I2 h;have e1:sL M K kind=(gY M K kind:Nat):=by unfold sL;rw [if_pos h]
  have e2:nN M K kind=jv M K kind:=by unfold nN;rw [if_pos h]
  have e3:nM M K kind=tC M K kind:=by unfold nM;rw [if_pos h]
  rw [e1,h];rw [e2]at hR|-;rw [e3]at hB|-;exact ahW (gY M K kind) A D cA cD _ rs _ w hT hR hB dm.1 dm.2.1 dm.2.2
 rw [az h,az h];exact ahV _ A D _ cA _ cD _ h w
theorem afu(X8 Z8 Y8 W8:aj)(cx cz cy cw:Nat)(a1 a2 a3 a4:Nat)(n1 n2 kind:Int)(ok:Bool)(N:Int)(k:Nat)(R:ai)(B:ah)(w:aa)(hpx:∀w',Below w.heap.size w w'->aK prog 236 [.agg #[ak n1,.slice X8 a1 cx,.slice Y8 a2 cy],.agg #[ak n2,.slice Z8 a3 cz,.slice W8 a4 cw],ak kind] w' (Js N R B ok w'))(hQ:ok=true->N=(k:Int)/\gr k R B):
 aK prog 181 [.agg #[ak n1,.slice X8 a1 cx,.slice Y8 a2 cy],.agg #[ak n2,.slice Z8 a3 cz,.slice W8 a4 cw],ak kind] w (qx (if ok=true then vx k R B else []) (if ok=true then zq k R B else 3) w):=by
 refine bA func181 O ntmps181 O (tD O O) (bg O (nV (St.refl w) O O ?_));intro A3 w1 aI;refine nV aI O O fun A4 w2 aE=>gH aE O fun A6 w3 aR=>ar O (ao.dq 2 (aR.rd 2 O) O O O (ao.dq 2 (aR.rd 1 O) O O O (ar O (aQ (hpx _ aR.below) O ?_))));rintro _ w4 ⟨AR,cR,AD,cD,dv,rfl,l8,aw⟩;have EH:=aw.bz 0 O;have K9:bF w4 AD B.length dv B:=St.jj aw.tail O;have aX:=aR.aq aw.below;clear aw aR aE aI;refine ar O (nj (St.refl w4) O ?_);intro A8 w5 wa;refine bO 3 0 wa O O O O O O O ?_;intro w6 HB;have bk:=aX.aq HB.below;have An:=HB.rd 0 O;have EH:=EH.aq HB.below;have K9:=K9.aq HB.below;cases ok
 ·refine ar O ?_
  first | refine fv rfl rfl ?_ | refine gA rfl rfl ?_
  refine aC O (Cd.gC O (aA O (vN (by exact inferInstance) O (bO 1 0 bk O O O O O O O ?_))));intro w7 bG;refine bI O (kb O (bG.rd 0 O) O ?_);exact qx.none bG
 obtain⟨rfl,hP⟩:=hQ rfl;rw [aB rfl,aB rfl];have hn:=hP.n1;refine ar O ?_
 first | refine fv rfl rfl ?_ | refine gA rfl rfl ?_
 refine aC O (Cd.fC O (aA O (ao.dq 2 An O O O (aQ (afm k AR AD cR cD R dv B _ EH K9 hP) O ?_))));rintro _ w7 ⟨AF,cF,fH,rfl,Fe,aw⟩;have bG:=bk.aq aw.below;have An:=Rd.below An aw.below
 by_cases hf:(aG k R B).length<=400
 ·obtain⟨e1,e2,e3⟩:=Nv hf;have e4:zq k R B=0:=e1;rw [J9 (GK.2 hf)]at aw Fe|-;rw [e3,e4];have hF:bF w7 AF (aG k R B).length fH (aG k R B):=aw.jj O;refine ar O ?_
  first | refine fv rfl rfl ?_ | refine gA rfl rfl ?_
  refine aC O (nP O (fun h=>h hf) (aA O (ao.dq 2 An O O O (ar O ?_))));refine aQ (afn k AR AD AF _ cR _ cD _ cF fH _ _ hF (fun x hx=> (QY hP x hx).1) (G9 k R B).nodup hf (by omega)) O ?_;rintro _ w8 ⟨Am,cm,kc,rfl,ot,adU⟩;have l6:=sI k (aG k R B);have b6:=bG.call2 adU;refine bO 1 0 b6 O O O O O O O fun w9 bL=>bI O (kb O (bL.rd 0 O) O ?_);refine⟨Am,cm,kc,by rw [l6];rfl,by rw [l6];exact ot,?_⟩;rw [l6];have h9:=bL.sub (show List.Sublist _ (_::_::_::_) from((kU _).cons _ |>.cons _ |>.cons _))
  rwa [fj]at h9
 obtain⟨e1,e3⟩:=UJ hf;have e4:zq k R B=3:=e1;rw [e3,e4];refine ar O ?_
 first | refine fv rfl rfl ?_ | refine gA rfl rfl ?_
 refine aC O (DU O hf (aA O (vN (by exact inferInstance) O (bO 1 0 bG O O O O O O O ?_))));intro w8 b6;refine bI O (kb O (b6.rd 0 O) O ?_);exact qx.none b6
end
section
variable{M K:ah}{kind:Int}
theorem Rj(h:kJ M=0):uM (aS M M.length+2) (zw M) (DN M)/\mL (kl (aS M M.length+2) (zw M)) (DN M)/\∃U,mH (kl (aS M M.length+2) (zw M)) (DN M) U/\cU U M.length 0=(gl M 0).length:=by
 obtain⟨hM,hG⟩:=th h;have hP:=sK hM hG.1;have hb:=aab hM;have rp:=Vx hP hb;have hs:=aiX hP hb hG.2.2.2.2.2;obtain⟨U,hU⟩:=rp.en fun e h0 h1=>by have:=(hP.ri h0 h1).2;omega
 have hl:=Fz hP;have hf:=rp.flags hU (o:=0) ⟨⟨by omega,by omega⟩,by rw [hl.r0];rfl⟩ fun i a _=>hl.bot a
 have e:(CF M).length=(gl M 0).length:=hG.2.1;unfold CF at e;rw [e]at hf;rw [oH]at hb hs hU;exact⟨hb,hs,U,hU,hf.symm⟩
def CE(M K:ah)(kind:Int):Nat:=(gl M 0).length* (gl K 0).length* (if kind=0 then jM (M.length+1) (K.length+1)else jM M.length K.length)
theorem Vb(h:jw M K kind=0):zP (gY M K kind) (jv M K kind) (tC M K kind)/\(aG (gY M K kind) (jv M K kind) (tC M K kind)).length=CE M K kind:=by
 obtain⟨hp,h5,K3⟩:=I5 h;obtain⟨oj,vg,vf⟩:=FN hp;obtain⟨lH,ny⟩:=th vg;obtain⟨mN,pj⟩:=th vf;have l1:=zk lH ny.1;have l2:=zk mN pj.1;have d1:=GU (sK lH ny.1) ny.2.2.2.2.1;have d2:=GU (sK mN pj.1) pj.2.2.2.2.1;have c1:=GO (sK lH ny.1) ny.2.2.1;have c2:=GO (sK mN pj.1) pj.2.2.1;rw [oH]at d1 d2 c1 c2;have hk:=I1 (kind:=kind) lH mN;have m1:=lH.1;have k1:=mN.1;have oV:2<=iC M.length K.length kind:=by unfold iC;split<;>omega
 obtain⟨b1,s1,U1,e1,f1⟩:=Rj vg;obtain⟨b2,s2,U2,e2,f2⟩:=Rj vf;refine⟨ah5 l1 l2 b1 b2 s1 s2 d1 d2 c1 c2 oj hk (by omega) ⟨by omega,.inl (by omega)⟩,?_⟩;have:=ah4 l1 l2 b1 b2 e1 e2 oj hk (by omega);rw [f1,f2]at this;exact this
theorem ahR(h:jw M K kind=0)(hf:CE M K kind<=400):fp (gY M K kind) (jv M K kind) (tC M K kind):=by
 have hq:=Vb h;exact⟨(I2 h).1,hq.1,(I5 h).2.1,by rw [hq.2];exact hf⟩
theorem ahT(h:jw M K kind=0)(hf:CE M K kind<=400):kJ (mB M K kind)=0/\(mB M K kind).length=gY M K kind/\(gl (mB M K kind) 0).length=CE M K kind/\aS (mB M K kind) (mB M K kind).length=(jv M K kind).length:=by
 have hY:=ahR h hf;have hq:=Vb h;have e:mB M K kind=bV (gY M K kind) (aG (gY M K kind) (jv M K kind) (tC M K kind)):=by
  unfold mB;rw [if_pos h];exact(Nv (by rw [hq.2];exact hf)).2.2
 rw [e];refine⟨hY.gd,hY.len,by rw [hY.nl,hq.2],by rw [hY.len,hY.UR]⟩
theorem ah1{m1 m2:Nat}{rk1 rk2:Int->Int}(k:Nat):(ck m1 m2 rk1 rk2 kind k).length<=m1*m2:=by
 have hm:∀c∈ck m1 m2 rk1 rk2 kind k,(0<=c.1/\c.1< (m1:Int))/\(0<=c.2/\c.2< (m2:Int)):=fun c hc=>by
  obtain⟨i,_,h1,h2,_⟩:=tF.1 hc;exact⟨h1,h2⟩
 have hn:=FO (m1:=m1) (m2:=m2) (rk1:=rk1) (rk2:=rk2) (kind:=kind) k;generalize ck m1 m2 rk1 rk2 kind k=L at hm hn;have h1:(L.map fun c=>c.1* (m2:Int)+c.2).Nodup:=Br hn fun x hx y hy e=>by
  have hx:=hm x hx;have hy:=hm y hy;have e:x.1* (m2:Int)+x.2=y.1* (m2:Int)+y.2:=e;have e3:x.1=y.1:=by
   have a:(x.1* (m2:Int)+x.2) / (m2:Int)=(y.1* (m2:Int)+y.2) / (m2:Int):=by rw [e]
   rwa [Int.add_comm,Int.add_mul_ediv_right _ _ (by omega),Int.add_comm (y.1*_),Int.add_mul_ediv_right _ _ (by omega),Int.ediv_eq_zero_of_lt hx.2.1 hx.2.2,Int.ediv_eq_zero_of_lt hy.2.1 hy.2.2,Int.zero_add,Int.zero_add]at a
  rw [e3]at e;exact Prod.ext e3 (by omega)
 have:=sJ (N:=m1*m2) h1 fun v hv=>by
  obtain⟨c,hc,rfl⟩:=dA.1 hv;have hc:=hm c hc;have h3:0<=c.1* (m2:Int):=Int.mul_nonneg hc.1.1 (by omega);have h4:c.1* (m2:Int)<=((m1:Int) - 1)* (m2:Int):=Int.mul_le_mul_of_nonneg_right (by omega) (by omega);rw [Int.sub_mul,Int.one_mul]at h4;have h5:((m1*m2:Nat):Int)=(m1:Int)* (m2:Int):=Int.natCast_mul m1 m2;exact⟨by omega,by omega⟩
 rwa [fO]at this
theorem ahn(M K:ah)(kind:Int):(jv M K kind).length<=(aS M M.length+2)* (aS K K.length+2):=by
 unfold jv;rw [fO];exact ah1 _
end
end Go.Proofs.YtkccgdhcpplblaaGreatDoor.Vc
