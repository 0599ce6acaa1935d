/-
 Lemmas. Conditions: as each states them.
-/
import Derived.Test.YtkccgdhcpplblaaGreatDoorZh
set_option maxHeartbeats 8000000
namespace Go.Proofs.YtkccgdhcpplblaaGreatDoor.Vc
open Tryz
section
variable {α β:Type} {N N1 N2:Nat} {el:Nat->α->Prop} {le:α->α->Prop} {dI:Nat->α->Prop} {eH:α->α->Prop} {dJ:Nat->β->Prop} {eI:β->β->Prop}
theorem gP.lv(g:gP N el le){i j:Nat}{a b:α}(ha:el i a)(hb:el j b)(h:le a b):i<=j/\(i=j->a=b):=by
 rcases g.st ha hb h with e | e
 ·subst e;have:=g.one ha hb;exact⟨by omega,fun _=>rfl⟩
 exact⟨by omega,by omega⟩
theorem gP.Jq(g:gP N el le){k:Nat}{d:α}(hd:el k d)(hk:1<=k):∃v,el 1 v/\le v d:=by
 by_cases e:k=1
 ·subst e;exact⟨d,hd,g.rf _⟩
 obtain⟨o,ho,h⟩:=g.bot;obtain⟨c,hc,_,h2⟩:=g.tW ho hd (h k d hd).1 (by omega);exact⟨c,hc,h2⟩
def uW(dI:Nat->α->Prop)(dJ:Nat->β->Prop)(p:Nat)(c:α×β):Prop:=(p=0/\dI 0 c.1/\dJ 0 c.2)\/∃i j,1<=i/\1<=j/\dI i c.1/\dJ j c.2/\p+1=i+j
theorem GN(g1:gP N1 dI eH)(g2:gP N2 dJ eI)(n1:1<=N1)(n2:1<=N2):gP (N1+N2 - 1) (uW dI dJ) (nE eH eI) where
 one:=by
  rintro p q c (⟨e,a,b⟩ | ⟨i,j,hi,hj,a,b,e⟩) (⟨e',a',b'⟩ | ⟨i',j',di,gX,a',b',e'⟩)
  ·omega
  ·have:=g1.one a a';omega
  ·have:=g1.one a a';omega
  have:=g1.one a a';have:=g2.one b b';omega
 rf:=fun c=> ⟨g1.rf _,g2.rf _⟩
 tr:=by
  have key:∀ {p:Nat} {c:α×β},uW dI dJ p c->∃i j,dI i c.1/\dJ j c.2:=by
   rintro p c (⟨e,a,b⟩ | ⟨i,j,hi,hj,a,b,e⟩)
   ·exact⟨0,0,a,b⟩
   exact⟨i,j,a,b⟩
  intro p q r c d e h h' xf l l';obtain⟨_,_,a,b⟩:=key h;obtain⟨_,_,a',b'⟩:=key h';obtain⟨_,_,JN,JX⟩:=key xf;exact⟨g1.tr a a' JN l.1 l'.1,g2.tr b b' JX l.2 l'.2⟩
 st:=by
  rintro p q c d (⟨e,a,b⟩ | ⟨i,j,hi,hj,a,b,e⟩) (⟨e',a',b'⟩ | ⟨i',j',di,gX,a',b',e'⟩) h
  ·exact .inl (Prod.ext ((g1.lv a a' h.1).2 O) ((g2.lv b b' h.2).2 O))
  ·exact .inr (by omega)
  ·have:=(g1.lv a a' h.1).1;omega
  have h1:=g1.lv a a' h.1;have h2:=g2.lv b b' h.2
  by_cases q:i=i'/\j=j'
  ·exact .inl (Prod.ext (h1.2 q.1) (h2.2 q.2))
  exact .inr (by omega)
 tW:=by
  rintro p q c d (⟨e,a,b⟩ | ⟨i,j,hi,hj,a,b,e⟩) (⟨e',a',b'⟩ | ⟨i',j',di,gX,a',b',e'⟩) h uo
  ·omega
  ·obtain⟨v,hv,lv⟩:=g1.Jq a' di;obtain⟨w,hw,lw⟩:=g2.Jq b' gX;obtain⟨o1,h1,k1⟩:=g1.bot;obtain⟨o2,h2,k2⟩:=g2.bot;have e1:=(k1 0 _ a).2 O;have e2:=(k2 0 _ b).2 O;exact⟨(v,w),.inr ⟨1,1,by omega,by omega,hv,hw,by omega⟩,⟨by rw [e1];exact(k1 1 v hv).1,by rw [e2];exact(k2 1 w hw).1⟩,⟨lv,lw⟩⟩
  ·omega
  have h1:=g1.lv a a' h.1;have h2:=g2.lv b b' h.2
  by_cases q1:i+1<i'
  ·obtain⟨x,hx,x1,x2⟩:=g1.tW a a' h.1 q1;exact⟨(x,c.2),.inr ⟨i+1,j,by omega,hj,hx,b,by omega⟩,⟨x1,g2.rf _⟩,⟨x2,h.2⟩⟩
  by_cases q2:i+1=i'
  ·exact⟨(d.1,c.2),.inr ⟨i',j,di,hj,a',b,by omega⟩,⟨h.1,g2.rf _⟩,⟨g1.rf _,h.2⟩⟩
  obtain⟨x,hx,x1,x2⟩:=g2.tW b b' h.2 (by omega);exact⟨(c.1,x),.inr ⟨i,j+1,hi,by omega,a,hx,by omega⟩,⟨g1.rf _,x1⟩,⟨h.1,x2⟩⟩
 nX:=by
  rintro p c (⟨e,a,b⟩ | ⟨i,j,hi,hj,a,b,e⟩)
  ·omega
  have:=g1.nX a;have:=g2.nX b;omega
 bot:=by
  obtain⟨o1,h1,k1⟩:=g1.bot;obtain⟨o2,h2,k2⟩:=g2.bot;refine⟨(o1,o2),.inl ⟨O,h1,h2⟩,?_⟩;rintro p c (⟨e,a,b⟩ | ⟨i,j,hi,hj,a,b,e⟩)
  ·exact⟨⟨(k1 _ _ a).1,(k2 _ _ b).1⟩,fun _=>Prod.ext ((k1 _ _ a).2 O) ((k2 _ _ b).2 O)⟩
  exact⟨⟨(k1 _ _ a).1,(k2 _ _ b).1⟩,by omega⟩
 top:=by
  obtain⟨o1,h1,k1⟩:=g1.top;obtain⟨o2,h2,k2⟩:=g2.top;refine⟨(o1,o2),.inr ⟨N1,N2,n1,n2,h1,h2,by omega⟩,?_⟩;rintro p c (⟨e,a,b⟩ | ⟨i,j,hi,hj,a,b,e⟩)
  ·exact⟨⟨(k1 _ _ a).1,(k2 _ _ b).1⟩,by omega⟩
  have:=g1.nX a;have:=g2.nX b;exact⟨⟨(k1 _ _ a).1,(k2 _ _ b).1⟩,fun _=>Prod.ext ((k1 _ _ a).2 (by omega)) ((k2 _ _ b).2 (by omega))⟩
theorem Qa(g1:gP N1 dI eH)(g2:gP N2 dJ eI)(yN:mL dI eH)(oN:mL dJ eI):mL (uW dI dJ) (nE eH eI):=by
 rintro p q ⟨a1,a2⟩ ⟨b1,b2⟩ ha hb h uo r t ⟨c1,c2⟩ ⟨d1,d2⟩ ⟨c3,c4,hc,c5,c6⟩ ⟨d3,d4,hd,d5,d6⟩;rcases hb with⟨e,_,_⟩ | ⟨i1,j1,mm,LY,dF,eM,e⟩
 ·omega
 rcases hc with⟨e2,_,_⟩ | ⟨i,j,hi,hj,hc,po,e2⟩
 ·omega
 rcases hd with⟨e3,_,_⟩ | ⟨k,l,hk,hl,hd,oi,e3⟩
 ·omega
 obtain rfl:q=i1+j1 - 1:=by omega
 obtain rfl:r=i+j - 1:=by omega
 obtain rfl:t=k+l - 1:=by omega
 rcases ha with⟨e1,gW,ie⟩ | ⟨i0,j0,eY,SP,gW,ie,e1⟩
 ·subst e1;replace gW:dI 0 a1:=gW;replace ie:dJ 0 a2:=ie;replace dF:dI i1 b1:=dF;replace eM:dJ j1 b2:=eM;replace hc:dI i c1:=hc;replace po:dJ j c2:=po;replace hd:dI k d1:=hd;replace oi:dJ l d2:=oi;obtain⟨o1,sC,k1⟩:=g1.bot;obtain⟨o2,yY,k2⟩:=g2.bot;have x1:=(k1 0 _ gW).2 O;have x2:=(k2 0 _ ie).2 O;subst x1;subst x2;have mV:∀ {i j:Nat} {c1:α} {c2:β},1<=i->1<=j->dI i c1->dJ j c2->eH c1 b1->eI c2 b2->i+j<i1+j1->tP (uW dI dJ) (nE eH eI) 0 (i1+j1 - 1) (a1,a2) (b1,b2) (i+j - 1) (c1,c2):=fun hi hj h h' l l' hs=> ⟨by omega,by omega,.inr ⟨_,_,hi,hj,h,h',by omega⟩,⟨(k1 _ _ h).1,(k2 _ _ h').1⟩,⟨l,l'⟩⟩
  by_cases q1:i1=1
  ·have f:∀ {i:Nat} {c:α},1<=i->dI i c->eH c b1->c=b1/\i=1:=fun hi h h'=>by
    have:=g1.lv h dF h';exact⟨this.2 (by omega),by omega⟩
   obtain⟨rfl,rfl⟩:=f hi hc c6.1;obtain⟨rfl,rfl⟩:=f hk hd d6.1;have key:=oN 0 j1 a2 b2 ie eM (k2 _ _ eM).1 (by omega) j l c2 d2 ⟨by omega,by omega,po,(k2 _ _ po).1,c6.2⟩ ⟨by omega,by omega,oi,(k2 _ _ oi).1,d6.2⟩;clear hd oi d3 d4 d5 d6 hl e3
   induction key with
   | refl=>exact .refl
   | step _ y1 y2 y3 y4 y5 y6 ih=>
    refine ih.trans (.one (mV (by omega) (by omega) hc y3 c6.1 y5 (by omega)) ?_);exact y6.imp (fun h=> ⟨g1.rf _,h⟩) (fun h=> ⟨g1.rf _,h⟩)
  by_cases q2:j1=1
  ·have f:∀ {i:Nat} {c:β},1<=i->dJ i c->eI c b2->c=b2/\i=1:=fun hi h h'=>by
    have:=g2.lv h eM h';exact⟨this.2 (by omega),by omega⟩
   obtain⟨rfl,rfl⟩:=f hj po c6.2;obtain⟨rfl,rfl⟩:=f hl oi d6.2;have key:=yN 0 i1 a1 b1 gW dF (k1 _ _ dF).1 (by omega) i k c1 d1 ⟨by omega,by omega,hc,(k1 _ _ hc).1,c6.1⟩ ⟨by omega,by omega,hd,(k1 _ _ hd).1,d6.1⟩;clear hd oi d3 d4 d5 d6 hk e3
   induction key with
   | refl=>exact .refl
   | step _ y1 y2 y3 y4 y5 y6 ih=>
    refine ih.trans (.one (mV (by omega) (by omega) y3 po y5 c6.2 (by omega)) ?_);exact y6.imp (fun h=> ⟨h,g2.rf _⟩) (fun h=> ⟨h,g2.rf _⟩)
  obtain⟨v0,Fl,Nj⟩:=g1.Jq dF mm;obtain⟨w0,Iz,Nn⟩:=g2.Jq eM LY;have it:=mV mm (bs 1) dF Iz (g1.rf _) Nn (by omega);have Wf:∀ {i j:Nat} {c1:α} {c2:β},1<=i->1<=j->dI i c1->dJ j c2->eH c1 b1->eI c2 b2->i<i1->ik (uW dI dJ) (nE eH eI) 0 (i1+j1 - 1) (a1,a2) (b1,b2) (i+j - 1) (c1,c2) (i1+1 - 1) (b1,w0):=fun {i j c1 c2} hi hj h h' l l' hs=>by
   refine(ik.one (c:=(c1,c2)) (mV hi LY h eM l (g2.rf _) (by omega)) (.inl ⟨g1.rf _,l'⟩)).trans ((ik.one (c:=(c1,b2)) (mV hi (bs 1) h Iz l Nn (by omega)) (.inr ⟨g1.rf _,Nn⟩)).trans ?_);exact ik.one (c:=(c1,w0)) it (.inl ⟨l,g2.rf _⟩)
  have Wg:∀ {i j:Nat} {c1:α} {c2:β},1<=i->1<=j->dI i c1->dJ j c2->eH c1 b1->eI c2 b2->i+j<i1+j1->ik (uW dI dJ) (nE eH eI) 0 (i1+j1 - 1) (a1,a2) (b1,b2) (i+j - 1) (c1,c2) (i1+1 - 1) (b1,w0):=fun {i j c1 c2} hi hj h h' l l' hs=>by
   have g:=g1.lv h dF l
   by_cases q:i<i1
   ·exact Wf hi hj h h' l l' q
   ·have:c1=b1:=g.2 (by omega);subst this;refine(ik.one (c:=(c1,c2)) (mV (bs 1) hj Fl h' Nj l' (by omega)) (.inr ⟨Nj,g2.rf _⟩)).trans ?_;exact Wf (bs 1) hj Fl h' Nj l' (by omega)
  exact(Wg hi hj hc po c6.1 c6.2 (by omega)).trans ((Wg hk hl hd oi d6.1 d6.2 (by omega)).symm (mV hk hl hd oi d6.1 d6.2 (by omega)))
 ·replace gW:dI i0 a1:=gW;replace ie:dJ j0 a2:=ie;obtain rfl:p=i0+j0 - 1:=by omega
  exact PQ (s:=1) g1 g2 yN oN gW ie dF eM h.1 h.2 (by omega) (by omega) (fun i j x y hx hy l1 l2=> .inr ⟨i,j,by have:=(g1.lv gW hx l1).1;omega,by have:=(g2.lv ie hy l2).1;omega,hx,hy,by have:=(g1.lv gW hx l1).1;omega⟩) ⟨hc,po,c5.1,c6.1,c5.2,c6.2⟩ ⟨hd,oi,d5.1,d6.1,d5.2,d6.2⟩ (by omega) (by omega)
def CC(N:Nat)(el:Nat->α->Prop)(p:Nat)(a:α):Prop:=p<=N/\el (N - p) a
def Dq(le:α->α->Prop)(a b:α):Prop:=le b a
theorem gP.oa(g:gP N el le):gP N (CC N el) (Dq le) where
 one:=fun⟨h,a⟩ ⟨h',a'⟩=>by have:=g.one a a';omega
 rf:=fun a=>g.rf a
 tr:=fun⟨_,a⟩ ⟨_,b⟩ ⟨_,c⟩ h h'=>g.tr c b a h' h
 st:=fun⟨_,a⟩ ⟨_,b⟩ h=>by
  rcases g.st b a h with e | e
  ·exact .inl e.symm
  exact .inr (by omega)
 tW:=fun {i j a b} ⟨h1,ha⟩ ⟨h2,hb⟩ h ig=>by
  obtain⟨z,hz,e1,e2⟩:=g.chain hb ha h (by omega);refine⟨z (N - (i+1)),⟨by omega,hz.1 _ (by omega) (by omega)⟩,?_,?_⟩
  ·show le _ a;rw [<-e2];exact hz.xV g (by omega) (by omega) (bs _)
  show le b _;rw [<-e1];exact hz.xV g (bs _) (by omega) (by omega)
 nX:=fun h=>h.1
 bot:=by
  obtain⟨t,ht,k⟩:=g.top;exact⟨t,⟨aZ _,by simpa using ht⟩,fun i a ⟨hi,ha⟩=> ⟨(k _ a ha).1,fun e=> (k _ a ha).2 (by omega)⟩⟩
 top:=by
  obtain⟨o,ho,k⟩:=g.bot;exact⟨o,⟨bs _,by simpa using ho⟩,fun i a ⟨hi,ha⟩=> ⟨(k _ a ha).1,fun e=> (k _ a ha).2 (by omega)⟩⟩
theorem mL.oa(g:gP N el le)(h:mL el le):mL (CC N el) (Dq le):=by
 rintro i j a b ⟨hi,ha⟩ ⟨hj,hb⟩ eB ig p q c d ⟨c1,c2,⟨_,c3⟩,c4,c5⟩ ⟨d1,d2,⟨_,d3⟩,d4,d5⟩;have key:=h (N - j) (N - i) b a hb ha eB (by omega) (N - p) (N - q) c d ⟨by omega,by omega,c3,c5,c4⟩ ⟨by omega,by omega,d3,d5,d4⟩;obtain⟨r,hr⟩:∃r,r=N - q:=⟨_,rfl⟩;rw [<-hr]at key;have gen:∀r e,ik el le (N - j) (N - i) b a (N - p) c r e->r<=N->ik (CC N el) (Dq le) i j a b p c (N - r) e:=by
  intro r e hh
  induction hh with
  | refl=>intro _;rw [show N - (N - p)=p by omega];exact .refl
  | @step q' r' d' e' h0 k1 k2 k3 k4 k5 k6 ih=>
   intro fX;have du:=h0.end_ ⟨by omega,by omega,c3,c5,c4⟩;have:=g.nX du.2.2.1;exact .step (ih this) (by omega) (by omega) ⟨by omega,by rw [show N - (N - r')=r' by omega];exact k3⟩ k5 k4 k6.symm
 have:=gen r d key (by omega)
 rwa [show N - r=q by omega]at this
end
section
variable {α:Type} {N:Nat} {el:Nat->α->Prop} {le:α->α->Prop}
def Gf(N:Nat)(el:Nat->α->Prop)(le:α->α->Prop):Prop:=∀z y:Nat->α,iO el le 0 N z->iO el le 0 N y->jl el le 0 N (fun k=>z k=y k) z y
theorem Y4(g:gP N el le)(hc:mL el le):Gf N el le:=fun z y hz hy=>by
 obtain⟨o,_,ho⟩:=g.bot;obtain⟨t,_,ht⟩:=g.top;have b1:=(ho 0 _ (hz.1 0 (bs _) (aZ _))).2 O;have b2:=(ho 0 _ (hy.1 0 (bs _) (aZ _))).2 O;have t1:=(ht N _ (hz.1 N (aZ _) (bs _))).2 O;have t2:=(ht N _ (hy.1 N (aZ _) (bs _))).2 O;exact YF g hc N 0 N (by omega) (aZ _) z y hz hy (b1.trans b2.symm) (t1.trans t2.symm)
theorem aiY(g:gP N el le)(h:Gf N el le):mL el le:=by
 intro i j a b ha hb eB ig p q c d hc hd;obtain⟨o,ho,iz⟩:=g.bot;obtain⟨t,ht,oX⟩:=g.top;have yR:=g.nX hb;obtain⟨w1,c1,_,e1⟩:=g.chain ho ha (iz i a ha).1 (aZ _);obtain⟨w4,c4,e4,_⟩:=g.chain hb ht (oX j b hb).1 yR;have mk:∀(p:Nat) (c:α),tP el le i j a b p c->∃z,iO el le 0 N z/\(∀k,k<=i->z k=w1 k)/\(∀k,j<=k->z k=w4 k)/\z p=c:=by
  intro p c hc;obtain⟨u1,d1,f1,QC⟩:=g.chain ha hc.2.2.1 hc.2.2.2.1 (by have:=hc.1;omega);obtain⟨u2,d2,f2,QD⟩:=g.chain hc.2.2.1 hb hc.2.2.2.2 (by have:=hc.2.1;omega);have h1:=hc.1;have h2:=hc.2.1;have x1:=c1.glue d1 (e1.trans f1.symm);have x2:=x1.glue d2 (by rw [xe h1,QC,f2]);have x3:=x2.glue c4 (by rw [xe h2,QD,e4]);refine⟨_,x3,fun k hk=>?_,fun k hk=>KO (by rw [xe h2,QD,e4]) hk,?_⟩
  ·rw [qJ (by omega),qJ (by omega),qJ hk]
  ·rw [qJ (by omega),qJ (bs _),xe h1,QC]
 obtain⟨z,hz,z1,z2,z3⟩:=mk p c hc;obtain⟨y,hy,y1,y2,y3⟩:=mk q d hd;have hl:=h z y hz hy;have zi:z i=a:=(z1 i (bs _)).trans e1;have zj:z j=b:=(z2 j (bs _)).trans e4;have kp:∀y',jl el le 0 N (fun k=>z k=y k) z y'->y' i=a/\y' j=b:=fun y' h=>by
  have k1:=h.keep (k:=i) (aZ _) (by omega) (.inr (.inr (by show z i=y i;rw [z1 i (bs _),y1 i (bs _)])));have k2:=h.keep (k:=j) (aZ _) (by omega) (.inr (.inr (by show z j=y j;rw [z2 j (bs _),y2 j (bs _)])));exact⟨k1.symm.trans zi,k2.symm.trans zj⟩
 have mV:∀y',iO el le 0 N y'->y' i=a->y' j=b->∀r,i<r->r<j->tP el le i j a b r (y' r):=fun y' ma k1 k2 r h1 h2=>
  ⟨h1,h2,ma.1 r (aZ _) (by omega),k1▸ma.xV g (aZ _) (by omega) (by omega),k2▸ma.xV g (aZ _) (by omega) yR⟩
 have cmp:∀y',iO el le 0 N y'->∀r s,i<r->r<j->i<s->s<j->le (y' r) (y' s)\/le (y' s) (y' r):=fun y' ma r s h1 h2 h3 h4=>by
  rcases Nat.le_total r s with h | h
  ·exact .inl (ma.xV g (aZ _) h (by omega))
  ·exact .inr (ma.xV g (aZ _) h (by omega))
 have key:∀y',jl el le 0 N (fun k=>z k=y k) z y'->iO el le 0 N y'->∀r,i<r->r<j->ik el le i j a b p c r (y' r):=by
  intro y' hh
  induction hh with
  | @same y' e=>
   intro ma r h1 h2;have k:=kp y' (.same e);have:=ik.one (p:=p) (c:=c) (mV y' ma k.1 k.2 r h1 h2) (by rw [<-e r (aZ _) (by omega),<-z3];exact cmp z hz p r hc.1 hc.2.1 h1 h2);exact this
  | @step y0 y' s h0 k1 k2 k3 k4 k5 k6 ih=>
   intro ma r h1 h2;have ih:=ih k1
   by_cases e:r=s
   ·subst e;obtain⟨r',r1,r2,r3⟩:∃r',i<r'/\r'<j/\r'≠r:=by
     by_cases e:r=i+1
     ·exact⟨i+2,by omega,by omega,by omega⟩
     ·exact⟨i+1,by omega,by omega,by omega⟩
    have e2:=k6 r' (aZ _) (by omega) r3;have hk:=kp y' (.step r h0 k1 k2 k3 k4 k5 k6);have:=ih r' r1 r2;rw [e2]at this;exact this.trans (.one (mV y' ma hk.1 hk.2 r h1 h2) (cmp y' ma r' r r1 r2 h1 h2))
   ·rw [<-k6 r (aZ _) (by omega) e];exact ih r h1 h2
 have:=key y hl hy q hd.1 hd.2.1
 rwa [y3]at this
end
structure mK{α:Type}(n:Nat)(R:ai)(B:ah)(el:Nat->α->Prop)(le:α->α->Prop)(φ:Int->α):Prop where
 n1:1<=n
 g:gP (n+1) el le
 Bp:∀e:Int,0<=e/\e<R.length->∀i:Nat,i<n->gi R e=i->el (i+1) (φ e)
 F0:∀(i:Nat) (a:α),i<n->el (i+1) a->∃e:Int,(0<=e/\e<R.length)/\gi R e=i/\φ e=a
 inj:∀d e:Int,0<=d/\d<R.length->0<=e/\e<R.length->φ d=φ e->d=e
 inc:∀d e:Int,0<=d/\d<R.length->0<=e/\e<R.length->gi R e=gi R d+1->(d∈gl B e↔le (φ d) (φ e))
section
variable{y:ai}
variable {α:Type} {n:Nat} {R:ai} {B:ah} {el:Nat->α->Prop} {le:α->α->Prop} {φ:Int->α}
def mg(o t:α)(n:Nat)(φ:Int->α)(x:ai)(k:Nat):α:=if k=0 then o else if k<=n then φ (gi x ((k - 1:Nat):Int))else t
theorem BI{o t:α}{x:ai}{k:Nat}(h:k<n):mg o t n φ x (k+1)=φ (gi x k):=by
 unfold mg;rw [if_neg (by omega),if_pos (by omega)];rfl
theorem mK.z(h:mK n R B el le φ){o t:α}(ho:el 0 o)(iz:∀(i:Nat) (a:α),el i a->le o a)(ht:el (n+1) t)(oX:∀(i:Nat) (a:α),el i a->le a t){x:ai}(hx:x∈aG n R B):iO el le 0 (n+1) (mg o t n φ x):=by
 obtain⟨_,ha,hb⟩:=(pS h.n1).1 hx;have hm:∀k:Nat,k<n->el (k+1) (mg o t n φ x (k+1)):=fun k hk=>by
  rw [BI hk];exact h.Bp _ (ha k hk).1 k hk (ha k hk).2
 have h0:mg o t n φ x 0=o:=aB O;have h9:mg o t n φ x (n+1)=t:=by unfold mg;rw [if_neg (by omega),if_neg (by omega)]
 have he:∀k:Nat,k<=n+1->el k (mg o t n φ x k):=fun k hk=>by
  cases k with
  | zero=>rw [h0];exact ho
  | succ k=>
   by_cases e:k<n
   ·exact hm k e
   ·obtain rfl:k=n:=by omega
    rw [h9];exact ht
 refine⟨fun k _ hk=>he k hk,fun k _ hk=>?_⟩;cases k with
 | zero=>rw [h0];exact iz _ _ (he 1 (by omega))
 | succ k=>
  by_cases e:k+1<n
  ·rw [BI (by omega),BI e];refine(h.inc _ _ (ha k (by omega)).1 (ha (k+1) e).1 ?_).1 (hb k e);rw [(ha k (by omega)).2,(ha (k+1) e).2];omega
  ·obtain rfl:k+1=n:=by omega
   rw [h9];exact oX _ _ (he (k+1) (by omega))
theorem mK.x(h:mK n R B el le φ){z:Nat->α}(hz:iO el le 0 (n+1) z):∃x∈aG n R B,∀i:Nat,i<n->φ (gi x i)=z (i+1):=by
 have hex:∀i:Nat,∃e:Int,i<n->(0<=e/\e<R.length)/\gi R e=i/\φ e=z (i+1):=fun i=>by
  by_cases hi:i<n
  ·obtain⟨e,h⟩:=h.F0 i (z (i+1)) hi (hz.1 (i+1) (aZ _) (by omega));exact⟨e,fun _=>h⟩
  exact⟨0,fun h=>absurd h hi⟩
 obtain⟨E,hE⟩:=Classical.axiomOfChoice hex;have hE:∀i:Nat,i<n->(0<=E i/\E i<R.length)/\gi R (E i)=i/\φ (E i)=z (i+1):=hE;have gv:∀i:Nat,i<n->gi ((List.range n).map E) i=E i:=fun i hi=>by
  rw [b9 (by simpa using hi),List.getElem_map,List.getElem_range]
 refine⟨(List.range n).map E,(pS h.n1).2 ⟨by simp,fun i hi=>?_,fun i hi=>?_⟩,fun i hi=>?_⟩
 ·rw [gv i hi];exact⟨(hE i hi).1,(hE i hi).2.1⟩
 ·rw [gv i (by omega),gv (i+1) hi];have h1:=hE i (by omega);have h2:=hE (i+1) hi;rw [h.inc _ _ h1.1 h2.1 (by rw [h1.2.1,h2.2.1];omega),h1.2.2,h2.2.2];exact hz.2 (i+1) (aZ _) (by omega)
 rw [gv i hi];exact(hE i hi).2.2
theorem mK.pure(h:mK n R B el le φ)(hr:∀e:Int,0<=e->e<R.length->0<=gi R e/\gi R e<n):JI n R B:=fun e h0 h1=>by
 obtain⟨r0,r1⟩:=hr e h0 h1;obtain⟨i,hi⟩:∃i:Nat,gi R e=i:=⟨(gi R e).toNat,by omega⟩;have he:=h.Bp e ⟨h0,h1⟩ i (by omega) hi;obtain⟨o,ho,iz⟩:=h.g.bot;obtain⟨t,ht,oX⟩:=h.g.top;obtain⟨w1,c1,_,e1⟩:=h.g.chain ho he (iz _ _ he).1 (by omega);obtain⟨w2,c2,e2,_⟩:=h.g.chain he ht (oX _ _ he).1 (by omega);obtain⟨x,hx,hf⟩:=h.x (c1.glue c2 (e1.trans e2.symm));refine⟨x,hx,?_⟩;have hh:=hf i (by omega);rw [qJ (bs _),e1]at hh;obtain⟨hl,ha,_⟩:=(pS h.n1).1 hx;have:=h.inj _ _ (ha i (by omega)).1 ⟨h0,h1⟩ hh;rw [<-this,b9 (by omega)];exact dQ _
theorem mK.agree(h:mK n R B el le φ){o t:α}{x:ai}(hx:x∈aG n R B)(hy:y∈aG n R B){i:Nat}(hi:i<n):mg o t n φ x (i+1)=mg o t n φ y (i+1)↔gi x i=gi y i:=by
 rw [BI hi,BI hi];exact⟨h.inj _ _ (((pS h.n1).1 hx).2.1 i hi).1 (((pS h.n1).1 hy).2.1 i hi).1,fun e=>by rw [e]⟩
theorem Rh{fl:ah}{x:ai}(h:x∈fl):∃a:Nat,a<fl.length/\gl fl a=x:=by
 obtain⟨a,ha,e⟩:=gF.1 h;exact⟨a,ha,by rw [b7 ha,e]⟩
theorem r8{fl:ah}{a:Nat}(h:a<fl.length):gl fl a∈fl:=by rw [b7 h];exact dQ _
theorem mK.Y0(h:mK n R B el le φ)(hc:Gf (n+1) el le):zH n (aG n R B):=fun a b eB hb=>by
 obtain⟨o,ho,iz⟩:=h.g.bot;obtain⟨t,ht,oX⟩:=h.g.top;have ha:a< (aG n R B).length:=by omega
 have mz:=fun(x:ai) (hx:x∈aG n R B)=>h.z ho (fun i a k=> (iz i a k).1) ht (fun i a k=> (oX i a k).1) hx
 have hl:=hc _ _ (mz _ (r8 ha)) (mz _ (r8 hb));have key:∀y,jl el le 0 (n+1) (fun k=>mg o t n φ (gl (aG n R B) a) k=mg o t n φ (gl (aG n R B) b) k) (mg o t n φ (gl (aG n R B) a)) y->
  ∃c:Nat,c< (aG n R B).length/\jm n (aG n R B) (fun k=>gi (gl (aG n R B) a) k=gi (gl (aG n R B) b) k) a c/\∀i:Nat,i<n->mg o t n φ (gl (aG n R B) c) (i+1)=y (i+1):=by
  intro y hy
  induction hy with
  | same e=>exact⟨a,ha,.refl ha,fun i hi=>e (i+1) (aZ _) (by omega)⟩
  | @step y y' p _ k1 k2 k3 k4 k5 k6 ih=>
   obtain⟨c,dh,lL,LM⟩:=ih;obtain⟨x,hx,MN⟩:=h.x k2;obtain⟨c',po,e'⟩:=Rh hx;have IB:∀i:Nat,i<n->mg o t n φ (gl (aG n R B) c') (i+1)=y' (i+1):=fun i hi=>by rw [e',BI hi,MN i hi]
   obtain⟨q,rfl⟩:∃q,p=q+1:=⟨p - 1,by omega⟩;have hq:q<n:=by omega
   refine⟨c',po,.step lL hq (fun hs=>k5 ((h.agree (r8 ha) (r8 hb) hq).2 hs)) ⟨dh,po,fun k hk bU=>?_⟩,IB⟩;rw [<-h.agree (o:=o) (t:=t) (r8 dh) (r8 po) hk,LM k hk,IB k hk];exact k6 (k+1) (aZ _) (by omega) (by omega)
 obtain⟨c,dh,lL,LM⟩:=key _ hl;have:c=b:=yx dh hb (wv (n:=n) (oc h.n1 dh).1 (oc h.n1 hb).1 fun i hi=> (h.agree (r8 dh) (r8 hb) hi).1 (LM i hi))
 rwa [this]at lL
theorem mK.Y3(h:mK n R B el le φ)(hc:zH n (aG n R B)):Gf (n+1) el le:=fun z y hz hy=>by
 obtain⟨o,ho,iz⟩:=h.g.bot;obtain⟨t,ht,oX⟩:=h.g.top;have mz:=fun(x:ai) (hx:x∈aG n R B)=>h.z ho (fun i a k=> (iz i a k).1) ht (fun i a k=> (oX i a k).1) hx
 have all:∀w,iO el le 0 (n+1) w->∃a:Nat,a< (aG n R B).length/\∀k,0<=k->k<=n+1->mg o t n φ (gl (aG n R B) a) k=w k:=fun w hw=>by
  obtain⟨x,hx,MN⟩:=h.x hw;obtain⟨a,ha,e⟩:=Rh hx;refine⟨a,ha,fun k _ hk=>?_⟩;cases k with
  | zero=>exact(show mg o t n φ _ 0=o from aB rfl).trans ((iz 0 _ (hw.1 0 (bs _) (by omega))).2 rfl).symm
  | succ k=>
   by_cases q:k<n
   ·rw [e,BI q];exact MN k q
   ·obtain rfl:k=n:=by omega
    exact(show mg o t k φ _ (k+1)=t by unfold mg;rw [if_neg (by omega),if_neg (by omega)]).trans ((oX _ _ (hw.1 (k+1) (Nat.zero_le _) (Nat.le_refl _))).2 O).symm
 obtain⟨a,ha,ea⟩:=all z hz;obtain⟨b,hb,eb⟩:=all y hy;have lL:jm n (aG n R B) (fun k=>gi (gl (aG n R B) a) k=gi (gl (aG n R B) b) k) a b:=by
  rcases Nat.lt_trichotomy a b with eB | eB | eB
  ·exact hc a b eB hb
  ·subst eB;exact .refl ha
  ·have:=(hc b a eB ha).symm;have e:(fun k:Nat=>gi (gl (aG n R B) b) k=gi (gl (aG n R B) a) k)=fun k:Nat=>gi (gl (aG n R B) a) k=gi (gl (aG n R B) b) k:=funext fun k=>propext eq_comm
   rwa [e]at this
 have key:∀c,jm n (aG n R B) (fun k=>gi (gl (aG n R B) a) k=gi (gl (aG n R B) b) k) a c->jl el le 0 (n+1) (fun k=>z k=y k) z (mg o t n φ (gl (aG n R B) c)):=by
  intro c hh
  induction hh with
  | refl _=>exact .same fun k k1 k2=> (ea k k1 k2).symm
  | @step c c' i h0 hi hS hA ih=>
   refine .step (i+1) ih (mz _ (r8 hA.1)) (mz _ (r8 hA.2.1)) (by omega) (by omega) (fun hs=>hS ?_) fun k _ k2 hk=>?_
   ·rw [<-h.agree (o:=o) (t:=t) (r8 ha) (r8 hb) hi,ea (i+1) (aZ _) (by omega),eb (i+1) (aZ _) (by omega)];exact hs
   ·cases k with
    | zero=>exact(show mg o t n φ _ 0=o from aB rfl).trans (show mg o t n φ _ 0=o from aB rfl).symm
    | succ k=>
     by_cases q:k<n
     ·exact(h.agree (r8 hA.1) (r8 hA.2.1) q).2 (hA.2.2 k q (by omega))
     ·unfold mg;rw [if_neg (by omega),if_neg (by omega),if_neg (by omega),if_neg (by omega)]
 exact(key b lL).eqv eb
end
def uM(m:Nat)(rk:Int->Int)(ib:Int->Int->Prop):Prop:=∀a b:Int,0<=a/\a<m->0<=b/\b<m->ib a b->rk a+1<rk b->∃c:Int,(0<=c/\c<m)/\ib a c/\ib c b/\rk c=rk a+1
def kl(m:Nat)(rk:Int->Int)(p:Nat)(a:Int):Prop:=(0<=a/\a<m)/\rk a+1=p
section
variable {m n:Nat} {rk:Int->Int} {ib:Int->Int->Prop}
theorem fK.CL(h:fK m n rk ib)(hb:uM m rk ib):gP (n+1) (kl m rk) ib where
 one:=fun ha hb=>by have:=ha.2;have:=hb.2;omega
 rf:=h.refl
 tr:=fun ha hb hc=>h.trans _ _ _ ha.1 hb.1 hc.1
 st:=fun {i j a b} ha hb eB=>by
  by_cases e:a=b
  ·exact .inl e
  have:=h.strict a b ha.1 hb.1 eB e;have:=ha.2;have:=hb.2;exact .inr (by omega)
 tW:=fun {i j a b} ha hc eB ig=>by
  have h1:=ha.2;have h2:=hc.2;obtain⟨c,h3,h4,h5,h6⟩:=hb a b ha.1 hc.1 eB (by omega);exact⟨c,⟨h3,by omega⟩,h4,h5⟩
 nX:=fun ha=>by have:=(h.gO ha.1).2;have:=ha.2;omega
 bot:=⟨0,⟨⟨by omega,by have:=h.two;omega⟩,by rw [h.r0];rfl⟩,fun i a ha=> ⟨h.bot a,fun e=>h.zero ha.1 (by have:=ha.2;omega)⟩⟩
 top:=⟨(m:Int) - 1,⟨⟨by have:=h.two;omega,by omega⟩,by rw [h.rt];omega⟩,fun i a ha=> ⟨h.top a,fun e=>h.whole ha.1 (by have:=ha.2;omega)⟩⟩
end
section
variable {n:Nat} {R:ai} {B:ah}
theorem Vx(hP:gr n R B)(hb:uM (R.length+2) (gi (gU n R)) (eX R.length B)):mK n R B (kl (R.length+2) (gi (gU n R))) (eX R.length B) (fun e=>e+1) where
 n1:=by have:=hP.n1;omega
 g:=(Fz hP).CL hb
 Bp:=fun e he i _ hi=> ⟨by omega,by rw [yw _ _ (by omega) (by omega),Int.add_sub_cancel,hi];omega⟩
 F0:=fun i a hi ha=>by
  have h1:=ha.1;have h2:=ha.2;have n0:a≠0:=fun e=>by subst e;have:gi (gU n R) 0= -1:=rfl;omega
  have n9:a≠(R.length:Int)+1:=fun e=>by subst e;rw [Eh]at h2;omega
  rw [yw _ _ (by omega) (by omega)]at h2;exact⟨a - 1,by omega,by omega,by omega⟩
 inj:=fun d e _ _ h=>by have h:d+1=e+1:=h;omega
 inc:=fun d e hd he hr=>by
  show _↔eX R.length B (d+1) (e+1);unfold eX;rw [Int.add_sub_cancel,Int.add_sub_cancel];constructor
  ·intro h;exact .inr (.inr (.inr ⟨by omega,by omega,by omega,by omega,h⟩))
  rintro(h | h | h | h)
  ·have:d=e:=by omega
   subst this;omega
  ·omega
  ·omega
  exact h.2.2.2.2
theorem aiX(hP:gr n R B)(hb:uM (R.length+2) (gi (gU n R)) (eX R.length B))(hc:zH n (aG n R B)):mL (kl (R.length+2) (gi (gU n R))) (eX R.length B):=
 aiY ((Fz hP).CL hb) ((Vx hP hb).Y3 hc)
end
theorem aac{M:ah}(hM:cN M){e:Int}(h0:0<=e)(h1:e< (aS M M.length:Int)):∃i:Nat,i<M.length/\∃f:Nat,f< (gl M 0).length/\e=cS M i f:=by
 obtain⟨i,hi,h2,h3⟩:=Q6 h0 h1;have h3:e< ((aS M i+ (iS M i).toNat:Nat):Int):=h3;obtain⟨f,hf,e1⟩:=Kw hM i (e - (aS M i:Int)) (by omega) (by omega);refine⟨i,hi,f,hf,?_⟩;unfold cS;rw [e1];omega
theorem zZ{M:ah}(hM:cN M){i f:Nat}(hi:i<M.length)(hf:f< (gl M 0).length):(0<=cS M i f/\cS M i f< (aS M M.length:Int))/\gi (bK M M.length) (cS M i f)=i:=by
 have h:=xb hM (i:=i) hf;have:=ow M (i:=i+1) (j:=M.length) hi;exact⟨by omega,Hd hi h.1 h.2⟩
theorem aab{M:ah}(hM:cN M):uM ((bK M M.length).length+2) (gi (gU M.length (bK M M.length))) (eX (bK M M.length).length (bR M)):=by
 have hl:=oH M M.length;have h1:=hM.1;rw [hl];have el:∀(i f:Nat),i<M.length->f< (gl M 0).length->(0<=cS M i f+1/\cS M i f+1< ((aS M M.length+2:Nat):Int))/\gi (gU M.length (bK M M.length)) (cS M i f+1)=i:=fun i f hi hf=>by
  have h:=zZ hM hi hf;exact⟨by omega,by rw [yw _ _ (by omega) (by omega),Int.add_sub_cancel];exact h.2⟩
 have ib:∀(k i f:Nat),k<i->i<M.length->f< (gl M 0).length->eX (aS M M.length) (bR M) (cS M k f+1) (cS M i f+1):=fun k i f hk hi hf=>by
  have h:=zZ hM hi hf;have h':=zZ hM (show k<M.length by omega) hf;exact .inr (.inr (.inr ⟨by omega,by omega,by omega,by omega,by rw [Int.add_sub_cancel,Int.add_sub_cancel,qI h.1.1 h.1.2];exact⟨h'.1,f,hf,i,hi,k,hk,O,O⟩⟩))
 have cs:∀a:Int,0<=a->a< ((aS M M.length+2:Nat):Int)->a=0\/a=(aS M M.length:Int)+1\/∃i:Nat,i<M.length/\∃f:Nat,f< (gl M 0).length/\a=cS M i f+1:=fun a h0 h9=>by
  by_cases e0:a=0
  ·exact .inl e0
  by_cases e9:a=(aS M M.length:Int)+1
  ·exact .inr (.inl e9)
  obtain⟨i,hi,f,hf,e⟩:=aac hM (e:=a - 1) (by omega) (by omega);exact .inr (.inr ⟨i,hi,f,hf,by omega⟩)
 have r0:gi (gU M.length (bK M M.length)) 0= -1:=O;have r9:gi (gU M.length (bK M M.length)) ((aS M M.length:Int)+1)=M.length:=by rw [<-hl];exact Eh _ _
 intro a b ha hb eB hr;rcases cs a ha.1 ha.2 with rfl | rfl | ⟨i,hi,f,hf,rfl⟩
 ·rw [r0]at hr|-;rcases cs b hb.1 hb.2 with rfl | rfl | ⟨k,hk,g,hg,rfl⟩
  ·rw [r0]at hr;omega
  ·have hN:0< (gl M 0).length:=by have:=hM.2.1;omega
   exact⟨cS M 0 0+1,(el 0 0 (by omega) hN).1,.inr (.inl O),.inr (.inr (.inl O)),(el 0 0 (by omega) hN).2⟩
  rw [(el k g hk hg).2]at hr;exact⟨cS M 0 g+1,(el 0 g (by omega) hg).1,.inr (.inl O),ib 0 k g (by omega) hk hg,(el 0 g (by omega) hg).2⟩
 ·rw [r9]at hr;rcases cs b hb.1 hb.2 with rfl | rfl | ⟨k,hk,g,hg,rfl⟩
  ·rw [r0]at hr;omega
  ·rw [r9]at hr;omega
  rw [(el k g hk hg).2]at hr;omega
 rw [(el i f hi hf).2]at hr|-;rcases cs b hb.1 hb.2 with rfl | rfl | ⟨k,hk,g,hg,rfl⟩
 ·rw [r0]at hr;omega
 ·rw [r9]at hr;exact⟨cS M (i+1) f+1,(el (i+1) f (by omega) hf).1,ib i (i+1) f (by omega) (by omega) hf,.inr (.inr (.inl O)),by rw [(el (i+1) f (by omega) hf).2];omega⟩
 rw [(el k g hk hg).2]at hr;have hA:=zZ hM hi hf;have hB:=zZ hM hk hg;have hm:cS M i f∈gl (bR M) (cS M k g):=by
  rcases eB with h | h | h | h
  ·have:cS M i f=cS M k g:=by omega
   have e:=hA.2;rw [this,hB.2]at e;omega
  ·omega
  ·omega
  have:=h.2.2.2.2;rwa [Int.add_sub_cancel,Int.add_sub_cancel]at this
 rw [qI hB.1.1 hB.1.2]at hm;obtain⟨_,f',iH,i',di,k',eQ,e1,e2⟩:=hm;have Hl:=zZ hM (show k'<M.length by omega) iH;have hB':=zZ hM di iH;have ei:i=k':=by have a:=hA.2;have b:=Hl.2;rw [e2]at a;omega
 have ek:k=i':=by have a:=hB.2;have b:=hB'.2;rw [e1]at a;omega
 subst ei;subst ek;rw [e1,e2];exact⟨cS M (i+1) f'+1,(el (i+1) f' (by omega) iH).1,ib i (i+1) f' (by omega) (by omega) iH,ib (i+1) k f' (by omega) hk iH,by rw [(el (i+1) f' (by omega) iH).2];omega⟩
section
variable{i k:Nat}
variable {m1 m2 n1 n2:Nat} {rk1 rk2:Int->Int} {cV cJ:Int->Int->Prop}
theorem Qu(h1:fK m1 n1 rk1 cV)(h2:fK m2 n2 rk2 cJ){c:Int×Int}:G1 (kl m1 rk1) (kl m2 rk2) (i+1) c↔mG m1 m2 rk1 rk2 0 i c:=by
 constructor
 ·rintro⟨p,q,a,b,e⟩;have h3:=a.2;have h4:=b.2;exact⟨a.1,b.1,by show rk1 c.1+rk2 c.2+1=_;omega,fun h=>by rcases h with h | h<;>omega⟩
 rintro⟨a,b,e,_⟩;have e:rk1 c.1+rk2 c.2+1=i:=e;have:=h1.gO a;have:=h2.gO b;exact⟨(rk1 c.1+1).toNat,(rk2 c.2+1).toNat,⟨a,by omega⟩,⟨b,by omega⟩,by omega⟩
theorem Qt(h1:fK m1 n1 rk1 cV)(h2:fK m2 n2 rk2 cJ){c:Int×Int}:uW (kl m1 rk1) (kl m2 rk2) (i+1) c↔mG m1 m2 rk1 rk2 1 i c:=by
 constructor
 ·rintro(⟨e,_⟩ | ⟨p,q,hp,hq,a,b,e⟩)
  ·omega
  have h3:=a.2;have h4:=b.2;refine⟨a.1,b.1,by show rk1 c.1+rk2 c.2+0=_;omega,fun h=>?_⟩;rcases h with⟨_,h | h⟩ | h
  ·rw [h,h1.r0]at h3;omega
  ·rw [h,h2.r0]at h4;omega
  omega
 rintro⟨a,b,e,hx⟩;have e:rk1 c.1+rk2 c.2+0=i:=e;have k1:=h1.gO a;have k2:=h2.gO b;have n1:rk1 c.1≠ -1:=fun h=>hx (.inl ⟨O,.inl (h1.zero a h)⟩)
 have n2:rk2 c.2≠ -1:=fun h=>hx (.inl ⟨O,.inr (h2.zero b h)⟩)
 exact .inr ⟨(rk1 c.1+1).toNat,(rk2 c.2+1).toNat,by omega,by omega,⟨a,by omega⟩,⟨b,by omega⟩,by omega⟩
def yr(N1 N2:Nat){α β:Type}(dI:Nat->α->Prop)(dJ:Nat->β->Prop):Nat->α×β->Prop:=CC (N1+N2 - 1) (uW (CC N1 dI) (CC N2 dJ))
theorem Qv(h1:fK m1 n1 rk1 cV)(h2:fK m2 n2 rk2 cJ)(hi:i<n1+n2){c:Int×Int}:yr (n1+1) (n2+1) (kl m1 rk1) (kl m2 rk2) (i+1) c↔mG m1 m2 rk1 rk2 2 i c:=by
 constructor
 ·rintro⟨hN,⟨e,_⟩ | ⟨p,q,hp,hq,⟨kM,a⟩,⟨Mp,b⟩,e⟩⟩
  ·omega
  have h3:=a.2;have h4:=b.2;refine⟨a.1,b.1,by show rk1 c.1+rk2 c.2+1=_;omega,fun h=>?_⟩;rcases h with h | ⟨_,h | h⟩
  ·omega
  ·rw [h,h1.rt]at h3;omega
  rw [h,h2.rt]at h4;omega
 rintro⟨a,b,e,hx⟩;have e:rk1 c.1+rk2 c.2+1=i:=e;have k1:=h1.gO a;have k2:=h2.gO b;have x1:rk1 c.1≠n1:=fun h=>hx (.inr ⟨O,.inl (h1.whole a h)⟩)
 have x2:rk2 c.2≠n2:=fun h=>hx (.inr ⟨O,.inr (h2.whole b h)⟩)
 refine⟨by omega,.inr ⟨n1+1 - (rk1 c.1+1).toNat,n2+1 - (rk2 c.2+1).toNat,by omega,by omega,⟨by omega,a,?_⟩,⟨by omega,b,?_⟩,by omega⟩⟩
 ·rw [show n1+1 - (n1+1 - (rk1 c.1+1).toNat)=(rk1 c.1+1).toNat by omega];omega
 rw [show n2+1 - (n2+1 - (rk2 c.2+1).toNat)=(rk2 c.2+1).toNat by omega];omega
variable [DecidableRel cV] [DecidableRel cJ] {kind:Int}
theorem DC(h1:fK m1 n1 rk1 cV)(h2:fK m2 n2 rk2 cJ)(hk:1<=k){el:Nat->Int×Int->Prop}{le:Int×Int->Int×Int->Prop}(g:gP (k+1) el le)(jf:∀i:Nat,i<k->∀c:Int×Int,el (i+1) c↔mG m1 m2 rk1 rk2 kind i c)(hle:∀c d:Int×Int,le c d↔cV c.1 d.1/\cJ c.2 d.2):
 mK k ((ck m1 m2 rk1 rk2 kind k).map (dd rk1 rk2 kind)) (pG cV cJ (ck m1 m2 rk1 rk2 kind k)) el le (gp (ck m1 m2 rk1 rk2 kind k)):=by
 have hl:((ck m1 m2 rk1 rk2 kind k).map (dd rk1 rk2 kind)).length=(ck m1 m2 rk1 rk2 kind k).length:=by simp
 refine⟨hk,g,fun e he i hi hr=>?_,fun i a hi ha=>?_,fun d e hd he h=>?_,fun d e hd he hr=>?_⟩
 ·rw [hl]at he;obtain⟨j,hj,hE,hJ⟩:=vY he;have:i=j:=by omega
  subst this;exact(jf i hi _).2 hE
 ·obtain⟨e,he,h⟩:=Ks hi ((jf i hi a).1 ha);refine⟨e,by rw [hl];exact he,?_,h⟩;obtain⟨j,hj,hE,hJ⟩:=vY he;rw [hJ];rw [h]at hE;have h3:=((jf i hi a).1 ha).2.2.1;have h4:=hE.2.2.1;omega
 ·rw [hl]at hd he;exact Hh hd he h
 rw [hl]at hd he;rw [wE he.1 he.2,vz h1 h2 he,hle];exact⟨fun h=>h.2.2,fun h=> ⟨hd,fun e=>by rw [e]at hr;omega,h⟩⟩
theorem ah7(h1:fK m1 n1 rk1 cV)(h2:fK m2 n2 rk2 cJ)(b1:uM m1 rk1 cV)(b2:uM m2 rk2 cJ)(s1:mL (kl m1 rk1) cV)(s2:mL (kl m2 rk2) cJ)(oj:0<=kind/\kind<=2)(hk:(k:Int)=iC n1 n2 kind)(jG:1<=k):
 ∃(el:Nat->Int×Int->Prop) (le:Int×Int->Int×Int->Prop),mK k ((ck m1 m2 rk1 rk2 kind k).map (dd rk1 rk2 kind)) (pG cV cJ (ck m1 m2 rk1 rk2 kind k)) el le (gp (ck m1 m2 rk1 rk2 kind k))/\mL el le:=by
 have g1:=h1.CL b1;have g2:=h2.CL b2;rcases(show kind=0\/kind=1\/kind=2 by omega)with rfl | rfl | rfl
 ·have e:(k:Int)=n1+n2+1:=hk;have g:=T0 g1 g2;rw [show n1+1+ (n2+1)=k+1 by omega]at g;exact⟨_,_,DC h1 h2 jG g (fun i _ c=>Qu h1 h2) (fun c d=>Iff.rfl),ae1 g1 g2 s1 s2⟩
 ·have e:(k:Int)=n1+n2:=hk;have g:=GN g1 g2 (by omega) (by omega);rw [show n1+1+ (n2+1) - 1=k+1 by omega]at g;exact⟨_,_,DC h1 h2 jG g (fun i _ c=>Qt h1 h2) (fun c d=>Iff.rfl),Qa g1 g2 s1 s2⟩
 have e:(k:Int)=n1+n2:=hk;have g0:=GN g1.oa g2.oa (by omega) (by omega);have g:=g0.oa;have c0:=(Qa g1.oa g2.oa (s1.oa g1) (s2.oa g2)).oa g0;have hg:gP (k+1) (yr (n1+1) (n2+1) (kl m1 rk1) (kl m2 rk2)) (Dq (nE (Dq cV) (Dq cJ))):=by
  have:=g;rw [show n1+1+ (n2+1) - 1=k+1 by omega]at this;unfold yr;rw [show n1+1+ (n2+1) - 1=k+1 by omega];exact this
 exact⟨_,_,DC h1 h2 jG hg (fun i hi c=>Qv h1 h2 (by omega)) (fun c d=>Iff.rfl),c0⟩
theorem ah5(h1:fK m1 n1 rk1 cV)(h2:fK m2 n2 rk2 cJ)(b1:uM m1 rk1 cV)(b2:uM m2 rk2 cJ)(s1:mL (kl m1 rk1) cV)(s2:mL (kl m2 rk2) cJ)(d1:wN m1 rk1 cV)(d2:wN m2 rk2 cJ)(c1:DW m1 n1 rk1 cV)(c2:DW m2 n2 rk2 cJ)(oj:0<=kind/\kind<=2)(hk:(k:Int)=iC n1 n2 kind)(kq:2<=k)(yX:1<=(n1:Int)/\(1<=(n2:Int)\/kind=0)):zP k ((ck m1 m2 rk1 rk2 kind k).map (dd rk1 rk2 kind)) (pG cV cJ (ck m1 m2 rk1 rk2 kind k)):=by
 obtain⟨el,le,hr,hs⟩:=ah7 h1 h2 b1 b2 s1 s2 oj hk (by omega);refine⟨Vn h1 h2 c1 c2 oj hk (by omega) yX,hr.pure fun e h0 h9=>?_,Vm h1 h2 d1 d2 oj hk kq yX,hr.Y0 (Y4 hr.g hs)⟩;rw [fO]at h9;obtain⟨i,hi,_,e⟩:=vY ⟨h0,h9⟩;rw [e];omega
end
def jM:Nat->Nat->Nat
 | 0,_=>1
 | _+1,0=>1
 | r+1,s+1=>jM r (s+1)+jM (r+1) s
theorem GC(s:Nat):jM 0 s=1:=by rw [jM]
theorem J2(r:Nat):jM r 0=1:=by cases r<;>rw [jM]
theorem PK(r s:Nat):jM (r+1) (s+1)=jM r (s+1)+jM (r+1) s:=by rw [jM]
section
variable{N:Nat}{R:ai}{B:ah}
variable {α:Type}
def cU(U:α->List α):Nat->α->Nat
 | 0,_=>1
 | r+1,a=> ((U a).map (cU U r)).sum
structure mH(el:Nat->α->Prop)(le:α->α->Prop)(U:α->List α):Prop where
 nd:∀ {p:Nat} {a:α},el p a->(U a).Nodup
 mem:∀ {p:Nat} {a b:α},el p a->(b∈U a↔el (p+1) b/\le a b)
theorem FZ{l m:List Nat}(h:l.Perm m):l.sum=m.sum:=by
 induction h with
 | nil=>rfl
 | cons x _ ih=>simp [ih]
 | swap x y l=>simp [Nat.add_left_comm]
 | trans _ _ h1 h2=>exact h1.trans h2
theorem FK{l m:List α}(hl:l.Nodup)(hm:m.Nodup)(h:∀x,x∈l↔x∈m):l.Perm m:=(vJ hl hm).2 h
theorem DK{l:List α}{f g:α->Nat}(h:∀x∈l,f x=g x):(l.map f).sum=(l.map g).sum:=by rw [rN h]
theorem Oh(l:List α)(f:α->Nat)(k:Nat):(l.map fun x=>f x*k).sum=(l.map f).sum*k:=by
 induction l with
 | nil=>simp
 | cons x l ih=>simp only [List.map_cons,List.sum_cons,ih,Nat.add_mul]
theorem Br{β:Type}{l:List α}{f:α->β}(hn:l.Nodup)(h:∀x∈l,∀y∈l,f x=f y->x=y):(l.map f).Nodup:=by
 induction l with
 | nil=>simp
 | cons x l ih=>
  rw [lU]at hn;rw [List.map_cons,lU];refine⟨fun hm=>?_,ih hn.2 fun a ha b hb=>h a (qC _ ha) b (qC _ hb)⟩;obtain⟨y,hy,e⟩:=dA.1 hm;have:=h y (qC _ hy) x (List.mem_cons_self ..) e;subst this;exact hn.1 hy
theorem mK.ext{n:Nat}{el:Nat->α->Prop}{le:α->α->Prop}{φ:Int->α}(h:mK n R B el le φ){U:α->List α}(hU:mH el le U):
 ∀(r:Nat) (e:Int) (i:Nat),0<=e/\e<R.length->gi R e=i->i+r<n->(nq R B r e).length=cU U r (φ e):=by
 intro r
 induction r with
 | zero=>intro e i _ _ _;rfl
 | succ r ih=>
  intro e i he hr hi;have jf:=h.Bp e he i (by omega) hr;have hp:((ke R B e).map φ).Perm (U (φ e)):=by
   refine FK (Br (DP R B e).nodup fun x hx y hy=>h.inj x y (mF.1 hx).1 (mF.1 hy).1) (hU.nd jf) fun b=>?_
   rw [dA,hU.mem jf];constructor
   ·rintro⟨f,hf,rfl⟩;have hf:=mF.1 hf;refine⟨h.Bp f hf.1 (i+1) (by omega) (by omega),(h.inc e f he hf.1 hf.2.1).1 hf.2.2⟩
   ·rintro⟨h1,h2⟩;obtain⟨f,hf,k1,k2⟩:=h.F0 (i+1) b (by omega) h1;subst k2;exact⟨f,mF.2 ⟨hf,by omega,(h.inc e f he hf (by omega)).2 h2⟩,O⟩
  show((ke R B e).flatMap fun f=> (nq R B r f).map (f:: ·)).length=((U (φ e)).map (cU U r)).sum;rw [List.length_flatMap,<-FZ (hp.map (cU U r)),List.map_map];refine DK fun f hf=>?_
  have hf:=mF.1 hf;rw [fO,ih f (i+1) hf.1 (by omega) (by omega)]
  rfl
theorem mK.flags{n:Nat}{el:Nat->α->Prop}{le:α->α->Prop}{φ:Int->α}(h:mK n R B el le φ){U:α->List α}(hU:mH el le U){o:α}(ho:el 0 o)(iz:∀(i:Nat) (a:α),el i a->le o a):(aG n R B).length=cU U n o:=by
 have hn:=h.n1;obtain⟨k,rfl⟩:∃k,n=k+1:=⟨n - 1,by omega⟩;have hp:((uU R).map φ).Perm (U o):=by
  refine FK (Br ((mf _).nodup.filter _) fun x hx y hy=>h.inj x y (tV.1 hx).1 (tV.1 hy).1) (hU.nd ho) fun b=>?_
  rw [dA,hU.mem ho];constructor
  ·rintro⟨f,hf,rfl⟩;have hf:=tV.1 hf;have:=h.Bp f hf.1 0 (by omega) (by omega);exact⟨this,iz _ _ this⟩
  rintro⟨h1,h2⟩;obtain⟨f,hf,k1,k2⟩:=h.F0 0 b (by omega) h1;exact⟨f,tV.2 ⟨hf,by omega⟩,k2⟩
 show((uU R).flatMap fun e=> (nq R B (k+1 - 1) e).map (e:: ·)).length=((U o).map (cU U k)).sum;rw [List.length_flatMap,<-FZ (hp.map (cU U k)),List.map_map];refine DK fun f hf=>?_
 have hf:=tV.1 hf;rw [fO,h.ext hU _ f 0 hf.1 (by omega) (by omega)]
 rfl
open Classical in
theorem mK.en{n:Nat}{el:Nat->α->Prop}{le:α->α->Prop}{φ:Int->α}(h:mK n R B el le φ)(hr:∀e:Int,0<=e->e<R.length->gi R e<n):∃U,mH el le U:=by
 obtain⟨t,ht,oX⟩:=h.g.top;have hL:∀(a:α) (e:Int),e∈(bS R.length).filter (fun e=>decide (∃p:Nat,el p a/\gi R e=(p:Int)/\le a (φ e)))↔(0<=e/\e<R.length)/\∃p:Nat,el p a/\gi R e=(p:Int)/\le a (φ e):=fun a e=>by
  rw [gg,jU,lg]
 refine⟨fun a=> ((bS R.length).filter (fun e=>decide (∃p:Nat,el p a/\gi R e=(p:Int)/\le a (φ e)))).map φ++ (if el n a then [t]else []),fun {p a} ha=>?_,fun {p a b} ha=>?_⟩
 ·rw [List.nodup_append];refine⟨Br ((mf _).nodup.filter _) fun x hx y hy=>h.inj x y ((hL a x).1 hx).1 ((hL a y).1 hy).1,by split<;>simp,fun x hx y hy=>?_⟩
  split at hy
  ·rename_i hn;obtain⟨e,he,rfl⟩:=dA.1 hx;obtain⟨he,q,hq,y8,_⟩:=(hL a e).1 he;have:=h.g.one hq hn;have:=hr e he.1 he.2;omega
  cases hy
 rw [kj,dA];constructor
 ·rintro(⟨e,he,rfl⟩ | hb)
  ·obtain⟨he,q,hq,y8,hle⟩:=(hL a e).1 he;have e2:=h.g.one hq ha;have:=hr e he.1 he.2;exact⟨e2▸h.Bp e he q (by omega) y8,hle⟩
  split at hb
  ·rename_i hn;have e2:=h.g.one hn ha;have:b=t:=by simpa using hb
   subst this;exact⟨e2▸ht,(oX _ _ ha).1⟩
  cases hb
 rintro⟨hb,hle⟩
 by_cases hp:p<n
 ·obtain⟨e,he,k1,k2⟩:=h.F0 p b hp hb;exact .inl ⟨e,(hL a e).2 ⟨he,p,ha,k1,by rw [k2];exact hle⟩,k2⟩
 have vc:=h.g.nX hb;obtain rfl:p=n:=by omega
 refine .inr ?_;rw [aB ha,(oX _ _ hb).2 rfl];exact gG.2 O
theorem Ct{el:Nat->α->Prop}{le:α->α->Prop}(g:gP (N+1) el le){U:α->List α}(hU:mH el le U):∀(r p:Nat) (a:α),el p a->p+r=N->cU U (r+1) a=cU U r a:=by
 intro r
 induction r with
 | zero=>
  intro p a ha hp;obtain⟨t,ht,oX⟩:=g.top;obtain rfl:p=N:=by omega
  have:(U a).Perm [t]:=FK (hU.nd ha) (by simp) fun b=>by
   rw [hU.mem ha,gG];exact⟨fun h=> (oX _ _ h.1).2 rfl,fun h=>by subst h;exact⟨ht,(oX _ _ ha).1⟩⟩
  show((U a).map (cU U 0)).sum=1;rw [FZ (this.map _)];rfl
 | succ r ih=>
  intro p a ha hp;show((U a).map (cU U (r+1))).sum=((U a).map (cU U r)).sum;exact DK fun b hb=>ih (p+1) b ((hU.mem ha).1 hb).1 (by omega)
end
section
variable {α β:Type} {N1 N2:Nat} {dI:Nat->α->Prop} {eH:α->α->Prop} {dJ:Nat->β->Prop} {eI:β->β->Prop} {U1:α->List α} {U2:β->List β} {U:α×β->List (α×β)}
theorem Ke(h1:mH dI eH U1)(h2:mH dJ eI U2){K1 K2 s:Nat}
 (hU:∀(p q r1 r2:Nat) (a:α) (b:β),s<=p->s<=q->dI p a->dJ q b->p+r1=K1->q+r2=K2->1<=r1+r2->(U (a,b)).Perm ((if r1=0 then []else(U1 a).map fun x=> (x,b))++ (if r2=0 then []else(U2 b).map fun y=> (a,y)))):
 ∀(d r1 r2 p q:Nat) (a:α) (b:β),r1+r2=d->s<=p->s<=q->dI p a->dJ q b->p+r1=K1->q+r2=K2->cU U d (a,b)=cU U1 r1 a*cU U2 r2 b*jM r1 r2:=by
 intro d
 induction d with
 | zero=>
  intro r1 r2 p q a b hd _ _ _ _ _ _;obtain rfl:r1=0:=by omega
  obtain rfl:r2=0:=by omega
  rw [GC];rfl
 | succ d ih=>
  intro r1 r2 p q a b hd hp hq ha hb e1 e2;show((U (a,b)).map (cU U d)).sum=_;rw [FZ ((hU p q r1 r2 a b hp hq ha hb e1 e2 (by omega)).map (cU U d)),iD,List.sum_append];have k1:∀r,r1=r+1->(((U1 a).map fun x=> (x,b)).map (cU U d)).sum=cU U1 r1 a*cU U2 r2 b*jM r r2:=fun r hr=>by
   subst hr;rw [List.map_map];have:((U1 a).map (cU U d∘fun x=> (x,b))).sum=((U1 a).map fun x=>cU U1 r x* (cU U2 r2 b*jM r r2)).sum:=DK fun x hx=>by
    show cU U d (x,b)=_;rw [ih r r2 (p+1) q x b (by omega) (by omega) hq ((h1.mem ha).1 hx).1 hb (by omega) e2,Nat.mul_assoc]
   rw [this,Oh,<-Nat.mul_assoc];rfl
  have k2:∀r,r2=r+1->(((U2 b).map fun y=> (a,y)).map (cU U d)).sum=cU U1 r1 a*cU U2 r2 b*jM r1 r:=fun r hr=>by
   subst hr;rw [List.map_map];have:((U2 b).map (cU U d∘fun y=> (a,y))).sum=((U2 b).map fun y=>cU U2 r y* (cU U1 r1 a*jM r1 r)).sum:=DK fun y hy=>by
    show cU U d (a,y)=_;rw [ih r1 r p (q+1) a y (by omega) hp (by omega) ha ((h2.mem hb).1 hy).1 e1 (by omega),Nat.mul_assoc,Nat.mul_left_comm]
   rw [this,Oh];show cU U2 (r+1) b* (cU U1 r1 a*jM r1 r)=_;rw [Nat.mul_left_comm,<-Nat.mul_assoc]
  cases r1 with
  | zero=>
   cases r2 with
   | zero=>omega
   | succ r2=>
    rw [aB rfl,az (by omega),k2 r2 rfl,GC,GC];simp
  | succ r1=>
   cases r2 with
   | zero=>rw [az (by omega),aB rfl,k1 r1 rfl,J2,J2];simp
   | succ r2=>
    rw [az (by omega),az (by omega),k1 r1 rfl,k2 r2 rfl,<-Nat.mul_add,PK]
theorem stepG(g1:gP N1 dI eH)(g2:gP N2 dJ eI)(h1:mH dI eH U1)(h2:mH dJ eI U2){el:Nat->α×β->Prop}(hU:mH el (nE eH eI) U){K1 K2 m p q r1 r2:Nat}{a:α}{b:β}(hm:el m (a,b))(ha:dI p a)(hb:dJ q b)(jf:∀c:α×β,nE eH eI (a,b) c->(el (m+1) c↔∃i j,i<=K1/\j<=K2/\dI i c.1/\dJ j c.2/\i+j=p+q+1))(e1:p+r1=K1)(e2:q+r2=K2):(U (a,b)).Perm ((if r1=0 then []else(U1 a).map fun x=> (x,b))++ (if r2=0 then []else(U2 b).map fun y=> (a,y))):=by
 have m1:∀c:α×β,(c∈if r1=0 then([]:List (α×β))else(U1 a).map fun x=> (x,b))↔r1≠0/\(dI (p+1) c.1/\eH a c.1)/\c.2=b:=fun c=>by
  split
  ·simp_all
  rw [dA];constructor
  ·rintro⟨x,hx,rfl⟩;exact⟨by assumption,(h1.mem ha).1 hx,rfl⟩
  rintro⟨_,hx,e⟩;exact⟨c.1,(h1.mem ha).2 hx,by rw [<-e]⟩
 have m2:∀c:α×β,(c∈if r2=0 then([]:List (α×β))else(U2 b).map fun y=> (a,y))↔r2≠0/\(dJ (q+1) c.2/\eI b c.2)/\c.1=a:=fun c=>by
  split
  ·simp_all
  rw [dA];constructor
  ·rintro⟨x,hx,rfl⟩;exact⟨by assumption,(h2.mem hb).1 hx,rfl⟩
  rintro⟨_,hx,e⟩;exact⟨c.2,(h2.mem hb).2 hx,by rw [<-e]⟩
 refine FK (hU.nd hm) ?_ fun c=>?_
 ·rw [List.nodup_append];refine⟨?_,?_,fun x hx y hy e=>?_⟩
  ·split
   ·simp
   exact Br (h1.nd ha) fun x _ y _ e=> (Prod.mk.inj e).1
  ·split
   ·simp
   exact Br (h2.nd hb) fun x _ y _ e=> (Prod.mk.inj e).2
  subst e;have hx:=(m1 x).1 hx;have hy:=(m2 x).1 hy;have:=hx.2.1.1;rw [hy.2.2]at this;have:=g1.one this ha;omega
 rw [hU.mem hm,kj,m1,m2];constructor
 ·rintro⟨hc,hle⟩;obtain⟨i,j,hi,hj,k1,k2,k3⟩:=(jf c hle).1 hc;have l1:=g1.lv ha k1 hle.1;have l2:=g2.lv hb k2 hle.2
  by_cases e:i=p
  ·subst e;obtain rfl:j=q+1:=by omega
   exact .inr ⟨by omega,⟨k2,hle.2⟩,(l1.2 O).symm⟩
  obtain rfl:i=p+1:=by omega
  obtain rfl:j=q:=by omega
  exact .inl ⟨by omega,⟨k1,hle.1⟩,(l2.2 O).symm⟩
 rintro(⟨k0,⟨k1,k2⟩,k3⟩ | ⟨k0,⟨k1,k2⟩,k3⟩)
 ·have hle:nE eH eI (a,b) c:=⟨k2,by rw [k3];exact g2.rf _⟩;exact⟨(jf c hle).2 ⟨p+1,q,by omega,by omega,k1,by rw [k3];exact hb,by omega⟩,hle⟩
 have hle:nE eH eI (a,b) c:=⟨by rw [k3];exact g1.rf _,k2⟩;exact⟨(jf c hle).2 ⟨p,q+1,by omega,by omega,by rw [k3];exact ha,k1,by omega⟩,hle⟩
end
section
variable {α β:Type} {n1 n2:Nat} {dI:Nat->α->Prop} {eH:α->α->Prop} {dJ:Nat->β->Prop} {eI:β->β->Prop} {U1:α->List α} {U2:β->List β} {U:α×β->List (α×β)}
theorem Kr{p:Nat}(hp:p<=n1+n2){c:α×β}:yr (n1+1) (n2+1) dI dJ p c↔∃i j,i<=n1/\j<=n2/\dI i c.1/\dJ j c.2/\i+j=p:=by
 constructor
 ·rintro⟨hN,⟨e,_⟩ | ⟨i,j,hi,hj,⟨di,a⟩,⟨gX,b⟩,e⟩⟩
  ·omega
  exact⟨n1+1 - i,n2+1 - j,by omega,by omega,a,b,by omega⟩
 rintro⟨i,j,hi,hj,a,b,e⟩;exact⟨by omega,.inr ⟨n1+1 - i,n2+1 - j,by omega,by omega,⟨by omega,by rw [show n1+1 - (n1+1 - i)=i by omega];exact a⟩,⟨by omega,by rw [show n2+1 - (n2+1 - j)=j by omega];exact b⟩,by omega⟩⟩
theorem YV(g1:gP (n1+1) dI eH)(g2:gP (n2+1) dJ eI)(h1:mH dI eH U1)(h2:mH dJ eI U2)(hU:mH (G1 dI dJ) (nE eH eI) U){o1:α}{o2:β}(k1:dI 0 o1)(k2:dJ 0 o2):
 cU U (n1+1+ (n2+1)) (o1,o2)=cU U1 n1 o1*cU U2 n2 o2*jM (n1+1) (n2+1):=by
 rw [Ke h1 h2 (K1:=n1+1) (K2:=n2+1) (s:=0) (fun p q r1 r2 a b _ _ ha hb e1 e2 _=>stepG g1 g2 h1 h2 hU (m:=p+q) ⟨p,q,ha,hb,rfl⟩ ha hb (fun c _=>?_) e1 e2) _ (n1+1) (n2+1) 0 0 o1 o2 rfl (aZ _) (aZ _) k1 k2 (by omega) (by omega),Ct g1 h1 n1 0 o1 k1 (by omega),Ct g2 h2 n2 0 o2 k2 (by omega)];constructor
 ·rintro⟨i,j,a,b,e⟩;exact⟨i,j,g1.nX a,g2.nX b,a,b,e.symm⟩
 rintro⟨i,j,_,_,a,b,e⟩;exact⟨i,j,a,b,e.symm⟩
theorem YS(g1:gP (n1+1) dI eH)(g2:gP (n2+1) dJ eI)(h1:mH dI eH U1)(h2:mH dJ eI U2)(hU:mH (uW dI dJ) (nE eH eI) U){o1:α}{o2:β}(k1:dI 0 o1)(k2:dJ 0 o2)(b1:∀(i:Nat) (a:α),dI i a->eH o1 a)(b2:∀(i:Nat) (a:β),dJ i a->eI o2 a):
 cU U (n1+n2+1) (o1,o2)=cU U1 n1 o1*cU U2 n2 o2*jM n1 n2:=by
 have h0:uW dI dJ 0 (o1,o2):= .inl ⟨O,k1,k2⟩;have hp:(U (o1,o2)).Perm ((U1 o1).flatMap fun v=> (U2 o2).map fun w=> (v,w)):=by
  refine FK (hU.nd h0) ?_ fun c=>?_
  ·have:∀l:List α,l.Nodup->(l.flatMap fun v=> (U2 o2).map fun w=> (v,w)).Nodup:=fun l=>by
    induction l with
    | nil=>intro _;simp
    | cons x l ih=>
     intro hn;rw [lU]at hn;rw [List.flatMap_cons,List.nodup_append];refine⟨Br (h2.nd k2) fun x _ y _ e=> (Prod.mk.inj e).2,ih hn.2,fun a ha b hb e=>?_⟩;subst e;obtain⟨w,_,rfl⟩:=dA.1 ha;obtain⟨v,hv,hb⟩:=List.mem_flatMap.1 hb;obtain⟨w',_,e⟩:=dA.1 hb;have:=(Prod.mk.inj e).1;subst this;exact hn.1 hv
   exact this _ (h1.nd k1)
  ·rw [hU.mem h0,List.mem_flatMap];constructor
   ·rintro⟨⟨e,_⟩ | ⟨i,j,hi,hj,a,b,e⟩,hle⟩
    ·omega
    ·obtain rfl:i=1:=by omega
     obtain rfl:j=1:=by omega
     exact⟨c.1,(h1.mem k1).2 ⟨a,hle.1⟩,dA.2 ⟨c.2,(h2.mem k2).2 ⟨b,hle.2⟩,O⟩⟩
   ·rintro⟨v,hv,hvw⟩;obtain⟨w,Iz,rfl⟩:=dA.1 hvw;have hv:=(h1.mem k1).1 hv;have hw:=(h2.mem k2).1 Iz;exact⟨.inr ⟨1,1,by omega,by omega,hv.1,hw.1,O⟩,⟨hv.2,hw.2⟩⟩
 have key:∀v∈U1 o1,∀w∈U2 o2,cU U (n1+n2) (v,w)=cU U1 n1 v*cU U2 n2 w*jM n1 n2:=fun v hv w hw=>by
  have hv:=((h1.mem k1).1 hv).1;have hw:=((h2.mem k2).1 hw).1;refine Ke h1 h2 (K1:=n1+1) (K2:=n2+1) (s:=1) (fun p q r1 r2 a b hp hq ha hb e1 e2 _=>stepG g1 g2 h1 h2 hU (m:=p+q - 1) (.inr ⟨p,q,hp,hq,ha,hb,by omega⟩) ha hb (fun c hc=>?_) e1 e2) _ n1 n2 1 1 v w O (bs _) (bs _) hv hw (by omega) (by omega);constructor
  ·rintro(⟨e,_⟩ | ⟨i,j,hi,hj,a,b,e⟩)
   ·omega
   ·exact⟨i,j,g1.nX a,g2.nX b,a,b,by omega⟩
  ·rintro⟨i,j,_,_,a,b,e⟩;have:=(g1.lv ha a hc.1).1;have:=(g2.lv hb b hc.2).1;exact .inr ⟨i,j,by omega,by omega,a,b,by omega⟩
 show((U (o1,o2)).map (cU U (n1+n2))).sum=_;rw [FZ (hp.map _),List.map_flatMap];have fl:∀l:List α,(∀v∈l,v∈U1 o1)->(l.flatMap fun v=> ((U2 o2).map fun w=> (v,w)).map (cU U (n1+n2))).sum=(l.map (cU U1 n1)).sum*cU U2 (n2+1) o2*jM n1 n2:=fun l=>by
  induction l with
  | nil=>intro _;simp
  | cons v l ih=>
   intro hl;rw [List.flatMap_cons,List.sum_append,ih fun x hx=>hl x (qC _ hx),List.map_map,List.map_cons,List.sum_cons];have:((U2 o2).map (cU U (n1+n2)∘fun w=> (v,w))).sum=((U2 o2).map fun w=>cU U2 n2 w* (cU U1 n1 v*jM n1 n2)).sum:=DK fun w hw=>by
    show cU U (n1+n2) (v,w)=_;rw [key v (hl v (List.mem_cons_self ..)) w hw,Nat.mul_comm (cU U1 n1 v),Nat.mul_assoc]
   rw [this,Oh];show cU U2 (n2+1) o2*_+_=_;rw [Nat.add_mul,Nat.add_mul,Nat.mul_comm (cU U1 n1 v) (cU U2 (n2+1) o2),Nat.mul_assoc (cU U2 (n2+1) o2)]
 rw [fl _ fun v h=>h];show cU U1 (n1+1) o1*cU U2 (n2+1) o2*jM n1 n2=_;rw [Ct g1 h1 n1 0 o1 k1 (by omega),Ct g2 h2 n2 0 o2 k2 (by omega)]
theorem YW(g1:gP (n1+1) dI eH)(g2:gP (n2+1) dJ eI)(h1:mH dI eH U1)(h2:mH dJ eI U2)(hU:mH (yr (n1+1) (n2+1) dI dJ) (nE eH eI) U){o1:α}{o2:β}(k1:dI 0 o1)(k2:dJ 0 o2):
 cU U (n1+n2) (o1,o2)=cU U1 n1 o1*cU U2 n2 o2*jM n1 n2:=by
 refine Ke h1 h2 (K1:=n1) (K2:=n2) (s:=0) (fun p q r1 r2 a b _ _ ha hb e1 e2 _=>stepG g1 g2 h1 h2 hU (m:=p+q) ((Kr (by omega)).2 ⟨p,q,by omega,by omega,ha,hb,O⟩) ha hb (fun c _=>?_) e1 e2) _ n1 n2 0 0 o1 o2 O (aZ _) (aZ _) k1 k2 (by omega) (by omega);exact Kr (by omega)
end
section
variable {m1 m2 n1 n2:Nat} {rk1 rk2:Int->Int} {cV cJ:Int->Int->Prop} [DecidableRel cV] [DecidableRel cJ] {kind:Int} {U1 U2:Int->ai}
theorem ah4(h1:fK m1 n1 rk1 cV)(h2:fK m2 n2 rk2 cJ)(b1:uM m1 rk1 cV)(b2:uM m2 rk2 cJ)(e1:mH (kl m1 rk1) cV U1)(e2:mH (kl m2 rk2) cJ U2)(oj:0<=kind/\kind<=2){k:Nat}(hk:(k:Int)=iC n1 n2 kind)(jG:1<=k):(aG k ((ck m1 m2 rk1 rk2 kind k).map (dd rk1 rk2 kind)) (pG cV cJ (ck m1 m2 rk1 rk2 kind k))).length=cU U1 n1 0*cU U2 n2 0* (if kind=0 then jM (n1+1) (n2+1)else jM n1 n2):=by
 have g1:=h1.CL b1;have g2:=h2.CL b2;have o1:kl m1 rk1 0 0:=⟨⟨by omega,by have:=h1.two;omega⟩,by rw [h1.r0];rfl⟩;have o2:kl m2 rk2 0 0:=⟨⟨by omega,by have:=h2.two;omega⟩,by rw [h2.r0];rfl⟩;have hr:∀e:Int,0<=e->e< ((ck m1 m2 rk1 rk2 kind k).map (dd rk1 rk2 kind)).length->gi ((ck m1 m2 rk1 rk2 kind k).map (dd rk1 rk2 kind)) e<k:=fun e h0 h9=>by
  rw [fO]at h9;obtain⟨i,hi,_,e⟩:=vY ⟨h0,h9⟩;rw [e];omega
 rcases(show kind=0\/kind=1\/kind=2 by omega)with rfl | rfl | rfl
 ·have e:(k:Int)=n1+n2+1:=hk;have g:=T0 g1 g2;have g':=g;rw [show n1+1+ (n2+1)=k+1 by omega]at g';have rp:=DC (kind:=0) h1 h2 jG g' (fun i _ c=>Qu h1 h2) (fun c d=>Iff.rfl);obtain⟨U,hU⟩:=rp.en hr;rw [rp.flags hU (o:=(0,0)) ⟨0,0,o1,o2,rfl⟩ fun i a _=> ⟨h1.bot _,h2.bot _⟩,<-Ct g' hU k 0 (0,0) ⟨0,0,o1,o2,rfl⟩ (by omega),aB rfl,<-YV g1 g2 e1 e2 hU o1 o2,show n1+1+ (n2+1)=k+1 by omega]
 ·have e:(k:Int)=n1+n2:=hk;have g:=GN g1 g2 (by omega) (by omega);have g':=g;rw [show n1+1+ (n2+1) - 1=k+1 by omega]at g';have rp:=DC (kind:=1) h1 h2 jG g' (fun i _ c=>Qt h1 h2) (fun c d=>Iff.rfl);obtain⟨U,hU⟩:=rp.en hr;have ho:uW (kl m1 rk1) (kl m2 rk2) 0 (0,0):= .inl ⟨O,o1,o2⟩;rw [rp.flags hU (o:=(0,0)) ho fun i a _=> ⟨h1.bot _,h2.bot _⟩,<-Ct g' hU k 0 (0,0) ho (by omega),az (by omega),<-YS g1 g2 e1 e2 hU o1 o2 (fun _ a _=>h1.bot a) (fun _ a _=>h2.bot a),show n1+n2+1=k+1 by omega]
 have e:(k:Int)=n1+n2:=hk;have g:=(GN g1.oa g2.oa (by omega) (by omega)).oa;have hg:gP (k+1) (yr (n1+1) (n2+1) (kl m1 rk1) (kl m2 rk2)) (nE cV cJ):=by
  have:=g;rw [show n1+1+ (n2+1) - 1=k+1 by omega]at this;unfold yr;rw [show n1+1+ (n2+1) - 1=k+1 by omega];exact this
 have rp:=DC (kind:=2) h1 h2 jG hg (fun i hi c=>Qv h1 h2 (by omega)) (fun c d=>Iff.rfl);obtain⟨U,hU⟩:=rp.en hr;have ho:yr (n1+1) (n2+1) (kl m1 rk1) (kl m2 rk2) 0 (0,0):=(Kr (by omega)).2 ⟨0,0,by omega,by omega,o1,o2,O⟩;rw [rp.flags hU (o:=(0,0)) ho fun i a _=> ⟨h1.bot _,h2.bot _⟩,az (by omega),<-YW g1 g2 e1 e2 hU o1 o2,show n1+n2=k by omega]
end
end Go.Proofs.YtkccgdhcpplblaaGreatDoor.Vc
namespace Go.Proofs.YtkccgdhcpplblaaGreatDoor.Vc
open Go.RowKit Tryz
def Cm(n:Nat)(R:ai)(B:ah)(f:Nat)(x:Nat):Prop:=(f<=x/\gi R x=(n:Int) - 1)\/∃g:Nat,(g:Int)∈ke R B x/\dS n R B g/\f<=g
def wS(n:Nat)(R:ai)(B:ah)(f j:Nat)(x:Nat):Prop:=Cm n R B (f+1) x\/(x=f/\gi R x=(n:Int) - 1)\/(dS n R B f/\(x:Int)∈(gl B f).take j/\gi R f=gi R x+1)
section
variable{x j:Nat}
variable {n:Nat} {R:ai} {B:ah}
theorem Pm(hP:gr n R B){f:Nat}(hf:f<=x)(hx:x<R.length):Cm n R B f x↔dS n R B x:=by
 have hr:=hP.ri (e:=(x:Int)) (by omega) (by omega);constructor
 ·rintro(h | ⟨g,h1,h2,_⟩)
  ·exact Po h.2
  have h3:=mF.1 h1;have:=hP.ri h3.1.1 h3.1.2;exact(Gz (by omega) (by omega)).2 ⟨_,h1,h2⟩
 intro h
 by_cases c:gi R x=(n:Int) - 1
 ·exact .inl ⟨hf,c⟩
 obtain⟨g,h1,h2⟩:=(Gz (by omega) (by omega)).1 h;have h3:=zC hP h1;obtain⟨g',rfl⟩:∃g':Nat,g=g':=⟨g.toNat,by omega⟩;exact .inr ⟨g',h1,h2,by omega⟩
theorem XW(hP:gr n R B)(hx:x<R.length):¬Cm n R B R.length x:=by
 rintro(h | ⟨g,h1,_,h2⟩)
 ·omega
 have:=zC hP h1;omega
theorem XZ(hP:gr n R B){f:Nat}(hf:f<R.length):wS n R B f j f↔dS n R B f:=by
 rw [<-Pm hP (bs f) hf];constructor
 ·rintro(h | h | h)
  ·rcases h with h | ⟨g,h1,h2,h3⟩
   ·omega
   exact .inr ⟨g,h1,h2,by omega⟩
  ·exact .inl ⟨bs _,h.2⟩
  have:=((hP.at_ (e:=(f:Int)) (by omega) (by omega)).2.1 _ (List.mem_of_mem_take h.2.1)).1;omega
 rintro(h | ⟨g,h1,h2,h3⟩)
 ·exact .inr (.inl ⟨O,h.2⟩)
 have:=zC hP h1;exact .inl (.inr ⟨g,h1,h2,by omega⟩)
theorem XX(hP:gr n R B){f:Nat}(hf:f<R.length)(hj:¬dS n R B f\/(gl B f).length<=j)(hx:x<R.length):wS n R B f j x↔Cm n R B f x:=by
 constructor
 ·rintro(h | h | h)
  ·rcases h with h | ⟨g,h1,h2,h3⟩
   ·exact .inl ⟨by omega,h.2⟩
   exact .inr ⟨g,h1,h2,by omega⟩
  ·exact .inl ⟨by omega,h.2⟩
  exact .inr ⟨f,mF.2 ⟨by omega,h.2.2,List.mem_of_mem_take h.2.1⟩,h.1,bs _⟩
 rintro(h | ⟨g,h1,h2,h3⟩)
 ·by_cases e:x=f
  ·exact .inr (.inl ⟨e,h.2⟩)
  exact .inl (.inl ⟨by omega,h.2⟩)
 by_cases e:g=f
 ·subst e;have h4:=mF.1 h1;rcases hj with hj | hj
  ·exact absurd h2 hj
  exact .inr (.inr ⟨h2,by rw [gR hj];exact h4.2.2,h4.2.1⟩)
 exact .inl (.inr ⟨g,h1,h2,by omega⟩)
theorem XY{f:Nat}(hj:j< (gl B f).length):wS n R B f (j+1) x↔wS n R B f j x\/(dS n R B f/\(x:Int)=gi (gl B f) j/\gi R f=gi R x+1):=by
 have e9:(gl B f).take (j+1)=(gl B f).take j++ [gi (gl B f) j]:=by
  rw [lV hj,b9 hj]
 unfold wS;rw [e9,kj,gG];constructor
 ·rintro(h | h | ⟨h1,h2 | h2,h3⟩)
  ·exact .inl (.inl h)
  ·exact .inl (.inr (.inl h))
  ·exact .inl (.inr (.inr ⟨h1,h2,h3⟩))
  exact .inr ⟨h1,h2,h3⟩
 rintro((h | h | ⟨h1,h2,h3⟩) | ⟨h1,h2,h3⟩)
 ·exact .inl h
 ·exact .inr (.inl h)
 ·exact .inr (.inr ⟨h1,.inl h2,h3⟩)
 exact .inr (.inr ⟨h1,.inr h2,h3⟩)
end
def sW(N:Nat)(L:List Bool)(P:Nat->Prop):Prop:=L.length=N/\∀x:Nat,x<N->(gb L x=true↔P x)
theorem sW.set{N:Nat}{L:List Bool}{P P':Nat->Prop}(h:sW N L P){y:Nat}(hy:y<N)(hP:∀x,x<N->(P' x↔P x\/x=y)):sW N (L.set y true) P':=by
 refine⟨by rw [lT];exact h.1,fun x hx=>?_⟩;have:=Es (S:=L) (x:=(y:Int)) (y:=(x:Int)) (b:=true) (by omega) (by rw [h.1];omega) (by omega);rw [jc]at this;rw [this,hP x hx,<-h.2 x hx]
 by_cases e:x=y
 ·subst e;simp
 rw [az (by omega)];exact⟨fun h=> .inl h,fun h=>h.resolve_right e⟩
theorem sW.congr{N:Nat}{L:List Bool}{P P':Nat->Prop}(h:sW N L P)(hP:∀x,x<N->(P' x↔P x)):sW N L P':=⟨h.1,fun x hx=> (h.2 x hx).trans (hP x hx).symm⟩
theorem afk(n:Nat)(A D:aj)(cA cD:Nat)(R:ai)(rs:List aO)(B:ah)(w:aa)(hR:cg w A R.length R)(hB:bF w D B.length rs B)(hP:gr n R B):
 aK prog 301 [.agg #[ak n,.slice A R.length cA,.slice D B.length cD]] w (fun v w'=>∃A' L,v= .slice A' R.length R.length/\sW R.length L (fun x=>dS n R B x)/\St w w' [gw 4 A' R.length R.length L]):=by
 have hn:=hP.n1;have sq:=hP.pe;have hle:=hP.len;have bP:=fun(f:Nat) (h:f<R.length)=>hP.at_ (e:=(f:Int)) (by omega) (by omega)
 have cI:∀f:Nat,f<R.length->(gl B f).length<=500:=fun f h=>by
  have:=sJ (N:=R.length) (bP f h).1.nodup fun x hx=>by have:=((bP f h).2.1 x hx).1;omega
  omega
 have It:=fun f j (h:f<R.length)=>XZ (n:=n) (j:=j) hP h
 have EU:=fun f j x (h:f<R.length) hj (hx:x<R.length)=>XX (n:=n) (j:=j) hP h hj hx
 have Tz:=fun x (h:x<R.length)=>XW (n:=n) hP h
 have xu:=fun x (h:x<R.length)=>Pm (n:=n) (f:=0) hP (aZ _) h
 have gf:=fun(x:Nat) (h:x<R.length)=>hP.ri (e:=(x:Int)) (by omega) (by omega)
 obtain⟨N,hN⟩:∃N,R.length=N:=⟨_,rfl⟩;rw [hN]at hR sq hle bP cI It EU Tz xu gf|-;rw [hle]at hB|-;refine bA func301 O ntmps301 O (df O) (bg O (nV (St.refl w) O O ?_));intro A1 w1 aI;have h1:Rd w1 A1 3 (fun j=> [Value.int .i64 (n:Int),.slice A N cA,.slice D N cD].getD j undef):=aI.rd 0 O;have hR:=aI.gh hR;have hB:=aI.cT hB;refine ar O (aU h1 O (amv (j:=1) h1 (by exact aF Value.pointer O) O O O O (bc O O (yj (v:=false) N (St.refl w1) O O (by omega) ?_))));intro A3 w2 Ls;have KZ:=Rd.below h1 Ls.below;refine ar O (aU KZ O (amv (j:=1) KZ (by exact aF Value.pointer O) O O O O ?_));have RE:sW N (List.replicate N false) (Cm n R B N):=⟨by simp,fun x hx=> ⟨fun h=> (by rw [Q7]at h;cases h),fun h=>absurd h (Tz x hx)⟩⟩;clear KZ;refine bc O O (eh O (aC O ?_));refine Cd.loop (α:=Nat×List Bool) (fun z=> [(1,.pointer A1),(3,.slice A3 N N),(4,ak ((z.1:Int) - 1))]) (fun z w'=>z.1<=N/\sW N z.2 (Cm n R B z.1)/\St w1 w' [gw 4 A3 N N z.2]) (fun z=>z.1) (N,List.replicate N false) (amz O) ⟨bs _,RE,Ls⟩ ?_;clear Ls RE;rintro⟨E',L⟩ e w3 ⟨hE,hL,hT⟩;dsimp only at hE hL hT|-;refine bJ O (aM _ O (fun h2=>?_) (fun h2=>?_))
 ·obtain⟨f,rfl⟩:∃f,E'=f+1:=⟨E' - 1,by omega⟩;have lp:f<N:=by omega
  rw [show((f+1:Nat):Int) - 1=(f:Int) by omega];have oJ:=Rd.below h1 hT.below;have xi:=hR.aq hT.below;have sE:=gf f lp;refine WN 3 O (tN (α:=List Bool) (fun _=> [(1,.pointer A1),(3,.slice A3 N N),(4,ak f)]) (fun L' w'=>sW N L' (wS n R B f 0)/\St w1 w' [gw 4 A3 N N L']) ?_ ?_)
  ·refine bJ O (eo [xP (ay (A1) 1),xS (A) (N) (cA),xI ((f:Int)),xP (ay (A) ((f:Int)).toNat),xI (gi (R) ((f:Int))),xP (ay (A1) 0),xI ((n:Int)),xI (((n:Int)) - ((1:Int))),xB (decide ((gi (R) ((f:Int)))=(((n:Int)) - ((1:Int)))))] O (eL O) ?_ ?_)
   ·exact⟨fun _ _ hb _ _=>aU (oJ.below hb) O Az,fun _ _ hb _ _=>bh (oJ.below hb) O Az,Dr O,fun _ _ hb _ _=>aD (xi.aq hb).2 O Az,fun _ _ hb _ _=>a8 (xi.aq hb) O Az,fun _ _ hb _ _=>aU (oJ.below hb) O Az,fun _ _ hb _ _=>iy (oJ.below hb) O O O O O Az,fun _ _ _ _ _=>eh O Az,Dr O,au⟩
   intro u w4 og _;have Lt:=hT.aq og;clear hT oJ xi;refine eP O (aM _ O (fun h3=>?_) (fun h3=>?_))
   ·refine aA O (aD (Lt.ji 0 O).2 O (tT 0 Lt O O O (by omega) ?_));intro w5 ud;rw [jc]at ud;refine aT O (tQ ?_);refine⟨L.set f true,(amz O),hL.set lp fun x hx=>?_,ud⟩;unfold wS;rw [List.take_zero];constructor
    ·rintro(h | h | h)
     ·exact .inl h
     ·exact .inr h.1
     cases h.2.1
    rintro(h | h)
    ·exact .inl h
    subst h;exact .inr (.inl ⟨rfl,h3⟩)
   refine nS O (tQ ?_);refine⟨L,(amz O),hL.congr fun x hx=>?_,Lt⟩;unfold wS;rw [List.take_zero];constructor
   ·rintro(h | h | h)
    ·exact h
    ·exact absurd (h.1▸h.2) h3
    cases h.2.1
   exact fun h=> .inl h
  clear hT hL oJ xi;rintro L e w5 ⟨hL,hT⟩;have adD:=bP f lp;have hrl5:=cI f lp;refine dw O (Cd.loop (α:=Nat×List Bool) (fun z=> [(1,.pointer A1),(3,.slice A3 N N),(4,ak f),(5,ak (z.1:Int))]) (fun z w'=>z.1<=(gl B f).length/\sW N z.2 (wS n R B f z.1)/\St w1 w' [gw 4 A3 N N z.2]) (fun z=> (gl B f).length - z.1) (0,L) (amz O) ⟨aZ _,hL,hT⟩ ?_);clear hT hL;rintro⟨j,L⟩ e w6 ⟨hj,hL,hT⟩;dsimp only at hj hL hT|-;have oJ:=Rd.below h1 hT.below;have Ez:=hB.aq hT.below;have iA:=Ez.at_ (i:=(f:Int)) (by omega) (by omega);have oV:=iA.1;have CS:=hL.1;have C4:=(hL.2 f lp).trans (It f j lp);refine bg O (aU oJ O (amv (j:=2) oJ (by exact aF Value.pointer O) O O O O (ar O (aD Ez.top.2 O (bW Ez.top O ?_)))));refine bc O O (ar O ?_);refine ew 39 O (fun h3=>?_) (fun h3=>?_)
  ·have lK:j< (gl B f).length:=by omega
   refine av O (ar O (av O (ar O (av O ?_))));refine aD (hT.ji 0 O).2 O (av O (rP (hT.ji 0 O) O (by omega) O O ?_));generalize hgb:gb L f=bb at*;rw [show bb=decide (bb=true) by cases bb<;>rfl];refine aC O (aM _ O (fun h4=>?_) (fun h4=>?_))
   ·have sj:=C4.1 h4;have qa:=adD.2.1 _ (gi_in lK);have iJ:=fun x=>XY (n:=n) (R:=R) (B:=B) (f:=f) (x:=x) lK
    have xi:=hR.aq hT.below;obtain⟨d,hd⟩:∃d:Nat,gi (gl B f) j=d:=⟨(gi (gl B f) j).toNat,by omega⟩;rw [hd]at qa iJ;have oU:=gf d (by omega);refine aA O (aU oJ O (amv (j:=2) oJ (by exact aF Value.pointer O) O O O O (ar O (aD Ez.top.2 O (bW Ez.top O (ar O (aD iA.2 O (a8 iA O ?_))))))));rw [hd];refine aC O (eo [xP (ay (A1) 1),xS (A) (N) (cA),xI ((d:Int)),xP (ay (A) ((d:Int)).toNat),xI (gi (R) ((d:Int))),xP (ay (A1) 1),xS (A) (N) (cA),xI ((f:Int)),xP (ay (A) ((f:Int)).toNat),xI (gi (R) ((f:Int))),xI ((gi (R) ((f:Int))) - ((1:Int))),xB (decide ((gi (R) ((d:Int)))=((gi (R) ((f:Int))) - ((1:Int)))))] O (eL O) ?_ ?_)
    ·exact⟨fun _ _ hb _ _=>aU (oJ.below hb) O Az,fun _ _ hb _ _=>bh (oJ.below hb) O Az,Dr O,fun _ _ hb _ _=>aD (xi.aq hb).2 O Az,fun _ _ hb _ _=>a8 (xi.aq hb) O Az,fun _ _ hb _ _=>aU (oJ.below hb) O Az,fun _ _ hb _ _=>bh (oJ.below hb) O Az,Dr O,fun _ _ hb _ _=>aD (xi.aq hb).2 O Az,fun _ _ hb _ _=>a8 (xi.aq hb) O Az,fun _ _ _ _ _=>eh O Az,Dr O,au⟩
    intro u w7 C2 _;have oe:=hT.aq C2;refine eP O (aM _ O (fun h5=>?_) (fun h5=>?_))
    ·refine aA O (aD (oe.ji 0 O).2 O (tT 0 oe O O O (by omega) ?_));intro w8 nz;rw [jc]at nz;refine ar O (aH O (aT O (tQ ?_)));refine⟨(j+1,L.set d true),by show(gl B f).length - (j+1)< (gl B f).length - j;omega,(amz O),by show j+1<=_;omega,hL.set (by omega) fun x hx=>?_,nz⟩;rw [iJ x];constructor
     ·rintro(h | h)
      ·exact .inl h
      exact .inr (by omega)
     rintro(h | h)
     ·exact .inl h
     subst h;exact .inr ⟨sj,rfl,by omega⟩
    refine aA O (aH O (aT O (tQ ?_)));refine⟨(j+1,L),by show(gl B f).length - (j+1)< (gl B f).length - j;omega,(amz O),by show j+1<=_;omega,hL.congr fun x hx=>?_,oe⟩;rw [iJ x];constructor
    ·rintro(h | h)
     ·exact h
     have h9:=h.2.1;have eV:=h.2.2;rw [h9]at eV;omega
    exact fun h=> .inl h
   have sj:¬dS n R B f:=fun h=>h4 (C4.2 h)
   refine bn O (bo (cL O (eh O (aT O (tQ ?_)))));exact⟨(f,L),by show f<f+1;omega,(amz O),by show f<=N;omega,hL.congr fun x hx=> (EU f j x lp (.inl sj) hx).symm,hT⟩
  refine aJ O (aJ O (aJ O (aJ O (aC O ?_))));refine Cd.fC O (bn O (bo (cL O (eh O (aT O (tQ ?_))))));exact⟨(f,L),by show f<f+1;omega,(amz O),by show f<=N;omega,hL.congr fun x hx=> (EU f j x lp (.inr (by omega)) hx).symm,hT⟩
 obtain rfl:E'=0:=by omega
 refine bn O (bo (gq O ?_));refine ia O ?_;have h9:=aI.none.call hT;exact⟨A3,L,O,hL.congr fun x hx=> (xu x hx).symm,h9⟩
theorem YC(G X:ah):cap (cap G++X)=cap (G++X):=by
 unfold cap
 by_cases h:G.length<=401
 ·rw [gR h]
 rw [vK (by rw [na];omega),vK (by omega),List.take_take,Nat.min_self]
section
variable (n:Nat) (R:ai) (B:ah)
def mx(st:ai)(m:Nat):ai:=(bS m).filter fun e=>decide (gi R e=(st.length:Int)/\dS n R B e/\(st.length=0\/gi st ((st.length:Int) - 1)∈gl B e))
def fP:Nat->ai->ah
 | 0,st=> [st]
 | k+1,st=> (mx n R B st R.length).flatMap fun e=>fP k (st++ [e])
end
section
variable {n:Nat} {R:ai} {B:ah}
theorem ahb(st:ai)(m:Nat):mx n R B st (m+1)=if gi R m=(st.length:Int)/\dS n R B m/\(st.length=0\/gi st ((st.length:Int) - 1)∈gl B m)then mx n R B st m++ [(m:Int)]else mx n R B st m:=by
 have e9:bS (m+1)=bS m++ [(m:Int)]:=by
  unfold bS;rw [jB,iD];rfl
 unfold mx;rw [e9,rJ]
 by_cases c:gi R m=(st.length:Int)/\dS n R B m/\(st.length=0\/gi st ((st.length:Int) - 1)∈gl B m)
 ·rw [aB c,zL (by simpa using c)];rfl
 rw [az c,wO (by simpa using c)];simp
theorem Qz:∀(k:Nat) (st:ai) (e:Int),0<st.length->gi st ((st.length:Int) - 1)=e->(0<=e/\e<R.length)->gi R e=(st.length:Int) - 1->st.length+k=n->fP n R B k st=(nq R B k e).map (st++ ·)
 | 0,st,e,_,_,_,_,_=>by simp [fP,nq]
 | k+1,st,e,h0,hl,he,hr,hk=>by
  rw [fP,Ws (n:=n) (by omega) (by omega),List.map_flatMap];have hn:mx n R B st R.length=(ke R B e).filter fun f=>decide (dS n R B f):=by
   refine SA.eq (pc _ (mf _)) (pc _ (DP _ _ _)) fun y=>?_
   unfold mx;rw [gg,gg,jU,mF,lg,lg,hl];constructor
   ·rintro⟨h1,h2,h3,h4⟩;exact⟨⟨h1,by omega,h4.resolve_left (by omega)⟩,h3⟩
   ·rintro⟨⟨h1,h2,h4⟩,h3⟩;exact⟨h1,by omega,h3,.inr h4⟩
  rw [hn];refine En fun f hf=>?_
  have hf:=mF.1 (gg.1 hf).1;have hlen:(st++ [f]).length=st.length+1:=by simp
  rw [Qz k (st++ [f]) f (by omega) (by
   rw [hlen,show((st.length+1:Nat):Int) - 1=(st.length:Int) by omega,b9 (by omega)];simp) hf.1 (by rw [hlen];omega) (by omega),List.map_map]
  refine rN fun y _=>?_
  show(st++ [f])++y=st++ (f::y);rw [gx];rfl
theorem ZJ(hn:1<=n):fP n R B n []=aG n R B:=by
 obtain⟨k,rfl⟩:∃k,n=k+1:=⟨n - 1,by omega⟩;rw [PN,fP];have hb:mx (k+1) R B [] R.length=(uU R).filter fun f=>decide (dS (k+1) R B f):=by
  refine SA.eq (pc _ (mf _)) (pc _ (pc _ (mf _))) fun y=>?_
  unfold mx;rw [gg,gg,jU,tV,lg,lg];exact⟨fun h=> ⟨⟨h.1,h.2.1⟩,h.2.2.1⟩,fun h=> ⟨h.1.1,h.1.2,h.2,.inl O⟩⟩
 rw [hb];refine En fun f hf=>?_
 have hf:=tV.1 (gg.1 hf).1;rw [List.nil_append,Qz k [f] f (by simp) (by simp [gi]) hf.1 (by rw [hf.2];rfl) (by simp;omega)]
 rfl
end
theorem FM{Q:jD}{e:Env}{w:aa}{F:List (Nat×ad)}(hM:Mt e F)(h:Q .normal (ext e F) w):Q .normal e w:=by rwa [yu hM]at h
theorem agq{w0 w:aa}{ks:List Ck}{t:ae}{A:aj}{n c:Nat}{xs:List Bool}(h:St w0 w ks)(hm:gw t A n c xs∈ks):uR w A n xs:=by
 obtain⟨i,hi,e⟩:=gF.1 hm;exact h.ji i (by rw [fZ hi,e])
theorem ahw{α:Type}(s m:α)(X K:List α):(s::m::(X++K)).Perm (m::((X++ [s])++K)):=by
 classical
 refine jA.2 fun z=>?_
 simp only [lu,jz,kC];omega
theorem ahy{α:Type}(p s:α)(X K:List α):(p::s::(X++K)).Perm (X++ (p::s::K)):=by
 classical
 refine jA.2 fun z=>?_
 simp only [lu,jz];omega
theorem afl(w0:aa)(n:Nat)(AR AD:aj)(cR cD:Nat)(R:ai)(Jf:List aO)(B:ah)(N:Nat)(hN:R.length=N)(hR:cg w0 AR N R)(hB:bF w0 AD N Jf B)(hP:gr n R B)(Aa:aj)(La:List Bool)(Hu:sW N La (fun x=>dS n R B x)):
 ∀(k r:Nat) (st:ai) (As:aj) (cs:Nat) (fL:List Ck) (w:aa) (A:aj) (c:Nat) (rs:List aO) (F:ah),r+k=n->st.length=r->(∀x∈st,0<=x/\x< (N:Int))->gw 4 Aa N N La∈fL->rs.length=F.length->F.length<=401->
  St w0 w (ax 2 As r cs st::(aL 34 2 A F.length c rs F++fL))->
  aK prog 300 [.agg #[ak n,.slice AR N cR,.slice AD N cD],.slice Aa N N,.slice As r cs,.slice A F.length c] w (fun v w'=>∃A' c' rs',v= .slice A' (cap (F++fP n R B k st)).length c'/\rs'.length=(cap (F++fP n R B k st)).length/\St w0 w' (aL 34 2 A' (cap (F++fP n R B k st)).length c' rs' (cap (F++fP n R B k st))++fL)):=by
 have hn:=hP.n1;have sq:=hP.pe;have hle:=hP.len;have bP:=fun(f:Nat) (h:f<R.length)=>hP.at_ (e:=(f:Int)) (by omega) (by omega)
 have cI:∀f:Nat,f<R.length->(gl B f).length<=500:=fun f h=>by
  have:=sJ (N:=R.length) (bP f h).1.nodup fun x hx=>by have:=((bP f h).2.1 x hx).1;omega
  omega
 have gf:=fun(x:Nat) (h:x<R.length)=>hP.ri (e:=(x:Int)) (by omega) (by omega)
 rw [hN]at sq hle cI gf;have CS:=Hu.1;intro k
 induction k with
 | zero=>
  intro r st As cs fL w A c rs F hk aw zc Hm dH hF hS;refine bA func300 O ntmps300 O (df O) (bg O (nV hS O O ?_));intro A4 w1 aI;refine ar O (bc O O (aC O ?_));refine aM _ O (fun h1=>?_) (fun h1=>?_)
  ·have hc:cap (F++fP n R B 0 st)=F:=by
    have h9:cap F=F:=zU hF;rw [GL (l:=F) _ (by rw [h9];omega),h9]
   refine dX O (ia O ?_);rw [hc];exact⟨A,c,rs,O,dH,aI.tail.tail⟩
  refine aA O (bc O O (ar O ?_));refine aU (aI.rd 0 O) O (iy (j:=0) (aI.rd 0 O) (by exact aF Value.pointer O) O O O O (aC O (DU O (by omega) ?_)));have hc:cap (F++fP n R B 0 st)=F++ [st]:=zU (by rw [fP,b8];show F.length+1<=401;omega);have aI:=aI.tail;refine aA O (kV aI O O O ?_);intro A9 w2 aE;refine lA 2 aE O (aE.fG 0 O) O O O (by omega) (by omega) O ?_;intro AZ cZ w3 aR;have aR:=aR.tail;refine bI O (ia O ?_);rw [hc];refine⟨AZ,cZ,rs++ [⟨As,r,cs⟩],by rw [b8];rfl,by simp [dH],?_⟩;have aX:St w0 w3 (ax 2 As r cs st::bZ 34 AZ (F.length+1) cZ (rs++ [⟨As,r,cs⟩])::(cK 2 rs F++fL)):=aR;have aX:=aX.perm (ahw _ _ _ _);rw [<-o9 dH]at aX;rw [b8];exact aX
 | succ k ih=>
  intro r st As cs fL w A c rs F hk aw zc Hm dH hF hS;refine bA func300 O ntmps300 O (df O) (bg O (nV hS O O ?_));intro A4 w1 aI;refine ar O (bc O O (aC O ?_));refine aM _ O (fun h1=>?_) (fun h1=>?_)
  ·have hc:cap (F++fP n R B (k+1) st)=F:=by
    have h9:cap F=F:=zU hF;rw [GL (l:=F) _ (by rw [h9];omega),h9]
   refine dX O (ia O ?_);rw [hc];exact⟨A,c,rs,O,dH,aI.tail.tail⟩
  refine aA O (bc O O (ar O ?_));refine aU (aI.rd 0 O) O (iy (j:=0) (aI.rd 0 O) (by exact aF Value.pointer O) O O O O (aC O (nP O (by omega) ?_)));have aI:St w0 w1 (bD A4 n AR N cR AD N cD::ax 2 As r cs st::(aL 34 2 A F.length c rs F++fL)):=aI;have aE:=aI.perm (ahy _ _ _ _);have Ld:cap (F++ (mx n R B st 0).flatMap fun e=>fP n R B k (st++ [e]))=F:=by
   show cap (F++ [])=F;rw [fj,zU hF]
  clear aI hS;refine dw O ?_;refine Cd.loop (α:=Nat×aj×Nat×List aO) (fun z=> [(1,.slice Aa N N),(2,.slice As r cs),(3,.slice z.2.1 (cap (F++ (mx n R B st z.1).flatMap fun e=>fP n R B k (st++ [e]))).length z.2.2.1),(4,.pointer A4),(9,ak r),(10,ak (z.1:Int))])
   (fun z w'=>z.1<=N/\z.2.2.2.length=(cap (F++ (mx n R B st z.1).flatMap fun e=>fP n R B k (st++ [e]))).length/\St w0 w' (aL 34 2 z.2.1 (cap (F++ (mx n R B st z.1).flatMap fun e=>fP n R B k (st++ [e]))).length z.2.2.1 z.2.2.2 (cap (F++ (mx n R B st z.1).flatMap fun e=>fP n R B k (st++ [e])))++ (bD A4 n AR N cR AD N cD::ax 2 As r cs st::fL))) (fun z=>N - z.1) (0,A,c,rs) ⟨rfl,rfl,aF (fun m:ah=>Value.slice A m.length c) Ld.symm,rfl,rfl,rfl,au⟩ ⟨aZ _,by show rs.length=_;rw [Ld];exact dH,by show St w0 w1 (aL _ _ A (cap _).length c rs (cap _)++_);rw [Ld];exact aE⟩ ?_
  clear aE dH;rintro⟨q,A,c,rs⟩ e w2 ⟨hq,dH,hS⟩;dsimp only at hq dH hS|-;have iJ:=ahb (n:=n) (R:=R) (B:=B) st q;have dh:=Ka (F++ (mx n R B st q).flatMap fun e=>fP n R B k (st++ [e]));have EO:=YC (F++ (mx n R B st q).flatMap fun e=>fP n R B k (st++ [e]));generalize hG:(F++ (mx n R B st q).flatMap fun e=>fP n R B k (st++ [e]))=G at*;have pn:∀ {w':aa} {A:aj} {c:Nat} {rs:List aO} {F:ah},St w0 w' (aL 34 2 A F.length c rs F++ (bD A4 n AR N cR AD N cD::ax 2 As r cs st::fL))->Rd w' A4 3 (fun q=> [Value.int .i64 (n:Int),.slice AR N cR,.slice AD N cD].getD q undef):=fun h=> (h.sub (iQ _ _)).rd 0 O
  have su:∀ {w':aa} {A:aj} {c:Nat} {rs:List aO} {F:ah},St w0 w' (aL 34 2 A F.length c rs F++ (bD A4 n AR N cR AD N cD::ax 2 As r cs st::fL))->cg w' As r st:=fun h=> (h.sub (iQ _ _)).bz 1 O
  have qR:∀ {w':aa} {A:aj} {c:Nat} {rs:List aO} {F:ah},St w0 w' (aL 34 2 A F.length c rs F++ (bD A4 n AR N cR AD N cD::ax 2 As r cs st::fL))->uR w' Aa N La:=fun h=>agq h (List.mem_append_right _ (qC _ (qC _ Hm)))
  have uc:=pn hS;refine bg O (aU uc O (amv (j:=1) uc (by exact aF Value.pointer O) O O O O ?_));refine bc O O (aC O ?_);refine aM _ O (fun h3=>?_) (fun h3=>?_)
  ·have Tf:q<N:=by omega
   have ln:=hS.gh hR;have tj:=hS.cT hB;have kN:=su hS;have CP:=qR hS;have HX:=Hu.2 q Tf;have hriq:=gf q Tf;have hrlq:=cI q (by omega);have Tn:=tj.at_ (i:=(q:Int)) (by omega) (by omega);have oV:=Tn.1;have mU:¬(gi R q=(st.length:Int)/\dS n R B q/\(st.length=0\/gi st ((st.length:Int) - 1)∈gl B q))->F++ ((mx n R B st (q+1)).flatMap fun e=>fP n R B k (st++ [e]))=G:=fun h=>by
    rw [iJ,az h];exact hG
   have EN:¬gi R q=(r:Int)\/(gi R q=(r:Int)/\gb La q=false)\/(gi R q=(r:Int)/\gb La q=true/\(r:Int)=0)\/(gi R q=(r:Int)/\gb La q=true/\¬(r:Int)=0):=by
    by_cases a:gi R q=(r:Int)
    ·cases gb La q
     ·exact .inr (.inl ⟨a,O⟩)
     ·by_cases b:(r:Int)=0
      ·exact .inr (.inr (.inl ⟨a,O,b⟩))
      ·exact .inr (.inr (.inr ⟨a,O,b⟩))
    ·exact .inl a
   rcases EN with a1 | ⟨a1,a2⟩ | ⟨a1,a2,a3⟩ | ⟨a1,a2,a3⟩
   ·--dup 4
    have fF:=mU (fun h=>a1 (by rw [h.1,aw]));refine dw O (eo [xP (ay (A4) 1),xS (AR) (N) (cR),xI ((q:Int)),xP (ay (AR) ((q:Int)).toNat),xI (gi (R) ((q:Int))),xI ((r:Int)),xB (decide ((gi (R) ((q:Int)))=((r:Int)))),xB (false),xU,xU,xU,xU,xB (false),xB (false),xU,xU,xU,xU,xU,xU,xU,xU,xU,xU,xU,xU,xU,xU,xU,xB (false)] O (eL O) ?_ ?_)
    ·exact⟨fun _ _ hb _ _=>aU (uc.below hb) O Az,fun _ _ hb _ _=>bh (uc.below hb) O Az,Dr O,fun _ _ hb _ _=>aD (ln.aq hb).2 O Az,fun _ _ hb _ _=>a8 (ln.aq hb) O Az,Dr O,Dr O,fun _ _ _ _ _=>Dk O (by exact aF Value.bool (cj a1)),Dr O,Dr O,Dr O,Dr O,Dr O,fun _ _ _ _ _=>Dk O (by exact aF Value.bool (O)),Dr O,Dr O,Dr O,Dr O,Dr O,Dr O,Dr O,Dr O,Dr O,Dr O,Dr O,Dr O,Dr O,Dr O,Dr O,Dr O,au⟩
    intro u w3 fR _;refine eP O (Cd.fC O ?_);refine aA O (aH O (aT O (tQ ?_)));exact⟨(q+1,A,c,rs),by show N - (q+1)<N - q;omega,⟨O,O,aF (fun m:ah=>Value.slice A (cap m).length c) fF.symm,O,O,O,au⟩,by show q+1<=N;omega,by show rs.length=(cap _).length;rw [fF];exact dH,by show St w0 w3 (aL _ _ A (cap _).length c rs (cap _)++_);rw [fF];exact hS.aq fR⟩
   ·have fF:=mU (fun h=>by have:=HX.2 h.2.1;rw [a2]at this;cases this);refine dw O (eo [xP (ay (A4) 1),xS (AR) (N) (cR),xI ((q:Int)),xP (ay (AR) ((q:Int)).toNat),xI (gi (R) ((q:Int))),xI ((r:Int)),xB (decide ((gi (R) ((q:Int)))=((r:Int)))),xB (true),xS (Aa) (N) (N),xI ((q:Int)),xP (ay (Aa) ((q:Int)).toNat),xB (gb (La) ((q:Int))),xB (gb (La) ((q:Int))),xB (false),xU,xU,xU,xU,xU,xU,xU,xU,xU,xU,xU,xU,xU,xU,xU,xB (false)] O (eL O) ?_ ?_)
    ·exact⟨fun _ _ hb _ _=>aU (uc.below hb) O Az,fun _ _ hb _ _=>bh (uc.below hb) O Az,Dr O,fun _ _ hb _ _=>aD (ln.aq hb).2 O Az,fun _ _ hb _ _=>a8 (ln.aq hb) O Az,Dr O,Dr O,fun _ _ _ _ _=>Dk O (by exact aF Value.bool (dM a1)),Dr O,Dr O,fun _ _ hb _ _=>av O (aD (CP.aq hb).2 O Az),fun _ _ hb _ _=>av O (rP (CP.aq hb) O (by omega) O O Az),Dr O,fun _ _ _ _ _=>Dk O (by exact aF Value.bool (a2)),Dr O,Dr O,Dr O,Dr O,Dr O,Dr O,Dr O,Dr O,Dr O,Dr O,Dr O,Dr O,Dr O,Dr O,Dr O,Dr O,au⟩
    intro u w3 fR _;refine eP O (Cd.fC O ?_);refine aA O (aH O (aT O (tQ ?_)));exact⟨(q+1,A,c,rs),by show N - (q+1)<N - q;omega,⟨O,O,aF (fun m:ah=>Value.slice A (cap m).length c) fF.symm,O,O,O,au⟩,by show q+1<=N;omega,by show rs.length=(cap _).length;rw [fF];exact dH,by show St w0 w3 (aL _ _ A (cap _).length c rs (cap _)++_);rw [fF];exact hS.aq fR⟩
   ·have jS:gi R q=(st.length:Int)/\dS n R B q/\(st.length=0\/gi st ((st.length:Int) - 1)∈gl B q):=⟨by omega,HX.1 a2,.inl (by omega)⟩;refine dw O (eo [xP (ay (A4) 1),xS (AR) (N) (cR),xI ((q:Int)),xP (ay (AR) ((q:Int)).toNat),xI (gi (R) ((q:Int))),xI ((r:Int)),xB (decide ((gi (R) ((q:Int)))=((r:Int)))),xB (true),xS (Aa) (N) (N),xI ((q:Int)),xP (ay (Aa) ((q:Int)).toNat),xB (gb (La) ((q:Int))),xB (gb (La) ((q:Int))),xB (true),xI ((r:Int)),xB (decide (((r:Int))=((0:Int)))),xB (true),xU,xU,xU,xU,xU,xU,xU,xU,xU,xU,xU,xB (true),xB (true)] O (eL O) ?_ ?_)
    ·exact⟨fun _ _ hb _ _=>aU (uc.below hb) O Az,fun _ _ hb _ _=>bh (uc.below hb) O Az,Dr O,fun _ _ hb _ _=>aD (ln.aq hb).2 O Az,fun _ _ hb _ _=>a8 (ln.aq hb) O Az,Dr O,Dr O,fun _ _ _ _ _=>Dk O (by exact aF Value.bool (dM a1)),Dr O,Dr O,fun _ _ hb _ _=>av O (aD (CP.aq hb).2 O Az),fun _ _ hb _ _=>av O (rP (CP.aq hb) O (by omega) O O Az),Dr O,fun _ _ _ _ _=>Dk O (by exact aF Value.bool (a2)),Dr O,Dr O,fun _ _ _ _ _=>Dk O (by exact aF Value.bool (dM a3)),Dr O,Dr O,Dr O,Dr O,Dr O,Dr O,Dr O,Dr O,Dr O,Dr O,Dr O,Dr O,Dr O,au⟩
    intro u w3 fR _;have hS:=hS.aq fR;refine eP O (Cd.gC O ?_);have E6:=iJ;rw [aB jS]at E6;have Lf:F++ ((mx n R B st (q+1)).flatMap fun e=>fP n R B k (st++ [e]))=G++fP n R B k (st++ [(q:Int)]):=by
     rw [E6,List.flatMap_append,<-gx,hG];simp
    have LH:=EO (fP n R B k (st++ [(q:Int)]));have Mz:∀x∈st++ [(q:Int)],0<=x/\x< (N:Int):=fun x hx=>by
     rcases kj.1 hx with h | h
     ·exact zc x h
     ·obtain rfl:=gG.1 h;omega
    generalize hH:cap G=H at*;refine kB [6,8] [.ex (.agg #[ak n,.slice AR N cR,.slice AD N cD]),yS (Aa) (N) (N),yS (As) (r) (cs),.pr (fun v w'=>∃A9 c9,v= .slice A9 r c9/\St w0 w' (ax 2 A9 r c9 st::(aL 34 2 A H.length c rs H++ (bD A4 n AR N cR AD N cD::ax 2 As r cs st::fL)))),yI ((q:Int)),.pr (fun v w'=>∃A9,v= .slice A9 1 1/\cg w' A9 1 [(q:Int)]),.pr (fun v w'=>∃AZ cZ,v= .slice AZ (r+1) cZ/\St w0 w' (ax 2 AZ (r+1) cZ (st++ [(q:Int)])::(aL 34 2 A H.length c rs H++ (bD A4 n AR N cR AD N cD::ax 2 As r cs st::fL)))),yS (A) (H.length) (c),.pr (fun v w'=>∃A' c' rs',v= .slice A' (cap (G++fP n R B k (st++ [(q:Int)]))).length c'/\rs'.length=(cap (G++fP n R B k (st++ [(q:Int)]))).length/\St w0 w' (aL 34 2 A' (cap (G++fP n R B k (st++ [(q:Int)]))).length c' rs' (cap (G++fP n R B k (st++ [(q:Int)])))++ (bD A4 n AR N cR AD N cD::ax 2 As r cs st::fL))),.pr (fun v w'=>∃A' c' rs',v= .slice A' (cap (G++fP n R B k (st++ [(q:Int)]))).length c'/\rs'.length=(cap (G++fP n R B k (st++ [(q:Int)]))).length/\St w0 w' (aL 34 2 A' (cap (G++fP n R B k (st++ [(q:Int)]))).length c' rs' (cap (G++fP n R B k (st++ [(q:Int)])))++ (bD A4 n AR N cR AD N cD::ax 2 As r cs st::fL)))] (ly (ly (ly (de.2 ⟨Ye.dp (fun v w w' h hb=>by obtain⟨A9,c9,hv,hT⟩:=h;exact⟨A9,c9,hv,hT.aq hb⟩),(ly (de.2 ⟨Ye.dp (fun v w w' h hb=>by obtain⟨A9,hv,hT⟩:=h;exact⟨A9,hv,hT.aq hb⟩),(de.2 ⟨Ye.dp (fun v w w' h hb=>by obtain⟨AZ,cZ,hv,hT⟩:=h;exact⟨AZ,cZ,hv,hT.aq hb⟩),(ly (de.2 ⟨Ye.dp (fun v w w' h hb=>by obtain⟨A',c',rs',hv,fX,hT⟩:=h;exact⟨A',c',rs',hv,fX,hT.aq hb⟩),(de.2 ⟨Ye.dp (fun v w w' h hb=>by obtain⟨A',c',rs',hv,fX,hT⟩:=h;exact⟨A',c',rs',hv,fX,hT.aq hb⟩),(fun _ h=>by cases h)⟩)⟩))⟩)⟩))⟩)))) ?_ ?_
    ·refine⟨?_,bT O,bT O,?_,bT O,?_,?_,?_,?_,?_,au⟩
     ·intro e1 w1 cc eZ dt fQ hp aW hq;show ao _ _ _ _ _ _ _;have hX:Rd w1 A4 3 (fun q=> [Value.int .i64 (n:Int),.slice AR N cR,.slice AD N cD].getD q undef):=by { have dt:=qn dt (b:=1) (by kernel_rfl);rcases(show cc=0\/cc=1 by omega)with h | h; { exact Rd.below (pn hS) (fQ h) }; { subst h;obtain⟨AZ,cZ,_,hT⟩:=hq 6 _ _ (by kernel_rfl) (by kernel_rfl) (by kernel_rfl) rfl rfl (by kernel_rfl);exact pn hT.tail } }
      refine ao.dq 2 hX O O O (ao.n (iN O (by exact O)))
     ·refine cP fun e1 w1 hb hp aW hq=>?_
      refine aQ (IK As r cs st _ (su (hS.aq hb)) (by omega)) O ?_;rintro _ w9 ⟨A9,c9,rfl,iV⟩;exact ao.n (fN.dn O iV.below ⟨A9,c9,O,(hS.aq hb).call iV⟩)
     ·intro e1 w1 cc eZ dt fQ hp aW hq;show ao _ _ _ _ _ _ _;exact eS (St.refl _) O O O fun A9 w9 iV=>ao.n (fN.dn O iV.below ⟨A9,O,iV.bz 0 O⟩)
     ·refine kG fun e1 w1 hb hp aW hq=>?_
      obtain⟨A8,c8,K4,hT⟩:=(hp 3 _ _ (by kernel_rfl) rfl rfl (by kernel_rfl));obtain⟨A9,Ex,pZ⟩:=(hp 5 _ _ (by kernel_rfl) rfl rfl (by kernel_rfl));refine fk 0 hT O pZ (by exact K4) (by exact Ex) O ?_;intro AZ cZ wZ hZ;exact ao.n (fY.dn O ⟨AZ,cZ,O,hZ⟩)
     ·intro e1 w1 cc eZ dt fQ hp aW hq;show ao _ _ _ _ _ _ _;refine lW O (by exact aW 9 _ O (by kernel_rfl)) O (ao.n (iN O (by exact O)))
     ·refine rU 1 fun e1 w1 hp aW hq=>?_
      have eN:=hp 6 _ _ (by kernel_rfl) O O (by kernel_rfl);obtain⟨AZ,cZ,CN,hT⟩:=(hp 6 _ _ (by kernel_rfl) rfl rfl (by kernel_rfl));refine amq (ih (r+1) (st++ [(q:Int)]) AZ cZ (bD A4 n AR N cR AD N cD::ax 2 As r cs st::fL) _ A c rs H (by omega) (by rw [b8,aw];rfl) Mz (qC _ (qC _ Hm)) dH (by omega) hT) O (by exact aF (fun v=> [Value.agg #[ak n,.slice AR N cR,.slice AD N cD],.slice Aa N N,v,.slice A H.length c]) CN) O ?_;rintro _ w9 ⟨A',c',rs',rfl,fX,qN⟩;rw [LH]at fX qN|-;exact ao.n (fY.dn O ⟨A',c',rs',O,fX,qN⟩)
     ·refine dP 2 fun e1 w1 hp aW hq=>?_
      have eN:=hp 8 _ _ (by kernel_rfl) O O (by kernel_rfl);obtain⟨A',c',rs',K5,fX,hT⟩:=(hp 8 _ _ (by kernel_rfl) rfl rfl (by kernel_rfl));refine lW O (by exact K5) O (ao.n ?_);exact fN.dn O (Below.refl _ _) ⟨A',c',rs',O,fX,hT⟩
    intro u4 w4 _ MG _ _;obtain⟨A',c',rs',wq,fX,hT⟩:=MG 9 _ rfl (by kernel_rfl);rw [<-Lf]at wq fX hT;refine FM (F:=[(1,.slice Aa N N),(2,.slice As r cs),(3,.slice A' (cap (F++ ((mx n R B st (q+1)).flatMap fun e=>fP n R B k (st++ [e])))).length c'),(4,.pointer A4),(9,ak r),(10,ak q)]) ⟨O,O,wq,O,O,O,au⟩ (jW O (aH O (aT O (tQ ?_))));exact⟨(q+1,A',c',rs'),by show N - (q+1)<N - q;omega,(amz O),by show q+1<=N;omega,fX,hT⟩
   ·refine dw O ?_;refine eo [xP (ay (A4) 1),xS (AR) (N) (cR),xI ((q:Int)),xP (ay (AR) ((q:Int)).toNat),xI (gi (R) ((q:Int))),xI ((r:Int)),xB (decide ((gi (R) ((q:Int)))=((r:Int)))),xB (true),xS (Aa) (N) (N),xI ((q:Int)),xP (ay (Aa) ((q:Int)).toNat),xB (gb (La) ((q:Int))),xB (gb (La) ((q:Int))),xB (true),xI ((r:Int)),xB (decide (((r:Int))=((0:Int)))),xB (false),xP (ay (A4) 2),xS (AD) (N) (cD),xI ((q:Int)),xP (ay (AD) ((q:Int)).toNat),xS ((rg (Jf) ((q:Int))).a) ((rg (Jf) ((q:Int))).n) ((rg (Jf) ((q:Int))).c),xS (As) (r) (cs),xI ((r:Int)),xI (((r:Int)) - ((1:Int))),xP (ay (As) (((r:Int)) - ((1:Int))).toNat),xI (gi (st) (((r:Int)) - ((1:Int)))),xB (decide (gi st ((r:Int) - 1)∈gl B q)),xB (decide (gi st ((r:Int) - 1)∈gl B q)),xB (decide (gi st ((r:Int) - 1)∈gl B q))] O (eL O) ?_ ?_
    ·refine⟨fun _ _ hb _ _=>aU (uc.below hb) O Az,fun _ _ hb _ _=>bh (uc.below hb) O Az,Dr O,fun _ _ hb _ _=>aD (ln.aq hb).2 O Az,fun _ _ hb _ _=>a8 (ln.aq hb) O Az,Dr O,Dr O,fun _ _ _ _ _=>Dk O (by exact aF Value.bool (dM a1)),Dr O,Dr O,fun _ _ hb _ _=>av O (aD (CP.aq hb).2 O Az),fun _ _ hb _ _=>av O (rP (CP.aq hb) O (by omega) O O Az),Dr O,fun _ _ _ _ _=>Dk O (by exact aF Value.bool (a2)),Dr O,Dr O,fun _ _ _ _ _=>Dk O (by exact aF Value.bool (cj a3)),fun _ _ hb _ _=>av O (aU (uc.below hb) O Az),fun _ _ hb _ _=>av O (bh (uc.below hb) O Az),Dr O,fun _ _ hb _ _=>av O (aD (tj.top.aq hb).2 O Az),fun _ _ hb _ _=>av O (bW (tj.top.aq hb) O Az),Dr O,Dr O,fun _ _ _ _ _=>av O (eh O Az),fun _ _ hb _ _=>av O (aD (kN.aq hb).2 O Az),fun _ _ hb _ _=>av O (a8 (kN.aq hb) O Az),?_,Dr O,Dr O,au⟩
     ·intro e1 w1 hb hp aW;refine av O (aQ (IJ _ _ _ _ _ _ (Tn.aq hb) (by omega)) O ?_);rintro _ w2 ⟨rfl,aw⟩;subst aw;refine ao.n (d0 (by exact O))
    intro u w3 fR _;have hS:=hS.aq fR;refine eP O (aM _ O (fun h5=>?_) (fun h5=>?_))
    ·have jS:gi R q=(st.length:Int)/\dS n R B q/\(st.length=0\/gi st ((st.length:Int) - 1)∈gl B q):=⟨by omega,HX.1 a2,.inr (by rw [aw];exact h5)⟩;have E6:=iJ;rw [aB jS]at E6;have Lf:F++ ((mx n R B st (q+1)).flatMap fun e=>fP n R B k (st++ [e]))=G++fP n R B k (st++ [(q:Int)]):=by
      rw [E6,List.flatMap_append,<-gx,hG];simp
     have LH:=EO (fP n R B k (st++ [(q:Int)]));have Mz:∀x∈st++ [(q:Int)],0<=x/\x< (N:Int):=fun x hx=>by
      rcases kj.1 hx with h | h
      ·exact zc x h
      ·obtain rfl:=gG.1 h;omega
     generalize hH:cap G=H at*;refine kB [6,8] [.ex (.agg #[ak n,.slice AR N cR,.slice AD N cD]),yS (Aa) (N) (N),yS (As) (r) (cs),.pr (fun v w'=>∃A9 c9,v= .slice A9 r c9/\St w0 w' (ax 2 A9 r c9 st::(aL 34 2 A H.length c rs H++ (bD A4 n AR N cR AD N cD::ax 2 As r cs st::fL)))),yI ((q:Int)),.pr (fun v w'=>∃A9,v= .slice A9 1 1/\cg w' A9 1 [(q:Int)]),.pr (fun v w'=>∃AZ cZ,v= .slice AZ (r+1) cZ/\St w0 w' (ax 2 AZ (r+1) cZ (st++ [(q:Int)])::(aL 34 2 A H.length c rs H++ (bD A4 n AR N cR AD N cD::ax 2 As r cs st::fL)))),yS (A) (H.length) (c),.pr (fun v w'=>∃A' c' rs',v= .slice A' (cap (G++fP n R B k (st++ [(q:Int)]))).length c'/\rs'.length=(cap (G++fP n R B k (st++ [(q:Int)]))).length/\St w0 w' (aL 34 2 A' (cap (G++fP n R B k (st++ [(q:Int)]))).length c' rs' (cap (G++fP n R B k (st++ [(q:Int)])))++ (bD A4 n AR N cR AD N cD::ax 2 As r cs st::fL))),.pr (fun v w'=>∃A' c' rs',v= .slice A' (cap (G++fP n R B k (st++ [(q:Int)]))).length c'/\rs'.length=(cap (G++fP n R B k (st++ [(q:Int)]))).length/\St w0 w' (aL 34 2 A' (cap (G++fP n R B k (st++ [(q:Int)]))).length c' rs' (cap (G++fP n R B k (st++ [(q:Int)])))++ (bD A4 n AR N cR AD N cD::ax 2 As r cs st::fL)))] (ly (ly (ly (de.2 ⟨Ye.dp (fun v w w' h hb=>by obtain⟨A9,c9,hv,hT⟩:=h;exact⟨A9,c9,hv,hT.aq hb⟩),(ly (de.2 ⟨Ye.dp (fun v w w' h hb=>by obtain⟨A9,hv,hT⟩:=h;exact⟨A9,hv,hT.aq hb⟩),(de.2 ⟨Ye.dp (fun v w w' h hb=>by obtain⟨AZ,cZ,hv,hT⟩:=h;exact⟨AZ,cZ,hv,hT.aq hb⟩),(ly (de.2 ⟨Ye.dp (fun v w w' h hb=>by obtain⟨A',c',rs',hv,fX,hT⟩:=h;exact⟨A',c',rs',hv,fX,hT.aq hb⟩),(de.2 ⟨Ye.dp (fun v w w' h hb=>by obtain⟨A',c',rs',hv,fX,hT⟩:=h;exact⟨A',c',rs',hv,fX,hT.aq hb⟩),(fun _ h=>by cases h)⟩)⟩))⟩)⟩))⟩)))) ?_ ?_
     ·refine⟨?_,bT O,bT O,?_,bT O,?_,?_,?_,?_,?_,au⟩
      ·intro e1 w1 cc eZ dt fQ hp aW hq;show ao _ _ _ _ _ _ _;have hX:Rd w1 A4 3 (fun q=> [Value.int .i64 (n:Int),.slice AR N cR,.slice AD N cD].getD q undef):=by { have dt:=qn dt (b:=1) (by kernel_rfl);rcases(show cc=0\/cc=1 by omega)with h | h; { exact Rd.below (pn hS) (fQ h) }; { subst h;obtain⟨AZ,cZ,_,hT⟩:=hq 6 _ _ (by kernel_rfl) (by kernel_rfl) (by kernel_rfl) rfl rfl (by kernel_rfl);exact pn hT.tail } }
       refine ao.dq 2 hX O O O (ao.n (iN O (by exact O)))
      ·refine cP fun e1 w1 hb hp aW hq=>?_
       refine aQ (IK As r cs st _ (su (hS.aq hb)) (by omega)) O ?_;rintro _ w9 ⟨A9,c9,rfl,iV⟩;exact ao.n (fN.dn O iV.below ⟨A9,c9,O,(hS.aq hb).call iV⟩)
      ·intro e1 w1 cc eZ dt fQ hp aW hq;show ao _ _ _ _ _ _ _;exact eS (St.refl _) O O O fun A9 w9 iV=>ao.n (fN.dn O iV.below ⟨A9,O,iV.bz 0 O⟩)
      ·refine kG fun e1 w1 hb hp aW hq=>?_
       obtain⟨A8,c8,K4,hT⟩:=(hp 3 _ _ (by kernel_rfl) rfl rfl (by kernel_rfl));obtain⟨A9,Ex,pZ⟩:=(hp 5 _ _ (by kernel_rfl) rfl rfl (by kernel_rfl));refine fk 0 hT O pZ (by exact K4) (by exact Ex) O ?_;intro AZ cZ wZ hZ;exact ao.n (fY.dn O ⟨AZ,cZ,O,hZ⟩)
      ·intro e1 w1 cc eZ dt fQ hp aW hq;show ao _ _ _ _ _ _ _;refine lW O (by exact aW 9 _ O (by kernel_rfl)) O (ao.n (iN O (by exact O)))
      ·refine rU 1 fun e1 w1 hp aW hq=>?_
       have eN:=hp 6 _ _ (by kernel_rfl) O O (by kernel_rfl);obtain⟨AZ,cZ,CN,hT⟩:=(hp 6 _ _ (by kernel_rfl) rfl rfl (by kernel_rfl));refine amq (ih (r+1) (st++ [(q:Int)]) AZ cZ (bD A4 n AR N cR AD N cD::ax 2 As r cs st::fL) _ A c rs H (by omega) (by rw [b8,aw];rfl) Mz (qC _ (qC _ Hm)) dH (by omega) hT) O (by exact aF (fun v=> [Value.agg #[ak n,.slice AR N cR,.slice AD N cD],.slice Aa N N,v,.slice A H.length c]) CN) O ?_;rintro _ w9 ⟨A',c',rs',rfl,fX,qN⟩;rw [LH]at fX qN|-;exact ao.n (fY.dn O ⟨A',c',rs',O,fX,qN⟩)
      ·refine dP 2 fun e1 w1 hp aW hq=>?_
       have eN:=hp 8 _ _ (by kernel_rfl) O O (by kernel_rfl);obtain⟨A',c',rs',K5,fX,hT⟩:=(hp 8 _ _ (by kernel_rfl) rfl rfl (by kernel_rfl));refine lW O (by exact K5) O (ao.n ?_);exact fN.dn O (Below.refl _ _) ⟨A',c',rs',O,fX,hT⟩
     intro u4 w4 _ MG _ _;obtain⟨A',c',rs',wq,fX,hT⟩:=MG 9 _ rfl (by kernel_rfl);rw [<-Lf]at wq fX hT;refine FM (F:=[(1,.slice Aa N N),(2,.slice As r cs),(3,.slice A' (cap (F++ ((mx n R B st (q+1)).flatMap fun e=>fP n R B k (st++ [e])))).length c'),(4,.pointer A4),(9,ak r),(10,ak q)]) ⟨O,O,wq,O,O,O,au⟩ (jW O (aH O (aT O (tQ ?_))));exact⟨(q+1,A',c',rs'),by show N - (q+1)<N - q;omega,(amz O),by show q+1<=N;omega,fX,hT⟩
    ·have fF:=mU (fun h=>by rcases h.2.2 with h6 | h6; { omega }; { rw [aw]at h6;exact h5 h6 });refine aA O (aH O (aT O (tQ ?_)));exact⟨(q+1,A,c,rs),by show N - (q+1)<N - q;omega,⟨O,O,aF (fun m:ah=>Value.slice A (cap m).length c) fF.symm,O,O,O,au⟩,by show q+1<=N;omega,by show rs.length=(cap _).length;rw [fF];exact dH,by show St w0 w3 (aL _ _ A (cap _).length c rs (cap _)++_);rw [fF];exact hS⟩
  ·have y7:q=N:=by omega
   subst y7;have nA:F++fP n R B (k+1) st=G:=by rw [<-hG,fP,hN]
   refine bn O (bo (gq O ?_));refine ia O ?_;rw [nA];exact⟨A,c,rs,O,dH,hS.sub ((kU _).append (((kU fL).cons _).cons _))⟩
theorem St.merge{w0 w:aa}{ks o0:List Ck}(h:St w0 w ks)(h':St w0 w o0)(hk:∀k∈ks,eK k.vs=false)(eQ:∀k∈o0,eK k.vs=false)(he:∀k∈ks,∀k'∈o0,k.e≠k'.e):St w0 w (ks++o0):=by
 refine⟨h.below,fun k hm=>?_,?_⟩
 ·rcases kj.1 hm with hm | hm
  ·exact h.own k hm
  exact h'.own k hm
 rw [List.filterMap_append,List.nodup_append];refine⟨h.apart,h'.apart,fun a ha b hb=>?_⟩;rintro rfl;obtain⟨k,hm,L3⟩:=List.mem_filterMap.1 ha;obtain⟨k',iU,pz⟩:=List.mem_filterMap.1 hb;have one:∀ {q:Ck},B9 w0.heap.size w q->q.gS=some a->∃cur,w.heap[a]?=some (.cells cur q.e (0,0)):=fun {q} ho hq=>by
  obtain⟨_,_,_,⟨h1,_⟩ | ⟨g,o,cur,h1,_,h2,_⟩⟩:=ho
  ·unfold Ck.gS at hq;rw [h1]at hq;cases hq
  unfold Ck.gS at hq;rw [h1]at hq;obtain rfl:g=a:=dC hq;exact⟨cur,h2⟩
 obtain⟨c1,e1⟩:=one ((h.own k hm).On (hk k hm)) L3;obtain⟨c2,e2⟩:=one ((h'.own k' iU).On (eQ k' iU)) pz;rw [e1]at e2;injection e2 with e2
 injection e2 with _ e2 _
 exact he k hm k' iU e2
theorem N7{t:ae}:∀ {rs:List aO} {xss:ah},∀k∈cK t rs xss,eK k.vs=false/\k.e=t
 | [],_,k,h=>by simp [cK]at h
 | _::_,[],k,h=>by simp [cK]at h
 | r::rs,x::xss,k,h=>by
  simp only [cK,iP]at h;rcases h with rfl | h
  ·exact⟨uA _,O⟩
  ·exact N7 k h
theorem agn{t1 t2:ae}{A:aj}{n c:Nat}{rs:List aO}{xss:ah}:∀k∈aL t1 t2 A n c rs xss++ [],eK k.vs=false/\(k.e=t1\/k.e=t2):=fun k h=>by
 rw [fj]at h;rcases iP.1 h with rfl | h
 ·exact⟨xM _,.inl O⟩
 exact⟨(N7 k h).1,.inr (N7 k h).2⟩
theorem eq_4{a b c d b' c' d':ad}(h1:b=b')(h2:c=c')(h3:d=d'):[a,b,c,d]=[a,b',c',d']:=by rw [h1,h2,h3]
theorem afm(n:Nat)(A D:aj)(cA cD:Nat)(R:ai)(rs:List aO)(B:ah)(w:aa)(hR:cg w A R.length R)(hB:bF w D B.length rs B)(hP:gr n R B):
 aK prog 237 [.agg #[ak n,.slice A R.length cA,.slice D B.length cD]] w (fun v w'=>∃A' c' rs',v= .tuple #[.slice A' (cap (aG n R B)).length c',.bool (decide ((aG n R B).length<=400))]/\rs'.length=(cap (aG n R B)).length/\St w w' (aL 34 2 A' (cap (aG n R B)).length c' rs' (cap (aG n R B))++ [])):=by
 have hn:=hP.n1;have hle:=hP.len;have eJ:=ZJ (n:=n) (R:=R) (B:=B) (by omega);have LI:=GK (l:=aG n R B);obtain⟨N,hN⟩:∃N,R.length=N:=⟨_,rfl⟩;have sj:=fun(w:aa) hR hB=>afk n A D cA cD R rs B w hR hB hP
 have hex:=fun(w:aa) La hR hB Aa Hu=>afl w n A D cA cD R rs B N hN hR hB hP Aa La Hu
 rw [hle]at hB sj;rw [hN]at hR hB sj;rw [hle,hN];refine bA func237 O ntmps237 O (x5 O) (bg O (nV (St.refl w) O O ?_));intro A1 wB aI;have h1:Rd wB A1 3 (fun j=> [Value.int .i64 (n:Int),.slice A N cA,.slice D N cD].getD j undef):=aI.rd 0 O;have hR:=aI.gh hR;have hB:=aI.cT hB;have aI:=aI.none;refine aC O ?_;refine kB [5] [.ex (.agg #[ak n,.slice A N cA,.slice D N cD]),.ex (.agg #[ak n,.slice A N cA,.slice D N cD]),.pr (fun v w'=>∃A7 L,v= .slice A7 N N/\sW N L (fun x=>dS n R B x)/\St wB w' [gw 4 A7 N N L]),.pr (fun v w'=>∃A8,v= .slice A8 0 0/\St wB w' [ax 2 A8 0 0 []]),.pr (fun v w'=>∃A9,v= .slice A9 0 0/\St wB w' [bZ 34 A9 0 0 []]),.pr (fun v w'=>∃A' c' rs',v= .slice A' (cap (aG n R B)).length c'/\rs'.length=(cap (aG n R B)).length/\St wB w' (aL 34 2 A' (cap (aG n R B)).length c' rs' (cap (aG n R B))++ [])),.pr (fun v w'=>∃A' c' rs',v= .slice A' (cap (aG n R B)).length c'/\rs'.length=(cap (aG n R B)).length/\St wB w' (aL 34 2 A' (cap (aG n R B)).length c' rs' (cap (aG n R B))++ []))] (ly (ly (de.2 ⟨Ye.dp (fun v w w' h hb=>by obtain⟨A7,L,hv,hL,hT⟩:=h;exact⟨A7,L,hv,hL,hT.aq hb⟩),(de.2 ⟨Ye.dp (fun v w w' h hb=>by obtain⟨A8,hv,hT⟩:=h;exact⟨A8,hv,hT.aq hb⟩),(de.2 ⟨Ye.dp (fun v w w' h hb=>by obtain⟨A9,hv,hT⟩:=h;exact⟨A9,hv,hT.aq hb⟩),(de.2 ⟨Ye.dp (fun v w w' h hb=>by obtain⟨A',c',rs',hv,fX,hT⟩:=h;exact⟨A',c',rs',hv,fX,hT.aq hb⟩),(de.2 ⟨Ye.dp (fun v w w' h hb=>by obtain⟨A',c',rs',hv,fX,hT⟩:=h;exact⟨A',c',rs',hv,fX,hT.aq hb⟩),(fun _ h=>by cases h)⟩)⟩)⟩)⟩)⟩))) ?_ ?_
 ·refine⟨cP fun _ _ hb _ _ _=>ao.dq 2 (Rd.below h1 hb) O O O (bE O O),cP fun _ _ hb _ _ _=>ao.dq 2 (Rd.below h1 hb) O O O (bE O O),?_,?_,?_,?_,?_,au⟩
  ·refine cP fun e1 w1 hb hp aW hq=>?_
   refine aQ (sj _ (hR.aq hb) (hB.aq hb)) O ?_;rintro _ w9 ⟨A7,L,rfl,hL,aw⟩;refine ao.n ?_;exact fN.dn O aw.below ⟨A7,L,O,hL,by have:=((St.refl wB).aq hb).call aw;rwa [fj]at this⟩
  ·refine cP fun e1 w1 hb hp aW hq=>?_
   refine jn (St.refl _) O fun A8 w9 aw=>ao.n ?_;exact fN.dn O aw.below ⟨A8,O,by have:=((St.refl wB).aq hb).call aw;rwa [fj]at this⟩
  ·refine cP fun e1 w1 hb hp aW hq=>?_
   refine jn (St.refl _) O fun A9 w9 aw=>ao.n ?_;exact fN.dn O aw.below ⟨A9,O,by have:=((St.refl wB).aq hb).call aw;rwa [fj]at this⟩
  ·refine kG fun e1 w1 hb hp aW hq=>?_
   obtain⟨A7,L,h7,hL,oe⟩:=(hp 2 _ _ (by kernel_rfl) rfl rfl (by kernel_rfl));obtain⟨A8,h8,nz⟩:=(hp 3 _ _ (by kernel_rfl) rfl rfl (by kernel_rfl));obtain⟨A9,h9,pZ⟩:=(hp 4 _ _ (by kernel_rfl) rfl rfl (by kernel_rfl));have hM1:=pZ.merge oe (fun k hk=>by obtain rfl:=gG.1 hk;rfl) (fun k hk=>by obtain rfl:=gG.1 hk;exact Fv _) (fun k hk k' eQ=>by obtain rfl:=gG.1 hk;obtain rfl:=gG.1 eQ;exact(by decide:¬(34=4)));have ED:=nz.merge hM1 (fun k hk=>by obtain rfl:=gG.1 hk;rfl) (fun k hk=>by rcases iP.1 hk with rfl | hk; { rfl }; { obtain rfl:=gG.1 hk;exact Fv _ }) (fun k hk k' eQ=>by obtain rfl:=gG.1 hk;rcases iP.1 eQ with rfl | eQ; { exact(by decide:¬(2=34)) }; { obtain rfl:=gG.1 eQ;exact(by decide:¬(2=4)) });refine amq (hex wB L hR hB A7 hL n 0 [] A8 0 [gw 4 A7 N N L] _ A9 0 [] [] (by omega) rfl (fun x hx=>by cases hx) (gG.2 rfl) rfl (aZ _) ED) rfl (by exact eq_4 h7 h8 h9) rfl ?_;rintro _ w9 ⟨A',c',rs',rfl,fX,qN⟩;rw [List.nil_append,eJ]at fX qN|-;exact ao.n (fY.dn O ⟨A',c',rs',O,fX,qN.sub ((kU _).append (List.nil_sublist _))⟩)
  refine dP 1 fun e1 w1 hp aW hq=>?_
  have eN:=hp 5 _ _ (by kernel_rfl) O O (by kernel_rfl);obtain⟨A',c',rs',eV,fX,hT⟩:=(hp 5 _ _ (by kernel_rfl) rfl rfl (by kernel_rfl));refine lW O (by exact eV) O (ao.n ?_);exact fN.dn O (Below.refl _ _) ⟨A',c',rs',O,fX,hT⟩
 intro u w2 _ hu _ _;obtain⟨A',c',rs',hv,fX,hT⟩:=hu 6 _ rfl (by kernel_rfl);refine FM (F:=[(4,.slice A' (cap (aG n R B)).length c')]) ⟨hv,au⟩ (jW O (bc O O (bI O ?_)));refine VB O O ?_;refine⟨A',c',rs',?_,fX,(by rw [fj]at hT;exact aI.none.call hT)⟩;show Value.tuple #[_,Value.bool (decide _)]=_;rw [show decide ((((cap (aG n R B)).length:Nat):Int)<=400)=decide ((aG n R B).length<=400) from kk.2 (by omega)]
def tc(a b:ai)(i:Nat):Nat:=((List.range i).filter fun k:Nat=>decide (gi a k≠gi b k)).length
theorem Zr(a b:ai)(i:Nat):tc a b (i+1)=if gi a i≠gi b i then tc a b i+1 else tc a b i:=by
 unfold tc;rw [jB,rJ,b8]
 by_cases c:gi a i≠gi b i
 ·rw [aB c];simp [c]
 rw [az c];simp [c]
theorem Zq(a b:ai)(i:Nat):tc a b i<=i:=by
 refine nU (rL _ _) ?_;rw [qB];exact bs _
theorem T9(A A2:aj)(n c m c2:Nat)(a b:ai)(w:aa)(hA:cg w A n a)(hB:cg w A2 m b)(hm:m=n)(hn:n<=1000):
 aK prog 302 [.slice A n c,.slice A2 m c2] w (fun v w'=>v=ak ((tc a b n:Nat):Int)/\St w w' []):=by
 have ha:=hA.1;have hb:=hB.1;refine bA func302 O ntmps302 O (df O) (bJ O ?_);refine Cd.loop (α:=Nat) (fun i=> [(0,.slice A n c),(1,.slice A2 m c2),(5,ak ((tc a b i:Nat):Int)),(6,ak i)]) (fun i w'=>i<=n/\St w w' []) (fun i=>n - i) 0 (amz O) ⟨aZ _,St.refl w⟩ ?_;rintro i e w2 ⟨hi,hS⟩;have ve:=Zq a b i;have oO:=Zr a b i;have Ey:=hS.gh hA;have tj:=hS.gh hB;refine bg O (bc O O (aC O ?_));refine aM _ O (fun h2=>?_) (fun h2=>?_)
 ·refine dw O (eo [xS (A) (n) (c),xI ((i:Int)),xP (ay (A) ((i:Int)).toNat),xI (gi (a) ((i:Int))),xS (A2) (m) (c2),xI ((i:Int)),xP (ay (A2) ((i:Int)).toNat),xI (gi (b) ((i:Int))),xB (decide (¬(gi (a) ((i:Int)))=(gi (b) ((i:Int)))))] O (eL O) ?_ ?_)
  ·exact⟨Dr O,Dr O,fun _ _ hb _ _=>aD (Ey.aq hb).2 O Az,fun _ _ hb _ _=>a8 (Ey.aq hb) O Az,Dr O,Dr O,fun _ _ hb _ _=>aD (tj.aq hb).2 O Az,fun _ _ hb _ _=>a8 (tj.aq hb) O Az,Dr O,au⟩
  intro u w3 fR _;have aR:=hS.aq fR;refine eP O (aM _ O (fun h3=>?_) (fun h3=>?_))
  ·rw [aB h3]at oO;refine aA O (aH O (ar O (aH O (aT O (tQ ?_)))));exact⟨i+1,by show n - (i+1)<n - i;omega,⟨O,O,aF (fun m:Nat=>Value.int .i64 (m:Int)) oO.symm,O,au⟩,by omega,aR⟩
  rw [az h3]at oO;refine aA O (aH O (aT O (tQ ?_)));exact⟨i+1,by show n - (i+1)<n - i;omega,⟨O,O,aF (fun m:Nat=>Value.int .i64 (m:Int)) oO.symm,O,au⟩,by omega,aR⟩
 obtain rfl:i=n:=by omega
 refine bn O (bo (gq O ?_));exact gZ O ⟨O,hS⟩
section
variable {n:Nat} {fl:ah} {a b k i:Nat}
end
section
variable {P:Program} {N:Nat} {ops:Array Oper} {K:Env->aa->Prop} {rest:List Oper} {e:Env} {w:aa} {d:Nat} {ty:ae} {pos:String} {af:Array Edge} {x y:ag} {xt yt:ae}
end
instance (R:ai)(i e:Int):Decidable (yi R i e):=by unfold yi;infer_instance
instance (n:Int)(R:ai)(i e:Int):Decidable (yh n R i e):=by unfold yh;infer_instance
end Go.Proofs.YtkccgdhcpplblaaGreatDoor.Vc
namespace Go.Proofs.YtkccgdhcpplblaaGreatDoor.Vc.TS
open Go.RowKit Tryz
variable{m b p k:Nat}{w0 w:aa}{ks:List Ck}{t:ae}
theorem Zk{a:Nat}(h1:a<m)(h2:m<b){c:Nat}(hc:mW a m b<=c)(oN:c<eY a m b):a<=c/\c<m/\m<=(a+b) / 2+m - 1 - c/\(a+b) / 2+m - 1 - c<b:=by
 unfold mW at hc;unfold eY at oN
 by_cases h:(a+b) / 2<m
 ·rw [aB h]at hc oN;omega
 rw [az h]at hc oN;omega
theorem afX{a:Nat}(h1:a<m)(h2:m<b):mW a m b<=eY a m b:=by
 unfold mW eY
 split<;>omega
theorem V9{A:aj}{n c:Nat}(hn:n<=4000000000000):∀(f a m b:Nat),b - a<=f->a<m->m<b->b<=n->∀(ds:List TV) (w:aa),(∀s∈ds,pM s)->(∀x y,a<=x->x<m->m<=y->y<b->mq (gs ds x)<mq (gs ds y))->SR kT ds a m->SR kT ds m b->St w0 w (eu t A n c ds::ks)->
 aK prog 345 [.slice A n c,ak a,ak m,ak b,.func (.func 305) #[] #[]] w (fun v w'=>v= .tuple #[]/\∃lZ,RP ds lZ a b/\SR kT lZ a b/\St w0 w' (eu t A n c lZ::ks)):=by
 intro f
 induction f with
 | zero=>intro a m b h1 h2 h3;omega
 | succ f ih=>
  intro a m b hf HH E5 sr ds w hc My hA hB hS;have oT:ds.length=n:=(hS.jT 0 O).1;have tn:=Rl hc;have xp:=fun x y h1 h2 h3 h4=>Qd (tn y) (tn x) (My x y h1 h2 h3 h4)
  refine bA func345 O ntmps345 O (Bu O) ?_;refine bg O (eh O (aC O ?_));refine aM _ O (fun h1=>?_) (fun h1=>?_)
  ·have hm:m=a+1:=by omega
   refine dw O ?_;refine Cd.loop (α:=Nat×Nat) (fun z=> [(0,.slice A n c),(1,ak a),(2,ak m),(3,ak b),(4,.func (.func 305) #[] #[]),(10,ak (z.1:Int)),(11,ak (z.2:Int))])
    (fun z w'=> (m<=z.1/\z.1<=z.2/\z.2<=b)/\(∀x,m<=x->x<z.1->kT (gs ds x)<kT (gs ds a))/\(∀x,z.2<=x->x<b->kT (gs ds a)<=kT (gs ds x))/\St w0 w' (eu t A n c ds::ks)) (fun z=>z.2 - z.1) (m,b) ⟨rfl,rfl,rfl,rfl,rfl,rfl,rfl,au⟩ ⟨⟨bs _,by show m<=b;omega,bs _⟩,fun x h h'=>by omega,fun x h h'=>by omega,hS⟩ ?_
   rintro⟨i,j⟩ e w1 ⟨⟨eY,ig,sy⟩,hL,hR,aI⟩;dsimp only at eY ig sy hL hR aI|-;refine bJ O (aM _ O (fun h2=>?_) (fun h2=>?_))
   ·refine aA O (aH O ?_);refine sY O O (zD _ (by omega)) (D5 O O O (by omega) (sY O O (IntWalk.i64_in _ (by omega)) (aC O ?_)));obtain⟨h,hh⟩:∃h:Nat,h=(i+j) / 2:=⟨_,rfl⟩;rw [show((i:Int)+ (j:Int)) / 2=(h:Int) by omega];have ll:=aI.jT 0 O;have g1:tg ds h=gs ds h:=O;have g2:tg ds a=gs ds a:=O;refine eo [.ex (.func (.func 305) #[] #[]),xS (A) (n) (c),xI ((h:Int)),xP (ay (A) (((h:Int)).toNat*3)),.ex ((tg (ds) ((h:Int))).v),xS (A) (n) (c),xI ((a:Int)),xP (ay (A) (((a:Int)).toNat*3)),.ex ((tg (ds) ((a:Int))).v),xI (rT (gs ds h) (gs ds a)),xB (decide ((rT (gs ds h) (gs ds a))< ((0:Int))))] O (eL O) ?_ ?_
    ·refine⟨Dr O,Dr O,Dr O,fun _ _ hb _ _=>kE (ll.aq hb) O Az,fun _ _ hb _ _=>oF (ll.aq hb) O (by omega) O Az,Dr O,Dr O,fun _ _ hb _ _=>kE (ll.aq hb) O Az,fun _ _ hb _ _=>oF (ll.aq hb) O (by omega) O Az,?_,Dr O,au⟩
     ·intro e1 w1 hb hp aW;refine aQ (GP (gs ds h) (gs ds a) _) O ?_;rintro _ w9 ⟨rfl,iV⟩;refine ao.n ?_;exact fM.dn iV.below (by exact O)
    intro u w2 eM _;have aE:=aI.aq eM;refine eP O (aM _ O (fun h3=>?_) (fun h3=>?_))
    ·refine aA O (aH O (aT O (tQ ?_)));refine⟨(h+1,j),by show j - (h+1)<j - i;omega,(amz O),⟨by show m<=h+1;omega,by show h+1<=j;omega,sy⟩,fun x ka qk=>?_,hR,aE⟩;have qk:x<h+1:=qk;have k1:kT (gs ds x)<=kT (gs ds h):=hB.le ka (by omega) (by omega);have k2:kT (gs ds h)<kT (gs ds a):=(xp a h (bs _) HH (by omega) (by omega)).1 h3;omega
    ·refine nS O (tQ ?_);refine⟨(i,h),by show h - i<j - i;omega,(amz O),⟨eY,by show i<=h;omega,by show h<=b;omega⟩,hL,fun x ka qk=>?_,aE⟩;have ka:h<=x:=ka;have k1:kT (gs ds h)<=kT (gs ds x):=hB.le (by omega) ka qk;have k2:kT (gs ds a)<=kT (gs ds h):=Int.not_lt.1 fun h'=>h3 ((xp a h (bs _) HH (by omega) (by omega)).2 h')
     omega
   ·have EZ:i=j:=by omega
    subst EZ;refine bn O (bo (rI O ?_));refine Cd.loop (α:=Nat×List TV) (fun z=> [(0,.slice A n c),(4,.func (.func 305) #[] #[]),(10,ak i),(13,ak (z.1:Int))]) (fun z w'=> (a<=z.1/\z.1<=i - 1)/\RP ds z.2 a b/\vM ds z.2 a z.1/\St w0 w' (eu t A n c z.2::ks)) (fun z=>i - z.1) (a,ds) (amz O) ⟨⟨bs _,by show a<=i - 1;omega⟩,RP.refl _ _ _,vM.start _ _,aI⟩ ?_;rintro⟨k,cu⟩ e w2 ⟨⟨jG,kq⟩,hp,um,aE⟩;dsimp only at jG kq hp um aE|-;have dh:cu.length=n:=(aE.jT 0 O).1;refine bg O (eh O (aC O ?_));refine aM _ O (fun h3=>?_) (fun h3=>?_)
    ·have iL:=aE.jT 0 O;have ek:((k:Int)+1).toNat=k+1:=by omega
     have g1:tg cu k=gs cu k:=O;have g2:tg cu ((k:Int)+1)=gs cu (k+1):=by unfold tg gs;rw [ek]
     refine dw O ?_;refine kB [15,17] [yS (A) (n) (c),yI ((k:Int)),yS (A) (n) (c),yI ((k:Int)),yI (((k:Int))+ ((1:Int))),yS (A) (n) (c),yI ((k:Int)),yI (((k:Int))+ ((1:Int))),yP (ay (A) ((((k:Int))+ ((1:Int))).toNat*3)),.ex ((tg (cu) (((k:Int))+ ((1:Int)))).v),yS (A) (n) (c),yI ((k:Int)),yP (ay (A) (((k:Int)).toNat*3)),.ex ((tg (cu) ((k:Int))).v),yP (ay (A) (((k:Int)).toNat*3)),.pr (fun _ w'=>St w0 w' (eu t A n c (cu.set k (gs cu (k+1)))::ks)),yP (ay (A) ((((k:Int))+ ((1:Int))).toNat*3)),.pr (fun _ w'=>St w0 w' (eu t A n c (swp cu k (k+1))::ks))] (ly (ly (ly (ly (ly (ly (ly (ly (ly (ly (ly (ly (ly (ly (ly (de.2 ⟨Ye.dp (fun v w w' h hb=>h.aq hb),(ly (de.2 ⟨Ye.dp (fun v w w' h hb=>h.aq hb),(fun _ h=>by cases h)⟩))⟩)))))))))))))))) ?_ ?_
     ·refine⟨bT O,bT O,bT O,bT O,aP fun _ _=>aH O (bE O O),bT O,bT O,aP fun _ _=>aH O (bE O O),cP fun _ _ hb _ _ _=>kE (iL.aq hb) O (bE O O),cP fun _ _ hb _ _ _=>oF (iL.aq hb) O (by omega) O (bE O O),bT O,bT O,cP fun _ _ hb _ _ _=>kE (iL.aq hb) O (bE O O),cP fun _ _ hb _ _ _=>oF (iL.aq hb) O (by omega) O (bE O O),cP fun _ _ hb _ _ _=>kE (iL.aq hb) O (bE O O),?_,?_,?_,au⟩
      ·refine kG fun e1 w1 hb hp aW hq=>?_
       exact yl 0 (aE.aq hb) O O O (by omega) fun w6 bk=>ao.n (fY.st O (zz (i:=(k:Int)) O g2 bk))
      ·refine dP 1 fun e1 w1 hp aW hq=>?_
       have eN:=hp 15 _ _ (by kernel_rfl) O O (by kernel_rfl);have je:=eN.jT 0 O;have E2:(cu.set k (gs cu (k+1))).length=n:=by rw [lT];exact dh
       refine kE (je) O (ao.n (iN O (by exact O)))
      ·refine rU 1 fun e1 w1 hp aW hq=>?_
       have eN:=hp 15 _ _ (by kernel_rfl) O O (by kernel_rfl);have je:=eN.jT 0 O;have E2:(cu.set k (gs cu (k+1))).length=n:=by rw [lT];exact dh
       exact yl 0 eN O O O (by omega) fun w7 bG=>ao.n (fY.st O (zz ek g1 bG))
     intro u w5 _ hu _ _;have aY:=hu 17 _ O (by kernel_rfl);refine jW O (aH O (aT O (tQ ?_)));exact⟨(k+1,swp cu k (k+1)),by show i - (k+1)<i - k;omega,(amz O),⟨by show a<=k+1;omega,by show k+1<=i - 1;omega⟩,hp.trans (Ol (by omega) (by omega) jG (by omega) (by omega) (by omega)) (bs _) (bs _),um.next jG (by omega),aY⟩
    ·have H3:k=i - 1:=by omega
     subst H3;refine bn O (bo (gq O ?_));exact NY ⟨O,cu,hp,um.sorted (hm▸hB) (by omega) sy (fun x h4 h5=>Int.le_of_lt (hL x (by omega) h5)) hR,aE⟩
  refine aA O (eh O (aC O ?_));refine aM _ O (fun h2=>?_) (fun h2=>?_)
  ·have dF:b=m+1:=by omega
   refine dw O ?_;refine Cd.loop (α:=Nat×Nat) (fun z=> [(0,.slice A n c),(1,ak a),(2,ak m),(3,ak b),(4,.func (.func 305) #[] #[]),(14,ak (z.1:Int)),(15,ak (z.2:Int))])
    (fun z w'=> (a<=z.1/\z.1<=z.2/\z.2<=m)/\(∀x,a<=x->x<z.1->kT (gs ds x)<=kT (gs ds m))/\(∀x,z.2<=x->x<m->kT (gs ds m)<=kT (gs ds x))/\St w0 w' (eu t A n c ds::ks)) (fun z=>z.2 - z.1) (a,m) ⟨rfl,rfl,rfl,rfl,rfl,rfl,rfl,au⟩ ⟨⟨bs _,by show a<=m;omega,bs _⟩,fun x h h'=>by omega,fun x h h'=>by omega,hS⟩ ?_
   rintro⟨i,j⟩ e w1 ⟨⟨eY,ig,sy⟩,hL,hR,aI⟩;dsimp only at eY ig sy hL hR aI|-;refine bJ O (aM _ O (fun h3=>?_) (fun h3=>?_))
   ·refine aA O (aH O ?_);refine sY O O (zD _ (by omega)) (D5 O O O (by omega) (sY O O (IntWalk.i64_in _ (by omega)) (aC O ?_)));obtain⟨h,hh⟩:∃h:Nat,h=(i+j) / 2:=⟨_,rfl⟩;rw [show((i:Int)+ (j:Int)) / 2=(h:Int) by omega];have ll:=aI.jT 0 O;have g1:tg ds h=gs ds h:=O;have g2:tg ds m=gs ds m:=O;refine eo [.ex (.func (.func 305) #[] #[]),xS (A) (n) (c),xI ((m:Int)),xP (ay (A) (((m:Int)).toNat*3)),.ex ((tg (ds) ((m:Int))).v),xS (A) (n) (c),xI ((h:Int)),xP (ay (A) (((h:Int)).toNat*3)),.ex ((tg (ds) ((h:Int))).v),xI (rT (gs ds m) (gs ds h)),xB (decide ((rT (gs ds m) (gs ds h))< ((0:Int)))),xB (decide (¬((rT (gs ds m) (gs ds h))< ((0:Int)))))] O (eL O) ?_ ?_
    ·refine⟨Dr O,Dr O,Dr O,fun _ _ hb _ _=>kE (ll.aq hb) O Az,fun _ _ hb _ _=>oF (ll.aq hb) O (by omega) O Az,Dr O,Dr O,fun _ _ hb _ _=>kE (ll.aq hb) O Az,fun _ _ hb _ _=>oF (ll.aq hb) O (by omega) O Az,?_,Dr O,fun _ _ _ _ _=>fv O O Az,au⟩
     ·intro e1 w1 hb hp aW;refine aQ (GP (gs ds m) (gs ds h) _) O ?_;rintro _ w9 ⟨rfl,iV⟩;refine ao.n ?_;exact fM.dn iV.below (by exact O)
    intro u w2 eM _;have aE:=aI.aq eM;refine eP O (aM _ O (fun h4=>?_) (fun h4=>?_))
    ·refine aA O (aH O (aT O (tQ ?_)));refine⟨(h+1,j),by show j - (h+1)<j - i;omega,(amz O),⟨by show a<=h+1;omega,by show h+1<=j;omega,sy⟩,fun x ka qk=>?_,hR,aE⟩;have qk:x<h+1:=qk;have k1:kT (gs ds x)<=kT (gs ds h):=hA.le ka (by omega) (by omega);have k2:kT (gs ds h)<=kT (gs ds m):=Int.not_lt.1 fun h'=>h4 ((xp h m (by omega) (by omega) (bs _) E5).2 h')
     omega
    ·refine nS O (tQ ?_);refine⟨(i,h),by show h - i<j - i;omega,(amz O),⟨eY,by show i<=h;omega,by show h<=m;omega⟩,hL,fun x ka qk=>?_,aE⟩;have ka:h<=x:=ka;have k1:kT (gs ds h)<=kT (gs ds x):=hA.le (by omega) ka qk;have k2:kT (gs ds m)<=kT (gs ds h):=Int.le_of_lt ((xp h m (by omega) (by omega) (bs _) E5).1 (jb.1 h4));omega
   ·have EZ:i=j:=by omega
    subst EZ;refine bn O (bo (rI O ?_));refine Cd.loop (α:=Nat×List TV) (fun z=> [(0,.slice A n c),(4,.func (.func 305) #[] #[]),(14,ak i),(17,ak (z.1:Int))]) (fun z w'=> (i<=z.1/\z.1<=m)/\RP ds z.2 a b/\vL ds z.2 m z.1/\St w0 w' (eu t A n c z.2::ks)) (fun z=>z.1) (m,ds) (amz O) ⟨⟨sy,bs _⟩,RP.refl _ _ _,vL.start _ _,aI⟩ ?_;rintro⟨k,cu⟩ e w2 ⟨⟨jG,kq⟩,hp,um,aE⟩;dsimp only at jG kq hp um aE|-;have dh:cu.length=n:=(aE.jT 0 O).1;refine bJ O (aM _ O (fun h4=>?_) (fun h4=>?_))
    ·have iL:=aE.jT 0 O;have ek:((k:Int) - 1).toNat=k - 1:=by omega
     have g1:tg cu k=gs cu k:=O;have g2:tg cu ((k:Int) - 1)=gs cu (k - 1):=by unfold tg gs;rw [ek]
     refine dw O ?_;refine kB [15,17] [yS (A) (n) (c),yI ((k:Int)),yS (A) (n) (c),yI ((k:Int)),yI (((k:Int)) - ((1:Int))),yS (A) (n) (c),yI ((k:Int)),yI (((k:Int)) - ((1:Int))),yP (ay (A) ((((k:Int)) - ((1:Int))).toNat*3)),.ex ((tg (cu) (((k:Int)) - ((1:Int)))).v),yS (A) (n) (c),yI ((k:Int)),yP (ay (A) (((k:Int)).toNat*3)),.ex ((tg (cu) ((k:Int))).v),yP (ay (A) (((k:Int)).toNat*3)),.pr (fun _ w'=>St w0 w' (eu t A n c (cu.set k (gs cu (k - 1)))::ks)),yP (ay (A) ((((k:Int)) - ((1:Int))).toNat*3)),.pr (fun _ w'=>St w0 w' (eu t A n c (swp cu k (k - 1))::ks))] (ly (ly (ly (ly (ly (ly (ly (ly (ly (ly (ly (ly (ly (ly (ly (de.2 ⟨Ye.dp (fun v w w' h hb=>h.aq hb),(ly (de.2 ⟨Ye.dp (fun v w w' h hb=>h.aq hb),(fun _ h=>by cases h)⟩))⟩)))))))))))))))) ?_ ?_
     ·refine⟨bT O,bT O,bT O,bT O,aP fun _ _=>eh O (bE O O),bT O,bT O,aP fun _ _=>eh O (bE O O),cP fun _ _ hb _ _ _=>kE (iL.aq hb) O (bE O O),cP fun _ _ hb _ _ _=>oF (iL.aq hb) O (by omega) O (bE O O),bT O,bT O,cP fun _ _ hb _ _ _=>kE (iL.aq hb) O (bE O O),cP fun _ _ hb _ _ _=>oF (iL.aq hb) O (by omega) O (bE O O),cP fun _ _ hb _ _ _=>kE (iL.aq hb) O (bE O O),?_,?_,?_,au⟩
      ·refine kG fun e1 w1 hb hp aW hq=>?_
       exact yl 0 (aE.aq hb) O O O (by omega) fun w6 bk=>ao.n (fY.st O (zz (i:=(k:Int)) O g2 bk))
      ·refine dP 1 fun e1 w1 hp aW hq=>?_
       have eN:=hp 15 _ _ (by kernel_rfl) O O (by kernel_rfl);have je:=eN.jT 0 O;have E2:(cu.set k (gs cu (k - 1))).length=n:=by rw [lT];exact dh
       refine kE (je) O (ao.n (iN O (by exact O)))
      ·refine rU 1 fun e1 w1 hp aW hq=>?_
       have eN:=hp 15 _ _ (by kernel_rfl) O O (by kernel_rfl);have je:=eN.jT 0 O;have E2:(cu.set k (gs cu (k - 1))).length=n:=by rw [lT];exact dh
       exact yl 0 eN O O O (by omega) fun w7 bG=>ao.n (fY.st O (zz ek g1 bG))
     intro u w5 _ hu _ _;have aY:=hu 17 _ O (by kernel_rfl);refine jW O (eh O (aT O (tQ ?_)));exact⟨(k - 1,swp cu k (k - 1)),by show k - 1<k;omega,⟨O,O,O,by show Value.int .i64 _=ak _;congr 1;omega,au⟩,⟨by show i<=k - 1;omega,by show k - 1<=m;omega⟩,hp.trans (Ol (by omega) (by omega) (by omega) (by omega) (by omega) (by omega)) (bs _) (bs _),um.next (by omega) kq (by omega),aY⟩
    ·have H3:k=i:=by omega
     subst H3;refine bn O (bo (gq O ?_));exact NY ⟨O,cu,hp,dF▸um.sorted hA eY sy hL hR,aE⟩
  have h1:a+1<m:=by omega
  have h2:m+1<b:=by omega
  refine aA O (aH O ?_);refine sY O O (zD _ (by omega)) (D5 O O O (by omega) (sY O O (IntWalk.i64_in _ (by omega)) ?_));obtain⟨mid,pA⟩:∃h:Nat,h=(a+b) / 2:=⟨_,rfl⟩;rw [show((a:Int)+ (b:Int)) / 2=(mid:Int) by omega];have tt:2*mid<=a+b/\a+b<=2*mid+1:=by omega
  have Md:=afX HH E5;have hh0:eY a m b<=m:=by unfold eY;split<;>omega
  have Iq:=fun c=>Zk HH E5 (c:=c)
  rw [<-pA]at Iq;refine ar O (aH O (DY 2 O ?_));refine tN (α:=Unit) (fun _=> [(0,.slice A n c),(1,ak a),(2,ak m),(3,ak b),(4,.func (.func 305) #[] #[]),(18,ak mid),(19,ak ((mid:Int)+ (m:Int))),(20,ak ((mW a m b:Nat):Int)),(21,ak ((eY a m b:Nat):Int))]) (fun _ w'=>w'=w) ?_ ?_
  ·refine bJ O (aM _ O (fun h3=>?_) (fun h3=>?_))
   ·have e1:mW a m b=mid+m - b:=by unfold mW;rw [if_pos (by omega),<-pA]
    have e2:eY a m b=mid:=by unfold eY;rw [if_pos (by omega),<-pA]
    rw [e1,e2];refine aA O (eh O (aT O (tQ ?_)));exact⟨(),⟨O,O,O,O,O,O,O,by show Value.int .i64 ((mid:Int)+ (m:Int) - (b:Int))=ak ((mid+m - b:Nat):Int);congr 1;omega,O,au⟩,O⟩
   ·have e1:mW a m b=a:=by unfold mW;rw [if_neg (by omega)]
    have e2:eY a m b=m:=by unfold eY;rw [if_neg (by omega)]
    rw [e1,e2];refine nS O (tQ ?_);exact⟨(),(amz O),O⟩
  rintro _ e w1 rfl;refine aA O (eh O (aC O ?_));refine Cd.loop (α:=Nat×Nat) (fun z=> [(0,.slice A n c),(1,ak a),(2,ak m),(3,ak b),(4,.func (.func 305) #[] #[]),(18,ak mid),(19,ak ((mid:Int)+ (m:Int))),(20,ak (z.1:Int)),(21,ak (z.2:Int)),(22,ak ((mid:Int)+ (m:Int) - 1))])
   (fun z w'=> (mW a m b<=z.1/\z.1<=z.2/\z.2<=eY a m b)/\(∀x,mW a m b<=x->x<z.1->kT (gs ds x)<=kT (gs ds (mid+m - 1 - x)))/\(∀x,z.2<=x->x<eY a m b->kT (gs ds (mid+m - 1 - x))<kT (gs ds x))/\St w0 w' (eu t A n c ds::ks)) (fun z=>z.2 - z.1) (mW a m b,eY a m b) ⟨rfl,rfl,rfl,rfl,rfl,rfl,rfl,rfl,rfl,rfl,au⟩ ⟨⟨bs _,Md,bs _⟩,fun x h h'=>by omega,fun x h h'=>by omega,hS⟩ ?_
  rintro⟨i,j⟩ e w2 ⟨⟨EY,ig,sy⟩,hL,hR,aI⟩;dsimp only at EY ig sy hL hR aI|-;refine bJ O (aM _ O (fun h3=>?_) (fun h3=>?_))
  ·refine aA O (aH O ?_);refine sY O O (zD _ (by omega)) (D5 O O O (by omega) (sY O O (IntWalk.i64_in _ (by omega)) (aC O ?_)));obtain⟨h,hh⟩:∃h:Nat,h=(i+j) / 2:=⟨_,rfl⟩;rw [show((i:Int)+ (j:Int)) / 2=(h:Int) by omega];have l7:=Iq h (by omega) (by omega);have ll:=aI.jT 0 O;have ep:((mid:Int)+ (m:Int) - 1 - (h:Int)).toNat=mid+m - 1 - h:=by omega
   have g1:tg ds h=gs ds h:=O;have g2:tg ds ((mid:Int)+ (m:Int) - 1 - (h:Int))=gs ds (mid+m - 1 - h):=by unfold tg gs;rw [ep]
   refine eo [.ex (.func (.func 305) #[] #[]),xS (A) (n) (c),xI (((mid:Int)+ (m:Int) - 1)),xI ((h:Int)),xI ((((mid:Int)+ (m:Int) - 1)) - ((h:Int))),xP (ay (A) (((((mid:Int)+ (m:Int) - 1)) - ((h:Int))).toNat*3)),.ex ((tg (ds) ((((mid:Int)+ (m:Int) - 1)) - ((h:Int)))).v),xS (A) (n) (c),xI ((h:Int)),xP (ay (A) (((h:Int)).toNat*3)),.ex ((tg (ds) ((h:Int))).v),xI (rT (gs ds (mid+m - 1 - h)) (gs ds h)),xB (decide ((rT (gs ds (mid+m - 1 - h)) (gs ds h))< ((0:Int)))),xB (decide (¬((rT (gs ds (mid+m - 1 - h)) (gs ds h))< ((0:Int)))))] O (eL O) ?_ ?_
   ·refine⟨Dr O,Dr O,Dr O,Dr O,fun _ _ _ _ _=>eh O Az,fun _ _ hb _ _=>kE (ll.aq hb) O Az,fun _ _ hb _ _=>oF (ll.aq hb) O (by omega) O Az,Dr O,Dr O,fun _ _ hb _ _=>kE (ll.aq hb) O Az,fun _ _ hb _ _=>oF (ll.aq hb) O (by omega) O Az,?_,Dr O,fun _ _ _ _ _=>fv O O Az,au⟩
    ·intro e1 w1 hb hp aW;refine amq (GP (gs ds (mid+m - 1 - h)) (gs ds h) _) O (by rw [<-g2];rfl) O ?_;rintro _ w9 ⟨rfl,iV⟩;refine ao.n ?_;exact fM.dn iV.below (by exact O)
   intro u w3 fR _;have aE:=aI.aq fR;refine eP O (aM _ O (fun h4=>?_) (fun h4=>?_))
   ·refine aA O (aH O (aT O (tQ ?_)));refine⟨(h+1,j),by show j - (h+1)<j - i;omega,(amz O),⟨by show mW a m b<=h+1;omega,by show h+1<=j;omega,sy⟩,fun x ka qk=>?_,hR,aE⟩;have qk:x<h+1:=qk;have qV:=Iq x ka (by omega);have k1:kT (gs ds x)<=kT (gs ds h):=hA.le (by omega) (by omega) (by omega);have k2:kT (gs ds h)<=kT (gs ds (mid+m - 1 - h)):=Int.not_lt.1 fun h'=>h4 ((xp h (mid+m - 1 - h) l7.1 l7.2.1 l7.2.2.1 l7.2.2.2).2 h')
    have k3:kT (gs ds (mid+m - 1 - h))<=kT (gs ds (mid+m - 1 - x)):=hB.le (by omega) (by omega) (by omega);omega
   ·refine nS O (tQ ?_);refine⟨(i,h),by show h - i<j - i;omega,(amz O),⟨EY,by show i<=h;omega,by show h<=eY a m b;omega⟩,hL,fun x ka qk=>?_,aE⟩;have ka:h<=x:=ka;have qV:=Iq x (by omega) qk;have k1:kT (gs ds h)<=kT (gs ds x):=hA.le (by omega) (by omega) (by omega);have k2:kT (gs ds (mid+m - 1 - h))<kT (gs ds h):=(xp h (mid+m - 1 - h) l7.1 l7.2.1 l7.2.2.1 l7.2.2.2).1 (jb.1 h4);have k3:kT (gs ds (mid+m - 1 - x))<=kT (gs ds (mid+m - 1 - h)):=hB.le (by omega) (by omega) (by omega);omega
  have EZ:i=j:=by omega
  subst EZ;have uf:Jv kT ds a m b i:=⟨EY,sy,by rw [<-pA];exact hL,by rw [<-pA];exact hR⟩;have To:=fun l1=>Zf (l1:=l1) h1 h2 hA hB uf
  rw [<-pA]at To;have b1:a<=i:=by have:=EY;unfold mW at this;split at this<;>omega
  have b2:i<=mid:=by have:=sy;unfold eY at this;split at this<;>omega
  have b3:i<=m:=by have:=sy;unfold eY at this;split at this<;>omega
  have b4:mid+m - i<=b:=by have:=EY;unfold mW at this;split at this<;>omega
  refine bn O (bo (cL O (eh O (DY 0 O ?_))));refine tN (α:=List TV) (fun _=> [(0,.slice A n c),(1,ak a),(3,ak b),(4,.func (.func 305) #[] #[]),(18,ak mid),(20,ak i),(24,ak ((mid+m - i:Nat):Int))]) (fun l1 w'=>uT ds l1 i m (mid+m - i)/\RP ds l1 a b/\St w0 w' (eu t A n c l1::ks)) ?_ ?_
  ·have Zz:((mid:Int)+ (m:Int) - (i:Int))=((mid+m - i:Nat):Int):=by omega
   rw [Zz];refine bg O (ew 181 O (fun h4=>?_) (fun h4=>?_))
   ·refine av O (ar O (av O (ar O (av O (aC O ?_)))));refine aM _ O (fun h5=>?_) (fun h5=>?_)
    ·obtain⟨P,X,Y,S,Aq,lP,lX,lY⟩:∃P X Y S:List TV,ds=P++ (X++ (Y++S))/\P.length=i/\X.length=m - i/\Y.length=mid - i:=by
      refine⟨ds.take i,(ds.drop i).take (m - i),(ds.drop m).take (mid - i),(ds.drop m).drop (mid - i),?_,by simp;omega,by simp;omega,by simp;omega⟩;rw [List.take_append_drop,show ds.drop m=(ds.drop i).drop (m - i) by rw [List.drop_drop];congr 1;omega,List.take_append_drop,List.take_append_drop]
     have Tp:uT ds (P++ (Y++ (X++S))) i m (mid+m - i):=by
      have:=uT.of P X Y S;rw [<-Aq,lP,lX,lY]at this
      rwa [show i+ (m - i)=m by omega,show m+ (mid - i)=mid+m - i by omega]at this
     rw [Aq]at aI;refine aA O (aQ (aiE (P:=P) (X:=X) (Y:=Y) (S:=S) i m (mid+m - i) lP (by omega) (by omega) (by omega) (by omega) hn aI) O ?_);rintro _ w4 ⟨rfl,aX⟩;refine aT O (tQ ?_);exact⟨P++ (Y++ (X++S)),(amz O),Tp,⟨by rw [Aq];exact aiD P X Y S,fun x hx=>Tp.out x (by omega)⟩,aX⟩
    ·refine nS O (tQ ?_);exact⟨ds,(amz O),uT.same ds (by omega) (by omega) (by omega),RP.refl _ _ _,aI⟩
   ·refine aJ O (aJ O (aJ O (aC O ?_)));refine Cd.fC O (nS O (tQ ?_));exact⟨ds,(amz O),uT.same ds (by omega) (by omega) (by omega),RP.refl _ _ _,aI⟩
  rintro l1 e w4 ⟨hr,Df,aX⟩;obtain⟨_,s1,s2,s3,s4,hx⟩:=To l1 hr;have om:=Df.len;refine tN (α:=List TV) (fun _=> [(0,.slice A n c),(3,ak b),(4,.func (.func 305) #[] #[]),(18,ak mid),(24,ak ((mid+m - i:Nat):Int))]) (fun l2 w'=>RP l1 l2 a mid/\SR kT l2 a mid/\St w0 w' (eu t A n c l2::ks)) ?_ ?_
  ·refine bg O (ew 195 O (fun h4=>?_) (fun h4=>?_))
   ·refine av O (ar O (av O (ar O (av O (aC O ?_)))));refine aM _ O (fun h5=>?_) (fun h5=>?_)
    ·refine aA O ?_;refine aQ (ih a i mid (by omega) (by omega) (by omega) (by omega) l1 _ (Df.cap hc) (fun x y q1 q2 q3 q4=>by { rw [hr.out x (.inl q2),hr.left y q3 (by omega)];exact My x (y+ (m - i)) q1 (by omega) (by omega) (by omega) }) s1 s2 aX) O ?_;rintro _ w5 ⟨rfl,l2,jr,mT,aY⟩;refine aT O (tQ ?_);exact⟨l2,(amz O),jr,mT,aY⟩
    ·have AB:i=mid:=by omega
     refine nS O (tQ ?_);exact⟨l1,(amz O),RP.refl _ _ _,AB▸s1,aX⟩
   ·have AB:a=i:=by omega
    refine aJ O (aJ O (aJ O (aC O ?_)));refine Cd.fC O (nS O (tQ ?_));exact⟨l1,(amz O),RP.refl _ _ _,AB▸s2,aX⟩
  rintro l2 e w5 ⟨jr,mT,aY⟩;have qg:=jr.len;have t3:SR kT l2 mid (mid+m - i):=s3.congr fun x h h'=>jr.out x (.inr h)
  have t4:SR kT l2 (mid+m - i) b:=s4.congr fun x h h'=>jr.out x (.inr (by omega))
  have nA:∀l3,RP l2 l3 mid b->SR kT l3 mid b->RP ds l3 a b/\SR kT l3 a b:=fun l3 qh Mw=>
   ⟨(Df.trans jr (bs _) (by omega)).trans qh (by omega) (bs _),Zi (by omega) (by omega) (by omega) hx jr mT qh Mw⟩
  refine aA O (ew 209 O (fun h4=>?_) (fun h4=>?_))
  ·refine av O (ar O (av O (ar O (av O (aC O ?_)))));refine aM _ O (fun h5=>?_) (fun h5=>?_)
   ·refine aA O ?_;refine aQ (ih mid (mid+m - i) b (by omega) (by omega) (by omega) sr l2 _ (jr.cap (Df.cap hc)) (fun x y q1 q2 q3 q4=>by { rw [jr.out x (.inr q1),jr.out y (.inr (by omega)),hr.right x (by omega) q2,hr.out y (.inr q3)];exact My (x - (mid+m - i - m)) y (by omega) (by omega) (by omega) q4 }) t3 t4 aY) O ?_;rintro _ w6 ⟨rfl,l3,qh,Mw,bk⟩;have:=nA l3 qh Mw;refine aT O (x8 ?_);exact⟨O,l3,this.1,this.2,bk⟩
   ·have AB:mid+m - i=b:=by omega
    have:=nA l2 (RP.refl _ _ _) (AB▸t3);refine nS O (x8 ?_);exact⟨O,l2,this.1,this.2,aY⟩
  ·have AB:mid=mid+m - i:=by omega
   have:=nA l2 (RP.refl _ _ _) (AB▸t4);refine aJ O (aJ O (aJ O (aC O ?_)));refine Cd.fC O (nS O (x8 ?_));exact⟨O,l2,this.1,this.2,aY⟩
def zI(l:List TV)(n p:Nat):Prop:=∀x y,x<p->p<=y->y<n->mq (gs l x)<mq (gs l y)
theorem zI.out{l l':List TV}{n a:Nat}(h:zI l n p)(hp:RP l l' a b)(hb:b<=l.length)(hn:b<=n)(hs:p<=a\/b<=p):zI l' n p:=fun x y hx hy hyn=>by
 have fx:∃x',gs l' x=gs l x'/\x'<p:=by
  by_cases e:a<=x/\x<b
  ·obtain⟨j,h1,h2,h3⟩:=hp.from hb e.1 e.2;exact⟨j,h3,by omega⟩
  exact⟨x,hp.out x (by omega),hx⟩
 have fy:∃y',gs l' y=gs l y'/\p<=y'/\y'<n:=by
  by_cases e:a<=y/\y<b
  ·obtain⟨j,h1,h2,h3⟩:=hp.from hb e.1 e.2;exact⟨j,h3,by omega,by omega⟩
  exact⟨y,hp.out y (by omega),hy,hyn⟩
 obtain⟨x',e1,h1⟩:=fx;obtain⟨y',e2,h2,h3⟩:=fy;rw [e1,e2];exact h x' y' h1 h2 h3
theorem UE{a:Nat}(ha:a=k*p)(hq:(k+1)*p=a+p)(j:Nat):j*p<=a\/a+p<=j*p:=by
 rcases Nat.lt_or_ge k j with h | h
 ·right;rw [<-hq];exact Nat.mul_le_mul_right p h
 left;rw [ha];exact Nat.mul_le_mul_right p h
theorem agL{a n:Nat}(ha:a=k*p)(hq:(k+1)*p=a+p)(hn:n<=a+p)(j:Nat):j*p<=a\/n<=j*p:=by
 rcases UE ha hq j with h | h
 ·exact .inl h
 exact .inr (by omega)
theorem ajo{A:aj}{n c:Nat}{ds:List TV}(hn:n<=1000000000000)(hc:∀s∈ds,pM s)(xC:∀x y,x<y->y<n->mq (gs ds x)<mq (gs ds y))(hS:St w0 w (eu t A n c ds::ks)):
 aK prog 330 [.slice A n c,ak n,.func (.func 305) #[] #[]] w (fun v w'=>v= .tuple #[]/\∃lZ,lZ.Perm ds/\SR kT lZ 0 n/\St w0 w' (eu t A n c lZ::ks)):=by
 have oT:ds.length=n:=(hS.jT 0 O).1;refine bA func330 O ntmps330 O (Bu O) (bJ O ?_);refine Cd.loop (α:=Nat×List TV) (fun z=> [(0,.slice A n c),(1,ak n),(2,.func (.func 305) #[] #[]),(6,ak 20),(7,ak ((z.1*20:Nat):Int)),(8,ak ((z.1*20+20:Nat):Int))]) (fun z w'=>z.1*20<=n/\z.2.Perm ds/\(∀x,z.1*20<=x->gs z.2 x=gs ds x)/\(∀k,zI z.2 n (k*20))/\wM kT z.2 n 20 0 (z.1*20)/\St w0 w' (eu t A n c z.2::ks)) (fun z=>n - z.1*20) (0,ds) (amz O) ⟨by omega,List.Perm.refl _,fun _ _=>O,fun k x y h1 h2 h3=>xC x y (Nat.lt_of_lt_of_le h1 h2) h3,fun k h h'=>by omega,hS⟩ ?_;rintro⟨k,cu⟩ e w1 ⟨hk,hp,aW,uf,hB,aI⟩;dsimp only at hk hp aW uf hB aI|-;have hcul:cu.length=n:=by rw [hp.length_eq];exact oT
 have EO:∀s∈cu,pM s:=fun s hs=>hc s (hp.mem_iff.1 hs)
 have sep:∀(j:Nat),j*20<k*20->min (j*20+20) n<=k*20:=fun j hj=>by omega
 refine bJ O (aM _ O (fun h1=>?_) (fun h1=>?_))
 ·refine aA O ?_;refine aQ (TQ (k*20) (k*20+20) (by omega) hk (by omega) EO (fun x y h2 h3 h4=>by rw [aW x h2,aW y (by omega)];exact xC x y h3 (by omega)) aI) O ?_;rintro _ w2 ⟨rfl,GS,jr,mT,aE⟩;refine ar O (aH O (aT O (tQ ?_)));refine⟨(k+1,GS),by show n - (k+1)*20<n - k*20;omega,⟨O,O,O,O,by show Value.int .i64 ((k*20+20:Nat):Int)=ak (((k+1)*20:Nat):Int);congr 1;omega,by show Value.int .i64 (((k*20+20:Nat):Int)+20)=ak (((k+1)*20+20:Nat):Int);congr 1;omega,au⟩,by show(k+1)*20<=n;omega,jr.perm.trans hp,fun x hx=>by { have hx:(k+1)*20<=x:=hx;rw [jr.out x (.inr (by omega)),aW x (by omega)] },fun j=> (uf j).out jr (by omega) (by omega) (by omega),fun j hj oR=>?_,aE⟩;have oR:j*20< (k+1)*20:=oR
  by_cases e:j=k
  ·subst e;rw [Nat.min_eq_left (by omega)];exact mT
  exact(hB j hj (by omega)).congr fun x h h'=>jr.out x (.inl (by omega))
 refine bn O (bo (cL O ?_));refine aQ (TQ (k*20) n (bs _) hk (by omega) EO (fun x y h2 h3 h4=>by rw [aW x h2,aW y (by omega)];exact xC x y h3 h4) aI) O ?_;rintro _ w2 ⟨rfl,GS,jr,mT,aE⟩;have tj:wM kT GS n 20 0 n:=fun j hj oR=>by
  by_cases e:j=k
  ·subst e;rw [Nat.min_eq_right (by omega)];exact mT
  exact(hB j hj (by omega)).congr fun x h h'=>jr.out x (.inl (by omega))
 refine aC O ?_;refine Cd.loop (α:=Nat×List TV) (fun z=> [(0,.slice A n c),(1,ak n),(2,.func (.func 305) #[] #[]),(6,ak (z.1:Int))]) (fun z w'=> (0<z.1/\z.1<=2*n+20)/\z.2.Perm ds/\(∀k,zI z.2 n (k*z.1))/\wM kT z.2 n z.1 0 n/\St w0 w' (eu t A n c z.2::ks)) (fun z=>2*n+20 - z.1) (20,GS) (amz O) ⟨⟨by show 0<20;omega,by show 20<=2*n+20;omega⟩,jr.perm.trans hp,fun j=> (uf j).out jr (by omega) (bs _) (by show j*20<=k*20\/n<=j*20;omega),tj,aE⟩ ?_;rintro⟨s,c3⟩ e w3 ⟨⟨pB,Iu⟩,qh,LL,K7,aR⟩;dsimp only at pB Iu qh LL K7 aR|-;refine bJ O (aM _ O (fun h2=>?_) (fun h2=>?_))
 ·refine aA O (rQ O O O (by omega) (aC O ?_));obtain⟨p,hp⟩:∃p:Nat,p=2*s:=⟨_,rfl⟩;have HO:((2:Int)* (s:Int))=(p:Int):=by omega
  rw [HO];refine Cd.loop (α:=Nat×Nat×List TV) (fun z=> [(0,.slice A n c),(1,ak n),(2,.func (.func 305) #[] #[]),(6,ak s),(7,ak (z.2.1:Int)),(8,ak ((z.2.1+p:Nat):Int))]) (fun z w'=>z.2.1=z.1*p/\z.2.1<=n/\z.2.2.Perm ds/\(∀k,zI z.2.2 n (k*p))/\(∀k,z.2.1<=k*s->zI z.2.2 n (k*s))/\wM kT z.2.2 n p 0 z.2.1/\wM kT z.2.2 n s z.2.1 n/\St w0 w' (eu t A n c z.2.2::ks)) (fun z=>n - z.2.1) (0,0,c3) ⟨O,O,O,O,O,by show Value.int .i64 (p:Int)=ak ((0+p:Nat):Int);rw [Nat.zero_add],au⟩ ⟨(Nat.zero_mul p).symm,aZ _,qh,fun k=>by { have:=LL (2*k);rwa [show 2*k*s=k*p by rw [hp,Nat.mul_comm 2 k,Nat.mul_assoc]]at this },fun k _=>LL k,fun k h h'=>absurd h' (sX _),K7,aR⟩ ?_;rintro⟨k,a,c4⟩ e w4 ⟨ha,xl,tv,HP,HQ,Lc,Ho,aX⟩;dsimp only at ha xl tv HP HQ Lc Ho aX|-;have hc4l:c4.length=n:=by rw [tv.length_eq];exact oT
  have Sc:∀s∈c4,pM s:=fun s hs=>hc s (tv.mem_iff.1 hs)
  have q1:2*k*s=a:=by rw [ha,hp,Nat.mul_comm 2 k,Nat.mul_assoc]
  have q2:(2*k+1)*s=a+s:=by rw [Nat.succ_mul,q1]
  have q3:(k+1)*p=a+p:=by rw [Nat.succ_mul,ha]
  have CO:a<n->SR kT c4 a (min (a+s) n):=fun h=>by
   have:=Ho (2*k) (by rw [q1];exact bs _) (by rw [q1];exact h)
   rwa [q1]at this
  have Ey:a+s<n->SR kT c4 (a+s) (min (a+s+s) n):=fun h=>by
   have:=Ho (2*k+1) (by rw [q2];omega) (by rw [q2];exact h)
   rwa [q2]at this
  refine bJ O (aM _ O (fun h3=>?_) (fun h3=>?_))
  ·have qO:a+p<=n:=by omega
   have m1:=CO (by omega);have m2:=Ey (by omega);rw [Nat.min_eq_left (by omega)]at m1 m2;rw [show a+s+s=a+p by omega]at m2;refine aA O (aH O (ar O ?_));refine aQ (V9 (by omega) p a (a+s) (a+p) (by omega) (by omega) (by omega) qO c4 _ Sc (fun x y h4 h5 h6 h7=>by { have h8:=HQ (2*k+1) (by rw [q2];omega);rw [q2]at h8;exact h8 x y h5 h6 (by omega) }) m1 m2 aX) O ?_;rintro _ w5 ⟨rfl,c5,vm,Fh,aY⟩;refine ar O (rQ O O O (by omega) (aH O (aT O (tQ ?_))));refine⟨(k+1,a+p,c5),by show n - (a+p)<n - a;omega,⟨O,O,O,O,O,by show Value.int .i64 (((a+p:Nat):Int)+ (2:Int)* (s:Int))=ak ((a+p+p:Nat):Int);congr 1;omega,au⟩,q3.symm,qO,vm.perm.trans tv,fun j=> (HP j).out vm (by omega) qO (UE ha q3 j),fun j hj=> (HQ j (by have hj:a+p<=j*s:=hj;omega)).out vm (by omega) qO (.inr hj),fun j hj oR=>?_,fun j hj oR=>?_,aY⟩
   ·have oR:j*p<a+p:=oR
    by_cases e:j=k
    ·subst e;rw [<-ha,Nat.min_eq_left qO];exact Fh
    have uj:j<k+1:=by rw [<-q3]at oR;exact Nat.lt_of_mul_lt_mul_right oR
    have h6:j*p<k*p:=Nat.mul_lt_mul_of_pos_right (by omega) (by omega);have h7:=UD h6;exact(Lc j (aZ _) (by rw [ha];exact h6)).congr fun x h h'=>vm.out x (.inl (by omega))
   have hj:a+p<=j*s:=hj;exact(Ho j (by omega) oR).congr fun x h h'=>vm.out x (.inr (by omega))
  have qO:n<a+p:=by omega
  have key:∀c5:List TV,RP c4 c5 a n->SR kT c5 a n->wM kT c5 n p 0 n:=fun c5 vm Fh j hj oR=>by
   by_cases e:j=k
   ·subst e;rw [<-ha,Nat.min_eq_right (by omega)];exact Fh
   have uj:j<k+1:=by
    have:j*p< (k+1)*p:=by rw [q3];omega
    exact Nat.lt_of_mul_lt_mul_right this
   have h6:j*p<k*p:=Nat.mul_lt_mul_of_pos_right (by omega) (by omega);have h7:=UD h6;exact(Lc j (aZ _) (by rw [ha];exact h6)).congr fun x h h'=>vm.out x (.inl (by omega))
  refine bn O (bo (cL O (aH O (aC O ?_))));refine aM _ O (fun h4=>?_) (fun h4=>?_)
  ·have m1:=CO (by omega);have m2:=Ey (by omega);rw [Nat.min_eq_left (by omega)]at m1;rw [Nat.min_eq_right (by omega)]at m2;refine aA O ?_;refine aQ (V9 (by omega) n a (a+s) n (by omega) (by omega) (by omega) (bs _) c4 _ Sc (fun x y h4 h5 h6 h7=>by { have h8:=HQ (2*k+1) (by rw [q2];omega);rw [q2]at h8;exact h8 x y h5 h6 h7 }) m1 m2 aX) O ?_;rintro _ w5 ⟨rfl,c5,vm,Fh,aY⟩;refine ar O (rQ O O O (by omega) (aT O (tQ ?_)));exact⟨(p,c5),by show 2*n+20 - p<2*n+20 - s;omega,⟨O,O,O,by show Value.int .i64 ((s:Int)*2)=ak p;congr 1;omega,au⟩,⟨by show 0<p;omega,by show p<=2*n+20;omega⟩,vm.perm.trans tv,fun j=> (HP j).out vm (by omega) (bs _) (agL ha q3 (by omega) j),key c5 vm Fh,aY⟩
  have hs4:SR kT c4 a n:=by
   by_cases h5:a<n
   ·have:=CO h5
    rwa [Nat.min_eq_right (by omega)]at this
   exact SR.one _ _ (by omega)
  refine aA O (rQ O O O (by omega) (aT O (tQ ?_)));exact⟨(p,c4),by show 2*n+20 - p<2*n+20 - s;omega,⟨O,O,O,by show Value.int .i64 ((s:Int)*2)=ak p;congr 1;omega,au⟩,⟨by show 0<p;omega,by show p<=2*n+20;omega⟩,tv,HP,key c4 (RP.refl _ _ _) hs4,aX⟩
 refine bn O (bo (BP O ?_));exact x8 ⟨O,c3,qh,K7.done (by omega),aR⟩
theorem ajc{A:aj}{n c:Nat}{ds:List TV}(hn:n<=1000000000000)(hc:∀s∈ds,pM s)(xC:∀x y,x<y->y<n->mq (gs ds x)<mq (gs ds y))(hS:St w0 w (eu t A n c ds::ks)):
 aK prog 304 [.slice A n c,.func (.func 305) #[] #[]] w (fun v w'=>v= .tuple #[]/\∃lZ,lZ.Perm ds/\SR kT lZ 0 n/\St w0 w' (eu t A n c lZ::ks)):=by
 refine bA func304 O ntmps304 O (Bu O) ?_;refine bg O (bc O O (ar O ?_));refine aQ (ajo hn hc xC hS) O ?_;rintro _ w1 ⟨rfl,lZ,h1,h2,h3⟩;refine aT O (x8 ?_);exact⟨O,lZ,h1,h2,h3⟩
end Go.Proofs.YtkccgdhcpplblaaGreatDoor.Vc.TS
namespace Go.Proofs.YtkccgdhcpplblaaGreatDoor.Vc
open Go.RowKit Tryz
structure zJ(w:aa)(A8:aj)(X:ai)(N:Nat)(AD:aj)(rs:List aO)(B:ah):Prop where
 len:X.length=N+2
 pe:N<=500
 rk:cg w A8 (N+2) X
 bl:bF w AD N rs B
 PI:B.length=N
 sa:∀e:Int,0<=e->e< (N:Int)->SA (gl B e)/\(gl B e).length<=500
theorem zJ.aq{w w':aa}{A8:aj}{X:ai}{N:Nat}{AD:aj}{rs:List aO}{B:ah}(h:zJ w A8 X N AD rs B)(hb:Below w.heap.size w w'):zJ w' A8 X N AD rs B:=⟨h.len,h.pe,h.rk.aq hb,h.bl.aq hb,h.PI,h.sa⟩
abbrev Ei(A8:aj)(m c8:Nat)(q:Int)(AR:aj)(r cR:Nat)(AD:aj)(N cD:Nat):List ad:=[.slice A8 m c8,ak q,.slice AR r cR,.slice AD N cD]
theorem TX(P A8:aj)(c8:Nat)(q:Int)(AR:aj)(r cR:Nat)(AD:aj)(N cD:Nat)(X:ai)(rs:List aO)(B:ah)(a b:Int)(w:aa)(hP:Rd w P 4 (fun j=> (Ei A8 (N+2) c8 q AR r cR AD N cD).getD j undef))(hF:zJ w A8 X N AD rs B)(ha:0<=a/\a< (N:Int)+2)(hb:0<=b/\b< (N:Int)+2):
 aK prog 306 [.pointer P,ak a,ak b] w (fun v w'=>v= .bool (decide (eX N B a b))/\w'=w):=by
 have xn:=hF.pe;have abZ:=hF.PI;have Ir:=hF.sa (b - 1);have Lm:Rd w (ay P 1) 3 (fun j=> [Value.int .i64 q,.slice AR r cR,.slice AD N cD].getD j undef):=(hP.behind (o:=1) (m:=3) (by omega)).congr fun j hj=>by
  rcases(show j=0\/j=1\/j=2 by omega)with rfl | rfl | rfl<;>rfl
 have yes:eX N B a b->Value.bool true= .bool (decide (eX N B a b)):=fun h=>aF Value.bool (dM h).symm
 have no:¬eX N B a b->Value.bool false= .bool (decide (eX N B a b)):=fun h=>aF Value.bool (cj h).symm
 refine bA func306 O ntmps306 O (df O) (bg O ?_);refine ew 10 O (fun h1=>?_) (fun h1=>?_)
 ·refine aJ O (aJ O (ar O (aJ O (aJ O (aJ O (aJ O (aJ O (aJ O (aJ O (aJ O (ar O ?_)))))))))));refine aJ O (aJ O (aJ O (aJ O (aJ O (aJ O (aJ O (aJ O (aJ O (fA O O O O (fA O O O O (aJ O ?_)))))))))));refine aJ O (fA O O O O (fA O O O O (fA O O O O (fA O O O O (fA O O O O (fA O O O O (fA O O O O (fA O O O O (aJ O (bI O ?_))))))))));exact dz O ⟨yes (.inl h1),O⟩
 refine av O (ar O (av O (ar O ?_)));refine ew 14 O (fun h2=>?_) (fun h2=>?_)
 ·refine aJ O (aJ O (aJ O (aJ O (aJ O (aJ O (aJ O (aJ O (ar O (aJ O (aJ O (aJ O ?_)))))))))));refine aJ O (aJ O (aJ O (aJ O (aJ O (aJ O (fA O O O O (fA O O O O (aJ O (aJ O (fA O O O O (fA O O O O ?_)))))))))));refine fA O O O O (fA O O O O (fA O O O O (fA O O O O (fA O O O O (fA O O O O (aJ O (bI O ?_)))))));exact dz O ⟨yes (.inr (.inl h2)),O⟩
 refine av O (ar O (av O (ar O (av O ?_))));refine wR hP (by decide) O O ?_;refine av O (aU hP O (av O (amv (j:=0) hP (by exact aF Value.pointer O) O O O O ?_)));refine av O (bc O O (av O (eh O (av O (ar O ?_)))));refine ew 24 O (fun h3=>?_) (fun h3=>?_)
 ·refine aJ O (aJ O (aJ O (aJ O (aJ O (aJ O (aJ O (aJ O (aJ O (fA O O O O (fA O O O O (aJ O ?_)))))))))));refine aJ O (fA O O O O (fA O O O O (fA O O O O (fA O O O O (fA O O O O (fA O O O O (fA O O O O (fA O O O O (aJ O (bI O ?_))))))))));exact dz O ⟨yes (.inr (.inr (.inl (by omega)))),O⟩
 refine av O (ar O (av O (ar O (av O ?_))));refine wR hP (by decide) O O ?_;refine av O (aU hP O (av O (amv (j:=0) hP (by exact aF Value.pointer O) O O O O ?_)));refine av O (bc O O (av O (eh O (av O (ar O (av O (ar O ?_)))))));refine ew 33 O (fun h4=>?_) (fun h4=>?_)
 ·refine av O (ar O (av O (ar O (av O (ar O (av O (ar O ?_)))))));refine ew 37 O (fun h5=>?_) (fun h5=>?_)
  ·refine av O (ar O (av O ?_));refine wR hP (by decide) O O (av O (aU hP O ?_));refine av O (ar O (av O (eh O (av O (ar O (av O (eh O (av O ?_))))))));refine aQ (TR (ay P 1) AR AD cR r cD q N rs B (a - 1) (b - 1) _ Lm hF.bl abZ (by omega) (Ir (by omega) (by omega)).1 (by have:=(Ir (by omega) (by omega)).2;omega)) O ?_;rintro _ _ ⟨rfl,rfl⟩;refine av O (bI O ?_);refine dz O ?_;refine⟨aF Value.bool (kk.2 ⟨fun h=> .inr (.inr (.inr ⟨by omega,by omega,by omega,by omega,h⟩)),fun h=>?_⟩),O⟩;rcases h with h | h | h | h
   ·exact absurd h h1
   ·exact absurd h h2
   ·omega
   exact h.2.2.2.2
  refine aJ O (aJ O (aJ O (aJ O (aJ O (aJ O (aJ O (aJ O (av O (bI O ?_)))))))));refine dz O ⟨no fun h=>?_,O⟩;rcases h with h | h | h | h
  ·exact h1 h
  ·exact h2 h
  ·omega
  omega
 refine aJ O (aJ O (av O (ar O (av O (ar O (aJ O (aJ O (aJ O (aJ O (aJ O (aJ O ?_)))))))))));refine aJ O (aJ O (av O (bI O ?_)));refine dz O ⟨no fun h=>?_,O⟩;rcases h with h | h | h | h
 ·exact h1 h
 ·exact h2 h
 ·omega
 omega
end Go.Proofs.YtkccgdhcpplblaaGreatDoor.Vc
