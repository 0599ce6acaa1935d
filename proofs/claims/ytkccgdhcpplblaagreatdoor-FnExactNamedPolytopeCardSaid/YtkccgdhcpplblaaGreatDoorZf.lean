/-
 Lemmas. Conditions: as each states them.
-/
import Derived.Test.YtkccgdhcpplblaaGreatDoorZe
import Derived.MapKept
import Derived.Carry
set_option maxHeartbeats 8000000
namespace Go.Proofs.YtkccgdhcpplblaaGreatDoor.Vc
open Go.RowKit Tryz
theorem VF(o b mv:ai):(jV o b mv).length=o.length:=by simp [jV]
theorem aiF{o b mv:ai}{k:Nat}(hk:k<o.length):(jV o b mv).take (k+1)=(jV o b mv).take k++ [gi b (gi mv (gi o k))]:=by
 rw [lV (by rw [VF];exact hk),b9 hk];simp [jV]
theorem Z3(A:aj)(n c:Nat)(rs:List aO)(xss:ah)(N:Nat)(f:Int)(w:aa)(hR:bF w A n rs xss)(hM:cN xss)(hN:N=(gl xss 0).length)(h0:0<=f)(hf:f<N):
 aK prog 156 [.slice A n c,ak f] w (fun v w'=>∃A' c' rs',v= .agg #[.slice A' n c']/\rs'.length=n/\St w w' (aL 34 2 A' n c' rs' (pT N xss f))):=by
 subst hN;have hP:=hM.NQ h0 hf;have hs:=hM.2.2.1.sys;have h5:=hM.1;have Hk:=hM.2.1;have jH:=hR.len;have xE:(gl xss 0).length=(rg rs 0).n:=hR.qu (by omega) (by omega);have acC:pT (gl xss 0).length xss f=xss.map fun mv=>jV (eE (gl xss 0).length xss f) (nk (gl xss 0).length (eE (gl xss 0).length xss f)) mv:=O
 have tm:∀x:Int,0<=x->x< ((gl xss 0).length:Int)->0<=gi (nk (gl xss 0).length (eE (gl xss 0).length xss f)) x/\gi (nk (gl xss 0).length (eE (gl xss 0).length xss f)) x< ((gl xss 0).length:Int):=fun x h0 h1=>by
  obtain⟨k,hk,_,hb⟩:=hP.Pu h0 h1;omega
 have mP:=Pt (gl xss 0).length (eE (gl xss 0).length xss f);have qS:nk (gl xss 0).length (eE (gl xss 0).length xss f)=wG (List.replicate (gl xss 0).length 0) (fun k=>gi (eE (gl xss 0).length xss f) k) (fun k=> (k:Int)) (gl xss 0).length:=by
  unfold nk;rw [hP.len]
 have Ic:=aha A n c rs xss (gl xss 0).length f;generalize RH:(gl xss 0).length=N at*;generalize hoe:eE N xss f=o at*;generalize fQ:nk N o=b at*;have De:=hP.len;have bP:∀k:Nat,k<N->0<=gi o k/\gi o k<N:=fun k hk=>hP.gO hk
 rw [acC];refine bA func156 O ntmps156 O (qp O O) (bg O (gH (St.refl w) O ?_));intro Ac w1 aI;refine ar O (aQ (Ic _ (aI.cT hR) (by omega) (by omega) hs (by omega) h0 hf) O ?_);rintro _ w2 ⟨Ao,co,rfl,aw⟩;rw [De]at aw|-;have aE:=aI.call aw;have ln:=aE.cT hR;refine ar O (aD ln.top.2 O (bW ln.top O (bc O O ?_)));refine wP N aE (by rw [<-xE];rfl) O (by omega) ?_;intro A6 w3 aR;refine ar O (bc O O (aC O ?_));refine Cd.loop (α:=Nat) (fun k=> [(0,.slice A n c),(4,.pointer Ac),(5,.slice Ao N co),(6,.slice A6 N N),(23,.slice Ao N co),(24,ak N),(25,ak k)]) (fun k w'=>St w w' [ax 2 A6 N N (wG (List.replicate N 0) (fun k=>gi o k) (fun k=> (k:Int)) k),ax 2 Ao N co o,Bx 24 1 Ac [.slice none 0 0]]/\k<=N) (fun k=>N - k) 0 ⟨O,O,O,by rw [<-xE];rfl,O,O,O,au⟩ ⟨aR,aZ _⟩ ?_;rintro k e w4 ⟨aX,hk⟩;have Hy:=aX.bz 1 O;refine bJ O (aM _ O (fun h1=>?_) (fun h1=>?_))
 ·have dm:=bP k (by omega);refine aA O (aD Hy.2 O (a8 Hy O (ar O (aD (aX.bz 0 O).2 O (lC 0 aX O O O (by omega) ?_)))));intro w5 aY;refine ar O (aH O (aT O (tQ ?_)));exact⟨k+1,by show N - (k+1)<N - k;omega,(amz O),aY,by omega⟩
 have xw:k=N:=by omega
 subst xw;rw [<-qS]at aX;refine bn O (bo (cL O ?_));refine gH aX O ?_;intro Ad w5 aY;have Lq:St w w5 (Bx 24 1 Ad [.slice none 0 0]::ax 2 A6 k k b::ax 2 Ao k co o::Bx 24 1 Ac [.slice none 0 0]::bZ 34 none 0 0 []::[]):=(aY.nil 34).perm (nT (l₁:=[_]) (l₂:=[_,_,_,_]));refine ar O (bc O O (aC O ?_));refine Cd.loop (α:=Nat×aj×Nat×List aO) (fun s=> [(4,.pointer Ac),(5,.slice Ao k co),(6,.slice A6 k k),(9,.pointer Ad),(35,.slice A n c),(36,ak n),(37,ak (s.1:Int))]) (fun s w'=>St w w' (Bx 24 1 Ad [.slice s.2.1 s.1 s.2.2.1]::ax 2 A6 k k b::ax 2 Ao k co o::Bx 24 1 Ac [.slice none 0 0]::bZ 34 s.2.1 s.1 s.2.2.1 s.2.2.2::cK 2 s.2.2.2 ((xss.map fun mv=>jV o b mv).take s.1))/\s.1<=n/\s.2.2.2.length=s.1) (fun s=>n - s.1) (0,none,0,[]) (amz O) ⟨Lq,aZ _,O⟩ ?_;rintro⟨i,A3,c3,rv⟩ e w6 ⟨bk,hi,hlen⟩;dsimp only at bk hi hlen|-;refine bJ O (aM _ O (fun h1=>?_) (fun h1=>?_))
 ·have di:i<n:=by omega
  have hx:i<xss.length:=by omega
  have Lh:=bk.cT hR;have e2:gl xss i=xss[i]:=by simp [gl,da,fZ hx]
  have um:=hs (gl xss i) (pW (by omega) (by omega));have S1:=Lh.qu (k:=(i:Int)) (by omega) h1;refine aA O (aD Lh.top.2 O (bW Lh.top O ?_));refine ar O (bc O O (aC O ?_));refine Cd.loop (α:=Nat×aj×Nat) (fun s=> [(4,.pointer Ac),(5,.slice Ao k co),(6,.slice A6 k k),(9,.pointer Ad),(35,.slice A n c),(36,ak n),(37,ak i),(11,.slice (rg rs i).a (rg rs i).n (rg rs i).c),(12,.slice s.2.1 s.1 s.2.2),(41,.slice Ao k co),(42,ak k),(43,ak (s.1:Int))]) (fun s w'=>St w w' (ax 2 s.2.1 s.1 s.2.2 ((jV o b (gl xss i)).take s.1)::Bx 24 1 Ad [.slice A3 i c3]::ax 2 A6 k k b::ax 2 Ao k co o::Bx 24 1 Ac [.slice none 0 0]::bZ 34 A3 i c3 rv::cK 2 rv ((xss.map fun mv=>jV o b mv).take i))/\s.1<=k) (fun s=>k - s.1) (0,none,0) (amz O) ⟨bk.nil _,aZ _⟩ ?_;rintro⟨j,fJ,J6⟩ e w7 ⟨bG,hj⟩;dsimp only at bG hj|-;have RJ:=bG.bz 3 O;have z7:=bG.bz 2 O;have RF:=(bG.cT hR).at_ (i:=(i:Int)) (by omega) h1;refine bJ O (aM _ O (fun h2=>?_) (fun h2=>?_))
  ·have wi:=bP j (by omega);have hv:=um.2 _ wi.1 wi.2;have hbv:=tm _ hv.1 hv.2;refine aA O (aD RJ.2 O (a8 RJ O (ar O (aD RF.2 O (a8 RF O (aD z7.2 O (a8 z7 O (eS bG O O O ?_))))))));intro A9 w9 bL;refine fk 1 bL O (bL.bz 0 O) O O O ?_;intro bH dE dV bN;have bN:=bN.tail;refine ar O (aH O (aT O (tQ ?_)));refine⟨(j+1,bH,dE),by show k - (j+1)<k - j;omega,(amz O),?_,by show j+1<=k;omega⟩;show St w dV (ax _ bH (j+1) dE ((jV o b (gl xss i)).take (j+1))::_);rw [aiF (by omega)];exact bN
  have uj:j=k:=by omega
  subst uj;rw [gR (by rw [VF];omega)]at bG;refine bn O (bo (cL O ?_));refine aU (bG.rd 1 O) O (bh (bG.rd 1 O) O (ar O (kV bG O O O ?_)));intro A9 w9 bL;refine lA 6 bL O (bL.fG 0 O) O O O (by omega) (by omega) O ?_;intro bH dE dV bN;have bN:=bN.tail;refine aU (bN.rd 1 O) O (kF 1 bN O O O O O ?_);intro dZ eA;have eA:St w dZ (ax 2 fJ j J6 (jV o b (gl xss i))::Bx 24 1 Ad [.slice bH (i+1) dE]::ax 2 A6 j j b::ax 2 Ao j co o::Bx 24 1 Ac [.slice none 0 0]::bZ 34 bH (i+1) dE (rv++ [⟨fJ,j,J6⟩])::cK 2 rv ((xss.map fun mv=>jV o b mv).take i)):=eA;refine ar O (aH O (aT O (tQ ?_)));refine⟨(i+1,bH,dE,rv++ [⟨fJ,j,J6⟩]),by show n - (i+1)<n - i;omega,(amz O),?_,di,by simp [hlen]⟩;show St w dZ (_::_::_::_::bZ _ bH (i+1) dE (rv++ [_])::cK _ (rv++ [_]) ((xss.map fun mv=>jV o b mv).take (i+1)));rw [lV (by rw [fO];exact hx),DE (by simp [hlen];omega),List.getElem_map,<-e2];refine eA.perm ?_;exact nT (l₁:=[_]) (l₂:=_::_::_::_::_::cK 2 rv ((xss.map fun mv=>jV o b mv).take i))
 have du:i=n:=by omega
 subst du;rw [gR (by rw [fO];omega)]at bk;refine bn O (bo (cL O ?_));refine ao.dq 0 (bk.rd 0 O) O O O (bO 1 3 bk O O O O O O O ?_);intro w7 bG;refine bI O (ij O (bG.rd 3 O) ?_);exact⟨A3,c3,rv,O,hlen,bG.sub ((((List.sublist_cons_self _ _).trans (List.sublist_cons_self _ _)).trans (List.sublist_cons_self _ _)).trans (List.sublist_cons_self _ _))⟩
end Go.Proofs.YtkccgdhcpplblaaGreatDoor.Vc
namespace Go.Proofs.YtkccgdhcpplblaaGreatDoor.Vc
open Tryz
abbrev Mx:=ah
def O5(N:Nat)(xss:Mx):Prop:=∀f,f<N->¬Uk (pT N xss (f:Nat)) xss<0
instance (N:Nat)(xss:Mx):Decidable (O5 N xss):=by unfold O5;exact inferInstance
end Go.Proofs.YtkccgdhcpplblaaGreatDoor.Vc
namespace Go.Proofs.YtkccgdhcpplblaaGreatDoor.Vc
open Go.RowKit Tryz
section
variable {P:Program} {N:Nat} {ops:Array Oper} {K:Env->aa->Prop} {rest:List Oper} {e:Env} {w:aa} {d:Nat} {ty:ae} {pos:String} {af:Array Edge}
end
theorem St.Nr{w0 w:aa}{t1 t2:ae}{A:aj}{n c:Nat}{rs:List aO}{xss:ah}{ks:List Ck}(h:St w0 w ks)(adV:(aL t1 t2 A n c rs xss).Sublist ks)(hl:xss.length=n):bF w A n rs xss:=(h.sub adV).oz hl
def qx(L:ah)(K:Int)(w:aa)(v:ad)(w':aa):Prop:=∃A c,∃rs:List aO,v= .tuple #[.agg #[.slice A L.length c],ak K]/\rs.length=L.length/\St w w' (aL 34 2 A L.length c rs L)
theorem qx.none{w w':aa}{ks:List Ck}{K:Int}(h:St w w' ks):qx [] K w (.tuple #[.agg #[.slice Option.none 0 0],ak K]) w':=⟨Option.none,0,[],rfl,rfl,h.none.nil _⟩
end Go.Proofs.YtkccgdhcpplblaaGreatDoor.Vc
namespace Go.Proofs.YtkccgdhcpplblaaGreatDoor.Vc
open Tryz
variable{m:Nat}{b:Int}
structure fK(m:Nat)(n:Int)(rk:Int->Int)(ib:Int->Int->Prop):Prop where
 two:2<=m
 r0:rk 0= -1
 rt:rk ((m:Int) - 1)=n
 ri:∀a:Int,0<a->a< (m:Int) - 1->0<=rk a/\rk a<=n - 1
 refl:∀a,ib a a
 trans:∀a b c:Int,0<=a/\a<m->0<=b/\b<m->0<=c/\c<m->ib a b->ib b c->ib a c
 strict:∀a b:Int,0<=a/\a<m->0<=b/\b<m->ib a b->a≠b->rk a<rk b
 bot:∀b,ib 0 b
 top:∀a,ib a ((m:Int) - 1)
 n0:0<=n
def wN(m:Nat)(rk:Int->Int)(ib:Int->Int->Prop):Prop:=∀a b:Int,0<=a/\a<m->0<=b/\b<m->ib a b->rk b=rk a+2->∃x y:Int,x≠y/\∀c:Int,((0<=c/\c<m)/\ib a c/\ib c b/\rk c=rk a+1)↔(c=x\/c=y)
theorem fK.qt{n:Int}{rk:Int->Int}{ib:Int->Int->Prop}(h:fK m n rk ib){a:Int}(ha:0<=a/\a<m)(hb:0<=b/\b<m)(hu:ib a b):rk a<=rk b:=by
 by_cases e:a=b
 ·rw [e];exact Int.le_refl _
 exact Int.le_of_lt (h.strict a b ha hb hu e)
theorem fK.same{n:Int}{rk:Int->Int}{ib:Int->Int->Prop}(h:fK m n rk ib){a:Int}(ha:0<=a/\a<m)(hb:0<=b/\b<m)(hu:ib a b)(hr:rk b<=rk a):a=b:=
 qy fun e=>by have:=h.strict a b ha hb hu e;omega
theorem fK.gO{n:Int}{rk:Int->Int}{ib:Int->Int->Prop}(h:fK m n rk ib){a:Int}(ha:0<=a/\a<m): -1<=rk a/\rk a<=n:=by
 have h0:=h.r0;have ht:=h.rt;have hn:=h.n0
 by_cases e:a=0
 ·subst e;omega
 by_cases e2:a=(m:Int) - 1
 ·subst e2;omega
 have:=h.ri a (by omega) (by omega);omega
theorem fK.zero{n:Int}{rk:Int->Int}{ib:Int->Int->Prop}(h:fK m n rk ib){a:Int}(ha:0<=a/\a<m)(hr:rk a= -1):a=0:=by
 have ht:=h.rt;have hn:=h.n0;refine qy fun e=>?_
 by_cases e2:a=(m:Int) - 1
 ·subst e2;omega
 have:=h.ri a (by omega) (by omega);omega
theorem fK.whole{n:Int}{rk:Int->Int}{ib:Int->Int->Prop}(h:fK m n rk ib){a:Int}(ha:0<=a/\a<m)(hr:rk a=n):a=(m:Int) - 1:=by
 have h0:=h.r0;have hn:=h.n0;refine qy fun e=>?_
 by_cases e2:a=0
 ·subst e2;omega
 have:=h.ri a (by omega) (by omega);omega
section
variable {m1 m2:Nat} {n1 n2:Int} {rk1 rk2:Int->Int} {cV cJ:Int->Int->Prop}
theorem Yu(h1:fK m1 n1 rk1 cV)(h2:fK m2 n2 rk2 cJ)(d1:wN m1 rk1 cV)(d2:wN m2 rk2 cJ){a1 a2 b1 b2:Int}(gW:0<=a1/\a1<m1)(ie:0<=a2/\a2<m2)(dF:0<=b1/\b1<m1)(eM:0<=b2/\b2<m2)(wo:cV a1 b1)(kr:cJ a2 b2)(hr:rk1 b1+rk2 b2=rk1 a1+rk2 a2+2):
 ∃x y:Int×Int,x≠y/\∀c:Int×Int,((0<=c.1/\c.1<m1)/\(0<=c.2/\c.2<m2)/\(cV a1 c.1/\cJ a2 c.2)/\(cV c.1 b1/\cJ c.2 b2)/\rk1 c.1+rk2 c.2=rk1 a1+rk2 a2+1)↔(c=x\/c=y):=by
 have q1:=h1.qt gW dF wo;have q2:=h2.qt ie eM kr;rcases(show(rk1 b1=rk1 a1+2/\rk2 b2=rk2 a2)\/(rk1 b1=rk1 a1+1/\rk2 b2=rk2 a2+1)\/(rk1 b1=rk1 a1/\rk2 b2=rk2 a2+2) by omega)with⟨r1,r2⟩ | ⟨r1,r2⟩ | ⟨r1,r2⟩
 ·obtain rfl:=h2.same ie eM kr (by omega);obtain⟨x,y,jR,hc⟩:=d1 a1 b1 gW dF wo r1;refine⟨(x,a2),(y,a2),fun e=>jR (aF Prod.fst e),fun c=>?_⟩;constructor
  ·rintro⟨i1,i2,⟨u1,u2⟩,⟨v1,v2⟩,rc⟩;have e2:=h2.same ie i2 u2 (h2.qt i2 ie v2);have:=(hc c.1).1 ⟨i1,u1,v1,by rw [<-e2]at rc;omega⟩;rcases this with h | h
   ·left;rw [<-h,e2]
   right;rw [<-h,e2]
  rintro(rfl | rfl)
  ·obtain⟨i,u,v,rc⟩:=(hc x).2 (.inl rfl);exact⟨i,ie,⟨u,h2.refl _⟩,⟨v,h2.refl _⟩,by show rk1 x+rk2 a2=_;omega⟩
  obtain⟨i,u,v,rc⟩:=(hc y).2 (.inr rfl);exact⟨i,ie,⟨u,h2.refl _⟩,⟨v,h2.refl _⟩,by show rk1 y+rk2 a2=_;omega⟩
 ·have ne1:a1≠b1:=fun e=>by rw [e]at r1;omega
  refine⟨(a1,b2),(b1,a2),fun e=>ne1 (aF Prod.fst e),fun c=>?_⟩;constructor
  ·rintro⟨i1,i2,⟨u1,u2⟩,⟨v1,v2⟩,rc⟩;have p1:=h1.qt gW i1 u1;have p2:=h1.qt i1 dF v1;have p3:=h2.qt ie i2 u2;have p4:=h2.qt i2 eM v2
   by_cases e:rk1 c.1=rk1 a1
   ·left;have e1:=h1.same gW i1 u1 (by omega);have e2:=h2.same i2 eM v2 (by omega);exact Prod.ext e1.symm e2
   right;have e1:=h1.same i1 dF v1 (by omega);have e2:=h2.same ie i2 u2 (by omega);exact Prod.ext e1 e2.symm
  rintro(rfl | rfl)
  ·exact⟨gW,eM,⟨h1.refl _,kr⟩,⟨wo,h2.refl _⟩,by show rk1 a1+rk2 b2=_;omega⟩
  exact⟨dF,ie,⟨wo,h2.refl _⟩,⟨h1.refl _,kr⟩,by show rk1 b1+rk2 a2=_;omega⟩
 obtain rfl:=h1.same gW dF wo (by omega);obtain⟨x,y,jR,hc⟩:=d2 a2 b2 ie eM kr r2;refine⟨(a1,x),(a1,y),fun e=>jR (aF Prod.snd e),fun c=>?_⟩;constructor
 ·rintro⟨i1,i2,⟨u1,u2⟩,⟨v1,v2⟩,rc⟩;have e1:=h1.same gW i1 u1 (h1.qt i1 gW v1);have:=(hc c.2).1 ⟨i2,u2,v2,by rw [<-e1]at rc;omega⟩;rcases this with h | h
  ·left;rw [<-h,e1]
  right;rw [<-h,e1]
 rintro(rfl | rfl)
 ·obtain⟨i,u,v,rc⟩:=(hc x).2 (.inl rfl);exact⟨gW,i,⟨h1.refl _,u⟩,⟨h1.refl _,v⟩,by show rk1 a1+rk2 x=_;omega⟩
 obtain⟨i,u,v,rc⟩:=(hc y).2 (.inr rfl);exact⟨gW,i,⟨h1.refl _,u⟩,⟨h1.refl _,v⟩,by show rk1 a1+rk2 y=_;omega⟩
def qz(m1 m2:Nat)(kind:Int)(c:Int×Int):Prop:=(kind=1/\(c.1=0\/c.2=0))\/(kind=2/\(c.1=(m1:Int) - 1\/c.2=(m2:Int) - 1))
instance (m1 m2:Nat)(kind:Int)(c:Int×Int):Decidable (qz m1 m2 kind c):=by unfold qz;infer_instance
def fe(kind:Int):Int:=if kind=1 then 0 else 1
def dd(rk1 rk2:Int->Int)(kind:Int)(c:Int×Int):Int:=rk1 c.1+rk2 c.2+fe kind
def iC(n1 n2 kind:Int):Int:=if kind=0 then n1+n2+1 else n1+n2
def mG(m1 m2:Nat)(rk1 rk2:Int->Int)(kind:Int)(i:Int)(c:Int×Int):Prop:=(0<=c.1/\c.1<m1)/\(0<=c.2/\c.2<m2)/\dd rk1 rk2 kind c=i/\¬qz m1 m2 kind c
theorem ah8(h1:fK m1 n1 rk1 cV)(h2:fK m2 n2 rk2 cJ)(d1:wN m1 rk1 cV)(d2:wN m2 rk2 cJ){kind:Int}(hk:0<=kind/\kind<=2){i:Int}(hi:0<=i)(ug:i<iC n1 n2 kind)(hn:2<=iC n1 n2 kind)
 (a b:Option (Int×Int)) (ha:match a with | none=>i=0 | some a=>0<i/\mG m1 m2 rk1 rk2 kind (i - 1) a) (hb:match b with | none=>i=iC n1 n2 kind - 1 | some b=>i<iC n1 n2 kind - 1/\mG m1 m2 rk1 rk2 kind (i+1) b)
 (eB:∀x∈a,∀y∈b,cV x.1 y.1/\cJ x.2 y.2) (yX:1<=n1/\(1<=n2\/kind=0)):
 ∃x y:Int×Int,x≠y/\∀c:Int×Int,(mG m1 m2 rk1 rk2 kind i c/\(∀x∈a,cV x.1 c.1/\cJ x.2 c.2)/\∀y∈b,cV c.1 y.1/\cJ c.2 y.2)↔(c=x\/c=y):=by
 have z1:=h1.r0;have z2:=h2.r0;have t1:=h1.rt;have t2:=h2.rt;have w1:=h1.two;have w2:=h2.two;have m1n:=h1.n0;have m2n:=h2.n0;have main:∀a1 a2 b1 b2:Int,0<=a1/\a1<m1->0<=a2/\a2<m2->0<=b1/\b1<m1->0<=b2/\b2<m2->cV a1 b1->cJ a2 b2->dd rk1 rk2 kind (a1,a2)=i - 1->dd rk1 rk2 kind (b1,b2)=i+1->
  (∀c1 c2:Int,0<=c1/\c1<m1->0<=c2/\c2<m2->cV a1 c1->cJ a2 c2->cV c1 b1->cJ c2 b2->dd rk1 rk2 kind (c1,c2)=i->¬qz m1 m2 kind (c1,c2))->
  ∃x y:Int×Int,x≠y/\∀c:Int×Int,(mG m1 m2 rk1 rk2 kind i c/\(cV a1 c.1/\cJ a2 c.2)/\cV c.1 b1/\cJ c.2 b2)↔(c=x\/c=y):=by
  intro a1 a2 b1 b2 gW ie dF eM wo kr ra rb hex;unfold dd at ra rb hex;obtain⟨x,y,jR,hc⟩:=Yu h1 h2 d1 d2 gW ie dF eM wo kr (by simp only at ra rb;omega);refine⟨x,y,jR,fun c=>?_⟩;rw [<-hc c];unfold mG dd;simp only at ra rb;constructor
  ·rintro⟨⟨i1,i2,rc,_⟩,⟨u1,u2⟩,v1,v2⟩;exact⟨i1,i2,⟨u1,u2⟩,⟨v1,v2⟩,by omega⟩
  ·rintro⟨i1,i2,⟨u1,u2⟩,⟨v1,v2⟩,rc⟩;exact⟨⟨i1,i2,by omega,hex c.1 c.2 i1 i2 u1 u2 v1 v2 (by show rk1 c.1+rk2 c.2+fe kind=i;omega)⟩,⟨u1,u2⟩,v1,v2⟩
 have SV:∀c:Int×Int,(∀x∈a,cV x.1 c.1/\cJ x.2 c.2)↔(cV (a.getD (0,0)).1 c.1/\cJ (a.getD (0,0)).2 c.2):=fun c=>by
  cases a with
  | none=>simp [h1.bot,h2.bot]
  | some a=>simp
 have ad6:∀c:Int×Int,(∀y∈b,cV c.1 y.1/\cJ c.2 y.2)↔(cV c.1 (b.getD ((m1:Int) - 1,(m2:Int) - 1)).1/\cJ c.2 (b.getD ((m1:Int) - 1,(m2:Int) - 1)).2):=fun c=>by
  cases b with
  | none=>simp [h1.top,h2.top]
  | some b=>simp
 have SY:cV (a.getD (0,0)).1 (b.getD ((m1:Int) - 1,(m2:Int) - 1)).1/\cJ (a.getD (0,0)).2 (b.getD ((m1:Int) - 1,(m2:Int) - 1)).2:=by
  cases a with
  | none=>exact⟨h1.bot _,h2.bot _⟩
  | some a=>
   cases b with
   | none=>exact⟨h1.top _,h2.top _⟩
   | some b=>exact eB a rfl b rfl
 have H8:(0<=(a.getD (0,0)).1/\(a.getD (0,0)).1<m1)/\(0<=(a.getD (0,0)).2/\(a.getD (0,0)).2<m2):=by
  cases a with
  | none=>simp only [Option.getD_none];omega
  | some a=>exact⟨ha.2.1,ha.2.2.1⟩
 have TD:(0<=(b.getD ((m1:Int) - 1,(m2:Int) - 1)).1/\(b.getD ((m1:Int) - 1,(m2:Int) - 1)).1<m1)/\(0<=(b.getD ((m1:Int) - 1,(m2:Int) - 1)).2/\(b.getD ((m1:Int) - 1,(m2:Int) - 1)).2<m2):=by
  cases b with
  | none=>simp only [Option.getD_none];omega
  | some b=>exact⟨hb.2.1,hb.2.2.1⟩
 have adI:kind=0->fe kind=1:=fun h=>by subst h;rfl
 have adJ:kind=1->fe kind=0:=fun h=>by subst h;rfl
 have adK:kind=2->fe kind=1:=fun h=>by subst h;rfl
 have adC:kind=0->iC n1 n2 kind=n1+n2+1:=fun h=>by subst h;rfl
 have Tm:kind≠0->iC n1 n2 kind=n1+n2:=fun h=>by unfold iC;rw [if_neg h]
 have use:dd rk1 rk2 kind (a.getD (0,0))=i - 1->dd rk1 rk2 kind (b.getD ((m1:Int) - 1,(m2:Int) - 1))=i+1->
  (∀c1 c2:Int,0<=c1/\c1<m1->0<=c2/\c2<m2->cV (a.getD (0,0)).1 c1->cJ (a.getD (0,0)).2 c2->cV c1 (b.getD ((m1:Int) - 1,(m2:Int) - 1)).1->cJ c2 (b.getD ((m1:Int) - 1,(m2:Int) - 1)).2->dd rk1 rk2 kind (c1,c2)=i->¬qz m1 m2 kind (c1,c2))->
  ∃x y:Int×Int,x≠y/\∀c:Int×Int,(mG m1 m2 rk1 rk2 kind i c/\(∀x∈a,cV x.1 c.1/\cJ x.2 c.2)/\∀y∈b,cV c.1 y.1/\cJ c.2 y.2)↔(c=x\/c=y):=by
  intro ra rb hex;obtain⟨x,y,jR,hc⟩:=main _ _ _ _ H8.1 H8.2 TD.1 TD.2 SY.1 SY.2 ra rb hex;refine⟨x,y,jR,fun c=>?_⟩;rw [<-hc c,SV c,ad6 c]
 rcases(show kind=0\/kind=1\/kind=2 by omega)with mR | jG | kq
 ·have s0:=adI mR;have r0:=adC mR;refine use ?_ ?_ ?_
  ·cases a with
   | none=>show rk1 0+rk2 0+fe kind=i - 1;have:i=0:=ha;omega
   | some a=>exact ha.2.2.2.1
  ·cases b with
   | none=>show rk1 ((m1:Int) - 1)+rk2 ((m2:Int) - 1)+fe kind=i+1;have:i=iC n1 n2 kind - 1:=hb;omega
   | some b=>exact hb.2.2.2.1
  ·intro c1 c2 _ _ _ _ _ _ _ he;unfold qz at he;omega
 ·have s1:=adJ jG;have r1:=Tm (show kind≠0 by omega);cases a with
  | some a=>
   have bU:¬qz m1 m2 kind a:=ha.2.2.2.2;refine use ha.2.2.2.1 ?_ ?_
   ·cases b with
    | none=>show rk1 ((m1:Int) - 1)+rk2 ((m2:Int) - 1)+fe kind=i+1;have:i=iC n1 n2 kind - 1:=hb;omega
    | some b=>exact hb.2.2.2.1
   ·intro c1 c2 i1 i2 u1 u2 _ _ _ he;have u1:cV a.1 c1:=u1;have u2:cJ a.2 c2:=u2;unfold qz at he bU;rcases he with⟨_,e | e⟩ | ⟨e,_⟩
    ·have e:c1=0:=e;subst e;have q1:=h1.qt ha.2.1 (by omega) u1;have q2:=h1.gO ha.2.1;have:=h1.zero ha.2.1 (by omega);exact bU (.inl ⟨jG,.inl this⟩)
    ·have e:c2=0:=e;subst e;have q1:=h2.qt ha.2.2.1 (by omega) u2;have q2:=h2.gO ha.2.2.1;have:=h2.zero ha.2.2.1 (by omega);exact bU (.inl ⟨jG,.inr this⟩)
    ·omega
  | none=>
   have eY:i=0:=ha;cases b with
   | none=>have:i=iC n1 n2 kind - 1:=hb;omega
   | some b=>
    obtain⟨_,dF,eM,rb,qS⟩:=hb;unfold dd at rb;have p1:b.1≠0:=fun e=>qS (.inl ⟨jG,.inl e⟩)
    have p2:b.2≠0:=fun e=>qS (.inl ⟨jG,.inr e⟩)
    have Vd:∀c,0<=c/\c< (m1:Int)->c≠0->0<=rk1 c:=fun c hc h0=>by
     have h3:=h1.gO hc;have h4:=h1.zero hc;omega
    have Ve:∀c,0<=c/\c< (m2:Int)->c≠0->0<=rk2 c:=fun c hc h0=>by
     have h3:=h2.gO hc;have h4:=h2.zero hc;omega
    have g1:=Vd b.1 dF p1;have g2:=Ve b.2 eM p2;have eqv:∀c:Int×Int,(mG m1 m2 rk1 rk2 kind i c/\(∀x∈(none:Option (Int×Int)),cV x.1 c.1/\cJ x.2 c.2)/\∀y∈some b,cV c.1 y.1/\cJ c.2 y.2)↔((0<=c.1/\c.1<m1)/\(0<=c.2/\c.2<m2)/\rk1 c.1=0/\rk2 c.2=0/\cV c.1 b.1/\cJ c.2 b.2):=fun c=>by
     constructor
     ·rintro⟨⟨i1,i2,rc,wb⟩,_,hv⟩;have hv:=hv b O;unfold dd at rc;have f1:=Vd c.1 i1 fun e=>wb (.inl ⟨jG,.inl e⟩)
      have f2:=Ve c.2 i2 fun e=>wb (.inl ⟨jG,.inr e⟩)
      exact⟨i1,i2,by omega,by omega,hv.1,hv.2⟩
     ·rintro⟨i1,i2,f1,f2,v1,v2⟩;refine⟨⟨i1,i2,by unfold dd;omega,?_⟩,(fun x hx=>by cases hx),fun y hy=>by cases hy;exact⟨v1,v2⟩⟩;rintro(⟨_,e | e⟩ | ⟨e,_⟩)
      ·rw [e]at f1;omega
      ·rw [e]at f2;omega
      ·omega
    rcases(show(rk1 b.1=1/\rk2 b.2=0)\/(rk1 b.1=0/\rk2 b.2=1) by omega)with⟨e1,e2⟩ | ⟨e1,e2⟩
    ·obtain⟨x,y,jR,hc⟩:=d1 0 b.1 (by omega) dF (h1.bot _) (by omega);refine⟨(x,b.2),(y,b.2),fun e=>jR (aF Prod.fst e),fun c=>?_⟩;rw [eqv c];constructor
     ·rintro⟨i1,i2,f1,f2,v1,v2⟩;have h3:=h2.same i2 eM v2 (by omega);rcases(hc c.1).1 ⟨i1,h1.bot _,v1,by omega⟩with h | h
      ·left;rw [<-h,<-h3]
      ·right;rw [<-h,<-h3]
     ·rintro(rfl | rfl)
      ·obtain⟨i,u,v,rc⟩:=(hc x).2 (.inl rfl);exact⟨i,eM,by show rk1 x=0;omega,e2,v,h2.refl _⟩
      ·obtain⟨i,u,v,rc⟩:=(hc y).2 (.inr rfl);exact⟨i,eM,by show rk1 y=0;omega,e2,v,h2.refl _⟩
    ·obtain⟨x,y,jR,hc⟩:=d2 0 b.2 (by omega) eM (h2.bot _) (by omega);refine⟨(b.1,x),(b.1,y),fun e=>jR (aF Prod.snd e),fun c=>?_⟩;rw [eqv c];constructor
     ·rintro⟨i1,i2,f1,f2,v1,v2⟩;have h3:=h1.same i1 dF v1 (by omega);rcases(hc c.2).1 ⟨i2,h2.bot _,v2,by omega⟩with h | h
      ·left;rw [<-h,<-h3]
      ·right;rw [<-h,<-h3]
     ·rintro(rfl | rfl)
      ·obtain⟨i,u,v,rc⟩:=(hc x).2 (.inl rfl);exact⟨dF,i,e1,by show rk2 x=0;omega,h1.refl _,v⟩
      ·obtain⟨i,u,v,rc⟩:=(hc y).2 (.inr rfl);exact⟨dF,i,e1,by show rk2 y=0;omega,h1.refl _,v⟩
 ·have s2:=adK kq;have r2:=Tm (show kind≠0 by omega);have Ng:∀c,0<=c/\c< (m1:Int)->c≠(m1:Int) - 1->rk1 c<=n1 - 1:=fun c hc h0=>by
   have h3:=h1.gO hc;have h4:=h1.whole hc;omega
  have Nh:∀c,0<=c/\c< (m2:Int)->c≠(m2:Int) - 1->rk2 c<=n2 - 1:=fun c hc h0=>by
   have h3:=h2.gO hc;have h4:=h2.whole hc;omega
  cases b with
  | some b=>
   have bU:¬qz m1 m2 kind b:=hb.2.2.2.2;have g1:=Ng b.1 hb.2.1 fun e=>bU (.inr ⟨kq,.inl e⟩)
   have g2:=Nh b.2 hb.2.2.1 fun e=>bU (.inr ⟨kq,.inr e⟩)
   refine use ?_ hb.2.2.2.1 ?_
   ·cases a with
    | none=>show rk1 0+rk2 0+fe kind=i - 1;have:i=0:=ha;omega
    | some a=>exact ha.2.2.2.1
   ·intro c1 c2 i1 i2 _ _ v1 v2 _ he;have v1:cV c1 b.1:=v1;have v2:cJ c2 b.2:=v2;have q1:=h1.qt i1 hb.2.1 v1;have q2:=h2.qt i2 hb.2.2.1 v2;unfold qz at he;rcases he with⟨e,_⟩ | ⟨_,e | e⟩
    ·omega
    ·have e:c1=(m1:Int) - 1:=e;rw [e]at q1;omega
    ·have e:c2=(m2:Int) - 1:=e;rw [e]at q2;omega
  | none=>
   have H0:i=iC n1 n2 kind - 1:=hb;cases a with
   | none=>have:i=0:=ha;omega
   | some a=>
    obtain⟨_,gW,ie,ra,xk⟩:=ha;unfold dd at ra;have g1:=Ng a.1 gW fun e=>xk (.inr ⟨kq,.inl e⟩)
    have g2:=Nh a.2 ie fun e=>xk (.inr ⟨kq,.inr e⟩)
    have eqv:∀c:Int×Int,(mG m1 m2 rk1 rk2 kind i c/\(∀x∈some a,cV x.1 c.1/\cJ x.2 c.2)/\∀y∈(none:Option (Int×Int)),cV c.1 y.1/\cJ c.2 y.2)↔((0<=c.1/\c.1<m1)/\(0<=c.2/\c.2<m2)/\rk1 c.1=n1 - 1/\rk2 c.2=n2 - 1/\cV a.1 c.1/\cJ a.2 c.2):=fun c=>by
     constructor
     ·rintro⟨⟨i1,i2,rc,wb⟩,hu,_⟩;have hu:=hu a O;unfold dd at rc;have f1:=Ng c.1 i1 fun e=>wb (.inr ⟨kq,.inl e⟩)
      have f2:=Nh c.2 i2 fun e=>wb (.inr ⟨kq,.inr e⟩)
      exact⟨i1,i2,by omega,by omega,hu.1,hu.2⟩
     ·rintro⟨i1,i2,f1,f2,v1,v2⟩;refine⟨⟨i1,i2,by unfold dd;omega,?_⟩,(fun x hx=>by cases hx;exact⟨v1,v2⟩),fun y hy=>by cases hy⟩;rintro(⟨e,_⟩ | ⟨_,e | e⟩)
      ·omega
      ·rw [e]at f1;omega
      ·rw [e]at f2;omega
    rcases(show(rk1 a.1=n1 - 1/\rk2 a.2=n2 - 2)\/(rk1 a.1=n1 - 2/\rk2 a.2=n2 - 1) by omega)with⟨e1,e2⟩ | ⟨e1,e2⟩
    ·obtain⟨x,y,jR,hc⟩:=d2 a.2 ((m2:Int) - 1) ie (by omega) (h2.top _) (by omega);refine⟨(a.1,x),(a.1,y),fun e=>jR (aF Prod.snd e),fun c=>?_⟩;rw [eqv c];constructor
     ·rintro⟨i1,i2,f1,f2,v1,v2⟩;have h3:=h1.same gW i1 v1 (by omega);rcases(hc c.2).1 ⟨i2,v2,h2.top _,by omega⟩with h | h
      ·left;rw [<-h,h3]
      ·right;rw [<-h,h3]
     ·rintro(rfl | rfl)
      ·obtain⟨i,u,v,rc⟩:=(hc x).2 (.inl rfl);exact⟨gW,i,e1,by show rk2 x=n2 - 1;omega,h1.refl _,u⟩
      ·obtain⟨i,u,v,rc⟩:=(hc y).2 (.inr rfl);exact⟨gW,i,e1,by show rk2 y=n2 - 1;omega,h1.refl _,u⟩
    ·obtain⟨x,y,jR,hc⟩:=d1 a.1 ((m1:Int) - 1) gW (by omega) (h1.top _) (by omega);refine⟨(x,a.2),(y,a.2),fun e=>jR (aF Prod.fst e),fun c=>?_⟩;rw [eqv c];constructor
     ·rintro⟨i1,i2,f1,f2,v1,v2⟩;have h3:=h2.same ie i2 v2 (by omega);rcases(hc c.1).1 ⟨i1,v1,h1.top _,by omega⟩with h | h
      ·left;rw [<-h,h3]
      ·right;rw [<-h,h3]
     ·rintro(rfl | rfl)
      ·obtain⟨i,u,v,rc⟩:=(hc x).2 (.inl rfl);exact⟨i,ie,by show rk1 x=n1 - 1;omega,e2,u,h2.refl _⟩
      ·obtain⟨i,u,v,rc⟩:=(hc y).2 (.inr rfl);exact⟨i,ie,by show rk1 y=n1 - 1;omega,e2,u,h2.refl _⟩
end
def gU(n:Int)(R:ai):ai:= -1::(R++ [n])
def eX(N:Nat)(B:ah)(a b:Int):Prop:=a=b\/a=0\/b=(N:Int)+1\/(0<a/\a< (N:Int)+1/\0<b/\b< (N:Int)+1/\a - 1∈gl B (b - 1))
instance (N:Nat)(B:ah)(a b:Int):Decidable (eX N B a b):=by unfold eX;infer_instance
theorem QJ(n:Int)(R:ai):(gU n R).length=R.length+2:=by simp [gU]
theorem yw(n:Int)(R:ai){a:Int}(h0:0<a)(h1:a< (R.length:Int)+1):gi (gU n R) a=gi R (a - 1):=by
 obtain⟨k,rfl⟩:∃k:Nat,a=((k+1:Nat):Int):=⟨(a - 1).toNat,by omega⟩;rw [gU,CK,show((k+1:Nat):Int) - 1=(k:Int) by omega];simp only [gi,jc,da];rw [lz (by omega)]
theorem Eh(n:Int)(R:ai):gi (gU n R) ((R.length:Int)+1)=n:=by
 rw [show((R.length:Int)+1)=((R.length+1:Nat):Int) by omega,gU,CK];simp [gi,da]
theorem Fz{n:Int}{R:ai}{B:ah}(h:gr n R B):fK (R.length+2) n (gi (gU n R)) (eX R.length B):=by
 have hn:=h.n1;have ht:=Eh n R;have et:((R.length+2:Nat):Int) - 1=(R.length:Int)+1:=by omega
 have pA:∀a:Int,0<a->a< (R.length:Int)+1->0<=gi (gU n R) a/\gi (gU n R) a<=n - 1:=fun a h0 h1=>by
  rw [yw n R h0 h1];exact h.ri (by omega) (by omega)
 have h0:gi (gU n R) 0= -1:=O;refine⟨by omega,h0,by rw [et];exact ht,fun a ha hb=>pA a ha (by omega),fun a=> .inl O,fun a b c ha hb hc eB EM=>?_,fun a b ha hb eB bU=>?_,fun b=> .inr (.inl O),fun a=> .inr (.inr (.inl et)),by omega⟩
 ·rcases eB with rfl | e | e | ⟨a0,a1,b0,b1,hm⟩
  ·exact EM
  ·exact .inr (.inl e)
  ·rcases EM with rfl | e2 | e2 | ⟨b0,b1,_⟩
   ·exact .inr (.inr (.inl e))
   ·omega
   ·exact .inr (.inr (.inl e2))
   omega
  rcases EM with rfl | e2 | e2 | ⟨_,_,c0,c1,tt⟩
  ·exact .inr (.inr (.inr ⟨a0,a1,b0,b1,hm⟩))
  ·omega
  ·exact .inr (.inr (.inl e2))
  exact .inr (.inr (.inr ⟨a0,a1,c0,c1,(h.at_ (e:=c - 1) (by omega) (by omega)).2.2 _ tt _ hm⟩))
 rcases eB with e | e | e | ⟨a0,a1,b0,b1,hm⟩
 ·exact absurd e bU
 ·subst e;rw [h0]
  by_cases e2:b=(R.length:Int)+1
  ·subst e2;omega
  have:=pA b (by omega) (by omega);omega
 ·subst e;rw [ht]
  by_cases e2:a=0
  ·subst e2;omega
  have:=pA a (by omega) (by omega);omega
 rw [yw n R a0 a1,yw n R b0 b1];exact((h.at_ (e:=b - 1) (by omega) (by omega)).2.1 _ hm).2
def yi(R:ai)(i e:Int):Prop:=(e= -1/\i=0)\/((0<=e/\e<R.length)/\0<i/\gi R e=i - 1)
def yh(n:Int)(R:ai)(i f:Int):Prop:=(f= -1/\i=n - 1)\/((0<=f/\f<R.length)/\i<n - 1/\gi R f=i+1)
def nh(R:ai)(B:ah)(i e f:Int):ai:=(bS R.length).filter fun d=>decide (gi R d=i/\(e<0\/e∈gl B d)/\(f<0\/d∈gl B f))
def uN(n:Int)(R:ai)(B:ah):Prop:=∀i e f:Int,0<=i->i<n->yi R i e->yh n R i f->(0<=e->0<=f->e∈gl B f)->(nh R B i e f).length=2
theorem zM{R:ai}{B:ah}{i e f d:Int}:d∈nh R B i e f↔(0<=d/\d<R.length)/\gi R d=i/\(e<0\/e∈gl B d)/\(f<0\/d∈gl B f):=by
 unfold nh;rw [gg,jU,lg]
theorem Wm{l:ai}(hn:l.Nodup)(h:l.length=2):∃x y,x≠y/\∀c,c∈l↔(c=x\/c=y):=by
 match l,h with
 | [x,y],_=>exact⟨x,y,by simpa using hn,fun c=>by simp⟩
theorem D0(R:ai)(B:ah)(i e f:Int):(nh R B i e f).Nodup:=((mf _).nodup).filter _
theorem GU{n:Int}{R:ai}{B:ah}(h:gr n R B)(hd:uN n R B):wN (R.length+2) (gi (gU n R)) (eX R.length B):=by
 have L:=Fz h;have ht:=Eh n R;have h0:gi (gU n R) 0= -1:=O;have pA:∀a:Int,0<a->a< (R.length:Int)+1->(0<=gi (gU n R) a/\gi (gU n R) a<=n - 1)/\gi (gU n R) a=gi R (a - 1):=fun a h0 h1=>by
  have e:=yw n R h0 h1;refine⟨?_,e⟩;rw [e];exact h.ri (by omega) (by omega)
 intro a b ha hb hu hr;have ra:=L.gO ha;have rb:=L.gO hb;have hn:=h.n1;have EL:a≠(R.length:Int)+1:=fun e=>by rw [e,ht]at hr;omega
 have fQ:b≠0:=fun e=>by rw [e,h0]at hr;omega
 have eZ:yi R (gi (gU n R) a+1) (a - 1):=by
  by_cases e:a=0
  ·subst e;exact .inl ⟨rfl,by rw [h0];rfl⟩
  have:=pA a (by omega) (by omega);exact .inr ⟨by omega,by omega,by omega⟩
 have dt:yh n R (gi (gU n R) a+1) (if b=(R.length:Int)+1 then -1 else b - 1):=by
  by_cases e:b=(R.length:Int)+1
  ·rw [aB e];rw [e,ht]at hr;exact .inl ⟨rfl,by omega⟩
  rw [az e];have:=pA b (by omega) (by omega);exact .inr ⟨by omega,by omega,by omega⟩
 have eB:0<=a - 1->0<=(if b=(R.length:Int)+1 then -1 else b - 1)->a - 1∈gl B (if b=(R.length:Int)+1 then -1 else b - 1):=fun h1 h2=>by
  by_cases e:b=(R.length:Int)+1
  ·rw [aB e]at h2;omega
  rw [az e];rcases hu with e2 | e2 | e2 | ⟨_,_,_,_,hm⟩
  ·rw [e2]at hr;omega
  ·omega
  ·exact absurd e2 e
  exact hm
 have h2:=hd _ _ _ (by omega) (by omega) eZ dt eB;obtain⟨x,y,jR,hc⟩:=Wm (D0 _ _ _ _ _) h2;refine⟨x+1,y+1,by omega,fun c=>?_⟩;have e1:(c=x+1\/c=y+1)↔(c - 1=x\/c - 1=y):=by omega
 rw [e1,<-hc (c - 1),zM];constructor
 ·rintro⟨LK,u1,u2,rc⟩;have c0:c≠0:=fun e=>by rw [e,h0]at rc;omega
  have ct:c≠(R.length:Int)+1:=fun e=>by rw [e,ht]at rc;omega
  have hm:=pA c (by omega) (by omega);refine⟨by omega,by omega,?_,?_⟩
  ·rcases u1 with e | e | e | ⟨_,_,_,_,h9⟩
   ·rw [e]at rc;omega
   ·left;omega
   ·exact absurd e ct
   exact .inr h9
  by_cases e:b=(R.length:Int)+1
  ·left;rw [aB e];omega
  rw [az e];rcases u2 with e2 | e2 | e2 | ⟨_,_,_,_,h9⟩
  ·rw [e2]at rc;omega
  ·exact absurd e2 c0
  ·exact absurd e2 e
  exact .inr h9
 rintro⟨LK,rc,u1,u2⟩;have hm:=pA c (by omega) (by omega);refine⟨by omega,?_,?_,by omega⟩
 ·rcases u1 with e | e
  ·exact .inr (.inl (by omega))
  have:0<a:=by
   refine Int.not_le.1 fun hle=>?_
   have:=((h.at_ (e:=c - 1) (by omega) (by omega)).2.1 _ e).1.1;omega
  exact .inr (.inr (.inr ⟨this,by omega,by omega,by omega,e⟩))
 by_cases e:b=(R.length:Int)+1
 ·exact .inr (.inr (.inl e))
 rw [az e]at u2;rcases u2 with e2 | e2
 ·omega
 exact .inr (.inr (.inr ⟨by omega,by omega,by omega,by omega,e2⟩))
section
variable (m1 m2:Nat) (rk1 rk2:Int->Int) (kind:Int)
def Bv(i:Int):List (Int×Int):=(bS m1).flatMap fun a=> ((bS m2).filter fun b=>decide (dd rk1 rk2 kind (a,b)=i/\¬qz m1 m2 kind (a,b))).map fun b=> (a,b)
def ck:Nat->List (Int×Int)
 | 0=> []
 | k+1=>ck k++Bv m1 m2 rk1 rk2 kind (k:Int)
end
section
variable {m1 m2:Nat} {rk1 rk2:Int->Int} {kind:Int}
theorem zv{i:Int}{c:Int×Int}:c∈Bv m1 m2 rk1 rk2 kind i↔mG m1 m2 rk1 rk2 kind i c:=by
 unfold Bv mG;rw [List.mem_flatMap];constructor
 ·rintro⟨a,ha,h⟩;obtain⟨b,hb,rfl⟩:=dA.1 h;rw [gg,jU,lg]at hb;exact⟨(jU _ _).1 ha,hb.1,hb.2⟩
 rintro⟨h1,h2,h3⟩;exact⟨c.1,(jU _ _).2 h1,dA.2 ⟨c.2,gg.2 ⟨(jU _ _).2 h2,dM h3⟩,O⟩⟩
theorem ah2(i:Int):(Bv m1 m2 rk1 rk2 kind i).Nodup:=by
 unfold Bv;refine List.pairwise_flatMap.2 ⟨fun a _=>pd.2 (((mf m2).nodup.filter _).imp fun h e=>h (aF Prod.snd e)),(mf m1).nodup.imp fun h x hx y hy e=>h ?_⟩;obtain⟨u,_,rfl⟩:=dA.1 hx;obtain⟨v,_,rfl⟩:=dA.1 hy;exact aF Prod.fst e
theorem tF{k:Nat}{c:Int×Int}:c∈ck m1 m2 rk1 rk2 kind k↔∃i:Nat,i<k/\mG m1 m2 rk1 rk2 kind i c:=by
 induction k with
 | zero=>simp [ck]
 | succ k ih=>
  rw [ck,kj,ih,zv];constructor
  ·rintro(⟨i,hi,h⟩ | h)
   ·exact⟨i,by omega,h⟩
   ·exact⟨k,by omega,h⟩
  ·rintro⟨i,hi,h⟩
   by_cases e:i=k
   ·subst e;exact .inr h
   ·exact .inl ⟨i,by omega,h⟩
theorem FO(k:Nat):(ck m1 m2 rk1 rk2 kind k).Nodup:=by
 induction k with
 | zero=>exact List.nodup_nil
 | succ k ih=>
  rw [ck,List.nodup_append];refine⟨ih,ah2 _,fun a ha b hb e=>?_⟩;subst e;obtain⟨i,hi,h⟩:=tF.1 ha;have h2:=zv.1 hb;have:=h.2.2.1.symm.trans h2.2.2.1;omega
theorem Vi(k:Nat):sS ((ck m1 m2 rk1 rk2 kind k).map (dd rk1 rk2 kind)):=by
 induction k with
 | zero=>exact List.Pairwise.nil
 | succ k ih=>
  rw [ck,iD,sS,List.pairwise_append];refine⟨ih,pd.2 (List.pairwise_of_forall_mem_list fun a ha b hb=>?_),fun x hx y hy=>?_⟩
  ·rw [(zv.1 ha).2.2.1,(zv.1 hb).2.2.1];exact Int.le_refl _
  ·obtain⟨a,ha,rfl⟩:=dA.1 hx;obtain⟨b,hb,rfl⟩:=dA.1 hy;obtain⟨i,hi,h⟩:=tF.1 ha;rw [h.2.2.1,(zv.1 hb).2.2.1];omega
end
def gp(L:List (Int×Int))(i:Int):Int×Int:=L.getD i.toNat (0,0)
theorem ub{L:List (Int×Int)}{k:Nat}(h:k<L.length):gp L k=L[k]:=by simp [gp,da,h]
def tE(cV cJ:Int->Int->Prop)[DecidableRel cV][DecidableRel cJ](L:List (Int×Int))(e:Int):ai:=(bS L.length).filter fun f=>decide (f<e/\cV (gp L f).1 (gp L e).1/\cJ (gp L f).2 (gp L e).2)
def pG(cV cJ:Int->Int->Prop)[DecidableRel cV][DecidableRel cJ](L:List (Int×Int)):ah:=(bS L.length).map (tE cV cJ L)
section
variable{d:Int}{k i:Nat}
variable {m1 m2:Nat} {n1 n2:Int} {rk1 rk2:Int->Int} {cV cJ:Int->Int->Prop} [DecidableRel cV] [DecidableRel cJ] {kind:Int}
theorem wE{L:List (Int×Int)}{e:Int}(h0:0<=e)(h1:e<L.length):gl (pG cV cJ L) e=tE cV cJ L e:=by
 obtain⟨k,rfl⟩:∃k:Nat,e=k:=⟨e.toNat,by omega⟩;rw [b7 (by simp [pG,bS];omega)];unfold pG;rw [List.getElem_map]
 congr 1
 simp [bS]
theorem Bw{L:List (Int×Int)}{e:Int}(h0:0<=e)(h1:e<L.length):gi (L.map (dd rk1 rk2 kind)) e=dd rk1 rk2 kind (gp L e):=by
 obtain⟨k,rfl⟩:∃k:Nat,e=k:=⟨e.toNat,by omega⟩;rw [b9 (by simp;omega),ub (by omega)];simp
theorem vz(h1:fK m1 n1 rk1 cV)(h2:fK m2 n2 rk2 cJ){e:Int}(he:0<=e/\e< (ck m1 m2 rk1 rk2 kind k).length):d∈tE cV cJ (ck m1 m2 rk1 rk2 kind k) e↔(0<=d/\d< (ck m1 m2 rk1 rk2 kind k).length)/\d≠e/\cV (gp (ck m1 m2 rk1 rk2 kind k) d).1 (gp (ck m1 m2 rk1 rk2 kind k) e).1/\cJ (gp (ck m1 m2 rk1 rk2 kind k) d).2 (gp (ck m1 m2 rk1 rk2 kind k) e).2:=by
 unfold tE;rw [gg,jU,lg];constructor
 ·rintro⟨hd,fW,hu⟩;exact⟨hd,by omega,hu⟩
 rintro⟨hd,bU,hu⟩;refine⟨hd,?_,hu⟩;obtain⟨i,rfl⟩:∃i:Nat,d=i:=⟨d.toNat,by omega⟩;obtain⟨j,rfl⟩:∃j:Nat,e=j:=⟨e.toNat,by omega⟩;refine Int.not_le.1 fun hle=>?_
 have ha:=Vi (m1:=m1) (m2:=m2) (rk1:=rk1) (rk2:=rk2) (kind:=kind) k;have h3:=ha.le (i:=j) (j:=i) (by omega) (by simp;omega);rw [Bw (by omega) he.2,Bw (by omega) hd.2]at h3;have mi:=ub (L:=ck m1 m2 rk1 rk2 kind k) (k:=i) (by omega);have mj:=ub (L:=ck m1 m2 rk1 rk2 kind k) (k:=j) (by omega);obtain⟨a,_,ea⟩:=tF.1 (mi▸dQ _:gp (ck m1 m2 rk1 rk2 kind k) i∈ck m1 m2 rk1 rk2 kind k);obtain⟨b,_,eb⟩:=tF.1 (mj▸dQ _:gp (ck m1 m2 rk1 rk2 kind k) j∈ck m1 m2 rk1 rk2 kind k);have q1:=h1.qt ea.1 eb.1 hu.1;have q2:=h2.qt ea.2.1 eb.2.1 hu.2;unfold dd at h3;have e1:=h1.same ea.1 eb.1 hu.1 (by omega);have e2:=h2.same ea.2.1 eb.2.1 hu.2 (by omega);have e3:gp (ck m1 m2 rk1 rk2 kind k) i=gp (ck m1 m2 rk1 rk2 kind k) j:=Prod.ext e1 e2;rw [mi,mj]at e3;have:=(List.getElem_inj (FO k)).1 e3;omega
theorem vY{e:Int}(he:0<=e/\e< (ck m1 m2 rk1 rk2 kind k).length):∃i:Nat,i<k/\mG m1 m2 rk1 rk2 kind i (gp (ck m1 m2 rk1 rk2 kind k) e)/\gi ((ck m1 m2 rk1 rk2 kind k).map (dd rk1 rk2 kind)) e=i:=by
 obtain⟨j,rfl⟩:∃j:Nat,e=j:=⟨e.toNat,by omega⟩;have mj:=ub (L:=ck m1 m2 rk1 rk2 kind k) (k:=j) (by omega);obtain⟨i,hi,h⟩:=tF.1 (mj▸dQ _:gp (ck m1 m2 rk1 rk2 kind k) j∈ck m1 m2 rk1 rk2 kind k);exact⟨i,hi,h,by rw [Bw (by omega) (by omega)];exact h.2.2.1⟩
theorem Ks{c:Int×Int}(hi:i<k)(h:mG m1 m2 rk1 rk2 kind i c):∃e:Int,(0<=e/\e< (ck m1 m2 rk1 rk2 kind k).length)/\gp (ck m1 m2 rk1 rk2 kind k) e=c:=by
 obtain⟨j,hj,e⟩:=gF.1 (tF.2 ⟨i,hi,h⟩);exact⟨j,by omega,by rw [ub hj];exact e⟩
theorem Hh{e:Int}(hd:0<=d/\d< (ck m1 m2 rk1 rk2 kind k).length)(he:0<=e/\e< (ck m1 m2 rk1 rk2 kind k).length)(h:gp (ck m1 m2 rk1 rk2 kind k) d=gp (ck m1 m2 rk1 rk2 kind k) e):d=e:=by
 obtain⟨i,rfl⟩:∃i:Nat,d=i:=⟨d.toNat,by omega⟩;obtain⟨j,rfl⟩:∃j:Nat,e=j:=⟨e.toNat,by omega⟩;rw [ub (by omega),ub (by omega)]at h;have:=(List.getElem_inj (FO k)).1 h;omega
theorem ah6(h1:fK m1 n1 rk1 cV)(h2:fK m2 n2 rk2 cJ)(hk:1<=k/\k<=5)(hb:(ck m1 m2 rk1 rk2 kind k).length<=500):gr k ((ck m1 m2 rk1 rk2 kind k).map (dd rk1 rk2 kind)) (pG cV cJ (ck m1 m2 rk1 rk2 kind k)):=by
 have hl:((ck m1 m2 rk1 rk2 kind k).map (dd rk1 rk2 kind)).length=(ck m1 m2 rk1 rk2 kind k).length:=by simp
 refine⟨by omega,by rw [hl];exact hb,by simp [pG,bS],fun x hx=>?_,Vi k,fun e he=>?_,fun e he d hd c hc=>?_⟩
 ·obtain⟨c,hc,rfl⟩:=dA.1 hx;obtain⟨i,hi,h⟩:=tF.1 hc;rw [h.2.2.1];omega
 ·rw [hl]at he;rw [wE (by omega) (by omega)];refine⟨pc _ (mf _),fun d hd=>?_⟩;have hm:=(vz h1 h2 (by omega)).1 hd;refine⟨by rw [hl];exact hm.1,?_⟩;have fW:d< (e:Int):=by
   unfold tE at hd;rw [gg,lg]at hd;exact hd.2.1
  obtain⟨i,_,ei,ri⟩:=vY (m1:=m1) (m2:=m2) (rk1:=rk1) (rk2:=rk2) (kind:=kind) (k:=k) (e:=d) hm.1;obtain⟨j,_,ej,rj⟩:=vY (m1:=m1) (m2:=m2) (rk1:=rk1) (rk2:=rk2) (kind:=kind) (k:=k) (e:=(e:Int)) (by omega);rw [Bw hm.1.1 hm.1.2,Bw (by omega) (by omega)];have q1:=h1.qt ei.1 ej.1 hm.2.2.1;have q2:=h2.qt ei.2.1 ej.2.1 hm.2.2.2;unfold dd;refine Int.not_le.1 fun hle=>hm.2.1 (Hh hm.1 (by omega) (Prod.ext (h1.same ei.1 ej.1 hm.2.2.1 (by omega)) (h2.same ei.2.1 ej.2.1 hm.2.2.2 (by omega))))
 rw [hl]at he;rw [wE (by omega) (by omega)]at hd|-;have qa:=(vz h1 h2 (by omega)).1 hd;rw [wE qa.1.1 qa.1.2]at hc;have pq:=(vz h1 h2 qa.1).1 hc;have l1:d< (e:Int):=by unfold tE at hd;rw [List.mem_filter,decide_eq_true_eq]at hd;exact hd.2.1
 have l2:c<d:=by unfold tE at hc;rw [List.mem_filter,decide_eq_true_eq]at hc;exact hc.2.1
 obtain⟨_,_,ec,_⟩:=vY (m1:=m1) (m2:=m2) (rk1:=rk1) (rk2:=rk2) (kind:=kind) (k:=k) (e:=c) pq.1;obtain⟨_,_,ed,_⟩:=vY (m1:=m1) (m2:=m2) (rk1:=rk1) (rk2:=rk2) (kind:=kind) (k:=k) (e:=d) qa.1;obtain⟨_,_,ee,_⟩:=vY (m1:=m1) (m2:=m2) (rk1:=rk1) (rk2:=rk2) (kind:=kind) (k:=k) (e:=(e:Int)) (by omega);exact(vz h1 h2 (by omega)).2 ⟨pq.1,by omega,h1.trans _ _ _ ec.1 ed.1 ee.1 pq.2.2.1 qa.2.2.1,h2.trans _ _ _ ec.2.1 ed.2.1 ee.2.1 pq.2.2.2 qa.2.2.2⟩
theorem Vm(h1:fK m1 n1 rk1 cV)(h2:fK m2 n2 rk2 cJ)(d1:wN m1 rk1 cV)(d2:wN m2 rk2 cJ)(oj:0<=kind/\kind<=2)(hk:(k:Int)=iC n1 n2 kind)(kq:2<=k)(yX:1<=n1/\(1<=n2\/kind=0)):uN k ((ck m1 m2 rk1 rk2 kind k).map (dd rk1 rk2 kind)) (pG cV cJ (ck m1 m2 rk1 rk2 kind k)):=by
 have hl:((ck m1 m2 rk1 rk2 kind k).map (dd rk1 rk2 kind)).length=(ck m1 m2 rk1 rk2 kind k).length:=by simp
 intro i e f eY mm he hf LP;have LQ:∀x:Int,0<=x/\x< (ck m1 m2 rk1 rk2 kind k).length->mG m1 m2 rk1 rk2 kind (gi ((ck m1 m2 rk1 rk2 kind k).map (dd rk1 rk2 kind)) x) (gp (ck m1 m2 rk1 rk2 kind k) x):=fun x hx=>by
  obtain⟨j,_,h,r⟩:=vY hx;rw [r];exact h
 generalize hL:ck m1 m2 rk1 rk2 kind k=L at*;obtain⟨x,y,jR,hc⟩:=ah8 h1 h2 d1 d2 oj (i:=i) eY (by omega) (by omega) (if e<0 then none else some (gp L e)) (if f<0 then none else some (gp L f)) (by
  rcases he with⟨h,h'⟩ | ⟨h,h',xf⟩
  ·rw [aB (by omega)];exact h'
  rw [hl]at h;rw [az (by omega)];exact⟨h',by rw [<-xf];exact LQ e h⟩)
  (by
    rcases hf with⟨h,h'⟩ | ⟨h,h',xf⟩
    ·rw [aB (by omega)];show i=iC n1 n2 kind - 1;omega
    rw [hl]at h;rw [az (by omega)];exact⟨by omega,by rw [<-xf];exact LQ f h⟩)
  (by
    intro a ha b hb
    by_cases e0:e<0
    ·rw [aB e0]at ha;cases ha
    by_cases f0:f<0
    ·rw [aB f0]at hb;cases hb
    rw [az e0]at ha;rw [az f0]at hb;cases ha;cases hb;have oQ:0<=f/\f<L.length:=by
     rcases hf with⟨h,_⟩ | ⟨h,_⟩
     ·omega
     rw [hl]at h;exact h
    have h9:=LP (by omega) (by omega);rw [wE oQ.1 oQ.2]at h9;subst hL;exact((vz h1 h2 oQ).1 h9).2.2)
  yX
 have SH:∀c,mG m1 m2 rk1 rk2 kind i c->∃d:Int,(0<=d/\d<L.length)/\gp L d=c:=fun c hcE=>by
  subst hL;exact Ks (i:=i.toNat) (by omega) (by rw [Int.toNat_of_nonneg eY];exact hcE)
 have kL:∀d:Int,d∈nh (L.map (dd rk1 rk2 kind)) (pG cV cJ L) i e f↔(0<=d/\d<L.length)/\(gp L d=x\/gp L d=y):=fun d=>by
  rw [zM,hl];constructor
  ·rintro⟨hd,rd,u,v⟩;refine⟨hd,(hc _).1 ⟨by rw [<-rd];exact LQ d hd,fun a ha=>?_,fun b hb=>?_⟩⟩
   ·by_cases e0:e<0
    ·rw [aB e0]at ha;cases ha
    rw [az e0]at ha;cases ha;have h9:=u.resolve_left e0;rw [wE hd.1 hd.2]at h9;subst hL;exact((vz h1 h2 hd).1 h9).2.2
   by_cases f0:f<0
   ·rw [aB f0]at hb;cases hb
   rw [az f0]at hb;cases hb;have oQ:0<=f/\f<L.length:=by
    rcases hf with⟨h,_⟩ | ⟨h,_⟩
    ·omega
    rw [hl]at h;exact h
   have h9:=v.resolve_left f0;rw [wE oQ.1 oQ.2]at h9;subst hL;exact((vz h1 h2 oQ).1 h9).2.2
  rintro⟨hd,aef⟩;obtain⟨hE,ha,hb⟩:=(hc _).2 aef;have rd:gi (L.map (dd rk1 rk2 kind)) d=i:=by rw [Bw hd.1 hd.2];exact hE.2.2.1
  refine⟨hd,rd,?_,?_⟩
  ·by_cases e0:e<0
   ·exact .inl e0
   right;have h9:=ha (gp L e) (by rw [az e0];rfl);have LR:(0<=e/\e<L.length)/\gi (L.map (dd rk1 rk2 kind)) e=i - 1:=by
    rcases he with⟨h,_⟩ | ⟨h,_,xf⟩
    ·omega
    rw [hl]at h;exact⟨h,xf⟩
   rw [wE hd.1 hd.2];subst hL;exact(vz h1 h2 hd).2 ⟨LR.1,fun h=>by rw [h,rd]at LR;omega,h9⟩
  by_cases f0:f<0
  ·exact .inl f0
  right;have h9:=hb (gp L f) (by rw [az f0];rfl);have oQ:(0<=f/\f<L.length)/\gi (L.map (dd rk1 rk2 kind)) f=i+1:=by
   rcases hf with⟨h,_⟩ | ⟨h,_,xf⟩
   ·omega
   rw [hl]at h;exact⟨h,xf⟩
  rw [wE oQ.1.1 oQ.1.2];subst hL;exact(vz h1 h2 oQ.1).2 ⟨hd,fun h=>by rw [<-h,rd]at oQ;omega,h9⟩
 obtain⟨dx,Si,ex⟩:=SH x ((hc x).2 (.inl rfl)).1;obtain⟨dy,Sj,ey⟩:=SH y ((hc y).2 (.inr rfl)).1;have bU:dx≠dy:=fun h=>jR (by rw [<-ex,<-ey,h])
 have hp:(nh (L.map (dd rk1 rk2 kind)) (pG cV cJ L) i e f).Perm [dx,dy]:=by
  refine(vJ (D0 _ _ _ _ _) (by simpa using bU)).2 fun d=>?_
  rw [kL d];simp only [iP,List.not_mem_nil,or_false];constructor
  ·rintro⟨hd,h | h⟩
   ·left;subst hL;exact Hh hd Si (h.trans ex.symm)
   right;subst hL;exact Hh hd Sj (h.trans ey.symm)
  rintro(rfl | rfl)
  ·exact⟨Si,.inl ex⟩
  exact⟨Sj,.inr ey⟩
 rw [hp.length_eq];rfl
end
end Go.Proofs.YtkccgdhcpplblaaGreatDoor.Vc
namespace Go.Proofs.YtkccgdhcpplblaaGreatDoor.Vc
open Go.RowKit Tryz
structure CV where
 s:aO
 v:Int
section
variable {w0 w:aa} {ks:List Ck} {i:Nat} {t:ae} {A:aj} {k q:Nat} {cs:List CV}
theorem St.Pn(h:St w0 w ks)(cs:List ad)(e:ae)(n c:Nat)(hn:n<=c)(hc:c<=cs.length)(hm:c<=maxLen)(hM:eK cs=false):St w0 (w.alloc (.cells cs.toArray e)) (⟨some ⟨w.heap.size,0,Option.none⟩,n,c,e,cs.take n⟩::ks):=by
 have hb:Below w.heap.size w (w.alloc (.cells cs.toArray e)):=(Below.refl _ _).alloc (bs _) _;have h1:=h.aq hb;refine⟨h1.below,fun k hk=>?_,?_⟩
 ·rcases iP.1 hk with rfl | hk
  ·refine .qo (TU n hM) ⟨by simp;omega,hn,hm,.inr ⟨_,0,cs.toArray,O,h.below.size,heap_alloc_new w _,by simp;omega,fun j hj=>?_⟩⟩;have hj:j<n:=hj;simp [rK,hj]
  exact h1.own k hk
 simp only [List.filterMap_cons,Ck.gS,Option.map_some,lU];refine⟨fun du=>?_,h.apart⟩;obtain⟨k',eQ,pz⟩:=List.mem_filterMap.1 du;have:=((h.own k' eQ).lt pz).2;omega
theorem NO{α:Type}:∀(l:List α) (i:Nat) (x y:α),l[i]?=some y->(x::l).Perm (y::l.set i x)
 | [],i,x,y,h=>by simp at h
 | u::l,0,x,y,h=>by simp at h;subst h;exact List.Perm.swap _ _ _
 | u::l,i+1,x,y,h=>by
  simp only [List.getElem?_cons_succ]at h;simp only [List.set_cons_succ];exact(List.Perm.swap _ _ _).trans (((NO l i x y h).cons u).trans (List.Perm.swap _ _ _))
theorem Wu{z z0 z1:ad}(hz:z.cells= #[z0,z1])(m:Nat):(Builtin.zeroCells z.cells m).toList.length=2*m:=by
 rw [hz];simp [Builtin.zeroCells];omega
end
section
variable {P:Program} {N:Nat} {ops:Array Oper} {K:Env->aa->Prop} {rest:List Oper} {e:Env} {w0 w w':aa} {ks:List Ck} {d:Nat} {ty:ae} {pos:String} {af:Array Edge}
end
structure TV where
 f:Int
 g:Int
 r:Int
def TV.cs(x:TV):List ad:=[ak x.f,ak x.g,ak x.r]
def TV.v(x:TV):ad:= .agg #[ak x.f,ak x.g,ak x.r]
def Oo:TV:=⟨0,0,0⟩
def tg(l:List TV)(i:Int):TV:=l.getD i.toNat Oo
def fD:List TV->List ad
 | []=> []
 | x::r=> .int .i64 x.f:: .int .i64 x.g:: .int .i64 x.r::fD r
theorem Em:∀l:List TV,(fD l).length=3*l.length
 | []=>rfl
 | x::r=>by
  simp only [fD,List.length_cons];rw [Em r];omega
theorem KA:∀a b:List TV,fD (a++b)=fD a++fD b
 | [],_=>rfl
 | x::r,b=>by
  simp only [List.cons_append,fD];rw [KA r b]
theorem QU:∀ {l:List TV} {i:Nat} (h:i<l.length),(fD l)[3*i]?=some (ak l[i].f)/\(fD l)[3*i+1]?=some (ak l[i].g)/\(fD l)[3*i+2]?=some (ak l[i].r)
 | x::r,0,_=> ⟨rfl,rfl,rfl⟩
 | x::r,i+1,h=>by
  have:=QU (l:=r) (i:=i) (by simpa using h);simp only [fD,List.getElem_cons_succ];rw [show 3* (i+1)=3*i+1+1+1 by omega];simpa using this
theorem QW:∀(l:List TV) (i:Nat),(fD l).take (3*i)=fD (l.take i)
 | [],i=>by simp [fD]
 | x::r,0=>rfl
 | x::r,i+1=>by
  rw [show 3* (i+1)=3*i+1+1+1 by omega];simp only [fD,List.take_succ_cons];rw [QW r i]
theorem QV:∀ {l:List TV} {i:Nat} (_:i<l.length) (v:TV),sN (fD l) (3*i) v.cs=fD (l.set i v)
 | x::r,0,_,v=>rfl
 | x::r,i+1,h,v=>by
  have:=QV (l:=r) (i:=i) (by simpa using h) v;have e:∀(a b c:ad) (t:List ad) (o:Nat) (vs:List ad),sN (a::b::c::t) (o+3) vs=a::b::c::sN t o vs:=by
   intro a b c t o vs
   induction vs generalizing t o with
   | nil=>rfl
   | cons v vs ih=>
    rw [sN,sN];rw [show(a::b::c::t).set (o+3) v=a::b::c::t.set o v from rfl,show o+3+1=(o+1)+3 by omega,ih]
  rw [show 3* (i+1)=3*i+3 by omega,fD,e,this]
  rfl
theorem Dn(l:List TV):eK (fD l)=false:=by cases l<;>rfl
def eu(t:ae)(A:aj)(k q:Nat)(cs:List TV):Ck:=⟨A,3*k,min (3*q) maxLen,t,fD cs⟩
def rS(w:aa)(A:aj)(k:Nat)(cs:List TV):Prop:=cs.length=k/\Rd w A (3*k) (fun j=> (fD cs).getD j undef)
theorem rS.aq{w w':aa}{A:aj}{k:Nat}{cs:List TV}(h:rS w A k cs)(hb:Below w.heap.size w w'):rS w' A k cs:=⟨h.1,Rd.below h.2 hb⟩
section
variable {w0 w:aa} {ks:List Ck} {i:Nat} {t:ae} {A:aj} {k q:Nat} {cs:List TV}
theorem St.jT(h:St w0 w ks)(i:Nat)(hk:ks[i]?=some (eu t A k q cs)):rS w A k cs:=by
 have h1:(fD cs).length=3*k:=(h.pU hk (Dn _)).1;rw [Em]at h1;exact⟨by omega,h.rd i hk⟩
theorem St.PZ(h:St w0 w ks)(i:Nat)(hk:ks[i]?=some (eu t A k q cs)):k<=q/\3*k<=maxLen:=by
 have h1:3*k<=min (3*q) maxLen:=(h.get hk).cap.1;omega
theorem rS.take{l:Nat}(h:rS w A k cs)(hl:l<=k):rS w A l (cs.take l):=by
 have h1:=h.1;refine⟨by rw [na];omega,fun j hj=>?_⟩;obtain⟨p,hp,hc⟩:=h.2 j (by omega);refine⟨p,hp,?_⟩;rw [hc,<-QW];simp [da,rK,hj]
theorem rS.at_(h:rS w A k cs){j:Nat}(hj:j<k):Rd w (ay A (j*3)) 3 (fun m=> ((cs[j]'(by rw [h.1];exact hj)).cs).getD m undef):=by
 have hl:j<cs.length:=by rw [h.1];exact hj
 have:=(h.2.behind (o:=j*3) (m:=3) (by omega));refine this.congr fun m hm=>?_
 have hg:=QU hl;rcases(show m=0\/m=1\/m=2 by omega)with rfl | rfl | rfl
 ·rw [show j*3+0=3*j by omega,da,hg.1];rfl
 ·rw [show j*3+1=3*j+1 by omega,da,hg.2.1];rfl
 rw [show j*3+2=3*j+2 by omega,da,hg.2.2];rfl
theorem Wv{z z0 z1 z2:ad}(hz:z.cells= #[z0,z1,z2])(m:Nat):(Builtin.zeroCells z.cells m).toList.length=3*m:=by
 rw [hz];simp [Builtin.zeroCells];omega
end
section
variable{t T te:ae}{x ix di x0 y x1 x2:ag}{v0 v1 v2 z z0 z1 z2 y0 y1 y2:ad}{b m c' b0 b1 b2:Nat}{A':aj}{i h:Int}
variable {P:Program} {N:Nat} {ops:Array Oper} {K:Env->aa->Prop} {rest:List Oper} {e:Env} {w0 w w':aa} {ks:List Ck} {d:Nat} {ty:ae} {pos:String} {af:Array Edge}
theorem nV{el:ae}(hS:St w0 w ks)(hx:ev e x= .agg #[v0,v1,v2])(hb:Nat.blt d N=true)(hK:∀A w',St w0 w' (Bx el 3 A [v0,v1,v2]::ks)->ao P N ops K rest (br e d (.pointer A)) w')(hM:eK [v0,v1,v2]=false:=by rfl):ao P N ops K (⟨some d,.box el x,ty,pos,af,none⟩::rest) e w:= .J4 hS hx hb rfl hK hM
theorem amy{el:ae}[bt P t (.slice el)][bq P el z 3 b]{A:aj}{n c:Nat}{k:IntKind}{cs:List TV}(hR:rS w A n cs)(hx:ev e x= .slice A n c)(hy:ev e ix= .int k i)(hb:Nat.blt d N=true)(h0:0<=i)(h1:i< (n:Int))(hK:ao P N ops K rest (br e d (.pointer (ay A (i.toNat*3)))) w):
 ao P N ops K (⟨some d,.indexAddr t x ix,ty,pos,af,none⟩::rest) e w:=by
 obtain⟨p,hp,_⟩:=hR.2 i.toNat (by omega);obtain⟨q,rfl⟩:∃q,A=some q:=by cases A with | none=>simp [ay]at hp | some q=>exact⟨q,rfl⟩
 obtain⟨inf,hi,_,hs,_⟩:=bq.get P el;refine .val (w':=w) ?_ hb hK;simp [execOp,Instr.indexAt,hx,hy,asIntOf,run_underlying (bt.out (P:=P) (t:=t)),h0,h1,sizeOf,typeInfo,hi,hs,ay]
theorem kE{el:ae}[bt P t (.slice el)][bq P el z 3 b]{A:aj}{n c:Nat}{k:IntKind}{cs:List TV}(hR:rS w A n cs)(q9:(ev e x,ev e ix,Nat.blt d N)=(.slice A n c,.int k i,true))(hK:ao P N ops K rest (br e d (.pointer (ay A (i.toNat*3)))) w)(h0:0<=i:=by omega)(h1:i< (n:Int):=by omega):ao P N ops K (⟨some d,.indexAddr t x ix,ty,pos,af,none⟩::rest) e w:=amy hR (congrArg (fun p=>p.1) q9) (congrArg (fun p=>p.2.1) q9) (congrArg (fun p=>p.2.2) q9) h0 h1 hK
theorem Xa{el:ae}[hU:bt P t (.slice el)][bq P el z 3 b]{A:aj}{n c:Nat}{k:IntKind}(hx:ev e x= .slice A n c)(hh:ev e di= .int k h)(hb:Nat.blt d N=true)(h0:0<=h/\h<=(c:Int))(hK:ao P N ops K rest (br e d (.slice A h.toNat c)) w):ao P N ops K (⟨some d,.slice t x none (some di) none,ty,pos,af,none⟩::rest) e w:=by
 obtain⟨inf,hi,dU,hs,gI⟩:=bq.get P el;refine .val (w':=w) ?_ hb hK;have:=run_sliceBound (P:=P) w k h c .sliceAcap h0.1 h0.2;have hA:A.map (fun x=>x.add 0)=A:=by cases A<;>simp [Addr.add]
 simp [execOp,hx,hh,Instr.sliceAt,run_underlying hU.out,Instr.slice,Instr.sliceBounds,this,sizeOf,typeInfo,hi,hs,hA]
theorem W5{el:ae}[bt P t (.slice el)][bq P el z 3 b]{v:TV}(hS:St w0 w ks)(h0:ev e x0=v.v)(hz:z.cells= #[z0,z1,z2])(hb:Nat.blt d N=true)(hK:∀A w',St w0 w' (eu el A 1 1 [v]::ks)->ao P N ops K rest (br e d (.slice A 1 1)) w'):ao P N ops K (⟨some d,.buildSlice t 1 #[(0,x0)],ty,pos,af,none⟩::rest) e w:=by
 obtain⟨inf,hi,dU,hs,gI⟩:=bq.get P el;refine .val (w':=w.alloc (.cells #[ak v.f,ak v.g,ak v.r] el)) ?_ hb (hK _ _ (hS.alloc [ak v.f,ak v.g,ak v.r] el (by simp [maxLen]) O));simp [execOp,Instr.buildSlice,run_underlying (bt.out (P:=P) (t:=t)),sizeOf,typeInfo,zeroValue,hi,hs,dU,hz,Instr.fill,newRow,h0,Cn,jB,Value.cells,TV.v]
theorem aiM{el:ae}[hU:bt P t (.slice el)][bq P el z 3 b](hz:z.cells= #[z0,z1,z2]){A:aj}{n c:Nat}{cs:List TV}(i:Nat)(hS:St w0 w ks)(hk:ks[i]?=some (eu el A n c cs)){ds:List TV}(hR:rS w A' m ds)
 (qK:3* (n+m)<=maxLen) (oM:(n+m)*b<=140737488355328) (ty:ae):
 ∃A2 c2 w',(Builtin.append_ #[t,t] ty #[.slice A n c,.slice A' m c']).run P w= .ok (.slice A2 (n+m) c2) w'/\St w0 w' (ks.set i (eu el A2 (n+m) c2 (cs++ds))):=by
 obtain⟨inf,hi,dU,hs,gI⟩:=bq.get P el;have AV:=hS.pU hk (Dn _);have tn:=hS.PZ i hk;have dh:=(hS.jT i hk).1;obtain⟨hl,xA,pq,h4⟩:=AV;have xv:=(gm.1 hk).1
 by_cases hm:m=0
 ·subst hm;have pv:ds=[]:=qA hR.1;subst pv;refine⟨A,c,w,?_,?_⟩
  ·cases A' with
   | none=>cases A<;>simp [Builtin.append_,run_underlying hU.out,sizeOf,typeInfo,hi,Builtin.lenOf,Builtin.firstCells,tn.1,storeCells]
   | some a=>
    cases A<;>simp [Builtin.append_,run_underlying hU.out,sizeOf,typeInfo,hi,Builtin.lenOf,Builtin.firstCells,tn.1,storeCells,loadCells,loadCellsFrom]
  ·rw [fj,Nat.add_zero];have:ks.set i (eu el A n c cs)=ks:=by
    apply List.ext_getElem?;intro j;rw [mI]
    split
    ·rename_i e;subst e;rw [hk]
     try simp [xv]
    ·rfl
   rw [this];exact hS
 ·obtain⟨a,rfl⟩:∃a,A'=some a:=by
   obtain⟨p,hp,_⟩:=hR.2 0 (by omega);cases A' with | none=>simp [ay]at hp | some q=>exact⟨q,rfl⟩
  have gJ:(fD ds).length=m*3:=by rw [Em,hR.1];omega
  have tu:∀j v,(fD ds)[j]?=some v->w.cell? (a.add j)=some v:=by
   intro j v hj;have yT:j<3*m:=by have:=(gm.1 hj).1;omega
   obtain⟨p,hp,hc⟩:=hR.2 j yT;simp only [ay,Option.map_some,mJ]at hp;rw [hp,hc];show some ((fD ds).getD j undef)=some v;rw [da,hj]
   rfl
  have uZ:∀u∈fD ds,u.oneCell'=true:=by
   intro u hu;obtain⟨j,hj,rfl⟩:=gF.1 hu;have gen:∀(l:List TV),∀u∈fD l,u.oneCell'=true:=by
    intro l
    induction l with
    | nil=>intro u h;cases h
    | cons x l ih=>
     intro u h;simp only [fD,iP]at h;rcases h with rfl | rfl | rfl | h
     ·rfl
     ·rfl
     ·rfl
     ·exact ih u h
   exact gen ds _ (dQ hj)
  have ES:(fD cs).length=3*n:=by rw [Em,dh]
  have fresh:∀(xs:List ad) (c2:Nat),n+m<=c2->xs.length=3*c2->xs.take (3* (n+m))=fD cs++fD ds->eK xs=false->
   St w0 (w.drew.alloc (.cells xs.toArray el)) (ks.set i (eu el (some ⟨w.heap.size,0,none⟩) (n+m) c2 (cs++ds))):=by
   intro xs c2 h5 h7 h8 h9;have hA:=hS.drew.Pn xs el (3* (n+m)) (min (3*c2) maxLen) (by omega) (by omega) (by omega) h9;rw [h8,<-KA]at hA;exact(hA.perm (NO ks i _ _ hk)).tail
  have Ew:((n+m:Nat):Int)<=9223372036854775807:=by simp only [maxLen]at qK;omega
  have aaV:n+m<=maxLen:=by omega
  rcases h4 with⟨hA,h0⟩ | ⟨g,o,cur,hA,hg,hh,lN,hc⟩
  ·have hA:A=none:=hA;subst hA;have h0:min (3*c) maxLen=0:=h0;have lJ:c=0:=by simp only [maxLen]at h0;omega
   have oo:n=0:=by omega
   subst lJ oo;have Fm:cs=[]:=qA dh;subst Fm;have hr:=run_append_nil (P:=P) w t ty el inf z hU.out hi dU a m c' (fD ds) (by rw [gJ,hs]) tu (by omega) (by omega) (by rw [gI];rw [Nat.zero_add]at oM;omega);have xu:=grownCap_ge w m 0 el;have wu:=Wv hz (grownCap w m 0 el - m);refine⟨some ⟨w.heap.size,0,none⟩,grownCap w m 0 el,_,?_,fresh (fD ds++ (Builtin.zeroCells z.cells (grownCap w m 0 el - m)).toList) (grownCap w m 0 el) (by omega) (by rw [b8,wu,gJ];omega) (by
    rw [vK (by omega),gR (by omega)]
    rfl) (Bl (Dn _) (by intro hn;rw [hn]at gJ;simp at gJ;omega))⟩
   rw [Nat.zero_add,hr]
   congr 3
   apply Array.ext';simp
  ·have hA:A=some ⟨g,o,none⟩:=hA;have hh:w.heap[g]?=some (.cells cur el (0,0)):=hh;have lN:o+min (3*c) maxLen<=cur.size:=lN;have hc:∀j,j<3*n->cur[o+j]?=(fD cs)[j]?:=hc
   by_cases Bc:n+m<=c
   ·have hf:=run_firstCells_some (P:=P) w inf.size m a m c' (fD ds) (by rw [gJ,hs]) tu;have aw:=run_storeCells_at P g (o+3*n) el (fD ds) 0 cur w hh (by rw [gJ];omega) uZ;simp only [Nat.add_zero]at aw;refine⟨some ⟨g,o,none⟩,c,w.setRow g (cur.toList.take (o+3*n)++fD ds++cur.toList.drop (o+3*n+ (fD ds).length)).toArray,?_,hS.turn (k:=eu el A n c cs) (k':=eu el (some ⟨g,o,none⟩) (n+m) c (cs++ds)) (g:=g) hk (by simp [Ck.gS,eu,hA]) (by simp [Ck.gS,eu]) ?_ ?_⟩
    ·rw [hA];rw [hs]at hf;simp [Builtin.append_,run_underlying hU.out,sizeOf,typeInfo,hi,hs,Builtin.lenOf,Bc,Addr.add_lit,hf];rw [show n*3=3*n by omega];simp [aw]
    ·exact⟨⟨O,O,O,by simp,fun x _ hx=>setRow_other w g x _ (fun e=>hx (by rw [e]))⟩,bs _⟩
    ·refine .qo (Dn _) ⟨by show(fD (cs++ds)).length=3* (n+m);rw [Em,b8,dh,hR.1],by show 3* (n+m)<=min (3*c) maxLen;omega,pq,.inr ⟨g,o,_,O,hg,setRow_heap w g cur _ el _ hh,?_,fun j hj=>?_⟩⟩
     ·show o+min (3*c) maxLen<=_;simp;omega
     ·have gX:j<3* (n+m):=hj;show((cur.toList.take (o+3*n)++fD ds++cur.toList.drop (o+3*n+ (fD ds).length)).toArray)[o+j]?=(fD (cs++ds))[j]?;rw [KA];have ace:cur.toList.length=cur.size:=by simp
      rw [List.getElem?_toArray]
      by_cases nC:j<3*n
      ·rw [gx,lz (by simp;omega),rK,aB (by omega),lz (by omega)];rw [Array.getElem?_toList];exact hc j nC
      ·rw [gx,kD (by simp;omega),lz (by simp;omega),kD (by omega)]
       congr 1
       simp;omega
   ·have holds:∀j v,(fD cs)[j]?=some v->w.cell? ((⟨g,o,none⟩:Addr).add j)=some v:=by
     intro j v hj;have nC:j<3*n:=by have:=(gm.1 hj).1;omega
     rw [zQ];simp only [World.cell?,hh];simpa [hc j nC]using hj
    have hr:=run_append_grow (P:=P) w t ty el inf z hU.out hi dU ⟨g,o,none⟩ n c (fD cs) (by rw [ES,hs];omega) holds a m c' (fD ds) (by rw [gJ,hs]) tu (by omega) Ew (growslice_fits (by omega) (by rw [gI];exact oM));have xu:=grownCap_ge w (n+m) c el;have wu:=Wv hz (grownCap w (n+m) c el - (n+m));refine⟨some ⟨w.heap.size,0,none⟩,grownCap w (n+m) c el,_,?_,fresh (fD cs++fD ds++ (Builtin.zeroCells z.cells (grownCap w (n+m) c el - (n+m))).toList) (grownCap w (n+m) c el) (by omega) (by rw [b8,b8,wu,gJ,ES];omega) (by
     rw [vK (by rw [b8];omega),gR (by rw [b8];omega)]) (Bl (MX (Dn _) (Dn _)) (by intro hn;have:=aF List.length hn;rw [b8,gJ]at this;simp at this;omega))⟩
    rw [hA,hr]
    congr 3
    apply Array.ext';simp
theorem WZ{el:ae}[hU:bt P t (.slice el)][bq P el z 3 b](i:Nat){A:aj}{n c:Nat}{cs:List TV}{ds:List TV}(hS:St w0 w ks)(hk:ks[i]?=some (eu el A n c cs))(hR:rS w A' m ds)(hx:ev e x= .slice A n c)(hy:ev e y= .slice A' m c')(hz:z.cells= #[z0,z1,z2])(qK:n+m<=3074457345618258602)(oM:(n+m)*b<=140737488355328)(hb:Nat.blt d N=true)(hK:∀A2 c2 w',St w0 w' (ks.set i (eu el A2 (n+m) c2 (cs++ds)))->ao P N ops K rest (br e d (.slice A2 (n+m) c2)) w'):
 ao P N ops K (⟨some d,.call ⟨.builtin .append, #[x,y], #[t,t]⟩,ty,pos,af,none⟩::rest) e w:=by
 obtain⟨A2,c2,w',hr,km⟩:=aiM (P:=P) (t:=t) hz i hS hk hR (by simp only [maxLen];omega) oM ty (c':=c');refine .val (w':=w') ?_ hb (hK _ _ _ km);simp [execOp,resolve,invoke,builtin,hx,hy,hr]
theorem ao.ldT{fs:Array Field}[bt P t (.struct fs)][bq P t z 3 b]{A:aj}{n:Nat}{cs:List TV}{i:Nat}{v:TV}(hR:rS w A n cs)(hi:i<n)(hv:cs[i]?=some v)(hx:ev e x= .pointer (ay A (i*3)))(hb:Nat.blt d N=true)(hK:ao P N ops K rest (br e d (v.v)) w):ao P N ops K (⟨some d,.load t x,ty,pos,af,none⟩::rest) e w:=by
 have ln:=hR.at_ hi;have e1:cs[i]'(by rw [hR.1];exact hi)=v:=by rw [fZ (by rw [hR.1];exact hi)]at hv;exact dC hv
 rw [e1]at ln;exact .dq 2 ln hx (by rfl) hb hK
theorem oF{fs:Array Field}[bt P t (.struct fs)][bq P t z 3 b]{A:aj}{n:Nat}{cs:List TV}(hR:rS w A n cs)(hx:ev e x= .pointer (ay A (i.toNat*3)))(hi:i.toNat<n)(hb:Nat.blt d N=true)(hK:ao P N ops K rest (br e d (tg cs i).v) w):ao P N ops K (⟨some d,.load t x,ty,pos,af,none⟩::rest) e w:=
 .ldT hR hi (by unfold tg;rw [List.getD_eq_getElem?_getD,List.getElem?_eq_getElem (by rw [hR.1];exact hi)];rfl) hx hb hK
theorem Xs[bq P t z 3 b]{a:ag}(j:Nat){A:aj}{n c i:Nat}{cs:List TV}{v:TV}(hS:St w0 w ks)(hk:ks[j]?=some (eu T A n c cs))(hi:i<n)(ha:ev e a= .pointer (ay A (i*3)))(hx:ev e x=v.v)(hK:∀w',St w0 w' (ks.set j (eu T A n c (cs.set i v)))->ao P N ops K rest e w'):ao P N ops K (⟨none,.store t a x,ty,pos,af,none⟩::rest) e w:=by
 have hl:=(hS.jT j hk).1;refine ao.V2 3 j (k:=eu T A n c cs) (o:=i*3) hS hk ha hx O O O (Nat.ble_eq_true_of_le (by show i*3+3<=3*n;omega)) fun w' h=>hK w' ?_
 have e1:sN (fD cs) (i*3) v.cs=fD (cs.set i v):=by rw [Nat.mul_comm];exact QV (by omega) v
 have e2:({ eu T A n c cs with vs:=sN (eu T A n c cs).vs (i*3) (#[Value.int IntKind.i64 v.f,Value.int IntKind.i64 v.g,Value.int IntKind.i64 v.r]:Array ad).toList }:Ck)=eu T A n c (cs.set i v):=by
  show(⟨A,3*n,min (3*c) maxLen,T,sN (fD cs) (i*3) v.cs⟩:Ck)=⟨A,3*n,min (3*c) maxLen,T,fD (cs.set i v)⟩;rw [e1]
 exact e2▸h
theorem yl[bq P t z 3 b]{a:ag}(m:Nat){A:aj}{n c:Nat}{xs:List TV}{v:TV}(hS:St w0 w ks)(hk:ks[m]?=some (eu te A n c xs))(ha:ev e a= .pointer (ay A (i.toNat*3)))(hx:ev e x=v.v)(hj:i.toNat<n)(hK:∀w',St w0 w' (ks.set m (eu te A n c (xs.set i.toNat v)))->ao P N ops K rest e w'):ao P N ops K (⟨none,.store t a x,ty,pos,af,none⟩::rest) e w:=
 Xs m hS hk hj ha hx hK
theorem W4{f0 f1 f2:Field}[bt P t (.struct #[f0,f1,f2])][bq P t (.agg #[z0,z1,z2]) 3 b]{v:TV}(u6:bq P f0.type y0 1 b0)(u7:bq P f1.type y1 1 b1)(xg:bq P f2.type y2 1 b2)(ho:f0.offset=0)(sC:f1.offset=1)(yY:f2.offset=2)(h0:ev e x0=ak v.f)(h1:ev e x1=ak v.g)(h2:ev e x2=ak v.r)(hb:Nat.blt d N=true)(hK:ao P N ops K rest (br e d (v.v)) w):ao P N ops K (⟨some d,.build t #[(0,x0),(1,x1),(2,x2)],ty,pos,af,none⟩::rest) e w:=by
 obtain⟨inf,hi,dU,hs,gI⟩:=bq.get P t;obtain⟨Dl,eY,aek,pB,ab5⟩:=u6.get P f0.type;obtain⟨Fu,mm,hz01,vq,hby1⟩:=u7.get P f1.type;obtain⟨ID,ug,hz02,mT,hby2⟩:=xg.get P f2.type;have ez:(Value.agg #[z0,z1,z2]).cells= #[z0,z1,z2]:=O;refine .val (w':=w) ?_ hb hK;simp [execOp,Instr.build,run_underlying (bt.out (P:=P) (t:=t)),sizeOf,typeInfo,zeroValue,hi,dU,eY,pB,mm,vq,ug,mT,ho,sC,yY,h0,h1,h2,ez,Instr.fill,TV.v,Value.cells]
end
end Go.Proofs.YtkccgdhcpplblaaGreatDoor.Vc
namespace Go.Proofs.YtkccgdhcpplblaaGreatDoor.Vc.TS
open Go.RowKit Tryz
variable{i b a' b' j m k:Nat}{w0 w' w:aa}{t:ae}{ks:List Ck}
def gs(l:List TV)(i:Nat):TV:=l.getD i Oo
theorem ti{l:List TV}(h:i<l.length):gs l i=l[i]:=by simp [gs,da,h]
def SR(κ:TV->Int)(l:List TV)(a b:Nat):Prop:=∀i j,a<=i->i<j->j<b->κ (gs l i)<=κ (gs l j)
theorem SR.one(κ:TV->Int)(l:List TV){a:Nat}(h:b<=a+1):SR κ l a b:=fun i j h1 h2 h3=>by omega
theorem SR.sub{κ:TV->Int}{l:List TV}{a:Nat}(h:SR κ l a b)(h1:a<=a')(h2:b'<=b):SR κ l a' b':=fun i j hi ig hj=>h i j (by omega) ig (by omega)
theorem SR.le{κ:TV->Int}{l:List TV}{a:Nat}(h:SR κ l a b)(h1:a<=i)(h2:i<=j)(h3:j<b):κ (gs l i)<=κ (gs l j):=by
 rcases Nat.lt_or_eq_of_le h2 with h2 | rfl
 ·exact h i j h1 h2 h3
 exact Int.le_refl _
theorem SR.congr{κ:TV->Int}{l l':List TV}{a:Nat}(h:SR κ l a b)(he:∀i,a<=i->i<b->gs l' i=gs l i):SR κ l' a b:=fun i j hi ig hj=>by
 rw [he i hi (by omega),he j (by omega) hj];exact h i j hi ig hj
structure RP(l l':List TV)(a b:Nat):Prop where
 perm:l'.Perm l
 out:∀i,i<a\/b<=i->gs l' i=gs l i
theorem RP.refl(l:List TV)(a b:Nat):RP l l a b:=⟨List.Perm.refl _,fun _ _=>rfl⟩
theorem RP.len{l l':List TV}{a:Nat}(h:RP l l' a b):l'.length=l.length:=h.perm.length_eq
theorem RP.trans{l l' T6:List TV}{a:Nat}(h:RP l l' a b)(h':RP l' T6 a' b')(h1:a<=a')(h2:b'<=b):RP l T6 a b:=
 ⟨h'.perm.trans h.perm,fun i hi=>by rw [h'.out i (by omega),h.out i hi]⟩
theorem aaJ{l l':List TV}{a:Nat}(hl:l'.length=l.length)(h:∀i,i<a->gs l' i=gs l i):l'.take a=l.take a:=by
 refine ki (by simp [hl]) fun i h1 h2=>?_
 rw [na]at h1 h2;rw [List.getElem_take,List.getElem_take,<-ti (by omega),<-ti (by omega)];exact h i (by omega)
theorem aaI{l l':List TV}(hl:l'.length=l.length)(h:∀i,b<=i->gs l' i=gs l i):l'.drop b=l.drop b:=by
 refine ki (by simp [hl]) fun i h1 h2=>?_
 rw [List.length_drop]at h1 h2;rw [List.getElem_drop,List.getElem_drop,<-ti (by omega),<-ti (by omega)];exact h _ (by omega)
theorem VZ{α:Type}(l:List α){a:Nat}(h:a<=b):l=l.take a++ ((l.drop a).take (b - a)++l.drop b):=by
 have h1:l.drop b=(l.drop a).drop (b - a):=by rw [List.drop_drop];congr 1;omega
 rw [h1,List.take_append_drop,List.take_append_drop]
theorem RP.mid{l l':List TV}{a:Nat}(h:RP l l' a b)(eB:a<=b):((l'.drop a).take (b - a)).Perm ((l.drop a).take (b - a)):=by
 have h1:=h.perm;rw [VZ l' eB,VZ l eB,aaJ h.len (fun i hi=>h.out i (.inl hi)),aaI h.len (fun i hi=>h.out i (.inr hi))]at h1;exact(List.perm_append_right_iff _).1 ((List.perm_append_left_iff _).1 h1)
theorem RP.from{l l':List TV}{a:Nat}(h:RP l l' a b)(hb:b<=l.length)(h1:a<=i)(h2:i<b):∃j,a<=j/\j<b/\gs l' i=gs l j:=by
 have hl:=h.len;have hm:gs l' i∈(l'.drop a).take (b - a):=by
  rw [gF];refine⟨i - a,by rw [na,List.length_drop];omega,?_⟩;rw [List.getElem_take,List.getElem_drop,<-ti (by omega)]
  congr 1;omega
 obtain⟨k,hk,e⟩:=gF.1 ((h.mid (by omega)).mem_iff.1 hm);rw [na,List.length_drop]at hk;refine⟨a+k,by omega,by omega,?_⟩;rw [<-e,List.getElem_take,List.getElem_drop,<-ti (by omega)]
def swp(l:List TV)(i j:Nat):List TV:=(l.set i (gs l j)).set j (gs l i)
theorem V8(l:List TV)(i j:Nat):(swp l i j).length=l.length:=by simp [swp]
theorem Rm{l:List TV}(h:i<l.length)(v:TV)(x:Nat):gs (l.set i v) x=if x=i then v else gs l x:=by
 simp only [gs,da,mI]
 by_cases e:i=x
 ·subst e;simp [h]
 have:¬x=i:=fun h=>e h.symm
 simp [e,this]
theorem Eu{l:List TV}(hi:i<l.length)(hj:j<l.length)(x:Nat):gs (swp l i j) x=if x=j then gs l i else if x=i then gs l j else gs l x:=by
 rw [swp,Rm (by simpa using hj),Rm hi]
theorem Ol{l:List TV}{a:Nat}(hi:i<l.length)(hj:j<l.length)(h1:a<=i)(h2:i<b)(h3:a<=j)(h4:j<b):RP l (swp l i j) a b:=by
 refine⟨?_,fun x hx=>?_⟩
 ·unfold swp;rw [ti hi,ti hj];exact List.set_set_perm hi hj
 rw [Eu hi hj,az (by omega),az (by omega)]
structure vI(κ:TV->Int)(l:List TV)(a i j:Nat):Prop where
 low:a<=j
 high:j<=i
 rest:∀x y,a<=x->x<y->y<=i->x≠j->y≠j->κ (gs l x)<=κ (gs l y)
 own:∀y,j<y->y<=i->κ (gs l j)<=κ (gs l y)
theorem vI.start{κ:TV->Int}{l:List TV}{a:Nat}(h:SR κ l a i)(hi:a<=i):vI κ l a i i:=
 ⟨hi,bs _,fun x y h1 h2 h3 h4 h5=>h x y h1 h2 (by omega),fun y h1 h2=>by omega⟩
theorem vI.stop{κ:TV->Int}{l:List TV}{a:Nat}(h:vI κ l a i j)(hs:j=a\/κ (gs l (j - 1))<=κ (gs l j)):SR κ l a (i+1):=fun x y h1 h2 h3=>by
 by_cases e:x=j
 ·subst e;exact h.own y h2 (by omega)
 by_cases e2:y=j
 ·subst e2;rcases hs with hs | hs
  ·omega
  by_cases e3:x=y - 1
  ·subst e3;exact hs
  exact Int.le_trans (h.rest x (y - 1) h1 (by omega) (by have:=h.high;omega) e (by omega)) hs
 exact h.rest x y h1 h2 (by omega) e e2
theorem vI.next{κ:TV->Int}{l:List TV}{a:Nat}(h:vI κ l a i j)(hj:a<j)(hi:i<l.length)(hs:κ (gs l j)<κ (gs l (j - 1))):vI κ (swp l j (j - 1)) a i (j - 1):=by
 have hh:=h.high;have g:=Eu (l:=l) (i:=j) (j:=j - 1) (by omega) (by omega);refine⟨by omega,by omega,fun x y h1 h2 h3 h4 h5=>?_,fun y h1 h2=>?_⟩
 ·rw [g x,g y,az h4,az h5]
  by_cases e:x=j
  ·subst e;rw [aB rfl,az (by omega)];exact h.rest (x - 1) y (by omega) (by omega) h3 (by omega) (by omega)
  rw [az e]
  by_cases e2:y=j
  ·subst e2;rw [aB rfl];exact h.rest x (y - 1) h1 (by omega) (by omega) e (by omega)
  rw [az e2];exact h.rest x y h1 h2 h3 e e2
 rw [g (j - 1),g y,aB rfl,az (by omega)]
 by_cases e2:y=j
 ·subst e2;rw [aB rfl];omega
 rw [az e2];exact h.own y (by omega) h2
theorem ZK{α:Type}(P X M Y S:List α)(k:Nat)(h:X.length=Y.length)(hk:k<X.length)(x y:α)(hx:X[k]?=some x)(hy:Y[k]?=some y):((P++ (Y.take k++X.drop k)++M++ (X.take k++Y.drop k)++S).set (P.length+k) y).set (P.length+X.length+M.length+k) x=P++ (Y.take (k+1)++X.drop (k+1))++M++ (X.take (k+1)++Y.drop (k+1))++S:=by
 obtain⟨eQ,rfl⟩:=gm.1 hx;obtain⟨kq,rfl⟩:=gm.1 hy;rw [List.drop_eq_getElem_cons eQ,List.drop_eq_getElem_cons kq,lV eQ,lV kq];have e1:(P++ (Y.take k++X[k]::X.drop (k+1))++M++ (X.take k++Y[k]::Y.drop (k+1))++S)=(P++Y.take k)++X[k]::(X.drop (k+1)++M++ (X.take k++Y[k]::Y.drop (k+1))++S):=by simp only [gx,List.cons_append]
 have l1:P.length+k=(P++Y.take k).length:=by simp;omega
 rw [e1,l1,List.set_append_right _ _ (bs _),Nat.sub_self,List.set_cons_zero];have e2:(P++Y.take k)++Y[k]::(X.drop (k+1)++M++ (X.take k++Y[k]::Y.drop (k+1))++S)=(P++Y.take k++Y[k]::(X.drop (k+1)++M++X.take k))++Y[k]::(Y.drop (k+1)++S):=by simp only [gx,List.cons_append]
 have l2:P.length+X.length+M.length+k=(P++Y.take k++Y[k]::(X.drop (k+1)++M++X.take k)).length:=by simp;omega
 rw [e2,l2,List.set_append_right _ _ (bs _),Nat.sub_self,List.set_cons_zero];simp only [gx,List.cons_append,List.nil_append]
structure uT(l l1:List TV)(s m e:Nat):Prop where
 out:∀i,i<s\/e<=i->gs l1 i=gs l i
 left:∀i,s<=i->i<s+ (e - m)->gs l1 i=gs l (i+ (m - s))
 right:∀i,s+ (e - m)<=i->i<e->gs l1 i=gs l (i - (e - m))
theorem uT.same(l:List TV){s e:Nat}(h:s=m\/m=e)(h1:s<=m)(h2:m<=e):uT l l s m e:=
 ⟨fun _ _=>rfl,fun i h3 h4=>by congr 1;omega,fun i h3 h4=>by congr 1;omega⟩
theorem uT.of(P X Y S:List TV):uT (P++ (X++ (Y++S))) (P++ (Y++ (X++S))) P.length (P.length+X.length) (P.length+X.length+Y.length):=by
 have key:∀(P X Y S:List TV) (i:Nat),gs (P++ (X++ (Y++S))) i=if i<P.length then gs P i else if i<P.length+X.length then gs X (i - P.length)else if i<P.length+X.length+Y.length then gs Y (i - P.length - X.length)else gs S (i - P.length - X.length - Y.length):=fun P X Y S i=>by
  simp only [gs,da]
  by_cases h1:i<P.length
  ·rw [aB h1,lz h1]
  rw [az h1,kD (by omega)]
  by_cases h2:i<P.length+X.length
  ·rw [aB h2,lz (by omega)]
  rw [az h2,kD (by omega)]
  by_cases h3:i<P.length+X.length+Y.length
  ·rw [aB h3,lz (by omega)]
  rw [az h3,kD (by omega)]
 refine⟨fun i h=>?_,fun i h1 h2=>?_,fun i h1 h2=>?_⟩
 ·rw [key,key];rcases h with h | h
  ·rw [aB h,aB h]
  rw [az (by omega),az (by omega),az (by omega),az (by omega),az (by omega),az (by omega)]
  congr 1;omega
 ·rw [key,key,az (by omega),aB (by omega),az (by omega),az (by omega),aB (by omega)]
  congr 1;omega
 rw [key,key,az (by omega),az (by omega),aB (by omega),az (by omega),aB (by omega)]
 congr 1;omega
theorem aiD{α:Type}(P X Y S:List α):(P++ (Y++ (X++S))).Perm (P++ (X++ (Y++S))):=by
 refine(List.perm_append_left_iff _).2 ?_;rw [<-gx,<-gx];exact(List.perm_append_right_iff _).2 nT
def mW(a m b:Nat):Nat:=if(a+b) / 2<m then(a+b) / 2+m - b else a
def eY(a m b:Nat):Nat:=if(a+b) / 2<m then(a+b) / 2 else m
structure Jv(κ:TV->Int)(l:List TV)(a m b s:Nat):Prop where
 lo:mW a m b<=s
 hi:s<=eY a m b
 left:∀c,mW a m b<=c->c<s->κ (gs l c)<=κ (gs l ((a+b) / 2+m - 1 - c))
 right:∀c,s<=c->c<eY a m b->κ (gs l ((a+b) / 2+m - 1 - c))<κ (gs l c)
theorem Zf{κ:TV->Int}{l l1:List TV}{a s:Nat}(h1:a+1<m)(h2:m+1<b)(hA:SR κ l a m)(hB:SR κ l m b)(hc:Jv κ l a m b s)(hr:uT l l1 s m ((a+b) / 2+m - s)):(a<=s/\s<=(a+b) / 2/\s<=m/\(a+b) / 2<=(a+b) / 2+m - s/\m<=(a+b) / 2+m - s/\(a+b) / 2+m - s<=b)/\SR κ l1 a s/\SR κ l1 s ((a+b) / 2)/\SR κ l1 ((a+b) / 2) ((a+b) / 2+m - s)/\SR κ l1 ((a+b) / 2+m - s) b/\∀i j,a<=i->i< (a+b) / 2->(a+b) / 2<=j->j<b->κ (gs l1 i)<=κ (gs l1 j):=by
 obtain⟨c1,c2,c3,c4⟩:=hc;generalize pA:(a+b) / 2=mid at*;unfold mW at c1 c3;unfold eY at c2 c4;rw [pA]at c1 c2 c3 c4;have tt:2*mid<=a+b/\a+b<=2*mid+1:=by omega
 have b1:a<=s:=by split at c1<;>omega
 have b2:s<=mid:=by split at c2<;>omega
 have b3:s<=m:=by split at c2<;>omega
 have b4:mid+m - s<=b:=by split at c1<;>omega
 generalize he:mid+m - s=e at*;obtain⟨r1,r2,r3⟩:=hr;have NV:∀i,s<=i->i<mid->gs l1 i=gs l (i+ (m - s)):=fun i h h'=>r2 i h (by omega)
 have I7:∀i,mid<=i->i<e->gs l1 i=gs l (i - (mid - s)):=fun i h h'=>by rw [r3 i (by omega) h'];congr 1;omega
 refine⟨⟨b1,b2,b3,by omega,by omega,b4⟩,?_,?_,?_,?_,?_⟩
 ·exact(hA.sub (bs _) b3).congr fun i _ h=>r1 i (.inl h)
 ·intro i j hi ig hj;rw [NV i hi (by omega),NV j (by omega) hj];exact hB _ _ (by omega) (by omega) (by omega)
 ·intro i j hi ig hj;rw [I7 i hi (by omega),I7 j (by omega) hj];exact hA _ _ (by omega) (by omega) (by omega)
 ·exact(hB.sub (by omega) (bs _)).congr fun i h _=>r1 i (.inr h)
 intro i j hi ug hj oR
 by_cases x1:i<s
 ·rw [r1 i (.inl x1)]
  by_cases x2:j<e
  ·rw [I7 j hj x2];exact hA.le hi (by omega) (by omega)
  rw [r1 j (.inr (by omega))];have k1:κ (gs l i)<=κ (gs l (s - 1)):=hA.le hi (by omega) (by omega);have k2:κ (gs l e)<=κ (gs l j):=hB.le (by omega) (by omega) oR;have k3:=c3 (s - 1) (by split<;>omega) (by omega);rw [show mid+m - 1 - (s - 1)=e by omega]at k3;omega
 rw [NV i (by omega) ug]
 by_cases x2:j<e
 ·rw [I7 j hj x2];have k1:κ (gs l (i+ (m - s)))<=κ (gs l (e - 1)):=hB.le (by omega) (by omega) (by omega);have k2:κ (gs l s)<=κ (gs l (j - (mid - s))):=hA.le (by omega) (by omega) (by omega);have k3:=c4 s (bs _) (by split<;>omega);rw [show mid+m - 1 - s=e - 1 by omega]at k3;omega
 rw [r1 j (.inr (by omega))];exact hB.le (by omega) (by omega) oR
theorem Zi{κ:TV->Int}{l1 l2 l3:List TV}{a mid:Nat}(eB:a<=mid)(E5:mid<=b)(hb:b<=l1.length)(h:∀i j,a<=i->i<mid->mid<=j->j<b->κ (gs l1 i)<=κ (gs l1 j))(p2:RP l1 l2 a mid)(s2:SR κ l2 a mid)(p3:RP l2 l3 mid b)(s3:SR κ l3 mid b):SR κ l3 a b:=fun i j hi ig hj=>by
 have qg:=p2.len
 by_cases x1:j<mid
 ·rw [p3.out i (.inl (by omega)),p3.out j (.inl x1)];exact s2 i j hi ig x1
 by_cases x2:i<mid
 ·rw [p3.out i (.inl x2)];obtain⟨i',h1,h2,e1⟩:=p2.from (by omega) hi x2;obtain⟨j',h3,h4,e2⟩:=p3.from (by omega) (by omega) hj;rw [e1,e2,p2.out j' (.inr h3)];exact h i' j' h1 h2 h3 h4
 exact s3 i j (by omega) ig hj
structure vM(l c:List TV)(a k:Nat):Prop where
 len:c.length=l.length
 out:∀x,x<a\/k<x->gs c x=gs l x
 uF:∀x,a<=x->x<k->gs c x=gs l (x+1)
 own:gs c k=gs l a
theorem vM.start(l:List TV)(a:Nat):vM l l a a:=⟨rfl,fun _ _=>rfl,fun x h h'=>by omega,rfl⟩
theorem vM.next{l c:List TV}{a:Nat}(h:vM l c a k)(ha:a<=k)(hk:k+1<l.length):vM l (swp c k (k+1)) a (k+1):=by
 have hl:=h.len;have g:=Eu (l:=c) (i:=k) (j:=k+1) (by omega) (by omega);refine⟨by rw [V8,hl],fun x hx=>?_,fun x h1 h2=>?_,?_⟩
 ·rw [g,az (by omega),az (by omega),h.out x (by omega)]
 ·rw [g,az (by omega)]
  by_cases e:x=k
  ·subst e;rw [aB rfl,h.out _ (by omega)]
  rw [az e,h.uF x h1 (by omega)]
 rw [g,aB rfl,h.own]
theorem vM.sorted{κ:TV->Int}{l c:List TV}{a:Nat}(h:vM l c a (i - 1))(hs:SR κ l (a+1) b)(h1:a+1<=i)(h2:i<=b)(hl:∀x,a+1<=x->x<i->κ (gs l x)<=κ (gs l a))(hr:∀x,i<=x->x<b->κ (gs l a)<=κ (gs l x)):SR κ c a b:=fun x y hx jR hy=>by
 by_cases e:x=i - 1
 ·rw [e,h.own,h.out y (.inr (by omega))];exact hr y (by omega) hy
 by_cases e2:y=i - 1
 ·rw [e2,h.own,h.uF x hx (by omega)];exact hl _ (by omega) (by omega)
 by_cases x1:y<i - 1
 ·rw [h.uF x hx (by omega),h.uF y (by omega) x1];exact hs _ _ (by omega) (by omega) (by omega)
 rw [h.out y (.inr (by omega))]
 by_cases x2:x<i - 1
 ·rw [h.uF x hx x2];exact hs _ _ (by omega) (by omega) hy
 rw [h.out x (.inr (by omega))];exact hs _ _ (by omega) jR hy
structure vL(l c:List TV)(m k:Nat):Prop where
 len:c.length=l.length
 out:∀x,x<k\/m<x->gs c x=gs l x
 uF:∀x,k<x->x<=m->gs c x=gs l (x - 1)
 own:gs c k=gs l m
theorem vL.start(l:List TV)(m:Nat):vL l l m m:=⟨rfl,fun _ _=>rfl,fun x h h'=>by omega,rfl⟩
theorem vL.next{l c:List TV}(h:vL l c m k)(hk:0<k)(SS:k<=m)(hm:m<l.length):vL l (swp c k (k - 1)) m (k - 1):=by
 have hl:=h.len;have g:=Eu (l:=c) (i:=k) (j:=k - 1) (by omega) (by omega);refine⟨by rw [V8,hl],fun x hx=>?_,fun x h1 h2=>?_,?_⟩
 ·rw [g,az (by omega),az (by omega),h.out x (by omega)]
 ·rw [g,az (by omega)]
  by_cases e:x=k
  ·subst e;rw [aB rfl,h.out _ (by omega)]
  rw [az e,h.uF x (by omega) h2]
 rw [g,aB rfl,h.own]
theorem vL.sorted{κ:TV->Int}{l c:List TV}{a:Nat}(h:vL l c m i)(hs:SR κ l a m)(h1:a<=i)(h2:i<=m)(hl:∀x,a<=x->x<i->κ (gs l x)<=κ (gs l m))(hr:∀x,i<=x->x<m->κ (gs l m)<=κ (gs l x)):SR κ c a (m+1):=fun x y hx jR hy=>by
 by_cases e:x=i
 ·rw [e,h.own,h.uF y (by omega) (by omega)];exact hr _ (by omega) (by omega)
 by_cases e2:y=i
 ·rw [e2,h.own,h.out x (.inl (by omega))];exact hl x hx (by omega)
 by_cases x1:y<i
 ·rw [h.out x (.inl (by omega)),h.out y (.inl x1)];exact hs _ _ hx jR (by omega)
 rw [h.uF y (by omega) (by omega)]
 by_cases x2:x<i
 ·rw [h.out x (.inl x2)];exact hs _ _ hx (by omega) (by omega)
 rw [h.uF x (by omega) (by omega)];exact hs _ _ (by omega) (by omega) (by omega)
def wM(κ:TV->Int)(l:List TV)(n s lo hi:Nat):Prop:=∀k,lo<=k*s->k*s<hi->SR κ l (k*s) (min (k*s+s) n)
theorem wM.done{κ:TV->Int}{l:List TV}{n s:Nat}(h:wM κ l n s 0 n)(hs:n<=s):SR κ l 0 n:=by
 by_cases h0:n=0
 ·subst h0;exact SR.one _ _ (by omega)
 have:=h 0 (by omega) (by omega);rw [Nat.zero_mul,Nat.zero_add,Nat.min_eq_right hs]at this;exact this
theorem UD{s:Nat}(h:j*s<k*s):j*s+s<=k*s:=by
 have uj:j<k:=Nat.lt_of_mul_lt_mul_right h;have:=Nat.mul_le_mul_right s (Nat.succ_le_of_lt uj);rw [Nat.succ_mul]at this;exact this
def mq(x:TV):Int:=x.f*1000+x.g
def kT(x:TV):Int:=x.r*1000000+mq x
def pM(x:TV):Prop:=(0<=x.f/\x.f<1000)/\0<=x.g/\x.g<1000
def rT(x y:TV):Int:=if x.r<y.r then -1 else if y.r<x.r then 1 else 0
theorem pM.ix{x:TV}(h:pM x):0<=mq x/\mq x<1000000:=by unfold pM at h;unfold mq;omega
theorem Qd{x y:TV}(hx:pM x)(hy:pM y)(h:mq y<mq x):rT x y<0↔kT x<kT y:=by
 have h1:=hx.ix;have h2:=hy.ix;unfold rT kT
 by_cases e:x.r<y.r
 ·rw [aB e];omega
 rw [az e]
 by_cases e2:y.r<x.r
 ·rw [aB e2];omega
 rw [az e2];omega
theorem Fw(x:Int)(w:aa):aK prog 266 [ak x] w (fun v w'=>v= .bool false/\w'=w):=by
 refine bA func266 O ntmps266 O (df O) (Gg O (dz O ?_));exact⟨by rw [cj (fun h=>h O)],O⟩
theorem YM(x y:Int)(w:aa):aK prog 209 [ak x,ak y] w (fun v w'=>v=ak (if x<y then -1 else if y<x then 1 else 0)/\w'=w):=by
 refine bA func209 O ntmps209 O (df O) (bg O (aQ (Fw x w) O ?_));rintro _ w1 ⟨rfl,rfl⟩;refine ar O (aQ (Fw y _) O ?_);rintro _ w1 ⟨rfl,rfl⟩;refine aC O (Cd.fC O (dw O (Cd.fC O (dw O ?_))));refine aM _ O (fun h=>?_) (fun h=>?_)
 ·refine dX O (gZ O ?_);exact⟨by rw [aB h],O⟩
 refine dw O (aM _ O (fun h2=>?_) (fun h2=>?_))
 ·refine dX O (gZ O ?_);exact⟨by rw [az h,aB h2],O⟩
 refine dX O (gZ O ?_);exact⟨by rw [az h,az h2],O⟩
theorem GP(x y:TV)(w:aa):
 aK prog 305 [x.v,y.v] w (fun v w'=>v=ak (rT x y)/\St w w' []):=by
 refine bA func305 O ntmps305 O (df O) (bg O (nV (St.refl w) O O ?_));intro A2 w1 aI;refine nV aI O O fun A3 w2 aE=>ar O (aU (aE.rd 1 O) O (iy (aE.rd 1 O) O O O O O (aU (aE.rd 0 O) O (iy (aE.rd 0 O) O O O O O (aQ (YM x.r y.r _) O ?_)))));rintro _ w3 ⟨rfl,rfl⟩;refine bI O (gZ O ?_);exact⟨O,aE.none⟩
theorem Rl{ds:List TV}(h:∀s∈ds,pM s)(i:Nat):pM (gs ds i):=by
 by_cases hi:i<ds.length
 ·rw [ti hi];exact h _ (dQ _)
 have:gs ds i=Oo:=by simp [gs,da,mh (Nat.le_of_not_lt hi)]
 rw [this];exact⟨⟨Int.le_refl _,by decide⟩,Int.le_refl _,by decide⟩
theorem RP.cap{ds lZ:List TV}{a:Nat}(h:RP ds lZ a b)(hc:∀s∈ds,pM s):∀s∈lZ,pM s:=fun s hs=>hc s (h.perm.mem_iff.1 hs)
theorem zz{A:aj}{n c:Nat}{L:List TV}{x s:TV}{i:Int}(e:i.toNat=j)(g:s=x)(h:St w0 w' (eu t A n c (L.set i.toNat s)::ks)):St w0 w' (eu t A n c (L.set j x)::ks):=by
 subst g;rw [<-e];exact h
theorem Oj{A:aj}{n c:Nat}{P X M Y S:List TV}{G:FuncId}(a b m:Nat)(ha:P.length=a)(hb:P.length+X.length+M.length=b)(hm:X.length=m)(jR:X.length=Y.length)(hn:n<=4000000000000)(hS:St w0 w (eu t A n c (P++X++M++Y++S)::ks)):
 aK prog 357 [.slice A n c,ak a,ak b,ak m,.func (.func G) #[] #[]] w (fun v w'=>v= .tuple #[]/\St w0 w' (eu t A n c (P++Y++M++X++S)::ks)):=by
 have oT:(P++X++M++Y++S).length=n:=(hS.jT 0 O).1;simp only [b8]at oT;refine bA func357 O ntmps357 O (Bu O) (bJ O ?_);refine Cd.loop (α:=Nat) (fun k=> [(0,.slice A n c),(1,ak a),(2,ak b),(3,ak m),(4,.func (.func G) #[] #[]),(10,ak k)]) (fun k w'=>k<=m/\St w0 w' (eu t A n c (P++ (Y.take k++X.drop k)++M++ (X.take k++Y.drop k)++S)::ks)) (fun k=>m - k) 0 (amz O) ⟨aZ _,by simpa using hS⟩ ?_;rintro k e w1 ⟨hk,aI⟩;refine bJ O (aM _ O (fun h1=>?_) (fun h1=>?_))
 ·have oS:k<X.length:=by omega
  have L9:k<Y.length:=by omega
  have hR:=aI.jT 0 O;have ga:tg (P++ (Y.take k++X.drop k)++M++ (X.take k++Y.drop k)++S) ((a:Int)+ (k:Int))=X[k]:=by
   have e1:((a:Int)+ (k:Int)).toNat=P.length+k:=by omega
   unfold tg;rw [e1,da];simp only [gx];rw [kD (by omega),kD (by simp;omega),lz (by simp;omega)];simp [Nat.min_eq_left (Nat.le_of_lt L9),oS]
  have gb:tg (P++ (Y.take k++X.drop k)++M++ (X.take k++Y.drop k)++S) ((b:Int)+ (k:Int))=Y[k]:=by
   have e1:((b:Int)+ (k:Int)).toNat=P.length+X.length+M.length+k:=by omega
   unfold tg;rw [e1,da];simp only [gx];rw [kD (by omega),kD (by simp;omega),kD (by simp;omega),kD (by simp;omega),kD (by simp;omega),lz (by simp;omega)];have e2:P.length+X.length+M.length+k - P.length - (List.take k Y).length - (List.drop k X).length - M.length - (List.take k X).length=0:=by simp;omega
   rw [e2];simp [L9]
  have hx:=ZK P X M Y S k jR oS X[k] Y[k] (by simp [oS]) (by simp [L9]);have ea:((a:Int)+ (k:Int)).toNat=P.length+k:=by omega
  have eb:((b:Int)+ (k:Int)).toNat=P.length+X.length+M.length+k:=by omega
  generalize hL:P++ (Y.take k++X.drop k)++M++ (X.take k++Y.drop k)++S=L at*;have CS:L.length=n:=hR.1;refine dw O ?_;refine kB [21,23] [yS (A) (n) (c),yI ((a:Int)),yI ((k:Int)),yI (((a:Int))+ ((k:Int))),yS (A) (n) (c),yI ((b:Int)),yI ((k:Int)),yI (((b:Int))+ ((k:Int))),yS (A) (n) (c),yI ((b:Int)),yI ((k:Int)),yI (((b:Int))+ ((k:Int))),yP (ay (A) ((((b:Int))+ ((k:Int))).toNat*3)),.ex ((tg (L) (((b:Int))+ ((k:Int)))).v),yS (A) (n) (c),yI ((a:Int)),yI ((k:Int)),yI (((a:Int))+ ((k:Int))),yP (ay (A) ((((a:Int))+ ((k:Int))).toNat*3)),.ex ((tg (L) (((a:Int))+ ((k:Int)))).v),yP (ay (A) ((((a:Int))+ ((k:Int))).toNat*3)),.pr (fun _ w'=>St w0 w' (eu t A n c (L.set (P.length+k) Y[k])::ks)),yP (ay (A) ((((b:Int))+ ((k:Int))).toNat*3)),.pr (fun _ w'=>St w0 w' (eu t A n c ((L.set (P.length+k) Y[k]).set (P.length+X.length+M.length+k) X[k])::ks))] (ly (ly (ly (ly (ly (ly (ly (ly (ly (ly (ly (ly (ly (ly (ly (ly (ly (ly (ly (ly (ly (de.2 ⟨Ye.dp (fun v w w' h hb=>h.aq hb),(ly (de.2 ⟨Ye.dp (fun v w w' h hb=>h.aq hb),(fun _ h=>by cases h)⟩))⟩)))))))))))))))))))))) ?_ ?_
  ·refine⟨bT O,bT O,bT O,aP fun _ _=>aH O (bE O O),bT O,bT O,bT O,aP fun _ _=>aH O (bE O O),bT O,bT O,bT O,aP fun _ _=>aH O (bE O O),cP fun _ _ hb _ _ _=>kE (hR.aq hb) O (bE O O),cP fun _ _ hb _ _ _=>oF (hR.aq hb) O (by omega) O (bE O O),bT O,bT O,bT O,aP fun _ _=>aH O (bE O O),cP fun _ _ hb _ _ _=>kE (hR.aq hb) O (bE O O),cP fun _ _ hb _ _ _=>oF (hR.aq hb) O (by omega) O (bE O O),cP fun _ _ hb _ _ _=>kE (hR.aq hb) O (bE O O),?_,?_,?_,au⟩
   ·refine kG fun e1 w1 hb hp aW hq=>?_
    exact yl 0 (aI.aq hb) O O O (by omega) fun w6 bk=>ao.n (fY.st O (zz ea gb bk))
   ·refine dP 1 fun e1 w1 hp aW hq=>?_
    have eN:=hp 21 _ _ (by kernel_rfl) O O (by kernel_rfl);have je:=eN.jT 0 O;refine kE (je) O (ao.n (iN O (by exact O)))
   refine rU 1 fun e1 w1 hp aW hq=>?_
   have eN:=hp 21 _ _ (by kernel_rfl) O O (by kernel_rfl);have je:=eN.jT 0 O;exact yl 0 eN O O O (by omega) fun w7 bG=>ao.n (fY.st O (zz eb ga bG))
  intro u w5 _ hu _ _;have aY:=hu 23 _ O (by kernel_rfl);rw [hx]at aY;refine jW O (aH O (aT O (tQ ?_)));exact⟨k+1,by show m - (k+1)<m - k;omega,(amz O),by omega,aY⟩
 have SS:k=m:=by omega
 subst SS;rw [gR (by omega),gR (by omega),List.drop_eq_nil_of_le (by omega),List.drop_eq_nil_of_le (by omega),fj,fj]at aI;refine bn O (bo (BP O ?_));exact x8 ⟨O,aI⟩
theorem aiE{A:aj}{n c:Nat}{P X Y S:List TV}{G:FuncId}(a m b:Nat)(ha:P.length=a)(hm:P.length+X.length=m)(hb:P.length+X.length+Y.length=b)(uy:0<X.length)(MO:0<Y.length)(hn:n<=4000000000000)(hS:St w0 w (eu t A n c (P++ (X++ (Y++S)))::ks)):
 aK prog 354 [.slice A n c,ak a,ak m,ak b,.func (.func G) #[] #[]] w (fun v w'=>v= .tuple #[]/\St w0 w' (eu t A n c (P++ (Y++ (X++S)))::ks)):=by
 have oT:(P++ (X++ (Y++S))).length=n:=(hS.jT 0 O).1;simp only [b8]at oT;generalize hT:P++ (Y++ (X++S))=T;refine bA func354 O ntmps354 O (Bu O) ?_;refine bg O (eh O (ar O (eh O (aC O ?_))));refine Cd.loop (α:=List TV×List TV×List TV×List TV) (fun z=> [(0,.slice A n c),(2,ak m),(4,.func (.func G) #[] #[]),(10,ak (z.2.1.length:Int)),(11,ak (z.2.2.1.length:Int))]) (fun z w'=>z.1.length+z.2.1.length=m/\0<z.2.1.length/\0<z.2.2.1.length/\z.1++ (z.2.2.1++ (z.2.1++z.2.2.2))=T/\z.1.length+ (z.2.1.length+ (z.2.2.1.length+z.2.2.2.length))=n/\St w0 w' (eu t A n c (z.1++ (z.2.1++ (z.2.2.1++z.2.2.2)))::ks)) (fun z=>z.2.1.length+z.2.2.1.length) (P,X,Y,S)
  ⟨rfl,rfl,rfl,by show Value.int .i64 ((m:Int) - (a:Int))=ak (X.length:Int);congr 1;omega,by show Value.int .i64 ((b:Int) - (m:Int))=ak (Y.length:Int);congr 1;omega,au⟩ ⟨hm,uy,MO,hT,by show P.length+ (X.length+ (Y.length+S.length))=n;omega,hS⟩ ?_
 rintro⟨P',X',Y',S'⟩ e w1 ⟨iU,mo,ma,qN,qT,aI⟩;dsimp only at iU mo ma qN qT aI|-;refine bJ O (aM _ O (fun h1=>?_) (fun h1=>?_))
 ·refine dw O (aM _ O (fun h2=>?_) (fun h2=>?_))
  ·have hj:Y'.length<=X'.length:=by omega
   obtain⟨X1,X2,rfl,Lw⟩:∃X1 X2,X'=X1++X2/\X1.length=Y'.length:=⟨X'.take Y'.length,X'.drop Y'.length,(List.take_append_drop _ _).symm,by simp;omega⟩;have hlen:(X1++X2).length=X1.length+X2.length:=b8;simp only [b8]at iU mo qT h1 h2;refine aA O (eh O (ar O ?_));refine amq (Oj (P:=P') (X:=X1) (M:=X2) (Y:=Y') (S:=S') P'.length m Y'.length O (by omega) Lw Lw hn (by simpa using aI)) O (by show [Value.slice A n c,ak ((m:Int) - ((X1++X2).length:Int)),ak m,ak (Y'.length:Int),.func (.func G) #[] #[]]=_;congr 3;simp;omega) O ?_;rintro _ w2 ⟨rfl,aE⟩;refine ar O (eh O (aT O (tQ ?_)));exact⟨(P'++Y',X2,X1,S'),by show X2.length+X1.length< (X1++X2).length+Y'.length;simp;omega,⟨O,O,O,by show Value.int .i64 _=ak _;congr 1;simp;omega,aF (fun k:Nat=>Value.int .i64 (k:Int)) Lw.symm,au⟩,by simp;omega,by show 0<X2.length;omega,by show 0<X1.length;omega,by show(P'++Y')++ (X1++ (X2++S'))=T;rw [<-qN];simp,by show(P'++Y').length+_=n;simp;omega,by simpa using aE⟩
  have hj:X'.length<Y'.length:=by omega
  obtain⟨Y1,Y2,rfl,RY⟩:∃Y1 Y2,Y'=Y1++Y2/\Y2.length=X'.length:=⟨Y'.take (Y'.length - X'.length),Y'.drop (Y'.length - X'.length),(List.take_append_drop _ _).symm,by simp;omega⟩;have hlen:(Y1++Y2).length=Y1.length+Y2.length:=b8;simp only [b8]at ma qT h1 h2 hj;refine aA O (eh O (ar O (aH O (ar O (eh O (ar O ?_))))));refine amq (Oj (P:=P') (X:=X') (M:=Y1) (Y:=Y2) (S:=S') P'.length (m+Y1.length) X'.length O (by omega) O RY.symm hn (by simpa using aI)) O (by show [Value.slice A n c,ak ((m:Int) - (X'.length:Int)),ak ((m:Int)+ ((Y1++Y2).length:Int) - (X'.length:Int)),ak (X'.length:Int),.func (.func G) #[] #[]]=_;rw [show(m:Int)+ ((Y1++Y2).length:Int) - (X'.length:Int)=((m+Y1.length:Nat):Int) by omega,show(m:Int) - (X'.length:Int)=(P'.length:Int) by omega]) O ?_;rintro _ w2 ⟨rfl,aE⟩;refine ar O (eh O (aT O (tQ ?_)));exact⟨(P',Y2,Y1,X'++S'),by show Y2.length+Y1.length<X'.length+ (Y1++Y2).length;simp;omega,⟨O,O,O,aF (fun k:Nat=>Value.int .i64 (k:Int)) RY.symm,by show Value.int .i64 _=ak _;congr 1;simp;omega,au⟩,by show P'.length+Y2.length=m;omega,by show 0<Y2.length;omega,by show 0<Y1.length;omega,by show P'++ (Y1++ (Y2++ (X'++S')))=T;rw [<-qN];simp,by show P'.length+ (Y2.length+ (Y1.length+ (X'++S').length))=n;simp;omega,by simpa using aE⟩
 have jR:X'.length=Y'.length:=by omega
 refine bn O (bo (cL O (eh O (ar O ?_))));refine amq (Oj (P:=P') (X:=X') (M:=[]) (Y:=Y') (S:=S') P'.length m X'.length O (by simpa using iU) O jR hn (by simpa using aI)) O (by show [Value.slice A n c,ak ((m:Int) - (X'.length:Int)),ak m,ak (X'.length:Int),.func (.func G) #[] #[]]=_;congr 3;omega) O ?_;rintro _ w2 ⟨rfl,aE⟩;refine aT O (x8 ?_);exact⟨O,by rw [<-qN];simpa using aE⟩
theorem TQ{A:aj}{n c:Nat}{ds:List TV}(a b:Nat)(hb:b<=n)(ha:a<=n)(hn:n<=4000000000000)(hc:∀s∈ds,pM s)(xC:∀x y,a<=x->x<y->y<b->mq (gs ds x)<mq (gs ds y))(hS:St w0 w (eu t A n c ds::ks)):
 aK prog 344 [.slice A n c,ak a,ak b,.func (.func 305) #[] #[]] w (fun v w'=>v= .tuple #[]/\∃lZ,RP ds lZ a b/\SR kT lZ a b/\St w0 w' (eu t A n c lZ::ks)):=by
 have oT:ds.length=n:=(hS.jT 0 O).1;refine bA func344 O ntmps344 O (Bu O) ?_;refine bg O (aH O (aC O ?_));refine Cd.loop (α:=Nat×List TV) (fun z=> [(0,.slice A n c),(1,ak a),(2,ak b),(3,.func (.func 305) #[] #[]),(8,ak (z.1:Int))]) (fun z w'=>a+1<=z.1/\RP ds z.2 a b/\SR kT z.2 a z.1/\(∀x,z.1<=x->gs z.2 x=gs ds x)/\(∀x y,a<=x->x<z.1->z.1<=y->y<b->mq (gs z.2 x)<mq (gs ds y))/\St w0 w' (eu t A n c z.2::ks)) (fun z=>b - z.1) (a+1,ds) (amz O) ⟨bs _,RP.refl _ _ _,SR.one _ _ (bs _),fun _ _=>O,fun x y h1 h2 h3 h4=>xC x y h1 (Nat.lt_of_lt_of_le h2 h3) h4,hS⟩ ?_;rintro⟨i,cur⟩ e w1 ⟨hi,hp,hs,aW,SZ,aI⟩;dsimp only at hi hp hs aW SZ aI|-;refine bJ O (aM _ O (fun h1=>?_) (fun h1=>?_))
 ·refine dw O ?_;refine Cd.loop (α:=Nat×List TV) (fun z=> [(0,.slice A n c),(1,ak a),(2,ak b),(3,.func (.func 305) #[] #[]),(8,ak i),(9,ak (z.1:Int))]) (fun z w'=>RP ds z.2 a b/\vI kT z.2 a i z.1/\gs z.2 z.1=gs ds i/\(∀x,i<x->gs z.2 x=gs ds x)/\(∀x y,a<=x->x<=i->x≠z.1->i<=y->y<b->mq (gs z.2 x)<mq (gs ds y))/\St w0 w' (eu t A n c z.2::ks)) (fun z=>z.1) (i,cur) (amz O) ⟨hp,vI.start hs (by omega),aW i (bs _),fun x hx=>aW x (Nat.le_of_lt hx),fun x y h3 h4 h5 h6 h7=>SZ x y h3 (by have h5:x≠i:=h5;omega) h6 h7,aI⟩ ?_;rintro⟨j,cu⟩ e w2 ⟨jr,hI,jf,Iw,Db,aE⟩;dsimp only at jr hI jf Iw Db aE|-;have dh:cu.length=n:=(aE.jT 0 O).1;have hR:=aE.jT 0 O;have SV:=hI.low;have hhigh:=hI.high;have tn:=Rl (jr.cap hc);refine bJ O ?_
  by_cases R0:a<j
  ·
   have ej:((j:Int) - 1).toNat=j - 1:=by omega
   have g1:tg cu j=gs cu j:=O;have g2:tg cu ((j:Int) - 1)=gs cu (j - 1):=by unfold tg gs;rw [ej]
   refine eo [xI ((j:Int)),xI ((a:Int)),xB (decide (((a:Int))< ((j:Int)))),xB (true),.ex (.func (.func 305) #[] #[]),xS (A) (n) (c),xI ((j:Int)),xP (ay (A) (((j:Int)).toNat*3)),.ex ((tg (cu) ((j:Int))).v),xS (A) (n) (c),xI ((j:Int)),xI (((j:Int)) - ((1:Int))),xP (ay (A) ((((j:Int)) - ((1:Int))).toNat*3)),.ex ((tg (cu) (((j:Int)) - ((1:Int)))).v),xI (rT (gs cu j) (gs cu (j - 1))),xB (decide ((rT (gs cu j) (gs cu (j - 1)))< ((0:Int)))),xB (decide ((rT (gs cu j) (gs cu (j - 1)))< ((0:Int))))] O (eL O) ?_ ?_
   ·refine⟨Dr O,Dr O,Dr O,fun _ _ _ _ _=>Dk O (by exact aF Value.bool (dM (by omega))),Dr O,Dr O,Dr O,fun _ _ hb _ _=>av O (kE (hR.aq hb) O Az),fun _ _ hb _ _=>av O (oF (hR.aq hb) O (by omega) O Az),Dr O,Dr O,fun _ _ _ _ _=>av O (eh O Az),fun _ _ hb _ _=>av O (kE (hR.aq hb) O Az),fun _ _ hb _ _=>av O (oF (hR.aq hb) O (by omega) O Az),?_,Dr O,Dr O,au⟩;intro e1 w1 hb hp aW;refine av O ?_;refine amq (GP (gs cu j) (gs cu (j - 1)) _) O (by rw [<-g2];rfl) O ?_;rintro _ w9 ⟨rfl,iV⟩;refine ao.n ?_;exact fM.dn iV.below (by exact O)
   intro u w3 fR _;have aR:=aE.aq fR;have xp:=Qd (tn j) (tn (j - 1)) (by rw [jf];exact Db (j - 1) i (by omega) (by omega) (by omega) (bs _) (by omega));refine eP O (aM _ O (fun h2=>?_) (fun h2=>?_))
   ·have iL:=aR.jT 0 O;have fW:kT (gs cu j)<kT (gs cu (j - 1)):=xp.1 h2;have KW:=fun x=>Eu (l:=cu) (i:=j) (j:=j - 1) (by omega) (by omega) x
    refine dw O ?_;refine kB [15,17] [yS (A) (n) (c),yI ((j:Int)),yS (A) (n) (c),yI ((j:Int)),yI (((j:Int)) - ((1:Int))),yS (A) (n) (c),yI ((j:Int)),yI (((j:Int)) - ((1:Int))),yP (ay (A) ((((j:Int)) - ((1:Int))).toNat*3)),.ex ((tg (cu) (((j:Int)) - ((1:Int)))).v),yS (A) (n) (c),yI ((j:Int)),yP (ay (A) (((j:Int)).toNat*3)),.ex ((tg (cu) ((j:Int))).v),yP (ay (A) (((j:Int)).toNat*3)),.pr (fun _ w'=>St w0 w' (eu t A n c (cu.set j (gs cu (j - 1)))::ks)),yP (ay (A) ((((j:Int)) - ((1:Int))).toNat*3)),.pr (fun _ w'=>St w0 w' (eu t A n c (swp cu j (j - 1))::ks))] (ly (ly (ly (ly (ly (ly (ly (ly (ly (ly (ly (ly (ly (ly (ly (de.2 ⟨Ye.dp (fun v w w' h hb=>h.aq hb),(ly (de.2 ⟨Ye.dp (fun v w w' h hb=>h.aq hb),(fun _ h=>by cases h)⟩))⟩)))))))))))))))) ?_ ?_
    ·refine⟨bT O,bT O,bT O,bT O,aP fun _ _=>eh O (bE O O),bT O,bT O,aP fun _ _=>eh O (bE O O),cP fun _ _ hb _ _ _=>kE (iL.aq hb) O (bE O O),cP fun _ _ hb _ _ _=>oF (iL.aq hb) O (by omega) O (bE O O),bT O,bT O,cP fun _ _ hb _ _ _=>kE (iL.aq hb) O (bE O O),cP fun _ _ hb _ _ _=>oF (iL.aq hb) O (by omega) O (bE O O),cP fun _ _ hb _ _ _=>kE (iL.aq hb) O (bE O O),?_,?_,?_,au⟩
     ·refine kG fun e1 w1 hb hp aW hq=>?_
      exact yl 0 (aR.aq hb) O O O (by omega) fun w6 bk=>ao.n (fY.st O (zz (i:=(j:Int)) O g2 bk))
     ·refine dP 1 fun e1 w1 hp aW hq=>?_
      have eN:=hp 15 _ _ (by kernel_rfl) O O (by kernel_rfl);have je:=eN.jT 0 O;have E2:(cu.set j (gs cu (j - 1))).length=n:=by rw [lT];exact dh
      refine kE (je) O (ao.n (iN O (by exact O)))
     refine rU 1 fun e1 w1 hp aW hq=>?_
     have eN:=hp 15 _ _ (by kernel_rfl) O O (by kernel_rfl);have je:=eN.jT 0 O;have E2:(cu.set j (gs cu (j - 1))).length=n:=by rw [lT];exact dh
     exact yl 0 eN O O O (by omega) fun w7 bG=>ao.n (fY.st O (zz ej g1 bG))
    intro u w5 _ hu _ _;have aY:=hu 17 _ O (by kernel_rfl);refine jW O (eh O (aT O (tQ ?_)));exact⟨(j - 1,swp cu j (j - 1)),by show j - 1<j;omega,⟨O,O,O,O,O,by show Value.int .i64 _=ak _;congr 1;omega,au⟩,jr.trans (Ol (by omega) (by omega) (Nat.le_of_lt R0) (by omega) (by omega) (by omega)) (bs _) (bs _),hI.next R0 (by omega) fW,by show gs (swp cu j (j - 1)) (j - 1)=_;rw [KW,aB O];exact jf,fun x hx=>by rw [KW,az (by omega),az (by omega)];exact Iw x hx,fun x y h3 h4 h5 h6 h7=>by { have h5:x≠j - 1:=h5;rw [KW,az h5];by_cases e:x=j; { rw [aB e];exact Db (j - 1) y (by omega) (by omega) (by omega) h6 h7 }; { rw [az e];exact Db x y h3 h4 e h6 h7 } },aY⟩
   refine bn O (bo (cL O (aH O (aT O (tQ ?_)))));exact⟨(i+1,cu),by show b - (i+1)<b - i;omega,(amz O),by show a+1<=i+1;omega,jr,hI.stop (.inr (Int.not_lt.1 fun h=>h2 (xp.2 h))),fun x hx=>Iw x (by have hx:i+1<=x:=hx;omega),fun x y h3 h4 h5 h6=>by { have h4:x<i+1:=h4;have h5:i+1<=y:=h5;by_cases e:x=j; { rw [e,jf];exact xC i y (by omega) (by omega) h6 }; { exact Db x y h3 (by omega) e (by omega) h6 } },aR⟩
  refine eo [xI ((j:Int)),xI ((a:Int)),xB (decide (((a:Int))< ((j:Int)))),xB (false),xU,xU,xU,xU,xU,xU,xU,xU,xU,xU,xU,xU,xB (false)] O (eL O) ?_ ?_
  ·exact⟨Dr O,Dr O,Dr O,fun _ _ _ _ _=>Dk O (by exact aF Value.bool (cj (by omega))),Dr O,Dr O,Dr O,Dr O,Dr O,Dr O,Dr O,Dr O,Dr O,Dr O,Dr O,Dr O,Dr O,au⟩
  intro u w3 fR _;have aR:=aE.aq fR;refine eP O (Cd.fC O ?_);refine bn O (bo (cL O (aH O (aT O (tQ ?_)))));exact⟨(i+1,cu),by show b - (i+1)<b - i;omega,(amz O),by show a+1<=i+1;omega,jr,hI.stop (.inl (by omega)),fun x hx=>Iw x (by have hx:i+1<=x:=hx;omega),fun x y h3 h4 h5 h6=>by { have h4:x<i+1:=h4;have h5:i+1<=y:=h5;by_cases e:x=j; { rw [e,jf];exact xC i y (by omega) (by omega) h6 }; { exact Db x y h3 (by omega) e (by omega) h6 } },aR⟩
 refine bn O (bo (BP O ?_));exact x8 ⟨O,cur,hp,hs.sub (bs _) (by omega),aI⟩
end Go.Proofs.YtkccgdhcpplblaaGreatDoor.Vc.TS
namespace Go.Proofs.YtkccgdhcpplblaaGreatDoor.Vc
open TS Tryz
def pb(m1 m2:Nat)(kind:Int)(a b:Int):Prop:=
 if kind=1 then(a=0\/b=0\/(a=(m1:Int) - 1/\b=(m2:Int) - 1))else if kind=2 then(a=(m1:Int) - 1\/b=(m2:Int) - 1\/(a=0/\b=0))else((a=0/\b=0)\/(a=(m1:Int) - 1/\b=(m2:Int) - 1))
instance (m1 m2:Nat)(kind a b:Int):Decidable (pb m1 m2 kind a b):=by unfold pb;infer_instance
def vT(m1 m2:Nat)(kind:Int)(a:Int)(b:Nat):List (Int×Int):=((bS b).filter fun b=>decide (¬pb m1 m2 kind a b)).map fun b=> (a,b)
def gB(m1 m2:Nat)(kind:Int)(a b:Nat):List (Int×Int):=(bS a).flatMap (fun a=>vT m1 m2 kind a m2)++vT m1 m2 kind a b
def rA(rk1 rk2:Int->Int)(kind:Int)(c:Int×Int):TV:=⟨c.1,c.2,dd rk1 rk2 kind c⟩
section
variable {m1 m2:Nat} {kind:Int} {n1 n2:Int} {rk1 rk2:Int->Int} {cV cJ:Int->Int->Prop}
theorem vB(n:Nat):bS (n+1)=bS n++ [(n:Int)]:=by
 unfold bS;rw [jB,iD];rfl
theorem Gy(a:Int):vT m1 m2 kind a 0=[]:=rfl
theorem JR(a:Nat):gB m1 m2 kind (a+1) 0=gB m1 m2 kind a m2:=by
 unfold gB;rw [vB,List.flatMap_append,Gy,fj];simp
theorem XU{a b:Nat}(h:¬pb m1 m2 kind a b):gB m1 m2 kind a (b+1)=gB m1 m2 kind a b++ [((a:Int),(b:Int))]:=by
 unfold gB vT;rw [vB,rJ,iD,gx];simp [h]
theorem XV{a b:Nat}(h:pb m1 m2 kind a b):gB m1 m2 kind a (b+1)=gB m1 m2 kind a b:=by
 unfold gB vT;rw [vB,rJ,iD];simp [h]
theorem Pl(a:Int)(b:Nat):(vT m1 m2 kind a b).length<=b:=by
 unfold vT;rw [fO];refine nU (rL _ _) ?_;rw [bS,fO,qB];exact bs _
theorem Pk:∀a b:Nat,b<=m2->(gB m1 m2 kind a b).length<=a*m2+b:=by
 intro a
 induction a with
 | zero=>intro b hb;have:=Pl (m1:=m1) (m2:=m2) (kind:=kind) ((0:Nat):Int) b;simpa [gB,bS]using this
 | succ a ih=>
  intro b hb;have h1:=ih m2 (bs _);rw [<-JR]at h1;have h2:=Pl (m1:=m1) (m2:=m2) (kind:=kind) ((a+1:Nat):Int) b;unfold gB at h1|-;rw [Gy,fj]at h1;rw [b8,Nat.succ_mul];omega
theorem JP{c:Int×Int}:c∈gB m1 m2 kind m1 0↔(0<=c.1/\c.1<m1)/\(0<=c.2/\c.2<m2)/\¬pb m1 m2 kind c.1 c.2:=by
 unfold gB;rw [Gy,fj,List.mem_flatMap];unfold vT;constructor
 ·rintro⟨a,ha,h⟩;obtain⟨b,hb,rfl⟩:=dA.1 h;rw [gg,jU,lg]at hb;exact⟨(jU _ _).1 ha,hb.1,hb.2⟩
 rintro⟨h1,h2,h3⟩;exact⟨c.1,(jU _ _).2 h1,dA.2 ⟨c.2,gg.2 ⟨(jU _ _).2 h2,dM h3⟩,O⟩⟩
theorem JQ(h:m2<=1000):(gB m1 m2 kind m1 0).Pairwise fun c d=>c.1*1000+c.2<d.1*1000+d.2:=by
 unfold gB;rw [Gy,fj];refine List.pairwise_flatMap.2 ⟨fun a _=>?_,(mf m1).imp_of_mem fun {a a'} ha yL fW x hx y hy=>?_⟩
 ·unfold vT;refine pd.2 (((mf m2).filter _).imp fun h=>?_);show a*1000+_<a*1000+_;omega
 unfold vT at hx hy;obtain⟨b,hb,rfl⟩:=dA.1 hx;obtain⟨b',vc,rfl⟩:=dA.1 hy;have h1:=(jU _ _).1 (gg.1 hb).1;have h2:=(jU _ _).1 (gg.1 vc).1;show a*1000+b<a'*1000+b';omega
theorem Uj(h1:fK m1 n1 rk1 cV)(h2:fK m2 n2 rk2 cJ)(hk:0<=kind/\kind<=2){k:Nat}(hn:(k:Int)=iC n1 n2 kind){c:Int×Int}:((0<=c.1/\c.1<m1)/\(0<=c.2/\c.2<m2)/\¬pb m1 m2 kind c.1 c.2)↔∃i:Nat,i<k/\mG m1 m2 rk1 rk2 kind i c:=by
 have z1:=h1.r0;have z2:=h2.r0;have t1:=h1.rt;have t2:=h2.rt;have w1:=h1.two;have w2:=h2.two;have m1n:=h1.n0;have m2n:=h2.n0;obtain⟨a,b⟩:=c;show((0<=a/\a<m1)/\(0<=b/\b<m2)/\¬pb m1 m2 kind a b)↔∃i:Nat,i<k/\(0<=a/\a<m1)/\(0<=b/\b<m2)/\rk1 a+rk2 b+fe kind=i/\¬((kind=1/\(a=0\/b=0))\/(kind=2/\(a=(m1:Int) - 1\/b=(m2:Int) - 1)));unfold iC at hn;constructor
 ·rintro⟨ha,hb,hl⟩;have ra:=h1.gO ha;have rb:=h2.gO hb;have za:=fun h=>h1.zero ha h;have zb:=fun h=>h2.zero hb h
  have ta:=fun h=>h1.whole ha h;have tb:=fun h=>h2.whole hb h
  unfold pb at hl;unfold fe
  by_cases k1:kind=1
  ·rw [aB k1]at hl;rw [az (by omega)]at hn;refine⟨(rk1 a+rk2 b).toNat,?_,ha,hb,?_,by omega⟩
   ·have:¬(rk1 a=n1/\rk2 b=n2):=fun h=>hl (.inr (.inr ⟨ta h.1,tb h.2⟩))
    omega
   rw [aB k1];have:rk1 a≠ -1:=fun h=>hl (.inl (za h))
   have:rk2 b≠ -1:=fun h=>hl (.inr (.inl (zb h)))
   omega
  rw [az k1]at hl|-
  by_cases k2:kind=2
  ·rw [aB k2]at hl;rw [az (by omega)]at hn;have q1:rk1 a≠n1:=fun h=>hl (.inl (ta h))
   have q2:rk2 b≠n2:=fun h=>hl (.inr (.inl (tb h)))
   have q3:¬(rk1 a= -1/\rk2 b= -1):=fun h=>hl (.inr (.inr ⟨za h.1,zb h.2⟩))
   exact⟨(rk1 a+rk2 b+1).toNat,by omega,ha,hb,by omega,by omega⟩
  rw [az k2]at hl;rw [aB (by omega)]at hn;have q3:¬(rk1 a= -1/\rk2 b= -1):=fun h=>hl (.inl ⟨za h.1,zb h.2⟩)
  have q4:¬(rk1 a=n1/\rk2 b=n2):=fun h=>hl (.inr ⟨ta h.1,tb h.2⟩)
  exact⟨(rk1 a+rk2 b+1).toNat,by omega,ha,hb,by omega,by omega⟩
 rintro⟨i,hi,ha,hb,hr,he⟩;refine⟨ha,hb,fun hl=>?_⟩;have ra:=h1.gO ha;have rb:=h2.gO hb;unfold fe at hr;unfold pb at hl
 by_cases k1:kind=1
 ·rw [aB k1]at hl hr;rw [az (by omega)]at hn;rcases hl with h | h | ⟨h,h'⟩
  ·exact he (.inl ⟨k1,.inl h⟩)
  ·exact he (.inl ⟨k1,.inr h⟩)
  rw [h,h',t1,t2]at hr;omega
 rw [az k1]at hl hr
 by_cases k2:kind=2
 ·rw [aB k2]at hl;rcases hl with h | h | ⟨h,h'⟩
  ·exact he (.inr ⟨k2,.inl h⟩)
  ·exact he (.inr ⟨k2,.inr h⟩)
  rw [h,h',z1,z2]at hr;omega
 rw [az k2]at hl;rw [aB (by omega)]at hn;rcases hl with⟨h,h'⟩ | ⟨h,h'⟩
 ·rw [h,h',z1,z2]at hr;omega
 rw [h,h',t1,t2]at hr;omega
end
theorem U7{α:Type}(k:α->Int):∀ {l' l:List α},l.Perm l'->l.Pairwise (fun x y=>k x<=k y)->l'.Pairwise (fun x y=>k x<k y)->l=l'
 | [],l,h,_,_=>h.eq_nil
 | b::r',l,h,h1,h2=>by
  cases l with
  | nil=>exact absurd h.symm.eq_nil (by simp)
  | cons a r=>
   have eB:a=b:=by
    have ha:a∈b::r':=h.subset (List.mem_cons_self ..);have hb:b∈a::r:=h.symm.subset (List.mem_cons_self ..);rcases iP.1 ha with e | e
    ·exact e
    ·have h3:=(List.pairwise_cons.1 h2).1 a e;rcases iP.1 hb with e' | e'
     ·exact e'.symm
     ·have h4:=(List.pairwise_cons.1 h1).1 b e';omega
   subst eB;rw [U7 k (h.cons_inv) (List.pairwise_cons.1 h1).2 (List.pairwise_cons.1 h2).2]
theorem ah3{m1 m2:Nat}{rk1 rk2:Int->Int}{kind:Int}{i:Int}(h:m2<=1000):(Bv m1 m2 rk1 rk2 kind i).Pairwise fun c d=>c.1*1000+c.2<d.1*1000+d.2:=by
 unfold Bv;refine List.pairwise_flatMap.2 ⟨fun a _=>?_,(mf m1).imp_of_mem fun {a a'} ha yL fW x hx y hy=>?_⟩
 ·refine pd.2 (((mf m2).filter _).imp fun h=>?_);show a*1000+_<a*1000+_;omega
 obtain⟨b,hb,rfl⟩:=dA.1 hx;obtain⟨b',vc,rfl⟩:=dA.1 hy;have h1:=(jU _ _).1 (gg.1 hb).1;have h2:=(jU _ _).1 (gg.1 vc).1;show a*1000+b<a'*1000+b';omega
theorem Vk{m1 m2:Nat}{rk1 rk2:Int->Int}{kind:Int}(h:m2<=1000)(h1:m1<=1000):∀k:Nat,((ck m1 m2 rk1 rk2 kind k).map (rA rk1 rk2 kind)).Pairwise fun x y=>kT x<kT y
 | 0=>List.Pairwise.nil
 | k+1=>by
  rw [ck,iD,List.pairwise_append];refine⟨Vk h h1 k,pd.2 ((ah3 h).imp_of_mem fun {c d} hc hd fW=>?_),fun x hx y hy=>?_⟩
  ·have e1:=(zv.1 hc).2.2.1;have e2:=(zv.1 hd).2.2.1;show(dd rk1 rk2 kind c)*1000000+ (c.1*1000+c.2)< (dd rk1 rk2 kind d)*1000000+ (d.1*1000+d.2);omega
  ·obtain⟨c,hc,rfl⟩:=dA.1 hx;obtain⟨d,hd,rfl⟩:=dA.1 hy;obtain⟨i,hi,hc⟩:=tF.1 hc;have hd:=zv.1 hd;have e1:=hc.2.2.1;have e2:=hd.2.2.1;have:=hc.1;have:=hc.2.1;have:=hd.1;have:=hd.2.1;show(dd rk1 rk2 kind c)*1000000+ (c.1*1000+c.2)< (dd rk1 rk2 kind d)*1000000+ (d.1*1000+d.2);omega
theorem XT{m1 m2:Nat}{kind:Int}{n1 n2:Int}{rk1 rk2:Int->Int}{cV cJ:Int->Int->Prop}(h1:fK m1 n1 rk1 cV)(h2:fK m2 n2 rk2 cJ)(hk:0<=kind/\kind<=2){k:Nat}(hn:(k:Int)=iC n1 n2 kind)(tt:m2<=1000):(gB m1 m2 kind m1 0).Perm (ck m1 m2 rk1 rk2 kind k):=by
 refine(vJ ?_ (FO k)).2 fun c=>?_
 ·exact(JQ tt).imp fun h e=>by rw [e]at h;omega
 rw [JP,tF];exact Uj h1 h2 hk hn
theorem ajy(f:Int×Int->TV)(L:List (Int×Int)){i:Nat}(h:i<L.length):tg (L.map f) i=f (gp L i):=by
 rw [ub h];unfold tg;rw [jc,da,fZ (by simpa using h),Option.getD_some,List.getElem_map]
theorem ajz(L:List TV){i j:Nat}(h:j<i)(hi:i<=L.length):tg (L.take i) j=tg L j:=by
 unfold tg;rw [jc,da,da,List.getElem?_take_of_lt h]
theorem aje{m1 m2:Nat}{kind:Int}{n1 n2:Int}{rk1 rk2:Int->Int}{cV cJ:Int->Int->Prop}(h1:fK m1 n1 rk1 cV)(h2:fK m2 n2 rk2 cJ)(hk:0<=kind/\kind<=2){k:Nat}(hn:(k:Int)=iC n1 n2 kind)(AK:m1<=1000)(tt:m2<=1000){ds:List TV}(hp:ds.Perm ((gB m1 m2 kind m1 0).map (rA rk1 rk2 kind)))(hs:SR kT ds 0 ds.length):ds=(ck m1 m2 rk1 rk2 kind k).map (rA rk1 rk2 kind):=by
 have hP:(gB m1 m2 kind m1 0).Perm (ck m1 m2 rk1 rk2 kind k):=by
  refine(vJ ?_ (FO k)).2 fun c=>?_
  ·exact(JQ tt).imp fun h e=>by rw [e]at h;omega
  rw [JP,tF];exact Uj h1 h2 hk hn
 refine U7 kT (hp.trans (hP.map _)) ?_ (Vk tt AK k);refine List.pairwise_iff_getElem.2 fun i j hi hj ig=>?_
 have:=hs i j (aZ _) ig hj
 rwa [ti hi,ti hj]at this
theorem XS(m1 m2:Nat)(kind:Int)(rk1 rk2:Int->Int)(AK:m1<=1000)(tt:m2<=1000):(∀s∈(gB m1 m2 kind m1 0).map (rA rk1 rk2 kind),pM s)/\∀x y,x<y->y< ((gB m1 m2 kind m1 0).map (rA rk1 rk2 kind)).length->mq (gs ((gB m1 m2 kind m1 0).map (rA rk1 rk2 kind)) x)<mq (gs ((gB m1 m2 kind m1 0).map (rA rk1 rk2 kind)) y):=by
 constructor
 ·intro s hs;obtain⟨c,hc,rfl⟩:=dA.1 hs;have:=JP.1 hc;show(0<=c.1/\c.1<1000)/\0<=c.2/\c.2<1000;omega
 intro x y jR hy;rw [ti (by omega),ti hy,List.getElem_map,List.getElem_map];rw [fO]at hy;exact List.pairwise_iff_getElem.1 (JQ (m1:=m1) (kind:=kind) tt) x y (by omega) hy jR
end Go.Proofs.YtkccgdhcpplblaaGreatDoor.Vc
namespace Go.Proofs.YtkccgdhcpplblaaGreatDoor.Vc
open Tryz
def DW(m:Nat)(n:Int)(rk:Int->Int)(ib:Int->Int->Prop):Prop:=∃z:Int->Int,∀i:Int,-1<=i->i<=n->(0<=z i/\z i<m)/\rk (z i)=i/\∀j:Int,i<=j->j<=n->ib (z i) (z j)
theorem GO{n:Nat}{R:ai}{B:ah}(h:gr n R B)(hf:aG n R B≠[]):DW (R.length+2) n (gi (gU n R)) (eX R.length B):=by
 have hn:=h.n1;have sB:1<=n:=by omega
 obtain⟨x,hx⟩:=List.exists_mem_of_ne_nil _ hf;obtain⟨hl,ha,hb⟩:=(pS sB).1 hx;have eB:∀i j:Nat,i<j->j<n->gi x i∈gl B (gi x j):=by
  intro i j ig
  induction j with
  | zero=>omega
  | succ j ih=>
   intro hj;have h1:=hb j (by omega)
   by_cases e:i=j
   ·subst e;exact h1
   ·have h2:=ih (by omega) (by omega);have h3:=ha (j+1) (by omega);exact(h.at_ (e:=gi x ((j+1:Nat):Int)) h3.1.1 h3.1.2).2.2 _ h1 _ h2
 have key:∀i:Int,0<=i->i<n->0<=gi x i/\gi x i<R.length/\gi R (gi x i)=i:=fun i h0 h1=>by
  obtain⟨k,rfl⟩:∃k:Nat,i=k:=⟨i.toNat,by omega⟩;have:=ha k (by omega);exact⟨this.1.1,this.1.2,this.2⟩
 have ju:∀i j:Int,0<=i->i<j->j<n->gi x i∈gl B (gi x j):=fun i j h0 h1 h2=>by
  obtain⟨k,rfl⟩:∃k:Nat,i=k:=⟨i.toNat,by omega⟩;obtain⟨q,rfl⟩:∃q:Nat,j=q:=⟨j.toNat,by omega⟩;exact eB k q (by omega) (by omega)
 refine⟨fun i=>if i<0 then 0 else if i<n then gi x i+1 else(R.length:Int)+1,fun i h0 h1=>?_⟩
 by_cases c0:i<0
 ·have e:i= -1:=by omega
  subst e;refine⟨by show(0:Int)<=(if(-1:Int)<0 then 0 else _)/\(if(-1:Int)<0 then 0 else _)<_;rw [aB (by omega)];omega,by show gi _ (if(-1:Int)<0 then 0 else _)=_;rw [aB (by omega)];rfl,fun j _ _=>by show eX _ _ (if(-1:Int)<0 then 0 else _) _;rw [aB (by omega)];exact .inr (.inl O)⟩
 by_cases c1:i<n
 ·have hk:=key i (by omega) c1;have hz:(if i<0 then 0 else if i<n then gi x i+1 else(R.length:Int)+1)=gi x i+1:=by rw [az c0,aB c1]
  refine⟨by show(0:Int)<=(if i<0 then 0 else if i<n then gi x i+1 else(R.length:Int)+1)/\(if i<0 then 0 else if i<n then gi x i+1 else(R.length:Int)+1)<_;rw [hz];omega,by show gi _ (if i<0 then 0 else if i<n then gi x i+1 else(R.length:Int)+1)=_;rw [hz,yw _ _ (by omega) (by omega),Int.add_sub_cancel];exact hk.2.2,fun j hj oR=>?_⟩;show eX _ _ (if i<0 then 0 else if i<n then gi x i+1 else(R.length:Int)+1) (if j<0 then 0 else if j<n then gi x j+1 else(R.length:Int)+1);rw [hz,az (by omega)]
  by_cases c2:j<n
  ·rw [aB c2]
   by_cases e:i=j
   ·subst e;exact .inl rfl
   ·have kq:=key j (by omega) c2;exact .inr (.inr (.inr ⟨by omega,by omega,by omega,by omega,by rw [Int.add_sub_cancel,Int.add_sub_cancel];exact ju i j (by omega) (by omega) c2⟩))
  ·rw [az c2];exact .inr (.inr (.inl rfl))
 ·have e:i=n:=by omega
  have hz:(if i<0 then 0 else if i<n then gi x i+1 else(R.length:Int)+1)=(R.length:Int)+1:=by rw [az c0,az c1]
  refine⟨by show(0:Int)<=(if i<0 then 0 else if i<n then gi x i+1 else(R.length:Int)+1)/\(if i<0 then 0 else if i<n then gi x i+1 else(R.length:Int)+1)<_;rw [hz];omega,by show gi _ (if i<0 then 0 else if i<n then gi x i+1 else(R.length:Int)+1)=_;rw [hz,Eh];exact e.symm,fun j hj oR=>?_⟩;obtain rfl:j=i:=by omega
  exact .inl O
section
variable {m1 m2:Nat} {n1 n2:Int} {rk1 rk2:Int->Int} {cV cJ:Int->Int->Prop} [DecidableRel cV] [DecidableRel cJ] {kind:Int}
theorem Vn(h1:fK m1 n1 rk1 cV)(h2:fK m2 n2 rk2 cJ)(c1:DW m1 n1 rk1 cV)(c2:DW m2 n2 rk2 cJ)(oj:0<=kind/\kind<=2){k:Nat}(hk:(k:Int)=iC n1 n2 kind)(jG:1<=k)(yX:1<=n1/\(1<=n2\/kind=0)):
 aG k ((ck m1 m2 rk1 rk2 kind k).map (dd rk1 rk2 kind)) (pG cV cJ (ck m1 m2 rk1 rk2 kind k))≠[]:=by
 obtain⟨z1,IC⟩:=c1;obtain⟨z2,TM⟩:=c2;have sB:=h1.n0;have Dc:=h2.n0;have r10:=h1.r0;have r1t:=h1.rt;have r20:=h2.r0;have r2t:=h2.rt;obtain⟨t,ht⟩:∃t:Int,t=if kind=2 then n1 - 1 else n1:=⟨_,rfl⟩
 obtain⟨s,hs⟩:∃s:Int,s=if kind=1 then 0 else -1:=⟨_,rfl⟩
 obtain⟨p,hpd⟩:∃p:Nat->Int,p=fun i:Nat=>if(i:Int)<=t then(i:Int)else t:=⟨_,rfl⟩
 obtain⟨q,hqd⟩:∃q:Nat->Int,q=fun i:Nat=>if(i:Int)<=t then s else s+ ((i:Int) - t):=⟨_,rfl⟩
 have hp:∀i:Nat,p i=if(i:Int)<=t then(i:Int)else t:=fun i=>by rw [hpd]
 have hq:∀i:Nat,q i=if(i:Int)<=t then s else s+ ((i:Int) - t):=fun i=>by rw [hqd]
 have uo:∀i:Nat,i<k->(-1<=p i/\p i<=n1)/\(-1<=q i/\q i<=n2)/\p i+q i+fe kind=i/\(kind=1->0<=p i/\0<=q i)/\(kind=2->p i<n1/\q i<n2):=fun i hi=>by
  rw [hp,hq];rcases(show kind=0\/kind=1\/kind=2 by omega)with rfl | rfl | rfl
  ·simp only [iC,aB]at hk;simp only [fe]at*;simp at ht hs
   split<;>simp<;>omega
  ·simp only [iC]at hk;simp only [fe]at*;simp at ht hs hk
   split<;>simp<;>omega
  simp only [iC]at hk;simp only [fe]at*;simp at ht hs hk
  split<;>simp<;>omega
 have yW:∀i:Nat,p i<=p (i+1)/\q i<=q (i+1):=fun i=>by
  rw [hp,hq,hp,hq]
  split<;>split<;>omega
 have jf:∀i:Nat,i<k->mG m1 m2 rk1 rk2 kind i (z1 (p i),z2 (q i)):=fun i hi=>by
  have h:=uo i hi;have a:=IC (p i) h.1.1 h.1.2;have b:=TM (q i) h.2.1.1 h.2.1.2;refine⟨a.1,b.1,by show rk1 (z1 (p i))+rk2 (z2 (q i))+fe kind=i;rw [a.2.1,b.2.1];exact h.2.2.1,fun hx=>?_⟩;rcases hx with⟨k1,e | e⟩ | ⟨k2,e | e⟩
  ·have e:z1 (p i)=0:=e;have:=a.2.1;rw [e,r10]at this;have:=(h.2.2.2.1 k1).1;omega
  ·have e:z2 (q i)=0:=e;have:=b.2.1;rw [e,r20]at this;have:=(h.2.2.2.1 k1).2;omega
  ·have e:z1 (p i)=(m1:Int) - 1:=e;have:=a.2.1;rw [e,r1t]at this;have:=(h.2.2.2.2 k2).1;omega
  have e:z2 (q i)=(m2:Int) - 1:=e;have:=b.2.1;rw [e,r2t]at this;have:=(h.2.2.2.2 k2).2;omega
 have hex:∀i:Nat,∃e:Int,i<k->(0<=e/\e< (ck m1 m2 rk1 rk2 kind k).length)/\gp (ck m1 m2 rk1 rk2 kind k) e=(z1 (p i),z2 (q i)):=fun i=>by
  by_cases hi:i<k
  ·obtain⟨e,h,h'⟩:=Ks hi (jf i hi);exact⟨e,fun _=> ⟨h,h'⟩⟩
  exact⟨0,fun h=>absurd h hi⟩
 obtain⟨E,hE⟩:=Classical.axiomOfChoice hex;have hE:∀i:Nat,i<k->(0<=E i/\E i< (ck m1 m2 rk1 rk2 kind k).length)/\gp (ck m1 m2 rk1 rk2 kind k) (E i)=(z1 (p i),z2 (q i)):=hE;have gv:∀i:Nat,i<k->gi ((List.range k).map E) i=E i:=fun i hi=>by
  rw [b9 (by simpa using hi),List.getElem_map,List.getElem_range]
 have hm:(List.range k).map E∈aG k ((ck m1 m2 rk1 rk2 kind k).map (dd rk1 rk2 kind)) (pG cV cJ (ck m1 m2 rk1 rk2 kind k)):=by
  refine(pS jG).2 ⟨by simp,fun i hi=>?_,fun i hi=>?_⟩
  ·rw [gv i hi,fO];have h:=hE i hi;refine⟨h.1,?_⟩;rw [Bw h.1.1 h.1.2,h.2];exact(jf i hi).2.2.1
  rw [gv i (by omega),gv (i+1) hi];have h:=hE i (by omega);have h':=hE (i+1) hi;rw [wE h'.1.1 h'.1.2,vz h1 h2 h'.1];have b0:=uo i (by omega);have b1:=uo (i+1) hi;have hm:=yW i;refine⟨h.1,fun e=>?_,?_,?_⟩
  ·have e2:=h'.2;rw [<-e,h.2]at e2;have r1:=(jf i (by omega)).2.2.1;have r2:=(jf (i+1) hi).2.2.1;rw [e2,r2]at r1;omega
  ·rw [h.2,h'.2];exact(IC (p i) b0.1.1 b0.1.2).2.2 (p (i+1)) hm.1 b1.1.2
  rw [h.2,h'.2];exact(TM (q i) b0.2.1.1 b0.2.1.2).2.2 (q (i+1)) hm.2 b1.2.1.2
 intro h;rw [h]at hm;cases hm
end
end Go.Proofs.YtkccgdhcpplblaaGreatDoor.Vc
namespace Go.Proofs.YtkccgdhcpplblaaGreatDoor.Vc
open Go.RowKit Go.MapKept Tryz
structure sV{κ:Type}(d:TypeDesc)(kv:κ->ad):Prop where
 isKey:∀a,IsKey d (kv a)
 inj:∀a b,kv a=kv b->a=b
theorem Bn:sV .string Value.string:=⟨fun _=>au,fun a b h=>by injection h⟩
section
variable {κ ν:Type} [DecidableEq κ]
def dL:List (κ×ν)->κ->Option ν
 | [],_=>none
 | (y,v)::r,x=>if y=x then some v else dL r x
def eO:List (κ×ν)->κ->ν->List (κ×ν)
 | [],x,v=> [(x,v)]
 | (y,u)::r,x,v=>if y=x then(x,v)::r else(y,u)::eO r x v
def kI:List (κ×ν)->κ->Option (Nat×ν)
 | [],_=>none
 | (y,v)::r,x=>if y=x then some (0,v)else(kI r x).map fun p=> (p.1+1,p.2)
theorem KC:∀(L:List (κ×ν)) (x:κ),dL L x=(kI L x).map (·.2)
 | [],_=>rfl
 | (y,v)::r,x=>by
  simp only [dL,kI]
  split
  ·rfl
  ·rw [KC r x,Option.map_map];rfl
theorem KE:∀ {L:List (κ×ν)} {x:κ} {j:Nat} {v:ν},kI L x=some (j,v)->L[j]?=some (x,v)/\∀u,eO L x u=L.set j (x,u)
 | (y,w)::r,x,j,v,h=>by
  simp only [kI]at h
  split at h
  ·rename_i e;simp only [mJ,Prod.mk.injEq]at h;obtain⟨rfl,rfl⟩:=h;subst e;exact⟨O,fun u=>by simp [eO]⟩
  ·rename_i e;cases hf:kI r x with
   | none=>simp [hf]at h
   | some p=>
    simp only [hf,Option.map_some,mJ,Prod.mk.injEq]at h;obtain⟨rfl,rfl⟩:=h;obtain⟨h1,h2⟩:=KE (L:=r) (x:=x) (j:=p.1) (v:=p.2) hf;exact⟨by simpa using h1,fun u=>by simp only [eO,az e,h2 u,List.set_cons_succ]⟩
theorem KD:∀ {L:List (κ×ν)} {x:κ},kI L x=none->∀u,eO L x u=L++ [(x,u)]
 | [],x,_,u=>rfl
 | (y,w)::r,x,h,u=>by
  simp only [kI]at h
  split at h
  ·cases h
  ·rename_i e;rw [Option.map_eq_none_iff]at h;simp only [eO,az e,KD h u,List.cons_append]
theorem Et(L:List (κ×ν))(x y:κ)(u:ν):dL (eO L x u) y=if x=y then some u else dL L y:=by
 induction L with
 | nil=>simp only [eO,dL]
 | cons p r ih=>
  obtain⟨z,w⟩:=p;simp only [eO]
  by_cases e:z=x
  ·subst e;rw [aB rfl];simp only [dL]
   split<;>simp_all
  ·rw [az e];simp only [dL,ih]
   by_cases e2:z=y
   ·subst e2;rw [aB rfl,az (fun h=>e h.symm),aB rfl]
   ·rw [az e2,az e2]
def dY(kv:κ->ad)(vv:ν->ad)(L:List (κ×ν)):List (ad×ad):=L.map fun p=> (kv p.1,vv p.2)
theorem G8{d:TypeDesc}{kv:κ->ad}{vv:ν->ad}(K:sV d kv)(x:κ):∀(l:List MapEntry) (L:List (κ×ν)) (i:Nat),l.map (fun e=> (e.key,e.val))=dY kv vv L->Instr.findNow d (kv x) l i=some ((kI L x).map fun p=> (i+p.1,vv p.2))
 | [],[],_,_=>rfl
 | [],_::_,_,h=>by simp [dY]at h
 | _::_,[],_,h=>by simp [dY]at h
 | e::l,(y,v)::L,i,h=>by
  simp only [dY,List.map_cons,List.cons.injEq,Prod.mk.injEq]at h;obtain⟨⟨h1,h2⟩,h3⟩:=h;obtain⟨r,hr,SM⟩:=sameNow_of_keys (K.isKey x) (K.isKey y);simp only [Instr.findNow,kI];rw [h1,hr];cases r with
  | true=>
   have e1:=K.inj _ _ (SM.1 O);subst e1;simp [h2]
  | false=>
   have bU:¬y=x:=fun q=>by
    have:=SM.2 (by rw [q]);cases this
   rw [az bU];simp only;rw [G8 K x l L (i+1) h3,Option.map_map]
   congr 2
   funext p;simp only [Function.comp];rw [Nat.add_assoc,Nat.add_comm 1]
end
theorem Uu{es:Array MapEntry}{cl:Nat}(h:uC es cl)(k v:ad):uC (es.push ⟨k,v,cl⟩) (cl+1):=by
 refine⟨fun x hx=>?_,?_⟩
 ·rw [Array.toList_push,kj]at hx;rcases hx with hx | hx
  ·exact Nat.lt_succ_of_lt (h.1 x hx)
  rw [gG]at hx;subst hx;exact Nat.lt_succ_self _
 rw [Array.toList_push,iD,List.nodup_append];refine⟨h.2,by simp,fun a ha b hb=>?_⟩;obtain⟨x,hx,rfl⟩:=dA.1 ha;have:=h.1 x hx;simp at hb;omega
theorem Ut{es:Array MapEntry}{cl:Nat}(h:uC es cl)(j:Nat)(k v:ad):uC (es.modify j fun e=> { e with key:=k,val:=v }) cl:=by
 have e1:(es.modify j fun e=> { e with key:=k,val:=v }).toList.map (·.born)=es.toList.map (·.born):=by
  apply List.ext_getElem?;intro q;simp only [List.getElem?_map,Array.getElem?_toList,Array.getElem?_modify]
  split
  ·rw [Option.map_map];rfl
  rfl
 refine⟨fun x hx=>?_,by rw [e1];exact h.2⟩;have h2:x.born∈(es.modify j fun e=> { e with key:=k,val:=v }).toList.map (·.born):=dA.2 ⟨x,hx,O⟩;rw [e1]at h2;obtain⟨y,hy,e⟩:=dA.1 h2;rw [<-e];exact h.1 y hy
theorem age{es rV:Array MapEntry}{cl:Nat}(h:uC es cl)(hs:rV.toList.Sublist es.toList):uC rV cl:=⟨fun x hx=>h.1 x (hs.subset hx),h.2.sublist (hs.map _)⟩
def fu(t:ae)(g:Nat)(mr:List (ad×ad)):Ck:=⟨some ⟨g,0,none⟩,0,0,t,.tuple #[]::rZ mr⟩
def uS(w:aa)(g:Nat)(mr:List (ad×ad)):Prop:=∃es cl,w.heap[g]?=some (.map es cl)/\es.toList.map (fun e=> (e.key,e.val))=mr
section
variable {w0 w w':aa} {ks:List Ck} {t:ae} {g:Nat} {mr:List (ad×ad)}
theorem St.FH(h:St w0 w ks)(i:Nat)(hk:ks[i]?=some (fu t g mr)):w0.heap.size<=g/\∃es cl,w.heap[g]?=some (.map es cl)/\es.toList.map (fun e=> (e.key,e.val))=mr/\uC es cl:=by
 rcases(h.get hk).cases with⟨_,_,_,g',o,hA,hg,hh,hv⟩ | ⟨hm,_⟩
 ·have hA:some (⟨g,0,Option.none⟩:Addr)=some ⟨g',0,Option.none⟩:=hA;simp only [mJ,Addr.mk.injEq,and_true]at hA;subst hA
  match o,hh,hv with
  | .map es cl,hh,⟨hw,.inl hv⟩=>
   have hv:(.tuple #[]::rZ mr:List ad)= .tuple #[]::rZ (es.toList.map fun e=> (e.key,e.val)):=hv;simp only [List.cons.injEq,true_and]at hv;exact⟨hg,es,cl,hh,(QR hv).symm,hw⟩
  | .map es cl,hh,⟨hw,.inr hv⟩=>
   have hv:(.tuple #[]::rZ mr:List ad)= .tuple #[ak cl]::r6 es.toList:=hv;simp at hv
  | .mapIter m since seen c0,hh,⟨_,bm,_,hv⟩=>
   have hv:(.tuple #[]::rZ mr:List ad)= .tuple #[.map (some bm),ak since]::_:=hv;simp at hv
 ·cases hm
theorem St.UZ(h:St w0 w ks)(i:Nat)(hk:ks[i]?=some (fu t g mr)):w0.heap.size<=g/\uS w g mr:=by
 obtain⟨h1,es,cl,h2,h3,_⟩:=h.FH i hk;exact⟨h1,es,cl,h2,h3⟩
theorem St.Bz(h:St w0 w ks)(i:Nat)(hk:ks[i]?=some (fu t g mr)):uS w g mr:=(h.UZ i hk).2
theorem St.X5(h:St w0 w ks)(t:ae):St w0 (w.alloc (.map #[] 0)) (fu t w.heap.size []::ks):=by
 have hb:Below w.heap.size w (w.alloc (.map #[] 0)):=(Below.refl _ _).alloc (bs _) _;have h1:=h.aq hb;refine⟨h1.below,fun k hk=>?_,?_⟩
 ·rcases iP.1 hk with rfl | hk
  ·exact .ofM rfl ⟨rfl,rfl,_,_,rfl,h.below.size,heap_alloc_new w _,⟨(fun _ h=>by cases h),List.nodup_nil⟩,.inl rfl⟩
  exact h1.own k hk
 simp only [List.filterMap_cons,fu,Ck.gS,Option.map_some,lU];refine⟨fun du=>?_,h.apart⟩;obtain⟨k',eQ,pz⟩:=List.mem_filterMap.1 du;have:=((h.own k' eQ).lt pz).2;omega
theorem St.DM{i:Nat}{MZ:List (ad×ad)}{rV:Array MapEntry}{vV:Nat}(h:St w0 w ks)(hk:ks[i]?=some (fu t g mr))(hv:rV.toList.map (fun e=> (e.key,e.val))=MZ)(ou:uC rV vV):St w0 { w with heap:=w.heap.setIfInBounds g (.map rV vV) } (ks.set i (fu t g MZ)):=by
 obtain⟨hg,es,cl,hh,_⟩:=h.UZ i hk;refine h.turn (k:=fu t g mr) (k':=fu t g MZ) (g:=g) hk O O ⟨⟨O,O,O,by simp,fun x _ hx=>?_⟩,bs _⟩ ?_
 ·exact(heap_set hh).2 x fun e=>hx (by rw [e])
 refine .ofM O ⟨O,O,g,_,O,hg,(heap_set hh).1,ou,.inl ?_⟩;rw [hv];rfl
end
section
variable{x m ix k:ag}{t kt et T:ae}{b:Nat}
variable {P:Program} {N:Nat} {ops:Array Oper} {K:Env->aa->Prop} {rest:List Oper} {e:Env} {w0 w w':aa} {ks:List Ck} {d:Nat} {ty:ae} {pos:String} {af:Array Edge}
variable {κ ν:Type} [DecidableEq κ] {kd:TypeDesc} {kv:κ->ad} {vv:ν->ad}
theorem O3{op:Op}{g:Option Nat}(oq:zp op=some x)(hx:ev e x= .map g)(hb:Nat.blt d N=true)(hK:ao P N ops K rest (br e d (.map g)) w):ao P N ops K (⟨some d,op,ty,pos,af,none⟩::rest) e w:= .mv oq hx hb hK
theorem BZ(hS:St w0 w ks)(hb:Nat.blt d N=true)(hK:∀g w',St w0 w' (fu t g []::ks)->ao P N ops K rest (br e d (.map (some g))) w'):
 ao P N ops K (⟨some d,.makeMap t none,ty,pos,af,none⟩::rest) e w:=
 .val (w':=w.alloc (.map #[] 0)) (by simp [execOp,run_makeMap]) hb (hK _ _ (hS.X5 t))
theorem Oa{z:ad}{s:Nat}[hU:bt P t (.map kt et)][hk:bt P kt kd][bq P et z s b](KT:sV kd kv){g:Nat}{L:List (κ×ν)}{x:κ}(hR:uS w g (dY kv vv L))(ok:Bool):
 (Instr.lookup t (.map (some g)) (kv x) ok).run P w= .ok (if ok then .tuple #[((dL L x).map vv).getD z,.bool (dL L x).isSome]else((dL L x).map vv).getD z) w:=by
 obtain⟨es,cl,hh,hm⟩:=hR;obtain⟨inf,hi,dU,_,_⟩:=bq.get P et;have hf:=G8 (vv:=vv) KT x es.toList L 0 hm;rw [KC];unfold Instr.lookup;simp only [Sem.run_bind,run_underlying hU.out,Result.andThen,MapKept.run_getObj_map hh,MapKept.run_checkKey hk.out (KT.isKey x)];cases ko:kI L x with
 | none=>
  rw [ko]at hf;have pw:=MapKept.run_findKey (P:=P) (w:=w) hk.out hf;cases ok<;>simp [pw,zeroValue,typeInfo,hi,dU]
 | some p=>
  rw [ko]at hf;have pw:=MapKept.run_findKey (P:=P) (w:=w) hk.out hf;cases ok<;>simp [pw]
theorem ao.look{z v:ad}{s:Nat}[bt P t (.map kt et)][bt P kt kd][bq P et z s b](KT:sV kd kv){g:Nat}{L:List (κ×ν)}{x:κ}(hR:uS w g (dY kv vv L))(hx:ev e m= .map (some g))(hy:ev e ix=kv x)(hv:((dL L x).map vv).getD z=v)(hb:Nat.blt d N=true)(hK:ao P N ops K rest (br e d v) w):ao P N ops K (⟨some d,.lookup t m ix false,ty,pos,af,none⟩::rest) e w:=by
 subst hv;refine .val (w':=w) ?_ hb hK;have:=Oa (P:=P) (t:=t) (x:=x) KT hR false;simp [execOp,hx,hy,this]
theorem Xj[bt P t (.map kt et)][bt P kt kd][bq P et (.bool false) 1 b](KT:sV kd kv){g:Nat}{L:List (κ×Bool)}(x:κ)(hR:uS w g (dY kv Value.bool L))(hx:ev e m= .map (some g))(hy:ev e ix=kv x)(hb:Nat.blt d N=true)(hK:ao P N ops K rest (br e d (.bool ((dL L x).getD false))) w):ao P N ops K (⟨some d,.lookup t m ix false,ty,pos,af,none⟩::rest) e w:=
 .look KT hR hx hy (by cases dL L x<;>rfl) hb hK
theorem Xm[bt P t (.map kt et)][bt P kt kd][bq P et (ak 0) 1 b](KT:sV kd kv){g:Nat}{L:List (κ×Int)}(x:κ)(hR:uS w g (dY kv (Value.int .i64) L))(hx:ev e m= .map (some g))(hy:ev e ix=kv x)(hb:Nat.blt d N=true)(hK:ao P N ops K rest (br e d (ak ((dL L x).getD 0))) w):ao P N ops K (⟨some d,.lookup t m ix false,ty,pos,af,none⟩::rest) e w:=
 .look KT hR hx hy (by cases dL L x<;>rfl) hb hK
theorem Xn[bt P t (.map kt et)][bt P kt kd][bq P et (ak 0) 1 b](KT:sV kd kv){g:Nat}{L:List (κ×Int)}(x:κ)(hR:uS w g (dY kv (Value.int .i64) L))(hx:ev e m= .map (some g))(hy:ev e ix=kv x)(hb:Nat.blt d N=true)(hK:ao P N ops K rest (br e d (.tuple #[ak ((dL L x).getD 0),.bool (dL L x).isSome])) w):ao P N ops K (⟨some d,.lookup t m ix true,ty,pos,af,none⟩::rest) e w:=by
 refine .val (w':=w) ?_ hb hK;have:=Oa (P:=P) (t:=t) (x:=x) KT hR true;have e1:((dL L x).map (Value.int .i64)).getD (ak 0)=ak ((dL L x).getD 0):=by cases dL L x<;>rfl
 rw [e1]at this;simp [execOp,hx,hy,this]
theorem aiT[hU:bt P t (.map kt et)][hk:bt P kt kd](KT:sV kd kv){g:Nat}{L:List (κ×ν)}(i:Nat)(x:κ)(u:ν)(hS:St w0 w ks)(hi:ks[i]?=some (fu T g (dY kv vv L))):
 ∃w',(Instr.mapUpdate t (.map (some g)) (kv x) (vv u)).run P w= .ok () w'/\St w0 w' (ks.set i (fu T g (dY kv vv (eO L x u)))):=by
 obtain⟨_,es,cl,hh,hm,ou⟩:=hS.FH i hi;have hf:=G8 (vv:=vv) KT x es.toList L 0 hm;have pw:=MapKept.run_findKey (P:=P) (w:=w) hk.out hf;cases ko:kI L x with
 | none=>
  refine⟨{ w with heap:=w.heap.setIfInBounds g (.map (es.push ⟨kv x,vv u,cl⟩) (cl+1)) },?_,hS.DM hi ?_ (Uu ou _ _)⟩
  ·simp [Instr.mapUpdate,run_underlying hU.out,MapKept.run_getObj_map hh,MapKept.run_checkKey hk.out (KT.isKey x),pw,ko,MapKept.run_setObj_map _ hh,Result.andThen]
  ·rw [KD ko];simp only [Array.toList_push,iD,hm,dY]
   rfl
 | some p=>
  obtain⟨j,v⟩:=p;obtain⟨h1,h2⟩:=KE ko;have lK:j<L.length:=(gm.1 h1).1;have jf:es.toList.length=L.length:=by have:=aF List.length hm;simpa [dY]using this
  have hes:es.size=L.length:=by simpa using jf
  have uh:j<es.size:=by omega
  have L8:es[j].key=kv x:=by
   have:=aF (fun l=>l[j]?) hm;simp [dY,h1,uh]at this;exact this.1
  have aw:=MapKept.run_keyThatStays (P:=P) (w:=w) (KT.isKey x);refine⟨{ w with heap:=w.heap.setIfInBounds g (.map (es.modify j fun e=> { e with key:=kv x,val:=vv u }) cl) },?_,hS.DM hi ?_ (Ut ou _ _ _)⟩
  ·simp [Instr.mapUpdate,run_underlying hU.out,MapKept.run_getObj_map hh,MapKept.run_checkKey hk.out (KT.isKey x),pw,ko,MapKept.run_setObj_map _ hh,Result.andThen,uh,L8,aw]
  ·rw [h2 u];apply List.ext_getElem?;intro q;have hq:=aF (fun l=>l[q]?) hm;simp only [dY,List.getElem?_map,Array.getElem?_toList]at hq;simp only [dY,List.getElem?_map,mI,Array.getElem?_toList,Array.getElem?_modify]
   by_cases e1:j=q
   ·subst e1;simp [uh,lK]
   ·rw [az e1,az e1];exact hq
def Jp:Op->Option (ae×ag×ag×ag)
 | .mapUpdate t m k x=>some (t,m,k,x)
 | .insert t m k x=>some (t,m,k,x)
 | _=>none
theorem B3{op:Op}[hU:bt P t (.map kt et)][bt P kt kd](oq:Jp op=some (t,m,k,x))(KT:sV kd kv){g:Nat}{L:List (κ×ν)}(i:Nat){a:κ}{u:ν}(hS:St w0 w ks)(hi:ks[i]?=some (fu T g (dY kv vv L)))(hm:ev e m= .map (some g))(hk:ev e k=kv a)(hx:ev e x=vv u)(hK:∀w',St w0 w' (ks.set i (fu T g (dY kv vv (eO L a u))))->ao P N ops K rest e w'):ao P N ops K (⟨none,op,ty,pos,af,none⟩::rest) e w:=by
 obtain⟨w',mS,km⟩:=aiT (P:=P) (t:=t) KT i a u hS hi;refine .unit (w':=w') ?_ (hK _ km);cases op<;>simp [Jp]at oq<;>obtain⟨rfl,rfl,rfl,rfl⟩:=oq<;>simp [execOp,hm,hk,hx,mS]
end
end Go.Proofs.YtkccgdhcpplblaaGreatDoor.Vc
