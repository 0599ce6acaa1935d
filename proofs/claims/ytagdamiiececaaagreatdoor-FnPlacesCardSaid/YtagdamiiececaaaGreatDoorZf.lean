/-
 Lemmas. Conditions: as each states them.
-/
import Derived.Test.YtagdamiiececaaaGreatDoorZe
set_option maxHeartbeats 8000000
namespace Go.Proofs.YtagdamiiececaaaGreatDoor.Vc
open Tryz
open Go.RowKit
variable{w w0 w':aa}{As:ai}{ks:List Ck}
def Er(w0:aa)(ks:List Ck)(ix:Nat)(As:ai)(v:ab)(w':aa):Prop:=
 ∃(n:Nat) (A:ai) (c:Nat) (rs:List aO) (xss:ag) (X:List Ck) (k':Ck),v= .agg #[.slice A n c]/\n<=6/\(n<=c/\c<=9223372036854775807)/\(∀p∈xss,p.length<=20001/\∀x∈p,-1<=x/\x<=20001)/\fj w0 As k'/\(∀(iq:aa) (Y:List Ck),St w0 iq (X++Y)->bl iq A n rs xss)/\St w0 w' (X++ks.set ix k')
theorem Fq{α:Type}(d:α)(xs:List α)(i:Nat):(xs.drop 1).getD i d=xs.getD (i+1) d:=by
 cases xs with
 | nil=>rfl
 | cons a r=>rfl
theorem bl.RZ{A:ai}{n c:Nat}{rs:List aO}{xss:ag}(h:bl w A n rs xss)(hn:1<=n)(hc:n<=c):bl w (cutAt A c 1) (n - 1) (rs.drop 1) (xss.drop 1):=by
 refine⟨h.top.drop hn hc,by rw [List.length_drop,h.len],fun i hi=>?_,fun i hi=>?_⟩
 ·rw [Fq,Fq];exact h.row (i+1) (by omega)
 rw [Fq];exact h.cap (i+1) (by omega)
structure Qp(w0:aa)(ks:List Ck)(ix:Nat)(As A4 A5:ai)(n N:Nat)(A:ai)(c:Nat)(rs:List aO)(xss:ag)(S:Nat->Bool)(e:Env)(w:aa):Prop where
 f0:e 0= .pointer As
 f4:e 4= .pointer A4
 f5:e 5= .pointer A5
 f6:e 6=aj N
 p0:S 0=true->e 30= .pointer (aF A5 0)
 p1:S 1=true->e 31= .slice A n c
 p2:S 2=true->e 32= .pointer As
 p3:S 3=true->e 33=aj N
 p7:S 7=true->e 37= .pointer (aF A5 0)
 mem:∃(Am:ai) (cm:Nat) (ps:ah) (kB A':ai) (c':Nat) (b1 b2:List Ck) (b3 kk:Ck) (vs:List ab),fj w0 As kk/\(S 4=true->e 34= .slice Am N cm/\Rg N ps/\b1=[ax 2 Am N cm ps])/\(S 5=true->e 35= .slice kB 1 1/\b2=[aV 24 kB 1 1 [⟨Am,N,cm⟩]])/\(S 6=false->b3=aV 24 A n c rs)/\(S 6=true->e 36= .slice A' (n+1) c'/\b3=aV 24 A' (n+1) c' (rs++ [⟨Am,N,cm⟩]))/\(S 8=false->vs=[.slice A n c])/\(S 8=true->vs=[.slice A' (n+1) c'])/\
  St w0 w (Bx 37 1 A5 vs::Bx 37 1 A4 [.slice none 0 0]::b3::(bS 2 rs xss++ (b2++ (b1++ks.set ix kk))))
theorem XC(X:List Ck)(ix:Nat){k:Ck}(n:Nat)(hS:St w0 w (X++ks))(hk:ks[ix]?=some k)(hK:fj w0 As k)(hn:n<=1000000):
 aE prog 218 [.pointer As,aj n] w (fun v w'=>∃A c xs k',v= .slice A n c/\Rg n xs/\fj w0 As k'/\St w0 w' (ax 2 A n c xs::(X++ks.set ix k'))):=by
 have e:(X++ks)[X.length+ix]?=some k:=by
  rw [mU (by omega),Nat.add_sub_cancel_left];exact hk
 refine(Nl (X.length+ix) n hS e hK hn).mono ?_;rintro v w' ⟨A,c,xs,k',h1,h2,h3,h4⟩;rw [show(X++ks).set (X.length+ix) k'=X++ks.set ix k' from by rw [List.set_append,aC (by omega),Nat.add_sub_cancel_left]]at h4;exact⟨A,c,xs,k',h1,h2,h3,h4⟩
theorem ny{S:Nat->Bool}{j k:Nat}(bh:S k=false)(h:S j=true->S k=true):S j=false:=by
 cases hj:S j with
 | false=>rfl
 | true=>rw [<-bh];exact(h hj).symm
structure Qo(w0:aa)(ks:List Ck)(ix:Nat)(As A4 A5:ai)(n N:Nat)(A:ai)(c:Nat)(a0:ai)(c0:Nat)(cV:List aO)(iD:ag)(S:Nat->Bool)(e:Env)(w:aa):Prop where
 f0:e 0= .pointer As
 f4:e 4= .pointer A4
 f5:e 5= .pointer A5
 f6:e 6=aj N
 p0:S 0=true->e 16= .pointer (aF A5 0)
 p1:S 1=true->e 17= .slice A n c
 p2:S 2=true->e 18= .pointer (aF A 0)
 p3:S 3=true->e 19= .slice a0 N c0
 p4:S 4=true->e 20= .pointer As
 p5:S 5=true->e 21=aj N
 p6:S 6=true->∃r:Int,e 22=aj r/\0<=r/\r<N
 p7:S 7=true->e 23= .pointer As
 p8:S 8=true->e 24=aj N
 nB:S 10=true->∃x:Int,e 26=aj x/\ -1<=x/\x<=20001
 nC:S 11=true->∃r:Int,e 27= .pointer (aF a0 r.toNat)/\0<=r/\r<N
 mem:∃(y:ah) (kA:ai) (b1:List Ck) (kk:Ck),fj w0 As kk/\(y.length=N/\∀x∈y,-1<=x/\x<=20001)/\(S 9=true->e 25= .slice kA 3 3/\b1=[ax 2 kA 3 3 [-1,(N:Int),0]])/\
  St w0 w (Bx 37 1 A5 [.slice A n c]::Bx 37 1 A4 [.slice none 0 0]::aV 24 A n c (⟨a0,N,c0⟩::cV)::ax 2 a0 N c0 y::(bS 2 cV iD++ (b1++ks.set ix kk)))
structure Qq(w0:aa)(ks:List Ck)(ix:Nat)(As A4 A5:ai)(n N:Nat)(A:ai)(c:Nat)(a0:ai)(c0:Nat)(cV:List aO)(x0:ah)(iD:ag)(kk:Ck)(S:Nat->Bool)(e:Env)(w:aa):Prop where
 f4:e 4= .pointer A4
 f5:e 5= .pointer A5
 f6:e 6=aj N
 p0:S 0=true->e 44= .pointer (aF A5 0)
 p1:S 1=true->e 45= .slice A n c
 p2:S 2=true->e 46= .pointer (aF A5 0)
 p3:S 3=true->e 47= .slice A n c
 p4:S 4=true->e 48= .pointer (aF A 0)
 p5:S 5=true->e 49= .slice a0 N c0
 p6:S 6=true->e 50=aj N
 p9:S 9=true->e 53= .pointer (aF A 0)
 mem:∃(lE A':ai) (c':Nat) (b1:List Ck) (b3 b4:Ck),(S 7=true->e 51= .slice lE 1 1/\b1=[ax 2 lE 1 1 [(N:Int)]])/\(S 8=false->b3=ax 2 a0 N c0 x0)/\(S 8=true->e 52= .slice A' (N+1) c'/\b3=ax 2 A' (N+1) c' (x0++ [(N:Int)]))/\(S 10=false->b4=aV 24 A n c (⟨a0,N,c0⟩::cV))/\(S 10=true->b4=aV 24 A n c (⟨A',N+1,c'⟩::cV))/\
  St w0 w (Bx 37 1 A5 [.slice A n c]::Bx 37 1 A4 [.slice none 0 0]::b4::b3::(bS 2 cV iD++ (b1++ks.set ix kk)))
theorem XE(X:List Ck)(ix:Nat){k:Ck}(A:ai)(n c:Nat)(xs:ah)(hS:St w0 w (X++ks))(hk:ks[ix]?=some k)(hK:fj w0 As k)(hR:∀k' w',St w0 w' (X++ks.set ix k')->cd w' A n xs)(hn:0<n/\n<=1000000):
 aE prog 105 [.pointer As,.slice A n c] w (fun v w'=>∃(x:Int) (k':Ck),v=aj x/\x∈xs/\fj w0 As k'/\St w0 w' (X++ks.set ix k')):=by
 have e:(X++ks)[X.length+ix]?=some k:=by
  rw [mU (by omega),Nat.add_sub_cancel_left];exact hk
 have e2:∀k',(X++ks).set (X.length+ix) k'=X++ks.set ix k':=fun k'=>by rw [List.set_append,aC (by omega),Nat.add_sub_cancel_left]
 refine(XF (X.length+ix) A n c xs hS e hK (fun k' w' h=>hR k' w' (by rwa [e2]at h)) hn).mono ?_;rintro v w' ⟨x,k',h1,h2,h3,h4⟩;rw [e2]at h4;exact⟨x,k',h1,h2,h3,h4⟩
theorem XN(ix:Nat){k:Ck}(most:Nat)(hS:St w0 w ks)(hk:ks[ix]?=some k)(hK:fj w0 As k)(hm:8<=most/\most<=1000):
 aE prog 165 [.pointer As,aj most] w (Er w0 ks ix As):=by
 refine bm func165 O ntmps165 O (lB O O) (aY O (eH hS O ?_));intro A4 w1 aB;refine ao O (aH (Hz (ix+1) most aB (by exact hk) hK hm) O ?_);rintro _ w2 ⟨n,N,A,c,rs,xss,k1,rfl,hn,hN,bO,bP,hG,jT,aw⟩;refine eH aw O fun A5 w3 aI=>bR 1 0 aI O O O O O O O ?_;intro w4 aG;have aG:St w0 w4 (Bx 37 1 A5 [.slice A n c]::(aK 24 2 A n c rs xss++ (Bx 37 1 A4 [.slice none 0 0]::ks.set ix k1))):=aG;have aG:St w0 w4 (Bx 37 1 A5 [.slice A n c]::Bx 37 1 A4 [.slice none 0 0]::(aK 24 2 A n c rs xss++ks.set ix k1)):=aG.perm (List.Perm.cons _ eU);have gm:=kl (k':=k1) hk;refine ao O (ac3 0 (aG.rd 0 O) O (aH (oY A n c rs xss w4 (St.du aG.tail.tail (by omega)) (by omega)) O ?_));rintro _ w5 ⟨rfl,hT⟩;have aR:=aG.aq hT.below;rw [hG.first (by omega)];refine ao O (aH (Ec (Bx 37 1 A5 [.slice A n c]::Bx 37 1 A4 [.slice none 0 0]::aK 24 2 A n c rs xss) ix 40 aR gm jT) O ?_);rintro _ w6 ⟨r,k2,rfl,hr,fa,aQ⟩;rw [iH]at aQ;have aQ:St w0 w6 (Bx 37 1 A5 [.slice A n c]::Bx 37 1 A4 [.slice none 0 0]::(aK 24 2 A n c rs xss++ks.set ix k2)):=aQ;have lW:=kl (k':=k2) hk;have gf:n<=c/\c<=9223372036854775807:=aQ.cap 2 O;have pY:∀p∈xss,p.length<=20001/\∀x∈p,-1<=x/\x<=20001:=fun p hp=> ⟨by have:=(hG p hp).1;omega,fun x hx=>by have:=(hG p hp).2 x hx;omega⟩
 refine az O (aM _ O (fun h1=>?_) (fun h1=>?_))
 ·obtain⟨r0,cV,rfl⟩:∃r0 cV,rs=r0::cV:=by cases rs with | nil=>exact absurd bO (by simp;omega) | cons a b=>exact⟨a,b,rfl⟩
  obtain⟨x0,iD,rfl⟩:∃x0 iD,xss=x0::iD:=by cases xss with | nil=>exact absurd bP (by simp;omega) | cons a b=>exact⟨a,b,rfl⟩
  obtain⟨a0,n0,c0⟩:=r0;have th:x0.length=N:=(hG x0 (List.mem_cons_self)).1;have ie:x0.length=n0:=((St.du aQ.tail.tail bP).at_ (i:=0) (by omega) (by omega)).1;obtain rfl:n0=N:=by omega
  refine qX (by kernel_rfl) (by kernel_rfl) (fun S e1 w1=>Qo w0 ks ix As A4 A5 n n0 A c a0 c0 cV iD S e1 w1) (fun w7 hb=> ⟨O,O,O,O,fun h=> (nomatch h),fun h=> (nomatch h),fun h=> (nomatch h),fun h=> (nomatch h),fun h=> (nomatch h),fun h=> (nomatch h),fun h=> (nomatch h),fun h=> (nomatch h),fun h=> (nomatch h),fun h=> (nomatch h),fun h=> (nomatch h),x0,none,[],k2,fa,⟨th,(pY x0 List.mem_cons_self).2⟩,fun h=> (nomatch h),aQ.aq hb⟩) ?_ ?_
  ·intro S i o e1 w7 hq bh hd cz hI;obtain⟨f0,f4,f5,f6,p0,p1,p2,p3,p4,p5,p6,p7,p8,nB,nC,y,kA,b1,kk,dR,hy,m9,hT⟩:=hI;have ke:=kl (k':=kk) hk;have eX:∀Y,(Bx 37 1 A5 [.slice A n c]::Bx 37 1 A4 [.slice none 0 0]::aV 24 A n c (⟨a0,n0,c0⟩::cV)::ax 2 a0 n0 c0 y::(bS 2 cV iD++ (b1++Y)))=(Bx 37 1 A5 [.slice A n c]::Bx 37 1 A4 [.slice none 0 0]::aV 24 A n c (⟨a0,n0,c0⟩::cV)::ax 2 a0 n0 c0 y::(bS 2 cV iD++b1))++Y:=fun Y=>by simp
   have ug:=hT;rw [eX]at ug
   match i,hq,bh with
   | 0,hq,bh=>
    obtain rfl:=bC hq;refine acY (hT.rd 0 O) (by exact f5) O O O inferInstance (ak.n ?_);exact⟨f0,f4,f5,f6,fun _=>O,p1,p2,p3,p4,p5,p6,p7,p8,nB,nC,y,kA,b1,kk,dR,hy,m9,hT⟩
   | 1,hq,bh=>
    obtain rfl:=bC hq;refine acZ (hT.rd 0 O) (by exact p0 (bJ hd 0 O)) O O O O (ak.n ?_);exact⟨f0,f4,f5,f6,p0,fun _=>O,p2,p3,p4,p5,p6,p7,p8,nB,nC,y,kA,b1,kk,dR,hy,m9,hT⟩
   | 2,hq,bh=>
    obtain rfl:=bC hq;refine acU (hT.rd 2 O) (by exact p1 (bJ hd 1 O)) O O (by omega) (by show(0:Int)< (n:Int);omega) ?_;exact ak.n ⟨f0,f4,f5,f6,p0,p1,fun _=>O,p3,p4,p5,p6,p7,p8,nB,nC,y,kA,b1,kk,dR,hy,m9,hT⟩
   | 3,hq,bh=>
    obtain rfl:=bC hq;refine ac0 (i:=0) (hT.eG 2 O) (by exact p2 (bJ hd 2 O)) (by show 0<n;omega) O O ?_;exact ak.n ⟨f0,f4,f5,f6,p0,p1,p2,fun _=>O,p4,p5,p6,p7,p8,nB,nC,y,kA,b1,kk,dR,hy,m9,hT⟩
   | 4,hq,bh=>
    obtain rfl:=bC hq;refine wS O (by exact f0) O (ak.n ?_);exact⟨f0,f4,f5,f6,p0,p1,p2,p3,fun _=>O,p5,p6,p7,p8,nB,nC,y,kA,b1,kk,dR,hy,m9,hT⟩
   | 5,hq,bh=>
    obtain rfl:=bC hq;refine ko O (by exact f6) O (ak.n ?_);exact⟨f0,f4,f5,f6,p0,p1,p2,p3,p4,fun _=>O,p6,p7,p8,nB,nC,y,kA,b1,kk,dR,hy,m9,hT⟩
   | 6,hq,bh=>
    obtain rfl:=bC hq;refine acW (Ec _ ix n0 ug ke dR) O (by exact wG (p4 (bJ hd 4 O)) (p5 (bJ hd 5 O))) O ?_;rintro _ w8 ⟨r7,k7,rfl,tc,sO,eB⟩;rw [iH,<-eX]at eB;exact ak.n ⟨f0,f4,f5,f6,p0,p1,p2,p3,p4,p5,fun _=> ⟨r7,O,tc.1,tc.2.1 (by omega)⟩,p7,p8,nB,nC,y,kA,b1,k7,sO,hy,m9,eB⟩
   | 7,hq,bh=>
    obtain rfl:=bC hq;refine wS O (by exact f0) O (ak.n ?_);exact⟨f0,f4,f5,f6,p0,p1,p2,p3,p4,p5,p6,fun _=>O,p8,nB,nC,y,kA,b1,kk,dR,hy,m9,hT⟩
   | 8,hq,bh=>
    obtain rfl:=bC hq;refine ko O (by exact f6) O (ak.n ?_);exact⟨f0,f4,f5,f6,p0,p1,p2,p3,p4,p5,p6,p7,fun _=>O,nB,nC,y,kA,b1,kk,dR,hy,m9,hT⟩
   | 9,hq,bh=>
    obtain rfl:=bC hq;refine me [-1,(n0:Int),0] (hT.sub (List.Sublist.cons_cons _ (List.Sublist.cons_cons _ (List.Sublist.cons_cons _ (List.Sublist.cons_cons _ ((dA _).append (dD _ _))))))) (by have pB:e1 24=aj n0:=p8 (bJ hd 8 O);simp [ev,pB,vY]) O (by decide) (by decide) O O ?_;intro kA w8 fH;have iV:St w0 w8 (Bx 37 1 A5 [.slice A n c]::Bx 37 1 A4 [.slice none 0 0]::aV 24 A n c (⟨a0,n0,c0⟩::cV)::ax 2 a0 n0 c0 y::(bS 2 cV iD++ ([ax 2 kA 3 3 [-1,(n0:Int),0]]++ks.set ix kk))):=fH.perm (eU (l₁:=Bx 37 1 A5 [.slice A n c]::Bx 37 1 A4 [.slice none 0 0]::aV 24 A n c (⟨a0,n0,c0⟩::cV)::ax 2 a0 n0 c0 y::bS 2 cV iD)).symm;exact ak.n ⟨f0,f4,f5,f6,p0,p1,p2,p3,p4,p5,p6,p7,p8,nB,nC,y,kA,_,kk,dR,hy,fun _=> ⟨O,O⟩,iV⟩
   | 10,hq,bh=>
    obtain rfl:=bC hq;obtain⟨KJ,rfl⟩:=m9 (bJ hd 9 rfl);refine acW (XE _ ix kA 3 3 [-1,(n0:Int),0] ug ke dR (fun k' w' h=>by rw [<-eX]at h;exact St.bz (i:=0) (h.sub (((dD _ _).cons _).cons _ |>.cons _ |>.cons _)) O) (by decide)) O (by exact wG (p7 (bJ hd 7 O)) KJ) O ?_;rintro _ w8 ⟨x,k7,rfl,hx,sO,eB⟩;rw [iH,<-eX]at eB;have Wo: -1<=x/\x<=20001:=by
     simp only [ja,List.not_mem_nil,or_false]at hx;rcases hx with rfl | rfl | rfl<;>omega
    exact ak.n ⟨f0,f4,f5,f6,p0,p1,p2,p3,p4,p5,p6,p7,p8,fun _=> ⟨x,O,Wo⟩,nC,y,kA,_,k7,sO,hy,fun _=> ⟨KJ,O⟩,eB⟩
   | 11,hq,bh=>
    obtain rfl:=bC hq;obtain⟨r,FE,hr⟩:=p6 (bJ hd 6 rfl);refine acU (hT.rd 3 O) (by exact p3 (bJ hd 3 O)) (by exact FE) O (by omega) (by show r< (n0:Int);omega) ?_;exact ak.n ⟨f0,f4,f5,f6,p0,p1,p2,p3,p4,p5,p6,p7,p8,nB,fun _=> ⟨r,O,hr⟩,y,kA,b1,kk,dR,hy,m9,hT⟩
   | 12,hq,bh=>
    obtain rfl:=bC hq;obtain⟨r,xm,hr⟩:=nC (bJ hd 11 rfl);obtain⟨x,FF,hx⟩:=nB (bJ hd 10 rfl);refine ak.gQ 3 hT O (by exact xm) (by exact FF) (by omega) ?_;intro w8 fH;refine ak.n ?_;exact⟨f0,f4,f5,f6,p0,p1,p2,p3,p4,p5,p6,p7,p8,nB,nC,y.set r.toNat x,kA,b1,kk,dR,⟨by rw [gR];exact hy.1,fun z hz=> (List.mem_or_eq_of_mem_set hz).elim (hy.2 z) (fun h=>h▸hx)⟩,m9,fH⟩
   | i+13,hq,_=>exact(nomatch hq)
  ·intro S e1 w7 ct hI;obtain⟨f0,f4,f5,f6,p0,p1,p2,p3,p4,p5,p6,p7,p8,nB,nC,y,kA,b1,kk,dR,hy,m9,hT⟩:=hI;refine Bn (F:=[(4,.pointer A4),(5,.pointer A5)]) ⟨f4,f5,au⟩ (fK O (ac3 0 (hT.rd 0 O) O (bR 1 1 hT O O O O O O O ?_)));intro ma jg;refine bu O (fZ O (jg.rd 1 O) ?_);exact⟨n,A,c,⟨a0,n0,c0⟩::cV,y::iD,aK 24 2 A n c (⟨a0,n0,c0⟩::cV) (y::iD),kk,O,by omega,gf,fun p hp=> (ja.1 hp).elim (fun h=>h▸⟨by omega,hy.2⟩) (fun h=>pY p (uZ _ h)),dR,fun iq Y h=>St.du h (by simpa using bP),jg.tail.tail.sub (List.Sublist.cons_cons _ (List.Sublist.cons_cons _ ((dA _).append (dD _ _))))⟩
 ·refine cH O (aM _ O (fun h2=>?_) (fun h2=>?_))
  ·skip
   refine qX (by kernel_rfl) (by kernel_rfl) (fun S e1 w1=>Qp w0 ks ix As A4 A5 n N A c rs xss S e1 w1) (fun w7 hb=> ⟨O,O,O,O,fun h=> (nomatch h),fun h=> (nomatch h),fun h=> (nomatch h),fun h=> (nomatch h),fun h=> (nomatch h),none,0,[],none,none,0,[],[],aV 24 A n c rs,k2,[.slice A n c],fa,fun h=> (nomatch h),fun h=> (nomatch h),fun _=>O,fun h=> (nomatch h),fun _=>O,fun h=> (nomatch h),aQ.aq hb⟩) ?_ ?_
   ·intro S i o e1 w7 hq bh hd cz hI;obtain⟨f0,f4,f5,f6,p0,p1,p2,p3,p7,Am,cm,ps,kB,A',c',b1,b2,b3,kk,vs,dR,m4,m5,r6,m6,jH,m8,hT⟩:=hI
    match i,hq,bh with
    | 0,hq,bh=>
     obtain rfl:=bC hq;refine acY (hT.rd 0 O) (by exact f5) O O O inferInstance (ak.n ?_);exact⟨f0,f4,f5,f6,fun _=>O,p1,p2,p3,p7,Am,cm,ps,kB,A',c',b1,b2,b3,kk,vs,dR,m4,m5,r6,m6,jH,m8,hT⟩
    | 1,hq,bh=>
     obtain rfl:=bC hq;obtain rfl:=jH (ny bh fun h=>bJ (cz 8 _ h rfl) 1 rfl);refine acZ (hT.rd 0 O) (by exact p0 (bJ hd 0 O)) O O O O (ak.n ?_);exact⟨f0,f4,f5,f6,p0,fun _=>O,p2,p3,p7,Am,cm,ps,kB,A',c',b1,b2,b3,kk,_,dR,m4,m5,r6,m6,jH,m8,hT⟩
    | 2,hq,bh=>
     obtain rfl:=bC hq;refine wS O (by exact f0) O (ak.n ?_);exact⟨f0,f4,f5,f6,p0,p1,fun _=>O,p3,p7,Am,cm,ps,kB,A',c',b1,b2,b3,kk,vs,dR,m4,m5,r6,m6,jH,m8,hT⟩
    | 3,hq,bh=>
     obtain rfl:=bC hq;refine ko O (by exact f6) O (ak.n ?_);exact⟨f0,f4,f5,f6,p0,p1,p2,fun _=>O,p7,Am,cm,ps,kB,A',c',b1,b2,b3,kk,vs,dR,m4,m5,r6,m6,jH,m8,hT⟩
    | 4,hq,bh=>
     obtain rfl:=bC hq;have ke:=kl (k':=kk) hk;have n5:S 5=false:=(ny bh fun h=>bJ (cz 5 _ h O) 4 O);have n6:S 6=false:=(ny bh fun h=>bJ (cz 6 _ h O) 4 O);have ug:St w0 w7 ((Bx 37 1 A5 vs::Bx 37 1 A4 [.slice none 0 0]::b3::(bS 2 rs xss++b2))++ks.set ix kk):=hT.sub (List.Sublist.cons_cons _ (List.Sublist.cons_cons _ (List.Sublist.cons_cons _ (by show List.Sublist ((bS 2 rs xss++b2)++ks.set ix kk) _;rw [fC];exact(dA _).append ((dA _).append (dD _ _))))));refine acW (XC _ ix N ug ke dR (by omega)) O (by exact wG (p2 (bJ hd 2 O)) (p3 (bJ hd 3 O))) O ?_;rintro _ w8 ⟨Am,cm,ps,k7,rfl,jY,sO,eB⟩;rw [iH]at eB;have fH:St w0 w8 (Bx 37 1 A5 vs::Bx 37 1 A4 [.slice none 0 0]::b3::(bS 2 rs xss++ (b2++ ([ax 2 Am N cm ps]++ks.set ix k7)))):=by
      have e:(Bx 37 1 A5 vs::Bx 37 1 A4 [.slice none 0 0]::b3::(bS 2 rs xss++ (b2++ ([ax 2 Am N cm ps]++ks.set ix k7))))=(Bx 37 1 A5 vs::Bx 37 1 A4 [.slice none 0 0]::b3::(bS 2 rs xss++b2))++ (ax 2 Am N cm ps::ks.set ix k7):=by simp
      rw [e];exact eB.perm eU.symm
     exact ak.n ⟨f0,f4,f5,f6,p0,p1,p2,p3,p7,Am,cm,ps,kB,A',c',[ax 2 Am N cm ps],b2,b3,k7,vs,sO,fun _=> ⟨O,jY,O⟩,fun h=> (nomatch n5.symm.trans h),r6,fun h=> (nomatch n6.symm.trans h),jH,m8,fH⟩
    | 5,hq,bh=>
     obtain rfl:=bC hq;obtain⟨KL,jY,rfl⟩:=m4 (bJ hd 4 rfl);have n6:S 6=false:=(ny bh fun h=>bJ (cz 6 _ h O) 5 O);refine mW (hT.sub (ks':=Bx 37 1 A5 vs::Bx 37 1 A4 [.slice none 0 0]::b3::(bS 2 rs xss++ ([ax 2 Am N cm ps]++ks.set ix kk))) (List.Sublist.cons_cons _ (List.Sublist.cons_cons _ (List.Sublist.cons_cons _ ((dA _).append (dD _ _)))))) (by exact KL) O O ?_;intro kB w8 fH;have fH:St w0 w8 (Bx 37 1 A5 vs::Bx 37 1 A4 [.slice none 0 0]::b3::(bS 2 rs xss++ ([aV 24 kB 1 1 [⟨Am,N,cm⟩]]++ ([ax 2 Am N cm ps]++ks.set ix kk)))):=fH.perm (eU (l₁:=Bx 37 1 A5 vs::Bx 37 1 A4 [.slice none 0 0]::b3::bS 2 rs xss)).symm;exact ak.n ⟨f0,f4,f5,f6,p0,p1,p2,p3,p7,Am,cm,ps,kB,A',c',_,[aV 24 kB 1 1 [⟨Am,N,cm⟩]],b3,kk,vs,dR,fun _=> ⟨KL,jY,O⟩,fun _=> ⟨O,O⟩,r6,fun h=> (nomatch n6.symm.trans h),jH,m8,fH⟩
    | 6,hq,bh=>
     obtain rfl:=bC hq;obtain⟨zl,rfl⟩:=m5 (bJ hd 5 rfl);obtain rfl:=r6 bh;have n8:S 8=false:=(ny bh fun h=>bJ (cz 8 _ h O) 6 O);have hR:gp w7 kB 1 [⟨Am,N,cm⟩]:=St.eG (i:=0) (hT.sub (ks':=aV 24 kB 1 1 [⟨Am,N,cm⟩]::(b1++ks.set ix kk)) (((dD _ _).cons _).cons _ |>.cons _)) O;refine km 2 hT O hR (by exact p1 (bJ hd 1 O)) (by exact zl) O (by omega) (by omega) O ?_;intro A' c' w8 fH;refine ak.n ?_;exact⟨f0,f4,f5,f6,p0,p1,p2,p3,p7,Am,cm,ps,kB,A',c',b1,_,aV 24 A' (n+1) c' (rs++ [⟨Am,N,cm⟩]),kk,vs,dR,m4,fun _=> ⟨zl,O⟩,fun h=> (nomatch (show true=false from h)),fun _=> ⟨O,O⟩,jH,fun h=> (nomatch n8.symm.trans h),fH⟩
    | 7,hq,bh=>
     obtain rfl:=bC hq;refine acY (hT.rd 0 O) (by exact f5) O O O inferInstance (ak.n ?_);exact⟨f0,f4,f5,f6,p0,p1,p2,p3,fun _=>O,Am,cm,ps,kB,A',c',b1,b2,b3,kk,vs,dR,m4,m5,r6,m6,jH,m8,hT⟩
    | 8,hq,bh=>
     obtain rfl:=bC hq;obtain⟨KM,rfl⟩:=m6 (bJ hd 6 rfl);obtain rfl:=jH bh;refine kD 0 hT O (by exact p7 (bJ hd 7 O)) (by exact KM) O O ?_;intro w8 fH;refine ak.n ?_;exact⟨f0,f4,f5,f6,p0,p1,p2,p3,p7,Am,cm,ps,kB,A',c',b1,b2,_,kk,[.slice A' (n+1) c'],dR,m4,m5,r6,fun _=> ⟨KM,O⟩,fun h=> (nomatch (show true=false from h)),fun _=>O,fH⟩
    | i+9,hq,_=>exact(nomatch hq)
   ·intro S e1 w7 ct hI;obtain⟨f0,f4,f5,f6,p0,p1,p2,p3,p7,Am,cm,ps,kB,A',c',b1,b2,b3,kk,vs,dR,m4,m5,r6,m6,jH,m8,hT⟩:=hI;obtain⟨_,jY,rfl⟩:=m4 (ct 4 (by decide));obtain⟨_,rfl⟩:=m6 (ct 6 (by decide));obtain rfl:=m8 (ct 8 (by decide));have Gh:n+1<=c'/\c'<=9223372036854775807:=hT.cap 2 O;have hT:St w0 w7 (Bx 37 1 A5 [.slice A' (n+1) c']::Bx 37 1 A4 [.slice none 0 0]::(aK 24 2 A' (n+1) c' (rs++ [⟨Am,N,cm⟩]) (xss++ [ps])++ks.set ix kk)):=by
     refine(hT.sub (ks':=Bx 37 1 A5 [.slice A' (n+1) c']::Bx 37 1 A4 [.slice none 0 0]::aV 24 A' (n+1) c' (rs++ [⟨Am,N,cm⟩])::(bS 2 rs xss++ ([ax 2 Am N cm ps]++ks.set ix kk))) (List.Sublist.cons_cons _ (List.Sublist.cons_cons _ (List.Sublist.cons_cons _ ((dA _).append (dD _ _)))))).perm ?_;refine List.Perm.cons _ (List.Perm.cons _ ?_);show List.Perm _ (aV 24 A' (n+1) c' (rs++ [⟨Am,N,cm⟩])::(bS 2 (rs++ [⟨Am,N,cm⟩]) (xss++ [ps])++ks.set ix kk));rw [nD (by omega),<-fC];exact List.Perm.refl _
    refine Bn (F:=[(4,.pointer A4),(5,.pointer A5)]) ⟨f4,f5,au⟩ (fK O (ac3 0 (hT.rd 0 O) O (bR 1 1 hT O O O O O O O ?_)));intro ma jg;refine bu O (fZ O (jg.rd 1 O) ?_);exact⟨n+1,A',c',_,xss++ [ps],_,kk,rfl,by omega,Gh,fun p hp=> (gE.1 hp).elim (pY p) (fun h=>by rw [iv]at h;subst h;exact⟨by have:=jY.1;omega,fun x hx=>by have:=jY.2 x hx;omega⟩),dR,fun iq Y h=>St.du h (by simp [bP]),jg.tail.tail⟩
  ·refine cH O (aM _ O (fun h3=>?_) (fun h3=>?_))
   ·refine aD O (jO aQ O ?_);intro eT w7 a6;refine aS (a6.rd 1 O) O (kD 1 a6 O O O O O ?_);intro w8 a7;have a7:St w0 w8 ([Bx 37 1 A5 [.slice eT 0 0],Bx 37 1 A4 [.slice none 0 0]]++ (aK 24 2 eT 0 0 [] []++ks.set ix k2)):=by
     refine(a7.sub (ks':=aK 24 2 eT 0 0 [] []++ ([Bx 37 1 A5 [.slice eT 0 0],Bx 37 1 A4 [.slice none 0 0]]++ks.set ix k2)) ?_).perm ?_
     ·exact List.Sublist.cons_cons _ (List.Sublist.cons_cons _ (List.Sublist.cons_cons _ (dD _ _)))
     ·exact(eU (l₁:=[_,_])).symm
    refine ao O (ac3 0 (a7.rd 0 O) O (bR 1 1 a7 O O O O O O O ?_));intro ma jg;refine bu O (fZ O (jg.rd 1 O) ?_);exact⟨0,eT,0,[],[],_,k2,O,by omega,by decide,fun p hp=> (nomatch hp),fa,fun iq Y h=>St.du h O,jg.tail.tail⟩
   ·refine cH O (aM _ O (fun h4=>?_) (fun h4=>?_))
    ·obtain⟨r0,cV,rfl⟩:∃r0 cV,rs=r0::cV:=by cases rs with | nil=>exact absurd bO (by simp;omega) | cons a b=>exact⟨a,b,rfl⟩
     obtain⟨x0,iD,rfl⟩:∃x0 iD,xss=x0::iD:=by cases xss with | nil=>exact absurd bP (by simp;omega) | cons a b=>exact⟨a,b,rfl⟩
     obtain⟨a0,n0,c0⟩:=r0;have th:x0.length=N:=(hG x0 (List.mem_cons_self)).1;have ie:x0.length=n0:=((St.du aQ.tail.tail bP).at_ (i:=0) (by omega) (by omega)).1;obtain rfl:n0=N:=by omega
     refine qX (by kernel_rfl) (by kernel_rfl) (fun S e1 w1=>Qq w0 ks ix As A4 A5 n n0 A c a0 c0 cV x0 iD k2 S e1 w1) (fun w7 hb=> ⟨O,O,O,fun h=> (nomatch h),fun h=> (nomatch h),fun h=> (nomatch h),fun h=> (nomatch h),fun h=> (nomatch h),fun h=> (nomatch h),fun h=> (nomatch h),fun h=> (nomatch h),none,none,0,[],_,_,fun h=> (nomatch h),fun _=>O,fun h=> (nomatch h),fun _=>O,fun h=> (nomatch h),aQ.aq hb⟩) ?_ ?_
     ·intro S i o e1 w7 hq bh hd cz hI;obtain⟨f4,f5,f6,p0,p1,p2,p3,p4,p5,p6,p9,lE,A',c',b1,b3,b4,m7,jH,m8,nu,m10,hT⟩:=hI
      match i,hq,bh with
      | 0,hq,bh=>
       obtain rfl:=bC hq;refine acY (hT.rd 0 O) (by exact f5) O O O inferInstance (ak.n ?_);exact⟨f4,f5,f6,fun _=>O,p1,p2,p3,p4,p5,p6,p9,lE,A',c',b1,b3,b4,m7,jH,m8,nu,m10,hT⟩
      | 1,hq,bh=>
       obtain rfl:=bC hq;refine acZ (hT.rd 0 O) (by exact p0 (bJ hd 0 O)) O O O O (ak.n ?_);exact⟨f4,f5,f6,p0,fun _=>O,p2,p3,p4,p5,p6,p9,lE,A',c',b1,b3,b4,m7,jH,m8,nu,m10,hT⟩
      | 2,hq,bh=>
       obtain rfl:=bC hq;refine acY (hT.rd 0 O) (by exact f5) O O O inferInstance (ak.n ?_);exact⟨f4,f5,f6,p0,p1,fun _=>O,p3,p4,p5,p6,p9,lE,A',c',b1,b3,b4,m7,jH,m8,nu,m10,hT⟩
      | 3,hq,bh=>
       obtain rfl:=bC hq;refine acZ (hT.rd 0 O) (by exact p2 (bJ hd 2 O)) O O O O (ak.n ?_);exact⟨f4,f5,f6,p0,p1,p2,fun _=>O,p4,p5,p6,p9,lE,A',c',b1,b3,b4,m7,jH,m8,nu,m10,hT⟩
      | 4,hq,bh=>
       obtain rfl:=bC hq;obtain rfl:=nu (ny bh fun h=>bJ (cz 10 _ h rfl) 4 rfl);refine acU (hT.rd 2 O) (by exact p3 (bJ hd 3 O)) O O (by omega) (by show(0:Int)< (n:Int);omega) ?_;exact ak.n ⟨f4,f5,f6,p0,p1,p2,p3,fun _=>O,p5,p6,p9,lE,A',c',b1,b3,_,m7,jH,m8,nu,m10,hT⟩
      | 5,hq,bh=>
       obtain rfl:=bC hq;obtain rfl:=nu (ny bh fun h=>bJ (cz 10 _ h rfl) 5 rfl);refine ac0 (i:=0) (hT.eG 2 O) (by exact p4 (bJ hd 4 O)) (by show 0<n;omega) O O ?_;exact ak.n ⟨f4,f5,f6,p0,p1,p2,p3,p4,fun _=>O,p6,p9,lE,A',c',b1,b3,_,m7,jH,m8,nu,m10,hT⟩
      | 6,hq,bh=>
       obtain rfl:=bC hq;refine ko O (by exact f6) O (ak.n ?_);exact⟨f4,f5,f6,p0,p1,p2,p3,p4,p5,fun _=>O,p9,lE,A',c',b1,b3,b4,m7,jH,m8,nu,m10,hT⟩
      | 7,hq,bh=>
       obtain rfl:=bC hq;refine fk (hT.sub (ks':=Bx 37 1 A5 [.slice A n c]::Bx 37 1 A4 [.slice none 0 0]::b4::b3::(bS 2 cV iD++ks.set ix k2)) (List.Sublist.cons_cons _ (List.Sublist.cons_cons _ (List.Sublist.cons_cons _ (List.Sublist.cons_cons _ ((dA _).append (dD _ _))))))) (by exact p6 (bJ hd 6 O)) O O ?_;intro lE w8 fH;have iV:St w0 w8 (Bx 37 1 A5 [.slice A n c]::Bx 37 1 A4 [.slice none 0 0]::b4::b3::(bS 2 cV iD++ ([ax 2 lE 1 1 [(n0:Int)]]++ks.set ix k2))):=fH.perm (eU (l₁:=Bx 37 1 A5 [.slice A n c]::Bx 37 1 A4 [.slice none 0 0]::b4::b3::bS 2 cV iD)).symm;exact ak.n ⟨f4,f5,f6,p0,p1,p2,p3,p4,p5,p6,p9,lE,A',c',_,b3,b4,fun _=> ⟨O,O⟩,jH,m8,nu,m10,iV⟩
      | 8,hq,bh=>
       obtain rfl:=bC hq;obtain⟨KO,rfl⟩:=m7 (bJ hd 7 rfl);obtain rfl:=jH bh;have n10:S 10=false:=(ny bh fun h=>bJ (cz 10 _ h O) 8 O);have hR:cd w7 lE 1 [(n0:Int)]:=St.bz (i:=0) (hT.sub (((dD _ _).cons _).cons _ |>.cons _ |>.cons _)) O;refine fR 3 hT O hR (by exact p5 (bJ hd 5 O)) (by exact KO) O ?_;intro A' c' w8 fH;refine ak.n ?_;exact⟨f4,f5,f6,p0,p1,p2,p3,p4,p5,p6,p9,lE,A',c',_,_,b4,fun _=> ⟨KO,O⟩,fun h=> (nomatch (show true=false from h)),fun _=> ⟨O,O⟩,nu,fun h=> (nomatch n10.symm.trans h),fH⟩
      | 9,hq,bh=>
       obtain rfl:=bC hq;obtain rfl:=nu (ny bh fun h=>bJ (cz 10 _ h rfl) 9 rfl);refine acU (hT.rd 2 O) (by exact p1 (bJ hd 1 O)) O O (by omega) (by show(0:Int)< (n:Int);omega) ?_;exact ak.n ⟨f4,f5,f6,p0,p1,p2,p3,p4,p5,p6,fun _=>O,lE,A',c',b1,b3,_,m7,jH,m8,nu,m10,hT⟩
      | 10,hq,bh=>
       obtain rfl:=bC hq;obtain⟨KP,rfl⟩:=m8 (bJ hd 8 rfl);obtain rfl:=nu bh;refine yQ (i:=0) 2 hT O (by exact p9 (bJ hd 9 O)) (by exact KP) (by show 0<n;omega) ?_;intro w8 fH;refine ak.n ?_;exact⟨f4,f5,f6,p0,p1,p2,p3,p4,p5,p6,p9,lE,A',c',b1,_,_,m7,jH,fun _=> ⟨KP,O⟩,fun h=> (nomatch (show true=false from h)),fun _=>O,fH⟩
      | i+11,hq,_=>exact(nomatch hq)
     ·intro S e1 w7 ct hI;obtain⟨f4,f5,f6,p0,p1,p2,p3,p4,p5,p6,p9,lE,A',c',b1,b3,b4,m7,jH,m8,nu,m10,hT⟩:=hI;obtain⟨_,rfl⟩:=m8 (ct 8 (by decide));obtain rfl:=m10 (ct 10 (by decide));refine Bn (F:=[(4,.pointer A4),(5,.pointer A5)]) ⟨f4,f5,au⟩ (fK O (ac3 0 (hT.rd 0 O) O (bR 1 1 hT O O O O O O O ?_)));intro ma jg;refine bu O (fZ O (jg.rd 1 O) ?_);exact⟨n,A,c,⟨A',n0+1,c'⟩::cV,(x0++ [(n0:Int)])::iD,aK 24 2 A n c (⟨A',n0+1,c'⟩::cV) ((x0++ [(n0:Int)])::iD),k2,O,by omega,gf,fun p hp=> (ja.1 hp).elim (fun h=>h▸⟨by simp;omega,fun x hx=> (gE.1 hx).elim ((pY x0 List.mem_cons_self).2 x) (fun h=>by rw [iv]at h;omega)⟩) (fun h=>pY p (uZ _ h)),fa,fun iq Y h=>St.du h (by simpa using bP),jg.tail.tail.sub (List.Sublist.cons_cons _ (List.Sublist.cons_cons _ ((dA _).append (dD _ _))))⟩
    ·refine cH O (aM _ O (fun h5=>?_) (fun h5=>?_))
     ·refine aD O (aS (aQ.rd 0 O) O (a8 (aQ.rd 0 O) O (sr O O O (by omega) (aS (aQ.rd 0 O) O (kD 0 aQ O O O O O ?_)))));intro w7 a6;refine ao O (ac3 0 (a6.rd 0 O) O (bR 1 1 a6 O O O O O O O ?_));intro ma jg;refine bu O (fZ O (jg.rd 1 O) ?_);exact⟨n - 1,cutAt A c 1,c - 1,rs.drop 1,xss.drop 1,_,k2,O,by omega,by omega,fun p hp=>pY p (List.mem_of_mem_drop hp),fa,fun iq Y h=> (St.du h bP).RZ (by omega) (by omega),jg.tail.tail⟩
     ·skip
      refine aD O (ac3 0 (aQ.rd 0 O) O (bR 1 1 aQ O O O O O O O ?_));intro ma jg;refine bu O (fZ O (jg.rd 1 O) ?_);exact⟨n,A,c,rs,xss,_,k2,O,by omega,gf,pY,fa,fun iq Y h=>St.du h bP,jg.tail.tail⟩
theorem XZ(ix:Nat){k:Ck}(most:Int)(hS:St w0 w ks)(hk:ks[ix]?=some k)(hK:fj w0 As k)(hm:most<=100000):
 aE prog 167 [.pointer As,aj most] w (fun v w'=>∃A n c xs k',v= .slice A n c/\n<=200000/\Rg n xs/\fj w0 As k'/\St w0 w' (ax 2 A n c xs::ks.set ix k')):=by
 refine bm func167 O ntmps167 O (bU O) (aY O (Ex O O O (aH (o9 ix _ hS hk hK) O ?_)));rintro _ w1 ⟨r,k1,rfl,hr,jT,aB⟩;have gm:=kl (k':=k1) hk;obtain⟨n,hn⟩:∃n:Nat,2* (1+r)=n:=⟨(2* (1+r)).toNat,by omega⟩;refine aL O (gU O O O (by omega) (ao O ?_));rw [hn];refine jO aB O ?_;intro A6 w2 aw;have aw:St w0 w2 (ax 2 A6 0 0 []::ks.set ix k1):=aw;refine az O (Cd.loop (α:=Nat×ai×Nat×ah×Ck) (fun s=> [(0,.pointer As),(5,aj n),(6,.slice s.2.1 s.1 s.2.2.1),(7,aj (s.1:Int))]) (fun s w'=>St w0 w' (ax 2 s.2.1 s.1 s.2.2.1 s.2.2.2.1::ks.set ix s.2.2.2.2)/\Rg s.1 s.2.2.2.1/\fj w0 As s.2.2.2.2/\s.1<=n) (fun s=>n - s.1) (0,A6,0,[],k1) (ac4 O) ⟨aw,⟨O,fun x hx=> (nomatch hx)⟩,jT,bA _⟩ ?_);rintro⟨d,A6,c6,xs,k2⟩ e w3 ⟨aI,hx,fa,hd⟩;dsimp only at aI hx fa hd|-;have lW:=kl (k':=k2) hk;refine b7 O (aM _ O (fun h1=>?_) (fun h1=>?_))
 ·refine aD O (aL O ?_);refine aH (o9 (ix+1) ((d:Int)+1) aI (by exact lW) fa) O ?_;rintro _ w4 ⟨g,k3,rfl,hg,lP,aG⟩;have aG:St w0 w4 (ax 2 A6 d c6 xs::(ks.set ix k2).set ix k3):=aG;rw [iH]at aG;obtain⟨q,rfl⟩:∃q:Nat,g=q:=⟨g.toNat,by omega⟩;have hq:q<=d:=by omega
  refine ao O (fk aG O O O ?_);intro Pc w5 aR;have LC:=aR.cap 1 O;refine ao O (sr O O O (by omega) (fR 0 aR O ((aR.bz 1 O).drop hq LC.1) O O O ?_));intro A31 c31 w6 aQ;refine ao O (jO aQ O ?_);intro A32 w7 a6;have LC:d<=c6/\c6<=9223372036854775807:=a6.cap 2 O;refine ao O (u7 O O O (by omega) (ac2 (xs:=[]) 0 a6 O ((a6.bz 2 O).take hq) O O O (by omega) (by omega) O ?_));intro A36 c36 w8 a7;refine ao O (fR 0 a7 O (a7.bz 1 O) O O O ?_);intro cG EV w9 aW;have hN:0+q+ (1+ (d - q))=d+1:=by omega
  have aW:St w0 w9 (ax 2 cG (0+q+ (1+ (d - q))) EV (([]++xs.take q)++ ([(d:Int)]++xs.drop q))::ks.set ix k3):=aW.sub (List.Sublist.cons_cons _ (((dA _).cons _).cons _));have rW:=hx.1;rw [hN]at aW;refine ao O (aL O (aU O (tQ ?_)));refine⟨(d+1,cG,EV,([]++xs.take q)++ ([(d:Int)]++xs.drop q),k3),by show n - (d+1)<n - d;omega,⟨O,O,?_,O,au⟩,aW,⟨by simp;omega,fun x dG=>?_⟩,lP,by show d+1<=n;omega⟩
  ·exact bw (fun z=>Value.slice cG z EV) hN
  have hb:x=(d:Int)\/x∈xs:=by
   simp only [List.nil_append,gE,iv]at dG;rcases dG with h | h | h
   ·exact .inr (List.mem_of_mem_take h)
   ·exact .inl h
   exact .inr (List.mem_of_mem_drop h)
  rcases hb with rfl | hb
  ·omega
  have:=hx.2 x hb;omega
 have nW:d=n:=by omega
 refine bo O (bp (e6 O ?_));refine fA O ?_;exact⟨A6,d,c6,xs,k2,O,by omega,hx,fa,aI⟩
theorem Nt(A:ai)(n c:Nat)(rs:List aO)(xss:ag)(w:aa)(hR:bl w A n rs xss)(hn:n<=9223372036854775807):
 aE prog 169 [.agg #[.slice A n c]] w (fun v w'=>v= .bool (decide (bj xss/\n=3))/\St w w' []):=by
 refine bm func169 O ntmps169 O (bU O) (aY O (fD (St.refl w) O O ?_));intro A1 w1 aB;refine ao O (ac3 0 (aB.rd 0 O) O (aH (DG A n c rs xss w1 (aB.bE hR) hn) O ?_));rintro _ w2 ⟨rfl,hT⟩;have aw:=aB.aq hT.below;refine ao O (bX 5 O (fun h1=>?_) (fun h1=>?_))
 ·refine ar O (aS (aw.rd 0 O) O (ar O (a8 (aw.rd 0 O) O ?_)));refine ar O (aZ O O (ar O (bu O ?_)));refine bQ O ?_;exact⟨bw Value.bool (kc.2 ⟨fun h=> ⟨h1,by omega⟩,fun h=>by omega⟩),aw.tail⟩
 refine av O (av O (av O (av O (bu O ?_))));exact bQ O ⟨bw Value.bool (Eq.symm (dq fun h=>h1 h.1)),aw.tail⟩
theorem PI(A:ai)(n c:Nat)(p:ah)(w:aa)(hR:cd w A n p)(hn:n<=9223372036854775807):
 aE prog 223 [.slice A n c] w (fun v w'=> (∃b,v= .bool b/\(b=true->(2<=n/\n<=200)/\iR p))/\St w w' []):=by
 refine bm func223 O ntmps223 O (bU O) ?_;refine aY O (aZ O O (ao O ?_));refine bX 6 O (fun h1=>?_) (fun h1=>?_)
 ·refine ar O (ao O (ar O (aZ O O (ar O ?_))));refine ak.rem O O O (by omega) (ar O (ao O ?_));refine bX 12 O (fun h2=>?_) (fun h2=>?_)
  ·refine ar O (ao O (ar O (aZ O O (ar O (ao O ?_)))));refine bX 17 O (fun h3=>?_) (fun h3=>?_)
   ·refine ar O (ao O (ar O ?_));refine aH (DE A n c p w hR) O ?_;rintro _ w1 ⟨rfl,hT⟩;refine bu O (bQ O ?_);exact⟨⟨_,O,fun h=> ⟨by omega,mT h⟩⟩,hT⟩
   refine av O (av O (bu O ?_));exact bQ O ⟨⟨false,O,fun h=> (nomatch h)⟩,St.refl w⟩
  refine av O (av O (av O (ao O (av O (av O (bu O ?_))))));exact bQ O ⟨⟨false,O,fun h=> (nomatch h)⟩,St.refl w⟩
 refine av O (av O (av O (av O (ao O (av O (av O (av O (ao O (av O (av O (bu O ?_)))))))))));exact bQ O ⟨⟨false,O,fun h=> (nomatch h)⟩,St.refl w⟩
def qW(L:ag)(K:Int)(w:aa)(v:ab)(w':aa):Prop:=∃A c,∃rs:List aO,v= .tuple #[.agg #[.slice A L.length c],aj K]/\rs.length=L.length/\St w w' (aK 24 2 A L.length c rs L)
theorem qW.none{K:Int}(h:St w w' ks):qW [] K w (.tuple #[.agg #[.slice Option.none 0 0],aj K]) w':=⟨Option.none,0,[],rfl,rfl,h.none.nil _⟩
def Po(w:aa)(v:ab)(w':aa):Prop:=
 ∃(n:Nat) (A:ai) (c:Nat) (rs:List aO) (xss:ag) (code:Int),v= .tuple #[.agg #[.slice A n c],aj code]/\n<=6/\rs.length=n/\xss.length=n/\(∀p∈xss,p.length<=20001/\∀x∈p,-1<=x/\x<=20001)/\St w w' (aK 24 2 A n c rs xss)
def Qb(M:Nat)(y:ah):Prop:=y.length=M/\∀x∈y,-1<=x/\x<=20001
theorem Qb.set{M:Nat}{y:ah}{i:Nat}{v:Int}(h:Qb M y)(hv: -1<=v/\v<=20001):Qb M (y.set i v):=
 ⟨by rw [gR];exact h.1,fun z hz=> (List.mem_or_eq_of_mem_set hz).elim (h.2 z) (fun e=>e▸hv)⟩
theorem Qb.zero{M:Nat}:Qb M (List.replicate M 0):=⟨by simp,fun x hx=>by obtain⟨_,rfl⟩:=List.mem_replicate.1 hx;decide⟩
structure PQ(w0:aa)(n M:Nat)(A:ai)(c:Nat)(A2:ai)(S:Nat->Bool)(e:Env)(w:aa):Prop where
 f0:e 0= .slice A n c
 f2:e 2= .pointer A2
 f4:e 4=aj n
 p0:S 0=true->e 15=aj n
 p1:S 1=true->e 16=aj M
 p3:S 3=true->e 18=aj n
 p4:S 4=true->e 19=aj M
 p6:S 6=true->e 21=aj n
 p7:S 7=true->e 22=aj M
 mem:∃(B0 B1 B2 fu A5:ai) (b0 b1 b2 b3 b5:List Ck) (vs:List ab),(S 2=true->e 17= .slice B0 M M/\b0=[ax 2 B0 M M (List.replicate M 0)])/\(S 5=true->e 20= .slice B1 M M/\b1=[ax 2 B1 M M (List.replicate M 0)])/\(S 8=true->e 23= .slice B2 M M/\b2=[ax 2 B2 M M (List.replicate M 0)])/\(S 9=true->e 24= .slice fu 3 3/\b3=[aV 24 fu 3 3 [⟨B0,M,M⟩,⟨B1,M,M⟩,⟨B2,M,M⟩]])/\(S 10=true->e 25= .agg #[.slice fu 3 3])/\(S 11=true->e 5= .pointer A5/\b5=[Bx 37 1 A5 vs])/\(S 12=false->vs=[.slice none 0 0])/\(S 12=true->vs=[.slice fu 3 3])/\
  St w0 w (b3++ (b0++ (b1++ (b2++ (b5++ [Bx 37 1 A2 [.slice none 0 0]])))))
theorem PO(A:ai)(n c:Nat)(p:ah)(w:aa)(hR:cd w A n p)(hn:n<=9223372036854775807):
 aE prog 168 [.slice A n c] w (Po w):=by
 refine bm func168 O ntmps168 O (uQ O O) (aY O (eH (St.refl w) O ?_));intro A2 w1 aB;refine ao O (aH (PI A n c p w1 (aB.dY hR) hn) O ?_);rintro _ w2 ⟨⟨b,rfl,hb⟩,hT⟩;have aw:=aB.aq hT.below
 first | refine dM rfl rfl ?_ | refine eI rfl rfl ?_
 refine az O ?_;refine aM (b=false) (bw Value.bool (by cases b<;>rfl)) (fun h1=>?_) (fun h1=>?_)
 ·refine aD O (re (by exact inferInstance) O (bR 1 0 aw O O O O O O O ?_));intro w3 aI;refine bu O (mz O (aI.rd 0 O) O ?_);exact⟨0,none,0,[],[],1,O,by decide,O,O,fun p hp=> (nomatch hp),aI.none.nil _⟩
 ·have gj:b=true:=by cases b<;>simp at h1|-
  obtain⟨zT,qE,VP,_⟩:=hb gj;have hpn:=hR.1;refine aD O (aZ O O (az O ?_));obtain⟨M,hM⟩:∃M:Nat,M=2*n:=⟨_,rfl⟩;refine qX (by kernel_rfl) (by kernel_rfl) (fun S e1 w1=>PQ w n M A c A2 S e1 w1) (fun w4 hb=> ⟨O,O,O,fun h=> (nomatch h),fun h=> (nomatch h),fun h=> (nomatch h),fun h=> (nomatch h),fun h=> (nomatch h),fun h=> (nomatch h),none,none,none,none,none,[],[],[],[],[],[.slice none 0 0],fun h=> (nomatch h),fun h=> (nomatch h),fun h=> (nomatch h),fun h=> (nomatch h),fun h=> (nomatch h),fun h=> (nomatch h),fun _=>O,fun h=> (nomatch h),aw.aq hb⟩) ?_ ?_
  ·intro S i o e1 w4 hq bh hd cz hI;obtain⟨f0,f2,f4,p0,p1,p3,p4,p6,p7,B0,B1,B2,fu,A5,b0,b1,b2,b3,b5,vs,m2,m5,m8,m9,m10,m11,og,m12,hT⟩:=hI
   match i,hq,bh with
   | 0,hq,bh=>
    obtain rfl:=bC hq;refine ko O (by exact f4) O (ak.n ?_);exact⟨f0,f2,f4,fun _=>O,p1,p3,p4,p6,p7,B0,B1,B2,fu,A5,b0,b1,b2,b3,b5,vs,m2,m5,m8,m9,m10,m11,og,m12,hT⟩
   | 1,hq,bh=>
    obtain rfl:=bC hq;refine gU O (by exact p0 (bJ hd 0 O)) O (by omega) (ak.n ?_);exact⟨f0,f2,f4,p0,fun _=>bw (Value.int .i64) (by omega),p3,p4,p6,p7,B0,B1,B2,fu,A5,b0,b1,b2,b3,b5,vs,m2,m5,m8,m9,m10,m11,og,m12,hT⟩
   | 2,hq,bh=>
    obtain rfl:=bC hq;have n9:S 9=false:=(ny bh fun h=>bJ (cz 9 _ h O) 2 O);refine pj M (hT.sub (ks':=b3++ (b1++ (b2++ (b5++ [Bx 37 1 A2 [.slice none 0 0]])))) ((dA _).append (dD _ _))) (by exact p1 (bJ hd 1 O)) O (by omega) ?_;intro A' w5 dC;have eu:St w w5 (b3++ ([ax 2 A' M M (List.replicate M 0)]++ (b1++ (b2++ (b5++ [Bx 37 1 A2 [.slice none 0 0]]))))):=by
     refine dC.perm ?_;have:=(eU (a:=ax 2 A' M M (List.replicate M 0)) (l₁:=b3) (l₂:=b1++ (b2++ ((b5++ [Bx 37 1 A2 [.slice none 0 0]]))))).symm;simpa only [fC,List.singleton_append,List.cons_append,List.nil_append]using this
    exact ak.n ⟨f0,f2,f4,p0,p1,p3,p4,p6,p7,A',B1,B2,fu,A5,_,b1,b2,b3,b5,vs,fun _=> ⟨O,O⟩,m5,m8,fun h=> (nomatch n9.symm.trans h),m10,m11,og,m12,eu⟩
   | 3,hq,bh=>
    obtain rfl:=bC hq;refine ko O (by exact f4) O (ak.n ?_);exact⟨f0,f2,f4,p0,p1,fun _=>O,p4,p6,p7,B0,B1,B2,fu,A5,b0,b1,b2,b3,b5,vs,m2,m5,m8,m9,m10,m11,og,m12,hT⟩
   | 4,hq,bh=>
    obtain rfl:=bC hq;refine gU O (by exact p3 (bJ hd 3 O)) O (by omega) (ak.n ?_);exact⟨f0,f2,f4,p0,p1,p3,fun _=>bw (Value.int .i64) (by omega),p6,p7,B0,B1,B2,fu,A5,b0,b1,b2,b3,b5,vs,m2,m5,m8,m9,m10,m11,og,m12,hT⟩
   | 5,hq,bh=>
    obtain rfl:=bC hq;have n9:S 9=false:=(ny bh fun h=>bJ (cz 9 _ h O) 5 O);refine pj M (hT.sub (ks':=b3++ (b0++ (b2++ (b5++ [Bx 37 1 A2 [.slice none 0 0]])))) ((dA _).append ((dA _).append (dD _ _)))) (by exact p4 (bJ hd 4 O)) O (by omega) ?_;intro A' w5 dC;have eu:St w w5 (b3++ (b0++ ([ax 2 A' M M (List.replicate M 0)]++ (b2++ (b5++ [Bx 37 1 A2 [.slice none 0 0]]))))):=by
     refine dC.perm ?_;have:=(eU (a:=ax 2 A' M M (List.replicate M 0)) (l₁:=b3++b0) (l₂:=b2++ ((b5++ [Bx 37 1 A2 [.slice none 0 0]])))).symm;simpa only [fC,List.singleton_append,List.cons_append,List.nil_append]using this
    exact ak.n ⟨f0,f2,f4,p0,p1,p3,p4,p6,p7,B0,A',B2,fu,A5,b0,_,b2,b3,b5,vs,m2,fun _=> ⟨O,O⟩,m8,fun h=> (nomatch n9.symm.trans h),m10,m11,og,m12,eu⟩
   | 6,hq,bh=>
    obtain rfl:=bC hq;refine ko O (by exact f4) O (ak.n ?_);exact⟨f0,f2,f4,p0,p1,p3,p4,fun _=>O,p7,B0,B1,B2,fu,A5,b0,b1,b2,b3,b5,vs,m2,m5,m8,m9,m10,m11,og,m12,hT⟩
   | 7,hq,bh=>
    obtain rfl:=bC hq;refine gU O (by exact p6 (bJ hd 6 O)) O (by omega) (ak.n ?_);exact⟨f0,f2,f4,p0,p1,p3,p4,p6,fun _=>bw (Value.int .i64) (by omega),B0,B1,B2,fu,A5,b0,b1,b2,b3,b5,vs,m2,m5,m8,m9,m10,m11,og,m12,hT⟩
   | 8,hq,bh=>
    obtain rfl:=bC hq;have n9:S 9=false:=(ny bh fun h=>bJ (cz 9 _ h O) 8 O);refine pj M (hT.sub (ks':=b3++ (b0++ (b1++ (b5++ [Bx 37 1 A2 [.slice none 0 0]])))) ((dA _).append ((dA _).append ((dA _).append (dD _ _))))) (by exact p7 (bJ hd 7 O)) O (by omega) ?_;intro A' w5 dC;have eu:St w w5 (b3++ (b0++ (b1++ ([ax 2 A' M M (List.replicate M 0)]++ (b5++ [Bx 37 1 A2 [.slice none 0 0]]))))):=by
     refine dC.perm ?_;have:=(eU (a:=ax 2 A' M M (List.replicate M 0)) (l₁:=b3++b0++b1) (l₂:=(b5++ [Bx 37 1 A2 [.slice none 0 0]]))).symm;simpa only [fC,List.singleton_append,List.cons_append,List.nil_append]using this
    exact ak.n ⟨f0,f2,f4,p0,p1,p3,p4,p6,p7,B0,B1,A',fu,A5,b0,b1,_,b3,b5,vs,m2,m5,fun _=> ⟨O,O⟩,fun h=> (nomatch n9.symm.trans h),m10,m11,og,m12,eu⟩
   | 9,hq,bh=>
    obtain rfl:=bC hq;obtain⟨pA,rfl⟩:=m2 (bJ hd 2 rfl);obtain⟨tW,rfl⟩:=m5 (bJ hd 5 rfl);obtain⟨Cx,rfl⟩:=m8 (bJ hd 8 rfl);have n10:S 10=false:=(ny bh fun h=>bJ (cz 10 _ h O) 9 O);have n12:S 12=false:=(ny bh fun h=>bJ (cz 12 _ h O) 9 O);refine IZ (s0:=⟨B0,M,M⟩) (s1:=⟨B1,M,M⟩) (s2:=⟨B2,M,M⟩) (hT.sub (dD _ _)) (by exact pA) (by exact tW) (by exact Cx) O ?_;intro fu w5 dC;exact ak.n ⟨f0,f2,f4,p0,p1,p3,p4,p6,p7,B0,B1,B2,fu,A5,_,_,_,[aV 24 fu 3 3 [⟨B0,M,M⟩,⟨B1,M,M⟩,⟨B2,M,M⟩]],b5,vs,fun _=> ⟨pA,O⟩,fun _=> ⟨tW,O⟩,fun _=> ⟨Cx,O⟩,fun _=> ⟨O,O⟩,fun h=> (nomatch n10.symm.trans h),m11,og,fun h=> (nomatch n12.symm.trans h),dC⟩
   | 10,hq,bh=>
    obtain rfl:=bC hq;obtain⟨pB,iA⟩:=m9 (bJ hd 9 rfl);refine wN (by exact inferInstance) O (by exact pB) O O (ak.n ?_);exact⟨f0,f2,f4,p0,p1,p3,p4,p6,p7,B0,B1,B2,fu,A5,b0,b1,b2,b3,b5,vs,m2,m5,m8,m9,fun _=>O,m11,og,m12,hT⟩
   | 11,hq,bh=>
    obtain rfl:=bC hq;have n12:S 12=false:=(ny bh fun h=>bJ (cz 12 _ h O) 11 O);obtain rfl:=og n12;refine eH (hT.sub (ks':=(b3++ (b0++ (b1++b2)))++ [Bx 37 1 A2 [.slice none 0 0]]) (by simp only [fC];exact(dA _).append ((dA _).append ((dA _).append ((dA _).append (dD _ _)))))) O ?_;intro A' w5 dC;have eu:St w w5 (b3++ (b0++ (b1++ (b2++ ([Bx 37 1 A' [.slice none 0 0]]++ [Bx 37 1 A2 [.slice none 0 0]]))))):=by
     have:=dC.perm (eU (l₁:=b3++ (b0++ (b1++b2)))).symm;simpa only [fC,List.singleton_append]using this
    exact ak.n ⟨f0,f2,f4,p0,p1,p3,p4,p6,p7,B0,B1,B2,fu,A',b0,b1,b2,b3,_,_,m2,m5,m8,m9,m10,fun _=> ⟨O,O⟩,fun _=>O,fun h=> (nomatch n12.symm.trans h),eu⟩
   | 12,hq,bh=>
    obtain rfl:=bC hq;obtain⟨h5,rfl⟩:=m11 (bJ hd 11 rfl);obtain⟨pA,rfl⟩:=m2 (bJ hd 2 rfl);obtain⟨tW,rfl⟩:=m5 (bJ hd 5 rfl);obtain⟨Cx,rfl⟩:=m8 (bJ hd 8 rfl);obtain⟨pB,rfl⟩:=m9 (bJ hd 9 rfl);obtain rfl:=og bh;refine bR 1 4 hT O (by exact h5) (by exact m10 (bJ hd 10 O)) O O O O ?_;intro w5 dC;refine ak.n ?_;exact⟨f0,f2,f4,p0,p1,p3,p4,p6,p7,B0,B1,B2,fu,A5,_,_,_,_,_,[.slice fu 3 3],fun _=> ⟨pA,O⟩,fun _=> ⟨tW,O⟩,fun _=> ⟨Cx,O⟩,fun _=> ⟨pB,O⟩,m10,fun _=> ⟨h5,O⟩,fun h=> (nomatch (show true=false from h)),fun _=>O,dC⟩
   | i+13,hq,_=>exact(nomatch hq)
  ·intro S e1 w4 ct hI;obtain⟨f0,f2,f4,p0,p1,p3,p4,p6,p7,B0,B1,B2,fu,A5,b0,b1,b2,b3,b5,vs,m2,m5,m8,m9,m10,m11,og,m12,hT⟩:=hI;obtain⟨h5,rfl⟩:=m11 (ct 11 (by decide));obtain⟨_,rfl⟩:=m2 (ct 2 (by decide));obtain⟨_,rfl⟩:=m5 (ct 5 (by decide));obtain⟨_,rfl⟩:=m8 (ct 8 (by decide));obtain⟨_,rfl⟩:=m9 (ct 9 (by decide));obtain rfl:=m12 (ct 12 (by decide));refine yT (F:=[(0,.slice A n c),(2,.pointer A2),(4,aj n),(5,.pointer A5)]) ⟨f0,f2,f4,h5,au⟩ ?_;have hT:St w w4 (aK 24 2 fu 3 3 [⟨B0,M,M⟩,⟨B1,M,M⟩,⟨B2,M,M⟩] [(List.replicate M 0),(List.replicate M 0),(List.replicate M 0)]++ [Bx 37 1 A5 [.slice fu 3 3],Bx 37 1 A2 [.slice none 0 0]]):=hT;refine fw O (Cd.loop (α:=Nat×ah×ah×ah) (fun s=> [(0,.slice A n c),(2,.pointer A2),(4,aj n),(5,.pointer A5),(6,aj (s.1:Int))]) (fun s w'=>St w w' (aK 24 2 fu 3 3 [⟨B0,M,M⟩,⟨B1,M,M⟩,⟨B2,M,M⟩] [s.2.1,s.2.2.1,s.2.2.2]++ [Bx 37 1 A5 [.slice fu 3 3],Bx 37 1 A2 [.slice none 0 0]])/\s.1<=n/\Qb M s.2.1/\Qb M s.2.2.1/\Qb M s.2.2.2) (fun s=>n - s.1) (0,(List.replicate M 0),(List.replicate M 0),(List.replicate M 0)) (ac4 O) ⟨hT,bA _,Qb.zero,Qb.zero,Qb.zero⟩ ?_);rintro⟨f,y0,y1,y2⟩ e w5 ⟨dC,hf,q0,q1,q2⟩;dsimp only at dC hf q0 q1 q2|-;refine b7 O (aM _ O (fun h2=>?_) (fun h2=>?_))
   ·have CF:=dC.dY hR;have hv:0<=gi p f/\gi p f< (n:Int):=by
     rw [bN (by omega)];have:=VP _ (dd (l:=p) (n:=f) (by omega));omega
    generalize hV:gi p f=v at hv;refine cH O (dK [xI ((f:Int)),xI (((f:Int))+ ((1:Int))),xI ((f:Int)),xI ((f:Int)%2),xI (((2:Int))* ((f:Int)%2)),xI ((((f:Int))+ ((1:Int))) - (((2:Int))* ((f:Int)%2))),xS (A) (n) (c),xI ((f:Int)),xP (aF (A) ((f:Int)).toNat),xI (gi (p) ((f:Int))),xI ((((f:Int))+ ((1:Int))) - (((2:Int))* ((f:Int)%2))),xI (gi (p) ((f:Int)))] O (eo O) ?_ ?_)
    ·refine⟨Dr O,fun _ _ _ _ _=>aL O Az,Dr O,?_,fun _ _ _ _ _=>gU O O O (by omega) Az,fun _ _ _ _ _=>je O O O (by omega) Az,Dr O,Dr O,fun _ _ hb _ _=>ay (CF.aq hb).2 O Az,fun _ _ hb _ _=>bc (CF.aq hb) O Az,Dr O,Dr O,au⟩
     ·intro e1 w1 hb hp aX;refine ak.rem O O O (by omega) Az
    intro u w6 jV _;rw [hV];have xA:=dC.aq jV;refine fK O (aS (xA.rd 4 O) O (a8 (xA.rd 4 O) O ?_));refine acU (xA.rd 0 O) O O O (by omega) (by show(0:Int)< (3:Int);decide) ?_;refine ac0 (i:=0) (xA.eG 0 O) O (by show 0<3;decide) O O ?_;refine ao O (gU O O O (by omega) (ao O (gU O O O (by omega) (aL O ?_))));refine acU (xA.rd 1 O) O O O (by omega) (by show 2* (f:Int)< (M:Int);omega) ?_;refine ak.gQ (i:=2* (f:Int)) 1 xA O O O (by show(2* (f:Int)).toNat<M;omega) ?_;intro x0 uc;have uc:St w x0 (aK 24 2 fu 3 3 [⟨B0,M,M⟩,⟨B1,M,M⟩,⟨B2,M,M⟩] [(y0.set (2* (f:Int)).toNat (2* ((f:Int)+1 - 2* ((f:Int)%2))+1)),y1,y2]++ [Bx 37 1 A5 [.slice fu 3 3],Bx 37 1 A2 [.slice none 0 0]]):=uc;refine ao O (aS (uc.rd 4 O) O (a8 (uc.rd 4 O) O ?_));refine acU (uc.rd 0 O) O O O (by omega) (by show(0:Int)< (3:Int);decide) ?_;refine ac0 (i:=0) (uc.eG 0 O) O (by show 0<3;decide) O O ?_;refine ao O (gU O O O (by omega) (aL O (ao O (gU O O O (by omega) ?_))));refine acU (uc.rd 1 O) O O O (by omega) (by show 2* (f:Int)+1< (M:Int);omega) ?_;refine ak.gQ (i:=2* (f:Int)+1) 1 uc O O O (by show(2* (f:Int)+1).toNat<M;omega) ?_;intro x1 ud;have ud:St w x1 (aK 24 2 fu 3 3 [⟨B0,M,M⟩,⟨B1,M,M⟩,⟨B2,M,M⟩] [((y0.set (2* (f:Int)).toNat (2* ((f:Int)+1 - 2* ((f:Int)%2))+1)).set (2* (f:Int)+1).toNat (2* ((f:Int)+1 - 2* ((f:Int)%2)))),y1,y2]++ [Bx 37 1 A5 [.slice fu 3 3],Bx 37 1 A2 [.slice none 0 0]]):=ud;refine ao O (aS (ud.rd 4 O) O (a8 (ud.rd 4 O) O ?_));refine acU (ud.rd 0 O) O O O (by omega) (by show(1:Int)< (3:Int);decide) ?_;refine ac0 (i:=1) (ud.eG 0 O) O (by show 1<3;decide) O O ?_;refine ao O (gU O O O (by omega) (ao O (gU O O O (by omega) (aL O ?_))));refine acU (ud.rd 2 O) O O O (by omega) (by show 2* (f:Int)< (M:Int);omega) ?_;refine ak.gQ (i:=2* (f:Int)) 2 ud O O O (by show(2* (f:Int)).toNat<M;omega) ?_;intro x2 ue;have ue:St w x2 (aK 24 2 fu 3 3 [⟨B0,M,M⟩,⟨B1,M,M⟩,⟨B2,M,M⟩] [((y0.set (2* (f:Int)).toNat (2* ((f:Int)+1 - 2* ((f:Int)%2))+1)).set (2* (f:Int)+1).toNat (2* ((f:Int)+1 - 2* ((f:Int)%2)))),(y1.set (2* (f:Int)).toNat (2*v+1)),y2]++ [Bx 37 1 A5 [.slice fu 3 3],Bx 37 1 A2 [.slice none 0 0]]):=ue;refine ao O (aS (ue.rd 4 O) O (a8 (ue.rd 4 O) O ?_));refine acU (ue.rd 0 O) O O O (by omega) (by show(1:Int)< (3:Int);decide) ?_;refine ac0 (i:=1) (ue.eG 0 O) O (by show 1<3;decide) O O ?_;refine ao O (gU O O O (by omega) (aL O (ao O (gU O O O (by omega) ?_))));refine acU (ue.rd 2 O) O O O (by omega) (by show 2*v+1< (M:Int);omega) ?_;refine ak.gQ (i:=2*v+1) 2 ue O O O (by show(2*v+1).toNat<M;omega) ?_;intro x3 uf;have uf:St w x3 (aK 24 2 fu 3 3 [⟨B0,M,M⟩,⟨B1,M,M⟩,⟨B2,M,M⟩] [((y0.set (2* (f:Int)).toNat (2* ((f:Int)+1 - 2* ((f:Int)%2))+1)).set (2* (f:Int)+1).toNat (2* ((f:Int)+1 - 2* ((f:Int)%2)))),((y1.set (2* (f:Int)).toNat (2*v+1)).set (2*v+1).toNat (2* (f:Int))),y2]++ [Bx 37 1 A5 [.slice fu 3 3],Bx 37 1 A2 [.slice none 0 0]]):=uf;refine ao O (aS (uf.rd 4 O) O (a8 (uf.rd 4 O) O ?_));refine acU (uf.rd 0 O) O O O (by omega) (by show(2:Int)< (3:Int);decide) ?_;refine ac0 (i:=2) (uf.eG 0 O) O (by show 2<3;decide) O O ?_;refine ao O (gU O O O (by omega) (ao O (gU O O O (by omega) (aL O ?_))));refine acU (uf.rd 3 O) O O O (by omega) (by show 2* (f:Int)< (M:Int);omega) ?_;refine ak.gQ (i:=2* (f:Int)) 3 uf O O O (by show(2* (f:Int)).toNat<M;omega) ?_;intro x4 pK;have pK:St w x4 (aK 24 2 fu 3 3 [⟨B0,M,M⟩,⟨B1,M,M⟩,⟨B2,M,M⟩] [((y0.set (2* (f:Int)).toNat (2* ((f:Int)+1 - 2* ((f:Int)%2))+1)).set (2* (f:Int)+1).toNat (2* ((f:Int)+1 - 2* ((f:Int)%2)))),((y1.set (2* (f:Int)).toNat (2*v+1)).set (2*v+1).toNat (2* (f:Int))),(y2.set (2* (f:Int)).toNat (2* (f:Int)+1))]++ [Bx 37 1 A5 [.slice fu 3 3],Bx 37 1 A2 [.slice none 0 0]]):=pK;refine ao O (aS (pK.rd 4 O) O (a8 (pK.rd 4 O) O ?_));refine acU (pK.rd 0 O) O O O (by omega) (by show(2:Int)< (3:Int);decide) ?_;refine ac0 (i:=2) (pK.eG 0 O) O (by show 2<3;decide) O O ?_;refine ao O (gU O O O (by omega) (aL O (ao O (gU O O O (by omega) ?_))));refine acU (pK.rd 3 O) O O O (by omega) (by show 2* (f:Int)+1< (M:Int);omega) ?_;refine ak.gQ (i:=2* (f:Int)+1) 3 pK O O O (by show(2* (f:Int)+1).toNat<M;omega) ?_;intro x5 F4;have F4:St w x5 (aK 24 2 fu 3 3 [⟨B0,M,M⟩,⟨B1,M,M⟩,⟨B2,M,M⟩] [((y0.set (2* (f:Int)).toNat (2* ((f:Int)+1 - 2* ((f:Int)%2))+1)).set (2* (f:Int)+1).toNat (2* ((f:Int)+1 - 2* ((f:Int)%2)))),((y1.set (2* (f:Int)).toNat (2*v+1)).set (2*v+1).toNat (2* (f:Int))),((y2.set (2* (f:Int)).toNat (2* (f:Int)+1)).set (2* (f:Int)+1).toNat (2* (f:Int)))]++ [Bx 37 1 A5 [.slice fu 3 3],Bx 37 1 A2 [.slice none 0 0]]):=F4;refine ao O (aL O (aU O (tQ ?_)));exact⟨(f+1,((y0.set (2* (f:Int)).toNat (2* ((f:Int)+1 - 2* ((f:Int)%2))+1)).set (2* (f:Int)+1).toNat (2* ((f:Int)+1 - 2* ((f:Int)%2)))),((y1.set (2* (f:Int)).toNat (2*v+1)).set (2*v+1).toNat (2* (f:Int))),((y2.set (2* (f:Int)).toNat (2* (f:Int)+1)).set (2* (f:Int)+1).toNat (2* (f:Int)))),by show n - (f+1)<n - f;omega,(ac4 O),F4,by show f+1<=n;omega,(q0.set (by omega)).set (by omega),(q1.set (by omega)).set (by omega),(q2.set (by omega)).set (by omega)⟩
   ·have V3:bl w5 fu 3 [⟨B0,M,M⟩,⟨B1,M,M⟩,⟨B2,M,M⟩] [y0,y1,y2]:=St.du dC O;refine bo O (bp (cn O ?_));refine ac3 0 (dC.rd 4 O) O (aH (Nt fu 3 3 _ [y0,y1,y2] w5 V3 (by decide)) O ?_);rintro _ w6 ⟨rfl,ia⟩;have eu:=dC.aq ia.below
    first | refine dM rfl rfl ?_ | refine eI rfl rfl ?_
    refine az O ?_;refine aM (¬(bj [y0,y1,y2]/\3=3)) (bw Value.bool (by simp)) (fun h3=>?_) (fun h3=>?_)
    ·refine aD O (re (by exact inferInstance) O (bR 1 5 eu O O O O O O O ?_));intro w7 eB;refine bu O (mz O (eB.rd 5 O) O ?_);exact⟨0,none,0,[],[],5,O,by decide,O,O,fun p hp=> (nomatch hp),eB.none.nil _⟩
    ·refine aD O (ac3 0 (eu.rd 4 O) O (bR 1 5 eu O O O O O O O ?_));intro w7 eB;refine bu O (mz O (eB.rd 5 O) O ?_);refine⟨3,fu,3,_,[y0,y1,y2],0,O,by decide,O,O,fun p hp=>?_,eB.sub (ks':=aK 24 2 fu 3 3 [⟨B0,M,M⟩,⟨B1,M,M⟩,⟨B2,M,M⟩] [y0,y1,y2]) (kY (aK 24 2 fu 3 3 [⟨B0,M,M⟩,⟨B1,M,M⟩,⟨B2,M,M⟩] [y0,y1,y2]) _)⟩;have hq:Qb M p:=by
      simp only [ja,List.not_mem_nil,or_false]at hp;rcases hp with rfl | rfl | rfl<;>assumption
     exact⟨by have:=hq.1;omega,hq.2⟩
section
variable {P:Program} {N:Nat} {ops:Array Oper} {K:Env->aa->Prop} {rest:List Oper} {e:Env} {w0 w w':aa} {ks:List Ck} {d:Nat} {ty:ad} {pos:String} {af:Array Edge}
theorem wP{el:ad}{x:ae}{v0 v1 v2:ab}(hS:St w0 w ks)(hx:ev e x= .agg #[v0,v1,v2])(hb:Nat.blt d N=true)(hK:∀A w',St w0 w' (Bx el 3 A [v0,v1,v2]::ks)->ak P N ops K rest (bt e d (.pointer A)) w')(hM:dX [v0,v1,v2]=false:=by rfl):ak P N ops K (⟨some d,.box el x,ty,pos,af,none⟩::rest) e w:= .xd hS hx hb rfl hK hM
theorem rf{el:ad}{v0 v1 v2:ab}{s b:Nat}[bF P el (.agg #[v0,v1,v2]) s b](hS:St w0 w ks)(hb:Nat.blt d N=true)(hK:∀A w',St w0 w' (Bx el 3 A [v0,v1,v2]::ks)->ak P N ops K rest (bt e d (.pointer A)) w')(hM:dX [v0,v1,v2]=false:=by rfl):ak P N ops K (⟨some d,.alloc el,ty,pos,af,none⟩::rest) e w:= .new (el:=el) (z:= .agg #[v0,v1,v2]) (s:=s) (b:=b) hS hb rfl hK hM
end
structure PS where
 im:ag
 ls:ah
def sG(ls:ah):Nat->Int->Option Int
 | 0,_=>none
 | k+1,c=>if 0<=c/\c< (ls.length:Int)then(if gi ls c=c then some c else sG ls k (gi ls c))else none
def rZ(x:PS)(c g:Int):Option Int:=
 if 0<=c/\c< (x.im.length:Int)/\0<=g/\g< ((gl x.im c).length:Int)then(if gi (gl x.im c) g<0 then some (-1)else sG x.ls 2000 (gi (gl x.im c) g))else none
def E4(x:PS)(bL:Nat):Option PS:=
 if x.ls.length=x.im.length/\x.ls.length<2000/\bL<=100 then some ⟨x.im++ [List.replicate bL (-1)],x.ls++ [(x.ls.length:Int)]⟩else none
structure LS where
 A:ai
 n:Nat
 c:Nat
 rs:List aO
 im:ag
 B:ai
 m:Nat
 cB:Nat
 ls:ah
def LS.ok(x:LS):Prop:=x.rs.length=x.n/\x.im.length=x.n/\x.ls.length=x.m
abbrev LS.fc(x:LS):List Ck:=ax 2 x.B x.m x.cB x.ls::aK 24 2 x.A x.n x.c x.rs x.im
abbrev LS.cells(x:LS):List ab:=[.slice x.A x.n x.c,.slice x.B x.m x.cB,.bool false]
abbrev LS.val(x:LS):ab:= .agg #[.slice x.A x.n x.c,.slice x.B x.m x.cB,.bool false]
def LS.p(x:LS):PS:=⟨x.im,x.ls⟩
theorem HB{A B:ai}{n c m cB:Nat}{b:Bool}(ls:ah)(k0:Nat)(c0 d:Int)(w:aa)(hR:cd w B m ls)(hf:sG ls k0 c0=some d):
 aE prog 310 [.agg #[.slice A n c,.slice B m cB,.bool b],aj c0] w (fun v w'=>v=aj d/\St w w' []):=by
 have hl:=hR.1;refine bm func310 O ntmps310 O (bU O) (aY O (wP (St.refl w) O O ?_));intro Ab w1 hS;refine az O (Cd.loop (α:=Int×Nat) (fun s=> [(1,aj s.1),(2,.pointer Ab)]) (fun s w'=>St w w' [Bx 259 3 Ab [.slice A n c,.slice B m cB,.bool b]]/\sG ls s.2 s.1=some d) (fun s=>s.2) (c0,k0) (ac4 O) ⟨hS,hf⟩ ?_);rintro⟨c,k⟩ e w1 ⟨hS,hf⟩;obtain⟨q,rfl⟩:∃q,k=q+1:=by cases k with | zero=>cases hf | succ q=>exact⟨q,rfl⟩
 have hf:(if 0<=c/\c< (ls.length:Int)then(if gi ls c=c then some c else sG ls q (gi ls c))else none)=some d:=hf
 split at hf
 case isFalse=>cases hf
 rename_i hc;have fT:=hS.dY hR;refine aY O (aS (hS.rd 0 O) O (a8 (hS.rd 0 O) O (ao O (ay fT.2 O (bc fT O (az O ?_))))));refine aM _ O (fun h1=>?_) (fun h1=>?_)
 ·rw [aC h1]at hf;refine aD O (aS (hS.rd 0 O) O (a8 (hS.rd 0 O) O (ao O (ay fT.2 O (bc fT O ?_)))));refine aU O (tQ ?_);exact⟨(gi ls c,q),Nat.lt_succ_self q,(ac4 O),hS,hf⟩
 have h1:gi ls c=c:=Decidable.not_not.1 h1;rw [aJ h1]at hf;obtain rfl:=bC hf;refine bo O (bp (e6 O ?_));exact fP O ⟨O,hS.none⟩
theorem AV{A B:ai}{n c m cB:Nat}{b:Bool}(rs:List aO)(im:ag)(ls:ah)(c0 g d:Int)(w:aa)(hI:bl w A n rs im)(hR:cd w B m ls)(hf:rZ ⟨im,ls⟩ c0 g=some d):
 aE prog 294 [.agg #[.slice A n c,.slice B m cB,.bool b],aj c0,aj g] w (fun v w'=>v=aj d/\St w w' []):=by
 have hl:=hI.len;have hf:(if 0<=c0/\c0< (im.length:Int)/\0<=g/\g< ((gl im c0).length:Int)then(if gi (gl im c0) g<0 then some (-1)else sG ls 2000 (gi (gl im c0) g))else none)=some d:=hf
 split at hf
 case isFalse=>cases hf
 rename_i hc;have bH:=hI.at_ (i:=c0) hc.1 (by omega);have bO:=bH.1;refine bm func294 O ntmps294 O (bU O) (aY O (wP (St.refl w) O O ?_));intro Ab w1 hS;have nP:=hS.bE hI;have MD:=hS.dY bH;have fT:=hS.dY hR;refine ao O (aS (hS.rd 0 O) O (a8 (hS.rd 0 O) O (ao O (ay nP.top.2 O (bB nP.top O (ao O (ay MD.2 O (bc MD O (az O ?_)))))))));refine aM _ O (fun h1=>?_) (fun h1=>?_)
 ·rw [aJ h1]at hf;obtain rfl:=bC hf;refine cE O (fP O ?_);exact⟨O,hS.none⟩
 rw [aC h1]at hf;refine aD O (ac3 2 (hS.rd 0 O) O (ao O (aH (HB ls 2000 _ d _ fT hf) O ?_)));rintro _ w2 ⟨rfl,aA⟩;refine bu O (fP O ?_);exact⟨O,(hS.aq aA.below).none⟩
theorem Nq{w0 w:aa}{ks:List Ck}(x:LS)(bL:Nat)(y:PS)(bq:x.ok)(hS:St w0 w (x.fc++ks))(hp:E4 x.p bL=some y):
 aE prog 307 [x.val,aj bL] w (fun v w'=>∃x':LS,x'.ok/\x'.p=y/\v= .tuple #[x'.val,aj (x.m:Int)]/\St w0 w' (x'.fc++ks)):=by
 obtain⟨A,n,c,rs,im,B,m,cB,ls⟩:=x;obtain⟨h1,h2,h3⟩:=bq;have h1:rs.length=n:=h1;have h2:im.length=n:=h2;have h3:ls.length=m:=h3;have hp:(if ls.length=im.length/\ls.length<2000/\bL<=100 then some (⟨im++ [List.replicate bL (-1)],ls++ [(ls.length:Int)]⟩:PS)else none)=some y:=hp
 split at hp
 case isFalse=>cases hp
 rename_i hc;have hp:=bC hp;have hS:St w0 w (ax 2 B m cB ls::aV 24 A n c rs::(bS 2 rs im++ks)):=hS;refine bm func307 O ntmps307 O (uQ O O) (aY O (wP hS O O ?_));intro Ab w1 aB;refine rf aB O ?_;intro Ac w2 aw;have aw:St w0 w2 (Bx 259 3 Ac [.slice none 0 0,.slice none 0 0,.bool false]::Bx 259 3 Ab [.slice A n c,.slice B m cB,.bool false]::ax 2 B m cB ls::aV 24 A n c rs::(bS 2 rs im++ks)):=aw;refine ao O (aS (aw.rd 1 O) O (a8 (aw.rd 1 O) O ?_));refine aZ O O (az O ?_);refine jw O (by omega) (aD O (jO aw O ?_));intro A3 w3 aI;refine az O (Cd.loop (α:=Nat×ai×Nat) (fun s=> [(1,aj bL),(2,.pointer Ab),(4,.pointer Ac),(6,aj m),(7,.slice s.2.1 s.1 s.2.2),(8,aj (s.1:Int))]) (fun s w'=>St w0 w' (ax 2 s.2.1 s.1 s.2.2 (List.replicate s.1 (-1))::Bx 259 3 Ac [.slice none 0 0,.slice none 0 0,.bool false]::Bx 259 3 Ab [.slice A n c,.slice B m cB,.bool false]::ax 2 B m cB ls::aV 24 A n c rs::(bS 2 rs im++ks))/\s.1<=bL) (fun s=>bL - s.1) (0,A3,0) (ac4 O) ⟨aI,bA _⟩ ?_);rintro⟨k,A4,c4⟩ e w4 ⟨aG,hk⟩;dsimp only at aG hk;refine b7 O (aM _ O (fun h4=>?_) (fun h4=>?_))
 ·refine aD O (fk aG O O O ?_);intro A5 w5 aR;refine fR 1 aR O (aR.bz 0 O) O O O fun A6 c6 w6 aQ=>ao O (aL O (aU O (tQ ?_)));refine⟨(k+1,A6,c6),by show bL - (k+1)<bL - k;omega,(ac4 O),?_,by show k+1<=bL;omega⟩;have h5:=aQ.tail;rw [<-List.replicate_succ']at h5;exact h5
 have ke:k=bL:=by omega
 subst ke;refine bo O (bp (cn O ?_));refine aS (aG.rd 2 O) O (a8 (aG.rd 2 O) O (ao O (mW aG O O O ?_)));intro A5 w5 aR;refine km 5 aR O (aR.eG 0 O) O O O (by omega) (by omega) O ?_;intro A6 c6 w6 aQ;have aQ:St w0 w6 (ax 2 A4 k c4 (List.replicate k (-1))::Bx 259 3 Ac [.slice none 0 0,.slice none 0 0,.bool false]::Bx 259 3 Ab [.slice A n c,.slice B m cB,.bool false]::ax 2 B m cB ls::aV 24 A6 (n+1) c6 (rs++ [⟨A4,k,c4⟩])::(bS 2 rs im++ks)):=aQ.tail;refine aS (aQ.rd 2 O) O (kD 2 aQ O O O O O ?_);intro w7 a6;have a6:St w0 w7 (ax 2 A4 k c4 (List.replicate k (-1))::Bx 259 3 Ac [.slice none 0 0,.slice none 0 0,.bool false]::Bx 259 3 Ab [.slice A6 (n+1) c6,.slice B m cB,.bool false]::ax 2 B m cB ls::aV 24 A6 (n+1) c6 (rs++ [⟨A4,k,c4⟩])::(bS 2 rs im++ks)):=a6;refine ao O (aS (a6.rd 2 O) O (a8 (a6.rd 2 O) O (ao O (fk a6 O O O ?_))));intro A8 w8 a7;refine fR 4 a7 O (a7.bz 0 O) O O O ?_;intro A9 c9 w9 aW;have aW:St w0 w9 (ax 2 A4 k c4 (List.replicate k (-1))::Bx 259 3 Ac [.slice none 0 0,.slice none 0 0,.bool false]::Bx 259 3 Ab [.slice A6 (n+1) c6,.slice B m cB,.bool false]::ax 2 A9 (m+1) c9 (ls++ [(m:Int)])::aV 24 A6 (n+1) c6 (rs++ [⟨A4,k,c4⟩])::(bS 2 rs im++ks)):=aW.tail;refine aS (aW.rd 2 O) O (kD 2 aW O O O O O ?_);intro dt bV;have bV:St w0 dt (ax 2 A4 k c4 (List.replicate k (-1))::Bx 259 3 Ac [.slice none 0 0,.slice none 0 0,.bool false]::Bx 259 3 Ab [.slice A6 (n+1) c6,.slice A9 (m+1) c9,.bool false]::ax 2 A9 (m+1) c9 (ls++ [(m:Int)])::aV 24 A6 (n+1) c6 (rs++ [⟨A4,k,c4⟩])::(bS 2 rs im++ks)):=bV;refine ao O (ac3 2 (bV.rd 2 O) O (ao O (bR 3 1 bV O O O O O O O ?_)));intro dB dW;have dW:St w0 dB (ax 2 A4 k c4 (List.replicate k (-1))::Bx 259 3 Ac [.slice A6 (n+1) c6,.slice A9 (m+1) c9,.bool false]::Bx 259 3 Ab [.slice A6 (n+1) c6,.slice A9 (m+1) c9,.bool false]::ax 2 A9 (m+1) c9 (ls++ [(m:Int)])::aV 24 A6 (n+1) c6 (rs++ [⟨A4,k,c4⟩])::(bS 2 rs im++ks)):=dW;refine bu O (mz O (dW.rd 1 O) O ?_);refine⟨⟨A6,n+1,c6,rs++ [⟨A4,k,c4⟩],im++ [List.replicate k (-1)],A9,m+1,c9,ls++ [(m:Int)]⟩,⟨by simp [h1],by simp [h2],by simp [h3]⟩,?_,O,?_⟩
 ·rw [<-hp,h3];rfl
 have h5:=(dW.sub ((((dA _).cons _).cons _).cons_cons _));show St w0 dB (ax 2 A9 (m+1) c9 (ls++ [(m:Int)])::aV 24 A6 (n+1) c6 (rs++ [⟨A4,k,c4⟩])::(bS 2 (rs++ [⟨A4,k,c4⟩]) (im++ [List.replicate k (-1)])++ks));rw [nD (by omega),fC];refine h5.perm ((eU (l₁:=[_,_]) (a:=ax 2 A4 k c4 (List.replicate k (-1)))).symm.trans ?_);refine List.Perm.cons _ (List.Perm.cons _ ?_);exact eU.symm
def uV(M:ag)(c g v:Int):ag:=M.set c.toNat ((gl M c).set g.toNat v)
def ym(x:PS)(c g:Int):Option (PS×Int):=
 match rZ x c g with
 | none=>none
 | some d=>if 0<=d then some (x,d)else
  match E4 x (gl x.im 0).length with
  | none=>none
  | some y=>if g< ((gl x.im 0).length:Int)then some (⟨uV (uV y.im c g (x.ls.length:Int)) (x.ls.length:Int) g c,y.ls⟩,(x.ls.length:Int))else none
theorem St.l9{w0 w:aa}{pre a ks:List Ck}(h:St w0 w (pre++ (a++ks))):St w0 w (a++ (pre++ks)):=h.perm (by
 rw [<-fC,<-fC];exact fb.append_right ks)
def wL(w0:aa)(pre:List Ck)(ks:List Ck)(y:PS)(x:LS)(w:aa):Prop:=x.ok/\x.p=y/\St w0 w (pre++ (x.fc++ks))
theorem LS.du{w0 w:aa}{pre ks:List Ck}{x:LS}(bq:x.ok)(h:St w0 w (pre++ (x.fc++ks))):bl w x.A x.n x.rs x.im:=by
 have h1:St w0 w (x.fc++ (pre++ks)):=h.l9;have h2:St w0 w (aK 24 2 x.A x.n x.c x.rs x.im++ (pre++ks)):=h1.tail;exact h2.du bq.2.1
theorem LS.bz{w0 w:aa}{pre ks:List Ck}{x:LS}(h:St w0 w (pre++ (x.fc++ks))):cd w x.B x.m x.ls:=by
 have h1:St w0 w (x.fc++ (pre++ks)):=h.l9;exact h1.bz 0 O
theorem HC{w0 w:aa}{ks:List Ck}(x:LS)(c g:Int)(y:PS)(d:Int)(bq:x.ok)(hS:St w0 w (x.fc++ks))(hp:ym x.p c g=some (y,d)):
 aE prog 309 [x.val,aj c,aj g] w (fun v w'=>∃x':LS,x'.ok/\x'.p=y/\v= .tuple #[x'.val,aj d]/\St w0 w' (x'.fc++ks)):=by
 unfold ym at hp
 split at hp
 case h_1=>cases hp
 rename_i d0 rG;have UD:0<=c/\c< (x.im.length:Int)/\0<=g/\g< ((gl x.im c).length:Int):=by
  have CZ:(if 0<=c/\c< (x.im.length:Int)/\0<=g/\g< ((gl x.im c).length:Int)then(if gi (gl x.im c) g<0 then some (-1)else sG x.ls 2000 (gi (gl x.im c) g))else none)=some d0:=rG
  split at CZ
  case isFalse=>cases CZ
  rename_i h;exact h
 obtain⟨ci,rfl⟩:∃ci:Nat,c=ci:=⟨c.toNat,by omega⟩;have Lm:=LS.bz (pre:=[]) hS;have pE:=LS.du (pre:=[]) bq hS;refine bm func309 O ntmps309 O (uQ O O) (aY O (wP hS O O ?_));intro Ab w1 aB;refine rf aB O ?_;intro Ac w2 aw;have aw:St w0 w2 ([Bx 259 3 Ac [.slice none 0 0,.slice none 0 0,.bool false],Bx 259 3 Ab x.cells]++ (x.fc++ks)):=aw;have jf:=LS.bz aw;have pF:=LS.du bq aw;refine ao O (ac3 2 (aw.rd 1 O) O (ao O (aH (AV x.rs x.im x.ls ci g d0 _ pF jf rG) O ?_)));rintro _ w3 ⟨rfl,aA⟩;have aI:=aw.aq aA.below;refine az O (aM _ O (fun h1=>?_) (fun h1=>?_))
 ·rw [aJ h1]at hp;obtain⟨rfl,rfl⟩:=Prod.mk.inj (bC hp);refine aD O (ac3 2 (aI.rd 1 O) O (ao O (bR 3 0 aI O O O O O O O ?_)));intro w4 aG;refine bu O (mz O (aG.rd 0 O) O ?_);exact⟨x,bq,O,O,(aG.sub ((dA _).cons _)).sub ((dA _).cons _)⟩
 rw [aC h1]at hp
 split at hp
 case h_1=>cases hp
 rename_i y1 qH
 split at hp
 case isFalse=>cases hp
 rename_i hg;obtain⟨e1,e2⟩:=Prod.mk.inj (bC hp);have xu:=pF.aq aA.below;have hn:0<x.n:=by have:=bq.2.1;omega
 have bH:=xu.at_ (i:=0) (Int.le_refl _) (by omega);have bO:(rg x.rs 0).n=(gl x.im 0).length:=bH.1.symm;refine cH O ?_;refine jx [6,10] [.ex (.agg #[.slice (x.A) (x.n) (x.c),.slice (x.B) (x.m) (x.cB),.bool (false)]),yP (aF (Ab) 0),yS (x.A) (x.n) (x.c),yP (aF (x.A) ((0:Int)).toNat),yS ((rg (x.rs) ((0:Int))).a) ((rg (x.rs) ((0:Int))).n) ((rg (x.rs) ((0:Int))).c),yI ((((rg (x.rs) ((0:Int))).n:Nat):Int)),.pr (fun v w'=>∃x':LS,v= .tuple #[x'.val,aj (x.m:Int)]/\wL w0 [Bx 259 3 Ac [.slice none 0 0,.slice none 0 0,.bool false],Bx 259 3 Ab x.cells] ks y1 x' w'),.al (fun v=>∃u0,v= .tuple #[u0,aj (x.m:Int)]) (fun v w'=>∃x':LS,v= .tuple #[x'.val,aj (x.m:Int)]/\wL w0 [Bx 259 3 Ac [.slice none 0 0,.slice none 0 0,.bool false],Bx 259 3 Ab x.cells] ks y1 x' w'),.pr (fun v w'=>∃x':LS,v=x'.val/\wL w0 [Bx 259 3 Ac [.slice none 0 0,.slice none 0 0,.bool false],Bx 259 3 Ab x.cells] ks y1 x' w'),yI (x.m:Int),.pr (fun _ w'=>∃x':LS,wL w0 [Bx 259 3 Ac [.slice none 0 0,.slice none 0 0,.bool false],Bx 259 3 Ab x'.cells] ks y1 x' w'),yI (x.m:Int)] (by kernel_rfl) (by kernel_rfl) (ly (ly (ly (ly (ly (ly (cL.2 ⟨Ye.cQ (fun v w w' h hb=>by obtain⟨x',hv,h1,h2,h3⟩:=h;exact⟨x',hv,h1,h2,h3.aq hb⟩),(cL.2 ⟨Qy (fun v w w' h hb=>by obtain⟨x',hv,h1,h2,h3⟩:=h;exact⟨x',hv,h1,h2,h3.aq hb⟩),(cL.2 ⟨Ye.cQ (fun v w w' h hb=>by obtain⟨x',hv,h1,h2,h3⟩:=h;exact⟨x',hv,h1,h2,h3.aq hb⟩),(ly (cL.2 ⟨Ye.cQ (fun v w w' h hb=>by obtain⟨x',h1,h2,h3⟩:=h;exact⟨x',h1,h2,h3.aq hb⟩),(ly (fun _ h=>by cases h))⟩))⟩)⟩)⟩))))))) ?_ ?_
 ·refine⟨cP fun _ _ hb _ _ _=>ac3 2 ((aI.rd 1 O).below hb) O (bG O O),cP fun _ _ hb _ _ _=>aS ((aI.rd 1 O).below hb) O (bG O O),cP fun _ _ hb _ _ _=>a8 ((aI.rd 1 O).below hb) O (bG O O),cP fun _ _ hb _ _ _=>ay (xu.top.aq hb).2 O (bG O O),cP fun _ _ hb _ _ _=>bB (xu.top.aq hb) O (bG O O),aP fun _ _=>aZ O O (bG O O),?_,?_,?_,?_,?_,cj O,au⟩
  ·refine jy fun e1 w1 hb hp aX hq=>?_
   refine acW (Nq x (gl x.im 0).length y1 bq ((aI.aq hb).l9 (pre:=[_,_])) qH) O (by rw [<-bO];rfl) O ?_;rintro _ w4 ⟨x',iK,fV,rfl,hT⟩;exact ak.n (fv.dn O ⟨x',O,iK,fV,hT.l9⟩)
  ·refine dP 1 fun e1 w1 hp aX hq=>?_
   have dT:=hp 6 _ _ (by kernel_rfl) O O (by kernel_rfl);obtain⟨x',hv,hT⟩:=(hp 6 _ _ (by kernel_rfl) rfl rfl (by kernel_rfl));refine BQ O (by exact hv) O (ak.n ?_);exact fB.dn O (Below.refl _ _) ⟨⟨_,O⟩,x',O,hT⟩
  ·refine dP 1 fun e1 w1 hp aX hq=>?_
   have dT:=hp 6 _ _ (by kernel_rfl) O O (by kernel_rfl);obtain⟨x',hv,hT⟩:=((hp 7 _ _ (by kernel_rfl) rfl rfl).2 (by kernel_rfl));refine ak.extract (by exact hv) O O (ak.n ?_);exact fB.dn O (Below.refl _ _) ⟨x',O,hT⟩
  ·intro e1 w1 cc eY dQ eP hp aX hq;show ak _ _ _ _ _ _ _;obtain⟨u0,hv⟩:=(hp 7 _ _ (by kernel_rfl) rfl rfl).1;refine ak.extract (by exact hv) O O (ak.n ?_);exact fB.dn O (Below.refl _ _) O
  refine pn 1 fun e1 w1 hp aX hq=>?_
  have dT:=hp 6 _ _ (by kernel_rfl) O O (by kernel_rfl);obtain⟨x',hv,h1,h2,h3⟩:=(hp 8 _ _ (by kernel_rfl) rfl rfl (by kernel_rfl));refine bR 3 1 h3 O O (by exact hv) O O O O ?_;intro dB jm;exact ak.n (fv.st O ⟨x',h1,h2,jm⟩)
 intro u w5 _ hu _ _;obtain⟨x',iK,fV,hT⟩:=hu 10 _ rfl (by kernel_rfl);have yd:x.ls.length=x.m:=bq.2.2;have rY:=qH;have qH:(if x.ls.length=x.im.length/\x.ls.length<2000/\(gl x.im 0).length<=100 then some (⟨x.im++ [List.replicate (gl x.im 0).length (-1)],x.ls++ [(x.ls.length:Int)]⟩:PS)else none)=some y1:=qH
 split at qH
 case isFalse=>cases qH
 rename_i fp;obtain rfl:=bC qH;have s5:x'.im=x.im++ [List.replicate (gl x.im 0).length (-1)]:=bw PS.im fV;have Vt:x'.ls=x.ls++ [(x.ls.length:Int)]:=bw PS.ls fV;have fM:g< ((gl x.im 0).length:Int):=hg;have pT:x'.n=x.n+1:=by have:=iK.2.1;rw [s5,e8]at this;have h5:=bq.2.1;simp at this;omega
 have Lr:St w0 w5 ([Bx 259 3 Ac [.slice none 0 0,.slice none 0 0,.bool false],Bx 259 3 Ab x'.cells]++ (x'.fc++ks)):=hT;have dC:St w0 w5 ([Bx 259 3 Ac [.slice none 0 0,.slice none 0 0,.bool false],Bx 259 3 Ab x'.cells,ax 2 x'.B x'.m x'.cB x'.ls]++ (aK 24 2 x'.A x'.n x'.c x'.rs x'.im++ks)):=hT;have FP:=LS.du iK Lr;have cS:x.im.length=x.n:=bq.2.1;have Dp:=FP.at_ (i:=(ci:Int)) UD.1 (by omega);have R3:gl x'.im ci=gl x.im ci:=by
  rw [s5];simp only [gl,gn,df];rw [ow (by omega)]
 have R4:gl x'.im (x.m:Int)=List.replicate (gl x.im 0).length (-1):=by
  rw [s5];simp only [gl,gn,df];rw [mU (by omega)];simp [show x.m - x.im.length=0 by omega]
 have An:(rg x'.rs ci).n=(gl x.im ci).length:=by rw [<-Dp.1,R3]
 have mQ:x'.rs.length=x'.im.length:=by rw [iK.1,iK.2.1]
 refine fK O (aS (dC.rd 1 O) O (u9 (dC.rd 1 O) O O O O O (az O (Cd.dO O (aD O (aS (dC.rd 1 O) O (a8 (dC.rd 1 O) O (ao O (ay FP.top.2 O ?_)))))))));refine bB FP.top O (ao O (ay Dp.2 O ?_));refine qj ci dC mQ (by rw [iK.1];omega) O O (by omega) ?_;intro w6 eu;have zX:({ x' with im:=x'.im.set ci ((gl x'.im ci).set g.toNat (x.m:Int)) }:LS).ok:=⟨iK.1,by show(x'.im.set _ _).length=_;rw [gR];exact iK.2.1,iK.2.2⟩;generalize Hk:({ x' with im:=x'.im.set ci ((gl x'.im ci).set g.toNat (x.m:Int)) }:LS)=x6 at zX;have sK:x6.A=x'.A/\x6.n=x'.n/\x6.c=x'.c/\x6.rs=x'.rs/\x6.B=x'.B/\x6.m=x'.m/\x6.cB=x'.cB/\x6.ls=x'.ls/\x6.im=x'.im.set ci ((gl x'.im ci).set g.toNat (x.m:Int)):=by subst Hk;exact⟨rfl,rfl,rfl,rfl,rfl,rfl,rfl,rfl,rfl⟩
 obtain⟨q1,q2,q3,q4,q5,q6,q7,q8,q9⟩:=sK;have vA:St w0 w6 ([Bx 259 3 Ac [.slice none 0 0,.slice none 0 0,.bool false],Bx 259 3 Ab x'.cells]++ (x6.fc++ks)):=by
  show St w0 w6 ([Bx _ 3 Ac _,Bx _ 3 Ab x'.cells]++ ((ax _ x6.B x6.m x6.cB x6.ls::aK _ _ x6.A x6.n x6.c x6.rs x6.im)++ks));rw [q1,q2,q3,q4,q5,q6,q7,q8,q9];exact eu
 have sN:=LS.du zX vA;have ns:=sN.at_ (i:=(x.m:Int)) (by omega) (by omega);have E6:gl x6.im (x.m:Int)=List.replicate (gl x.im 0).length (-1):=by
  rw [q9,xl (by rw [s5,e8];omega),aC (by omega),R4]
 have uA:(rg x6.rs (x.m:Int)).n=(gl x.im 0).length:=by rw [<-ns.1,E6,List.length_replicate]
 refine ao O (aS (vA.rd 1 O) O (a8 (vA.rd 1 O) O (ao O ?_)));rw [q1,q2,q4]at sN;rw [q4]at ns uA;refine ay sN.top.2 O (bB sN.top O (ao O (ay ns.2 O ?_)));have eB:St w0 w6 ([Bx 259 3 Ac [.slice none 0 0,.slice none 0 0,.bool false],Bx 259 3 Ab x'.cells,ax 2 x'.B x'.m x'.cB x'.ls]++ (aK 24 2 x'.A x'.n x'.c x'.rs x6.im++ks)):=by
  rw [q9];exact eu
 refine qj x.m eB (by rw [q9,gR];exact mQ) (by rw [iK.1];omega) O O (by omega) ?_;intro w8 fH;refine ao O (ac3 2 (fH.rd 1 O) O (ao O (bR 3 0 fH O O O O O O O ?_)));intro w9 iV;refine bu O (mz O (iV.rd 0 O) O ?_);refine⟨{ x' with im:=x6.im.set x.m ((gl x6.im (x.m:Int)).set g.toNat (ci:Int)) },⟨iK.1,by show(x6.im.set _ _).length=_;rw [gR,q9,gR];exact iK.2.1,iK.2.2⟩,?_,?_,(iV.sub ((dA _).cons _)).sub ((dA _).cons _)⟩
 ·rw [<-e1];show(⟨x6.im.set x.m ((gl x6.im (x.m:Int)).set g.toNat (ci:Int)),x'.ls⟩:PS)=_;rw [q9,s5,Vt];unfold uV;simp only [gn];have e9:x.p.ls.length=x.m:=yd;rw [e9]
 rw [<-e2];have e9:x.p.ls.length=x.m:=yd;rw [e9]
 rfl
def yf(lo hi:Int):Nat->Nat->ag->ah->ah->Option (ag×ah×ah)
 | 0,_,_,_,_=>none
 | k+1,g,im,one,two=>
  if g< (gl im hi).length then
   if gi (gl im hi) g<0 then yf lo hi k (g+1) im one two
   else if g< (gl im lo).length then
    if 0<=gi (gl im lo) g then(if one.length<1000000/\two.length<1000000 then yf lo hi k (g+1) im (one++ [gi (gl im hi) g]) (two++ [gi (gl im lo) g])else none)
    else yf lo hi k (g+1) (uV im lo g (gi (gl im hi) g)) one two
   else none
  else some (im,one,two)
def tk:Nat->Nat->PS->ah->ah->Option PS
 | 0,_,_,_,_=>none
 | k+1,i,x,one,two=>
  if i<one.length then
   if i<two.length then
    match sG x.ls 2000 (gi one i),sG x.ls 2000 (gi two i)with
    | some a,some b=>
     if a=b then tk k (i+1) x one two
     else
      if 0<=(if b<a then b else a)/\(if b<a then a else b)< (x.im.length:Int)/\(if b<a then a else b)< (x.ls.length:Int)/\x.im.length<=2000 then
       match yf (if b<a then b else a) (if b<a then a else b) 1000 0 x.im one two with
       | some (im,HY,Ix)=>tk k (i+1) ⟨im,x.ls.set (if b<a then a else b).toNat (if b<a then b else a)⟩ HY Ix
       | none=>none
      else none
    | _,_=>none
   else none
  else some x
structure IM where
 i:Nat
 k:Nat
 A7:ai
 c7:Nat
 one:ah
 A8:ai
 c8:Nat
 two:ah
 im:ag
 ls:ah
theorem Nr{w0 w:aa}{ks:List Ck}(x:LS)(c d:Int)(y:PS)(k0:Nat)(bq:x.ok)(hS:St w0 w (x.fc++ks))(hp:tk k0 0 x.p [c] [d]=some y):
 aE prog 317 [x.val,aj c,aj d] w (fun v w'=>∃x':LS,x'.ok/\x'.p=y/\v=x'.val/\St w0 w' (x'.fc++ks)):=by
 obtain⟨A,n,cc,rs,im,B,m,cB,ls⟩:=x;obtain⟨h1,h2,h3⟩:=bq;have h1:rs.length=n:=h1;have h2:im.length=n:=h2;have h3:ls.length=m:=h3;refine bm func317 O ntmps317 O (lB O O) (aY O (wP hS O O ?_));intro Ab w1 aB;refine rf aB O fun Ac w2 aw=>ao O (fk aw O O O ?_);intro A7 w3 aI;refine ao O (fk aI O O O ?_);intro A8 w4 aG;have aG:St w0 w4 ([ax 2 A8 1 1 [d],ax 2 A7 1 1 [c],Bx 259 3 Ac [.slice none 0 0,.slice none 0 0,.bool false],Bx 259 3 Ab [.slice A n cc,.slice B m cB,.bool false],ax 2 B m cB ls]++ (aK 24 2 A n cc rs im++ks)):=aG;refine az O ?_;refine Cd.loop (α:=IM) (fun s=> [(3,.pointer Ab),(6,.pointer Ac),(7,.slice s.A7 s.one.length s.c7),(8,.slice s.A8 s.two.length s.c8),(9,aj (s.i:Int))]) (fun s w'=>St w0 w' ([ax 2 s.A8 s.two.length s.c8 s.two,ax 2 s.A7 s.one.length s.c7 s.one,Bx 259 3 Ac [.slice none 0 0,.slice none 0 0,.bool false],Bx 259 3 Ab [.slice A n cc,.slice B m cB,.bool false],ax 2 B m cB s.ls]++ (aK 24 2 A n cc rs s.im++ks))/\s.im.length=n/\s.ls.length=m/\tk s.k s.i ⟨s.im,s.ls⟩ s.one s.two=some y) (fun s=>s.k)
  ⟨0,k0,A7,1,[c],A8,1,[d],im,ls⟩ ⟨rfl,rfl,rfl,rfl,rfl,au⟩ ⟨aG,h2,h3,hp⟩ ?_
 rintro⟨i,k,A7,c7,one,A8,c8,two,im,ls⟩ e w5 ⟨aR,h2,h3,hf⟩;dsimp only at aR h2 h3 hf|-;obtain⟨q,rfl⟩:∃q,k=q+1:=by cases k with | zero=>cases hf | succ q=>exact⟨q,rfl⟩
 rw [tk]at hf;have vJ:=aR.cap 1 O;dsimp only [ax]at vJ;simp only [maxLen]at vJ;refine aY O (aZ O O (az O ?_));refine aM _ O (fun hi=>?_) (fun hi=>?_)
 ·rw [aJ (by omega)]at hf
  split at hf
  case isFalse=>cases hf
  rename_i rH
  split at hf
  case h_2=>cases hf
  rename_i a b UU UX;have sP:cd w5 B m ls:=aR.bz 4 O;refine cH O (dK [.ex (.agg #[.slice (A) (n) (cc),.slice (B) (m) (cB),.bool (false)]),xS (A7) (one.length) (c7),xI ((i:Int)),xP (aF (A7) ((i:Int)).toNat),xI (gi (one) ((i:Int))),xI (a),.ex (.agg #[.slice (A) (n) (cc),.slice (B) (m) (cB),.bool (false)]),xS (A8) (two.length) (c8),xI ((i:Int)),xP (aF (A8) ((i:Int)).toNat),xI (gi (two) ((i:Int))),xI (b),xI (a),xI (b)] O (eo O) ?_ ?_)
  ·refine⟨fun _ _ hb _ _=>ac3 2 ((aR.rd 3 O).below hb) O Az,Dr O,Dr O,fun _ _ hb _ _=>ay ((aR.bz 1 O).aq hb).2 O Az,fun _ _ hb _ _=>bc ((aR.bz 1 O).aq hb) O Az,?_,fun _ _ hb _ _=>ac3 2 ((aR.rd 3 O).below hb) O Az,Dr O,Dr O,fun _ _ hb _ _=>ay ((aR.bz 0 O).aq hb).2 O Az,fun _ _ hb _ _=>bc ((aR.bz 0 O).aq hb) O Az,?_,Dr O,Dr O,au⟩
   ·intro e1 w1 hb hp aX;refine aH (HB ls 2000 _ a _ (sP.aq hb) UU) O ?_;rintro _ w2 ⟨rfl,aA⟩;refine ak.n ?_;exact eA.dn aA.below (by exact O)
   intro e1 w1 hb hp aX;refine aH (HB ls 2000 _ b _ (sP.aq hb) UX) O ?_;rintro _ w2 ⟨rfl,aA⟩;refine ak.n ?_;exact eA.dn aA.below (by exact O)
  intro u w6 jV _;have aQ:=aR.aq jV;refine fw O (aM _ O (fun jn=>?_) (fun jn=>?_))
  ·rw [aJ jn]at hf;refine aD O (aL O (aU O (tQ ?_)));exact⟨⟨i+1,q,A7,c7,one,A8,c8,two,im,ls⟩,Nat.lt_succ_self q,(ac4 O),aQ,h2,h3,hf⟩
  rw [aC jn]at hf;refine BM 1 O ?_;refine pc (α:=Unit) (fun _=> [(3,.pointer Ab),(6,.pointer Ac),(7,.slice A7 one.length c7),(8,.slice A8 two.length c8),(9,aj i),(10,aj (if b<a then b else a)),(11,aj (if b<a then a else b))]) (fun _ w'=>w'=w6) ?_ ?_
  ·refine b7 O (aM _ O (fun cI=>?_) (fun cI=>?_))
   ·refine mC O (tQ ?_);exact⟨(),⟨O,O,O,O,O,by show Value.int .i64 _=aj _;rw [aJ cI],by show Value.int .i64 _=aj _;rw [aJ cI],au⟩,O⟩
   refine mC O (tQ ?_);exact⟨(),⟨O,O,O,O,O,by show Value.int .i64 _=aj _;rw [aC cI],by show Value.int .i64 _=aj _;rw [aC cI],au⟩,O⟩
  rintro _ e w7 rfl;have Dc:(if b<a then b else a)< (if b<a then a else b):=by split<;>omega
  generalize (if b<a then b else a)=lo at hf Dc|-;generalize (if b<a then a else b)=di at hf Dc|-
  split at hf
  case isFalse=>cases hf
  rename_i gx;dsimp only at gx
  split at hf
  case h_2=>cases hf
  rename_i WD HY Ix V2;obtain⟨oe,rfl⟩:∃q:Nat,lo=q:=⟨lo.toNat,by omega⟩;obtain⟨oM,rfl⟩:∃q:Nat,di=q:=⟨di.toNat,by omega⟩;rw [gn]at hf;have Ua:=aQ.bz 4 O;refine aD O (aS (aQ.rd 3 O) O (a8 (aQ.rd 3 O) O (ao O (ay Ua.2 O (ak.gQ 4 aQ O O O (by omega) ?_)))));intro w8 a7;have a7:St w0 w8 ([ax 2 A8 two.length c8 two,ax 2 A7 one.length c7 one,Bx 259 3 Ac [.slice none 0 0,.slice none 0 0,.bool false],Bx 259 3 Ab [.slice A n cc,.slice B m cB,.bool false],ax 2 B m cB (ls.set oM (oe:Int))]++ (aK 24 2 A n cc rs im++ks)):=a7;refine az O ?_;refine Cd.loop (α:=IM) (fun s=> [(3,.pointer Ab),(6,.pointer Ac),(7,.slice s.A7 s.one.length s.c7),(8,.slice s.A8 s.two.length s.c8),(9,aj i),(10,aj oe),(11,aj oM),(12,aj (s.i:Int))]) (fun s w'=>St w0 w' ([ax 2 s.A8 s.two.length s.c8 s.two,ax 2 s.A7 s.one.length s.c7 s.one,Bx 259 3 Ac [.slice none 0 0,.slice none 0 0,.bool false],Bx 259 3 Ab [.slice A n cc,.slice B m cB,.bool false],ax 2 B m cB (ls.set oM (oe:Int))]++ (aK 24 2 A n cc rs s.im++ks))/\s.im.length=n/\yf oe oM s.k s.i s.im s.one s.two=some (WD,HY,Ix)/\s.i+s.k<=1000) (fun s=>s.k)
   ⟨0,1000,A7,c7,one,A8,c8,two,im,ls⟩ ⟨rfl,rfl,rfl,rfl,rfl,rfl,rfl,rfl,au⟩ ⟨a7,h2,V2,dE _⟩ ?_
  rintro⟨g,k,A7,c7,one,A8,c8,two,im,HL⟩ e w9 ⟨aW,h2,hg,U9⟩;dsimp only at aW h2 hg U9|-;obtain⟨r,rfl⟩:∃q,k=q+1:=by cases k with | zero=>cases hg | succ q=>exact⟨q,rfl⟩
  rw [yf]at hg;have pH:bl w9 A n rs im:=LS.du (x:=⟨A,n,cc,rs,im,B,m,cB,ls.set oM (oe:Int)⟩) ⟨h1,h2,by rw [gR];exact h3⟩ (pre:=[ax 2 A8 two.length c8 two,ax 2 A7 one.length c7 one,Bx 259 3 Ac [.slice none 0 0,.slice none 0 0,.bool false],Bx 259 3 Ab [.slice A n cc,.slice B m cB,.bool false]]) aW;have G5:=pH.at_ (i:=(oM:Int)) (by omega) (by omega);have Dn:=pH.at_ (i:=(oe:Int)) (by omega) (by omega);have hh1:=G5.1;have Mc:=Dn.1;refine aY O (aS (aW.rd 3 O) O (a8 (aW.rd 3 O) O (ao O (ay pH.top.2 O (bB pH.top O ?_)))));refine aZ O O (az O ?_);refine aM _ O (fun C7=>?_) (fun C7=>?_)
  ·rw [aJ (by omega)]at hg;refine aD O (aS (aW.rd 3 O) O (a8 (aW.rd 3 O) O (ao O (ay pH.top.2 O (bB pH.top O (ao O (ay G5.2 O (bc G5 O (az O ?_)))))))));refine aM _ O (fun he=>?_) (fun he=>?_)
   ·rw [aJ he]at hg;refine aD O (aL O (aU O (tQ ?_)));exact⟨⟨g+1,r,A7,c7,one,A8,c8,two,im,HL⟩,Nat.lt_succ_self r,(ac4 O),aW,h2,hg,by show g+1+r<=1000;omega⟩
   rw [aC he]at hg
   split at hg
   case isFalse=>cases hg
   rename_i hgl2;refine aD O (aS (aW.rd 3 O) O (a8 (aW.rd 3 O) O (ao O (ay pH.top.2 O (bB pH.top O (ao O (ay Dn.2 O (bc Dn O (az O ?_)))))))));refine aM _ O (fun C2=>?_) (fun C2=>?_)
   ·rw [aJ C2]at hg
    split at hg
    case isFalse=>cases hg
    rename_i hlen;refine aD O (fk aW O O O ?_);intro bI dt bV;refine fR 2 bV O (bV.bz 0 O) O O O ?_;intro iE iT dB dW;have dW:St w0 dB ([ax 2 A8 two.length c8 two,ax 2 iE (one.length+1) iT (one++ [gi (gl im oM) g]),Bx 259 3 Ac [.slice none 0 0,.slice none 0 0,.bool false],Bx 259 3 Ab [.slice A n cc,.slice B m cB,.bool false],ax 2 B m cB (ls.set oM (oe:Int))]++ (aK 24 2 A n cc rs im++ks)):=dW.tail;refine ao O (fk dW O O O ?_);intro jj iO fU;refine fR 1 fU O (fU.bz 0 O) O O O ?_;intro nG tL jK gL;have gL:St w0 jK ([ax 2 nG (two.length+1) tL (two++ [gi (gl im oe) g]),ax 2 iE (one.length+1) iT (one++ [gi (gl im oM) g]),Bx 259 3 Ac [.slice none 0 0,.slice none 0 0,.bool false],Bx 259 3 Ab [.slice A n cc,.slice B m cB,.bool false],ax 2 B m cB (ls.set oM (oe:Int))]++ (aK 24 2 A n cc rs im++ks)):=gL.tail;refine ao O (aL O (aU O (tQ ?_)));refine⟨⟨g+1,r,iE,iT,one++ [gi (gl im oM) g],nG,tL,two++ [gi (gl im oe) g],im,HL⟩,Nat.lt_succ_self r,⟨O,O,by show Value.slice _ _ _= .slice _ _ _;rw [e8];rfl,by show Value.slice _ _ _= .slice _ _ _;rw [e8];rfl,O,O,O,O,au⟩,?_,h2,hg,by show g+1+r<=1000;omega⟩;dsimp only;rw [e8,e8];exact gL
   rw [aC C2]at hg;refine aD O (aS (aW.rd 3 O) O (a8 (aW.rd 3 O) O (ao O (ay pH.top.2 O (bB pH.top O (ao O (ay Dn.2 O (qj oe aW (by omega) (by omega) O O (by omega) ?_))))))));intro dt bV;refine ao O (aL O (aU O (tQ ?_)));exact⟨⟨g+1,r,A7,c7,one,A8,c8,two,im.set oe ((gl im oe).set g (gi (gl im oM) g)),HL⟩,Nat.lt_succ_self r,(ac4 O),bV,by show(im.set _ _).length=n;rw [gR];exact h2,hg,by show g+1+r<=1000;omega⟩
  rw [aC (by omega)]at hg;have hg:=bC hg;simp only [Prod.mk.injEq]at hg;obtain⟨rfl,rfl,rfl⟩:=hg;refine bo O (bp (cn O (aL O (aU O (tQ ?_)))));exact⟨⟨i+1,q,A7,c7,one,A8,c8,two,im,ls.set oM (oe:Int)⟩,Nat.lt_succ_self q,(ac4 O),aW,h2,by show(ls.set _ _).length=m;rw [gR];exact h3,hf⟩
 rw [aC (by omega)]at hf;obtain rfl:=bC hf;refine bo O (bp (cn O ?_));refine ac3 2 (aR.rd 3 O) O (bR 3 2 aR O O O O O O O ?_);intro w6 aQ;refine bu O (fZ O (aQ.rd 2 O) ?_);exact⟨⟨A,n,cc,rs,im,B,m,cB,ls⟩,⟨h1,h2,h3⟩,O,O,aQ.sub (((((dA _).cons _).cons _).cons _).cons _)⟩
def xf(x:PS)(d:Int):ah->Option (PS×Int×Int)
 | []=>none
 | [g]=>some (x,d,g)
 | g::g'::r=>match ym x d g with
  | none=>none
  | some (y,e)=>xf y e (g'::r)
def Ca(x:PS)(c:Int)(ws:ah):Option PS:=
 match ws with
 | []=>some x
 | g::r=>match xf x c (g::r)with
  | none=>none
  | some (y,d,g)=>match rZ y d g,rZ y c g with
   | some e,some f=>if 0<=e then tk 100000 0 y [e] [c]else if 0<=f then tk 100000 0 y [f] [d]else some ⟨uV (uV y.im d g c) c g d,y.ls⟩
   | _,_=>none
structure Pr(w0:aa)(ks:List Ck)(Ab Ac Aw:ai)(nw cw:Nat)(ws:ah)(c d:Int)(i:Nat)(x:LS)(y:PS)(d':Int)(S:Nat->Bool)(e:Env)(w:aa):Prop where
 f1:e 1=aj c
 f2:e 2= .slice Aw nw cw
 f3:e 3= .pointer Ab
 f6:e 6= .pointer Ac
 f7:e 7=aj d
 f8:e 8=aj i
 p0:S 0=true->e 27=x.val
 p1:S 1=true->e 28=aj d
 p2:S 2=true->e 29= .slice Aw nw cw
 p3:S 3=true->e 30=aj i
 p4:S 4=true->e 31= .pointer (aF Aw (i:Int).toNat)
 p5:S 5=true->e 32=aj (gi ws i)
 mem:∃(X:LS) (bs:List Ck) (Ad:ai),X.ok/\(S 6=false->X=x)/\(S 6=true->X.p=y/\e 33= .tuple #[X.val,aj d'])/\(S 7=true->e 26= .tuple #[X.val,aj d'])/\(S 8=true->e 34=X.val)/\(S 9=true->e 35=aj d')/\(S 10=false->bs=[])/\(S 10=true->e 9= .pointer Ad/\((S 11=false/\bs=[Bx 259 3 Ad [.slice none 0 0,.slice none 0 0,.bool false]])\/(S 11=true/\bs=[Bx 259 3 Ad X.cells])))/\(S 12=true->e 10=aj d')/\
  St w0 w (bs++ ([Bx 259 3 Ac [.slice none 0 0,.slice none 0 0,.bool false],Bx 259 3 Ab x.cells]++ (X.fc++ks)))
theorem LS.back{w0 w:aa}{bs pre ks:List Ck}{x:LS}(h:St w0 w (bs++ (pre++ (x.fc++ks)))):St w0 w (x.fc++ ((bs++pre)++ks)):=by
 rw [<-fC]at h;exact h.l9
theorem PK{w0 w:aa}{pre ks:List Ck}{x:LS}(h:St w0 w (x.fc++ (pre++ks))):St w0 w (pre++ (x.fc++ks)):=h.l9
theorem PL{w0 w:aa}{bs pre ks:List Ck}{x:LS}(h:St w0 w (x.fc++ ((bs++pre)++ks))):St w0 w (bs++ (pre++ (x.fc++ks))):=by
 have:=h.l9
 rwa [fC]at this
theorem R0{l:ah}{i:Nat}(h:i+1<l.length):l.drop i=gi l i::gi l ((i+1:Nat):Int)::l.drop (i+2):=by
 rw [List.drop_eq_getElem_cons (by omega),List.drop_eq_getElem_cons (i:=i+1) (by omega),bN (by omega),bN (by omega)]
theorem drop_one{l:ah}{i:Nat}(h:i+1=l.length):l.drop i=[gi l i]:=by
 rw [List.drop_eq_getElem_cons (by omega),bN (by omega),List.drop_eq_nil_of_le (by omega)]
theorem XO{w0 w:aa}{ks:List Ck}(x:LS)(c:Int)(Aw:ai)(nw cw:Nat)(ws:ah)(y:PS)(bq:x.ok)(hS:St w0 w (x.fc++ks))(hW:∀w',St w0 w' ks->cd w' Aw nw ws)(hnw:nw<=1000000)(hp:Ca x.p c ws=some y):
 aE prog 308 [x.val,aj c,.slice Aw nw cw] w (fun v w'=>∃x':LS,x'.ok/\x'.p=y/\v=x'.val/\St w0 w' (x'.fc++ks)):=by
 have lz:ws.length=nw:=(hW w (hS.sub (dD _ _))).1;refine bm func308 O ntmps308 O (lB O O) (aY O (wP hS O O ?_));intro Ab w1 aB;refine rf aB O ?_;intro Ac w2 aw;have aw:St w0 w2 ([Bx 259 3 Ac [.slice none 0 0,.slice none 0 0,.bool false],Bx 259 3 Ab x.cells]++ (x.fc++ks)):=aw;refine ao O (aZ O O (az O ?_));refine aM _ O (fun h1=>?_) (fun h1=>?_)
 ·have:ws=[]:=qg (by omega);subst this;obtain rfl:=bC hp;refine aD O (ac3 2 (aw.rd 1 O) O (bR 3 0 aw O O O O O O O ?_));intro w3 aI;refine bu O (fZ O (aI.rd 0 O) ?_);exact⟨x,bq,O,O,(aI.sub ((dA _).cons _)).sub ((dA _).cons _)⟩
 ·obtain⟨z,d',g',oK,jo⟩:∃z d' g',xf x.p c (ws.drop 0)=some (z,d',g')/\(match rZ z d' g',rZ z c g' with
   | some e,some f=>if 0<=e then tk 100000 0 z [e] [c]else if 0<=f then tk 100000 0 z [f] [d']else some ⟨uV (uV z.im d' g' c) c g' d',z.ls⟩
   | _,_=>none)=some y:=by
   cases ws with
   | nil=>exact absurd (by simpa using lz.symm) (by omega)
   | cons a r=>
    simp only [Ca]at hp
    split at hp
    ·cases hp
    ·rename_i z d' g' hz;exact⟨z,d',g',hz,hp⟩
  clear hp;refine cH O ?_;refine Cd.loop (α:=Nat×LS×Int) (fun s=> [(1,aj c),(2,.slice Aw nw cw),(3,.pointer Ab),(6,.pointer Ac),(7,aj s.2.2),(8,aj (s.1:Int))]) (fun s w'=>s.2.1.ok/\s.1<nw/\xf s.2.1.p s.2.2 (ws.drop s.1)=some (z,d',g')/\St w0 w' ([Bx 259 3 Ac [.slice none 0 0,.slice none 0 0,.bool false],Bx 259 3 Ab s.2.1.cells]++ (s.2.1.fc++ks))) (fun s=>nw - s.1) (0,x,c) (ac4 O) ⟨bq,by show 0<nw;omega,oK,aw⟩ ?_;rintro⟨i,x,d⟩ e w3 ⟨bq,hi,oK,aI⟩;dsimp only at bq hi oK aI|-;refine aY O (aL O (ao O (aZ O O (az O ?_))));refine aM _ O (fun h2=>?_) (fun h2=>?_)
  ·rw [R0 (by omega)]at oK;simp only [xf]at oK
   split at oK
   case h_1=>cases oK
   rename_i y1 d1 hn;refine cH O (qX (by kernel_rfl) (by kernel_rfl) (fun S e1 w1=>Pr w0 ks Ab Ac Aw nw cw ws c d i x y1 d1 S e1 w1) (fun w4 hb=> ⟨O,O,O,O,O,O,fun h=> (nomatch h),fun h=> (nomatch h),fun h=> (nomatch h),fun h=> (nomatch h),fun h=> (nomatch h),fun h=> (nomatch h),x,[],none,bq,fun _=>O,fun h=> (nomatch h),fun h=> (nomatch h),fun h=> (nomatch h),fun h=> (nomatch h),fun _=>O,fun h=> (nomatch h),fun h=> (nomatch h),aI.aq hb⟩) ?_ ?_)
   ·intro S k o e1 w4 hk bh hd cz hI;obtain⟨f1,f2,f3,f6,f7,f8,p0,p1,p2,p3,p4,p5,X,bs,Ad,m0,m1,m2,m3,m4,m5,m6,m7,m8,hT⟩:=hI;have zx:cd w4 Aw nw ws:=hW w4 (((hT.sub (dD _ _)).sub (dD _ _)).sub (dD _ _))
    match k,hk,bh with
    | 0,hk,bh=>
     obtain rfl:=bC hk;refine ak.br 2 ((hT.sub (dD bs _)).rd 1 O) (by exact f3) O O (ak.n ?_);exact⟨f1,f2,f3,f6,f7,f8,fun _=>O,p1,p2,p3,p4,p5,X,bs,Ad,m0,m1,m2,m3,m4,m5,m6,m7,m8,hT⟩
    | 1,hk,bh=>
     obtain rfl:=bC hk;refine ko O (by exact f7) O (ak.n ?_);exact⟨f1,f2,f3,f6,f7,f8,p0,fun _=>O,p2,p3,p4,p5,X,bs,Ad,m0,m1,m2,m3,m4,m5,m6,m7,m8,hT⟩
    | 2,hk,bh=>
     obtain rfl:=bC hk;refine lJ O (by exact f2) O (ak.n ?_);exact⟨f1,f2,f3,f6,f7,f8,p0,p1,fun _=>O,p3,p4,p5,X,bs,Ad,m0,m1,m2,m3,m4,m5,m6,m7,m8,hT⟩
    | 3,hk,bh=>
     obtain rfl:=bC hk;refine ko O (by exact f8) O (ak.n ?_);exact⟨f1,f2,f3,f6,f7,f8,p0,p1,p2,fun _=>O,p4,p5,X,bs,Ad,m0,m1,m2,m3,m4,m5,m6,m7,m8,hT⟩
    | 4,hk,bh=>
     obtain rfl:=bC hk;refine acU zx.2 (by exact p2 (bJ hd 2 O)) (by exact p3 (bJ hd 3 O)) O (by omega) (by omega) (ak.n ?_);exact⟨f1,f2,f3,f6,f7,f8,p0,p1,p2,p3,fun _=>O,p5,X,bs,Ad,m0,m1,m2,m3,m4,m5,m6,m7,m8,hT⟩
    | 5,hk,bh=>
     obtain rfl:=bC hk;refine acV zx (by exact p4 (bJ hd 4 O)) (by omega) O O (ak.n ?_);exact⟨f1,f2,f3,f6,f7,f8,p0,p1,p2,p3,p4,fun _=>O,X,bs,Ad,m0,m1,m2,m3,m4,m5,m6,m7,m8,hT⟩
    | 6,hk,bh=>
     obtain rfl:=bC hk;obtain rfl:=m1 bh;have n7:S 7=false:=by
      cases h:S 7 with
      | false=>rfl
      | true=>rw [<-bh];exact(bJ (cz 7 _ h rfl) 6 rfl).symm
     have n8:S 8=false:=by
      cases h:S 8 with
      | false=>rfl
      | true=>rw [<-n7];exact(bJ (cz 8 _ h rfl) 7 rfl).symm
     have n9:S 9=false:=by
      cases h:S 9 with
      | false=>rfl
      | true=>rw [<-n7];exact(bJ (cz 9 _ h rfl) 7 rfl).symm
     have n11:S 11=false:=by
      cases h:S 11 with
      | false=>rfl
      | true=>rw [<-bh];exact(bJ (cz 11 _ h rfl) 6 rfl).symm
     have n12:S 12=false:=by
      cases h:S 12 with
      | false=>rfl
      | true=>rw [<-n11];exact(bJ (cz 12 _ h rfl) 11 rfl).symm
     refine acW (HC X d (gi ws i) y1 d1 m0 (LS.back hT) hn) O (by show [e1 27,e1 28,e1 32]=_;rw [p0 (bJ hd 0 O),p1 (bJ hd 1 O),p5 (bJ hd 5 O)]) O ?_;rintro _ w5 ⟨x',iK,fV,rfl,ia⟩;refine ak.n ?_;refine⟨f1,f2,f3,f6,f7,f8,p0,p1,p2,p3,p4,p5,x',bs,Ad,iK,fun h=> (nomatch (show true=false from h)),fun _=> ⟨fV,O⟩,fun h=>?_,fun h=>?_,fun h=>?_,m6,fun h=>?_,fun h=>?_,PL ia⟩
     ·exact(nomatch n7.symm.trans h)
     ·exact(nomatch n8.symm.trans h)
     ·exact(nomatch n9.symm.trans h)
     ·obtain⟨h9,fG⟩:=m7 h;refine⟨h9,.inl ⟨n11,?_⟩⟩;rcases fG with fG | fG
      ·exact fG.2
      ·exact(nomatch n11.symm.trans fG.1)
     ·exact(nomatch n12.symm.trans h)
    | 7,hk,bh=>
     obtain rfl:=bC hk;refine BQ O (by exact(m2 (bJ hd 6 O)).2) O (ak.n ?_);exact⟨f1,f2,f3,f6,f7,f8,p0,p1,p2,p3,p4,p5,X,bs,Ad,m0,m1,m2,fun _=>O,m4,m5,m6,m7,m8,hT⟩
    | 8,hk,bh=>
     obtain rfl:=bC hk;refine ak.extract (by exact m3 (bJ hd 7 O)) O O (ak.n ?_);exact⟨f1,f2,f3,f6,f7,f8,p0,p1,p2,p3,p4,p5,X,bs,Ad,m0,m1,m2,m3,fun _=>O,m5,m6,m7,m8,hT⟩
    | 9,hk,bh=>
     obtain rfl:=bC hk;refine ak.extract (by exact m3 (bJ hd 7 O)) O O (ak.n ?_);exact⟨f1,f2,f3,f6,f7,f8,p0,p1,p2,p3,p4,p5,X,bs,Ad,m0,m1,m2,m3,m4,fun _=>O,m6,m7,m8,hT⟩
    | 10,hk,bh=>
     obtain rfl:=bC hk;obtain rfl:=m6 bh;have n11:S 11=false:=by
      cases h:S 11 with
      | false=>rfl
      | true=>rw [<-bh];exact(bJ (cz 11 _ h rfl) 10 rfl).symm
     refine rf hT O fun Ae w5 dC=>ak.n ?_;exact⟨f1,f2,f3,f6,f7,f8,p0,p1,p2,p3,p4,p5,X,[Bx 259 3 Ae [.slice none 0 0,.slice none 0 0,.bool false]],Ae,m0,m1,m2,m3,m4,m5,fun h=> (nomatch (show true=false from h)),fun _=> ⟨O,.inl ⟨n11,O⟩⟩,m8,dC⟩
    | 11,hk,bh=>
     obtain rfl:=bC hk;have MH:=bJ hd 10 O;obtain⟨h9,fG⟩:=m7 MH;rcases fG with⟨_,rfl⟩ | fG
     ·refine bR 3 0 hT O (by exact h9) (by exact m4 (bJ hd 8 O)) O O O O ?_;intro w5 dC;exact ak.n ⟨f1,f2,f3,f6,f7,f8,p0,p1,p2,p3,p4,p5,X,[Bx 259 3 Ad X.cells],Ad,m0,m1,m2,m3,m4,m5,fun h=> (nomatch MH.symm.trans h),fun _=> ⟨h9,.inr ⟨O,O⟩⟩,m8,dC⟩
     ·exact(nomatch bh.symm.trans fG.1)
    | 12,hk,bh=>
     obtain rfl:=bC hk;refine ko O (by exact m5 (bJ hd 9 O)) O (ak.n ?_);exact⟨f1,f2,f3,f6,f7,f8,p0,p1,p2,p3,p4,p5,X,bs,Ad,m0,m1,m2,m3,m4,m5,m6,m7,fun _=>O,hT⟩
    | q+13,hk,_=>exact(nomatch hk)
   ·intro S e1 w4 ct hI;obtain⟨f1,f2,f3,f6,f7,f8,p0,p1,p2,p3,p4,p5,X,bs,Ad,m0,m1,m2,m3,m4,m5,m6,m7,m8,hT⟩:=hI;obtain⟨h9,fG⟩:=m7 (ct 10 (by decide));rcases fG with fG | ⟨_,rfl⟩
    ·exact(nomatch (ct 11 (by decide)).symm.trans fG.1)
    have qH:=(m2 (ct 6 (by decide))).1;refine yT (F:=[(1,aj c),(2,.slice Aw nw cw),(3,.pointer Ab),(6,.pointer Ac),(7,aj d),(8,aj i),(9,.pointer Ad),(10,aj d1)]) ⟨f1,f2,f3,f6,f7,f8,h9,m8 (ct 12 (by decide)),au⟩ (fK O (ac3 2 (hT.rd 0 O) O (bR 3 2 hT O O O O O O O ?_)));intro w5 dC;have dC:St w0 w5 (Bx 259 3 Ad X.cells::([Bx 259 3 Ac [.slice none 0 0,.slice none 0 0,.bool false],Bx 259 3 Ab X.cells]++ (X.fc++ks))):=dC;have eu:=dC.tail;refine ao O (aS (eu.rd 1 O) O (u9 (eu.rd 1 O) O O O O O (az O (Cd.dO O ?_))));refine aD O (aL O (aU O (tQ ?_)));refine⟨(i+1,X,d1),by show nw - (i+1)<nw - i;omega,(ac4 O),m0,by show i+1<nw;omega,?_,eu⟩;show xf X.p d1 (ws.drop (i+1))=_;rw [qH,List.drop_eq_getElem_cons (by omega),<-bN (by omega)];exact oK
  ·rw [drop_one (by omega)]at oK;have oK:=bC oK;simp only [Prod.mk.injEq]at oK;obtain⟨rfl,rfl,rfl⟩:=oK;have zx:cd w3 Aw nw ws:=hW w3 ((aI.sub (dD _ _)).sub (dD _ _))
   split at jo
   case h_2=>cases jo
   rename_i a b ha eP;have xu:=LS.du bq aI;have rB:=LS.bz aI;refine bo O (bp (cn O (aZ O O (je O O O (by omega) ?_))));refine ay zx.2 O ?_;have cS:((nw:Nat):Int) - 1=(i:Nat):=by omega
   refine bc zx O ?_;rw [cS];generalize gi ws i=g at*;refine az O (dK [.ex (.agg #[.slice (x.A) (x.n) (x.c),.slice (x.B) (x.m) (x.cB),.bool (false)]),xI (d),xI (g),xI (a),.ex (.agg #[.slice (x.A) (x.n) (x.c),.slice (x.B) (x.m) (x.cB),.bool (false)]),xI (c),xI (g),xI (b),xI (a),xI (b)] O (eo O) ?_ ?_)
   ·refine⟨fun _ _ hb _ _=>ac3 2 ((aI.rd 1 O).below hb) O Az,Dr O,Dr O,?_,fun _ _ hb _ _=>ac3 2 ((aI.rd 1 O).below hb) O Az,Dr O,Dr O,?_,Dr O,Dr O,au⟩
    ·intro e1 w1 hb hp aX;refine aH (AV x.rs x.im x.ls d g a _ (xu.aq hb) (rB.aq hb) ha) O ?_;rintro _ w2 ⟨rfl,aA⟩;refine ak.n ?_;exact eA.dn aA.below (by exact O)
    ·intro e1 w1 hb hp aX;refine aH (AV x.rs x.im x.ls c g b _ (xu.aq hb) (rB.aq hb) eP) O ?_;rintro _ w2 ⟨rfl,aA⟩;refine ak.n ?_;exact eA.dn aA.below (by exact O)
   intro u w4 kL _;have aG:=aI.aq kL;refine fw O (aM _ O (fun h3=>?_) (fun h3=>?_))
   ·rw [aJ h3]at jo;refine aD O (ac3 2 (aG.rd 1 O) O (ao O (aH (Nr x a c y 100000 bq (aG.l9 (pre:=[_,_])) jo) O ?_)));rintro _ w5 ⟨x',iK,fV,rfl,hT⟩;have hT:=hT.l9;refine bR 3 0 hT O O O O O O O fun w6 eu=>bu O (fZ O (eu.rd 0 O) ?_);exact⟨x',iK,fV,O,(eu.sub ((dA _).cons _)).sub ((dA _).cons _)⟩
   ·rw [aC h3]at jo;refine cH O (aM _ O (fun h4=>?_) (fun h4=>?_))
    ·rw [aJ h4]at jo;refine aD O (ac3 2 (aG.rd 1 O) O (ao O (aH (Nr x b d y 100000 bq (aG.l9 (pre:=[_,_])) jo) O ?_)));rintro _ w5 ⟨x',iK,fV,rfl,hT⟩;have hT:=hT.l9;refine bR 3 0 hT O O O O O O O fun w6 eu=>bu O (fZ O (eu.rd 0 O) ?_);exact⟨x',iK,fV,O,(eu.sub ((dA _).cons _)).sub ((dA _).cons _)⟩
    ·rw [aC h4]at jo;obtain rfl:=bC jo;have bd:∀ {z:PS} {c g r:Int},rZ z c g=some r->0<=c/\c< (z.im.length:Int)/\0<=g/\g< ((gl z.im c).length:Int):=fun {z c g r} h=>by
      unfold rZ at h
      split at h
      case isFalse=>cases h
      rename_i h';exact h'
     have b1:=bd ha;have b2:=bd eP;have b1:0<=d/\d< (x.im.length:Int)/\0<=g/\g< ((gl x.im d).length:Int):=b1;have b2:0<=c/\c< (x.im.length:Int)/\0<=g/\g< ((gl x.im c).length:Int):=b2;have hxn:=bq.2.1;have uE:=bq.1;obtain⟨dN,rfl⟩:∃q:Nat,d=q:=⟨d.toNat,by omega⟩;obtain⟨cN,rfl⟩:∃q:Nat,c=q:=⟨c.toNat,by omega⟩;have FO:=LS.du bq aG;have kf:=FO.at_ (i:=(dN:Int)) (by omega) (by omega);have hrd1:=kf.1;have aR:St w0 w4 ([Bx 259 3 Ac [.slice none 0 0,.slice none 0 0,.bool false],Bx 259 3 Ab x.cells,ax 2 x.B x.m x.cB x.ls]++ (aK 24 2 x.A x.n x.c x.rs x.im++ks)):=aG;refine aD O (aS (aG.rd 1 O) O (a8 (aG.rd 1 O) O (ao O (ay FO.top.2 O (bB FO.top O (ao O (ay kf.2 O (qj dN aR (by omega) (by omega) O O (by omega) ?_))))))));intro w6 eu;have zX:({ x with im:=x.im.set dN ((gl x.im dN).set g.toNat (cN:Int)) }:LS).ok:=⟨bq.1,by show(x.im.set _ _).length=_;rw [gR];exact bq.2.1,bq.2.2⟩;generalize Hk:({ x with im:=x.im.set dN ((gl x.im dN).set g.toNat (cN:Int)) }:LS)=x6 at zX;have sK:x6.A=x.A/\x6.n=x.n/\x6.c=x.c/\x6.rs=x.rs/\x6.B=x.B/\x6.m=x.m/\x6.cB=x.cB/\x6.ls=x.ls/\x6.im=x.im.set dN ((gl x.im dN).set g.toNat (cN:Int)):=by subst Hk;exact⟨rfl,rfl,rfl,rfl,rfl,rfl,rfl,rfl,rfl⟩
     obtain⟨q1,q2,q3,q4,q5,q6,q7,q8,q9⟩:=sK;have vA:St w0 w6 ([Bx 259 3 Ac [.slice none 0 0,.slice none 0 0,.bool false],Bx 259 3 Ab x.cells]++ (x6.fc++ks)):=by
      show St w0 w6 ([Bx _ 3 Ac _,Bx _ 3 Ab x.cells]++ ((ax _ x6.B x6.m x6.cB x6.ls::aK _ _ x6.A x6.n x6.c x6.rs x6.im)++ks));rw [q1,q2,q3,q4,q5,q6,q7,q8,q9];exact eu
     have sN:=LS.du zX vA;have ns:=sN.at_ (i:=(cN:Int)) (by omega) (by omega);have E6:(gl x6.im cN).length=(gl x.im cN).length:=by
      rw [q9,xl (by omega)]
      split
      ·rename_i e;subst e;rw [gR]
      ·rfl
     have uA:(rg x6.rs cN).n=(gl x.im cN).length:=by rw [<-ns.1,E6]
     refine ao O (aS (vA.rd 1 O) O (a8 (vA.rd 1 O) O (ao O ?_)));rw [q1,q2,q4]at sN;rw [q4]at ns uA;refine ay sN.top.2 O (bB sN.top O (ao O (ay ns.2 O ?_)));have eB:St w0 w6 ([Bx 259 3 Ac [.slice none 0 0,.slice none 0 0,.bool false],Bx 259 3 Ab x.cells,ax 2 x.B x.m x.cB x.ls]++ (aK 24 2 x.A x.n x.c x.rs x6.im++ks)):=by
      rw [q9];exact eu
     refine qj cN eB (by rw [q9,gR];omega) (by omega) O O (by omega) ?_;intro w8 fH;refine ao O (ac3 2 (fH.rd 1 O) O (bR 3 0 fH O O O O O O O ?_));intro w9 iV;refine bu O (fZ O (iV.rd 0 O) ?_);refine⟨{ x with im:=x6.im.set cN ((gl x6.im cN).set g.toNat (dN:Int)) },⟨bq.1,by show(x6.im.set _ _).length=_;rw [gR,q9,gR];exact bq.2.1,bq.2.2⟩,?_,O,(iV.sub ((dA _).cons _)).sub ((dA _).cons _)⟩;show(⟨x6.im.set cN ((gl x6.im cN).set g.toNat (dN:Int)),x.ls⟩:PS)=_;rw [q9]
     rfl
def Bw(c:Int):PS->ag->Option PS
 | x,[]=>some x
 | x,w::r=>if 0<=c/\c< (x.ls.length:Int)then(if gi x.ls c=c then(match Ca x c w with | none=>none | some y=>Bw c y r)else some x)else none
def wx(c:Int)(bL:Nat):Nat->Nat->PS->Option PS
 | 0,_,_=>none
 | k+1,g,x=>if g<bL then(if 0<=c/\c< (x.ls.length:Int)then(if gi x.ls c=c then(match ym x c g with | none=>none | some (y,_)=>wx c bL k (g+1) y)else some x)else none)else some x
def D7(bL:Nat)(rel:ag):Nat->Nat->PS->Option PS
 | 0,_,_=>none
 | k+1,c,x=>if c<x.ls.length then(match Bw c x rel with | none=>none | some y=>match wx c bL 100 0 y with | none=>none | some z=>D7 bL rel k (c+1) z)else some x
def Il(bL:Nat)(rel:ag):Option PS:=
 match E4 ⟨[],[]⟩ bL with
 | none=>none
 | some x=>D7 bL rel 3000 0 x
section
variable {P:Program} {N:Nat} {ops:Array Oper} {K:Env->aa->Prop} {rest:List Oper} {e:Env} {w0 w w':aa} {ks:List Ck} {d:Nat} {ty:ad} {pos:String} {af:Array Edge}
theorem PY{t:ad}{f0 f1 f2:Field}{z0 z1 z2 y0 y1 y2:ab}{b b0 b1 b2:Nat}[bK P t (.struct #[f0,f1,f2])][bF P t (.agg #[z0,z1,z2]) 3 b](pE:bF P f0.type y0 1 b0)(nP:bF P f1.type y1 1 b1)(pF:bF P f2.type y2 1 b2)(ho:f0.offset=0)(s9:f1.offset=1)(GS:f2.offset=2)(hb:Nat.blt d N=true)(hK:ak P N ops K rest (bt e d (.agg #[z0,z1,z2])) w):ak P N ops K (⟨some d,.build t #[],ty,pos,af,none⟩::rest) e w:=by
 obtain⟨inf,hi,eM,hs,ib⟩:=bF.get P t;obtain⟨AJ,iB,_,oR,_⟩:=pE.get P f0.type;obtain⟨AL,lV,_,pW,_⟩:=nP.get P f1.type;obtain⟨Dz,rH,_,uB,_⟩:=pF.get P f2.type;have ez:(Value.agg #[z0,z1,z2]).cells= #[z0,z1,z2]:=O;refine .val (w':=w) ?_ hb hK;simp [execOp,Instr.build,run_underlying (bK.out (P:=P) (t:=t)),sizeOf,typeInfo,zeroValue,hi,eM,iB,oR,lV,pW,rH,uB,ez,Instr.fill]
end
theorem XS(bL:Nat)(Ar:ai)(nr cr:Nat)(ju:List aO)(rel:ag)(A0:ai)(c0:Nat)(y:PS)(w:aa)(hR:bl w Ar nr ju rel)(td:∀x∈rel,x.length<=1000000)(qC:nr<=1000000)(hp:Il bL rel=some y):
 aE prog 293 [.agg #[aj bL,.slice Ar nr cr],.slice A0 0 c0] w (fun v w'=>∃x':LS,x'.ok/\x'.p=y/\v=x'.val/\St w w' x'.fc):=by
 have bO:=hR.len;unfold Il at hp
 split at hp
 case h_1=>cases hp
 rename_i x1 rW;refine bm func293 O ntmps293 O (lB O O) (aY O (wO (St.refl w) O O ?_));intro A2 w1 aB;refine rf aB O fun A4 w2 aw=>ao O (PY (by exact inferInstance) (by exact inferInstance) (by exact inferInstance) O O O O (aS (aw.rd 1 O) O (iw (aw.rd 1 O) O O O O O (aH (Nq ⟨none,0,0,[],[],none,0,0,[]⟩ bL x1 ⟨O,O,O⟩ ((aw.nil _).nil _) rW) O ?_))));rintro _ w3 ⟨X,bq,Uj,rfl,hT⟩;have hT:=PK (pre:=[Bx 259 3 A4 [.slice none 0 0,.slice none 0 0,.bool false],Bx 199 2 A2 [aj bL,.slice Ar nr cr]]) (ks:=[]) hT;refine ao O (rf hT O ?_);intro A5 w4 aG;refine bR 3 0 aG O O O O O O O ?_;intro w5 aR;have aR:St w w5 ([Bx 259 3 A5 X.cells,Bx 259 3 A4 [.slice none 0 0,.slice none 0 0,.bool false],Bx 199 2 A2 [aj bL,.slice Ar nr cr]]++ (X.fc++ [])):=aR;refine az O (Cd.loop (α:=Unit) (fun _=> [(1,.slice A0 0 c0),(2,.pointer A2),(4,.pointer A4),(5,.pointer A5),(7,aj 0)]) (fun _ w'=>w'=w5) (fun _=>0) () (ac4 O) O ?_);rintro⟨⟩ e w6 rfl;refine aY O (aZ O O (ao O ?_));refine bX 24 O (fun h=>absurd h (by decide)) (fun _=>?_);refine av O (av O (av O (az O ?_)));refine Cd.dO O (bo O (bp (qZ O ?_)));refine Cd.loop (α:=Nat×Nat×LS) (fun s=> [(2,.pointer A2),(4,.pointer A4),(5,.pointer A5),(8,aj (s.2.1:Int))]) (fun s w'=>s.2.2.ok/\D7 bL rel s.1 s.2.1 s.2.2.p=some y/\s.1+s.2.1=3000/\St w w' ([Bx 259 3 A5 s.2.2.cells,Bx 259 3 A4 [.slice none 0 0,.slice none 0 0,.bool false],Bx 199 2 A2 [aj bL,.slice Ar nr cr]]++ (s.2.2.fc++ []))) (fun s=>s.1) (3000,0,X) (ac4 O) ⟨bq,by rw [Uj];exact hp,O,aR⟩ ?_;rintro⟨k,c,X⟩ e w7 ⟨bq,hc,Vp,a6⟩;dsimp only at bq hc Vp a6|-;obtain⟨q,rfl⟩:∃q,k=q+1:=by cases k with | zero=>cases hc | succ q=>exact⟨q,rfl⟩
 have hc:(if c<X.ls.length then(match Bw c X.p rel with | none=>none | some y=>match wx c bL 100 0 y with | none=>none | some z=>D7 bL rel q (c+1) z)else some X.p)=some y:=hc;have vC:X.ls.length=X.m:=bq.2.2;refine aY O (aS (a6.rd 0 O) O (a8 (a6.rd 0 O) O ?_));refine aZ O O (ao O ?_);refine bX 42 O (fun h1=>?_) (fun h1=>?_)
 ·rw [aJ (by omega)]at hc
  split at hc
  case h_1=>cases hc
  rename_i y1 qH
  split at hc
  case h_1=>cases hc
  rename_i z1 Dy;refine ar O (aS (a6.rd 0 O) O (ar O (u9 (a6.rd 0 O) O O O O O (ar O ?_))))
  first | refine dM rfl rfl ?_ | refine eI rfl rfl ?_
  refine az O (Cd.fW O (cH O ?_));refine Cd.loop (α:=Nat×LS) (fun s=> [(2,.pointer A2),(4,.pointer A4),(5,.pointer A5),(8,aj c),(9,aj (s.1:Int))]) (fun s w'=>s.2.ok/\s.1<=nr/\Bw c s.2.p (rel.drop s.1)=some y1/\St w w' ([Bx 259 3 A5 s.2.cells,Bx 259 3 A4 [.slice none 0 0,.slice none 0 0,.bool false],Bx 199 2 A2 [aj bL,.slice Ar nr cr]]++ (s.2.fc++ []))) (fun s=>nr - s.1) (0,X) (ac4 O) ⟨bq,bA _,qH,a6⟩ ?_;rintro⟨i,X⟩ e w8 ⟨bq,hi,kO,a7⟩;dsimp only at bq hi kO a7|-;have oH:=a7.bE hR;have vC:X.ls.length=X.m:=bq.2.2;have lQ:cd w8 X.B X.m X.ls:=LS.bz a7;refine aY O (aS (a7.rd 2 O) O (a8 (a7.rd 2 O) O ?_));refine aZ O O (ao O ?_);refine bX 54 O (fun h2=>?_) (fun h2=>?_)
  ·have xR:i<rel.length:=by omega
   have UN:rel.drop i=gl rel i::rel.drop (i+1):=by rw [List.drop_eq_getElem_cons xR,cM xR]
   rw [UN]at kO;have kO:(if 0<=(c:Int)/\(c:Int)< (X.ls.length:Int)then(if gi X.ls c=c then(match Ca X.p c (gl rel i)with | none=>none | some y=>Bw c y (rel.drop (i+1)))else some X.p)else none)=some y1:=kO
   split at kO
   case isFalse=>cases kO
   rename_i hcb;refine ar O (aS (a7.rd 0 O) O (ar O (a8 (a7.rd 0 O) O ?_)));refine ar O (ao O (ar O ?_));refine ay lQ.2 O (ar O (bc lQ O ?_));refine ar O (ao O (ar O (ao O ?_)));refine bX 63 O (fun h3=>?_) (fun h3=>?_)
   ·rw [aJ h3]at kO
    split at kO
    case h_1=>cases kO
    rename_i y2 cz;have bH:=hR.at_ (i:=(i:Int)) (by omega) (by omega);have gI:(rg ju i).n<=1000000:=by
     rw [<-bH.1,cM xR];exact td _ (dd xR)
    refine ar O (aS (a7.rd 0 O) O (ar O (u9 (a7.rd 0 O) O O O O O (ar O ?_))))
    first | refine dM rfl rfl ?_ | refine eI rfl rfl ?_
    refine az O (Cd.fW O (cH O ?_));refine jx [7,8] [.ex (.agg #[.slice (X.A) (X.n) (X.c),.slice (X.B) (X.m) (X.cB),.bool (false)]),yI ((c:Int)),yP (aF (A2) 1),yS (Ar) (nr) (cr),yI ((i:Int)),yP (aF (Ar) ((i:Int)).toNat),yS ((rg (ju) ((i:Int))).a) ((rg (ju) ((i:Int))).n) ((rg (ju) ((i:Int))).c),.pr (fun v w'=>∃x':LS,v=x'.val/\wL w [Bx 259 3 A5 X.cells,Bx 259 3 A4 [.slice none 0 0,.slice none 0 0,.bool false],Bx 199 2 A2 [aj bL,.slice Ar nr cr]] [] y2 x' w'),.pr (fun _ w'=>∃x':LS,wL w [Bx 259 3 A5 x'.cells,Bx 259 3 A4 [.slice none 0 0,.slice none 0 0,.bool false],Bx 199 2 A2 [aj bL,.slice Ar nr cr]] [] y2 x' w')] (by kernel_rfl) (by kernel_rfl) (ly (ly (ly (ly (ly (ly (ly (cL.2 ⟨Ye.cQ (fun v w w' h hb=>by obtain⟨x',hv,h1,h2,h3⟩:=h;exact⟨x',hv,h1,h2,h3.aq hb⟩),(cL.2 ⟨Ye.cQ (fun v w w' h hb=>by obtain⟨x',h1,h2,h3⟩:=h;exact⟨x',h1,h2,h3.aq hb⟩),(fun _ h=>by cases h)⟩)⟩)))))))) ?_ ?_
    ·refine⟨cP fun _ _ hb _ _ _=>ac3 2 ((a7.rd 0 O).below hb) O (bG O O),cj O,cP fun _ _ hb _ _ _=>aS ((a7.rd 2 O).below hb) O (bG O O),cP fun _ _ hb _ _ _=>a8 ((a7.rd 2 O).below hb) O (bG O O),cj O,cP fun _ _ hb _ _ _=>ay (oH.top.aq hb).2 O (bG O O),cP fun _ _ hb _ _ _=>bB (oH.top.aq hb) O (bG O O),?_,?_,au⟩
     ·refine jy fun e1 w1 hb hp aX hq=>?_
      refine aH (XO X c _ _ (rg ju i).c (gl rel i) y2 bq ((a7.aq hb).l9 (pre:=[_,_,_])) (fun w' h=>h.dY bH) gI cz) O ?_;rintro _ w4 ⟨x',iK,fV,rfl,hT⟩;exact ak.n (fv.dn O ⟨x',O,iK,fV,hT.l9⟩)
     refine pn 1 fun e1 w1 hp aX hq=>?_
     have dT:=hp 7 _ _ (by kernel_rfl) O O (by kernel_rfl);obtain⟨x',hv,h1,h2,h3⟩:=(hp 7 _ _ (by kernel_rfl) rfl rfl (by kernel_rfl));refine bR 3 0 h3 O O (by exact hv) O O O O ?_;intro dB jm;exact ak.n (fv.st O ⟨x',h1,h2,jm⟩)
    intro u w9 _ hu _ _;obtain⟨x',iK,fV,hT⟩:=hu 8 _ rfl (by kernel_rfl);refine fK O (aL O (aU O (tQ ?_)));exact⟨(i+1,x'),by show nr - (i+1)<nr - i;omega,(ac4 O),iK,by show i+1<=nr;omega,by rw [fV];exact kO,hT⟩
   rw [aC h3]at kO;have kO:=bC kO;refine av O (av O (av O (az O ?_)));refine Cd.dO O (bo O (bp (qZ O ?_)));refine Cd.loop (α:=Nat×Nat×LS) (fun s=> [(2,.pointer A2),(4,.pointer A4),(5,.pointer A5),(8,aj c),(10,aj (s.2.1:Int))]) (fun s w'=>s.2.2.ok/\wx c bL s.1 s.2.1 s.2.2.p=some z1/\s.1+s.2.1=100/\St w w' ([Bx 259 3 A5 s.2.2.cells,Bx 259 3 A4 [.slice none 0 0,.slice none 0 0,.bool false],Bx 199 2 A2 [aj bL,.slice Ar nr cr]]++ (s.2.2.fc++ []))) (fun s=>s.1) (100,0,X) (ac4 O) ⟨bq,by rw [kO];exact Dy,O,a7⟩ ?_;rintro⟨k,g,X⟩ e w9 ⟨bq,fM,ke,aW⟩;dsimp only at bq fM ke aW|-;obtain⟨r,rfl⟩:∃q,k=q+1:=by cases k with | zero=>cases fM | succ q=>exact⟨q,rfl⟩
   have fM:(if g<bL then(if 0<=(c:Int)/\(c:Int)< (X.ls.length:Int)then(if gi X.ls c=c then(match ym X.p c g with | none=>none | some (y,_)=>wx c bL r (g+1) y)else some X.p)else none)else some X.p)=some z1:=fM;have vC:X.ls.length=X.m:=bq.2.2;have lQ:cd w9 X.B X.m X.ls:=LS.bz aW;refine aY O (aS (aW.rd 2 O) O (iw (aW.rd 2 O) O O O O O (ao O ?_)));refine bX 82 O (fun h4=>?_) (fun h4=>?_)
   ·rw [aJ (by omega)]at fM
    split at fM
    case isFalse=>cases fM
    rename_i UC;refine ar O (aS (aW.rd 0 O) O (ar O (a8 (aW.rd 0 O) O ?_)));refine ar O (ao O (ar O ?_));refine ay lQ.2 O (ar O (bc lQ O ?_));refine ar O (ao O (ar O (ao O ?_)));refine bX 91 O (fun h5=>?_) (fun h5=>?_)
    ·rw [aJ h5]at fM
     split at fM
     case h_1=>cases fM
     rename_i y3 d3 gH;refine ar O (aS (aW.rd 0 O) O (ar O (u9 (aW.rd 0 O) O O O O O (ar O ?_))))
     first | refine dM rfl rfl ?_ | refine eI rfl rfl ?_
     refine az O (Cd.fW O (aD O (ac3 2 (aW.rd 0 O) O (ao O (aH (HC X c g y3 d3 bq (aW.l9 (pre:=[_,_,_])) gH) O ?_)))));rintro _ dt ⟨x',iK,fV,rfl,hT⟩;have hT:=hT.l9;refine ao O (rf hT O ?_);intro iE dB jm;refine bR 3 0 jm O O O O O O O fun iO kK=>ao O (ac3 2 (kK.rd 0 O) O (bR 3 1 kK O O O O O O O ?_));intro jK nU;refine ao O (aL O (aU O (tQ ?_)));exact⟨(r,g+1,x'),Nat.lt_succ_self r,(ac4 O),iK,by rw [fV];exact fM,by show r+ (g+1)=100;omega,nU.tail⟩
    rw [aC h5]at fM;have fM:=bC fM;refine av O (av O (av O (az O ?_)));refine Cd.dO O (bo O (bp (cn O (aL O (aU O (tQ ?_))))));exact⟨(q,c+1,X),Nat.lt_succ_self q,(ac4 O),bq,by rw [fM];exact hc,by show q+ (c+1)=3000;omega,aW⟩
   rw [aC (by omega)]at fM;have fM:=bC fM;refine av O (av O (av O (av O (av O (av O (av O (ao O (av O (av O (av O (az O ?_)))))))))));refine Cd.dO O (bo O (bp (cn O (aL O (aU O (tQ ?_))))));exact⟨(q,c+1,X),Nat.lt_succ_self q,(ac4 O),bq,by rw [fM];exact hc,by show q+ (c+1)=3000;omega,aW⟩
  have xR:rel.drop i=[]:=List.drop_eq_nil_of_le (by omega);rw [xR]at kO;have kO:some X.p=some y1:=kO;have kO:=bC kO;refine av O (av O (av O (av O (av O (av O (av O (ao O (av O (av O (av O (az O ?_)))))))))));refine Cd.dO O (bo O (bp (qZ O ?_)));refine Cd.loop (α:=Nat×Nat×LS) (fun s=> [(2,.pointer A2),(4,.pointer A4),(5,.pointer A5),(8,aj c),(10,aj (s.2.1:Int))]) (fun s w'=>s.2.2.ok/\wx c bL s.1 s.2.1 s.2.2.p=some z1/\s.1+s.2.1=100/\St w w' ([Bx 259 3 A5 s.2.2.cells,Bx 259 3 A4 [.slice none 0 0,.slice none 0 0,.bool false],Bx 199 2 A2 [aj bL,.slice Ar nr cr]]++ (s.2.2.fc++ []))) (fun s=>s.1) (100,0,X) (ac4 O) ⟨bq,by rw [kO];exact Dy,O,a7⟩ ?_;rintro⟨k,g,X⟩ e w9 ⟨bq,fM,ke,aW⟩;dsimp only at bq fM ke aW|-;obtain⟨r,rfl⟩:∃q,k=q+1:=by cases k with | zero=>cases fM | succ q=>exact⟨q,rfl⟩
  have fM:(if g<bL then(if 0<=(c:Int)/\(c:Int)< (X.ls.length:Int)then(if gi X.ls c=c then(match ym X.p c g with | none=>none | some (y,_)=>wx c bL r (g+1) y)else some X.p)else none)else some X.p)=some z1:=fM;have vC:X.ls.length=X.m:=bq.2.2;have lQ:cd w9 X.B X.m X.ls:=LS.bz aW;refine aY O (aS (aW.rd 2 O) O (iw (aW.rd 2 O) O O O O O (ao O ?_)));refine bX 82 O (fun h4=>?_) (fun h4=>?_)
  ·rw [aJ (by omega)]at fM
   split at fM
   case isFalse=>cases fM
   rename_i UC;refine ar O (aS (aW.rd 0 O) O (ar O (a8 (aW.rd 0 O) O ?_)));refine ar O (ao O (ar O ?_));refine ay lQ.2 O (ar O (bc lQ O ?_));refine ar O (ao O (ar O (ao O ?_)));refine bX 91 O (fun h5=>?_) (fun h5=>?_)
   ·rw [aJ h5]at fM
    split at fM
    case h_1=>cases fM
    rename_i y3 d3 gH;refine ar O (aS (aW.rd 0 O) O (ar O (u9 (aW.rd 0 O) O O O O O (ar O ?_))))
    first | refine dM rfl rfl ?_ | refine eI rfl rfl ?_
    refine az O (Cd.fW O (aD O (ac3 2 (aW.rd 0 O) O (ao O (aH (HC X c g y3 d3 bq (aW.l9 (pre:=[_,_,_])) gH) O ?_)))));rintro _ dt ⟨x',iK,fV,rfl,hT⟩;have hT:=hT.l9;refine ao O (rf hT O ?_);intro iE dB jm;refine bR 3 0 jm O O O O O O O fun iO kK=>ao O (ac3 2 (kK.rd 0 O) O (bR 3 1 kK O O O O O O O ?_));intro jK nU;refine ao O (aL O (aU O (tQ ?_)));exact⟨(r,g+1,x'),Nat.lt_succ_self r,(ac4 O),iK,by rw [fV];exact fM,by show r+ (g+1)=100;omega,nU.tail⟩
   rw [aC h5]at fM;have fM:=bC fM;refine av O (av O (av O (az O ?_)));refine Cd.dO O (bo O (bp (cn O (aL O (aU O (tQ ?_))))));exact⟨(q,c+1,X),Nat.lt_succ_self q,(ac4 O),bq,by rw [fM];exact hc,by show q+ (c+1)=3000;omega,aW⟩
  rw [aC (by omega)]at fM;have fM:=bC fM;refine av O (av O (av O (av O (av O (av O (av O (ao O (av O (av O (av O (az O ?_)))))))))));refine Cd.dO O (bo O (bp (cn O (aL O (aU O (tQ ?_))))));exact⟨(q,c+1,X),Nat.lt_succ_self q,(ac4 O),bq,by rw [fM];exact hc,by show q+ (c+1)=3000;omega,aW⟩
 rw [aC (by omega)]at hc;have hc:=bC hc;refine av O (av O (av O (az O ?_)));refine Cd.dO O (bo O (bp (cn O ?_)));refine ac3 2 (a6.rd 0 O) O (bR 3 1 a6 O O O O O O O ?_);intro w8 a7;refine bu O (fZ O (a7.rd 1 O) ?_);refine⟨X,bq,hc,O,?_⟩;have h5:=((a7.sub ((dA _).cons _)).sub ((dA _).cons _)).sub ((dA _).cons _)
 rwa [iG]at h5
def ob(n i:Nat):ah:=(List.range n).map fun j=>if 0<j/\j<i then -1 else 0
theorem WN(n:Nat):ob n 1=List.replicate n 0:=by
 apply gD
 ·simp [ob]
 intro j h1 h2;simp only [ob,List.getElem_map,List.getElem_range,List.getElem_replicate];rw [aC (by omega)]
theorem WO{n i:Nat}(h0:0<i):(ob n i).set i (-1)=ob n (i+1):=by
 apply gD
 ·simp [ob]
 intro j h1 h2;rw [List.getElem_set];simp only [ob,List.getElem_map,List.getElem_range]
 split
 ·rename_i e;subst e;rw [aJ (by omega)]
 rename_i e
 by_cases hj:0<j/\j<i
 ·rw [aJ hj,aJ (by omega)]
 rw [aC hj,aC (by omega)]
def BC(y:PS)(c:Int)(bL:Nat):Nat->Nat->ah->ah->Option (ah×ah)
 | 0,_,_,_=>none
 | k+1,g,ord,num=>if g<bL then(match rZ y c g with
  | none=>none
  | some d=>if 0<=d/\d< (num.length:Int)/\ord.length<1000000 then(if gi num d<0 then BC y c bL k (g+1) (ord++ [d]) (num.set d.toNat (ord.length:Int))else BC y c bL k (g+1) ord num)else none)else some (ord,num)
def BD(y:PS)(bL:Nat):Nat->Nat->ah->ah->Option (ah×ah)
 | 0,_,_,_=>none
 | k+1,i,ord,num=>if i<ord.length then(match BC y (gi ord i) bL 100 0 ord num with
  | none=>none
  | some (o,n)=>BD y bL k (i+1) o n)else some (ord,num)
def D6(y:PS)(num:ah)(g:Nat):ah->Option (ah)
 | []=>some []
 | c::r=>match rZ y c g with
  | none=>none
  | some d=>if 0<=d/\d< (num.length:Int)then(match D6 y num g r with | none=>none | some l=>some (gi num d::l))else none
def DU(y:PS)(num ord:ah)(bL:Nat):Nat->Nat->Option (ag)
 | 0,_=>none
 | k+1,g=>if g<bL then(match D6 y num g ord with | none=>none | some r=>match DU y num ord bL k (g+1)with | none=>none | some l=>some (r::l))else some []
def yw(bL:Nat)(rel:ag):Option (ag):=
 match Il bL rel with
 | none=>none
 | some y=>if y.ls.length<=100000 then(match BD y bL 100000 0 [0] (ob y.ls.length y.ls.length)with
  | none=>none
  | some (ord,num)=>if ord.length<=1000000 then DU y num ord bL 100 0 else none)else none
theorem XU(bL:Nat)(Ar:ai)(nr cr:Nat)(ju:List aO)(rel:ag)(T:ag)(w:aa)(hR:bl w Ar nr ju rel)(td:∀x∈rel,x.length<=1000000)(qC:nr<=1000000)(hp:yw bL rel=some T):
 aE prog 270 [.agg #[aj bL,.slice Ar nr cr],.slice none 0 0] w (fun v w'=>∃A c rs,v= .tuple #[.slice A T.length c,.bool true]/\rs.length=T.length/\St w w' (aK 24 2 A T.length c rs T)):=by
 unfold yw at hp
 split at hp
 case h_1=>cases hp
 rename_i y hy
 split at hp
 case isFalse=>cases hp
 rename_i mw
 split at hp
 case h_1=>cases hp
 rename_i N7 N2 mu
 split at hp
 case isFalse=>cases hp
 rename_i zY;refine bm func270 O ntmps270 O (my O) (aY O (wO (St.refl w) O O ?_));intro A2 w1 aB;refine ao O (ac3 1 (aB.rd 0 O) O (ao O (aH (XS bL Ar nr cr ju rel none 0 y _ (aB.bE hR) td qC hy) O ?_)));rintro _ w2 ⟨x,bq,Wr,rfl,aA⟩;have aw:=aB.call aA;refine rf aw O fun A6 w3 aI=>bR 3 0 aI O O O O O O O ?_;intro w4 aG;have aG:St w w4 ([Bx 259 3 A6 x.cells]++ (x.fc++ [Bx 199 2 A2 [aj bL,.slice Ar nr cr]])):=aG;have hI:bl w4 x.A x.n x.rs x.im:=LS.du bq aG;have hL:cd w4 x.B x.m x.ls:=LS.bz aG;have pD:=aG.rd 0 O;have iz:Rd w4 A2 2 (fun j=> [Value.int .i64 (bL:Int),.slice Ar nr cr].getD j undef):=(aG.sub (List.singleton_sublist.2 (by simp:Bx 199 2 A2 [aj bL,.slice Ar nr cr]∈_))).rd 0 O;subst Wr;have yd:x.ls.length=x.m:=bq.2.2;have mw:x.ls.length<=100000:=mw;have mu:BD x.p bL 100000 0 [0] (ob x.ls.length x.ls.length)=some (N7,N2):=mu;rw [yd]at mu mw;refine ao O (aS pD O (u9 pD O O O O O (az O (Cd.dO O (aD O (fk (St.refl w4) O O O ?_))))));intro A7 w5 dC;have KY:=Rd.below pD dC.below;refine ao O (aS KY O (a8 KY O (aZ O O (pj x.m dC O O (by omega) ?_))));intro A8 w6 eu;rw [<-WN]at eu;refine az O (Cd.loop (α:=Nat) (fun i=> [(2,.pointer A2),(6,.pointer A6),(7,.slice A7 1 1),(8,.slice A8 x.m x.m),(9,aj i)]) (fun i w'=>St w4 w' [ax 2 A8 x.m x.m (ob x.m i),ax 2 A7 1 1 [0]]/\1<=i/\(i<=x.m\/i=1)) (fun i=>x.m - i) 1 (ac4 O) ⟨eu,dE _,.inr O⟩ ?_);rintro i e w7 ⟨eB,lV,rH⟩;refine aY O (aZ O O (az O ?_));refine aM _ O (fun h1=>?_) (fun h1=>?_)
 ·have CH:=eB.bz 0 O;refine aD O (ay CH.2 O (ak.gQ 0 eB O O O (by omega) ?_));intro w8 fH;rw [gn,WO (by omega)]at fH;refine ao O (aL O (aU O (tQ ?_)));exact⟨i+1,by omega,(ac4 O),fH,by omega,by omega⟩
 have cS:ob x.m i=ob x.m x.m:=by
  unfold ob;apply pg;intro j hj;have hj:=jN.1 hj
  by_cases h:0<j
  ·rw [aJ (by omega),aJ (by omega)]
  rw [aC (by omega),aC (by omega)]
 rw [cS]at eB;refine bo O (bp (qZ O ?_));refine Cd.loop (α:=Nat×Nat×ai×Nat×ah×ah) (fun s=> [(2,.pointer A2),(6,.pointer A6),(7,.slice s.2.2.1 s.2.2.2.2.1.length s.2.2.2.1),(8,.slice A8 x.m x.m),(10,aj (s.2.1:Int))]) (fun s w'=>St w4 w' [ax 2 A8 x.m x.m s.2.2.2.2.2,ax 2 s.2.2.1 s.2.2.2.2.1.length s.2.2.2.1 s.2.2.2.2.1]/\s.1+s.2.1=100000/\BD x.p bL s.1 s.2.1 s.2.2.2.2.1 s.2.2.2.2.2=some (N7,N2)) (fun s=>s.1) (100000,0,A7,1,[0],ob x.m x.m) (ac4 O) ⟨eB,O,mu⟩ ?_;rintro⟨k,i,A7,c7,ord,num⟩ e w8 ⟨fH,eE,mu⟩;dsimp only at fH eE mu|-;obtain⟨q,rfl⟩:∃q,k=q+1:=by cases k with | zero=>cases mu | succ q=>exact⟨q,rfl⟩
 rw [BD]at mu;refine aY O (aZ O O (az O ?_));refine aM _ O (fun h2=>?_) (fun h2=>?_)
 ·rw [aJ (by omega)]at mu
  split at mu
  case h_1=>cases mu
  rename_i o2 n2 lv;refine cH O ?_;refine Cd.loop (α:=Nat×Nat×ai×Nat×ah×ah) (fun s=> [(2,.pointer A2),(6,.pointer A6),(7,.slice s.2.2.1 s.2.2.2.2.1.length s.2.2.2.1),(8,.slice A8 x.m x.m),(10,aj i),(11,aj (s.2.1:Int))]) (fun s w'=>St w4 w' [ax 2 A8 x.m x.m s.2.2.2.2.2,ax 2 s.2.2.1 s.2.2.2.2.1.length s.2.2.2.1 s.2.2.2.2.1]/\s.1+s.2.1=100/\i<s.2.2.2.2.1.length/\gi s.2.2.2.2.1 i=gi ord i/\BC x.p (gi ord i) bL s.1 s.2.1 s.2.2.2.2.1 s.2.2.2.2.2=some (o2,n2)) (fun s=>s.1) (100,0,A7,c7,ord,num) (ac4 O) ⟨fH,O,by show i<ord.length;omega,O,lv⟩ ?_;rintro⟨kk,g,A7,c7,om,num⟩ e w9 ⟨iV,ke,s6,vK,lv⟩;dsimp only at iV ke s6 vK lv|-;obtain⟨r,rfl⟩:∃q,kk=q+1:=by cases kk with | zero=>cases lv | succ q=>exact⟨q,rfl⟩
  rw [BC]at lv;have KX:=Rd.below iz iV.below;have Tw:=Rd.below pD iV.below;have pH:=iV.bE hI;have vo:=iV.dY hL;have Lk:=iV.bz 1 O;have TZ:=iV.bz 0 O;have jr:num.length=x.m:=TZ.1;refine aY O (aS KX O (iw KX O O O O O (az O ?_)));refine aM _ O (fun h3=>?_) (fun h3=>?_)
  ·rw [aJ (by omega)]at lv
   split at lv
   case h_1=>cases lv
   rename_i d hd
   split at lv
   case isFalse=>cases lv
   rename_i xH;rw [<-vK]at hd;refine cH O (dK [.ex (.agg #[.slice (x.A) (x.n) (x.c),.slice (x.B) (x.m) (x.cB),.bool (false)]),xS (A7) (om.length) (c7),xI ((i:Int)),xP (aF (A7) ((i:Int)).toNat),xI (gi (om) ((i:Int))),xI ((g:Int)),xI (d),xI (d)] O (eo O) ?_ ?_)
   ·refine⟨fun _ _ hb _ _=>ac3 2 (Tw.below hb) O Az,Dr O,Dr O,fun _ _ hb _ _=>ay (Lk.aq hb).2 O Az,fun _ _ hb _ _=>bc (Lk.aq hb) O Az,Dr O,?_,Dr O,au⟩;intro e1 w1 hb hp aX;refine aH (AV x.rs x.im x.ls _ g d _ (pH.aq hb) (vo.aq hb) hd) O ?_;rintro _ w2 ⟨rfl,aA⟩;refine ak.n ?_;exact eA.dn aA.below (by exact O)
   intro u dt zE _;have lS:=iV.aq zE;have FW:=lS.bz 0 O;refine fK O (ay FW.2 O (bc FW O (az O ?_)));refine aM _ O (fun h4=>?_) (fun h4=>?_)
   ·rw [aJ h4]at lv;refine aD O (aZ O O ?_);refine ay FW.2 O (ak.gQ 0 lS O O O (by omega) ?_);intro dB jm;have jm:St w4 dB [ax 2 A8 x.m x.m (num.set d.toNat (om.length:Int)),ax 2 A7 om.length c7 om]:=jm;refine ao O (fk jm O O O ?_);intro jj iO kK;refine fR 2 kK O (kK.bz 0 O) O O O ?_;intro nG tL jK nU;have nU:St w4 jK [ax 2 A8 x.m x.m (num.set d.toNat (om.length:Int)),ax 2 nG (om.length+1) tL (om++ [d])]:=nU.tail;refine ao O (aL O (aU O (tQ ?_)));refine⟨(r,g+1,nG,tL,om++ [d],num.set d.toNat (om.length:Int)),Nat.lt_succ_self r,⟨O,O,by show Value.slice _ _ _= .slice _ _ _;rw [List.length_append];rfl,O,O,O,trivial⟩,by dsimp only;rw [List.length_append];exact nU,by show r+ (g+1)=100;omega,by show i< (om++ [d]).length;rw [List.length_append];omega,?_,lv⟩;show gi (om++ [d]) i=_;rw [<-vK,bN (by rw [e8];omega),bN s6,List.getElem_append_left s6]
   rw [aC h4]at lv;refine aD O (aL O (aU O (tQ ?_)));exact⟨(r,g+1,A7,c7,om,num),Nat.lt_succ_self r,(ac4 O),lS,by show r+ (g+1)=100;omega,s6,vK,lv⟩
  rw [aC (by omega)]at lv;have lv:=bC lv;simp only [Prod.mk.injEq]at lv;obtain⟨rfl,rfl⟩:=lv;refine bo O (bp (cn O (aL O (aU O (tQ ?_)))));exact⟨(q,i+1,A7,c7,om,num),Nat.lt_succ_self q,(ac4 O),iV,by show q+ (i+1)=100000;omega,mu⟩
 rw [aC (by omega)]at mu;have mu:=bC mu;simp only [Prod.mk.injEq]at mu;obtain⟨rfl,rfl⟩:=mu;have TY:=fH.bz 0 O;have jr:num.length=x.m:=TY.1;refine bo O (bp (cn O ?_));refine jO fH O ?_;intro nG w9 iV;have iV:St w4 w9 (aK 24 2 nG 0 0 [] []++ [ax 2 A8 x.m x.m num,ax 2 A7 ord.length c7 ord]):=iV;have hol2:ord.length<=1000000:=zY;refine az O (Cd.loop (α:=Nat×Nat×ai×Nat×List aO×ag) (fun s=> [(2,.pointer A2),(6,.pointer A6),(7,.slice A7 ord.length c7),(8,.slice A8 x.m x.m),(13,.slice s.2.2.1 s.2.1 s.2.2.2.1),(14,aj (s.2.1:Int))]) (fun s w'=>St w4 w' (aK 24 2 s.2.2.1 s.2.1 s.2.2.2.1 s.2.2.2.2.1 s.2.2.2.2.2++ [ax 2 A8 x.m x.m num,ax 2 A7 ord.length c7 ord])/\s.1+s.2.1=100/\s.2.2.2.2.1.length=s.2.1/\s.2.2.2.2.2.length=s.2.1/\∃l,DU x.p num ord bL s.1 s.2.1=some l/\s.2.2.2.2.2++l=T) (fun s=>s.1) (100,0,nG,0,[],[]) (ac4 O) ⟨iV,O,O,O,T,hp,O⟩ ?_);rintro⟨k,g,B,cB,rs,xss⟩ e dt ⟨lS,ke,bO,bP,l,qD,CS⟩;dsimp only at lS ke bO bP qD CS|-;obtain⟨q,rfl⟩:∃q,k=q+1:=by cases k with | zero=>cases qD | succ q=>exact⟨q,rfl⟩
 rw [DU]at qD;have KW:=Rd.below iz lS.below;refine aY O (aS KW O (iw KW O O O O O (az O ?_)));refine aM _ O (fun h5=>?_) (fun h5=>?_)
 ·rw [aJ (by omega)]at qD
  split at qD
  case h_1=>cases qD
  rename_i row bH
  split at qD
  case h_1=>cases qD
  rename_i l2 VM;obtain rfl:=bC qD;refine aD O (jO lS O ?_);intro oq dB jm;refine az O (Cd.loop (α:=Nat×ai×Nat×ah) (fun s=> [(2,.pointer A2),(6,.pointer A6),(7,.slice A7 ord.length c7),(8,.slice A8 x.m x.m),(13,.slice B g cB),(14,aj g),(15,.slice s.2.1 s.1 s.2.2.1),(16,aj (s.1:Int))]) (fun s w'=>St w4 w' (ax 2 s.2.1 s.1 s.2.2.1 s.2.2.2::(aK 24 2 B g cB rs xss++ [ax 2 A8 x.m x.m num,ax 2 A7 ord.length c7 ord]))/\s.1<=ord.length/\s.2.2.2.length=s.1/\∃l,D6 x.p num g (ord.drop s.1)=some l/\s.2.2.2++l=row) (fun s=>ord.length - s.1) (0,oq,0,[]) (ac4 O) ⟨jm,bA _,O,row,bH,O⟩ ?_);rintro⟨j,oq,sB,acc⟩ e iO ⟨kK,hj,lU,l3,oO,CR⟩;dsimp only at kK hj lU oO CR|-;refine aY O (aZ O O (az O ?_));refine aM _ O (fun h6=>?_) (fun h6=>?_)
  ·have zP:j<ord.length:=by omega
   rw [List.drop_eq_getElem_cons zP,<-bN zP]at oO;simp only [D6]at oO
   split at oO
   case h_1=>cases oO
   rename_i d hd
   split at oO
   case isFalse=>cases oO
   rename_i xH
   split at oO
   case h_1=>cases oO
   rename_i l4 vO;obtain rfl:=bC oO;have Tv:=Rd.below pD kK.below;have TE:=kK.bE hI;have TI:=kK.dY hL;have fU:St w4 iO ([ax 2 A8 x.m x.m num,ax 2 A7 ord.length c7 ord]++ (ax 2 oq j sB acc::aK 24 2 B g cB rs xss)):=kK.perm (fb (l₁:=ax 2 oq j sB acc::aK 24 2 B g cB rs xss));have Lg:=fU.bz 1 O;have Ld:=fU.bz 0 O;refine cH O ?_;refine jx [12] [yS (oq) (j) (sB),yS (A8) (x.m) (x.m),.ex (.agg #[.slice (x.A) (x.n) (x.c),.slice (x.B) (x.m) (x.cB),.bool (false)]),yS (A7) (ord.length) (c7),yI ((j:Int)),yP (aF (A7) ((j:Int)).toNat),yI (gi (ord) ((j:Int))),yI ((g:Int)),yI (d),yP (aF (A8) (d).toNat),yI (gi (num) (d)),.pr (fun v w'=>∃iP,v= .slice iP 1 1/\St w4 w' (ax 2 iP 1 1 [gi num d]::ax 2 oq j sB acc::(aK 24 2 B g cB rs xss++ [ax 2 A8 x.m x.m num,ax 2 A7 ord.length c7 ord]))),.pr (fun v w'=>∃db dh,v= .slice db (j+1) dh/\St w4 w' (ax 2 db (j+1) dh (acc++ [gi num d])::(aK 24 2 B g cB rs xss++ [ax 2 A8 x.m x.m num,ax 2 A7 ord.length c7 ord]))),.pr (fun v w'=>∃db dh,v= .slice db (j+1) dh/\St w4 w' (ax 2 db (j+1) dh (acc++ [gi num d])::(aK 24 2 B g cB rs xss++ [ax 2 A8 x.m x.m num,ax 2 A7 ord.length c7 ord])))] (by kernel_rfl) (by kernel_rfl) (ly (ly (ly (ly (ly (ly (ly (ly (ly (ly (ly (cL.2 ⟨Ye.cQ (fun v w w' h hb=>by obtain⟨iP,hv,h1⟩:=h;exact⟨iP,hv,h1.aq hb⟩),(cL.2 ⟨Ye.cQ (fun v w w' h hb=>by obtain⟨db,dh,hv,h1⟩:=h;exact⟨db,dh,hv,h1.aq hb⟩),(cL.2 ⟨Ye.cQ (fun v w w' h hb=>by obtain⟨db,dh,hv,h1⟩:=h;exact⟨db,dh,hv,h1.aq hb⟩),(fun _ h=>by cases h)⟩)⟩)⟩)))))))))))) ?_ ?_
   ·refine⟨?_,cj O,cP fun _ _ hb _ _ _=>ac3 2 (Tv.below hb) O (bG O O),cj O,cj O,cP fun _ _ hb _ _ _=>ay (Lg.aq hb).2 O (bG O O),cP fun _ _ hb _ _ _=>bc (Lg.aq hb) O (bG O O),cj O,?_,cP fun _ _ hb _ _ _=>ay (Ld.aq hb).2 O (bG O O),cP fun _ _ hb _ _ _=>bc (Ld.aq hb) O (bG O O),?_,?_,?_,au⟩
    ·intro e1 w1 cc eY dQ eP hp aX hq;show ak _ _ _ _ _ _ _;refine lJ O (by exact aX 13 _ O (by kernel_rfl)) O (ak.n (fO O (by exact O)))
    ·refine cP fun e1 w1 hb hp aX hq=>?_
     refine aH (AV x.rs x.im x.ls _ g d _ (TE.aq hb) (TI.aq hb) hd) O ?_;rintro _ w2 ⟨rfl,aA⟩;refine ak.n ?_;exact fB.dn O aA.below (by exact O)
    ·refine cP fun e1 w1 hb hp aX hq=>?_
     exact fk (St.refl _) O O O fun iP ma n3=>ak.n (fB.dn O n3.below ⟨iP,O,(kK.aq hb).call n3⟩)
    ·refine jy fun e1 w1 hb hp aX hq=>?_
     obtain⟨iP,hv,h1⟩:=(hp 11 _ _ (by kernel_rfl) rfl rfl (by kernel_rfl));refine fR 1 h1 O (h1.bz 0 O) O (by exact hv) O ?_;intro db dh Ek vz;exact ak.n (fv.dn O ⟨db,dh,O,vz.tail⟩)
    refine dP 1 fun e1 w1 hp aX hq=>?_
    have dT:=hp 12 _ _ (by kernel_rfl) O O (by kernel_rfl);obtain⟨db,dh,hv,h1⟩:=(hp 12 _ _ (by kernel_rfl) rfl rfl (by kernel_rfl));refine lJ O (by exact hv) O (ak.n ?_);exact fB.dn O (Below.refl _ _) ⟨db,dh,O,h1⟩
   intro u jK _ hu _ _;obtain⟨db,dh,hv,nU⟩:=hu 13 _ rfl (by kernel_rfl);refine fK O (aL O (aU O (tQ ?_)));exact⟨(j+1,db,dh,acc++ [gi num d]),by omega,⟨O,O,O,O,O,O,hv,O,au⟩,nU,by show j+1<=ord.length;omega,by show(acc++ [gi num d]).length=j+1;rw [e8,lU];rfl,l4,vO,by show(acc++ [gi num d])++l4=row;rw [<-CR,fC];rfl⟩
  have mo:j=ord.length:=by omega
  rw [List.drop_eq_nil_of_le (by omega)]at oO;obtain rfl:=bC oO;rw [iG]at CR;subst CR;refine bo O (bp (cn O ?_));refine mW kK O O O fun ew jK nU=>km 2 nU O (nU.eG 0 O) O O O (by omega) (by omega) O ?_;intro Eo EU si pJ;have pJ:St w4 si (ax 2 oq j sB acc::aV 24 Eo (g+1) EU (rs++ [⟨oq,j,sB⟩])::(bS 2 rs xss++ [ax 2 A8 x.m x.m num,ax 2 A7 ord.length c7 ord])):=pJ.tail;refine ao O (aL O (aU O (tQ ?_)));refine⟨(q,g+1,Eo,EU,rs++ [⟨oq,j,sB⟩],xss++ [acc]),Nat.lt_succ_self q,(ac4 O),?_,by show q+ (g+1)=100;omega,by simp [bO],by simp [bP],l2,VM,by show(xss++ [acc])++l2=T;rw [<-CS,fC];rfl⟩;show St w4 si (aV 24 Eo (g+1) EU (rs++ [⟨oq,j,sB⟩])::(bS 2 (rs++ [⟨oq,j,sB⟩]) (xss++ [acc])++ [ax 2 A8 x.m x.m num,ax 2 A7 ord.length c7 ord]));rw [nD (by omega),fC];refine pJ.perm ?_;refine(List.Perm.swap _ _ _).trans (List.Perm.cons _ ?_);exact eU.symm
 rw [aC (by omega)]at qD;obtain rfl:=bC qD;rw [iG]at CS;subst CS;refine bo O (bp (e6 O ?_));refine ZF O O ?_;refine⟨B,cB,rs,by rw [bP],by omega,?_⟩;have h9:St w4 dt (aK 24 2 B g cB rs xss):=lS.sub (kY _ _);have fG:=aG.call h9;rw [bP];exact fG.sub (kY _ _)
def Bo(labels:ah)(i k:Nat):ag:=
 if 0< (if k=i+1 then gi labels i else 2)then [pow [(i:Int),(k:Int)] (if k=i+1 then gi labels i else 2).toNat]else []
def yp(labels:ah)(bL i:Nat):Nat->Nat->ag
 | 0,_=> []
 | f+1,k=>if k<bL then Bo labels i k++yp labels bL i f (k+1)else []
def wj(labels:ah)(bL:Nat):Nat->Nat->ag
 | 0,_=> []
 | f+1,i=>if i<bL then yp labels bL i f (i+1)++wj labels bL f (i+1)else []
def ij(labels:ah):ag:=wj labels (labels.length+1) 20 0
theorem XY(A:ai)(n c:Nat)(w:aa)(hn:n<=1000):aE prog 268 [.slice A n c] w (fun v w'=>v=aj ((n:Int)+1)/\w'=w):=by
 refine bm func268 O ntmps268 O (bU O) ?_;refine aY O (aZ O O (aL O (bu O ?_)));exact fP O ⟨O,O⟩
section
variable {P:Program} {N:Nat} {ops:Array Oper} {K:Env->aa->Prop} {rest:List Oper} {e:Env} {w0 w w':aa} {ks:List Ck} {d:Nat} {ty:ad} {pos:String} {af:Array Edge}
theorem P0{t:ad}{f0 f1:Field}{z0 z1 y0 y1:ab}{b b0 b1:Nat}[bK P t (.struct #[f0,f1])][bF P t (.agg #[z0,z1]) 2 b]{x0:ae}{v0:ab}(pE:bF P f0.type y0 1 b0)(nP:bF P f1.type y1 1 b1)(ho:f0.offset=0)(s9:f1.offset=1)(h0:ev e x0=v0)(c0:v0.oneCell'=true)(hb:Nat.blt d N=true)(hK:ak P N ops K rest (bt e d (.agg #[v0,z1])) w):ak P N ops K (⟨some d,.build t #[(0,x0)],ty,pos,af,none⟩::rest) e w:=by
 obtain⟨inf,hi,eM,hs,ib⟩:=bF.get P t;obtain⟨AJ,iB,_,oR,_⟩:=pE.get P f0.type;obtain⟨AL,lV,_,pW,_⟩:=nP.get P f1.type;have e0:v0.cells= #[v0]:=by cases v0<;>simp [Value.oneCell']at c0<;>rfl
 have ez:(Value.agg #[z0,z1]).cells= #[z0,z1]:=O;refine .val (w':=w) ?_ hb hK;simp [execOp,Instr.build,run_underlying (bK.out (P:=P) (t:=t)),sizeOf,typeInfo,zeroValue,hi,eM,iB,oR,lV,pW,ho,s9,h0,e0,ez,Instr.fill]
end
theorem XX(Al:ai)(nl cl:Nat)(labels:ah)(w:aa)(hR:cd w Al nl labels)(jr:nl<=10)(hl:∀x∈labels,0<=x/\x<=32):
 aE prog 221 [.slice Al nl cl] w (fun v w'=>∃B c rs,v= .agg #[aj ((nl:Int)+1),.slice B (ij labels).length c]/\rs.length=(ij labels).length/\St w w' (aK 24 2 B (ij labels).length c rs (ij labels))):=by
 have lq:=hR.1;refine bm func221 O ntmps221 O (lB O O) (aY O (yN (St.refl w) O ?_));intro A2 w1 aB;refine ao O (aH (XY Al nl cl _ (by omega)) O ?_);rintro _ w2 ⟨rfl,rfl⟩;refine P0 (by exact inferInstance) (by exact inferInstance) O O O O O (yN aB O ?_);intro A3 w2 aw;refine bR 2 0 aw O O O O O O O ?_;intro w3 aI;have aI:St w w3 ([Bx 199 2 A3 [aj ((nl:Int)+1),.slice none 0 0],Bx 199 2 A2 [aj 0,.slice none 0 0]]):=aI;have aG:St w w3 (aV 24 none 0 0 []::[Bx 199 2 A3 [aj ((nl:Int)+1),.slice none 0 0],Bx 199 2 A2 [aj 0,.slice none 0 0]]):=aI.nil _;have aR:St w w3 ([Bx 199 2 A3 [aj ((nl:Int)+1),.slice none 0 0],Bx 199 2 A2 [aj 0,.slice none 0 0]]++aK 24 2 none 0 0 [] []):=aG.perm (fb (l₁:=[_]) (l₂:=[_,_]));refine az O ?_;refine Cd.loop (α:=BS) (fun s=> [(0,.slice Al nl cl),(2,.pointer A2),(3,.pointer A3),(4,aj (s.k:Int))]) (fun s w'=>St w w' ([Bx 199 2 A3 [aj ((nl:Int)+1),.slice s.B s.n s.c],Bx 199 2 A2 [aj 0,.slice none 0 0]]++aK 24 2 s.B s.n s.c s.rs s.xss)/\s.rs.length=s.n/\s.xss.length=s.n/\s.n<=20*s.k/\s.k+s.f=20/\s.xss++wj labels (nl+1) s.f s.k=ij labels) (fun s=>s.f) ⟨20,0,none,0,0,[],[]⟩ ⟨O,O,O,O,trivial⟩ ⟨aR,O,O,Nat.zero_le _,O,by unfold ij;rw [lq];rfl⟩ ?_;rintro⟨f,i,B,n,cB,rs,xss⟩ e w4 ⟨aG,bO,bP,VC,Vq,fX⟩;dsimp only at aG bO bP VC Vq fX|-;refine aY O (aS (aG.rd 0 O) O (iw (aG.rd 0 O) O O O O O (az O ?_)));refine aM _ O (fun h1=>?_) (fun h1=>?_)
 ·obtain⟨f,rfl⟩:∃q,f=q+1:=⟨f - 1,by omega⟩;rw [wj,aJ (by omega)]at fX;refine aD O (aL O (az O ?_));refine Cd.loop (α:=BS) (fun s=> [(0,.slice Al nl cl),(2,.pointer A2),(3,.pointer A3),(4,aj i),(5,aj (s.k:Int))]) (fun s w'=>St w w' ([Bx 199 2 A3 [aj ((nl:Int)+1),.slice s.B s.n s.c],Bx 199 2 A2 [aj 0,.slice none 0 0]]++aK 24 2 s.B s.n s.c s.rs s.xss)/\s.rs.length=s.n/\s.xss.length=s.n/\i+1<=s.k/\s.n+i+1<=20*i+s.k/\s.k+s.f=20/\s.xss++ (yp labels (nl+1) i s.f s.k++wj labels (nl+1) f (i+1))=ij labels) (fun s=>s.f) ⟨f,i+1,B,n,cB,rs,xss⟩ (ac4 O) ⟨aG,bO,bP,dE _,by show n+i+1<=20*i+ (i+1);omega,by show i+1+f=20;omega,fX⟩ ?_;rintro⟨g,k,B,n,cB,rs,xss⟩ e w5 ⟨aR,bO,bP,gy,VD,ke,fX⟩;dsimp only at aR bO bP gy VD ke fX|-;refine aY O (aS (aR.rd 0 O) O (iw (aR.rd 0 O) O O O O O (az O ?_)));refine aM _ O (fun h2=>?_) (fun h2=>?_)
  ·obtain⟨g,rfl⟩:∃q,g=q+1:=⟨g - 1,by omega⟩;rw [yp,aJ (by omega)]at fX;have qw:∃L:Int,L=(if k=i+1 then gi labels i else 2)/\0<=L/\L<=32:=by
    refine⟨_,O,?_⟩
    split
    ·have:=hl (gi labels i) (by rw [bN (by omega)];exact dd _);exact this
    ·omega
   obtain⟨L,hL,nm,hL32⟩:=qw;refine BM 5 O (pc (α:=Unit) (fun _=> [(0,.slice Al nl cl),(2,.pointer A2),(3,.pointer A3),(4,aj i),(5,aj k),(6,aj L)]) (fun _ w'=>w'=w5) ?_ ?_)
   ·refine aY O (aL O (az O ?_));refine aM _ O (fun h3=>?_) (fun h3=>?_)
    ·have lQ:=aR.dY hR;refine aD O (ay lQ.2 O (bc lQ O ?_));refine aU O (tQ ?_);exact⟨(),⟨O,O,O,O,O,by rw [hL,aJ (by omega)];rfl,au⟩,O⟩
    ·refine mC O (tQ ?_);exact⟨(),⟨O,O,O,O,O,by rw [hL,aC (by omega)];rfl,au⟩,O⟩
   ·rintro⟨⟩ e w6 rfl;refine cH O (aM _ O (fun h4=>?_) (fun h4=>?_))
    ·have td:Bo labels i k=[pow [(i:Int),(k:Int)] L.toNat]:=by
      unfold Bo;rw [<-hL,aJ h4]
     rw [td]at fX;refine jx [8,10] [yP (aF (A3) 1),yS (B) (n) (cB),yI ((i:Int)),yI ((k:Int)),.pr (fun v w'=>∃cG,v= .slice cG 2 2/\St w w' (ax 2 cG 2 2 [(i:Int),(k:Int)]::Bx 199 2 A3 [aj ((nl:Int)+1),.slice B n cB]::Bx 199 2 A2 [aj 0,.slice none 0 0]::aK 24 2 B n cB rs xss)),yI (L),.pr (fun v w'=>∃eT gw,v= .slice eT (2*L.toNat) gw/\St w w' (ax 2 eT (2*L.toNat) gw (pow [(i:Int),(k:Int)] L.toNat)::Bx 199 2 A3 [aj ((nl:Int)+1),.slice B n cB]::Bx 199 2 A2 [aj 0,.slice none 0 0]::aK 24 2 B n cB rs xss)),.pr (fun v w'=>∃eT gw tB,v= .slice tB 1 1/\St w w' (aV 24 tB 1 1 [⟨eT,2*L.toNat,gw⟩]::ax 2 eT (2*L.toNat) gw (pow [(i:Int),(k:Int)] L.toNat)::Bx 199 2 A3 [aj ((nl:Int)+1),.slice B n cB]::Bx 199 2 A2 [aj 0,.slice none 0 0]::aK 24 2 B n cB rs xss)),.pr (fun v w'=>∃eT gw iQ iU,v= .slice iQ (n+1) iU/\St w w' (ax 2 eT (2*L.toNat) gw (pow [(i:Int),(k:Int)] L.toNat)::Bx 199 2 A3 [aj ((nl:Int)+1),.slice B n cB]::Bx 199 2 A2 [aj 0,.slice none 0 0]::aV 24 iQ (n+1) iU (rs++ [⟨eT,2*L.toNat,gw⟩])::bS 2 rs xss)),yP (aF (A3) 1),.pr (fun _ w'=>∃eT gw iQ iU,St w w' (ax 2 eT (2*L.toNat) gw (pow [(i:Int),(k:Int)] L.toNat)::Bx 199 2 A3 [aj ((nl:Int)+1),.slice iQ (n+1) iU]::Bx 199 2 A2 [aj 0,.slice none 0 0]::aV 24 iQ (n+1) iU (rs++ [⟨eT,2*L.toNat,gw⟩])::bS 2 rs xss))] (by kernel_rfl) (by kernel_rfl) (ly (ly (ly (ly (cL.2 ⟨Ye.cQ (fun v w w' h hb=>by obtain⟨cG,hv,h1⟩:=h;exact⟨cG,hv,h1.aq hb⟩),(ly (cL.2 ⟨Ye.cQ (fun v w w' h hb=>by obtain⟨eT,gw,hv,h1⟩:=h;exact⟨eT,gw,hv,h1.aq hb⟩),(cL.2 ⟨Ye.cQ (fun v w w' h hb=>by obtain⟨eT,gw,tB,hv,h1⟩:=h;exact⟨eT,gw,tB,hv,h1.aq hb⟩),(cL.2 ⟨Ye.cQ (fun v w w' h hb=>by obtain⟨eT,gw,iQ,iU,hv,h1⟩:=h;exact⟨eT,gw,iQ,iU,hv,h1.aq hb⟩),(ly (cL.2 ⟨Ye.cQ (fun v w w' h hb=>by obtain⟨eT,gw,iQ,iU,h1⟩:=h;exact⟨eT,gw,iQ,iU,h1.aq hb⟩),(fun _ h=>by cases h)⟩))⟩)⟩)⟩))⟩))))) ?_ ?_
     ·refine⟨cP fun _ _ hb _ _ _=>aS ((aR.rd 0 O).below hb) O (bG O O),cP fun _ _ hb _ _ _=>a8 ((aR.rd 0 O).below hb) O (bG O O),cj O,cj O,?_,cj O,?_,?_,?_,?_,?_,au⟩
      ·refine cP fun e1 w1 hb hp aX hq=>?_
       exact me [(i:Int),(k:Int)] (St.refl _) O O (by decide) (by decide) O O fun cG ma n3=>ak.n (fB.dn O n3.below ⟨cG,O,(aR.aq hb).call n3⟩)
      ·refine cP fun e1 w1 hb hp aX hq=>?_
       obtain⟨cG,hv,h1⟩:=(hp 4 _ _ (by kernel_rfl) rfl rfl (by kernel_rfl));refine acW (XR cG 2 2 [(i:Int),(k:Int)] L.toNat _ (h1.bz 0 O) (by decide) (by omega)) O (by rw [Int.toNat_of_nonneg nm];exact bw (fun v=> [v,Value.int .i64 L]) hv) O ?_;rintro _ Ek ⟨eT,gw,rfl,MK⟩;exact ak.n (fB.dn O MK.below ⟨eT,gw,O,(h1.tail).call MK⟩)
      ·refine cP fun e1 w1 hb hp aX hq=>?_
       obtain⟨eT,gw,hv,h1⟩:=(hp 6 _ _ (by kernel_rfl) rfl rfl (by kernel_rfl));refine mW (St.refl _) (by exact hv) O O ?_;intro tB w22 ML;exact ak.n (fB.dn O ML.below ⟨eT,gw,tB,O,h1.call ML⟩)
      ·refine jy fun e1 w1 hb hp aX hq=>?_
       obtain⟨eT,gw,tB,hv,h1⟩:=(hp 7 _ _ (by kernel_rfl) rfl rfl (by kernel_rfl));refine km 4 h1 O (h1.eG 0 O) O (by exact hv) O (by omega) (by omega) O ?_;intro iQ iU w23 Uc;exact ak.n (fv.dn O ⟨eT,gw,iQ,iU,O,Uc.tail⟩)
      ·refine dP 1 fun e1 w1 hp aX hq=>?_
       have dT:=hp 8 _ _ (by kernel_rfl) O O (by kernel_rfl);obtain⟨eT,gw,iQ,iU,KN,hT⟩:=dT;refine aS ((hT.rd 1 O)) O (ak.n (fO O (by exact O)))
      ·refine pn 1 fun e1 w1 hp aX hq=>?_
       have dT:=hp 8 _ _ (by kernel_rfl) O O (by kernel_rfl);obtain⟨eT,gw,iQ,iU,KN,hT⟩:=dT;refine kD 1 hT O O (by exact KN) O O ?_;intro w24 Ud;exact ak.n (fv.st O ⟨eT,gw,iQ,iU,Ud⟩)
     intro u w7 _ hu _ _;obtain⟨eT,gw,iQ,iU,hT⟩:=hu 10 _ rfl (by kernel_rfl);refine fK O (aL O (aU O (tQ ?_)));refine⟨⟨g,k+1,iQ,n+1,iU,rs++ [⟨eT,2*L.toNat,gw⟩],xss++ [pow [(i:Int),(k:Int)] L.toNat]⟩,Nat.lt_succ_self g,(ac4 O),?_,by simp [bO],by simp [bP],by show i+1<=k+1;omega,by show n+1+i+1<=20*i+ (k+1);omega,by show k+1+g=20;omega,by rw [<-fX];simp⟩;show St w w7 ([Bx 199 2 A3 [aj ((nl:Int)+1),.slice iQ (n+1) iU],Bx 199 2 A2 [aj 0,.slice none 0 0]]++aV 24 iQ (n+1) iU (rs++ [⟨eT,2*L.toNat,gw⟩])::bS 2 (rs++ [⟨eT,2*L.toNat,gw⟩]) (xss++ [pow [(i:Int),(k:Int)] L.toNat]));rw [nD (by omega)];refine hT.perm ?_;exact fb (l₁:=[_]) (l₂:=Bx 199 2 A3 [aj ((nl:Int)+1),.slice iQ (n+1) iU]::Bx 199 2 A2 [aj 0,.slice none 0 0]::aV 24 iQ (n+1) iU (rs++ [⟨eT,2*L.toNat,gw⟩])::bS 2 rs xss)
    ·have td:Bo labels i k=[]:=by
      unfold Bo;rw [<-hL,aC h4]
     rw [td]at fX;refine aD O (aL O (aU O (tQ ?_)));exact⟨⟨g,k+1,B,n,cB,rs,xss⟩,Nat.lt_succ_self g,(ac4 O),aR,bO,bP,by show i+1<=k+1;omega,by show n+i+1<=20*i+ (k+1);omega,by show k+1+g=20;omega,fX⟩
  ·have dR:yp labels (nl+1) i g k=[]:=by
    cases g with
    | zero=>rfl
    | succ g=>rw [yp,aC (by omega)]
   rw [dR]at fX;refine bo O (bp (cn O (aL O (aU O (tQ ?_)))));exact⟨⟨f,i+1,B,n,cB,rs,xss⟩,Nat.lt_succ_self f,(ac4 O),aR,bO,bP,by show n<=20* (i+1);omega,by show i+1+f=20;omega,fX⟩
 ·have Gw:wj labels (nl+1) f i=[]:=by
   cases f with
   | zero=>rfl
   | succ f=>rw [wj,aC (by omega)]
  rw [Gw,iG]at fX;subst fX;refine bo O (bp (cn O ?_));refine ac3 1 (aG.rd 0 O) O (bR 2 1 aG O O O O O O O ?_);intro w5 aR;refine bu O (fZ O (aR.rd 1 O) ?_);refine⟨B,cB,rs,by rw [bP];rfl,by omega,?_⟩;rw [bP];exact(aR.sub ((dA _).cons _)).sub ((dA _).cons _)
structure CV where
 s:aO
 v:Int
section
variable {w0 w:aa} {ks:List Ck} {i:Nat} {t:ad} {A:ai} {k q:Nat} {cs:List CV}
end
section
variable {P:Program} {N:Nat} {ops:Array Oper} {K:Env->aa->Prop} {rest:List Oper} {e:Env} {w0 w w':aa} {ks:List Ck} {d:Nat} {ty:ad} {pos:String} {af:Array Edge}
theorem P3{t:ad}{f0 f1:Field}{z0 z1 y0 y1:ab}{b b0 b1:Nat}[bK P t (.struct #[f0,f1])][bF P t (.agg #[z0,z1]) 2 b]{x0 x1:ae}{v0 v1:ab}(pE:bF P f0.type y0 1 b0)(nP:bF P f1.type y1 1 b1)(ho:f0.offset=0)(s9:f1.offset=1)(h0:ev e x0=v0)(h1:ev e x1=v1)(c0:v0.oneCell'=true)(c1:v1.oneCell'=true)(hb:Nat.blt d N=true)(hK:ak P N ops K rest (bt e d (.agg #[v0,v1])) w):ak P N ops K (⟨some d,.build t #[(0,x0),(1,x1)],ty,pos,af,none⟩::rest) e w:=by
 obtain⟨inf,hi,eM,hs,ib⟩:=bF.get P t;obtain⟨AJ,iB,hz00,oR,hby0⟩:=pE.get P f0.type;obtain⟨AL,lV,hz01,pW,hby1⟩:=nP.get P f1.type;have e0:v0.cells= #[v0]:=by cases v0<;>simp [Value.oneCell']at c0<;>rfl
 have e1:v1.cells= #[v1]:=by cases v1<;>simp [Value.oneCell']at c1<;>rfl
 have ez:(Value.agg #[z0,z1]).cells= #[z0,z1]:=O;refine .val (w':=w) ?_ hb hK;simp [execOp,Instr.build,run_underlying (bK.out (P:=P) (t:=t)),sizeOf,typeInfo,zeroValue,hi,eM,iB,oR,lV,pW,ho,s9,h0,h1,e0,e1,ez,Instr.fill]
end
theorem XW(A:ai)(n c:Nat)(labels:ah)(w:aa)(hR:cd w A n labels)(hn:n<5)(hl:∀x∈labels,x=0\/(2<=x/\x<=32)):
 aE prog 219 [.slice A n c] w (fun v w'=>v= .bool true/\w'=w):=by
 have lq:=hR.1;refine bm func219 O ntmps219 O (bU O) (b7 O ?_);refine Cd.loop (α:=Nat) (fun i=> [(0,.slice A n c),(3,aj i)]) (fun i w'=>w'=w/\i<=n) (fun i=>n - i) 0 (ac4 O) ⟨O,bA _⟩ ?_;rintro i e w1 ⟨rfl,hi⟩;refine aY O (aZ O O (az O ?_));refine aM _ O (fun h1=>?_) (fun h1=>?_)
 ·have hx:=hl (gi labels i) (by rw [bN (by omega)];exact dd _);refine aD O (ay hR.2 O (bc hR O (ao O ?_)));refine bX 15 O (fun h2=>?_) (fun h2=>?_)
  ·refine ar O (ao O (ar O (ao O (ar O ?_))));refine ay hR.2 O (ar O (bc hR O (ar O (aH (DD _ _ _ _) O ?_))));rintro _ w2 ⟨rfl,rfl⟩;refine ar O ?_
   first | refine dM rfl rfl ?_ | refine eI rfl rfl ?_
   refine az O (jw O (fun h=>h (by omega)) (aD O (aL O (aU O (tQ ?_)))));exact⟨i+1,by omega,(ac4 O),O,by omega⟩
  refine av O (av O (av O (av O (av O (av O (az O ?_))))));refine Cd.dO O (aD O (aL O (aU O (tQ ?_))));exact⟨i+1,by omega,(ac4 O),O,by omega⟩
 refine bo O (bp (cn O (aZ O O (bu O ?_))));refine bQ O ?_;exact⟨by rw [fo (by omega)],O⟩
theorem XV(letters:Int)(A:ai)(n c:Nat)(ws:ah)(w:aa)(hR:cd w A n ws)(cI:0<=letters/\letters<=1000)(hn:n<=64)(hw:∀x∈ws,0<=x/\x<letters):
 aE prog 306 [aj letters,.slice A n c] w (fun v w'=>v= .bool true/\w'=w):=by
 have lq:=hR.1;refine bm func306 O ntmps306 O (bU O) (b7 O ?_);refine Cd.loop (α:=Nat) (fun i=> [(0,aj letters),(1,.slice A n c),(5,aj i)]) (fun i w'=>w'=w/\i<=n) (fun i=>n - i) 0 (ac4 O) ⟨O,bA _⟩ ?_;rintro i e w1 ⟨rfl,hi⟩;refine aY O (aZ O O (az O ?_));refine aM _ O (fun h1=>?_) (fun h1=>?_)
 ·have hx:=hw (gi ws i) (by rw [bN (by omega)];exact dd _);refine aD O (ay hR.2 O (bc hR O ?_));refine ao O (je O O O (by omega) ?_);refine aH (DD _ _ _ _) O ?_;rintro _ w2 ⟨rfl,rfl⟩
  first | refine dM rfl rfl ?_ | refine eI rfl rfl ?_
  refine az O (jw O (fun h=>h (by omega)) (aD O (aL O (aU O (tQ ?_)))));exact⟨i+1,by omega,(ac4 O),O,by omega⟩
 refine bo O (bp (cn O (aZ O O (bu O ?_))));refine bQ O ?_;exact⟨by rw [fo (by omega)],O⟩
def tI(letters:Int)(least:Nat)(tA:ag):Prop:=tA.length<=24/\∀ws∈tA,least<=ws.length/\ws.length<=64/\∀x∈ws,0<=x/\x<letters
instance (letters:Int)(least:Nat)(tA:ag):Decidable (tI letters least tA):=by unfold tI;exact inferInstance
theorem Ns(letters:Int)(least:Nat)(A:ai)(n c:Nat)(rs:List aO)(tA:ag)(w:aa)(hR:bl w A n rs tA)(cI:0<=letters/\letters<=1000)(hle:least<=1)(hW:tI letters least tA):
 aE prog 292 [aj letters,.slice A n c,aj least] w (fun v w'=>v= .bool true/\w'=w):=by
 have lq:=hR.len;have hn:=hW.1;refine bm func292 O ntmps292 O (bU O) (b7 O ?_);refine Cd.loop (α:=Nat) (fun i=> [(0,aj letters),(1,.slice A n c),(2,aj least),(7,aj i)]) (fun i w'=>w'=w/\i<=n) (fun i=>n - i) 0 (ac4 O) ⟨O,bA _⟩ ?_;rintro i e w1 ⟨rfl,hi⟩;refine aY O (aZ O O (az O ?_));refine aM _ O (fun h1=>?_) (fun h1=>?_)
 ·have bH:=hR.at_ (i:=(i:Int)) (by omega) (by omega);have hx:=hW.2 (gl tA i) (by rw [cM (by omega)];exact dd _);have bO:=bH.1;refine aD O (ay hR.top.2 O (bB hR.top O (aH (XV letters _ _ _ (gl tA i) _ bH cI (by omega) hx.2.2) O ?_)));rintro _ w2 ⟨rfl,rfl⟩
  first | refine dM rfl rfl ?_ | refine eI rfl rfl ?_
  refine ao O (ak.split 21 O (fun h=>absurd h (by decide)) (fun _=>?_));refine ar O (ao O (ar O (ao O (ar O ?_))));refine ay hR.top.2 O (ar O (bB hR.top O ?_));refine ar O (aZ O O (ar O (ao O (ar O (az O ?_)))));refine jw O (by omega) (aD O (aL O (aU O (tQ ?_))));exact⟨i+1,by omega,(ac4 O),O,by omega⟩
 refine bo O (bp (cn O (aZ O O (bu O ?_))));refine bQ O ?_;exact⟨by rw [fo (by omega)],O⟩
theorem XQ(bL:Nat)(Ar:ai)(nr cr:Nat)(ju:List aO)(rel:ag)(w:aa)(hR:bl w Ar nr ju rel)(hg:1<=bL/\bL<=5)(hW:tI bL 1 rel):
 aE prog 291 [.agg #[aj bL,.slice Ar nr cr]] w (fun v w'=>v= .bool true/\St w w' []):=by
 refine bm func291 O ntmps291 O (bU O) (aY O (wO (St.refl w) O O ?_));intro A1 w1 aB;refine ao O (aS (aB.rd 0 O) O (iw (aB.rd 0 O) O O O O O (aH (DD _ _ _ _) O ?_)));rintro _ w2 ⟨rfl,rfl⟩;refine ao O (bX 6 O (fun _=>?_) (fun h=>absurd (by omega) h));refine ar O (aS (aB.rd 0 O) O (ar O (iw (aB.rd 0 O) O O O O O (ar O (aS (aB.rd 0 O) O (ar O (a8 (aB.rd 0 O) O (ar O ?_))))))));refine aH (Ns bL 1 Ar nr cr ju rel _ (aB.bE hR) (by omega) (by decide) hW) O ?_;rintro _ w2 ⟨rfl,rfl⟩;refine bu O (bQ O ?_);exact⟨O,aB.none⟩
theorem XP(bL:Nat)(Ar:ai)(nr cr:Nat)(ju:List aO)(rel:ag)(w:aa)(hR:bl w Ar nr ju rel)(hg:1<=bL/\bL<=5)(hW:tI bL 1 rel):
 aE prog 267 [.agg #[aj bL,.slice Ar nr cr],.slice none 0 0] w (fun v w'=>v=aj 0/\St w w' []):=by
 refine bm func267 O ntmps267 O (bU O) (aY O (wO (St.refl w) O O ?_));intro A1 w1 aB;refine ao O (ac3 1 (aB.rd 0 O) O (aH (XQ bL Ar nr cr ju rel _ (aB.bE hR) hg hW) O ?_));rintro _ w2 ⟨rfl,aA⟩;have aw:=aB.aq aA.below
 first | refine dM rfl rfl ?_ | refine eI rfl rfl ?_
 refine ao O (ak.split 8 O (fun h=>absurd h (by decide)) (fun _=>?_));refine ar O (aS (aw.rd 0 O) O (ar O (iw (aw.rd 0 O) O O O O O ?_)));refine ar O (ao O (ar O ?_));refine aH (Ns bL 0 none 0 0 [] [] _ (bl.nil _) (by omega) (by decide) ⟨by decide,fun x hx=> (nomatch hx)⟩) O ?_;rintro _ w3 ⟨rfl,rfl⟩;refine ar O ?_
 first | refine dM rfl rfl ?_ | refine eI rfl rfl ?_
 refine az O (Cd.dO O (cE O (fP O ?_)));exact⟨O,aw.none⟩
structure Qv(w0:aa)(A2 A4:ai)(bL:Nat)(Ar:ai)(nr cr:Nat)(rel:ag)(S:Nat->Bool)(e:Env)(w:aa):Prop where
 f1:e 1= .slice none 0 0
 f2:e 2= .pointer A2
 f4:e 4= .pointer A4
 p0:S 0=true->e 16= .pointer (aF A2 0)
 p1:S 1=true->e 17=aj bL
 p2:S 2=true->e 18= .pointer (aF A2 1)
 p3:S 3=true->e 19= .slice Ar nr cr
 mem:∃(B:ai) (cB:Nat) (iN:List aO) (M bs:List Ck) (Ad:ai),(S 4=false->M=[])/\(S 4=true->e 20= .slice B nr cB/\iN.length=nr/\M=aK 24 2 B nr cB iN rel)/\(S 5=true->e 21= .agg #[aj bL,.slice B nr cB])/\(S 6=false->bs=[])/\(S 6=true->e 7= .pointer Ad/\((S 7=false/\bs=[Bx 199 2 Ad [aj 0,.slice none 0 0]])\/(S 7=true/\bs=[Bx 199 2 Ad [aj bL,.slice B nr cB]])))/\
  St w0 w (bs++ (M++ [Bx 199 2 A4 [aj 0,.slice none 0 0],Bx 199 2 A2 [aj bL,.slice Ar nr cr]]))
theorem Qu(bL:Nat)(Ar:ai)(nr cr:Nat)(ju:List aO)(rel:ag)(w:aa)(hR:bl w Ar nr ju rel)(hg:1<=bL/\bL<=5)(hW:tI bL 1 rel):
 aE prog 220 [.agg #[aj bL,.slice Ar nr cr],.slice none 0 0] w (fun v w'=>∃B cB iN,v= .tuple #[.agg #[aj bL,.slice B nr cB],aj 0]/\iN.length=nr/\St w w' (aK 24 2 B nr cB iN rel)):=by
 have bO:=hR.len;have pB:=hW.1;refine bm func220 O ntmps220 O (uQ O O) (aY O (wO (St.refl w) O O ?_));intro A2 w1 aB;refine yN aB O fun A4 w2 aw=>ao O (ac3 1 (aw.rd 1 O) O (ao O (aH (XP bL Ar nr cr ju rel _ (aw.bE hR) hg hW) O ?_)));rintro _ w3 ⟨rfl,aA⟩;have aI:=aw.aq aA.below;refine az O (jw O (fun h=>h O) (cH O (qX (by kernel_rfl) (by kernel_rfl) (fun S e1 w1=>Qv w A2 A4 bL Ar nr cr rel S e1 w1) (fun w4 hb=> ⟨O,O,O,fun h=> (nomatch h),fun h=> (nomatch h),fun h=> (nomatch h),fun h=> (nomatch h),none,0,[],[],[],none,fun _=>O,fun h=> (nomatch h),fun h=> (nomatch h),fun _=>O,fun h=> (nomatch h),aI.aq hb⟩) ?_ ?_)))
 ·intro S k o e1 w4 hk bh hd cz hI;obtain⟨f1,f2,f4,p0,p1,p2,p3,B,cB,iN,M,bs,Ad,m0,m1,m2,m3,m4,hT⟩:=hI;have oH:bl w4 Ar nr ju rel:=hT.bE hR;have iz:Rd w4 A2 2 (fun j=> [Value.int .i64 (bL:Int),.slice Ar nr cr].getD j undef):=(((hT.sub (dD _ _)).sub (dD _ _))).rd 1 O
  match k,hk,bh with
  | 0,hk,bh=>
   obtain rfl:=bC hk;refine acY iz (by exact f2) O O O inferInstance (ak.n ?_);exact⟨f1,f2,f4,fun _=>O,p1,p2,p3,B,cB,iN,M,bs,Ad,m0,m1,m2,m3,m4,hT⟩
  | 1,hk,bh=>
   obtain rfl:=bC hk;refine iw iz (by exact p0 (bJ hd 0 O)) O O O O (ak.n ?_);exact⟨f1,f2,f4,p0,fun _=>O,p2,p3,B,cB,iN,M,bs,Ad,m0,m1,m2,m3,m4,hT⟩
  | 2,hk,bh=>
   obtain rfl:=bC hk;refine acY iz (by exact f2) O O O inferInstance (ak.n ?_);exact⟨f1,f2,f4,p0,p1,fun _=>O,p3,B,cB,iN,M,bs,Ad,m0,m1,m2,m3,m4,hT⟩
  | 3,hk,bh=>
   obtain rfl:=bC hk;refine acZ iz (by exact p2 (bJ hd 2 O)) O O O O (ak.n ?_);exact⟨f1,f2,f4,p0,p1,p2,fun _=>O,B,cB,iN,M,bs,Ad,m0,m1,m2,m3,m4,hT⟩
  | 4,hk,bh=>
   obtain rfl:=bC hk;have hM:=m0 bh;subst hM;have n5:S 5=false:=by
    cases h:S 5 with
    | false=>rfl
    | true=>rw [<-bh];exact(bJ (cz 5 _ h rfl) 4 rfl).symm
   have n7:S 7=false:=by
    cases h:S 7 with
    | false=>rfl
    | true=>rw [<-n5];exact(bJ (cz 7 _ h rfl) 5 rfl).symm
   refine acW (Hx Ar nr cr ju rel _ oH (by omega) (fun j hj=>by
    have bH:=hR.at_ (i:=(j:Int)) (by omega) (by omega);have h1:=(hW.2 (gl rel j) (by rw [cM (by omega)];exact dd _)).2.1;have h2:=bH.1;have e:rg ju j=ju.getD j cJ:=by simp [rg]
    rw [<-e];omega)) rfl (by exact bw (fun v=> [v]) (p3 (bJ hd 3 rfl))) rfl ?_
   rintro _ w5 ⟨B',c',rs',rfl,mQ,kP⟩;refine ak.n ?_;refine⟨f1,f2,f4,p0,p1,p2,p3,B',c',rs',_,bs,Ad,fun h=> (nomatch (show true=false from h)),fun _=> ⟨O,mQ,O⟩,fun h=> (nomatch n5.symm.trans h),m3,fun h=>?_,?_⟩
   ·obtain⟨h7,h8⟩:=m4 h;refine⟨h7,.inl ⟨n7,?_⟩⟩;rcases h8 with h8 | h8
    ·exact h8.2
    ·exact(nomatch n7.symm.trans h8.1)
   ·have h9:=hT.call kP;have h9:St w w5 (aK 24 2 B' nr c' rs' rel++ (bs++ [Bx 199 2 A4 [aj 0,.slice none 0 0],Bx 199 2 A2 [aj bL,.slice Ar nr cr]])):=h9;exact h9.l9
  | 5,hk,bh=>
   obtain rfl:=bC hk;obtain⟨tW,Mz,hM⟩:=m1 (bJ hd 4 rfl);refine P3 (by exact inferInstance) (by exact inferInstance) O O (by exact p1 (bJ hd 1 O)) (by exact tW) O O O (ak.n ?_);exact⟨f1,f2,f4,p0,p1,p2,p3,B,cB,iN,M,bs,Ad,m0,m1,fun _=>O,m3,m4,hT⟩
  | 6,hk,bh=>
   obtain rfl:=bC hk;have Uw:=m3 bh;subst Uw;have n7:S 7=false:=by
    cases h:S 7 with
    | false=>rfl
    | true=>rw [<-bh];exact(bJ (cz 7 _ h rfl) 6 rfl).symm
   refine yN hT O fun Ae w5 dC=>ak.n ?_;exact⟨f1,f2,f4,p0,p1,p2,p3,B,cB,iN,M,[Bx 199 2 Ae [aj 0,.slice none 0 0]],Ae,m0,m1,m2,fun h=> (nomatch (show true=false from h)),fun _=> ⟨O,.inl ⟨n7,O⟩⟩,dC⟩
  | 7,hk,bh=>
   obtain rfl:=bC hk;have MI:=bJ hd 6 O;obtain⟨h7,h8⟩:=m4 MI;rcases h8 with⟨_,rfl⟩ | h8
   ·refine bR 2 0 hT O (by exact h7) (by exact m2 (bJ hd 5 O)) O O O O ?_;intro w5 dC;exact ak.n ⟨f1,f2,f4,p0,p1,p2,p3,B,cB,iN,M,[Bx 199 2 Ad [aj bL,.slice B nr cB]],Ad,m0,m1,m2,fun h=> (nomatch MI.symm.trans h),fun _=> ⟨h7,.inr ⟨O,O⟩⟩,dC⟩
   ·exact(nomatch bh.symm.trans h8.1)
  | q+8,hk,_=>exact(nomatch hk)
 ·intro S e1 w4 ct hI;obtain⟨f1,f2,f4,p0,p1,p2,p3,B,cB,iN,M,bs,Ad,m0,m1,m2,m3,m4,hT⟩:=hI;obtain⟨h7,h8⟩:=m4 (ct 6 (by decide));rcases h8 with h8 | ⟨_,rfl⟩
  ·exact(nomatch (ct 7 (by decide)).symm.trans h8.1)
  obtain⟨_,Mz,hM⟩:=m1 (ct 4 (by decide));subst hM;refine yT (F:=[(1,.slice none 0 0),(2,.pointer A2),(4,.pointer A4),(7,.pointer Ad)]) ⟨f1,f2,f4,h7,au⟩ ?_;have hT:=(hT:St w w4 ([Bx 199 2 Ad [aj bL,.slice B nr cB]]++ (aK 24 2 B nr cB iN rel++ [Bx 199 2 A4 [aj 0,.slice none 0 0],Bx 199 2 A2 [aj bL,.slice Ar nr cr]])));have CL:St w w4 ([Bx 199 2 Ad [aj bL,.slice B nr cB],Bx 199 2 A4 [aj 0,.slice none 0 0],Bx 199 2 A2 [aj bL,.slice Ar nr cr]]++aK 24 2 B nr cB iN rel):=hT.perm (List.Perm.cons _ (fb (l₂:=[_,_])));refine fw O (Cd.loop (α:=Unit) (fun _=> [(1,.slice none 0 0),(4,.pointer A4),(7,.pointer Ad),(8,aj 0)]) (fun _ w'=>w'=w4) (fun _=>0) () (ac4 O) O ?_);rintro⟨⟩ e w5 rfl;refine aY O (aZ O O (az O ?_));refine jw O (by decide) (bo O (bp (cn O ?_)));refine aS (CL.rd 0 O) O (a8 (CL.rd 0 O) O ?_);refine aZ O O (az O ?_);refine jw O (by omega) (aD O (ac3 1 (CL.rd 0 O) O (bR 2 1 CL O O O O O O O ?_)));intro w6 eu;refine bu O (mz O (eu.rd 1 O) O ?_);exact⟨B,cB,iN,O,Mz,((eu.sub ((dA _).cons _)).sub ((dA _).cons _)).sub ((dA _).cons _)⟩
end Go.Proofs.YtagdamiiececaaaGreatDoor.Vc
