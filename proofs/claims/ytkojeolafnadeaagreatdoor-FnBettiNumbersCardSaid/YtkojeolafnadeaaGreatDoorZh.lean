/-
 Lemmas. Conditions: as each states them.
-/
import Derived.Test.YtkojeolafnadeaaGreatDoorZg
set_option maxHeartbeats 8000000
namespace Go.Proofs.YtkojeolafnadeaaGreatDoor.Vc
open Tryz
section
open Go.RowKit
variable{ix q:Nat}{w w0 w':aa}{ks ms X m' Y:List Ck}{As A4 A5 A6 Ar Ae:ai}{k' x:Ck}{B':ag}{rD:List aX}
theorem sC{a b a' b':ab}(h:a=a')(h':b=b'):[a,b]=[a',b']:=by rw [h,h']
theorem xT{Q:jr}{e:Env}{F:List (Nat×ab)}(hM:Mt e F)(h:Q .normal (ext e F) w):Q .normal e w:=by rwa [yo hM]at h
theorem tu(X:List Ck)(ix:Nat){k:Ck}(n:Int)(hS:St w0 w (X++ks))(hk:ks[ix]?=some k)(hK:eQ w0 As k):
 aG prog 182 [.pointer As,aj n] w (fun v w'=>∃(r:Int) (k':Ck),v=aj r/\(0<=r/\(1<=n->r<n)/\(n<1->r=0))/\eQ w0 As k'/\St w0 w' (X++ks.set ix k')):=by
 have e:(X++ks)[X.length+ix]?=some k:=by
  rw [jW (by omega),Nat.add_sub_cancel_left];exact hk
 have h:=rl (X.length+ix) n hS e hK;refine h.mono ?_;rintro v w' ⟨r,k',h1,h2,h3,h4⟩;rw [show(X++ks).set (X.length+ix) k'=X++ks.set ix k' from by rw [List.set_append,aR (by omega),Nat.add_sub_cancel_left]]at h4;exact⟨r,k',h1,h2,h3,h4⟩
def Hj(most:Nat)(w0:aa)(ks:List Ck)(ix:Nat)(As:ai)(v:ab)(w':aa):Prop:=
 ∃(n N:Nat) (A:ai) (c:Nat) (rs:List aX) (xss:ag) (k':Ck),v= .agg #[.slice A n c]/\(1<=n/\n<=5)/\(1<=N/\N<=most)/\rs.length=n/\xss.length=n/\GM N xss/\eQ w0 As k'/\St w0 w' (aU 24 2 A n c rs xss++ks.set ix k')
structure Mi where
 n:Nat
 N:Nat
 A:ai
 c:Nat
 rs:List aX
 xss:ag
 k:Ck
abbrev tO(A4 A5 A6 Ar Ae:ai)(vs:List ab)(X:List Ck):List Ck:=
 Bx 31 1 A6 vs::Bx 31 1 A5 [.slice Ar 1 1]::Bx 31 1 A4 [.slice none 0 0]::(aU 24 2 Ar 1 1 [⟨Ae,2,2⟩] [[1,0]]++X)
abbrev anyM(A4 A5 A6 Ar Ae:ai)(vs:List ab)(ms X:List Ck):List Ck:=
 Bx 31 1 A6 vs::Bx 31 1 A5 [.slice Ar 1 1]::Bx 31 1 A4 [.slice none 0 0]::(ms++ (aU 24 2 Ar 1 1 [⟨Ae,2,2⟩] [[1,0]]++X))
theorem any_join{vs:List ab}(hS:St w0 w (tO A4 A5 A6 Ar Ae vs X))(hT:St w w' ms):St w0 w' (anyM A4 A5 A6 Ar Ae vs ms X):=(hS.call hT).perm ((eK (l₁:=ms)).trans (List.Perm.cons _ ((eK (l₁:=ms)).trans (List.Perm.cons _ (eK (l₁:=ms))))))
theorem VY{vs:List ab}(hS:St w0 w' (ms++tO A4 A5 A6 Ar Ae vs X)):St w0 w' (anyM A4 A5 A6 Ar Ae vs ms X):=
 hS.perm ((eK (l₁:=ms)).trans (List.Perm.cons _ ((eK (l₁:=ms)).trans (List.Perm.cons _ (eK (l₁:=ms))))))
theorem zN{vs:List ab}(hS:St w0 w' (anyM A4 A5 A6 Ar Ae vs ms X)):St w0 w' (tO A4 A5 A6 Ar Ae vs X):=
 hS.sub (List.Sublist.cons_cons _ (List.Sublist.cons_cons _ (List.Sublist.cons_cons _ (dz _ _))))
theorem LV{vs:List ab}(ix:Nat){k:Ck}(n:Int)(hS:St w0 w (anyM A4 A5 A6 Ar Ae vs ms ks))(hk:ks[ix]?=some k)(hK:eQ w0 As k):
 aG prog 182 [.pointer As,aj n] w (fun v w'=>∃(r:Int) (k':Ck),v=aj r/\(0<=r/\(1<=n->r<n)/\(n<1->r=0))/\eQ w0 As k'/\St w0 w' (anyM A4 A5 A6 Ar Ae vs ms (ks.set ix k'))):=by
 have e:∀X,anyM A4 A5 A6 Ar Ae vs ms X=anyM A4 A5 A6 Ar Ae vs ms []++X:=fun X=>by simp [anyM]
 rw [e]at hS;refine(tu _ ix n hS hk hK).mono ?_;rintro v w' ⟨r,k',h1,h2,h3,h4⟩;rw [<-e]at h4;exact⟨r,k',h1,h2,h3,h4⟩
theorem EI:GM 2 [[1,0]]:=fun p hp=>by
 rw [dK]at hp;subst hp;exact⟨O,fun x hx=>by
  rcases ij.1 hx with rfl | hx
  ·decide
  rw [dK]at hx;subst hx;decide⟩
structure Ue(w0:aa)(ks:List Ck)(ix:Nat)(As A4 A5 A6 Ar Ae:ai)(most p:Nat)(D:Int)(S:Nat->Bool)(e:Env)(w:aa):Prop where
 f0:e 0= .pointer As
 f1:e 1=aj most
 f4:e 4= .pointer A4
 f5:e 5= .pointer A5
 f6:e 6= .pointer A6
 f7:e 7=aj p
 p0:S 0=true->e 52=aj p
 p2:S 2=true->e 54= .pointer As
 p3:S 3=true->e 55=aj most
 p4:S 4=true->e 56=aj p
 p5:S 5=true->e 57=aj (4* (p:Int))
 p6:S 6=true->e 58=aj D
 p7:S 7=true->∃r:Int,e 59=aj r/\0<=r/\r<=250/\(1+r)* (4* (p:Int))<=most
 p8:S 8=true->∃q:Nat,e 60=aj q/\1<=q/\q<=251/\2*p* (2*q)<=most
 mem:∃(b1 b2 b3:List Ck) (kk:Ck) (vs:List ab),eQ w0 As kk/\(S 1=true->∃A c rs xss,e 53= .agg #[.slice A 2 c]/\rs.length=2/\xss.length=2/\GM (2*p) xss/\b1=aU 24 2 A 2 c rs xss)/\(S 9=true->∃A c rs xss q,e 61= .agg #[.slice A 2 c]/\(1<=q/\q<=251/\2*p* (2*q)<=most)/\rs.length=2/\xss.length=2/\GM (2*q) xss/\b2=aU 24 2 A 2 c rs xss)/\(S 11=false->vs=[.slice Ar 1 1])/\(S 10=true->∃A c rs xss N,e 62= .agg #[.slice A 4 c]/\(1<=N/\N<=most)/\rs.length=4/\xss.length=4/\GM N xss/\b3=aU 24 2 A 4 c rs xss/\(S 11=true->vs=[.slice A 4 c]))/\
  St w0 w (anyM A4 A5 A6 Ar Ae vs (b3++ (b2++b1)) (ks.set ix kk))
theorem HK{vs:List ab}{n m:List Ck}(hS:St w0 w' (n++anyM A4 A5 A6 Ar Ae vs m X))(hm:(n++m).Perm m'):St w0 w' (anyM A4 A5 A6 Ar Ae vs m' X):=
 hS.perm ((eK (l₁:=n)).trans (List.Perm.cons _ ((eK (l₁:=n)).trans (List.Perm.cons _ ((eK (l₁:=n)).trans (List.Perm.cons _ (by rw [<-fK];exact hm.append_right _)))))))
theorem zO{vs:List ab}{m:List Ck}(hS:St w0 w' (anyM A4 A5 A6 Ar Ae vs m X))(hm:m'.Sublist m):St w0 w' (anyM A4 A5 A6 Ar Ae vs m' X):=
 hS.sub (List.Sublist.cons_cons _ (List.Sublist.cons_cons _ (List.Sublist.cons_cons _ (hm.append (dY _)))))
theorem ady(ix:Nat){k:Ck}(most:Nat)(hS:St w0 w ks)(hk:ks[ix]?=some k)(hK:eQ w0 As k)(hm:8<=most/\most<=1000):
 aG prog 260 [.pointer As,aj most] w (Hj most w0 ks ix As):=by
 refine bw func260 O ntmps260 O (kX O O) (bb O (jN hS O ?_));intro A4 w1 aC;refine aq O (lj [1,0] aC O O (by decide) (by decide) O O fun Ae w2 aE=>lU aE O O O fun Ar w3 aH=>EN (by exact inferInstance) O O O O (jN aH O ?_));intro A5 w4 aQ;refine bS 1 0 aQ O O O O O O O fun w5 a8=>aq O (bI 0 (a8.rd 0 O) O O O (jN a8 O ?_));intro A6 w6 bg;refine bS 1 0 bg O O O O O O O ?_;intro w7 bl;have bl:St w0 w7 (tO A4 A5 A6 Ar Ae [.slice Ar 1 1] ks):=bl.perm (List.Perm.cons _ (List.Perm.cons _ ((iK (l₁:=[_,_]) (l₂:=[_])).append_right ks)));refine zC 0 O (nq (α:=Mi) (fun s=> [(0,.pointer As),(1,aj most),(4,.pointer A4),(5,.pointer A5),(6,.pointer A6)]) (fun s w'=> (1<=s.n/\s.n<=5)/\(1<=s.N/\s.N<=most)/\s.rs.length=s.n/\s.xss.length=s.n/\GM s.N s.xss/\eQ w0 As s.k/\St w0 w' (anyM A4 A5 A6 Ar Ae [.slice s.A s.n s.c] (aU 24 2 s.A s.n s.c s.rs s.xss) (ks.set ix s.k))) ?_ ?_)
 ·refine bb O (aF (rl (ix+5) 7 bl (by exact hk) hK) O ?_);rintro _ w8 ⟨r,k1,rfl,hr,iO,bK⟩;have bK:St w0 w8 (tO A4 A5 A6 Ar Ae [.slice Ar 1 1] (ks.set ix k1)):=bK;have fA:=jl (k':=k1) hk;refine az O (aM _ O (fun h1=>?_) (fun h1=>?_))
  ·refine aD O (ak.quo O O O (by omega) (aF (rl (ix+5) _ bK (by exact fA) iO) O ?_));rintro _ w9 ⟨q,k2,rfl,hq,eP,bh⟩;have bh:St w0 w9 (tO A4 A5 A6 Ar Ae [.slice Ar 1 1] ((ks.set ix k1).set ix k2)):=bh;rw [gW]at bh;have lO:=jl (k':=k2) hk;refine aK O ?_;obtain⟨p,hp⟩:∃p:Nat,1+q=p:=⟨(1+q).toNat,by omega⟩;rw [hp];refine aF (GA p _ (by omega)) O ?_;rintro _ dA ⟨A,c,rs,xss,rfl,bT,di,hG,hT⟩;have cj:=any_join bh hT;refine bS 1 0 cj O O O O O O O fun eA eI=>aS O (tQ ?_);exact⟨⟨2,2*p,A,c,rs,xss,k2⟩,(ajz O),(by show 1<=2/\2<=5;decide),⟨by show 1<=2*p;omega,by show 2*p<=most;omega⟩,bT,di,hG,eP,eI⟩
  ·refine cW O (aM _ O (fun h2=>?_) (fun h2=>?_))
   ·refine aD O (bI 0 (bK.rd 1 O) O O O (bS 1 2 bK O O O O O O O ?_));intro w9 bh;refine bD O (dO (dJ ?_));refine fI O (bh.rd 2 O) ?_;exact⟨1,2,Ar,1,[⟨Ae,2,2⟩],[[1,0]],k1,O,by decide,⟨by decide,by omega⟩,O,O,EI,iO,bh.tail.tail.tail⟩
   ·refine cW O (aM _ O (fun h3=>?_) (fun h3=>?_))
    ·refine aD O (ak.quo O O O (by omega) (aF (rl (ix+5) _ bK (by exact fA) iO) O ?_));rintro _ w9 ⟨q,k2,rfl,hq,eP,bh⟩;have bh:St w0 w9 (tO A4 A5 A6 Ar Ae [.slice Ar 1 1] ((ks.set ix k1).set ix k2)):=bh;rw [gW]at bh;refine aK O ?_;obtain⟨p,hp⟩:∃p:Nat,1+q=p:=⟨(1+q).toNat,by omega⟩;rw [hp];refine aF (GA p _ (by omega)) O ?_;rintro _ dA ⟨A,c,rs,xss,rfl,bT,di,hG,hT⟩;have cj:=any_join bh hT;refine bS 1 0 cj O O O O O O O ?_;intro eA eI;have eI:St w0 eA (anyM A4 A5 A6 Ar Ae [.slice A 2 c] (aU 24 2 A 2 c rs xss) (ks.set ix k2)):=eI;refine aq O (bI 0 (eI.rd 0 O) O O O (bI 0 (eI.rd 1 O) O O O ?_));refine aF (Gx A 2 c rs xss (2*p) Ar 1 1 [⟨Ae,2,2⟩] [[1,0]] 2 eA (St.eU eI.tail.tail.tail (by omega)) (St.eU (zN eI).tail.tail.tail O) (by decide) (by decide) hG EI (by omega) (by omega) (by omega)) O ?_;rintro _ fY ⟨A',c',rs',xss',rfl,nL,tb,rL,jh⟩;have eo:=any_join (zN eI) jh;refine bS 1 0 eo O O O O O O O fun iw fR=>aS O (tQ ?_);exact⟨⟨3,2*p*2,A',c',rs',xss',k2⟩,(ajz O),(by show 1<=3/\3<=5;decide),⟨by show 1<=2*p*2;omega,by show 2*p*2<=most;omega⟩,nL,tb,rL,eP,fR⟩
    ·refine cW O (aM _ O (fun h4=>?_) (fun h4=>?_))
     ·refine aD O (aF (rl (ix+5) 4 bK (by exact fA) iO) O ?_);rintro _ w9 ⟨q,k2,rfl,hq,eP,bh⟩;have bh:St w0 w9 (tO A4 A5 A6 Ar Ae [.slice Ar 1 1] ((ks.set ix k1).set ix k2)):=bh;rw [gW]at bh;refine aK O (zC 0 O ?_);refine nq (α:=Nat) (fun p=> [(0,.pointer As),(1,aj most),(4,.pointer A4),(5,.pointer A5),(6,.pointer A6),(7,aj p)]) (fun p w'=>w'=w9/\(1<=p/\p<=4)/\4*p<=most) ?_ ?_
      ·refine bb O (iL O O O (by omega) (az O ?_));refine aM _ O (fun h5=>?_) (fun h5=>?_)
       ·refine mN O (tQ ?_);exact⟨2,(ajz O),O,by decide,by omega⟩
       ·refine mN O (tQ ?_);exact⟨(1+q).toNat,⟨O,O,O,O,O,aL (Value.int .i64) (by omega),aw⟩,O,by omega,by omega⟩
      rintro p e dA ⟨rfl,hp,hp4⟩;obtain⟨D,hD⟩:∃D:Int,(most:Int) / (4* (p:Int))=D:=⟨_,rfl⟩;have hDb:0<=D/\D<=250:=by
       rcases(by omega:p=1\/p=2\/p=3\/p=4)with rfl | rfl | rfl | rfl<;>omega
      have Y3:∀r:Int,0<=r->(1<=D->r<D)->(D<1->r=0)->(1+r)* (4* (p:Int))<=most:=fun r r0 r1 r2=>by
       rcases(by omega:p=1\/p=2\/p=3\/p=4)with rfl | rfl | rfl | rfl<;>omega
      have qU:∀r:Int,0<=r->(1+r)* (4* (p:Int))<=most->2*p* (2* (1+r).toNat)<=most:=fun r r0 h=>by
       rcases(by omega:p=1\/p=2\/p=3\/p=4)with rfl | rfl | rfl | rfl<;>omega
      refine oO (by kernel_rfl) (by kernel_rfl) (fun S e1 w1=>Ue w0 ks ix As A4 A5 A6 Ar Ae most p D S e1 w1) (fun w4 hb=> ⟨O,O,O,O,O,O,fun h=> (nomatch h),fun h=> (nomatch h),fun h=> (nomatch h),fun h=> (nomatch h),fun h=> (nomatch h),fun h=> (nomatch h),fun h=> (nomatch h),fun h=> (nomatch h),[],[],[],k2,[.slice Ar 1 1],eP,fun h=> (nomatch h),fun h=> (nomatch h),fun _=>O,fun h=> (nomatch h),bh.ao hb⟩) ?_ ?_
      ·intro S i o e1 w4 hq aO hd bE hI;obtain⟨f0,f1,f4,f5,f6,f7,p0,p2,p3,p4,p5,p6,p7,p8,B1,B2,B3,kk,vs,cL,m1,m9,m11,m10,hT⟩:=hI
       match i,hq,aO with
       | 0,hq,aO=>
        obtain rfl:=bj hq;refine jq O (by exact f7) O (ak.n ?_);exact⟨f0,f1,f4,f5,f6,f7,fun _=>O,p2,p3,p4,p5,p6,p7,p8,B1,B2,B3,kk,vs,cL,m1,m9,m11,m10,hT⟩
       | 1,hq,aO=>
        obtain rfl:=bj hq;refine ajq (GA p w4 (by omega)) O (by exact aL (fun v=> [v]) (p0 (aZ hd 0 O))) O ?_;rintro _ w5 ⟨A,c,rs,xss,rfl,bT,di,hG,jh⟩;have dW:=HK (m':=B3++ (B2++aU 24 2 A 2 c rs xss)) ((zO hT (m':=B3++ (B2++ [])) ((dY _).append ((dY _).append (List.nil_sublist _)))).call jh) (by rw [iz,<-fK B3 B2];exact iK);exact ak.n ⟨f0,f1,f4,f5,f6,f7,p0,p2,p3,p4,p5,p6,p7,p8,aU 24 2 A 2 c rs xss,B2,B3,kk,vs,cL,fun _=> ⟨A,c,rs,xss,O,bT,di,hG,O⟩,m9,m11,m10,dW⟩
       | 2,hq,aO=>
        obtain rfl:=bj hq;refine uW O (by exact f0) O (ak.n ?_);exact⟨f0,f1,f4,f5,f6,f7,p0,fun _=>O,p3,p4,p5,p6,p7,p8,B1,B2,B3,kk,vs,cL,m1,m9,m11,m10,hT⟩
       | 3,hq,aO=>
        obtain rfl:=bj hq;refine jq O (by exact f1) O (ak.n ?_);exact⟨f0,f1,f4,f5,f6,f7,p0,p2,fun _=>O,p4,p5,p6,p7,p8,B1,B2,B3,kk,vs,cL,m1,m9,m11,m10,hT⟩
       | 4,hq,aO=>
        obtain rfl:=bj hq;refine jq O (by exact f7) O (ak.n ?_);exact⟨f0,f1,f4,f5,f6,f7,p0,p2,p3,fun _=>O,p5,p6,p7,p8,B1,B2,B3,kk,vs,cL,m1,m9,m11,m10,hT⟩
       | 5,hq,aO=>
        obtain rfl:=bj hq;refine iL O (by exact p4 (aZ hd 4 O)) O (by omega) (ak.n ?_);exact⟨f0,f1,f4,f5,f6,f7,p0,p2,p3,p4,fun _=>O,p6,p7,p8,B1,B2,B3,kk,vs,cL,m1,m9,m11,m10,hT⟩
       | 6,hq,aO=>
        obtain rfl:=bj hq;refine ak.quo (by exact p3 (aZ hd 3 O)) (by exact p5 (aZ hd 5 O)) O (by omega) (ak.n ?_);exact⟨f0,f1,f4,f5,f6,f7,p0,p2,p3,p4,p5,fun _=>aL (Value.int .i64) hD,p7,p8,B1,B2,B3,kk,vs,cL,m1,m9,m11,m10,hT⟩
       | 7,hq,aO=>
        obtain rfl:=bj hq;have jE:=jl (k':=kk) hk;refine ajq (LV ix D hT jE cL) O (by exact sC (p2 (aZ hd 2 O)) (p6 (aZ hd 6 O))) O ?_;rintro _ w5 ⟨r7,k7,rfl,ux,vo,fg⟩;rw [gW]at fg;refine ak.n ?_;exact⟨f0,f1,f4,f5,f6,f7,p0,p2,p3,p4,p5,p6,fun _=> ⟨r7,O,ux.1,by omega,Y3 r7 ux.1 ux.2.1 ux.2.2⟩,p8,B1,B2,B3,k7,vs,vo,m1,m9,m11,m10,fg⟩
       | 8,hq,aO=>
        obtain rfl:=bj hq;obtain⟨r7,h7,ux⟩:=p7 (aZ hd 7 rfl);refine ajr O (by exact h7) O (by omega) (ak.n ?_);exact⟨f0,f1,f4,f5,f6,f7,p0,p2,p3,p4,p5,p6,p7,fun _=> ⟨(1+r7).toNat,aL (Value.int .i64) (by omega),by omega,by omega,qU r7 ux.1 ux.2.2⟩,B1,B2,B3,kk,vs,cL,m1,m9,m11,m10,hT⟩
       | 9,hq,aO=>
        obtain rfl:=bj hq;obtain⟨q8,h8,Kl⟩:=p8 (aZ hd 8 rfl);refine ajq (GA q8 w4 (by omega)) O (by exact aL (fun v=> [v]) h8) O ?_;rintro _ w5 ⟨A,c,rs,xss,rfl,bT,di,hG,jh⟩;have dW:=HK (m':=B3++ (aU 24 2 A 2 c rs xss++B1)) ((zO hT (m':=B3++ ([]++B1)) ((dY _).append ((List.nil_sublist _).append (dY _)))).call jh) (by rw [List.nil_append,<-fK,<-fK];exact iK.append_right _);exact ak.n ⟨f0,f1,f4,f5,f6,f7,p0,p2,p3,p4,p5,p6,p7,p8,B1,aU 24 2 A 2 c rs xss,B3,kk,vs,cL,m1,fun _=> ⟨A,c,rs,xss,q8,O,Kl,bT,di,hG,O⟩,m11,m10,dW⟩
       | 10,hq,aO=>
        obtain rfl:=bj hq;obtain⟨A1,c1,dX,jA,OV,abP,acm,Pf,rfl⟩:=m1 (aZ hd 1 rfl);obtain⟨A2,c2,pe,Ch,q8,OW,Kl,Q8,acn,Pg,rfl⟩:=m9 (aZ hd 9 rfl);have n11:S 11=false:=by
         cases h:S 11 with
         | false=>rfl
         | true=>rw [<-aO];exact(aZ (bE 11 _ h rfl) 10 rfl).symm
        have FP:bL w4 A1 2 dX jA:=St.eU ((zO hT (m':=[]++ ([]++aU 24 2 A1 2 c1 dX jA)) ((List.nil_sublist _).append ((List.nil_sublist _).append (dY _)))).tail.tail.tail) (by omega);have ZT:bL w4 A2 2 pe Ch:=St.eU ((zO hT (m':=aU 24 2 A2 2 c2 pe Ch) ((lQ _ _).trans (dz _ _))).tail.tail.tail) (by omega);have hN:2*p* (2*q8)<=8*502:=Nat.mul_le_mul (by omega) (by omega);have Zr:1<=2*p* (2*q8):=Nat.mul_pos (by omega) (by omega);refine ajq (Gx A1 2 c1 dX jA (2*p) A2 2 c2 pe Ch (2*q8) w4 FP ZT (by decide) (by decide) Pf Pg (by omega) (by omega) (by omega)) O (by exact sC OV OW) O ?_;rintro _ w5 ⟨A,c,rs,xss,rfl,bT,di,hG,jh⟩;have dW:=HK (m':=aU 24 2 A (2+2) c rs xss++ (aU 24 2 A2 2 c2 pe Ch++aU 24 2 A1 2 c1 dX jA)) ((zO hT (dz _ _)).call jh) (List.Perm.refl _);refine ak.n ?_;exact⟨f0,f1,f4,f5,f6,f7,p0,p2,p3,p4,p5,p6,p7,p8,aU 24 2 A1 2 c1 dX jA,aU 24 2 A2 2 c2 pe Ch,aU 24 2 A (2+2) c rs xss,kk,vs,cL,fun _=> ⟨A1,c1,dX,jA,OV,abP,acm,Pf,O⟩,fun _=> ⟨A2,c2,pe,Ch,q8,OW,Kl,Q8,acn,Pg,O⟩,m11,fun _=> ⟨A,c,rs,xss,2*p* (2*q8),O,⟨Zr,by omega⟩,bT,di,hG,O,fun h=> (nomatch n11.symm.trans h)⟩,dW⟩
       | 11,hq,aO=>
        obtain rfl:=bj hq;obtain⟨A,c,rs,xss,N,I7,hN,bT,di,hG,rfl,_⟩:=m10 (aZ hd 10 rfl);obtain rfl:=m11 aO;refine bS 1 0 hT O (by exact f6) (by exact I7) O O O O ?_;intro w5 dW;refine ak.n ?_;exact⟨f0,f1,f4,f5,f6,f7,p0,p2,p3,p4,p5,p6,p7,p8,B1,B2,_,kk,[.slice A 4 c],cL,m1,m9,fun h=> (nomatch (show true=false from h)),fun _=> ⟨A,c,rs,xss,N,I7,hN,bT,di,hG,O,fun _=>O⟩,dW⟩
       | i+12,hq,_=>exact(nomatch hq)
      ·intro S e1 w4 cO hI;obtain⟨f0,f1,f4,f5,f6,f7,p0,p2,p3,p4,p5,p6,p7,p8,B1,B2,B3,kk,vs,cL,m1,m9,m11,m10,hT⟩:=hI;obtain⟨A,c,rs,xss,N,I7,hN,bT,di,hG,rfl,zd⟩:=m10 (cO 10 (by decide));obtain rfl:=zd (cO 11 (by decide));refine xT (F:=[(0,.pointer As),(1,aj most),(4,.pointer A4),(5,.pointer A5),(6,.pointer A6)]) ⟨f0,f1,f4,f5,f6,aw⟩ (Hr O (tQ ?_));exact⟨⟨4,N,A,c,rs,xss,kk⟩,(ajz O),(by show 1<=4/\4<=5;decide),hN,bT,di,hG,cL,zO hT (lQ _ _)⟩
     ·refine aD O (ak.quo O O O (by omega) (aF (rl (ix+5) _ bK (by exact fA) iO) O ?_));rintro _ w9 ⟨q,k2,rfl,hq,eP,bh⟩;have bh:St w0 w9 (tO A4 A5 A6 Ar Ae [.slice Ar 1 1] ((ks.set ix k1).set ix k2)):=bh;rw [gW]at bh;have lO:=jl (k':=k2) hk;refine aK O ?_;obtain⟨p,hp⟩:∃p:Nat,1+q=p:=⟨(1+q).toNat,by omega⟩;rw [hp];refine aF (adB (ix+5) p bh (by exact lO) eP (by omega)) O ?_;rintro _ dA ⟨A,c,rs,xss,N,k3,rfl,bT,di,hG,hN,jQ,hT⟩;have hT:St w0 dA (aU 24 2 A 3 c rs xss++tO A4 A5 A6 Ar Ae [.slice Ar 1 1] ((ks.set ix k2).set ix k3)):=hT;rw [gW]at hT;have cj:=VY hT;refine bS 1 0 cj O O O O O O O fun eA eI=>aS O (tQ ?_);exact⟨⟨3,N,A,c,rs,xss,k3⟩,(ajz O),(by show 1<=3/\3<=5;decide),⟨hN.1,by show N<=most;omega⟩,bT,di,hG,jQ,eI⟩
 ·intro s e w9 hI;refine cW O (Cd.loop (α:=Mi) (fun s=> [(0,.pointer As),(1,aj most),(4,.pointer A4),(5,.pointer A5),(6,.pointer A6)]) (fun s w'=> (1<=s.n/\s.n<=5)/\(1<=s.N/\s.N<=most)/\s.rs.length=s.n/\s.xss.length=s.n/\GM s.N s.xss/\eQ w0 As s.k/\St w0 w' (anyM A4 A5 A6 Ar Ae [.slice s.A s.n s.c] (aU 24 2 s.A s.n s.c s.rs s.xss) (ks.set ix s.k))) (fun s=>5 - s.n) s (ajz O) hI ?_);clear hI s;rintro⟨n,N,A,c,rs,xss,k2⟩ e dA ⟨hn,hN,bT,di,hG,eP,cj⟩;dsimp only at hn hN bT di hG eP cj|-;have lO:=jl (k':=k2) hk;refine bb O (aI (cj.rd 0 O) O (aV (cj.rd 0 O) O ?_));refine ba O O (aq O ?_);have Jg:∀(k5:Ck) (eA:aa),eQ w0 As k5->St w0 eA (aU 24 2 A n c rs xss++ (aU 24 2 Ar 1 1 [⟨Ae,2,2⟩] [[1,0]]++ks.set ix k5))->Hj most w0 ks ix As (.agg #[.slice A n c]) eA:=fun k5 eA Zd h=> ⟨n,N,A,c,rs,xss,k5,O,hn,hN,bT,di,hG,Zd,h.sub ((dY _).append (dz _ _))⟩
  refine cz 67 O (fun h1=>?_) (fun h1=>?_)
  ·refine au O (bI 0 (cj.rd 0 O) O O O (au O (aF (xH A n c rs xss dA (St.eU cj.tail.tail.tail (by omega)) (by omega)) O ?_)));rintro _ eA ⟨rfl,hT⟩;have eI:=cj.ao hT.below;rw [hG.first (by omega)];refine au O (iL O O O (by omega) (au O (aq O (au O (aq O ?_)))));refine cz 74 O (fun h2=>?_) (fun h2=>?_)
   ·refine au O (aq O (au O ?_));refine aF (LV ix 3 eI lO eP) O ?_;rintro _ fY ⟨r,k3,rfl,hr,jQ,eo⟩;rw [gW]at eo;have DG:=jl (k':=k3) hk;refine au O (az O ?_);refine aM _ O (fun h3=>?_) (fun h3=>?_)
    ·refine aD O (aF (LV ix 2 eo DG jQ) O ?_);rintro _ iw ⟨r',k4,rfl,oy,Pk,fR⟩;rw [gW]at fR;refine az O (aM _ O (fun h4=>?_) (fun h4=>?_))
     ·skip
      refine aD O (bI 0 (fR.rd 0 O) O O O (bI 0 (fR.rd 1 O) O O O ?_));refine aF (Gx A n c rs xss N Ar 1 1 [⟨Ae,2,2⟩] [[1,0]] 2 iw (St.eU fR.tail.tail.tail (by omega)) (St.eU (zN fR).tail.tail.tail O) (by omega) (by decide) hG EI (by omega) (by omega) (by omega)) O ?_;rintro _ rq ⟨A',c',rs',xss',rfl,nL,tb,rL,jh⟩;have l9:=any_join (zN fR) jh;refine bS 1 0 l9 O O O O O O O fun uR kD=>aS O (tQ ?_);exact⟨⟨n+1,N*2,A',c',rs',xss',k4⟩,by show 5 - (n+1)<5 - n;omega,(ajz O),⟨by show 1<=n+1;omega,by show n+1<=5;omega⟩,⟨by show 1<=N*2;omega,by show N*2<=most;omega⟩,nL,tb,rL,Pk,kD⟩
     ·skip
      refine aD O (bI 0 (fR.rd 1 O) O O O (bI 0 (fR.rd 0 O) O O O ?_));refine aF (Gx Ar 1 1 [⟨Ae,2,2⟩] [[1,0]] 2 A n c rs xss N iw (St.eU (zN fR).tail.tail.tail O) (St.eU fR.tail.tail.tail (by omega)) (by decide) (by omega) EI hG (by omega) (by omega) (by omega)) O ?_;rintro _ rq ⟨A',c',rs',xss',rfl,nL,tb,rL,jh⟩;have l9:=any_join (zN fR) jh;refine bS 1 0 l9 O O O O O O O fun uR kD=>aS O (tQ ?_);exact⟨⟨1+n,2*N,A',c',rs',xss',k4⟩,by show 5 - (1+n)<5 - n;omega,(ajz O),⟨by show 1<=1+n;omega,by show 1+n<=5;omega⟩,⟨by show 1<=2*N;omega,by show 2*N<=most;omega⟩,nL,tb,rL,Pk,kD⟩
    ·refine bo O (bn (cJ O ?_));refine bI 0 (eo.rd 0 O) O O O (bS 1 2 eo O O O O O O O ?_);intro iH jg;refine bD O (fI O (jg.rd 2 O) ?_);exact Jg k3 iH ‹_› jg.tail.tail.tail
   ·refine ay O (ay O (ay O (az O ?_)));refine Cd.dZ O (bo O (bn (cJ O ?_)));refine bI 0 (eI.rd 0 O) O O O (bS 1 2 eI O O O O O O O ?_);intro iH jg;refine bD O (fI O (jg.rd 2 O) ?_);exact Jg k2 iH ‹_› jg.tail.tail.tail
  ·refine ay O (ay O (ay O (ay O (ay O (aq O (ay O (ay O (ay O (az O ?_)))))))));refine Cd.dZ O (bo O (bn (cJ O ?_)));refine bI 0 (cj.rd 0 O) O O O (bS 1 2 cj O O O O O O O ?_);intro iH jg;refine bD O (fI O (jg.rd 2 O) ?_);exact Jg k2 iH ‹_› jg.tail.tail.tail
theorem Tn{N:Nat}{f g:Nat->Int}(hg:∀i,i<N->0<=g i/\g i< (N:Int)):∀ {m:Nat} {xs:ah},m<=N->Rg N xs->Rg N (xV xs f g m)
 | 0,_,_,h=>h
 | m+1,xs,hm,h=>by
  have h1:=Tn (f:=f) hg (m:=m) (by omega) h;have h2:=hg m (by omega);refine⟨by simp [xV,h1.1],fun x hx=>?_⟩;simp only [xV]at hx;rcases List.mem_or_eq_of_mem_set hx with hx | rfl
  ·exact h1.2 x hx
  ·exact h2
theorem GM.ren{N:Nat}{p:ah}{xss:ag}(h:GM N xss)(hp:Rg N p):GM N (xss.map (pd N p)):=fun q hq=>by
 obtain⟨mv,xp,rfl⟩:=eh.1 hq;have h1:=h mv xp;refine Tn (fun i hi=>?_) (dC _) ⟨by simp,fun x hx=>by obtain⟨h0,rfl⟩:=List.mem_replicate.1 hx;omega⟩;have h2:=h1.gi (i:=(i:Int)) (by omega) (by omega);exact hp.gi h2.1 h2.2
structure Uw(w0:aa)(ks:List Ck)(ix:Nat)(As A4 A5:ai)(n N:Nat)(A:ai)(c:Nat)(rs:List aX)(xss:ag)(S:Nat->Bool)(e:Env)(w:aa):Prop where
 f0:e 0= .pointer As
 f4:e 4= .pointer A4
 f5:e 5= .pointer A5
 p0:S 0=true->e 12= .agg #[.slice A n c]
 p1:S 1=true->e 13= .pointer As
 p2:S 2=true->e 14= .agg #[.slice A n c]
 p3:S 3=true->e 15=aj N
 mem:∃(b1 b2:List Ck) (kk:Ck) (vs:List ab),eQ w0 As kk/\(S 4=true->∃Ap cp ps,e 16= .slice Ap N cp/\Rg N ps/\b1=[ar 2 Ap N cp ps])/\(S 6=false->vs=[.slice none 0 0])/\(S 5=true->∃A' c' rs' xss',e 17= .agg #[.slice A' n c']/\rs'.length=n/\xss'.length=n/\GM N xss'/\b2=aU 24 2 A' n c' rs' xss'/\(S 6=true->vs=[.slice A' n c']))/\
  St w0 w (Bx 31 1 A5 [.slice A n c]::Bx 31 1 A4 vs::(aU 24 2 A n c rs xss++ (b2++ (b1++ks.set ix kk))))
theorem adr(X:List Ck)(ix:Nat){k:Ck}(n:Nat)(hS:St w0 w (X++ks))(hk:ks[ix]?=some k)(hK:eQ w0 As k)(hn:n<=1000000):
 aG prog 262 [.pointer As,aj n] w (fun v w'=>∃A c xs k',v= .slice A n c/\Rg n xs/\eQ w0 As k'/\St w0 w' (ar 2 A n c xs::(X++ks.set ix k'))):=by
 have e:(X++ks)[X.length+ix]?=some k:=by
  rw [jW (by omega),Nat.add_sub_cancel_left];exact hk
 refine(RP (X.length+ix) n hS e hK hn).mono ?_;rintro v w' ⟨A,c,xs,k',h1,h2,h3,h4⟩;rw [show(X++ks).set (X.length+ix) k'=X++ks.set ix k' from by rw [List.set_append,aR (by omega),Nat.add_sub_cancel_left]]at h4;exact⟨A,c,xs,k',h1,h2,h3,h4⟩
theorem Gy(ix:Nat){k:Ck}(most:Nat)(hS:St w0 w ks)(hk:ks[ix]?=some k)(hK:eQ w0 As k)(hm:8<=most/\most<=1000):
 aG prog 230 [.pointer As,aj most] w (Hj most w0 ks ix As):=by
 refine bw func230 O ntmps230 O (kX O O) (bb O (jN hS O ?_));intro A4 w1 aC;refine aq O (aF (ady (ix+1) most aC (by exact hk) hK hm) O ?_);rintro _ w2 ⟨n,N,A,c,rs,xss,k1,rfl,hn,hN,bT,di,hG,iO,aE⟩;refine jN aE O fun A5 w3 aH=>bS 1 0 aH O O O O O O O ?_;intro w4 aQ;have aQ:St w0 w4 (Bx 31 1 A5 [.slice A n c]::(aU 24 2 A n c rs xss++ (Bx 31 1 A4 [.slice none 0 0]::ks.set ix k1))):=aQ;have aQ:St w0 w4 (Bx 31 1 A5 [.slice A n c]::Bx 31 1 A4 [.slice none 0 0]::(aU 24 2 A n c rs xss++ks.set ix k1)):=aQ.perm (List.Perm.cons _ eK);have fA:=jl (k':=k1) hk;refine aq O ?_;have Zt:∀(X:List Ck) (kk:Ck) (w5:aa) (vs:List ab) (q:Int),eQ w0 As kk->St w0 w5 (Bx 31 1 A5 [.slice A n c]::Bx 31 1 A4 vs::(aU 24 2 A n c rs xss++ (X++ks.set ix kk)))->aG prog 182 [.pointer As,aj q] w5 (fun v w'=>∃(r:Int) (k':Ck),v=aj r/\(0<=r/\(1<=q->r<q)/\(q<1->r=0))/\eQ w0 As k'/\St w0 w' (Bx 31 1 A5 [.slice A n c]::Bx 31 1 A4 vs::(aU 24 2 A n c rs xss++ (X++ks.set ix k')))):=by
  intro X kk w5 vs q cL hT;have jE:=jl (k':=kk) hk;have e:∀Y,Bx 31 1 A5 [.slice A n c]::Bx 31 1 A4 vs::(aU 24 2 A n c rs xss++ (X++Y))=(Bx 31 1 A5 [.slice A n c]::Bx 31 1 A4 vs::(aU 24 2 A n c rs xss++X))++Y:=fun Y=>by simp
  rw [e]at hT;refine(tu _ ix q hT jE cL).mono ?_;rintro v w' ⟨r,k',h1,h2,h3,h4⟩;rw [<-e,gW]at h4;exact⟨r,k',h1,h2,h3,h4⟩
 refine aF (Zt [] k1 w4 _ 4 iO aQ) O ?_;rintro _ w5 ⟨r,k2,rfl,hr,eP,a8⟩;have a8:St w0 w5 (Bx 31 1 A5 [.slice A n c]::Bx 31 1 A4 [.slice none 0 0]::(aU 24 2 A n c rs xss++ks.set ix k2)):=a8;have lO:=jl (k':=k2) hk;refine az O (aM _ O (fun h1=>?_) (fun h1=>?_))
 ·refine cW O (oO (by kernel_rfl) (by kernel_rfl) (fun S e1 w1=>Uw w0 ks ix As A4 A5 n N A c rs xss S e1 w1) (fun w6 hb=> ⟨O,O,O,fun h=> (nomatch h),fun h=> (nomatch h),fun h=> (nomatch h),fun h=> (nomatch h),[],[],k2,[.slice none 0 0],eP,fun h=> (nomatch h),fun _=>O,fun h=> (nomatch h),a8.ao hb⟩) ?_ ?_)
  ·intro S i o e1 w6 hq aO hd bE hI;obtain⟨f0,f4,f5,p0,p1,p2,p3,B1,B2,kk,vs,cL,m4,m6,m5,hT⟩:=hI;have hX:bL w6 A n rs xss:=St.eU hT.tail.tail (by omega)
   match i,hq,aO with
   | 0,hq,aO=>
    obtain rfl:=bj hq;refine bI 0 (hT.rd 0 O) (by exact f5) O O (ak.n ?_);exact⟨f0,f4,f5,fun _=>O,p1,p2,p3,B1,B2,kk,vs,cL,m4,m6,m5,hT⟩
   | 1,hq,aO=>
    obtain rfl:=bj hq;refine uW O (by exact f0) O (ak.n ?_);exact⟨f0,f4,f5,p0,fun _=>O,p2,p3,B1,B2,kk,vs,cL,m4,m6,m5,hT⟩
   | 2,hq,aO=>
    obtain rfl:=bj hq;refine bI 0 (hT.rd 0 O) (by exact f5) O O (ak.n ?_);exact⟨f0,f4,f5,p0,p1,fun _=>O,p3,B1,B2,kk,vs,cL,m4,m6,m5,hT⟩
   | 3,hq,aO=>
    obtain rfl:=bj hq;refine ajq (xH A n c rs xss w6 hX (by omega)) O (by exact aL (fun v=> [v]) (p2 (aZ hd 2 O))) O ?_;rintro _ w7 ⟨rfl,jh⟩;have fg:=hT.ao jh.below;rw [hG.first (by omega)];exact ak.n ⟨f0,f4,f5,p0,p1,p2,fun _=>O,B1,B2,kk,vs,cL,m4,m6,m5,fg⟩
   | 4,hq,aO=>
    obtain rfl:=bj hq;have jE:=jl (k':=kk) hk;have e:(Bx 31 1 A5 [.slice A n c]::Bx 31 1 A4 vs::(aU 24 2 A n c rs xss++ (B2++ (B1++ks.set ix kk))))=(Bx 31 1 A5 [.slice A n c]::Bx 31 1 A4 vs::(aU 24 2 A n c rs xss++ (B2++B1)))++ks.set ix kk:=by simp
    have mX:=hT;rw [e]at mX;refine ajq (adr _ ix N mX jE cL (by omega)) O (by exact sC (p1 (aZ hd 1 O)) (p3 (aZ hd 3 O))) O ?_;rintro _ w7 ⟨Ap,cp,ps,k7,rfl,kp,vo,fg⟩;rw [gW]at fg;have gK:St w0 w7 (Bx 31 1 A5 [.slice A n c]::Bx 31 1 A4 vs::(aU 24 2 A n c rs xss++ (B2++ ([ar 2 Ap N cp ps]++ks.set ix k7)))):=by
     refine(fg.sub (ks':=ar 2 Ap N cp ps::Bx 31 1 A5 [.slice A n c]::Bx 31 1 A4 vs::((aU 24 2 A n c rs xss++B2)++ks.set ix k7)) ?_).perm ?_
     ·rw [<-fK (aU 24 2 A n c rs xss)];exact List.Sublist.cons_cons _ (List.Sublist.cons_cons _ (List.Sublist.cons_cons _ ((lQ _ _).append (dY _))))
     ·rw [<-fK (aU 24 2 A n c rs xss)];exact(List.Perm.swap _ _ _).trans (List.Perm.cons _ ((List.Perm.swap _ _ _).trans (List.Perm.cons _ eK.symm)))
    exact ak.n ⟨f0,f4,f5,p0,p1,p2,p3,[ar 2 Ap N cp ps],B2,k7,vs,vo,fun _=> ⟨Ap,cp,ps,O,kp,O⟩,m6,m5,gK⟩
   | 5,hq,aO=>
    obtain rfl:=bj hq;obtain⟨Ap,cp,ps,l7,kp,rfl⟩:=m4 (aZ hd 4 rfl);have n6:S 6=false:=by
     cases h:S 6 with
     | false=>rfl
     | true=>rw [<-aO];exact(aZ (bE 6 _ h rfl) 5 rfl).symm
    have hP:bt w6 Ap N ps:=((hT.sub ((((dz _ _).trans (dz _ _)).cons _).cons _):St w0 w6 (ar 2 Ap N cp ps::ks.set ix kk))).bk 0 O;refine ajq (adE A n c rs xss N Ap cp ps w6 hX (by omega) hG.sys (by omega) hP (fun x h0 h1=>kp.gi h0 h1)) O (by exact sC (p0 (aZ hd 0 O)) l7) O ?_;rintro _ w7 ⟨A',c',rs',rfl,nL,jh⟩;have gK:St w0 w7 (Bx 31 1 A5 [.slice A n c]::Bx 31 1 A4 vs::(aU 24 2 A n c rs xss++ (aU 24 2 A' n c' rs' (xss.map (pd N ps))++ ([ar 2 Ap N cp ps]++ks.set ix kk)))):=by
     refine((hT.sub (ks':=Bx 31 1 A5 [.slice A n c]::Bx 31 1 A4 vs::(aU 24 2 A n c rs xss++ ([ar 2 Ap N cp ps]++ks.set ix kk))) ?_).call jh).perm ?_
     ·exact List.Sublist.cons_cons _ (List.Sublist.cons_cons _ ((dY _).append (dz _ _)))
     ·refine(eK (l₁:=aU 24 2 A' n c' rs' (xss.map (pd N ps)))).trans (List.Perm.cons _ ((eK (l₁:=aU 24 2 A' n c' rs' (xss.map (pd N ps)))).trans (List.Perm.cons _ ?_)));rw [<-fK (aU 24 2 A' n c' rs' (xss.map (pd N ps))) (aU 24 2 A n c rs xss),<-fK (aU 24 2 A n c rs xss) (aU 24 2 A' n c' rs' (xss.map (pd N ps)))];exact iK.append_right _
    refine ak.n ?_;exact⟨f0,f4,f5,p0,p1,p2,p3,[ar 2 Ap N cp ps],aU 24 2 A' n c' rs' (xss.map (pd N ps)),kk,vs,cL,fun _=> ⟨Ap,cp,ps,l7,kp,O⟩,m6,fun _=> ⟨A',c',rs',_,O,nL,by simp [di],hG.ren kp,O,fun h=> (nomatch n6.symm.trans h)⟩,gK⟩
   | 6,hq,aO=>
    obtain rfl:=bj hq;obtain⟨A',c',rs',xss',wM,nL,tb,rL,rfl,_⟩:=m5 (aZ hd 5 rfl);obtain rfl:=m6 aO;refine bS 1 1 hT O (by exact f4) (by exact wM) O O O O ?_;intro w7 fg;refine ak.n ?_;exact⟨f0,f4,f5,p0,p1,p2,p3,B1,_,kk,[.slice A' n c'],cL,m4,fun h=> (nomatch (show true=false from h)),fun _=> ⟨A',c',rs',xss',wM,nL,tb,rL,O,fun _=>O⟩,fg⟩
   | i+7,hq,_=>exact(nomatch hq)
  ·intro S e1 w6 cO hI;obtain⟨f0,f4,f5,p0,p1,p2,p3,B1,B2,kk,vs,cL,m4,m6,m5,hT⟩:=hI;obtain⟨A',c',rs',xss',wM,nL,tb,rL,rfl,zd⟩:=m5 (cO 5 (by decide));obtain rfl:=zd (cO 6 (by decide));refine xT (F:=[(4,.pointer A4)]) ⟨f4,aw⟩ (Cv O (fI O (hT.rd 1 O) ?_));exact⟨n,N,A',c',rs',xss',kk,O,hn,hN,nL,tb,rL,cL,hT.tail.tail.sub (((dY _).append (dz _ _)).trans (dz _ _))⟩
 ·refine aD O (bI 0 (a8.rd 0 O) O O O (bS 1 1 a8 O O O O O O O ?_));intro w6 bg;refine bD O (fI O (bg.rd 1 O) ?_);exact⟨n,N,A,c,rs,xss,k2,O,hn,hN,bT,di,hG,eP,bg.tail.tail⟩
def Hk(w0:aa)(ks:List Ck)(ix:Nat)(As:ai)(v:ab)(w':aa):Prop:=
 ∃(n:Int) (A D:ai) (cA cD m k:Nat) (R:ah) (rs:List aX) (B:ag) (X:List Ck) (k':Ck),v= .agg #[aj n,.slice A m cA,.slice D k cD]/\(-1000<=n/\n<=1000)/\m<=100000/\k<=100000/\eQ w0 As k'/\(∀(fX:aa) (Y:List Ck),St w0 fX (X++Y)->bt fX A m R/\bL fX D k rs B)/\St w0 w' (X++ks.set ix k')
abbrev pc(A5 A4:ai)(n:Int)(AR:ai)(e cR:Nat)(R:ah)(AD:ai)(cD:Nat)(rD rs:List aX)(B:ag)(ks:List Ck):List Ck:=
 bp A5 n AR e cR AD e cD::bp A4 0 none 0 0 none 0 0::ar 2 AR e cR R::br 24 AD e cD rD::(bF 2 rs B++ks)
def rv(e:Nat)(rD rs:List aX)(B' B:ag):Prop:=rD.length=e/\B'.length=e/\rs.length=e/\B.length=e/\∀j,j<e->∃l:Nat,l<=(rs.getD j bW).n/\rD.getD j bW=⟨(rs.getD j bW).a,l,(rs.getD j bW).c⟩/\B'.getD j []=(B.getD j []).take l
theorem bt.tk{A:ai}{n l:Nat}{xs:ah}(h:bt w A n xs)(hl:l<=n):bt w A l (xs.take l):=by
 have:=h.cut (c:=n) (l:=0) (h:=l) (by omega) hl (dC _);rw [NR,List.drop_zero,Nat.sub_zero]at this;exact this
theorem rv.rows{e cD:Nat}{rs:List aX}{B:ag}{AD:ai}(h:rv e rD rs B' B)(hS:St w0 w (br 24 AD e cD rD::(bF 2 rs B++Y))):bL w AD e rD B':=by
 obtain⟨h1,h2,h3,h4,h5⟩:=h;refine⟨hS.fq 0 O,h2,fun j hj=>?_,fun j hj=>?_⟩
 ·obtain⟨l,hl,e1,e2⟩:=h5 j hj;rw [e1,e2];have hg:=vU (t:=2) (rs:=rs) (xss:=B) (i:=j) (by omega) (by omega);have hr:=hS.bk (j+1) (by rw [List.getElem?_cons_succ,lh (by rw [tq (by omega)];omega)];exact hg);exact hr.tk hl
 obtain⟨l,hl,e1,e2⟩:=h5 j hj;rw [e1];have hg:=vU (t:=2) (rs:=rs) (xss:=B) (i:=j) (by omega) (by omega);have hc:=hS.cap (j+1) (by rw [List.getElem?_cons_succ,lh (by rw [tq (by omega)];omega)];exact hg);exact⟨iS hl hc.1,hc.2⟩
theorem Ms{e:Nat}{rs:List aX}{B:ag}(h1:rs.length=e)(h2:B.length=e){AD:ai}(hR:bL w AD e rs B):rv e rs rs B B:=⟨h1,h2,h1,h2,fun j hj=> ⟨(rs.getD j bW).n,dC _,rfl,by
 rw [kA];rw [<-(hR.row j hj).1];exact dC _⟩⟩
theorem BS{AR AD:ai}{n:Int}{e cR cD:Nat}{R:ah}{rs:List aX}{B:ag}(hC:rv e rD rs B' B)(hn: -1000<=n/\n<=1000)(he:e<=100000)(hK:eQ w0 As k')(hS:St w0 w (x::ar 2 AR e cR R::br 24 AD e cD rD::(bF 2 rs B++ks.set ix k'))):
 Hk w0 ks ix As (.agg #[aj n,.slice AR e cR,.slice AD e cD]) w:=by
 refine⟨n,AR,AD,cR,cD,e,e,R,rD,B',ar 2 AR e cR R::br 24 AD e cD rD::bF 2 rs B,k',O,hn,he,he,hK,fun fX Y h=> ⟨h.bk 0 O,hC.rows (Y:=Y) h.tail⟩,hS.tail⟩
theorem adz(X:List Ck)(ix:Nat){k:Ck}(most:Nat)(hS:St w0 w (X++ks))(hk:ks[ix]?=some k)(hK:eQ w0 As k)(hm:8<=most/\most<=1000):
 aG prog 230 [.pointer As,aj most] w (fun v w'=>∃(n N:Nat) (A:ai) (c:Nat) (rs:List aX) (xss:ag) (k':Ck),v= .agg #[.slice A n c]/\(1<=n/\n<=5)/\(1<=N/\N<=most)/\rs.length=n/\xss.length=n/\GM N xss/\eQ w0 As k'/\St w0 w' (aU 24 2 A n c rs xss++ (X++ks.set ix k'))):=by
 have e:(X++ks)[X.length+ix]?=some k:=by
  rw [jW (by omega),Nat.add_sub_cancel_left];exact hk
 have es:∀k',(X++ks).set (X.length+ix) k'=X++ks.set ix k':=fun k'=>by rw [List.set_append,aR (by omega),Nat.add_sub_cancel_left]
 refine(Gy (X.length+ix) most hS e hK hm).mono ?_;rintro v w' ⟨n,N,A,c,rs,xss,k',h1,h2,h3,h4,h5,h6,h7,h8⟩;rw [es]at h8;exact⟨n,N,A,c,rs,xss,k',h1,h2,h3,h4,h5,h6,h7,h8⟩
theorem RV(X:List Ck)(ix:Nat){k:Ck}(A:ai)(n c:Nat)(xs:ah)(hS:St w0 w (X++ks))(hk:ks[ix]?=some k)(hK:eQ w0 As k)(hR:∀w' Y,St w0 w' (X++Y)->bt w' A n xs)(hn:0<n/\n<=1000000):
 aG prog 232 [.pointer As,.slice A n c] w (fun v w'=>∃(x:Int) (k':Ck),v=aj x/\x∈xs/\eQ w0 As k'/\St w0 w' (X++ks.set ix k')):=by
 have e:(X++ks)[X.length+ix]?=some k:=by
  rw [jW (by omega),Nat.add_sub_cancel_left];exact hk
 have es:∀k',(X++ks).set (X.length+ix) k'=X++ks.set ix k':=fun k'=>by rw [List.set_append,aR (by omega),Nat.add_sub_cancel_left]
 refine(RW (X.length+ix) A n c xs hS e hK (fun k' w' h=>hR w' (ks.set ix k') (by rw [es]at h;exact h)) hn).mono ?_;rintro v w' ⟨r,k',h1,h2,h3,h4⟩;rw [es]at h4;exact⟨r,k',h1,h2,h3,h4⟩
theorem rv.cut{e:Nat}{rs:List aX}{B:ag}(h:rv e rs rs B B){l:Nat}(hq:q<e)(hl:l<=(rg rs q).n):rv e (rs.set (q:Int).toNat ⟨(rg rs q).a,l,(rg rs q).c⟩) rs (B.set q ((B.getD q []).take l)) B:=by
 obtain⟨h1,h2,h3,h4,h5⟩:=h;refine⟨by rw [iR];exact h1,by rw [iR];exact h4,h3,h4,fun j hj=>?_⟩;rw [gB]
 by_cases c:q=j
 ·subst c;refine⟨l,hl,?_,?_⟩
  ·rw [dt,List.getElem?_set_self (by omega)];rfl
  rw [dt,List.getElem?_set_self (by omega)];rfl
 obtain⟨l',e0,e1,e2⟩:=h5 j hj;refine⟨l',e0,?_,?_⟩
 ·rw [dt,List.getElem?_set_ne c,<-dt];exact e1
 rw [dt,List.getElem?_set_ne c,<-dt];exact e2
structure Vo(w0:aa)(ks:List Ck)(ix:Nat)(As A5 A4:ai)(n:Int)(AR:ai)(e0 cR:Nat)(AD:ai)(cD:Nat)(rs:List aX)(B:ag)(S:Nat->Bool)(e:Env)(w:aa):Prop where
 f0:e 0= .pointer As
 f4:e 4= .pointer A4
 f5:e 5= .pointer A5
 f6:e 6=aj e0
 p0:S 0=true->e 142= .pointer (aB A5 1)
 p1:S 1=true->e 143= .slice AR e0 cR
 p2:S 2=true->e 144= .pointer As
 p3:S 3=true->e 145=aj e0
 p4:S 4=true->∃y:Int,e 146=aj y/\0<=y/\y<e0
 p5:S 5=true->e 147= .pointer As
 p6:S 6=true->e 148= .pointer (aB A5 0)
 p7:S 7=true->e 149=aj n
 p9:S 9=true->∃z:Int,e 151=aj z
 db:S 10=true->∃y:Int,e 152= .pointer (aB AR y.toNat)/\0<=y/\y<e0
 mem:∃(b:List Ck) (kk:Ck) (R1:ah),eQ w0 As kk/\(S 8=false->b=[])/\(S 8=true->∃A9,e 150= .slice A9 3 3/\b=[ar 2 A9 3 3 [-1,n,0]])/\St w0 w (b++pc A5 A4 n AR e0 cR R1 AD cD rs rs B (ks.set ix kk))
structure Vn(w0:aa)(ks:List Ck)(ix:Nat)(As A5 A4:ai)(n:Int)(AR:ai)(e0 cR:Nat)(R:ah)(AD:ai)(cD:Nat)(rs:List aX)(B:ag)(q:Nat)(S:Nat->Bool)(e:Env)(w:aa):Prop where
 f0:e 0= .pointer As
 f4:e 4= .pointer A4
 f5:e 5= .pointer A5
 f13:e 13=aj q
 p0:S 0=true->e 96= .pointer (aB A5 2)
 p1:S 1=true->e 97= .slice AD e0 cD
 p2:S 2=true->e 98=aj q
 p3:S 3=true->e 99= .pointer (aB A5 2)
 p4:S 4=true->e 100= .slice AD e0 cD
 p5:S 5=true->e 101=aj q
 p6:S 6=true->e 102= .pointer (aB AD (q:Int).toNat)
 p7:S 7=true->e 103= .slice (rg rs q).a (rg rs q).n (rg rs q).c
 p8:S 8=true->e 104= .pointer As
 p9:S 9=true->e 105= .pointer (aB A5 2)
 db:S 10=true->e 106= .slice AD e0 cD
 gG:S 11=true->e 107=aj q
 lz:S 12=true->e 108= .pointer (aB AD (q:Int).toNat)
 lA:S 13=true->e 109= .slice (rg rs q).a (rg rs q).n (rg rs q).c
 lB:S 14=true->e 110=aj ((rg rs q).n:Int)
 lC:S 15=true->e 111=aj ((rg rs q).n+1:Int)
 lD:S 16=true->∃y:Int,e 112=aj y/\0<=y/\y<=(rg rs q).n
 lE:S 17=true->∃l:Nat,e 113= .slice (rg rs q).a l (rg rs q).c/\l<=(rg rs q).n
 lF:S 18=true->e 114= .pointer (aB AD (q:Int).toNat)
 mem:∃(kk:Ck) (rD:List aX) (B1:ag),eQ w0 As kk/\(S 19=false->rs=rD/\B=B1)/\rv e0 rD rs B1 B/\St w0 w (pc A5 A4 n AR e0 cR R AD cD rD rs B (ks.set ix kk))
structure Cs where
 m:Nat
 AR:ai
 cR:Nat
 Lr:ah
 AD:ai
 cD:Nat
 bN:List aX
 BL:ag
def Cs.dH(x:Cs)(A8:ai)(n:Int):List Ck:=bp A8 n x.AR x.m x.cR x.AD x.m x.cD::ar 2 x.AR x.m x.cR x.Lr::br 24 x.AD x.m x.cD x.bN::bF 2 x.bN x.BL
structure Vm(w0:aa)(As A5 A4 A8 du:ai)(n:Int)(AR:ai)(e0 cR i g l10 fx:Nat)(L:ah)(x:Cs)(S:Nat->Bool)(e:Env)(w:aa):Prop where
 f4:e 4= .pointer A4
 f5:e 5= .pointer A5
 f6:e 6=aj e0
 f7:e 7=aj g
 f8:e 8= .pointer A8
 f9:e 9=aj i
 f10:e 10= .slice du l10 fx
 p0:S 0=true->e 74= .pointer (aB A8 1)
 p1:S 1=true->e 75= .slice x.AR x.m x.cR
 p2:S 2=true->e 76= .pointer (aB A5 1)
 p3:S 3=true->e 77= .slice AR e0 cR
 p4:S 4=true->e 78=aj i
 p5:S 5=true->e 79= .pointer (aB AR (i:Int).toNat)
 p6:S 6=true->∃r:Int,e 80=aj r
 p9:S 9=true->e 83= .pointer (aB A8 1)
 mem:∃(b:List Ck) (A1:ai) (m1 c1:Nat) (L1:ah) (Ab:ai) (mb cb:Nat),(S 7=false->b=[])/\(S 7=true->∃A9 r,e 81= .slice A9 1 1/\b=[ar 2 A9 1 1 [r]])/\(S 8=false->x.AR=A1/\x.m=m1/\x.cR=c1)/\(S 8=true->e 82= .slice A1 m1 c1/\m1=x.m+1)/\(S 10=false->x.AR=Ab/\x.m=mb/\x.cR=cb)/\(S 10=true->A1=Ab/\m1=mb/\c1=cb)/\
  St w0 w (b++ (bp A8 n Ab mb cb x.AD x.m x.cD::ar 2 A1 m1 c1 L1::br 24 x.AD x.m x.cD x.bN::ar 2 du l10 fx L::bF 2 x.bN x.BL))
theorem adH(ix:Nat){k:Ck}(most:Nat)(hS:St w0 w ks)(hk:ks[ix]?=some k)(hK:eQ w0 As k)(hm:8<=most/\most<=80):
 aG prog 183 [.pointer As,aj most] w (Hk w0 ks ix As):=by
 refine bw func183 O ntmps183 O (kX O O) (bb O (jc hS O ?_));intro A4 w1 aC;refine aq O (aF (Gy (ix+1) most aC (by exact hk) hK (by omega)) O ?_);rintro _ w2 ⟨r,N,A,c,Te,M,k1,rfl,hr,hN,bT,di,hG,iO,aE⟩;have aE:St w0 w2 (aU 24 2 A r c Te M++ (bp A4 0 none 0 0 none 0 0::ks.set ix k1)):=aE;have Y8:(gl M 0).length=N:=hG.first (by omega);have FC:qC M:=⟨by omega,by omega,by rw [Y8];exact hG.sys⟩;refine aF (KV A r c Te M w2 ((aE.sub (lQ _ _)).nn di) FC) O ?_;rintro _ w3 ⟨AR,cR,AD,cD,rs,rfl,sj,ax⟩;have Bq:=Ls M M.length;have hmul:M.length* (gl M 0).length<=5*80:=Nat.mul_le_mul (by omega) (by omega);have hP:=OA FC (by omega);have ui:1<=a7 M M.length:=by
  obtain⟨i,hi⟩:∃i,M.length=i+1:=⟨M.length - 1,by omega⟩;have h1:=C2 FC i 0 (by omega);rw [hi,a7];omega
 have AX:∀x∈b6 M,x.length<=a7 M M.length:=fun x hx=>by
  unfold b6 at hx;obtain⟨y,_,rfl⟩:=eh.1 hx;exact iS (oa _ _) (by rw [LK];exact dC _)
 have gZ:=tT M M.length;have kh:=pH M;have bM:=fun(q:bL w3 AD (a7 M M.length) rs (b6 M))=>Ms sj kh q
 have Ah:rv (a7 M M.length) rs rs (b6 M) (b6 M):=bM ((ax.sub (show(aU 24 2 AD (a7 M M.length) cD rs (b6 M)).Sublist _ from List.Sublist.cons _ (by rw [iz];exact dY _))).nn kh);have aH:=aE.call ax;clear bM ax aE aC;generalize hen:a7 M M.length=e0 at*;generalize cq M M.length=R at*;generalize b6 M=B at*;have aH:St w0 w3 (ar 2 AR e0 cR R::(aU 24 2 AD e0 cD rs B++ (bp A4 0 none 0 0 none 0 0::ks.set ix k1))):=aH.sub (by
  rw [List.cons_append,iz];exact(List.Sublist.append_left (dz _ _) _).cons_cons _)
 refine jc aH O fun A5 w4 aQ=>bS 3 0 aQ O O O O O O O ?_;intro w5 a8;have a8:St w0 w5 (pc A5 A4 (M.length:Int) AR e0 cR R AD cD rs rs B (ks.set ix k1)):=(show St w0 w5 (bp A5 (M.length:Int) AR e0 cR AD e0 cD::ar 2 AR e0 cR R::(aU 24 2 AD e0 cD rs B++ (bp A4 0 none 0 0 none 0 0::ks.set ix k1))) from a8).perm (List.Perm.cons _ ((List.Perm.cons _ eK).trans (List.Perm.swap _ _ _)));clear aH aQ;have fA:=jl (k':=k1) hk;refine aq O (aI (a8.rd 0 O) O (ajt (j:=1) (a8.rd 0 O) O O O O O ?_));refine ba O O (aq O ?_);have iW:∀(kk:List Ck),pc A5 A4 (M.length:Int) AR e0 cR R AD cD rs rs B kk=(bp A5 (M.length:Int) AR e0 cR AD e0 cD::bp A4 0 none 0 0 none 0 0::ar 2 AR e0 cR R::aU 24 2 AD e0 cD rs B)++kk:=fun kk=>O
 refine aF (tu (bp A5 (M.length:Int) AR e0 cR AD e0 cD::bp A4 0 none 0 0 none 0 0::ar 2 AR e0 cR R::aU 24 2 AD e0 cD rs B) ix 14 a8 fA iO) O ?_;rintro _ w6 ⟨x,k2,rfl,hx,eP,bg⟩;rw [gW]at bg;have bg:St w0 w6 (pc A5 A4 (M.length:Int) AR e0 cR R AD cD rs rs B (ks.set ix k2)):=bg;clear a8;have lO:=jl (k':=k2) hk;refine az O (aM _ O (fun c0=>?_) (fun c0=>?_))
 ·have abU:∀e:Nat,e<e0->∀d∈gl B e,0<=d/\d<e0:=fun e he d hd=>by
   have h1:=((hP.row e (by omega)).2 d hd).1;omega
  have yE:St w0 w6 ((bp A5 (M.length:Int) AR e0 cR AD e0 cD::bp A4 0 none 0 0 none 0 0::ar 2 AR e0 cR R::aU 24 2 AD e0 cD rs B)++ks.set ix k2):=bg;refine aD O (aF (tu _ ix e0 yE lO eP) O ?_);rintro _ w7 ⟨y,k3,rfl,hy,jQ,bl⟩;rw [gW]at bl;have bl:St w0 w7 (pc A5 A4 (M.length:Int) AR e0 cR R AD cD rs rs B (ks.set ix k3)):=bl;have nP:=hy.2.1 (by omega);obtain⟨g,rfl⟩:∃g:Nat,y=g:=⟨y.toNat,by omega⟩;have hge0:g<e0:=by omega
  have yx:bL w7 AD e0 rs B:=(bl.sub (((lQ (aU 24 2 AD e0 cD rs B) (ks.set ix k3)).cons _).cons _ |>.cons _)).nn kh;have AK:bt w7 AR e0 R:=bl.bk 2 O;have hmx:maxLen=9223372036854775807:=O;have fS:Rd w7 A5 3 _:=bl.rd 0 O;have vD: -900<=(M.length:Int)/\(M.length:Int)<=900:=⟨by omega,by omega⟩;clear bg yE hP Ah FC;generalize (M.length:Int)=n at*;refine aq O (aI fS O (fL (j:=0) fS O O O O O (CD (by exact inferInstance) (by exact inferInstance) (by exact inferInstance) O O O O O O (jc (St.refl w7) O ?_))));intro A8 w8 hS;refine bS 3 0 hS O O O O O O O ?_;clear hS;intro w9 hS;have uc:St w7 w9 (Cs.dH ⟨0,none,0,[],none,0,[],[]⟩ A8 n):=((hS.nil 24).nil 2).perm (iK (l₁:=[_,_]) (l₂:=[_]));clear hS;refine az O (Cd.loop (α:=Nat×Cs) (fun z=> [(4,.pointer A4),(5,.pointer A5),(6,aj e0),(7,aj g),(8,.pointer A8),(9,aj (z.1:Int))]) (fun z w'=>z.1<=e0/\z.2.m<=z.1/\z.2.bN.length=z.2.m/\z.2.BL.length=z.2.m/\St w7 w' (z.2.dH A8 n)) (fun z=>e0 - z.1) (0,⟨0,none,0,[],none,0,[],[]⟩) (ajz O) ⟨bu _,dC _,O,O,uc⟩ ?_);clear uc;rintro⟨i,x⟩ ev w8 ⟨hi,vB,hr,hb,hS⟩;dsimp only at hi vB hr hb hS|-;refine b8 O (aM _ O (fun h1=>?_) (fun h1=>?_))
  ·have DC:i<e0:=by omega
   refine cW O (aM _ O (fun h2=>?_) (fun h2=>?_))
   ·refine aD O (aK O (aS O (tQ ?_)));exact⟨(i+1,x),by show e0 - (i+1)<e0 - i;omega,⟨O,O,O,O,O,aL (Value.int .i64) (by omega),aw⟩,by show i+1<=e0;omega,by show x.m<=i+1;omega,hr,hb,hS⟩
   refine aD O (fZ hS O ?_);intro du w9 bh;have bh:St w7 w9 (ar 2 du 0 0 []::x.dH A8 n):=bh;have jG:=(yx.at_ (i:=(i:Int)) (by omega) (by omega)).1;have hbq:=AX (gl B i) (by show B.getD i []∈B;rw [dt,fU (by omega)];exact fe _);refine az O (Cd.loop (α:=Nat×Nat×ai×Nat×ah) (fun z=> [(4,.pointer A4),(5,.pointer A5),(6,aj e0),(7,aj g),(8,.pointer A8),(9,aj i),(10,.slice z.2.2.1 z.2.1 z.2.2.2.1),(11,aj (z.1:Int))]) (fun z w'=>z.1<=(gl B i).length/\z.2.1<=z.1/\St w7 w' (ar 2 z.2.2.1 z.2.1 z.2.2.2.1 z.2.2.2.2::x.dH A8 n)) (fun z=> (gl B i).length - z.1) (0,0,du,0,[]) (ajz O) ⟨bu _,dC _,bh⟩ ?_);clear bh hS;rintro⟨q,l10,du,fx,L⟩ ev w9 ⟨hq,aa0,bh⟩;dsimp only at hq aa0 bh|-;have Dp:=bh.nj fS;have wO:=bh.cV yx;have dM:=wO.at_ (i:=(i:Int)) (by omega) (by omega);refine bb O (aI Dp O (ajt (j:=2) Dp O O O O O (aq O (aA wO.top.2 O (bQ wO.top O ?_)))));refine ba O O (az O ?_);refine aM _ O (fun h4=>?_) (fun h4=>?_)
   ·have ng:q< (gl B i).length:=by omega
    have hd:=abU i DC _ (gi_in ng);refine aD O (aI Dp O (ajt (j:=2) Dp O O O O O (aq O (aA wO.top.2 O (bQ wO.top O (aq O (aA dM.2 O (aY dM O (az O ?_)))))))));refine aM _ O (fun h5=>?_) (fun h5=>?_)
    ·refine aD O (dq O ?_);refine dE bh O O O fun Cj dA cj=>dS 1 cj O (cj.bk 0 O) O O O fun Hi H5 eA eI=>az O (aM _ O (fun h6=>?_) (fun h6=>?_))
     ·exfalso --x
      have h5:(g:Int)<gi (gl B i) q:=h5;have h6:gi (gl B i) q< (g:Int):=h6;omega
     refine aD O (aK O (aS O (tQ ?_)));exact⟨(q+1,l10+1,Hi,H5,_),by show(gl B i).length - (q+1)< (gl B i).length - q;omega,(ajz O),by show q+1<=(gl B i).length;omega,by show l10+1<=q+1;omega,eI.tail⟩
    refine cW O (aM _ O (fun h6=>?_) (fun h6=>?_))
    ·refine aD O (dE bh O O O ?_);intro Cj dA cj;refine dS 1 cj O (cj.bk 0 O) O O O fun Hi H5 eA eI=>aq O (aK O (aS O (tQ ?_)));exact⟨(q+1,l10+1,Hi,H5,_),by show(gl B i).length - (q+1)< (gl B i).length - q;omega,(ajz O),by show q+1<=(gl B i).length;omega,by show l10+1<=q+1;omega,eI.tail⟩
    refine aD O (aK O (aS O (tQ ?_)));exact⟨(q+1,l10,du,fx,L),by show(gl B i).length - (q+1)< (gl B i).length - q;omega,(ajz O),by show q+1<=(gl B i).length;omega,by show l10<=q+1;omega,bh⟩
   clear dM wO Dp;have bh:St w7 w9 (bp A8 n x.AR x.m x.cR x.AD x.m x.cD::ar 2 x.AR x.m x.cR x.Lr::br 24 x.AD x.m x.cD x.bN::ar 2 du l10 fx L::bF 2 x.bN x.BL):=bh.perm ((List.Perm.swap _ _ _).trans (((List.Perm.swap _ _ _).trans ((List.Perm.swap _ _ _).cons _)).cons _));refine bo O (bn (nY O ?_));refine oO (by kernel_rfl) (by kernel_rfl) (fun S e1 w1=>Vm w7 As A5 A4 A8 du n AR e0 cR i g l10 fx L x S e1 w1) (fun w4 hb=> ⟨O,O,O,O,O,O,O,fun h=> (nomatch h),fun h=> (nomatch h),fun h=> (nomatch h),fun h=> (nomatch h),fun h=> (nomatch h),fun h=> (nomatch h),fun h=> (nomatch h),fun h=> (nomatch h),[],x.AR,x.m,x.cR,x.Lr,x.AR,x.m,x.cR,fun _=>O,fun h=> (nomatch h),fun _=> ⟨O,O,O⟩,fun h=> (nomatch h),fun _=> ⟨O,O,O⟩,fun h=> (nomatch h),bh.ao hb⟩) ?_ ?_
   ·intro S q o e1 w4 hq aO hd bE hI;obtain⟨f4,f5,f6,f7,f8,f9,f10,p0,p1,p2,p3,p4,p5,p6,p9,b,A1,m1,c1,L1,Ab,mb,cb,m7,ti,m8,jY,m10,th,hT⟩:=hI
    match q,hq,aO with
    | 0,hq,aO=>
     obtain rfl:=bj hq;have Dq:Rd w4 A8 3 _:=(hT.sub (dz b _)).rd 0 O;refine ajs Dq (by exact f8) O O O inferInstance (ak.n ?_);exact⟨f4,f5,f6,f7,f8,f9,f10,fun _=>O,p1,p2,p3,p4,p5,p6,p9,b,A1,m1,c1,L1,Ab,mb,cb,m7,ti,m8,jY,m10,th,hT⟩
    | 1,hq,aO=>
     obtain rfl:=bj hq;have Dq:Rd w4 A8 3 _:=(hT.sub (dz b _)).rd 0 O;have n10:S 10=false:=by
      cases h:S 10 with
      | false=>rfl
      | true=>rw [<-aO];exact(aZ (bE 8 _ (aZ (bE 10 _ h rfl) 8 rfl) rfl) 1 rfl).symm
     obtain⟨rfl,rfl,rfl⟩:=m10 n10;refine ajt (j:=1) Dq (by exact p0 (aZ hd 0 O)) O O O O (ak.n ?_);exact⟨f4,f5,f6,f7,f8,f9,f10,p0,fun _=>O,p2,p3,p4,p5,p6,p9,b,A1,m1,c1,L1,_,_,_,m7,ti,m8,jY,fun _=> ⟨O,O,O⟩,th,hT⟩
    | 2,hq,aO=>
     obtain rfl:=bj hq;refine ajs (hT.nj fS) (by exact f5) O O O inferInstance (ak.n ?_);exact⟨f4,f5,f6,f7,f8,f9,f10,p0,p1,fun _=>O,p3,p4,p5,p6,p9,b,A1,m1,c1,L1,Ab,mb,cb,m7,ti,m8,jY,m10,th,hT⟩
    | 3,hq,aO=>
     obtain rfl:=bj hq;refine ajt (j:=1) (hT.nj fS) (by exact p2 (aZ hd 2 O)) O O O O (ak.n ?_);exact⟨f4,f5,f6,f7,f8,f9,f10,p0,p1,p2,fun _=>O,p4,p5,p6,p9,b,A1,m1,c1,L1,Ab,mb,cb,m7,ti,m8,jY,m10,th,hT⟩
    | 4,hq,aO=>
     obtain rfl:=bj hq;refine jq O (by exact f9) O (ak.n ?_);exact⟨f4,f5,f6,f7,f8,f9,f10,p0,p1,p2,p3,fun _=>O,p5,p6,p9,b,A1,m1,c1,L1,Ab,mb,cb,m7,ti,m8,jY,m10,th,hT⟩
    | 5,hq,aO=>
     obtain rfl:=bj hq;refine ajn (hT.b9 AK).2 (by exact p3 (aZ hd 3 O)) (by exact p4 (aZ hd 4 O)) O (by omega) (by omega) (ak.n ?_);exact⟨f4,f5,f6,f7,f8,f9,f10,p0,p1,p2,p3,p4,fun _=>O,p6,p9,b,A1,m1,c1,L1,Ab,mb,cb,m7,ti,m8,jY,m10,th,hT⟩
    | 6,hq,aO=>
     obtain rfl:=bj hq;refine ajo (i:=(i:Int)) (hT.b9 AK) (by exact p5 (aZ hd 5 O)) (by omega) O O (ak.n ?_);exact⟨f4,f5,f6,f7,f8,f9,f10,p0,p1,p2,p3,p4,p5,fun _=> ⟨_,O⟩,p9,b,A1,m1,c1,L1,Ab,mb,cb,m7,ti,m8,jY,m10,th,hT⟩
    | 7,hq,aO=>
     obtain rfl:=bj hq;obtain rfl:=m7 aO;obtain⟨r,YM⟩:=p6 (aZ hd 6 rfl);refine dE hT (by exact YM) O O ?_;intro A9 w9 hT;refine ak.n ?_;exact⟨f4,f5,f6,f7,f8,f9,f10,p0,p1,p2,p3,p4,p5,p6,p9,[ar 2 A9 1 1 [r]],A1,m1,c1,L1,Ab,mb,cb,fun h=> (nomatch (show true=false from h)),fun _=> ⟨A9,r,O,O⟩,m8,jY,m10,th,hT⟩
    | 8,hq,aO=>
     obtain rfl:=bj hq;obtain⟨A9,r,C8,rfl⟩:=ti (aZ hd 7 rfl);obtain⟨rfl,rfl,rfl⟩:=m8 aO;have n10:S 10=false:=by
      cases h:S 10 with
      | false=>rfl
      | true=>rw [<-aO];exact(aZ (bE 10 _ h rfl) 8 rfl).symm
     refine dS 2 hT O (hT.bk 0 O) (by exact p1 (aZ hd 1 O)) (by exact C8) O ?_;intro A2 c2 w9 hT;refine ak.n ?_;exact⟨f4,f5,f6,f7,f8,f9,f10,p0,p1,p2,p3,p4,p5,p6,p9,[ar 2 A9 1 1 [r]],A2,x.m+1,c2,_,Ab,mb,cb,m7,fun _=> ⟨A9,r,C8,O⟩,fun h=> (nomatch (show true=false from h)),fun _=> ⟨O,O⟩,m10,fun h=> (nomatch n10.symm.trans h),hT⟩
    | 9,hq,aO=>
     obtain rfl:=bj hq;have Dq:Rd w4 A8 3 _:=(hT.sub (dz b _)).rd 0 O;refine ajs Dq (by exact f8) O O O inferInstance (ak.n ?_);exact⟨f4,f5,f6,f7,f8,f9,f10,p0,p1,p2,p3,p4,p5,p6,fun _=>O,b,A1,m1,c1,L1,Ab,mb,cb,m7,ti,m8,jY,m10,th,hT⟩
    | 10,hq,aO=>
     obtain rfl:=bj hq;obtain⟨A9,r,C8,rfl⟩:=ti (aZ (bE 8 _ (aZ hd 8 rfl) rfl) 7 rfl);obtain⟨vj,rfl⟩:=jY (aZ hd 8 rfl);refine ke 1 hT O (by exact p9 (aZ hd 9 O)) (by exact vj) O O ?_;intro w9 hT;refine ak.n ?_;exact⟨f4,f5,f6,f7,f8,f9,f10,p0,p1,p2,p3,p4,p5,p6,p9,[ar 2 A9 1 1 [r]],A1,x.m+1,c1,L1,A1,x.m+1,c1,m7,fun _=> ⟨A9,r,C8,O⟩,m8,fun _=> ⟨vj,O⟩,fun h=> (nomatch (show true=false from h)),fun _=> ⟨O,O,O⟩,hT⟩
    | q+11,hq,_=>exact(nomatch hq)
   ·intro S e1 w4 cO hI;obtain⟨f4,f5,f6,f7,f8,f9,f10,p0,p1,p2,p3,p4,p5,p6,p9,b,A1,m1,c1,L1,Ab,mb,cb,m7,ti,m8,jY,m10,th,hT⟩:=hI;obtain⟨vj,rfl⟩:=jY (cO 8 (by decide));obtain⟨rfl,rfl,rfl⟩:=th (cO 10 (by decide));have hT:=hT.sub (dz b _);refine yf (F:=[(4,.pointer A4),(5,.pointer A5),(6,aj e0),(7,aj g),(8,.pointer A8),(9,aj i),(10,.slice du l10 fx)]) ⟨f4,f5,f6,f7,f8,f9,f10,aw⟩ (fJ O (aI (hT.rd 0 O) O (ajt (j:=2) (hT.rd 0 O) O O O O O (aq O (lU hT O O O ?_)))));intro A87 w5 dW;refine lS 3 dW O (dW.fq 0 O) O O O (by omega) (by omega) O ?_;intro Ud WO w6 eJ;have eJ:=eJ.tail;refine aI (eJ.rd 0 O) O (ke 0 eJ O O O O O ?_);intro tD Di;refine aq O (aK O (aS O (tQ ?_)));exact⟨(i+1,⟨x.m+1,A1,c1,L1,Ud,WO,x.bN++ [⟨du,l10,fx⟩],x.BL++ [L]⟩),by show e0 - (i+1)<e0 - i;omega,⟨O,O,O,O,O,aL (Value.int .i64) (by omega),aw⟩,by show i+1<=e0;omega,by show x.m+1<=i+1;omega,by simp [hr],by simp [hb],by
     show St w7 _ (_::_::_::bF 2 (x.bN++ [_]) (x.BL++ [_]));rw [vV (by omega)];exact Di.perm (((((List.perm_append_singleton _ _).symm).cons _).cons _).cons _)⟩
  refine bo O (bn (cJ O ?_));have hS:=bl.call hS;have hS:St w0 w8 (bp A4 0 none 0 0 none 0 0::(x.dH A8 n++ks.set ix k3)):=(hS.sub (List.Sublist.append_left (((((dz (bF 2 rs B) (ks.set ix k3)).cons _).cons _).cons_cons _).cons _) _)).perm eK;refine bI 2 (hS.rd 1 O) O O O (bS 3 0 hS O O O O O O O ?_);intro w9 bh;refine bD O (fI O (bh.rd 0 O) ?_);refine⟨n,x.AR,x.AD,x.cR,x.cD,x.m,x.m,x.Lr,x.bN,x.BL,ar 2 x.AR x.m x.cR x.Lr::br 24 x.AD x.m x.cD x.bN::bF 2 x.bN x.BL,k3,O,⟨by omega,by omega⟩,by omega,by omega,jQ,fun fX Y h=> ⟨h.bk 0 O,(h.tail.sub ((lQ _ _).cons_cons _)).nn hb⟩,bh.tail.tail⟩
 refine cW O (aM _ O (fun c1=>?_) (fun c1=>?_))
 ·refine aD O ?_;have yE:St w0 w6 ((bp A5 (M.length:Int) AR e0 cR AD e0 cD::bp A4 0 none 0 0 none 0 0::ar 2 AR e0 cR R::aU 24 2 AD e0 cD rs B)++ks.set ix k2):=bg;refine aF (tu _ ix e0 yE lO eP) O ?_;rintro _ w7 ⟨y,k3,rfl,hy,jQ,bl⟩;rw [gW]at bl;have bl:St w0 w7 (pc A5 A4 (M.length:Int) AR e0 cR R AD cD rs rs B (ks.set ix k3)):=bl;have nP:=hy.2.1 (by omega);obtain⟨qr,rfl⟩:∃q:Nat,y=q:=⟨y.toNat,by omega⟩;have uw:qr<e0:=by omega
  have yx:bL w7 AD e0 rs B:=(bl.sub (((lQ (aU 24 2 AD e0 cD rs B) (ks.set ix k3)).cons _).cons _ |>.cons _)).nn kh;have gD:=yx.cap qr uw;have jG:=(yx.row qr uw).1;have hbq:=AX (B.getD qr []) (by rw [dt,fU (by omega)];exact fe _);have hmx:maxLen=9223372036854775807:=O;have hrq:rs.getD qr bW=rg rs qr:=O;rw [hrq]at gD jG;have vD: -900<=(M.length:Int)/\(M.length:Int)<=900:=⟨by omega,by omega⟩;generalize (M.length:Int)=n at*;refine az O (oO (by kernel_rfl) (by kernel_rfl) (fun S e1 w1=>Vn w0 ks ix As A5 A4 n AR e0 cR R AD cD rs B qr S e1 w1) (fun w4 hb=> ⟨O,O,O,O,fun h=> (nomatch h),fun h=> (nomatch h),fun h=> (nomatch h),fun h=> (nomatch h),fun h=> (nomatch h),fun h=> (nomatch h),fun h=> (nomatch h),fun h=> (nomatch h),fun h=> (nomatch h),fun h=> (nomatch h),fun h=> (nomatch h),fun h=> (nomatch h),fun h=> (nomatch h),fun h=> (nomatch h),fun h=> (nomatch h),fun h=> (nomatch h),fun h=> (nomatch h),fun h=> (nomatch h),fun h=> (nomatch h),k3,rs,B,jQ,fun _=> ⟨O,O⟩,Ah,bl.ao hb⟩) ?_ ?_)
  ·intro S q o e1 w4 hq aO hd bE hI;obtain⟨f0,f4,f5,f13,p0,p1,p2,p3,p4,p5,p6,p7,p8,p9,db,gG,lz,lA,lB,lC,lD,lE,lF,kk,rD,B1,cL,m19,hC,hT⟩:=hI
   match q,hq,aO with
   | 0,hq,aO=>
    obtain rfl:=bj hq;refine ajs (hT.rd 0 O) (by exact f5) O O O inferInstance (ak.n ?_);exact⟨f0,f4,f5,f13,fun _=>O,p1,p2,p3,p4,p5,p6,p7,p8,p9,db,gG,lz,lA,lB,lC,lD,lE,lF,kk,rD,B1,cL,m19,hC,hT⟩
   | 1,hq,aO=>
    obtain rfl:=bj hq;refine ajt (j:=2) (hT.rd 0 O) (by exact p0 (aZ hd 0 O)) O O O O (ak.n ?_);exact⟨f0,f4,f5,f13,p0,fun _=>O,p2,p3,p4,p5,p6,p7,p8,p9,db,gG,lz,lA,lB,lC,lD,lE,lF,kk,rD,B1,cL,m19,hC,hT⟩
   | 2,hq,aO=>
    obtain rfl:=bj hq;refine jq O (by exact f13) O (ak.n ?_);exact⟨f0,f4,f5,f13,p0,p1,fun _=>O,p3,p4,p5,p6,p7,p8,p9,db,gG,lz,lA,lB,lC,lD,lE,lF,kk,rD,B1,cL,m19,hC,hT⟩
   | 3,hq,aO=>
    obtain rfl:=bj hq;refine ajs (hT.rd 0 O) (by exact f5) O O O inferInstance (ak.n ?_);exact⟨f0,f4,f5,f13,p0,p1,p2,fun _=>O,p4,p5,p6,p7,p8,p9,db,gG,lz,lA,lB,lC,lD,lE,lF,kk,rD,B1,cL,m19,hC,hT⟩
   | 4,hq,aO=>
    obtain rfl:=bj hq;refine ajt (j:=2) (hT.rd 0 O) (by exact p3 (aZ hd 3 O)) O O O O (ak.n ?_);exact⟨f0,f4,f5,f13,p0,p1,p2,p3,fun _=>O,p5,p6,p7,p8,p9,db,gG,lz,lA,lB,lC,lD,lE,lF,kk,rD,B1,cL,m19,hC,hT⟩
   | 5,hq,aO=>
    obtain rfl:=bj hq;refine jq O (by exact f13) O (ak.n ?_);exact⟨f0,f4,f5,f13,p0,p1,p2,p3,p4,fun _=>O,p6,p7,p8,p9,db,gG,lz,lA,lB,lC,lD,lE,lF,kk,rD,B1,cL,m19,hC,hT⟩
   | 6,hq,aO=>
    obtain rfl:=bj hq;refine ajn (hT.fq 3 O).2 (by exact p4 (aZ hd 4 O)) (by exact p5 (aZ hd 5 O)) O (by omega) (by omega) (ak.n ?_);exact⟨f0,f4,f5,f13,p0,p1,p2,p3,p4,p5,fun _=>O,p7,p8,p9,db,gG,lz,lA,lB,lC,lD,lE,lF,kk,rD,B1,cL,m19,hC,hT⟩
   | 7,hq,aO=>
    obtain rfl:=bj hq;have n19:S 19=false:=by
     cases h:S 19 with
     | false=>rfl
     | true=>rw [<-aO];exact(aZ (bE 19 _ h rfl) 7 rfl).symm
    obtain⟨rfl,rfl⟩:=m19 n19;refine aju (i:=(qr:Int)) (hT.fq 3 O) (by exact p6 (aZ hd 6 O)) (by omega) O O (ak.n ?_);exact⟨f0,f4,f5,f13,p0,p1,p2,p3,p4,p5,p6,fun _=>O,p8,p9,db,gG,lz,lA,lB,lC,lD,lE,lF,kk,_,_,cL,fun _=> ⟨O,O⟩,hC,hT⟩
   | 8,hq,aO=>
    obtain rfl:=bj hq;refine uW O (by exact f0) O (ak.n ?_);exact⟨f0,f4,f5,f13,p0,p1,p2,p3,p4,p5,p6,p7,fun _=>O,p9,db,gG,lz,lA,lB,lC,lD,lE,lF,kk,rD,B1,cL,m19,hC,hT⟩
   | 9,hq,aO=>
    obtain rfl:=bj hq;refine ajs (hT.rd 0 O) (by exact f5) O O O inferInstance (ak.n ?_);exact⟨f0,f4,f5,f13,p0,p1,p2,p3,p4,p5,p6,p7,p8,fun _=>O,db,gG,lz,lA,lB,lC,lD,lE,lF,kk,rD,B1,cL,m19,hC,hT⟩
   | 10,hq,aO=>
    obtain rfl:=bj hq;refine ajt (j:=2) (hT.rd 0 O) (by exact p9 (aZ hd 9 O)) O O O O (ak.n ?_);exact⟨f0,f4,f5,f13,p0,p1,p2,p3,p4,p5,p6,p7,p8,p9,fun _=>O,gG,lz,lA,lB,lC,lD,lE,lF,kk,rD,B1,cL,m19,hC,hT⟩
   | 11,hq,aO=>
    obtain rfl:=bj hq;refine jq O (by exact f13) O (ak.n ?_);exact⟨f0,f4,f5,f13,p0,p1,p2,p3,p4,p5,p6,p7,p8,p9,db,fun _=>O,lz,lA,lB,lC,lD,lE,lF,kk,rD,B1,cL,m19,hC,hT⟩
   | 12,hq,aO=>
    obtain rfl:=bj hq;refine ajn (hT.fq 3 O).2 (by exact db (aZ hd 10 O)) (by exact gG (aZ hd 11 O)) O (by omega) (by omega) (ak.n ?_);exact⟨f0,f4,f5,f13,p0,p1,p2,p3,p4,p5,p6,p7,p8,p9,db,gG,fun _=>O,lA,lB,lC,lD,lE,lF,kk,rD,B1,cL,m19,hC,hT⟩
   | 13,hq,aO=>
    obtain rfl:=bj hq;have n19:S 19=false:=by
     cases h:S 19 with
     | false=>rfl
     | true=>rw [<-aO];exact(aZ (bE 19 _ h rfl) 13 rfl).symm
    obtain⟨rfl,rfl⟩:=m19 n19;refine aju (i:=(qr:Int)) (hT.fq 3 O) (by exact lz (aZ hd 12 O)) (by omega) O O (ak.n ?_);exact⟨f0,f4,f5,f13,p0,p1,p2,p3,p4,p5,p6,p7,p8,p9,db,gG,lz,fun _=>O,lB,lC,lD,lE,lF,kk,_,_,cL,fun _=> ⟨O,O⟩,hC,hT⟩
   | 14,hq,aO=>
    obtain rfl:=bj hq;refine ba (by exact lA (aZ hd 13 O)) O (ak.n ?_);exact⟨f0,f4,f5,f13,p0,p1,p2,p3,p4,p5,p6,p7,p8,p9,db,gG,lz,lA,fun _=>O,lC,lD,lE,lF,kk,rD,B1,cL,m19,hC,hT⟩
   | 15,hq,aO=>
    obtain rfl:=bj hq;refine ajr (by exact lB (aZ hd 14 O)) O O (by omega) (ak.n ?_);exact⟨f0,f4,f5,f13,p0,p1,p2,p3,p4,p5,p6,p7,p8,p9,db,gG,lz,lA,lB,fun _=>O,lD,lE,lF,kk,rD,B1,cL,m19,hC,hT⟩
   | 16,hq,aO=>
    obtain rfl:=bj hq;have jE:=jl (k':=kk) hk;have hT:St w0 w4 ((bp A5 n AR e0 cR AD e0 cD::bp A4 0 none 0 0 none 0 0::ar 2 AR e0 cR R::br 24 AD e0 cD rD::bF 2 rs B)++ks.set ix kk):=hT;refine ajq (tu _ ix _ hT jE cL) O (by exact sC (p8 (aZ hd 8 O)) (lC (aZ hd 15 O))) O ?_;rintro _ w9 ⟨y,k3,rfl,hy,jQ,hT⟩;rw [gW]at hT;refine ak.n ?_;exact⟨f0,f4,f5,f13,p0,p1,p2,p3,p4,p5,p6,p7,p8,p9,db,gG,lz,lA,lB,lC,fun _=> ⟨y,O,hy.1,by have:=hy.2.1 (by omega);omega⟩,lE,lF,k3,rD,B1,jQ,m19,hC,hT⟩
   | 17,hq,aO=>
    obtain rfl:=bj hq;obtain⟨y,Yl,D2,nP⟩:=lD (aZ hd 16 rfl);refine sI (by exact p7 (aZ hd 7 O)) (by exact Yl) O ⟨by omega,by omega⟩ ?_;refine ak.n ?_;exact⟨f0,f4,f5,f13,p0,p1,p2,p3,p4,p5,p6,p7,p8,p9,db,gG,lz,lA,lB,lC,lD,fun _=> ⟨y.toNat,O,by omega⟩,lF,kk,rD,B1,cL,m19,hC,hT⟩
   | 18,hq,aO=>
    obtain rfl:=bj hq;refine ajn (hT.fq 3 O).2 (by exact p1 (aZ hd 1 O)) (by exact p2 (aZ hd 2 O)) O (by omega) (by omega) (ak.n ?_);exact⟨f0,f4,f5,f13,p0,p1,p2,p3,p4,p5,p6,p7,p8,p9,db,gG,lz,lA,lB,lC,lD,lE,fun _=>O,kk,rD,B1,cL,m19,hC,hT⟩
   | 19,hq,aO=>
    obtain rfl:=bj hq;obtain⟨l,Ym,hl⟩:=lE (aZ hd 17 rfl);obtain⟨rfl,rfl⟩:=m19 aO;refine uY 3 (i:=(qr:Int)) hT O (by exact lF (aZ hd 18 O)) (by exact Ym) (by omega) ?_;intro w9 hT;refine ak.n ?_;exact⟨f0,f4,f5,f13,p0,p1,p2,p3,p4,p5,p6,p7,p8,p9,db,gG,lz,lA,lB,lC,lD,lE,lF,kk,_,B.set qr ((B.getD qr []).take l),cL,fun h=> (nomatch (show true=false from h)),hC.cut uw hl,hT⟩
   | q+20,hq,_=>exact(nomatch hq)
  ·intro S e1 w4 cO hI;obtain⟨f0,f4,f5,f13,p0,p1,p2,p3,p4,p5,p6,p7,p8,p9,db,gG,lz,lA,lB,lC,lD,lE,lF,kk,rD,B1,cL,m19,hC,hT⟩:=hI;refine xT (F:=[(4,.pointer A4),(5,.pointer A5)]) ⟨f4,f5,aw⟩ (fJ O (bI 2 (hT.rd 0 O) O O O (bS 3 1 hT O O O O O O O ?_)));intro w7 bl;refine bD O (fI O (bl.rd 1 O) ?_);exact BS hC ⟨by omega,by omega⟩ (by omega) cL bl.tail
 refine cW O (aM _ O (fun c2=>?_) (fun c2=>?_))
 ·refine aD O ?_;have yE:St w0 w6 ((bp A5 (M.length:Int) AR e0 cR AD e0 cD::bp A4 0 none 0 0 none 0 0::ar 2 AR e0 cR R::aU 24 2 AD e0 cD rs B)++ks.set ix k2):=bg;refine aF (adz _ ix 8 yE lO eP (by decide)) O ?_;rintro _ w7 ⟨r',N',A',c',dX,M',k3,rfl,oy,FD,nL,tb,rL,jQ,bl⟩;rw [gW]at bl;have Y9:(gl M' 0).length=N':=rL.first (by omega);have Pr:qC M':=⟨by omega,by omega,by rw [Y9];exact rL.sys⟩;refine aF (KV A' r' c' dX M' w7 ((bl.sub (lQ _ _)).nn tb) Pr) O ?_;rintro _ w8 ⟨Cm,E8,Cl,yi,rs',rfl,hrs',Gj⟩;have hof':=Ls M' M'.length;have hmul':M'.length* (gl M' 0).length<=5*8:=Nat.mul_le_mul (by omega) (by omega);have tZ:=OA Pr (by omega);have PH:=tT M' M'.length;have Jd:=pH M';have bK:=bl.call Gj;clear bl Gj yE;generalize a7 M' M'.length=e1 at*;generalize cq M' M'.length=R' at*;generalize b6 M'=B' at*;have bK:St w0 w8 (ar 2 Cm e1 E8 R'::(aU 24 2 Cl e1 yi rs' B'++pc A5 A4 (M.length:Int) AR e0 cR R AD cD rs rs B (ks.set ix k3))):=bK.sub (by
   rw [List.cons_append,iz];exact(List.Sublist.append_left (dz _ _) _).cons_cons _)
  refine jc bK O fun gU w9 bh=>bS 3 0 bh O O O O O O O ?_;intro dA cj;have cj:St w0 dA (bp gU (M'.length:Int) Cm e1 E8 Cl e1 yi::ar 2 Cm e1 E8 R'::(aU 24 2 Cl e1 yi rs' B'++pc A5 A4 (M.length:Int) AR e0 cR R AD cD rs rs B (ks.set ix k3))):=cj;have JI:Rd dA gU 3 _:=cj.rd 0 O;have ZF:bt dA Cm e1 R':=cj.bk 1 O;have YX:bL dA Cl e1 rs' B':=(cj.sub (((lQ _ _).cons _).cons _)).nn Jd;have eI:St w0 dA (pc A5 A4 (M.length:Int) AR e0 cR R AD cD rs rs B (ks.set ix k3)):=cj.sub (((dz _ _).cons _).cons _);have fS:Rd dA A5 3 _:=eI.rd 0 O;refine aq O (aI JI O (fL (j:=0) JI O O O O O (aI fS O (fL (j:=0) fS O O O O O (az O ?_)))));refine aM _ O (fun c5=>?_) (fun c5=>?_)
  ·have c5:(M'.length:Int)=(M.length:Int):=c5;have AK:bt dA AR e0 R:=eI.bk 2 O;have yx:bL dA AD e0 rs B:=(eI.sub (((lQ (aU 24 2 AD e0 cD rs B) (ks.set ix k3)).cons _).cons _ |>.cons _)).nn kh;refine aD O (bI 2 fS O O O (bI 2 JI O O O ?_));rw [c5]at tZ|-;refine ajq (adG (M.length:Int) AR AD cR cD R rs B Cm Cl E8 yi R' rs' B' dA (by rw [gZ];exact AK) (by rw [kh];exact yx) (by rw [PH];exact ZF) (by rw [Jd];exact YX) hP tZ) O (by rw [gZ,kh,PH,Jd];rfl) O ?_;rintro _ eA ⟨AQ,m,cQ,Lr,AE,cE,bN,BL,rfl,hm9,pT,O5,ax⟩;have eo:St w0 eA (bp A4 0 none 0 0 none 0 0::ar 2 AQ m cQ Lr::br 24 AE m cE bN::(bF 2 bN BL++ks.set ix k3)):=((eI.call ax).sub (show List.Sublist (ar 2 AQ m cQ Lr::br 24 AE m cE bN::(bF 2 bN BL++ (bp A4 0 none 0 0 none 0 0::ks.set ix k3))) _ from List.Sublist.cons_cons _ (List.Sublist.cons_cons _ (List.Sublist.append_left (List.Sublist.cons _ (List.Sublist.cons_cons _ (List.Sublist.cons _ (List.Sublist.cons _ (dz _ _))))) _)))).perm
    (((List.Perm.cons _ (List.Perm.cons _ eK)).trans (List.Perm.cons _ (List.Perm.swap _ _ _))).trans (List.Perm.swap _ _ _))
   refine bS 3 0 eo O O O O O O O fun fY fR=>bD O (fI O (fR.rd 0 O) ?_);have YW:bL fY AE m bN BL:=(fR.sub (((lQ (br 24 AE m cE bN::bF 2 bN BL) (ks.set ix k3)).cons _).cons _)).nn O5;exact BS (Ms pT O5 YW) ⟨by omega,by omega⟩ (by omega) jQ fR
  ·refine aD O (bI 2 fS O O O (bS 3 1 eI O O O O O O O ?_));intro eA eo;refine bD O (fI O (eo.rd 1 O) ?_);exact BS Ah ⟨by omega,by omega⟩ (by omega) jQ eo.tail
 refine cW O (aM _ O (fun c3=>?_) (fun c3=>?_))
 ·refine aD O (aI (bg.rd 0 O) O (fL (j:=0) (bg.rd 0 O) O O O O O (aK O (aI (bg.rd 0 O) O (fL (j:=0) (bg.rd 0 O) O O O O O (dq O ?_))))));refine lj [(M.length:Int)+1,(M.length:Int) - 1,0,6] bg O O (by decide) (by decide) O O fun qo w7 bl=>aF (RV (ar 2 qo 4 4 [(M.length:Int)+1,(M.length:Int) - 1,0,6]::bp A5 (M.length:Int) AR e0 cR AD e0 cD::bp A4 0 none 0 0 none 0 0::ar 2 AR e0 cR R::aU 24 2 AD e0 cD rs B) ix qo 4 4 [(M.length:Int)+1,(M.length:Int) - 1,0,6] bl lO eP (fun w' Y h=>h.bk 0 O) (by decide)) O ?_;rintro _ w8 ⟨y,k3,rfl,hy,jQ,bK⟩;rw [gW]at bK;have bK:St w0 w8 (pc A5 A4 (M.length:Int) AR e0 cR R AD cD rs rs B (ks.set ix k3)):=bK.tail;have KB: -1000<=y/\y<=1000:=by
   simp only [ij,List.not_mem_nil,or_false]at hy;omega
  refine aI (bK.rd 0 O) O (ke 0 (j:=0) bK O O O O O ?_);intro w9 bh;have bh:St w0 w9 (pc A5 A4 y AR e0 cR R AD cD rs rs B (ks.set ix k3)):=bh;refine aq O (bI 2 (bh.rd 0 O) O O O (bS 3 1 bh O O O O O O O ?_));intro dA cj;refine bD O (fI O (cj.rd 1 O) ?_);exact BS Ah KB (by omega) jQ cj.tail
 refine cW O (aM _ O (fun c4=>?_) (fun c4=>?_))
 ·have vD: -900<=(M.length:Int)/\(M.length:Int)<=900:=⟨by omega,by omega⟩;generalize (M.length:Int)=n at*;refine oO (by kernel_rfl) (by kernel_rfl) (fun S e1 w1=>Vo w0 ks ix As A5 A4 n AR e0 cR AD cD rs B S e1 w1) (fun w4 hb=> ⟨O,O,O,O,fun h=> (nomatch h),fun h=> (nomatch h),fun h=> (nomatch h),fun h=> (nomatch h),fun h=> (nomatch h),fun h=> (nomatch h),fun h=> (nomatch h),fun h=> (nomatch h),fun h=> (nomatch h),fun h=> (nomatch h),[],k2,R,eP,fun _=>O,fun h=> (nomatch h),bg.ao hb⟩) ?_ ?_
  ·intro S q o e1 w4 hq aO hd bE hI;obtain⟨f0,f4,f5,f6,p0,p1,p2,p3,p4,p5,p6,p7,p9,db,b,kk,R1,cL,m8,jY,hT⟩:=hI
   match q,hq,aO with
   | 0,hq,aO=>
    obtain rfl:=bj hq;have fS:Rd w4 A5 3 _:=(hT.sub (dz b _)).rd 0 O;refine ajs fS (by exact f5) O O O inferInstance (ak.n ?_);exact⟨f0,f4,f5,f6,fun _=>O,p1,p2,p3,p4,p5,p6,p7,p9,db,b,kk,R1,cL,m8,jY,hT⟩
   | 1,hq,aO=>
    obtain rfl:=bj hq;have fS:Rd w4 A5 3 _:=(hT.sub (dz b _)).rd 0 O;refine ajt (j:=1) fS (by exact p0 (aZ hd 0 O)) O O O O (ak.n ?_);exact⟨f0,f4,f5,f6,p0,fun _=>O,p2,p3,p4,p5,p6,p7,p9,db,b,kk,R1,cL,m8,jY,hT⟩
   | 2,hq,aO=>
    obtain rfl:=bj hq;refine uW O (by exact f0) O (ak.n ?_);exact⟨f0,f4,f5,f6,p0,p1,fun _=>O,p3,p4,p5,p6,p7,p9,db,b,kk,R1,cL,m8,jY,hT⟩
   | 3,hq,aO=>
    obtain rfl:=bj hq;refine jq O (by exact f6) O (ak.n ?_);exact⟨f0,f4,f5,f6,p0,p1,p2,fun _=>O,p4,p5,p6,p7,p9,db,b,kk,R1,cL,m8,jY,hT⟩
   | 4,hq,aO=>
    obtain rfl:=bj hq;have jE:=jl (k':=kk) hk;have hT:St w0 w4 ((b++ (bp A5 n AR e0 cR AD e0 cD::bp A4 0 none 0 0 none 0 0::ar 2 AR e0 cR R1::aU 24 2 AD e0 cD rs B))++ks.set ix kk):=by rw [fK];exact hT
    refine ajq (tu _ ix e0 hT jE cL) O (by exact sC (p2 (aZ hd 2 O)) (p3 (aZ hd 3 O))) O ?_;rintro _ w9 ⟨y,k3,rfl,hy,jQ,hT⟩;rw [gW]at hT;have hT:St w0 w9 (b++pc A5 A4 n AR e0 cR R1 AD cD rs rs B (ks.set ix k3)):=by rw [fK]at hT;exact hT
    exact ak.n ⟨f0,f4,f5,f6,p0,p1,p2,p3,fun _=> ⟨y,O,hy.1,hy.2.1 (by omega)⟩,p5,p6,p7,p9,db,b,k3,R1,jQ,m8,jY,hT⟩
   | 5,hq,aO=>
    obtain rfl:=bj hq;refine uW O (by exact f0) O (ak.n ?_);exact⟨f0,f4,f5,f6,p0,p1,p2,p3,p4,fun _=>O,p6,p7,p9,db,b,kk,R1,cL,m8,jY,hT⟩
   | 6,hq,aO=>
    obtain rfl:=bj hq;have fS:Rd w4 A5 3 _:=(hT.sub (dz b _)).rd 0 O;refine ajs fS (by exact f5) O O O inferInstance (ak.n ?_);exact⟨f0,f4,f5,f6,p0,p1,p2,p3,p4,p5,fun _=>O,p7,p9,db,b,kk,R1,cL,m8,jY,hT⟩
   | 7,hq,aO=>
    obtain rfl:=bj hq;have fS:Rd w4 A5 3 _:=(hT.sub (dz b _)).rd 0 O;refine fL (j:=0) fS (by exact p6 (aZ hd 6 O)) O O O O (ak.n ?_);exact⟨f0,f4,f5,f6,p0,p1,p2,p3,p4,p5,p6,fun _=>O,p9,db,b,kk,R1,cL,m8,jY,hT⟩
   | 8,hq,aO=>
    obtain rfl:=bj hq;obtain rfl:=m8 aO;refine lj [-1,n,0] hT (by show [(0,Value.int .i64 (-1)),(1,e1 149),(2,Value.int .i64 0)]=_;rw [p7 (aZ hd 7 O)];rfl) O (by decide) (by decide) O O ?_;intro A9 w9 hT;refine ak.n ?_;exact⟨f0,f4,f5,f6,p0,p1,p2,p3,p4,p5,p6,p7,p9,db,[ar 2 A9 3 3 [-1,n,0]],kk,R1,cL,fun h=> (nomatch (show true=false from h)),fun _=> ⟨A9,O,O⟩,hT⟩
   | 9,hq,aO=>
    obtain rfl:=bj hq;obtain⟨A9,C6,rfl⟩:=jY (aZ hd 8 rfl);have jE:=jl (k':=kk) hk;have hT:St w0 w4 ((ar 2 A9 3 3 [-1,n,0]::(bp A5 n AR e0 cR AD e0 cD::bp A4 0 none 0 0 none 0 0::ar 2 AR e0 cR R1::aU 24 2 AD e0 cD rs B))++ks.set ix kk):=hT;refine ajq (RV _ ix A9 3 3 [-1,n,0] hT jE cL (fun w' Y h=>h.bk 0 O) (by decide)) O (by exact sC (p5 (aZ hd 5 O)) C6) O ?_;rintro _ w9 ⟨z,k3,rfl,hz,jQ,hT⟩;rw [gW]at hT;exact ak.n ⟨f0,f4,f5,f6,p0,p1,p2,p3,p4,p5,p6,p7,fun _=> ⟨z,O⟩,db,_,k3,R1,jQ,m8,fun _=> ⟨A9,C6,O⟩,hT⟩
   | 10,hq,aO=>
    obtain rfl:=bj hq;obtain⟨y,Yr,D2,nP⟩:=p4 (aZ hd 4 rfl);have AK:bt w4 AR e0 R1:=(hT.sub (dz b _)).bk 2 O;refine ajn AK.2 (by exact p1 (aZ hd 1 O)) (by exact Yr) O (by omega) (by omega) (ak.n ?_);exact⟨f0,f4,f5,f6,p0,p1,p2,p3,p4,p5,p6,p7,p9,fun _=> ⟨y,O,D2,nP⟩,b,kk,R1,cL,m8,jY,hT⟩
   | 11,hq,aO=>
    obtain rfl:=bj hq;obtain⟨A9,C6,rfl⟩:=jY (aZ hd 8 rfl);obtain⟨z,Ys⟩:=p9 (aZ hd 9 rfl);obtain⟨y,Yt,D2,nP⟩:=db (aZ hd 10 rfl);have hT:St w0 w4 (ar 2 A9 3 3 [-1,n,0]::pc A5 A4 n AR e0 cR R1 AD cD rs rs B (ks.set ix kk)):=hT;refine ak.iG 3 (i:=y) hT O (by exact Yt) (by exact Ys) (by omega) ?_;intro w9 hT;exact ak.n ⟨f0,f4,f5,f6,p0,p1,p2,p3,p4,p5,p6,p7,p9,db,[ar 2 A9 3 3 [-1,n,0]],kk,R1.set y.toNat z,cL,m8,fun _=> ⟨A9,C6,O⟩,hT⟩
   | q+12,hq,_=>exact(nomatch hq)
  ·intro S e1 w4 cO hI;obtain⟨f0,f4,f5,f6,p0,p1,p2,p3,p4,p5,p6,p7,p9,db,b,kk,R1,cL,m8,jY,hT⟩:=hI;obtain⟨A9,C6,rfl⟩:=jY (cO 8 (by decide));have hT:St w0 w4 (pc A5 A4 n AR e0 cR R1 AD cD rs rs B (ks.set ix kk)):=hT.tail;refine xT (F:=[(4,.pointer A4),(5,.pointer A5)]) ⟨f4,f5,aw⟩ (fJ O (bI 2 (hT.rd 0 O) O O O (bS 3 1 hT O O O O O O O ?_)));intro w7 bl;refine bD O (fI O (bl.rd 1 O) ?_);exact BS Ah ⟨by omega,by omega⟩ (by omega) cL bl.tail
 refine aD O (bI 2 (bg.rd 0 O) O O O (bS 3 1 bg O O O O O O O ?_));intro w7 bl;refine bD O (fI O (bl.rd 1 O) ?_);exact BS Ah ⟨by omega,by omega⟩ (by omega) eP bl.tail
end
section
abbrev Mx:=ag
def MS(N:Nat)(xss:Mx):Prop:=∀f,f<N->¬Sj (XT N xss (f:Nat)) xss<0
instance (N:Nat)(xss:Mx):Decidable (MS N xss):=by unfold MS;exact inferInstance
end
section
open Go.RowKit
section
variable {P:Program} {N:Nat} {ops:Array Oper} {K:Env->aa->Prop} {rest:List Oper} {e:Env} {w:aa} {d:Nat} {ty:ad} {pos:String} {af:Array Edge}
end
theorem iT.drop{w:aa}{A:ai}{n c l:Nat}{xs:List aX}(hR:iT w A n xs)(hl:l<=n)(hc:n<=c):iT w (cutAt A c l) (n - l) (xs.drop l):=by
 have h:=hR.cut hl (dC n) hc
 rwa [kA (by rw [List.length_drop,hR.1];exact dC _)]at h
section
variable {P:Program} {N:Nat} {ops:Array Oper} {K:Env->aa->Prop} {rest:List Oper} {e:Env} {w0 w w':aa} {ks:List Ck} {d:Nat} {ty:ad} {pos:String} {af:Array Edge}
end
def Hl(w0:aa)(ks:List Ck)(ix:Nat)(As:ai)(v:ab)(w':aa):Prop:=
 ∃(n:Nat) (A:ai) (c:Nat) (rs:List aX) (xss:ag) (X:List Ck) (k':Ck),v= .agg #[.slice A n c]/\n<=6/\(n<=c/\c<=9223372036854775807)/\(∀p∈xss,p.length<=20001/\∀x∈p,-1<=x/\x<=20001)/\eQ w0 As k'/\(∀(fX:aa) (Y:List Ck),St w0 fX (X++Y)->bL fX A n rs xss)/\St w0 w' (X++ks.set ix k')
theorem IP{α:Type}(d:α)(xs:List α)(i:Nat):(xs.drop 1).getD i d=xs.getD (i+1) d:=by
 cases xs with
 | nil=>rfl
 | cons a r=>rfl
theorem bL.Xo{w:aa}{A:ai}{n c:Nat}{rs:List aX}{xss:ag}(h:bL w A n rs xss)(hn:1<=n)(hc:n<=c):bL w (cutAt A c 1) (n - 1) (rs.drop 1) (xss.drop 1):=by
 refine⟨h.top.drop hn hc,by rw [List.length_drop,h.len],fun i hi=>?_,fun i hi=>?_⟩
 ·rw [IP,IP];exact h.row (i+1) (by omega)
 rw [IP];exact h.cap (i+1) (by omega)
structure Vu(w0:aa)(ks:List Ck)(ix:Nat)(As A4 A5:ai)(n N:Nat)(A:ai)(c:Nat)(rs:List aX)(xss:ag)(S:Nat->Bool)(e:Env)(w:aa):Prop where
 f0:e 0= .pointer As
 f4:e 4= .pointer A4
 f5:e 5= .pointer A5
 f6:e 6=aj N
 p0:S 0=true->e 30= .pointer (aB A5 0)
 p1:S 1=true->e 31= .slice A n c
 p2:S 2=true->e 32= .pointer As
 p3:S 3=true->e 33=aj N
 p7:S 7=true->e 37= .pointer (aB A5 0)
 mem:∃(Am:ai) (cm:Nat) (ps:ah) (lJ A':ai) (c':Nat) (b1 b2:List Ck) (b3 kk:Ck) (vs:List ab),eQ w0 As kk/\(S 4=true->e 34= .slice Am N cm/\Rg N ps/\b1=[ar 2 Am N cm ps])/\(S 5=true->e 35= .slice lJ 1 1/\b2=[br 24 lJ 1 1 [⟨Am,N,cm⟩]])/\(S 6=false->b3=br 24 A n c rs)/\(S 6=true->e 36= .slice A' (n+1) c'/\b3=br 24 A' (n+1) c' (rs++ [⟨Am,N,cm⟩]))/\(S 8=false->vs=[.slice A n c])/\(S 8=true->vs=[.slice A' (n+1) c'])/\
  St w0 w (Bx 31 1 A5 vs::Bx 31 1 A4 [.slice none 0 0]::b3::(bF 2 rs xss++ (b2++ (b1++ks.set ix kk))))
theorem adt{w0 w:aa}{ks:List Ck}(X:List Ck)(ix:Nat){As:ai}{k:Ck}(n:Nat)(hS:St w0 w (X++ks))(hk:ks[ix]?=some k)(hK:eQ w0 As k)(hn:n<=1000000):
 aG prog 245 [.pointer As,aj n] w (fun v w'=>∃A c xs k',v= .slice A n c/\Rg n xs/\eQ w0 As k'/\St w0 w' (ar 2 A n c xs::(X++ks.set ix k'))):=by
 have e:(X++ks)[X.length+ix]?=some k:=by
  rw [jW (by omega),Nat.add_sub_cancel_left];exact hk
 refine(RS (X.length+ix) n hS e hK hn).mono ?_;rintro v w' ⟨A,c,xs,k',h1,h2,h3,h4⟩;rw [show(X++ks).set (X.length+ix) k'=X++ks.set ix k' from by rw [List.set_append,aR (by omega),Nat.add_sub_cancel_left]]at h4;exact⟨A,c,xs,k',h1,h2,h3,h4⟩
theorem pb{S:Nat->Bool}{j k:Nat}(aO:S k=false)(h:S j=true->S k=true):S j=false:=by
 cases hj:S j with
 | false=>rfl
 | true=>rw [<-aO];exact(h hj).symm
structure Vt(w0:aa)(ks:List Ck)(ix:Nat)(As A4 A5:ai)(n N:Nat)(A:ai)(c:Nat)(a0:ai)(c0:Nat)(dX:List aX)(jA:ag)(S:Nat->Bool)(e:Env)(w:aa):Prop where
 f0:e 0= .pointer As
 f4:e 4= .pointer A4
 f5:e 5= .pointer A5
 f6:e 6=aj N
 p0:S 0=true->e 16= .pointer (aB A5 0)
 p1:S 1=true->e 17= .slice A n c
 p2:S 2=true->e 18= .pointer (aB A 0)
 p3:S 3=true->e 19= .slice a0 N c0
 p4:S 4=true->e 20= .pointer As
 p5:S 5=true->e 21=aj N
 p6:S 6=true->∃r:Int,e 22=aj r/\0<=r/\r<N
 p7:S 7=true->e 23= .pointer As
 p8:S 8=true->e 24=aj N
 db:S 10=true->∃x:Int,e 26=aj x/\ -1<=x/\x<=20001
 gG:S 11=true->∃r:Int,e 27= .pointer (aB a0 r.toNat)/\0<=r/\r<N
 mem:∃(y:ah) (lI:ai) (b1:List Ck) (kk:Ck),eQ w0 As kk/\(y.length=N/\∀x∈y,-1<=x/\x<=20001)/\(S 9=true->e 25= .slice lI 3 3/\b1=[ar 2 lI 3 3 [-1,(N:Int),0]])/\
  St w0 w (Bx 31 1 A5 [.slice A n c]::Bx 31 1 A4 [.slice none 0 0]::br 24 A n c (⟨a0,N,c0⟩::dX)::ar 2 a0 N c0 y::(bF 2 dX jA++ (b1++ks.set ix kk)))
structure Vv(w0:aa)(ks:List Ck)(ix:Nat)(As A4 A5:ai)(n N:Nat)(A:ai)(c:Nat)(a0:ai)(c0:Nat)(dX:List aX)(x0:ah)(jA:ag)(kk:Ck)(S:Nat->Bool)(e:Env)(w:aa):Prop where
 f4:e 4= .pointer A4
 f5:e 5= .pointer A5
 f6:e 6=aj N
 p0:S 0=true->e 44= .pointer (aB A5 0)
 p1:S 1=true->e 45= .slice A n c
 p2:S 2=true->e 46= .pointer (aB A5 0)
 p3:S 3=true->e 47= .slice A n c
 p4:S 4=true->e 48= .pointer (aB A 0)
 p5:S 5=true->e 49= .slice a0 N c0
 p6:S 6=true->e 50=aj N
 p9:S 9=true->e 53= .pointer (aB A 0)
 mem:∃(mL A':ai) (c':Nat) (b1:List Ck) (b3 b4:Ck),(S 7=true->e 51= .slice mL 1 1/\b1=[ar 2 mL 1 1 [(N:Int)]])/\(S 8=false->b3=ar 2 a0 N c0 x0)/\(S 8=true->e 52= .slice A' (N+1) c'/\b3=ar 2 A' (N+1) c' (x0++ [(N:Int)]))/\(S 10=false->b4=br 24 A n c (⟨a0,N,c0⟩::dX))/\(S 10=true->b4=br 24 A n c (⟨A',N+1,c'⟩::dX))/\
  St w0 w (Bx 31 1 A5 [.slice A n c]::Bx 31 1 A4 [.slice none 0 0]::b4::b3::(bF 2 dX jA++ (b1++ks.set ix kk)))
theorem adw{w0 w:aa}{ks:List Ck}(X:List Ck)(ix:Nat){As:ai}{k:Ck}(A:ai)(n c:Nat)(xs:ah)(hS:St w0 w (X++ks))(hk:ks[ix]?=some k)(hK:eQ w0 As k)(hR:∀k' w',St w0 w' (X++ks.set ix k')->bt w' A n xs)(hn:0<n/\n<=1000000):
 aG prog 232 [.pointer As,.slice A n c] w (fun v w'=>∃(x:Int) (k':Ck),v=aj x/\x∈xs/\eQ w0 As k'/\St w0 w' (X++ks.set ix k')):=by
 have e:(X++ks)[X.length+ix]?=some k:=by
  rw [jW (by omega),Nat.add_sub_cancel_left];exact hk
 have e2:∀k',(X++ks).set (X.length+ix) k'=X++ks.set ix k':=fun k'=>by rw [List.set_append,aR (by omega),Nat.add_sub_cancel_left]
 refine(RW (X.length+ix) A n c xs hS e hK (fun k' w' h=>hR k' w' (by rwa [e2]at h)) hn).mono ?_;rintro v w' ⟨x,k',h1,h2,h3,h4⟩;rw [e2]at h4;exact⟨x,k',h1,h2,h3,h4⟩
theorem adF{w0 w:aa}{ks:List Ck}(ix:Nat){As:ai}{k:Ck}(most:Nat)(hS:St w0 w ks)(hk:ks[ix]?=some k)(hK:eQ w0 As k)(hm:8<=most/\most<=1000):
 aG prog 189 [.pointer As,aj most] w (Hl w0 ks ix As):=by
 refine bw func189 O ntmps189 O (kX O O) (bb O (jN hS O ?_));intro A4 w1 aC;refine aq O (aF (Gy (ix+1) most aC (by exact hk) hK hm) O ?_);rintro _ w2 ⟨n,N,A,c,rs,xss,k1,rfl,hn,hN,bT,di,hG,iO,aE⟩;refine jN aE O fun A5 w3 aH=>bS 1 0 aH O O O O O O O ?_;intro w4 aQ;have aQ:St w0 w4 (Bx 31 1 A5 [.slice A n c]::(aU 24 2 A n c rs xss++ (Bx 31 1 A4 [.slice none 0 0]::ks.set ix k1))):=aQ;have aQ:St w0 w4 (Bx 31 1 A5 [.slice A n c]::Bx 31 1 A4 [.slice none 0 0]::(aU 24 2 A n c rs xss++ks.set ix k1)):=aQ.perm (List.Perm.cons _ eK);have fA:=jl (k':=k1) hk;refine aq O (bI 0 (aQ.rd 0 O) O O O (aF (xH A n c rs xss w4 (St.eU aQ.tail.tail (by omega)) (by omega)) O ?_));rintro _ w5 ⟨rfl,hT⟩;have a8:=aQ.ao hT.below;rw [hG.first (by omega)];refine aq O (aF (tu (Bx 31 1 A5 [.slice A n c]::Bx 31 1 A4 [.slice none 0 0]::aU 24 2 A n c rs xss) ix 40 a8 fA iO) O ?_);rintro _ w6 ⟨r,k2,rfl,hr,eP,bg⟩;rw [gW]at bg;have bg:St w0 w6 (Bx 31 1 A5 [.slice A n c]::Bx 31 1 A4 [.slice none 0 0]::(aU 24 2 A n c rs xss++ks.set ix k2)):=bg;have lO:=jl (k':=k2) hk;have gD:n<=c/\c<=9223372036854775807:=bg.cap 2 O;have iP:∀p∈xss,p.length<=20001/\∀x∈p,-1<=x/\x<=20001:=fun p hp=> ⟨by have:=(hG p hp).1;omega,fun x hx=>by have:=(hG p hp).2 x hx;omega⟩
 refine az O (aM _ O (fun h1=>?_) (fun h1=>?_))
 ·obtain⟨r0,dX,rfl⟩:∃r0 dX,rs=r0::dX:=by cases rs with | nil=>exact absurd bT (by simp;omega) | cons a b=>exact⟨a,b,rfl⟩
  obtain⟨x0,jA,rfl⟩:∃x0 jA,xss=x0::jA:=by cases xss with | nil=>exact absurd di (by simp;omega) | cons a b=>exact⟨a,b,rfl⟩
  obtain⟨a0,n0,c0⟩:=r0;have nO:x0.length=N:=(hG x0 (List.mem_cons_self)).1;have kq:x0.length=n0:=((St.eU bg.tail.tail di).at_ (i:=0) (by omega) (by omega)).1;obtain rfl:n0=N:=by omega
  refine oO (by kernel_rfl) (by kernel_rfl) (fun S e1 w1=>Vt w0 ks ix As A4 A5 n n0 A c a0 c0 dX jA S e1 w1) (fun w7 hb=> ⟨O,O,O,O,fun h=> (nomatch h),fun h=> (nomatch h),fun h=> (nomatch h),fun h=> (nomatch h),fun h=> (nomatch h),fun h=> (nomatch h),fun h=> (nomatch h),fun h=> (nomatch h),fun h=> (nomatch h),fun h=> (nomatch h),fun h=> (nomatch h),x0,none,[],k2,eP,⟨nO,(iP x0 List.mem_cons_self).2⟩,fun h=> (nomatch h),bg.ao hb⟩) ?_ ?_
  ·intro S i o e1 w7 hq aO hd bE hI;obtain⟨f0,f4,f5,f6,p0,p1,p2,p3,p4,p5,p6,p7,p8,db,gG,y,lI,b1,kk,cL,hy,m9,hT⟩:=hI;have jE:=jl (k':=kk) hk;have eX:∀Y,(Bx 31 1 A5 [.slice A n c]::Bx 31 1 A4 [.slice none 0 0]::br 24 A n c (⟨a0,n0,c0⟩::dX)::ar 2 a0 n0 c0 y::(bF 2 dX jA++ (b1++Y)))=(Bx 31 1 A5 [.slice A n c]::Bx 31 1 A4 [.slice none 0 0]::br 24 A n c (⟨a0,n0,c0⟩::dX)::ar 2 a0 n0 c0 y::(bF 2 dX jA++b1))++Y:=fun Y=>by simp
   have mX:=hT;rw [eX]at mX
   match i,hq,aO with
   | 0,hq,aO=>
    obtain rfl:=bj hq;refine ajs (hT.rd 0 O) (by exact f5) O O O inferInstance (ak.n ?_);exact⟨f0,f4,f5,f6,fun _=>O,p1,p2,p3,p4,p5,p6,p7,p8,db,gG,y,lI,b1,kk,cL,hy,m9,hT⟩
   | 1,hq,aO=>
    obtain rfl:=bj hq;refine ajt (hT.rd 0 O) (by exact p0 (aZ hd 0 O)) O O O O (ak.n ?_);exact⟨f0,f4,f5,f6,p0,fun _=>O,p2,p3,p4,p5,p6,p7,p8,db,gG,y,lI,b1,kk,cL,hy,m9,hT⟩
   | 2,hq,aO=>
    obtain rfl:=bj hq;refine ajn (hT.rd 2 O) (by exact p1 (aZ hd 1 O)) O O (by omega) (by show(0:Int)< (n:Int);omega) ?_;exact ak.n ⟨f0,f4,f5,f6,p0,p1,fun _=>O,p3,p4,p5,p6,p7,p8,db,gG,y,lI,b1,kk,cL,hy,m9,hT⟩
   | 3,hq,aO=>
    obtain rfl:=bj hq;refine aju (i:=0) (hT.fq 2 O) (by exact p2 (aZ hd 2 O)) (by show 0<n;omega) O O ?_;exact ak.n ⟨f0,f4,f5,f6,p0,p1,p2,fun _=>O,p4,p5,p6,p7,p8,db,gG,y,lI,b1,kk,cL,hy,m9,hT⟩
   | 4,hq,aO=>
    obtain rfl:=bj hq;refine uW O (by exact f0) O (ak.n ?_);exact⟨f0,f4,f5,f6,p0,p1,p2,p3,fun _=>O,p5,p6,p7,p8,db,gG,y,lI,b1,kk,cL,hy,m9,hT⟩
   | 5,hq,aO=>
    obtain rfl:=bj hq;refine jq O (by exact f6) O (ak.n ?_);exact⟨f0,f4,f5,f6,p0,p1,p2,p3,p4,fun _=>O,p6,p7,p8,db,gG,y,lI,b1,kk,cL,hy,m9,hT⟩
   | 6,hq,aO=>
    obtain rfl:=bj hq;refine ajq (tu _ ix n0 mX jE cL) O (by exact sC (p4 (aZ hd 4 O)) (p5 (aZ hd 5 O))) O ?_;rintro _ w8 ⟨r7,k7,rfl,ux,vo,fg⟩;rw [gW,<-eX]at fg;exact ak.n ⟨f0,f4,f5,f6,p0,p1,p2,p3,p4,p5,fun _=> ⟨r7,O,ux.1,ux.2.1 (by omega)⟩,p7,p8,db,gG,y,lI,b1,k7,vo,hy,m9,fg⟩
   | 7,hq,aO=>
    obtain rfl:=bj hq;refine uW O (by exact f0) O (ak.n ?_);exact⟨f0,f4,f5,f6,p0,p1,p2,p3,p4,p5,p6,fun _=>O,p8,db,gG,y,lI,b1,kk,cL,hy,m9,hT⟩
   | 8,hq,aO=>
    obtain rfl:=bj hq;refine jq O (by exact f6) O (ak.n ?_);exact⟨f0,f4,f5,f6,p0,p1,p2,p3,p4,p5,p6,p7,fun _=>O,db,gG,y,lI,b1,kk,cL,hy,m9,hT⟩
   | 9,hq,aO=>
    obtain rfl:=bj hq;refine lj [-1,(n0:Int),0] (hT.sub (List.Sublist.cons_cons _ (List.Sublist.cons_cons _ (List.Sublist.cons_cons _ (List.Sublist.cons_cons _ ((dY _).append (dz _ _))))))) (by have rK:e1 24=aj n0:=p8 (aZ hd 8 O);simp [ev,rK,zh]) O (by decide) (by decide) O O ?_;intro lI w8 gK;have jy:St w0 w8 (Bx 31 1 A5 [.slice A n c]::Bx 31 1 A4 [.slice none 0 0]::br 24 A n c (⟨a0,n0,c0⟩::dX)::ar 2 a0 n0 c0 y::(bF 2 dX jA++ ([ar 2 lI 3 3 [-1,(n0:Int),0]]++ks.set ix kk))):=gK.perm (eK (l₁:=Bx 31 1 A5 [.slice A n c]::Bx 31 1 A4 [.slice none 0 0]::br 24 A n c (⟨a0,n0,c0⟩::dX)::ar 2 a0 n0 c0 y::bF 2 dX jA)).symm;exact ak.n ⟨f0,f4,f5,f6,p0,p1,p2,p3,p4,p5,p6,p7,p8,db,gG,y,lI,_,kk,cL,hy,fun _=> ⟨O,O⟩,jy⟩
   | 10,hq,aO=>
    obtain rfl:=bj hq;obtain⟨OO,rfl⟩:=m9 (aZ hd 9 rfl);refine ajq (adw _ ix lI 3 3 [-1,(n0:Int),0] mX jE cL (fun k' w' h=>by rw [<-eX]at h;exact St.bk (i:=0) (h.sub (((dz _ _).cons _).cons _ |>.cons _ |>.cons _)) O) (by decide)) O (by exact sC (p7 (aZ hd 7 O)) OO) O ?_;rintro _ w8 ⟨x,k7,rfl,hx,vo,fg⟩;rw [gW,<-eX]at fg;have KA: -1<=x/\x<=20001:=by
     simp only [ij,List.not_mem_nil,or_false]at hx;rcases hx with rfl | rfl | rfl<;>omega
    exact ak.n ⟨f0,f4,f5,f6,p0,p1,p2,p3,p4,p5,p6,p7,p8,fun _=> ⟨x,O,KA⟩,gG,y,lI,_,k7,vo,hy,fun _=> ⟨OO,O⟩,fg⟩
   | 11,hq,aO=>
    obtain rfl:=bj hq;obtain⟨r,Yy,hr⟩:=p6 (aZ hd 6 rfl);refine ajn (hT.rd 3 O) (by exact p3 (aZ hd 3 O)) (by exact Yy) O (by omega) (by show r< (n0:Int);omega) ?_;exact ak.n ⟨f0,f4,f5,f6,p0,p1,p2,p3,p4,p5,p6,p7,p8,db,fun _=> ⟨r,O,hr⟩,y,lI,b1,kk,cL,hy,m9,hT⟩
   | 12,hq,aO=>
    obtain rfl:=bj hq;obtain⟨r,vi,hr⟩:=gG (aZ hd 11 rfl);obtain⟨x,I4,hx⟩:=db (aZ hd 10 rfl);refine ak.iG 3 hT O (by exact vi) (by exact I4) (by omega) ?_;intro w8 gK;refine ak.n ?_;exact⟨f0,f4,f5,f6,p0,p1,p2,p3,p4,p5,p6,p7,p8,db,gG,y.set r.toNat x,lI,b1,kk,cL,⟨by rw [iR];exact hy.1,fun z hz=> (List.mem_or_eq_of_mem_set hz).elim (hy.2 z) (fun h=>h▸hx)⟩,m9,gK⟩
   | i+13,hq,_=>exact(nomatch hq)
  ·intro S e1 w7 cO hI;obtain⟨f0,f4,f5,f6,p0,p1,p2,p3,p4,p5,p6,p7,p8,db,gG,y,lI,b1,kk,cL,hy,m9,hT⟩:=hI;refine xT (F:=[(4,.pointer A4),(5,.pointer A5)]) ⟨f4,f5,aw⟩ (fJ O (bI 0 (hT.rd 0 O) O O O (bS 1 1 hT O O O O O O O ?_)));intro iH jg;refine bD O (fI O (jg.rd 1 O) ?_);exact⟨n,A,c,⟨a0,n0,c0⟩::dX,y::jA,aU 24 2 A n c (⟨a0,n0,c0⟩::dX) (y::jA),kk,O,by omega,gD,fun p hp=> (ij.1 hp).elim (fun h=>h▸⟨by omega,hy.2⟩) (fun h=>iP p (eb _ h)),cL,fun fX Y h=>St.eU h (by simpa using di),jg.tail.tail.sub (List.Sublist.cons_cons _ (List.Sublist.cons_cons _ ((dY _).append (dz _ _))))⟩
 ·refine cW O (aM _ O (fun h2=>?_) (fun h2=>?_))
  ·skip
   refine oO (by kernel_rfl) (by kernel_rfl) (fun S e1 w1=>Vu w0 ks ix As A4 A5 n N A c rs xss S e1 w1) (fun w7 hb=> ⟨O,O,O,O,fun h=> (nomatch h),fun h=> (nomatch h),fun h=> (nomatch h),fun h=> (nomatch h),fun h=> (nomatch h),none,0,[],none,none,0,[],[],br 24 A n c rs,k2,[.slice A n c],eP,fun h=> (nomatch h),fun h=> (nomatch h),fun _=>O,fun h=> (nomatch h),fun _=>O,fun h=> (nomatch h),bg.ao hb⟩) ?_ ?_
   ·intro S i o e1 w7 hq aO hd bE hI;obtain⟨f0,f4,f5,f6,p0,p1,p2,p3,p7,Am,cm,ps,lJ,A',c',b1,b2,b3,kk,vs,cL,m4,m5,uG,m6,kI,m8,hT⟩:=hI
    match i,hq,aO with
    | 0,hq,aO=>
     obtain rfl:=bj hq;refine ajs (hT.rd 0 O) (by exact f5) O O O inferInstance (ak.n ?_);exact⟨f0,f4,f5,f6,fun _=>O,p1,p2,p3,p7,Am,cm,ps,lJ,A',c',b1,b2,b3,kk,vs,cL,m4,m5,uG,m6,kI,m8,hT⟩
    | 1,hq,aO=>
     obtain rfl:=bj hq;obtain rfl:=kI (pb aO fun h=>aZ (bE 8 _ h rfl) 1 rfl);refine ajt (hT.rd 0 O) (by exact p0 (aZ hd 0 O)) O O O O (ak.n ?_);exact⟨f0,f4,f5,f6,p0,fun _=>O,p2,p3,p7,Am,cm,ps,lJ,A',c',b1,b2,b3,kk,_,cL,m4,m5,uG,m6,kI,m8,hT⟩
    | 2,hq,aO=>
     obtain rfl:=bj hq;refine uW O (by exact f0) O (ak.n ?_);exact⟨f0,f4,f5,f6,p0,p1,fun _=>O,p3,p7,Am,cm,ps,lJ,A',c',b1,b2,b3,kk,vs,cL,m4,m5,uG,m6,kI,m8,hT⟩
    | 3,hq,aO=>
     obtain rfl:=bj hq;refine jq O (by exact f6) O (ak.n ?_);exact⟨f0,f4,f5,f6,p0,p1,p2,fun _=>O,p7,Am,cm,ps,lJ,A',c',b1,b2,b3,kk,vs,cL,m4,m5,uG,m6,kI,m8,hT⟩
    | 4,hq,aO=>
     obtain rfl:=bj hq;have jE:=jl (k':=kk) hk;have n5:S 5=false:=(pb aO fun h=>aZ (bE 5 _ h O) 4 O);have n6:S 6=false:=(pb aO fun h=>aZ (bE 6 _ h O) 4 O);have mX:St w0 w7 ((Bx 31 1 A5 vs::Bx 31 1 A4 [.slice none 0 0]::b3::(bF 2 rs xss++b2))++ks.set ix kk):=hT.sub (List.Sublist.cons_cons _ (List.Sublist.cons_cons _ (List.Sublist.cons_cons _ (by show List.Sublist ((bF 2 rs xss++b2)++ks.set ix kk) _;rw [fK];exact(dY _).append ((dY _).append (dz _ _))))));refine ajq (adt _ ix N mX jE cL (by omega)) O (by exact sC (p2 (aZ hd 2 O)) (p3 (aZ hd 3 O))) O ?_;rintro _ w8 ⟨Am,cm,ps,k7,rfl,kp,vo,fg⟩;rw [gW]at fg;have gK:St w0 w8 (Bx 31 1 A5 vs::Bx 31 1 A4 [.slice none 0 0]::b3::(bF 2 rs xss++ (b2++ ([ar 2 Am N cm ps]++ks.set ix k7)))):=by
      have e:(Bx 31 1 A5 vs::Bx 31 1 A4 [.slice none 0 0]::b3::(bF 2 rs xss++ (b2++ ([ar 2 Am N cm ps]++ks.set ix k7))))=(Bx 31 1 A5 vs::Bx 31 1 A4 [.slice none 0 0]::b3::(bF 2 rs xss++b2))++ (ar 2 Am N cm ps::ks.set ix k7):=by simp
      rw [e];exact fg.perm eK.symm
     exact ak.n ⟨f0,f4,f5,f6,p0,p1,p2,p3,p7,Am,cm,ps,lJ,A',c',[ar 2 Am N cm ps],b2,b3,k7,vs,vo,fun _=> ⟨O,kp,O⟩,fun h=> (nomatch n5.symm.trans h),uG,fun h=> (nomatch n6.symm.trans h),kI,m8,gK⟩
    | 5,hq,aO=>
     obtain rfl:=bj hq;obtain⟨OQ,kp,rfl⟩:=m4 (aZ hd 4 rfl);have n6:S 6=false:=(pb aO fun h=>aZ (bE 6 _ h O) 5 O);refine lU (hT.sub (ks':=Bx 31 1 A5 vs::Bx 31 1 A4 [.slice none 0 0]::b3::(bF 2 rs xss++ ([ar 2 Am N cm ps]++ks.set ix kk))) (List.Sublist.cons_cons _ (List.Sublist.cons_cons _ (List.Sublist.cons_cons _ ((dY _).append (dz _ _)))))) (by exact OQ) O O ?_;intro lJ w8 gK;have gK:St w0 w8 (Bx 31 1 A5 vs::Bx 31 1 A4 [.slice none 0 0]::b3::(bF 2 rs xss++ ([br 24 lJ 1 1 [⟨Am,N,cm⟩]]++ ([ar 2 Am N cm ps]++ks.set ix kk)))):=gK.perm (eK (l₁:=Bx 31 1 A5 vs::Bx 31 1 A4 [.slice none 0 0]::b3::bF 2 rs xss)).symm;exact ak.n ⟨f0,f4,f5,f6,p0,p1,p2,p3,p7,Am,cm,ps,lJ,A',c',_,[br 24 lJ 1 1 [⟨Am,N,cm⟩]],b3,kk,vs,cL,fun _=> ⟨OQ,kp,O⟩,fun _=> ⟨O,O⟩,uG,fun h=> (nomatch n6.symm.trans h),kI,m8,gK⟩
    | 6,hq,aO=>
     obtain rfl:=bj hq;obtain⟨C7,rfl⟩:=m5 (aZ hd 5 rfl);obtain rfl:=uG aO;have n8:S 8=false:=(pb aO fun h=>aZ (bE 8 _ h O) 6 O);have hR:iT w7 lJ 1 [⟨Am,N,cm⟩]:=St.fq (i:=0) (hT.sub (ks':=br 24 lJ 1 1 [⟨Am,N,cm⟩]::(b1++ks.set ix kk)) (((dz _ _).cons _).cons _ |>.cons _)) O;refine lS 2 hT O hR (by exact p1 (aZ hd 1 O)) (by exact C7) O (by omega) (by omega) O ?_;intro A' c' w8 gK;refine ak.n ?_;exact⟨f0,f4,f5,f6,p0,p1,p2,p3,p7,Am,cm,ps,lJ,A',c',b1,_,br 24 A' (n+1) c' (rs++ [⟨Am,N,cm⟩]),kk,vs,cL,m4,fun _=> ⟨C7,O⟩,fun h=> (nomatch (show true=false from h)),fun _=> ⟨O,O⟩,kI,fun h=> (nomatch n8.symm.trans h),gK⟩
    | 7,hq,aO=>
     obtain rfl:=bj hq;refine ajs (hT.rd 0 O) (by exact f5) O O O inferInstance (ak.n ?_);exact⟨f0,f4,f5,f6,p0,p1,p2,p3,fun _=>O,Am,cm,ps,lJ,A',c',b1,b2,b3,kk,vs,cL,m4,m5,uG,m6,kI,m8,hT⟩
    | 8,hq,aO=>
     obtain rfl:=bj hq;obtain⟨OR,rfl⟩:=m6 (aZ hd 6 rfl);obtain rfl:=kI aO;refine ke 0 hT O (by exact p7 (aZ hd 7 O)) (by exact OR) O O ?_;intro w8 gK;refine ak.n ?_;exact⟨f0,f4,f5,f6,p0,p1,p2,p3,p7,Am,cm,ps,lJ,A',c',b1,b2,_,kk,[.slice A' (n+1) c'],cL,m4,m5,uG,fun _=> ⟨OR,O⟩,fun h=> (nomatch (show true=false from h)),fun _=>O,gK⟩
    | i+9,hq,_=>exact(nomatch hq)
   ·intro S e1 w7 cO hI;obtain⟨f0,f4,f5,f6,p0,p1,p2,p3,p7,Am,cm,ps,lJ,A',c',b1,b2,b3,kk,vs,cL,m4,m5,uG,m6,kI,m8,hT⟩:=hI;obtain⟨_,kp,rfl⟩:=m4 (cO 4 (by decide));obtain⟨_,rfl⟩:=m6 (cO 6 (by decide));obtain rfl:=m8 (cO 8 (by decide));have aaf:n+1<=c'/\c'<=9223372036854775807:=hT.cap 2 O;have hT:St w0 w7 (Bx 31 1 A5 [.slice A' (n+1) c']::Bx 31 1 A4 [.slice none 0 0]::(aU 24 2 A' (n+1) c' (rs++ [⟨Am,N,cm⟩]) (xss++ [ps])++ks.set ix kk)):=by
     refine(hT.sub (ks':=Bx 31 1 A5 [.slice A' (n+1) c']::Bx 31 1 A4 [.slice none 0 0]::br 24 A' (n+1) c' (rs++ [⟨Am,N,cm⟩])::(bF 2 rs xss++ ([ar 2 Am N cm ps]++ks.set ix kk))) (List.Sublist.cons_cons _ (List.Sublist.cons_cons _ (List.Sublist.cons_cons _ ((dY _).append (dz _ _)))))).perm ?_;refine List.Perm.cons _ (List.Perm.cons _ ?_);show List.Perm _ (br 24 A' (n+1) c' (rs++ [⟨Am,N,cm⟩])::(bF 2 (rs++ [⟨Am,N,cm⟩]) (xss++ [ps])++ks.set ix kk));rw [tp (by omega),<-fK];exact List.Perm.refl _
    refine xT (F:=[(4,.pointer A4),(5,.pointer A5)]) ⟨f4,f5,aw⟩ (fJ O (bI 0 (hT.rd 0 O) O O O (bS 1 1 hT O O O O O O O ?_)));intro iH jg;refine bD O (fI O (jg.rd 1 O) ?_);exact⟨n+1,A',c',_,xss++ [ps],_,kk,rfl,by omega,aaf,fun p hp=> (eD.1 hp).elim (iP p) (fun h=>by rw [dK]at h;subst h;exact⟨by have:=kp.1;omega,fun x hx=>by have:=kp.2 x hx;omega⟩),cL,fun fX Y h=>St.eU h (by simp [di]),jg.tail.tail⟩
  ·refine cW O (aM _ O (fun h3=>?_) (fun h3=>?_))
   ·refine aD O (fZ bg O ?_);intro fj w7 bl;refine aI (bl.rd 1 O) O (ke 1 bl O O O O O ?_);intro w8 bK;have bK:St w0 w8 ([Bx 31 1 A5 [.slice fj 0 0],Bx 31 1 A4 [.slice none 0 0]]++ (aU 24 2 fj 0 0 [] []++ks.set ix k2)):=by
     refine(bK.sub (ks':=aU 24 2 fj 0 0 [] []++ ([Bx 31 1 A5 [.slice fj 0 0],Bx 31 1 A4 [.slice none 0 0]]++ks.set ix k2)) ?_).perm ?_
     ·exact List.Sublist.cons_cons _ (List.Sublist.cons_cons _ (List.Sublist.cons_cons _ (dz _ _)))
     ·exact(eK (l₁:=[_,_])).symm
    refine aq O (bI 0 (bK.rd 0 O) O O O (bS 1 1 bK O O O O O O O ?_));intro iH jg;refine bD O (fI O (jg.rd 1 O) ?_);exact⟨0,fj,0,[],[],_,k2,O,by omega,by decide,fun p hp=> (nomatch hp),eP,fun fX Y h=>St.eU h O,jg.tail.tail⟩
   ·refine cW O (aM _ O (fun h4=>?_) (fun h4=>?_))
    ·obtain⟨r0,dX,rfl⟩:∃r0 dX,rs=r0::dX:=by cases rs with | nil=>exact absurd bT (by simp;omega) | cons a b=>exact⟨a,b,rfl⟩
     obtain⟨x0,jA,rfl⟩:∃x0 jA,xss=x0::jA:=by cases xss with | nil=>exact absurd di (by simp;omega) | cons a b=>exact⟨a,b,rfl⟩
     obtain⟨a0,n0,c0⟩:=r0;have nO:x0.length=N:=(hG x0 (List.mem_cons_self)).1;have kq:x0.length=n0:=((St.eU bg.tail.tail di).at_ (i:=0) (by omega) (by omega)).1;obtain rfl:n0=N:=by omega
     refine oO (by kernel_rfl) (by kernel_rfl) (fun S e1 w1=>Vv w0 ks ix As A4 A5 n n0 A c a0 c0 dX x0 jA k2 S e1 w1) (fun w7 hb=> ⟨O,O,O,fun h=> (nomatch h),fun h=> (nomatch h),fun h=> (nomatch h),fun h=> (nomatch h),fun h=> (nomatch h),fun h=> (nomatch h),fun h=> (nomatch h),fun h=> (nomatch h),none,none,0,[],_,_,fun h=> (nomatch h),fun _=>O,fun h=> (nomatch h),fun _=>O,fun h=> (nomatch h),bg.ao hb⟩) ?_ ?_
     ·intro S i o e1 w7 hq aO hd bE hI;obtain⟨f4,f5,f6,p0,p1,p2,p3,p4,p5,p6,p9,mL,A',c',b1,b3,b4,m7,kI,m8,o9,m10,hT⟩:=hI
      match i,hq,aO with
      | 0,hq,aO=>
       obtain rfl:=bj hq;refine ajs (hT.rd 0 O) (by exact f5) O O O inferInstance (ak.n ?_);exact⟨f4,f5,f6,fun _=>O,p1,p2,p3,p4,p5,p6,p9,mL,A',c',b1,b3,b4,m7,kI,m8,o9,m10,hT⟩
      | 1,hq,aO=>
       obtain rfl:=bj hq;refine ajt (hT.rd 0 O) (by exact p0 (aZ hd 0 O)) O O O O (ak.n ?_);exact⟨f4,f5,f6,p0,fun _=>O,p2,p3,p4,p5,p6,p9,mL,A',c',b1,b3,b4,m7,kI,m8,o9,m10,hT⟩
      | 2,hq,aO=>
       obtain rfl:=bj hq;refine ajs (hT.rd 0 O) (by exact f5) O O O inferInstance (ak.n ?_);exact⟨f4,f5,f6,p0,p1,fun _=>O,p3,p4,p5,p6,p9,mL,A',c',b1,b3,b4,m7,kI,m8,o9,m10,hT⟩
      | 3,hq,aO=>
       obtain rfl:=bj hq;refine ajt (hT.rd 0 O) (by exact p2 (aZ hd 2 O)) O O O O (ak.n ?_);exact⟨f4,f5,f6,p0,p1,p2,fun _=>O,p4,p5,p6,p9,mL,A',c',b1,b3,b4,m7,kI,m8,o9,m10,hT⟩
      | 4,hq,aO=>
       obtain rfl:=bj hq;obtain rfl:=o9 (pb aO fun h=>aZ (bE 10 _ h rfl) 4 rfl);refine ajn (hT.rd 2 O) (by exact p3 (aZ hd 3 O)) O O (by omega) (by show(0:Int)< (n:Int);omega) ?_;exact ak.n ⟨f4,f5,f6,p0,p1,p2,p3,fun _=>O,p5,p6,p9,mL,A',c',b1,b3,_,m7,kI,m8,o9,m10,hT⟩
      | 5,hq,aO=>
       obtain rfl:=bj hq;obtain rfl:=o9 (pb aO fun h=>aZ (bE 10 _ h rfl) 5 rfl);refine aju (i:=0) (hT.fq 2 O) (by exact p4 (aZ hd 4 O)) (by show 0<n;omega) O O ?_;exact ak.n ⟨f4,f5,f6,p0,p1,p2,p3,p4,fun _=>O,p6,p9,mL,A',c',b1,b3,_,m7,kI,m8,o9,m10,hT⟩
      | 6,hq,aO=>
       obtain rfl:=bj hq;refine jq O (by exact f6) O (ak.n ?_);exact⟨f4,f5,f6,p0,p1,p2,p3,p4,p5,fun _=>O,p9,mL,A',c',b1,b3,b4,m7,kI,m8,o9,m10,hT⟩
      | 7,hq,aO=>
       obtain rfl:=bj hq;refine dE (hT.sub (ks':=Bx 31 1 A5 [.slice A n c]::Bx 31 1 A4 [.slice none 0 0]::b4::b3::(bF 2 dX jA++ks.set ix k2)) (List.Sublist.cons_cons _ (List.Sublist.cons_cons _ (List.Sublist.cons_cons _ (List.Sublist.cons_cons _ ((dY _).append (dz _ _))))))) (by exact p6 (aZ hd 6 O)) O O ?_;intro mL w8 gK;have jy:St w0 w8 (Bx 31 1 A5 [.slice A n c]::Bx 31 1 A4 [.slice none 0 0]::b4::b3::(bF 2 dX jA++ ([ar 2 mL 1 1 [(n0:Int)]]++ks.set ix k2))):=gK.perm (eK (l₁:=Bx 31 1 A5 [.slice A n c]::Bx 31 1 A4 [.slice none 0 0]::b4::b3::bF 2 dX jA)).symm;exact ak.n ⟨f4,f5,f6,p0,p1,p2,p3,p4,p5,p6,p9,mL,A',c',_,b3,b4,fun _=> ⟨O,O⟩,kI,m8,o9,m10,jy⟩
      | 8,hq,aO=>
       obtain rfl:=bj hq;obtain⟨OT,rfl⟩:=m7 (aZ hd 7 rfl);obtain rfl:=kI aO;have n10:S 10=false:=(pb aO fun h=>aZ (bE 10 _ h O) 8 O);have hR:bt w7 mL 1 [(n0:Int)]:=St.bk (i:=0) (hT.sub (((dz _ _).cons _).cons _ |>.cons _ |>.cons _)) O;refine dS 3 hT O hR (by exact p5 (aZ hd 5 O)) (by exact OT) O ?_;intro A' c' w8 gK;refine ak.n ?_;exact⟨f4,f5,f6,p0,p1,p2,p3,p4,p5,p6,p9,mL,A',c',_,_,b4,fun _=> ⟨OT,O⟩,fun h=> (nomatch (show true=false from h)),fun _=> ⟨O,O⟩,o9,fun h=> (nomatch n10.symm.trans h),gK⟩
      | 9,hq,aO=>
       obtain rfl:=bj hq;obtain rfl:=o9 (pb aO fun h=>aZ (bE 10 _ h rfl) 9 rfl);refine ajn (hT.rd 2 O) (by exact p1 (aZ hd 1 O)) O O (by omega) (by show(0:Int)< (n:Int);omega) ?_;exact ak.n ⟨f4,f5,f6,p0,p1,p2,p3,p4,p5,p6,fun _=>O,mL,A',c',b1,b3,_,m7,kI,m8,o9,m10,hT⟩
      | 10,hq,aO=>
       obtain rfl:=bj hq;obtain⟨OU,rfl⟩:=m8 (aZ hd 8 rfl);obtain rfl:=o9 aO;refine uY (i:=0) 2 hT O (by exact p9 (aZ hd 9 O)) (by exact OU) (by show 0<n;omega) ?_;intro w8 gK;refine ak.n ?_;exact⟨f4,f5,f6,p0,p1,p2,p3,p4,p5,p6,p9,mL,A',c',b1,_,_,m7,kI,fun _=> ⟨OU,O⟩,fun h=> (nomatch (show true=false from h)),fun _=>O,gK⟩
      | i+11,hq,_=>exact(nomatch hq)
     ·intro S e1 w7 cO hI;obtain⟨f4,f5,f6,p0,p1,p2,p3,p4,p5,p6,p9,mL,A',c',b1,b3,b4,m7,kI,m8,o9,m10,hT⟩:=hI;obtain⟨_,rfl⟩:=m8 (cO 8 (by decide));obtain rfl:=m10 (cO 10 (by decide));refine xT (F:=[(4,.pointer A4),(5,.pointer A5)]) ⟨f4,f5,aw⟩ (fJ O (bI 0 (hT.rd 0 O) O O O (bS 1 1 hT O O O O O O O ?_)));intro iH jg;refine bD O (fI O (jg.rd 1 O) ?_);exact⟨n,A,c,⟨A',n0+1,c'⟩::dX,(x0++ [(n0:Int)])::jA,aU 24 2 A n c (⟨A',n0+1,c'⟩::dX) ((x0++ [(n0:Int)])::jA),k2,O,by omega,gD,fun p hp=> (ij.1 hp).elim (fun h=>h▸⟨by simp;omega,fun x hx=> (eD.1 hx).elim ((iP x0 List.mem_cons_self).2 x) (fun h=>by rw [dK]at h;omega)⟩) (fun h=>iP p (eb _ h)),eP,fun fX Y h=>St.eU h (by simpa using di),jg.tail.tail.sub (List.Sublist.cons_cons _ (List.Sublist.cons_cons _ ((dY _).append (dz _ _))))⟩
    ·refine cW O (aM _ O (fun h5=>?_) (fun h5=>?_))
     ·refine aD O (aI (bg.rd 0 O) O (aV (bg.rd 0 O) O (yd O O O (by omega) (aI (bg.rd 0 O) O (ke 0 bg O O O O O ?_)))));intro w7 bl;refine aq O (bI 0 (bl.rd 0 O) O O O (bS 1 1 bl O O O O O O O ?_));intro iH jg;refine bD O (fI O (jg.rd 1 O) ?_);exact⟨n - 1,cutAt A c 1,c - 1,rs.drop 1,xss.drop 1,_,k2,O,by omega,by omega,fun p hp=>iP p (List.mem_of_mem_drop hp),eP,fun fX Y h=> (St.eU h di).Xo (by omega) (by omega),jg.tail.tail⟩
     ·skip
      refine aD O (bI 0 (bg.rd 0 O) O O O (bS 1 1 bg O O O O O O O ?_));intro iH jg;refine bD O (fI O (jg.rd 1 O) ?_);exact⟨n,A,c,rs,xss,_,k2,O,by omega,gD,iP,eP,fun fX Y h=>St.eU h di,jg.tail.tail⟩
theorem adY{w0 w:aa}{ks:List Ck}(ix:Nat){As:ai}{k:Ck}(most:Int)(hS:St w0 w ks)(hk:ks[ix]?=some k)(hK:eQ w0 As k)(hm:most<=100000):
 aG prog 242 [.pointer As,aj most] w (fun v w'=>∃A n c xs k',v= .slice A n c/\n<=200000/\Rg n xs/\eQ w0 As k'/\St w0 w' (ar 2 A n c xs::ks.set ix k')):=by
 refine bw func242 O ntmps242 O (b7 O) (bb O (Vg O O O (aF (rl ix _ hS hk hK) O ?_)));rintro _ w1 ⟨r,k1,rfl,hr,iO,aC⟩;have fA:=jl (k':=k1) hk;obtain⟨n,hn⟩:∃n:Nat,2* (1+r)=n:=⟨(2* (1+r)).toNat,by omega⟩;refine aK O (iL O O O (by omega) (aq O ?_));rw [hn];refine fZ aC O ?_;intro A6 w2 aE;have aE:St w0 w2 (ar 2 A6 0 0 []::ks.set ix k1):=aE;refine az O (Cd.loop (α:=Nat×ai×Nat×ah×Ck) (fun s=> [(0,.pointer As),(5,aj n),(6,.slice s.2.1 s.1 s.2.2.1),(7,aj (s.1:Int))]) (fun s w'=>St w0 w' (ar 2 s.2.1 s.1 s.2.2.1 s.2.2.2.1::ks.set ix s.2.2.2.2)/\Rg s.1 s.2.2.2.1/\eQ w0 As s.2.2.2.2/\s.1<=n) (fun s=>n - s.1) (0,A6,0,[],k1) (ajz O) ⟨aE,⟨O,fun x hx=> (nomatch hx)⟩,iO,bu _⟩ ?_);rintro⟨d,A6,c6,xs,k2⟩ e w3 ⟨aH,hx,eP,hd⟩;dsimp only at aH hx eP hd|-;have lO:=jl (k':=k2) hk;refine b8 O (aM _ O (fun h1=>?_) (fun h1=>?_))
 ·refine aD O (aK O ?_);refine aF (rl (ix+1) ((d:Int)+1) aH (by exact lO) eP) O ?_;rintro _ w4 ⟨g,k3,rfl,hg,jQ,aQ⟩;have aQ:St w0 w4 (ar 2 A6 d c6 xs::(ks.set ix k2).set ix k3):=aQ;rw [gW]at aQ;obtain⟨q,rfl⟩:∃q:Nat,g=q:=⟨g.toNat,by omega⟩;have hq:q<=d:=by omega
  refine aq O (dE aQ O O O ?_);intro we w5 a8;have P6:=a8.cap 1 O;refine aq O (yd O O O (by omega) (dS 0 a8 O ((a8.bk 1 O).drop hq P6.1) O O O ?_));intro A31 c31 w6 bg;refine aq O (fZ bg O ?_);intro T8 w7 bl;have P6:d<=c6/\c6<=9223372036854775807:=bl.cap 2 O;refine aq O (sI O O O (by omega) (ajw (xs:=[]) 0 bl O ((bl.bk 2 O).take hq) O O O (by omega) (by omega) O ?_));intro A36 c36 w8 bK;refine aq O (dS 0 bK O (bK.bk 1 O) O O O ?_);intro dp H0 w9 bh;have hN:0+q+ (1+ (d - q))=d+1:=by omega
  have bh:St w0 w9 (ar 2 dp (0+q+ (1+ (d - q))) H0 (([]++xs.take q)++ ([(d:Int)]++xs.drop q))::ks.set ix k3):=bh.sub (List.Sublist.cons_cons _ (((dY _).cons _).cons _));have qY:=hx.1;rw [hN]at bh;refine aq O (aK O (aS O (tQ ?_)));refine⟨(d+1,dp,H0,([]++xs.take q)++ ([(d:Int)]++xs.drop q),k3),by show n - (d+1)<n - d;omega,⟨O,O,?_,O,aw⟩,bh,⟨by simp;omega,fun x gR=>?_⟩,jQ,by show d+1<=n;omega⟩
  ·exact aL (fun z=>Value.slice dp z H0) hN
  have hb:x=(d:Int)\/x∈xs:=by
   simp only [List.nil_append,eD,dK]at gR;rcases gR with h | h | h
   ·exact .inr (List.mem_of_mem_take h)
   ·exact .inl h
   exact .inr (List.mem_of_mem_drop h)
  rcases hb with rfl | hb
  ·omega
  have:=hx.2 x hb;omega
 have sX:d=n:=by omega
 refine bo O (bn (eG O ?_));refine fb O ?_;exact⟨A6,d,c6,xs,k2,O,by omega,hx,eP,aH⟩
theorem Sc(A:ai)(n c:Nat)(rs:List aX)(xss:ag)(w:aa)(hR:bL w A n rs xss)(hn:n<=9223372036854775807):
 aG prog 244 [.agg #[.slice A n c]] w (fun v w'=>v= .bool (decide (dm xss/\n=3))/\St w w' []):=by
 refine bw func244 O ntmps244 O (b7 O) (bb O (mQ (St.refl w) O O ?_));intro A1 w1 aC;refine aq O (bI 0 (aC.rd 0 O) O O O (aF (Gz A n c rs xss w1 (aC.cV hR) hn) O ?_));rintro _ w2 ⟨rfl,hT⟩;have aE:=aC.ao hT.below;refine aq O (cz 5 O (fun h1=>?_) (fun h1=>?_))
 ·refine au O (aI (aE.rd 0 O) O (au O (aV (aE.rd 0 O) O ?_)));refine au O (ba O O (au O (bD O ?_)));refine ck O ?_;exact⟨aL Value.bool (nA.2 ⟨fun h=> ⟨h1,by omega⟩,fun h=>by omega⟩),aE.tail⟩
 refine ay O (ay O (ay O (ay O (bD O ?_))));exact ck O ⟨aL Value.bool (Eq.symm (cM fun h=>h1 h.1)),aE.tail⟩
theorem UE(A:ai)(n c:Nat)(p:ah)(w:aa)(hR:bt w A n p)(hn:n<=9223372036854775807):
 aG prog 268 [.slice A n c] w (fun v w'=> (∃b,v= .bool b/\(b=true->(2<=n/\n<=200)/\jL p))/\St w w' []):=by
 refine bw func268 O ntmps268 O (b7 O) ?_;refine bb O (ba O O (aq O ?_));refine cz 6 O (fun h1=>?_) (fun h1=>?_)
 ·refine au O (aq O (au O (ba O O (au O ?_))));refine ob O O O (by omega) (au O (aq O ?_));refine cz 12 O (fun h2=>?_) (fun h2=>?_)
  ·refine au O (aq O (au O (ba O O (au O (aq O ?_)))));refine cz 17 O (fun h3=>?_) (fun h3=>?_)
   ·refine au O (aq O (au O ?_));refine aF (Gw A n c p w hR) O ?_;rintro _ w1 ⟨rfl,hT⟩;refine bD O (ck O ?_);exact⟨⟨_,O,fun h=> ⟨by omega,rb h⟩⟩,hT⟩
   refine ay O (ay O (bD O ?_));exact ck O ⟨⟨false,O,fun h=> (nomatch h)⟩,St.refl w⟩
  refine ay O (ay O (ay O (aq O (ay O (ay O (bD O ?_))))));exact ck O ⟨⟨false,O,fun h=> (nomatch h)⟩,St.refl w⟩
 refine ay O (ay O (ay O (ay O (aq O (ay O (ay O (ay O (aq O (ay O (ay O (bD O ?_)))))))))));exact ck O ⟨⟨false,O,fun h=> (nomatch h)⟩,St.refl w⟩
def Uh(w:aa)(v:ab)(w':aa):Prop:=
 ∃(n:Nat) (A:ai) (c:Nat) (rs:List aX) (xss:ag) (code:Int),v= .tuple #[.agg #[.slice A n c],aj code]/\n<=6/\rs.length=n/\xss.length=n/\(∀p∈xss,p.length<=20001/\∀x∈p,-1<=x/\x<=20001)/\(code=0->dm xss)/\St w w' (aU 24 2 A n c rs xss)
def Qb(M:Nat)(y:ah):Prop:=y.length=M/\∀x∈y,-1<=x/\x<=20001
theorem Qb.set{M:Nat}{y:ah}{i:Nat}{v:Int}(h:Qb M y)(hv: -1<=v/\v<=20001):Qb M (y.set i v):=
 ⟨by rw [iR];exact h.1,fun z hz=> (List.mem_or_eq_of_mem_set hz).elim (h.2 z) (fun e=>e▸hv)⟩
theorem Qb.zero{M:Nat}:Qb M (List.replicate M 0):=⟨by simp,fun x hx=>by obtain⟨_,rfl⟩:=List.mem_replicate.1 hx;decide⟩
structure UM(w0:aa)(n M:Nat)(A:ai)(c:Nat)(A2:ai)(S:Nat->Bool)(e:Env)(w:aa):Prop where
 f0:e 0= .slice A n c
 f2:e 2= .pointer A2
 f4:e 4=aj n
 p0:S 0=true->e 15=aj n
 p1:S 1=true->e 16=aj M
 p3:S 3=true->e 18=aj n
 p4:S 4=true->e 19=aj M
 p6:S 6=true->e 21=aj n
 p7:S 7=true->e 22=aj M
 mem:∃(B0 B1 B2 fO A5:ai) (b0 b1 b2 b3 b5:List Ck) (vs:List ab),(S 2=true->e 17= .slice B0 M M/\b0=[ar 2 B0 M M (List.replicate M 0)])/\(S 5=true->e 20= .slice B1 M M/\b1=[ar 2 B1 M M (List.replicate M 0)])/\(S 8=true->e 23= .slice B2 M M/\b2=[ar 2 B2 M M (List.replicate M 0)])/\(S 9=true->e 24= .slice fO 3 3/\b3=[br 24 fO 3 3 [⟨B0,M,M⟩,⟨B1,M,M⟩,⟨B2,M,M⟩]])/\(S 10=true->e 25= .agg #[.slice fO 3 3])/\(S 11=true->e 5= .pointer A5/\b5=[Bx 31 1 A5 vs])/\(S 12=false->vs=[.slice none 0 0])/\(S 12=true->vs=[.slice fO 3 3])/\
  St w0 w (b3++ (b0++ (b1++ (b2++ (b5++ [Bx 31 1 A2 [.slice none 0 0]])))))
theorem UL(A:ai)(n c:Nat)(p:ah)(w:aa)(hR:bt w A n p)(hn:n<=9223372036854775807):
 aG prog 243 [.slice A n c] w (Uh w):=by
 refine bw func243 O ntmps243 O (tm O O) (bb O (jN (St.refl w) O ?_));intro A2 w1 aC;refine aq O (aF (UE A n c p w1 (aC.b9 hR) hn) O ?_);rintro _ w2 ⟨⟨b,rfl,hb⟩,hT⟩;have aE:=aC.ao hT.below
 first | refine de rfl rfl ?_ | refine dV rfl rfl ?_
 refine az O ?_;refine aM (b=false) (aL Value.bool (by cases b<;>rfl)) (fun h1=>?_) (fun h1=>?_)
 ·refine aD O (CB (by exact inferInstance) O (bS 1 0 aE O O O O O O O ?_));intro w3 aH;refine bD O (mH O (aH.rd 0 O) O ?_);exact⟨0,none,0,[],[],1,O,by decide,O,O,fun p hp=> (nomatch hp),fun h=>absurd h (by decide),aH.none.nil _⟩
 ·have gP:b=true:=by cases b<;>simp at h1|-
  obtain⟨s6,ox,hpr,_⟩:=hb gP;have Br:=hR.1;refine aD O (ba O O (az O ?_));obtain⟨M,hM⟩:∃M:Nat,M=2*n:=⟨_,rfl⟩;refine oO (by kernel_rfl) (by kernel_rfl) (fun S e1 w1=>UM w n M A c A2 S e1 w1) (fun w4 hb=> ⟨O,O,O,fun h=> (nomatch h),fun h=> (nomatch h),fun h=> (nomatch h),fun h=> (nomatch h),fun h=> (nomatch h),fun h=> (nomatch h),none,none,none,none,none,[],[],[],[],[],[.slice none 0 0],fun h=> (nomatch h),fun h=> (nomatch h),fun h=> (nomatch h),fun h=> (nomatch h),fun h=> (nomatch h),fun h=> (nomatch h),fun _=>O,fun h=> (nomatch h),aE.ao hb⟩) ?_ ?_
  ·intro S i o e1 w4 hq aO hd bE hI;obtain⟨f0,f2,f4,p0,p1,p3,p4,p6,p7,B0,B1,B2,fO,A5,b0,b1,b2,b3,b5,vs,m2,m5,m8,m9,m10,m11,qd,m12,hT⟩:=hI
   match i,hq,aO with
   | 0,hq,aO=>
    obtain rfl:=bj hq;refine jq O (by exact f4) O (ak.n ?_);exact⟨f0,f2,f4,fun _=>O,p1,p3,p4,p6,p7,B0,B1,B2,fO,A5,b0,b1,b2,b3,b5,vs,m2,m5,m8,m9,m10,m11,qd,m12,hT⟩
   | 1,hq,aO=>
    obtain rfl:=bj hq;refine iL O (by exact p0 (aZ hd 0 O)) O (by omega) (ak.n ?_);exact⟨f0,f2,f4,p0,fun _=>aL (Value.int .i64) (by omega),p3,p4,p6,p7,B0,B1,B2,fO,A5,b0,b1,b2,b3,b5,vs,m2,m5,m8,m9,m10,m11,qd,m12,hT⟩
   | 2,hq,aO=>
    obtain rfl:=bj hq;have n9:S 9=false:=(pb aO fun h=>aZ (bE 9 _ h O) 2 O);refine sJ M (hT.sub (ks':=b3++ (b1++ (b2++ (b5++ [Bx 31 1 A2 [.slice none 0 0]])))) ((dY _).append (dz _ _))) (by exact p1 (aZ hd 1 O)) O (by omega) ?_;intro A' w5 dW;have eJ:St w w5 (b3++ ([ar 2 A' M M (List.replicate M 0)]++ (b1++ (b2++ (b5++ [Bx 31 1 A2 [.slice none 0 0]]))))):=by
     refine dW.perm ?_;have:=(eK (a:=ar 2 A' M M (List.replicate M 0)) (l₁:=b3) (l₂:=b1++ (b2++ ((b5++ [Bx 31 1 A2 [.slice none 0 0]]))))).symm;simpa only [fK,List.singleton_append,List.cons_append,List.nil_append]using this
    exact ak.n ⟨f0,f2,f4,p0,p1,p3,p4,p6,p7,A',B1,B2,fO,A5,_,b1,b2,b3,b5,vs,fun _=> ⟨O,O⟩,m5,m8,fun h=> (nomatch n9.symm.trans h),m10,m11,qd,m12,eJ⟩
   | 3,hq,aO=>
    obtain rfl:=bj hq;refine jq O (by exact f4) O (ak.n ?_);exact⟨f0,f2,f4,p0,p1,fun _=>O,p4,p6,p7,B0,B1,B2,fO,A5,b0,b1,b2,b3,b5,vs,m2,m5,m8,m9,m10,m11,qd,m12,hT⟩
   | 4,hq,aO=>
    obtain rfl:=bj hq;refine iL O (by exact p3 (aZ hd 3 O)) O (by omega) (ak.n ?_);exact⟨f0,f2,f4,p0,p1,p3,fun _=>aL (Value.int .i64) (by omega),p6,p7,B0,B1,B2,fO,A5,b0,b1,b2,b3,b5,vs,m2,m5,m8,m9,m10,m11,qd,m12,hT⟩
   | 5,hq,aO=>
    obtain rfl:=bj hq;have n9:S 9=false:=(pb aO fun h=>aZ (bE 9 _ h O) 5 O);refine sJ M (hT.sub (ks':=b3++ (b0++ (b2++ (b5++ [Bx 31 1 A2 [.slice none 0 0]])))) ((dY _).append ((dY _).append (dz _ _)))) (by exact p4 (aZ hd 4 O)) O (by omega) ?_;intro A' w5 dW;have eJ:St w w5 (b3++ (b0++ ([ar 2 A' M M (List.replicate M 0)]++ (b2++ (b5++ [Bx 31 1 A2 [.slice none 0 0]]))))):=by
     refine dW.perm ?_;have:=(eK (a:=ar 2 A' M M (List.replicate M 0)) (l₁:=b3++b0) (l₂:=b2++ ((b5++ [Bx 31 1 A2 [.slice none 0 0]])))).symm;simpa only [fK,List.singleton_append,List.cons_append,List.nil_append]using this
    exact ak.n ⟨f0,f2,f4,p0,p1,p3,p4,p6,p7,B0,A',B2,fO,A5,b0,_,b2,b3,b5,vs,m2,fun _=> ⟨O,O⟩,m8,fun h=> (nomatch n9.symm.trans h),m10,m11,qd,m12,eJ⟩
   | 6,hq,aO=>
    obtain rfl:=bj hq;refine jq O (by exact f4) O (ak.n ?_);exact⟨f0,f2,f4,p0,p1,p3,p4,fun _=>O,p7,B0,B1,B2,fO,A5,b0,b1,b2,b3,b5,vs,m2,m5,m8,m9,m10,m11,qd,m12,hT⟩
   | 7,hq,aO=>
    obtain rfl:=bj hq;refine iL O (by exact p6 (aZ hd 6 O)) O (by omega) (ak.n ?_);exact⟨f0,f2,f4,p0,p1,p3,p4,p6,fun _=>aL (Value.int .i64) (by omega),B0,B1,B2,fO,A5,b0,b1,b2,b3,b5,vs,m2,m5,m8,m9,m10,m11,qd,m12,hT⟩
   | 8,hq,aO=>
    obtain rfl:=bj hq;have n9:S 9=false:=(pb aO fun h=>aZ (bE 9 _ h O) 8 O);refine sJ M (hT.sub (ks':=b3++ (b0++ (b1++ (b5++ [Bx 31 1 A2 [.slice none 0 0]])))) ((dY _).append ((dY _).append ((dY _).append (dz _ _))))) (by exact p7 (aZ hd 7 O)) O (by omega) ?_;intro A' w5 dW;have eJ:St w w5 (b3++ (b0++ (b1++ ([ar 2 A' M M (List.replicate M 0)]++ (b5++ [Bx 31 1 A2 [.slice none 0 0]]))))):=by
     refine dW.perm ?_;have:=(eK (a:=ar 2 A' M M (List.replicate M 0)) (l₁:=b3++b0++b1) (l₂:=(b5++ [Bx 31 1 A2 [.slice none 0 0]]))).symm;simpa only [fK,List.singleton_append,List.cons_append,List.nil_append]using this
    exact ak.n ⟨f0,f2,f4,p0,p1,p3,p4,p6,p7,B0,B1,A',fO,A5,b0,b1,_,b3,b5,vs,m2,m5,fun _=> ⟨O,O⟩,fun h=> (nomatch n9.symm.trans h),m10,m11,qd,m12,eJ⟩
   | 9,hq,aO=>
    obtain rfl:=bj hq;obtain⟨wM,rfl⟩:=m2 (aZ hd 2 rfl);obtain⟨tV,rfl⟩:=m5 (aZ hd 5 rfl);obtain⟨yu,rfl⟩:=m8 (aZ hd 8 rfl);have n10:S 10=false:=(pb aO fun h=>aZ (bE 10 _ h O) 9 O);have n12:S 12=false:=(pb aO fun h=>aZ (bE 12 _ h O) 9 O);refine MK (s0:=⟨B0,M,M⟩) (s1:=⟨B1,M,M⟩) (s2:=⟨B2,M,M⟩) (hT.sub (dz _ _)) (by exact wM) (by exact tV) (by exact yu) O ?_;intro fO w5 dW;exact ak.n ⟨f0,f2,f4,p0,p1,p3,p4,p6,p7,B0,B1,B2,fO,A5,_,_,_,[br 24 fO 3 3 [⟨B0,M,M⟩,⟨B1,M,M⟩,⟨B2,M,M⟩]],b5,vs,fun _=> ⟨wM,O⟩,fun _=> ⟨tV,O⟩,fun _=> ⟨yu,O⟩,fun _=> ⟨O,O⟩,fun h=> (nomatch n10.symm.trans h),m11,qd,fun h=> (nomatch n12.symm.trans h),dW⟩
   | 10,hq,aO=>
    obtain rfl:=bj hq;obtain⟨rK,km⟩:=m9 (aZ hd 9 rfl);refine EN (by exact inferInstance) O (by exact rK) O O (ak.n ?_);exact⟨f0,f2,f4,p0,p1,p3,p4,p6,p7,B0,B1,B2,fO,A5,b0,b1,b2,b3,b5,vs,m2,m5,m8,m9,fun _=>O,m11,qd,m12,hT⟩
   | 11,hq,aO=>
    obtain rfl:=bj hq;have n12:S 12=false:=(pb aO fun h=>aZ (bE 12 _ h O) 11 O);obtain rfl:=qd n12;refine jN (hT.sub (ks':=(b3++ (b0++ (b1++b2)))++ [Bx 31 1 A2 [.slice none 0 0]]) (by simp only [fK];exact(dY _).append ((dY _).append ((dY _).append ((dY _).append (dz _ _)))))) O ?_;intro A' w5 dW;have eJ:St w w5 (b3++ (b0++ (b1++ (b2++ ([Bx 31 1 A' [.slice none 0 0]]++ [Bx 31 1 A2 [.slice none 0 0]]))))):=by
     have:=dW.perm (eK (l₁:=b3++ (b0++ (b1++b2)))).symm;simpa only [fK,List.singleton_append]using this
    exact ak.n ⟨f0,f2,f4,p0,p1,p3,p4,p6,p7,B0,B1,B2,fO,A',b0,b1,b2,b3,_,_,m2,m5,m8,m9,m10,fun _=> ⟨O,O⟩,fun _=>O,fun h=> (nomatch n12.symm.trans h),eJ⟩
   | 12,hq,aO=>
    obtain rfl:=bj hq;obtain⟨h5,rfl⟩:=m11 (aZ hd 11 rfl);obtain⟨wM,rfl⟩:=m2 (aZ hd 2 rfl);obtain⟨tV,rfl⟩:=m5 (aZ hd 5 rfl);obtain⟨yu,rfl⟩:=m8 (aZ hd 8 rfl);obtain⟨rK,rfl⟩:=m9 (aZ hd 9 rfl);obtain rfl:=qd aO;refine bS 1 4 hT O (by exact h5) (by exact m10 (aZ hd 10 O)) O O O O ?_;intro w5 dW;refine ak.n ?_;exact⟨f0,f2,f4,p0,p1,p3,p4,p6,p7,B0,B1,B2,fO,A5,_,_,_,_,_,[.slice fO 3 3],fun _=> ⟨wM,O⟩,fun _=> ⟨tV,O⟩,fun _=> ⟨yu,O⟩,fun _=> ⟨rK,O⟩,m10,fun _=> ⟨h5,O⟩,fun h=> (nomatch (show true=false from h)),fun _=>O,dW⟩
   | i+13,hq,_=>exact(nomatch hq)
  ·intro S e1 w4 cO hI;obtain⟨f0,f2,f4,p0,p1,p3,p4,p6,p7,B0,B1,B2,fO,A5,b0,b1,b2,b3,b5,vs,m2,m5,m8,m9,m10,m11,qd,m12,hT⟩:=hI;obtain⟨h5,rfl⟩:=m11 (cO 11 (by decide));obtain⟨_,rfl⟩:=m2 (cO 2 (by decide));obtain⟨_,rfl⟩:=m5 (cO 5 (by decide));obtain⟨_,rfl⟩:=m8 (cO 8 (by decide));obtain⟨_,rfl⟩:=m9 (cO 9 (by decide));obtain rfl:=m12 (cO 12 (by decide));refine yf (F:=[(0,.slice A n c),(2,.pointer A2),(4,aj n),(5,.pointer A5)]) ⟨f0,f2,f4,h5,aw⟩ ?_;have hT:St w w4 (aU 24 2 fO 3 3 [⟨B0,M,M⟩,⟨B1,M,M⟩,⟨B2,M,M⟩] [(List.replicate M 0),(List.replicate M 0),(List.replicate M 0)]++ [Bx 31 1 A5 [.slice fO 3 3],Bx 31 1 A2 [.slice none 0 0]]):=hT;refine fv O (Cd.loop (α:=Nat×ah×ah×ah) (fun s=> [(0,.slice A n c),(2,.pointer A2),(4,aj n),(5,.pointer A5),(6,aj (s.1:Int))]) (fun s w'=>St w w' (aU 24 2 fO 3 3 [⟨B0,M,M⟩,⟨B1,M,M⟩,⟨B2,M,M⟩] [s.2.1,s.2.2.1,s.2.2.2]++ [Bx 31 1 A5 [.slice fO 3 3],Bx 31 1 A2 [.slice none 0 0]])/\s.1<=n/\Qb M s.2.1/\Qb M s.2.2.1/\Qb M s.2.2.2) (fun s=>n - s.1) (0,(List.replicate M 0),(List.replicate M 0),(List.replicate M 0)) (ajz O) ⟨hT,bu _,Qb.zero,Qb.zero,Qb.zero⟩ ?_);rintro⟨f,y0,y1,y2⟩ e w5 ⟨dW,hf,q0,q1,q2⟩;dsimp only at dW hf q0 q1 q2|-;refine b8 O (aM _ O (fun h2=>?_) (fun h2=>?_))
   ·have FG:=dW.b9 hR;have hv:0<=gi p f/\gi p f< (n:Int):=by
     rw [bX (by omega)];have:=hpr _ (fe (l:=p) (n:=f) (by omega));omega
    generalize hV:gi p f=v at hv;refine cW O (dQ [xI ((f:Int)),xI (((f:Int))+ ((1:Int))),xI ((f:Int)),xI ((f:Int)%2),xI (((2:Int))* ((f:Int)%2)),xI ((((f:Int))+ ((1:Int))) - (((2:Int))* ((f:Int)%2))),xS (A) (n) (c),xI ((f:Int)),xP (aB (A) ((f:Int)).toNat),xI (gi (p) ((f:Int))),xI ((((f:Int))+ ((1:Int))) - (((2:Int))* ((f:Int)%2))),xI (gi (p) ((f:Int)))] O (eE O) ?_ ?_)
    ·refine⟨Dr O,fun _ _ _ _ _=>aK O Az,Dr O,?_,fun _ _ _ _ _=>iL O O O (by omega) Az,fun _ _ _ _ _=>dq O Az,Dr O,Dr O,fun _ _ hb _ _=>aA (FG.ao hb).2 O Az,fun _ _ hb _ _=>aY (FG.ao hb) O Az,Dr O,Dr O,aw⟩
     ·intro e1 w1 hb hp bc;refine ob O O O (by omega) Az
    intro u w6 jR _;rw [hV];have AL:=dW.ao jR;refine fJ O (aI (AL.rd 4 O) O (aV (AL.rd 4 O) O ?_));refine ajn (AL.rd 0 O) O O O (by omega) (by show(0:Int)< (3:Int);decide) ?_;refine aju (i:=0) (AL.fq 0 O) O (by show 0<3;decide) O O ?_;refine aq O (iL O O O (by omega) (aq O (iL O O O (by omega) (aK O ?_))));refine ajn (AL.rd 1 O) O O O (by omega) (by show 2* (f:Int)< (M:Int);omega) ?_;refine ak.iG (i:=2* (f:Int)) 1 AL O O O (by show(2* (f:Int)).toNat<M;omega) ?_;intro x0 xb;have xb:St w x0 (aU 24 2 fO 3 3 [⟨B0,M,M⟩,⟨B1,M,M⟩,⟨B2,M,M⟩] [(y0.set (2* (f:Int)).toNat (2* ((f:Int)+1 - 2* ((f:Int)%2))+1)),y1,y2]++ [Bx 31 1 A5 [.slice fO 3 3],Bx 31 1 A2 [.slice none 0 0]]):=xb;refine aq O (aI (xb.rd 4 O) O (aV (xb.rd 4 O) O ?_));refine ajn (xb.rd 0 O) O O O (by omega) (by show(0:Int)< (3:Int);decide) ?_;refine aju (i:=0) (xb.fq 0 O) O (by show 0<3;decide) O O ?_;refine aq O (iL O O O (by omega) (aK O (aq O (iL O O O (by omega) ?_))));refine ajn (xb.rd 1 O) O O O (by omega) (by show 2* (f:Int)+1< (M:Int);omega) ?_;refine ak.iG (i:=2* (f:Int)+1) 1 xb O O O (by show(2* (f:Int)+1).toNat<M;omega) ?_;intro x1 xc;have xc:St w x1 (aU 24 2 fO 3 3 [⟨B0,M,M⟩,⟨B1,M,M⟩,⟨B2,M,M⟩] [((y0.set (2* (f:Int)).toNat (2* ((f:Int)+1 - 2* ((f:Int)%2))+1)).set (2* (f:Int)+1).toNat (2* ((f:Int)+1 - 2* ((f:Int)%2)))),y1,y2]++ [Bx 31 1 A5 [.slice fO 3 3],Bx 31 1 A2 [.slice none 0 0]]):=xc;refine aq O (aI (xc.rd 4 O) O (aV (xc.rd 4 O) O ?_));refine ajn (xc.rd 0 O) O O O (by omega) (by show(1:Int)< (3:Int);decide) ?_;refine aju (i:=1) (xc.fq 0 O) O (by show 1<3;decide) O O ?_;refine aq O (iL O O O (by omega) (aq O (iL O O O (by omega) (aK O ?_))));refine ajn (xc.rd 2 O) O O O (by omega) (by show 2* (f:Int)< (M:Int);omega) ?_;refine ak.iG (i:=2* (f:Int)) 2 xc O O O (by show(2* (f:Int)).toNat<M;omega) ?_;intro x2 xd;have xd:St w x2 (aU 24 2 fO 3 3 [⟨B0,M,M⟩,⟨B1,M,M⟩,⟨B2,M,M⟩] [((y0.set (2* (f:Int)).toNat (2* ((f:Int)+1 - 2* ((f:Int)%2))+1)).set (2* (f:Int)+1).toNat (2* ((f:Int)+1 - 2* ((f:Int)%2)))),(y1.set (2* (f:Int)).toNat (2*v+1)),y2]++ [Bx 31 1 A5 [.slice fO 3 3],Bx 31 1 A2 [.slice none 0 0]]):=xd;refine aq O (aI (xd.rd 4 O) O (aV (xd.rd 4 O) O ?_));refine ajn (xd.rd 0 O) O O O (by omega) (by show(1:Int)< (3:Int);decide) ?_;refine aju (i:=1) (xd.fq 0 O) O (by show 1<3;decide) O O ?_;refine aq O (iL O O O (by omega) (aK O (aq O (iL O O O (by omega) ?_))));refine ajn (xd.rd 2 O) O O O (by omega) (by show 2*v+1< (M:Int);omega) ?_;refine ak.iG (i:=2*v+1) 2 xd O O O (by show(2*v+1).toNat<M;omega) ?_;intro x3 xe;have xe:St w x3 (aU 24 2 fO 3 3 [⟨B0,M,M⟩,⟨B1,M,M⟩,⟨B2,M,M⟩] [((y0.set (2* (f:Int)).toNat (2* ((f:Int)+1 - 2* ((f:Int)%2))+1)).set (2* (f:Int)+1).toNat (2* ((f:Int)+1 - 2* ((f:Int)%2)))),((y1.set (2* (f:Int)).toNat (2*v+1)).set (2*v+1).toNat (2* (f:Int))),y2]++ [Bx 31 1 A5 [.slice fO 3 3],Bx 31 1 A2 [.slice none 0 0]]):=xe;refine aq O (aI (xe.rd 4 O) O (aV (xe.rd 4 O) O ?_));refine ajn (xe.rd 0 O) O O O (by omega) (by show(2:Int)< (3:Int);decide) ?_;refine aju (i:=2) (xe.fq 0 O) O (by show 2<3;decide) O O ?_;refine aq O (iL O O O (by omega) (aq O (iL O O O (by omega) (aK O ?_))));refine ajn (xe.rd 3 O) O O O (by omega) (by show 2* (f:Int)< (M:Int);omega) ?_;refine ak.iG (i:=2* (f:Int)) 3 xe O O O (by show(2* (f:Int)).toNat<M;omega) ?_;intro x4 rT;have rT:St w x4 (aU 24 2 fO 3 3 [⟨B0,M,M⟩,⟨B1,M,M⟩,⟨B2,M,M⟩] [((y0.set (2* (f:Int)).toNat (2* ((f:Int)+1 - 2* ((f:Int)%2))+1)).set (2* (f:Int)+1).toNat (2* ((f:Int)+1 - 2* ((f:Int)%2)))),((y1.set (2* (f:Int)).toNat (2*v+1)).set (2*v+1).toNat (2* (f:Int))),(y2.set (2* (f:Int)).toNat (2* (f:Int)+1))]++ [Bx 31 1 A5 [.slice fO 3 3],Bx 31 1 A2 [.slice none 0 0]]):=rT;refine aq O (aI (rT.rd 4 O) O (aV (rT.rd 4 O) O ?_));refine ajn (rT.rd 0 O) O O O (by omega) (by show(2:Int)< (3:Int);decide) ?_;refine aju (i:=2) (rT.fq 0 O) O (by show 2<3;decide) O O ?_;refine aq O (iL O O O (by omega) (aK O (aq O (iL O O O (by omega) ?_))));refine ajn (rT.rd 3 O) O O O (by omega) (by show 2* (f:Int)+1< (M:Int);omega) ?_;refine ak.iG (i:=2* (f:Int)+1) 3 rT O O O (by show(2* (f:Int)+1).toNat<M;omega) ?_;intro x5 Jz;have Jz:St w x5 (aU 24 2 fO 3 3 [⟨B0,M,M⟩,⟨B1,M,M⟩,⟨B2,M,M⟩] [((y0.set (2* (f:Int)).toNat (2* ((f:Int)+1 - 2* ((f:Int)%2))+1)).set (2* (f:Int)+1).toNat (2* ((f:Int)+1 - 2* ((f:Int)%2)))),((y1.set (2* (f:Int)).toNat (2*v+1)).set (2*v+1).toNat (2* (f:Int))),((y2.set (2* (f:Int)).toNat (2* (f:Int)+1)).set (2* (f:Int)+1).toNat (2* (f:Int)))]++ [Bx 31 1 A5 [.slice fO 3 3],Bx 31 1 A2 [.slice none 0 0]]):=Jz;refine aq O (aK O (aS O (tQ ?_)));exact⟨(f+1,((y0.set (2* (f:Int)).toNat (2* ((f:Int)+1 - 2* ((f:Int)%2))+1)).set (2* (f:Int)+1).toNat (2* ((f:Int)+1 - 2* ((f:Int)%2)))),((y1.set (2* (f:Int)).toNat (2*v+1)).set (2*v+1).toNat (2* (f:Int))),((y2.set (2* (f:Int)).toNat (2* (f:Int)+1)).set (2* (f:Int)+1).toNat (2* (f:Int)))),by show n - (f+1)<n - f;omega,(ajz O),Jz,by show f+1<=n;omega,(q0.set (by omega)).set (by omega),(q1.set (by omega)).set (by omega),(q2.set (by omega)).set (by omega)⟩
   ·have abX:bL w5 fO 3 [⟨B0,M,M⟩,⟨B1,M,M⟩,⟨B2,M,M⟩] [y0,y1,y2]:=St.eU dW O;refine bo O (bn (cJ O ?_));refine bI 0 (dW.rd 4 O) O O O (aF (Sc fO 3 3 _ [y0,y1,y2] w5 abX (by decide)) O ?_);rintro _ w6 ⟨rfl,jh⟩;have eJ:=dW.ao jh.below
    first | refine de rfl rfl ?_ | refine dV rfl rfl ?_
    refine az O ?_;refine aM (¬(dm [y0,y1,y2]/\3=3)) (aL Value.bool (by simp)) (fun h3=>?_) (fun h3=>?_)
    ·refine aD O (CB (by exact inferInstance) O (bS 1 5 eJ O O O O O O O ?_));intro w7 fg;refine bD O (mH O (fg.rd 5 O) O ?_);exact⟨0,none,0,[],[],5,O,by decide,O,O,fun p hp=> (nomatch hp),fun h=>absurd h (by decide),fg.none.nil _⟩
    ·refine aD O (bI 0 (eJ.rd 4 O) O O O (bS 1 5 eJ O O O O O O O ?_));intro w7 fg;refine bD O (mH O (fg.rd 5 O) O ?_);refine⟨3,fO,3,_,[y0,y1,y2],0,O,by decide,O,O,fun p hp=>?_,fun _=> (mM.1 h3).1,fg.sub (ks':=aU 24 2 fO 3 3 [⟨B0,M,M⟩,⟨B1,M,M⟩,⟨B2,M,M⟩] [y0,y1,y2]) (lQ (aU 24 2 fO 3 3 [⟨B0,M,M⟩,⟨B1,M,M⟩,⟨B2,M,M⟩] [y0,y1,y2]) _)⟩;have hq:Qb M p:=by
      simp only [ij,List.not_mem_nil,or_false]at hp;rcases hp with rfl | rfl | rfl<;>assumption
     exact⟨by have:=hq.1;omega,hq.2⟩
section
variable {P:Program} {N:Nat} {ops:Array Oper} {K:Env->aa->Prop} {rest:List Oper} {e:Env} {w0 w:aa} {ks:List Ck} {d:Nat} {ty:ad} {pos:String} {af:Array Edge}
def BF:Nat->List aX->List (Nat×ab)
 | _,[]=> []
 | k,v::r=> (k,v.v)::BF (k+1) r
theorem Om:∀(vs:List aX) (k:Nat) (cells:Array ab),k+vs.length<=cells.size->∃out,Instr.fill (fun i=>some (i*1,1)) cells (BF k vs)=some out/\out.size=cells.size/\(∀j,j<k->out[j]?=cells[j]?)/\(∀j,j<vs.length->out[k+j]?=vs[j]?.map aX.v)/\(∀j,k+vs.length<=j->out[j]?=cells[j]?)
 | [],k,cells,_=> ⟨cells,rfl,rfl,fun _ _=>rfl,fun j hj=>absurd hj (mg _),fun _ _=>rfl⟩
 | v::r,k,cells,h=>by
  have hk:k<cells.size:=by simp at h;omega
  obtain⟨out,h1,h2,h3,h4,h5⟩:=Om r (k+1) (cells.setIfInBounds k v.v) (by simp at h|-;omega);refine⟨out,?_,by rw [h2];simp,fun j hj=>?_,fun j hj=>?_,fun j hj=>?_⟩
  ·show Instr.fill _ cells ((k,v.v)::BF (k+1) r)=some out;rw [<-h1];simp [Instr.fill,aX.v,Value.cells,show ¬cells.size<k+1 by omega]
  ·rw [h3 j (by omega),ru,aR (by omega)]
  ·cases j with
   | zero=>rw [Nat.add_zero,h3 k (by omega),ru,aT rfl,aT hk];rfl
   | succ q=>
    have:=h4 q (by simpa using hj);rw [show k+ (q+1)=k+1+q by omega,this]
    rfl
  ·rw [h5 j (by simp at hj|-;omega),ru,aR (by simp at hj;omega)]
theorem XI(vs:List aX)(cells:Array ab)(h:cells.size=vs.length):Instr.fill (fun i=>some (i*1,1)) cells (BF 0 vs)=some (vs.map aX.v).toArray:=by
 obtain⟨out,h1,h2,_,h4,_⟩:=Om vs 0 cells (by omega);rw [h1]
 congr 1
 apply Array.ext';apply List.ext_getElem?;intro j
 by_cases hj:j<vs.length
 ·have:=h4 j hj;rw [Nat.zero_add]at this;simpa using this
 rw [qy (by simpa [h2,h]using hj),qy (by simpa using hj)]
theorem U5{t el:ad}{z:ab}{b n:Nat}[bP P t (.slice el)][bO P el z 1 b]{ps:Array (Nat×ae)}(vs:List aX)(hS:St w0 w ks)(hv:(ps.toList.map fun p=> (p.1,ev e p.2))=BF 0 vs)(hn:vs.length=n)(qT:n≠0)(vD:n<=1000)(hz:z.cells= #[z])(hb:Nat.blt d N=true)(hK:∀A w',St w0 w' (br el A n n vs::ks)->ak P N ops K rest (bC e d (.slice A n n)) w'):ak P N ops K (⟨some d,.buildSlice t n ps,ty,pos,af,none⟩::rest) e w:=by
 subst hn;obtain⟨inf,hi,fp,hs,iq⟩:=bO.get P el;have hA:=hS.alloc (vs.map aX.v) el (by simp [maxLen];omega) (BG _);refine .val (w':=w.alloc (.cells (vs.map aX.v).toArray el)) ?_ hb (hK _ _ (by simpa [br]using hA));have hf:=XI vs ((Array.range (vs.length*1)).map ((#[z]:Array ab)[· % (#[z]:Array ab).size]!)) (by simp);have qX:(ps.map fun p=> (p.1,ev e p.2)).toList=BF 0 vs:=by rw [Array.toList_map];exact hv
 have rK:¬16777216<vs.length:=by omega
 simp only [Nat.mul_one]at hf;simp [execOp,Instr.buildSlice,run_underlying (bP.out (P:=P) (t:=t)),sizeOf,typeInfo,zeroValue,hi,hs,fp,hz,newRow,hv,rK,qT];simp at hf;simp [hf]
end
theorem dm.bound{xss:ag}(h:dm xss):xss.length<=6/\∀p∈xss,p.length<=20001/\∀x∈p,-1<=x/\x<=20001:=by
 obtain⟨h1,h2,h3,_⟩:=h;refine⟨by omega,fun p hp=>?_⟩;obtain⟨q1,q2,_⟩:=h3 p hp;obtain⟨q3,q4,_⟩:=q2;exact⟨by omega,fun x hx=>by have:=q4 x hx;omega⟩
theorem agY:∀r:Nat,r<8->HG (gl [[3,3],[3,3],[4,3],[3,4],[2,3],[4,2],[5,2],[2,6]] r) (uP (gl [[3,3],[3,3],[4,3],[3,4],[2,3],[4,2],[5,2],[2,6]] r))
 | 0,_=>tA TQ
 | 1,_=>tA TQ
 | 2,_=>tA agW
 | 3,_=>tA agU
 | 4,_=>tA agR
 | 5,_=>tA agV
 | 6,_=>tA agX
 | 7,_=>tA agS
 | r+8,h=>absurd h (by omega)
def Ui(w0:aa)(ks:List Ck)(ix:Nat)(As:ai)(v:ab)(w':aa):Prop:=
 ∃(n:Nat) (A:ai) (c:Nat) (rs:List aX) (xss:ag) (X:List Ck) (k':Ck),v= .agg #[.slice A n c]/\n<=6/\(n<=c/\c<=9223372036854775807)/\dm xss/\(∀p∈xss,p.length<=20001/\∀x∈p,-1<=x/\x<=20001)/\eQ w0 As k'/\(∀(fX:aa) (Y:List Ck),St w0 fX (X++Y)->bL fX A n rs xss)/\St w0 w' (X++ks.set ix k')
theorem K0{w0 w:aa}{ks:List Ck}(ix:Nat){As:ai}{k:Ck}(most:Nat)(hS:St w0 w ks)(hk:ks[ix]?=some k)(hK:eQ w0 As k)(hm:8<=most/\most<=1000):
 aG prog 185 [.pointer As,aj most] w (Ui w0 ks ix As):=by
 refine bw func185 O ntmps185 O (kX O O) (bb O (jN hS O ?_));intro A4 w1 aC;refine zC 0 O (nq (α:=Ck) (fun _=> [(0,.pointer As),(1,aj most),(4,.pointer A4)]) (fun k' w'=>eQ w0 As k'/\St w0 w' (Bx 31 1 A4 [.slice none 0 0]::ks.set ix k')) ?_ ?_)
 ·refine bb O (aF (rl (ix+1) 4 aC (by exact hk) hK) O ?_);rintro _ w2 ⟨r,k1,rfl,hr,iO,aE⟩;have aE:St w0 w2 (Bx 31 1 A4 [.slice none 0 0]::ks.set ix k1):=aE;have fA:=jl (k':=k1) hk;refine az O (aM _ O (fun h1=>?_) (fun h1=>?_))
  ·refine aD O (lj [3,3] aE O O (by decide) (by decide) O O fun L0 v0 oi=>lj [3,3] oi O O (by decide) (by decide) O O fun L1 v1 Pn=>lj [4,3] Pn O O (by decide) (by decide) O O fun L2 v2 Zh=>lj [3,4] Zh O O (by decide) (by decide) O O fun L3 v3 Fz=>lj [2,3] Fz O O (by decide) (by decide) O O fun L4 v4 Zi=>lj [4,2] Zi O O (by decide) (by decide) O O fun L5 v5 AH=>lj [5,2] AH O O (by decide) (by decide) O O fun L6 v6 yy=>lj [2,6] yy O O (by decide) (by decide) O O fun L7 v7 Zj=>U5 [⟨L0,2,2⟩,⟨L1,2,2⟩,⟨L2,2,2⟩,⟨L3,2,2⟩,⟨L4,2,2⟩,⟨L5,2,2⟩,⟨L6,2,2⟩,⟨L7,2,2⟩] Zj O O (by decide) (by decide) O O ?_);intro we w3 aH;refine aq O (aF (rl (ix+10) 8 aH (by exact fA) iO) O ?_);rintro _ w4 ⟨g,k2,rfl,hg,eP,aQ⟩;obtain⟨q,rfl⟩:∃q:Nat,g=q:=⟨g.toNat,by omega⟩;have hq:q<8:=by omega
   have bM:bt w4 (rg [⟨L0,2,2⟩,⟨L1,2,2⟩,⟨L2,2,2⟩,⟨L3,2,2⟩,⟨L4,2,2⟩,⟨L5,2,2⟩,⟨L6,2,2⟩,⟨L7,2,2⟩] q).a (rg [⟨L0,2,2⟩,⟨L1,2,2⟩,⟨L2,2,2⟩,⟨L3,2,2⟩,⟨L4,2,2⟩,⟨L5,2,2⟩,⟨L6,2,2⟩,⟨L7,2,2⟩] q).n (gl [[3,3],[3,3],[4,3],[3,4],[2,3],[4,2],[5,2],[2,6]] q):=by
    rcases(by omega:q=0\/q=1\/q=2\/q=3\/q=4\/q=5\/q=6\/q=7)with rfl | rfl | rfl | rfl | rfl | rfl | rfl | rfl
    ·exact aQ.bk 8 O
    ·exact aQ.bk 7 O
    ·exact aQ.bk 6 O
    ·exact aQ.bk 5 O
    ·exact aQ.bk 4 O
    ·exact aQ.bk 3 O
    ·exact aQ.bk 2 O
    exact aQ.bk 1 O
   have hU:=agY q hq;refine ajn (aQ.rd 0 O) O O O (by omega) (by show(q:Int)< (8:Int);omega) ?_;refine aju (i:=(q:Int)) (aQ.fq 0 O) O (by show(q:Int).toNat<8;omega) O O ?_;have a8:St w0 w4 (Bx 31 1 A4 [.slice none 0 0]::(ks.set ix k1).set ix k2):=aQ.tail.tail.tail.tail.tail.tail.tail.tail.tail;rw [gW]at a8;generalize uP (gl [[3,3],[3,3],[4,3],[3,4],[2,3],[4,2],[5,2],[2,6]] q)=T at hU;generalize gl [[3,3],[3,3],[4,3],[3,4],[2,3],[4,2],[5,2],[2,6]] q=L at hU bM;generalize rg [⟨L0,2,2⟩,⟨L1,2,2⟩,⟨L2,2,2⟩,⟨L3,2,2⟩,⟨L4,2,2⟩,⟨L5,2,2⟩,⟨L6,2,2⟩,⟨L7,2,2⟩] q=sl at bM;obtain⟨La,ln,lc⟩:=sl;refine aq O (aF (Tw La ln lc L T w4 bM hU) O ?_);rintro _ w5 ⟨A,c,rs,rfl,bT,hT⟩;have jx:=hU.Lg;have bg:St w0 w5 (Bx 31 1 A4 [.slice none 0 0]::(aU 24 2 A T.length c rs T++ks.set ix k2)):=(a8.call hT).perm eK;have gD:T.length<=c/\c<=9223372036854775807:=bg.cap 1 O;refine aq O (jN bg O ?_);intro A6 w6 bl;refine bS 1 0 bl O O O O O O O ?_;intro w7 bK;have bK:St w0 w7 (Bx 31 1 A6 [.slice A T.length c]::Bx 31 1 A4 [.slice none 0 0]::(aU 24 2 A T.length c rs T++ks.set ix k2)):=bK;have hM1:=jx.1;refine aq O (cz 39 O (fun h2=>?_) (fun h2=>?_))
   ·refine au O (bI 0 (bK.rd 0 O) O O O (au O (aF (xH A T.length c rs T w7 (St.eU bK.tail.tail O) (by omega)) O ?_)));rintro _ w8 ⟨rfl,jh⟩;have bh:=bK.ao jh.below;refine au O (aq O (au O (az O ?_)));refine aM _ O (fun h3=>?_) (fun h3=>?_)
    ·refine aD O (bI 0 (bh.rd 0 O) O O O (bS 1 1 bh O O O O O O O ?_));intro w9 cj;refine bD O (dO (dJ ?_));exact fI O (cj.rd 1 O) ⟨T.length,A,c,rs,T,_,k2,O,jx.bound.1,gD,jx,jx.bound.2,eP,fun fX Y h=>St.eU h O,cj.tail.tail⟩
    refine mN O (tQ ?_);exact⟨k2,(ajz O),eP,bh.tail.sub (List.Sublist.cons_cons _ (dz _ _))⟩
   exact absurd O h2
  refine cW O (aM _ O (fun h2=>?_) (fun h2=>?_))
  ·refine aD O (ak.quo O O O (by omega) (MO O O O (aF (adY (ix+1) _ aE (by exact fA) iO (by omega)) O ?_)));rintro _ w3 ⟨Ar,nr,cr,ps,k2,rfl,s7,kp,eP,aH⟩;have aH:St w0 w3 (ar 2 Ar nr cr ps::Bx 31 1 A4 [.slice none 0 0]::(ks.set ix k1).set ix k2):=aH;rw [gW]at aH;refine aq O (aF (UL Ar nr cr ps w3 (aH.bk 0 O) (by omega)) O ?_);rintro _ w4 ⟨n,A,c,rs,xss,code,rfl,hn,bT,di,hb,hcd,hT⟩;have aQ:St w0 w4 (Bx 31 1 A4 [.slice none 0 0]::(aU 24 2 A n c rs xss++ks.set ix k2)):=((aH.tail).call hT).perm (eK (l₁:=aU 24 2 A n c rs xss));have gD:n<=c/\c<=9223372036854775807:=aQ.cap 1 O;refine aq O (jN aQ O ?_);intro A9 w5 a8;refine bS 1 0 a8 O O O O O O O ?_;intro w6 bg;have bg:St w0 w6 (Bx 31 1 A9 [.slice A n c]::Bx 31 1 A4 [.slice none 0 0]::(aU 24 2 A n c rs xss++ks.set ix k2)):=bg;refine az O (aM _ O (fun h3=>?_) (fun h3=>?_))
   ·refine aD O (bI 0 (bg.rd 0 O) O O O (bS 1 1 bg O O O O O O O ?_));intro w7 bl;refine bD O (dO (dJ ?_));exact fI O (bl.rd 1 O) ⟨n,A,c,rs,xss,_,k2,O,hn,gD,hcd h3,hb,eP,fun fX Y h=>St.eU h di,bl.tail.tail⟩
   refine mN O (tQ ?_);exact⟨k2,(ajz O),eP,bg.tail.sub (List.Sublist.cons_cons _ (dz _ _))⟩
  refine mN O (tQ ?_);exact⟨k1,(ajz O),iO,aE⟩
 rintro k1 e w2 ⟨iO,aE⟩;refine cW O (Cd.loop (α:=Nat×Ck) (fun s=> [(0,.pointer As),(1,aj most),(4,.pointer A4),(11,aj (s.1:Int))]) (fun s w'=>eQ w0 As s.2/\s.1<=20/\St w0 w' (Bx 31 1 A4 [.slice none 0 0]::ks.set ix s.2)) (fun s=>20 - s.1) (0,k1) (ajz O) ⟨iO,bu _,aE⟩ ?_);rintro⟨i,k2⟩ e w3 ⟨eP,hi,aH⟩;dsimp only at eP hi aH|-;have lO:=jl (k':=k2) hk;refine b8 O (aM _ O (fun h1=>?_) (fun h1=>?_))
 ·refine aD O (aF (Gy (ix+1) most aH (by exact lO) eP hm) O ?_);rintro _ w4 ⟨n,N,A,c,rs,xss,k3,rfl,hn,hN,bT,di,hG,jQ,aQ⟩;have aQ:St w0 w4 (aU 24 2 A n c rs xss++ (Bx 31 1 A4 [.slice none 0 0]::(ks.set ix k2).set ix k3)):=aQ;rw [gW]at aQ;have aQ:St w0 w4 (Bx 31 1 A4 [.slice none 0 0]::(aU 24 2 A n c rs xss++ks.set ix k3)):=aQ.perm eK;have gD:n<=c/\c<=9223372036854775807:=aQ.cap 1 O;refine jN aQ O fun eZ w5 a8=>bS 1 0 a8 O O O O O O O ?_;intro w6 bg;have bg:St w0 w6 (Bx 31 1 eZ [.slice A n c]::Bx 31 1 A4 [.slice none 0 0]::(aU 24 2 A n c rs xss++ks.set ix k3)):=bg;refine aq O (bI 0 (bg.rd 0 O) O O O (aF (Sc A n c rs xss w6 (St.eU bg.tail.tail di) (by omega)) O ?_));rintro _ w7 ⟨rfl,hT⟩;have bl:=bg.ao hT.below;refine az O (aM _ O (fun h2=>?_) (fun h2=>?_))
  ·refine aD O (bI 0 (bl.rd 0 O) O O O (bS 1 1 bl O O O O O O O ?_));intro w8 bK;refine bD O (dO (dJ ?_));refine fI O (bK.rd 1 O) ?_;exact⟨n,A,c,rs,xss,_,k3,O,by omega,gD,h2.1,h2.1.bound.2,jQ,fun fX Y h=>St.eU h di,bK.tail.tail⟩
  refine aD O (aK O (aS O (tQ ?_)));exact⟨(i+1,k3),by show 20 - (i+1)<20 - i;omega,(ajz O),jQ,by show i+1<=20;omega,bl.tail.sub (List.Sublist.cons_cons _ (dz _ _))⟩
 refine bo O (bn (cJ O ?_));refine lj [2,2] aH O O (by decide) (by decide) O O fun Ua w4 aQ=>aF (Tw Ua 2 2 [2,2] _ w4 (aQ.bk 0 O) (tA TP)) O ?_;rintro _ w5 ⟨A,c,rs,rfl,bT,hT⟩;have jx:=(tA TP).Lg;generalize uP [2,2]=T at bT hT jx;have a8:St w0 w5 (Bx 31 1 A4 [.slice none 0 0]::(aU 24 2 A T.length c rs T++ks.set ix k2)):=(aQ.tail.call hT).perm eK;have gD:T.length<=c/\c<=9223372036854775807:=a8.cap 1 O;refine aq O (jN a8 O ?_);intro rr w6 bg;refine bS 1 0 bg O O O O O O O fun w7 bl=>aq O (bI 0 (bl.rd 0 O) O O O (bS 1 1 bl O O O O O O O ?_));intro w8 bK;refine bD O (fI O (bK.rd 1 O) ?_);exact⟨T.length,A,c,rs,T,_,k2,O,jx.bound.1,gD,jx,jx.bound.2,eP,fun fX Y h=>St.eU h O,bK.tail.tail⟩
theorem adZ{w0 w:aa}{ks:List Ck}(ix:Nat){As:ai}{k:Ck}(most:Nat)(hS:St w0 w ks)(hk:ks[ix]?=some k)(hK:eQ w0 As k)(hm:8<=most/\most<=1000):
 aG prog 185 [.pointer As,aj most] w (Hl w0 ks ix As):=(K0 ix most hS hk hK hm).mono fun _ _ ⟨n,A,c,rs,xss,X,k',h1,h2,h3,_,h5,h6,h7,h8⟩=> ⟨n,A,c,rs,xss,X,k',h1,h2,h3,h5,h6,h7,h8⟩
theorem ad0{w0 w:aa}{ks:List Ck}(ix:Nat){As:ai}{k:Ck}(most:Nat)(hS:St w0 w ks)(hk:ks[ix]?=some k)(hK:eQ w0 As k)(hm:8<=most/\most<=1000):
 aG prog 141 [.pointer As,aj most] w (Hl w0 ks ix As):=by
 refine bw func141 O ntmps141 O (kX O O) (bb O (jN hS O ?_));intro A4 w1 aC;refine aq O (aF (rl (ix+1) 12 aC (by exact hk) hK) O ?_);rintro _ w2 ⟨r,k1,rfl,hr,iO,aE⟩;have aE:St w0 w2 (Bx 31 1 A4 [.slice none 0 0]::ks.set ix k1):=aE;have fA:=jl (k':=k1) hk;refine az O (aM _ O (fun h1=>?_) (fun h1=>?_))
 ·refine aD O (aF (adF (ix+1) most aE (by exact fA) iO hm) O ?_);rintro _ w3 ⟨n,A,c,rs,xss,X,k2,rfl,hn,gD,hb,eP,hX,aH⟩;have aH:St w0 w3 (X++ (Bx 31 1 A4 [.slice none 0 0]::(ks.set ix k1).set ix k2)):=aH;rw [gW]at aH;refine bS 1 0 (aH.perm eK) O O O O O O O fun w4 aQ=>bD O (fI O (aQ.rd 0 O) ?_);exact⟨n,A,c,rs,xss,X,k2,O,hn,gD,hb,eP,hX,aQ.tail⟩
 refine aD O (aF (adZ (ix+1) most aE (by exact fA) iO hm) O ?_);rintro _ w3 ⟨n,A,c,rs,xss,X,k2,rfl,hn,gD,hb,eP,hX,aH⟩;have aH:St w0 w3 (X++ (Bx 31 1 A4 [.slice none 0 0]::(ks.set ix k1).set ix k2)):=aH;rw [gW]at aH;refine bS 1 0 (aH.perm eK) O O O O O O O fun w4 aQ=>bD O (fI O (aQ.rd 0 O) ?_);exact⟨n,A,c,rs,xss,X,k2,O,hn,gD,hb,eP,hX,aQ.tail⟩
theorem RR(Ac:ai)(nc cc:Nat)(bs:ah)(w:aa)(hY:nv w Ac nc bs)(ko:nc<=1000000):
 aG prog 136 [.slice Ac nc cc] w (fun v w'=>∃(As:ai) (k:Ck),v= .pointer As/\(∀w0,nv w0 Ac nc bs->eQ w0 As k)/\St w w' [k]):=by
 refine bw func136 O ntmps136 O (b7 O) ?_;refine bb O (ba O O ?_);refine lV O O (nX _ (by omega)) (EM O O O fun r1 _=>?_)
 refine UY (by exact inferInstance) (by exact inferInstance) (by exact inferInstance) O O O O O O O O (U0 (St.refl w) O O ?_);intro As w2 hS;refine az O (Cd.loop (α:=Nat×Int) (fun s=> [(0,.slice Ac nc cc),(3,.pointer As),(4,aj (s.1:Int))]) (fun s w'=>St w w' [Bx 186 3 As [.slice Ac nc cc,aj 0,.int .u64 s.2]]/\s.1<=nc) (fun s=>nc - s.1) (0,_) (ajz O) ⟨hS,bu _⟩ ?_);rintro⟨i,h⟩ e w3 ⟨aC,hi⟩;dsimp only at aC hi|-;refine bb O (ba O O (aq O ?_));refine cz 16 O (fun h1=>?_) (fun h1=>?_)
 ·skip
  refine au O (aq O (au O (az O ?_)));refine aM _ O (fun h2=>?_) (fun h2=>?_)
  ·skip
   have Yz:=hY.at_ (j:=(i:Int)) (by omega) (by omega);have Dn:=hY.below aC.below;refine cW O ?_;refine jm [15] [yP (As),yP (As),yP (As),yP (aB (As) 2),.ex (.int .u64 h),.pr (fun v _=>∃r:Int,v= .int .u64 r),yS (Ac) (nc) (cc),yI ((i:Int)),yP (aB Ac (i:Int).toNat),.ex (.int .u8 (bs.getD (i:Int).toNat 0)),.ex (.int .u64 (bs.getD (i:Int).toNat 0)),.pr (fun v _=>∃r:Int,v= .int .u64 r),.pr (fun v _=>∃r:Int,v= .int .u64 r),yP (As),yP (aB (As) 2),.pr (fun _ w'=>∃r:Int,St w w' [Bx 186 3 As [.slice Ac nc cc,aj 0,.int .u64 r]])] (ly (ly (ly (ly (ly (cg.2 ⟨Ye.cH (fun _ _ _ h _=>h),(ly (ly (ly (ly (ly (cg.2 ⟨Ye.cH (fun _ _ _ h _=>h),(cg.2 ⟨Ye.cH (fun _ _ _ h _=>h),(ly (ly (cg.2 ⟨Ye.cH (fun v w w' h hb=>by obtain⟨r,h⟩:=h;exact⟨r,h.ao hb⟩),(fun _ h=>by cases h)⟩)))⟩)⟩))))))⟩)))))) ?_ ?_
   ·refine⟨bZ O,bZ O,cP fun _ _ hb _ _ _=>ik ((aC.rd 0 O).below hb) (Nat.succ_pos _) O O (bq O O),cP fun _ _ hb _ _ _=>aI ((aC.rd 0 O).below hb) O (bq O O),?_,?_,bZ O,bZ O,?_,?_,?_,?_,?_,cP fun _ _ hb _ _ _=>ik ((aC.rd 0 O).below hb) (Nat.succ_pos _) O O (bq O O),cP fun _ _ hb _ _ _=>aI ((aC.rd 0 O).below hb) O (bq O O),?_,aw⟩
    ·refine cP fun e1 w1 hb hp bc hq=>?_
     refine fL (k:= .u64) ((aC.rd 0 O).below hb) O O O O O (ak.n (gh O (by exact O)))
    ·intro e1 w1 cc fB ea fz hp bc hq;show ak _ _ _ _ _ _ _;refine MP O O O fun r _=>?_
     exact ak.n (fu.dn O (Below.refl _ _) ⟨r,O⟩)
    ·refine cP fun e1 w1 hb hp bc hq=>?_
     refine aA (Dn.below hb).2.2 O (ak.n (gh O (by exact O)))
    ·refine cP fun e1 w1 hb hp bc hq=>?_
     refine MN (Dn.below hb) O (by omega) O O (ak.n (gh O (by exact O)))
    ·intro e1 w1 cc fB ea fz hp bc hq;show ak _ _ _ _ _ _ _;refine lV O O (nX _ (by omega)) (ak.n (gh O (by exact O)))
    ·refine cP fun e1 w1 hb hp bc hq=>?_
     obtain⟨r,hr⟩:=(hp 5 _ _ (by kernel_rfl) rfl rfl (by kernel_rfl));refine EM (by exact hr) O O fun r _=>?_
     exact ak.n (fu.dn O (Below.refl _ _) ⟨r,O⟩)
    ·refine cP fun e1 w1 hb hp bc hq=>?_
     obtain⟨r,hr⟩:=(hp 11 _ _ (by kernel_rfl) rfl rfl (by kernel_rfl));refine EM (by exact hr) O O fun r _=>?_
     exact ak.n (fu.dn O (Below.refl _ _) ⟨r,O⟩)
    refine ju fun e1 w1 hb hp bc hq=>?_
    obtain⟨r,hr⟩:=(hp 12 _ _ (by kernel_rfl) rfl rfl (by kernel_rfl));refine ke 0 (aC.ao hb) O O (by exact hr) O O ?_;intro w9 hT;exact ak.n (fF.st O ⟨r,hT⟩)
   intro u w5 _ hu _ _;obtain⟨r,hT⟩:=hu 15 _ rfl (by kernel_rfl);refine fJ O (aK O (aS O (tQ ?_)));exact⟨(i+1,r),by show nc - (i+1)<nc - i;omega,(ajz O),hT,by show i+1<=nc;omega⟩
  refine bo O (bn (eG O ?_));refine Ek O ?_;exact⟨As,_,O,fun w0 h0=> ⟨Ac,nc,cc,0,h,bs,O,⟨Int.le_refl _,by omega⟩,ko,h0⟩,aC⟩
 skip
 refine ay O (ay O (az O ?_));refine Cd.dZ O (bo O (bn (eG O ?_)));refine Ek O ?_;exact⟨As,_,O,fun w0 h0=> ⟨Ac,nc,cc,0,h,bs,O,⟨Int.le_refl _,by omega⟩,ko,h0⟩,aC⟩
def Mm(w0:aa)(ks:List Ck)(v:ab)(w':aa):Prop:=
 ∃(n:Int) (A D:ai) (cA cD m k:Nat) (R:ah) (rs:List aX) (B:ag) (X:List Ck),v= .agg #[aj n,.slice A m cA,.slice D k cD]/\(-1000<=n/\n<=1000)/\m<=100000/\k<=100000/\(∀(fX:aa) (Y:List Ck),St w0 fX (X++Y)->bt fX A m R/\bL fX D k rs B)/\St w0 w' (X++ks)
theorem ad2{w0 w:aa}{ks:List Ck}(ix:Nat){As:ai}{k:Ck}(most:Nat)(hS:St w0 w ks)(hk:ks[ix]?=some k)(hK:eQ w0 As k)(hm:8<=most/\most<=80):
 aG prog 135 [.pointer As,aj most] w (Hk w0 ks ix As):=by
 refine bw func135 O ntmps135 O (kX O O) (bb O (jc hS O ?_));intro A4 w1 aC;clear hS;refine aq O (aF (tu [bp A4 0 none 0 0 none 0 0] ix 6 aC hk hK) O ?_);rintro _ w2 ⟨r,k1,rfl,hr,iO,hS⟩;have hS:St w0 w2 (bp A4 0 none 0 0 none 0 0::ks.set ix k1):=hS;clear aC;have fA:=jl (k':=k1) hk;refine az O (aM _ O (fun c0=>?_) (fun c0=>?_))
 ·refine aD O (aF (adH (ix+1) most hS (by exact fA) iO hm) O ?_);rintro _ w3 ⟨n,A,D,cA,cD,m,k,R,rs,B,X,k2,rfl,hn,kU,eN,eP,hX,aH⟩;have aH:St w0 w3 (X++ (bp A4 0 none 0 0 none 0 0::(ks.set ix k1).set ix k2)):=aH;rw [gW]at aH;have aH:St w0 w3 (bp A4 0 none 0 0 none 0 0::(X++ks.set ix k2)):=aH.perm eK;refine bS 3 0 aH O O O O O O O fun w4 aQ=>bD O (fI O (aQ.rd 0 O) ?_);exact⟨n,A,D,cA,cD,m,k,R,rs,B,X,k2,O,hn,kU,eN,eP,hX,aQ.tail⟩
 refine cW O (aM _ O (fun c1=>?_) (fun c1=>?_))
 ·refine aD O (dE hS O O O ?_);intro pk w3 aH;have aH:St w0 w3 ([ar 2 pk 1 1 [3],bp A4 0 none 0 0 none 0 0]++ks.set ix k1):=aH;refine aq O (aF (tu _ ix 3 aH fA iO) O ?_);rintro _ w4 ⟨y,k2,rfl,hy,eP,aQ⟩;rw [gW]at aQ;have aQ:St w0 w4 (ar 2 pk 1 1 [3]::bp A4 0 none 0 0 none 0 0::ks.set ix k2):=aQ;obtain⟨g,rfl⟩:∃g:Nat,y=g:=⟨y.toNat,by omega⟩;have hg:=hy.2.1 (by omega);clear hS aH;refine aK O (ajq (ahu pk 1 (g+1) w4 (aQ.bk 0 O) (by omega)) O (by exact aL (fun z:Int=> [Value.slice pk 1 1,aj z]) (by omega)) O ?_);rintro _ w5 ⟨n,AR,AD,cR,cD,m,R,rs,B,X,cd,rfl,hn,kU,hX,ax⟩;have a8:=aQ.call ax;refine aq O (jc a8 O ?_);intro A5 w6 bg;refine bS 3 0 bg O O O O O O O ?_;intro w7 bl;have bl:St w0 w7 (bp A5 n AR m cR AD m cD::(X++ (ar 2 pk 1 1 [3]::bp A4 0 none 0 0 none 0 0::ks.set ix k2))):=bl;clear bg a8 aQ;refine az O (aM _ O (fun c2=>?_) (fun c2=>?_))
  ·refine aD O (bI 2 (bl.rd 0 O) O O O ?_);have bK:St w0 w7 (bp A4 0 none 0 0 none 0 0::(X++ks.set ix k2)):=(bl.tail.sub (List.Sublist.append_left (List.sublist_cons_self _ _) X)).perm eK;refine bS 3 0 bK O O O O O O O fun w8 bh=>bD O (fI O (bh.rd 0 O) ?_);exact⟨n,AR,AD,cR,cD,m,m,R,rs,B,X,k2,O,hn,kU,kU,eP,fun fX Y h=>hX w0 fX Y h,bh.tail⟩
  have hS:St w0 w7 (bp A4 0 none 0 0 none 0 0::ks.set ix k2):=(bl.tail.sub (dz _ _)).tail;obtain⟨kk,rfl⟩:∃kk,kk=k2:=⟨_,rfl⟩;have AA:=eP;refine aD O (aF (K0 (ix+1) most hS (by exact jl (k':=kk) hk) AA (by omega)) O ?_);rintro _ iH ⟨n,A,c,rs,xss,X,k3,rfl,hn6,gD,jx,_,jQ,hX,aH⟩;have aH:St w0 iH (X++ (bp A4 0 none 0 0 none 0 0::(ks.set ix kk).set ix k3)):=aH;rw [gW]at aH;have Jw:=hX iH _ aH;have aH:St w0 iH (bp A4 0 none 0 0 none 0 0::ks.set ix k3):=aH.sub (dz _ _);refine aF (KW A n c rs xss iH Jw jx) O ?_;rintro _ pj ⟨AR,cR,AD,cD,bN,rfl,pT,ax⟩;have aQ:=aH.call ax;have Bq:=BO (M:=xss) xss.length;have Pq:=jx.1;have Df:=jx.2.1;have hmul:xss.length* (gl xss 0).length<=5*400:=Nat.mul_le_mul (by omega) (by omega);have kh:=pH xss;have aQ:St w0 pj (bp A4 0 none 0 0 none 0 0::((ar 2 AR (a7 xss xss.length) cR (cq xss xss.length)::(aU 24 2 AD (a7 xss xss.length) cD bN (b6 xss)++ []))++ks.set ix k3)):=aQ.perm eK;refine bS 3 0 aQ O O O O O O O fun Cf a8=>bD O (fI O (a8.rd 0 O) ?_);refine⟨(xss.length:Int),AR,AD,cR,cD,a7 xss xss.length,a7 xss xss.length,cq xss xss.length,bN,b6 xss,_,k3,O,⟨by omega,by omega⟩,by omega,by omega,jQ,fun fX Y h=> ⟨h.bk 0 O,?_⟩,a8.tail⟩;have h2:St w0 fX (aU 24 2 AD (a7 xss xss.length) cD bN (b6 xss)++Y):=by
   have h3:=h.tail;rw [iz]at h3;exact h3
  exact h2.eU kh
 obtain⟨kk,rfl⟩:∃kk,kk=k1:=⟨_,rfl⟩;have AA:=iO;refine aD O (aF (K0 (ix+1) most hS (by exact jl (k':=kk) hk) AA (by omega)) O ?_);rintro _ iH ⟨n,A,c,rs,xss,X,k3,rfl,hn6,gD,jx,_,jQ,hX,aH⟩;have aH:St w0 iH (X++ (bp A4 0 none 0 0 none 0 0::(ks.set ix kk).set ix k3)):=aH;rw [gW]at aH;have Jw:=hX iH _ aH;have aH:St w0 iH (bp A4 0 none 0 0 none 0 0::ks.set ix k3):=aH.sub (dz _ _);refine aF (KW A n c rs xss iH Jw jx) O ?_;rintro _ pj ⟨AR,cR,AD,cD,bN,rfl,pT,ax⟩;have aQ:=aH.call ax;have Bq:=BO (M:=xss) xss.length;have Pq:=jx.1;have Df:=jx.2.1;have hmul:xss.length* (gl xss 0).length<=5*400:=Nat.mul_le_mul (by omega) (by omega);have kh:=pH xss;have aQ:St w0 pj (bp A4 0 none 0 0 none 0 0::((ar 2 AR (a7 xss xss.length) cR (cq xss xss.length)::(aU 24 2 AD (a7 xss xss.length) cD bN (b6 xss)++ []))++ks.set ix k3)):=aQ.perm eK;refine bS 3 0 aQ O O O O O O O fun Cf a8=>bD O (fI O (a8.rd 0 O) ?_);refine⟨(xss.length:Int),AR,AD,cR,cD,a7 xss xss.length,a7 xss xss.length,cq xss xss.length,bN,b6 xss,_,k3,O,⟨by omega,by omega⟩,by omega,by omega,jQ,fun fX Y h=> ⟨h.bk 0 O,?_⟩,a8.tail⟩;have h2:St w0 fX (aU 24 2 AD (a7 xss xss.length) cD bN (b6 xss)++Y):=by
  have h3:=h.tail;rw [iz]at h3;exact h3
 exact h2.eU kh
theorem Ut{w0 w:aa}{ks:List Ck}(Ac:ai)(nc cc:Nat)(bs:ah)(hS:St w0 w ks)(hY:nv w0 Ac nc bs)(ko:nc<=1000000):
 aG prog 74 [.slice Ac nc cc] w (Mm w0 ks):=by
 refine bw func74 O ntmps74 O (kX O O) (bb O (jc hS O ?_));intro A2 w1 aC;refine aq O (aF (RR Ac nc cc bs w1 (hY.below aC.below) ko) O ?_);rintro _ w2 ⟨As,k0,rfl,vm,hT⟩;have vm:=vm w0 hY;have aE:St w0 w2 (k0::bp A2 0 none 0 0 none 0 0::ks):=aC.call hT;refine aF (ad2 0 32 aE O vm (by decide)) O ?_;rintro _ w3 ⟨n,A,D,cA,cD,m,k,R,rs,B,X,k1,rfl,hn,hm,hk,iO,hX,aH⟩;have aH:St w0 w3 (X++ (k1::bp A2 0 none 0 0 none 0 0::ks)):=aH;have aH:St w0 w3 (bp A2 0 none 0 0 none 0 0::(X++ks)):=(aH.sub (List.Sublist.append_left (List.sublist_cons_self _ _) X)).perm eK;refine bS 3 0 aH O O O O O O O fun w4 aQ=>bD O (fI O (aQ.rd 0 O) ?_);exact⟨n,A,D,cA,cD,m,k,R,rs,B,X,O,hn,hm,hk,hX,aQ.tail⟩
theorem Us{w0 w:aa}{ks:List Ck}(Ac:ai)(nc cc:Nat)(bs:ah)(hS:St w0 w ks)(hY:nv w0 Ac nc bs)(ko:nc<=1000000):
 aG prog 27 [.slice Ac nc cc] w (Mm w0 ks):=by
 refine bw func27 O ntmps27 O (kX O O) (bb O (jc hS O ?_));intro A2 w1 aC;refine aq O (aF (Ut Ac nc cc bs aC hY ko) O ?_);rintro _ w3 ⟨n,A,D,cA,cD,m,k,R,rs,B,X,rfl,hn,hm,hk,hX,aH⟩;have aH:St w0 w3 (bp A2 0 none 0 0 none 0 0::(X++ks)):=aH.perm eK;refine bS 3 0 aH O O O O O O O fun w4 aQ=>bD O (fI O (aQ.rd 0 O) ?_);exact⟨n,A,D,cA,cD,m,k,R,rs,B,X,O,hn,hm,hk,hX,aQ.tail⟩
end
end Go.Proofs.YtkojeolafnadeaaGreatDoor.Vc
