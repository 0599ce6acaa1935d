/-
  The texts Da, Grw, Grv, Frm, G1, G2, G3, Gct, G4, G5, F1, Db, Cyc, C1, C2 in one. Conditions: as each part states them.
-/
import Derived.Test.YtopgfgdgfjddpaaGreatDoorZb
import Derived.KernelRfl
import Derived.Test.YtopgfgdgfjddpaaGreatDoorZa
namespace Go.Proofs.YtopgfgdgfjddpaaGreatDoor.Vc
section
open Go.RowKit Tryz
def Rg(n:Nat)(xs:List Int):Prop:=xs.length=n∧∀x∈xs,0≤x∧x< (n:Int)
theorem Rg.gi{n:Nat}{xs:List Int}(h:Rg n xs){i:Int}(h0:0≤i)(h1:i<n):0≤Vc.gi xs i∧Vc.gi xs i<n:=by
 obtain⟨q,rfl⟩:∃q:Nat,i=q:=⟨i.toNat,by omega⟩;rw [bX (by rw [h.1];omega)];exact h.2 _ (dQ _)
theorem Rg.set{n:Nat}{xs:List Int}(h:Rg n xs){j:Nat}{v:Int}(h0:0≤v)(h1:v<n):Rg n (xs.set j v):=by
 refine⟨by rw [iw];exact h.1,fun x hx=>?_⟩;rcases List.mem_or_eq_of_mem_set hx with hx | rfl
 ·exact h.2 x hx
 exact⟨h0,h1⟩
theorem acH(n:Nat)(w:World)(hn:n≤1000000):
 aA prog 168 [aiD (n:Int)] w (fun v w'=>∃A c xs,v= .slice A n c∧Rg n xs∧St w w' [ah 2 A n c xs]):=by
 refine bk func168 O ntmps168 O (cK O) (aQ O (jl (St.refl w) O ?_));intro A1 w1 ao;refine ay O ?_;refine Cd.loop (α:=Nat×aiC×Nat×List Int) (fun s=> [(0,aiD (n:Int)),(3,.slice s.2.1 s.1 s.2.2.1),(4,aiD (s.1:Int))]) (fun s w'=>St w w' [ah 2 s.2.1 s.1 s.2.2.1 s.2.2.2]∧s.1≤n∧s.2.2.2.length=s.1∧∀x∈s.2.2.2,0≤x∧x< (s.1:Int)) (fun s=>n - s.1) (0,A1,0,[]) ⟨O,O,O,ae⟩ ⟨ao,aW _,O,fun x hx=> (nomatch hx)⟩ ?_;rintro⟨i,A2,c2,xs⟩ e w2 ⟨ar,hi,hl,hx⟩;dsimp only at ar hi hl hx⊢;refine bK O ?_;refine aB _ O (fun h1=>?_) (fun h1=>?_)
 ·refine av O (dJ ar O O O ?_);intro A3 w3 az;refine eK 1 az O (az.bc 0 O) O O O (by omega) (by omega) O ?_;intro A4 c4 w4 aJ;refine ad O (aa.add O O O (by omega) (aF O (tQ ?_)));refine⟨(i+1,A4,c4,xs++ [(i:Int)]),by show n - (i+1)<n - i;omega,⟨O,O,O,ae⟩,aJ.tail,by show i+1≤n;omega,by simp [hl],fun x jf=>?_⟩;rcases iG.1 jf with h | h
  ·have:=hx x h;show 0≤x∧x< ((i+1:Nat):Int);omega
  rw [eT]at h;subst h;show 0≤(i:Int)∧(i:Int)< ((i+1:Nat):Int);omega
 have dq:i=n:=by omega
 subst dq;refine aY O (aZ (gE O ?_));refine gB O ?_;exact⟨A2,c2,xs,O,⟨hl,hx⟩,ar⟩
theorem Sx{w0 w:World}{ks:List Ck}(ix:Nat){As:aiC}{k:Ck}(n:Nat)(hS:St w0 w ks)(hk:ks[ix]?=some k)(hK:fz w0 As k)(hn:n≤1000000):
 aA prog 183 [.pointer As,aiD (n:Int)] w (fun v w'=>∃A c xs k',v= .slice A n c∧Rg n xs∧fz w0 As k'∧St w0 w' (ah 2 A n c xs::ks.set ix k')):=by
 refine bk func183 O ntmps183 O (cK O) (aQ O (aa.call (acH n _ hn) O O O ?_));rintro _ w1 ⟨A,c,xs,rfl,hx,ak⟩;have ao:St w0 w1 (ah 2 A n c xs::ks):=hS.call ak;refine ad O (aa.sub O O O (by omega) (ay O ?_));refine Cd.loop (α:=Int×List Int×Ck) (fun s=> [(0,.pointer As),(5,.slice A n c),(6,aiD s.1)]) (fun s w'=>St w0 w' (ah 2 A n c s.2.1::ks.set ix s.2.2)∧Rg n s.2.1∧fz w0 As s.2.2∧ -1≤s.1∧s.1<n) (fun s=>s.1.toNat) ((n:Int) - 1,xs,k) ⟨O,O,O,trivial⟩ ⟨by dsimp only;rw [Mz hk];exact ao,hx,hK,by show -1≤(n:Int) - 1;omega,by show(n:Int) - 1<n;omega⟩ ?_;rintro⟨i,xs,k1⟩ e w2 ⟨ar,hx,nw,eP,jt⟩;dsimp only at ar hx nw eP jt⊢;have eh:(ah 2 A n c xs::ks.set ix k1)[ix+1]?=some k1:=lB (k':=k1) hk;refine bK O ?_;refine aB _ O (fun h1=>?_) (fun h1=>?_)
 ·refine av O (aa.add O O O (by omega) ?_);refine aa.call (tY (ix+1) (i+1) ar eh nw) O O O ?_;rintro _ w3 ⟨r,k2,rfl,⟨qw,kG,_⟩,fB,az⟩;have kG:=kG (by omega);have az:St w0 w3 (ah 2 A n c xs::(ks.set ix k1).set ix k2):=az;rw [kI]at az;have gG:=az.bc 0 O;have Cf:=hx.gi (i:=i) (by omega) jt;have Ec:=hx.gi (i:=r) qw (by omega);refine ad O (aw gG.2 O O O (by omega) (by omega) (aT gG O (by omega) O O (ad O (aw gG.2 O O O (by omega) (by omega) (aT gG O (by omega) O O (aw gG.2 O O O (by omega) (by omega) (jR 0 az O O O (by omega) ?_)))))));intro w4 aJ;have aJ:St w0 w4 (ah 2 A n c (xs.set i.toNat (gi xs r))::ks.set ix k2):=aJ;have oh:=aJ.bc 0 O;refine ad O (aw oh.2 O O O (by omega) (by omega) (jR 0 aJ O O O (by omega) ?_));intro w5 aK;refine ad O (aa.sub O O O (by omega) (aF O (tQ ?_)));exact⟨(i - 1,(xs.set i.toNat (gi xs r)).set r.toNat (gi xs i),k2),by show(i - 1).toNat<i.toNat;omega,⟨O,O,O,ae⟩,aK,(hx.set Ec.1 Ec.2).set Cf.1 Cf.2,fB,by show -1≤i - 1;omega,by show i - 1<n;omega⟩
 refine aY O (aZ (gE O ?_));refine gB O ?_;exact⟨A,c,xs,k1,O,hx,nw,ar⟩
structure Vq(w0:World)(ks:List Ck)(ix:Nat)(As:aiC)(k:Ck)(n:Nat)(S:Nat→Bool)(e:Env)(w:World):Prop where
 f0:e 0= .pointer As
 f1:e 1=aiD (n:Int)
 p0:S 0=true→e 8= .pointer As
 p1:S 1=true→e 9=aiD (n:Int)
 p3:S 3=true→e 11=aiD (n:Int)
 mem:∃(A:aiC) (c:Nat) (xs:List Int) (A2:aiC) (k':Ck) (uf nV:List Ck),(S 2=false→uf=[]∧k'=k)∧(S 2=true→e 10= .slice A n c∧Rg n xs∧uf=[ah 2 A n c xs])∧fz w0 As k'∧(S 4=false→nV=[])∧(S 4=true→e 12= .slice A2 n n∧nV=[ah 2 A2 n n (List.replicate n 0)])∧(S 5=true→e 5= .slice A n c)∧(S 6=true→e 6= .slice A2 n n)∧St w0 w (nV++ (uf++ks.set ix k'))
theorem SB{w0 w:World}{ks:List Ck}(ix:Nat){As:aiC}{k:Ck}(n:Nat)(hS:St w0 w ks)(hk:ks[ix]?=some k)(hK:fz w0 As k)(hn:n≤1000000):
 aA prog 162 [.pointer As,aiD (n:Int)] w (fun v w'=>∃A c xs k',v= .slice A n c∧Rg n xs∧fz w0 As k'∧St w0 w' (ah 2 A n c xs::ks.set ix k')):=by
 refine bk func162 O ntmps162 O (cK O) (bK O ?_);refine xE (by kernel_rfl) (by kernel_rfl) (fun S e1 w1=>Vq w0 ks ix As k n S e1 w1) (fun w4 hb=> ⟨O,O,fun h=> (nomatch h),fun h=> (nomatch h),fun h=> (nomatch h),none,0,[],none,k,[],[],fun _=> ⟨O,O⟩,fun h=> (nomatch h),hK,fun _=>O,fun h=> (nomatch h),fun h=> (nomatch h),fun h=> (nomatch h),by rw [Mz hk];exact hS.later hb⟩) ?_ ?_
 ·intro S q o e1 w4 hq bE hd cg hI;obtain⟨f0,f1,p0,p1,p3,A,c,xs,A2,k',uf,nV,m0,m1,og,m2,m3,m4,m5,hT⟩:=hI
  match q,hq,bE with
  | 0,hq,bE=>
   obtain rfl:=cO hq;refine y8 O (by exact f0) O (aa.n ?_);exact⟨f0,f1,fun _=>O,p1,p3,A,c,xs,A2,k',uf,nV,m0,m1,og,m2,m3,m4,m5,hT⟩
  | 1,hq,bE=>
   obtain rfl:=cO hq;refine pI O (by exact f1) O (aa.n ?_);exact⟨f0,f1,p0,fun _=>O,p3,A,c,xs,A2,k',uf,nV,m0,m1,og,m2,m3,m4,m5,hT⟩
  | 2,hq,bE=>
   obtain rfl:=cO hq;obtain⟨rfl,rfl⟩:=m0 bE;have n5:S 5=false:=by
    cases h:S 5 with
    | false=>rfl
    | true=>rw [←bE];exact(cV (cg 5 _ h rfl) 2 rfl).symm
   have n6:S 6=false:=by
    cases h:S 6 with
    | false=>rfl
    | true=>rw [←n5];exact(cV (cg 6 _ h rfl) 5 rfl).symm
   rw [List.nil_append]at hT;have dw:(nV++ks.set ix k')[nV.length+ix]?=some k':=by
    rw [jQ (by omega),show nV.length+ix - nV.length=ix by omega];exact lB hk
   refine aa.call (Sx (nV.length+ix) n hT dw hK hn) O (by show [e1 8,e1 9]=_;rw [p0 (cV hd 0 O),p1 (cV hd 1 O)]) O ?_;rintro _ w5 ⟨A',c',UU,k2,rfl,jf,fB,gV⟩;refine aa.n ?_;refine⟨f0,f1,p0,p1,p3,A',c',UU,A2,k2,[ah 2 A' n c' UU],nV,fun h=> (nomatch (show true=false from h)),fun _=> ⟨O,jf,O⟩,fB,m2,m3,fun h=> (nomatch n5.symm.trans h),fun h=> (nomatch n6.symm.trans h),?_⟩;rw [List.set_append_right _ _ (by omega),show nV.length+ix - nV.length=ix by omega,kI]at gV;exact gV.perm (iH (l₁:=nV)).symm
  | 3,hq,bE=>
   obtain rfl:=cO hq;refine pI O (by exact f1) O (aa.n ?_);exact⟨f0,f1,p0,p1,fun _=>O,A,c,xs,A2,k',uf,nV,m0,m1,og,m2,m3,m4,m5,hT⟩
  | 4,hq,bE=>
   obtain rfl:=cO hq;obtain rfl:=m2 bE;have n6:S 6=false:=by
    cases h:S 6 with
    | false=>rfl
    | true=>rw [←bE];exact(cV (cg 6 _ h rfl) 4 rfl).symm
   refine vT n hT (by exact p3 (cV hd 3 O)) O (by omega) ?_;intro A' w5 jd;refine aa.n ?_;exact⟨f0,f1,p0,p1,p3,A,c,xs,A',k',uf,[ah 2 A' n n (List.replicate n 0)],m0,m1,og,fun h=> (nomatch (show true=false from h)),fun _=> ⟨O,O⟩,m4,fun h=> (nomatch n6.symm.trans h),jd⟩
  | 5,hq,bE=>
   obtain rfl:=cO hq;refine oO O (by exact(m1 (cV hd 2 O)).1) O (aa.n ?_);exact⟨f0,f1,p0,p1,p3,A,c,xs,A2,k',uf,nV,m0,m1,og,m2,m3,fun _=>O,m5,hT⟩
  | 6,hq,bE=>
   obtain rfl:=cO hq;refine oO O (by exact(m3 (cV hd 4 O)).1) O (aa.n ?_);exact⟨f0,f1,p0,p1,p3,A,c,xs,A2,k',uf,nV,m0,m1,og,m2,m3,m4,fun _=>O,hT⟩
  | q+7,hq,_=>exact(nomatch hq)
 ·intro S e1 w4 dL hI;obtain⟨f0,f1,p0,p1,p3,A,c,xs,A2,k',uf,nV,m0,m1,og,m2,m3,m4,m5,hT⟩:=hI;obtain⟨_,hx,rfl⟩:=m1 (dL 2 (by decide));obtain⟨_,rfl⟩:=m3 (dL 4 (by decide));refine FD (F:=[(0,.pointer As),(1,aiD (n:Int)),(5,.slice A n c),(6,.slice A2 n n)]) ⟨f0,f1,m4 (dL 5 (by decide)),m5 (dL 6 (by decide)),ae⟩ ?_;have hT:St w0 w4 (ah 2 A2 n n (List.replicate n 0)::ah 2 A n c xs::ks.set ix k'):=hT;refine eo O ?_;refine Cd.loop (α:=Nat×List Int) (fun s=> [(1,aiD (n:Int)),(5,.slice A n c),(6,.slice A2 n n),(7,aiD (s.1:Int))]) (fun s w'=>St w0 w' (ah 2 A2 n n s.2::ah 2 A n c xs::ks.set ix k')∧Rg n s.2∧s.1≤n+1) (fun s=>n+2 - s.1) (0,List.replicate n 0) ⟨rfl,rfl,rfl,rfl,ae⟩ ⟨hT,⟨by simp,fun x hx=>by obtain⟨h0,rfl⟩:=List.mem_replicate.1 hx;omega⟩,aW _⟩ ?_;rintro⟨i,ps⟩ e w5 ⟨jd,jZ,hi⟩;dsimp only at jd jZ hi⊢;refine aQ O (aa.add O O O (by omega) (ay O ?_));refine aB _ O (fun h1=>?_) (fun h1=>?_)
  ·have Qc:=jd.bc 0 O;have zq:=jd.bc 1 O;have Kt:=hx.gi (i:=(i:Int)) (by omega) (by omega);have GY:=hx.gi (i:=(i:Int)+1) (by omega) (by omega);refine bP O ?_;refine iU [11] [yS (A2) (n) (n),yS (A) (n) (c),yI ((i:Int)),yP (aq (A) ((i:Int)).toNat),yI (gi (xs) ((i:Int))),yS (A) (n) (c),yI ((i:Int)),yI (((i:Int))+ ((1:Int))),yP (aq (A) (((i:Int))+ ((1:Int))).toNat),yI (gi (xs) (((i:Int))+ ((1:Int)))),yP (aq (A2) (gi (xs) ((i:Int))).toNat),.pr (fun _ w'=>St w0 w' (ah 2 A2 n n (ps.set (gi xs (i:Int)).toNat (gi xs ((i:Int)+1)))::ah 2 A n c xs::ks.set ix k'))] (by kernel_rfl) (by kernel_rfl) (ly (ly (ly (ly (ly (ly (ly (ly (ly (ly (ly (bV.2 ⟨Ye.b9 (fun v w w' h hb=>h.later hb),(fun _ h=>by cases h)⟩)))))))))))) ?_ ?_
   ·refine⟨ba O,ba O,ba O,cP fun _ _ hb _ _ _=>aw (zq.later hb).2 O O O (by omega) (by omega) (aX O O),cP fun _ _ hb _ _ _=>aT (zq.later hb) O (by omega) O O (aX O O),ba O,ba O,aP fun _ _=>aa.add O O O (by omega) (aX O O),cP fun _ _ hb _ _ _=>aw (zq.later hb).2 O O O (by omega) (by omega) (aX O O),cP fun _ _ hb _ _ _=>aT (zq.later hb) O (by omega) O O (aX O O),cP fun _ _ hb _ _ _=>aw (Qc.later hb).2 O O O (by omega) (by omega) (aX O O),?_,ae⟩
    ·refine iY fun e1 w1 hb hp aL hq=>?_
     refine jR 0 (jd.later hb) O O O (by omega) ?_;intro w9 js;refine aa.n ?_;exact eA.st O js
   intro u w6 _ hu _ _;have kQ:=hu 11 _ O (by kernel_rfl);have ZE:=kQ.bc 0 O;have GH:=kQ.bc 1 O;refine eo O ?_;refine iU [11] [yS (A2) (n) (n),yS (A) (n) (c),yI ((i:Int)),yI (((i:Int))+ ((1:Int))),yP (aq (A) (((i:Int))+ ((1:Int))).toNat),yI (gi (xs) (((i:Int))+ ((1:Int)))),yS (A) (n) (c),yI ((i:Int)),yP (aq (A) ((i:Int)).toNat),yI (gi (xs) ((i:Int))),yP (aq (A2) (gi (xs) (((i:Int))+ ((1:Int)))).toNat),.pr (fun _ w'=>St w0 w' (ah 2 A2 n n ((ps.set (gi xs (i:Int)).toNat (gi xs ((i:Int)+1))).set (gi xs ((i:Int)+1)).toNat (gi xs (i:Int)))::ah 2 A n c xs::ks.set ix k'))] (by kernel_rfl) (by kernel_rfl) (ly (ly (ly (ly (ly (ly (ly (ly (ly (ly (ly (bV.2 ⟨Ye.b9 (fun v w w' h hb=>h.later hb),(fun _ h=>by cases h)⟩)))))))))))) ?_ ?_
   ·refine⟨ba O,ba O,ba O,aP fun _ _=>aa.add O O O (by omega) (aX O O),cP fun _ _ hb _ _ _=>aw (GH.later hb).2 O O O (by omega) (by omega) (aX O O),cP fun _ _ hb _ _ _=>aT (GH.later hb) O (by omega) O O (aX O O),ba O,ba O,cP fun _ _ hb _ _ _=>aw (GH.later hb).2 O O O (by omega) (by omega) (aX O O),cP fun _ _ hb _ _ _=>aT (GH.later hb) O (by omega) O O (aX O O),cP fun _ _ hb _ _ _=>aw (ZE.later hb).2 O O O (by omega) (by omega) (aX O O),?_,ae⟩
    ·refine iY fun e1 w1 hb hp aL hq=>?_
     refine jR 0 (kQ.later hb) O O O (by omega) ?_;intro w9 js;refine aa.n ?_;exact eA.st O js
   intro u2 w7 _ jM _ _;have dF:=jM 11 _ O (by kernel_rfl);refine iq O (aa.add O O O (by omega) (aF O (tQ ?_)));exact⟨(i+2,(ps.set (gi xs (i:Int)).toNat (gi xs ((i:Int)+1))).set (gi xs ((i:Int)+1)).toNat (gi xs (i:Int))),by show n+2 - (i+2)<n+2 - i;omega,⟨O,O,O,O,ae⟩,dF,(jZ.set GY.1 GY.2).set Kt.1 Kt.2,by show i+2≤n+1;omega⟩
  ·refine aY O (aZ (gE O ?_));refine gB O ?_;exact⟨A2,n,ps,k',O,jZ,og,jd.sub (List.Sublist.cons_cons _ (List.sublist_cons_self _ _))⟩
end
section
open Tryz
def cell(M:aiB)(i:Nat)(f:Int):Int:=gi (gl M i) f
def Uh(M:aiB)(i f:Nat)(v:Int):aiB:=M.set i ((gl M i).set f v)
def put(M:aiB)(i f g:Nat):aiB:=Uh (Uh M i f g) i g f
section
variable {n F:Nat} {M:aiB}
theorem YG{i k:Nat}{p:List Int}(hi:i<M.length):gl (M.set i p) k=if i=k then p else gl M k:=by
 simp only [gl,ir,cJ,oI]
 by_cases e:i=k
 ·subst e;simp [hi]
 simp [e]
end
section
variable {n F:Nat} {M:aiB} {met at_:Nat}
def grow(n F:Nat)(ok:aiB→Nat→Nat→Bool)(fin:aiB→Bool):Nat→Nat→Nat→aiB→List (aiB)
 | 0,_,_,_=> []
 | k+1,at_,met,M=>
  if at_=met*n then(if met=F∧fin M=true then [M]else [])
  else if 0≤cell M (at_%n) (at_ / n:Nat)then grow n F ok fin k (at_+1) met M
  else(List.range' (at_ / n+1) (min met (F - 1) - at_ / n)).flatMap fun g=>
   if 0≤cell M (at_%n) (g:Nat)then []else if ok (put M (at_%n) (at_ / n) g) (at_%n) (at_ / n)=true then grow n F ok fin k (at_+1) (max met (g+1)) (put M (at_%n) (at_ / n) g)else []
end
def kn(M:aiB)(i:Nat)(x:Int):Int:=if x<0 then -1 else cell M i x
def H7(M:aiB)(i k:Nat)(f:Int):Prop:=(0≤cell M i f→cell M i f≠cell M k f)∧(0≤kn M k (cell M i f)→0≤kn M i (cell M k f)→kn M k (cell M i f)=kn M i (cell M k f))
instance (M:aiB)(i k:Nat)(f:Int):Decidable (H7 M i k f):=by unfold H7;exact inferInstance
def M7(M:aiB)(f:Int):Prop:=∀i,i<M.length→∀k,k<M.length→i+2≤k→H7 M i k f
instance (M:aiB)(f:Int):Decidable (M7 M f):=by unfold M7;exact inferInstance
def M4(M:aiB)(i k:Nat)(f g:Int):Prop:=cell M k f=g∨(0≤cell M k f∧0≤cell M k g∧0≤cell M i (cell M k f)∧cell M i (cell M k f)≠cell M k g)∨(0≤cell M k f∧0≤cell M k g∧0≤cell M i (cell M k g)∧cell M i (cell M k g)≠cell M k f)
instance (M:aiB)(i k:Nat)(f g:Int):Decidable (M4 M i k f g):=by unfold M4;exact inferInstance
section
variable {n F:Nat} {L M:aiB}
def forms(n F:Nat)(k at_ met:Nat)(M:aiB):List (aiB):=(grow n F (fun _ _ _=>true) (fun _=>true) k at_ met M).filter fun L=>decide (bL L)
end
end
section
open Go.RowKit Tryz
def yT(init:List Int)(ix v:Nat→Int):Nat→List Int
 | 0=>init
 | k+1=> (yT init ix v k).set (ix k).toNat (v k)
def Wu(N:Nat)(o:List Int):List Int:=yT (List.replicate N 0) (fun k=>gi o k) (fun k=> (k:Int)) o.length
section
variable {N:Nat} {o:List Int}
end
def afM(o b mv:List Int):List Int:=o.map fun x=>gi b (gi mv x)
def mY(N:Nat)(p mv:List Int):List Int:=yT (List.replicate N 0) (fun f=>gi p f) (fun f=>gi p (gi mv f)) N
def Yr(N:Nat)(xss:aiB)(f:Int):aiB:=xss.map fun mv=>afM (fS N xss f) (Wu N (fS N xss f)) mv
def Bv(a b:Int):Int:=if a<b then -1 else if b<a then 1 else 0
def vC:List Int→List Int→Int
 | [],[]=>0
 | [],_::_=> -1
 | _::_,[]=>1
 | a::l,b::r=>if Bv a b=0 then vC l r else Bv a b
def SV:aiB→aiB→Int
 | [],[]=>0
 | [],_::_=> -1
 | _::_,[]=>1
 | a::l,b::r=>if vC a b=0 then SV l r else vC a b
theorem FY{a b:Int}:Bv a b=0↔a=b:=by unfold Bv;by_cases h:a<b<;>by_cases h':b<a<;>simp [h,h']<;>omega
theorem Xa{a b:Int}:Bv a b<0↔a<b:=by unfold Bv;by_cases h:a<b<;>by_cases h':b<a<;>simp [h,h']<;>omega
theorem SW:∀ {a b:List Int},vC a b=0↔a=b
 | [],[]=>by simp [vC]
 | [],_::_=>by simp [vC]
 | _::_,[]=>by simp [vC]
 | a::l,b::r=>by
  simp only [vC]
  split
  ·rename_i h;rw [SW,FY.1 h];simp
  ·rename_i h;constructor
   ·intro h';exact absurd h' h
   ·intro h';exact absurd (FY.2 (List.cons.inj h').1) h
section
variable {n F:Nat}
end
theorem SC(A:aiC)(n c:Nat)(xs:List Int)(w:World)(hR:bS w A n xs)(hn:n≤1000000000):aA prog 237 [.slice A n c] w (fun v w'=>∃A' c',v= .slice A' n c'∧St w w' [ah 2 A' n c' xs]):=by
 refine bk func237 O ntmps237 O (cK O) (aQ O (jl (St.refl w) O ?_));intro A1 w1 ao;have ao:St w w1 [ah 2 A1 0 0 []]:=ao;refine ad O (eK 0 ao O (ao.eY hR) O O O (by omega) (by omega) O ?_);intro A2 c2 w2 ar;rw [Nat.zero_add]at ar⊢;refine bh O (gB O ?_);exact⟨A2,c2,O,ar⟩
def body(n F:Nat)(ok:aiB→Nat→Nat→Bool)(fin:aiB→Bool)(k at_ met:Nat)(M:aiB)(g:Nat):List (aiB):=
 if 0≤cell M (at_%n) (g:Nat)then []else if ok (put M (at_%n) (at_ / n) g) (at_%n) (at_ / n)=true then grow n F ok fin k (at_+1) (max met (g+1)) (put M (at_%n) (at_ / n) g)else []
end
section
open Tryz
section
variable {n F:Nat} {M:aiB} {met at_:Nat}
end
end
section
open Go.RowKit Tryz
def Small(HK flags:Int):Prop:=(1≤HK∧HK≤4)∧(2≤flags∧flags≤12)
instance (HK flags:Int):Decidable (Small HK flags):=by unfold Small;exact inferInstance
theorem Fs(A:aiC)(n c:Nat)(xs:List Int)(w:World)(hR:bS w A n xs)(hn:n≤1000000000):aA prog 141 [.slice A n c] w (fun v w'=>∃A' c',v= .slice A' n c'∧St w w' [ah 2 A' n c' xs]):=by
 cases hA:A with
 | none=>
  subst hA;have qt:n=0:=by
   apply nL;intro h;obtain⟨p,hp,_⟩:=hR.2 0 (by omega);simp [aq]at hp
  subst qt;have hx:xs=[]:=s7 hR.1;subst hx;refine bk func141 O ntmps141 O (cK O) (aQ O (Da O O O (ay O (Cd.gj O (dN O (gB O ?_))))));exact⟨none,0,O,(St.refl w).nil _⟩
 | some a=>
  subst hA;refine bk func141 O ntmps141 O (cK O) (aQ O (Da O O O (ay O (Cd.eV O (av O (jl (St.refl w) O ?_))))));intro A1 w1 ao;have ao:St w w1 [ah 2 A1 0 0 []]:=ao;refine ad O (eK 0 ao O (ao.eY hR) O O O (by omega) (by omega) O ?_);intro A2 c2 w2 ar;rw [Nat.zero_add]at ar⊢;refine bh O (gB O ?_);exact⟨A2,c2,O,ar⟩
section
variable {P:Program} {N:Nat} {ops:Array Oper} {K:Env→World→Prop} {rest:List Oper} {e:Env} {w:World} {d:Nat} {ty:TypeId} {pos:String} {af:Array Edge}
theorem xK{t:TypeId}{f0:Field}{z0 zf:Value}{b bf:Nat}[bB P t (.struct #[f0])][bp P t (.agg #[z0]) 1 b](hI:bp P f0.type zf 1 bf)(hb:Nat.blt d N=true)(hK:aa P N ops K rest (a7 e d (.agg #[z0])) w):aa P N ops K (⟨some d,.build t #[],ty,pos,af,none⟩::rest) e w:=by
 obtain⟨inf,hi,fv,hs,iS⟩:=bp.get P t;obtain⟨abV,dT,abI,Cr,Z6⟩:=hI.get P f0.type;have ez:(Value.agg #[z0]).cells= #[z0]:=O;refine .val (w':=w) ?_ hb hK;simp [execOp,Instr.build,run_underlying (bB.out (P:=P) (t:=t)),sizeOf,typeInfo,zeroValue,hi,fv,hs,dT,Cr,ez,Instr.fill]
end
theorem SF(A:aiC)(n c:Nat)(rs:List aG)(xss:aiB)(N:Nat)(Ap:aiC)(cp:Nat)(p:List Int)(w:World)(hR:br w A n rs xss)(hn:n≤1000000)(hs:Sys N xss)(hN:N≤1000000)(hP:bS w Ap N p)(hp:∀x:Int,0≤x→x<N→0≤gi p x∧gi p x<N):
 aA prog 182 [.agg #[.slice A n c],.slice Ap N cp] w (fun v w'=>∃A' c' rs',v= .agg #[.slice A' n c']∧rs'.length=n∧St w w' (aE 32 2 A' n c' rs' (xss.map (mY N p)))):=by
 have tM:=hP.1;have dA:=hR.len;refine bk func182 O ntmps182 O (qH O O) (aQ O (iI (St.refl w) O O ?_));intro Ab w1 ao;refine gS ao O ?_;intro Ac w2 ar;refine ad O (xK (by exact inferInstance) O (gS ar O ?_));intro Ad w3 az;refine bG 1 0 az O O O O O O O ?_;intro w4 aJ;have aJ:St w w4 (Bx 24 1 Ad [.slice none 0 0]::Bx 24 1 Ac [.slice none 0 0]::Bx 24 1 Ab [.slice A n c]::[]):=aJ;have GL:St w w4 (Bx 24 1 Ad [.slice none 0 0]::Bx 24 1 Ac [.slice none 0 0]::Bx 24 1 Ab [.slice A n c]::bU 32 none 0 0 []::[]):=(aJ.nil 32).perm (lh (l₁:=[_]) (l₂:=[_,_,_]));refine ay O ?_;refine Cd.loop (α:=Nat×aiC×Nat×List aG) (fun s=> [(1,.slice Ap N cp),(2,.pointer Ab),(4,.pointer Ac),(5,.pointer Ad),(6,aiD (s.1:Int))]) (fun s w'=>St w w' (Bx 24 1 Ad [.slice s.2.1 s.1 s.2.2.1]::Bx 24 1 Ac [.slice none 0 0]::Bx 24 1 Ab [.slice A n c]::bU 32 s.2.1 s.1 s.2.2.1 s.2.2.2::cS 2 s.2.2.2 ((xss.map (mY N p)).take s.1))∧s.1≤n∧s.2.2.2.length=s.1) (fun s=>n - s.1) (0,none,0,[]) ⟨O,O,O,O,O,ae⟩ ⟨GL,aW _,O⟩ ?_;rintro⟨i,A3,c3,fw⟩ e w5 ⟨aK,hi,hlen⟩;dsimp only at aK hi hlen⊢;refine aQ O (aH (aK.rd 2 O) O O O O inferInstance (aM (aK.rd 2 O) O O O O O ?_));refine aa.len O O (ay O ?_);refine aB _ O (fun h1=>?_) (fun h1=>?_)
 ·have dT:i<n:=by omega
  have hx:i<xss.length:=by omega
  refine av O (aa.len O O ?_);refine vT N aK O O (by omega) ?_;intro A7 w6 aR;refine ay O ?_;have e2:gl xss i=xss[i]:=by simp [gl,cJ,gf hx]
  have pT:=hs (gl xss i) (uo (by omega) (by omega));refine Cd.loop (α:=Nat) (fun k=> [(1,.slice Ap N cp),(2,.pointer Ab),(4,.pointer Ac),(5,.pointer Ad),(6,aiD (i:Int)),(7,.slice A7 N N),(8,aiD (k:Int))]) (fun k w'=>St w w' (ah 2 A7 N N (yT (List.replicate N 0) (fun f=>gi p f) (fun f=>gi p (gi (gl xss i) f)) k)::Bx 24 1 Ad [.slice A3 i c3]::Bx 24 1 Ac [.slice none 0 0]::Bx 24 1 Ab [.slice A n c]::bU 32 A3 i c3 fw::cS 2 fw ((xss.map (mY N p)).take i))∧k≤N) (fun k=>N - k) 0 ⟨O,O,O,O,O,O,O,ae⟩ ⟨aR,aW _⟩ ?_;rintro k e w7 ⟨aV,hk⟩;have hM:=aV.bF hR;have GI:=aV.eY hP;refine aQ O (aa.len O O (ay O ?_));refine aB _ O (fun h2=>?_) (fun h2=>?_)
  ·have cj:=hM.at_ (i:=(i:Int)) (by omega) h1;have iD:=hM.pE (k:=(i:Int)) (by omega) h1;have hv:=pT.2 (k:Int) (by omega) (by omega);have hpk:=hp (k:Int) (by omega) (by omega);have hpv:=hp _ hv.1 hv.2;have jK:=pT.1;have hB:=aV.rd 3 O;have hO:=aV.bc 0 O;have fY:(gi p (k:Int)).toNat<N:=by omega
   refine bP O ?_;refine iU [17] [yS (A7) (N) (N),yS (Ap) (N) (cp),yI ((k:Int)),yP (aq (Ap) ((k:Int)).toNat),yI (gi (p) ((k:Int))),yS (Ap) (N) (cp),yP (aq (Ab) 0),yS (A) (n) (c),yI ((i:Int)),yP (aq (A) ((i:Int)).toNat),yS ((rg (rs) ((i:Int))).a) ((rg (rs) ((i:Int))).n) ((rg (rs) ((i:Int))).c),yI ((k:Int)),yP (aq ((rg (rs) ((i:Int))).a) ((k:Int)).toNat),yI (gi (gl xss (i:Int)) ((k:Int))),yP (aq (Ap) (gi (gl xss (i:Int)) ((k:Int))).toNat),yI (gi (p) (gi (gl xss (i:Int)) ((k:Int)))),yP (aq (A7) (gi (p) ((k:Int))).toNat),.pr (fun _ w'=>St w w' (ah 2 A7 N N (yT (List.replicate N 0) (fun f=>gi p f) (fun f=>gi p (gi (gl xss i) f)) (k+1))::Bx 24 1 Ad [.slice A3 i c3]::Bx 24 1 Ac [.slice none 0 0]::Bx 24 1 Ab [.slice A n c]::bU 32 A3 i c3 fw::cS 2 fw ((xss.map (mY N p)).take i)))] (by kernel_rfl) (by kernel_rfl) (ly (ly (ly (ly (ly (ly (ly (ly (ly (ly (ly (ly (ly (ly (ly (ly (ly (bV.2 ⟨Ye.b9 (fun v w w' h hb=>h.later hb),(fun _ h=>by cases h)⟩)))))))))))))))))) ?_ ?_
   ·refine⟨ba O,ba O,ba O,cP fun _ _ hb _ _ _=>aw (GI.later hb).2 O O O (by omega) (by omega) (aX O O),cP fun _ _ hb _ _ _=>aT (GI.later hb) O (by omega) O O (aX O O),ba O,cP fun _ _ hb _ _ _=>aH (hB.below hb) O O O O inferInstance (aX O O),cP fun _ _ hb _ _ _=>aM (hB.below hb) O O O O O (aX O O),ba O,cP fun _ _ hb _ _ _=>aw (hM.top.later hb).2 O O O (by omega) (by omega) (aX O O),cP fun _ _ hb _ _ _=>bQ (hM.top.later hb) O (by omega) O O (aX O O),ba O,cP fun _ _ hb _ _ _=>aw (cj.later hb).2 O O O (by omega) (by omega) (aX O O),cP fun _ _ hb _ _ _=>aT (cj.later hb) O (by omega) O O (aX O O),cP fun _ _ hb _ _ _=>aw (GI.later hb).2 O O O (by omega) (by omega) (aX O O),cP fun _ _ hb _ _ _=>aT (GI.later hb) O (by omega) O O (aX O O),cP fun _ _ hb _ _ _=>aw (hO.later hb).2 O O O (by omega) (by omega) (aX O O),?_,ae⟩;refine iY fun e1 w1 hb hp aL hq=>?_
    refine jR 0 (aV.later hb) O O O fY ?_;intro w9 ak;refine aa.n ?_;exact eA.st O ak
   intro u w8 _ hu _ _;have bA:=hu 17 _ O (by kernel_rfl);refine iq O (aa.add O O O (by omega) (aF O (tQ ?_)));exact⟨k+1,by show N - (k+1)<N - k;omega,⟨O,O,O,O,O,O,O,ae⟩,bA,by omega⟩
  have wI:k=N:=by omega
  subst wI;refine aY O (aZ (cL O ?_));refine aH (aV.rd 1 O) O O O O inferInstance (aM (aV.rd 1 O) O O O O O (ad O (nj aV O O O ?_)));intro A9 w9 aS;refine oM 5 aS O (aS.il 0 O) O O O (by omega) (by omega) O ?_;intro a6 cT dB bD;have bD:=bD.tail;refine aH (bD.rd 1 O) O O O O inferInstance (jS 1 bD O O O O O ?_);intro eu du;have du:St w eu (ah 2 A7 k k (mY k p (gl xss i))::Bx 24 1 Ad [.slice a6 (i+1) cT]::Bx 24 1 Ac [.slice none 0 0]::Bx 24 1 Ab [.slice A n c]::bU 32 a6 (i+1) cT (fw++ [⟨A7,k,k⟩])::cS 2 fw ((xss.map (mY k p)).take i)):=du;refine ad O (aa.add O O O (by omega) (aF O (tQ ?_)));refine⟨(i+1,a6,cT,fw++ [⟨A7,k,k⟩]),by show n - (i+1)<n - i;omega,⟨O,O,O,O,O,ae⟩,?_,dT,by simp [hlen]⟩;show St w eu (_::_::_::bU _ a6 (i+1) cT (fw++ [_])::cS _ (fw++ [_]) ((xss.map (mY k p)).take (i+1)));rw [rY (by rw [fN];exact hx),CU (by simp [hlen];omega),List.getElem_map,←e2];refine du.perm ?_;exact lh (l₁:=[_]) (l₂:=_::_::_::_::cS 2 fw ((xss.map (mY k p)).take i))
 refine aY O (aZ (cL O ?_));have dq:i=n:=by omega
 subst dq;rw [lS (by rw [fN];omega)]at aK;refine aa.bq 0 (aK.rd 0 O) O O O (bG 1 1 aK O O O O O O O ?_);intro w6 aR;refine bh O (kX O (aR.rd 1 O) ?_);exact⟨A3,c3,fw,O,hlen,aR.sub (((List.sublist_cons_self _ _).trans (List.sublist_cons_self _ _)).trans (List.sublist_cons_self _ _))⟩
def GM(N:Nat)(xss:aiB):Prop:=∀p∈xss,Rg N p
theorem GM.sys{N:Nat}{xss:aiB}(h:GM N xss):Sys N xss:=fun p hp=> ⟨(h p hp).1,fun x h0 h1=> (h p hp).gi h0 h1⟩
def H4(n N:Nat)(w:World)(v:Value)(w':World):Prop:=∃A c rs xss,v= .agg #[.slice A n c]∧rs.length=n∧xss.length=n∧GM N xss∧St w w' (aE 32 2 A n c rs xss)
structure VR(w0:World)(base:List Ck)(n:Nat)(S:Nat→Bool)(e:Env)(w:World):Prop where
 f2:∃A,e 2= .pointer A∧base=[Bx 24 1 A [.slice none 0 0]]
 f3:e 3=aiD (n:Int)
 p0:S 0=true→e 9=aiD (n:Int)
 p2:S 2=true→e 11=aiD (n:Int)
 mem:∃(A1 A2:aiC) (b1 b2:List Ck),(S 1=false→b1=[])∧(S 1=true→e 10= .slice A1 n n∧b1=[ah 2 A1 n n (List.replicate n 0)])∧(S 3=false→b2=[])∧(S 3=true→e 12= .slice A2 n n∧b2=[ah 2 A2 n n (List.replicate n 0)])∧(S 4=true→e 4= .slice A1 n n)∧(S 5=true→e 5= .slice A2 n n)∧St w0 w (b1++ (b2++base))
def mc(v:Nat→Int)(n f:Nat):List Int:=(List.range n).map fun g=>if g<f then v g else 0
theorem HU(v:Nat→Int)(n:Nat):mc v n 0=List.replicate n 0:=by
 apply ji (by simp [mc]);intro i h1 h2;simp [mc]
theorem HV{v:Nat→Int}{n f:Nat}:(mc v n f).set f (v f)=mc v n (f+1):=by
 apply ji (by simp [mc]);intro i h1 h2;rw [List.getElem_set];simp only [mc,List.getElem_map,List.getElem_range]
 by_cases h:f=i
 ·subst h;rw [aj rfl,aj (Nat.lt_succ_self _)]
 rw [ag h]
 by_cases h2:i<f
 ·rw [aj h2,aj (by omega)]
 rw [ag h2,ag (by omega)]
theorem Ux{v:Nat→Int}{n:Nat}(h:∀g,g<n→0≤v g∧v g<n):Rg n (mc v n n):=⟨by simp [mc],fun x hx=>by
 obtain⟨g,hg,rfl⟩:=dh.1 hx;have hg:=gg.1 hg;rw [aj hg];exact h g hg⟩
def u6(g:Nat):Int:=if(g:Int)%2=0 then(g:Int)+1 else(g:Int) - 1
def u7(n g:Nat):Int:=if(g:Int)%2=0 then((g:Int)+ (n:Int) - 1)% (n:Int)else((g:Int)+1)% (n:Int)
def oy(p:Nat):aiB:=[mc u6 (2*p) (2*p),mc (u7 (2*p)) (2*p) (2*p)]
theorem aeW{p:Nat}(hp:1≤p):GM (2*p) (oy p):=fun q hq=>by
 rcases iW.1 hq with rfl | hq
 ·refine Ux fun g hg=>?_
  unfold u6
  split<;>omega
 rw [eT]at hq;subst hq;refine Ux fun g hg=>?_
 unfold u7;have wM:=Int.emod_nonneg ((g:Int)+ ((2*p:Nat):Int) - 1) (b:=((2*p:Nat):Int)) (by omega);have pS:=Int.emod_lt_of_pos ((g:Int)+ ((2*p:Nat):Int) - 1) (b:=((2*p:Nat):Int)) (by omega);have Ri:=Int.emod_nonneg ((g:Int)+1) (b:=((2*p:Nat):Int)) (by omega);have Rj:=Int.emod_lt_of_pos ((g:Int)+1) (b:=((2*p:Nat):Int)) (by omega)
 split
 ·exact⟨wM,pS⟩
 exact⟨Ri,Rj⟩
theorem SE(p:Nat)(w:World)(hp:1≤p∧p≤100000):aA prog 179 [aiD (p:Int)] w (fun v w'=>∃A c rs,v= .agg #[.slice A 2 c]∧rs.length=2∧St w w' (aE 32 2 A 2 c rs (oy p))):=by
 unfold oy;refine bk func179 O ntmps179 O (qH O O) (aQ O (gS (St.refl w) O ?_));intro A2 w1 ao;refine ad O (aa.mul O O O (by omega) (ay O ?_));have hn:(2:Int)* (p:Int)=((2*p:Nat):Int):=by omega
 rw [hn];generalize hN:2*p=n;have zL:2≤n:=by omega
 refine xE (by kernel_rfl) (by kernel_rfl) (fun S e1 w1=>VR w [Bx 24 1 A2 [.slice none 0 0]] n S e1 w1) (fun w4 hb=> ⟨⟨A2,O,O⟩,O,fun h=> (nomatch h),fun h=> (nomatch h),none,none,[],[],fun _=>O,fun h=> (nomatch h),fun _=>O,fun h=> (nomatch h),fun h=> (nomatch h),fun h=> (nomatch h),ao.later hb⟩) ?_ ?_
 ·intro S q o e1 w4 hq bE hd cg hI;obtain⟨f2,f3,p0,p2,A,B,b1,b2,m1,yC,m3,yD,m4,m5,hT⟩:=hI
  match q,hq,bE with
  | 0,hq,bE=>
   obtain rfl:=cO hq;refine pI O (by exact f3) O (aa.n ?_);exact⟨f2,f3,fun _=>O,p2,A,B,b1,b2,m1,yC,m3,yD,m4,m5,hT⟩
  | 1,hq,bE=>
   obtain rfl:=cO hq;obtain rfl:=m1 bE;have n4:S 4=false:=by
    cases h:S 4 with
    | false=>rfl
    | true=>rw [←bE];exact(cV (cg 4 _ h rfl) 1 rfl).symm
   refine vT n hT (by exact p0 (cV hd 0 O)) O (by omega) ?_;intro A' w5 jd;refine aa.n ?_;exact⟨f2,f3,p0,p2,A',B,[ah 2 A' n n (List.replicate n 0)],b2,fun h=> (nomatch (show true=false from h)),fun _=> ⟨O,O⟩,m3,yD,fun h=> (nomatch n4.symm.trans h),m5,jd⟩
  | 2,hq,bE=>
   obtain rfl:=cO hq;refine pI O (by exact f3) O (aa.n ?_);exact⟨f2,f3,p0,fun _=>O,A,B,b1,b2,m1,yC,m3,yD,m4,m5,hT⟩
  | 3,hq,bE=>
   obtain rfl:=cO hq;obtain rfl:=m3 bE;have n5:S 5=false:=by
    cases h:S 5 with
    | false=>rfl
    | true=>rw [←bE];exact(cV (cg 5 _ h rfl) 3 rfl).symm
   refine vT n hT (by exact p2 (cV hd 2 O)) O (by omega) ?_;intro A' w5 jd;refine aa.n ?_;exact⟨f2,f3,p0,p2,A,A',b1,[ah 2 A' n n (List.replicate n 0)],m1,yC,fun h=> (nomatch (show true=false from h)),fun _=> ⟨O,O⟩,m4,fun h=> (nomatch n5.symm.trans h),jd.perm (iH (l₁:=b1)).symm⟩
  | 4,hq,bE=>
   obtain rfl:=cO hq;refine oO O (by exact(yC (cV hd 1 O)).1) O (aa.n ?_);exact⟨f2,f3,p0,p2,A,B,b1,b2,m1,yC,m3,yD,fun _=>O,m5,hT⟩
  | 5,hq,bE=>
   obtain rfl:=cO hq;refine oO O (by exact(yD (cV hd 3 O)).1) O (aa.n ?_);exact⟨f2,f3,p0,p2,A,B,b1,b2,m1,yC,m3,yD,m4,fun _=>O,hT⟩
  | q+6,hq,_=>exact(nomatch hq)
 ·intro S e1 w4 dL hI;obtain⟨⟨A0,f2,ZY⟩,f3,p0,p2,A,B,b1,b2,m1,yC,m3,yD,m4,m5,hT⟩:=hI;obtain⟨_,rfl⟩:=yC (dL 1 (by decide));obtain⟨_,rfl⟩:=yD (dL 3 (by decide));rw [ZY]at hT;refine FD (F:=[(2,.pointer A0),(3,aiD (n:Int)),(4,.slice A n n),(5,.slice B n n)]) ⟨f2,f3,m4 (dL 4 (by decide)),m5 (dL 5 (by decide)),ae⟩ ?_;have hT:St w w4 [ah 2 A n n (List.replicate n 0),ah 2 B n n (List.replicate n 0),Bx 24 1 A0 [.slice none 0 0]]:=hT;rw [←HU u6 n]at hT;have hT:St w w4 [ah 2 A n n (mc u6 n 0),ah 2 B n n (mc (u7 n) n 0),Bx 24 1 A0 [.slice none 0 0]]:=by rw [HU,HU (u7 n)];rw [HU]at hT;exact hT
  refine eo O ?_;refine Cd.loop (α:=Nat) (fun s=> [(2,.pointer A0),(3,aiD (n:Int)),(4,.slice A n n),(5,.slice B n n),(6,aiD (s:Int))]) (fun s w'=>St w w' [ah 2 A n n (mc u6 n s),ah 2 B n n (mc (u7 n) n s),Bx 24 1 A0 [.slice none 0 0]]∧s≤n) (fun s=>n - s) 0 ⟨O,O,O,O,O,ae⟩ ⟨hT,aW _⟩ ?_;rintro f e w5 ⟨jd,hf⟩;refine bK O ?_;refine aB _ O (fun h1=>?_) (fun h1=>?_)
  ·have Qp:=jd.bc 0 O;have wM:=Int.emod_nonneg ((f:Int)+ (n:Int) - 1) (b:=(n:Int)) (by omega);have pS:=Int.emod_lt_of_pos ((f:Int)+ (n:Int) - 1) (b:=(n:Int)) (by omega);have Ri:=Int.emod_nonneg ((f:Int)+1) (b:=(n:Int)) (by omega);have Rj:=Int.emod_lt_of_pos ((f:Int)+1) (b:=(n:Int)) (by omega);refine av O (aa.rem O O O (by omega) (ay O ?_));refine aB _ O (fun h2=>?_) (fun h2=>?_)
   ·have Lo:u6 f=(f:Int)+1:=aj h2;have Lp:u7 n f=((f:Int)+ (n:Int) - 1)% (n:Int):=aj h2;refine av O (aa.add O O O (by omega) ?_);refine aw Qp.2 O O O (by omega) (by omega) (jR 0 jd O O O (by omega) ?_);intro w6 kQ;have kQ:St w w6 [ah 2 A n n ((mc u6 n f).set f ((f:Int)+1)),ah 2 B n n (mc (u7 n) n f),Bx 24 1 A0 [.slice none 0 0]]:=kQ;rw [←Lo,HV]at kQ;have J9:=kQ.bc 1 O;refine ad O (aa.add O O O (by omega) (aa.sub O O O (by omega) (ad O ?_)));refine aa.rem O O O (by omega) (aw J9.2 O O O (by omega) (by omega) (jR 1 kQ O O O (by omega) ?_));intro w7 dF;have dF:St w w7 [ah 2 A n n (mc u6 n (f+1)),ah 2 B n n ((mc (u7 n) n f).set f (((f:Int)+ (n:Int) - 1)% (n:Int))),Bx 24 1 A0 [.slice none 0 0]]:=dF;rw [←Lp,HV]at dF;refine ad O (aa.add O O O (by omega) (aF O (tQ ?_)));exact⟨f+1,by show n - (f+1)<n - f;omega,⟨O,O,O,O,O,ae⟩,dF,by omega⟩
   ·have Lo:u6 f=(f:Int) - 1:=ag h2;have Lp:u7 n f=((f:Int)+1)% (n:Int):=ag h2;refine av O (aa.sub O O O (by omega) ?_);refine aw Qp.2 O O O (by omega) (by omega) (jR 0 jd O O O (by omega) ?_);intro w6 kQ;have kQ:St w w6 [ah 2 A n n ((mc u6 n f).set f ((f:Int) - 1)),ah 2 B n n (mc (u7 n) n f),Bx 24 1 A0 [.slice none 0 0]]:=kQ;rw [←Lo,HV]at kQ;have J9:=kQ.bc 1 O;refine ad O (aa.add O O O (by omega) (ad O ?_));refine aa.rem O O O (by omega) (aw J9.2 O O O (by omega) (by omega) (jR 1 kQ O O O (by omega) ?_));intro w7 dF;have dF:St w w7 [ah 2 A n n (mc u6 n (f+1)),ah 2 B n n ((mc (u7 n) n f).set f (((f:Int)+1)% (n:Int))),Bx 24 1 A0 [.slice none 0 0]]:=dF;rw [←Lp,HV]at dF;refine ad O (aa.add O O O (by omega) (aF O (tQ ?_)));exact⟨f+1,by show n - (f+1)<n - f;omega,⟨O,O,O,O,O,ae⟩,dF,by omega⟩
  ·have l5:f=n:=by omega
   subst l5;refine aY O (aZ (cL O ?_));refine Fz jd O O O O O O ?_;intro A9 w6 kQ;refine Fx (by exact inferInstance) O O O O (bG 1 3 kQ O O O O O O O ?_);intro w7 dF;refine bh O (kX O (dF.rd 3 O) ?_);exact⟨A9,2,[⟨A,f,f⟩,⟨B,f,f⟩],O,O,dF.sub (List.Sublist.cons_cons _ (List.Sublist.cons_cons _ (List.Sublist.cons_cons _ (List.nil_sublist _))))⟩
theorem zW(p:Nat)(w:World)(hp:1≤p∧p≤100000):aA prog 179 [aiD (p:Int)] w (H4 2 (2*p) w):=(SE p w hp).mono fun v w' h=>by
 obtain⟨A,c,rs,hv,bW,ak⟩:=h;exact⟨A,c,rs,oy p,hv,bW,O,aeW hp.1,ak⟩
def rS(l:List Int):Prop:=l.Pairwise (· ≤ ·)
def nJ(l:List Int):List Int:=l.mergeSort fun x y=>decide (x≤y)
theorem MD(l:List Int):(nJ l).Perm l:=List.mergeSort_perm _ _
theorem agb(l:List Int):rS (nJ l):=by
 have:=List.pairwise_mergeSort (le:=fun x y:Int=>decide (x≤y)) (fun a b c h1 h2=>by simp at h1 h2⊢;omega) (fun a b=>by simp;omega) l;exact this.imp fun h=>by simpa using h
theorem Wt{l l':List Int}(h:l.Perm l')(h1:rS l)(h2:rS l'):l=l':=
 List.Perm.eq_of_pairwise (le:=(· ≤ ·)) (fun a b _ _ h1 h2=>by omega) h1 h2 h
def M9(xss:aiB):Prop:=bL xss∧2≤xss.length
instance (xss:aiB):Decidable (M9 xss):=by unfold M9;exact inferInstance
theorem vA(A:aiC)(n c:Nat)(rs:List aG)(xss:aiB)(w:World)(hR:br w A n rs xss)(hn:0<n):
 aA prog 161 [.agg #[.slice A n c]] w (fun v w'=>v=aiD ((gl xss 0).length:Int)∧St w w' []):=by
 refine bk func161 O ntmps161 O (cK O) (aQ O (iI (St.refl w) O O ?_));intro Ab w1 hS;have jc:=hS.bF hR;have e0:(gl xss 0).length=(rg rs 0).n:=hR.pE (by omega) (by omega);refine ad O (aH (hS.rd 0 O) O O O O inferInstance (aM (hS.rd 0 O) O O O O O (aw jc.top.2 O O O (by omega) (by omega) (bQ jc.top O (by omega) O O ?_))));refine aa.len O O (bh O ?_);refine gP O ?_;exact⟨by rw [e0],hS.none⟩
theorem bS.take{w:World}{A:aiC}{n l:Nat}{xs:List Int}(h:bS w A n xs)(hl:l≤n):bS w A l (xs.take l):=by
 have:=h.cut (l:=0) (h:=l) (c:=0) (aW _) hl;refine⟨by rw [pf,h.1];omega,fun k hk=>?_⟩;obtain⟨q,h1,h2⟩:=h.2 k (by omega);exact⟨q,h1,by rw [h2];simp [rW,hk,cJ]⟩
end
end Go.Proofs.YtopgfgdgfjddpaaGreatDoor.Vc
