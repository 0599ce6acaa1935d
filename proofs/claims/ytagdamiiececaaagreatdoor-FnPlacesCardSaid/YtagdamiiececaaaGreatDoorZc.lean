/-
 Lemmas. Conditions: as each states them.
-/
import Derived.Test.YtagdamiiececaaaGreatDoorZb
set_option maxHeartbeats 8000000
namespace Go.Proofs.YtagdamiiececaaaGreatDoor.Vc
open Tryz
section
open Go.RowKit
def Rg(n:Nat)(xs:ah):Prop:=xs.length=n/\∀x∈xs,0<=x/\x< (n:Int)
theorem Rg.gi{n:Nat}{xs:ah}(h:Rg n xs){i:Int}(h0:0<=i)(h1:i<n):0<=Vc.gi xs i/\Vc.gi xs i<n:=by
 obtain⟨q,rfl⟩:∃q:Nat,i=q:=⟨i.toNat,by omega⟩;rw [bN (by rw [h.1];omega)];exact h.2 _ (dd _)
theorem Rg.set{n:Nat}{xs:ah}(h:Rg n xs){j:Nat}{v:Int}(h0:0<=v)(h1:v<n):Rg n (xs.set j v):=by
 refine⟨by rw [gR];exact h.1,fun x hx=>?_⟩;rcases List.mem_or_eq_of_mem_set hx with hx | rfl
 ·exact h.2 x hx
 exact⟨h0,h1⟩
theorem XH(n:Nat)(w:aa)(hn:n<=1000000):
 aE prog 211 [aj n] w (fun v w'=>∃A c xs,v= .slice A n c/\Rg n xs/\St w w' [ax 2 A n c xs]):=by
 refine bm func211 O ntmps211 O (bU O) (aY O (jO (St.refl w) O ?_));intro A1 w1 aB;refine az O (Cd.loop (α:=Nat×ai×Nat×ah) (fun s=> [(0,aj n),(3,.slice s.2.1 s.1 s.2.2.1),(4,aj (s.1:Int))]) (fun s w'=>St w w' [ax 2 s.2.1 s.1 s.2.2.1 s.2.2.2]/\s.1<=n/\s.2.2.2.length=s.1/\∀x∈s.2.2.2,0<=x/\x< (s.1:Int)) (fun s=>n - s.1) (0,A1,0,[]) (ac4 O) ⟨aB,bA _,O,fun x hx=> (nomatch hx)⟩ ?_);rintro⟨i,A2,c2,xs⟩ e w2 ⟨aw,hi,hl,hx⟩;dsimp only at aw hi hl hx|-;refine b7 O (aM _ O (fun h1=>?_) (fun h1=>?_))
 ·refine aD O (fk aw O O O ?_);intro A3 w3 aI;refine fR 1 aI O (aI.bz 0 O) O O O fun A4 c4 w4 aG=>ao O (aL O (aU O (tQ ?_)));refine⟨(i+1,A4,c4,xs++ [(i:Int)]),by show n - (i+1)<n - i;omega,(ac4 O),aG.tail,by show i+1<=n;omega,by simp [hl],fun x dG=>?_⟩;rcases gE.1 dG with h | h
  ·have:=hx x h;show 0<=x/\x< ((i+1:Nat):Int);omega
  rw [iv]at h;subst h;show 0<=(i:Int)/\(i:Int)< ((i+1:Nat):Int);omega
 have cS:i=n:=by omega
 subst cS;refine bo O (bp (e6 O ?_));exact fA O ⟨A2,c2,xs,O,⟨hl,hx⟩,aw⟩
theorem Ni{w0 w:aa}{ks:List Ck}(ix:Nat){As:ai}{k:Ck}(n:Nat)(hS:St w0 w ks)(hk:ks[ix]?=some k)(hK:fj w0 As k)(hn:n<=1000000):
 aE prog 178 [.pointer As,aj n] w (fun v w'=>∃A c xs k',v= .slice A n c/\Rg n xs/\fj w0 As k'/\St w0 w' (ax 2 A n c xs::ks.set ix k')):=by
 refine bm func178 O ntmps178 O (bU O) (aY O (aH (XH n _ hn) O ?_));rintro _ w1 ⟨A,c,xs,rfl,hx,aA⟩;have aB:St w0 w1 (ax 2 A n c xs::ks):=hS.call aA;refine ao O (je O O O (by omega) (az O ?_));refine Cd.loop (α:=Int×ah×Ck) (fun s=> [(0,.pointer As),(5,.slice A n c),(6,aj s.1)]) (fun s w'=>St w0 w' (ax 2 A n c s.2.1::ks.set ix s.2.2)/\Rg n s.2.1/\fj w0 As s.2.2/\ -1<=s.1/\s.1<n) (fun s=>s.1.toNat) ((n:Int) - 1,xs,k) ⟨O,O,O,trivial⟩ ⟨by dsimp only;rw [Ea hk];exact aB,hx,hK,by show -1<=(n:Int) - 1;omega,by show(n:Int) - 1<n;omega⟩ ?_;rintro⟨i,xs,k1⟩ e w2 ⟨aw,hx,jT,iB,lV⟩;dsimp only at aw hx jT iB lV|-;have gm:(ax 2 A n c xs::ks.set ix k1)[ix+1]?=some k1:=kl (k':=k1) hk;refine b7 O (aM _ O (fun h1=>?_) (fun h1=>?_))
 ·refine aD O (aL O ?_);refine aH (o9 (ix+1) (i+1) aw gm jT) O ?_;rintro _ w3 ⟨r,k2,rfl,⟨ie,lu,_⟩,fa,aI⟩;have lu:=lu (by omega);have aI:St w0 w3 (ax 2 A n c xs::(ks.set ix k1).set ix k2):=aI;rw [iH]at aI;have rB:=aI.bz 0 O;have uo:=hx.gi (i:=i) (by omega) lV;have ll:=hx.gi (i:=r) ie (by omega);refine ao O (ay rB.2 O (bc rB O (ao O (ay rB.2 O (bc rB O (ay rB.2 O (ak.gQ 0 aI O O O (by omega) ?_)))))));intro w4 aG;have aG:St w0 w4 (ax 2 A n c (xs.set i.toNat (gi xs r))::ks.set ix k2):=aG;have kJ:=aG.bz 0 O;refine ao O (ay kJ.2 O (ak.gQ 0 aG O O O (by omega) ?_));intro w5 aR;refine ao O (je O O O (by omega) (aU O (tQ ?_)));exact⟨(i - 1,(xs.set i.toNat (gi xs r)).set r.toNat (gi xs i),k2),by show(i - 1).toNat<i.toNat;omega,(ac4 O),aR,(hx.set ll.1 ll.2).set uo.1 uo.2,fa,by show -1<=i - 1;omega,by show i - 1<n;omega⟩
 refine bo O (bp (e6 O ?_));exact fA O ⟨A,c,xs,k1,O,hx,jT,aw⟩
structure PN(w0:aa)(ks:List Ck)(ix:Nat)(As:ai)(k:Ck)(n:Nat)(S:Nat->Bool)(e:Env)(w:aa):Prop where
 f0:e 0= .pointer As
 f1:e 1=aj n
 p0:S 0=true->e 8= .pointer As
 p1:S 1=true->e 9=aj n
 p3:S 3=true->e 11=aj n
 mem:∃(A:ai) (c:Nat) (xs:ah) (A2:ai) (k':Ck) (qm k6:List Ck),(S 2=false->qm=[]/\k'=k)/\(S 2=true->e 10= .slice A n c/\Rg n xs/\qm=[ax 2 A n c xs])/\fj w0 As k'/\(S 4=false->k6=[])/\(S 4=true->e 12= .slice A2 n n/\k6=[ax 2 A2 n n (List.replicate n 0)])/\(S 5=true->e 5= .slice A n c)/\(S 6=true->e 6= .slice A2 n n)/\St w0 w (k6++ (qm++ks.set ix k'))
theorem Nl{w0 w:aa}{ks:List Ck}(ix:Nat){As:ai}{k:Ck}(n:Nat)(hS:St w0 w ks)(hk:ks[ix]?=some k)(hK:fj w0 As k)(hn:n<=1000000):
 aE prog 218 [.pointer As,aj n] w (fun v w'=>∃A c xs k',v= .slice A n c/\Rg n xs/\fj w0 As k'/\St w0 w' (ax 2 A n c xs::ks.set ix k')):=by
 refine bm func218 O ntmps218 O (bU O) (b7 O ?_);refine qX (by kernel_rfl) (by kernel_rfl) (fun S e1 w1=>PN w0 ks ix As k n S e1 w1) (fun w4 hb=> ⟨O,O,fun h=> (nomatch h),fun h=> (nomatch h),fun h=> (nomatch h),none,0,[],none,k,[],[],fun _=> ⟨O,O⟩,fun h=> (nomatch h),hK,fun _=>O,fun h=> (nomatch h),fun h=> (nomatch h),fun h=> (nomatch h),by rw [Ea hk];exact hS.aq hb⟩) ?_ ?_
 ·intro S q o e1 w4 hq bh hd cz hI;obtain⟨f0,f1,p0,p1,p3,A,c,xs,A2,k',qm,k6,m0,m1,pI,m2,m3,m4,m5,hT⟩:=hI
  match q,hq,bh with
  | 0,hq,bh=>
   obtain rfl:=bC hq;refine wS O (by exact f0) O (ak.n ?_);exact⟨f0,f1,fun _=>O,p1,p3,A,c,xs,A2,k',qm,k6,m0,m1,pI,m2,m3,m4,m5,hT⟩
  | 1,hq,bh=>
   obtain rfl:=bC hq;refine ko O (by exact f1) O (ak.n ?_);exact⟨f0,f1,p0,fun _=>O,p3,A,c,xs,A2,k',qm,k6,m0,m1,pI,m2,m3,m4,m5,hT⟩
  | 2,hq,bh=>
   obtain rfl:=bC hq;obtain⟨rfl,rfl⟩:=m0 bh;have n5:S 5=false:=by
    cases h:S 5 with
    | false=>rfl
    | true=>rw [<-bh];exact(bJ (cz 5 _ h rfl) 2 rfl).symm
   have n6:S 6=false:=by
    cases h:S 6 with
    | false=>rfl
    | true=>rw [<-n5];exact(bJ (cz 6 _ h rfl) 5 rfl).symm
   rw [List.nil_append]at hT;have dR:(k6++ks.set ix k')[k6.length+ix]?=some k':=by
    rw [mU (by omega),show k6.length+ix - k6.length=ix by omega];exact kl hk
   refine acW (Ni (k6.length+ix) n hT dR hK hn) O (by show [e1 8,e1 9]=_;rw [p0 (bJ hd 0 O),p1 (bJ hd 1 O)]) O ?_;rintro _ w5 ⟨A',c',Pa,k2,rfl,dG,fa,ia⟩;refine ak.n ?_;refine⟨f0,f1,p0,p1,p3,A',c',Pa,A2,k2,[ax 2 A' n c' Pa],k6,fun h=> (nomatch (show true=false from h)),fun _=> ⟨O,dG,O⟩,fa,m2,m3,fun h=> (nomatch n5.symm.trans h),fun h=> (nomatch n6.symm.trans h),?_⟩;rw [List.set_append_right _ _ (by omega),show k6.length+ix - k6.length=ix by omega,iH]at ia;exact ia.perm (eU (l₁:=k6)).symm
  | 3,hq,bh=>
   obtain rfl:=bC hq;refine ko O (by exact f1) O (ak.n ?_);exact⟨f0,f1,p0,p1,fun _=>O,A,c,xs,A2,k',qm,k6,m0,m1,pI,m2,m3,m4,m5,hT⟩
  | 4,hq,bh=>
   obtain rfl:=bC hq;obtain rfl:=m2 bh;have n6:S 6=false:=by
    cases h:S 6 with
    | false=>rfl
    | true=>rw [<-bh];exact(bJ (cz 6 _ h rfl) 4 rfl).symm
   refine pj n hT (by exact p3 (bJ hd 3 O)) O (by omega) ?_;intro A' w5 dC;refine ak.n ?_;exact⟨f0,f1,p0,p1,p3,A,c,xs,A',k',qm,[ax 2 A' n n (List.replicate n 0)],m0,m1,pI,fun h=> (nomatch (show true=false from h)),fun _=> ⟨O,O⟩,m4,fun h=> (nomatch n6.symm.trans h),dC⟩
  | 5,hq,bh=>
   obtain rfl:=bC hq;refine lJ O (by exact(m1 (bJ hd 2 O)).1) O (ak.n ?_);exact⟨f0,f1,p0,p1,p3,A,c,xs,A2,k',qm,k6,m0,m1,pI,m2,m3,fun _=>O,m5,hT⟩
  | 6,hq,bh=>
   obtain rfl:=bC hq;refine lJ O (by exact(m3 (bJ hd 4 O)).1) O (ak.n ?_);exact⟨f0,f1,p0,p1,p3,A,c,xs,A2,k',qm,k6,m0,m1,pI,m2,m3,m4,fun _=>O,hT⟩
  | q+7,hq,_=>exact(nomatch hq)
 ·intro S e1 w4 ct hI;obtain⟨f0,f1,p0,p1,p3,A,c,xs,A2,k',qm,k6,m0,m1,pI,m2,m3,m4,m5,hT⟩:=hI;obtain⟨_,hx,rfl⟩:=m1 (ct 2 (by decide));obtain⟨_,rfl⟩:=m3 (ct 4 (by decide));refine yT (F:=[(0,.pointer As),(1,aj n),(5,.slice A n c),(6,.slice A2 n n)]) ⟨f0,f1,m4 (ct 5 (by decide)),m5 (ct 6 (by decide)),au⟩ ?_;have hT:St w0 w4 (ax 2 A2 n n (List.replicate n 0)::ax 2 A n c xs::ks.set ix k'):=hT;refine fw O ?_;refine Cd.loop (α:=Nat×ah) (fun s=> [(1,aj n),(5,.slice A n c),(6,.slice A2 n n),(7,aj (s.1:Int))]) (fun s w'=>St w0 w' (ax 2 A2 n n s.2::ax 2 A n c xs::ks.set ix k')/\Rg n s.2/\s.1<=n+1) (fun s=>n+2 - s.1) (0,List.replicate n 0) ⟨rfl,rfl,rfl,rfl,au⟩ ⟨hT,⟨by simp,fun x hx=>by obtain⟨h0,rfl⟩:=List.mem_replicate.1 hx;omega⟩,bA _⟩ ?_;rintro⟨i,ps⟩ e w5 ⟨dC,jY,hi⟩;dsimp only at dC jY hi|-;refine aY O (aL O (az O ?_));refine aM _ O (fun h1=>?_) (fun h1=>?_)
  ·have CF:=dC.bz 0 O;have CC:=dC.bz 1 O;have LP:=hx.gi (i:=(i:Int)) (by omega) (by omega);have pN:=hx.gi (i:=(i:Int)+1) (by omega) (by omega);refine cH O ?_;refine jx [11] [yS (A2) (n) (n),yS (A) (n) (c),yI ((i:Int)),yP (aF (A) ((i:Int)).toNat),yI (gi (xs) ((i:Int))),yS (A) (n) (c),yI ((i:Int)),yI (((i:Int))+ ((1:Int))),yP (aF (A) (((i:Int))+ ((1:Int))).toNat),yI (gi (xs) (((i:Int))+ ((1:Int)))),yP (aF (A2) (gi (xs) ((i:Int))).toNat),.pr (fun _ w'=>St w0 w' (ax 2 A2 n n (ps.set (gi xs i).toNat (gi xs ((i:Int)+1)))::ax 2 A n c xs::ks.set ix k'))] (by kernel_rfl) (by kernel_rfl) (ly (ly (ly (ly (ly (ly (ly (ly (ly (ly (ly (cL.2 ⟨Ye.cQ (fun v w w' h hb=>h.aq hb),(fun _ h=>by cases h)⟩)))))))))))) ?_ ?_
   ·refine⟨cj O,cj O,cj O,cP fun _ _ hb _ _ _=>ay (CC.aq hb).2 O (bG O O),cP fun _ _ hb _ _ _=>bc (CC.aq hb) O (bG O O),cj O,cj O,aP fun _ _=>aL O (bG O O),cP fun _ _ hb _ _ _=>ay (CC.aq hb).2 O (bG O O),cP fun _ _ hb _ _ _=>bc (CC.aq hb) O (bG O O),cP fun _ _ hb _ _ _=>ay (CF.aq hb).2 O (bG O O),?_,au⟩
    ·refine jy fun e1 w1 hb hp aX hq=>?_
     exact ak.gQ 0 (dC.aq hb) O O O (by omega) fun w9 iV=>ak.n (fv.st O iV)
   intro u w6 _ hu _ _;have eu:=hu 11 _ O (by kernel_rfl);have T5:=eu.bz 0 O;have CD:=eu.bz 1 O;refine fw O ?_;refine jx [11] [yS (A2) (n) (n),yS (A) (n) (c),yI ((i:Int)),yI (((i:Int))+ ((1:Int))),yP (aF (A) (((i:Int))+ ((1:Int))).toNat),yI (gi (xs) (((i:Int))+ ((1:Int)))),yS (A) (n) (c),yI ((i:Int)),yP (aF (A) ((i:Int)).toNat),yI (gi (xs) ((i:Int))),yP (aF (A2) (gi (xs) (((i:Int))+ ((1:Int)))).toNat),.pr (fun _ w'=>St w0 w' (ax 2 A2 n n ((ps.set (gi xs i).toNat (gi xs ((i:Int)+1))).set (gi xs ((i:Int)+1)).toNat (gi xs i))::ax 2 A n c xs::ks.set ix k'))] (by kernel_rfl) (by kernel_rfl) (ly (ly (ly (ly (ly (ly (ly (ly (ly (ly (ly (cL.2 ⟨Ye.cQ (fun v w w' h hb=>h.aq hb),(fun _ h=>by cases h)⟩)))))))))))) ?_ ?_
   ·refine⟨cj O,cj O,cj O,aP fun _ _=>aL O (bG O O),cP fun _ _ hb _ _ _=>ay (CD.aq hb).2 O (bG O O),cP fun _ _ hb _ _ _=>bc (CD.aq hb) O (bG O O),cj O,cj O,cP fun _ _ hb _ _ _=>ay (CD.aq hb).2 O (bG O O),cP fun _ _ hb _ _ _=>bc (CD.aq hb) O (bG O O),cP fun _ _ hb _ _ _=>ay (T5.aq hb).2 O (bG O O),?_,au⟩
    ·refine jy fun e1 w1 hb hp aX hq=>?_
     exact ak.gQ 0 (eu.aq hb) O O O (by omega) fun w9 iV=>ak.n (fv.st O iV)
   intro u2 w7 _ mR _ _;have eB:=mR 11 _ O (by kernel_rfl);refine fK O (aL O (aU O (tQ ?_)));exact⟨(i+2,(ps.set (gi xs i).toNat (gi xs ((i:Int)+1))).set (gi xs ((i:Int)+1)).toNat (gi xs i)),by show n+2 - (i+2)<n+2 - i;omega,(ac4 O),eB,(jY.set pN.1 pN.2).set LP.1 LP.2,by show i+2<=n+1;omega⟩
  ·refine bo O (bp (e6 O ?_));exact fA O ⟨A2,n,ps,k',O,jY,pI,dC.sub (List.Sublist.cons_cons _ (List.sublist_cons_self _ _))⟩
end
section
def cell(M:ag)(i:Nat)(f:Int):Int:=gi (gl M i) f
def ik(M:ag)(i f:Nat)(v:Int):ag:=M.set i ((gl M i).set f v)
def put(M:ag)(i f g:Nat):ag:=ik (ik M i f g) i g f
def kb(n F:Nat)(M:ag):Prop:=M.length=n/\∀p∈M,p.length=F
section
variable {n F:Nat} {M:ag}
theorem kb.row(h:kb n F M){i:Nat}(hi:i<n):(gl M i).length=F:=h.2 _ (by rw [cM (by rw [h.1];exact hi)];exact dd _)
theorem xl{i k:Nat}{p:ah}(hi:i<M.length):gl (M.set i p) k=if i=k then p else gl M k:=by
 simp only [gl,gn,df,kX]
 by_cases e:i=k
 ·subst e;simp [hi]
 simp [e]
theorem kb.ik(h:kb n F M){i:Nat}(hi:i<n)(f:Nat)(v:Int):kb n F (ik M i f v):=by
 refine⟨by simp [Vc.ik,h.1],fun p hp=>?_⟩;rcases List.mem_or_eq_of_mem_set hp with hp | rfl
 ·exact h.2 p hp
 simpa using h.row hi
theorem JI(h:kb n F M){i:Nat}(hi:i<n){f:Nat}(hf:f<F){v:Int}{k:Nat}{x:Int}(hx:0<=x):cell (ik M i f v) k x=if i=k/\(f:Int)=x then v else cell M k x:=by
 simp only [cell,ik];rw [xl (by rw [h.1];exact hi)]
 by_cases e:i=k
 ·subst e;rw [aJ rfl];have:=lL (S:=gl M i) (x:=(f:Int)) (y:=x) (b:=v) (by omega) (by rw [h.row hi];omega) hx;rw [gn]at this;rw [this]
  by_cases e2:(f:Int)=x<;>simp [e2]
 simp [e]
theorem vb(h:kb n F M){i:Nat}(hi:i<n){f g:Nat}(hf:f<F)(hg:g<F){k:Nat}{x:Int}(hx:0<=x):cell (put M i f g) k x=if i=k/\(g:Int)=x then(f:Int)else if i=k/\(f:Int)=x then(g:Int)else cell M k x:=by
 rw [put,JI (h.ik hi f g) hi hg hx,JI h hi hf hx]
theorem kb.put(h:kb n F M){i:Nat}(hi:i<n)(f g:Nat):kb n F (put M i f g):=(h.ik hi f g).ik hi g f
end
inductive qf(n:Nat)(M:ag):Int->Prop where
 | zero:qf n M 0
 | step {y:Int} {i:Nat}:qf n M y->i<n->0<=y->0<=cell M i y->qf n M (cell M i y)
def Ext(n F:Nat)(M L:ag):Prop:=∀(i:Nat) (f:Int),i<n->0<=f->f<F->0<=cell M i f->cell L i f=cell M i f
theorem Ext.refl(n F:Nat)(M:ag):Ext n F M M:=fun _ _ _ _ _ _=>rfl
theorem Ext.trans{n F:Nat}{M L K:ag}(h:Ext n F M L)(h':Ext n F L K):Ext n F M K:=fun i f hi h0 h1 h2=>by
 have e:=h i f hi h0 h1 h2;rw [h' i f hi h0 h1 (by rw [e];exact h2),e]
theorem Ext.put{n F:Nat}{M:ag}(h:kb n F M){i f g:Nat}(hi:i<n)(hf:f<F)(hg:g<F)(h1:cell M i f<0)(h2:cell M i g<0):Ext n F M (put M i f g):=fun k x hk h0 hx hc=>by
 rw [vb h hi hf hg h0]
 split
 ·rename_i e;obtain⟨rfl,rfl⟩:=e;omega
 split
 ·rename_i e;obtain⟨rfl,rfl⟩:=e;omega
 rfl
structure Inv(n F:Nat)(M:ag)(met at_:Nat):Prop where
 dz:kb n F M
 n0:0<n
 wg:1<=met
 kz:met<=F
 cells:∀(i:Nat) (f:Int),i<n->0<=f->f<F->cell M i f= -1\/(0<=cell M i f/\cell M i f<met/\f<met/\cell M i (cell M i f)=f/\cell M i f≠f)
 known:∀a:Nat,a<at_->0<=cell M (a%n) (a / n:Nat)
 rq:∀f:Nat,f<met->qf n M f
 le:at_<=met*n
section
variable {n F:Nat} {M:ag} {met at_:Nat}
theorem Inv.pos(h:Inv n F M met at_)(ha:at_≠met*n):at_%n<n/\at_ / n<met:=by
 have:=h.le;have hn:=h.n0;exact⟨Nat.mod_lt _ hn,Nat.div_lt_of_lt_mul (by rw [Nat.mul_comm];omega)⟩
theorem Inv.next(h:Inv n F M met at_)(ha:at_≠met*n)(hk:0<=cell M (at_%n) (at_ / n:Nat)):Inv n F M met (at_+1):=
 ⟨h.dz,h.n0,h.wg,h.kz,h.cells,fun a cI=>by
  by_cases e:a=at_
  ·subst e;exact hk
  exact h.known a (by omega),h.rq,by have:=h.le;omega⟩
theorem qf.ext{L:ag}(hM:∀(i:Nat) (f:Int),i<n->0<=f->0<=cell M i f->cell L i f=cell M i f){x:Int}(h:qf n M x):qf n L x:=by
 induction h with
 | zero=>exact .zero
 | @step y i hy hi h0 hc ih=>
  have e:=hM i y hi h0 hc;rw [<-e];exact .step ih hi h0 (by rw [e];exact hc)
theorem Inv.put{g:Nat}(h:Inv n F M met at_)(ha:at_≠met*n)(hk:¬0<=cell M (at_%n) (at_ / n:Nat))(h1:at_ / n<g)(h2:g<=met)(h3:g<F)(hg:¬0<=cell M (at_%n) g):
 Inv n F (put M (at_%n) (at_ / n) g) (max met (g+1)) (at_+1):=by
 obtain⟨hi,hf⟩:=h.pos ha;have mL:∀a,a<at_->0<=cell M (a%n) (a / n:Nat):=h.known;have Ds:∀a,a=at_->a%n=at_%n/\a / n=at_ / n:=fun a e=>by subst e;exact⟨rfl,rfl⟩
 generalize at_ / n=q at*;generalize at_%n=r at*;have oL:q<F:=by have:=h.kz;omega
 have hc:∀(k:Nat) (x:Int),0<=x->cell (Vc.put M r q g) k x=if r=k/\(g:Int)=x then((q:Nat):Int)else if r=k/\((q:Nat):Int)=x then(g:Int)else cell M k x:=fun k x hx=>vb h.dz hi oL h3 hx
 have ext:∀(k:Nat) (x:Int),k<n->0<=x->0<=cell M k x->cell (Vc.put M r q g) k x=cell M k x:=fun k x _ hx zK=>by
  rw [hc k x hx]
  split
  ·rename_i e;obtain⟨rfl,rfl⟩:=e;omega
  split
  ·rename_i e;obtain⟨rfl,rfl⟩:=e;omega
  rfl
 refine⟨h.dz.put hi _ _,h.n0,by have:=h.wg;omega,by have:=h.kz;omega,fun k x hk hx yc=>?_,fun a cI=>?_,fun x hx=>?_,?_⟩
 ·rw [hc k x hx]
  split
  ·rename_i e;obtain⟨rfl,rfl⟩:=e;refine .inr ⟨by omega,by omega,by omega,?_,by omega⟩;rw [hc _ _ (by omega),aC (by omega),aJ ⟨rfl,rfl⟩]
  rename_i e1
  split
  ·rename_i e;obtain⟨rfl,rfl⟩:=e;refine .inr ⟨by omega,by omega,by omega,?_,by omega⟩;rw [hc _ _ (by omega),aJ ⟨rfl,rfl⟩]
  rename_i e2;rcases h.cells k x hk hx yc with h4 | ⟨h4,h5,h6,h7,h8⟩
  ·exact .inl h4
  refine .inr ⟨h4,by omega,by omega,?_,h8⟩;rw [ext k _ hk h4 (by rw [h7];exact hx),h7]
 ·by_cases e:a=at_
  ·rw [(Ds a e).1,(Ds a e).2,hc _ _ (by omega)]
   split
   ·omega
   rw [aJ ⟨rfl,rfl⟩];omega
  have:=mL a (by omega);rw [ext _ _ (Nat.mod_lt _ h.n0) (Int.natCast_nonneg _) this];exact this
 ·by_cases cI:x<met
  ·exact(h.rq x cI).ext (fun k y hk h0 Gi=>ext k y hk h0 Gi)
  have rX:x=g:=by omega
  subst rX;have h0:=(h.rq _ hf).ext (L:=Vc.put M r q x) (fun k y hk h0 Gi=>ext k y hk h0 Gi);have e:cell (Vc.put M r q x) r ((q:Nat):Int)=(x:Int):=by rw [hc _ _ (by omega),aC (by omega),aJ ⟨O,O⟩]
  have:=qf.step h0 hi (by omega) (by rw [e];omega);rw [e]at this;exact this
 have:=h.le;have h5:met*n<=(max met (g+1))*n:=Nat.mul_le_mul_right n (by omega);omega
def grow(n F:Nat)(ok:ag->Nat->Nat->Bool)(fin:ag->Bool):Nat->Nat->Nat->ag->List (ag)
 | 0,_,_,_=> []
 | k+1,at_,met,M=>
  if at_=met*n then(if met=F/\fin M=true then [M]else [])
  else if 0<=cell M (at_%n) (at_ / n:Nat)then grow n F ok fin k (at_+1) met M
  else(List.range' (at_ / n+1) (min met (F - 1) - at_ / n)).flatMap fun g=>
   if 0<=cell M (at_%n) (g:Nat)then []else if ok (put M (at_%n) (at_ / n) g) (at_%n) (at_ / n)=true then grow n F ok fin k (at_+1) (max met (g+1)) (put M (at_%n) (at_ / n) g)else []
theorem wk(h:Inv n F M met at_)(ha:at_≠met*n){g:Nat}(hg:g∈List.range' (at_ / n+1) (min met (F - 1) - at_ / n)):at_ / n<g/\g<=met/\g<F:=by
 rw [List.mem_range'_1]at hg;have:=(h.pos ha).2;have:=h.wg;have:=h.kz;omega
end
theorem sJ{n F:Nat}{ok:ag->Nat->Nat->Bool}{fin:ag->Bool}:∀(k at_ met:Nat) (M:ag),Inv n F M met at_->∀L∈grow n F ok fin k at_ met M,Ext n F M L/\Inv n F L F (F*n)
 | 0,_,_,_,_,L,hL=>by simp [grow]at hL
 | k+1,at_,met,M,h,L,hL=>by
  simp only [grow]at hL
  split at hL
  ·rename_i ha
   split at hL
   ·rename_i hm;simp at hL;subst hL;refine⟨Ext.refl _ _ _,?_⟩;have h1:=hm.1;subst h1;rw [<-ha];exact h
   ·simp at hL
  ·rename_i ha
   split at hL
   ·rename_i hk;exact sJ k _ _ _ (h.next ha hk) L hL
   ·rename_i hk;rw [List.mem_flatMap]at hL;obtain⟨g,hg,hL⟩:=hL;have hr:=wk h ha hg
    split at hL
    ·simp at hL
    ·rename_i jD
     split at hL
     ·have h1:=h.put ha hk hr.1 hr.2.1 hr.2.2 jD;have hp:=h.pos ha;have h2:=sJ k _ _ _ h1 L hL;exact⟨(Ext.put h.dz hp.1 (by have:=h.kz;omega) hr.2.2 (by omega) (by omega)).trans h2.1,h2.2⟩
     ·simp at hL
theorem Fe{α β:Type}(p:β->Bool)(f:α->List β):∀(l:List α),(l.flatMap f).filter p=l.flatMap fun a=> (f a).filter p
 | []=>rfl
 | a::l=>by simp [List.filter_append,Fe p f l]
theorem KF{n F:Nat}{ok:ag->Nat->Nat->Bool}{fin:ag->Bool}(J:ag->Prop)(V:ag->Bool)
 (hJ:∀(M:ag) (i f:Nat),ok M i f=true->J M)
 (sV:∀(M:ag),Inv n F M F (F*n)->J M->fin M=V M)
 (rF:∀(M:ag) (i f met at_:Nat),Inv n F M met at_->i<n->f<F->0<=cell M i f->∀L,Ext n F M L->Inv n F L F (F*n)->V L=true->ok M i f=true):
 ∀(k at_ met:Nat) (M:ag),Inv n F M met at_->J M->grow n F ok fin k at_ met M=(grow n F (fun _ _ _=>true) (fun _=>true) k at_ met M).filter V:=by
 intro k
 induction k with
 | zero=>intro at_ met M _ _;simp [grow]
 | succ k ih=>
  intro at_ met M h hj;simp only [grow]
  split
  ·rename_i ha
   by_cases hm:met=F
   ·subst hm;have h1:Inv n met M met (met*n):=by rw [<-ha];exact h
    rw [sV M h1 hj]
    by_cases hv:V M=true<;>simp [hv]
   ·simp [hm]
  ·rename_i ha
   split
   ·rename_i hk;exact ih _ _ _ (h.next ha hk) hj
   ·rename_i hk;rw [Fe];have key:∀(l:List Nat),(∀g∈l,at_ / n<g/\g<=met/\g<F)->
     (l.flatMap fun g=>if 0<=cell M (at_%n) (g:Nat)then []else if ok (put M (at_%n) (at_ / n) g) (at_%n) (at_ / n)=true then grow n F ok fin k (at_+1) (max met (g+1)) (put M (at_%n) (at_ / n) g)else [])=
     l.flatMap fun g=> (if 0<=cell M (at_%n) (g:Nat)then []else if(fun(_:ag) (_ _:Nat)=>true) (put M (at_%n) (at_ / n) g) (at_%n) (at_ / n)=true then grow n F (fun _ _ _=>true) (fun _=>true) k (at_+1) (max met (g+1)) (put M (at_%n) (at_ / n) g)else []).filter V:=by
     intro l
     induction l with
     | nil=>intro _;rfl
     | cons g l WC=>
      intro hl;have hr:=hl g (by simp);rw [List.flatMap_cons,List.flatMap_cons,WC (fun x hx=>hl x (by simp [hx]))]
      congr 1
      split
      ·rfl
      ·rename_i jD;have h1:=h.put ha hk hr.1 hr.2.1 hr.2.2 jD;have hp:=h.pos ha;have oL:at_ / n<F:=by have:=h.kz;omega
       rw [aJ rfl]
       split
       ·rename_i bq;exact ih _ _ _ h1 (hJ _ _ _ bq)
       ·rename_i bq;symm;rw [List.filter_eq_nil_iff];intro L hL hV;have h2:=sJ k _ _ _ h1 L hL;exact bq (rF _ _ _ _ _ h1 hp.1 oL (by
         rw [vb h.dz hp.1 oL hr.2.2 (Int.natCast_nonneg _)]
         split
         ·exact Int.natCast_nonneg _
         ·rw [aJ ⟨rfl,rfl⟩];exact Int.natCast_nonneg _) L h2.1 h2.2 hV)
    exact key _ (fun g hg=>wk h ha hg)
def kn(M:ag)(i:Nat)(x:Int):Int:=if x<0 then -1 else cell M i x
def wI(M:ag)(i k:Nat)(f:Int):Prop:=(0<=cell M i f->cell M i f≠cell M k f)/\(0<=kn M k (cell M i f)->0<=kn M i (cell M k f)->kn M k (cell M i f)=kn M i (cell M k f))
instance (M:ag)(i k:Nat)(f:Int):Decidable (wI M i k f):=by unfold wI;exact inferInstance
def nI(M:ag)(f:Int):Prop:=∀i,i<M.length->∀k,k<M.length->i+2<=k->wI M i k f
instance (M:ag)(f:Int):Decidable (nI M f):=by unfold nI;exact inferInstance
def nz(F:Nat)(M:ag)(_ _:Nat):Bool:=decide (∀e,e<F->nI M (e:Nat))
def uY(M:ag)(i k:Nat)(f g:Int):Prop:=cell M k f=g\/(0<=cell M k f/\0<=cell M k g/\0<=cell M i (cell M k f)/\cell M i (cell M k f)≠cell M k g)\/(0<=cell M k f/\0<=cell M k g/\0<=cell M i (cell M k g)/\cell M i (cell M k g)≠cell M k f)
instance (M:ag)(i k:Nat)(f g:Int):Decidable (uY M i k f g):=by unfold uY;exact inferInstance
def jZ(M:ag)(i f:Nat):Bool:=decide (∀k,k<M.length->¬(-1<=(k:Int) - i/\(k:Int) - i<=1)->¬uY M i k f (cell M i f))
section
variable{met:Nat}{x:Int}
variable {n F:Nat} {L M:ag}
theorem Inv.full(h:Inv n F L F (F*n)){i:Nat}{f:Int}(hi:i<n)(h0:0<=f)(hf:f<F):0<=cell L i f:=by
 obtain⟨q,rfl⟩:∃q:Nat,f=q:=⟨f.toNat,by omega⟩;have h1:q*n+i<F*n:=by
  have:(q+1)*n<=F*n:=Nat.mul_le_mul_right n (by omega);rw [Nat.succ_mul]at this;omega
 have h2:=h.known (q*n+i) h1;rw [Nat.add_comm,Nat.add_mul_mod_self_right,Nat.mod_eq_of_lt hi,Nat.add_mul_div_right _ _ h.n0,Nat.div_eq_of_lt hi,Nat.zero_add]at h2;exact h2
theorem Inv.inv(h:Inv n F L F (F*n)){i:Nat}{f:Int}(hi:i<n)(h0:0<=f)(hf:f<F):0<=cell L i f/\cell L i f<F/\cell L i (cell L i f)=f/\cell L i f≠f:=by
 have h1:=h.full hi h0 hf;rcases h.cells i f hi h0 hf with h2 | h2
 ·omega
 exact⟨h2.1,h2.2.1,h2.2.2.2.1,h2.2.2.2.2⟩
theorem Inv.ZN(h:Inv n F L F (F*n))(hF:F<=400):qk L:=by
 intro p hp;obtain⟨i,hi,rfl⟩:=gu.1 hp;have cS:i<n:=by rw [<-h.dz.1];exact hi
 have e:L[i]=gl L i:=(cM hi).symm;rw [e];have hl:=h.dz.row cS;have s7:=h.dz.row h.n0;have hinv:∀f:Int,0<=f->f<F->0<=gi (gl L i) f/\gi (gl L i) f<F/\gi (gl L i) (gi (gl L i) f)=f/\gi (gl L i) f≠f:=fun f h0 hf=>h.inv cS h0 hf
 refine⟨by rw [hl,<-s7];rfl,⟨by omega,fun x hx=>?_,?_⟩,fun k hk=>?_⟩
 ·obtain⟨k,hk,rfl⟩:=gu.1 hx;rw [<-bN hk];have:=hinv k (by omega) (by omega);omega
 ·rw [List.nodup_iff_pairwise_ne,List.pairwise_iff_getElem];intro a b ha hb jn e2;rw [<-bN ha,<-bN hb]at e2;have e3:=(hinv a (by omega) (by omega)).2.2.1;have e4:=(hinv b (by omega) (by omega)).2.2.1;rw [e2,e4]at e3;omega
 have:=hinv k (by omega) (by omega);exact⟨this.2.2.2,this.2.2.1⟩
theorem qf.reach(h:L.length=n)(hc:qf n L x):Reach L 0 x:=by
 induction hc with
 | zero=>exact .refl
 | step _ hi _ _ ih=>exact .step ih (mJ (by omega) (by omega))
theorem Inv.we(h:Inv n F L F (F*n))(hn:n<=5)(hF:2<=F/\F<=400)(hJ:∀e:Nat,e<F->nI L e):bj L:=by
 have s7:(gl L 0).length=F:=h.dz.row h.n0;have hr:=h.ZN hF.2;have hs:=hr.sys;have hlen:=h.dz.1;have lr:=h.n0;refine⟨⟨by omega,by omega⟩,⟨by omega,by omega⟩,hr,fun i hi k hk gy f hf=>?_,?_⟩
 ·have h1:=hJ f (by omega) i hi k hk gy;have ci:=h.inv (i:=i) (f:=f) (by omega) (by omega) (by omega);have ck:=h.inv (i:=k) (f:=f) (by omega) (by omega) (by omega);have Rn:=h.inv (i:=k) (f:=cell L i f) (by omega) ci.1 ci.2.1;have Rm:=h.inv (i:=i) (f:=cell L k f) (by omega) ck.1 ck.2.1;have e1:kn L k (cell L i f)=cell L k (cell L i f):=by unfold kn;rw [if_neg (by omega)]
  have e2:kn L i (cell L k f)=cell L i (cell L k f):=by unfold kn;rw [if_neg (by omega)]
  have h2:=h1.2;rw [e1,e2]at h2;exact⟨h2 Rn.1 Rm.1,h1.1 ci.1⟩
 rw [s7]at hs|-;rw [DS hs (by omega)];intro x h0 hx;have:=h.rq x.toNat (by omega);rw [Int.toNat_of_nonneg h0]at this;exact this.reach hlen
theorem bj.cells(hL:Inv n F L F (F*n))(h:bj L){i k:Nat}(hi:i<n)(hk:k<n)(gy:i+2<=k){f:Int}(h0:0<=f)(hf:f<F):cell L k (cell L i f)=cell L i (cell L k f)/\cell L i f≠cell L k f:=by
 have s7:(gl L 0).length=F:=hL.dz.row hL.n0;have hlen:=hL.dz.1;have h1:=h.2.2.2.1 i (by omega) k (by omega) gy f.toNat (by omega);unfold Comm at h1;rw [Int.toNat_of_nonneg h0]at h1;exact h1
theorem bj.JJ(hL:Inv n F L F (F*n))(h:bj L){i k:Nat}(hi:i<n)(hk:k<n)(gy:¬(-1<=(k:Int) - i/\(k:Int) - i<=1)){f:Int}(h0:0<=f)(hf:f<F):cell L k (cell L i f)=cell L i (cell L k f)/\cell L i f≠cell L k f:=by
 by_cases hc:i+2<=k
 ·exact h.cells hL hi hk hc h0 hf
 have:=h.cells hL hk hi (by omega) h0 hf;exact⟨this.1.symm,fun e=>this.2 e.symm⟩
theorem Sf{at_:Nat}(hM:Inv n F M met at_)(hL:Inv n F L F (F*n))(hE:Ext n F M L)(hV:bj L)(e:Nat)(he:e<F):nI M e:=by
 intro i hi k hk gy;have hlen:=hM.dz.1;have ux:=hM.kz;have ci:=hM.cells i e (by omega) (by omega) (by omega);have ck:=hM.cells k e (by omega) (by omega) (by omega);have hv:=hV.cells hL (i:=i) (k:=k) (by omega) (by omega) gy (f:=(e:Int)) (by omega) (by omega);refine⟨fun h0 h1=>?_,fun h0 h1=>?_⟩
 ·rw [hE i e (by omega) (by omega) (by omega) h0,hE k e (by omega) (by omega) (by omega) (by rw [<-h1];exact h0)]at hv;exact hv.2 h1
 unfold kn at h0 h1|-
 by_cases hx:cell M i e<0
 ·rw [aJ hx]at h0;omega
 by_cases hy:cell M k e<0
 ·rw [aJ hy]at h1;omega
 rw [aC hx]at h0|-;rw [aC hy]at h1|-;have e1:=hE i e (by omega) (by omega) (by omega) (by omega);have e2:=hE k e (by omega) (by omega) (by omega) (by omega);have e3:=hE k (cell M i e) (by omega) (by omega) (by omega) h0;have e4:=hE i (cell M k e) (by omega) (by omega) (by omega) h1;rw [e1,e2,e3,e4]at hv;exact hv.1
theorem YV{at_ i f:Nat}(hM:Inv n F M met at_)(hi:i<n)(hf:f<F)(hc:0<=cell M i f)(hL:Inv n F L F (F*n))(hE:Ext n F M L)(hV:bj L):jZ M i f=true:=by
 unfold jZ;rw [qp];intro k hk gy hb;have hlen:=hM.dz.1;have ux:=hM.kz;have eF:k<n:=by omega
 have ci:=hM.cells i f hi (by omega) (by omega);have hg:0<=cell M i f/\cell M i f<F/\cell M i (cell M i f)=f:=by
  rcases ci with ci | ci
  ·omega
  exact⟨ci.1,by omega,ci.2.2.2.1⟩
 have ef:=hE i f hi (by omega) (by omega) hc;have vf:=hV.JJ hL hi eF gy (f:=(f:Int)) (by omega) (by omega);have vg:=hV.JJ hL hi eF gy (f:=cell M i f) hg.1 hg.2.1;have eg:=hE i (cell M i f) hi hg.1 hg.2.1 (by omega);rcases hb with hb | ⟨h1,h2,h3,h4⟩ | ⟨h1,h2,h3,h4⟩
 ·have e1:=hE k f eF (by omega) (by omega) (by omega);rw [ef,e1,hb]at vf;exact vf.2 O
 ·have e1:=hE k f eF (by omega) (by omega) h1;have e2:=hE k (cell M i f) eF hg.1 hg.2.1 h2;have r1:=hM.cells k f eF (by omega) (by omega);have e3:=hE i (cell M k f) hi h1 (by omega) h3;rw [ef,e1,e2,e3]at vf;exact h4 vf.1.symm
 have e1:=hE k f eF (by omega) (by omega) h1;have e2:=hE k (cell M i f) eF hg.1 hg.2.1 h2;have r1:=hM.cells k (cell M i f) eF hg.1 hg.2.1;have e3:=hE i (cell M k (cell M i f)) hi h2 (by omega) h3;rw [eg,hg.2.2,e1,e2,e3]at vg;exact h4 vg.1.symm
def pq(n F:Nat)(k at_ met:Nat)(M:ag):List (ag):=(grow n F (fun _ _ _=>true) (fun _=>true) k at_ met M).filter fun L=>decide (bj L)
theorem S3(k:Nat){at_:Nat}(h:Inv n F M met at_):grow n F jZ (fun L=>decide (bj L)) k at_ met M=pq n F k at_ met M:=
 KF (fun _=>True) _ (fun _ _ _ _=>au) (fun _ _ _=>rfl) (fun _ _ _ _ _ hM hi hf hc L hE hL hV=>YV hM hi hf hc hL hE (mT hV)) k at_ met M h au
theorem S4(hn:n<=5)(hF:2<=F/\F<=400)(k:Nat){at_:Nat}(h:Inv n F M met at_)(hJ:∀e:Nat,e<F->nI M e):grow n F (nz F) (fun _=>true) k at_ met M=pq n F k at_ met M:=
 KF (fun M=>∀e:Nat,e<F->nI M e) _ (fun M i f h=>mT h) (fun M hM hj=>by rw [fo (hM.we hn hF hj)]) (fun M i f met at_ hM hi hf hc L hE hL hV=>fo (fun e he=>Sf hM hL hE (mT hV) e he)) k at_ met M h hJ
def blank(n F:Nat):ag:=List.replicate n (List.replicate F (-1))
theorem EX{i:Nat}{f:Int}(hi:i<n)(h0:0<=f)(hf:f<F):cell (blank n F) i f= -1:=by
 have e:gl (blank n F) i=List.replicate F (-1):=by simp [gl,blank,df,List.getElem?_replicate,hi]
 rw [cell,e,sI h0 hf]
theorem Inv.blank(hn:0<n)(hF:0<F):Inv n F (blank n F) 1 0 where
 dz:=⟨by simp [Vc.blank],fun p hp=>by simp [Vc.blank]at hp;rw [hp.2];simp⟩
 n0:=hn
 wg:=dE _
 kz:=hF
 cells i f hi h0 hf:= .inl (EX hi h0 hf)
 known a ha:=by omega
 rq f hf:=by
  have:f=0:=by omega
  subst this;exact .zero
 le:=bA _
theorem QY(e:Nat)(he:e<F):nI (blank n F) e:=by
 intro i hi k hk gy;have hl:(blank n F).length=n:=by simp [Vc.blank]
 have e1:=EX (n:=n) (F:=F) (i:=i) (f:=(e:Int)) (by omega) (by omega) (by omega);refine⟨fun h0=>by omega,fun h0 h1=>?_⟩;unfold kn at h0;rw [aJ (by omega)]at h0;omega
end
end
section
open Go.RowKit
def nF(init:ah)(ix v:Nat->Int):Nat->ah
 | 0=>init
 | k+1=> (nF init ix v k).set (ix k).toNat (v k)
theorem D9(init:ah)(ix v:Nat->Int):∀k,(nF init ix v k).length=init.length
 | 0=>rfl
 | k+1=>by simp [nF,D9 init ix v k]
theorem Io{init:ah}{ix v:Nat->Int}{N:Nat}(hN:init.length=N):∀k,(∀j,j<k->0<=ix j/\ix j<N)->(∀i j,i<k->j<k->ix i=ix j->i=j)->∀j,j<k->gi (nF init ix v k) (ix j)=v j
 | 0,_,_,j,hj=>by omega
 | k+1,hr,hi,j,hj=>by
  have h1:=hr k (by omega);have h2:=hr j hj;show gi ((nF init ix v k).set (ix k).toNat (v k)) (ix j)=v j;rw [lL h1.1 (by rw [D9,hN];exact h1.2) h2.1]
  by_cases e:ix k=ix j
  ·rw [aJ e,hi k j (by omega) hj e]
  ·rw [aC e];have:j≠k:=fun C9=>e (by rw [C9])
   exact Io hN k (fun j hj=>hr j (by omega)) (fun i j h h'=>hi i j (by omega) (by omega)) j (by omega)
def dH(m:Nat):ah:=(List.range m).map fun(k:Nat)=> (k:Int)
theorem kS(m:Nat):(dH m).length=m:=by simp [dH]
theorem Bz{m k:Nat}(h:k<m):gi (dH m) k=k:=by rw [bN (by rw [kS];exact h)];simp [dH]
theorem wA{m:Nat}{x:Int}:x∈dH m↔0<=x/\x<m:=by
 simp only [dH,fx,jN];exact⟨fun⟨k,hk,e⟩=>by omega,fun h=> ⟨x.toNat,by omega,by omega⟩⟩
theorem OI(m:Nat):dH (m+1)=dH m++ [(m:Int)]:=by simp [dH,rb]
theorem YE(l:ah):(dH l.length).map (gi l)=l:=by
 apply gD
 ·simp [dH]
 intro i h1 h2;simp only [List.getElem_map];rw [show(dH l.length)[i]'(by rw [kS];exact h2)=(i:Int) by simp [dH]];exact bN h2
def gJ(N:Nat)(o:ah):ah:=nF (List.replicate N 0) (fun k=>gi o k) (fun k=> (k:Int)) o.length
theorem Jr(N:Nat)(o:ah):(gJ N o).length=N:=by simp [gJ,D9]
structure mX(N:Nat)(o:ah):Prop where
 len:o.length=N
 nodup:o.Nodup
 range:∀x∈o,0<=x/\x< (N:Int)
section
variable {N:Nat} {o:ah}
theorem mX.eS(h:mX N o){k:Nat}(hk:k<N):0<=gi o k/\gi o k<N:=h.range _ (gi_in (by rw [h.len];exact hk))
theorem mX.inj(h:mX N o){i j:Nat}(hi:i<N)(hj:j<N)(e:gi o i=gi o j):i=j:=by
 rw [bN (by rw [h.len];exact hi),bN (by rw [h.len];exact hj)]at e;exact(List.getElem_inj h.nodup).1 e
theorem mX.back(h:mX N o){k:Nat}(hk:k<N):gi (gJ N o) (gi o k)=k:=
 Io (N:=N) (by simp) o.length (fun j hj=>h.eS (by rw [<-h.len];exact hj)) (fun i j hi hj e=>h.inj (by rw [<-h.len];exact hi) (by rw [<-h.len];exact hj) e) k (by rw [h.len];exact hk)
theorem mX.Vf(h:mX N o){x:Int}(h0:0<=x)(h1:x<N):∃k:Nat,k<N/\gi o k=x:=by
 apply kV;intro b9;have hx:x∉o:=fun hm=>by
  obtain⟨k,hk,e⟩:=gu.1 hm;exact b9 ⟨k,by rw [<-h.len];exact hk,by rw [bN hk];exact e⟩
 have:=tq (N:=N) (l:=x::o) (mV.2 ⟨hx,h.nodup⟩) (fun y hy=>by
  rcases ja.1 hy with rfl | hy
  ·exact⟨h0,h1⟩
  exact h.range y hy)
 rw [List.length_cons,h.len]at this;omega
theorem mX.ql(h:mX N o){x:Int}(h0:0<=x)(h1:x<N):∃k:Nat,k<N/\gi o k=x/\gi (gJ N o) x=k:=by
 obtain⟨k,hk,e⟩:=h.Vf h0 h1;exact⟨k,hk,e,by rw [<-e];exact h.back hk⟩
end
def kj(o b mv:ah):ah:=o.map fun x=>gi b (gi mv x)
def kR(N:Nat)(p mv:ah):ah:=nF (List.replicate N 0) (fun f=>gi p f) (fun f=>gi p (gi mv f)) N
theorem ZC{N:Nat}{o mv:ah}(h:mX N o):kR N (gJ N o) mv=kj o (gJ N o) mv:=by
 have hl:(kR N (gJ N o) mv).length=N:=by simp [kR,D9]
 apply gD
 ·simp [hl,kj,h.len]
 ·intro j h1 h2;have hj:j<N:=by omega
  obtain⟨h3,h4⟩:=h.eS hj;have e:((gi o j).toNat:Int)=gi o j:=by omega
  have key:=Io (init:=List.replicate N 0) (ix:=fun f=>gi (gJ N o) f) (v:=fun f=>gi (gJ N o) (gi mv f)) (N:=N) (by simp) N (fun j hj=>by
   obtain⟨k,hk,_,hb⟩:=h.ql (x:=(j:Int)) (by omega) (by omega);rw [hb];omega)
   (fun i j hi hj e=>by
     obtain⟨k,hk,e1,hb⟩:=h.ql (x:=(i:Int)) (by omega) (by omega);obtain⟨k',dp,Ce,kr⟩:=h.ql (x:=(j:Int)) (by omega) (by omega);rw [hb,kr]at e;have:k=k':=by omega
     subst this;omega) (gi o j).toNat (by omega)
  rw [e,h.back hj]at key;rw [<-bN h1];rw [show gi (kR N (gJ N o) mv) j=_ from key];simp only [kj,List.getElem_map];rw [bN (show j<o.length by rw [h.len];exact hj)]
def cW(N:Nat)(xss:ag)(f:Int):ag:=xss.map fun mv=>kj (da N xss f) (gJ N (da N xss f)) mv
theorem mh(N:Nat)(xss:ag)(f:Int):(cW N xss f).length=xss.length:=by simp [cW]
def kE(a b:Int):Int:=if a<b then -1 else if b<a then 1 else 0
def fz:ah->ah->Int
 | [],[]=>0
 | [],_::_=> -1
 | _::_,[]=>1
 | a::l,b::r=>if kE a b=0 then fz l r else kE a b
def dZ:ag->ag->Int
 | [],[]=>0
 | [],_::_=> -1
 | _::_,[]=>1
 | a::l,b::r=>if fz a b=0 then dZ l r else fz a b
theorem tN{a b:Int}:kE a b=0↔a=b:=by unfold kE;by_cases h:a<b<;>by_cases h':b<a<;>simp [h,h']<;>omega
theorem zb{a b:Int}:kE a b<0↔a<b:=by unfold kE;by_cases h:a<b<;>by_cases h':b<a<;>simp [h,h']<;>omega
theorem Rw(a b:Int):kE b a= - kE a b:=by unfold kE;split<;>split<;>omega
theorem r5:∀ {a b:ah},fz a b=0↔a=b
 | [],[]=>by simp [fz]
 | [],_::_=>by simp [fz]
 | _::_,[]=>by simp [fz]
 | a::l,b::r=>by
  simp only [fz]
  split
  ·rename_i h;rw [r5,tN.1 h];simp
  ·rename_i h;constructor
   ·intro h';exact absurd h' h
   ·intro h';exact absurd (tN.2 (List.cons.inj h').1) h
theorem wc:∀ {a b:ag},dZ a b=0↔a=b
 | [],[]=>by simp [dZ]
 | [],_::_=>by simp [dZ]
 | _::_,[]=>by simp [dZ]
 | a::l,b::r=>by
  simp only [dZ]
  split
  ·rename_i h;rw [wc,r5.1 h];simp
  ·rename_i h;constructor
   ·intro h';exact absurd h' h
   ·intro h';exact absurd (r5.2 (List.cons.inj h').1) h
theorem NH:∀(a b:ah),fz b a= - fz a b
 | [],[]=>rfl
 | [],_::_=>rfl
 | _::_,[]=>rfl
 | a::l,b::r=>by
  simp only [fz];rw [Rw a b,NH l r]
  by_cases h:kE a b=0
  ·rw [aJ h,aJ (by omega)]
  ·rw [aC h,aC (by omega)]
theorem Bb:∀(a b:ag),dZ b a= - dZ a b
 | [],[]=>rfl
 | [],_::_=>rfl
 | _::_,[]=>rfl
 | a::l,b::r=>by
  simp only [dZ];rw [NH a b,Bb l r]
  by_cases h:fz a b=0
  ·rw [aJ h,aJ (by omega)]
  ·rw [aC h,aC (by omega)]
theorem NI:∀ {a b c:ah},fz a b<0->fz b c<0->fz a c<0
 | [],[],_,h,_=>by simp [fz]at h
 | [],_::_,[],_,h=>by simp [fz]at h
 | [],_::_,_::_,_,_=>by simp [fz]
 | _::_,[],_,h,_=>by simp [fz]at h
 | _::_,_::_,[],_,h=>by simp [fz]at h
 | a::l,b::r,c::s,h,h'=>by
  simp only [fz]at h h'|-
  by_cases e1:kE a b=0
  ·have:=tN.1 e1;subst this;rw [aJ e1]at h
   by_cases e2:kE a c=0
   ·rw [aJ e2]at h'|-;exact NI h h'
   ·rw [aC e2]at h'|-;exact h'
  ·rw [aC e1]at h;have jn:=zb.1 h
   by_cases e2:kE b c=0
   ·have:=tN.1 e2;subst this;rw [aC e1];exact h
   ·rw [aC e2]at h';have Us:=zb.1 h';have zD:kE a c<0:=zb.2 (by omega);rw [aC (by omega)];exact zD
theorem DJ:∀ {a b c:ag},dZ a b<0->dZ b c<0->dZ a c<0
 | [],[],_,h,_=>by simp [dZ]at h
 | [],_::_,[],_,h=>by simp [dZ]at h
 | [],_::_,_::_,_,_=>by simp [dZ]
 | _::_,[],_,h,_=>by simp [dZ]at h
 | _::_,_::_,[],_,h=>by simp [dZ]at h
 | a::l,b::r,c::s,h,h'=>by
  simp only [dZ]at h h'|-
  by_cases e1:fz a b=0
  ·have:=r5.1 e1;subst this;rw [aJ e1]at h
   by_cases e2:fz a c=0
   ·rw [aJ e2]at h'|-;exact DJ h h'
   ·rw [aC e2]at h'|-;exact h'
  ·rw [aC e1]at h
   by_cases e2:fz b c=0
   ·have:=r5.1 e2;subst this;rw [aC e1];exact h
   ·rw [aC e2]at h';have zD:fz a c<0:=NI h h';rw [aC (by omega)];exact zD
def fe(N:Nat)(xss:ag):Nat->ag
 | 0=>cW N xss 0
 | k+1=>if dZ (cW N xss k) (fe N xss k)<0 then cW N xss k else fe N xss k
def gO(N:Nat)(xss:ag):ag:=fe N xss N
theorem HH{N:Nat}{xss:ag}:∀k,(¬dZ (cW N xss 0) (fe N xss k)<0)/\∀f:Nat,f<k->¬dZ (cW N xss f) (fe N xss k)<0
 | 0=> ⟨by show ¬dZ (cW N xss 0) (cW N xss 0)<0;rw [wc.2 rfl];omega,fun f hf=>by omega⟩
 | k+1=>by
  obtain⟨h0,h1⟩:=HH (N:=N) (xss:=xss) k;simp only [fe]
  split
  ·rename_i h;have tr:∀x,¬dZ x (fe N xss k)<0->¬dZ x (cW N xss k)<0:=fun x hx hc=>hx (DJ hc h)
   refine⟨tr _ h0,fun f hf=>?_⟩
   by_cases e:f=k
   ·subst e;rw [wc.2 rfl];omega
   ·exact tr _ (h1 f (by omega))
  ·rename_i h;refine⟨h0,fun f hf=>?_⟩
   by_cases e:f=k
   ·subst e;exact h
   ·exact h1 f (by omega)
theorem HG{N:Nat}{xss:ag}(hN:0<N):∀k,k<=N->∃f:Nat,f<N/\fe N xss k=cW N xss f
 | 0,_=> ⟨0,hN,rfl⟩
 | k+1,hk=>by
  simp only [fe]
  split
  ·exact⟨k,by omega,O⟩
  ·exact HG hN k (by omega)
theorem Yp{N:Nat}{xss:ag}(hN:0<N)(h0:cW N xss 0=xss):gO N xss=xss↔∀f:Nat,f<N->¬dZ (cW N xss f) xss<0:=by
 have hle:=HH (N:=N) (xss:=xss) N;constructor
 ·intro h f hf;have:=hle.2 f hf
  rwa [show fe N xss N=xss from h]at this
 intro h;obtain⟨f,hf,e⟩:=HG (xss:=xss) hN N (dE _);have h1:=h f hf;rw [<-e]at h1;have h2:=hle.1;rw [h0,Bb]at h2;exact wc.1 (by show dZ (fe N xss N) xss=0;omega)
section
variable {n F:Nat}
def fg(L:ag)(n:Nat):Nat->Nat
 | 0=>1
 | a+1=>max (fg L n a) ((cell L (a%n) (a / n:Nat)).toNat+1)
def RG(L:ag)(n a:Nat):Prop:=0<=cell L (a%n) (a / n:Nat)/\cell L (a%n) (a / n:Nat)<=fg L n a/\a / n<fg L n a
theorem FA{ok:ag->Nat->Nat->Bool}{fin:ag->Bool}:∀(k at_ met:Nat) (M:ag),Inv n F M met at_->∀L∈grow n F ok fin k at_ met M,(fg L n at_=met/\∀a,a<at_->RG L n a)->fg L n (F*n)=F/\∀a,a<F*n->RG L n a
 | 0,_,_,_,_,L,hL,_=>by simp [grow]at hL
 | k+1,at_,met,M,h,L,hL,hG=>by
  simp only [grow]at hL
  split at hL
  ·rename_i ha
   split at hL
   ·rename_i hm;have h1:=hm.1;subst h1;rw [<-ha];exact hG
   ·simp at hL
  ·rename_i ha;have hp:=h.pos ha
   split at hL
   ·rename_i hk;have Gl:=(sJ k _ _ _ (h.next ha hk) L hL).1;have xV:=h.kz;have hc:=Gl (at_%n) (at_ / n:Nat) hp.1 (Int.natCast_nonneg _) (Int.ofNat_lt.2 (by omega)) hk;have pM:=h.cells (at_%n) (at_ / n:Nat) hp.1 (Int.natCast_nonneg _) (Int.ofNat_lt.2 (by omega));refine FA k _ _ _ (h.next ha hk) L hL ⟨?_,fun a Ul=>?_⟩
    ·show max (fg L n at_) ((cell L (at_%n) (at_ / n:Nat)).toNat+1)=met;rw [hc,hG.1];omega
    ·by_cases e:a=at_
     ·subst e;refine⟨by rw [hc];exact hk,by rw [hc,hG.1];omega,by rw [hG.1];exact hp.2⟩
     ·exact hG.2 a (by omega)
   ·rename_i hk;rw [List.mem_flatMap]at hL;obtain⟨g,hg,hL⟩:=hL;have hr:=wk h ha hg
    split at hL
    ·simp at hL
    ·rename_i jD
     split at hL
     ·have h1:=h.put ha hk hr.1 hr.2.1 hr.2.2 jD;have Gl:=(sJ k _ _ _ h1 L hL).1;have xV:=h.kz;have LI:cell (put M (at_%n) (at_ / n) g) (at_%n) (at_ / n:Nat)=g:=by
       rw [vb h.dz hp.1 (by omega) hr.2.2 (Int.natCast_nonneg _),aC (fun hc=>by have:=Int.ofNat.inj hc.2;omega),aJ ⟨rfl,rfl⟩]
      have hc:=Gl (at_%n) (at_ / n:Nat) hp.1 (Int.natCast_nonneg _) (Int.ofNat_lt.2 (by omega)) (by rw [LI];omega);rw [LI]at hc;refine FA k _ _ _ h1 L hL ⟨?_,fun a Ul=>?_⟩
      ·show max (fg L n at_) ((cell L (at_%n) (at_ / n:Nat)).toNat+1)=max met (g+1);rw [hc,hG.1];omega
      ·by_cases e:a=at_
       ·subst e;refine⟨by rw [hc];omega,by rw [hc,hG.1];omega,by rw [hG.1];exact hp.2⟩
       ·exact hG.2 a (by omega)
     ·simp at hL
theorem Ol{m:Nat}{v:Int}(h0:0<=v)(h1:v<=m):fh (dH m) v=dH (max m (v.toNat+1)):=by
 unfold fh
 by_cases h:v<m
 ·rw [aJ (wA.2 ⟨h0,h⟩),show max m (v.toNat+1)=m by omega]
 rw [aC (fun hm=>h (wA.1 hm).2),show max m (v.toNat+1)=m+1 by omega,OI,show v=(m:Int) by omega]
theorem R8{L:ag}{f:Nat}(hl:L.length=n)(hn:0<n)(hR:∀a,f*n<=a->a< (f+1)*n->RG L n a):expand L f (dH (fg L n (f*n)))=dH (fg L n ((f+1)*n)):=by
 have e1:(f+1)*n=f*n+n:=by rw [Nat.succ_mul]
 have key:∀j,j<=n->(L.take j).foldl (fun o p=>fh o (gi p f)) (dH (fg L n (f*n)))=dH (fg L n (f*n+j)):=by
  intro j
  induction j with
  | zero=>intro _;rfl
  | succ j ih=>
   intro hj;have fI:j<L.length:=by omega
   rw [lG fI,List.foldl_append,ih (by omega)];have zC:(f*n+j)%n=j:=by rw [Nat.mul_comm,Nat.mul_add_mod];exact Nat.mod_eq_of_lt (by omega)
   have vD:(f*n+j) / n=f:=by rw [Nat.mul_comm,Nat.mul_add_div hn];rw [Nat.div_eq_of_lt (by omega)];omega
   have hr:=hR (f*n+j) (by omega) (by omega);unfold RG at hr;rw [zC,vD]at hr;have hc:cell L j f=gi (L[j]) f:=by
    unfold cell;rw [show gl L j=L[j] by simp [gl,df,dL fI]]
   show fh _ (gi L[j] f)=dH (max (fg L n (f*n+j)) ((cell L ((f*n+j)%n) ((f*n+j) / n:Nat)).toNat+1));rw [zC,vD,<-hc];exact Ol hr.1 hr.2.1
 have:=key n (dE _);rw [jc (by omega)]at this;rw [e1];exact this
theorem Jv{L:ag}(hl:L.length=n)(hn:0<n)(hm:fg L n (F*n)=F)(hR:∀a,a<F*n->RG L n a):∀k i,i<=F->F<k+i->jk L k i (dH (fg L n (i*n)))=dH F
 | 0,i,h1,h2=>by omega
 | k+1,i,h1,h2=>by
  simp only [jk]
  by_cases e:i=F
  ·subst e;rw [hm,kS,aC (by omega)]
  ·have cI:i*n<F*n:=(Nat.mul_lt_mul_right hn).2 (by omega);have h3:=(hR (i*n) cI).2.2;rw [Nat.mul_div_cancel _ hn]at h3;rw [kS,aJ h3,Bz h3,R8 hl hn (fun a h1 h2=>hR a (Nat.lt_of_lt_of_le h2 (Nat.mul_le_mul_right n (by omega))))];exact Jv hl hn hm hR k (i+1) (by omega) (by omega)
theorem ZW(N:Nat):gJ N (dH N)=dH N:=by
 have hP:mX N (dH N):=⟨kS N,by
  unfold dH;rw [List.nodup_iff_pairwise_ne,nJ];exact List.nodup_range.imp (fun h e=>h (by omega)),fun x hx=>wA.1 hx⟩
 apply gD
 ·rw [Jr,kS]
 intro i h1 h2;rw [kS]at h2;have:=hP.back h2;rw [Bz h2]at this;rw [<-bN h1,this];simp [dH]
theorem SD(hF:0<F){L:ag}(hL:L∈pq n F (F*n+1) 0 1 (blank n F))(hn:0<n):cW F L 0=L:=by
 have hI:=Inv.blank (n:=n) (F:=F) hn hF;have hg:=(jb.1 hL).1;obtain⟨hm,hR⟩:=FA _ _ _ _ hI L hg ⟨rfl,fun a ha=>by omega⟩;have xv:=(sJ _ _ _ _ hI L hg).2;have hl:=xv.dz.1;have ho:da F L 0=dH F:=by
  have:=Jv hl hn hm hR (F+1) 0 (by omega) (by omega);rw [Nat.zero_mul]at this;exact this
 unfold cW;rw [ho,ZW]
 conv=>rhs;rw [<-List.map_id L]
 apply pg;intro mv oP;have hlen:=xv.dz.2 mv oP;obtain⟨i,hi,rfl⟩:=gu.1 oP;show kj (dH F) (dH F) L[i]=L[i]
 conv=>rhs;rw [<-YE L[i],hlen]
 unfold kj;apply pg;intro x hx;have hx:=wA.1 hx;have hc:cell L i x=gi L[i] x:=by
  unfold cell;rw [show gl L i=L[i] by simp [gl,df,dL hi]]
 have hv:=xv.inv (i:=i) (by omega) hx.1 hx.2;rw [hc]at hv;have e:gi L[i] x=((gi L[i] x).toNat:Int):=by omega
 rw [e];exact Bz (by omega)
end
theorem XD(A:ai)(n c:Nat)(xs:ah)(w:aa)(hR:cd w A n xs)(hn:n<=1000000000):aE prog 151 [.slice A n c] w (fun v w'=>∃A' c',v= .slice A' n c'/\St w w' [ax 2 A' n c' xs]):=by
 refine bm func151 O ntmps151 O (bU O) (aY O (jO (St.refl w) O ?_));intro A1 w1 aB;have aB:St w w1 [ax 2 A1 0 0 []]:=aB;refine ao O (fR 0 aB O (aB.dY hR) O O O ?_);intro A2 c2 w2 aw;rw [Nat.zero_add]at aw|-;refine bu O (fA O ?_);exact⟨A2,c2,O,aw⟩
theorem Hx(A:ai)(n c:Nat)(rs:List aO)(xss:ag)(w:aa)(hR:bl w A n rs xss)(hn:n<=1000000000)(hr:∀i,i<n->(rs.getD i cJ).n<=1000000000):
 aE prog 247 [.slice A n c] w (fun v w'=>∃A' c' rs',v= .slice A' n c'/\rs'.length=n/\St w w' (aK 24 2 A' n c' rs' xss)):=by
 refine bm func247 O ntmps247 O (bU O) (aY O (jO (St.refl w) O ?_));intro A1 w1 aB;have aB:St w w1 [aV 24 A1 0 0 []]:=aB;refine az O (Cd.loop (α:=Nat×ai×Nat×List aO) (fun s=> [(0,.slice A n c),(3,.slice s.2.1 s.1 s.2.2.1),(4,aj (s.1:Int))]) (fun s w'=>St w w' (aV 24 s.2.1 s.1 s.2.2.1 s.2.2.2::bS 2 s.2.2.2 (xss.take s.1))/\s.1<=n/\s.2.2.2.length=s.1) (fun s=>n - s.1) (0,A1,0,[]) (ac4 O) ⟨aB,bA _,O⟩ ?_);rintro⟨k,A3,c3,cV⟩ e w2 ⟨aw,hk,hlen⟩;dsimp only at aw hk hlen|-;refine aY O (aZ O O (az O ?_));refine aM _ O (fun h1=>?_) (fun h1=>?_)
 ·have dp:k<n:=by omega
  have hx:k<xss.length:=by rw [hR.len];exact dp
  refine aD O (acU (aw.Bj hR.top).2 O O O (by omega) h1 (bB (aw.Bj hR.top) O (aH (XD _ _ _ _ _ (aw.dY (hR.at_ (i:=k) (by omega) h1)) (hr k dp)) O ?_)));rintro _ w3 ⟨A4,c4,rfl,aI⟩;have aI:=aw.call aI;refine mW aI O O O fun A5 w4 aG=>km 2 aG O (aG.eG 0 O) O O O (by omega) (by omega) O fun A6 c6 w5 aR=>ao O (aL O (aU O (tQ ?_)));refine⟨(k+1,A6,c6,cV++ [⟨A4,(rg rs k).n,c4⟩]),by show n - (k+1)<n - k;omega,(ac4 O),?_,dp,by simp [hlen]⟩;have e2:gl xss k=xss[k]:=by simp [gl,df,dL hx]
  show St w w5 (aV _ A6 (k+1) c6 (cV++ [_])::bS _ (cV++ [_]) (xss.take (k+1)));rw [lG hx,nD (by simp [hlen];omega)];have h5:St w w5 (ax 2 A4 (rg rs k).n c4 (gl xss k)::aV 24 A6 (k+1) c6 (cV++ [⟨A4,(rg rs k).n,c4⟩])::bS 2 cV (xss.take k)):=aR.tail;rw [e2]at h5;refine h5.perm ?_;refine(List.Perm.swap _ _ _).trans (List.Perm.cons _ ?_);exact fb (l₁:=[_])
 refine bo O (bp (e6 O ?_));refine fA O ?_;have:k=n:=by omega
 subst this;rw [<-hR.len,List.take_length]at aw;exact⟨A3,c3,cV,O,hlen,by rw [<-hR.len];exact aw⟩
theorem bl.dz{w:aa}{A:ai}{n F:Nat}{rs:List aO}{M:ag}(hR:bl w A n rs M)(hs:kb n F M){k:Int}(h0:0<=k)(h1:k<n):(rg rs k).n=F:=by
 rw [<-hR.jh h0 h1];exact hs.2 _ (mJ h0 (by rw [hs.1];exact h1))
theorem Nu(A:ai)(n c F:Nat)(rs:List aO)(M:ag)(i:Nat)(f:Int)(w:aa)(hR:bl w A n rs M)(hs:kb n F M)(hi:i<n)(hf:f<F):
 aE prog 277 [.slice A n c,aj i,aj f] w (fun v w'=>v=aj (kn M i f)/\w'=w):=by
 have hn:=hR.dz hs (k:=(i:Int)) (by omega) (by omega);refine bm func277 O ntmps277 O (bU O) (b7 O ?_);refine aM _ O (fun h=>?_) (fun h=>?_)
 ·refine cE O (fP O ?_);exact⟨by unfold kn;rw [if_pos h],O⟩
 refine aD O (ay hR.top.2 O (bB hR.top O (ao O (ay (hR.at_ (i:=i) (by omega) (by omega)).2 O (bc (hR.at_ (i:=i) (by omega) (by omega)) O (bu O (fP O ?_)))))));exact⟨by unfold kn;rw [if_neg h];rfl,O⟩
def EC(n F:Nat)(M:ag):Prop:=∀(i:Nat) (f:Int),i<n->0<=f->f<F->cell M i f<F
theorem Inv.eS{n F:Nat}{M:ag}{met at_:Nat}(h:Inv n F M met at_):EC n F M:=fun i f hi h0 hf=>by
 have:=h.kz;rcases h.cells i f hi h0 hf with h1 | h1
 ·omega
 omega
theorem X2(A:ai)(n c F:Nat)(rs:List aO)(M:ag)(f:Nat)(w:aa)(hR:bl w A n rs M)(hs:kb n F M)(hg:EC n F M)(hn:n<=1000)(hf:f<F):
 aE prog 248 [.slice A n c,aj f] w (fun v w'=>v= .bool (decide (nI M f))/\St w w' []):=by
 have hlen:=hs.1;refine bm func248 O ntmps248 O (bU O) ?_;refine aY O (aZ O O (az O ?_));refine Cd.loop (α:=Nat) (fun i=> [(0,.slice A n c),(1,aj f),(5,aj n),(6,aj i)]) (fun i w'=>St w w' []/\i<=n/\∀i',i'<i->∀k,k<n->i'+2<=k->wI M i' k f) (fun i=>n - i) 0 (ac4 O) ⟨St.refl w,bA _,fun i' h=>by omega⟩ ?_;rintro i e w1 ⟨aB,hi,hI⟩;refine b7 O (aM _ O (fun h1=>?_) (fun h1=>?_))
 ·refine aD O (aL O (az O ?_));refine Cd.loop (α:=Nat) (fun k=> [(0,.slice A n c),(1,aj f),(5,aj n),(6,aj i),(7,aj k)]) (fun k w'=>St w w' []/\i+2<=k/\∀k',k'<k->k'<n->i+2<=k'->wI M i k' f) (fun k=>n+1 - k) (i+2) (ac4 O) ⟨aB,dE _,fun k' _ _ _=>by omega⟩ ?_;rintro k e w2 ⟨aw,gy,hK⟩;refine b7 O (aM _ O (fun h2=>?_) (fun h2=>?_))
  ·have hM:=aw.bE hR;have fN:=hM.at_ (i:=i) (by omega) h1;have iW:=hM.at_ (i:=k) (by omega) h2;have ni:=hM.dz hs (k:=(i:Int)) (by omega) h1;have nk:=hM.dz hs (k:=(k:Int)) (by omega) h2;refine cH O ?_;refine dK [xS (A) (n) (c),xI ((i:Int)),xP (aF (A) ((i:Int)).toNat),xS ((rg (rs) ((i:Int))).a) ((rg (rs) ((i:Int))).n) ((rg (rs) ((i:Int))).c),xI ((f:Int)),xP (aF ((rg (rs) ((i:Int))).a) ((f:Int)).toNat),xI (gi (gl M i) ((f:Int))),xS (A) (n) (c),xI ((k:Int)),xP (aF (A) ((k:Int)).toNat),xS ((rg (rs) ((k:Int))).a) ((rg (rs) ((k:Int))).n) ((rg (rs) ((k:Int))).c),xI ((f:Int)),xP (aF ((rg (rs) ((k:Int))).a) ((f:Int)).toNat),xI (gi (gl M k) ((f:Int))),xI (gi (gl M i) ((f:Int))),xI (gi (gl M k) ((f:Int)))] O (eo O) ?_ ?_
   ·exact⟨Dr O,Dr O,fun _ _ hb _ _=>ay (hM.top.aq hb).2 O Az,fun _ _ hb _ _=>bB (hM.top.aq hb) O Az,Dr O,fun _ _ hb _ _=>ay (fN.aq hb).2 O Az,fun _ _ hb _ _=>bc (fN.aq hb) O Az,Dr O,Dr O,fun _ _ hb _ _=>ay (hM.top.aq hb).2 O Az,fun _ _ hb _ _=>bB (hM.top.aq hb) O Az,Dr O,fun _ _ hb _ _=>ay (iW.aq hb).2 O Az,fun _ _ hb _ _=>bc (iW.aq hb) O Az,Dr O,Dr O,au⟩
   intro u w3 iA _;have aI:=aw.aq iA;have hM:=aI.bE hR;refine PD 0 O (pc (α:=Unit) (fun _=> [(0,.slice A n c),(1,aj f),(5,aj n),(6,aj i),(7,aj k),(8,aj (cell M i f)),(9,aj (cell M k f))]) (fun _ w'=>w'=w3/\(0<=cell M i f->cell M i f≠cell M k f)) ?_ ?_)
   ·refine aY O (bX 42 O (fun h3=>?_) (fun h3=>?_))
    ·refine ar O (ao O (ar O (ao O (ar O (az O ?_)))));refine aM _ O (fun h4=>?_) (fun h4=>?_)
     ·refine cE O (de (cT (de (cT (de (cT ?_))))));refine bQ O ?_;exact⟨by rw [dq (fun hF:nI M f=> (hF i (by omega) k (by omega) gy).1 h3 h4)],aI⟩
     refine mC O (tQ ?_);exact⟨(),(ac4 O),O,fun _=>h4⟩
    refine av O (av O (av O (az O ?_)));refine Cd.dO O (mC O (tQ ?_));exact⟨(),(ac4 O),O,fun h=>absurd h h3⟩
   rintro _ e w3 ⟨rfl,b9⟩;have SR:=hg i f (by omega) (by omega) (by omega);have SU:=hg k f (by omega) (by omega) (by omega);refine aD O (aH (Nu A n c F rs M k _ _ hM hs (by omega) SR) O ?_);rintro _ w4 ⟨rfl,rfl⟩;refine ao O (aH (Nu A n c F rs M i _ _ hM hs (by omega) SU) O ?_);rintro _ w5 ⟨rfl,rfl⟩;have px:∀ {w':aa} {e':Env},(0<=kn M k (cell M i f)->0<=kn M i (cell M k f)->kn M k (cell M i f)=kn M i (cell M k f))->∀k',k'<k+1->k'<n->i+2<=k'->wI M i k' f:=fun hk k' dp eF kN=>by
    by_cases ek:k'=k
    ·subst ek;exact⟨b9,hk⟩
    exact hK k' (by omega) eF kN
   refine ao O (bX 57 O (fun h3=>?_) (fun h3=>?_))
   ·refine ar O (ao O (ar O (ao O ?_)));refine bX 61 O (fun h4=>?_) (fun h4=>?_)
    ·refine ar O (ao O (ar O (ao O (ar O (az O ?_)))));refine aM _ O (fun h5=>?_) (fun h5=>?_)
     ·refine cE O (de (cT (de (cT ?_))));refine bQ O ?_;exact⟨by rw [dq (fun hF:nI M f=>h5 ((hF i (by omega) k (by omega) gy).2 h3 h4))],aI⟩
     refine aD O (aL O (aU O (tQ ?_)));exact⟨k+1,by omega,(ac4 O),aI,by omega,px (w':=w) (e':=e) (fun _ _=>gC.1 h5)⟩
    refine av O (av O (av O (az O ?_)));refine Cd.dO O (aD O (aL O (aU O (tQ ?_))));exact⟨k+1,by omega,(ac4 O),aI,by omega,px (w':=w) (e':=e) (fun _ h=>absurd h h4)⟩
   refine av O (av O (ao O (av O (av O (av O (az O ?_))))));refine Cd.dO O (aD O (aL O (aU O (tQ ?_))));exact⟨k+1,by omega,(ac4 O),aI,by omega,px (w':=w) (e':=e) (fun h=>absurd h h3)⟩
  refine bo O (bp (cn O (aL O (aU O (tQ ?_)))));refine⟨i+1,by omega,(ac4 O),aw,by omega,fun i' di k' dp kN=>?_⟩
  by_cases ei:i'=i
  ·subst ei;exact hK k' (by omega) dp kN
  exact hI i' (by omega) k' dp kN
 refine bo O (bp (e6 O ?_));refine bQ O ?_;exact⟨by rw [fo (show nI M f from fun i' di k' dp kN=>hI i' (by omega) k' (by omega) kN)],aB⟩
theorem Y6{α:Type}(a b c:List α)(x:α):(a++ (x::(b++c))).Perm (x::(b++ (a++c))):=
 eU.trans (List.Perm.cons _ (by rw [<-fC,<-fC];exact List.Perm.append_right c fb))
theorem Y3{α:Type}(a b c d:List α):(a++ (b++ (c++d))).Perm (b++ ((c++a)++d)):=by
 have h1:=List.Perm.append_right (c++d) (fb (l₁:=a) (l₂:=b));rw [fC,fC]at h1;have h2:=List.Perm.append_right d (fb (l₁:=a) (l₂:=c));rw [fC]at h2;exact h1.trans (List.Perm.append_left _ h2)
theorem FB{n F:Nat}{ok:ag->Nat->Nat->Bool}{fin:ag->Bool}{M:ag}{met:Nat}:∀(s fuel at_:Nat),at_+s<=met*n->(∀a,at_<=a->a<at_+s->0<=cell M (a%n) (a / n:Nat))->grow n F ok fin (fuel+s) at_ met M=grow n F ok fin fuel (at_+s) met M
 | 0,fuel,at_,_,_=>rfl
 | s+1,fuel,at_,hle,hk=>by
  rw [<-Nat.add_assoc];show(if _ then _ else _)=_;rw [aC (by omega),aJ (hk at_ (dE _) (by omega)),FB s fuel (at_+1) (by omega) (fun a h1 h2=>hk a (by omega) (by omega))]
  congr 1;omega
theorem Inv.upto{n F:Nat}{M:ag}{met at_:Nat}(h:Inv n F M met at_):∀(b:Nat),at_<=b->b<=met*n->(∀a,a<b->0<=cell M (a%n) (a / n:Nat))->Inv n F M met b:=fun b _ hb hk=>
 ⟨h.dz,h.n0,h.wg,h.kz,h.cells,hk,h.rq,hb⟩
def body(n F:Nat)(ok:ag->Nat->Nat->Bool)(fin:ag->Bool)(k at_ met:Nat)(M:ag)(g:Nat):List (ag):=
 if 0<=cell M (at_%n) (g:Nat)then []else if ok (put M (at_%n) (at_ / n) g) (at_%n) (at_ / n)=true then grow n F ok fin k (at_+1) (max met (g+1)) (put M (at_%n) (at_ / n) g)else []
theorem KE{n F:Nat}{ok:ag->Nat->Nat->Bool}{fin:ag->Bool}{k at_ met:Nat}{M:ag}(ha:at_≠met*n)(hk:¬0<=cell M (at_%n) (at_ / n:Nat)):
 grow n F ok fin (k+1) at_ met M=(List.range' (at_ / n+1) (min met (F - 1) - at_ / n)).flatMap (body n F ok fin k at_ met M):=by
 show(if _ then _ else _)=_;rw [aC ha,aC hk];rfl
theorem H5{α:Type}(f:Nat->List α){s c g:Nat}(h1:s<=g)(h2:g<s+c):(List.range' s (g+1 - s)).flatMap f=(List.range' s (g - s)).flatMap f++f g:=by
 rw [show g+1 - s=(g - s)+1 by omega,List.range'_concat,List.flatMap_append];simp [show s+ (g - s)=g by omega]
theorem Oq{α:Type}(f:Nat->List α){s c g:Nat}(h1:s<=g)(h2:g<s+c):((List.range' s (g - s)).flatMap f).length+ (f g).length<=((List.range' s c).flatMap f).length:=by
 have e:List.range' s c=List.range' s (g+1 - s)++List.range' (g+1) (c - (g+1 - s)):=by
  rw [show c=(g+1 - s)+ (c - (g+1 - s)) by omega,<-List.range'_append_1]
  congr 2<;>omega
 rw [e,List.flatMap_append,H5 f h1 h2];simp only [e8];omega
theorem X3(n F:Nat)(zU:n<=5)(hF:2<=F/\F<=400):∀(fuel at_ met:Nat) (M:ag),Inv n F M met at_->F*n+1<=fuel+at_->∀(w0 w:aa) (ks:List Ck) (Ao:ai) (no co:Nat) (outs:List aO) (A:ai) (c:Nat) (rs:List aO),
 St w0 w (aV 37 Ao no co outs::(aK 24 2 A n c rs M++ks))->no+ (grow n F (nz F) (fun _=>true) fuel at_ met M).length<=4000000000000->
 aE prog 197 [.slice A n c,aj F,aj met,.slice Ao no co] w (fun v w'=>∃A' c',∃new:List cq,v= .slice A' (no+new.length) c'/\(∀m∈new,m.ok)/\new.map (·.xss)=grow n F (nz F) (fun _=>true) fuel at_ met M/\
  St w0 w' (aV 37 A' (no+new.length) c' (outs++new.map (·.top))::(aK 24 2 A n c rs M++ (dv 24 2 new++ks)))):=by
 intro fuel
 induction fuel using Nat.strongRecOn with
 | _ fuel ih=>
 intro at_ met M hI U6 w0 w ks Ao no co outs A c rs hS hB;have lr:=hI.n0;have ux:=hI.kz;have hlen:=hI.dz.1;have Dg:met*n<=2000:=lI (Nat.mul_le_mul hI.kz zU) (by have:F*5<=400*5:=Nat.mul_le_mul_right 5 hF.2;omega);have vt:((met:Int)* (n:Int))=((met*n:Nat):Int):=O;have Iy:∀ {w':aa} {o:Ck} {ks':List Ck},St w0 w' (o::(aK 24 2 A n c rs M++ks'))->bl w' A n rs M:=fun h=>h.tail.du hlen
 refine bm func197 O ntmps197 O (bU O) ?_;refine aY O (aZ O O (az O ?_));refine Cd.loop (α:=Nat) (fun a=> [(0,.slice A n c),(1,aj F),(2,aj met),(3,.slice Ao no co),(9,aj n),(10,aj a)]) (fun a w'=>Below w.heap.size w w'/\a<=met*n/\∀b,b<a->0<=cell M (b%n) (b / n:Nat)) (fun a=>met*n - a) 0 (ac4 O) ⟨Below.refl _ _,bA _,fun b hb=>by omega⟩ ?_;rintro a e w1 ⟨fp,ha,hk⟩;have aB:=hS.aq fp;have hR:=Iy aB;refine b7 O ?_
 by_cases h1:(a:Int)< ((met*n:Nat):Int)
 ·have GX:a%n<n/\a / n<met:=⟨Nat.mod_lt _ lr,Nat.div_lt_of_lt_mul (by rw [Nat.mul_comm];omega)⟩;have bH:=hR.at_ (i:=((a%n:Nat):Int)) (Int.natCast_nonneg _) (by omega);have gI:=hR.dz hI.dz (k:=((a%n:Nat):Int)) (Int.natCast_nonneg _) (by omega);generalize hr:a%n=r at*;generalize hq:a / n=q at*;have GN:(a:Int)% (n:Int)=((r:Nat):Int):=by rw [<-hr];rfl
  have hdiv:(a:Int) / (n:Int)=((q:Nat):Int):=by rw [<-hq];rfl
  by_cases h2:0<=cell M r q
  ·--dup 3
   refine dK [xI ((a:Int)),xI ((met:Int)),xI ((n:Int)),xI (((met*n:Nat):Int)),xB (true),xB (true),xS (A) (n) (c),xI ((a:Int)),xI ((n:Int)),xI ((r:Int)),xP (aF (A) ((r:Int)).toNat),xS ((rg (rs) ((r:Int))).a) ((rg (rs) ((r:Int))).n) ((rg (rs) ((r:Int))).c),xI ((a:Int)),xI ((n:Int)),xI ((q:Int)),xP (aF ((rg (rs) ((r:Int))).a) ((q:Int)).toNat),xI (gi (gl M r) ((q:Int))),xB (true),xB (true)] O (eo O) ?_ ?_
   ·refine⟨Dr O,Dr O,Dr O,fun _ _ _ _ _=>gU O O O (by rw [vt];omega) Az,fun _ _ _ _ _=>Dk O (by exact bw Value.bool (fo h1)),Dr O,Dr O,Dr O,Dr O,?_,fun _ _ hb _ _=>ar O (ay (hR.top.aq hb).2 O Az),fun _ _ hb _ _=>ar O (bB (hR.top.aq hb) O Az),Dr O,Dr O,?_,fun _ _ hb _ _=>ar O (ay (bH.aq hb).2 O Az),fun _ _ hb _ _=>ar O (bc (bH.aq hb) O Az),fun _ _ _ _ _=>Dk O (by exact bw Value.bool (fo h2)),Dr O,au⟩
    ·intro e1 w1 hb hp aX;refine ar O (ak.rem O O O (by omega) ?_);rw [GN];refine ak.n (d0 (by exact O))
    ·intro e1 w1 hb hp aX;refine ar O (ak.quo O O O (by omega) ?_);rw [hdiv];refine ak.n (d0 (by exact O))
   intro u w2 gj _;have gj:=fp.trans (gj.mono fp.size);refine fw O (Cd.fW O ?_);refine aD O (aL O (aU O (tQ ?_)));refine⟨a+1,by omega,(ac4 O),gj,by omega,fun b hb=>?_⟩
   by_cases eb:b=a
   ·subst eb;rw [hr,hq];exact h2
   ·exact hk b (by omega)
  ·refine dK [.ex (aj ((a:Int))),.ex (aj ((met:Int))),.ex (aj ((n:Int))),.ex (aj (((met*n:Nat):Int))),.ex (.bool (true)),.ex (.bool (true)),.ex (.slice (A) (n) (c)),.ex (aj ((a:Int))),.ex (aj ((n:Int))),.ex (aj ((r:Int))),.ex (.pointer (aF (A) ((r:Int)).toNat)),.ex (.slice ((rg (rs) ((r:Int))).a) ((rg (rs) ((r:Int))).n) ((rg (rs) ((r:Int))).c)),.ex (aj ((a:Int))),.ex (aj ((n:Int))),.ex (aj ((q:Int))),.ex (.pointer (aF ((rg (rs) ((r:Int))).a) ((q:Int)).toNat)),.ex (aj (gi (gl M r) ((q:Int)))),.ex (.bool (false)),.ex (.bool (false))] O (eo O) ?_ ?_
   ·refine⟨Dr O,Dr O,Dr O,fun _ _ _ _ _=>gU O O O (by rw [vt];omega) Az,fun _ _ _ _ _=>Dk O (by exact bw Value.bool (fo h1)),Dr O,Dr O,Dr O,Dr O,?_,fun _ _ hb _ _=>ar O (ay (hR.top.aq hb).2 O Az),fun _ _ hb _ _=>ar O (bB (hR.top.aq hb) O Az),Dr O,Dr O,?_,fun _ _ hb _ _=>ar O (ay (bH.aq hb).2 O Az),fun _ _ hb _ _=>ar O (bc (bH.aq hb) O Az),fun _ _ _ _ _=>Dk O (by exact bw Value.bool (dq h2)),Dr O,au⟩
    ·intro e1 w1 hb hp aX;refine ar O (ak.rem O O O (by omega) ?_);rw [GN];refine ak.n (d0 (by exact O))
    ·intro e1 w1 hb hp aX;refine ar O (ak.quo O O O (by omega) ?_);rw [hdiv];refine ak.n (d0 (by exact O))
   intro u w2 gj _;have aw:=aB.aq gj;refine fw O (Cd.dO O ?_);refine bo O (bp (cn O ?_));refine gU O O O (by rw [vt];omega) ?_;refine az O ?_;refine jw O (by rw [vt];omega) ?_;refine cH O (dK [xI ((a:Int)),xI ((n:Int)),xI ((q:Int)),xI ((a:Int)),xI ((n:Int)),xI ((r:Int)),xI ((q:Int)),xI ((r:Int))] O (eo O) ?_ ?_)
   ·refine⟨Dr O,Dr O,?_,Dr O,Dr O,?_,Dr O,Dr O,au⟩
    ·intro e1 w1 hb hp aX;refine ak.quo O O O (by omega) ?_;rw [hdiv];refine ak.n (d0 (by exact O))
    ·intro e1 w1 hb hp aX;refine ak.rem O O O (by omega) ?_;rw [GN];refine ak.n (d0 (by exact O))
   intro u w3 iA _;have aI:=aw.aq iA;refine fK O (aL O (az O ?_));have K9:=hI.upto a (by
    apply kV;intro cI;exact h2 (by rw [<-hr,<-hq];exact hI.known a (by omega))) (by omega) hk
   have vE:a≠met*n:=by omega
   have Vz:met*n<=F*n:=Nat.mul_le_mul_right n ux;have lg:at_<=a:=by
    apply kV;intro cI;exact h2 (by rw [<-hr,<-hq];exact hI.known a (by omega))
   obtain⟨f',rfl⟩:∃f',fuel=f'+1+ (a - at_):=⟨fuel - 1 - (a - at_),by omega⟩;have aX:¬0<=cell M (a%n) (a / n:Nat):=by rw [hr,hq];exact h2
   have ll:grow n F (nz F) (fun _=>true) (f'+1+ (a - at_)) at_ met M=(List.range' (q+1) (min met (F - 1) - q)).flatMap (body n F (nz F) (fun _=>true) f' a met M):=by
    rw [FB (a - at_) (f'+1) at_ (by omega) (fun b h1 h2=>hk b (by omega)),show at_+ (a - at_)=a by omega,KE vE aX,hq]
   rw [ll]at hB|-;refine Cd.loop (α:=Nat×ai×Nat×List cq) (fun z=> [(0,.slice A n c),(1,aj F),(2,aj met),(3,.slice z.2.1 (no+z.2.2.2.length) z.2.2.1),(9,aj n),(11,aj q),(12,aj r),(13,aj (z.1:Int))])
    (fun z w'=>St w0 w' (aV 37 z.2.1 (no+z.2.2.2.length) z.2.2.1 (outs++z.2.2.2.map (·.top))::(aK 24 2 A n c rs M++ (dv 24 2 z.2.2.2++ks)))/\q+1<=z.1/\z.1<=q+1+ (min met (F - 1) - q)/\(∀m∈z.2.2.2,m.ok)/\z.2.2.2.map (·.xss)=(List.range' (q+1) (z.1 - (q+1))).flatMap (body n F (nz F) (fun _=>true) f' a met M))
    (fun z=>q+2+ (min met (F - 1) - q) - z.1) (q+1,Ao,co,[]) ⟨rfl,rfl,rfl,rfl,rfl,rfl,rfl,rfl,au⟩ ⟨by simpa [dv]using aI,dE _,Nat.le_add_right _ _,(fun m hm=>by cases hm),by simp⟩ ?_
   rintro⟨g,Ag,cg,new⟩ e w4 ⟨aG,pN,xM,mO,oa⟩;dsimp only at aG pN xM mO oa|-;refine aY O (bX 66 O (fun h3=>?_) (fun h3=>?_))
   ·refine ar O (ao O (ar O (ao O (ar O (az O ?_)))));refine aM _ O (fun h4=>?_) (fun h4=>?_)
    ·have pQ:g<q+1+ (min met (F - 1) - q):=by omega
     have kJ:=Iy aG;have bH:=kJ.at_ (i:=(r:Int)) (by omega) (by omega);have ig:=H5 (body n F (nz F) (fun _=>true) f' a met M) pN pQ;have G4:=Oq (body n F (nz F) (fun _=>true) f' a met M) pN pQ;have jr:new.length=((List.range' (q+1) (g - (q+1))).flatMap (body n F (nz F) (fun _=>true) f' a met M)).length:=by rw [<-oa];simp
     refine aD O (ay kJ.top.2 O (bB kJ.top O (ao O (ay bH.2 O (bc bH O (az O ?_))))));refine aM _ O (fun h5=>?_) (fun h5=>?_)
     ·have gx:body n F (nz F) (fun _=>true) f' a met M g=[]:=by unfold body;rw [hr,if_pos (show 0<=cell M r g from h5)]
      refine aD O (aL O (aU O (tQ ?_)));refine⟨(g+1,Ag,cg,new),by show _ - (g+1)<_ - g;omega,(ac4 O),aG,by show q+1<=g+1;omega,by show g+1<=_;omega,mO,?_⟩;show new.map _=(List.range' (q+1) (g+1 - (q+1))).flatMap _;rw [ig,gx,iG,oa]
     ·refine aD O ?_;refine aH (Hx A n c rs M _ kJ (by omega) (fun i hi=>by have:=kJ.dz hI.dz (k:=(i:Int)) (by omega) (by omega);simp only [rg,gn]at this;omega)) O ?_;rintro _ w5 ⟨A5,c5,l8,rfl,GC,aA⟩;have aR:=aG.call aA;have sP:=aR.du hlen;have Dp:=sP.at_ (i:=(r:Int)) (by omega) (by omega);have zU:=sP.dz hI.dz (k:=(r:Int)) (by omega) (by omega);refine ao O (ay sP.top.2 O (bB sP.top O (ao O (ay Dp.2 O (qj (pre:=[]) r (f:=(q:Int)) aR (by omega) (by omega) O O (by omega) ?_)))));intro w6 aQ;have aQ:St w0 w6 (aK 24 2 A5 n c5 l8 (ik M r q g)++ (aV 37 Ag (no+new.length) cg (outs++new.map (·.top))::(aK 24 2 A n c rs M++ (dv 24 2 new++ks)))):=aQ;have vU:=hI.dz.ik GX.1 q (g:Int);have sQ:=aQ.du vU.1;have ns:=sQ.at_ (i:=(r:Int)) (by omega) (by omega);have pS:=vU.1;refine ao O (ay sQ.top.2 O (bB sQ.top O (ao O (ay ns.2 O (qj (pre:=[]) r (f:=(g:Int)) aQ (by omega) (by omega) O O (by omega) ?_)))));intro w7 a6;have a6:St w0 w7 (aK 24 2 A5 n c5 l8 (put M r q g)++ (aV 37 Ag (no+new.length) cg (outs++new.map (·.top))::(aK 24 2 A n c rs M++ (dv 24 2 new++ks)))):=a6;have pG:=K9.put vE aX (g:=g) (by omega) (by omega) (by omega) (by rw [hr];exact h5);rw [hr,hq]at pG;have gx:body n F (nz F) (fun _=>true) f' a met M g=if nz F (put M r q g) r q=true then grow n F (nz F) (fun _=>true) f' (a+1) (max met (g+1)) (put M r q g)else []:=by
       unfold body;rw [hr,hq,aC (show ¬0<=cell M r g from h5)]
      generalize zu:put M r q g=M' at*;have lp:=pG.dz.1;refine wJ 2 O ?_;refine pc (α:=Bool) (fun z=> [(0,.slice A n c),(1,aj F),(2,aj met),(3,.slice Ag (no+new.length) cg),(9,aj n),(11,aj q),(12,aj r),(13,aj g),(14,.slice A5 n c5),(15,.bool z)])
       (fun z w'=>St w0 w' (aK 24 2 A5 n c5 l8 M'++ (aV 37 Ag (no+new.length) cg (outs++new.map (·.top))::(aK 24 2 A n c rs M++ (dv 24 2 new++ks))))/\z=nz F M' r q) ?_ ?_
      ·refine b7 O ?_;refine Cd.loop (α:=Nat×Bool) (fun z=> [(0,.slice A n c),(1,aj F),(2,aj met),(3,.slice Ag (no+new.length) cg),(9,aj n),(11,aj q),(12,aj r),(13,aj g),(14,.slice A5 n c5),(15,.bool z.2),(16,aj (z.1:Int))])
        (fun z w'=>St w0 w' (aK 24 2 A5 n c5 l8 M'++ (aV 37 Ag (no+new.length) cg (outs++new.map (·.top))::(aK 24 2 A n c rs M++ (dv 24 2 new++ks))))/\z.1<=F/\z.2=decide (∀e',e'<z.1->nI M' (e':Nat)))
        (fun z=>F - z.1) (0,true) ⟨rfl,rfl,rfl,rfl,rfl,rfl,rfl,rfl,rfl,rfl,rfl,au⟩ ⟨a6,bA _,(fo (fun e' he=>absurd he (by omega))).symm⟩ ?_
       rintro⟨ee,px⟩ e w8 ⟨a7,xJ,qy⟩;dsimp only at a7 xJ qy|-;refine aY O (bX 100 O (fun h6=>?_) (fun h6=>?_))
       ·refine ar O (az O ?_);refine Cd.cond O (fun h7=>?_) (fun h7=>?_)
        ·refine aD O (aH (X2 A5 n c5 F l8 M' ee _ (a7.du lp) pG.dz pG.eS (by omega) (by omega)) O ?_);rintro _ w9 ⟨rfl,aA⟩;refine ao O (aL O (aU O (tQ ?_)));refine⟨(ee+1,decide (nI M' ee)),by show F - (ee+1)<F - ee;omega,(ac4 O),a7.aq aA.below,by show ee+1<=F;omega,?_⟩;rw [h7]at qy;have ct:=mT qy.symm;refine kc.2 ⟨fun hf e' nX=>?_,fun hf=>hf ee (by omega)⟩
         by_cases R2:e'=ee
         ·subst R2;exact hf
         ·exact ct e' (by omega)
        ·refine bo O (bp (tF O (tQ ?_)));refine⟨false,⟨O,O,O,O,O,O,O,O,O,by rw [<-h7];rfl,au⟩,a7,?_⟩;rw [h7]at qy;have GR:=of_decide_eq_false qy.symm;exact(dq (fun hf=>GR (fun e' nX=>hf e' (by omega)))).symm
       ·refine av O (az O ?_);refine Cd.dO O (bo O (bp (tF O (tQ ?_))));have:ee=F:=by omega
        subst this;exact⟨px,(ac4 O),a7,qy⟩
      ·rintro px e w8 ⟨a7,qy⟩;refine cH O (Cd.cond O (fun h7=>?_) (fun h7=>?_))
       ·rw [h7]at qy;rw [<-qy,aJ rfl]at gx;rw [gx]at G4 ig;have rN:max (met:Int) ((g:Int)+1)=((max met (g+1):Nat):Int):=by omega
        refine aD O (aL O ?_);refine Ex O O O ?_;rw [rN];refine ao O (aH (ih f' (by omega) (a+1) (max met (g+1)) M' pG (by omega) w0 w8 (aK 24 2 A n c rs M++ (dv 24 2 new++ks)) Ag (no+new.length) cg (outs++new.map (·.top)) A5 c5 l8 (a7.perm eU) (by omega)) O ?_);rintro _ w9 ⟨A9,c9,gP,rfl,xY,yb,aW⟩;refine ao O (aL O (aU O (tQ ?_)));refine⟨(g+1,A9,c9,new++gP),by show _ - (g+1)<_ - g;omega,⟨O,O,O,by show Value.slice _ _ _=Value.slice _ _ _;rw [e8,Nat.add_assoc],O,O,O,O,au⟩,?_,by show q+1<=g+1;omega,by show g+1<=_;omega,fun m hm=>?_,?_⟩
        ·show St w0 w9 (aV _ A9 (no+ (new++gP).length) c9 (outs++ (new++gP).map (·.top))::(aK _ _ A n c rs M++ (dv _ _ (new++gP)++ks)));rw [e8,lF,HQ,<-Nat.add_assoc,<-fC];exact(aW.sub (List.Sublist.cons_cons _ (dD _ _))).perm (List.Perm.cons _ (Y3 _ _ _ _))
        ·rcases gE.1 hm with hm | hm
         ·exact mO m hm
         ·exact xY m hm
        ·show(new++gP).map _=(List.range' (q+1) (g+1 - (q+1))).flatMap _;rw [ig,lF,oa,yb]
       ·rw [h7]at qy;rw [<-qy,aC (by simp)]at gx;refine aD O (aL O (aU O (tQ ?_)));refine⟨(g+1,Ag,cg,new),by show _ - (g+1)<_ - g;omega,(ac4 O),a7.aaE,by show q+1<=g+1;omega,by show g+1<=_;omega,mO,?_⟩;show new.map _=(List.range' (q+1) (g+1 - (q+1))).flatMap _;rw [ig,gx,iG,oa]
    ·refine bo O (bp (e6 O ?_));refine fA O ?_;have pP:g=q+1+ (min met (F - 1) - q):=by omega
     refine⟨Ag,cg,new,O,mO,?_,aG⟩;rw [oa];congr 2;omega
   ·refine av O (av O (av O (az O ?_)));refine Cd.dO O (bo O (bp (e6 O ?_)));refine fA O ?_;have pP:g=q+1+ (min met (F - 1) - q):=by omega
    refine⟨Ag,cg,new,O,mO,?_,aG⟩;rw [oa];congr 2;omega
 ·refine dK [.ex (aj ((a:Int))),.ex (aj ((met:Int))),.ex (aj ((n:Int))),.ex (aj (((met*n:Nat):Int))),.ex (.bool (false)),.ex (.bool (false)),.ex (undef),.ex (undef),.ex (undef),.ex (undef),.ex (undef),.ex (undef),.ex (undef),.ex (undef),.ex (undef),.ex (undef),.ex (undef),.ex (undef),.ex (.bool (false))] O (eo O) ?_ ?_
  ·exact⟨Dr O,Dr O,Dr O,fun _ _ _ _ _=>gU O O O (by rw [vt];omega) Az,fun _ _ _ _ _=>Dk O (by exact bw Value.bool (dq h1)),Dr O,Dr O,Dr O,Dr O,Dr O,Dr O,Dr O,Dr O,Dr O,Dr O,Dr O,Dr O,Dr O,Dr O,au⟩
  intro u w2 gj _;have aw:=aB.aq gj;have haE:a=met*n:=by omega
  have K9:=hI.upto a (by have:=hI.le;omega) (by omega) hk;obtain⟨f',rfl⟩:∃f',fuel=f'+1+ (a - at_):=⟨fuel - 1 - (a - at_),by have:=hI.le;have:met*n<=F*n:=Nat.mul_le_mul_right n ux;omega⟩;have ll:grow n F (nz F) (fun _=>true) (f'+1+ (a - at_)) at_ met M=if met=F/\(fun(_:ag)=>true) M=true then [M]else []:=by
   rw [FB (a - at_) (f'+1) at_ (by have:=hI.le;omega) (fun b h1 h2=>hk b (by omega)),show at_+ (a - at_)=met*n by have:=hI.le;omega];show(if _ then _ else _)=_;rw [aJ rfl]
  rw [ll]at hB|-;refine fw O (Cd.dO O ?_);refine bo O (bp (cn O ?_));refine gU O O O (by rw [vt];omega) ?_;refine az O ?_;refine IG O (by rw [vt];omega) ?_;refine cH O (aM _ O (fun h2=>?_) (fun h2=>?_))
  ·have xV:met=F:=by omega
   rw [aJ ⟨xV,rfl⟩]at hB|-;have jf:=Iy aw;refine aD O ?_;refine aH (Hx A n c rs M _ jf (by omega) (fun i hi=>by have:=jf.dz hI.dz (k:=(i:Int)) (by omega) (by omega);simp only [rg,gn]at this;omega)) O ?_;rintro _ w3 ⟨A3,c3,uU,rfl,oO,aA⟩;have aI:=(aw.call aA).perm (Y6 _ _ _ _);refine wN (by exact inferInstance) (by exact O) O O O (yK aI O O O ?_);intro A4 w4 aG;refine km 1 aG O (aG.eG 0 O) O O O (by simp at hB;omega) (by simp at hB;omega) O ?_;intro A5 c5 w5 aR;refine bu O (fA O ?_);refine⟨A5,c5,[⟨⟨A3,n,c3⟩,uU,M⟩],O,fun m hm=>?_,O,?_⟩
   ·simp at hm;subst hm;exact hlen
   ·have h6:=aR.tail;simpa [dv,cq.fc]using h6
  ·rw [aC (fun h=>h2 (by rw [h.1]))];refine cE O (fA O ?_);exact⟨Ao,co,[],rfl,(fun m hm=>by cases hm),rfl,by simpa [dv]using aw⟩
end
section
def po:Nat->Nat
 | 0=>1
 | 1=>0
 | u+2=> (u+1)*po u
def prod:List Nat->Nat
 | []=>1
 | x::l=>x*prod l
def uO(M:ag):Nat:=prod (M.map fun p=>po (il p))
theorem H2:∀(l:List Nat) (i k x:Nat) (h:i<l.length),l[i]=k*x->prod l=k*prod (l.set i x)
 | [],i,_,_,h,_=>by simp at h
 | y::l,0,k,x,_,e=>by
  simp at e;subst e;simp [prod,Nat.mul_assoc]
 | y::l,i+1,k,x,h,e=>by
  have:=H2 l i k x (by simpa using h) (by simpa using e);simp only [prod,List.set_cons_succ,this];rw [Nat.mul_left_comm]
theorem Oi:∀(l:List Nat),(∀x∈l,x=1)->prod l=1
 | [],_=>rfl
 | x::l,h=>by simp [prod,h x (by simp),Oi l (fun y hy=>h y (by simp [hy]))]
theorem OR{α:Type}(f:Nat->List α)(p:Nat->Bool)(X:Nat):∀(l:List Nat),(∀g∈l,(f g).length<=if p g=true then X else 0)->(l.flatMap f).length<=l.countP p*X
 | [],_=>by simp
 | g::l,h=>by
  have h1:=h g (by simp);have h2:=OR f p X l (fun x hx=>h x (by simp [hx]));rw [List.flatMap_cons,e8,List.countP_cons]
  by_cases hp:p g=true
  ·rw [aJ hp]at h1|-;rw [Nat.add_mul,Nat.one_mul];omega
  ·rw [aC hp]at h1|-;rw [Nat.add_zero];omega
theorem QU{p:ah}{q c:Nat}(hq:q<p.length)(hn:gi p q<0)(hc:q+1+c<=p.length):(List.range' (q+1) c).countP (fun g=>decide (gi p (g:Nat)<0))+1<=il p:=by
 have e1:(List.range' (q+1) c).map (fun g=>gi p (g:Nat))=(p.drop (q+1)).take c:=by
  apply gD
  ·simp;omega
  intro i h1 h2;have hi:i<c:=by simpa using h1
  rw [List.getElem_map,List.getElem_range',bN (by omega)];simp
 have e2:(List.range' (q+1) c).countP (fun g=>decide (gi p (g:Nat)<0))=((p.drop (q+1)).take c).countP (fun x=>decide (x<0)):=by
  rw [<-e1,List.countP_map];rfl
 have e3:((p.drop (q+1)).take c).countP (fun x=>decide (x<0))<=(p.drop (q+1)).countP (fun x=>decide (x<0)):=(List.take_sublist _ _).countP_le;have e4:il p=(p.take (q+1)).countP (fun x=>decide (x<0))+ (p.drop (q+1)).countP (fun x=>decide (x<0)):=by
  unfold il;rw [<-List.countP_append,List.take_append_drop]
 have e5:0< (p.take (q+1)).countP (fun x=>decide (x<0)):=List.countP_pos_iff.2 ⟨gi p q,by rw [sd hq];simp,by simpa using hn⟩;omega
section
variable {n F:Nat} {M:ag} {met at_:Nat}
theorem Y7(h:kb n F M){r q g:Nat}(hr:r<n)(hq:q<F)(hg:g<F)(VS:q≠g)(h1:cell M r q<0)(h2:cell M r g<0){u:Nat}(hu:il (gl M r)=u+2):uO (put M r q g)=prod ((M.map fun p=>po (il p)).set r (po u))/\uO M=(u+1)*prod ((M.map fun p=>po (il p)).set r (po u)):=by
 have hl:=h.1;have bH:=h.row hr;have Mu:il ((gl M r).set q (g:Int))+1=il (gl M r):=by
  have:=Eh (L:=gl M r) (x:=(q:Int)) (c:=(g:Int)) (by omega) (by omega) h1 (by omega)
  rwa [gn]at this
 have e2:gi ((gl M r).set q (g:Int)) g=gi (gl M r) g:=by
  have:=lL (S:=gl M r) (x:=(q:Int)) (y:=(g:Int)) (b:=(g:Int)) (by omega) (by omega) (by omega);rw [gn,aC (by omega)]at this;exact this
 have rR:il (((gl M r).set q (g:Int)).set g (q:Int))+1=il ((gl M r).set q (g:Int)):=by
  have:=Eh (L:=(gl M r).set q (g:Int)) (x:=(g:Int)) (c:=(q:Int)) (by omega) (by simp;omega) (by rw [e2];exact h2) (by omega)
  rwa [gn]at this
 have mR:il (((gl M r).set q (g:Int)).set g (q:Int))=u:=by omega
 have Ai:put M r q g=M.set r (((gl M r).set q (g:Int)).set g (q:Int)):=by
  unfold put ik;rw [xl (by omega),aJ rfl,iH]
 have ll:M[r]'(by omega)=gl M r:=(cM (by omega)).symm;unfold uO;rw [Ai,List.map_set,mR];refine⟨O,?_⟩;refine H2 _ r (u+1) (po u) (by simp;omega) ?_;rw [List.getElem_map,ll,hu];rfl
theorem Fy:∀(k at_ met:Nat) (M:ag),Inv n F M met at_->(grow n F (fun _ _ _=>true) (fun _=>true) k at_ met M).length<=uO M
 | 0,_,_,_,_=>by simp [grow]
 | k+1,at_,met,M,h=>by
  simp only [grow]
  split
  ·rename_i ha
   split
   ·rename_i hm;have uw:=hm.1;subst uw;have hI:Inv n met M met (met*n):=by rw [<-ha];exact h
    have:uO M=1:=Oi _ (fun x hx=>by
     obtain⟨p,hp,rfl⟩:=fx.1 hx;obtain⟨i,hi,rfl⟩:=gu.1 hp;have cS:i<n:=by rw [<-h.dz.1];exact hi
     have e:M[i]=gl M i:=(cM hi).symm;have:il M[i]=0:=by
      rw [e];refine List.countP_eq_zero.2 fun x hx=>?_
      obtain⟨j,hj,rfl⟩:=gu.1 hx;have:=hI.full (i:=i) (f:=(j:Int)) cS (by omega) (by rw [h.dz.row cS]at hj;omega);rw [<-bN hj];have h3:0<=gi (gl M i) j:=this;simp;omega
     rw [this];rfl)
    simp [this]
   ·simp
  ·rename_i ha
   split
   ·rename_i hk;exact Fy k _ _ _ (h.next ha hk)
   ·rename_i hk;have hp:=h.pos ha;have hF:=h.kz;have bH:=h.dz.row hp.1;have G0:at_ / n<F:=by omega
    have mr:=fun g hg=>wk h ha (g:=g) hg
    have Ai:=fun g (h1:at_ / n<g) (h2:g<=met) (h3:g<F) h4=>h.put ha hk (g:=g) h1 h2 h3 h4
    generalize hr:at_%n=r at*;generalize hq:at_ / n=q at*;have eF:gi (gl M (r:Nat)) (q:Nat)<0:=Int.not_le.1 hk;have uw:=h.wg;have hbeh:=QU (p:=gl M (r:Nat)) (q:=q) (c:=min met (F - 1) - q) (by omega) eF (by omega);obtain⟨u,hu⟩:∃u,il (gl M (r:Nat))=u+1:=⟨il (gl M (r:Nat)) - 1,by omega⟩;refine lI (OR _ (fun g=>decide (gi (gl M (r:Nat)) (g:Nat)<0)) (prod ((M.map fun p=>po (il p)).set r (po (u - 1)))) _ (fun g hg=>?_)) ?_
    ·have ll:=mr g hg
     by_cases jD:0<=cell M r (g:Nat)
     ·rw [aJ jD];exact bA _
     ·have LR:gi (gl M (r:Nat)) (g:Nat)<0:=Int.not_le.1 jD;rw [aC jD,aJ au,aJ (fo LR)];have lk:0< (List.range' (q+1) (min met (F - 1) - q)).countP (fun g=>decide (gi (gl M (r:Nat)) (g:Nat)<0)):=List.countP_pos_iff.2 ⟨g,hg,fo LR⟩;obtain⟨u',rfl⟩:∃u',u=u'+1:=⟨u - 1,by omega⟩;have VO:=Y7 h.dz hp.1 G0 ll.2.2 (by omega) (by omega) (by omega) hu;rw [show u'+1 - 1=u' by omega,<-VO.1];exact Fy k _ _ _ (Ai g ll.1 ll.2.1 ll.2.2 jD)
    ·by_cases hu0:u=0
     ·have:(List.range' (q+1) (min met (F - 1) - q)).countP (fun g=>decide (gi (gl M (r:Nat)) (g:Nat)<0))=0:=by omega
      rw [this,Nat.zero_mul];exact bA _
     ·obtain⟨u',rfl⟩:∃u',u=u'+1:=⟨u - 1,by omega⟩;rw [show u'+1 - 1=u' by omega];have UW:uO M=(u'+1)*prod ((M.map fun p=>po (il p)).set r (po u')):=by
       unfold uO;have hl:=h.dz.1;refine H2 _ r (u'+1) (po u') (by simp;omega) ?_;rw [List.getElem_map,show M[r]'(by omega)=gl M r from(cM (by omega)).symm,hu];rfl
      rw [UW];exact Nat.mul_le_mul_right _ (by omega)
def EO(n:Nat)(M:ag):Bool:=(List.range n).any fun i=> (List.range n).any fun k=>decide (i+2<=k/\0<=cell M i 0/\cell M i 0=cell M k 0)
def wt(n F:Nat):Nat->Nat->Nat->ag->Nat
 | 0,_,_,M=>if EO n M=true then 0 else uO M
 | j+1,at_,met,M=>
  if at_=met*n then 1
  else if 0<=cell M (at_%n) (at_ / n:Nat)then wt n F j (at_+1) met M
  else((List.range' (at_ / n+1) (min met (F - 1) - at_ / n)).map fun g=>if 0<=cell M (at_%n) (g:Nat)then 0 else wt n F j (at_+1) (max met (g+1)) (put M (at_%n) (at_ / n) g)).sum
theorem SC(h:Inv n F M met at_)(hb:EO n M=true)(k:Nat):pq n F k at_ met M=[]:=by
 unfold pq;rw [List.filter_eq_nil_iff];intro L hL hV;have h1:=sJ k _ _ _ h L hL;have hV:=mT hV;simp only [EO,List.any_eq_true,qp,jN]at hb;obtain⟨i,hi,k',dp,gy,h0,he⟩:=hb;have hF:0<F:=by have:=h.wg;have:=h.kz;omega
 have h2:=hV.cells h1.2 hi dp gy (f:=0) (by omega) (by omega);rw [h1.1 i 0 hi (by omega) (by omega) h0,h1.1 k' 0 dp (by omega) (by omega) (by rw [<-he];exact h0)]at h2;exact h2.2 he
theorem OS{α:Type}(f:Nat->List α)(c:Nat->Nat):∀(l:List Nat),(∀g∈l,(f g).length<=c g)->(l.flatMap f).length<=(l.map c).sum
 | [],_=>by simp
 | g::l,h=>by
  have h1:=h g (by simp);have h2:=OS f c l (fun x hx=>h x (by simp [hx]));rw [List.flatMap_cons,e8,List.map_cons,List.sum_cons];omega
theorem Fj:∀(j k at_ met:Nat) (M:ag),Inv n F M met at_->(pq n F k at_ met M).length<=wt n F j at_ met M
 | 0,k,at_,met,M,h=>by
  simp only [wt]
  split
  ·rename_i hb;rw [SC h hb];simp
  ·exact lI (ox _ _) (Fy k _ _ _ h)
 | j+1,0,at_,met,M,h=>by simp [pq,grow]
 | j+1,k+1,at_,met,M,h=>by
  simp only [pq,grow,wt]
  split
  ·refine lI (ox _ _) ?_
   split<;>simp
  ·rename_i ha
   split
   ·rename_i hk;exact Fj j k _ _ _ (h.next ha hk)
   ·rename_i hk;rw [Fe];refine OS _ _ _ (fun g hg=>?_);have hr:=wk h ha hg
    split
    ·simp
    ·rename_i jD;rw [aJ au];exact Fj j k _ _ _ (h.put ha hk hr.1 hr.2.1 hr.2.2 jD)
end
theorem aaO:((List.range' 1 4).all fun n=> (List.range' 2 11).all fun F=>Nat.ble (wt n F 4 0 1 (blank n F)) 4000000000000)=true:=by kernel_rfl
theorem zj{n F:Nat}(hn:1<=n/\n<=4)(hF:2<=F/\F<=12)(k:Nat):(pq n F k 0 1 (blank n F)).length<=4000000000000:=by
 have h:=aaO;rw [List.all_eq_true]at h;have h1:=h n (by rw [List.mem_range'_1];omega);rw [List.all_eq_true]at h1;have h2:=h1 F (by rw [List.mem_range'_1];omega);exact lI (Fj 4 k 0 1 _ (Inv.blank (by omega) (by omega))) (Nat.le_of_ble_eq_true h2)
end
section
open Go.RowKit
theorem X7(n F:Nat)(hn:1<=n/\n<=4)(hF:2<=F/\F<=12)(w:aa):
 aE prog 132 [aj n,aj F] w (fun v w'=>∃A' c',∃new:List cq,v= .slice A' new.length c'/\(∀m∈new,m.ok)/\new.map (·.xss)=pq n F (F*n+1) 0 1 (blank n F)/\
  St w w' (aV 37 A' new.length c' (new.map (·.top))::dv 24 2 new)):=by
 refine bm func132 O ntmps132 O (bU O) (aY O (jO (St.refl w) O ?_));intro A1 w1 aB;have aB:St w w1 [aV 24 A1 0 0 []]:=aB;refine az O (Cd.loop (α:=Nat×ai×Nat×List aO) (fun s=> [(0,aj n),(1,aj F),(5,.slice s.2.1 s.1 s.2.2.1),(6,aj (s.1:Int))]) (fun s w'=>St w w' (aV 24 s.2.1 s.1 s.2.2.1 s.2.2.2::bS 2 s.2.2.2 (List.replicate s.1 (List.replicate F (-1))))/\s.1<=n/\s.2.2.2.length=s.1) (fun s=>n - s.1) (0,A1,0,[]) (ac4 O) ⟨aB,bA _,O⟩ ?_);rintro⟨i,A5,c5,rs⟩ e w2 ⟨aw,hi,hlen⟩;dsimp only at aw hi hlen|-;refine b7 O (aM _ O (fun h1=>?_) (fun h1=>?_))
 ·refine aD O (jO aw O ?_);intro A7 w3 aI;have aI:St w w3 (ax 2 A7 0 0 (List.replicate 0 (-1))::aV 24 A5 i c5 rs::bS 2 rs (List.replicate i (List.replicate F (-1)))):=aI;refine az O (Cd.loop (α:=Nat×ai×Nat) (fun s=> [(0,aj n),(1,aj F),(5,.slice A5 i c5),(6,aj i),(7,.slice s.2.1 s.1 s.2.2),(8,aj (s.1:Int))]) (fun s w'=>St w w' (ax 2 s.2.1 s.1 s.2.2 (List.replicate s.1 (-1))::aV 24 A5 i c5 rs::bS 2 rs (List.replicate i (List.replicate F (-1))))/\s.1<=F) (fun s=>F - s.1) (0,A7,0) (ac4 O) ⟨aI,bA _⟩ ?_);rintro⟨f,A8,c8⟩ e w4 ⟨aG,hf⟩;dsimp only at aG hf|-;refine b7 O (aM _ O (fun h2=>?_) (fun h2=>?_))
  ·refine aD O (fk aG O O O ?_);intro A9 w5 aR;refine fR 1 aR O (aR.bz 0 O) O O O fun bI b8 w6 aQ=>ao O (aL O (aU O (tQ ?_)));refine⟨(f+1,bI,b8),by show F - (f+1)<F - f;omega,(ac4 O),?_,by show f+1<=F;omega⟩;have h7:=aQ.tail;show St w w6 (ax _ bI (f+1) b8 (List.replicate (f+1) (-1))::_);rw [List.replicate_succ'];exact h7
  refine bo O (bp (cn O ?_));have oL:f=F:=by omega
  subst oL;refine mW aG O O O fun A9 w5 aR=>km 2 aR O (aR.eG 0 O) O O O (by omega) (by omega) O fun bI b8 w6 aQ=>ao O (aL O (aU O (tQ ?_)));refine⟨(i+1,bI,b8,rs++ [⟨A8,f,c8⟩]),by show n - (i+1)<n - i;omega,(ac4 O),?_,by show i+1<=n;omega,by simp [hlen]⟩;have h7:St w w6 (ax 2 A8 f c8 (List.replicate f (-1))::aV 24 bI (i+1) b8 (rs++ [⟨A8,f,c8⟩])::bS 2 rs (List.replicate i (List.replicate f (-1)))):=aQ.tail;show St w w6 (aV _ bI (i+1) b8 (rs++ [_])::bS _ (rs++ [_]) (List.replicate (i+1) (List.replicate f (-1))));rw [List.replicate_succ',nD (by simp [hlen])];refine h7.perm ?_;refine(List.Perm.swap _ _ _).trans (List.Perm.cons _ ?_);exact fb (l₁:=[_])
 have cS:i=n:=by omega
 subst cS;have hI:=Inv.blank (n:=i) (F:=F) (by omega) (by omega);have xL:=S4 (n:=i) (F:=F) (by omega) ⟨by omega,by omega⟩ (F*i+1) hI (fun e he=>QY e he);have aI:St w w2 (aV 37 none 0 0 []::(aK 24 2 A5 i c5 rs (blank i F)++ [])):=by rw [iG];exact aw.nil _
 refine bo O (bp (cn O ?_));refine aH (X3 i F (by omega) ⟨by omega,by omega⟩ (F*i+1) 0 1 (blank i F) hI (by omega) w w2 [] none 0 0 [] A5 c5 rs aI (by rw [xL];have:=zj hn hF (F*i+1);omega)) O ?_;rintro _ w3 ⟨A',c',new,rfl,bq,hx,aG⟩;refine bu O (fA O ?_);rw [xL]at hx;rw [Nat.zero_add,List.nil_append]at aG;rw [Nat.zero_add];exact⟨A',c',new,O,bq,hx,by have:=aG.sub (List.Sublist.cons_cons _ (dD _ _));rwa [iG]at this⟩
def Small(rank flags:Int):Prop:=(1<=rank/\rank<=4)/\(2<=flags/\flags<=12)
instance (rank flags:Int):Decidable (Small rank flags):=by unfold Small;exact inferInstance
theorem BJ(A:ai)(n c:Nat)(xs:ah)(w:aa)(hR:cd w A n xs)(hn:n<=1000000000):aE prog 109 [.slice A n c] w (fun v w'=>∃A' c',v= .slice A' n c'/\St w w' [ax 2 A' n c' xs]):=by
 cases hA:A with
 | none=>
  subst hA;have lr:n=0:=by
   apply kV;intro h;obtain⟨p,hp,_⟩:=hR.2 0 (by omega);simp [aF]at hp
  subst lr;have hx:xs=[]:=qg hR.1;subst hx;refine bm func109 O ntmps109 O (bU O) (aY O (yL O O O (az O (Cd.fW O (cE O (fA O ?_))))));exact⟨none,0,O,(St.refl w).nil _⟩
 | some a=>
  subst hA;refine bm func109 O ntmps109 O (bU O) (aY O (yL O O O (az O (Cd.dO O (aD O (jO (St.refl w) O ?_))))));intro A1 w1 aB;have aB:St w w1 [ax 2 A1 0 0 []]:=aB;refine ao O (fR 0 aB O (aB.dY hR) O O O ?_);intro A2 c2 w2 aw;rw [Nat.zero_add]at aw|-;refine bu O (fA O ?_);exact⟨A2,c2,O,aw⟩
theorem Hs(rank flags:Int)(w:aa):aE prog 98 [aj rank,aj flags] w (fun v w'=>v= .bool (decide (Small rank flags))/\w'=w):=by
 refine bm func98 O ntmps98 O (bU O) (aY O (aH (qU _ _ _ _) O ?_));rintro _ w ⟨rfl,rfl⟩;refine ao O (bX 7 O (fun h=>?_) (fun h=>?_))
 ·refine ar O (ao O (ar O ?_));refine aH (qU _ _ _ _) O ?_;rintro _ w ⟨rfl,rfl⟩;refine bu O (bQ O ?_);exact⟨by simp [Small,h],O⟩
 refine av O (av O (bu O ?_));refine bQ O ?_;exact⟨by simp [Small,h],O⟩
theorem Iq(A:ai)(n c:Nat)(w:aa):aE prog 99 [.slice A n c] w (fun v w'=>v=aj n/\w'=w):=by
 refine bm func99 O ntmps99 O (bU O) ?_;refine aY O (aZ O O (bu O ?_));exact fP O ⟨O,O⟩
section
variable {P:Program} {N:Nat} {ops:Array Oper} {K:Env->aa->Prop} {rest:List Oper} {e:Env} {w:aa} {d:Nat} {ty:ad} {pos:String} {af:Array Edge}
theorem re{t:ad}{f0:Field}{z0 zf:ab}{b bf:Nat}[bK P t (.struct #[f0])][bF P t (.agg #[z0]) 1 b](hI:bF P f0.type zf 1 bf)(hb:Nat.blt d N=true)(hK:ak P N ops K rest (bt e d (.agg #[z0])) w):ak P N ops K (⟨some d,.build t #[],ty,pos,af,none⟩::rest) e w:=by
 obtain⟨inf,hi,eM,hs,ib⟩:=bF.get P t;obtain⟨WM,di,Wx,ky,Ux⟩:=hI.get P f0.type;have ez:(Value.agg #[z0]).cells= #[z0]:=O;refine .val (w':=w) ?_ hb hK;simp [execOp,Instr.build,run_underlying (bK.out (P:=P) (t:=t)),sizeOf,typeInfo,zeroValue,hi,eM,hs,di,ky,ez,Instr.fill]
end
theorem Xy(A:ai)(n c:Nat)(p:ah)(w:aa)(hP:cd w A n p)(hn:n<=1000000000)(hp:∀k:Nat,k<n->0<=gi p k/\gi p k<n):
 aE prog 278 [.slice A n c] w (fun v w'=>∃A',v= .slice A' n n/\St w w' [ax 2 A' n n (gJ n p)]):=by
 have qE:=hP.1;refine bm func278 O ntmps278 O (bU O) ?_;refine aY O (aZ O O ?_);refine pj n (St.refl w) O O (by omega) fun A1 w1 aB=>az O (Cd.loop (α:=Nat) (fun k=> [(0,.slice A n c),(3,.slice A1 n n),(4,aj k)]) (fun k w'=>St w w' [ax 2 A1 n n (nF (List.replicate n 0) (fun k=>gi p k) (fun k=> (k:Int)) k)]/\k<=n) (fun k=>n - k) 0 (ac4 O) ⟨aB,bA _⟩ ?_);rintro k e w2 ⟨aw,hk⟩;have Ll:=aw.dY hP;refine aY O (aZ O O (az O ?_));refine aM _ O (fun h1=>?_) (fun h1=>?_)
 ·have x7:=hp k (by omega);refine aD O (ay Ll.2 O (bc Ll O (ao O (ay (aw.bz 0 O).2 O (ak.gQ 0 aw O O O (by omega) ?_)))));intro w3 aI;refine ao O (aL O (aU O (tQ ?_)));exact⟨k+1,by show n - (k+1)<n - k;omega,(ac4 O),aI,by omega⟩
 refine bo O (bp (e6 O ?_));refine fA O ?_;have eF:k=n:=by omega
 subst eF;refine⟨A1,O,?_⟩;unfold gJ;rw [qE];exact aw
theorem XL(A:ai)(n c:Nat)(rs:List aO)(xss:ag)(N:Nat)(pt:Int)(w:aa)(hR:bl w A n rs xss)(hn:n<=9223372036854775807)(hs:Sys N xss)(hN:N<=1000000)(h0:0<=pt)(h1:pt<N)(hP:mX N (da N xss pt)):
 aE prog 249 [.agg #[.slice A n c],aj pt] w (fun v w'=>∃A',v= .slice A' N N/\St w w' [ax 2 A' N N (gJ N (da N xss pt))]):=by
 refine bm func249 O ntmps249 O (bU O) (aY O (fD (St.refl w) O O ?_));intro Ab w1 aB;refine ao O (aS (aB.rd 0 O) O (a8 (aB.rd 0 O) O (ao O (aH (Hw A n c rs xss N pt _ (aB.bE hR) hn hs (by omega) h0 h1) O ?_))));rintro _ w2 ⟨A2,c2,rfl,aA⟩;rw [hP.len]at aA|-;have aw:=aB.none.call aA;refine ao O (aH (Xy A2 N c2 _ _ (aw.bz 0 O) (by omega) (fun k hk=>hP.eS hk)) O ?_);rintro _ w3 ⟨A3,rfl,tf⟩;refine bu O (fA O ?_);exact⟨A3,O,(aw.none).call tf⟩
theorem Nn(A:ai)(n c:Nat)(rs:List aO)(xss:ag)(N:Nat)(Ap:ai)(cp:Nat)(p:ah)(w:aa)(hR:bl w A n rs xss)(hn:n<=1000000)(hs:Sys N xss)(hN:N<=1000000)(hP:cd w Ap N p)(hp:∀x:Int,0<=x->x<N->0<=gi p x/\gi p x<N):
 aE prog 177 [.agg #[.slice A n c],.slice Ap N cp] w (fun v w'=>∃A' c' rs',v= .agg #[.slice A' n c']/\rs'.length=n/\St w w' (aK 24 2 A' n c' rs' (xss.map (kR N p)))):=by
 have qE:=hP.1;have bP:=hR.len;refine bm func177 O ntmps177 O (lB O O) (aY O (fD (St.refl w) O O ?_));intro Ab w1 aB;refine eH aB O fun Ac w2 aw=>ao O (re (by exact inferInstance) O (eH aw O ?_));intro Ad w3 aI;refine bR 1 0 aI O O O O O O O ?_;intro w4 aG;have aG:St w w4 (Bx 37 1 Ad [.slice none 0 0]::Bx 37 1 Ac [.slice none 0 0]::Bx 37 1 Ab [.slice A n c]::[]):=aG;have vy:St w w4 (Bx 37 1 Ad [.slice none 0 0]::Bx 37 1 Ac [.slice none 0 0]::Bx 37 1 Ab [.slice A n c]::aV 24 none 0 0 []::[]):=(aG.nil 24).perm (fb (l₁:=[_]) (l₂:=[_,_,_]));refine az O (Cd.loop (α:=Nat×ai×Nat×List aO) (fun s=> [(1,.slice Ap N cp),(2,.pointer Ab),(4,.pointer Ac),(5,.pointer Ad),(6,aj (s.1:Int))]) (fun s w'=>St w w' (Bx 37 1 Ad [.slice s.2.1 s.1 s.2.2.1]::Bx 37 1 Ac [.slice none 0 0]::Bx 37 1 Ab [.slice A n c]::aV 24 s.2.1 s.1 s.2.2.1 s.2.2.2::bS 2 s.2.2.2 ((xss.map (kR N p)).take s.1))/\s.1<=n/\s.2.2.2.length=s.1) (fun s=>n - s.1) (0,none,0,[]) (ac4 O) ⟨vy,bA _,O⟩ ?_);rintro⟨i,A3,c3,cV⟩ e w5 ⟨aR,hi,hlen⟩;dsimp only at aR hi hlen|-;refine aY O (aS (aR.rd 2 O) O (a8 (aR.rd 2 O) O ?_));refine aZ O O (az O ?_);refine aM _ O (fun h1=>?_) (fun h1=>?_)
 ·have di:i<n:=by omega
  have hx:i<xss.length:=by omega
  refine aD O (aZ O O ?_);refine pj N aR O O (by omega) fun A7 w6 aQ=>az O ?_;have e2:gl xss i=xss[i]:=by simp [gl,df,dL hx]
  have oP:=hs (gl xss i) (mJ (by omega) (by omega));refine Cd.loop (α:=Nat) (fun k=> [(1,.slice Ap N cp),(2,.pointer Ab),(4,.pointer Ac),(5,.pointer Ad),(6,aj i),(7,.slice A7 N N),(8,aj k)]) (fun k w'=>St w w' (ax 2 A7 N N (nF (List.replicate N 0) (fun f=>gi p f) (fun f=>gi p (gi (gl xss i) f)) k)::Bx 37 1 Ad [.slice A3 i c3]::Bx 37 1 Ac [.slice none 0 0]::Bx 37 1 Ab [.slice A n c]::aV 24 A3 i c3 cV::bS 2 cV ((xss.map (kR N p)).take i))/\k<=N) (fun k=>N - k) 0 (ac4 O) ⟨aQ,bA _⟩ ?_;rintro k e w7 ⟨a6,hk⟩;have hM:=a6.bE hR;have CG:=a6.dY hP;refine aY O (aZ O O (az O ?_));refine aM _ O (fun h2=>?_) (fun h2=>?_)
  ·have bH:=hM.at_ (i:=(i:Int)) (by omega) h1;have gI:=hM.jh (k:=(i:Int)) (by omega) h1;have hv:=oP.2 (k:Int) (by omega) (by omega);have x7:=hp (k:Int) (by omega) (by omega);have hpv:=hp _ hv.1 hv.2;have mN:=oP.1;have hB:=a6.rd 3 O;have hO:=a6.bz 0 O;have cI:(gi p k).toNat<N:=by omega
   refine cH O ?_;refine jx [17] [yS (A7) (N) (N),yS (Ap) (N) (cp),yI ((k:Int)),yP (aF (Ap) ((k:Int)).toNat),yI (gi (p) ((k:Int))),yS (Ap) (N) (cp),yP (aF (Ab) 0),yS (A) (n) (c),yI ((i:Int)),yP (aF (A) ((i:Int)).toNat),yS ((rg (rs) ((i:Int))).a) ((rg (rs) ((i:Int))).n) ((rg (rs) ((i:Int))).c),yI ((k:Int)),yP (aF ((rg (rs) ((i:Int))).a) ((k:Int)).toNat),yI (gi (gl xss i) ((k:Int))),yP (aF (Ap) (gi (gl xss i) ((k:Int))).toNat),yI (gi (p) (gi (gl xss i) ((k:Int)))),yP (aF (A7) (gi (p) ((k:Int))).toNat),.pr (fun _ w'=>St w w' (ax 2 A7 N N (nF (List.replicate N 0) (fun f=>gi p f) (fun f=>gi p (gi (gl xss i) f)) (k+1))::Bx 37 1 Ad [.slice A3 i c3]::Bx 37 1 Ac [.slice none 0 0]::Bx 37 1 Ab [.slice A n c]::aV 24 A3 i c3 cV::bS 2 cV ((xss.map (kR N p)).take i)))] (by kernel_rfl) (by kernel_rfl) (ly (ly (ly (ly (ly (ly (ly (ly (ly (ly (ly (ly (ly (ly (ly (ly (ly (cL.2 ⟨Ye.cQ (fun v w w' h hb=>h.aq hb),(fun _ h=>by cases h)⟩)))))))))))))))))) ?_ ?_
   ·refine⟨cj O,cj O,cj O,cP fun _ _ hb _ _ _=>ay (CG.aq hb).2 O (bG O O),cP fun _ _ hb _ _ _=>bc (CG.aq hb) O (bG O O),cj O,cP fun _ _ hb _ _ _=>aS (hB.below hb) O (bG O O),cP fun _ _ hb _ _ _=>a8 (hB.below hb) O (bG O O),cj O,cP fun _ _ hb _ _ _=>ay (hM.top.aq hb).2 O (bG O O),cP fun _ _ hb _ _ _=>bB (hM.top.aq hb) O (bG O O),cj O,cP fun _ _ hb _ _ _=>ay (bH.aq hb).2 O (bG O O),cP fun _ _ hb _ _ _=>bc (bH.aq hb) O (bG O O),cP fun _ _ hb _ _ _=>ay (CG.aq hb).2 O (bG O O),cP fun _ _ hb _ _ _=>bc (CG.aq hb) O (bG O O),cP fun _ _ hb _ _ _=>ay (hO.aq hb).2 O (bG O O),?_,au⟩;refine jy fun e1 w1 hb hp aX hq=>?_
    exact ak.gQ 0 (a6.aq hb) O O O cI fun w9 aA=>ak.n (fv.st O aA)
   intro u w8 _ hu _ _;have a7:=hu 17 _ O (by kernel_rfl);refine fK O (aL O (aU O (tQ ?_)));exact⟨k+1,by show N - (k+1)<N - k;omega,(ac4 O),a7,by omega⟩
  have np:k=N:=by omega
  subst np;refine bo O (bp (cn O ?_));refine aS (a6.rd 1 O) O (a8 (a6.rd 1 O) O (ao O (mW a6 O O O ?_)));intro A9 w9 aW;refine km 5 aW O (aW.eG 0 O) O O O (by omega) (by omega) O ?_;intro bI b8 dt bV;have bV:=bV.tail;refine aS (bV.rd 1 O) O (kD 1 bV O O O O O ?_);intro dB dW;have dW:St w dB (ax 2 A7 k k (kR k p (gl xss i))::Bx 37 1 Ad [.slice bI (i+1) b8]::Bx 37 1 Ac [.slice none 0 0]::Bx 37 1 Ab [.slice A n c]::aV 24 bI (i+1) b8 (cV++ [⟨A7,k,k⟩])::bS 2 cV ((xss.map (kR k p)).take i)):=dW;refine ao O (aL O (aU O (tQ ?_)));refine⟨(i+1,bI,b8,cV++ [⟨A7,k,k⟩]),by show n - (i+1)<n - i;omega,(ac4 O),?_,di,by simp [hlen]⟩;show St w dB (_::_::_::aV _ bI (i+1) b8 (cV++ [_])::bS _ (cV++ [_]) ((xss.map (kR k p)).take (i+1)));rw [lG (by rw [fQ];exact hx),nD (by simp [hlen];omega),List.getElem_map,<-e2];refine dW.perm ?_;exact fb (l₁:=[_]) (l₂:=_::_::_::_::bS 2 cV ((xss.map (kR k p)).take i))
 refine bo O (bp (cn O ?_));have cS:i=n:=by omega
 subst cS;rw [jc (by rw [fQ];omega)]at aR;refine ac3 0 (aR.rd 0 O) O (bR 1 1 aR O O O O O O O ?_);intro w6 aQ;refine bu O (fZ O (aQ.rd 1 O) ?_);exact⟨A3,c3,cV,O,hlen,aQ.sub (((List.sublist_cons_self _ _).trans (List.sublist_cons_self _ _)).trans (List.sublist_cons_self _ _))⟩
def GM(N:Nat)(xss:ag):Prop:=∀p∈xss,Rg N p
theorem GM.sys{N:Nat}{xss:ag}(h:GM N xss):Sys N xss:=fun p hp=> ⟨(h p hp).1,fun x h0 h1=> (h p hp).gi h0 h1⟩
def IF(n N:Nat)(w:aa)(v:ab)(w':aa):Prop:=∃A c rs xss,v= .agg #[.slice A n c]/\rs.length=n/\xss.length=n/\GM N xss/\St w w' (aK 24 2 A n c rs xss)
structure Qn(w0:aa)(base:List Ck)(n:Nat)(S:Nat->Bool)(e:Env)(w:aa):Prop where
 f2:∃A,e 2= .pointer A/\base=[Bx 37 1 A [.slice none 0 0]]
 f3:e 3=aj n
 p0:S 0=true->e 9=aj n
 p2:S 2=true->e 11=aj n
 mem:∃(A1 A2:ai) (b1 b2:List Ck),(S 1=false->b1=[])/\(S 1=true->e 10= .slice A1 n n/\b1=[ax 2 A1 n n (List.replicate n 0)])/\(S 3=false->b2=[])/\(S 3=true->e 12= .slice A2 n n/\b2=[ax 2 A2 n n (List.replicate n 0)])/\(S 4=true->e 4= .slice A1 n n)/\(S 5=true->e 5= .slice A2 n n)/\St w0 w (b1++ (b2++base))
def ka(v:Nat->Int)(n f:Nat):ah:=(List.range n).map fun g=>if g<f then v g else 0
theorem Ed(v:Nat->Int)(n:Nat):ka v n 0=List.replicate n 0:=by
 apply gD (by simp [ka]);intro i h1 h2;simp [ka]
theorem Ee{v:Nat->Int}{n f:Nat}:(ka v n f).set f (v f)=ka v n (f+1):=by
 apply gD (by simp [ka]);intro i h1 h2;rw [List.getElem_set];simp only [ka,List.getElem_map,List.getElem_range]
 by_cases h:f=i
 ·subst h;rw [aJ rfl,aJ (Nat.lt_succ_self _)]
 rw [aC h]
 by_cases h2:i<f
 ·rw [aJ h2,aJ (by omega)]
 rw [aC h2,aC (by omega)]
theorem OT{v:Nat->Int}{n:Nat}(h:∀g,g<n->0<=v g/\v g<n):Rg n (ka v n n):=⟨by simp [ka],fun x hx=>by
 obtain⟨g,hg,rfl⟩:=fx.1 hx;have hg:=jN.1 hg;rw [aJ hg];exact h g hg⟩
def qR(g:Nat):Int:=if(g:Int)%2=0 then(g:Int)+1 else(g:Int) - 1
def qS(n g:Nat):Int:=if(g:Int)%2=0 then((g:Int)+ (n:Int) - 1)% (n:Int)else((g:Int)+1)% (n:Int)
def DX(p:Nat):ag:=[ka qR (2*p) (2*p),ka (qS (2*p)) (2*p) (2*p)]
theorem Zn{p:Nat}(hp:1<=p):GM (2*p) (DX p):=fun q hq=>by
 rcases ja.1 hq with rfl | hq
 ·refine OT fun g hg=>?_
  unfold qR
  split<;>omega
 rw [iv]at hq;subst hq;refine OT fun g hg=>?_
 unfold qS;have uw:=Int.emod_nonneg ((g:Int)+ ((2*p:Nat):Int) - 1) (b:=((2*p:Nat):Int)) (by omega);have De:=Int.emod_lt_of_pos ((g:Int)+ ((2*p:Nat):Int) - 1) (b:=((2*p:Nat):Int)) (by omega);have Mh:=Int.emod_nonneg ((g:Int)+1) (b:=((2*p:Nat):Int)) (by omega);have Mi:=Int.emod_lt_of_pos ((g:Int)+1) (b:=((2*p:Nat):Int)) (by omega)
 split
 ·exact⟨uw,De⟩
 exact⟨Mh,Mi⟩
theorem XM(p:Nat)(w:aa)(hp:1<=p/\p<=100000):aE prog 228 [aj p] w (fun v w'=>∃A c rs,v= .agg #[.slice A 2 c]/\rs.length=2/\St w w' (aK 24 2 A 2 c rs (DX p))):=by
 unfold DX;refine bm func228 O ntmps228 O (lB O O) (aY O (eH (St.refl w) O ?_));intro A2 w1 aB;refine ao O (gU O O O (by omega) (az O ?_));have hn:(2:Int)* (p:Int)=((2*p:Nat):Int):=by omega
 rw [hn];generalize hN:2*p=n;have zT:2<=n:=by omega
 refine qX (by kernel_rfl) (by kernel_rfl) (fun S e1 w1=>Qn w [Bx 37 1 A2 [.slice none 0 0]] n S e1 w1) (fun w4 hb=> ⟨⟨A2,O,O⟩,O,fun h=> (nomatch h),fun h=> (nomatch h),none,none,[],[],fun _=>O,fun h=> (nomatch h),fun _=>O,fun h=> (nomatch h),fun h=> (nomatch h),fun h=> (nomatch h),aB.aq hb⟩) ?_ ?_
 ·intro S q o e1 w4 hq bh hd cz hI;obtain⟨f2,f3,p0,p2,A,B,b1,b2,m1,uJ,m3,uK,m4,m5,hT⟩:=hI
  match q,hq,bh with
  | 0,hq,bh=>
   obtain rfl:=bC hq;refine ko O (by exact f3) O (ak.n ?_);exact⟨f2,f3,fun _=>O,p2,A,B,b1,b2,m1,uJ,m3,uK,m4,m5,hT⟩
  | 1,hq,bh=>
   obtain rfl:=bC hq;obtain rfl:=m1 bh;have n4:S 4=false:=by
    cases h:S 4 with
    | false=>rfl
    | true=>rw [<-bh];exact(bJ (cz 4 _ h rfl) 1 rfl).symm
   refine pj n hT (by exact p0 (bJ hd 0 O)) O (by omega) ?_;intro A' w5 dC;refine ak.n ?_;exact⟨f2,f3,p0,p2,A',B,[ax 2 A' n n (List.replicate n 0)],b2,fun h=> (nomatch (show true=false from h)),fun _=> ⟨O,O⟩,m3,uK,fun h=> (nomatch n4.symm.trans h),m5,dC⟩
  | 2,hq,bh=>
   obtain rfl:=bC hq;refine ko O (by exact f3) O (ak.n ?_);exact⟨f2,f3,p0,fun _=>O,A,B,b1,b2,m1,uJ,m3,uK,m4,m5,hT⟩
  | 3,hq,bh=>
   obtain rfl:=bC hq;obtain rfl:=m3 bh;have n5:S 5=false:=by
    cases h:S 5 with
    | false=>rfl
    | true=>rw [<-bh];exact(bJ (cz 5 _ h rfl) 3 rfl).symm
   refine pj n hT (by exact p2 (bJ hd 2 O)) O (by omega) ?_;intro A' w5 dC;refine ak.n ?_;exact⟨f2,f3,p0,p2,A,A',b1,[ax 2 A' n n (List.replicate n 0)],m1,uJ,fun h=> (nomatch (show true=false from h)),fun _=> ⟨O,O⟩,m4,fun h=> (nomatch n5.symm.trans h),dC.perm (eU (l₁:=b1)).symm⟩
  | 4,hq,bh=>
   obtain rfl:=bC hq;refine lJ O (by exact(uJ (bJ hd 1 O)).1) O (ak.n ?_);exact⟨f2,f3,p0,p2,A,B,b1,b2,m1,uJ,m3,uK,fun _=>O,m5,hT⟩
  | 5,hq,bh=>
   obtain rfl:=bC hq;refine lJ O (by exact(uK (bJ hd 3 O)).1) O (ak.n ?_);exact⟨f2,f3,p0,p2,A,B,b1,b2,m1,uJ,m3,uK,m4,fun _=>O,hT⟩
  | q+6,hq,_=>exact(nomatch hq)
 ·intro S e1 w4 ct hI;obtain⟨⟨A0,f2,Ur⟩,f3,p0,p2,A,B,b1,b2,m1,uJ,m3,uK,m4,m5,hT⟩:=hI;obtain⟨_,rfl⟩:=uJ (ct 1 (by decide));obtain⟨_,rfl⟩:=uK (ct 3 (by decide));rw [Ur]at hT;refine yT (F:=[(2,.pointer A0),(3,aj n),(4,.slice A n n),(5,.slice B n n)]) ⟨f2,f3,m4 (ct 4 (by decide)),m5 (ct 5 (by decide)),au⟩ ?_;have hT:St w w4 [ax 2 A n n (List.replicate n 0),ax 2 B n n (List.replicate n 0),Bx 37 1 A0 [.slice none 0 0]]:=hT;rw [<-Ed qR n]at hT;have hT:St w w4 [ax 2 A n n (ka qR n 0),ax 2 B n n (ka (qS n) n 0),Bx 37 1 A0 [.slice none 0 0]]:=by rw [Ed,Ed (qS n)];rw [Ed]at hT;exact hT
  refine fw O (Cd.loop (α:=Nat) (fun s=> [(2,.pointer A0),(3,aj n),(4,.slice A n n),(5,.slice B n n),(6,aj s)]) (fun s w'=>St w w' [ax 2 A n n (ka qR n s),ax 2 B n n (ka (qS n) n s),Bx 37 1 A0 [.slice none 0 0]]/\s<=n) (fun s=>n - s) 0 (ac4 O) ⟨hT,bA _⟩ ?_);rintro f e w5 ⟨dC,hf⟩;refine b7 O (aM _ O (fun h1=>?_) (fun h1=>?_))
  ·have CO:=dC.bz 0 O;have uw:=Int.emod_nonneg ((f:Int)+ (n:Int) - 1) (b:=(n:Int)) (by omega);have De:=Int.emod_lt_of_pos ((f:Int)+ (n:Int) - 1) (b:=(n:Int)) (by omega);have Mh:=Int.emod_nonneg ((f:Int)+1) (b:=(n:Int)) (by omega);have Mi:=Int.emod_lt_of_pos ((f:Int)+1) (b:=(n:Int)) (by omega);refine aD O (ak.rem O O O (by omega) (az O ?_));refine aM _ O (fun h2=>?_) (fun h2=>?_)
   ·have Hh:qR f=(f:Int)+1:=aJ h2;have Hi:qS n f=((f:Int)+ (n:Int) - 1)% (n:Int):=aJ h2;refine aD O (aL O ?_);refine ay CO.2 O (ak.gQ 0 dC O O O (by omega) ?_);intro w6 eu;have eu:St w w6 [ax 2 A n n ((ka qR n f).set f ((f:Int)+1)),ax 2 B n n (ka (qS n) n f),Bx 37 1 A0 [.slice none 0 0]]:=eu;rw [<-Hh,Ee]at eu;have zB:=eu.bz 1 O;refine ao O (aL O (je O O O (by omega) (ao O ?_)));refine ak.rem O O O (by omega) (ay zB.2 O (ak.gQ 1 eu O O O (by omega) ?_));intro w7 eB;have eB:St w w7 [ax 2 A n n (ka qR n (f+1)),ax 2 B n n ((ka (qS n) n f).set f (((f:Int)+ (n:Int) - 1)% (n:Int))),Bx 37 1 A0 [.slice none 0 0]]:=eB;rw [<-Hi,Ee]at eB;refine ao O (aL O (aU O (tQ ?_)));exact⟨f+1,by show n - (f+1)<n - f;omega,(ac4 O),eB,by omega⟩
   ·have Hh:qR f=(f:Int) - 1:=aC h2;have Hi:qS n f=((f:Int)+1)% (n:Int):=aC h2;refine aD O (je O O O (by omega) ?_);refine ay CO.2 O (ak.gQ 0 dC O O O (by omega) ?_);intro w6 eu;have eu:St w w6 [ax 2 A n n ((ka qR n f).set f ((f:Int) - 1)),ax 2 B n n (ka (qS n) n f),Bx 37 1 A0 [.slice none 0 0]]:=eu;rw [<-Hh,Ee]at eu;have zB:=eu.bz 1 O;refine ao O (aL O (ao O ?_));refine ak.rem O O O (by omega) (ay zB.2 O (ak.gQ 1 eu O O O (by omega) ?_));intro w7 eB;have eB:St w w7 [ax 2 A n n (ka qR n (f+1)),ax 2 B n n ((ka (qS n) n f).set f (((f:Int)+1)% (n:Int))),Bx 37 1 A0 [.slice none 0 0]]:=eB;rw [<-Hi,Ee]at eB;refine ao O (aL O (aU O (tQ ?_)));exact⟨f+1,by show n - (f+1)<n - f;omega,(ac4 O),eB,by omega⟩
  ·have jC:f=n:=by omega
   subst jC;refine bo O (bp (cn O ?_));refine P9 dC O O O O O O fun A9 w6 eu=>wN (by exact inferInstance) O O O O (bR 1 3 eu O O O O O O O ?_);intro w7 eB;refine bu O (fZ O (eB.rd 3 O) ?_);exact⟨A9,2,[⟨A,f,f⟩,⟨B,f,f⟩],O,O,eB.sub (List.Sublist.cons_cons _ (List.Sublist.cons_cons _ (List.Sublist.cons_cons _ (List.nil_sublist _))))⟩
theorem DH(p:Nat)(w:aa)(hp:1<=p/\p<=100000):aE prog 228 [aj p] w (IF 2 (2*p) w):=(XM p w hp).mono fun v w' h=>by
 obtain⟨A,c,rs,hv,bO,aA⟩:=h;exact⟨A,c,rs,DX p,hv,bO,O,Zn hp.1,aA⟩
def qe(l:ah):Prop:=l.Pairwise (· <= ·)
def kT(l:ah):ah:=l.mergeSort fun x y=>decide (x<=y)
theorem Is(l:ah):(kT l).Perm l:=List.mergeSort_perm _ _
theorem Z7(l:ah):qe (kT l):=by
 have:=List.pairwise_mergeSort (le:=fun x y:Int=>decide (x<=y)) (fun a b c h1 h2=>by simp at h1 h2|-;omega) (fun a b=>by simp;omega) l;exact this.imp fun h=>by simpa using h
theorem QR{l l':ah}(h:l.Perm l')(h1:qe l)(h2:qe l'):l=l':=
 List.Perm.eq_of_pairwise (le:=(· <= ·)) (fun a b _ _ h1 h2=>by omega) h1 h2 h
def IL(xss:ag):Prop:=bj xss/\2<=xss.length
instance (xss:ag):Decidable (IL xss):=by unfold IL;exact inferInstance
theorem oY(A:ai)(n c:Nat)(rs:List aO)(xss:ag)(w:aa)(hR:bl w A n rs xss)(hn:0<n):
 aE prog 136 [.agg #[.slice A n c]] w (fun v w'=>v=aj ((gl xss 0).length:Int)/\St w w' []):=by
 refine bm func136 O ntmps136 O (bU O) (aY O (fD (St.refl w) O O ?_));intro Ab w1 hS;have fT:=hS.bE hR;have e0:(gl xss 0).length=(rg rs 0).n:=hR.jh (by omega) (by omega);refine ao O (aS (hS.rd 0 O) O (a8 (hS.rd 0 O) O (ay fT.top.2 O (bB fT.top O ?_))));refine aZ O O (bu O ?_);refine fP O ?_;exact⟨by rw [e0],hS.none⟩
theorem cd.drop{w:aa}{A:ai}{n c l:Nat}{xs:ah}(h:cd w A n xs)(hl:l<=n)(hc:n<=c):cd w (cutAt A c l) (n - l) (xs.drop l):=by
 have:=h.cut (l:=l) (h:=n) (c:=c) hl (dE _) hc
 rwa [jc (by rw [List.length_drop,h.1];omega)]at this
theorem cd.take{w:aa}{A:ai}{n l:Nat}{xs:ah}(h:cd w A n xs)(hl:l<=n):cd w A l (xs.take l):=by
 have:=h.cut (l:=0) (h:=l) (c:=0) (bA _) hl;refine⟨by rw [ra,h.1];omega,fun k hk=>?_⟩;obtain⟨q,h1,h2⟩:=h.2 k (by omega);exact⟨q,h1,by rw [h2];simp [qh,hk,df]⟩
end
end Go.Proofs.YtagdamiiececaaaGreatDoor.Vc
