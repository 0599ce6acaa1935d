/-
 Lemmas. Conditions: as each states them.
-/
import Derived.Test.YtimbpgackifflaaGreatDoorZm
set_option maxHeartbeats 8000000
set_option maxRecDepth 100000
namespace Go.Proofs.YtimbpgackifflaaGreatDoor.Vc
open Go.RowKit Tryz
section
variable {P:Program}{N:Nat}{ops:Array Oper}{K:Env->aa->Prop}{rest:List Oper}{e:Env}{w:aa}{d:Nat}{ty:ad}{pos:String}{af:Array Edge}{x y:ae}{xt yt:ad}
theorem acY{m i:Nat}(hx:ev e x=aj m)(hy:ev e y=.int .u64 (i:Int))(hi:i<=5)(hm:m<=32)(hb:Nat.blt d N=true)(hK:ak P N ops K rest (bE e d (aj ((m / 2^i:Nat):Int))) w):
 ak P N ops K (⟨some d,.binOp .shr xt x y yt,ty,pos,af,none⟩::rest) e w:=by
 refine .val (v:=aj ((m / 2^i:Nat):Int)) ?_ hb hK;have e1:min i IntKind.i64.bits=i:=Nat.min_eq_left (je hi am);have e2:¬(i:Int)<0:=by omega
 have e3:(m:Int).fdiv (2^i)=((m / 2^i:Nat):Int):=by
  rw[Int.fdiv_eq_ediv_of_nonneg _ (by have:=Int.pow_nonneg (n:=2) (m:=i) (by decide);omega)];simp
 simp[execOp,hx,hy,eqGuard,binOp,Op.shift,e1,e2,e3]
theorem Tr{i:Nat}(hx:ev e x=aj 1)(hy:ev e y=.int .u64 (i:Int))(hi:i<=5)(hb:Nat.blt d N=true)(hK:ak P N ops K rest (bE e d (aj ((2^i:Nat):Int))) w):
 ak P N ops K (⟨some d,.binOp .shl xt x y yt,ty,pos,af,none⟩::rest) e w:=by
 refine .val (v:=aj ((2^i:Nat):Int)) ?_ hb hK;have e1:min i IntKind.i64.bits=i:=Nat.min_eq_left (je hi am);have e2:¬(i:Int)<0:=by omega
 have e3:IntKind.i64.wrap ((1:Int)*2^i)=((2^i:Nat):Int):=by
  rcases(by omega:i=0\/i=1\/i=2\/i=3\/i=4\/i=5)with rfl|rfl|rfl|rfl|rfl|rfl<;>decide
 rw[Int.one_mul]at e3;simp[execOp,hx,hy,eqGuard,binOp,Op.shift,e1,e2,e3]
theorem adz:∀m:Nat,m<33->bits .and .i64 (m:Int) 1=((m%2:Nat):Int):=by decide
theorem acB{m:Nat}(hx:ev e x=aj m)(hy:ev e y=aj 1)(hm:m<=32)(hb:Nat.blt d N=true)(hK:ak P N ops K rest (bE e d (aj ((m%2:Nat):Int))) w):
 ak P N ops K (⟨some d,.binOp .and xt x y yt,ty,pos,af,none⟩::rest) e w:=
 .val (by simp only[execOp,hx,hy,eqGuard,binOp,intBits_and,adz m (by omega)];simp) hb hK
end
structure FA(w:aa)(N n:Nat)(A3:ai)(os:List aE)(rss:List (List aE))(Xs:List (ag)):Prop where
 top:fu w A3 n os
 on:∀i,i<n->(os.getD i bI).n=N
 row:∀i,i<n->bH w (os.getD i bI).a N (rss.getD i []) (Xs.getD i [])
theorem FA.ao{w w':aa}{N n:Nat}{A3:ai}{os:List aE}{rss:List (List aE)}{Xs:List (ag)}(h:FA w N n A3 os rss Xs)(hb:Below w.heap.size w w'):FA w' N n A3 os rss Xs:=⟨h.top.ao hb,h.on,λi hi=>(h.row i hi).ao hb⟩
theorem nA.rd{w w':aa}{N n:Nat}{A3:ai}{c3:Nat}{os:List aE}{rss:List (List aE)}{Xs:List (ag)}(h:nA w w' N n A3 c3 os rss Xs):FA w' N n A3 os rss Xs:=⟨h.st.dm 0 rfl,h.on,λ_ hi=>h.aV hi⟩
open Classical in
theorem ZX{n:Nat}{fl:ag}{i a:Nat}{y:Int}:y∈De n fl i a↔∃y':Nat,y=y'/\y'<fl.length/\pj n fl i a y'/\y'≠a:=by
 unfold De;rw[de];constructor
 ·rintro⟨y',h,rfl⟩;rw[fM,fo,k5]at h;exact⟨y',O,h.1,h.2⟩
 rintro⟨y',rfl,h1,h2⟩;exact⟨y',by rw[fM,fo,k5];exact⟨h1,h2⟩,O⟩
def pq(mask:Nat)(i:Nat):Prop:=mask / 2^i%2=1
theorem amM(A3:ai)(c3:Nat)(os:List aE)(rss:List (List aE))(fl:ag)(n N mask:Nat)(w:aa)(fk:fl.length=N)(hR:FA w N n A3 os rss (jK n fl N 0 0))(hm:mask<=32)(hN:N<=400)(hn:n<=5):
 aF prog 189 [.slice A3 n c3,aj N,aj mask] w (λv w'=>∃A' c' L,v=.slice A' N c'/\lf N (jx n fl (pq mask)) N L/\St w w' [av 2 A' N c' L]):=by
 have Cx:BW N (jx n fl (pq mask)):=fk▸jx.HT n fl (pq mask);have hX:∀i x:Nat,i<n->x<N->gl ((jK n fl N 0 0).getD i []) x=De n fl i x:=λi x hi hx=>by
  rw[Q8 hi,Q9 (by omega)];unfold sC;rw[aG hx,ZQ]
 have cT:∀i,i<n->((jK n fl N 0 0).getD i []).length=N:=λi hi=>by rw[Q8 hi,za,fk]
 have gP:∀i x,(De n fl i x).length<=N:=λi x=>by rw[<-ZQ,<-fk];exact ZR ..
 generalize jK n fl N 0 0=Xs at*;refine bn func189 O ntmps189 O (bM O) (aY O (jy (St.refl w) O ?_));intro A7 w1 ax;refine ay O (Cd.loop (α:=Nat×ai×Nat) (λz=>[(0,.slice A3 n c3),(1,aj N),(2,aj mask),(7,.slice z.2.1 z.1 z.2.2),(8,aj (z.1:Int))]) (λz w'=>z.1<=N/\St w w' [av 2 z.2.1 z.1 z.2.2 (List.replicate z.1 (-1))]) (λz=>N-z.1) (0,A7,0) (auV O) ⟨bl _,ax⟩ ?_);clear ax;rintro⟨i,A7,c7⟩ e w2 ⟨hi,hS⟩;dsimp only at hi hS|-;refine bC O (aK _ O (λh1=>?_) (λh1=>?_))
 ·refine aC O (eh (i:=-1) hS O O O ?_);intro A9 w3 aM;refine eQ 1 aM O (aM.bF 0 O) O O O ?_;intro AZ cZ w4 aU;have aU:=aU.tail;refine aq O (aJ O (aN O (tQ ?_)));exact⟨(i+1,AZ,cZ),by show N-(i+1)<N-i;omega,(auV O),by show i+1<=N;omega,by show St w w4 [av _ AZ (i+1) cZ (List.replicate (i+1) (-1))];rw[List.replicate_succ'];exact aU⟩
 obtain rfl:i=N:=by omega
 refine ba O (bc (kX O ?_));refine Cd.loop (α:=Nat×ah) (λz=>[(0,.slice A3 n c3),(1,aj i),(2,aj mask),(7,.slice A7 i c7),(9,aj (z.1:Int))]) (λz w'=>z.1<=i/\lf i (jx n fl (pq mask)) z.1 z.2/\St w w' [av 2 A7 i c7 z.2]) (λz=>i-z.1) (0,List.replicate i (-1)) (auV O) ⟨bl _,lf.zero _ _,hS⟩ ?_;clear hS;rintro⟨f,L0⟩ e w3 ⟨hf,ll,hS⟩;dsimp only at hf ll hS|-;have pB:=ll.1;refine bC O (aK _ O (λh1=>?_) (λh1=>?_))
 ·have nb:f<i:=by omega
  have pE:=hS.bF 0 O;have OL:jx n fl (pq mask) f f:=.refl ac;refine aC O (aA pE.2 O (bg pE O (ay O ?_)));refine aK _ O (λh2=>?_) (λh2=>?_)
  ·refine aC O (aJ O (aN O (tQ ?_)));exact⟨(f+1,L0),by show i-(f+1)<i-f;omega,(auV O),by show f+1<=i;omega,ll.skip Cx nb (.inl h2),hS⟩
  have h0:gi L0 f<0:=by omega
  refine aC O (aA pE.2 O (ak.oL 0 hS O O O ac ?_));intro w4 aU;have aU:St w w4 [av 2 A7 i c7 (L0.set f (f:Int))]:=aU;refine aq O (eh aU O O O ?_);intro fC w5 aO;have fH:=nD.start (A:=zB n fl (pq mask)) pB nb h0 OL;refine ay O (Cd.loop (α:=Nat×ah×List Nat×ai×Nat) (λz=>[(0,.slice A3 n c3),(1,aj i),(2,aj mask),(7,.slice A7 i c7),(9,aj f),(10,.slice z.2.2.2.1 z.2.2.1.length z.2.2.2.2),(11,aj (z.1:Int))]) (λz w'=>nD i (jx n fl (pq mask)) (zB n fl (pq mask)) f L0 z.2.1 z.2.2.1 z.1/\St w w' [av 2 z.2.2.2.1 z.2.2.1.length z.2.2.2.2 (ky z.2.2.1),av 2 A7 i c7 z.2.1]) (λz=>i+1-z.1) (0,L0.set f (f:Int),[f],fC,1) (auV O) ⟨fH,aO⟩ ?_);clear aO aU hS pE fH;rintro⟨k,L,Q,Ao,co⟩ e w6 ⟨fH,hS⟩;dsimp only at fH hS|-;have mz:=fH.BB;have qG:=fH.K7;refine aY O (aR O O (ay O ?_));refine aK _ O (λh3=>?_) (λh3=>?_)
  ·have ja:k<Q.length:=by omega
   obtain⟨x,hx⟩:∃x,Q.getD k 0=x:=⟨_,rfl⟩;have Hu:x∈Q:=by rw[<-hx,b5,fL ja];exact dt _
   have qO:=fH.Br x Hu;refine cM O (Cd.loop (α:=Nat×ah×List Nat×ai×Nat) (λz=>[(0,.slice A3 n c3),(1,aj i),(2,aj mask),(7,.slice A7 i c7),(9,aj f),(10,.slice z.2.2.2.1 z.2.2.1.length z.2.2.2.2),(11,aj k),(12,aj (z.1:Int))]) (λz w'=>z.1<=n/\nD i (jx n fl (pq mask)) (zB n fl (pq mask)) f L0 z.2.1 z.2.2.1 k/\(k<z.2.2.1.length/\z.2.2.1.getD k 0=x)/\(∀q y:Nat,q<z.1->¬pq mask q->pj n fl q x y->y≠x->0<=gi z.2.1 y)/\St w w' [av 2 z.2.2.2.1 z.2.2.1.length z.2.2.2.2 (ky z.2.2.1),av 2 A7 i c7 z.2.1]) (λz=>n-z.1) (0,L,Q,Ao,co) (auV O) ⟨bl _,fH,⟨ja,hx⟩,λq y h=>absurd h (kY _),hS⟩ ?_);clear hS fH hx Hu ja mz qG h3;rintro⟨r,Li,Qi,Ao,co⟩ e w7 ⟨hr,fH,⟨ja,hx⟩,qw,hS⟩;dsimp only at hr fH ja hx qw hS|-;refine aY O (aR O O (ay O ?_));refine aK _ O (λh4=>?_) (λh4=>?_)
   ·have jb:r<n:=by omega
    refine aC O (lL O O (rS _ ac) (acY O O ac hm O (acB O O (je (Nat.div_le_self _ _) hm) O (ay O ?_))));refine aK _ O (λh5=>?_) (λh5=>?_)
    ·have hb:pq mask r:=by unfold pq;omega
     refine aC O (aJ O (aN O (tQ ?_)));exact⟨(r+1,Li,Qi,Ao,co),by show n-(r+1)<n-r;omega,(auV O),by show r+1<=n;omega,fH,⟨ja,hx⟩,λq y hq hs ha bN=>by
      by_cases eq:q=r
      ·subst eq;exact absurd hb hs
      exact qw q y (by have hq:q<r+1:=hq;omega) hs ha bN,hS⟩
    have hb:¬pq mask r:=by unfold pq;omega
    have Aj:=hR.ao hS.below;have PX:=hR.on r jb;have pO:=Aj.row r jb;have C6:=hX r x jb qO.1;have WE:=cT r jb;have akd:=gP r x;have gI:∀{w':aa}{ks:List Ck},St w w' ks->bu w' (rg (rss.getD r []) x).a (rg (rss.getD r []) x).n (De n fl r x):=λh=>by
     have h9:=((hR.ao h.below).row r jb).at_ (i:=(x:Int)) ac ac;rw[C6]at h9;exact h9
    obtain⟨oa,oc,ho⟩:∃oa oc,os.getD r bI=⟨oa,i,oc⟩:=⟨(os.getD r bI).a,(os.getD r bI).c,by rw[<-PX]⟩;have Kv:(os.getD r bI).v=.slice oa i oc:=by rw[ho];rfl
    rw[ho]at pO;generalize hXr:Xs.getD r []=Xr at*;generalize nk:rss.getD r []=rr at*;have fJ:=pO.at_ (i:=(x:Int)) ac ac;rw[C6]at fJ;have nO:=fJ.1;have qx:gi (ky Qi) k=(x:Int):=by rw[YO ja,hx]
    have mz:=fH.BB;have ym:=hS.bF 0 O;have GH:(ky Qi).length=Qi.length:=by simp[ky]
    refine cM O (ec [xS (A3) (n) (c3),xI ((r:Int)),xP (aH A3 ((r:Int)).toNat),xS (oa) (i) (oc),xS (Ao) (Qi.length) (co),xI ((k:Int)),xP (aH (Ao) ((k:Int)).toNat),xI ((x:Int)),xP (aH (oa) ((x:Int)).toNat),xS ((rg (rr) ((x:Int))).a) ((rg (rr) ((x:Int))).n) ((rg (rr) ((x:Int))).c),xS ((rg (rr) ((x:Int))).a) ((rg (rr) ((x:Int))).n) ((rg (rr) ((x:Int))).c)] O (eK O) ?_ ?_)
    ·exact⟨Dr O,Dr O,λ_ _ hb _ _=>aA (Aj.top.ao hb).2 O Az,λ_ _ hb _ _=>ak.ld (Aj.top.ao hb).2 (j:=r) O ac Kv O O Az,Dr O,Dr O,λ_ _ hb _ _=>aA (ym.ao hb).2 O Az,λ_ _ hb _ _=>ak.ld (ym.ao hb).2 (j:=k) O ac (by exact aQ (Value.int .i64) qx) O O Az,λ_ _ hb _ _=>aA (pO.top.ao hb).2 O Az,λ_ _ hb _ _=>bw (pO.top.ao hb) O Az,Dr O,au⟩
    intro u w8 hb8 _;have bB:=hS.ao hb8;clear pO Aj ym hS;obtain⟨sx,Hr⟩:∃sx,rg rr x=sx:=⟨_,rfl⟩;rw[Hr]at nO|-;simp only[Hr]at gI;obtain⟨ys,yV⟩:∃ys,De n fl r x=ys:=⟨_,rfl⟩;simp only[yV]at gI;rw[yV]at nO akd;have yo:∀y∈ys,∃y':Nat,y=y'/\y'<i/\pj n fl r x y'/\y'≠x:=λy hy=>by
     rw[<-yV]at hy;rw[<-fk];exact ZX.1 hy
    refine fG O (Cd.loop (α:=Nat×ah×List Nat×ai×Nat) (λz=>[(0,.slice A3 n c3),(1,aj i),(2,aj mask),(7,.slice A7 i c7),(9,aj f),(10,.slice z.2.2.2.1 z.2.2.1.length z.2.2.2.2),(11,aj k),(12,aj r),(13,.slice sx.a sx.n sx.c),(14,aj (z.1:Int))]) (λz w'=>z.1<=sx.n/\nD i (jx n fl (pq mask)) (zB n fl (pq mask)) f L0 z.2.1 z.2.2.1 k/\(k<z.2.2.1.length/\z.2.2.1.getD k 0=x)/\(∀p:Nat,p<z.1->0<=gi z.2.1 (gi ys p))/\(∀y:Nat,0<=gi Li y->0<=gi z.2.1 y)/\St w w' [av 2 z.2.2.2.1 z.2.2.1.length z.2.2.2.2 (ky z.2.2.1),av 2 A7 i c7 z.2.1]) (λz=>sx.n-z.1) (0,Li,Qi,Ao,co) (auV O) ⟨bl _,fH,⟨ja,hx⟩,λp h=>absurd h (kY _),λy h=>h,bB⟩ ?_);clear bB fH ja hx qx GH mz;rintro⟨q,L,Q,Ao,co⟩ e gD ⟨hq,fH,⟨ja,hx⟩,yy,vy,hS⟩;dsimp only at hq fH ja hx yy vy hS|-;have mz:=fH.BB;have aik:=fH.len;refine aY O (aR O O (ay O ?_));refine aK _ O (λh6=>?_) (λh6=>?_)
    ·have P9:q<ys.length:=by omega
     have xd:=gI hS;obtain⟨y,hy,yT,Hv,Qw⟩:=yo _ (gi_in P9);have pE:=hS.bF 1 O;refine aC O (aA xd.2 O (bg xd O ?_));rw[hy];refine aA pE.2 O (bg pE O (ay O ?_));refine aK _ O (λh7=>?_) (λh7=>?_)
     ·have pO:=fH.meet yT h7 (Cx.Dv _ _ _ qO.2.2 (zB.link ⟨r,jb,hb,Hv,Qw⟩));refine aC O (aA xd.2 O (bg xd O ?_));rw[hy];refine aq O (aA pE.2 O (ak.oL 1 hS O O O ac ?_));intro jm il;have xd:=gI il;refine aq O (aA xd.2 O (bg xd O ?_));rw[hy];refine eh il O O O λA9 qZ lR=>eQ 1 lR O (lR.bF 0 O) O O O ?_;intro AZ cZ Dw ke;have ke:=ke.tail;have CQ:(Q++[y]).length=Q.length+1:=by simp
      refine aq O (aJ O (aN O (tQ ?_)));refine⟨(q+1,L.set y (f:Int),Q++[y],AZ,cZ),by show sx.n-(q+1)<sx.n-q;omega,⟨O,O,O,O,O,aQ (λm=>Value.slice AZ m cZ) CQ.symm,O,O,O,O,au⟩,by show q+1<=sx.n;omega,pO,⟨by show k<(Q++[y]).length;omega,by show(Q++[y]).getD k 0=x;rw[Vy ja,hx]⟩,λp hp=>?_,λz hz=>F7 (vy z hz),?_⟩
      ·by_cases ep:p=q
       ·subst ep;rw[hy];have h9:=VC (L:=L) (y:=y) (f:=f) ac;show 0<=gi (L.set y (f:Int)) y;omega
       have hp:p<q+1:=hp;obtain⟨y9,Qv,_,_⟩:=yo _ (gi_in (show p<ys.length by omega));have h9:=yy p ac;rw[Qv]at h9|-;exact F7 h9
      show St w Dw [av _ AZ (Q++[y]).length cZ (ky (Q++[y])),_];rw[CQ,show ky (Q++[y])=ky Q++[(y:Int)] by simp[ky]];exact ke
     refine aC O (aJ O (aN O (tQ ?_)));refine⟨(q+1,L,Q,Ao,co),by show sx.n-(q+1)<sx.n-q;omega,(auV O),by show q+1<=sx.n;omega,fH,⟨ja,hx⟩,λp hp=>?_,vy,hS⟩
     by_cases ep:p=q
     ·subst ep;rw[hy];show 0<=gi L y;omega
     have hp:p<q+1:=hp;exact yy p ac
    have eA:∀y:Nat,(y:Int)∈ys->0<=gi L y:=λy hy=>by
     obtain⟨p,hp,e9⟩:=fS.1 hy;rw[<-b7 hp]at e9;have:=yy p ac
     rwa[e9]at this
    refine ba O (bc (bY O (aJ O (aN O (tQ ?_)))));refine⟨(r+1,L,Q,Ao,co),by show n-(r+1)<n-r;omega,(auV O),by show r+1<=n;omega,fH,⟨ja,hx⟩,λq' y KA hs ha bN=>?_,hS⟩
    by_cases eq:q'=r
    ·subst eq;exact eA y (by rw[<-yV];exact ZX.2 ⟨y,O,ha.2.1,ha,bN⟩)
    exact vy y (qw q' y (by have KA:q'<r+1:=KA;omega) hs ha bN)
   have X7:r=n:=by omega
   have mz:=fH.BB;have tk:=fH.next ja λy hy=>by
    rw[hx]at hy;obtain⟨q,hq,hs,ha,bN⟩:=hy;exact qw q y ac hs ha bN
   refine ba O (bc (bY O (aJ O (aN O (tQ ?_)))));exact⟨(k+1,Li,Qi,Ao,co),by show i+1-(k+1)<i+1-k;have:=fH.BB;omega,(auV O),tk,hS⟩
  have ja:k=Q.length:=by omega
  subst ja;have ow:=fH.end_ Cx ll nb h0 (λS ax az=>jx.ind S ax az) (λx y h=>h.link);refine ba O (bc (bY O (aJ O (aN O (tQ ?_)))));exact⟨(f+1,L),by show i-(f+1)<i-f;omega,(auV O),by show f+1<=i;omega,ow,hS.tail⟩
 have Eo:f=i:=by omega
 rw[Eo]at ll;refine ba O (bc (ew O ?_));exact dV O ⟨A7,c7,L0,O,ll,hS⟩
theorem ZZ(p q:Prop)[Decidable p][Decidable q]:(!(decide p==decide q))=decide (¬(p↔q)):=by
 by_cases hp:p<;>by_cases hq:q<;>simp[hp,hq]
instance (R:ah)(i e:Int):Decidable (S8 R i e):=by unfold S8;infer_instance
instance (n:Int)(R:ah)(i e:Int):Decidable (S2 n R i e):=by unfold S2;infer_instance
end Go.Proofs.YtimbpgackifflaaGreatDoor.Vc
namespace Go.Proofs.YtimbpgackifflaaGreatDoor.Vc.TS
open Go.RowKit Tryz
end Go.Proofs.YtimbpgackifflaaGreatDoor.Vc.TS
namespace Go.Proofs.YtimbpgackifflaaGreatDoor.Vc
open Go.RowKit Tryz
section
variable (N1 N2:Nat) (B1 B2:ag) (L:List (Int×Int))
end
section
variable {P:Program}{N:Nat}{ops:Array Oper}{K:Env->aa->Prop}{rest:List Oper}{e:Env}{w0 w w':aa}{ks:List Ck}{d:Nat}{ty:ad}{pos:String}{af:Array Edge}
end
end Go.Proofs.YtimbpgackifflaaGreatDoor.Vc
namespace Go.Proofs.YtimbpgackifflaaGreatDoor.Vc
open Tryz
section
variable (m1 m2:Nat) (xy xz:Int->Int) (kind:Int)
end
section
variable {m1 m2:Nat}{xy xz:Int->Int}{kind:Int}{i a b:Nat}
end
end Go.Proofs.YtimbpgackifflaaGreatDoor.Vc
namespace Go.Proofs.YtimbpgackifflaaGreatDoor.Vc
open Go.RowKit Tryz
section
variable {n:Nat}{fl:ag}{i a b:Nat}
end
end Go.Proofs.YtimbpgackifflaaGreatDoor.Vc
namespace Go.Proofs.YtimbpgackifflaaGreatDoor.Vc
open Tryz
section
variable {n:Nat}{R:ah}{B:ag}
end
theorem apV(R:ah):(b6 R.length).map (gi R)=R:=by
 apply iC (by simp[b6]);intro i h1 h2;simp only[b6,List.getElem_map,List.getElem_range];exact b7 h2
theorem apQ(R:ah)(i:Int):(rkE R i).length=(R.filter λx=>decide (x=i)).length:=by
 have h:=aQ (λl=>(l.filter λx=>decide (x=i)).length) (apV R);simp only[List.filter_map,jd]at h;exact h
section
variable {m1 m2:Nat}{xy xz:Int->Int}{kind:Int}
end
def oT(n:Nat)(R:ah):ah:=(List.range n).map λi:Nat=>((rkE R i).length:Int)
theorem Nc(n:Nat)(R:ah):(oT n R).length=n:=by simp[oT]
end Go.Proofs.YtimbpgackifflaaGreatDoor.Vc
namespace Go.Proofs.YtimbpgackifflaaGreatDoor.Vc
open Go.RowKit Tryz
variable{ks:List Ck}{N:Nat}{k':Ck}{R:ah}
theorem aqw{i:Nat}{k:Ck}(h:ks[i]?=some k):ks.set i k=ks:=by
 apply List.ext_getElem?;intro j;rw[lI]
 split
 ·rename_i e;subst e;have hl:=(iD.1 h).1;rw[aG hl,h]
 rfl
theorem aqv{i:Nat}{k:Ck}(h:ks[i]?=some k):(ks.set i k')[i]?=some k':=by
 have hl:=(iD.1 h).1;rw[lI,aG rfl,aG hl]
def Jk(w0:aa)(As:ai)(k:Ck):Prop:=∃(Ac:ai)(nc cc:Nat)(a h:Int)(bs:ah),k=Bx 55 3 As [.slice Ac nc cc,aj a,.int .u64 h]/\(0<=a/\a<=nc)/\nc<=1000000/\vf w0 Ac nc bs
theorem Np{w0 w:aa}(i:Nat){As:ai}{k:Ck}(n:Int)(hS:St w0 w ks)(hk:ks[i]?=some k)(hK:Jk w0 As k):
 aF prog 6 [.pointer As,aj n] w (λv w'=>∃(r:Int)(k':Ck),v=aj r/\(0<=r/\(1<=n->r<n)/\(n<1->r=0))/\Jk w0 As k'/\St w0 w' (ks.set i k')):=by
 have OJ:=hK;obtain⟨Ac,nc,cc,a,h,bs,rfl,ha,ni,hY⟩:=hK;refine bn func6 O ntmps6 O (bM O) (bC O ?_);refine aK _ O (λh1=>?_) (λh1=>?_)
 ·refine dE O (gj O ?_);exact⟨0,_,O,⟨Int.le_refl _,λh=>by omega,λ_=>O⟩,OJ,by rw[aqw hk];exact hS⟩
 refine aC O (dX (hS.rd i hk) (Nat.succ_pos 2) O O (aS (hS.rd i hk) O (fX (k:=.u64) (hS.rd i hk) O O O O O ?_)));refine MA O O O λr1 l6=>?_
 refine Iv O O O λr2 vA=>?_
 refine dX (hS.rd i hk) (Nat.succ_pos 2) O O (aS (hS.rd i hk) O (oR i hS hk O O O O ?_));intro w1 ax;have jr:=aqv (k':=(⟨As,3,3,55,[.slice Ac nc cc,aj a,.int .u64 r2]⟩:Ck)) hk;have ax:St w0 w1 (ks.set i (Bx 55 3 As [.slice Ac nc cc,aj a,.int .u64 r2])):=ax;refine aq O (dX (ax.rd i jr) (Nat.succ_pos 2) O O (aS (ax.rd i jr) O (fX (k:=.u64) (ax.rd i jr) O O O O O ?_)));refine acZ O O O λr3=>?_
 refine acA O O O λr4 hr4=>?_
 refine lL O O (IntWalk.i64_in _ ac) (ay O ?_);refine ec [xP (As),xP (As),xP (aH (As) 1),xI (a),xP (As),xP (As),xP (aH (As) 0),xS (Ac) (nc) (cc),xI (((nc:Nat):Int)),xB (decide ((a)<(((nc:Nat):Int))))] O (eK O) ?_ ?_
 ·exact⟨Dr O,λ_ _ hb _ _=>dX ((ax.rd i jr).below hb) (Nat.succ_pos _) O O Az,λ_ _ hb _ _=>aS ((ax.rd i jr).below hb) O Az,λ_ _ hb _ _=>fX ((ax.rd i jr).below hb) O O O O O Az,Dr O,λ_ _ hb _ _=>dX ((ax.rd i jr).below hb) (Nat.succ_pos _) O O Az,λ_ _ hb _ _=>aS ((ax.rd i jr).below hb) O Az,λ_ _ hb _ _=>a6 ((ax.rd i jr).below hb) O Az,λ_ _ _ _ _=>aR O O Az,Dr O,au⟩
 intro u w2 jR _;have az:=ax.ao jR;have Ay:vf w2 Ac nc bs:=hY.below az.below;refine fG O (aK _ O (λh2=>?_) (λh2=>?_))
 ·have ahO:=hY.at_ ha.1 h2;refine cM O (ec [xI (r4),xP (As),xP (As),xP (aH (As) 0),xS (Ac) (nc) (cc),xP (As),xP (As),xP (aH (As) 1),xI (a),xP (aH Ac a.toNat),.ex (.int .u8 (bs.getD a.toNat 0)),xI (bs.getD a.toNat 0),xI ((r4)+(bs.getD a.toNat 0)),xI ((r4)+(bs.getD a.toNat 0))] O (eK O) ?_ ?_)
  ·refine⟨λ_ _ _ _ aW=>uZ O (by exact aW 13 _ O an) O Az,Dr O,λ_ _ hb _ _=>dX ((az.rd i jr).below hb) (Nat.succ_pos _) O O Az,λ_ _ hb _ _=>aS ((az.rd i jr).below hb) O Az,λ_ _ hb _ _=>a6 ((az.rd i jr).below hb) O Az,Dr O,λ_ _ hb _ _=>dX ((az.rd i jr).below hb) (Nat.succ_pos _) O O Az,λ_ _ hb _ _=>aS ((az.rd i jr).below hb) O Az,λ_ _ hb _ _=>fX ((az.rd i jr).below hb) O O O O O Az,?_,?_,?_,λ_ _ _ _ _=>aJ O Az,Dr O,au⟩
   ·intro e1 w1 hb hp aW;refine aA (Ay.below hb).2.2 O Az
   ·intro e1 w1 hb hp aW;refine Tn (Ay.below hb) O ac O O Az
   intro e1 w1 hb hp aW;refine lL O O (IntWalk.i64_in _ ac) Az
  intro u3 w3 ji _;have aM:=az.ao ji;refine gq O (dX (aM.rd i jr) (Nat.succ_pos 2) O O (aS (aM.rd i jr) O (fX (aM.rd i jr) O O O O O (aJ O (dX (aM.rd i jr) (Nat.succ_pos 2) O O (aS (aM.rd i jr) O (oR i aM jr O O O O ?_)))))));intro w4 aU;rw[List.set_set]at aU;refine aq O (ak.rem O O O ac (bR O (gj O ?_)));exact⟨(r4+bs.getD a.toNat 0)%n,_,O,⟨Int.emod_nonneg _ ac,λh=>Int.emod_lt_of_pos _ ac,λh=>by omega⟩,⟨Ac,nc,cc,a+1,r2,bs,O,ac,ni,hY⟩,aU⟩
 refine aC O (ak.rem O O O ac (bR O (gj O ?_)));exact⟨r4%n,_,O,⟨Int.emod_nonneg _ ac,λh=>Int.emod_lt_of_pos _ ac,λh=>by omega⟩,⟨Ac,nc,cc,a,r2,bs,O,ha,ni,hY⟩,az⟩
theorem apX(Ac:ai)(nc cc:Nat)(bs:ah)(aqs:Int)(w:aa)(hY:vf w Ac nc bs)(ni:nc<=1000000):
 aF prog 5 [.slice Ac nc cc,.int .u64 aqs] w (λv w'=>∃(As:ai)(k:Ck),v=.pointer As/\Jk w As k/\St w w' [k]):=by
 refine bn func5 O ntmps5 O (bM O) (aY O ?_);refine MA O O O λr0 _=>?_
 refine aq O (aR O O ?_);refine lL O O (rS _ ac) (Iv O O O λr1 _=>?_)
 refine acH aL aL aL O O O O O O O O (acI (St.refl w) O O ?_);intro As w2 hS;refine ay O (Cd.loop (α:=Nat×Int) (λs=>[(0,.slice Ac nc cc),(5,.pointer As),(6,aj (s.1:Int))]) (λs w'=>St w w' [Bx 55 3 As [.slice Ac nc cc,aj 0,.int .u64 s.2]]/\s.1<=nc) (λs=>nc-s.1) (0,_) (auV O) ⟨hS,bl _⟩ ?_);rintro⟨i,h⟩ e w3 ⟨ax,hi⟩;dsimp only at ax hi|-;refine aY O (aR O O (ay O ?_));refine aK _ O (λh1=>?_) (λh1=>?_)
 ·skip
  have ahO:=hY.at_ (j:=(i:Int)) ac ac;have Gy:=hY.below ax.below;refine cM O ?_;refine iu [15] [yP (As),yP (As),yP (As),yP (aH (As) 2),.ex (.int .u64 h),.pr (λv _=>∃r:Int,v=.int .u64 r),yS (Ac) (nc) (cc),yI ((i:Int)),yP (aH Ac (i:Int).toNat),.ex (.int .u8 (bs.getD (i:Int).toNat 0)),.ex (.int .u64 (bs.getD (i:Int).toNat 0)),.pr (λv _=>∃r:Int,v=.int .u64 r),.pr (λv _=>∃r:Int,v=.int .u64 r),yP (As),yP (aH (As) 2),.pr (λ_ w'=>∃r:Int,St w w' [Bx 55 3 As [.slice Ac nc cc,aj 0,.int .u64 r]])] (ly (ly (ly (ly (ly (bV.2 ⟨Ye.bW (λ_ _ _ h _=>h),(ly (ly (ly (ly (ly (bV.2 ⟨Ye.bW (λ_ _ _ h _=>h),(bV.2 ⟨Ye.bW (λ_ _ _ h _=>h),(ly (ly (bV.2 ⟨Ye.bW (λv w w' h hb=>by obtain⟨r,h⟩:=h;exact⟨r,h.ao hb⟩),(λ_ h=>by cases h)⟩)))⟩)⟩))))))⟩)))))) ?_ ?_
  ·refine⟨bP O,bP O,cP λ_ _ hb _ _ _=>dX ((ax.rd 0 O).below hb) (Nat.succ_pos _) O O (bA O O),cP λ_ _ hb _ _ _=>aS ((ax.rd 0 O).below hb) O (bA O O),?_,?_,bP O,bP O,?_,?_,?_,?_,?_,cP λ_ _ hb _ _ _=>dX ((ax.rd 0 O).below hb) (Nat.succ_pos _) O O (bA O O),cP λ_ _ hb _ _ _=>aS ((ax.rd 0 O).below hb) O (bA O O),?_,au⟩
   ·refine cP λe1 w1 hb hp aW hq=>?_
    refine fX (k:=.u64) ((ax.rd 0 O).below hb) O O O O O (ak.n (fp O ap))
   ·intro e1 w1 cc eL cI dC hp aW hq;show ak _ _ _ _ _ _ _;refine MA O O O λr _=>?_
    exact ak.n (eD.dn O (Below.refl _ _) ⟨r,O⟩)
   ·refine cP λe1 w1 hb hp aW hq=>?_
    refine aA (Gy.below hb).2.2 O (ak.n (fp O ap))
   ·refine cP λe1 w1 hb hp aW hq=>?_
    refine Tn (Gy.below hb) O ac O O (ak.n (fp O ap))
   ·intro e1 w1 cc eL cI dC hp aW hq;show ak _ _ _ _ _ _ _;refine lL O O (rS _ ac) (ak.n (fp O ap))
   ·refine cP λe1 w1 hb hp aW hq=>?_
    obtain⟨r,hr⟩:=(hp 5 _ _ an rfl rfl an);refine Iv (by exact hr) O O λr _=>?_
    exact ak.n (eD.dn O (Below.refl _ _) ⟨r,O⟩)
   ·refine cP λe1 w1 hb hp aW hq=>?_
    obtain⟨r,hr⟩:=(hp 11 _ _ an rfl rfl an);refine Iv (by exact hr) O O λr _=>?_
    exact ak.n (eD.dn O (Below.refl _ _) ⟨r,O⟩)
   refine iF λe1 w1 hb hp aW hq=>?_
   obtain⟨r,hr⟩:=(hp 12 _ _ an rfl rfl an);refine oR 0 (ax.ao hb) O O (by exact hr) O O ?_;intro w9 hT;exact ak.n (dS.st O ⟨r,hT⟩)
  intro u w5 _ hu _ _;obtain⟨r,hT⟩:=hu 15 _ rfl an;refine gq O (aJ O (aN O (tQ ?_)));exact⟨(i+1,r),by show nc-(i+1)<nc-i;omega,(auV O),hT,by show i+1<=nc;omega⟩
 refine ba O (bc (ew O ?_));refine LF O ?_;exact⟨As,_,O,⟨Ac,nc,cc,0,h,bs,O,⟨Int.le_refl _,ac⟩,ni,hY⟩,ax⟩
theorem aeb(Ac:ai)(nc cc:Nat)(w:aa):aF prog 4 [.slice Ac nc cc] w (λv w'=>v=.bool (decide (4096<(nc:Int)))/\St w w' []):=by
 refine bn func4 O ntmps4 O (bM O) ?_;refine aY O (aR O O (bR O ?_));exact cK O ⟨O,St.refl w⟩
theorem anx(A:ai)(n c:Nat)(xs:ah)(B:ai)(m cB:Nat)(ys:ah)(w:aa)(hX:bu w A n xs)(hY:bu w B m ys)(hn:n<=9223372036854775806):
 aF prog 23 [.slice A n c,.slice B m cB] w (λv w'=>v=.bool (decide (xs=ys))/\St w w' []):=by
 have cT:=hX.1;have nO:=hY.1;refine bn func23 O ntmps23 O (bM O) ?_;refine aY O (aR O O (aq O (aR O O (ay O ?_))));refine aK _ O (λh1=>?_) (λh1=>?_)
 ·have bN:xs≠ys:=λe=>h1 (by rw[<-cT,<-nO,e])
  refine dE O (cK O ?_);exact⟨by rw[db bN],St.refl w⟩
 have G4:n=m:=by omega
 subst G4;refine cM O (Cd.loop (α:=Nat) (λi=>[(0,.slice A n c),(1,.slice B n cB),(5,aj i)]) (λi w'=>St w w' []/\i<=n/\∀j,j<i->xs[j]?=ys[j]?) (λi=>n-i) 0 (auV O) ⟨St.refl w,bl _,λj hj=>absurd hj (kY _)⟩ ?_);rintro i e w1 ⟨ax,hi,hj⟩;have Ed:=ax.dq hX;have Gy:=ax.dq hY;refine aY O (aR O O (ay O ?_));refine aK _ O (λh2=>?_) (λh2=>?_)
 ·refine cM O (ec [xS (A) (n) (c),xI ((i:Int)),xP (aH (A) ((i:Int)).toNat),xI (gi (xs) ((i:Int))),xS (B) (n) (cB),xI ((i:Int)),xP (aH (B) ((i:Int)).toNat),xI (gi (ys) ((i:Int))),xB (decide (¬(gi (xs) ((i:Int)))=(gi (ys) ((i:Int)))))] O (eK O) ?_ ?_)
  ·exact⟨Dr O,Dr O,λ_ _ hb _ _=>aA (Ed.ao hb).2 O Az,λ_ _ hb _ _=>bg (Ed.ao hb) O Az,Dr O,Dr O,λ_ _ hb _ _=>aA (Gy.ao hb).2 O Az,λ_ _ hb _ _=>bg (Gy.ao hb) O Az,Dr O,au⟩
  intro u w2 jR _;have az:=ax.ao jR;refine fG O (aK _ O (λh3=>?_) (λh3=>?_))
  ·have bN:xs≠ys:=λe=>h3 (by rw[e])
   refine dE O (fz (fe ?_));refine cK O ?_;exact⟨by rw[db bN],az⟩
  have h3:=Decidable.not_not.1 h3;rw[b7 (by omega),b7 (by omega)]at h3;refine aC O (aJ O (aN O (tQ ?_)));refine⟨i+1,by show n-(i+1)<n-i;omega,(auV O),az,ac,λj iJ=>?_⟩
  by_cases e:j=i
  ·subst e;rw[fL (by omega),fL (by omega),h3]
  exact hj j ac
 have he:xs=ys:=List.ext_getElem? λj=>by
  by_cases tg:j<n
  ·exact hj j ac
  rw[oP (by omega),oP (by omega)]
 refine ba O (bc (ew O ?_));refine cK O ?_;exact⟨by rw[dB he],ax⟩
def mV(n:Nat)(R:ah)(i:Nat):ah:=(List.range n).map λr:Nat=>(((R.take i).filter λx=>decide (x=(r:Int))).length:Int)
theorem DP(n:Nat)(R:ah)(i:Nat):(mV n R i).length=n:=by simp[mV]
theorem ae2(n:Nat)(R:ah):mV n R 0=List.replicate n 0:=by
 apply iC (by simp[mV]);intro i h1 h2;simp[mV]
theorem Uc(n:Nat)(R:ah):mV n R R.length=oT n R:=by
 unfold mV oT;refine ki λr _=>?_
 rw[List.take_length,apQ]
theorem Ja{n:Nat}{i r:Nat}(h:r<n):gi (mV n R i) r=(((R.take i).filter λx=>decide (x=(r:Int))).length:Int):=by
 rw[b7 (by rw[DP];exact h)];simp[mV]
theorem Ub{n:Nat}{i r:Nat}(h:r<n):0<=gi (mV n R i) r/\gi (mV n R i) r<=R.length:=by
 rw[Ja h];have:=lJ (λx=>decide (x=(r:Int))) (R.take i);rw[jG]at this;omega
theorem ae3{n:Nat}{i r:Nat}(hi:i<R.length)(hr:r<n)(e:gi R i=(r:Int)):(mV n R i).set r (gi (mV n R i) r+1)=mV n R (i+1):=by
 apply iC (by rw[fR,DP,DP]);intro k h1 h2;rw[DP]at h2;rw[List.getElem_set];have g1:(mV n R (i+1))[k]'(by rw[DP];exact h2)=gi (mV n R (i+1)) k:=by rw[b7]
 have g2:(mV n R i)[k]'(by rw[DP];exact h2)=gi (mV n R i) k:=by rw[b7]
 rw[g1,g2,Ja h2,Ja h2,Ja hr];have ht:R.take (i+1)=R.take i++[gi R i]:=by rw[oQ hi,b7 hi]
 rw[ht,mN,cj,e]
 by_cases hk:r=k
 ·subst hk;rw[aG rfl];simp
 rw[aD hk,BP (by simp;omega)];simp
theorem ae1{n:Nat}{r:Nat}(h:r<n):0<=gi (oT n R) r/\gi (oT n R) r<=R.length:=by
 rw[<-Uc];exact Ub h
theorem afi(n:Nat)(A1 A D:ai)(N m cA cD:Nat)(R:ah)(w:aa)(hB:Rd w A1 3 (λj=>[Value.int .i64 (n:Int),.slice A N cA,.slice D m cD].getD j undef))(hR:bu w A N R)(hr:∀x∈R,0<=x/\x<(n:Int))(hn:n<=1000)(hN:N<=1000000):
 aF prog 52 [.pointer A1] w (Dz (oT n R) w):=by
 have hl:=hR.1;refine bn func52 O ntmps52 O (bM O) (aY O ?_);refine dX hB am O O ?_;refine aS hB O (fX (j:=0) hB (by exact aQ Value.pointer O) O O O O ?_);refine FG n (St.refl w) O O ⟨ac,ac⟩ ?_;intro fC w1 ax;have ax:St w w1 [av 2 fC n n (mV n R 0)]:=by rw[ae2];exact ax
 have D4:=Rd.below hB ax.below;refine aq O (dX D4 am O O ?_);refine aS D4 O (auP (j:=1) D4 (by exact aQ Value.pointer O) O O O O ?_);refine aR O O (ay O ?_);refine Cd.loop (α:=Nat) (λi=>[(3,.slice fC n n),(14,.slice A N cA),(15,aj N),(16,aj i)]) (λi w'=>i<=N/\St w w' [av 2 fC n n (mV n R i)]) (λi=>N-i) 0 (auV O) ⟨bl _,ax⟩ ?_;clear ax;rintro i e w2 ⟨hi,az⟩;refine bC O (aK _ O (λh1=>?_) (λh1=>?_))
 ·have kP:i<R.length:=by omega
  have hm:=hr _ (gi_in kP);obtain⟨r,iO⟩:∃r:Nat,gi R i=r:=⟨(gi R i).toNat,ac⟩;have jb:r<n:=by omega
  have la:=Ub (R:=R) (i:=i) jb;have nK:=az.dq hR;refine aC O (aA nK.2 O (bg nK O ?_));rw[iO];refine aq O ?_;refine auJ (az.rd 0 O) O O O ac (by show(r:Int)<(n:Int);omega) ?_;refine auK (az.bF 0 O) O (by show(r:Int).toNat<n;omega) O O ?_;refine aJ O ?_;refine auJ (az.rd 0 O) O O O ac (by show(r:Int)<(n:Int);omega) ?_;refine ak.oL 0 (i:=(r:Int)) az O O O (by show(r:Int).toNat<n;omega) ?_;intro w3 aM;have aM:St w w3 [av 2 fC n n (mV n R (i+1))]:=by
   rw[<-ae3 kP jb iO];exact aM
  refine aq O (aJ O (aN O (tQ ?_)));exact⟨i+1,by show N-(i+1)<N-i;omega,(auV O),ac,aM⟩
 have pK:i=R.length:=by omega
 rw[pK,Uc]at az;refine ba O (bc (ew O ?_));refine dV O ?_;exact⟨fC,n,by rw[Nc],by rw[Nc];exact az⟩
theorem gN.pob{n:Int}{B:ag}(h:gN n R B):vc R.length R B:=by
 refine⟨by have:=h.qm;omega,λe h0 h1=>?_,λe h0 h1=>?_⟩
 ·obtain⟨hs,hd,_⟩:=h.at_ h0 h1;have wM:∀d∈gl B e,0<=d/\d<(R.length:Int):=λd hm=>by have:=(hd d hm).1;omega
  refine⟨?_,wM⟩;have:=ml.len (x:=gl B e) ⟨hs,λd hm=>(wM d hm).1⟩ (b:=R.length) (λd hm=>(wM d hm).2);have:=h.qm;omega
 have h2:=h.jl _ (NV h0 h1);have:=h.n1;omega
noncomputable def rv(R:ah)(B:ag)(N:Nat):ah:=(List.range N).map λk:Nat=>((E5 (Dm R B ((k:Int)+1)):Nat):Int)
theorem aen(R:ah)(B:ag)(N:Nat):(rv R B N).length=N:=by simp[rv]
theorem aeo(R:ah)(B:ag)(N:Nat):rv R B (N+1)=rv R B N++[((E5 (Dm R B ((N:Int)+1)):Nat):Int)]:=by unfold rv;rw[List.range_succ,List.map_append];rfl
theorem VB{f:Nat->Int}{i:Nat}(h:i<N):gi ((List.range N).map f) i=f i:=by
 rw[b7 (by simpa using h)];simp
def mS(c rk:ah)(z:Nat):ah:=(List.range c.length).map λi:Nat=>if i<z then gi c i-(gi rk i+gi rk ((i:Int)+1))else gi c i
theorem T0(c rk:ah)(z:Nat):(mS c rk z).length=c.length:=by simp[mS]
theorem aez(c rk:ah):mS c rk 0=c:=ahj (by simp[mS]) λi hi=>by
 unfold mS at hi|-;rw[jd,od]at hi;rw[VB hi,aD (by omega)]
where
 ahj {a b:ah} (h:a.length=b.length) (h':∀f:Nat,f<a.length->gi a f=gi b f):a=b:=iC h λi h1 h2=>by have:=h' i h1;rwa[b7 h1,b7 h2]at this
theorem aeA{c rk:ah}{z:Nat}(h:z<c.length):gi (mS c rk z) z=gi c z:=by
 unfold mS;rw[VB h,aD (by omega)]
theorem aeB{c rk:ah}{z:Nat}(h:z<c.length):(mS c rk z).set z (gi c z-(gi rk z+gi rk ((z:Int)+1)))=mS c rk (z+1):=by
 refine iC (by simp[mS]) λi h1 h2=>?_
 have hA:∀z' (h':i<(mS c rk z').length),(mS c rk z')[i]=if i<z' then gi c i-(gi rk i+gi rk ((i:Int)+1))else gi c i:=λz' h'=>by simp[mS]
 rw[List.getElem_set,hA,hA]
 by_cases e:z=i
 ·subst e;rw[aG rfl,aG (by omega)]
 rw[aD e]
 by_cases e2:i<z
 ·rw[aG e2,aG (by omega)]
 rw[aD e2,aD (by omega)]
abbrev FU(A1:ai)(k:Nat)(A D:ai)(M cA cD:Nat):Ck:=Bx 37 3 A1 [aj ((k:Int)+1),.slice A M cA,.slice D M cD]
noncomputable def qn(n:Nat)(R:ah)(B:ag):ah:=mS (oT n R) ([0]++rv R B (n-1)++[0]) n
theorem aek(Pc:ai)(N:Nat)(AR AB:ai)(m cR cB:Nat)(R:ah)(rs:List aE)(B:ag)(w:aa)(hP:zI w Pc ((N:Int)+1) AR AB m cR cB R rs B)(hO:vc m R B)(hN:N<=1000):
 aF prog 51 [.pointer Pc] w (λv w'=>∃A' c',v=.slice A' N c'/\(∀x∈rv R B N,0<=x/\x<=1000)/\St w w' [av 2 A' N c' (rv R B N)]):=by
 refine bn func51 O ntmps51 O (bM O) (bC O ?_);refine Cd.loop (α:=Nat×ai×Nat) (λz=>[(0,.pointer Pc),(3,.slice z.2.1 z.1 z.2.2),(4,aj ((z.1:Int)+1))]) (λz w'=>z.1<=N/\(∀x∈rv R B z.1,0<=x/\x<=1000)/\St w w' [av 2 z.2.1 z.1 z.2.2 (rv R B z.1)]) (λz=>N-z.1) (0,none,0) ⟨rfl,rfl,rfl,au⟩ ⟨bl _,(λ_ h=>by cases h),(St.refl w).nil _⟩ ?_;rintro⟨i,A3,c3⟩ e w1 ⟨hi,la,hS⟩;dsimp only at hi la hS|-;have iH:=hP.ao hS.below;refine aY O (dX iH.bx (Nat.succ_pos _) O O (aS iH.bx O (fX (j:=0) iH.bx (by exact aQ Value.pointer O) O O O O (ay O ?_))));refine aK _ O (λh1=>?_) (λh1=>?_)
 ·refine aC O (aI (amm Pc _ AR AB m cR cB R rs B ((i:Int)+1) w1 iH hO) O ?_);rintro _ w2 ⟨g,iP,rfl,hM,qG,e6,aw⟩;have az:=hS.ao aw.below;have Bh:=aeo R B i;rw[RJ e6]at Bh;refine To hM O O (eh az O O O ?_);intro tF w3 aM;refine eQ 1 aM O (aM.bF 0 O) O O O λkK nF w4 aU=>aq O (aJ O (aN O (tQ ?_)));exact⟨(i+1,kK,nF),by show N-(i+1)<N-i;omega,⟨O,O,aQ (Value.int .i64) ac,au⟩,by show i+1<=N;omega,by
   show ∀x∈rv R B (i+1),_;rw[Bh];intro x hx;rcases dF.1 hx with hx|hx
   ·exact la x hx
   ·obtain rfl:=eX.1 hx;omega,by
   show St w w4 [av 2 kK (i+1) nF (rv R B (i+1))];rw[Bh];exact aU.tail⟩
 obtain rfl:i=N:=by omega
 refine ba O (bc (ew O ?_));exact dV O ⟨A3,c3,O,la,hS⟩
end Go.Proofs.YtimbpgackifflaaGreatDoor.Vc
namespace Go.Proofs.YtimbpgackifflaaGreatDoor.Vc
open Tryz
def TO(R:ah)(B:ag)(N:Nat):ah:=(List.range N).map λk:Nat=>((wz [] (Dm R B ((k:Int)+1))).length:Int)
theorem B7(n:Nat)(R:ah)(B:ag):qn n R B=mS (oT n R) ([0]++TO R B (n-1)++[0]) n:=by
 unfold qn rv TO;have h:(λk:Nat=>((E5 (Dm R B ((k:Int)+1)):Nat):Int))=λk:Nat=>((wz [] (Dm R B ((k:Int)+1))).length:Int):=funext λk=>aQ Nat.cast (RJ (UC _))
 rw[h]
instance (R:ah)(B:ag):Decidable (sO R B):=by unfold sO Mp;exact inferInstance
theorem ev0:sO (ct l9 3) (cd l9):=by rw[Sf,RZ];exact bX an
theorem bf0:qn 3 (ct l9 3) (cd l9)=[1,0,1]:=by rw[B7,Sf,RZ];kernel_rfl
theorem ev1:sO (ct ma 3) (cd ma):=by rw[Sg,R3];exact bX an
theorem bf1:qn 3 (ct ma 3) (cd ma)=[1,0,1]:=by rw[B7,Sg,R3];kernel_rfl
theorem ev2:sO (ct mc 3) (cd mc):=by rw[Sh,R4];exact bX an
theorem bf2:qn 3 (ct mc 3) (cd mc)=[1,0,1]:=by rw[B7,Sh,R4];kernel_rfl
theorem ev3:sO (ct me 3) (cd me):=by rw[Si,R5];exact bX an
theorem bf3:qn 3 (ct me 3) (cd me)=[1,1,1]:=by rw[B7,Si,R5];kernel_rfl
theorem UJ:sO (ct mf 3) (cd mf):=by rw[Sj,R6];exact bX an
theorem bf4:qn 3 (ct mf 3) (cd mf)=[1,1,1]:=by rw[B7,Sj,R6];kernel_rfl
theorem UK:sO (ct mg 3) (cd mg):=by rw[Sk,R7];exact bX an
theorem bf5:qn 3 (ct mg 3) (cd mg)=[1,2,1]:=by rw[B7,Sk,R7];kernel_rfl
theorem UL:sO (ct mh 3) (cd mh):=by rw[Sl,R8];exact bX an
theorem bf6:qn 3 (ct mh 3) (cd mh)=[1,2,1]:=by rw[B7,Sl,R8];kernel_rfl
end Go.Proofs.YtimbpgackifflaaGreatDoor.Vc
namespace Go.Proofs.YtimbpgackifflaaGreatDoor.Vc
open Go.RowKit Tryz
structure zK(T F:ag)(x:Int):Prop where
 wA:a8 T 3<=60
 one:1<=a8 T 3
 sd:jc 3 (ct T 3) (cd T)=F
 num:F.length=(gl T 0).length
 lim:F.length<=400
 flat:F.flatten.length<=1000000
 sa:∀l∈F,SA l
 cx:gm (a8 T 3) F
 ps:vd F
 eu:decide (pk F)=decide (x=2)
 bt:wm F=[1,2-x,1]
 ev:sO (ct T 3) (cd T)
 bf:qn 3 (ct T 3) (cd T)=[1,2-x,1]
 ck:qo F=0
 en:mW (iG T) 3=x
 al:IK ((iN F).drop 1)=x
 h4:(hP (iN F)).length=4
 hs:x=2->gi (hP (iN F)) 0=gi (hP (iN F)) 3/\gi (hP (iN F)) 1=gi (hP (iN F)) 2
def xK(labels:ah)(words:ag):Prop:=∃T,wi labels words T/\wj labels words T/\T.length=3/\(48<(gl T 0).length\/((gl T 0).length<=48/\∃F x,zK T F x))
theorem aqE:zK l9 zl 2:=
 ⟨by rw[LX];decide,by rw[LX];decide,sf0,an,bX an,bX an,bX an,by rw[LX];exact Um,pm0,by rw[ei0];rfl,bt0,ev0,bf0,ck0,en0,by rw[NJ];kernel_rfl,by rw[NJ];kernel_rfl,by rw[NJ];exact bX an⟩
theorem agN:wi [3,3] [] l9:=⟨am,am,bX an,bX an,bX an,sI0,RR⟩
theorem agV:wj [3,3] [] l9:=⟨am,am,bX an,bX an,bX an,sP0,RR⟩
theorem ag3:xK [3,3] []:=⟨l9,agN,agV,an,.inr ⟨bX an,zl,_,aqE⟩⟩
theorem aqF:zK ma zm 2:=
 ⟨by rw[LY];decide,by rw[LY];decide,sf1,an,bX an,bX an,bX an,by rw[LY];exact Un,pm1,by rw[ei1];rfl,bt1,ev1,bf1,ck1,en1,by rw[NK];kernel_rfl,by rw[NK];kernel_rfl,by rw[NK];exact bX an⟩
theorem agO:wi [4,3] [] ma:=⟨am,am,bX an,bX an,bX an,sI1,RS⟩
theorem agW:wj [4,3] [] ma:=⟨am,am,bX an,bX an,bX an,sP1,RS⟩
theorem ag4:xK [4,3] []:=⟨ma,agO,agW,an,.inr ⟨bX an,zm,_,aqF⟩⟩
theorem aqG:zK mc zn 2:=
 ⟨by rw[LZ];decide,by rw[LZ];decide,sf2,an,bX an,bX an,bX an,by rw[LZ];exact Uo,pm2,by rw[ei2];rfl,bt2,ev2,bf2,ck2,en2,by rw[NL];kernel_rfl,by rw[NL];kernel_rfl,by rw[NL];exact bX an⟩
theorem agP:wi [3,4] [] mc:=⟨am,am,bX an,bX an,bX an,sI2,RT⟩
theorem agX:wj [3,4] [] mc:=⟨am,am,bX an,bX an,bX an,sP2,RT⟩
theorem ag5:xK [3,4] []:=⟨mc,agP,agX,an,.inr ⟨bX an,zn,_,aqG⟩⟩
theorem aqH:zK me zo 1:=
 ⟨by rw[L5];decide,by rw[L5];decide,sf3,an,bX an,bX an,bX an,by rw[L5];exact Up,pm3,by rw[ei3];rfl,bt3,ev3,bf3,ck3,en3,by rw[NM];kernel_rfl,by rw[NM];kernel_rfl,by rw[NM];exact bX an⟩
theorem agQ:wi [4,3] [gJ [0,1,2] 3] me:=⟨am,am,bX an,bX an,bX an,sI3,RU⟩
theorem agY:wj [4,3] [gJ [0,1,2] 3] me:=⟨am,am,bX an,bX an,bX an,sP3,RU⟩
theorem ag6:xK [4,3] [gJ [0,1,2] 3]:=⟨me,agQ,agY,an,.inr ⟨bX an,zo,_,aqH⟩⟩
theorem aqI:zK mf zp 1:=
 ⟨by rw[L6];decide,by rw[L6];decide,sf4,an,bX an,bX an,bX an,by rw[L6];exact Uq,pm4,by rw[ei4];rfl,bt4,UJ,bf4,ck4,en4,by rw[NO];kernel_rfl,by rw[NO];kernel_rfl,by rw[NO];exact bX an⟩
theorem agR:wi [3,4] [gJ [0,1,2] 3] mf:=⟨am,am,bX an,bX an,bX an,sI4,RW⟩
theorem agZ:wj [3,4] [gJ [0,1,2] 3] mf:=⟨am,am,bX an,bX an,bX an,sP4,RW⟩
theorem ag7:xK [3,4] [gJ [0,1,2] 3]:=⟨mf,agR,agZ,an,.inr ⟨bX an,zp,_,aqI⟩⟩
theorem aqJ:zK mg zq 0:=
 ⟨by rw[L7];decide,by rw[L7];decide,sf5,an,bX an,bX an,bX an,by rw[L7];exact Ur,pm5,by rw[ei5];rfl,bt5,UK,bf5,ck5,en5,by rw[NP];kernel_rfl,by rw[NP];kernel_rfl,by rw[NP];exact bX an⟩
theorem agS:wi [4,4] [gJ [0,1,2,1] 2] mg:=⟨am,am,bX an,bX an,bX an,sI5,RX⟩
theorem ag0:wj [4,4] [gJ [0,1,2,1] 2] mg:=⟨am,am,bX an,bX an,bX an,sP5,RX⟩
theorem ag8:xK [4,4] [gJ [0,1,2,1] 2]:=⟨mg,agS,ag0,an,.inr ⟨bX an,zq,_,aqJ⟩⟩
theorem aqK:zK mh zr 0:=
 ⟨by rw[L8];decide,by rw[L8];decide,sf6,an,bX an,bX an,bX an,by rw[L8];exact Us,pm6,by rw[ei6];rfl,bt6,UL,bf6,ck6,en6,by rw[NQ];kernel_rfl,by rw[NQ];kernel_rfl,by rw[NQ];exact bX an⟩
theorem agT:wi [3,6] [gJ [0,1,2] 4] mh:=⟨am,am,bX an,bX an,bX an,sI6,RY⟩
theorem ag1:wj [3,6] [gJ [0,1,2] 4] mh:=⟨am,am,bX an,bX an,bX an,sP6,RY⟩
theorem ag9:xK [3,6] [gJ [0,1,2] 4]:=⟨mh,agT,ag1,an,.inr ⟨bX an,zr,_,aqK⟩⟩
theorem agU:wi [4,4] [gJ [0,1,2,1] 3] Fc:=⟨am,am,bX an,bX an,bX an,sI7,sM7⟩
theorem ag2:wj [4,4] [gJ [0,1,2,1] 3] Fc:=⟨am,am,bX an,bX an,bX an,sP7,sM7⟩
theorem aha:xK [4,4] [gJ [0,1,2,1] 3]:=⟨Fc,agU,ag2,an,.inl (bX an)⟩
section
variable {P:Program}{N:Nat}{ops:Array Oper}{K:Env->aa->Prop}{rest:List Oper}{e:Env}{w0 w:aa}{ks:List Ck}{d:Nat}{ty:ad}{pos:String}{af:Array Edge}
def EN:Nat->List aE->List (Nat×ab)
 |_,[]=>[]
 |k,v::r=>(k,v.v)::EN (k+1) r
theorem U5:∀(vs:List aE)(k:Nat)(cells:Array ab),k+vs.length<=cells.size->∃out,Instr.fill (λi=>some (i*1,1)) cells (EN k vs)=some out/\out.size=cells.size/\(∀j,j<k->out[j]?=cells[j]?)/\(∀j,j<vs.length->out[k+j]?=vs[j]?.map aE.v)/\(∀j,k+vs.length<=j->out[j]?=cells[j]?)
 |[],k,cells,_=>⟨cells,rfl,rfl,λ_ _=>rfl,λj hj=>absurd hj (kY _),λ_ _=>rfl⟩
 |v::r,k,cells,h=>by
  have hk:k<cells.size:=by simp at h;omega
  obtain⟨out,h1,h2,h3,h4,h5⟩:=U5 r (k+1) (cells.setIfInBounds k v.v) (by simp at h|-;omega);refine⟨out,?_,by rw[h2];simp,λj hj=>?_,λj hj=>?_,λj hj=>?_⟩
  ·show Instr.fill _ cells ((k,v.v)::EN (k+1) r)=some out;rw[<-h1];simp[Instr.fill,aE.v,Value.cells,show ¬cells.size<k+1 by omega]
  ·rw[h3 j (by omega),zC,aD (by omega)]
  ·cases j with
   |zero=>rw[Nat.add_zero,h3 k (by omega),zC,aG rfl,aG hk];rfl
   |succ q=>
    have:=h4 q (by simpa using hj);rw[show k+(q+1)=k+1+q by omega,this]
    rfl
  ·rw[h5 j (by simp at hj|-;omega),zC,aD (by simp at hj;omega)]
theorem agy(vs:List aE)(cells:Array ab)(h:cells.size=vs.length):Instr.fill (λi=>some (i*1,1)) cells (EN 0 vs)=some (vs.map aE.v).toArray:=by
 obtain⟨out,h1,h2,_,h4,_⟩:=U5 vs 0 cells ac;rw[h1]
 congr 1
 apply Array.ext';apply List.ext_getElem?;intro j
 by_cases hj:j<vs.length
 ·have:=h4 j hj;rw[Nat.zero_add]at this;simpa using this
 rw[oP (by simpa[h2,h]using hj),oP (by simpa using hj)]
theorem acJ{t el:ad}{z:ab}{b n:Nat}[bJ P t (.slice el)][bL P el z 1 b]{ps:Array (Nat×ae)}(vs:List aE)(hS:St w0 w ks)(hv:(ps.toList.map λp=>(p.1,ev e p.2))=EN 0 vs)(hn:vs.length=n)(pP:n≠0)(CR:n<=1000)(hz:z.cells= #[z])(hb:Nat.blt d N=true)(hK:∀A w',St w0 w' (aX el A n n vs::ks)->ak P N ops K rest (bE e d (.slice A n n)) w'):ak P N ops K (⟨some d,.buildSlice t n ps,ty,pos,af,none⟩::rest) e w:=by
 subst hn;obtain⟨inf,hi,eN,hs,iI⟩:=bL.get P el;have hA:=hS.alloc (vs.map aE.v) el (by simp[maxLen];omega) (yY _);refine .val (w':=w.alloc (.cells (vs.map aE.v).toArray el)) ?_ hb (hK _ _ (by simpa[aX]using hA));have hf:=agy vs ((Array.range (vs.length*1)).map ((#[z]:Array ab)[· % (#[z]:Array ab).size]!)) (by simp);have hv':(ps.map λp=>(p.1,ev e p.2)).toList=EN 0 vs:=by rw[Array.toList_map];exact hv
 have zX:¬16777216<vs.length:=by omega
 simp only[Nat.mul_one]at hf;simp[execOp,Instr.buildSlice,run_underlying (bJ.out (P:=P) (t:=t)),sizeOf,typeInfo,zeroValue,hi,hs,eN,hz,newRow,hv,zX,pP];simp at hf;simp[hf]
end
theorem alq(A:ai)(n c:Nat)(rs:List aE)(M:ag)(w:aa)(hR:bH w A n rs M)(hn:n<=c)(hc:c<=9223372036854775807)(hM:eY M)(vr:a8 M M.length<=500):
 aF prog 11 [.agg #[.slice A n c]] w (λv w'=>∃AR c AD d,∃rs:List aE,v=.tuple #[.agg #[aj (M.length:Int),.slice AR (a8 M M.length) c,.slice AD (a8 M M.length) d],aj 0]/\rs.length=a8 M M.length/\St w w' (av 2 AR (a8 M M.length) c (ct M M.length)::(aV 27 2 AD (a8 M M.length) d rs (cd M)++[]))):=by
 refine bn func11 O ntmps11 O (tw O O) (aY O (rf (St.refl w) O O ?_));intro A1 w1 ax;refine u9 ax O λA2 w2 az=>aq O (cG 0 (az.rd 1 O) O O O (aI (K3 A n c rs M _ (az.bU hR) hn hc hM) O ?_));rintro _ w3 ⟨rfl,aw⟩;have aM:=az.ao aw.below
 first|refine cO rfl rfl ?_|refine dv rfl rfl ?_
 refine ay O (auT O (λh=>h hM) (aC O (cG 0 (aM.rd 1 O) O O O (aI (UU A n c rs M _ (aM.bU hR) hM) O ?_))));rintro _ w4 (⟨hb,_⟩|⟨_,AR,cR,AD,cD,jt,rfl,xb,nn⟩)
 ·omega
 have aU:=(aM.call nn).perm gL;refine aq O (u9 aU O ?_);intro A4 w5 aO;refine dU 3 0 aO O O O O O O O λw6 bk=>aq O ?_
 first|refine cO rfl rfl ?_|refine dv rfl rfl ?_
 refine ay O (Cd.cX O (aC O (cG 2 (bk.rd 0 O) O O O (dU 3 1 bk O O O O O O O ?_))));intro w7 bp;refine bR O (oI O (bp.rd 1 O) O ?_);refine⟨AR,cR,AD,cD,jt,O,xb,bp.sub (show List.Sublist _ (_::_::_::_)from((fD _).cons _|>.cons _|>.cons _))⟩
theorem afF(n:Int)(A D:ai)(cA cD:Nat)(R:ah)(rs:List aE)(B:ag)(w:aa)(hR:bu w A R.length R)(hB:bH w D B.length rs B)(hP:gN n R B):
 aF prog 139 [.agg #[aj n,.slice A R.length cA,.slice D B.length cD]] w (λv w'=>∃A' n' c',v=.slice A' n' c'/\St w w' []):=by
 have hn:=hP.n1;have ou:=hP.qm;have hle:=hP.len;have br:=λ(e:Int)(h0:0<=e)(h:e<(R.length:Int))=>(hP.at_ h0 h).1
 have bT:∀e:Int,0<=e->e<R.length->(gl B e).length<=500:=λe h0 h=>by
  have:=tv (N:=R.length) (br e h0 h).nodup λx hx=>by have:=((hP.at_ h0 h).2.1 x hx).1;omega
  omega
 refine bn func139 O ntmps139 O (bM O) (aY O (og (St.refl w) O O ?_));intro A1 w1 ax;have h1:Rd w1 A1 3 (λj=>[Value.int .i64 n,.slice A R.length cA,.slice D B.length cD].getD j undef):=ax.rd 0 O;have hR:=ax.dq hR;have hB:=ax.bU hB;have ax:=ax.none;refine aq O (aS h1 O (fX (j:=0) h1 (by exact aQ Value.pointer O) O O O O (ay O ?_)));refine Cd.loop (α:=Nat) (λi=>[(1,.pointer A1),(14,aj n),(15,aj i)]) (λi w'=>(i:Int)<=n/\St w1 w' []) (λi=>n.toNat-i) 0 (auV O) ⟨by show((0:Nat):Int)<=n;omega,St.refl _⟩ ?_;rintro i e w2 ⟨hi,aw⟩;have h1:=Rd.below h1 aw.below;have hR:=aw.dq hR;have hB:=aw.bU hB;have az:=ax.ao aw.below;refine bC O (aK _ O (λh2=>?_) (λh2=>?_))
 ·have Xx:=apS (R:=R) (show 0<=(i:Int) by omega) h2;have aj4:=RI (n:=n) (i:=(i:Int)) ou;have ajZ:=RI (n:=n) (i:=(i:Int)-1) ou;have ajI:=RI (n:=n) (i:=(i:Int)+1) ou;have aj5:=λx=>Rm (xs:=R) (x:=(i:Int)) (e:=x)
  refine aC O (aI (Ra A1 A D n R.length cA B.length cD R i _ h1 hR ac ac) O ?_);rintro _ w3 ⟨A4,c4,rfl,nn⟩;have h4:=nn.bF 0 O;refine aq O (aJ O ?_);refine aI (Ra A1 A D n R.length cA B.length cD R ((i:Int)+1) _ (Rd.below h1 nn.below) (nn.dq hR) ac ac) O ?_;rintro _ w4 ⟨A5,c5,rfl,vB⟩;have h5:=vB.bF 0 O;have h4:=h4.ao vB.below;refine aq O (cV O ?_);refine aI (Ra A1 A D n R.length cA B.length cD R ((i:Int)-1) _ (Rd.below h1 (nn.below.trans (vB.below.mono nn.below.size))) (vB.dq (nn.dq hR)) ac ac) O ?_;rintro _ w5 ⟨A6,c6,rfl,np⟩;have h6:=np.bF 0 O;have h4:=h4.ao np.below;have h5:=h5.ao np.below;have kE:=(nn.below.trans (vB.below.mono nn.below.size));have kE:=kE.trans (np.below.mono kE.size);have h1:=Rd.below h1 kE;have hB:=hB.ao kE;have aO:=az.ao kE;have akW:=aw.ao kE;clear nn vB np aw az;obtain⟨ms,Ks⟩:∃ms,uJ n R i=ms:=⟨_,rfl⟩;obtain⟨oE,PK⟩:∃oE,uJ n R ((i:Int)-1)=oE:=⟨_,rfl⟩;obtain⟨my,Pv⟩:∃my,uJ n R ((i:Int)+1)=my:=⟨_,rfl⟩;rw[Ks]at h4 aj4 Xx;rw[Pv]at h5 ajI;rw[PK]at h6 ajZ;have AX:∀x∈ms,(0<=x/\x<R.length):=λx hx=>((aj5 x).1 (Xx▸hx)).1
  have Xv:∀x∈oE,x= -1\/(0<=x/\x<R.length):=λx hx=>aaR (PK▸hx)
  have hhr:∀x∈my,x= -1\/(0<=x/\x<R.length):=λx hx=>aaR (Pv▸hx)
  rw[Ks,PK,Pv];refine aR O O (ay O ?_);refine Cd.loop (α:=Nat) (λj=>[(1,.pointer A1),(14,aj n),(15,aj i),(3,aj i),(4,.slice A4 ms.length c4),(5,.slice A5 my.length c5),(25,.slice A6 oE.length c6),(26,aj (oE.length:Int)),(27,aj j)]) (λj w'=>j<=oE.length/\w'=w5) (λj=>oE.length-j) 0 (auV O) ⟨bl _,O⟩ ?_;rintro j e w6 ⟨hj,rfl⟩;refine bC O (aK _ O (λh7=>?_) (λh7=>?_))
  ·refine aC O (aA h6.2 O (bg h6 O ?_));refine aq O (aR O O (ay O ?_));have her:=Xv _ (gi_in (show j<oE.length by omega));generalize gi oE j=ee at*;refine Cd.loop (α:=Nat) (λk=>[(1,.pointer A1),(14,aj n),(15,aj i),(3,aj i),(4,.slice A4 ms.length c4),(5,.slice A5 my.length c5),(25,.slice A6 oE.length c6),(26,aj (oE.length:Int)),(27,aj j),(7,aj ee),(31,.slice A5 my.length c5),(32,aj (my.length:Int)),(33,aj k)]) (λk w'=>k<=my.length/\w'=w6) (λk=>my.length-k) 0 (auV O) ⟨bl _,O⟩ ?_;rintro k e w7 ⟨hk,rfl⟩;refine bC O (aK _ O (λh8=>?_) (λh8=>?_))
   ·have yD:my.length-(k+1)<my.length-k:=by omega
    refine aC O (aA h5.2 O (bg h5 O ?_));have vu:=hhr _ (gi_in (show k<my.length by omega));generalize gi my k=ff at*;refine tG 0 O (lH (α:=Unit) (λ_=>[(1,.pointer A1),(14,aj n),(15,aj i),(3,aj i),(4,.slice A4 ms.length c4),(5,.slice A5 my.length c5),(25,.slice A6 oE.length c6),(26,aj (oE.length:Int)),(27,aj j),(7,aj ee),(31,.slice A5 my.length c5),(32,aj (my.length:Int)),(33,aj k),(9,aj ff)]) (λ_ w'=>w'=w7) ?_ ?_)
    ·refine aY O (b9 39 O (λh9=>?_) (λh9=>?_))
     ·refine ar O (aq O (ar O (aq O ?_)));refine b9 43 O (λik=>?_) (λik=>?_)
      ·refine ar O (aq O (ar O (aq O (ar O ?_))));refine aI (Hz A1 A D cA cD n R rs B ee ff _ h1 hB ac (br ff ik ac) (by have:=bT ff ik ac;omega)) O ?_;rintro _ w8 ⟨rfl,rfl⟩;refine ar O ?_
       first|refine cO rfl rfl ?_|refine dv rfl rfl ?_
       refine ay O (aK _ O (λsZ=>?_) (λsZ=>?_))
       ·refine ba O (bc (bY O (aJ O (aN O (tQ ?_)))));exact⟨k+1,yD,(auV O),ac,O⟩
       ·refine jE O (tQ ?_);exact⟨(),(auV O),O⟩
      ·refine aB O (aB O (aB O (aB O (ay O ?_))));refine Cd.cX O (jE O (tQ ?_));exact⟨(),(auV O),O⟩
     ·refine aB O (aB O (aq O (aB O (aB O (aB O (aB O (ay O ?_)))))));refine Cd.cX O (jE O (tQ ?_));exact⟨(),(auV O),O⟩
    rintro _ e w8 rfl;refine aC O (aR O O (ay O ?_));refine Cd.loop (α:=Nat×Nat) (λz=>[(1,.pointer A1),(14,aj n),(15,aj i),(3,aj i),(4,.slice A4 ms.length c4),(5,.slice A5 my.length c5),(25,.slice A6 oE.length c6),(26,aj (oE.length:Int)),(27,aj j),(7,aj ee),(31,.slice A5 my.length c5),(32,aj (my.length:Int)),(33,aj k),(9,aj ff),(10,aj (z.2:Int)),(49,.slice A4 ms.length c4),(50,aj (ms.length:Int)),(51,aj (z.1:Int))]) (λz w'=>z.1<=ms.length/\z.2<=z.1/\w'=w8) (λz=>ms.length-z.1) (0,0) (auV O) ⟨bl _,bl _,O⟩ ?_;rintro⟨q,m⟩ e w9 ⟨hq,hm,rfl⟩;dsimp only at hq hm|-;refine bC O (aK _ O (λVO=>?_) (λVO=>?_))
    ·have hx:=AX _ (gi_in (show q<ms.length by omega));have XF:ms.length-(q+1)<ms.length-q:=by omega
     refine aC O (aA h4.2 O (bg h4 O ?_));generalize gi ms q=xx at*;refine tG 0 O (lH (α:=Bool) (λb=>[(1,.pointer A1),(14,aj n),(15,aj i),(3,aj i),(4,.slice A4 ms.length c4),(5,.slice A5 my.length c5),(25,.slice A6 oE.length c6),(26,aj (oE.length:Int)),(27,aj j),(7,aj ee),(31,.slice A5 my.length c5),(32,aj (my.length:Int)),(33,aj k),(9,aj ff),(10,aj m),(49,.slice A4 ms.length c4),(50,aj (ms.length:Int)),(51,aj q),(70,.bool b)]) (λ_ w'=>w'=w9) ?_ ?_)
     ·refine aY O (b9 57 O (λN8=>?_) (λN8=>?_))
      ·refine aB O (aB O (aB O (aq O (ar O (aq O (ar O (aq O (ar O (aq O ?_)))))))));refine b9 65 O (λN9=>?_) (λN9=>?_)
       ·refine aB O (aB O (aB O (ar O (aN O (tQ ?_)))));exact⟨true,(auV O),O⟩
       ·refine ar O (aq O (ar O (aq O (ar O ?_))));refine aI (Hz A1 A D cA cD n R rs B xx ff _ h1 hB ac (br ff ac ac) (by have:=bT ff ac ac;omega)) O ?_;rintro _ dJ ⟨rfl,rfl⟩;refine ar O (aN O (tQ ?_));exact⟨_,(auV O),O⟩
      ·refine ar O (aq O (ar O (aq O (ar O ?_))));refine aI (Hz A1 A D cA cD n R rs B ee xx _ h1 hB ac (br xx ac ac) (by have:=bT xx ac ac;omega)) O ?_;rintro _ dJ ⟨rfl,rfl⟩;refine aq O (b9 62 O (λh16=>?_) (λh16=>?_))
       ·refine ar O (aq O (ar O (aq O (ar O (aq O ?_)))));refine b9 65 O (λN9=>?_) (λN9=>?_)
        ·refine aB O (aB O (aB O (ar O (aN O (tQ ?_)))));exact⟨true,(auV O),O⟩
        ·refine ar O (aq O (ar O (aq O (ar O ?_))));refine aI (Hz A1 A D cA cD n R rs B xx ff _ h1 hB ac (br ff ac ac) (by have:=bT ff ac ac;omega)) O ?_;rintro _ eO ⟨rfl,rfl⟩;refine ar O (aN O (tQ ?_));exact⟨_,(auV O),O⟩
       ·refine aB O (aB O (aB O (cW O O O O (cW O O O O (cW O O O O (aB O (aN O (tQ ?_))))))));exact⟨false,(auV O),O⟩
     rintro b e dJ rfl;cases b with
     |true => --dup 2
      refine Cd.iw O (aC O (aJ O (aq O (aJ O (aN O (tQ ?_))))));exact⟨(q+1,m+1),XF,(auV O),by show q+1<=_;omega,by show m+1<=q+1;omega,O⟩
     |false=>
      refine Cd.cX O (aC O (aJ O (aN O (tQ ?_))));exact⟨(q+1,m),XF,(auV O),by show q+1<=_;omega,by show m<=q+1;omega,O⟩
    ·refine ba O (bc (kX O ?_));refine aK _ O (λN8=>?_) (λN8=>?_)
     ·refine aC O (rh [(i:Int),ee,ff] aO O O am am O O λA9 dJ cQ=>bR O (fz (fe (fz (fe (fz (fe ?_)))))));exact dV O ⟨A9,3,3,O,cQ.none⟩
     ·refine aC O (aJ O (aN O (tQ ?_)));exact⟨k+1,yD,(auV O),ac,O⟩
   ·refine ba O (bc (bY O (aJ O (aN O (tQ ?_)))));exact⟨j+1,by show oE.length-(j+1)<oE.length-j;omega,(auV O),ac,O⟩
  ·refine ba O (bc (bY O (aJ O (aN O (tQ ?_)))));exact⟨i+1,by show n.toNat-(i+1)<n.toNat-i;omega,(auV O),by show((i+1:Nat):Int)<=n;omega,akW⟩
 ·refine ba O (bc (ew O ?_));exact dV O ⟨none,0,0,O,az⟩
theorem alV(n:Int)(A D:ai)(cA N m cD:Nat)(Af:ai)(nf cf:Nat)(rs:List aE)(fl:ag)(w:aa)(hF:bH w Af nf rs fl)(hN:N<=500)(hr:∀l∈fl,l.length<=1000/\∀x∈l,0<=x/\x<(N:Int))(G3:nf<=100000):
 aF prog 138 [.agg #[aj n,.slice A N cA,.slice D m cD],.slice Af nf cf] w (λv w'=>∃b:Bool,v=.bool b/\St w w' []):=by
 have fk:=hF.len;refine bn func138 O ntmps138 O (bM O) (aY O (og (St.refl w) O O ?_));intro A1 w1 ax;have h1:Rd w1 A1 3 (λj=>[Value.int .i64 n,.slice A N cA,.slice D m cD].getD j undef):=ax.rd 0 O;refine aq O (aS h1 O (a6 h1 O (aR O O (wb (v:=false) N ax O O ac ?_))));intro A5 w2 az;have az:St w w2 [fB 4 A5 N N (List.replicate N false),bS A1 n A N cA D m cD]:=az;refine aq O (aR O O (ay O ?_));refine Cd.loop (α:=Nat×List Bool) (λz=>[(2,.pointer A1),(5,.slice A5 N N),(14,.slice Af nf cf),(15,aj nf),(16,aj (z.1:Int))]) (λz w'=>z.1<=nf/\z.2.length=N/\St w w' [fB 4 A5 N N z.2,bS A1 n A N cA D m cD]) (λz=>nf-z.1) (0,_) (auV O) ⟨bl _,by simp,az⟩ ?_;clear az ax h1;rintro⟨i,L⟩ e w3 ⟨hi,hL,hS⟩;dsimp only at hi hL hS|-;refine bC O (aK _ O (λh2=>?_) (λh2=>?_))
 ·have nM:i<fl.length:=by omega
  have hM:=hS.bU hF;have fJ:=hM.at_ (i:=(i:Int)) ac ac;have jb:=fJ.1;have iq:gl fl i∈fl:=by rw[df nM];exact dt _
  have jH:=hr _ iq;refine aC O (aA hM.top.2 O (bw hM.top O ?_));refine aq O (aR O O (ay O ?_));refine Cd.loop (α:=Nat×List Bool) (λz=>[(2,.pointer A1),(5,.slice A5 N N),(14,.slice Af nf cf),(15,aj nf),(16,aj i),(20,.slice (rg rs i).a (rg rs i).n (rg rs i).c),(21,aj ((rg rs i).n:Int)),(22,aj (z.1:Int))]) (λz w'=>z.1<=(rg rs i).n/\z.2.length=N/\St w w' [fB 4 A5 N N z.2,bS A1 n A N cA D m cD]) (λz=>(rg rs i).n-z.1) (0,L) (auV O) ⟨bl _,hL,hS⟩ ?_;clear fJ hM hS;rintro⟨j,L⟩ e w4 ⟨hj,hL,hS⟩;dsimp only at hj hL hS|-;refine bC O (aK _ O (λh3=>?_) (λh3=>?_))
  ·have gp:j<(gl fl i).length:=by omega
   have fJ:=(hS.bU hF).at_ (i:=(i:Int)) ac ac;have hx:=jH.2 _ (gi_in gp);refine aC O (aA fJ.2 O (bg fJ O (aq O (aA (hS.iQ 0 O).2 O (pn 0 hS O O O ac ?_)))));intro w5 aO;refine aq O (aJ O (aN O (tQ ?_)));exact⟨(j+1,_),by show(rg rs i).n-(j+1)<(rg rs i).n-j;omega,(auV O),by show j+1<=_;omega,by rw[fR];exact hL,aO⟩
  refine ba O (bc (bY O (aJ O (aN O (tQ ?_)))));exact⟨(i+1,L),by show nf-(i+1)<nf-i;omega,(auV O),by show i+1<=nf;omega,hL,hS⟩
 refine ba O (bc (bY O ?_));refine aI (Mn A5 N N _ false _ (hS.iQ 0 O) ac) O ?_;rintro _ _ ⟨rfl,rfl⟩
 first|refine cO rfl rfl ?_|refine dv rfl rfl ?_
 refine bR O (cK O ?_);exact⟨_,O,hS.none⟩
theorem afc(A:ai)(N c:Nat)(rs:List aE)(fl:ag)(n:Nat)(w:aa)(hT:lh w)(hM:bH w A N rs fl)(hN:N<=401)(hn:n<=5)(hl:∀x∈fl,x.length=n/\∀e∈x,0<=e/\e<=1000000)(lZ:fl.Nodup):
 aF prog 140 [.slice A N c] w (λv w'=>∃A' n' c',v=.slice A' n' c'/\St w w' []):=by
 have fk:=hM.len;have ng:∀f:Nat,f<N->gl fl f∈fl:=λf hf=>by rw[df (by omega)];exact dt _
 refine bn func140 O ntmps140 O (bM O) (aY O (wc (St.refl w) O ?_));intro g w1 ax;have ax:St w w1 (fc 182 g (dZ yZ EU ([]:List nz))::(qd 2 ([]:List nz)++[])):=ax;refine aq O (aI (BH _ _ _ _) O ?_);rintro _ w1 ⟨rfl,rfl⟩;refine ay O ?_;refine Cd.loop (α:=Nat×List nz) (λz=>[(0,.slice A N c),(3,.map (some g)),(12,aj N),(13,aj (z.1:Int))])
  (λz w'=>z.1<=N/\(∀l u,dh z.2 l=some u->u.2.length=N)/\St w w' (fc 182 g (dZ yZ EU z.2)::(qd 2 z.2++[]))) (λz=>N-z.1) (0,[]) ⟨rfl,rfl,rfl,rfl,au⟩ ⟨bl _,λl u h=>by simp[dh]at h,ax⟩ ?_
 clear ax;rintro⟨a,M⟩ e w2 ⟨ha,pA,hS⟩;dsimp only at ha pA hS|-;refine bC O (aK _ O (λh1=>?_) (λh1=>?_))
 ·have wK:a<N:=by omega
  refine aC O (aJ O (ay O ?_));refine Cd.loop (α:=Nat×List nz) (λz=>[(0,.slice A N c),(3,.map (some g)),(12,aj N),(13,aj a),(4,aj a),(5,aj (z.1:Int))])
   (λz w'=>(a<z.1/\z.1<=N)/\(∀l u,dh z.2 l=some u->u.2.length=N)/\St w w' (fc 182 g (dZ yZ EU z.2)::(qd 2 z.2++[]))) (λz=>N-z.1) (a+1,M) ⟨rfl,rfl,rfl,rfl,rfl,rfl,au⟩ ⟨⟨Nat.lt_succ_self _,wK⟩,pA,hS⟩ ?_
  clear hS pA;rintro⟨b,M⟩ e w3 ⟨⟨gr,Eg⟩,pA,hS⟩;dsimp only at gr Eg pA hS|-;refine aY O (aI (BH _ _ _ _) O ?_);rintro _ w3 ⟨rfl,rfl⟩;refine ay O (aK _ O (λh2=>?_) (λh2=>?_))
  ·have hb:b<N:=by omega
   have tW:=hS.bU hM;have lp:=tW.at_ (i:=(a:Int)) ac ac;have lr:=tW.at_ (i:=(b:Int)) ac ac;have PD:=hl _ (ng a wK);have hlB:=hl _ (ng b hb);have Kt:(rg rs a).n=n:=by rw[<-lp.1];exact PD.1
   have XB:(rg rs b).n=n:=by rw[<-lr.1];exact hlB.1
   have b8:(sX (gl fl a) (gl fl b)).length=n:=by rw[DO];exact PD.1
   have hcr:∀x∈sX (gl fl a) (gl fl b),-1<=x/\x<=1000000:=λx hx=>by
    obtain⟨k,hk,rfl⟩:=de.1 hx;have hk:=fo.1 hk
    split
    ·have:=PD.2 _ (gi_in hk);omega
    ·omega
   refine cM O ?_;refine ec [xS (A) (N) (c),xI ((a:Int)),xP (aH (A) ((a:Int)).toNat),xS ((rg (rs) ((a:Int))).a) ((rg (rs) ((a:Int))).n) ((rg (rs) ((a:Int))).c),xS (A) (N) (c),xI ((b:Int)),xP (aH (A) ((b:Int)).toNat),xS ((rg (rs) ((b:Int))).a) ((rg (rs) ((b:Int))).n) ((rg (rs) ((b:Int))).c),.pr (λv w'=>∃A6 c6,v=.slice A6 n c6/\bu w' A6 n (sX (gl fl a) (gl fl b))),.pr (λv w'=>∃A6 c6,v=.slice A6 n c6/\bu w' A6 n (sX (gl fl a) (gl fl b)))] rfl (lx (lx (lx (lx (lx (lx (lx (lx (bV.2 ⟨Yd.bW (λv w w' h hb=>by obtain⟨A6,c6,hv,hT⟩:=h;exact⟨A6,c6,hv,hT.ao hb⟩),(bV.2 ⟨Yd.bW (λv w w' h hb=>by obtain⟨A6,c6,hv,hT⟩:=h;exact⟨A6,c6,hv,hT.ao hb⟩),(λ_ h=>by cases h)⟩)⟩))))))))) ?_ ?_
   ·refine⟨Dr O,Dr O,λ_ _ hb _ _=>aA (tW.top.ao hb).2 O Az,λ_ _ hb _ _=>bw (tW.top.ao hb) O Az,Dr O,Dr O,λ_ _ hb _ _=>aA (tW.top.ao hb).2 O Az,λ_ _ hb _ _=>bw (tW.top.ao hb) O Az,?_,?_,au⟩
    ·intro e1 w1 hb hp aW;refine aI (Ud (rg rs a).a (rg rs b).a (rg rs a).n (rg rs a).c (rg rs b).n (rg rs b).c (gl fl a) (gl fl b) _ (lp.ao hb) (lr.ao hb) ac ac) O ?_;rintro _ w9 ⟨A6,c6,rfl,aw⟩;refine ak.n ?_;exact gk.dn aw.below ⟨A6,c6,by rw[b8],by have h9:=aw.bF 0 O;rw[b8]at h9;exact h9⟩
    ·intro e1 w1 hb hp aW;obtain⟨A6,c6,Gb,hT⟩:=(hp 8 am rfl _ _ rfl rfl);refine mm O (by exact Gb) O (ak.n ?_);exact gk.dn (Below.refl _ _) ⟨A6,c6,O,hT⟩
   intro u w4 kq hu;obtain⟨A6,c6,h6,jh⟩:=hu 9 _ rfl;rw[asL h6];have aU:=hS.ao kq;generalize pG:sX (gl fl a) (gl fl b)=cm at*;clear hu hS tW lp lr;refine gq O ?_;refine aI (xm A6 n c6 cm _ (hT.ao aU.below) jh (λx hx=>by have:=hcr x hx;omega) ac) O ?_;rintro _ w5 ⟨rfl,aw⟩;have aO:=aU.ao aw.below;have jh:=jh.ao aw.below;clear aw aU;refine aq O ?_;refine FD (v:=.slice (jA M cm).a (jA M cm).n (jA M cm).c) EP (x:=cm) (aO.oH 0 rfl) rfl rfl (by unfold jA;cases dh M cm<;>rfl) rfl ?_;refine aq O ?_
   first|refine cO rfl rfl ?_|refine dv rfl rfl ?_
   refine ay O ?_;cases Pu:dh M cm with
   |none => --dup 2
    refine Cd.iw O (aC O (aI (aoI A N c rs fl n A6 c6 cm _ (hT.ao aO.below) (aO.bU hM) jh hN hn hl lZ) O ?_));rintro _ w6 ⟨A8,L,rfl,hL,aw⟩;have bk:=aO.call aw;refine aq O (tL O EP 1 (a:=cm) (u:=(⟨A8,N,N⟩,L)) bk O O O O ?_);intro w7 bp;have br:bu w7 A8 N L:=bp.bF 0 O;have bB:St w w7 (fc 182 g (dZ yZ EU (gh M cm (⟨A8,N,N⟩,L)))::(qd 2 (gh M cm (⟨A8,N,N⟩,L))++[])):=Tv (M:=M) (x:=cm) (u:=(⟨A8,N,N⟩,L)) (pre:=[_]) (by rw[NU Pu];exact bp);have aih:∀l u,dh (gh M cm (⟨A8,N,N⟩,L)) l=some u->u.2.length=N:=λl u h=>by
     rw[DY]at h
     split at h
     ·rename_i e;subst e;injection h with h
      subst h;exact hL.1
     ·exact pA l u h
    clear bp bk aO aw jh;have pB:=hL.1;have bT:=br.1;refine ay O (ec [xS (A8) (N) (N),xI ((a:Int)),xP (aH (A8) ((a:Int)).toNat),xI (gi (L) ((a:Int))),xS (A8) (N) (N),xI ((b:Int)),xP (aH (A8) ((b:Int)).toNat),xI (gi (L) ((b:Int))),xB (decide (¬(gi (L) ((a:Int)))=(gi (L) ((b:Int)))))] O (eK O) ?_ ?_)
    ·exact⟨Dr O,Dr O,λ_ _ hb _ _=>aA (br.ao hb).2 O Az,λ_ _ hb _ _=>bg (br.ao hb) O Az,Dr O,Dr O,λ_ _ hb _ _=>aA (br.ao hb).2 O Az,λ_ _ hb _ _=>bg (br.ao hb) O Az,Dr O,au⟩
    intro u w9 AA _;have bj:=bB.ao AA;refine fG O (aK _ O (λh3=>?_) (λh3=>?_))
    ·refine aC O (rh [(a:Int),(b:Int)] bj O O am am O O λA9 dJ cQ=>bR O (fz (fe (fz (fe ?_)))));exact dV O ⟨A9,2,2,O,cQ.none⟩
    ·skip
     refine aC O (aJ O (aN O (tQ ?_)));exact⟨(b+1,gh M cm (⟨A8,N,N⟩,L)),by show N-(b+1)<N-b;omega,(auV O),⟨Nat.lt_succ_of_lt gr,hb⟩,aih,bj⟩
   |some u0=>
    have pB:(jO M cm).length=N:=by
     rw[(N3 Pu).2];exact pA cm u0 Pu
    have br:bu w5 (jA M cm).a (jA M cm).n (jO M cm):=MH (pre:=[_]) (x:=cm) aO;refine Cd.cX O ?_;have bT:=br.1;refine cM O (ec [xS ((jA M cm).a) ((jA M cm).n) ((jA M cm).c),xI ((a:Int)),xP (aH ((jA M cm).a) ((a:Int)).toNat),xI (gi (jO M cm) ((a:Int))),xS ((jA M cm).a) ((jA M cm).n) ((jA M cm).c),xI ((b:Int)),xP (aH ((jA M cm).a) ((b:Int)).toNat),xI (gi (jO M cm) ((b:Int))),xB (decide (¬(gi (jO M cm) ((a:Int)))=(gi (jO M cm) ((b:Int)))))] O (eK O) ?_ ?_)
    ·exact⟨Dr O,Dr O,λ_ _ hb _ _=>aA (br.ao hb).2 O Az,λ_ _ hb _ _=>bg (br.ao hb) O Az,Dr O,Dr O,λ_ _ hb _ _=>aA (br.ao hb).2 O Az,λ_ _ hb _ _=>bg (br.ao hb) O Az,Dr O,au⟩
    intro u w9 AA _;have bj:=aO.ao AA;refine fG O (aK _ O (λh3=>?_) (λh3=>?_))
    ·refine aC O (rh [(a:Int),(b:Int)] bj O O am am O O λA9 dJ cQ=>bR O (fz (fe (fz (fe ?_)))));exact dV O ⟨A9,2,2,O,cQ.none⟩
    ·skip
     refine aC O (aJ O (aN O (tQ ?_)));exact⟨(b+1,M),by show N-(b+1)<N-b;omega,(auV O),⟨Nat.lt_succ_of_lt gr,hb⟩,pA,bj⟩
  ·have CF:b=N:=by omega
   refine ba O (bc (bY O (aJ O (aN O (tQ ?_)))));exact⟨(a+1,M),by show N-(a+1)<N-a;omega,(auV O),wK,pA,hS⟩
 ·have WI:a=N:=by omega
  refine ba O (bc (ew O ?_));exact dV O ⟨none,0,0,O,hS.none⟩
theorem alQ(n:Nat)(A D:ai)(cA cD:Nat)(R:ah)(rs:List aE)(B:ag)(Af:ai)(cf:Nat)(fP:List aE)(w:aa)(hT:lh w)(hR:bu w A R.length R)(hB:bH w D B.length rs B)(hP:gN n R B)(hF:bH w Af (eH n R B).length fP (eH n R B))(Kf:(eH n R B).length<=400):
 aF prog 96 [.agg #[aj n,.slice A R.length cA,.slice D B.length cD],.slice Af (eH n R B).length cf] w (λv w'=>∃b:Bool,v=.bool b/\St w w' []):=by
 have hn:=hP.n1;have ou:=hP.qm;have AH:=Vd (n:=n) (R:=R) (B:=B) ac ou;have ajx:∀x∈eH n R B,x.length=n/\∀e∈x,0<=e/\e<=1000000:=λx hx=>⟨(AH x hx).1,λe he=>by have:=(AH x hx).2 e he;omega⟩
 have lZ:(eH n R B).Nodup:=(Vb n R B).nodup;refine bn func96 O ntmps96 O (bM O) (aY O (og (St.refl w) O O ?_));intro A1 w1 ax;have h1:Rd w1 A1 3 (λj=>[Value.int .i64 n,.slice A R.length cA,.slice D B.length cD].getD j undef):=ax.rd 0 O;have hR:=ax.dq hR;have hB:=ax.bU hB;have hF:=ax.bU hF;have hT:=hT.ao ax.below;have ax:=ax.none;refine aq O (aR O O (aq O ?_));refine b9 8 O (λh2=>?_) (λh2=>?_)
 ·skip
  refine ar O (cG 2 h1 O O O ?_);refine ar O (aq O (ar O ?_));refine aI (alV n A D cA R.length B.length cD Af (eH n R B).length cf fP (eH n R B) _ hF ou (λl hl=>⟨by have:=(AH l hl).1;omega,(AH l hl).2⟩) ac) O ?_;rintro _ w2 ⟨b,rfl,aw⟩;have h1:=Rd.below h1 aw.below;have hR:=aw.dq hR;have hB:=aw.bU hB;have hF:=aw.bU hF;have hT:=hT.ao aw.below;have ax:=ax.ao aw.below;clear aw;rw[MY b];refine aq O (b9 13 O (λh3=>?_) (λh3=>?_))
  ·refine ar O (cG 2 h1 O O O (ar O (aI (afF n A D cA cD R rs B _ hR hB hP) O ?_)));rintro _ w3 ⟨A9,n9,c9,rfl,aw⟩;have hF:=aw.bU hF;have hT:=hT.ao aw.below;have ax:=ax.ao aw.below;clear aw;refine ar O (BU O O O ?_);rw[MY A9.isNone];refine aq O (b9 18 O (λh4=>?_) (λh4=>?_))
   ·refine ar O (aq O (ar O ?_));refine aI (afc Af (eH n R B).length cf fP (eH n R B) n _ hT hF ac ac ajx lZ) O ?_;rintro _ w4 ⟨A8,n8,c8,rfl,aw⟩;have ax:=ax.ao aw.below;refine ar O (BU O O O (bR O (cK O ?_)));exact⟨A8.isNone,O,ax⟩
   refine aB O (aB O (aB O (bR O ?_)));exact cK O ⟨false,O,ax⟩
  refine aB O (aB O (aB O (aq O (aB O (aB O (aB O (bR O ?_)))))));exact cK O ⟨false,O,ax⟩
 refine aB O (aB O (aB O (aq O (aB O (aB O (aB O (aq O (aB O (aB O (aB O (bR O ?_)))))))))));exact cK O ⟨false,O,ax⟩
theorem alP(A:ai)(n c:Nat)(rs:List aE)(M:ag)(w:aa)(hT:lh w)(hR:bH w A n rs M)(hM:eY M)(vr:a8 M M.length<=500):
 aF prog 41 [.agg #[.slice A n c]] w (λv w'=>∃b:Bool,v=.tuple #[.bool b,aj (vN M)]/\St w w' []):=by
 have hl:=hR.len;have h5:=hM.1;have h4:=hM.2.1;have ko:=Cm M M.length;have k6:=wC M;have iO:=hR.qc (k:=0) ac ac;refine bn func41 O ntmps41 O (mI O) (aY O (rf (St.refl w) O O ?_));intro A1 w1 ax;refine aq O (cG 0 (ax.rd 0 O) O O O (aI (UU A n c rs M _ (ax.bU hR) hM) O ?_));rintro _ w2 Pb;obtain⟨_,AR,cR,AD,cD,jt,rfl,xb,aw⟩:=Pb.resolve_left λh=>absurd h.1 ac
 have hP:=Rn hM vr;have az:=ax.call aw;clear aw ax;refine aq O (u9 az O ?_);intro A4 w3 aM;refine dU 3 0 aM O O O O O O O ?_;intro w4 aU;have aU:St w w4 (bS A4 (M.length:Int) AR (a8 M M.length) cR AD (a8 M M.length) cD::(av 2 AR (a8 M M.length) cR (ct M M.length)::((aV 27 2 AD (a8 M M.length) cD jt (cd M)++[])++[Bx 32 1 A1 [.slice A n c]]))):=aU;have s7:bu w4 AR (ct M M.length).length (ct M M.length):=by rw[ko];exact aU.bF 1 O
 have jP:bH w4 AD (cd M).length jt (cd M):=by
  rw[k6];have h9:=aU.sub (show(aV 27 2 AD (a8 M M.length) cD jt (cd M)).Sublist _ from List.Sublist.cons _ (List.Sublist.cons _ (by rw[dQ];exact ny _ _)));exact h9.tB k6
 have kq:=aU.rd 0 O;have fh:Rd w4 A1 1 (λ_=>.slice A n c):=by
  have h9:=aU.sub (show List.Sublist [Bx 32 1 A1 [.slice A n c]] _ from List.Sublist.cons _ (List.Sublist.cons _ (fj _ _)));exact Rd.one (h9.rd 0 O)
 refine aq O ?_
 first|refine cO rfl rfl ?_|refine dv rfl rfl ?_
 refine ay O (Cd.cX O (aC O (cG 2 kq O O O ?_)));refine auM (agA M.length AR AD cR cD (ct M M.length) jt (cd M) _ s7 jP hP) O (by rw[ko,k6];rfl) O ?_;rintro _ w5 ⟨Af,cf,HZ,rfl,Hh,aw⟩;have aO:=aU.ao aw.below;have yk:=s7.ao aw.below;have Ow:=jP.ao aw.below;have kE:=Rd.below kq aw.below;have fh:=Rd.below fh aw.below
 by_cases fk:(eH M.length (ct M M.length) (cd M)).length<=400
 ·
  have hL:Ch M.length (ct M M.length) (cd M)=eH M.length (ct M M.length) (cd M):=by unfold Ch;rw[if_pos fk]
  have hK:Cg M.length (ct M M.length) (cd M)=0:=by unfold Cg;rw[if_pos fk]
  have wX:vN M=0:=by unfold vN;rw[if_neg (by show ¬(500<a8 M M.length\/400<(eH M.length (ct M M.length) (cd M)).length);omega)]
  rw[hL]at Hh aw|-;rw[hK,wX];have zY:bH w5 Af (eH M.length (ct M M.length) (cd M)).length HZ (eH M.length (ct M M.length) (cd M)):=by
   rw[dQ]at aw;exact aw.tB O
  refine aq O (b9 22 O (λ_=>?_) (λh=>absurd O h));refine ar O (aq O (ar O ?_));refine aI (BH _ _ _ _) O ?_;rintro _ w5 ⟨rfl,rfl⟩;refine ar O (aI (Cf A1 A n c rs M _ _ fh O (aO.bU hR) ac) O ?_);rintro _ w5 ⟨rfl,rfl⟩;refine ar O (aq O ?_);refine b9 28 O (λh6=>?_) (λh6=>?_)
  ·refine ar O (cG 2 kE O O O ?_);refine ar O (aq O (ar O ?_));refine auM (alQ M.length AR AD cR cD (ct M M.length) jt (cd M) Af cf HZ _ (hT.ao aO.below) yk Ow hP zY fk) O (by rw[ko,k6];rfl) O ?_;rintro _ w6 ⟨b,rfl,rL⟩;refine bR O (uI O O ?_);exact⟨b,O,(aO.ao rL.below).none⟩
  refine aB O (aB O (aB O (bR O ?_)));exact uI O O ⟨false,O,aO.none⟩
 have hL:Ch M.length (ct M M.length) (cd M)=[]:=by unfold Ch;rw[if_neg fk]
 have hK:Cg M.length (ct M M.length) (cd M)=3:=by unfold Cg;rw[if_neg fk]
 have wX:vN M=3:=by unfold vN;rw[if_pos (.inr (by show 400<(eH M.length (ct M M.length) (cd M)).length;omega))]
 rw[hL]at Hh aw|-;rw[hK,wX];refine aq O (b9 22 O (λh=>absurd h am) (λ_=>?_));refine aB O (aB O (aB O (aB O (aq O (aB O (aB O (aB O (bR O ?_))))))));exact uI O O ⟨false,O,aO.none⟩
theorem amJ(n:Int)(A D:ai)(cA cD:Nat)(R:ah)(rs:List aE)(B:ag)(w:aa)(hR:bu w A R.length R)(hB:bH w D B.length rs B)(hP:gN n R B):
 aF prog 145 [.agg #[aj n,.slice A R.length cA,.slice D B.length cD]] w (λv w'=>∃A' n' c',v=.slice A' n' c'/\St w w' []):=by
 have hn:=hP.n1;have ou:=hP.qm;have hle:=hP.len;have bT:∀e:Int,0<=e->e<R.length->(gl B e).length<=500:=λe h0 h=>by
  have:=tv (N:=R.length) (hP.at_ h0 h).1.nodup λx hx=>by have:=((hP.at_ h0 h).2.1 x hx).1;omega
  omega
 have jH:=λ(e:Int)(h0:0<=e)(h:e<(R.length:Int))=>hP.ri h0 h
 obtain⟨N,hN⟩:∃N,R.length=N:=⟨_,rfl⟩;rw[hN]at hR ou hle bT jH|-;rw[hle]at hB|-;refine bn func145 O ntmps145 O (bM O) (aY O (og (St.refl w) O O ?_));intro A1 w1 ax;have h1:Rd w1 A1 3 (λj=>[Value.int .i64 n,.slice A N cA,.slice D N cD].getD j undef):=ax.rd 0 O;have hR:=ax.dq hR;have hB:=ax.bU hB;have ax:=ax.none;refine aq O (aS h1 O (auP (j:=1) h1 (by exact aQ Value.pointer O) O O O O ?_));refine aR O O (ay O ?_);refine Cd.loop (α:=Nat) (λi=>[(1,.pointer A1),(3,aj N),(4,aj i)]) (λi w'=>w'=w1/\(i:Int)<=n) (λi=>n.toNat-i) 0 (auV O) ⟨O,by show((0:Nat):Int)<=n;omega⟩ ?_;rintro i e w2 ⟨rfl,hi⟩;refine aY O (aS h1 O (fX (j:=0) h1 (by exact aQ Value.pointer O) O O O O (ay O ?_)));refine aK _ O (λh2=>?_) (λh2=>?_)
 ·refine cM O (Cd.loop (α:=Nat) (λz=>[(1,.pointer A1),(3,aj N),(4,aj i),(5,aj ((z:Int)-1))]) (λz w'=>w'=w2/\z<=N+1) (λz=>N+1-z) 0 (auV O) ⟨O,bl _⟩ ?_);rintro z e w3 ⟨rfl,hz⟩;obtain⟨a,ha⟩:∃a:Int,(z:Int)-1=a:=⟨_,rfl⟩;have YJ:a+1=((z+1:Nat):Int)-1:=by omega
  have KY:N+1-(z+1)<N+1-z\/¬a<(N:Int):=by omega
  rw[ha];refine bC O (aK _ O (λh3=>?_) (λh3=>?_))
  ·have KY:=KY.resolve_right λh=>h h3
   refine xL 4 O (lH (α:=Bool) (λs=>[(1,.pointer A1),(3,aj N),(4,aj i),(5,aj a),(41,.bool s)]) (λ_ w'=>w'=w3) ?_ ?_)
   ·refine aY O (MC O O O ?_);rw[ZZ];refine aq O (b9 28 O (λp1=>?_) (λp1=>?_))
    ·refine aB O (aB O (aB O (cW O O O O (cW O O O O (cW O O O O (cW O O O O (cW O O O O (cW O O O O (cW O O O O (cW O O O O (aB O ?_)))))))))));refine aN O (tQ ?_);exact⟨_,(auV O),O⟩
    ·refine ar O (aq O (ar O (aq O (ar O (aq O ?_)))));refine b9 31 O (λp2=>?_) (λp2=>?_)
     ·skip
      refine ar O (aS h1 O (ar O (auP (j:=1) h1 (by exact aQ Value.pointer O) O O O O ?_)));refine ar O (aq O (ar O ?_));refine aA hR.2 O (ar O (bg hR O ?_));refine ar O (aq O (ar O (cV O (ar O (aq O (ar O (aN O (tQ ?_))))))));exact⟨_,(auV O),O⟩
     ·refine aB O (aB O (aB O (aB O (aB O (aB O (aB O (aB O (ar O (aN O (tQ ?_))))))))));exact⟨_,(auV O),O⟩
   rintro s e w4 rfl;cases s with
   |true => --dup 2
    refine Cd.iw O (aC O (aJ O (aN O (tQ ?_))));exact⟨z+1,KY,⟨O,O,O,aQ (Value.int .i64) YJ,au⟩,O,ac⟩
   |false=>
   refine Cd.cX O (cM O ?_);refine Cd.loop (α:=Nat) (λy=>[(1,.pointer A1),(3,aj N),(4,aj i),(5,aj a),(6,aj ((y:Int)-1))]) (λy w'=>w'=w4/\y<=N+1) (λy=>N+1-y) 0 (auV O) ⟨O,bl _⟩ ?_;rintro y e w5 ⟨rfl,hy⟩;obtain⟨b,hb⟩:∃b:Int,(y:Int)-1=b:=⟨_,rfl⟩;have KW:b+1=((y+1:Nat):Int)-1:=by omega
   have Bn:N+1-(y+1)<N+1-y\/¬b<(N:Int):=by omega
   rw[hb];refine bC O (aK _ O (λh5=>?_) (λh5=>?_))
   ·have Bn:=Bn.resolve_right λh=>h h5
    refine xL 4 O (lH (α:=Bool) (λs=>[(1,.pointer A1),(3,aj N),(4,aj i),(5,aj a),(6,aj b),(86,.bool s)]) (λ_ w'=>w'=w5) ?_ ?_)
    ·refine aY O (aS h1 O (fX (j:=0) h1 (by exact aQ Value.pointer O) O O O O ?_));refine cV O (aq O ?_);refine MC O O O ?_;rw[ZZ];refine aq O (b9 55 O (λp1=>?_) (λp1=>?_))
     ·refine aB O (aB O (aB O (cW O O O O (cW O O O O (cW O O O O (cW O O O O (cW O O O O (cW O O O O (cW O O O O (cW O O O O (aB O ?_)))))))))));refine aq O (aB O (aB O (aB O (cW O O O O (cW O O O O (aB O (aB O (cW O O O O (cW O O O O (cW O O O O (cW O O O O ?_)))))))))));refine cW O O O O (cW O O O O (cW O O O O (cW O O O O (aB O (aN O (tQ ?_))))));exact⟨_,(auV O),O⟩
     ·refine ar O (aq O (ar O (aq O (ar O (aq O ?_)))));refine b9 58 O (λp2=>?_) (λp2=>?_)
      ·have yL:=hB.at_ (i:=b) ac ac;have hrnb:=yL.1;have Yf:=bT b ac ac;refine ar O (aS h1 O (ar O (auP (j:=1) h1 (by exact aQ Value.pointer O) O O O O ?_)));refine ar O (aq O (ar O ?_));refine aA hR.2 O (ar O (bg hR O ?_));have hrib:=jH (b:Int) ac ac;refine ar O (aq O (ar O (aJ O (ar O (aq O (ar O (aq O ?_)))))));refine b9 69 O (λp3=>?_) (λp3=>?_)
       ·refine aB O (aB O (aB O (cW O O O O (cW O O O O (aB O (aB O (cW O O O O (cW O O O O (cW O O O O (cW O O O O (cW O O O O ?_)))))))))));refine cW O O O O (cW O O O O (cW O O O O (aB O (aN O (tQ ?_)))));exact⟨_,(auV O),O⟩
       ·refine ar O (aq O (ar O (aq O (ar O (aq O ?_)))));refine b9 72 O (λp4=>?_) (λp4=>?_)
        ·refine ar O (aq O (ar O (aq O (ar O (aq O (ar O (aq O ?_)))))));refine b9 76 O (λp5 => ?_) (λp5 => absurd p2 p5) --t
         refine ar O (aS h1 O (ar O (auP (j:=2) h1 (by exact aQ Value.pointer O) O O O O ?_)));refine ar O (aq O (ar O ?_));refine aA hB.top.2 O (ar O (bw hB.top O ?_));refine ar O (aq O (ar O ?_));refine aI (uy _ _ _ (gl B b) a _ yL ac) O ?_;rintro _ w9 ⟨rfl,rfl⟩;refine ar O ?_
         first|refine cO rfl rfl ?_|refine dv rfl rfl ?_
         refine ar O (aN O (tQ ?_));exact⟨_,(auV O),O⟩
        ·refine aB O (aB O (ar O (aq O (ar O (aq O (aB O (aB O (aB O (aB O (aB O (aB O ?_)))))))))));refine aB O (aB O (ar O (aN O (tQ ?_))));exact⟨_,(auV O),O⟩
      ·refine aB O (aB O (aB O (aB O (aB O (aB O (aB O (aB O (ar O (aq O (ar O (aq O ?_)))))))))));refine ar O (aq O (ar O (aq O ?_)));refine b9 72 O (λp4=>?_) (λp4=>?_)
       ·refine ar O (aq O (ar O (aq O (ar O (aq O (ar O (aq O ?_)))))));refine b9 76 O (λp5 => absurd p5 p2) (λp5 => ?_) --f
        refine aB O (aB O (aB O (aB O (aB O (aB O (aB O (aB O (ar O (aN O (tQ ?_))))))))));exact⟨_,(auV O),O⟩
       ·refine aB O (aB O (ar O (aq O (ar O (aq O (aB O (aB O (aB O (aB O (aB O (aB O ?_)))))))))));refine aB O (aB O (ar O (aN O (tQ ?_))));exact⟨_,(auV O),O⟩
    rintro s e w6 rfl;cases s with
    |true => --dup 2
     refine Cd.iw O (aC O (aJ O (aN O (tQ ?_))));exact⟨y+1,Bn,⟨O,O,O,O,aQ (Value.int .i64) KW,au⟩,O,ac⟩
    |false=>
    refine Cd.cX O (cM O ?_);refine Cd.loop (α:=Nat×Nat) (λz=>[(1,.pointer A1),(3,aj N),(4,aj i),(5,aj a),(6,aj b),(7,aj (z.2:Int)),(8,aj (z.1:Int))]) (λz w'=>w'=w6/\z.1<=N/\z.2<=z.1) (λz=>N-z.1) (0,0) (auV O) ⟨O,bl _,bl _⟩ ?_;rintro⟨m,k⟩ e w7 ⟨rfl,hm,hk⟩;dsimp only at hm hk|-;refine bC O (aK _ O (λh7=>?_) (λh7=>?_))
    ·have Yg:=hB.at_ (i:=(m:Int)) ac ac;have hrnm:=Yg.1;have hrlm:=bT (m:Int) ac ac;have G4:N-(m+1)<N-m:=by omega
     have yL:¬b<0->bu w7 (rg rs b).a (rg rs b).n (gl B b)/\(rg rs b).n<=500:=λh=>by
      have h9:=hB.at_ (i:=b) ac ac;exact⟨h9,by rw[<-h9.1];exact bT b ac ac⟩
     refine xL 3 O (lH (α:=Bool) (λs=>[(1,.pointer A1),(3,aj N),(4,aj i),(5,aj a),(6,aj b),(7,aj k),(8,aj m),(124,.bool s)]) (λ_ w'=>w'=w7) ?_ ?_)
     ·skip
      refine aY O (aS h1 O (auP (j:=1) h1 (by exact aQ Value.pointer O) O O O O (aq O (aA hR.2 O (bg hR O (aq O ?_))))));refine b9 99 O (λp1=>?_) (λp1=>?_)
      ·refine ar O (aq O (ar O (aq O (ar O (aq O ?_)))));refine b9 102 O (λp2=>?_) (λp2=>?_)
       ·refine aB O (aB O (aB O (aB O (aB O (aB O (aB O (ar O (aq O (ar O (aq O (ar O ?_)))))))))));refine aq O (ar O (aq O ?_));refine b9 115 O (λp4=>?_) (λp4=>?_)
        ·refine aB O (aB O (aB O (aB O (aB O (aB O (aB O (ar O (aN O (tQ ?_)))))))));exact⟨_,(auV O),O⟩
        ·obtain⟨yL,Yf⟩:=yL p4;refine ar O (aS h1 O (ar O (auP (j:=2) h1 (by exact aQ Value.pointer O) O O O O ?_)));refine ar O (aq O (ar O ?_));refine aA hB.top.2 O (ar O (bw hB.top O ?_));refine ar O (aq O (ar O ?_));refine aI (uy _ _ _ (gl B b) m _ yL ac) O ?_;rintro _ w9 ⟨rfl,rfl⟩;refine ar O (aN O (tQ ?_));exact⟨_,(auV O),O⟩
       ·skip
        refine ar O (aS h1 O (ar O (auP (j:=2) h1 (by exact aQ Value.pointer O) O O O O ?_)));refine ar O (aq O (ar O ?_));refine aA hB.top.2 O (ar O (bw hB.top O ?_));refine ar O (aq O (ar O ?_));refine aI (uy _ _ _ (gl B m) a _ Yg ac) O ?_;rintro _ w9 ⟨rfl,rfl⟩;refine ar O (aq O ?_);refine b9 112 O (λp3=>?_) (λp3=>?_)
        ·refine ar O (aq O (ar O (aq O (ar O (aq O ?_)))));refine b9 115 O (λp4=>?_) (λp4=>?_)
         ·refine aB O (aB O (aB O (aB O (aB O (aB O (aB O (ar O (aN O (tQ ?_)))))))));exact⟨_,(auV O),O⟩
         ·obtain⟨yL,Yf⟩:=yL p4;refine ar O (aS h1 O (ar O (auP (j:=2) h1 (by exact aQ Value.pointer O) O O O O ?_)));refine ar O (aq O (ar O ?_));refine aA hB.top.2 O (ar O (bw hB.top O ?_));refine ar O (aq O (ar O ?_));refine aI (uy _ _ _ (gl B b) m _ yL ac) O ?_;rintro _ w9 ⟨rfl,rfl⟩;refine ar O (aN O (tQ ?_));exact⟨_,(auV O),O⟩
        ·refine aB O (aB O (aB O (cW O O O O (cW O O O O (cW O O O O (cW O O O O (cW O O O O (cW O O O O (cW O O O O (aB O (aN O ?_)))))))))));exact tQ ⟨_,(auV O),O⟩
      ·refine aB O (aB O (aB O (cW O O O O (cW O O O O (cW O O O O (cW O O O O (cW O O O O (cW O O O O (cW O O O O (aB O (aq O ?_)))))))))));refine aB O (aB O (aB O (cW O O O O (cW O O O O (cW O O O O (cW O O O O (cW O O O O (cW O O O O (cW O O O O (aB O (aN O ?_)))))))))));exact tQ ⟨_,(auV O),O⟩
     rintro s e w8 rfl;cases s with
     |true => --dup 2
      refine Cd.iw O (aC O (aJ O (aq O (aJ O (aN O (tQ ?_))))));exact⟨(m+1,k+1),G4,(auV O),O,by show m+1<=N;omega,by show k+1<=m+1;omega⟩
     |false=>
      refine Cd.cX O (aC O (aJ O (aN O (tQ ?_))));exact⟨(m+1,k),G4,(auV O),O,by show m+1<=N;omega,by show k<=m+1;omega⟩
    ·refine ba O (bc (kX O ?_));refine aK _ O (λh8=>?_) (λh8=>?_)
     ·refine aC O (rh [(i:Int),a,b] ax O O am am O O λA9 w9 bj=>bR O (fz (fe (fz (fe (fz (fe ?_)))))));exact dV O ⟨A9,3,3,O,bj.none⟩
     ·refine aC O (aJ O (aN O (tQ ?_)));exact⟨y+1,Bn,⟨O,O,O,O,aQ (Value.int .i64) KW,au⟩,O,ac⟩
   ·refine ba O (bc (bY O (aJ O (aN O (tQ ?_)))));exact⟨z+1,KY,⟨O,O,O,aQ (Value.int .i64) YJ,au⟩,O,ac⟩
  ·refine ba O (bc (bY O (aJ O (aN O (tQ ?_)))));exact⟨i+1,by show n.toNat-(i+1)<n.toNat-i;omega,(auV O),O,by show((i+1:Nat):Int)<=n;omega⟩
 ·refine ba O (bc (bY O ?_));refine jy ax O λA9 w9 bj=>bR O (dV O ?_);exact⟨A9,0,0,O,bj.none⟩
theorem amT(n:Int)(A D:ai)(cA N m cD:Nat)(Af:ai)(nf cf:Nat)(rs:List aE)(fl:ag)(w:aa)(hF:bH w Af nf rs fl)(hN:N<=500)(hr:∀l∈fl,l.length<=1000/\∀x∈l,0<=x/\x<(N:Int))(G3:nf<=100000):
 aF prog 144 [.agg #[aj n,.slice A N cA,.slice D m cD],.slice Af nf cf] w (λv w'=>∃b:Bool,v=.bool b/\St w w' []):=by
 have fk:=hF.len;refine bn func144 O ntmps144 O (bM O) (aY O (og (St.refl w) O O ?_));intro A1 w1 ax;have h1:Rd w1 A1 3 (λj=>[Value.int .i64 n,.slice A N cA,.slice D m cD].getD j undef):=ax.rd 0 O;refine aq O (aS h1 O (a6 h1 O (aR O O (wb (v:=false) N ax O O ac ?_))));intro A5 w2 az;have az:St w w2 [fB 4 A5 N N (List.replicate N false),bS A1 n A N cA D m cD]:=az;refine ay O ?_;refine Cd.loop (α:=Nat×Nat×List Bool) (λz=>[(1,.slice Af nf cf),(2,.pointer A1),(5,.slice A5 N N),(6,aj (z.2.1:Int)),(7,aj (z.1:Int))]) (λz w'=>z.1<=nf/\z.2.1<=1000*z.1/\z.2.2.length=N/\St w w' [fB 4 A5 N N z.2.2,bS A1 n A N cA D m cD]) (λz=>nf-z.1) (0,0,_) (auV O) ⟨bl _,bl _,by simp,az⟩ ?_;clear az ax h1;rintro⟨i,k,L⟩ e w3 ⟨hi,hk,hL,hS⟩;dsimp only at hi hk hL hS|-;refine aY O (aR O O (ay O ?_));refine aK _ O (λh2=>?_) (λh2=>?_)
 ·have nM:i<fl.length:=by omega
  have iq:gl fl i∈fl:=by rw[df nM];exact dt _
  have jH:=hr _ iq;have jb:=((hS.bU hF).at_ (i:=(i:Int)) ac ac).1;refine cM O (Cd.loop (α:=Nat×Nat×List Bool) (λz=>[(1,.slice Af nf cf),(2,.pointer A1),(5,.slice A5 N N),(6,aj (z.2.1:Int)),(7,aj i),(8,aj (z.1:Int))]) (λz w'=>z.1<=(rg rs i).n/\z.2.1<=1000*i+z.1/\z.2.2.length=N/\St w w' [fB 4 A5 N N z.2.2,bS A1 n A N cA D m cD]) (λz=>(rg rs i).n-z.1) (0,k,L) (auV O) ⟨bl _,hk,hL,hS⟩ ?_);clear hS hk hL;rintro⟨j,k,L⟩ e w4 ⟨hj,hk,hL,hS⟩;dsimp only at hj hk hL hS|-;have hM:=hS.bU hF;have fJ:=hM.at_ (i:=(i:Int)) ac ac;refine aY O (aA hM.top.2 O (bw hM.top O ?_));refine aR O O (ay O ?_);refine aK _ O (λh3=>?_) (λh3=>?_)
  ·have gp:j<(gl fl i).length:=by omega
   have hx:=jH.2 _ (gi_in gp);obtain⟨x,Qu⟩:∃x:Nat,gi (gl fl i) j=x:=⟨(gi (gl fl i) j).toNat,ac⟩;rw[Qu]at hx;refine aC O (aA hM.top.2 O (bw hM.top O (aq O (aA fJ.2 O (bg fJ O ?_)))));rw[Qu];refine aA (hS.iQ 0 O).2 O (rj (hS.iQ 0 O) O ac O O ?_);generalize Ei:gb L x=bb at*;cases bb with
   |false => --dup 2
    first|refine cO rfl rfl ?_|refine dv rfl rfl ?_
    refine ay O (Cd.iw O (aC O (aA hM.top.2 O (bw hM.top O (aq O (aA fJ.2 O (bg fJ O ?_)))))));rw[Qu];refine aA (hS.iQ 0 O).2 O (pn 0 hS O O O ac ?_);intro w5 aO;refine aq O (aJ O (aq O (aJ O (aN O (tQ ?_)))));exact⟨(j+1,k+1,_),by show(rg rs i).n-(j+1)<(rg rs i).n-j;omega,(auV O),by show j+1<=_;omega,by show k+1<=1000*i+(j+1);omega,by rw[fR];exact hL,aO⟩
   |true=>
    first|refine cO rfl rfl ?_|refine dv rfl rfl ?_
    refine ay O (Cd.cX O ?_);refine aC O (aJ O (aN O (tQ ?_)));exact⟨(j+1,k,L),by show(rg rs i).n-(j+1)<(rg rs i).n-j;omega,(auV O),by show j+1<=_;omega,by show k<=1000*i+(j+1);omega,hL,hS⟩
  ·refine ba O (bc (bY O (aJ O (aN O (tQ ?_)))));exact⟨(i+1,k,L),by show nf-(i+1)<nf-i;omega,(auV O),by show i+1<=nf;omega,by show k<=1000*(i+1);omega,hL,hS⟩
 ·skip
  have h1:Rd w3 A1 3 (λj=>[Value.int .i64 n,.slice A N cA,.slice D m cD].getD j undef):=hS.rd 1 O;refine ba O (bc (bY O ?_));refine aS h1 O (a6 h1 O ?_);refine aR O O (bR O ?_);exact cK O ⟨_,O,hS.none⟩
theorem amO(A:ai)(N c:Nat)(rs:List aE)(fl:ag)(n:Nat)(w:aa)(hM:bH w A N rs fl)(JS:0<N)(hN:N<=400)(hn:n<=5)(hl:∀x∈fl,x.length=n)(lZ:fl.Nodup):
 aF prog 146 [.slice A N c] w (λv w'=>∃A' n' c',v=.slice A' n' c'/\St w w' []):=by
 have fk:=hM.len;have ng:∀f:Nat,f<N->gl fl f∈fl:=λf hf=>by rw[df (by omega)];exact dt _
 have br:∀f:Nat,f<N->(rg rs f).n=n:=λf hf=>by
  have:=(hM.at_ (i:=(f:Int)) ac ac).1;rw[<-this];exact hl _ (ng f hf)
 have h2n:2^n<=32:=je (Nat.pow_le_pow_right am hn) am;refine bn func146 O ntmps146 O (bM O) (aY O (aI (amN A N c rs fl n w hM JS hN hn hl lZ) O ?_));rintro _ w1 ⟨A3,c3,os,rss,rfl,JT⟩;have hR:=JT.rd;have tX:=JT.st.none;have hM:=JT.st.bU hM;clear JT;refine jy (St.refl w1) O λA4 w2 az=>ay O (Cd.loop (α:=Nat×(ai×Nat)×List aE×ag) (λz=>[(0,.slice A N c),(3,.slice A3 n c3),(4,.slice z.2.1.1 z.1 z.2.1.2),(5,aj (z.1:Int))]) (λz w'=>z.1<=2^n/\z.2.2.1.length=z.1/\z.2.2.2.length=z.1/\(∀q:Nat,q<z.1->(gl z.2.2.2 q).length=N)/\St w1 w' (aV 27 2 z.2.1.1 z.1 z.2.1.2 z.2.2.1 z.2.2.2++[])) (λz=>2^n-z.1) (0,(A4,0),[],[]) (auV O) ⟨bl _,O,O,λq h=>absurd h (kY _),az⟩ ?_);clear az;rintro⟨m,⟨A4,c4⟩,bZ,Ls⟩ e w3 ⟨hm,bT,pB,pA,hS⟩;dsimp only at hm bT pB pA hS|-;refine aY O (aR O O ?_);refine lL O O (rS _ ac) (Tr O O hn O (ay O ?_));refine aK _ O (λh1=>?_) (λh1=>?_)
 ·have G1:m<2^n:=by omega
  refine aC O (aR O O (aq O ?_));refine aI (amM A3 c3 os rss fl n N m w3 fk (hR.ao hS.below) ac hN hn) O ?_;rintro _ w4 ⟨A9,c9,L,rfl,hL,aw⟩;have aU:=hS.call aw;refine jW aU O O O λA8 w5 aO=>iT 2 aO O (aO.dm 0 O) O O O ac ac O ?_;intro AZ cZ w6 bk;have bk:=bk.tail;have bp:St w1 w6 (av 2 A9 N c9 L::aX 27 AZ (m+1) cZ (bZ++[⟨A9,N,c9⟩])::(cC 2 bZ Ls++[])):=bk;have bp:=bp.perm (aap _ _ _ _);rw[<-Dp (by omega)]at bp;refine aq O (aJ O (aN O (tQ ?_)));refine⟨(m+1,(AZ,cZ),bZ++[⟨A9,N,c9⟩],Ls++[L]),by show 2^n-(m+1)<2^n-m;omega,(auV O),by show m+1<=2^n;omega,by simp[bT],by simp[pB],λq hq=>?_,(by exact bp)⟩;have hq:q<m+1:=hq;have e9:gl (Ls++[L]) q=if q<m then gl Ls q else L:=by
   rw[df (by simp;omega)]
   by_cases c:q<m
   ·rw[aG c,df (by omega),List.getElem_append_left (by omega)]
   obtain rfl:q=m:=by omega
   rw[aD c];simp[pB]
  show(gl (Ls++[L]) q).length=N;rw[e9]
  split
  ·exact pA q (by assumption)
  exact hL.1
 have Kq:m=2^n:=by omega
 have jq:bH w3 A4 m bZ Ls:=by
  rw[dQ]at hS;exact hS.tB pB
 have tW:=hM.ao hS.below;have aM:=tX.ao hS.below;clear hS hR hM tX;refine ba O (bc (kX O ?_));refine Cd.loop (α:=Nat) (λa=>[(0,.slice A N c),(4,.slice A4 m c4),(6,aj a)]) (λa w'=>a<=N/\St w3 w' []) (λa=>N-a) 0 (auV O) ⟨bl _,St.refl _⟩ ?_;rintro a e w4 ⟨ha,hS⟩;refine aY O (aR O O (ay O ?_));refine aK _ O (λh2=>?_) (λh2=>?_)
 ·have wK:a<N:=by omega
  refine aC O (aJ O (ay O ?_));refine Cd.loop (α:=Nat) (λb=>[(0,.slice A N c),(4,.slice A4 m c4),(6,aj a),(7,aj b)]) (λb w'=>(a<b/\b<=N)/\St w3 w' []) (λb=>N-b) (a+1) (auV O) ⟨⟨Nat.lt_succ_self _,wK⟩,hS⟩ ?_;clear hS;rintro b e w5 ⟨⟨gr,Eg⟩,hS⟩;refine aY O (aR O O (ay O ?_));refine aK _ O (λh3=>?_) (λh3=>?_)
  ·have hb:b<N:=by omega
   have Kt:=br a wK;have XB:=br b hb;refine cM O (Cd.loop (α:=Nat×Nat) (λz=>[(0,.slice A N c),(4,.slice A4 m c4),(6,aj a),(7,aj b),(8,aj (z.2:Int)),(9,aj (z.1:Int))]) (λz w'=>z.1<=n/\z.2<2^z.1/\St w3 w' []) (λz=>n-z.1) (0,0) (auV O) ⟨bl _,Nat.one_pos,hS⟩ ?_);clear hS;rintro⟨i,K⟩ e w6 ⟨hi,Ks,hS⟩;dsimp only at hi Ks hS|-;have oZ:=tW.ao hS.below;have lp:=oZ.at_ (i:=(a:Int)) ac ac;have lr:=oZ.at_ (i:=(b:Int)) ac ac;have GY:=lp.1;have Ko:=lr.1;have h2i:2^i<=32:=je (Nat.pow_le_pow_right am (show i<=5 by omega)) am;refine aY O (aA oZ.top.2 O (bw oZ.top O ?_));refine aR O O (ay O ?_);refine aK _ O (λh4=>?_) (λh4=>?_)
   ·have cE:i<n:=by omega
    refine cM O ?_;refine ec [xS (A) (N) (c),xI ((a:Int)),xP (aH (A) ((a:Int)).toNat),xS ((rg (rs) ((a:Int))).a) ((rg (rs) ((a:Int))).n) ((rg (rs) ((a:Int))).c),xI ((i:Int)),xP (aH ((rg (rs) ((a:Int))).a) ((i:Int)).toNat),xI (gi (gl fl a) ((i:Int))),xS (A) (N) (c),xI ((b:Int)),xP (aH (A) ((b:Int)).toNat),xS ((rg (rs) ((b:Int))).a) ((rg (rs) ((b:Int))).n) ((rg (rs) ((b:Int))).c),xI ((i:Int)),xP (aH ((rg (rs) ((b:Int))).a) ((i:Int)).toNat),xI (gi (gl fl b) ((i:Int))),xB (decide ((gi (gl fl a) ((i:Int)))=(gi (gl fl b) ((i:Int)))))] O (eK O) ?_ ?_
    ·exact⟨Dr O,Dr O,λ_ _ hb _ _=>aA (oZ.top.ao hb).2 O Az,λ_ _ hb _ _=>bw (oZ.top.ao hb) O Az,Dr O,λ_ _ hb _ _=>aA (lp.ao hb).2 O Az,λ_ _ hb _ _=>bg (lp.ao hb) O Az,Dr O,Dr O,λ_ _ hb _ _=>aA (oZ.top.ao hb).2 O Az,λ_ _ hb _ _=>bw (oZ.top.ao hb) O Az,Dr O,λ_ _ hb _ _=>aA (lr.ao hb).2 O Az,λ_ _ hb _ _=>bg (lr.ao hb) O Az,Dr O,au⟩
    intro u w7 s9 _;have bp:=hS.ao s9;refine fG O (aK _ O (λh5=>?_) (λh5=>?_))
    ·have h2s:2^ (i+1)=2^i*2:=Nat.pow_succ ..;refine aC O (lL O O (rS _ ac) (Tr O O ac O ?_));refine aJ O (aq O (aJ O (aN O (tQ ?_))));exact⟨(i+1,K+2^i),by show n-(i+1)<n-i;omega,(auV O),by show i+1<=n;omega,by show K+2^i<2^ (i+1);omega,bp⟩
    have h2s:2^ (i+1)=2^i*2:=Nat.pow_succ ..;refine aC O (aJ O (aN O (tQ ?_)));exact⟨(i+1,K),by show n-(i+1)<n-i;omega,(auV O),by show i+1<=n;omega,by show K<2^ (i+1);omega,bp⟩
   have pK:i=n:=by omega
   subst pK;have Gt:=jq.ao hS.below;have Hg:=Gt.at_ (i:=(K:Int)) ac ac;have hLK:=pA K ac;have hLKl:=hLK;have hrKn:=Hg.1;refine ba O (bc (kX O ?_));refine ec [xS (A4) (m) (c4),xI ((K:Int)),xP (aH (A4) ((K:Int)).toNat),xS ((rg (bZ) ((K:Int))).a) ((rg (bZ) ((K:Int))).n) ((rg (bZ) ((K:Int))).c),xI ((a:Int)),xP (aH ((rg (bZ) ((K:Int))).a) ((a:Int)).toNat),xI (gi (gl Ls K) ((a:Int))),xS (A4) (m) (c4),xI ((K:Int)),xP (aH (A4) ((K:Int)).toNat),xS ((rg (bZ) ((K:Int))).a) ((rg (bZ) ((K:Int))).n) ((rg (bZ) ((K:Int))).c),xI ((b:Int)),xP (aH ((rg (bZ) ((K:Int))).a) ((b:Int)).toNat),xI (gi (gl Ls K) ((b:Int))),xB (decide (¬(gi (gl Ls K) ((a:Int)))=(gi (gl Ls K) ((b:Int)))))] O (eK O) ?_ ?_
   ·exact⟨Dr O,Dr O,λ_ _ hb _ _=>aA (Gt.top.ao hb).2 O Az,λ_ _ hb _ _=>bw (Gt.top.ao hb) O Az,Dr O,λ_ _ hb _ _=>aA (Hg.ao hb).2 O Az,λ_ _ hb _ _=>bg (Hg.ao hb) O Az,Dr O,Dr O,λ_ _ hb _ _=>aA (Gt.top.ao hb).2 O Az,λ_ _ hb _ _=>bw (Gt.top.ao hb) O Az,Dr O,λ_ _ hb _ _=>aA (Hg.ao hb).2 O Az,λ_ _ hb _ _=>bg (Hg.ao hb) O Az,Dr O,au⟩
   intro u w7 s9 _;have bp:=hS.ao s9;refine fG O (aK _ O (λh5=>?_) (λh5=>?_))
   ·refine aC O (rh [(a:Int),(b:Int)] bp O O am am O O λA9 w8 bB=>bR O (fz (fe (fz (fe ?_)))));exact dV O ⟨A9,2,2,O,aM.call bB.none⟩
   refine aC O (aJ O (aN O (tQ ?_)));exact⟨b+1,by show N-(b+1)<N-b;omega,(auV O),⟨ac,ac⟩,bp⟩
  refine ba O (bc (bY O (aJ O (aN O (tQ ?_)))));exact⟨a+1,by show N-(a+1)<N-a;omega,(auV O),ac,hS⟩
 refine ba O (bc (bY O ?_));refine jy hS O λA9 w8 bB=>bR O (dV O ?_);exact⟨A9,0,0,O,aM.call bB.none⟩
theorem amQ(n:Nat)(A D:ai)(cA cD:Nat)(R:ah)(rs:List aE)(B:ag)(Af:ai)(cf:Nat)(fP:List aE)(w:aa)(hR:bu w A R.length R)(hB:bH w D B.length rs B)(hP:gN n R B)(hF:bH w Af (eH n R B).length fP (eH n R B))(Kf:(eH n R B).length<=400):
 aF prog 100 [.agg #[aj n,.slice A R.length cA,.slice D B.length cD],.slice Af (eH n R B).length cf] w (λv w'=>∃b:Bool,v=.bool b/\St w w' []):=by
 have hn:=hP.n1;have ou:=hP.qm;have AH:=Vd (n:=n) (R:=R) (B:=B) ac ou;have lZ:(eH n R B).Nodup:=(Vb n R B).nodup;refine bn func100 O ntmps100 O (bM O) (aY O (og (St.refl w) O O ?_));intro A1 w1 ax;have h1:Rd w1 A1 3 (λj=>[Value.int .i64 n,.slice A R.length cA,.slice D B.length cD].getD j undef):=ax.rd 0 O;have hR:=ax.dq hR;have hB:=ax.bU hB;have hF:=ax.bU hF;have ax:=ax.none;refine aq O (aR O O (aq O ?_));refine b9 8 O (λh2=>?_) (λh2=>?_)
 ·skip
  refine ar O (cG 2 h1 O O O ?_);refine ar O (aq O (ar O ?_));refine aI (amT n A D cA R.length B.length cD Af (eH n R B).length cf fP (eH n R B) _ hF ou (λl hl=>⟨by have:=(AH l hl).1;omega,(AH l hl).2⟩) ac) O ?_;rintro _ w2 ⟨b,rfl,aw⟩;have h1:=Rd.below h1 aw.below;have hR:=aw.dq hR;have hB:=aw.bU hB;have hF:=aw.bU hF;have ax:=ax.ao aw.below;clear aw;rw[MY b];refine aq O (b9 13 O (λh3=>?_) (λh3=>?_))
  ·refine ar O (cG 2 h1 O O O (ar O (aI (amJ n A D cA cD R rs B _ hR hB hP) O ?_)));rintro _ w3 ⟨A9,n9,c9,rfl,aw⟩;have hF:=aw.bU hF;have ax:=ax.ao aw.below;clear aw;refine ar O (aR O O (ar O (aq O ?_)));refine b9 19 O (λh4=>?_) (λh4=>?_)
   ·refine ar O (aq O (ar O ?_));refine aI (amO Af (eH n R B).length cf fP (eH n R B) n _ hF ac Kf ac (λx hx=>(AH x hx).1) lZ) O ?_;rintro _ w4 ⟨A8,n8,c8,rfl,aw⟩;have ax:=ax.ao aw.below;refine ar O (aR O O (ar O (bR O ?_)));exact cK O ⟨_,O,ax⟩
   refine aB O (aB O (aB O (aB O (bR O ?_))));exact cK O ⟨false,O,ax⟩
  refine aB O (aB O (aB O (aB O (aq O (aB O (aB O (aB O (aB O (bR O ?_)))))))));exact cK O ⟨false,O,ax⟩
 refine aB O (aB O (aB O (aq O (aB O (aB O (aB O (aB O (aq O (aB O (aB O (aB O ?_)))))))))));refine aB O (bR O ?_);exact cK O ⟨false,O,ax⟩
theorem amP(A:ai)(n c:Nat)(rs:List aE)(M:ag)(w:aa)(hR:bH w A n rs M)(hn9:n<=9223372036854775807)(hM:eY M)(vr:a8 M M.length<=500):
 aF prog 42 [.agg #[.slice A n c]] w (λv w'=>∃b:Bool,v=.tuple #[.bool b,aj (vN M)]/\St w w' []):=by
 have hl:=hR.len;have h5:=hM.1;have h4:=hM.2.1;have ko:=Cm M M.length;have k6:=wC M;have iO:=hR.qc (k:=0) ac ac;refine bn func42 O ntmps42 O (mI O) (aY O (rf (St.refl w) O O ?_));intro A1 w1 ax;refine aq O (cG 0 (ax.rd 0 O) O O O (aI (arI A n c rs M _ (ax.bU hR) hn9 hM) O ?_));rintro _ w2 Pb;obtain⟨_,AR,cR,AD,cD,jt,rfl,xb,aw⟩:=Pb.resolve_left λh=>absurd h.1 ac
 have hP:=Rn hM vr;have az:=ax.call aw;clear aw ax;refine aq O (u9 az O ?_);intro A4 w3 aM;refine dU 3 0 aM O O O O O O O ?_;intro w4 aU;have aU:St w w4 (bS A4 (M.length:Int) AR (a8 M M.length) cR AD (a8 M M.length) cD::(av 2 AR (a8 M M.length) cR (ct M M.length)::((aV 27 2 AD (a8 M M.length) cD jt (cd M)++[])++[Bx 32 1 A1 [.slice A n c]]))):=aU;have s7:bu w4 AR (ct M M.length).length (ct M M.length):=by rw[ko];exact aU.bF 1 O
 have jP:bH w4 AD (cd M).length jt (cd M):=by
  rw[k6];have h9:=aU.sub (show(aV 27 2 AD (a8 M M.length) cD jt (cd M)).Sublist _ from List.Sublist.cons _ (List.Sublist.cons _ (by rw[dQ];exact ny _ _)));exact h9.tB k6
 have kq:=aU.rd 0 O;have fh:Rd w4 A1 1 (λj=>[Value.slice A n c].getD j undef):=by
  have h9:=aU.sub (show List.Sublist [Bx 32 1 A1 [.slice A n c]] _ from List.Sublist.cons _ (List.Sublist.cons _ (fj _ _)));exact h9.rd 0 O
 refine ay O (Cd.cX O (aC O (cG 2 kq O O O ?_)));refine auM (amK M.length AR AD cR cD (ct M M.length) jt (cd M) _ s7 jP hP) O (by rw[ko,k6];rfl) O ?_;rintro _ w5 ⟨Af,cf,HZ,rfl,Hh,aw⟩;have aO:=aU.ao aw.below;have yk:=s7.ao aw.below;have Ow:=jP.ao aw.below;have kE:=Rd.below kq aw.below;have fh:=Rd.below fh aw.below;have wG:=aO.bU hR;refine aq O ?_
 first|refine cO rfl rfl ?_|refine dv rfl rfl ?_
 refine ay O (aK _ O (λh6=>?_) (λh6=>?_))
 ·have wX:vN M=3:=by unfold vN;rw[if_pos (.inr (by show 400<(eH M.length (ct M M.length) (cd M)).length;omega))]
  refine dE O (uI O O ?_);rw[wX];exact⟨false,O,aO.none⟩
 have fk:(eH M.length (ct M M.length) (cd M)).length<=400:=kW.1 h6;have wX:vN M=0:=by unfold vN;rw[if_neg (by show ¬(500<a8 M M.length\/400<(eH M.length (ct M M.length) (cd M)).length);omega)]
 have Ej:cap (eH M.length (ct M M.length) (cd M))=eH M.length (ct M M.length) (cd M):=zP ac;rw[Ej]at Hh aw|-;rw[wX];have zY:bH w5 Af (eH M.length (ct M M.length) (cd M)).length HZ (eH M.length (ct M M.length) (cd M)):=by
  rw[dQ]at aw;exact aw.tB O
 refine aC O (aR O O ?_);refine cG 0 fh O O O (aI (QH A n c rs M _ wG ac) O ?_);rintro _ w6 ⟨rfl,np⟩;have bk:=aO.ao np.below;have jh:=yk.ao np.below;have Cr:=Ow.ao np.below;have mZ:=Rd.below kE np.below;have hF6:=zY.ao np.below;refine aq O (b9 28 O (λh7=>?_) (λh7=>?_))
 ·refine ar O (cG 2 mZ O O O ?_);refine ar O (aq O (ar O ?_));refine auM (amQ M.length AR AD cR cD (ct M M.length) jt (cd M) Af cf HZ _ jh Cr hP hF6 fk) O (by rw[ko,k6];rfl) O ?_;rintro _ w7 ⟨b,rfl,rL⟩;refine bR O (uI O O ?_);exact⟨b,O,(bk.ao rL.below).none⟩
 refine aB O (aB O (aB O (bR O ?_)));exact uI O O ⟨false,O,bk.none⟩
def SO(M:ag)(w:aa)(v:ab)(w':aa):Prop:=∃b:Bool,v=.tuple #[.bool b,aj (vN M)]/\St w w' []
theorem als(A:ai)(n c:Nat)(rs:List aE)(M:ag)(w:aa)(hT:lh w)(hR:bH w A n rs M)(hn:n<=c)(hc:c<=9223372036854775807)(hM:eY M)(vr:a8 M M.length<=500):
 aF prog 14 [.agg #[.slice A n c]] w (SO M w):=by
 refine bn func14 O ntmps14 O (mI O) (aY O (rf (St.refl w) O O ?_));intro A1 w1 ax;refine aq O (cG 0 (ax.rd 0 O) O O O (aI (K3 A n c rs M _ (ax.bU hR) hn hc hM) O ?_));rintro _ w2 ⟨rfl,aw⟩;have az:=ax.ao aw.below
 first|refine cO rfl rfl ?_|refine dv rfl rfl ?_
 refine ay O (auT O (λh=>h hM) (aC O (cG 0 (az.rd 0 O) O O O (aI (alP A n c rs M _ (hT.ao az.below) (az.bU hR) hM vr) O ?_))));rintro _ w3 ⟨b,rfl,mB⟩;have aM:=az.ao mB.below;refine bR O (uI O O ?_);exact⟨b,O,aM.none⟩
theorem arJ(A:ai)(n c:Nat)(rs:List aE)(M:ag)(w:aa)(hR:bH w A n rs M)(hn:n<=9223372036854775807)(hM:eY M)(vr:a8 M M.length<=500):
 aF prog 15 [.agg #[.slice A n c]] w (SO M w):=by
 refine bn func15 O ntmps15 O (mI O) (aY O (rf (St.refl w) O O ?_));intro A1 w1 ax;refine aq O (cG 0 (ax.rd 0 O) O O O (aI (amP A n c rs M _ (ax.bU hR) hn hM vr) O ?_));rintro _ w2 ⟨b,rfl,aw⟩;refine bR O (uI O O ?_);exact⟨b,O,(ax.ao aw.below).none⟩
theorem alu(V:Int)(A:ai)(n c:Nat)(rs:List aE)(F:ag)(w:aa)(hT:lh w)(hR:bH w A n rs F)(hn:n<=9223372036854775807):
 aF prog 18 [.agg #[aj V,.slice A n c]] w (λv w'=>∃b:Bool,v=.tuple #[.bool b,aj (xh V F)]/\(b=true↔gm V F/\vd F)/\St w w' []):=by
 have lO:=hR.len;refine bn func18 O ntmps18 O (mI O) (aY O (nB (St.refl w) O O ?_));intro Ab w1 ax;refine aq O (cG 1 (ax.rd 0 O) O O O (aI (HA V A n c rs F _ (hT.ao ax.below) (ax.bU hR) hn) O ?_));rintro _ w2 ⟨rfl,aw⟩;have az:=ax.ao aw.below;unfold xh
 first|refine cO rfl rfl ?_|refine dv rfl rfl ?_
 refine ay O (aK _ O (λh1=>?_) (λh1=>?_))
 ·rw[aD h1];refine dE O (uI O O ?_);exact⟨false,rfl,⟨λh=>(by cases h),λh=>absurd h.1 h1⟩,az.none⟩
 have hC:=kW.1 h1;rw[aG hC];refine aC O (aI (alT Ab V A n c rs F _ (hT.ao az.below) (az.rd 0 O) (az.bU hR) hC) O ?_);rintro _ w3 ⟨b,rfl,hb,mB⟩;refine bR O (uI O O ?_);exact⟨b,O,hb.trans ⟨λh=>⟨hC,h⟩,λh=>h.2⟩,(az.ao mB.below).none⟩
theorem alp(k:Nat)(A D:ai)(cA cD M:Nat)(R:ah)(rs:List aE)(B:ag)(w:aa)(hR:bu w A M R)(hB:bH w D M rs B)(hP:gN ((k:Int)+1) R B)(Oz:sO R B):
 aF prog 21 [.agg #[aj ((k:Int)+1),.slice A M cA,.slice D M cD]] w (λv w'=>∃A' c',v=.tuple #[.slice A' (qn (k+1) R B).length c',aj 0]/\St w w' [av 2 A' (qn (k+1) R B).length c' (qn (k+1) R B)]):=by
 have ko:=hR.1;have k6:=hB.len;have Wp:=λw' (h1:bu w' A M R) (h2:bH w' D M rs B)=>K4 ((k:Int)+1) A D cA cD R rs B w' (ko.symm▸h1) (k6.symm▸h2) hP
 rw[ko,k6]at Wp;refine bn func21 O ntmps21 O (mI O) (aY O (og (St.refl w) O O ?_));intro A1 w1 ax;refine aq O (cG 2 (ax.rd 0 O) O O O (aI (Wp _ (ax.dq hR) (ax.bU hB)) O ?_));rintro _ w2 ⟨rfl,aw⟩;have az:=ax.ao aw.below;clear ax aw
 first|refine cO rfl rfl ?_|refine dv rfl rfl ?_
 refine ay O (Cd.cX O ?_);have hO:=hP.pob;rw[hR.1]at hO;have ko:=hR.1;have vr:=hP.qm;have hk5:=hP.n1;have b8:(oT (k+1) R).length=k+1:=Nc _ _;have WS:=λr (h:r<k+1)=>ae1 (R:=R) h
 have Wo:∀{w':aa}{ks:List Ck},St w w' ks->Rd w' A1 3 (λj=>[Value.int .i64 ((k:Int)+1),.slice A M cA,.slice D M cD].getD j undef)->zI w' A1 ((k:Int)+1) A D M cA cD R rs B:=λhS hb=>⟨hb,hS.dq hR,hS.bU hB⟩
 refine aC O (aI (alK A1 ((k:Int)+1) A D M cA cD R rs B _ (Wo az (az.rd 0 O)) hO) O ?_);rintro _ w3 ⟨b2,rfl,jR,aw⟩;have aM:=az.ao aw.below;clear az aw
 first|refine cO rfl rfl ?_|refine dv rfl rfl ?_
 refine ay O ?_;obtain rfl:=jR.2 Oz;refine Cd.cX O (aC O (eh aM O O O ?_));intro jn w4 aU;refine aI (aek A1 k A D M cA cD R rs B _ (Wo aU (aU.rd 1 O)) hO ac) O ?_;rintro _ w5 ⟨gK,mU,rfl,lr,aw⟩;have bT:=aen R B k;have iY:qn (k+1) R B=mS (oT (k+1) R) ([0]++rv R B k++[0]) (k+1):=O;generalize rv R B k=rk at*;have aO:=aU.call aw;refine eQ 1 aO O (aO.bF 0 O) O O O ?_;intro kV kZ w6 bk;have bk:St w w6 (av 2 gK k mU rk::av 2 kV (1+k) kZ ([0]++rk)::[FU A1 k A D M cA cD]):=bk;refine eh bk O O O λFm w7 bp=>eQ 2 bp O (bp.bF 0 O) O O O ?_;intro tF zM w8 bB;have bB:St w w8 (av 2 Fm 1 1 [0]::av 2 gK k mU rk::av 2 tF (1+k+1) zM ([0]++rk++[0])::[FU A1 k A D M cA cD]):=bB;clear aM aU aO bk bp aw;refine aq O ?_;refine aI (afi (k+1) A1 A D M M cA cD R _ (bB.rd 3 O) (bB.dq hR) (λx hx=>by have:=hP.jl x hx;omega) ac ac) O ?_;rintro _ w9 ⟨kK,nF,rfl,aw⟩;have bj:=bB.call aw;rw[b8]at bj;have Yb:∀j:Nat,j<=k+1->0<=gi ([0]++rk++[0]) j/\gi ([0]++rk++[0]) j<=1000:=λj hj=>by
  have:=gi_in (out:=[0]++rk++[0]) (i:=j) (by simp;omega);rcases dF.1 this with h|h
  ·rcases dF.1 h with h|h
   ·rw[eX.1 h];omega
   exact lr _ h
  rw[eX.1 h];omega
 generalize hrks:[0]++rk++[0]=qV at*;have bj:St w w9 (av 2 kK (k+1) nF (mS (oT (k+1) R) qV 0)::av 2 Fm 1 1 [0]::av 2 gK k mU rk::av 2 tF (1+k+1) zM qV::[FU A1 k A D M cA cD]):=by rw[aez];exact bj
 clear bB aw;rw[b8];refine aq O (aR O O (ay O ?_));refine Cd.loop (α:=Nat) (λz=>[(4,.slice tF (1+k+1) zM),(5,.slice kK (k+1) nF),(21,aj ((k+1:Nat):Int)),(22,aj z)]) (λz w'=>z<=k+1/\St w w' (av 2 kK (k+1) nF (mS (oT (k+1) R) qV z)::av 2 Fm 1 1 [0]::av 2 gK k mU rk::av 2 tF (1+k+1) zM qV::[FU A1 k A D M cA cD])) (λz=>k+1-z) 0 (auV O) ⟨bl _,bj⟩ ?_;clear bj;rintro i e dJ ⟨hi,hS⟩;refine bC O (aK _ O (λh1=>?_) (λh1=>?_))
 ·have fY:i<k+1:=by omega
  have hC:=hS.bF 0 O;have hK:=hS.bF 3 O;have h1:=Yb i ac;have h2:=Yb (i+1) ac;have h3:=WS i fY;have jQ:=aeA (c:=oT (k+1) R) (rk:=qV) (z:=i) ac;have ku:=aeB (c:=oT (k+1) R) (rk:=qV) (z:=i) ac;rw[show((i+1:Nat):Int)=(i:Int)+1 by omega]at h2;refine cM O ?_;refine iu [16] [yS (kK) (k+1) (nF),yI ((i:Int)),yP (aH (kK) ((i:Int)).toNat),yI (gi (mS (oT (k+1) R) qV i) ((i:Int))),yS (tF) (1+k+1) (zM),yI ((i:Int)),yP (aH (tF) ((i:Int)).toNat),yI (gi (qV) ((i:Int))),yS (tF) (1+k+1) (zM),yI ((i:Int)),yI (((i:Int))+((1:Int))),yP (aH (tF) (((i:Int))+((1:Int))).toNat),yI (gi (qV) (((i:Int))+((1:Int)))),yI ((gi (qV) ((i:Int)))+(gi (qV) (((i:Int))+((1:Int))))),yI ((gi (mS (oT (k+1) R) qV i) ((i:Int)))-((gi (qV) ((i:Int)))+(gi (qV) (((i:Int))+((1:Int)))))),yP (aH (kK) ((i:Int)).toNat),.pr (λ_ w'=>St w w' (av 2 kK (k+1) nF (mS (oT (k+1) R) qV (i+1))::av 2 Fm 1 1 [0]::av 2 gK k mU rk::av 2 tF (1+k+1) zM qV::[FU A1 k A D M cA cD]))] (ly (ly (ly (ly (ly (ly (ly (ly (ly (ly (ly (ly (ly (ly (ly (ly (bV.2 ⟨Ye.bW (λv w w' h hb=>h.ao hb),(λ_ h=>by cases h)⟩))))))))))))))))) ?_ ?_
  ·refine⟨bP O,bP O,cP λ_ _ hb _ _ _=>aA (hC.ao hb).2 O (bA O O),cP λ_ _ hb _ _ _=>bg (hC.ao hb) O (bA O O),bP O,bP O,cP λ_ _ hb _ _ _=>aA (hK.ao hb).2 O (bA O O),cP λ_ _ hb _ _ _=>bg (hK.ao hb) O (bA O O),bP O,bP O,aP λ_ _=>aJ O (bA O O),cP λ_ _ hb _ _ _=>aA (hK.ao hb).2 O (bA O O),cP λ_ _ hb _ _ _=>bg (hK.ao hb) O (bA O O),aP λ_ _=>aJ O (bA O O),aP λ_ _=>cV O (bA O O),cP λ_ _ hb _ _ _=>aA (hC.ao hb).2 O (bA O O),?_,au⟩;refine iF λe1 w1 hb hp aW hq=>?_
   refine ak.oL 0 (hS.ao hb) O O O ac λw9 bj=>ak.n ?_;rw[gx,jQ,ku]at bj;exact dS.st O bj
  intro u eO _ hu _ _;have dA:=hu 16 _ O an;refine gq O (aJ O (aN O (tQ ?_)));exact⟨i+1,by show k+1-(i+1)<k+1-i;omega,⟨O,O,O,aQ (Value.int .i64) ac,au⟩,ac,dA⟩
 obtain rfl:i=k+1:=by omega
 refine ba O (bc (ew O ?_));refine vQ O O ?_;exact⟨kK,nF,by rw[iY,T0,b8],by rw[iY,T0,b8];exact hS.sub (List.Sublist.cons_cons _ (List.nil_sublist _))⟩
theorem U6(A:ai)(n c:Nat)(rs:List aE)(xss:ag)(w:aa)(hR:bH w A n rs xss)(hn:0<n):
 aF prog 10 [.agg #[.slice A n c]] w (λv w'=>v=aj ((gl xss 0).length:Int)/\St w w' []):=by
 have iO:=hR.qc (k:=0) ac ac;refine bn func10 O ntmps10 O (bM O) (aY O (rf (St.refl w) O O ?_));intro A1 w1 ax;have eW:=ax.bU hR;refine aq O (aS (ax.rd 0 O) O (a6 (ax.rd 0 O) O ?_));refine aR O O (ay O ?_);refine fq O (aC O (aS (ax.rd 0 O) O (a6 (ax.rd 0 O) O (aA eW.top.2 O (auQ (i:=0) eW.top O ac O O ?_)))));refine aR O O (bR O ?_);refine gj O ?_;exact⟨by rw[iO],ax.none⟩
end Go.Proofs.YtimbpgackifflaaGreatDoor.Vc
