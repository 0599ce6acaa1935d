/-
 Lemmas. Conditions: as each states them.
-/
import Derived.Test.YtimbpgackifflaaGreatDoorZj
set_option maxHeartbeats 8000000
namespace Go.Proofs.YtimbpgackifflaaGreatDoor.Vc
open Tryz
section
open Go.RowKit
theorem ae0(x:Int)(w:aa):aF prog 182 [aj x] w (λv w'=>v=.bool (decide (¬x=x))/\w'=w):=by
 refine bn func182 O ntmps182 O (bM O) (Mr O (cK O ?_));exact⟨O,O⟩
theorem Ua(x y:Int)(w:aa):aF prog 131 [aj x,aj y] w (λv w'=>v=.bool (decide (x<y))/\w'=w):=by
 refine bn func131 O ntmps131 O (bM O) (aY O (aI (ae0 x w) O ?_));rintro _ _ ⟨rfl,rfl⟩;refine aq O (b9 7 O (λh=>absurd O h) (λ_=>?_));refine aB O (aB O (aB O (aq O (ar O (aq O (ar O (aq O (ar O (bR O ?_)))))))));exact cK O ⟨O,O⟩
theorem arc(x:Int)(w:aa):aF prog 132 [aj x] w (λv w'=>v=.bool (decide (¬x=x))/\w'=w):=by
 refine bn func132 O ntmps132 O (bM O) (Mr O (cK O ?_));exact⟨O,O⟩
theorem TN(A:ai)(n c:Nat)(xs:ah)(x:Int)(w:aa)(hR:bu w A n xs)(hs:SA xs)(hn:n<=1000000000):
 aF prog 85 [.slice A n c,aj x] w (λv w'=>(∃k:Int,v=.tuple #[aj k,.bool (decide (x∈xs))])/\w'=w):=by
 have cT:=hR.1;refine bn func85 O ntmps85 O (mI O) ?_;refine aY O (aR O O (ay O ?_));refine Cd.loop (α:=Nat×Nat) (λz=>[(0,.slice A n c),(1,aj x),(6,aj n),(7,aj (z.1:Int)),(8,aj (z.2:Int))]) (λz w'=>w'=w/\z.1<=z.2/\z.2<=n/\(∀p:Nat,p<z.1->gi xs p<x)/\∀p:Nat,z.2<=p->p<n->x<=gi xs p) (λz=>z.2-z.1) (0,n) (auV O) ⟨O,bl _,cJ _,λp hp=>absurd hp (kY _),λp hp kQ=>by have hp:n<=p:=hp;omega⟩ ?_;rintro⟨i,j⟩ e w ⟨rfl,jC,tg,eL,cI⟩;dsimp only at jC tg eL cI|-;refine bC O (aK _ O (λh1=>?_) (λh1=>?_))
 ·refine aC O (aJ O ?_);refine lL O O (rS _ ac) (FI O O O ac (lL O O (IntWalk.i64_in _ ac) ?_));obtain⟨h,hh⟩:∃h:Nat,h=(i+j) / 2:=⟨_,rfl⟩;rw[show((i:Int)+(j:Int)) / 2=(h:Int) by omega];refine aq O (aA hR.2 O (bg hR O (aq O (aI (Ua _ _ _) O ?_))));rintro _ _ ⟨rfl,rfl⟩;refine ay O (aK _ O (λh2=>?_) (λh2=>?_))
  ·refine aC O (aJ O (aN O (tQ ?_)));refine⟨(h+1,j),by show j-(h+1)<j-i;omega,(auV O),O,by show h+1<=j;omega,tg,λp hp=>?_,cI⟩;have hp:p<h+1:=hp
   by_cases e:p=h
   ·subst e;exact h2
   have:=hs.y6 (show p<h by omega) ac;omega
  refine jE O (tQ ?_);refine⟨(i,h),by show h-i<j-i;omega,(auV O),O,by show i<=h;omega,by show h<=n;omega,eL,λp hp kQ=>?_⟩;have hp:h<=p:=hp
  by_cases e:p=h
  ·subst e;omega
  have:=hs.y6 (show h<p by omega) ac;omega
 obtain rfl:i=j:=by omega
 have fI:∀p:Nat,p<n->gi xs p=x->p=i:=λp hp hx=>by
  rcases Nat.lt_trichotomy p i with h|h|h
  ·have:=eL p h;omega
  ·exact h
  have h3:=hs.y6 h ac;have h4:=cI i (cJ _) ac;omega
 have iq:x∈xs↔i<n/\gi xs i=x:=by
  constructor
  ·intro hm;obtain⟨p,hp,e⟩:=fS.1 hm;have e2:gi xs p=x:=by rw[b7 hp];exact e
   have:=fI p ac e2;subst this;exact⟨ac,e2⟩
  rintro⟨h2,h3⟩;rw[<-h3];exact gi_in ac
 refine ba O (bc (bY O ?_));refine b9 35 O (λh2=>?_) (λh2=>?_)
 ·refine ar O (aq O (ar O (aq O (ar O ?_))));refine aA hR.2 O (ar O (bg hR O ?_));refine ar O (aq O (ar O (aq O (ar O (aq O ?_)))));refine b9 42 O (λh3=>?_) (λh3=>?_)
  ·refine aB O (aB O (aB O (aB O (aB O (aB O (cW O O O O (cW O O O O (aB O (ar O (bR O ?_))))))))));refine RF O O ?_;exact⟨⟨_,by rw[dB (iq.2 ⟨by omega,h3⟩)]⟩,O⟩
  refine ar O (aq O (ar O (aq O (ar O ?_))));refine aA hR.2 O (ar O (bg hR O (ar O (aI (arc _ _) O ?_))));rintro _ _ ⟨rfl,rfl⟩;refine ar O (aq O ?_);refine b9 48 O (λh=>absurd O h) (λ_=>?_);refine aB O (aB O (ar O (aq O (ar O (bR O ?_)))));refine RF O O ?_;exact⟨⟨_,by rw[db (λh=>h3 (iq.1 h).2)]⟩,O⟩
 refine aB O (aB O (aB O (aB O (aB O (aB O (aB O (cW O O O O (cW O O O O (cW O O O O (cW O O O O (cW O O O O ?_)))))))))));refine cW O O O O (cW O O O O (cW O O O O (cW O O O O (aB O (bR O ?_)))));refine RF O O ?_;exact⟨⟨_,by rw[db (λh=>by have:=(iq.1 h).1;omega)]⟩,O⟩
theorem QD(P A D:ai)(cA r cD:Nat)(n:Int)(N:Nat)(rs:List aE)(B:ag)(e f:Int)(w:aa)(hP:Rd w P 3 (λj=>[Value.int .i64 n,.slice A r cA,.slice D N cD].getD j undef))(hB:bH w D N rs B)(k6:B.length=N)(hf:0<=f/\f<N)(hs:SA (gl B f))(hl:(gl B f).length<=1000000):
 aF prog 86 [.pointer P,aj e,aj f] w (λv w'=>v=.bool (decide (e∈gl B f))/\w'=w):=by
 have br:=hB.at_ (i:=f) hf.1 hf.2;have jb:=br.1;refine bn func86 O ntmps86 O (bM O) (aY O ?_);refine dX hP am O O (aS hP O (a6 hP O (aq O (aA hB.top.2 O (bw hB.top O (aq O (aI (TN _ _ _ (gl B f) e w br hs ac) O ?_)))))));rintro _ _ ⟨⟨k,rfl⟩,rfl⟩;refine bR O (cK O ?_);exact⟨O,O⟩
theorem Hz(P A D:ai)(cA cD:Nat)(n:Int)(R:ah)(rs:List aE)(B:ag)(e f:Int)(w:aa)(hP:Rd w P 3 (λj=>[Value.int .i64 n,.slice A R.length cA,.slice D B.length cD].getD j undef))(hB:bH w D B.length rs B)(hf:0<=f/\f<B.length)(hs:SA (gl B f))(hl:(gl B f).length<=1000000):
 aF prog 86 [.pointer P,aj e,aj f] w (λv w'=>v=.bool (decide (e∈gl B f))/\w'=w):=
 QD P A D cA R.length cD n B.length rs B e f w hP hB rfl hf hs hl
theorem QW{t1 t2:ad}{A:ai}{n c:Nat}{rs:List aE}{xss:ag}{ks:List Ck}{q:Ck}{i:Nat}(s:aE)(xs:ah)(hr:rs.length=xss.length)(hi:i<rs.length):(q::(aV t1 t2 A n c rs xss++ks)).set (2+i) (av t2 s.a s.n s.c xs)=q::(aX t1 A n c rs::(cC t2 (rs.set i s) (xss.set i xs)++ks)):=by
 rw[show 2+i=i+1+1 by omega,List.set_cons_succ];show _::(aX t1 A n c rs::(cC t2 rs xss++ks)).set (i+1) _=_;rw[List.set_cons_succ,List.set_append_left _ _ (by rw[xA hr];exact hi),HY hr]
def jZ(M:ag)(i f:Nat):ag:=(List.range (gl M 0).length).map λg=>(List.range (if g<f then i+1 else i)).map λk=>fw M k g
def px(M:ag):ag:=(List.range (gl M 0).length).map λg=>(List.range M.length).map λk=>fw M k g
theorem Jz(M:ag)(i f:Nat):(jZ M i f).length=(gl M 0).length:=by simp[jZ]
theorem agK(M:ag)(f:Nat)(h:f=0):jZ M 0 f=List.replicate (gl M 0).length []:=by
 subst h;apply iC (by simp[jZ]);intro i h1 h2;simp[jZ]
theorem agI(M:ag)(i:Nat):jZ M i (gl M 0).length=jZ M (i+1) 0:=by
 unfold jZ;refine ki λg hg=>?_
 rw[aG (fo.1 hg),aD (kY _)]
theorem agH(M:ag):jZ M M.length 0=px M:=by
 unfold jZ px;exact ki λg _=>by rw[aD (kY _)]
theorem Jy{M:ag}{i f g:Nat}(hg:g<(gl M 0).length):gl (jZ M i f) g=(List.range (if g<f then i+1 else i)).map λk=>fw M k g:=by
 rw[df (by rw[Jz];exact hg)];simp[jZ]
theorem agJ{M:ag}{i f:Nat}(hf:f<(gl M 0).length):(jZ M i f).set f (gl (jZ M i f) f++[fw M i f])=jZ M i (f+1):=by
 apply iC (by simp[jZ]);intro g h1 h2;have hg:g<(gl M 0).length:=by rw[Jz]at h2;exact h2
 rw[List.getElem_set];have e:(jZ M i (f+1))[g]=gl (jZ M i (f+1)) g:=by rw[df h2]
 rw[e,Jy hg]
 by_cases h:f=g
 ·subst h;rw[aG rfl,aG (by omega),Jy hg,aD (by omega),lK,iE];rfl
 rw[aD h];have e2:(jZ M i f)[g]'(by rw[Jz];exact hg)=gl (jZ M i f) g:=by rw[df]
 rw[e2,Jy hg]
 by_cases h3:g<f
 ·rw[aG h3,aG (by omega)]
 rw[aD h3,aD (by omega)]
theorem Lk{M:ag}:∀i,a8 M i<=i*(gl M 0).length
 |0=>bl _
 |i+1=>by
  have h1:=Lk (M:=M) i;have h2:=DU M i;show a8 M i+(kC M i).toNat<=_;rw[Nat.succ_mul];omega
theorem adr(Ab A:ai)(n c:Nat)(rs:List aE)(M:ag)(w:aa)(hB:Rd w Ab 1 (λ_=>.slice A n c))(hR:bH w A n rs M)(hM:eY M):
 aF prog 80 [.pointer Ab] w (λv w'=>∃A' rs',v=.slice A' (gl M 0).length (gl M 0).length/\rs'.length=(gl M 0).length/\St w w' (aV 27 2 A' (gl M 0).length (gl M 0).length rs' (px M)++[])):=by
 have hl:=hR.len;have h1:=hM.1;have h2:=hM.2.1;have e0:(rg rs 0).n=(gl M 0).length:=(hR.qc ac ac).symm;have Ba:∀i,i<=n->a8 M i<=2000:=λi hi=>by
  have h3:=Lk (M:=M) i;have h4:i*(gl M 0).length<=5*400:=Nat.mul_le_mul ac ac;omega
 generalize hF:(gl M 0).length=F at*;refine bn func80 O ntmps80 O (bM O) (aY O (aI (Cf Ab A n c rs M _ w hB O hR ac) O ?_));rintro _ w ⟨rfl,rfl⟩;rw[e0];refine BV F (St.refl w) O O ac ?_;intro A3 w1 ax;have ax:St w w1 (aV 27 2 A3 F F (List.replicate F bI) (List.replicate F [])):=xu F ax;refine aq O (aI (Ly Ab A n c _ _ (ax.gS hB) O) O ?_);rintro _ w1 ⟨rfl,rfl⟩;refine ay O ?_;refine Cd.loop (α:=Nat×List aE) (λz=>[(0,.pointer Ab),(3,.slice A3 F F),(4,aj (a8 M z.1:Int)),(14,aj n),(15,aj (z.1:Int))]) (λz w'=>z.1<=n/\z.2.length=F/\St w w' (aV 27 2 A3 F F z.2 (jZ M z.1 0)++[])) (λz=>n-z.1) (0,List.replicate F bI) (auV O) ⟨bl _,by simp,by rw[agK M 0 O,hF,dQ];exact ax⟩ ?_;clear ax;rintro⟨i,l8⟩ e w2 ⟨hi,bT,hS⟩;dsimp only at hi bT hS|-;have XI:=Ba i hi;refine bC O (aK _ O (λh3=>?_) (λh3=>?_))
 ·have cE:i<n:=by omega
  have qH:=Ba (i+1) ac;have nb:=DU M i;have CX:a8 M (i+1)=a8 M i+(kC M i).toNat:=O;refine aC O (aI (UW Ab A n c rs M i _ (hS.gS hB) (hS.bU hR) hM cE) O ?_);rintro _ w3 ⟨A6,rfl,aw⟩;have aM:=(hS.call aw).perm (gL (l₁:=[av 2 A6 (gl M 0).length (gl M 0).length (dG M i)]));rw[hF]at aM|-;clear aw hS;refine aq O (aR O O (ay O ?_));refine Cd.loop (α:=Nat×List aE) (λz=>[(0,.pointer Ab),(3,.slice A3 F F),(4,aj (a8 M i:Int)),(7,aj (kC M i)),(14,aj n),(15,aj i),(24,.slice A6 F F),(5,aj i),(25,aj F),(26,aj (z.1:Int))]) (λz w'=>z.1<=F/\z.2.length=F/\St w w' (aV 27 2 A3 F F z.2 (jZ M i z.1)++[av 2 A6 F F (dG M i)])) (λz=>F-z.1) (0,l8) (auV O) ⟨bl _,bT,by simpa using aM⟩ ?_;clear aM;rintro⟨f,bZ⟩ e w4 ⟨hf,uo,aU⟩;dsimp only at hf uo aU|-;have kO:=Jz M i f;rw[hF]at kO;refine bC O (aK _ O (λh4=>?_) (λh4=>?_))
  ·have td:f<F:=by omega
   have jq:=St.fO aU kO;have AU:(aV 27 2 A3 F F bZ (jZ M i f)++[av 2 A6 F F (dG M i)])[F+1]?=some (av 2 A6 F F (dG M i)):=by
    rw[jM (by rw[ZE (by omega)];omega),ZE (by omega),uo,Nat.sub_self];rfl
   have Ko:bu w4 A6 F (dG M i):=aU.bF (F+1) AU;have Kk:=Cj hM (i:=i) (f:=f) ac;have ajA:(a8 M i:Int)+gi (dG M i) f=fw M i f:=O;have br:=jq.at_ (i:=(f:Int)) ac ac;have jb:(rg bZ f).n<=5:=by
    have:=br.1;rw[<-this,Jy (by omega),aD (by omega)];simp;omega
   refine aC O (aA Ko.2 O (bg Ko O (aq O (aA jq.top.2 O (bw jq.top O ?_)))));refine aq O (aJ O ?_);refine eh aU O O O ?_;intro AQ wQ hQ;have pI:(av 2 AQ 1 1 [((a8 M i:Int)+gi (dG M i) f)]::(aV 27 2 A3 F F bZ (jZ M i f)++[av 2 A6 F F (dG M i)]))[2+f]?=some (av 2 (rg bZ f).a (rg bZ f).n (rg bZ f).c (gl (jZ M i f) f)):=by
    have h0:=uB (t1:=27) (t2:=2) (A:=A3) (n:=F) (c:=F) (rs:=bZ) (xss:=(jZ M i f)) (pre:=[av 2 AQ 1 1 [((a8 M i:Int)+gi (dG M i) f)]]) (ks:=[av 2 A6 F F (dG M i)]) (i:=f) ac ac;exact h0
   refine eQ (2+f) hQ pI (hQ.bF 0 O) O O O ?_;intro AZ cZ wZ hZ;rw[QW ⟨AZ,(rg bZ f).n+1,cZ⟩ (gl (jZ M i f) f++[((a8 M i:Int)+gi (dG M i) f)]) (by omega) (by omega)]at hZ;have Wu:fu wZ A3 F bZ:=hZ.dm 1 O;refine aA Wu.2 O (nC (te:=27) (n:=F) (c:=F) (A:=A3) (xs:=bZ) 1 hZ O O O ac ?_);intro wY hY;have aO:St w wY (aV 27 2 A3 F F (bZ.set f ⟨AZ,(rg bZ f).n+1,cZ⟩) ((jZ M i f).set f (gl (jZ M i f) f++[((a8 M i:Int)+gi (dG M i) f)]))++[av 2 A6 F F (dG M i)]):=St.tail hY;clear hY Wu hZ pI hQ;rw[ajA,agJ (by omega)]at aO;refine aq O (aJ O (aN O (tQ ?_)));exact⟨(f+1,_),by show F-(f+1)<F-f;omega,(auV O),by show f+1<=F;omega,by simp[uo],aO⟩
  have td:f=F:=by omega
  subst td;have eZ:=agI M i;rw[hF]at eZ;rw[eZ]at aU;refine ba O (bc (bY O (aJ O (aq O (aJ O (aN O (tQ ?_)))))));exact⟨(i+1,bZ),by show n-(i+1)<n-i;omega,⟨O,O,by show Value.int .i64 ((a8 M i:Int)+kC M i)=aj ((a8 M (i+1):Nat):Int);congr 1;omega,O,O,au⟩,by show i+1<=n;omega,uo,aU.sub (List.Sublist.append_left (List.nil_sublist _) _)⟩
 have cE:i=n:=by omega
 subst cE;have he:=agH M;rw[hl]at he;rw[he]at hS;refine ba O (bc (ew O ?_));exact dV O ⟨A3,l8,O,bT,hS⟩
section
variable{b b0 b1 b2:Nat}
variable {P:Program}{N:Nat}{ops:Array Oper}{K:Env->aa->Prop}{rest:List Oper}{e:Env}{w0 w w':aa}{ks:List Ck}{d:Nat}{ty:ad}{pos:String}{af:Array Edge}
theorem Th{t:ad}{f0 f1 f2:Field}{z0 z1 z2 y0 y1 y2:ab}[bJ P t (.struct #[f0,f1,f2])][bL P t (.agg #[z0,z1,z2]) 3 b]{x0:ae}{v0:ab}(oY:bL P f0.type y0 1 b0)(nJ:bL P f1.type y1 1 b1)(qu:bL P f2.type y2 1 b2)(ho:f0.offset=0)(qH:f1.offset=1)(G6:f2.offset=2)(h0:ev e x0=v0)(c0:v0.oneCell'=true)(hb:Nat.blt d N=true)(hK:ak P N ops K rest (bE e d (.agg #[v0,z1,z2])) w):ak P N ops K (⟨some d,.build t #[(0,x0)],ty,pos,af,none⟩::rest) e w:=by
 obtain⟨inf,hi,eN,hs,iI⟩:=bL.get P t;obtain⟨yX,eU,_,l7,_⟩:=oY.get P f0.type;obtain⟨Bs,kP,_,pR,_⟩:=nJ.get P f1.type;obtain⟨Hy,tf,_,o8,_⟩:=qu.get P f2.type;have e0:v0.cells= #[v0]:=by cases v0<;>simp[Value.oneCell']at c0<;>rfl
 have ez:(Value.agg #[z0,z1,z2]).cells= #[z0,z1,z2]:=O;refine .val (w':=w) ?_ hb hK;simp[execOp,Instr.build,run_underlying (bJ.out (P:=P) (t:=t)),sizeOf,typeInfo,zeroValue,hi,eN,eU,l7,kP,pR,tf,o8,ho,h0,e0,ez,Instr.fill]
theorem Tg{t:ad}{f0 f1 f2:Field}{z0 z1 z2 y0 y1 y2:ab}[bJ P t (.struct #[f0,f1,f2])][bL P t (.agg #[z0,z1,z2]) 3 b](oY:bL P f0.type y0 1 b0)(nJ:bL P f1.type y1 1 b1)(qu:bL P f2.type y2 1 b2)(hb:Nat.blt d N=true)(hK:ak P N ops K rest (bE e d (.agg #[z0,z1,z2])) w):ak P N ops K (⟨some d,.build t #[],ty,pos,af,none⟩::rest) e w:=by
 obtain⟨inf,hi,eN,hs,iI⟩:=bL.get P t;obtain⟨yX,eU,_,l7,_⟩:=oY.get P f0.type;obtain⟨Bs,kP,_,pR,_⟩:=nJ.get P f1.type;obtain⟨Hy,tf,_,o8,_⟩:=qu.get P f2.type;have ez:(Value.agg #[z0,z1,z2]).cells= #[z0,z1,z2]:=O;refine .val (w':=w) ?_ hb hK;simp[execOp,Instr.build,run_underlying (bJ.out (P:=P) (t:=t)),sizeOf,typeInfo,zeroValue,hi,eN,eU,l7,kP,pR,tf,o8,ez,Instr.fill]
theorem u9{el:ad}{v0 v1 v2:ab}{s:Nat}[bL P el (.agg #[v0,v1,v2]) s b](hS:St w0 w ks)(hb:Nat.blt d N=true)(hK:∀A w',St w0 w' (Bx el 3 A [v0,v1,v2]::ks)->ak P N ops K rest (bE e d (.pointer A)) w')(hM:eV [v0,v1,v2]=false:=by rfl):ak P N ops K (⟨some d,.alloc el,ty,pos,af,none⟩::rest) e w:=.new (el:=el) (z:=.agg #[v0,v1,v2]) (s:=s) (b:=b) hS hb rfl hK hM
end
theorem aoR{α:Type}(q1 q2 q3 q4 q5 q6:α)(X Y:List α):([q1,q2,q3,q4,q5,q6]++Y++X).Perm (q4::(q2::((q1::X)++(q3::q5::q6::Y)))):=by
 classical
 refine oe.2 λz=>?_
 simp only[ob,mM,List.cons_append,List.nil_append];omega
abbrev bS(A:ai)(n:Int)(AR:ai)(N c:Nat)(AD:ai)(m d:Nat):Ck:=Bx 37 3 A [aj n,.slice AR N c,.slice AD m d]
theorem ae4{M:ag}{i:Nat}(h:i<M.length):gi (iG M) i=kC M i:=by
 rw[b7 (by rw[Jb];exact h)];simp[iG]
structure rX(M:ag)(f i:Nat)(B:ag):Prop where
 len:B.length=a8 M M.length
 mem:∀e:Nat,e<a8 M M.length->∀x,x∈gl B e↔∃f' i',(f'<f\/f'=f/\i'<i)/\f'<(gl M 0).length/\i'<M.length/\fw M i' f'=e/\∃k,k<i'/\x=fw M k f'
 num:∀e:Nat,(gl B e).length<=25*f+5*i
theorem rX.zero(M:ag):rX M 0 0 (List.replicate (a8 M M.length) []):=by
 have hg:∀e:Nat,gl (List.replicate (a8 M M.length) ([]:ah)) e=[]:=λe=>by
  simp only[gl,gx,b5,List.getElem?_replicate]
  split<;>rfl
 refine⟨by simp,λe he x=>?_,λe=>by rw[hg];exact bl _⟩;rw[hg];constructor
 ·intro h;cases h
 rintro⟨f',i',h,_⟩;omega
theorem rX.next{M:ag}{f i:Nat}{B:ag}(hM:eY M)(h:rX M f i B)(hf:f<(gl M 0).length)(hi:i<M.length):rX M f (i+1) (B.set (fw M i f).toNat (gl B (fw M i f)++(List.range i).map λk=>fw M k f)):=by
 have cE:=Cj hM (i:=i) hf;have EB:=pY M (show i+1<=M.length by omega);have h5:=hM.1;obtain⟨q,hq⟩:∃q:Nat,fw M i f=q:=⟨(fw M i f).toNat,ac⟩;rw[hq,gx];have hg:∀e:Nat,gl (B.set q (gl B q++(List.range i).map λk=>fw M k f)) e=if q=e then gl B q++(List.range i).map λk=>fw M k f else gl B e:=λe=>DZ (by rw[h.len];omega)
 refine⟨by rw[fR];exact h.len,λe he x=>?_,λe=>?_⟩
 ·rw[hg]
  by_cases e1:q=e
  ·subst e1;rw[aG rfl,dF,h.mem q he];constructor
   ·rintro(⟨f',i',h1,h2⟩|h1)
    ·exact⟨f',i',ac,h2⟩
    obtain⟨k,hk,rfl⟩:=de.1 h1;exact⟨f,i,.inr ⟨O,ac⟩,hf,hi,hq,k,fo.1 hk,O⟩
   rintro⟨f',i',h1,h2,h3,h4,k,hk,rfl⟩
   by_cases e2:f'=f/\i'=i
   ·obtain⟨rfl,rfl⟩:=e2;exact .inr (de.2 ⟨k,fo.2 hk,O⟩)
   exact .inl ⟨f',i',ac,h2,h3,h4,k,hk,O⟩
  rw[aD e1,h.mem e he];constructor
  ·rintro⟨f',i',h1,h2⟩;exact⟨f',i',ac,h2⟩
  rintro⟨f',i',h1,h2,h3,h4,h6⟩;refine⟨f',i',?_,h2,h3,h4,h6⟩
  by_cases e2:f'=f/\i'=i
  ·obtain⟨rfl,rfl⟩:=e2;omega
  omega
 rw[hg];have h1:=h.num q;have h2:=h.num e
 split
 ·rw[cj,jd,od];omega
 omega
theorem rX.row{M:ag}{f:Nat}{B:ag}(hM:eY M)(h:rX M f M.length B):rX M (f+1) 0 B:=by
 have h5:=hM.1;refine⟨h.len,λe he x=>?_,λe=>by have:=h.num e;omega⟩;rw[h.mem e he];constructor
 ·rintro⟨f',i',h1,h2⟩;exact⟨f',i',ac,h2⟩
 rintro⟨f',i',h1,h2,h3,h4⟩;exact⟨f',i',ac,h2,h3,h4⟩
theorem rX.done{M:ag}{B:ag}(hM:eY M)(h:rX M (gl M 0).length 0 B){e:Nat}(he:e<a8 M M.length):cs (gl B e)=gl (cd M) e:=by
 refine(vk _).eq ?_ λx=>?_
 ·rw[df (by rw[wC];exact he)];unfold cd;rw[List.getElem_map];exact oO _ (uK _)
 rw[x7,h.mem e he,tT (by omega) (by omega)];constructor
 ·rintro⟨f',i',_,h2,h3,h4,k,hk,rfl⟩;have hI:xN M (fw M k f') e:=⟨f',h2,i',h3,k,hk,h4.symm,O⟩;exact⟨(hI.jl hM).1,hI⟩
 rintro⟨_,f',h2,i',h3,k,hk,h4,rfl⟩;exact⟨f',i',.inl h2,h2,h3,h4.symm,k,hk,O⟩
def ab4(M:ag)(w:aa)(v:ab)(w':aa):Prop:=(500<a8 M M.length/\v=.tuple #[.agg #[aj 0,.slice none 0 0,.slice none 0 0],.bool false]/\St w w' [])\/(a8 M M.length<=500/\∃AR c AD d rs,v=.tuple #[.agg #[aj (M.length:Int),.slice AR (a8 M M.length) c,.slice AD (a8 M M.length) d],.bool true]/\rs.length=a8 M M.length/\St w w' (av 2 AR (a8 M M.length) c (ct M M.length)::(aV 27 2 AD (a8 M M.length) d rs (cd M)++[])))
theorem UU(A:ai)(n c:Nat)(rs:List aE)(M:ag)(w:aa)(hR:bH w A n rs M)(hM:eY M):
 aF prog 35 [.agg #[.slice A n c]] w (ab4 M w):=by
 have hl:=hR.len;have h1:=hM.1;have h2:=hM.2.1;have Ba:∀i,i<=n->a8 M i<=2000:=λi hi=>by
  have h3:=Lk (M:=M) i;have h4:i*(gl M 0).length<=5*400:=Nat.mul_le_mul ac ac;omega
 refine bn func35 O ntmps35 O (tw O O) (aY O (rf (St.refl w) O O ?_));intro A1 w1 ax;refine u9 ax O λA2 w2 az=>aq O (aI (Ly A1 A n c _ _ (Rd.one (az.rd 1 O)) O) O ?_);rintro _ w2 ⟨rfl,rfl⟩;refine Th aL aL aL O O O O O O (u9 az O ?_);intro A4 w3 aM;refine dU 3 0 aM O O O O O O O ?_;intro w4 aU;have aU:St w w4 [bS A4 n none 0 0 none 0 0,bS A2 0 none 0 0 none 0 0,Bx 32 1 A1 [.slice A n c]]:=aU;clear aM az ax;refine aq O (aI (UT A1 A n c rs M _ (Rd.one (aU.rd 2 O)) (aU.bU hR) hM) O ?_);rintro _ w5 ⟨jn,mT,rfl,aw⟩;have aO:=aU.call aw;clear aw aU;have aO:St w w5 [bS A4 n none 0 0 none 0 0,av 2 none 0 0 [],av 2 jn n mT (iG M),bS A2 0 none 0 0 none 0 0,Bx 32 1 A1 [.slice A n c]]:=(aO.nil 2).perm (mO (l₁:=[_,_]));refine aR O O (ay O ?_);refine Cd.loop (α:=Nat×ai×Nat) (λz=>[(1,.pointer A1),(2,.pointer A2),(4,.pointer A4),(14,.slice jn n mT),(15,aj n),(16,aj (z.1:Int))]) (λz w'=>z.1<=n/\St w w' [bS A4 n z.2.1 (a8 M z.1) z.2.2 none 0 0,av 2 z.2.1 (a8 M z.1) z.2.2 (ct M z.1),av 2 jn n mT (iG M),bS A2 0 none 0 0 none 0 0,Bx 32 1 A1 [.slice A n c]]) (λz=>n-z.1) (0,none,0) (auV O) ⟨bl _,aO⟩ ?_;clear aO;rintro⟨i,AR,cR⟩ e w6 ⟨hi,hS⟩;dsimp only at hi hS|-;have XI:=Ba i hi;have ko:=Cm M i;refine bC O (aK _ O (λh3=>?_) (λh3=>?_))
 ·have cE:i<n:=by omega
  have GF:=ae4 (M:=M) (i:=i) ac;have nb:=DU M i;have qH:=Ba (i+1) ac;have CX:a8 M (i+1)=a8 M i+(kC M i).toNat:=O;have vu:ct M (i+1)=ct M i++List.replicate (kC M i).toNat (i:Int):=O;have hC:=hS.bF 2 O;refine aC O (aA hC.2 O (bg hC O (ay O ?_)));rw[GF];obtain⟨N,hN⟩:∃N:Nat,kC M i=N:=⟨(kC M i).toNat,ac⟩;rw[hN,gx]at CX vu;rw[hN]at nb|-;refine iu [6,8] [yP (aH (A4) 1),yS (AR) (a8 M i) (cR),yI ((i:Int)),.pr (λv w'=>∃A9,v=.slice A9 1 1/\St w w' (av 2 A9 1 1 [(i:Int)]::[bS A4 n AR (a8 M i) cR none 0 0,av 2 AR (a8 M i) cR (ct M i),av 2 jn n mT (iG M),bS A2 0 none 0 0 none 0 0,Bx 32 1 A1 [.slice A n c]])),yI ((N:Int)),.pr (λv w'=>∃A9,v=.slice A9 N N/\St w w' (av 2 A9 N N (List.replicate N (i:Int))::[bS A4 n AR (a8 M i) cR none 0 0,av 2 AR (a8 M i) cR (ct M i),av 2 jn n mT (iG M),bS A2 0 none 0 0 none 0 0,Bx 32 1 A1 [.slice A n c]])),.pr (λv w'=>∃fC kA,v=.slice fC (a8 M i+N) kA/\St w w' [bS A4 n AR (a8 M i) cR none 0 0,av 2 fC (a8 M i+N) kA (ct M i++List.replicate N (i:Int)),av 2 jn n mT (iG M),bS A2 0 none 0 0 none 0 0,Bx 32 1 A1 [.slice A n c]]),yP (aH (A4) 1),.pr (λ_ w'=>∃fC kA,St w w' [bS A4 n fC (a8 M i+N) kA none 0 0,av 2 fC (a8 M i+N) kA (ct M i++List.replicate N (i:Int)),av 2 jn n mT (iG M),bS A2 0 none 0 0 none 0 0,Bx 32 1 A1 [.slice A n c]])] (ly (ly (ly (bV.2 ⟨Ye.bW (λv w w' h hb=>by obtain⟨A9,hv,hT⟩:=h;exact⟨A9,hv,hT.ao hb⟩),(ly (bV.2 ⟨Ye.bW (λv w w' h hb=>by obtain⟨A9,hv,hT⟩:=h;exact⟨A9,hv,hT.ao hb⟩),(bV.2 ⟨Ye.bW (λv w w' h hb=>by obtain⟨fC,kA,hv,hT⟩:=h;exact⟨fC,kA,hv,hT.ao hb⟩),(ly (bV.2 ⟨Ye.bW (λv w w' h hb=>by obtain⟨fC,kA,hT⟩:=h;exact⟨fC,kA,hT.ao hb⟩),(λ_ h=>by cases h)⟩))⟩)⟩))⟩)))) ?_ ?_
  ·refine⟨cP λ_ _ hb _ _ _=>aS ((hS.rd 0 O).below hb) O (bA O O),cP λ_ _ hb _ _ _=>a6 ((hS.rd 0 O).below hb) O (bA O O),bP O,?_,bP O,?_,?_,?_,?_,au⟩
   ·refine cP λe1 w1 hb hp aW hq=>?_
    exact eh (St.refl _) O O O λA9 w9 aw=>ak.n (eD.dn O aw.below ⟨A9,O,(hS.ao hb).call aw⟩)
   ·refine cP λe1 w1 hb hp aW hq=>?_
    obtain⟨A9,zX,hT⟩:=(hp 3 _ _ an rfl rfl an);refine auM (FL A9 1 i N _ (hT.bF 0 O) ac) O (by exact aQ (λv=>[v,Value.int .i64 (N:Int)]) zX) O ?_;rintro _ w2 ⟨A5,rfl,aw⟩;exact ak.n (eD.dn O aw.below ⟨A5,O,hT.tail.call aw⟩)
   ·refine iF λe1 w1 hb hp aW hq=>?_
    obtain⟨A9,h26,hT⟩:=(hp 5 _ _ an rfl rfl an);refine eQ 2 hT O (hT.bF 0 O) O (by exact h26) O ?_;intro fC kA dJ tY;exact ak.n (dS.dn O ⟨fC,kA,O,tY.tail⟩)
   ·refine dP 1 λe1 w1 hp aW hq=>?_
    have cg:=hp 6 _ _ an O O an;obtain⟨fC,kA,F8,hT⟩:=cg;refine aS ((hT.rd 0 O)) O (ak.n (fp O ap))
   refine kB 1 λe1 w1 hp aW hq=>?_
   have cg:=hp 6 _ _ an O O an;obtain⟨fC,kA,F8,hT⟩:=cg;refine oR 0 hT O O (by exact F8) O O ?_;intro eO oq;exact ak.n (dS.st O ⟨fC,kA,oq⟩)
  intro u w7 _ hu _ _;obtain⟨fC,kA,hT⟩:=hu 8 _ rfl an;rw[<-CX,<-vu]at hT;refine gq O (aJ O (aN O (tQ ?_)));exact⟨(i+1,fC,kA),by show n-(i+1)<n-i;omega,(auV O),by show i+1<=n;omega,hT⟩
 obtain rfl:i=n:=by omega
 have gP:M.length=i:=hl;generalize hK:a8 M i=N at*;have jP:=hS.rd 0 O;refine ba O (bc (bY O ?_));refine aS jP O (a6 jP O ?_);refine aR O O (ay O ?_);refine aK _ O (λh4=>?_) (λh4=>?_)
 ·refine aC O (Tg aL aL aL O (dU 3 3 hS O O O O O O O ?_));intro w9 bj;refine bR O (oI O (bj.rd 3 O) O ?_);exact .inl ⟨by rw[gP,hK];omega,O,bj.none⟩
 refine aC O (aS jP O (a6 jP O (aR O O (BV N hS O O ac ?_))));intro dp w7 bp;have bp:St w w7 (aX 27 dp N N (List.replicate N bI)::[bS A4 i AR N cR none 0 0,av 2 AR N cR (ct M i),av 2 jn i mT (iG M),bS A2 0 none 0 0 none 0 0,Bx 32 1 A1 [.slice A i c]]):=bp;refine aS (bp.rd 1 O) O (oR 1 bp O O O O O ?_);intro w8 bB;have bB:St w w8 (aX 27 dp N N (List.replicate N bI)::[bS A4 i AR N cR dp N N,av 2 AR N cR (ct M i),av 2 jn i mT (iG M),bS A2 0 none 0 0 none 0 0,Bx 32 1 A1 [.slice A i c]]):=bB;clear bp hS;refine aq O (aI (adr A1 A i c rs M _ (Rd.one (bB.rd 5 O)) (bB.bU hR) hM) O ?_);rintro _ w9 ⟨dK,oJ,rfl,akL,aw⟩;obtain⟨F,hF⟩:∃F,(gl M 0).length=F:=⟨_,rfl⟩;rw[hF]at h2 akL aw|-;have lO:(px M).length=F:=by simp[px,hF]
 have bj:=bB.call aw;clear aw bB;obtain⟨KK,Cv⟩:∃KK:List Ck,KK=av 2 AR N cR (ct M i)::bS A2 0 none 0 0 none 0 0::Bx 32 1 A1 [.slice A i c]::(aV 27 2 dK F F oJ (px M)++[]):=⟨_,rfl⟩;have bj:St w w9 (bS A4 i AR N cR dp N N::(aV 27 2 dp N N (List.replicate N bI) (List.replicate N [])++KK)):=by
  rw[Cv];have h9:=(bj.perm gL);have h9:=xu (t:=2) N h9;have hp:([aX 27 dp N N (List.replicate N bI),bS A4 i AR N cR dp N N,av 2 AR N cR (ct M i),av 2 jn i mT (iG M),bS A2 0 none 0 0 none 0 0,Bx 32 1 A1 [.slice A i c]]++(aV 27 2 dK F F oJ (px M)++[])++cC 2 (List.replicate N bI) (List.replicate N [])).Perm (av 2 jn i mT (iG M)::(bS A4 i AR N cR dp N N::(aV 27 2 dp N N (List.replicate N bI) (List.replicate N [])++(av 2 AR N cR (ct M i)::bS A2 0 none 0 0 none 0 0::Bx 32 1 A1 [.slice A i c]::(aV 27 2 dK F F oJ (px M)++[]))))):=by
   unfold aV;generalize cC 2 (List.replicate N bI) (List.replicate N [])=X;generalize aX 27 dK F F oJ::cC 2 oJ (px M)++[]=Y;generalize aX 27 dp N N (List.replicate N bI)=q1;generalize bS A4 i AR N cR dp N N=q2;generalize av 2 AR N cR (ct M i)=q3;generalize av 2 jn i mT (iG M)=q4;generalize bS A2 0 none 0 0 none 0 0=q5;generalize Bx 32 1 A1 [.slice A i c]=q6;exact aoR q1 q2 q3 q4 q5 q6 X Y
  exact(h9.perm hp).tail
 have AU:∀(rs':List aE)(B:ag),(aV 27 2 dK F F oJ (px M)).Sublist (bS A4 i AR N cR dp N N::(aV 27 2 dp N N rs' B++KK)):=λrs' B=>by
  rw[Cv];refine List.Sublist.cons _ (List.Sublist.trans ?_ (fj _ _));refine List.Sublist.cons _ (List.Sublist.cons _ (List.Sublist.cons _ ?_));rw[dQ];exact fD _
 have mY:a8 M M.length=N:=by rw[gP,hK]
 refine aR O O (ay O ?_);refine Cd.loop (α:=Nat×List aE×ag) (λz=>[(1,.pointer A1),(2,.pointer A2),(4,.pointer A4),(40,.slice dK F F),(41,aj F),(42,aj (z.1:Int))]) (λz w'=>z.1<=F/\z.2.1.length=N/\rX M z.1 0 z.2.2/\St w w' (bS A4 i AR N cR dp N N::(aV 27 2 dp N N z.2.1 z.2.2++KK))) (λz=>F-z.1) (0,List.replicate N bI,List.replicate N []) (auV O) ⟨bl _,by simp,by have:=rX.zero M;rwa[mY]at this,bj⟩ ?_;clear bj;rintro⟨f,l8,B⟩ e dJ ⟨hf,KL,hB,hS⟩;dsimp only at hf KL hB hS|-;refine bC O (aK _ O (λh5=>?_) (λh5=>?_))
 ·have td:f<F:=by omega
  have zZ:=(hS.sub (AU l8 B)).tB lO;have br:=zZ.at_ (i:=(f:Int)) ac ac;have bT:=br.1;have Es:gl (px M) f=(List.range M.length).map λk=>fw M k f:=by rw[df (by omega)];simp[px]
  have jb:(rg oJ f).n=i:=by rw[<-bT,Es];simp[gP]
  refine aC O (aA zZ.top.2 O (bw zZ.top O ?_));refine aq O (aR O O (ay O ?_));refine Cd.loop (α:=Nat×List aE×ag) (λz=>[(1,.pointer A1),(2,.pointer A2),(4,.pointer A4),(40,.slice dK F F),(41,aj F),(42,aj f),(8,.slice (rg oJ f).a (rg oJ f).n (rg oJ f).c),(46,.slice (rg oJ f).a (rg oJ f).n (rg oJ f).c),(47,aj ((rg oJ f).n:Int)),(48,aj (z.1:Int))]) (λz w'=>z.1<=i/\z.2.1.length=N/\rX M f z.1 z.2.2/\St w w' (bS A4 i AR N cR dp N N::(aV 27 2 dp N N z.2.1 z.2.2++KK))) (λz=>i-z.1) (0,l8,B) (auV O) ⟨bl _,KL,hB,hS⟩ ?_;clear hS hB zZ br bT KL;rintro⟨j,bZ,B4⟩ e eO ⟨hj,uo,jP,aU⟩;dsimp only at hj uo jP aU|-;have k6:B4.length=N:=by rw[jP.len,mY]
  refine bC O (aK _ O (λh6=>?_) (λh6=>?_))
  ·have AO:j<i:=by omega
   have zZ:=(aU.sub (AU bZ B4)).tB lO;have br:=zZ.at_ (i:=(f:Int)) ac ac;have bT:=br.1;have Xc:gi (gl (px M) f) j=fw M j f:=by rw[b7 (by omega)];simp[Es]
   have cE:=Cj hM (i:=j) (f:=f) ac;have EB:=pY M (show j+1<=M.length by omega);rw[mY]at EB;obtain⟨E,hE⟩:∃E:Nat,fw M j f=E:=⟨(fw M j f).toNat,ac⟩;rw[hE]at Xc cE;have eZ:=jP.next hM ac (show j<M.length by omega);rw[hE,gx]at eZ;have qt:E<N:=by omega
   have kH:(gl (px M) f).take j=(List.range j).map λk=>fw M k f:=by
    rw[Es,<-List.map_take,List.take_range,Nat.min_eq_left (by omega)]
   have jq:bH eO dp N bZ B4:=(aU.perm (mO (l₁:=aV 27 2 dp N N bZ B4)).symm).fO k6;have xc:=(jq.at_ (i:=(E:Int)) ac ac).1;have CU:=jP.num E;refine aC O (aA br.2 O (bg br O (ay O ?_)));rw[Xc];have pI:(bS A4 i AR N cR dp N N::(aV 27 2 dp N N bZ B4++KK))[2+E]?=some (av 2 (rg bZ E).a (rg bZ E).n (rg bZ E).c (gl B4 E)):=uB (t1:=27) (t2:=2) (A:=dp) (n:=N) (c:=N) (rs:=bZ) (xss:=B4) (pre:=[bS A4 i AR N cR dp N N]) (ks:=KK) (i:=E) ac ac;have mw:=λ(s:aE)(xs:ah)=>QW (t1:=27) (t2:=2) (A:=dp) (n:=N) (c:=N) (rs:=bZ) (xss:=B4) (ks:=KK) (q:=bS A4 i AR N cR dp N N) (i:=E) s xs ac ac
   refine iu [11,13] [yP (aH A4 2),yS (dp) (N) (N),yI ((E:Int)),yP (aH (A4) 2),yS (dp) (N) (N),yI ((E:Int)),yP (aH (dp) ((E:Int)).toNat),yS ((rg (bZ) ((E:Int))).a) ((rg (bZ) ((E:Int))).n) ((rg (bZ) ((E:Int))).c),yS ((rg oJ f).a) ((rg oJ f).n) ((rg oJ f).c),yI ((j:Int)),yS ((rg oJ f).a) (j) ((rg oJ f).c),.pr (λv w'=>∃AZ cZ,v=.slice AZ ((rg bZ E).n+j) cZ/\St w w' (bS A4 i AR N cR dp N N::(aX 27 dp N N bZ::(cC 2 (bZ.set E ⟨AZ,(rg bZ E).n+j,cZ⟩) (B4.set E (gl B4 E++(gl (px M) f).take j))++KK)))),yP (aH dp ((E:Int)).toNat),.pr (λ_ w'=>∃AZ cZ,St w w' (bS A4 i AR N cR dp N N::(aV 27 2 dp N N (bZ.set E ⟨AZ,(rg bZ E).n+j,cZ⟩) (B4.set E (gl B4 E++(gl (px M) f).take j))++KK)))] (ly (ly (ly (ly (ly (ly (ly (ly (ly (ly (ly (bV.2 ⟨Ye.bW (λv w w' h hb=>by obtain⟨AZ,cZ,hv,hT⟩:=h;exact⟨AZ,cZ,hv,hT.ao hb⟩),(ly (bV.2 ⟨Ye.bW (λv w w' h hb=>by obtain⟨AZ,cZ,hT⟩:=h;exact⟨AZ,cZ,hT.ao hb⟩),(λ_ h=>by cases h)⟩))⟩)))))))))))) ?_ ?_
   ·refine⟨?_,?_,bP O,cP λ_ _ hb _ _ _=>aS ((aU.rd 0 O).below hb) O (bA O O),cP λ_ _ hb _ _ _=>a6 ((aU.rd 0 O).below hb) O (bA O O),bP O,cP λ_ _ hb _ _ _=>aA (jq.top.ao hb).2 O (bA O O),cP λ_ _ hb _ _ _=>bw (jq.top.ao hb) O (bA O O),bP O,bP O,aP λ_ _=>rW O O O (by have:=zZ.cap_ (i:=(f:Int)) ac ac;omega) (bA O O),?_,?_,?_,au⟩
    ·intro e1 w1 cc eL cI dC hp aW hq;show ak _ _ _ _ _ _ _;have hX:Rd w1 A4 3 (λq=>[Value.int .i64 (i:Int),.slice AR N cR,.slice dp N N].getD q undef):=by { have cI:=lz cI (b:=1) an;rcases(show cc=0\/cc=1 by omega)with h|h; { exact(aU.ao (dC h)).rd 0 rfl }; { subst h;obtain⟨AZ,cZ,_,hT⟩:=hq 11 _ _ an an an rfl rfl an;exact hT.rd 0 rfl } }
     refine aS hX O (ak.n (fp O ap))
    ·intro e1 w1 cc eL cI dC hp aW hq;show ak _ _ _ _ _ _ _;have hX:Rd w1 A4 3 (λq=>[Value.int .i64 (i:Int),.slice AR N cR,.slice dp N N].getD q undef):=by { have cI:=lz cI (b:=1) an;rcases(show cc=0\/cc=1 by omega)with h|h; { exact(aU.ao (dC h)).rd 0 rfl }; { subst h;obtain⟨AZ,cZ,_,hT⟩:=hq 11 _ _ an an an rfl rfl an;exact hT.rd 0 rfl } }
     refine a6 hX O (ak.n (fp O ap))
    ·refine iF λe1 w1 hb hp aW hq=>?_
     have ah4:=zZ.ao hb;refine eQ (2+E) (aU.ao hb) pI ((ah4.at_ (i:=(f:Int)) ac ac).take (l:=j) ac) O O O ?_;intro AZ cZ wZ hZ;rw[mw ⟨AZ,(rg bZ E).n+j,cZ⟩ (gl B4 E++(gl (px M) f).take j)]at hZ;exact ak.n (dS.dn O ⟨AZ,cZ,O,hZ⟩)
    ·intro e1 w1 cc eL cI dC hp aW hq;show ak _ _ _ _ _ _ _;have hX:fu w1 dp N bZ:=by { have cI:=lz cI (b:=1) an;rcases(show cc=0\/cc=1 by omega)with h|h; { exact(aU.ao (dC h)).dm 1 rfl }; { subst h;obtain⟨AZ,cZ,_,hT⟩:=hq 11 _ _ an an an rfl rfl an;exact hT.dm 1 rfl } }
     refine aA hX.2 O (ak.n (fp O ap))
    refine kB 1 λe1 w1 hp aW hq=>?_
    have cg:=hp 11 _ _ an O O an;obtain⟨AZ,cZ,h64,hT⟩:=cg;refine nC (te:=27) (n:=N) (c:=N) (A:=dp) (xs:=bZ) 1 hT O O (by exact h64) ac ?_;intro wY hY;exact ak.n (dS.st O ⟨AZ,cZ,hY⟩)
   intro u gD _ hu _ _;obtain⟨AZ,cZ,hT⟩:=hu 13 _ rfl an;rw[kH]at hT;refine gq O (aJ O (aN O (tQ ?_)));exact⟨(j+1,_,_),by show i-(j+1)<i-j;omega,(auV O),by show j+1<=i;omega,by simp[uo],eZ,hT⟩
  have AO:j=M.length:=by omega
  subst AO;refine ba O (bc (bY O (aJ O (aN O (tQ ?_)))));exact⟨(f+1,bZ,B4),by show F-(f+1)<F-f;omega,(auV O),by show f+1<=F;omega,uo,jP.row hM,aU⟩
 have td:f=F:=by omega
 subst td;have k6:B.length=N:=by rw[hB.len,mY]
 have GI:∀e':Nat,e'<N->cs (gl B e')=gl (cd M) e':=λe' uc=>rX.done hM (by rw[hF];exact hB) ac
 have CU:∀e':Nat,(gl B e').length<=25*f:=λe'=>by have:=hB.num e';omega
 have jP:=hS.rd 0 O;refine ba O (bc (bY O ?_));refine aS jP O (a6 jP O ?_);refine aR O O (ay O ?_);refine Cd.loop (α:=Nat×List aE) (λz=>[(2,.pointer A2),(4,.pointer A4),(70,aj N),(71,aj (z.1:Int))]) (λz w'=>z.1<=N/\z.2.length=N/\St w w' (bS A4 i AR N cR dp N N::(aV 27 2 dp N N z.2 (mF B z.1)++KK))) (λz=>N-z.1) (0,l8) (auV O) ⟨bl _,KL,by rw[an1];exact hS⟩ ?_;clear hS jP;rintro⟨E,bZ⟩ e eO ⟨hE,uo,hS⟩;dsimp only at hE uo hS|-;have EA:=anZ B E;refine bC O (aK _ O (λh6=>?_) (λh6=>?_))
 ·have qt:E<N:=by omega
  have Xy:=anY (B:=B) (e:=E) ac;have ku:=an0 (B:=B) (e:=E) ac;have jP:=hS.rd 0 O;have jq:bH eO dp N bZ (mF B E):=(hS.perm (mO (l₁:=aV 27 2 dp N N bZ (mF B E))).symm).fO ac;have xc:=(jq.at_ (i:=(E:Int)) ac ac).1;rw[Xy]at xc;have hq:=CU E;have pI:(bS A4 i AR N cR dp N N::(aV 27 2 dp N N bZ (mF B E)++KK))[2+E]?=some (av 2 (rg bZ E).a (rg bZ E).n (rg bZ E).c (gl B E)):=by
   have h0:=uB (t1:=27) (t2:=2) (A:=dp) (n:=N) (c:=N) (rs:=bZ) (xss:=mF B E) (pre:=[bS A4 i AR N cR dp N N]) (ks:=KK) (i:=E) ac ac;rw[<-Xy];exact h0
  have aj2:=(iD.1 pI).1;have mw:=λ(s:aE)(xs:ah)=>QW (t1:=27) (t2:=2) (A:=dp) (n:=N) (c:=N) (rs:=bZ) (xss:=mF B E) (ks:=KK) (q:=bS A4 i AR N cR dp N N) (i:=E) s xs ac ac
  refine aC O (aS jP O (a6 jP O (aq O (aA jq.top.2 O (bw jq.top O (aI (abr (2+E) hS pI ac) O ?_))))));rintro _ gD ⟨rfl,bp⟩;have GM:((bS A4 i AR N cR dp N N::(aV 27 2 dp N N bZ (mF B E)++KK)).set (2+E) (av 2 (rg bZ E).a (rg bZ E).n (rg bZ E).c (fb (gl B E))))[2+E]?=some (av 2 (rg bZ E).a (rg bZ E).n (rg bZ E).c (fb (gl B E))):=by
   rw[lI,aG rfl,aG aj2]
  have e7:=mw ⟨(rg bZ E).a,(rg bZ E).n,(rg bZ E).c⟩ (fb (gl B E));have o4:fu gD dp N bZ:=by
   have h8:=bp;rw[e7]at h8;exact h8.dm 1 O
  have JJ:Rd gD A4 3 (λq=>[Value.int .i64 (i:Int),.slice AR N cR,.slice dp N N].getD q undef):=by
   have h8:=bp;rw[e7]at h8;exact h8.rd 0 O
  refine ay O ?_;refine iu [8,10] [yP (aH A4 2),yS (dp) (N) (N),yI ((E:Int)),yP (aH (A4) 2),yS (dp) (N) (N),yI ((E:Int)),yP (aH (dp) ((E:Int)).toNat),yS ((rg (bZ) ((E:Int))).a) ((rg (bZ) ((E:Int))).n) ((rg (bZ) ((E:Int))).c),.pr (λv w'=>v=.slice (rg bZ E).a (lj (fb (gl B E))).length (rg bZ E).c/\St w w' (bS A4 i AR N cR dp N N::(aX 27 dp N N bZ::(cC 2 (bZ.set E ⟨(rg bZ E).a,(lj (fb (gl B E))).length,(rg bZ E).c⟩) ((mF B E).set E (lj (fb (gl B E))))++KK)))),yP (aH dp ((E:Int)).toNat),.pr (λ_ w'=>St w w' (bS A4 i AR N cR dp N N::(aV 27 2 dp N N (bZ.set E ⟨(rg bZ E).a,(lj (fb (gl B E))).length,(rg bZ E).c⟩) ((mF B E).set E (lj (fb (gl B E))))++KK)))] (ly (ly (ly (ly (ly (ly (ly (ly (bV.2 ⟨Ye.bW (λv w w' h hb=>⟨h.1,h.2.ao hb⟩),(ly (bV.2 ⟨Ye.bW (λv w w' h hb=>h.ao hb),(λ_ h=>by cases h)⟩))⟩))))))))) ?_ ?_
  ·refine⟨?_,?_,bP O,cP λ_ _ hb _ _ _=>aS (JJ.below hb) O (bA O O),cP λ_ _ hb _ _ _=>a6 (JJ.below hb) O (bA O O),bP O,cP λ_ _ hb _ _ _=>aA (o4.ao hb).2 O (bA O O),cP λ_ _ hb _ _ _=>bw (o4.ao hb) O (bA O O),?_,?_,?_,au⟩
   ·intro e1 w1 cc eL cI dC hp aW hq;show ak _ _ _ _ _ _ _;have hX:Rd w1 A4 3 (λq=>[Value.int .i64 (i:Int),.slice AR N cR,.slice dp N N].getD q undef):=by { have cI:=lz cI (b:=1) an;rcases(show cc=0\/cc=1 by omega)with h|h; { exact Rd.below JJ (dC h) }; { subst h;obtain⟨_,hT⟩:=hq 8 _ _ an an an rfl rfl an;exact hT.rd 0 rfl } }
    refine aS hX O (ak.n (fp O ap))
   ·intro e1 w1 cc eL cI dC hp aW hq;show ak _ _ _ _ _ _ _;have hX:Rd w1 A4 3 (λq=>[Value.int .i64 (i:Int),.slice AR N cR,.slice dp N N].getD q undef):=by { have cI:=lz cI (b:=1) an;rcases(show cc=0\/cc=1 by omega)with h|h; { exact Rd.below JJ (dC h) }; { subst h;obtain⟨_,hT⟩:=hq 8 _ _ an an an rfl rfl an;exact hT.rd 0 rfl } }
    refine a6 hX O (ak.n (fp O ap))
   ·refine iF λe1 w1 hb hp aW hq=>?_
    refine aI (ae7 (2+E) (bp.ao hb) GM ac) O ?_;rintro _ w9 ⟨rfl,bB⟩;rw[List.set_set,mw ⟨(rg bZ E).a,(lj (fb (gl B E))).length,(rg bZ E).c⟩ (lj (fb (gl B E)))]at bB;exact ak.n (dS.dn O ⟨O,bB⟩)
   ·intro e1 w1 cc eL cI dC hp aW hq;show ak _ _ _ _ _ _ _;have hX:fu w1 dp N bZ:=by { have cI:=lz cI (b:=1) an;rcases(show cc=0\/cc=1 by omega)with h|h; { exact o4.ao (dC h) }; { subst h;obtain⟨_,hT⟩:=hq 8 _ _ an an an rfl rfl an;exact hT.dm 1 rfl } }
    refine aA hX.2 O (ak.n (fp O ap))
   refine kB 1 λe1 w1 hp aW hq=>?_
   have cg:=hp 8 _ _ an O O an;obtain⟨Oo,hT⟩:=cg;refine nC (te:=27) (n:=N) (c:=N) (A:=dp) (xs:=bZ) 1 hT O O (by exact Oo) ac ?_;intro wY hY;exact ak.n (dS.st O hY)
  intro u jm _ hu _ _;have hT:=hu 10 _ O an;have hT:St w jm (bS A4 i AR N cR dp N N::(aV 27 2 dp N N (bZ.set E ⟨(rg bZ E).a,(lj (fb (gl B E))).length,(rg bZ E).c⟩) ((mF B E).set E (cs (gl B E)))++KK)):=hT;rw[ku]at hT;refine gq O (aJ O (aN O (tQ ?_)));exact⟨(E+1,_),by show N-(E+1)<N-E;omega,(auV O),by show E+1<=N;omega,by simp[uo],hT⟩
 have qt:E=N:=by omega
 have eA:mF B E=cd M:=by
  rw[qt,<-k6,anX];apply iC
  ·rw[jd,wC,k6,mY]
  intro k h1 h2;rw[jd]at h1;have e1:=GI k ac;rw[df h1,df h2]at e1;rw[List.getElem_map];exact e1
 rw[eA]at hS;refine ba O (bc (bY O ?_));refine cG 2 (hS.rd 0 O) O O O ?_;have az:St w eO (bS A2 0 none 0 0 none 0 0::(av 2 AR N cR (ct M i)::(aV 27 2 dp N N bZ (cd M)++[]))):=by
  have hs:(aV 27 2 dp N N bZ (cd M)++[av 2 AR N cR (ct M i),bS A2 0 none 0 0 none 0 0]).Sublist (bS A4 i AR N cR dp N N::(aV 27 2 dp N N bZ (cd M)++KK)):=by
   rw[Cv];exact List.Sublist.cons _ (List.Sublist.append_left (List.Sublist.cons_cons _ (List.Sublist.cons_cons _ (List.nil_sublist _))) _)
  refine(hS.sub hs).perm ?_;rw[dQ];exact(gL).trans (List.Perm.swap _ _ _)
 refine dU 3 0 az O O O O O O O λgD dz=>bR O (oI O (dz.rd 0 O) O ?_);refine .inr ⟨ac,AR,cR,dp,N,bZ,?_,by rw[mY];exact uo,?_⟩
 ·rw[mY,gP];rfl
 rw[mY,gP];exact dz.tail
structure TV where
 f:Int
 g:Int
 r:Int
def asW(x:TV):List ab:=[aj x.f,aj x.g,aj x.r]
def TV.v(x:TV):ab:=.agg #[aj x.f,aj x.g,aj x.r]
def ar6:TV:=⟨0,0,0⟩
section
variable {w0 w:aa}{ks:List Ck}{i:Nat}{t:ad}{A:ai}{k q:Nat}{cs:List TV}
end
section
variable {P:Program}{N:Nat}{ops:Array Oper}{K:Env->aa->Prop}{rest:List Oper}{e:Env}{w0 w w':aa}{ks:List Ck}{d:Nat}{ty:ad}{pos:String}{af:Array Edge}
theorem og{el:ad}{x:ae}{v0 v1 v2:ab}(hS:St w0 w ks)(hx:ev e x=.agg #[v0,v1,v2])(hb:Nat.blt d N=true)(hK:∀A w',St w0 w' (Bx el 3 A [v0,v1,v2]::ks)->ak P N ops K rest (bE e d (.pointer A)) w')(hM:eV [v0,v1,v2]=false:=by rfl):ak P N ops K (⟨some d,.box el x,ty,pos,af,none⟩::rest) e w:=.FQ hS hx hb rfl hK hM
end
theorem acs(A:ai)(n c:Nat)(xs:ah)(w:aa)(hR:bu w A n xs)(hn:n<=1000000000):
 aF prog 84 [.slice A n c] w (λv w'=>∃b:Bool,v=.bool b/\(b=true↔oN xs)/\St w w' []):=by
 have cT:=hR.1;refine bn func84 O ntmps84 O (bM O) ?_;refine aY O (aR O O (cV O (ay O ?_)));refine Cd.loop (α:=Nat) (λk=>[(0,.slice A n c),(3,aj ((n:Int)-1-(k:Int)))]) (λk w'=>St w w' []/\(k<=n-1)/\∀j:Nat,n-k<=j->j<n->gi xs ((j:Int)-1)<=gi xs j) (λk=>n-k) 0 ⟨O,aQ (Value.int .i64) (by show(n:Int)-1=(n:Int)-1-((0:Nat):Int);omega),au⟩ ⟨St.refl w,bl _,λj h1 h2=>by omega⟩ ?_;rintro k e w1 ⟨hS,hk,hK⟩;have eW:=hS.dq hR;refine bC O (aK _ O (λh1=>?_) (λh1=>?_))
 ·have e1:((n:Int)-1-(k:Int))=((n-1-k:Nat):Int):=by omega
  have e2:((n:Int)-1-(k:Int)-1)=((n-1-k:Nat):Int)-1:=by omega
  refine cM O ?_;refine ec [xS (A) (n) (c),xI (((n:Int)-1-(k:Int))),xP (aH (A) (((n:Int)-1-(k:Int))).toNat),xI (gi (xs) (((n:Int)-1-(k:Int)))),xS (A) (n) (c),xI (((n:Int)-1-(k:Int))),xI ((((n:Int)-1-(k:Int)))-((1:Int))),xP (aH (A) ((((n:Int)-1-(k:Int)))-((1:Int))).toNat),xI (gi (xs) ((((n:Int)-1-(k:Int)))-((1:Int)))),xB (decide (gi xs ((n:Int)-1-(k:Int))<gi xs ((n:Int)-1-(k:Int)-1)))] O (eK O) ?_ ?_
  ·refine⟨Dr O,Dr O,λ_ _ hb _ _=>aA (eW.ao hb).2 O Az,λ_ _ hb _ _=>bg (eW.ao hb) O Az,Dr O,Dr O,λ_ _ _ _ _=>cV O Az,λ_ _ hb _ _=>aA (eW.ao hb).2 O Az,λ_ _ hb _ _=>bg (eW.ao hb) O Az,?_,au⟩
   ·intro e1 w1 hb hp aW;refine aI (Ua _ _ _) O ?_;rintro _ w2 ⟨rfl,aw⟩;subst aw;refine ak.n (d0 ap)
  intro u w2 hb _;have az:=hS.ao hb;refine fG O (aK _ O (λh2=>?_) (λh2=>?_))
  ·refine dE O (fz (fe ?_));refine cK O ?_;refine⟨false,rfl,⟨λh=>(by cases h),λh=>?_⟩,az⟩;rw[e1]at h2;have h3:=List.pairwise_iff_getElem.1 h (n-1-k-1) (n-1-k) ac ac ac;rw[<-b7 (by omega),<-b7 (by omega),show((n-1-k-1:Nat):Int)=((n-1-k:Nat):Int)-1 by omega]at h3;omega
  ·refine aC O (cV O (aN O (tQ ?_)));refine⟨k+1,by show n-(k+1)<n-k;omega,⟨O,aQ (Value.int .i64) (by show(n:Int)-1-(k:Int)-1=(n:Int)-1-((k+1:Nat):Int);omega),au⟩,az,ac,λj hj1 qE=>?_⟩
   by_cases ej:n-k<=j
   ·exact hK j ej qE
   ·have:(j:Int)=(n:Int)-1-(k:Int):=by omega
    rw[this];omega
 ·refine ba O (bc (ew O ?_));refine cK O ⟨true,O,⟨λ_=>?_,λ_=>O⟩,hS⟩;have key:∀j i:Nat,i<=j->j<n->gi xs i<=gi xs j:=by
   intro j
   induction j with
   |zero=>
    intro i hi _;have:i=0:=by omega
    rw[this];exact Int.le_refl _
   |succ j ih=>
    intro i hi hj
    by_cases e:i=j+1
    ·subst e;exact Int.le_refl _
    ·have h3:=ih i ac ac;have h4:=hK (j+1) ac hj;rw[show((j+1:Nat):Int)-1=(j:Int) by omega]at h4;omega
  refine List.pairwise_iff_getElem.2 λi j hi hj jC=>?_
  have:=key j i ac ac
  rwa[b7 hi,b7 hj]at this
theorem ads{n:Int}{R:ah}(h:∀x∈R,0<=x/\x<=n-1):BZ 0 (n-1) R:=h
theorem K4(n:Int)(A D:ai)(cA cD:Nat)(R:ah)(rs:List aE)(B:ag)(w:aa)(hR:bu w A R.length R)(hB:bH w D B.length rs B)(hP:gN n R B):
 aF prog 36 [.agg #[aj n,.slice A R.length cA,.slice D B.length cD]] w (λv w'=>v=.bool true/\St w w' []):=by
 have hn:=hP.n1;have ou:=hP.qm;have hle:=hP.len;have br:=λe (h:e<R.length)=>hP.row e h
 have bT:∀e:Nat,e<R.length->(gl B e).length<=500:=λe h=>by
  have:=tv (N:=R.length) (br e h).1.nodup λx hx=>((br e h).2 x hx).1
  omega
 obtain⟨N,hN⟩:∃N,R.length=N:=⟨_,rfl⟩;rw[hN]at hR ou hle br bT|-;rw[hle]at hB|-;refine bn func36 O ntmps36 O (bM O) (aY O (og (St.refl w) O O ?_));intro A1 w1 ax;have fh:=ax.below;have h1:Rd w1 A1 3 (λj=>[Value.int .i64 n,.slice A N cA,.slice D N cD].getD j undef):=ax.rd 0 O;have hR:=hR.ao fh;have hB:=hB.ao fh;have ax:=ax.none;refine aq O (aS h1 O (a6 h1 O (aI (oK _ _ _ _) O ?_)));rintro _ w1 ⟨rfl,rfl⟩;refine aq O (aS h1 O (fX (j:=0) h1 (by exact aQ Value.pointer O) O O O O (aI (uU _ _ _ _) O ?_)));rintro _ w1 ⟨rfl,rfl⟩
 first|refine cO rfl rfl ?_|refine dv rfl rfl ?_
 refine aq O (b9 23 O (λh=>absurd ac h) (λ_=>?_));refine ar O (aq O (ar O (aq O ?_)));refine b9 27 O (λh=>by omega) (λ_=>?_);refine ar O (aS h1 O (ar O (a6 h1 O ?_)));refine ar O (aR O O (ar O ?_));refine aS h1 O (ar O (a6 h1 O ?_));refine ar O (aR O O (ar O (aq O ?_)));refine b9 36 O (λh=>absurd O h) (λ_=>?_);refine ar O (aS h1 O (ar O (a6 h1 O (ar O (aS h1 O (ar O (fX (j:=0) h1 (by exact aQ Value.pointer O) O O O O ?_)))))));refine ar O (cV O (ar O ?_));refine aI (MM A N cA R 0 (n-1) _ hR ac) O ?_;rintro _ w2 ⟨rfl,aw⟩;have hb:=aw.below;have h1:=Rd.below h1 hb;have hR:=hR.ao hb;have hB:=hB.ao hb;have ax:=ax.ao hb;clear aw hb;refine ar O ?_
 first|refine cO rfl rfl ?_|refine dv rfl rfl ?_
 refine aq O (b9 45 O (λh=>absurd (ads hP.jl) h) (λ_=>?_));refine ar O (aS h1 O (ar O (a6 h1 O (ar O (aI (acs A N cA R _ hR ac) O ?_)))));rintro _ w3 ⟨b,rfl,hbS,aw⟩;obtain rfl:=hbS.2 hP.B0;have hb:=aw.below;have h1:=Rd.below h1 hb;have hR:=hR.ao hb;have hB:=hB.ao hb;have ax:=ax.ao hb;clear aw hb;refine ar O ?_
 first|refine cO rfl rfl ?_|refine dv rfl rfl ?_
 refine ay O (Cd.cX O (aC O (aS h1 O (a6 h1 O ?_))));refine aR O O (ay O ?_);refine Cd.loop (α:=Nat) (λk=>[(1,.pointer A1),(3,aj N),(52,.slice D N cD),(53,aj N),(54,aj k)]) (λk w'=>k<=N/\St w3 w' []) (λk=>N-k) 0 (auV O) ⟨bl _,St.refl _⟩ ?_;rintro k e w4 ⟨hk,aw⟩;have hb:=aw.below;have h1:=Rd.below h1 hb;have hR:=hR.ao hb;have hB:=hB.ao hb;have ax:=ax.ao hb;clear hb;refine bC O (aK _ O (λh3=>?_) (λh3=>?_))
 ·have CO:k<N:=by omega
  have fJ:=hB.at_ (i:=(k:Int)) ac ac;have jb:=fJ.1;have X4:=bT k CO;have e6:=br k CO;refine aC O (aA hB.top.2 O (bw hB.top O ?_));refine aq O (aR O O (ay O ?_));refine Cd.loop (α:=Nat) (λq=>[(1,.pointer A1),(3,aj N),(52,.slice D N cD),(53,aj N),(54,aj k),(4,aj k),(5,.slice (rg rs k).a (rg rs k).n (rg rs k).c),(59,.slice (rg rs k).a (rg rs k).n (rg rs k).c),(60,aj ((rg rs k).n:Int)),(61,aj q)]) (λq w'=>q<=(rg rs k).n/\St w4 w' []) (λq=>(rg rs k).n-q) 0 (auV O) ⟨bl _,St.refl _⟩ ?_;rintro q e w5 ⟨hq,rL⟩;have hb:=rL.below;have h1:=Rd.below h1 hb;have hR:=hR.ao hb;have hB:=hB.ao hb;have fJ:=fJ.ao hb;clear hb;refine bC O (aK _ O (λh4=>?_) (λh4=>?_))
  ·have vz:q<(gl B k).length:=by omega
   have hd:=e6.2 (gi (gl B k) q) (gi_in vz);refine aC O (aA fJ.2 O (bg fJ O (ay O ?_)));generalize Kd:gi (gl B k) q=d at*
   by_cases sg:0<q
   ·
    have tp:=e6.1.y6 (show q-1<q by omega) vz;rw[Kd,show((q-1:Nat):Int)=(q:Int)-1 by omega]at tp;refine ec [xI (d),xI ((N:Int)),xI (((N:Int))-((1:Int))),xB (decide (0<=d/\d<=(N:Int)-1)),xB (false),xB (false),xP (aH (A1) 1),xS (A) (N) (cA),xI (d),xP (aH (A) (d).toNat),xI (gi (R) (d)),xP (aH (A1) 1),xS (A) (N) (cA),xI ((k:Int)),xP (aH (A) ((k:Int)).toNat),xI (gi (R) ((k:Int))),xB (false),xB (false),xB (false),xI ((q:Int)),xB (true),xB (true),xS ((rg rs k).a) ((rg rs k).n) ((rg rs k).c),xI ((q:Int)),xI (((q:Int))-((1:Int))),xP (aH ((rg rs k).a) (((q:Int))-((1:Int))).toNat),xI (gi (gl B k) (((q:Int))-((1:Int)))),xI (d),xB (false),xB (false),xB (false)] O (eK O) ?_ ?_
    ·refine⟨Dr O,Dr O,λ_ _ _ _ _=>cV O Az,?_,λ_ _ _ _ _=>cO O O (Az (by exact aQ Value.bool (db (λh=>h ac)))),Dr O,λ_ _ hb _ _=>ar O (aS (h1.below hb) O Az),λ_ _ hb _ _=>ar O (a6 (h1.below hb) O Az),Dr O,λ_ _ hb _ _=>ar O (aA (hR.ao hb).2 O Az),λ_ _ hb _ _=>ar O (bg (hR.ao hb) O Az),λ_ _ hb _ _=>ar O (aS (h1.below hb) O Az),λ_ _ hb _ _=>ar O (a6 (h1.below hb) O Az),Dr O,λ_ _ hb _ _=>ar O (aA (hR.ao hb).2 O Az),λ_ _ hb _ _=>ar O (bg (hR.ao hb) O Az),λ_ _ _ _ _=>Dk O (by exact aQ Value.bool (db ac)),Dr O,Dr O,Dr O,λ_ _ _ _ _=>Dk O (by exact aQ Value.bool (dB ac)),Dr O,Dr O,Dr O,λ_ _ _ _ _=>ar O (cV O Az),λ_ _ hb _ _=>ar O (aA (fJ.ao hb).2 O Az),λ_ _ hb _ _=>ar O (bg (fJ.ao hb) O Az),Dr O,λ_ _ _ _ _=>Dk O (by exact aQ Value.bool (db ac)),Dr O,Dr O,au⟩;intro e1 w1 hb hp aW;refine aI (uU _ _ _ _) O ?_;rintro _ w2 ⟨rfl,aw⟩;subst aw;refine ak.n (d0 ap)
    intro u w6 hb _;refine fG O (Cd.cX O ?_);refine aC O (aJ O (aN O (tQ ?_)));exact⟨q+1,by show(rg rs k).n-(q+1)<(rg rs k).n-q;omega,(auV O),ac,rL.ao hb⟩
   refine ec [xI (d),xI ((N:Int)),xI (((N:Int))-((1:Int))),xB (decide (0<=d/\d<=(N:Int)-1)),xB (false),xB (false),xP (aH (A1) 1),xS (A) (N) (cA),xI (d),xP (aH (A) (d).toNat),xI (gi (R) (d)),xP (aH (A1) 1),xS (A) (N) (cA),xI ((k:Int)),xP (aH (A) ((k:Int)).toNat),xI (gi (R) ((k:Int))),xB (false),xB (false),xB (false),xI ((q:Int)),xB (false),xB (false),xU,xU,xU,xU,xU,xU,xU,xB (false),xB (false)] O (eK O) ?_ ?_
   ·refine⟨Dr O,Dr O,λ_ _ _ _ _=>cV O Az,?_,λ_ _ _ _ _=>cO O O (Az (by exact aQ Value.bool (db (λh=>h ac)))),Dr O,λ_ _ hb _ _=>ar O (aS (h1.below hb) O Az),λ_ _ hb _ _=>ar O (a6 (h1.below hb) O Az),Dr O,λ_ _ hb _ _=>ar O (aA (hR.ao hb).2 O Az),λ_ _ hb _ _=>ar O (bg (hR.ao hb) O Az),λ_ _ hb _ _=>ar O (aS (h1.below hb) O Az),λ_ _ hb _ _=>ar O (a6 (h1.below hb) O Az),Dr O,λ_ _ hb _ _=>ar O (aA (hR.ao hb).2 O Az),λ_ _ hb _ _=>ar O (bg (hR.ao hb) O Az),λ_ _ _ _ _=>Dk O (by exact aQ Value.bool (db ac)),Dr O,Dr O,Dr O,λ_ _ _ _ _=>Dk O (by exact aQ Value.bool (db ac)),Dr O,Dr O,Dr O,Dr O,Dr O,Dr O,Dr O,Dr O,Dr O,Dr O,au⟩;intro e1 w1 hb hp aW;refine aI (uU _ _ _ _) O ?_;rintro _ w2 ⟨rfl,aw⟩;subst aw;refine ak.n (d0 ap)
   intro u w6 hb _;refine fG O (Cd.cX O ?_);refine aC O (aJ O (aN O (tQ ?_)));exact⟨q+1,by show(rg rs k).n-(q+1)<(rg rs k).n-q;omega,(auV O),ac,rL.ao hb⟩
  refine ba O (bc (bY O (aJ O (aN O (tQ ?_)))));exact⟨k+1,by show N-(k+1)<N-k;omega,(auV O),ac,aw.ao rL.below⟩
 clear aw h3;refine ba O (bc (bY O ?_));refine aS h1 O (a6 h1 O ?_);refine aR O O (ay O ?_);refine Cd.loop (α:=Nat) (λk=>[(1,.pointer A1),(100,.slice D N cD),(101,aj N),(102,aj k)]) (λk w'=>k<=N/\St w4 w' []) (λk=>N-k) 0 (auV O) ⟨bl _,St.refl _⟩ ?_;rintro k e w5 ⟨hk,aw⟩;have hb:=aw.below;have h1:=Rd.below h1 hb;have hB:=hB.ao hb;have ax:=ax.ao hb;clear hb;refine bC O (aK _ O (λh3=>?_) (λh3=>?_))
 ·have CO:k<N:=by omega
  have fJ:=hB.at_ (i:=(k:Int)) ac ac;have jb:=fJ.1;have X4:=bT k CO;have e6:=br k CO;refine aC O (aA hB.top.2 O (bw hB.top O ?_));refine aq O (aR O O (ay O ?_));refine Cd.loop (α:=Nat) (λq=>[(1,.pointer A1),(100,.slice D N cD),(101,aj N),(102,aj k),(9,.slice (rg rs k).a (rg rs k).n (rg rs k).c),(106,.slice (rg rs k).a (rg rs k).n (rg rs k).c),(107,aj ((rg rs k).n:Int)),(108,aj q)]) (λq w'=>q<=(rg rs k).n/\w'=w5) (λq=>(rg rs k).n-q) 0 (auV O) ⟨bl _,O⟩ ?_;rintro q e w6 ⟨hq,rfl⟩;refine bC O (aK _ O (λh4=>?_) (λh4=>?_))
  ·have vz:q<(gl B k).length:=by omega
   have vt:=gi_in vz;have hd:=e6.2 (gi (gl B k) q) vt;refine aC O (aA fJ.2 O (bg fJ O (aq O (aS h1 O (a6 h1 O (aq O ?_))))));generalize Kd:gi (gl B k) q=d at*;have gI:=hB.at_ (i:=d) ac ac;have akC:=gI.1;have yH:(gl B d).length<=500:=by
    have:=bT d.toNat ac
    rwa[Int.toNat_of_nonneg hd.1.1]at this
   refine aA hB.top.2 O (bw hB.top O ?_);refine aR O O (ay O ?_);refine Cd.loop (α:=Nat) (λt=>[(1,.pointer A1),(100,.slice D N cD),(101,aj N),(102,aj k),(9,.slice (rg rs k).a (rg rs k).n (rg rs k).c),(106,.slice (rg rs k).a (rg rs k).n (rg rs k).c),(107,aj ((rg rs k).n:Int)),(108,aj q),(116,.slice (rg rs d).a (rg rs d).n (rg rs d).c),(117,aj ((rg rs d).n:Int)),(118,aj t)]) (λt w'=>t<=(rg rs d).n/\w'=w6) (λt=>(rg rs d).n-t) 0 (auV O) ⟨bl _,O⟩ ?_;rintro t e w7 ⟨ht,rfl⟩;refine bC O (aK _ O (λh5=>?_) (λh5=>?_))
   ·have Qp:t<(gl B d).length:=by omega
    have pG:=gi_in Qp;have htr:=hP.tr k ac d vt _ pG;refine aC O (aA gI.2 O (bg gI O (aq O (aI (TN _ _ _ (gl B k) _ _ fJ e6.1 ac) O ?_))));rintro _ _ ⟨⟨p,rfl⟩,rfl⟩;refine aq O ?_
    first|refine cO rfl rfl ?_|refine dv rfl rfl ?_
    refine ay O (auT O (λh=>h htr) (aC O (aJ O (aN O (tQ ?_)))));exact⟨t+1,by show(rg rs d).n-(t+1)<(rg rs d).n-t;omega,(auV O),ac,O⟩
   refine ba O (bc (bY O (aJ O (aN O (tQ ?_)))));exact⟨q+1,by show(rg rs k).n-(q+1)<(rg rs k).n-q;omega,(auV O),ac,O⟩
  refine ba O (bc (bY O (aJ O (aN O (tQ ?_)))));exact⟨k+1,by show N-(k+1)<N-k;omega,(auV O),ac,aw⟩
 refine ba O (bc (ew O ?_));exact cK O ⟨O,ax⟩
theorem Cl{M:ag}(hM:wh M){i f:Nat}(hf:f<(gl M 0).length):(a8 M i:Int)<=fw M i f/\fw M i f<(a8 M (i+1):Int):=by
 have h1:=Js hM i f hf;unfold fw;show _/\_<((a8 M i+(kC M i).toNat:Nat):Int);omega
theorem aoM{α:Type}(x a b c d e f g:α)(X Y:List α):(x::a::b::c::d::e::f::g::(X++Y)).Perm (a::b::c::d::e::f::g::((X++[x])++Y)):=by
 classical
 refine oe.2 λz=>?_
 simp only[ob,mM,sR];omega
theorem aoN{α:Type}(x a b c d e f g:α)(X Y:List α):(x::a::b::c::d::e::f::g::(X++Y)).Perm (a::b::c::d::e::f::g::(X++(Y++[x]))):=by
 classical
 refine oe.2 λz=>?_
 simp only[ob,mM,sR];omega
theorem aoO{α:Type}(a b c d e f g:α)(X Y:List α):(a::b::c::d::e::f::g::(X++Y)).Perm (a::((f::X)++(b::c::d::e::((g::Y)++[])))):=by
 classical
 refine oe.2 λz=>?_
 simp only[ob,mM,sR];omega
def mH(M:ag)(i:Nat):ah:=(List.range i).map λk=>(a8 M k:Int)
def pb(M:ag)(i:Nat):ag:=(List.range i).map (dG M)
theorem aow(M:ag)(i:Nat):mH M (i+1)=mH M i++[(a8 M i:Int)]:=by simp[mH,lK]
theorem anc(M:ag)(i:Nat):pb M (i+1)=pb M i++[dG M i]:=by simp[pb,lK]
theorem aae{M:ag}{i k:Nat}(h:k<i):gi (mH M i) k=(a8 M k:Int):=by
 rw[b7 (by simp[mH];exact h)];simp[mH]
theorem Zh{M:ag}{i k:Nat}(h:k<i):gl (pb M i) k=dG M k:=by
 rw[df (by simp[pb];exact h)];simp[pb]
theorem QK(M:ag)(i:Nat):(pb M i).length=i:=by simp[pb]
def sP(M:ag)(i f k:Nat)(G:List Bool):Prop:=G.length=a8 M M.length*a8 M M.length/\∀e d:Nat,e<a8 M M.length->d<a8 M M.length->(gb G ((e*a8 M M.length+d:Nat):Int)=true↔∃f' k',(f'<f\/f'=f/\k'<k)/\f'<(gl M 0).length/\k'<i/\fw M i f'=e/\fw M k' f'=d)
theorem aoD{N e d e' d':Nat}(h1:d<N)(h2:d'<N)(h:e*N+d=e'*N+d'):e=e'/\d=d':=by
 have h3:(e*N+d) / N=e:=by rw[Nat.add_comm,Nat.add_mul_div_right _ _ (by omega),Nat.div_eq_of_lt h1,Nat.zero_add]
 have h4:(e'*N+d') / N=e':=by rw[Nat.add_comm,Nat.add_mul_div_right _ _ (by omega),Nat.div_eq_of_lt h2,Nat.zero_add]
 have h5:e=e':=by rw[<-h3,h,h4]
 subst h5;exact⟨O,ac⟩
theorem Rh{N e d:Nat}(h1:e<N)(h2:d<N):e*N+d<N*N:=by
 have:(e+1)*N<=N*N:=Nat.mul_le_mul_right N h1;rw[Nat.succ_mul]at this;omega
theorem sP.zero(M:ag)(i:Nat):sP M i 0 0 (List.replicate (a8 M M.length*a8 M M.length) false):=by
 refine⟨by simp,λe d he hd=>?_⟩;have:gb (List.replicate (a8 M M.length*a8 M M.length) false) ((e*a8 M M.length+d:Nat):Int)=false:=by
  simp only[gb,gx,b5,List.getElem?_replicate]
  split<;>rfl
 rw[this];constructor
 ·intro h;cases h
 rintro⟨f',k',h,_⟩;omega
theorem sP.next{M:ag}(hM:wh M){i f k:Nat}{G:List Bool}(h:sP M i f k G)(hf:f<(gl M 0).length)(hi:i<M.length)(hk:k<i):sP M i f (k+1) (G.set ((fw M i f).toNat*a8 M M.length+(fw M k f).toNat) true):=by
 have h1:=Cl hM (i:=i) hf;have h2:=Cl hM (i:=k) hf;have h3:=pY M (show i+1<=M.length by omega);have h4:=pY M (show k+1<=M.length by omega);refine⟨by rw[fR];exact h.1,λe d he hd=>?_⟩;have hl:=Rh (e:=(fw M i f).toNat) (d:=(fw M k f).toNat) (N:=a8 M M.length) ac ac;have hg:gb (G.set ((fw M i f).toNat*a8 M M.length+(fw M k f).toNat) true) ((e*a8 M M.length+d:Nat):Int)=if(fw M i f).toNat*a8 M M.length+(fw M k f).toNat=e*a8 M M.length+d then true else gb G ((e*a8 M M.length+d:Nat):Int):=by
  simp only[gb,gx,b5,lI]
  by_cases e1:(fw M i f).toNat*a8 M M.length+(fw M k f).toNat=e*a8 M M.length+d
  ·rw[aG e1,aG (by rw[h.1];exact hl),aG e1];rfl
  rw[aD e1,aD e1]
 rw[hg]
 by_cases e1:(fw M i f).toNat*a8 M M.length+(fw M k f).toNat=e*a8 M M.length+d
 ·rw[aG e1];have:=aoD ac hd e1;exact⟨λ_=>⟨f,k,.inr ⟨O,ac⟩,hf,hk,ac,ac⟩,λ_=>O⟩
 rw[aD e1,h.2 e d he hd];constructor
 ·rintro⟨f',k',q,r⟩;exact⟨f',k',ac,r⟩
 rintro⟨f',k',q,r1,r2,r3,r4⟩;refine⟨f',k',?_,r1,r2,r3,r4⟩
 by_cases e2:f'=f/\k'=k
 ·obtain⟨rfl,rfl⟩:=e2;exact absurd (by rw[r3,r4];rfl) e1
 omega
theorem sP.row{M:ag}{i f:Nat}{G:List Bool}(h:sP M i f i G):sP M i (f+1) 0 G:=by
 refine⟨h.1,λe d he hd=>?_⟩;rw[h.2 e d he hd];constructor
 ·rintro⟨f',k',q,r⟩;exact⟨f',k',ac,r⟩
 rintro⟨f',k',q,r1,r2,r3⟩;exact⟨f',k',ac,r1,r2,r3⟩
theorem sP.done{M:ag}(hM:wh M){i:Nat}{G:List Bool}(h:sP M i (gl M 0).length 0 G)(hi:i<M.length){e d:Nat}(he:e<a8 M M.length)(hd:d<a8 M M.length):gb G ((e*a8 M M.length+d:Nat):Int)=true↔((a8 M i<=e/\e<a8 M (i+1))/\(d:Int)∈gl (cd M) e):=by
 rw[h.2 e d he hd,tT (by omega) (by omega)];constructor
 ·rintro⟨f',k',_,r1,r2,r3,r4⟩;have:=Cl hM (i:=i) r1;exact⟨ac,ac,f',r1,i,hi,k',r2,r3.symm,r4.symm⟩
 rintro⟨h1,_,f',r1,i',fY,k',r2,r3,r4⟩;have h5:=Cl hM (i:=i') r1;have:i'=i:=by
  rcases Nat.lt_trichotomy i' i with h|h|h
  ·have:=pY M (show i'+1<=i by omega);omega
  ·exact h
  have:=pY M (show i+1<=i' by omega);omega
 subst this;exact⟨f',k',ac,r1,r2,r3.symm,r4.symm⟩
noncomputable def tN(M:ag)(i e d x:Nat):ah:=if x<a8 M i then gl (cd M) x else if a8 M (i+1)<=x then[]else if x<e then gl (cd M) x else if x=e then(gl (cd M) x).filter λy=>decide (y<d)else[]
noncomputable def gz(M:ag)(i e d:Nat):ag:=(List.range (a8 M M.length)).map (tN M i e d)
theorem zL(M:ag)(i e d:Nat):(gz M i e d).length=a8 M M.length:=by simp[gz]
theorem TJ{M:ag}{i e d x:Nat}(h:x<a8 M M.length):gl (gz M i e d) x=tN M i e d x:=by
 rw[df (by rw[zL];exact h)];simp[gz]
theorem agF{M:ag}{e:Nat}(he:e<a8 M M.length):gl (cd M) e=(gl (cd M) e).filter (λy=>decide (y<(a8 M M.length:Int))):=by
 refine(List.filter_eq_self.2 λy hy=>?_).symm;rw[tT (by omega) (by omega)]at hy;exact dB hy.1.2
theorem Vm(M:ag)(e:Int):SA (gl (cd M) e):=by
 have eA:∀l∈cd M,SA l:=λl hl=>by
  unfold cd at hl;obtain⟨x,_,rfl⟩:=de.1 hl;exact oO _ (uK _)
 by_cases h:e.toNat<(cd M).length
 ·have:gl (cd M) e=gl (cd M) (e.toNat:Int):=by simp only[gl,gx]
  rw[this,df h];exact eA _ (dt _)
 have:gl (cd M) e=[]:=by simp[gl,b5,oP (Nat.le_of_not_lt h)]
 rw[this];exact List.Pairwise.nil
theorem agG{M:ag}(hM:wh M){e:Nat}(he:e<a8 M 1):gl (cd M) e=[]:=by
 have h5:=hM.1;have EB:=pY M (show 1<=M.length by omega);refine List.eq_nil_iff_forall_not_mem.2 λy hy=>?_
 rw[tT (by omega) (by omega)]at hy;obtain⟨_,f,hf,i,hi,k,hk,h1,_⟩:=hy;have h2:=Cl hM (i:=i) hf;have h3:=pY M (show 1<=i by omega);omega
theorem adV{M:ag}(hM:wh M):gz M 1 0 0=List.replicate (a8 M M.length) []:=by
 apply iC (by simp[gz]);intro x h1 h2;rw[zL]at h1;simp only[gz,List.getElem_map,List.getElem_range,List.getElem_replicate];unfold tN
 split
 ·exact agG hM (by assumption)
 split
 ·rfl
 split
 ·omega
 split
 ·rename_i h;subst h;rw[List.filter_eq_nil_iff];intro y hy h;have:=bX h;rw[tT (by omega) (by omega)]at hy;omega
 rfl
theorem adU{M:ag}{i:Nat}:gz M i (a8 M M.length) 0=gz M (i+1) 0 0:=by
 unfold gz;refine ki λx hx=>?_
 have hx:=fo.1 hx;have h1:=pY M (show i+1<=i+1+1 by omega);have h2:=pY M (show i<=i+1 by omega);have hz:∀y∈gl (cd M) x,0<=y:=λy hy=>by rw[tT (by omega) (by omega)]at hy;omega
 unfold tN
 by_cases c1:x<a8 M i
 ·rw[aG c1,aG (by omega)]
 rw[aD c1]
 by_cases c2:x<a8 M (i+1)
 ·rw[aD (by omega),aG hx,aG c2]
 rw[aG (by omega),aD c2]
 split
 ·rfl
 rw[aD (by omega)]
 split
 ·rename_i h;subst h;symm;rw[List.filter_eq_nil_iff];intro y hy h;have:=bX h;have:=hz y hy;omega
 rfl
theorem adX{M:ag}{i e:Nat}:gz M i e (a8 M M.length)=gz M i (e+1) 0:=by
 unfold gz;refine ki λx hx=>?_
 have hx:=fo.1 hx;have hz:∀y∈gl (cd M) x,0<=y:=λy hy=>by rw[tT (by omega) (by omega)]at hy;omega
 unfold tN
 by_cases c1:x<a8 M i
 ·rw[aG c1,aG c1]
 rw[aD c1,aD c1]
 by_cases c2:a8 M (i+1)<=x
 ·rw[aG c2,aG c2]
 rw[aD c2,aD c2]
 by_cases c3:x<e
 ·rw[aG c3,aG (by omega)]
 rw[aD c3]
 by_cases c4:x=e
 ·rw[aG c4,aG (by omega),<-agF hx]
 rw[aD c4,aD (by omega)]
 split
 ·rename_i h;subst h;symm;rw[List.filter_eq_nil_iff];intro y hy h;have:=bX h;have:=hz y hy;omega
 rfl
theorem adY{M:ag}{i e d:Nat}(he:e<a8 M M.length)(hd:d<a8 M M.length)(h:¬((a8 M i<=e/\e<a8 M (i+1))/\(d:Int)∈gl (cd M) e)):gz M i e (d+1)=gz M i e d:=by
 unfold gz;refine ki λx hx=>?_
 unfold tN
 by_cases c1:x<a8 M i
 ·rw[aG c1,aG c1]
 rw[aD c1,aD c1]
 by_cases c2:a8 M (i+1)<=x
 ·rw[aG c2,aG c2]
 rw[aD c2,aD c2]
 by_cases c3:x<e
 ·rw[aG c3,aG c3]
 rw[aD c3,aD c3]
 by_cases c4:x=e
 ·subst c4;rw[aG rfl,aG rfl];refine List.filter_congr λy hy=>?_
  have bN:y≠(d:Int):=λe=>h ⟨ac,e▸hy⟩
  exact kl.2 ac
 rw[aD c4,aD c4]
theorem adW{M:ag}{i e d:Nat}(he:e<a8 M M.length)(h:(a8 M i<=e/\e<a8 M (i+1))/\(d:Int)∈gl (cd M) e):(gz M i e d).set e (gl (gz M i e d) e++[(d:Int)])=gz M i e (d+1):=by
 apply iC (by simp[gz]);intro x h1 h2;rw[zL]at h2;rw[List.getElem_set];have e2:∀d' (hx:x<(gz M i e d').length),(gz M i e d')[x]=tN M i e d' x:=λd' hx=>by simp[gz]
 rw[e2 (d+1) (by rw[zL];exact h2),e2 d (by rw[zL];exact h2)]
 by_cases c:e=x
 ·subst c;rw[aG rfl,TJ he];have hz:∀d':Nat,tN M i e d' e=(gl (cd M) e).filter λy=>decide (y<(d':Int)):=λd'=>by
   unfold tN;rw[aD (by omega),aD (by omega),aD (by omega),aG rfl]
  rw[hz,hz];have hs:=Vm M e;refine SA.eq ?_ (oO _ hs) λy=>?_
  ·rw[SA,List.pairwise_append];refine⟨oO _ hs,List.pairwise_singleton _ _,λa ha b hb=>?_⟩;obtain rfl:=eX.1 hb;exact bX (fM.1 ha).2
  rw[dF,fM,fM,eX];simp only[k5];constructor
  ·rintro(⟨h3,h4⟩|rfl)
   ·exact⟨h3,ac⟩
   exact⟨h.2,ac⟩
  rintro⟨h3,h4⟩
  by_cases e3:y=(d:Int)
  ·exact .inr e3
  exact .inl ⟨h3,ac⟩
 rw[aD c];unfold tN
 by_cases c1:x<a8 M i
 ·rw[aG c1,aG c1]
 rw[aD c1,aD c1]
 by_cases c2:a8 M (i+1)<=x
 ·rw[aG c2,aG c2]
 rw[aD c2,aD c2]
 by_cases c3:x<e
 ·rw[aG c3,aG c3]
 rw[aD c3,aD c3,aD (λh=>c h.symm),aD (λh=>c h.symm)]
theorem adT{M:ag}:gz M M.length 0 0=cd M:=by
 apply iC (by rw[zL,wC]);intro x h1 h2;rw[zL]at h1;simp only[gz,List.getElem_map,List.getElem_range];unfold tN;rw[aG h1,df h2]
theorem aoP{α:Type}(x y p r i q b:α):[x,y,p,r,i,q,b].Perm [p,x,i,q,b,y,r]:=by
 classical
 refine oe.2 λz=>?_
 simp only[mM,sR];omega
theorem Dp{t:ad}{rs:List aE}{xss:ag}{a:ai}{n c:Nat}{x:ah}(h:rs.length=xss.length):cC t (rs++[⟨a,n,c⟩]) (xss++[x])=cC t rs xss++[av t a n c x]:=by
 rw[tA h];rfl
abbrev zg(A1 A2 A4 A5 A6:ai)(A:ai)(n c:Nat)(M:ag)(i j i':Nat)(AR:ai)(cR:Nat)(AD:ai)(cD:Nat)(jt:List aE)(c5 c6:Nat)(dI:List aE):List Ck:=
 bS A4 n AR (a8 M i+j) cR AD (a8 M i+j) cD::av 2 AR (a8 M i+j) cR (ct M i++List.replicate j (i:Int))::av 2 A5 i' c5 (mH M i')::bS A2 0 none 0 0 none 0 0::Bx 32 1 A1 [.slice A n c]::aX 27 AD (a8 M i+j) cD jt::aX 27 A6 i' c6 dI::(cC 2 jt (List.replicate (a8 M i+j) [])++cC 2 dI (pb M i'))
theorem HH{t1 t2:ad}{A:ai}{n c:Nat}{rs:List aE}{xss:ag}{pre ks:List Ck}{i:Nat}(s:aE)(xs:ah)(hr:rs.length=xss.length)(hi:i<rs.length):(pre++(aV t1 t2 A n c rs xss++ks)).set (pre.length+1+i) (av t2 s.a s.n s.c xs)=pre++(aX t1 A n c rs::(cC t2 (rs.set i s) (xss.set i xs)++ks)):=by
 rw[List.set_append_right _ _ (by omega),show pre.length+1+i-pre.length=i+1 by omega]
 congr 1
 show(aX t1 A n c rs::(cC t2 rs xss++ks)).set (i+1) _=_;rw[List.set_cons_succ,List.set_append_left _ _ (by rw[xA hr];exact hi),HY hr]
abbrev qa(A1 A2 A5 A6:ai)(A:ai)(n c:Nat)(M:ag)(AR:ai)(N cR c5 c6:Nat)(dI:List aE):List Ck:=
 av 2 AR N cR (ct M n)::av 2 A5 n c5 (mH M n)::bS A2 0 none 0 0 none 0 0::Bx 32 1 A1 [.slice A n c]::(aV 27 2 A6 n c6 dI (pb M n)++[])
theorem amR(A:ai)(n c:Nat)(rs:List aE)(M:ag)(w:aa)(hR:bH w A n rs M)(hM:wh M):
 aF prog 141 [.agg #[.slice A n c]] w (λv w'=>∃AR cR AD cD jt,v=.agg #[aj (M.length:Int),.slice AR (a8 M M.length) cR,.slice AD (a8 M M.length) cD]/\jt.length=a8 M M.length/\St w w' (av 2 AR (a8 M M.length) cR (ct M M.length)::(aV 27 2 AD (a8 M M.length) cD jt (cd M)++[]))):=by
 have hl:=hR.len;have h1:=hM.1;have h2:=hM.2.1;have Ba:∀i,i<=n->a8 M i<=2000:=λi hi=>by
  have h3:=Lk (M:=M) i;have h4:i*(gl M 0).length<=5*400:=Nat.mul_le_mul ac ac;omega
 refine bn func141 O ntmps141 O (BA O O) (aY O (rf (St.refl w) O O ?_));intro A1 w1 ax;refine u9 ax O λA2 w2 az=>aq O (aS (az.rd 1 O) O (a6 (az.rd 1 O) O ?_));refine aR O O (aq O ?_);refine Th aL aL aL O O O O O O (jy az O ?_);intro A5 w3 aM;refine jy aM O λA6 w4 aU=>u9 aU O λA4 w5 aO=>dU 3 0 aO O O O O O O O ?_;intro w6 bk;have bk:St w w6 (zg A1 A2 A4 A5 A6 A n c M 0 0 0 none 0 none 0 [] 0 0 []):=by
  have h7:=(bk.nil 27).nil 2;exact h7.perm (aoP _ _ _ _ _ _ _)
 clear aO aU aM az ax;refine ay O ?_;refine Cd.loop (α:=Nat×(ai×Nat)×(ai×Nat×List aE)×(ai×Nat)×(ai×Nat×List aE)) (λz=>[(1,.pointer A1),(2,.pointer A2),(3,aj n),(4,.pointer A4),(5,.slice z.2.2.2.1.1 z.1 z.2.2.2.1.2),(6,.slice z.2.2.2.2.1 z.1 z.2.2.2.2.2.1),(7,aj (z.1:Int))])
  (λz w'=>z.1<=n/\z.2.2.1.2.2.length=a8 M z.1/\z.2.2.2.2.2.2.length=z.1/\St w w' (zg A1 A2 A4 z.2.2.2.1.1 z.2.2.2.2.1 A n c M z.1 0 z.1 z.2.1.1 z.2.1.2 z.2.2.1.1 z.2.2.1.2.1 z.2.2.1.2.2 z.2.2.2.1.2 z.2.2.2.2.2.1 z.2.2.2.2.2.2)) (λz=>n-z.1) (0,(none,0),(none,0,[]),(A5,0),(A6,0,[])) ⟨rfl,rfl,rfl,rfl,rfl,rfl,rfl,au⟩ ⟨bl _,rfl,rfl,bk⟩ ?_
 clear bk;rintro⟨i,⟨AR,cR⟩,⟨AD,cD,jt⟩,⟨A5,c5⟩,⟨A6,c6,dI⟩⟩ e w7 ⟨hi,xb,yH,hS⟩;dsimp only at hi xb yH hS|-;have XI:=Ba i hi;refine bC O (aK _ O (λh3=>?_) (λh3=>?_))
 ·have cE:i<n:=by omega
  have nb:=DU M i;have qH:=Ba (i+1) ac;have CX:a8 M (i+1)=a8 M i+(kC M i).toNat:=O;obtain⟨N,hN⟩:∃N:Nat,kC M i=N:=⟨(kC M i).toNat,ac⟩;rw[hN,gx]at CX;have Xd:=agt hM i;rw[hN]at Xd nb;have vu:ct M (i+1)=ct M i++List.replicate N (i:Int):=by rw[ct,hN,gx]
  refine aC O (aS (hS.rd 0 O) O (a6 (hS.rd 0 O) O (aR O O (eh hS O O O ?_))));intro A32 w8 bB;refine eQ 3 bB O (bB.bF 0 O) O O O ?_;intro nv rA w9 bj;have bj:=bj.tail;have e5:mH M i++[((a8 M i+0:Nat):Int)]=mH M (i+1):=(aow M i).symm;rw[e5]at bj;clear bB hS;refine aq O (cG 0 (bj.rd 4 O) O O O (aq O (aI (amD A n c rs M i _ (bj.bU hR) hM cE) O ?_)));rintro _ dJ ⟨vX,x3,rfl,aw⟩;have cQ:=bj.call aw;clear aw bj;refine jW cQ O O O λdp eO dA=>iT 8 dA O (dA.dm 0 O) O O O ac ac O ?_;intro rU sW gD dz;have dz:St w gD (av 2 vX (gl M 0).length x3 (dG M i)::bS A4 n AR (a8 M i+0) cR AD (a8 M i+0) cD::av 2 AR (a8 M i+0) cR (ct M i++List.replicate 0 (i:Int))::av 2 nv (i+1) rA (mH M (i+1))::bS A2 0 none 0 0 none 0 0::Bx 32 1 A1 [.slice A n c]::aX 27 AD (a8 M i+0) cD jt::aX 27 rU (i+1) sW (dI++[⟨vX,(gl M 0).length,x3⟩])::(cC 2 jt (List.replicate (a8 M i+0) [])++cC 2 dI (pb M i))):=dz.tail;have dz:St w gD (zg A1 A2 A4 nv rU A n c M i 0 (i+1) AR cR AD cD jt rA sW (dI++[⟨vX,(gl M 0).length,x3⟩])):=by
   have h9:=dz.perm (aoN _ _ _ _ _ _ _ _ _ _);rw[<-Dp (by rw[yH,QK]),<-anc]at h9;exact h9
  have X5:(dI++[(⟨vX,(gl M 0).length,x3⟩:aE)]).length=i+1:=by simp[yH]
  have Xa:rg (dI++[(⟨vX,(gl M 0).length,x3⟩:aE)]) i=⟨vX,(gl M 0).length,x3⟩:=by
   unfold rg;rw[gx,b5,jM (by omega),yH,Nat.sub_self];rfl
  clear cQ dA;generalize dI++[(⟨vX,(gl M 0).length,x3⟩:aE)]=uO at*;have k8:fu gD rU (i+1) uO:=dz.dm 6 O;have Wc:bu gD vX (gl M 0).length (dG M i):=by
   have hk6:cC 2 uO (pb M (i+1))≠[]\/True:=.inr au;have h7:=BC (t:=2) (rs:=uO) (xss:=pb M (i+1)) (i:=i) (by rw[X5,QK]) ac;have h8:=dz.sub (show(cC 2 uO (pb M (i+1))).Sublist (zg A1 A2 A4 nv rU A n c M i 0 (i+1) AR cR AD cD jt rA sW uO)from(((((((fj _ _).cons _).cons _).cons _).cons _).cons _).cons _).cons _);have h9:=h8.bF i h7;have e8:uO.getD i bI=⟨vX,(gl M 0).length,x3⟩:=Xa;have e9:(pb M (i+1)).getD i []=dG M i:=Zh (show i<i+1 by omega);rw[e8,e9]at h9;exact h9
  refine aq O (aA k8.2 O (bw k8 O ?_));rw[Xa];refine auM (amE vX (gl M 0).length x3 (dG M i) _ Wc ac (λx hx=>by
   obtain⟨k,hk,rfl⟩:=fS.1 hx;rw[Jr]at hk;have:=Js hM i k hk;rw[b7 (by rw[Jr];exact hk)]at this;omega)) rfl rfl rfl ?_
  rintro _ gD ⟨rfl,rfl⟩;rw[Xd];refine ay O ?_;clear k8 Wc;refine Cd.loop (α:=Nat×(ai×Nat)×(ai×Nat×List aE)) (λz=>[(1,.pointer A1),(2,.pointer A2),(3,aj n),(4,.pointer A4),(5,.slice nv (i+1) rA),(6,.slice rU (i+1) sW),(7,aj i),(8,aj ((N:Int)-(z.1:Int)))])
   (λz w'=>z.1<=N/\z.2.2.2.2.length=a8 M i+z.1/\St w w' (zg A1 A2 A4 nv rU A n c M i z.1 (i+1) z.2.1.1 z.2.1.2 z.2.2.1 z.2.2.2.1 z.2.2.2.2 rA sW uO)) (λz=>N-z.1) (0,(AR,cR),(AD,cD,jt)) ⟨rfl,rfl,rfl,rfl,rfl,rfl,rfl,aQ (Value.int .i64) (by show(N:Int)=(N:Int)-((0:Nat):Int);omega),au⟩ ⟨bl _,xb,dz⟩ ?_
  clear dz;rintro⟨j,⟨BR,dR⟩,⟨BD,dD,qT⟩⟩ e jm ⟨hj,yF,hS⟩;dsimp only at hj yF hS|-;refine bC O (aK _ O (λh4=>?_) (λh4=>?_))
  ·have lV:j<N:=by omega
   refine aC O (aS (hS.rd 0 O) O (a6 (hS.rd 0 O) O (aq O (eh hS O O O ?_))));intro A52 qZ lR;refine eQ 2 lR O (lR.bF 0 O) O O O ?_;intro Ih I1 Dw ke;have hB:=ke.rd 1 O;refine aS hB O (oR 1 ke O O O O O ?_);intro Ib JZ;have JZ:=JZ.tail;clear lR ke hB hS;refine aq O ?_;have hB:=JZ.rd 0 O;refine aS hB O (a6 hB O (jy JZ O ?_));intro zz Me Cy;have Cy:St w Me (av 2 zz 0 0 []::_):=Cy;refine jW Cy O O O λFo Dx Cz=>iT 7 Cz O (Cz.dm 0 O) O O O ac ac O ?_;intro uW vi Mf wH;have hB:=wH.rd 2 O;refine aS hB O (oR 2 wH O O O O O ?_);intro uT yn;have yn:St w uT (av 2 zz 0 0 []::bS A4 n Ih (a8 M i+j+1) I1 uW (a8 M i+j+1) vi::av 2 Ih (a8 M i+j+1) I1 ((ct M i++List.replicate j (i:Int))++[(i:Int)])::av 2 nv (i+1) rA (mH M (i+1))::bS A2 0 none 0 0 none 0 0::Bx 32 1 A1 [.slice A n c]::aX 27 uW (a8 M i+j+1) vi (qT++[⟨zz,0,0⟩])::aX 27 rU (i+1) sW uO::(cC 2 qT (List.replicate (a8 M i+j) [])++cC 2 uO (pb M (i+1)))):=yn.tail;have aiD:St w uT (zg A1 A2 A4 nv rU A n c M i (j+1) (i+1) Ih I1 uW vi (qT++[⟨zz,0,0⟩]) rA sW uO):=by
    have h9:=yn.perm (aoM _ _ _ _ _ _ _ _ _ _);rw[<-Dp (by rw[yF,List.length_replicate]),ef,<-List.replicate_succ',<-List.replicate_succ']at h9;exact h9
   refine aq O (cV O (aN O (tQ ?_)));exact⟨(j+1,(Ih,I1),(uW,vi,qT++[⟨zz,0,0⟩])),by show N-(j+1)<N-j;omega,⟨O,O,O,O,O,O,O,aQ (Value.int .i64) (by show(N:Int)-(j:Int)-1=(N:Int)-((j+1:Nat):Int);omega),au⟩,by show j+1<=N;omega,by show(qT++[_]).length=a8 M i+(j+1);rw[cj,yF];rfl,aiD⟩
  ·have lV:j=N:=by omega
   subst lV;refine ba O (bc (bY O (aJ O (aN O (tQ ?_)))));refine⟨(i+1,(BR,dR),(BD,dD,qT),(nv,rA),(rU,sW,uO)),by show n-(i+1)<n-i;omega,(auV O),by show i+1<=n;omega,by rw[CX];exact yF,X5,?_⟩;show St w jm (zg A1 A2 A4 nv rU A n c M (i+1) 0 (i+1) BR dR BD dD qT rA sW uO);unfold zg at hS|-;rw[<-CX,<-vu]at hS;rw[Nat.add_zero,List.replicate_zero,dQ];exact hS
 obtain rfl:i=n:=by omega
 have gP:M.length=i:=hl;obtain⟨N,hK⟩:∃N,a8 M i=N:=⟨_,rfl⟩;have mY:a8 M M.length=N:=by rw[gP,hK]
 have Qj:N*N<=4000000:=je (Nat.mul_le_mul (show N<=2000 by omega) (show N<=2000 by omega)) am;have Wt:St w w7 (bS A4 i AR N cR AD N cD::(aV 27 2 AD N cD jt (gz M 1 0 0)++qa A1 A2 A5 A6 A i c M AR N cR c5 c6 dI)):=by
  rw[adV hM,mY];unfold zg at hS;rw[Nat.add_zero,hK,List.replicate_zero,dQ]at hS;exact hS.perm (aoO _ _ _ _ _ _ _ _ _)
 clear hS;rw[hK]at xb;refine ba O (bc (kX O ?_));refine Cd.loop (α:=Nat×List aE) (λz=>[(1,.pointer A1),(2,.pointer A2),(3,aj i),(4,.pointer A4),(5,.slice A5 i c5),(6,.slice A6 i c6),(9,aj (z.1:Int))])
  (λz w'=>(1<=z.1/\z.1<=i)/\z.2.length=N/\St w w' (bS A4 i AR N cR AD N cD::(aV 27 2 AD N cD z.2 (gz M z.1 0 0)++qa A1 A2 A5 A6 A i c M AR N cR c5 c6 dI))) (λz=>i-z.1) (1,jt) ⟨rfl,rfl,rfl,rfl,rfl,rfl,rfl,au⟩ ⟨⟨cJ _,by show 1<=i;omega⟩,xb,Wt⟩ ?_
 clear Wt;rintro⟨k,qT⟩ e w8 ⟨⟨jr,fV⟩,yF,hS⟩;dsimp only at jr fV yF hS|-;refine bC O (aK _ O (λh4=>?_) (λh4=>?_))
 ·have rI:k<i:=by omega
  refine aC O (aS (hS.rd 0 O) O (a6 (hS.rd 0 O) O ?_));refine aR O O (aq O ?_);refine ak.mul O O O (by have:((N*N:Nat):Int)=(N:Int)*(N:Int):=Int.natCast_mul N N;omega) ?_;rw[show(N:Int)*(N:Int)=((N*N:Nat):Int)from(Int.natCast_mul N N).symm];refine wb (v:=false) (N*N) hS O O ac λeP w9 bj=>ay O ?_;refine Cd.loop (α:=Nat×List Bool) (λz=>[(1,.pointer A1),(2,.pointer A2),(3,aj i),(4,.pointer A4),(5,.slice A5 i c5),(6,.slice A6 i c6),(9,aj k),(10,aj N),(11,.slice eP (N*N) (N*N)),(12,aj (z.1:Int))])
   (λz w'=>z.1<=(gl M 0).length/\sP M k z.1 0 z.2/\St w w' (fB 4 eP (N*N) (N*N) z.2::bS A4 i AR N cR AD N cD::(aV 27 2 AD N cD qT (gz M k 0 0)++qa A1 A2 A5 A6 A i c M AR N cR c5 c6 dI))) (λz=>(gl M 0).length-z.1) (0,List.replicate (N*N) false) ⟨rfl,rfl,rfl,rfl,rfl,rfl,rfl,rfl,rfl,rfl,au⟩ ⟨bl _,by have:=sP.zero M k;rwa[mY]at this,bj⟩ ?_
  clear bj hS;rintro⟨f,G⟩ e dJ ⟨hf,hG,hS⟩;dsimp only at hf hG hS|-;have Qo:∀(G:List Bool)(q:List aE)(B:ag),(qa A1 A2 A5 A6 A i c M AR N cR c5 c6 dI).Sublist (fB 4 eP (N*N) (N*N) G::bS A4 i AR N cR AD N cD::(aV 27 2 AD N cD q B++qa A1 A2 A5 A6 A i c M AR N cR c5 c6 dI)):=λG q B=>((fj _ _).cons _).cons _
  have akY:(aV 27 2 A6 i c6 dI (pb M i)).Sublist (qa A1 A2 A5 A6 A i c M AR N cR c5 c6 dI):=by
   refine List.Sublist.cons _ (List.Sublist.cons _ (List.Sublist.cons _ (List.Sublist.cons _ ?_)));rw[dQ];exact fD _
  have D4:=(hS.sub (Qo _ _ _)).rd 3 O;refine aY O (cG 0 D4 O O O (aI (QH A i c rs M _ (hS.bU hR) ac) O ?_));rintro _ eO ⟨rfl,aw⟩;have hS:=hS.ao aw.below;clear aw D4;refine ay O (aK _ O (λh5=>?_) (λh5=>?_))
  ·have td:f<(gl M 0).length:=by omega
   refine cM O ?_;refine Cd.loop (α:=Nat×List Bool) (λz=>[(1,.pointer A1),(2,.pointer A2),(3,aj i),(4,.pointer A4),(5,.slice A5 i c5),(6,.slice A6 i c6),(9,aj k),(10,aj N),(11,.slice eP (N*N) (N*N)),(12,aj f),(13,aj (z.1:Int))])
    (λz w'=>z.1<=k/\sP M k f z.1 z.2/\St w w' (fB 4 eP (N*N) (N*N) z.2::bS A4 i AR N cR AD N cD::(aV 27 2 AD N cD qT (gz M k 0 0)++qa A1 A2 A5 A6 A i c M AR N cR c5 c6 dI))) (λz=>k-z.1) (0,G) ⟨rfl,rfl,rfl,rfl,rfl,rfl,rfl,rfl,rfl,rfl,rfl,au⟩ ⟨bl _,hG,hS⟩ ?_
   clear hS hG;rintro⟨j,G⟩ e gD ⟨hj,hG,hS⟩;dsimp only at hj hG hS|-;refine bC O (aK _ O (λh6=>?_) (λh6=>?_))
   ·have wR:j<k:=by omega
    have JP:bu gD A5 i (mH M i):=(hS.sub (Qo _ _ _)).bF 1 O;have jh:bH gD A6 i dI (pb M i):=(hS.sub (akY.trans (Qo _ _ _))).tB (QK M i);have e6:=jh.at_ (i:=(k:Int)) ac ac;have KI:=jh.at_ (i:=(j:Int)) ac ac;rw[Zh (by omega)]at e6 KI;have hkn9:(rg dI k).n=(gl M 0).length:=by rw[<-e6.1,Jr]
    have hjn9:(rg dI j).n=(gl M 0).length:=by rw[<-KI.1,Jr]
    have o1:=aae (M:=M) (i:=i) (k:=k) ac;have o2:=aae (M:=M) (i:=i) (k:=j) ac;have e1:=Cl hM (i:=k) td;have e2:=Cl hM (i:=j) td;have m1:=pY M (show k+1<=M.length by omega);have m2:=pY M (show j+1<=M.length by omega);rw[mY]at m1 m2;have f1:gi (mH M i) k+gi (dG M k) f=fw M k f:=by rw[o1];rfl
    have f2:gi (mH M i) j+gi (dG M j) f=fw M j f:=by rw[o2];rfl
    obtain⟨E,hE⟩:∃E:Nat,fw M k f=E:=⟨(fw M k f).toNat,ac⟩;obtain⟨D,hD⟩:∃D:Nat,fw M j f=D:=⟨(fw M j f).toNat,ac⟩;have eZ:=hG.next hM td ac wR;rw[hE,hD,mY,gx,gx]at eZ;rw[hE]at e1 f1;rw[hD]at e2 f2;have ui:=Rh (N:=N) (e:=E) (d:=D) ac ac;have qt:((E*N:Nat):Int)=(E:Int)*(N:Int):=Int.natCast_mul E N;have hle:E*N<=N*N:=Nat.mul_le_mul_right N ac;have eL:=Js hM k f td;have hlo2:=Js hM j f td;have GS:(E:Int)*(N:Int)+gi (mH M i) j+gi (dG M j) f=((E*N+D:Nat):Int):=by omega
    refine cM O ?_;refine iu [29] [yS (eP) (N*N) (N*N),yS (A5) (i) (c5),yI ((k:Int)),yP (aH (A5) ((k:Int)).toNat),yI (gi (mH M i) ((k:Int))),yS (A6) (i) (c6),yI ((k:Int)),yP (aH (A6) ((k:Int)).toNat),yS ((rg (dI) ((k:Int))).a) ((rg (dI) ((k:Int))).n) ((rg (dI) ((k:Int))).c),yI ((f:Int)),yP (aH ((rg (dI) ((k:Int))).a) ((f:Int)).toNat),yI (gi (dG M k) ((f:Int))),yI ((gi (mH M i) ((k:Int)))+(gi (dG M k) ((f:Int)))),yI ((N:Int)),yI ((E:Int)*(N:Int)),yS (A5) (i) (c5),yI ((j:Int)),yP (aH (A5) ((j:Int)).toNat),yI (gi (mH M i) ((j:Int))),yI (((E:Int)*(N:Int))+(gi (mH M i) ((j:Int)))),yS (A6) (i) (c6),yI ((j:Int)),yP (aH (A6) ((j:Int)).toNat),yS ((rg (dI) ((j:Int))).a) ((rg (dI) ((j:Int))).n) ((rg (dI) ((j:Int))).c),yI ((f:Int)),yP (aH ((rg (dI) ((j:Int))).a) ((f:Int)).toNat),yI (gi (dG M j) ((f:Int))),yI ((((E:Int)*(N:Int))+(gi (mH M i) ((j:Int))))+(gi (dG M j) ((f:Int)))),yP (aH (eP) ((((E:Int)*(N:Int))+(gi (mH M i) ((j:Int))))+(gi (dG M j) ((f:Int)))).toNat),.pr (λ_ w'=>St w w' (fB 4 eP (N*N) (N*N) (G.set (E*N+D) true)::bS A4 i AR N cR AD N cD::(aV 27 2 AD N cD qT (gz M k 0 0)++qa A1 A2 A5 A6 A i c M AR N cR c5 c6 dI)))] (ly (ly (ly (ly (ly (ly (ly (ly (ly (ly (ly (ly (ly (ly (ly (ly (ly (ly (ly (ly (ly (ly (ly (ly (ly (ly (ly (ly (ly (bV.2 ⟨Ye.bW (λv w w' h hb=>h.ao hb),(λ_ h=>by cases h)⟩)))))))))))))))))))))))))))))) ?_ ?_
    ·refine⟨bP O,bP O,bP O,cP λ_ _ hb _ _ _=>aA (JP.ao hb).2 O (bA O O),cP λ_ _ hb _ _ _=>bg (JP.ao hb) O (bA O O),bP O,bP O,cP λ_ _ hb _ _ _=>aA (jh.top.ao hb).2 O (bA O O),cP λ_ _ hb _ _ _=>bw (jh.top.ao hb) O (bA O O),bP O,cP λ_ _ hb _ _ _=>aA (e6.ao hb).2 O (bA O O),cP λ_ _ hb _ _ _=>bg (e6.ao hb) O (bA O O),aP λ_ _=>aJ O (bA O O),bP O,aP λ_ _=>ak.mul (i:=(E:Int)) (j:=(N:Int)) (by exact aQ (Value.int .i64) f1) O O ac (bA O O),bP O,bP O,cP λ_ _ hb _ _ _=>aA (JP.ao hb).2 O (bA O O),cP λ_ _ hb _ _ _=>bg (JP.ao hb) O (bA O O),aP λ_ _=>aJ O (bA O O),bP O,bP O,cP λ_ _ hb _ _ _=>aA (jh.top.ao hb).2 O (bA O O),cP λ_ _ hb _ _ _=>bw (jh.top.ao hb) O (bA O O),bP O,cP λ_ _ hb _ _ _=>aA (KI.ao hb).2 O (bA O O),cP λ_ _ hb _ _ _=>bg (KI.ao hb) O (bA O O),aP λ_ _=>aJ O (bA O O),cP λ_ _ hb _ _ _=>aA ((hS.iQ 0 O).ao hb).2 O (bA O O),?_,au⟩
     ·refine iF λe1 w1 hb hp aW hq=>?_
      refine pn 0 (hS.ao hb) O O O ac λw6 bk=>ak.n ?_;exact dS.st O (by rw[GS,gx]at bk;exact bk)
    intro u jm _ hu _ _;have hT:=hu 29 _ O an;refine gq O (aJ O (aN O (tQ ?_)));exact⟨(j+1,_),by show k-(j+1)<k-j;omega,(auV O),by show j+1<=k;omega,eZ,hT⟩
   ·have wR:j=k:=by omega
    subst wR;refine ba O (bc (bY O (aJ O (aN O (tQ ?_)))));exact⟨(f+1,G),by show(gl M 0).length-(f+1)<(gl M 0).length-f;omega,(auV O),by show f+1<=(gl M 0).length;omega,hG.row,hS⟩
  ·have td:f=(gl M 0).length:=by omega
   subst td;have iY:=λe d he hd=>hG.done hM (show k<M.length by omega) (e:=e) (d:=d) he hd
   rw[mY]at iY;have z6:G.length=N*N:=by have:=hG.1;rwa[mY]at this
   refine ba O (bc (kX O ?_));refine Cd.loop (α:=Nat×List aE) (λz=>[(1,.pointer A1),(2,.pointer A2),(3,aj i),(4,.pointer A4),(5,.slice A5 i c5),(6,.slice A6 i c6),(9,aj k),(10,aj N),(11,.slice eP (N*N) (N*N)),(14,aj (z.1:Int))])
    (λz w'=>z.1<=N/\z.2.length=N/\St w w' (fB 4 eP (N*N) (N*N) G::bS A4 i AR N cR AD N cD::(aV 27 2 AD N cD z.2 (gz M k z.1 0)++qa A1 A2 A5 A6 A i c M AR N cR c5 c6 dI))) (λz=>N-z.1) (0,qT) ⟨rfl,rfl,rfl,rfl,rfl,rfl,rfl,rfl,rfl,rfl,au⟩ ⟨bl _,yF,hS⟩ ?_
   clear hS yF hG h5;rintro⟨E,q3⟩ e gD ⟨hE,KB,hS⟩;dsimp only at hE KB hS|-;refine bC O (aK _ O (λh5=>?_) (λh5=>?_))
   ·have qt:E<N:=by omega
    have hEm:((E*N:Nat):Int)=(E:Int)*(N:Int):=Int.natCast_mul E N;have hEle:E*N<=N*N:=Nat.mul_le_mul_right N ac;refine cM O ?_;refine Cd.loop (α:=Nat×List aE) (λz=>[(1,.pointer A1),(2,.pointer A2),(3,aj i),(4,.pointer A4),(5,.slice A5 i c5),(6,.slice A6 i c6),(9,aj k),(10,aj N),(11,.slice eP (N*N) (N*N)),(14,aj E),(15,aj (z.1:Int))])
     (λz w'=>z.1<=N/\z.2.length=N/\St w w' (fB 4 eP (N*N) (N*N) G::bS A4 i AR N cR AD N cD::(aV 27 2 AD N cD z.2 (gz M k E z.1)++qa A1 A2 A5 A6 A i c M AR N cR c5 c6 dI))) (λz=>N-z.1) (0,q3) ⟨rfl,rfl,rfl,rfl,rfl,rfl,rfl,rfl,rfl,rfl,rfl,au⟩ ⟨bl _,KB,hS⟩ ?_
    clear hS KB;rintro⟨D,q4⟩ e jm ⟨hD,KC,hS⟩;dsimp only at hD KC hS|-;refine bC O (aK _ O (λh6=>?_) (λh6=>?_))
    ·have JL:D<N:=by omega
     have ui:=Rh (N:=N) (e:=E) (d:=D) qt JL;have ov:=zL M k E D;rw[mY]at ov;have W6:=iY E D qt JL;have V6:ve jm eP (N*N) G:=hS.iQ 0 O;have GS:(E:Int)*(N:Int)+(D:Int)=((E*N+D:Nat):Int):=by omega
     refine aC O (ak.mul O O O ac ?_);refine aq O (aJ O ?_);refine aA V6.2 O (rj V6 O ac O O ?_);rw[GS];refine ay O ?_;generalize AJ:gb G ((E*N+D:Nat):Int)=b at*;cases b with
     |false => --dup 2
      have jJ:=adY (M:=M) (i:=k) (e:=E) (d:=D) ac ac (λh=>by have:=W6.2 h;cases this);refine Cd.cX O (aC O (aJ O (aN O (tQ ?_))));exact⟨(D+1,q4),by show N-(D+1)<N-D;omega,(auV O),by show D+1<=N;omega,KC,by rw[jJ];exact hS⟩
     |true=>
      have rJ:=adW (M:=M) (i:=k) (e:=E) (d:=D) ac (W6.1 O);have jq:bH jm AD N q4 (gz M k E D):=by
       have h9:=hS.sub (show(aV 27 2 AD N cD q4 (gz M k E D)).Sublist _ from((ny _ _).cons _).cons _);exact h9.tB ov
      have xc:=(jq.at_ (i:=(E:Int)) ac ac).1;have jb:(rg q4 E).n<=N:=by
       rw[<-xc,TJ (by omega)];have fk:(gl (cd M) E).length<=N:=by
        refine tv (Vm M _).nodup λx hx=>?_
        rw[tT (by omega) (by omega)]at hx;omega
       unfold tN
       split
       ·exact fk
       ·split
        ·exact bl _
        ·split
         ·exact fk
         ·split
          ·exact je (lJ _ _) fk
          ·exact bl _
      have jP:Rd jm A4 3 (λq=>[Value.int .i64 (i:Int),.slice AR N cR,.slice AD N cD].getD q undef):=hS.rd 1 O;have pI:∀A9:ai,(av 2 A9 1 1 [(D:Int)]::(fB 4 eP (N*N) (N*N) G::bS A4 i AR N cR AD N cD::(aV 27 2 AD N cD q4 (gz M k E D)++qa A1 A2 A5 A6 A i c M AR N cR c5 c6 dI)))[3+1+E]?=some (av 2 (rg q4 E).a (rg q4 E).n (rg q4 E).c (gl (gz M k E D) E)):=λA9=>uB (t1:=27) (t2:=2) (A:=AD) (n:=N) (c:=cD) (rs:=q4) (xss:=gz M k E D) (pre:=[av 2 A9 1 1 [(D:Int)],fB 4 eP (N*N) (N*N) G,bS A4 i AR N cR AD N cD]) (ks:=qa A1 A2 A5 A6 A i c M AR N cR c5 c6 dI) (i:=E) ac ac
      have mw:=λ(A9:ai)(s:aE)(xs:ah)=>HH (t1:=27) (t2:=2) (A:=AD) (n:=N) (c:=cD) (rs:=q4) (xss:=gz M k E D) (ks:=qa A1 A2 A5 A6 A i c M AR N cR c5 c6 dI) (pre:=[av 2 A9 1 1 [(D:Int)],fB 4 eP (N*N) (N*N) G,bS A4 i AR N cR AD N cD]) (i:=E) s xs ac ac
      refine Cd.iw O ?_;refine iu [10,12] [yP (aH A4 2),yS (AD) (N) (cD),yI ((E:Int)),yP (aH (A4) 2),yS (AD) (N) (cD),yI ((E:Int)),yP (aH (AD) ((E:Int)).toNat),yS ((rg (q4) ((E:Int))).a) ((rg (q4) ((E:Int))).n) ((rg (q4) ((E:Int))).c),yI ((D:Int)),.pr (λv w'=>∃A9,v=.slice A9 1 1/\St w w' (av 2 A9 1 1 [(D:Int)]::(fB 4 eP (N*N) (N*N) G::bS A4 i AR N cR AD N cD::(aV 27 2 AD N cD q4 (gz M k E D)++qa A1 A2 A5 A6 A i c M AR N cR c5 c6 dI)))),.pr (λv w'=>∃AZ cZ,v=.slice AZ ((rg q4 E).n+1) cZ/\St w w' (fB 4 eP (N*N) (N*N) G::bS A4 i AR N cR AD N cD::(aX 27 AD N cD q4::(cC 2 (q4.set E ⟨AZ,(rg q4 E).n+1,cZ⟩) ((gz M k E D).set E (gl (gz M k E D) E++[(D:Int)]))++qa A1 A2 A5 A6 A i c M AR N cR c5 c6 dI)))),yP (aH AD ((E:Int)).toNat),.pr (λ_ w'=>∃AZ cZ,St w w' (fB 4 eP (N*N) (N*N) G::bS A4 i AR N cR AD N cD::(aV 27 2 AD N cD (q4.set E ⟨AZ,(rg q4 E).n+1,cZ⟩) ((gz M k E D).set E (gl (gz M k E D) E++[(D:Int)]))++qa A1 A2 A5 A6 A i c M AR N cR c5 c6 dI)))] (ly (ly (ly (ly (ly (ly (ly (ly (ly (bV.2 ⟨Ye.bW (λv w w' h hb=>by obtain⟨A9,hv,hT⟩:=h;exact⟨A9,hv,hT.ao hb⟩),(bV.2 ⟨Ye.bW (λv w w' h hb=>by obtain⟨AZ,cZ,hv,hT⟩:=h;exact⟨AZ,cZ,hv,hT.ao hb⟩),(ly (bV.2 ⟨Ye.bW (λv w w' h hb=>by obtain⟨AZ,cZ,hT⟩:=h;exact⟨AZ,cZ,hT.ao hb⟩),(λ_ h=>by cases h)⟩))⟩)⟩)))))))))) ?_ ?_
      ·refine⟨?_,?_,bP O,cP λ_ _ hb _ _ _=>aS (jP.below hb) O (bA O O),cP λ_ _ hb _ _ _=>a6 (jP.below hb) O (bA O O),bP O,cP λ_ _ hb _ _ _=>aA (jq.top.ao hb).2 O (bA O O),cP λ_ _ hb _ _ _=>bw (jq.top.ao hb) O (bA O O),bP O,?_,?_,?_,?_,au⟩
       ·intro e1 w1 cc eL cI dC hp aW hq;show ak _ _ _ _ _ _ _;have hX:Rd w1 A4 3 (λq=>[Value.int .i64 (i:Int),.slice AR N cR,.slice AD N cD].getD q undef):=by { have cI:=lz cI (b:=1) an;rcases(show cc=0\/cc=1 by omega)with h|h; { exact Rd.below jP (dC h) }; { subst h;obtain⟨AZ,cZ,_,hT⟩:=hq 10 _ _ an an an rfl rfl an;exact hT.rd 1 rfl } }
        refine aS hX O (ak.n (fp O ap))
       ·intro e1 w1 cc eL cI dC hp aW hq;show ak _ _ _ _ _ _ _;have hX:Rd w1 A4 3 (λq=>[Value.int .i64 (i:Int),.slice AR N cR,.slice AD N cD].getD q undef):=by { have cI:=lz cI (b:=1) an;rcases(show cc=0\/cc=1 by omega)with h|h; { exact Rd.below jP (dC h) }; { subst h;obtain⟨AZ,cZ,_,hT⟩:=hq 10 _ _ an an an rfl rfl an;exact hT.rd 1 rfl } }
        refine a6 hX O (ak.n (fp O ap))
       ·refine cP λe1 w1 hb hp aW hq=>?_
        exact eh (St.refl _) O O O λA9 w9 aw=>ak.n (eD.dn O aw.below ⟨A9,O,(hS.ao hb).call aw⟩)
       ·refine iF λe1 w1 hb hp aW hq=>?_
        obtain⟨A9,ahK,hT⟩:=(hp 9 _ _ an rfl rfl an);refine eQ (3+1+E) hT (pI A9) (hT.bF 0 O) O (by exact ahK) O ?_;intro AZ cZ wZ hZ;have hZ:=(mw A9 ⟨AZ,(rg q4 E).n+1,cZ⟩ (gl (gz M k E D) E++[(D:Int)]))▸hZ;exact ak.n (dS.dn O ⟨AZ,cZ,O,hZ.tail⟩)
       ·intro e1 w1 cc eL cI dC hp aW hq;show ak _ _ _ _ _ _ _;have hX:fu w1 AD N q4:=by { have cI:=lz cI (b:=1) an;rcases(show cc=0\/cc=1 by omega)with h|h; { exact jq.top.ao (dC h) }; { subst h;obtain⟨AZ,cZ,_,hT⟩:=hq 10 _ _ an an an rfl rfl an;exact hT.dm 2 rfl } }
        refine aA hX.2 O (ak.n (fp O ap))
       ·refine kB 1 λe1 w1 hp aW hq=>?_
        have cg:=hp 10 _ _ an O O an;obtain⟨AZ,cZ,Oa,hT⟩:=cg;refine nC (te:=27) (n:=N) (c:=cD) (A:=AD) (xs:=q4) 2 hT O O (by exact Oa) ac ?_;intro wY hY;exact ak.n (dS.st O ⟨AZ,cZ,hY⟩)
      intro u qZ _ hu _ _;obtain⟨AZ,cZ,hT⟩:=hu 12 _ rfl an;rw[rJ]at hT;refine gq O (aJ O (aN O (tQ ?_)));exact⟨(D+1,_),by show N-(D+1)<N-D;omega,(auV O),by show D+1<=N;omega,by simp[KC],hT⟩
    ·have JL:D=N:=by omega
     have br:=adX (M:=M) (i:=k) (e:=E);rw[mY]at br;rw[JL,br]at hS;refine ba O (bc (bY O (aJ O (aN O (tQ ?_)))));exact⟨(E+1,q4),by show N-(E+1)<N-E;omega,(auV O),by show E+1<=N;omega,KC,hS⟩
   ·have qt:E=N:=by omega
    have eZ:=adU (M:=M) (i:=k);rw[mY]at eZ;rw[qt,eZ]at hS;refine ba O (bc (bY O (aJ O (aN O (tQ ?_)))));exact⟨(k+1,q3),by show i-(k+1)<i-k;omega,(auV O),⟨by show 1<=k+1;omega,by show k+1<=i;omega⟩,KB,hS.tail⟩
 ·have rI:k=M.length:=by omega
  have eA:=adT (M:=M);rw[rI,eA]at hS;refine ba O (bc (bY O ?_));refine cG 2 (hS.rd 0 O) O O O ?_;have az:St w w8 (bS A2 0 none 0 0 none 0 0::(av 2 AR N cR (ct M i)::(aV 27 2 AD N cD qT (cd M)++[]))):=by
   have hs:(aV 27 2 AD N cD qT (cd M)++[av 2 AR N cR (ct M i),bS A2 0 none 0 0 none 0 0]).Sublist (bS A4 i AR N cR AD N cD::(aV 27 2 AD N cD qT (cd M)++qa A1 A2 A5 A6 A i c M AR N cR c5 c6 dI)):=
    List.Sublist.cons _ (List.Sublist.append_left (List.Sublist.cons_cons _ (List.Sublist.cons _ (List.Sublist.cons_cons _ (List.nil_sublist _)))) _)
   refine(hS.sub hs).perm ?_;rw[dQ];exact(gL).trans (List.Perm.swap _ _ _)
  refine dU 3 0 az O O O O O O O λgD dz=>bR O (zj O (dz.rd 0 O) ?_);refine⟨AR,cR,AD,cD,qT,?_,by rw[mY];exact yF,?_⟩
  ·rw[mY,gP];rfl
  ·rw[mY,gP];exact dz.tail
theorem amS(A:ai)(n c:Nat)(rs:List aE)(M:ag)(w:aa)(hR:bH w A n rs M)(hM:eY M):
 aF prog 141 [.agg #[.slice A n c]] w (λv w'=>∃AR cR AD cD jt,v=.agg #[aj (M.length:Int),.slice AR (a8 M M.length) cR,.slice AD (a8 M M.length) cD]/\jt.length=a8 M M.length/\St w w' (av 2 AR (a8 M M.length) cR (ct M M.length)::(aV 27 2 AD (a8 M M.length) cD jt (cd M)++[]))):=amR A n c rs M w hR hM.ar1
section
variable {P:Program}{N:Nat}{ops:Array Oper}{K:Env->aa->Prop}{rest:List Oper}{e:Env}{w:aa}{d:Nat}{ty:ad}{pos:String}{af:Array Edge}
theorem acR{F:FuncId}{x y z u:ae}{v1 v2 v3 v4:ab}(hx:ev e x=v1)(hy:ev e y=v2)(hz:ev e z=v3)(hu:ev e u=v4)(hb:Nat.blt d N=true)(hK:ak P N ops K rest (bE e d (.func (.func F) #[] #[v1,v2,v3,v4])) w):
 ak P N ops K (⟨some d,.makeFunc (.func F) #[] #[x,y,z,u],ty,pos,af,none⟩::rest) e w:=
 .val (by simp[execOp,Instr.makeFunc,hx,hy,hz,hu]) hb hK
end
theorem zP{l:ag}(h:l.length<=401):cap l=l:=by
 unfold cap;exact jw h
def ya(U:ag):Nat->Int->ag
 |0,_=>[[]]
 |k+1,e=>(gl U e).flatMap λf=>(ya U k f).map (f:: ·)
def nI(U:ag)(k:Nat)(fl xs:ah):ag:=xs.flatMap λe=>(ya U k e).map λy=>fl++e::y
theorem ahv{U:ag}{k:Nat}{fl xs:ah}{j:Nat}(h:j<xs.length):nI U k fl (xs.take (j+1))=nI U k fl (xs.take j)++(ya U k (gi xs j)).map λy=>fl++gi xs j::y:=by
 unfold nI;rw[oQ h,List.flatMap_append,b7 h];simp
theorem ahu(U:ag)(k:Nat)(fl:ah)(e:Int):(ya U (k+1) e).map (λy=>fl++e::y)=nI U k (fl++[e]) (gl U e):=by
 unfold nI;rw[ya,List.map_flatMap];refine aQ (λg=>List.flatMap g (gl U e)) (funext λf=>?_);rw[List.map_map];refine ki λy _=>?_
 show fl++e::f::y=(fl++[e])++f::y;rw[ef];rfl
abbrev oX(PF A:ai)(c:Nat)(rs:List aE)(F:ag)(PB:ai)(n:Int)(AR:ai)(nR cR:Nat)(AD:ai)(m d:Nat)(PG PU Au:ai)(N cU:Nat)(bG:List aE)(U:ag)(cq:List Ck):List Ck:=
 Bx 28 1 PF [.slice A F.length c]::(aV 27 2 A F.length c rs F++(bS PB n AR nR cR AD m d::Bx 143 1 PG [.func (.func 137) #[] #[.pointer PF,.pointer PB,.pointer PG,.pointer PU]]::Bx 28 1 PU [.slice Au N cU]::(aV 27 2 Au N cU bG U++cq)))
theorem aoQ{α:Type}(x b c:α)(X Y:List α):(x::b::c::(X++Y)).Perm (b::c::((X++[x])++Y)):=by
 classical
 refine oe.2 λz=>?_
 simp only[ob,mM,sR];omega
theorem JF(PF A:ai)(c:Nat)(rs:List aE)(F:ag)(PB:ai)(n:Int)(AR:ai)(nR cR:Nat)(AD:ai)(m d:Nat)(PG PU Au:ai)(N cU:Nat)(bG:List aE)(U:ag)(cq:List Ck):(bS PB n AR nR cR AD m d::Bx 143 1 PG [.func (.func 137) #[] #[.pointer PF,.pointer PB,.pointer PG,.pointer PU]]::Bx 28 1 PU [.slice Au N cU]::(aV 27 2 Au N cU bG U++cq)).Sublist (oX PF A c rs F PB n AR nR cR AD m d PG PU Au N cU bG U cq):=(fj _ _).cons _
theorem VM(PF A:ai)(c:Nat)(rs:List aE)(F:ag)(PB:ai)(n:Int)(AR:ai)(nR cR:Nat)(AD:ai)(m d:Nat)(PG PU Au:ai)(N cU:Nat)(bG:List aE)(U:ag)(cq:List Ck)(x:Ck):(x::oX PF A c rs F PB n AR nR cR AD m d PG PU Au N cU bG U cq).Perm (oX PF A c rs F PB n AR nR cR AD m d PG PU Au N cU bG U (x::cq)):=by
 classical
 refine oe.2 λz=>?_
 simp only[oX,ob,mM];omega
theorem ZI{w0 w':aa}{PF A:ai}{c:Nat}{rs:List aE}{F:ag}{PB:ai}{n:Int}{AR:ai}{nR cR:Nat}{AD:ai}{m d:Nat}{PG PU Au:ai}{N cU:Nat}{bG:List aE}{U:ag}{cq:List Ck}{t:ad}{B:ai}{q r:Nat}{xs:ah}(h:St w0 w' (oX PF A c rs F PB n AR nR cR AD m d PG PU Au N cU bG U (av t B q r xs::cq))):bu w' B q xs:=(h.perm (VM ..).symm).bF 0 rfl
theorem ahI(PF A:ai)(c:Nat)(rs:List aE)(F:ag)(PB:ai)(n:Int)(AR:ai)(nR cR:Nat)(AD:ai)(m d:Nat)(PG PU Au:ai)(N cU:Nat)(bG:List aE)(U:ag)(cq:List Ck)(x:Ck):(oX PF A c rs F PB n AR nR cR AD m d PG PU Au N cU bG U cq).Sublist (oX PF A c rs F PB n AR nR cR AD m d PG PU Au N cU bG U (x::cq)):=(((((((fD cq).cons x).append_left _).cons_cons _).cons_cons _).cons_cons _).append_left _).cons_cons _
theorem VN{w0 w':aa}{PF A:ai}{c:Nat}{rs:List aE}{F:ag}{PB:ai}{n:Int}{AR:ai}{nR cR:Nat}{AD:ai}{m d:Nat}{PG PU Au:ai}{N cU:Nat}{bG:List aE}{U:ag}{cq:List Ck}(wJ:U.length=N)(h:St w0 w' (oX PF A c rs F PB n AR nR cR AD m d PG PU Au N cU bG U cq)):bH w' Au N bG U:=
 St.fO (t1:=27) (t2:=2) (c:=cU) (h.sub (((((fD (aV 27 2 Au N cU bG U++cq)).cons _).cons _).cons _).trans (JF ..))) wJ
theorem ahx(w0:aa)(n:Nat)(hn5:n<=5)(PF PB AR AD PG PU Au:ai)(nR cR m d N cU:Nat)(bG:List aE)(U:ag)(wJ:U.length=N)(hN:N<=500)(ua:∀e:Nat,e<N->(gl U e).length<=500/\∀x∈gl U e,0<=x/\x<(N:Int)):
 ∀(k nf nx:Nat)(fl xs:ah)(Af Ax:ai)(cf cx:Nat)(cq:List Ck)(w:aa)(A:ai)(c:Nat)(rs:List aE)(F:ag),fl.length=nf->xs.length=nx->nf+(k+1)=n->nx<=500->(∀x∈xs,0<=x/\x<(N:Int))->
  (∀w' A c rs F,St w0 w' (oX PF A c rs F PB n AR nR cR AD m d PG PU Au N cU bG U cq)->bu w' Af nf fl)->
  (∀w' A c rs F,St w0 w' (oX PF A c rs F PB n AR nR cR AD m d PG PU Au N cU bG U cq)->bu w' Ax nx xs)->
  rs.length=F.length->F.length<=401->St w0 w (oX PF A c rs F PB n AR nR cR AD m d PG PU Au N cU bG U cq)->
  aF prog 137 [.slice Af nf cf,.slice Ax nx cx,.pointer PF,.pointer PB,.pointer PG,.pointer PU] w (λv w'=>v=.tuple #[]/\∃A' c' rs',rs'.length=(cap (F++nI U k fl xs)).length/\St w0 w' (oX PF A' c' rs' (cap (F++nI U k fl xs)) PB n AR nR cR AD m d PG PU Au N cU bG U cq)):=by
 intro k
 induction k using Nat.strongRecOn with
 |_ k ih=>
  intro nf nx fl xs Af Ax cf cx cq w A c rs F G3 eZ fk C7 C6 hf hx eM hF hS;refine bn func137 O ntmps137 O (vM O) ?_;refine aY O (aR O O (ay O ?_));refine Cd.loop (α:=Nat×ai×Nat×List aE) (λz=>[(0,.slice Af nf cf),(2,.pointer PF),(3,.pointer PB),(4,.pointer PG),(5,.pointer PU),(11,.slice Ax nx cx),(12,aj nx),(13,aj (z.1:Int))])
   (λz w'=>z.1<=nx/\z.2.2.2.length=(cap (F++nI U k fl (xs.take z.1))).length/\St w0 w' (oX PF z.2.1 z.2.2.1 z.2.2.2 (cap (F++nI U k fl (xs.take z.1))) PB n AR nR cR AD m d PG PU Au N cU bG U cq)) (λz=>nx-z.1) (0,A,c,rs) ⟨rfl,rfl,rfl,rfl,rfl,rfl,rfl,rfl,au⟩ ⟨bl _,by
     show rs.length=(cap (F++[])).length;rw[dQ,zP hF];exact eM,by
     show St w0 w (oX PF A c rs (cap (F++[])) _ _ _ _ _ _ _ _ _ _ _ _ _ _ _ _);rw[dQ,zP hF];exact hS⟩ ?_
  clear hS eM;rintro⟨j,A,c,rs⟩ e w1 ⟨hj,eM,hS⟩;dsimp only at hj eM hS|-;generalize hG:F++nI U k fl (xs.take j)=G at*;refine bC O (aK _ O (λh1=>?_) (λh1=>?_))
  ·have pL:j<xs.length:=by omega
   have hR:=hx _ _ _ _ _ hS;have pS:=C6 _ (gi_in pL);have lQ:F++nI U k fl (xs.take (j+1))=G++(ya U k (gi xs j)).map λy=>fl++gi xs j::y:=by
    rw[ahv pL,<-ef,hG]
   have Ex:F++nI U k fl xs=G++nI U k fl (xs.drop j):=by
    rw[<-hG,ef]
    congr 1
    unfold nI;rw[<-List.flatMap_append,List.take_append_drop]
   refine aC O (aA hR.2 O (bg hR O (aq O ?_)));obtain⟨E,hE⟩:∃E:Nat,gi xs j=E:=⟨(gi xs j).toNat,ac⟩;rw[hE]at lQ pS|-;refine aI (DA Af nf cf fl _ (hf _ _ _ _ _ hS) ac) O ?_;rintro _ w2 ⟨tF,zM,rfl,aw⟩;have az:=hS.call aw;clear aw hS;refine aq O (eh az O O O ?_);intro uV w3 aM;refine eQ 1 aM O (aM.bF 0 O) O O O ?_;intro kh k4 w4 aU;have aU:St w0 w4 (av 2 kh (nf+1) k4 (fl++[(E:Int)])::oX PF A c rs (cap G) PB n AR nR cR AD m d PG PU Au N cU bG U cq):=aU.tail;clear aM az;have fh:Rd w4 PF 1 (λ_=>.slice A (cap G).length c):=Rd.one (aU.rd 1 O);refine aq O (auP (j:=0) fh (by exact aQ Value.pointer (iK _).symm) O O O O ?_);refine aR O O (ay O ?_);refine aK _ O (λh2=>?_) (λh2=>?_)
   ·refine dE O (fz (fe ?_));refine LD ⟨O,A,c,rs,?_,?_⟩
    ·rw[Ex,I6 _ (by omega)];exact eM
    ·rw[Ex,I6 _ (by omega)];exact aU.tail
   have b8:=T8 (l:=G) ac;have jR:=((aU.tail).sub (JF ..)).rd 0 O
   by_cases ue:k=0
   ·--dup 2
    refine cM O (ec [xS (kh) (nf+1) (k4),xI ((nf+1:Nat):Int),xP (aH (PB) 0),xI ((n:Int)),xB (true),xB (true)] O (eK O) ?_ ?_)
    ·refine⟨Dr O,?_,λ_ _ hb _ _=>aS (jR.below hb) O Az,λ_ _ hb _ _=>fX (jR.below hb) O O O O O Az,λ_ _ _ _ _=>Dk O (by exact aQ Value.bool (dB ac)),Dr O,au⟩
     ·intro e1 w1 hb hp aW;refine aI (oK _ _ _ _) O ?_;rintro _ w2 ⟨rfl,aw⟩;subst aw;refine ak.n (d0 ap)
    intro u w5 kE _;have aO:=aU.ao kE;clear aU jR fh;have fh:Rd w5 PF 1 (λ_=>.slice A (cap G).length c):=Rd.one (aO.rd 1 O);refine fG O (Cd.iw O (aC O (auP (j:=0) fh (by exact aQ Value.pointer (iK _).symm) O O O O (aq O (jW aO O O O ?_)))));intro qg w6 bk;refine iT 3 bk O (bk.dm 0 O) O O O ac ac O ?_;intro fQ fT w7 bp;refine ak.st (i:=2) (j:=0) bp O (by exact aQ Value.pointer (iK _).symm) O O (Nat.succ_pos _) ?_;intro w8 bB;have bj:St w0 w8 (av 2 kh (nf+1) k4 (fl++[(E:Int)])::Bx 28 1 PF [.slice fQ ((cap G).length+1) fT]::aX 27 fQ ((cap G).length+1) fT (rs++[⟨kh,nf+1,k4⟩])::(cC 2 rs (cap G)++_)):=bB.tail;have bj:=bj.perm (aoQ _ _ _ _ _);rw[<-Dp eM]at bj;have hex:(ya U k (E:Int)).map (λy=>fl++(E:Int)::y)=[fl++[(E:Int)]]:=by rw[ue];rfl
    rw[hex]at lQ;have sc:=aeG (l:=G) (fl++[(E:Int)]) ac;refine aq O (aJ O (aN O (tQ ?_)));refine⟨(j+1,fQ,fT,rs++[⟨kh,nf+1,k4⟩]),by show nx-(j+1)<nx-j;omega,(auV O),by show j+1<=nx;omega,?_,?_⟩
    ·show(rs++[_]).length=(cap (F++nI U k fl (xs.take (j+1)))).length;rw[lQ,sc,cj,cj,eM];rfl
    ·show St w0 w8 (oX PF fQ fT (rs++[_]) (cap (F++nI U k fl (xs.take (j+1)))) PB n AR nR cR AD m d PG PU Au N cU bG U cq);rw[lQ,sc];show St w0 w8 (Bx _ 1 PF [.slice fQ (cap G++[fl++[(E:Int)]]).length fT]::(aX _ fQ (cap G++[fl++[(E:Int)]]).length fT _::_));rw[show(cap G++[fl++[(E:Int)]]).length=(cap G).length+1 by simp];exact bj
   ·obtain⟨k',rfl⟩:∃k',k=k'+1:=⟨k-1,ac⟩;rw[ahu]at lQ;refine cM O (ec [xS (kh) (nf+1) (k4),xI ((nf+1:Nat):Int),xP (aH (PB) 0),xI ((n:Int)),xB (false),xB (false)] O (eK O) ?_ ?_)
    ·refine⟨Dr O,?_,λ_ _ hb _ _=>aS (jR.below hb) O Az,λ_ _ hb _ _=>fX (jR.below hb) O O O O O Az,λ_ _ _ _ _=>Dk O (by exact aQ Value.bool (db ac)),Dr O,au⟩
     ·intro e1 w1 hb hp aW;refine aI (oK _ _ _ _) O ?_;rintro _ w2 ⟨rfl,aw⟩;subst aw;refine ak.n (d0 ap)
    intro u w5 kE _;have aO:=(aU.ao kE).perm (VM ..);clear aU jR fh;have ji:Rd w5 PG 1 (λ_=>.func (.func 137) #[] #[.pointer PF,.pointer PB,.pointer PG,.pointer PU]):=Rd.one ((aO.sub (JF ..)).rd 1 O);have kq:Rd w5 PU 1 (λ_=>.slice Au N cU):=Rd.one ((aO.sub (JF ..)).rd 2 O);have hU:=VN wJ aO;have Hk:=hU.at_ (i:=(E:Int)) ac ac;have O3:=ua E ac;refine fG O (Cd.cX O ?_);refine iu [6] [.ex (.func (.func 137) #[] #[.pointer PF,.pointer PB,.pointer PG,.pointer PU]),yS (kh) (nf+1) (k4),yS (Au) (N) (cU),yI ((E:Int)),yP (aH (Au) ((E:Int)).toNat),yS ((rg (bG) ((E:Int))).a) ((rg (bG) ((E:Int))).n) ((rg (bG) ((E:Int))).c),.pr (λv w'=>∃A' c' rs',rs'.length=(cap (cap G++nI U k' (fl++[(E:Int)]) (gl U E))).length/\St w0 w' (oX PF A' c' rs' (cap (cap G++nI U k' (fl++[(E:Int)]) (gl U E))) PB n AR nR cR AD m d PG PU Au N cU bG U cq))] (ly (ly (ly (ly (ly (ly (bV.2 ⟨Ye.bW (λv w w' h hb=>by obtain⟨A',c',rs',dw,hT⟩:=h;exact⟨A',c',rs',dw,hT.ao hb⟩),(λ_ h=>by cases h)⟩))))))) ?_ ?_
    ·refine⟨?_,bP O,cP λ_ _ hb _ _ _=>auP (j:=0) (kq.below hb) (by exact aQ Value.pointer (iK _).symm) O O O O (bA O O),bP O,cP λ_ _ hb _ _ _=>aA (hU.top.ao hb).2 O (bA O O),cP λ_ _ hb _ _ _=>bw (hU.top.ao hb) O (bA O O),?_,au⟩
     ·refine cP λe1 w1 hb hp aW hq=>?_
      refine ak.ld (Rd.below ji hb) (by exact aQ Value.pointer (iK _).symm) am O O O ?_;refine ak.n (fp O ap)
     ·refine iF λe1 w1 hb hp aW hq=>?_
      refine aI (ih k' (Nat.lt_succ_self _) (nf+1) (rg bG E).n (fl++[(E:Int)]) (gl U E) kh (rg bG E).a k4 (rg bG E).c (av 2 kh (nf+1) k4 (fl++[(E:Int)])::cq) _ A c rs (cap G) (by rw[cj,G3];rfl) Hk.1 ac (by have:=Hk.1;omega) O3.2 (λw' A c rs F h=>ZI h) (λw' A c rs F h=>(VN wJ h).at_ (i:=(E:Int)) ac ac) eM (M7 G) (aO.ao hb)) O ?_;rintro _ w9 ⟨rfl,A',c',rs',dw,bj⟩;exact ak.n (dS.dn O ⟨A',c',rs',dw,bj.sub (ahI ..)⟩)
    intro u w6 _ hu _ _;obtain⟨A',c',rs',dw,hT⟩:=hu 6 _ rfl an;rw[b8,<-lQ]at dw hT;refine gq O (aJ O (aN O (tQ ?_)));exact⟨(j+1,A',c',rs'),by show nx-(j+1)<nx-j;omega,(auV O),by show j+1<=nx;omega,dw,hT⟩
  ·have pL:j=xs.length:=by omega
   rw[pL,List.take_length]at hG;rw[<-hG]at eM hS;refine ba O (bc (vZ O ?_));exact qU ⟨O,A,c,rs,eM,hS⟩
def xE(n:Nat)(R:ah)(B:ag)(E F x:Nat):ah:=
 if x<E then[]else(kU R B x).filter λg=>decide (eF n R B g/\(x=E->g<(F:Int)))
def gU(n:Nat)(R:ah)(B:ag)(E F:Nat):ag:=(List.range R.length).map (xE n R B E F)
def wk(n:Nat)(R:ah)(B:ag)(E F x:Nat):Bool:=
 if x<E then false else if x=E then decide (gi R x=(n:Int)-1\/∃g∈kU R B x,eF n R B g/\g<(F:Int))else decide (eF n R B x)
def gF(n:Nat)(R:ah)(B:ag)(E F:Nat):List Bool:=(List.range R.length).map (wk n R B E F)
section
variable {n:Nat}{R:ah}{B:ag}{E F x:Nat}
theorem BM:(gU n R B E F).length=R.length:=by simp[gU]
theorem sU:(gF n R B E F).length=R.length:=by simp[gF]
theorem SC(h:x<R.length):gl (gU n R B E F) x=xE n R B E F x:=by
 rw[df (by rw[BM];exact h)];simp[gU]
theorem Tz(h:x<R.length):gb (gF n R B E F) x=wk n R B E F x:=by
 unfold gb;rw[gx,b5,fL (by rw[sU];exact h),Option.getD_some];simp[gF]
theorem asH:gU n R B R.length F=List.replicate R.length []:=by
 refine List.eq_replicate_iff.2 ⟨BM,λy hy=>?_⟩;obtain⟨x,hx,rfl⟩:=de.1 hy;unfold xE;rw[aG (fo.1 hx)]
theorem adi:gF n R B R.length F=List.replicate R.length false:=by
 refine List.eq_replicate_iff.2 ⟨sU,λy hy=>?_⟩;obtain⟨x,hx,rfl⟩:=de.1 hy;unfold wk;rw[aG (fo.1 hx)]
theorem BN(hP:gN n R B){e g:Int}(h:g∈kU R B e):e<g/\g<R.length:=by
 obtain⟨h1,_,h3⟩:=qf.1 h;exact⟨((hP.at_ h1.1 h1.2).2.1 e h3).1.2,h1.2⟩
theorem asK(hP:gN n R B)(hE:E<R.length):gU n R B E (E+1)=gU n R B (E+1) R.length:=by
 refine ki λx hx=>?_
 have hx:=fo.1 hx;unfold xE
 by_cases c1:x<E
 ·rw[aG c1,aG (by omega)]
 rw[aD c1]
 by_cases c2:x=E
 ·subst c2;rw[aG (by omega),List.filter_eq_nil_iff];intro g hg h;have h3:=(bX h).2 O;have:=BN hP hg;omega
 rw[aD (by omega)];refine List.filter_congr λg hg=>kl.2 ?_
 have:=BN hP hg;exact⟨λh=>⟨h.1,λ_=>by omega⟩,λh=>⟨h.1,λh=>absurd h c2⟩⟩
theorem asJ(h:¬(eF n R B F/\(F:Int)∈kU R B E)):gU n R B E (F+1)=gU n R B E F:=by
 refine ki λx hx=>?_
 unfold xE
 by_cases c1:x<E
 ·rw[aG c1,aG c1]
 rw[aD c1,aD c1];refine List.filter_congr λg hg=>kl.2 ⟨λh2=>⟨h2.1,λe=>?_⟩,λh2=>⟨h2.1,λe=>by have:=h2.2 e;omega⟩⟩
 have h3:=h2.2 e;subst e;have:g≠(F:Int):=λe=>h ⟨e▸h2.1,e▸hg⟩
 omega
theorem asI(hE:E<R.length)(h:eF n R B F/\(F:Int)∈kU R B E):(gU n R B E F).set E (gl (gU n R B E F) E++[(F:Int)])=gU n R B E (F+1):=by
 apply iC (by rw[fR,BM,BM]);intro x h1 h2;rw[BM]at h2;have e2:∀d' (hx:x<(gU n R B E d').length),(gU n R B E d')[x]=xE n R B E d' x:=λd' hx=>by simp[gU]
 rw[List.getElem_set,e2 (F+1) (by rw[BM];exact h2),e2 F (by rw[BM];exact h2)]
 by_cases c:E=x
 ·subst c;rw[aG rfl,SC hE];unfold xE;rw[aD (Nat.lt_irrefl _),aD (Nat.lt_irrefl _)];have hs:=Ia R B E;refine SA.eq ?_ (oO _ hs) λy=>?_
  ·rw[SA,List.pairwise_append];refine⟨oO _ hs,List.pairwise_singleton _ _,λa ha b hb=>?_⟩;obtain rfl:=eX.1 hb;exact(bX (fM.1 ha).2).2 O
  rw[dF,fM,fM,eX];simp only[k5];constructor
  ·rintro(⟨h3,h4,h5⟩|rfl)
   ·exact⟨h3,h4,λe=>by have:=h5 e;omega⟩
   exact⟨h.2,h.1,λ_=>by omega⟩
  rintro⟨h3,h4,h5⟩
  by_cases e3:y=(F:Int)
  ·exact .inr e3
  exact .inl ⟨h3,h4,λe=>by have:=h5 e;omega⟩
 rw[aD c];unfold xE
 by_cases c1:x<E
 ·rw[aG c1,aG c1]
 rw[aD c1,aD c1];exact List.filter_congr λg hg=>kl.2 ⟨λh2=>⟨h2.1,λe=>absurd e.symm c⟩,λh2=>⟨h2.1,λe=>absurd e.symm c⟩⟩
theorem TA{x:Nat}(hP:gN n R B)(hx:x<R.length)(h:(gi R x=(n:Int)-1\/∃g∈kU R B x,eF n R B g/\g<(R.length:Int))):eF n R B x:=by
 rcases h with h|⟨g,h1,h2,_⟩
 ·exact TE h
 have h3:=(qf.1 h1);have:=hP.ri h3.1.1 h3.1.2;have:=hP.ri (e:=(x:Int)) ac ac;exact(IL ac ac).2 ⟨g,h1,h2⟩
theorem TB{x:Nat}(hP:gN n R B)(hx:x<R.length)(h:eF n R B x):(gi R x=(n:Int)-1\/∃g∈kU R B x,eF n R B g/\g<(R.length:Int)):=by
 have:=hP.ri (e:=(x:Int)) ac ac
 by_cases c:gi R x=(n:Int)-1
 ·exact .inl c
 obtain⟨g,h1,h2⟩:=(IL ac ac).1 h;exact .inr ⟨g,h1,h2,(BN hP h1).2⟩
theorem adm(hP:gN n R B)(hE:E<R.length):(gF n R B (E+1) R.length).set E (decide (gi R E=(n:Int)-1))=gF n R B E (E+1):=by
 apply iC (by rw[fR,sU,sU]);intro x h1 h2;rw[sU]at h2;have e2:∀e' d' (hx:x<(gF n R B e' d').length),(gF n R B e' d')[x]=wk n R B e' d' x:=λe' d' hx=>by simp[gF]
 rw[List.getElem_set,e2 _ _ (by rw[sU];exact h2),e2 _ _ (by rw[sU];exact h2)];unfold wk
 by_cases c:E=x
 ·subst c;rw[aG rfl,aD (Nat.lt_irrefl _),aG rfl];refine kl.2 ⟨λh=>.inl h,λh=>?_⟩;rcases h with h|⟨g,h3,_,h4⟩
  ·exact h
  have:=BN hP h3;omega
 rw[aD c]
 by_cases c1:x<E
 ·rw[aG (by omega),aG c1]
 rw[aD (by omega),aD c1,aD (show ¬x=E from λe=>c e.symm)]
 split
 ·refine kl.2 ⟨λh=>TA hP h2 h,λh=>TB hP h2 h⟩
 rfl
theorem adl(h:¬(eF n R B F/\(F:Int)∈kU R B E)):gF n R B E (F+1)=gF n R B E F:=by
 refine ki λx hx=>?_
 unfold wk
 by_cases c1:x<E
 ·rw[aG c1,aG c1]
 rw[aD c1,aD c1]
 by_cases c2:x=E
 ·subst c2;rw[aG rfl,aG rfl];refine kl.2 (or_congr Iff.rfl ⟨?_,?_⟩)
  ·rintro⟨g,h1,h2,h3⟩;have:g≠(F:Int):=λe=>h ⟨e▸h2,e▸h1⟩
   exact⟨g,h1,h2,ac⟩
  rintro⟨g,h1,h2,h3⟩;exact⟨g,h1,h2,ac⟩
 rw[aD c2,aD c2]
theorem adk(hE:E<R.length)(h:eF n R B F/\(F:Int)∈kU R B E):(gF n R B E F).set E true=gF n R B E (F+1):=by
 apply iC (by rw[fR,sU,sU]);intro x h1 h2;rw[sU]at h2;have e2:∀e' d' (hx:x<(gF n R B e' d').length),(gF n R B e' d')[x]=wk n R B e' d' x:=λe' d' hx=>by simp[gF]
 rw[List.getElem_set,e2 _ _ (by rw[sU];exact h2),e2 _ _ (by rw[sU];exact h2)];unfold wk
 by_cases c:E=x
 ·subst c;rw[aG rfl,aD (Nat.lt_irrefl _),aG rfl];exact(dB (.inr ⟨_,h.2,h.1,ac⟩)).symm
 rw[aD c]
 by_cases c1:x<E
 ·rw[aG c1,aG c1]
 rw[aD c1,aD c1,aD (λe=>c e.symm),aD (λe=>c e.symm)]
theorem adh(hP:gN n R B)(wF:E<F)(hF:F<R.length):gb (gF n R B E F) F=decide (eF n R B F):=by
 rw[Tz hF];unfold wk;rw[aD (by omega),aD (by omega)]
theorem adg(hP:gN n R B)(hx:x<R.length):gb (gF n R B 0 R.length) x=decide (eF n R B x):=by
 rw[Tz hx];unfold wk;rw[aD (by omega)]
 split
 ·exact kl.2 ⟨λh=>TA hP hx h,λh=>TB hP hx h⟩
 rfl
theorem abM(hP:gN n R B)(hx:x<R.length):gl (gU n R B 0 R.length) x=(kU R B x).filter λg=>decide (eF n R B g):=by
 rw[SC hx];unfold xE;rw[aD (by omega)];refine List.filter_congr λg hg=>kl.2 ⟨λh=>h.1,λh=>⟨h,λ_=>(BN hP hg).2⟩⟩
theorem F2{α β:Type}{f g:α->List β}:∀{l:List α},(∀x∈l,f x=g x)->l.flatMap f=l.flatMap g
 |[],_=>rfl
 |a::r,h=>by rw[List.flatMap_cons,List.flatMap_cons,h a (List.mem_cons_self ..),F2 λx hx=>h x (fE _ hx)]
theorem UP(hP:gN n R B):∀(k:Nat)(e:Int),0<=e->e<R.length->(gi R e).toNat+k=n-1->ya (gU n R B 0 R.length) k e=pw R B k e
 |0,_,_,_,_=>rfl
 |k+1,e,h0,h1,h2=>by
  have hr:=hP.ri h0 h1;obtain⟨x,rfl⟩:∃x:Nat,e=x:=⟨e.toNat,ac⟩;rw[ya,abM hP (by omega),abS hr.1 (by omega)];refine F2 λf hf=>?_
  have hf:=(qf.1 (fM.1 hf).1);rw[UP hP k f hf.1.1 hf.1.2 (by omega)]
theorem aht(hn:1<=n)(hP:gN n R B):nI (gU n R B 0 R.length) (n-1) [] ((xZ R).filter λf=>decide (eF n R B f))=eH n R B:=by
 rw[TY];unfold nI;refine F2 λe he=>?_
 have he:=B5.1 (fM.1 he).1;rw[UP hP _ e he.1.1 he.1.2 (by omega)]
 rfl
theorem aej{m:Nat}(hm:m<R.length):((b6 (m+1)).filter λe=>decide (gi R e=0) && decide (eF n R B e))=((b6 m).filter λe=>decide (gi R e=0) && decide (eF n R B e))++(if gi R m=0/\eF n R B m then[(m:Int)]else[]):=by
 unfold b6;rw[lK,iE,mN]
 congr 1
 by_cases c:gi R m=0/\eF n R B m
 ·rw[aG c];simp[c.1,c.2]
 rw[aD c];rw[List.filter_eq_nil_iff];intro a ha h;obtain rfl:=eX.1 ha;simp at h;exact c h
theorem aei:((b6 R.length).filter λe=>decide (gi R e=0) && decide (eF n R B e))=(xZ R).filter λf=>decide (eF n R B f):=by
 unfold xZ;rw[List.filter_filter];exact List.filter_congr λx _=>Bool.and_comm _ _
end
def Ch(n:Nat)(R:ah)(B:ag):ag:=if(eH n R B).length<=400 then eH n R B else[]
def Cg(n:Nat)(R:ah)(B:ag):Int:=if(eH n R B).length<=400 then 0 else 3
abbrev vo(A1 PU Au fA:ai)(n:Nat)(A D:ai)(N cA cD:Nat)(al:List Bool)(bG:List aE)(U:ag):List Ck:=
 fB 4 fA N N al::Bx 28 1 PU [.slice Au N N]::bS A1 n A N cA D N cD::(aV 27 2 Au N N bG U++[])
theorem agA(n:Nat)(A D:ai)(cA cD:Nat)(R:ah)(rs:List aE)(B:ag)(w:aa)(hR:bu w A R.length R)(hB:bH w D B.length rs B)(hP:gN n R B):
 aF prog 94 [.agg #[aj n,.slice A R.length cA,.slice D B.length cD]] w (Im (Ch n R B) (Cg n R B) w):=by
 have hn:=hP.n1;have ou:=hP.qm;have hle:=hP.len;have br:=λe (h:e<R.length)=>hP.row e h
 have bT:∀e:Nat,e<R.length->(gl B e).length<=500:=λe h=>by
  have:=tv (N:=R.length) (br e h).1.nodup λx hx=>((br e h).2 x hx).1
  omega
 have Qr:∀E F:Nat,(gU n R B E F).length=R.length:=λE F=>BM
 have kD:∀E F:Nat,(gF n R B E F).length=R.length:=λE F=>sU
 have Ys:=λE (h:E<R.length)=>asK (n:=n) hP h
 have Yr:=λE (h:E<R.length)=>adm (n:=n) hP h
 have Xj:=asH (n:=n) (R:=R) (B:=B) (F:=R.length);have CM:=adi (n:=n) (R:=R) (B:=B) (F:=R.length);have yu:=λE F (h:E<F) (hF:F<R.length)=>adh (n:=n) hP h hF
 have yE:=λE F (hE:E<R.length) h=>asI (n:=n) (R:=R) (B:=B) (E:=E) (F:=F) hE h
 have XR:=λE F (hE:E<R.length) h=>adk (n:=n) (R:=R) (B:=B) (E:=E) (F:=F) hE h
 have D5:bH w D R.length rs B:=hle▸hB;have ajL:=K4 n A D cA cD R rs B w hR hB hP;have iY:=λx (h:x<R.length)=>adg (n:=n) hP h
 have Yx:=λx (h:x<R.length)=>abM (n:=n) hP h
 have Xe:=aht (n:=n) ac hP;have Kb:=λm (h:m<R.length)=>aej (n:=n) (B:=B) h
 have Eh:=aei (n:=n) (R:=R) (B:=B);have Yy:=λ(e f:Int)=>qf (R:=R) (B:=B) (e:=e) (f:=f)
 obtain⟨N,hN⟩:∃N,R.length=N:=⟨_,rfl⟩;rw[hN]at hR ou hle br bT D5 Ys Yr Xj CM yu yE XR iY Yx Xe Kb Eh;simp only[hN]at Qr kD Yy;rw[hN,hle]at ajL|-;refine bn func94 O ntmps94 O (mI O) (aY O (og (St.refl w) O O ?_));intro A1 w1 ax;have h1:Rd w1 A1 3 (λj=>[Value.int .i64 (n:Int),.slice A N cA,.slice D N cD].getD j undef):=ax.rd 0 O;refine aq O (cG 2 h1 O O O ?_);refine auM (K4 n A D cA cD R rs B w1 (by rw[hN];exact ax.dq hR) (by rw[hle];exact ax.bU D5) hP) O (by rw[hN,hle];rfl) O ?_;rintro _ w2 ⟨rfl,aw⟩;have az:=ax.ao aw.below;have h1:=Rd.below h1 aw.below;clear aw ax
 first|refine cO rfl rfl ?_|refine dv rfl rfl ?_
 refine ay O (Cd.cX O (aC O (aS h1 O (a6 h1 O (aI (oK _ _ _ _) O ?_)))));rintro _ w2 ⟨rfl,rfl⟩;refine aq O (BV N az O O ac ?_);intro Au w3 aM;have aM:St w w3 ([aX 27 Au N N (List.replicate N bI),bS A1 n A N cA D N cD]):=aM;refine ak.new (z:=.slice none 0 0) aM O O ?_;intro PU w4 aU;refine ak.st (i:=0) (j:=0) aU O (by exact aQ Value.pointer (iK _).symm) O O (Nat.succ_pos _) ?_;intro w5 aO;have aO:St w w5 (Bx 28 1 PU [.slice Au N N]::[aX 27 Au N N (List.replicate N bI),bS A1 n A N cA D N cD]):=aO;refine aq O (wb (v:=false) N aO O O ac ?_);intro fA w6 bk;have bk:=xu (t:=2) N bk;have bp:St w w6 (vo A1 PU Au fA n A D N cA cD (gF n R B N N) (List.replicate N bI) (gU n R B N N)):=by
  rw[Xj,CM];refine bk.perm ?_
  classical
  refine oe.2 λz=>?_
  simp only[vo,aV,ob,mM,sR];omega
 clear bk aO aU aM az h1;refine aq O (cV O (ay O ?_));refine Cd.loop (α:=Nat×List aE) (λz=>[(1,.pointer A1),(4,aj N),(5,.pointer PU),(6,.slice fA N N),(7,aj ((z.1:Int)-1))]) (λz w'=>z.1<=N/\z.2.length=N/\St w w' (vo A1 PU Au fA n A D N cA cD (gF n R B z.1 N) z.2 (gU n R B z.1 N))) (λz=>z.1) (N,List.replicate N bI) (auV O) ⟨cJ _,by simp,bp⟩ ?_;clear bp;rintro⟨E',bG⟩ e w7 ⟨hE,mA,hS⟩;dsimp only at hE mA hS|-;refine bC O (aK _ O (λh2=>?_) (λh2=>?_))
 ·obtain⟨E,rfl⟩:∃E,E'=E+1:=⟨E'-1,ac⟩;have qt:E<N:=by omega
  rw[show((E+1:Nat):Int)-1=(E:Int) by omega];have Ea:=hS.dq hR;have hal7:=kD (E+1) N;refine cM O ?_;refine iu [12] [yS (fA) (N) (N),yI ((E:Int)),yP (aH (A1) 1),yS (A) (N) (cA),yI ((E:Int)),yP (aH (A) ((E:Int)).toNat),yI (gi (R) ((E:Int))),yP (aH (A1) 0),yI ((n:Int)),yI (((n:Int))-((1:Int))),yB (decide ((gi (R) ((E:Int)))=(((n:Int))-((1:Int))))),yP (aH (fA) ((E:Int)).toNat),.pr (λ_ w'=>St w w' (vo A1 PU Au fA n A D N cA cD ((gF n R B (E+1) N).set E (decide (gi R E=(n:Int)-1))) bG (gU n R B (E+1) N)))] (ly (ly (ly (ly (ly (ly (ly (ly (ly (ly (ly (ly (bV.2 ⟨Ye.bW (λv w w' h hb=>h.ao hb),(λ_ h=>by cases h)⟩))))))))))))) ?_ ?_
  ·refine⟨bP O,bP O,cP λ_ _ hb _ _ _=>aS ((hS.rd 2 O).below hb) O (bA O O),cP λ_ _ hb _ _ _=>a6 ((hS.rd 2 O).below hb) O (bA O O),bP O,cP λ_ _ hb _ _ _=>aA (Ea.ao hb).2 O (bA O O),cP λ_ _ hb _ _ _=>bg (Ea.ao hb) O (bA O O),cP λ_ _ hb _ _ _=>aS ((hS.rd 2 O).below hb) O (bA O O),cP λ_ _ hb _ _ _=>fX ((hS.rd 2 O).below hb) O O O O O (bA O O),aP λ_ _=>cV O (bA O O),bP O,cP λ_ _ hb _ _ _=>aA ((hS.iQ 0 O).ao hb).2 O (bA O O),?_,au⟩;refine iF λe1 w1 hb hp aW hq=>?_
   exact pn 0 (hS.ao hb) O O O ac λw6 bk=>ak.n (dS.st O bk)
  intro u w8 _ hu xg hu3;have bB:=hu 12 _ O an;rw[Yr E qt,<-Ys E qt]at bB;clear hS hu xg hu3;refine gq O (aJ O (ay O ?_));refine Cd.loop (α:=Nat×List aE) (λz=>[(1,.pointer A1),(4,aj N),(5,.pointer PU),(6,.slice fA N N),(7,aj E),(8,aj (z.1:Int))]) (λz w'=>(E<z.1/\z.1<=N)/\z.2.length=N/\St w w' (vo A1 PU Au fA n A D N cA cD (gF n R B E z.1) z.2 (gU n R B E z.1))) (λz=>N-z.1) (E+1,bG) (auV O) ⟨⟨Nat.lt_succ_self _,by show E+1<=N;omega⟩,mA,bB⟩ ?_;clear bB mA bG;rintro⟨F,bG⟩ e w9 ⟨⟨wF,OB⟩,mA,hS⟩;dsimp only at wF OB mA hS|-;refine bC O (aK _ O (λh3=>?_) (λh3=>?_))
  ·have hF:F<N:=by omega
   have Ag:=hS.dq hR;have Ct:=hS.bU D5;have hal9:=kD E F;have CJ:=yu E F wF hF;have Hf:=br F hF;have tt:=Yy (E:Int) (F:Int);have jH:=hP.ri (e:=(E:Int)) ac ac;have h1:Rd w9 A1 3 (λj=>[Value.int .i64 (n:Int),.slice A N cA,.slice D N cD].getD j undef):=hS.rd 2 O;have GD:gb (gF n R B E F) F=false\/(gb (gF n R B E F) F=true/\¬gi R F=gi R E+1)\/(gb (gF n R B E F) F=true/\gi R F=gi R E+1):=by
    cases gb (gF n R B E F) F<;>simp[Decidable.em,Classical.em]
    exact(Classical.em _).symm
   have qL:¬(eF n R B F/\(F:Int)∈kU R B E)->St w w9 (vo A1 PU Au fA n A D N cA cD (gF n R B E (F+1)) bG (gU n R B E (F+1))):=λh=>by
    rw[adl h,asJ h];exact hS
   rcases GD with hg|⟨hg,hr⟩|⟨hg,hr⟩
   ·
    have fI:¬(eF n R B F/\(F:Int)∈kU R B E):=λh=>by
     rw[hg]at CJ;have:=dB h.1;rw[<-CJ]at this;cases this
    refine cM O (ec [xS (fA) (N) (N),xI ((F:Int)),xP (aH (fA) ((F:Int)).toNat),xB (gb (gF n R B E F) ((F:Int))),xB (false),xU,xU,xU,xU,xU,xU,xU,xU,xU,xU,xU,xU,xB (false),xB (false),xU,xU,xU,xB (false)] O (eK O) ?_ ?_)
    ·exact⟨Dr O,Dr O,λ_ _ hb _ _=>aA ((hS.iQ 0 O).ao hb).2 O Az,λ_ _ hb _ _=>rj ((hS.iQ 0 O).ao hb) O ac O O Az,λ_ _ _ _ _=>Dk O (by exact aQ Value.bool (hg)),Dr O,Dr O,Dr O,Dr O,Dr O,Dr O,Dr O,Dr O,Dr O,Dr O,Dr O,Dr O,Dr O,λ_ _ _ _ _=>Dk O (by exact aQ Value.bool (O)),Dr O,Dr O,Dr O,Dr O,au⟩
    intro u dJ hb _;refine fG O (Cd.cX O ?_);refine aC O (aJ O (aN O (tQ ?_)));exact⟨(F+1,bG),by show N-(F+1)<N-F;omega,(auV O),⟨Nat.lt_succ_of_lt wF,hF⟩,mA,(qL fI).ao hb⟩
   ·have fI:¬(eF n R B F/\(F:Int)∈kU R B E):=λh=>hr (tt.1 h.2).2.1
    refine cM O ?_;refine ec [xS (fA) (N) (N),xI ((F:Int)),xP (aH (fA) ((F:Int)).toNat),xB (gb (gF n R B E F) ((F:Int))),xB (true),xP (aH (A1) 1),xS (A) (N) (cA),xI ((F:Int)),xP (aH (A) ((F:Int)).toNat),xI (gi (R) ((F:Int))),xP (aH (A1) 1),xS (A) (N) (cA),xI ((E:Int)),xP (aH (A) ((E:Int)).toNat),xI (gi (R) ((E:Int))),xI ((gi (R) ((E:Int)))+((1:Int))),xB (decide ((gi (R) ((F:Int)))=((gi (R) ((E:Int)))+((1:Int))))),xB (decide ((gi (R) ((F:Int)))=((gi (R) ((E:Int)))+((1:Int))))),xB (false),xU,xU,xU,xB (false)] O (eK O) ?_ ?_
    ·exact⟨Dr O,Dr O,λ_ _ hb _ _=>aA ((hS.iQ 0 O).ao hb).2 O Az,λ_ _ hb _ _=>rj ((hS.iQ 0 O).ao hb) O ac O O Az,λ_ _ _ _ _=>Dk O (by exact aQ Value.bool (hg)),λ_ _ hb _ _=>ar O (aS (h1.below hb) O Az),λ_ _ hb _ _=>ar O (a6 (h1.below hb) O Az),Dr O,λ_ _ hb _ _=>ar O (aA (Ag.ao hb).2 O Az),λ_ _ hb _ _=>ar O (bg (Ag.ao hb) O Az),λ_ _ hb _ _=>ar O (aS (h1.below hb) O Az),λ_ _ hb _ _=>ar O (a6 (h1.below hb) O Az),Dr O,λ_ _ hb _ _=>ar O (aA (Ag.ao hb).2 O Az),λ_ _ hb _ _=>ar O (bg (Ag.ao hb) O Az),λ_ _ _ _ _=>ar O (aJ O Az),Dr O,Dr O,λ_ _ _ _ _=>Dk O (by exact aQ Value.bool (db hr)),Dr O,Dr O,Dr O,Dr O,au⟩
    intro u dJ hb _;refine fG O (Cd.cX O ?_);refine aC O (aJ O (aN O (tQ ?_)));exact⟨(F+1,bG),by show N-(F+1)<N-F;omega,(auV O),⟨Nat.lt_succ_of_lt wF,hF⟩,mA,(qL fI).ao hb⟩
   have ha:eF n R B F:=bX (CJ▸hg);refine cM O ?_;refine ec [xS (fA) (N) (N),xI ((F:Int)),xP (aH (fA) ((F:Int)).toNat),xB (gb (gF n R B E F) ((F:Int))),xB (true),xP (aH (A1) 1),xS (A) (N) (cA),xI ((F:Int)),xP (aH (A) ((F:Int)).toNat),xI (gi (R) ((F:Int))),xP (aH (A1) 1),xS (A) (N) (cA),xI ((E:Int)),xP (aH (A) ((E:Int)).toNat),xI (gi (R) ((E:Int))),xI ((gi (R) ((E:Int)))+((1:Int))),xB (decide ((gi (R) ((F:Int)))=((gi (R) ((E:Int)))+((1:Int))))),xB (decide ((gi (R) ((F:Int)))=((gi (R) ((E:Int)))+((1:Int))))),xB (true),xI ((E:Int)),xI ((F:Int)),xB (decide ((E:Int)∈gl B F)),xB (decide ((E:Int)∈gl B F))] O (eK O) ?_ ?_
   ·refine⟨Dr O,Dr O,λ_ _ hb _ _=>aA ((hS.iQ 0 O).ao hb).2 O Az,λ_ _ hb _ _=>rj ((hS.iQ 0 O).ao hb) O ac O O Az,λ_ _ _ _ _=>Dk O (by exact aQ Value.bool (hg)),λ_ _ hb _ _=>ar O (aS (h1.below hb) O Az),λ_ _ hb _ _=>ar O (a6 (h1.below hb) O Az),Dr O,λ_ _ hb _ _=>ar O (aA (Ag.ao hb).2 O Az),λ_ _ hb _ _=>ar O (bg (Ag.ao hb) O Az),λ_ _ hb _ _=>ar O (aS (h1.below hb) O Az),λ_ _ hb _ _=>ar O (a6 (h1.below hb) O Az),Dr O,λ_ _ hb _ _=>ar O (aA (Ag.ao hb).2 O Az),λ_ _ hb _ _=>ar O (bg (Ag.ao hb) O Az),λ_ _ _ _ _=>ar O (aJ O Az),Dr O,Dr O,λ_ _ _ _ _=>Dk O (by exact aQ Value.bool (dB hr)),Dr O,Dr O,?_,Dr O,au⟩;intro e1 w1 hb hp aW;refine ar O ?_;refine aI (Hz A1 A D cA cD n R rs B E F _ (by rw[hN,hle];exact Rd.below h1 hb) (by rw[hle];exact Ct.ao hb) ac Hf.1 (by have:=bT F hF;omega)) O ?_;rintro _ w2 ⟨rfl,aw⟩;subst aw;refine ak.n (d0 ap)
   intro u dJ hb _;have cQ:=hS.ao hb;refine fG O (aK _ O (λh4=>?_) (λh4=>?_))
   ·have kS:eF n R B F/\(F:Int)∈kU R B E:=⟨ha,tt.2 ⟨ac,hr,h4⟩⟩;have ak2:=Qr E F;have jq:bH dJ Au N bG (gU n R B E F):=by
     have h9:=cQ.sub (show(aV 27 2 Au N N bG (gU n R B E F)).Sublist _ from(((ny _ _).cons _).cons _).cons _);exact h9.tB ak2
    have xc:=(jq.at_ (i:=(E:Int)) ac ac).1;have jb:(rg bG E).n<=500:=by
     rw[<-xc,SC (by omega)];unfold xE
     split
     ·exact bl _
     refine je (lJ _ _) ?_;have:=tv (N:=R.length) (Ia R B E).nodup λx hx=>(qf.1 hx).1
     omega
    have AE:Rd dJ PU 1 (λ_=>.slice Au N N):=Rd.one (cQ.rd 1 O);have pI:∀A9:ai,(av 2 A9 1 1 [(F:Int)]::vo A1 PU Au fA n A D N cA cD (gF n R B E F) bG (gU n R B E F))[4+1+E]?=some (av 2 (rg bG E).a (rg bG E).n (rg bG E).c (gl (gU n R B E F) E)):=λA9=>uB (t1:=27) (t2:=2) (A:=Au) (n:=N) (c:=N) (rs:=bG) (xss:=gU n R B E F) (pre:=[av 2 A9 1 1 [(F:Int)],fB 4 fA N N (gF n R B E F),Bx 28 1 PU [.slice Au N N],bS A1 n A N cA D N cD]) (ks:=[]) (i:=E) ac ac
    have mw:=λ(A9:ai)(s:aE)(xs:ah)=>HH (t1:=27) (t2:=2) (A:=Au) (n:=N) (c:=N) (rs:=bG) (xss:=gU n R B E F) (ks:=[]) (pre:=[av 2 A9 1 1 [(F:Int)],fB 4 fA N N (gF n R B E F),Bx 28 1 PU [.slice Au N N],bS A1 n A N cA D N cD]) (i:=E) s xs ac ac
    clear hS;refine cM O ?_;refine iu [8,10] [yS Au N N,yI ((E:Int)),yS (Au) (N) (N),yI ((E:Int)),yP (aH (Au) ((E:Int)).toNat),yS ((rg (bG) ((E:Int))).a) ((rg (bG) ((E:Int))).n) ((rg (bG) ((E:Int))).c),yI ((F:Int)),.pr (λv w'=>∃A9,v=.slice A9 1 1/\St w w' (av 2 A9 1 1 [(F:Int)]::vo A1 PU Au fA n A D N cA cD (gF n R B E F) bG (gU n R B E F))),.pr (λv w'=>∃AZ cZ,v=.slice AZ ((rg bG E).n+1) cZ/\St w w' (fB 4 fA N N (gF n R B E F)::Bx 28 1 PU [.slice Au N N]::bS A1 n A N cA D N cD::(aX 27 Au N N bG::(cC 2 (bG.set E ⟨AZ,(rg bG E).n+1,cZ⟩) ((gU n R B E F).set E (gl (gU n R B E F) E++[(F:Int)]))++[])))),yP (aH Au ((E:Int)).toNat),.pr (λ_ w'=>∃AZ cZ,St w w' (vo A1 PU Au fA n A D N cA cD (gF n R B E F) (bG.set E ⟨AZ,(rg bG E).n+1,cZ⟩) ((gU n R B E F).set E (gl (gU n R B E F) E++[(F:Int)]))))] (ly (ly (ly (ly (ly (ly (ly (bV.2 ⟨Ye.bW (λv w w' h hb=>by obtain⟨A9,hv,hT⟩:=h;exact⟨A9,hv,hT.ao hb⟩),(bV.2 ⟨Ye.bW (λv w w' h hb=>by obtain⟨AZ,cZ,hv,hT⟩:=h;exact⟨AZ,cZ,hv,hT.ao hb⟩),(ly (bV.2 ⟨Ye.bW (λv w w' h hb=>by obtain⟨AZ,cZ,hT⟩:=h;exact⟨AZ,cZ,hT.ao hb⟩),(λ_ h=>by cases h)⟩))⟩)⟩)))))))) ?_ ?_
    ·refine⟨?_,bP O,cP λ_ _ hb _ _ _=>auP (j:=0) (AE.below hb) (by exact aQ Value.pointer (iK _).symm) O O O O (bA O O),bP O,cP λ_ _ hb _ _ _=>aA (jq.top.ao hb).2 O (bA O O),cP λ_ _ hb _ _ _=>bw (jq.top.ao hb) O (bA O O),bP O,?_,?_,?_,?_,au⟩
     ·intro e1 w1 cc eL cI dC hp aW hq;show ak _ _ _ _ _ _ _;have hX:Rd w1 PU 1 (λ_=>.slice Au N N):=by { have cI:=lz cI (b:=1) an;rcases(show cc=0\/cc=1 by omega)with h|h; { exact Rd.below AE (dC h) }; { subst h;obtain⟨AZ,cZ,_,hT⟩:=hq 8 _ _ an an an rfl rfl an;exact Rd.one (hT.rd 1 rfl) } }
      refine auP (j:=0) hX (by exact aQ Value.pointer (iK _).symm) O O O O (ak.n (fp O ap))
     ·refine cP λe1 w1 hb hp aW hq=>?_
      exact eh (St.refl _) O O O λA9 w9 aw=>ak.n (eD.dn O aw.below ⟨A9,O,(cQ.ao hb).call aw⟩)
     ·refine iF λe1 w1 hb hp aW hq=>?_
      obtain⟨A9,Gc,hT⟩:=(hp 7 _ _ an rfl rfl an);refine eQ (4+1+E) hT (pI A9) (hT.bF 0 O) O (by exact Gc) O ?_;intro AZ cZ wZ hZ;have hZ:=(mw A9 ⟨AZ,(rg bG E).n+1,cZ⟩ (gl (gU n R B E F) E++[(F:Int)]))▸hZ;exact ak.n (dS.dn O ⟨AZ,cZ,O,hZ.tail⟩)
     ·intro e1 w1 cc eL cI dC hp aW hq;show ak _ _ _ _ _ _ _;have hX:fu w1 Au N bG:=by { have cI:=lz cI (b:=1) an;rcases(show cc=0\/cc=1 by omega)with h|h; { exact jq.top.ao (dC h) }; { subst h;obtain⟨AZ,cZ,_,hT⟩:=hq 8 _ _ an an an rfl rfl an;exact hT.dm 3 rfl } }
      refine aA hX.2 O (ak.n (fp O ap))
     refine kB 1 λe1 w1 hp aW hq=>?_
     have cg:=hp 8 _ _ an O O an;obtain⟨AZ,cZ,Gd,hT⟩:=cg;refine nC (te:=27) (n:=N) (c:=N) (A:=Au) (xs:=bG) 3 hT O O (by exact Gd) ac ?_;intro wY hY;exact ak.n (dS.st O ⟨AZ,cZ,hY⟩)
    intro u qZ _ hu _ _;obtain⟨AZ,cZ,hT⟩:=hu 10 _ rfl an;rw[yE E F qt kS]at hT;refine gq O (aA (hT.iQ 0 O).2 O (pn 0 hT O O O ac ?_));intro Dw ke;rw[gx,XR E F qt kS]at ke;refine aq O (aJ O (aN O (tQ ?_)));exact⟨(F+1,_),by show N-(F+1)<N-F;omega,(auV O),⟨Nat.lt_succ_of_lt wF,hF⟩,by simp[mA],ke⟩
   have fI:¬(eF n R B F/\(F:Int)∈kU R B E):=λh=>h4 (tt.1 h.2).2.2
   refine aC O (aJ O (aN O (tQ ?_)));exact⟨(F+1,bG),by show N-(F+1)<N-F;omega,(auV O),⟨Nat.lt_succ_of_lt wF,hF⟩,mA,(qL fI).ao hb⟩
  have hF:F=N:=by omega
  subst hF;refine ba O (bc (bY O (cV O (aN O (tQ ?_)))));exact⟨(E,bG),by show E<E+1;omega,(auV O),by show E<=F;omega,mA,hS⟩
 obtain rfl:E'=0:=by omega
 refine ba O (bc (bY O ?_));refine ak.new (z:=.slice none 0 0) hS O O λPF w8 bB=>aq O (ak.new (z:=.nilFunc) bB O O ?_);intro PG w9 bj;refine aq O (acR O O O O O (ak.st (i:=0) (j:=0) bj O (by exact aQ Value.pointer (iK _).symm) O O (Nat.succ_pos _) ?_));intro dJ cQ;have cQ:=(cQ.nil 2);clear bj bB hS;refine ay O (Cd.loop (α:=Nat×ai×Nat) (λz=>[(1,.pointer A1),(4,aj N),(6,.slice fA N N),(9,.pointer PF),(10,.pointer PG),(11,.slice z.2.1 ((b6 z.1).filter λe=>decide (gi R e=0) && decide (eF n R B e)).length z.2.2),(85,aj N),(86,aj (z.1:Int))]) (λz w'=>z.1<=N/\St w w' (av 2 z.2.1 ((b6 z.1).filter λe=>decide (gi R e=0) && decide (eF n R B e)).length z.2.2 ((b6 z.1).filter λe=>decide (gi R e=0) && decide (eF n R B e))::Bx 143 1 PG [.func (.func 137) #[] #[.pointer PF,.pointer A1,.pointer PG,.pointer PU]]::Bx 28 1 PF [.slice none 0 0]::vo A1 PU Au fA n A D N cA cD (gF n R B 0 N) bG (gU n R B 0 N))) (λz=>N-z.1) (0,none,0) (auV O) ⟨bl _,cQ⟩ ?_);clear cQ;rintro⟨j,AF,cF⟩ e eO ⟨hj,hS⟩;dsimp only at hj hS|-;have fk:((b6 j).filter λe=>decide (gi R e=0) && decide (eF n R B e)).length<=500:=by
  refine je (lJ _ _) ?_;rw[b6,jd,od];omega
 refine bC O (aK _ O (λh3=>?_) (λh3=>?_))
 ·have lV:j<N:=by omega
  have Ka:=Kb j lV;have Wq:=hS.dq hR;have h1:Rd eO A1 3 (λj=>[Value.int .i64 (n:Int),.slice A N cA,.slice D N cD].getD j undef):=hS.rd 5 O;have VV:ve eO fA N (gF n R B 0 N):=hS.iQ 3 O;have hfj:=iY j lV;have qL:¬(gi R j=0/\eF n R B j)->((b6 (j+1)).filter λe=>decide (gi R e=0) && decide (eF n R B e))=((b6 j).filter λe=>decide (gi R e=0) && decide (eF n R B e)):=λh=>by
   rw[Ka,aD h,dQ]
  refine aC O (aS h1 O (a6 h1 O (aq O (aA Wq.2 O (bg Wq O (aq O ?_))))));refine b9 95 O (λh4=>?_) (λh4=>?_)
  ·refine ar O (aq O (ar O (aq O (ar O ?_))));refine aA VV.2 O (ar O (rj VV O ac O O (ay O ?_)));rw[hfj];refine aK _ O (λh5=>?_) (λh5=>?_)
   ·rw[aG ⟨h4,h5⟩]at Ka;refine aC O (eh hS O O O ?_);intro A9 gD dz;refine eQ 1 dz O (dz.bF 0 O) O O O ?_;intro AZ cZ jm il;have il:=il.tail;refine aq O (aJ O (aN O (tQ ?_)));refine⟨(j+1,AZ,cZ),by show N-(j+1)<N-j;omega,⟨O,O,O,O,O,?_,O,O,au⟩,by show j+1<=N;omega,?_⟩
    ·show Value.slice _ _ _=_;rw[Ka,cj];rfl
    show St w jm (av _ _ (((b6 (j+1)).filter _).length) _ ((b6 (j+1)).filter _)::_);rw[Ka,cj];exact il
   refine aC O (aJ O (aN O (tQ ?_)));refine⟨(j+1,AF,cF),by show N-(j+1)<N-j;omega,⟨O,O,O,O,O,?_,O,O,au⟩,by show j+1<=N;omega,?_⟩
   ·show Value.slice _ _ _=_;rw[qL (λh=>h5 h.2)]
   show St w eO (av _ _ (((b6 (j+1)).filter _).length) _ ((b6 (j+1)).filter _)::_);rw[qL (λh=>h5 h.2)];exact hS
  refine aB O (aB O (aB O (aB O (ay O ?_))));refine Cd.cX O (aC O (aJ O (aN O (tQ ?_))));refine⟨(j+1,AF,cF),by show N-(j+1)<N-j;omega,⟨O,O,O,O,O,?_,O,O,au⟩,by show j+1<=N;omega,?_⟩
  ·show Value.slice _ _ _=_;rw[qL (λh=>h4 h.1)]
  show St w eO (av _ _ (((b6 (j+1)).filter _).length) _ ((b6 (j+1)).filter _)::_);rw[qL (λh=>h4 h.1)];exact hS
 obtain rfl:j=N:=by omega
 rw[Eh]at hS fk|-;generalize hfi:((xZ R).filter λf=>decide (eF n R B f))=fi at*;have ajw:∀x∈fi,0<=x/\x<(j:Int):=λx hx=>by
  rw[<-hfi]at hx;have:=(B5.1 (fM.1 hx).1).1;omega
 have kE:Rd eO PG 1 (λ_=>.func (.func 137) #[] #[.pointer PF,.pointer A1,.pointer PG,.pointer PU]):=Rd.one (hS.rd 1 O);have hSG:St w eO (oX PF none 0 [] [] A1 n A j cA D j cD PG PU Au j j bG (gU n R B 0 j) [av 2 AF fi.length cF fi,fB 4 fA j j (gF n R B 0 j)]):=by
  have h9:=(hS.perm (show List.Perm _ (Bx 28 1 PF [.slice none 0 0]::(bS A1 n A j cA D j cD::Bx 143 1 PG [.func (.func 137) #[] #[.pointer PF,.pointer A1,.pointer PG,.pointer PU]]::Bx 28 1 PU [.slice Au j j]::(aV 27 2 Au j j bG (gU n R B 0 j)++[av 2 AF fi.length cF fi,fB 4 fA j j (gF n R B 0 j)])))from by
   classical
   refine oe.2 λz=>?_
   simp only[vo,ob,mM,sR];omega))
  exact(h9.nil 27).perm (List.Perm.swap _ _ _)
 clear hS;have O3:∀e:Nat,e<j->(gl (gU n R B 0 j) e).length<=500/\∀x∈gl (gU n R B 0 j) e,0<=x/\x<(j:Int):=λe he=>by
  rw[Yx e he];refine⟨je (lJ _ _) ?_,λx hx=>?_⟩
  ·have:=tv (N:=R.length) (Ia R B e).nodup λx hx=>(qf.1 hx).1
   omega
  have:=(qf.1 (fM.1 hx).1).1;omega
 refine ba O (bc (bY O ?_));refine ak.ld kE (by exact aQ Value.pointer (iK _).symm) am O O O ?_;refine aq O (aI (ahx w n ac PF A1 A D PG PU Au j cA j cD j j bG (gU n R B 0 j) (Qr 0 j) ac O3 (n-1) 0 fi.length [] fi none AF 0 cF [av 2 AF fi.length cF fi,fB 4 fA j j (gF n R B 0 j)] _ none 0 [] [] O O ac fk ajw (λ_ _ _ _ _ _=>bu.nil) (λw' A c rs F h=>ZI h) O (bl _) hSG) O ?_);rintro _ gD ⟨rfl,A',c',rs',dw,hS⟩;rw[List.nil_append,Xe]at dw hS;have fh:Rd gD PF 1 (λ_=>.slice A' (cap (eH n R B)).length c'):=Rd.one (hS.rd 0 O);refine aq O (auP (j:=0) fh (by exact aQ Value.pointer (iK _).symm) O O O O ?_);refine aR O O (ay O ?_);have b8:=M7 (eH n R B);have Pj:=M6 (l:=eH n R B);refine aK _ O (λh4=>?_) (λh4=>?_)
 ·have fI:¬(eH n R B).length<=400:=λh=>by have:=Pj.2 h;omega
  refine dE O (vQ O O ?_);unfold Ch Cg;rw[aD fI,aD fI];exact Im.none hS
 have kS:(eH n R B).length<=400:=Pj.1 ac;rw[zP (by omega)]at dw hS fh|-;refine aC O (auP (j:=0) fh (by exact aQ Value.pointer (iK _).symm) O O O O (bR O (vQ O O ?_)));unfold Ch Cg;rw[aG kS,aG kS];exact⟨A',c',rs',O,dw,ac6 (pre:=[]) (hS.sub ((ny _ _).cons _))⟩
end
section
variable{N b y:Nat}{L' L0:ah}{fl:ag}{S:Nat->Prop}{Q:List Nat}
structure BW(N:Nat)(K:Nat->Nat->Prop):Prop where
 sym:∀a b,K a b->K b a
 Dv:∀a b c,K a b->K b c->K a c
 jl:∀a b,K a b->a<N/\b<N
def lf(N:Nat)(K:Nat->Nat->Prop)(f:Nat)(L:ah):Prop:=
 L.length=N/\∀x:Nat,x<N->(0<=gi L x->∃r:Nat,gi L x=r/\r<f/\K r x/\∀c,K c x->r<=c)/\(gi L x<0->gi L x= -1/\∀c,c<f->¬K c x)
theorem lf.zero(N:Nat)(K:Nat->Nat->Prop):lf N K 0 (List.replicate N (-1)):=
 ⟨by simp,λx hx=>by
  rw[wD (by omega) (by omega)];exact⟨λh=>absurd h ac,λ_=>⟨O,λc hc=>absurd hc ac⟩⟩⟩
theorem lf.skip{K:Nat->Nat->Prop}(hK:BW N K){f:Nat}{L:ah}(h:lf N K f L)(hf:f<N)(h0:0<=gi L f\/¬K f f):lf N K (f+1) L:=by
 refine⟨h.1,λx hx=>⟨λh1=>?_,λh1=>?_⟩⟩
 ·obtain⟨r,h2,h3,h4⟩:=(h.2 x hx).1 h1;exact⟨r,h2,ac,h4⟩
 obtain⟨h2,h3⟩:=(h.2 x hx).2 h1;refine⟨h2,λc hc hk=>?_⟩
 by_cases e:c=f
 ·subst e;rcases h0 with h0|h0
  ·obtain⟨r,h4,h5,h6,_⟩:=(h.2 c hf).1 h0;exact h3 r h5 (hK.Dv _ _ _ h6 hk)
  exact h0 (hK.Dv _ _ _ hk (hK.sym _ _ hk))
 exact h3 c ac hk
theorem lf.pZ{K:Nat->Nat->Prop}(hK:BW N K){f:Nat}{L:ah}(h:lf N K f L)(hf:f<N)(h0:gi L f<0)(hl:L'.length=N)(hp:∀x:Nat,x<N->(K f x->gi L' x=f)/\(¬K f x->gi L' x=gi L x)):lf N K (f+1) L':=by
 refine⟨hl,λx hx=>?_⟩;have h9:=(h.2 f hf).2 h0
 by_cases hk:K f x
 ·rw[(hp x hx).1 hk];refine⟨λ_=>⟨f,O,ac,hk,λc hc=>?_⟩,λh=>absurd h ac⟩;refine Nat.le_of_not_lt λdH=>h9.2 c dH (hK.Dv _ _ _ hc (hK.sym _ _ hk))
 rw[(hp x hx).2 hk];refine⟨λh1=>?_,λh1=>?_⟩
 ·obtain⟨r,h2,h3,h4⟩:=(h.2 x hx).1 h1;exact⟨r,h2,ac,h4⟩
 obtain⟨h2,h3⟩:=(h.2 x hx).2 h1;refine⟨h2,λc hc o7=>?_⟩
 by_cases e:c=f
 ·subst e;exact hk o7
 exact h3 c ac o7
def pj(n:Nat)(fl:ag)(i a b:Nat):Prop:=a<fl.length/\b<fl.length/\∀k:Nat,k<n->k≠i->gi (gl fl a) k=gi (gl fl b) k
theorem pj.symm{n:Nat}{i a:Nat}(h:pj n fl i a b):pj n fl i b a:=⟨h.2.1,h.1,λk hk bN=>(h.2.2 k hk bN).symm⟩
inductive jx(n:Nat)(fl:ag)(S:Nat->Prop)(a:Nat):Nat->Prop where
 |refl:a<fl.length->jx n fl S a a
 |step {b c i:Nat}:jx n fl S a b->i<n->¬S i->pj n fl i b c->jx n fl S a c
theorem jx.trans{n:Nat}{a c:Nat}(h:jx n fl S a b)(h':jx n fl S b c):jx n fl S a c:=by
 induction h' with
 |refl=>exact h
 |step _ hi hs ha ih=>exact .step ih hi hs ha
theorem jx.jl{n:Nat}{a:Nat}(h:jx n fl S a b):a<fl.length/\b<fl.length:=by
 induction h with
 |refl h=>exact⟨h,h⟩
 |step _ _ _ ha ih=>exact⟨ih.1,ha.2.1⟩
theorem jx.symm{n:Nat}{a:Nat}(h:jx n fl S a b):jx n fl S b a:=by
 induction h with
 |refl h=>exact .refl h
 |step h hi hs ha ih=>exact(jx.step (.refl ha.2.1) hi hs ha.symm).trans ih
theorem jx.HT(n:Nat)(fl:ag)(S:Nat->Prop):BW fl.length (jx n fl S):=⟨λ_ _ h=>h.symm,λ_ _ _ h h'=>h.trans h',λ_ _ h=>h.jl⟩
theorem jx.keep{n:Nat}{a:Nat}(h:jx n fl S a b):∀k:Nat,k<n->S k->gi (gl fl b) k=gi (gl fl a) k:=by
 induction h with
 |refl h=>exact λ_ _ _=>rfl
 |step h hi hs ha ih=>
  intro k hk hS;rw[<-ha.2.2 k hk (λe=>hs (e▸hS)),ih k hk hS]
structure nD(N:Nat)(K A:Nat->Nat->Prop)(f:Nat)(L0 L:ah)(Q:List Nat)(k:Nat):Prop where
 len:L.length=N
 Br:∀x∈Q,x<N/\gi L0 x<0/\K f x
 bO:∀x:Nat,x<N->gi L x=if x∈Q then(f:Int)else gi L0 x
 root:f∈Q
 K7:k<=Q.length
 done:∀p,p<k->∀y,A (Q.getD p 0) y->0<=gi L y
 nd:Q.Nodup
theorem nD.meet{K A:Nat->Nat->Prop}{f:Nat}{L:ah}{k:Nat}(h:nD N K A f L0 L Q k)(hy:y<N)(hl:gi L y<0)(hk:K f y):nD N K A f L0 (L.set y (f:Int)) (Q++[y]) k:=by
 have YF:y∉Q:=λhm=>by
  have:=h.bO y hy;rw[aG hm]at this;omega
 have e:∀x:Nat,x<N->gi (L.set y (f:Int)) x=if x=y then(f:Int)else gi L x:=λx hx=>by
  have:=wE (S:=L) (x:=(y:Int)) (y:=(x:Int)) (b:=(f:Int)) ac (by rw[h.len];omega) ac;rw[gx]at this;rw[this]
  by_cases e:x=y
  ·subst e;simp
  rw[aD e,aD (by omega)]
 have wT:gi L0 y<0:=by
  have:=h.bO y hy;rw[aD YF]at this;omega
 refine⟨by rw[fR];exact h.len,λx hx=>?_,λx hx=>?_,List.mem_append_left _ h.root,by rw[cj];have:=h.K7;omega,λp hp z hz=>?_,List.nodup_append.2 ⟨h.nd,by simp,λa ha b hb e=>YF (by rw[<-eX.1 hb,<-e];exact ha)⟩⟩
 ·rcases dF.1 hx with hx|hx
  ·exact h.Br x hx
  obtain rfl:=eX.1 hx;exact⟨hy,wT,hk⟩
 ·rw[e x hx]
  by_cases ex:x=y
  ·subst ex;simp
  rw[aD ex,h.bO x hx];simp[ex]
 have hk:=h.K7;rw[b5,jF (by omega),<-b5]at hz;have h2:=h.done p hp z hz
 by_cases Qy:z<N
 ·rw[e z Qy]
  split<;>omega
 have:gi L z=gi (L.set y (f:Int)) z:=by
  simp[gi,b5,oP (show L.length<=z by rw[h.len];omega),oP (show(L.set y (f:Int)).length<=z by rw[fR,h.len];omega)]
 omega
theorem nD.next{K A:Nat->Nat->Prop}{f:Nat}{L:ah}{k:Nat}(h:nD N K A f L0 L Q k)(hk:k<Q.length)(hd:∀y,A (Q.getD k 0) y->0<=gi L y):nD N K A f L0 L Q (k+1):=
 ⟨h.len,h.Br,h.bO,h.root,hk,λp hp y hy=>by
  by_cases e:p=k
  ·subst e;exact hd y hy
  exact h.done p ac y hy,h.nd⟩
theorem nD.BB{K A:Nat->Nat->Prop}{f:Nat}{L:ah}{k:Nat}(h:nD N K A f L0 L Q k):Q.length<=N:=Q7 N Q h.nd λx hx=>(h.Br x hx).1
theorem nD.start{K A:Nat->Nat->Prop}{f:Nat}(hl:L0.length=N)(hf:f<N)(h0:gi L0 f<0)(hk:K f f):nD N K A f L0 (L0.set f (f:Int)) [f] 0:=by
 refine⟨by simp[hl],λx hx=>?_,λx hx=>?_,by simp,bl _,λp hp=>absurd hp ac,by simp⟩
 ·obtain rfl:=eX.1 hx;exact⟨hf,h0,hk⟩
 have:=wE (S:=L0) (x:=(f:Int)) (y:=(x:Int)) (b:=(f:Int)) ac (by rw[hl];omega) ac;rw[gx]at this;rw[this]
 by_cases e:x=f
 ·subst e;simp
 rw[aD (by omega),aD (by simpa using e)]
theorem nD.end_{K A:Nat->Nat->Prop}(hK:BW N K){f:Nat}{L:ah}(h:nD N K A f L0 L Q Q.length)(hL:lf N K f L0)(hf:f<N)(h0:gi L0 f<0)(hA:∀S:Nat->Prop,S f->(∀x y,S x->K f x->A x y->S y)->∀x,K f x->S x)(hAK:∀x y,A x y->K x y):lf N K (f+1) L:=by
 have hQ:∀x,K f x->x∈Q:=hA (λx=>x∈Q) h.root λx y hx uf ha=>by
  obtain⟨p,hp,e⟩:=fS.1 hx;have e2:Q.getD p 0=x:=by rw[b5,fL hp];exact e
  have h1:=h.done p hp y (by rw[e2];exact ha);have hk:=hAK x y ha;have yT:=(hK.jl _ _ hk).2;refine qi λhn=>?_
  have h2:=h.bO y yT;rw[aD hn]at h2;obtain⟨r,_,h3,h4,_⟩:=(hL.2 y yT).1 ac;exact((hL.2 f hf).2 h0).2 r h3 (hK.Dv _ _ _ (hK.Dv _ _ _ h4 (hK.sym _ _ hk)) (hK.sym _ _ uf))
 refine hL.pZ hK hf h0 h.len λx hx=>⟨λhk=>?_,λhk=>?_⟩
 ·rw[h.bO x hx,aG (hQ x hk)]
 rw[h.bO x hx,aD λhm=>hk (h.Br x hm).2.2]
section
variable {m1 m2:Nat}{n1 n2:Int}{xy xz:Int->Int}{zv vU:Int->Int->Prop}
def SX(m1 m2:Nat)(kind:Int)(c:Int×Int):Prop:=(kind=1/\(c.1=0\/c.2=0))\/(kind=2/\(c.1=(m1:Int)-1\/c.2=(m2:Int)-1))
instance (m1 m2:Nat)(kind:Int)(c:Int×Int):Decidable (SX m1 m2 kind c):=by unfold SX;infer_instance
end
def Tx(N:Nat)(B:ag)(a b:Int):Prop:=a=b\/a=0\/b=(N:Int)+1\/(0<a/\a<(N:Int)+1/\0<b/\b<(N:Int)+1/\a-1∈gl B (b-1))
instance (N:Nat)(B:ag)(a b:Int):Decidable (Tx N B a b):=by unfold Tx;infer_instance
def S8(R:ah)(i e:Int):Prop:=(e= -1/\i=0)\/((0<=e/\e<R.length)/\0<i/\gi R e=i-1)
def S2(n:Int)(R:ah)(i f:Int):Prop:=(f= -1/\i=n-1)\/((0<=f/\f<R.length)/\i<n-1/\gi R f=i+1)
section
variable (m1 m2:Nat) (xy xz:Int->Int) (kind:Int)
end
section
variable {m1 m2:Nat}{xy xz:Int->Int}{kind:Int}
end
section
variable {m1 m2:Nat}{n1 n2:Int}{xy xz:Int->Int}{zv vU:Int->Int->Prop} [DecidableRel zv] [DecidableRel vU] {kind:Int}
end
theorem QS{n:Nat}{x y:ah}(hx:x.length=n)(hy:y.length=n)(h:∀i:Nat,i<n->gi x i=gi y i):x=y:=
 iC ac λi h1 h2=>by
  have:=h i ac
  rwa[b7 h1,b7 h2]at this
open Classical in
noncomputable def De(n:Nat)(fl:ag)(i:Nat)(a:Nat):ah:=((List.range fl.length).filter λb=>decide (pj n fl i a b/\b≠a)).map λb:Nat=>(b:Int)
def sX(a b:ah):ah:=(List.range a.length).map λk:Nat=>if gi a k=gi b k then gi a k else-1
theorem DO(a b:ah):(sX a b).length=a.length:=by simp[sX]
theorem M9{a b:ah}{k:Nat}(h:k<a.length):gi (sX a b) k=if gi a k=gi b k then gi a k else-1:=by
 rw[b7 (by rw[DO];exact h)];simp[sX]
def kz(n:Nat)(c x:ah):Prop:=∀k:Nat,k<n->gi c k≠ -1->gi c k=gi x k
instance (n:Nat)(c x:ah):Decidable (kz n c x):=by unfold kz;infer_instance
def mP(n:Nat)(fl:ag)(c:ah)(a b:Nat):Prop:=kz n c (gl fl a)/\jx n fl (λk=>gi c k≠ -1) a b
theorem kz.of{n:Nat}{fl:ag}{c:ah}{a b:Nat}(h:kz n c (gl fl a))(h':jx n fl (λk=>gi c k≠ -1) a b):kz n c (gl fl b):=λk hk bN=>by
 rw[h'.keep k hk bN];exact h k hk bN
theorem mP.HT(n:Nat)(fl:ag)(c:ah):BW fl.length (mP n fl c):=
 ⟨λ_ _ h=>⟨h.1.of h.2,h.2.symm⟩,λ_ _ _ h h'=>⟨h.1,h.2.trans h'.2⟩,λ_ _ h=>h.2.jl⟩
def zA(n:Nat)(fl:ag)(c:ah)(x y:Nat):Prop:=kz n c (gl fl x)/\kz n c (gl fl y)/\∃i,i<n/\pj n fl i x y
theorem Ve{n:Nat}{fl:ag}(hn:fl.Nodup)(hl:∀x∈fl,x.length=n){x y:Nat}(hx:x<fl.length)(hy:y<fl.length)(h:∀k:Nat,k<n->gi (gl fl x) k=gi (gl fl y) k):x=y:=by
 have e:gl fl x=gl fl y:=QS (hl _ (by rw[df hx];exact dt _)) (hl _ (by rw[df hy];exact dt _)) h;rw[df hx,df hy]at e;exact(List.getElem_inj hn).1 e
theorem zA.link{n:Nat}{fl:ag}(hn:fl.Nodup)(hl:∀x∈fl,x.length=n){c:ah}{x y:Nat}(h:zA n fl c x y):mP n fl c x y:=by
 obtain⟨h1,h2,i,hi,ha⟩:=h;refine⟨h1,?_⟩
 by_cases hc:gi c i≠ -1
 ·have:x=y:=Ve hn hl ha.1 ha.2.1 λk hk=>by
   by_cases e:k=i
   ·subst e;rw[<-h1 k hk hc,h2 k hk hc]
   exact ha.2.2 k hk e
  subst this;exact .refl ha.1
 exact .step (.refl ha.1) hi hc ha
theorem mP.ind{n:Nat}{fl:ag}{c:ah}{f:Nat}(S:Nat->Prop)(hf:S f)(hs:∀x y,S x->mP n fl c f x->zA n fl c x y->S y):∀x,mP n fl c f x->S x:=λx h=>by
 obtain⟨h1,h2⟩:=h
 induction h2 with
 |refl _=>exact hf
 |step h hi hS ha ih=>exact hs _ _ ih ⟨h1,h⟩ ⟨h1.of h,h1.of (.step h hi hS ha),_,hi,ha⟩
def zB(n:Nat)(fl:ag)(S:Nat->Prop)(x y:Nat):Prop:=∃i,i<n/\¬S i/\pj n fl i x y/\y≠x
theorem jx.ind{n:Nat}{fl:ag}{S:Nat->Prop}{f:Nat}(T:Nat->Prop)(hf:T f)(hs:∀x y,T x->jx n fl S f x->zB n fl S x y->T y):∀x,jx n fl S f x->T x:=λx h=>by
 induction h with
 |refl _=>exact hf
 |step h hi hS ha ih=>
  rename_i b c i
  by_cases e:c=b
  ·rw[e];exact ih
  ·exact hs _ _ ih h ⟨_,hi,hS,ha,e⟩
theorem zB.link{n:Nat}{fl:ag}{S:Nat->Prop}{x y:Nat}(h:zB n fl S x y):jx n fl S x y:=by
 obtain⟨i,hi,hS,ha,_⟩:=h;exact .step (.refl ha.1) hi hS ha
end
end Go.Proofs.YtimbpgackifflaaGreatDoor.Vc
