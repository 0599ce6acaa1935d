/-
 Lemmas. Conditions: as each states them.
-/
import Derived.Test.YtimbpgackifflaaGreatDoorZk
set_option maxHeartbeats 8000000
namespace Go.Proofs.YtimbpgackifflaaGreatDoor.Vc
open Tryz
section
open Go.RowKit
def Dz(L:ah)(w:aa)(v:ab)(w':aa):Prop:=∃A' c',v=.slice A' L.length c'/\St w w' [av 2 A' L.length c' L]
def tO(a b:ah)(i:Nat):ah:=(List.range a.length).map λk:Nat=>if i<=k\/gi a k=gi b k then gi a k else-1
theorem wx(a b:ah)(i:Nat):(tO a b i).length=a.length:=by simp[tO]
theorem zR{a b:ah}{i k:Nat}(h:k<a.length):gi (tO a b i) k=if i<=k\/gi a k=gi b k then gi a k else-1:=by
 rw[b7 (by rw[wx];exact h)];simp[tO]
theorem aeS(a b:ah):tO a b 0=a:=by
 apply iC (wx ..);intro k h1 h2;rw[<-b7 h1,<-b7 h2,zR h2,aG (.inl (bl _))]
theorem aeT(a b:ah):tO a b a.length=sX a b:=by
 apply iC (by rw[wx,DO]);intro k h1 h2;have h3:k<a.length:=by rw[wx]at h1;exact h1
 rw[<-b7 h1,<-b7 h2,zR h3,M9 h3]
 by_cases c:gi a k=gi b k
 ·rw[aG (.inr c),aG c]
 rw[aD (by omega),aD c]
theorem aeU{a b:ah}{i:Nat}:tO a b (i+1)=if gi a i=gi b i then tO a b i else(tO a b i).set i (-1):=by
 by_cases c:gi a i=gi b i
 ·rw[aG c];apply iC (by simp[wx]);intro k h1 h4;have h3:k<a.length:=by rw[wx]at h1;exact h1
  rw[<-b7 h1,zR h3,<-b7 h4,zR h3]
  by_cases e:k=i
  ·subst e;rw[aG (.inr c),aG (.inr c)]
  by_cases e2:i+1<=k\/gi a k=gi b k
  ·rw[aG e2,aG (by omega)]
  rw[aD e2,aD (by omega)]
 rw[aD c];apply iC (by simp[wx]);intro k h1 h2;have h3:k<a.length:=by rw[wx]at h1;exact h1
 have h4:k<(tO a b i).length:=by rw[wx];exact h3
 rw[<-b7 h1,zR h3,List.getElem_set]
 split
 ·rename_i h;rw[aD (λe=>by subst e;rcases h with h|h<;>first|omega|exact c h),<-b7 h4,zR h3,aG (by omega)]
 rename_i h
 by_cases e:i=k
 ·rw[aG e]
 rw[aD e,<-b7 h4,zR h3,aD (λh'=>h (by omega))]
theorem Ud(A A2:ai)(n c m c2:Nat)(a b:ah)(w:aa)(hA:bu w A n a)(hB:bu w A2 m b)(hm:n=m)(hn:n<=1000):
 aF prog 184 [.slice A n c,.slice A2 m c2] w (Dz (sX a b) w):=by
 subst hm;have ha:=hA.1;have hb:=hB.1;refine bn func184 O ntmps184 O (bM O) (aY O (aI (DA A n c a w hA ac) O ?_));rintro _ w1 ⟨A5,c5,rfl,hS⟩;have hS:St w w1 [av 2 A5 n c5 (tO a b 0)]:=by rw[aeS];exact hS
 refine aq O (aR O O (ay O ?_));refine Cd.loop (α:=Nat) (λi=>[(5,.slice A5 n c5),(10,.slice A2 n c2),(11,aj n),(12,aj i)]) (λi w'=>i<=n/\St w w' [av 2 A5 n c5 (tO a b i)]) (λi=>n-i) 0 (auV O) ⟨bl _,hS⟩ ?_;clear hS;rintro i e w2 ⟨hi,hS⟩;have hl:=wx a b i;refine bC O (aK _ O (λh2=>?_) (λh2=>?_))
 ·have cE:i<a.length:=by omega
  have eZ:=aeU (a:=a) (b:=b) (i:=i);have jQ:=zR (b:=b) (i:=i) cE;rw[aG (.inl (cJ _))]at jQ;have iz:=hS.dq hB;have h5:=hS.bF 0 O;refine aC O (aA iz.2 O (bg iz O (aq O (aA h5.2 O (bg h5 O (ay O ?_))))));rw[jQ];refine aK _ O (λh3=>?_) (λh3=>?_)
  ·rw[aD h3]at eZ;refine aC O (aA h5.2 O (ak.oL 0 hS O O O ac ?_));intro w3 aM;refine aq O (aJ O (aN O (tQ ?_)));exact⟨i+1,by show n-(i+1)<n-i;omega,(auV O),ac,by rw[eZ];exact aM⟩
  rw[aG (kW.1 h3)]at eZ;refine aC O (aJ O (aN O (tQ ?_)));exact⟨i+1,by show n-(i+1)<n-i;omega,(auV O),ac,by rw[eZ];exact hS⟩
 have cE:i=a.length:=by omega
 rw[cE,aeT]at hS;have AP:=DO a b;refine ba O (bc (ew O ?_));refine dV O ?_;exact⟨A5,c5,by rw[AP,ha],by rw[AP,ha];exact hS⟩
def uF(xs:ah)(x:Int):ah:=(b6 xs.length).filter λe=>decide (gi xs e=x)
theorem aoY{xs:ah}{x:Int}{m:Nat}:((b6 (m+1)).filter λe=>decide (gi xs e=x))=if x=gi xs m then((b6 m).filter λe=>decide (gi xs e=x))++[(m:Int)]else((b6 m).filter λe=>decide (gi xs e=x)):=by
 have:b6 (m+1)=b6 m++[(m:Int)]:=by
  unfold b6;rw[lK,iE];rfl
 rw[this,mN]
 by_cases c:gi xs m=x
 ·rw[aG c.symm];simp[c]
 rw[aD (λh=>c h.symm)];simp[c]
theorem aau(A:ai)(n c:Nat)(xs:ah)(x:Int)(w:aa)(hA:bu w A n xs)(hn:n<=100000):
 aF prog 160 [.slice A n c,aj x] w (Dz (uF xs x) w):=by
 have ha:=hA.1;refine bn func160 O ntmps160 O (bM O) ?_;refine aY O (aR O O (ay O ?_));refine Cd.loop (α:=Nat×ai×Nat) (λz=>[(1,aj x),(5,.slice z.2.1 ((b6 z.1).filter λe=>decide (gi xs e=x)).length z.2.2),(8,.slice A n c),(9,aj n),(10,aj (z.1:Int))]) (λz w'=>z.1<=n/\St w w' [av 2 z.2.1 ((b6 z.1).filter λe=>decide (gi xs e=x)).length z.2.2 ((b6 z.1).filter λe=>decide (gi xs e=x))]) (λz=>n-z.1) (0,none,0) (auV O) ⟨bl _,(St.refl w).nil _⟩ ?_;rintro⟨i,A5,c5⟩ e w1 ⟨hi,hS⟩;dsimp only at hi hS|-;have fk:((b6 i).filter λe=>decide (gi xs e=x)).length<=100000:=by
  refine je (lJ _ _) ?_;rw[b6,jd,od];omega
 have eZ:=aoY (xs:=xs) (x:=x) (m:=i);refine bC O (aK _ O (λh2=>?_) (λh2=>?_))
 ·have D1:=hS.dq hA;refine aC O (aA D1.2 O (bg D1 O (ay O ?_)));refine aK _ O (λh3=>?_) (λh3=>?_)
  ·rw[aG h3]at eZ;refine aC O (eh hS O O O ?_);intro A9 w2 az;refine eQ 1 az O (az.bF 0 O) O O O ?_;intro AZ cZ w3 aM;have aM:=aM.tail;refine aq O (aJ O (aN O (tQ ?_)));refine⟨(i+1,AZ,cZ),by show n-(i+1)<n-i;omega,⟨O,?_,O,O,O,au⟩,by show i+1<=n;omega,?_⟩
   ·show Value.slice _ _ _=_;rw[eZ,cj];rfl
   show St w w3 [av _ _ (((b6 (i+1)).filter _).length) _ ((b6 (i+1)).filter _)];rw[eZ,cj];exact aM
  rw[aD h3]at eZ;refine aC O (aJ O (aN O (tQ ?_)));refine⟨(i+1,A5,c5),by show n-(i+1)<n-i;omega,⟨O,?_,O,O,O,au⟩,by show i+1<=n;omega,?_⟩
  ·show Value.slice _ _ _=_;rw[eZ]
  show St w w1 [av _ _ (((b6 (i+1)).filter _).length) _ ((b6 (i+1)).filter _)];rw[eZ];exact hS
 have cE:i=xs.length:=by omega
 rw[cE]at hS|-;refine ba O (bc (ew O ?_));exact dV O ⟨A5,c5,O,hS⟩
def uJ(n:Int)(R:ah)(i:Int):ah:=if 0<=i/\i<=n-1 then uF R i else[-1]
theorem Ra(P A D:ai)(n:Int)(N cA m cD:Nat)(R:ah)(i:Int)(w:aa)(hP:Rd w P 3 (λj=>[Value.int .i64 n,.slice A N cA,.slice D m cD].getD j undef))(hR:bu w A N R)(hN:N<=1000)(hn:0<=n/\n<=100):
 aF prog 183 [.pointer P,aj i] w (Dz (uJ n R i) w):=by
 refine bn func183 O ntmps183 O (bM O) (aY O ?_);refine dX hP am O O ?_;refine aS hP O (fX (j:=0) hP (by exact aQ Value.pointer O) O O O O (cV O (aI (uU _ _ _ _) O ?_)));rintro _ _ ⟨rfl,rfl⟩
 first|refine cO rfl rfl ?_|refine dv rfl rfl ?_
 refine ay O (aK _ O (λh2=>?_) (λh2=>?_))
 ·refine aC O (eh (i:=-1) (St.refl _) O O O ?_);intro A9 w2 az;refine bR O (dV O ?_);unfold Dz uJ;rw[aD h2];exact⟨A9,1,O,az⟩
 refine aC O (dX hP am O O (aS hP O (a6 hP O (aq O (aI (aau A N cA R i _ hR ac) O ?_)))));rintro _ w2 ⟨A9,c9,rfl,az⟩;refine bR O (dV O ?_);unfold Dz uJ;rw[aG (kW.1 h2)];exact⟨A9,c9,O,az⟩
theorem aiV(PP PE P A D:ai)(cA r cD:Nat)(n:Int)(N:Nat)(rs:List aE)(B:ag)(e x:Int)(w:aa)(h1:Rd w PP 1 (λ_=>.pointer P))(h2:Rd w PE 1 (λ_=>aj e))(hP:Rd w P 3 (λj=>[Value.int .i64 n,.slice A r cA,.slice D N cD].getD j undef))(hB:bH w D N rs B)(k6:B.length=N)(hx:0<=x/\x<N)(hs:SA (gl B x))(hl:(gl B x).length<=1000000):
 aF prog 133 [aj x,.pointer PP,.pointer PE] w (λv w'=>v=.bool (decide (e∈gl B x))/\St w w' []):=by
 refine bn func133 O ntmps133 O (bM O) (aY O ?_);refine ak.ld h1 (by exact aQ Value.pointer (iK _).symm) am O O O ?_;refine ak.ld h2 (by exact aQ Value.pointer (iK _).symm) am O O O ?_;refine aq O (aI (QD P A D cA r cD n N rs B e x _ hP hB k6 hx hs hl) O ?_);rintro _ w ⟨rfl,rfl⟩;refine bR O (cK O ?_);exact⟨O,St.refl _⟩
theorem aiW(P A D:ai)(cA r cD:Nat)(n:Int)(N:Nat)(rs:List aE)(B:ag)(e f:Int)(w:aa)(hP:Rd w P 3 (λj=>[Value.int .i64 n,.slice A r cA,.slice D N cD].getD j undef))(hB:bH w D N rs B)(k6:B.length=N)(hf:0<=f/\f<N)(br:∀x:Int,0<=x->x<N->SA (gl B x)/\(gl B x).length<=1000000/\∀y∈gl B x,0<=y/\y<N):
 aF prog 87 [.pointer P,aj e,aj f] w (λv w'=>v=.bool (decide (∃x∈gl B f,decide (e∈gl B x)=true))/\St w w' []):=by
 refine bn func87 O ntmps87 O (bM O) (aY O ?_);refine ak.box (v:=.pointer P) (St.refl w) O O (by show(1:Nat)<=maxLen;simp[maxLen]) ?_;intro PP w1 ax;refine ak.box (v:=aj e) ax O O (by show(1:Nat)<=maxLen;simp[maxLen]) ?_;intro PE w2 az;have pC:=Rd.below hP az.below;have iz:=az.bU hB;have vu:=iz.at_ hf.1 hf.2;have fk:=vu.1;have h3:=br f hf.1 hf.2;refine aq O ?_;refine ak.ld (Rd.one (az.rd 1 O)) (by exact aQ Value.pointer (iK _).symm) am O O O ?_;refine dX pC am O O ?_;refine aS pC O (auP (j:=2) pC (by exact aQ Value.pointer O) O O O O (aq O (aA iz.top.2 O (bw iz.top O (Tk O O O ?_)))));refine auM (afd _ _ _ (gl B f) 133 [.pointer PP,.pointer PE] (λx=>decide (e∈gl B x)) _ vu ac (λw' x hb hx=>by
  have h4:=h3.2.2 x hx;have h5:=br x h4.1 h4.2;exact aiV PP PE P A D cA r cD n N rs B e x w' (Rd.below (Rd.one (az.rd 1 O)) hb) (Rd.below (Rd.one (az.rd 0 O)) hb) (Rd.below pC hb) (iz.ao hb) k6 h4 h5.1 h5.2.1)) O O O ?_
 rintro _ w3 ⟨rfl,aw⟩;refine bR O (cK O ?_);exact⟨O,(az.ao aw.below).none⟩
abbrev abl(PU PO PG:ai):Nat->ab:=λ_=>.func (.func 88) #[] #[.pointer PU,.pointer PO,.pointer PG]
abbrev mJ(PO A:ai)(c:Nat)(rs:List aE)(F:ag)(V:Int)(PG PU Au:ai)(N cU:Nat)(bG:List aE)(U:ag)(cq:List Ck):List Ck:=
 oV PO V A F.length c::(aV 27 2 A F.length c rs F++(Bx 97 1 PG [.func (.func 88) #[] #[.pointer PU,.pointer PO,.pointer PG]]::Bx 28 1 PU [.slice Au N cU]::(aV 27 2 Au N cU bG U++cq)))
section
variable {PO A:ai}{c:Nat}{rs:List aE}{F:ag}{V:Int}{PG PU Au:ai}{N cU:Nat}{bG:List aE}{U:ag}{cq:List Ck}
theorem Ff:(Bx 97 1 PG [.func (.func 88) #[] #[.pointer PU,.pointer PO,.pointer PG]]::Bx 28 1 PU [.slice Au N cU]::(aV 27 2 Au N cU bG U++cq)).Sublist (mJ PO A c rs F V PG PU Au N cU bG U cq):=(fj _ _).cons _
theorem abm(x:Ck):(x::mJ PO A c rs F V PG PU Au N cU bG U cq).Perm (mJ PO A c rs F V PG PU Au N cU bG U (x::cq)):=by
 classical
 refine oe.2 λz=>?_
 simp only[mJ,ob,mM];omega
theorem aqM(x:Ck):(mJ PO A c rs F V PG PU Au N cU bG U cq).Sublist (mJ PO A c rs F V PG PU Au N cU bG U (x::cq)):=((((((fD cq).cons x).append_left _).cons_cons _).cons_cons _).append_left _).cons_cons _
theorem Sb{w0 w':aa}(wJ:U.length=N)(h:St w0 w' (mJ PO A c rs F V PG PU Au N cU bG U cq)):bH w' Au N bG U:=
 St.fO (t1:=27) (t2:=2) (c:=cU) (h.sub ((((fD (aV 27 2 Au N cU bG U++cq)).cons _).cons _).trans Ff)) wJ
theorem aqN{w0 w':aa}{t:ad}{B:ai}{q r:Nat}{xs:ah}(h:St w0 w' (mJ PO A c rs F V PG PU Au N cU bG U (av t B q r xs::cq))):bu w' B q xs:=(h.perm (abm _).symm).bF 0 rfl
end
theorem aoW{α:Type}(x b c:α)(X Y:List α):(x::b::c::(X++Y)).Perm (b::c::((X++[x])++Y)):=by
 classical
 refine oe.2 λz=>?_
 simp only[ob,mM,sR];omega
structure IF(N:Nat)(rr:Int->Int)(top:Int)(U:ag):Prop where
 len:U.length=N+1
 wA:N<=500
 row:∀e:Nat,e<N+1->(gl U e).length<=500/\∀f∈gl U e,(0<=f/\f<(N:Int))/\rr (e:Int)<rr f/\rr f<=top
theorem aqO(w0:aa)(PO PG PU Au:ai)(V:Int)(N cU:Nat)(bG:List aE)(U:ag)(rr:Int->Int)(top:Int)(hU:IF N rr top U):
 ∀(k nf E:Nat)(fl:ah)(Af:ai)(cf:Nat)(cq:List Ck)(w:aa)(A:ai)(c:Nat)(rs:List aE)(F:ag),fl.length=nf->nf+k<=1000->E<N+1->top-rr (E:Int)<=k->(0<nf\/gl U E≠[])->
  (∀w' A c rs F,St w0 w' (mJ PO A c rs F V PG PU Au (N+1) cU bG U cq)->bu w' Af nf fl)->
  rs.length=F.length->(F++(fW U k (E:Int)).map (fl++ ·)).length<=400->St w0 w (mJ PO A c rs F V PG PU Au (N+1) cU bG U cq)->
  aF prog 88 [.slice Af nf cf,aj E,.pointer PU,.pointer PO,.pointer PG] w (λv w'=>v=.tuple #[]/\∃A' c' rs',rs'.length=(F++(fW U k (E:Int)).map (fl++ ·)).length/\St w0 w' (mJ PO A' c' rs' (F++(fW U k (E:Int)).map (fl++ ·)) V PG PU Au (N+1) cU bG U cq)):=by
 intro k
 induction k using Nat.strongRecOn with
 |_ k ih=>
  intro nf E fl Af cf cq w A c rs F G3 yD hE e6 bN hf eM lW hS;have ua:=hU.row E hE;have hN:=hU.wA;have An:=Sb hU.len hS;have Hk:=An.at_ (i:=(E:Int)) ac ac;have bT:=Hk.1;have kq:Rd w PU 1 (λ_=>.slice Au (N+1) cU):=Rd.one ((hS.sub Ff).rd 1 O);refine bn func88 O ntmps88 O (vM O) (aY O (auP (j:=0) kq (by exact aQ Value.pointer (iK _).symm) O O O O (aq O (aA An.top.2 O (bw An.top O ?_)))));refine aR O O (aq O ?_)
  by_cases nh:gl U (E:Int) =[] --dup 2
  ·have xe:(fW U k (E:Int)).map (fl++ ·)=[fl]:=by
    cases k with
    |zero=>simp[fW]
    |succ k=>rw[fW,aG nh];simp
   rw[xe]at lW|-;rw[nh]at bT;have hz:(rg bG E).n=0:=by rw[<-bT];rfl
   have hnf0:0<nf:=bN.resolve_right λh=>h nh
   have lO:F.length+1<=400:=by simpa using lW
   have fk:=hf _ _ _ _ _ hS;have yp:Rd w PO 2 _:=hS.rd 0 O;refine b9 15 O (λ_ => ?_) (λh => absurd ac h) --t
   refine ar O (aq O (ar O (aR O O (ar O (ay O ?_)))));refine vY O ac ?_;refine iu [5,7] [yP (aH (PO) 1),yS (A) (F.length) (c),yS (Af) (nf) (cf),.pr (λv w'=>∃A3 c3,v=.slice A3 nf c3/\St w0 w' (av 2 A3 nf c3 fl::mJ PO A c rs F V PG PU Au (N+1) cU bG U cq)),.pr (λv w'=>∃A3 c3 A4,v=.slice A4 1 1/\St w0 w' (aX 27 A4 1 1 [⟨A3,nf,c3⟩]::av 2 A3 nf c3 fl::mJ PO A c rs F V PG PU Au (N+1) cU bG U cq)),.pr (λv w'=>∃A3 c3 A5 c5,v=.slice A5 (F.length+1) c5/\St w0 w' (av 2 A3 nf c3 fl::oV PO V A F.length c::aX 27 A5 (F.length+1) c5 (rs++[⟨A3,nf,c3⟩])::(cC 2 rs F++(Bx 97 1 PG [.func (.func 88) #[] #[.pointer PU,.pointer PO,.pointer PG]]::Bx 28 1 PU [.slice Au (N+1) cU]::(aV 27 2 Au (N+1) cU bG U++cq))))),yP (aH (PO) 1),.pr (λ_ w'=>∃A3 c3 A5 c5,St w0 w' (av 2 A3 nf c3 fl::oV PO V A5 (F.length+1) c5::aX 27 A5 (F.length+1) c5 (rs++[⟨A3,nf,c3⟩])::(cC 2 rs F++(Bx 97 1 PG [.func (.func 88) #[] #[.pointer PU,.pointer PO,.pointer PG]]::Bx 28 1 PU [.slice Au (N+1) cU]::(aV 27 2 Au (N+1) cU bG U++cq)))))] (ly (ly (ly (bV.2 ⟨Ye.bW (λv w w' h hb=>by obtain⟨A3,c3,hv,hT⟩:=h;exact⟨A3,c3,hv,hT.ao hb⟩),(bV.2 ⟨Ye.bW (λv w w' h hb=>by obtain⟨A3,c3,A4,hv,hT⟩:=h;exact⟨A3,c3,A4,hv,hT.ao hb⟩),(bV.2 ⟨Ye.bW (λv w w' h hb=>by obtain⟨A3,c3,A5,c5,hv,hT⟩:=h;exact⟨A3,c3,A5,c5,hv,hT.ao hb⟩),(ly (bV.2 ⟨Ye.bW (λv w w' h hb=>by obtain⟨A3,c3,A5,c5,hT⟩:=h;exact⟨A3,c3,A5,c5,hT.ao hb⟩),(λ_ h=>by cases h)⟩))⟩)⟩)⟩)))) ?_ ?_
   ·refine⟨cP λ_ _ hb _ _ _=>aS (yp.below hb) O (bA O O),cP λ_ _ hb _ _ _=>a6 (yp.below hb) O (bA O O),bP O,?_,?_,?_,?_,?_,au⟩
    ·refine cP λe1 w1 hb hp aW hq=>?_
     refine aI (DA Af nf cf fl _ (fk.ao hb) ac) O ?_;rintro _ w9 ⟨A3,c3,rfl,aw⟩;exact ak.n (eD.dn O aw.below ⟨A3,c3,O,(hS.ao hb).call aw⟩)
    ·refine cP λe1 w1 hb hp aW hq=>?_
     obtain⟨A3,c3,JG,hT⟩:=(hp 3 _ _ an rfl rfl an);refine jW (St.refl _) (by exact JG) O O ?_;intro A4 w9 fg;exact ak.n (eD.dn O fg.below ⟨A3,c3,A4,O,hT.call fg⟩)
    ·refine iF λe1 w1 hb hp aW hq=>?_
     obtain⟨A3,c3,A4,zX,hT⟩:=(hp 4 _ _ an rfl rfl an);refine iT 3 hT O (hT.dm 0 O) O (by exact zX) O ac ac O ?_;intro A5 c5 w9 fg;exact ak.n (dS.dn O ⟨A3,c3,A5,c5,O,fg.tail⟩)
    ·refine dP 1 λe1 w1 hp aW hq=>?_
     have cg:=hp 5 _ _ an O O an;obtain⟨A3,c3,A5,c5,VQ,hT⟩:=cg;refine aS ((hT.rd 1 O)) O (ak.n (fp O ap))
    ·refine kB 1 λe1 w1 hp aW hq=>?_
     have cg:=hp 5 _ _ an O O an;obtain⟨A3,c3,A5,c5,VQ,hT⟩:=cg;refine oR 1 hT O O (by exact VQ) O O ?_;intro eO oq;exact ak.n (dS.st O ⟨A3,c3,A5,c5,oq⟩)
   intro u w1 _ hu _ _;obtain⟨A3,c3,A5,c5,hT⟩:=hu 7 _ rfl an;have hT:=hT.perm (aoW _ _ _ _ _);rw[<-Dp eM]at hT;have az:St w0 w1 (mJ PO A5 c5 (rs++[⟨A3,nf,c3⟩]) (F++[fl]) V PG PU Au (N+1) cU bG U cq):=by
    unfold mJ;rw[cj,List.length_singleton];exact hT
   have Wx:=Sb hU.len az;have kE:Rd w1 PU 1 (λ_=>.slice Au (N+1) cU):=Rd.one ((az.sub Ff).rd 1 O);refine gq O (auP (j:=0) kE (by exact aQ Value.pointer (iK _).symm) O O O O (aq O (aA Wx.top.2 O (bw Wx.top O ?_))));refine aR O O (ay O ?_);refine Cd.loop (α:=Unit) (λ_=>[(30,.slice (rg bG E).a (rg bG E).n (rg bG E).c),(31,aj ((rg bG E).n:Int)),(32,aj 0)]) (λ_ w'=>w'=w1) (λ_=>0) () (auV O) O ?_;rintro⟨⟩ e w2 rfl;refine bC O (fq O ?_);refine ba O (bc (vZ O ?_));refine qU ?_;exact⟨O,A5,c5,rs++[⟨A3,nf,c3⟩],by simp[eM],az⟩
  ·obtain⟨k,rfl⟩:∃k',k=k'+1:=by
    cases k with
    |zero=>
     exfalso;obtain⟨f,wP⟩:=List.exists_mem_of_ne_nil _ nh;have:=ua.2 f wP;omega
    |succ k=>exact⟨k,rfl⟩
   rw[LV nh]at lW|-;have XV:0 <(gl U (E:Int)).length:=List.length_pos_iff.2 nh;refine b9 15 O (λh => absurd h ac) (λ_ => ?_) --f
   refine aB O (aB O (aB O (ay O ?_)));refine Cd.cX O (aC O (auP (j:=0) kq (by exact aQ Value.pointer (iK _).symm) O O O O (aq O (aA An.top.2 O (bw An.top O ?_)))));obtain⟨xs,C7⟩:∃xs,gl U E=xs:=⟨_,rfl⟩;obtain⟨nx,eZ⟩:∃nx,(rg bG E).n=nx:=⟨_,rfl⟩;rw[C7]at lW XV ua bT|-;rw[eZ]at bT|-;refine aR O O (ay O ?_);refine Cd.loop (α:=Nat×ai×Nat×List aE) (λz=>[(0,.slice Af nf cf),(2,.pointer PU),(3,.pointer PO),(4,.pointer PG),(30,.slice (rg bG E).a nx (rg bG E).c),(31,aj nx),(32,aj (z.1:Int))])
    (λz w'=>z.1<=nx/\z.2.2.2.length=(F++iS U k fl (xs.take z.1)).length/\St w0 w' (mJ PO z.2.1 z.2.2.1 z.2.2.2 (F++iS U k fl (xs.take z.1)) V PG PU Au (N+1) cU bG U cq)) (λz=>nx-z.1) (0,A,c,rs) ⟨rfl,rfl,rfl,rfl,rfl,rfl,rfl,au⟩ ⟨bl _,by
      show rs.length=(F++[]).length;rw[dQ];exact eM,by
      show St w0 w (mJ PO A c rs (F++[]) _ _ _ _ _ _ _ _ _);rw[dQ];exact hS⟩ ?_
   clear hS eM kq Hk An;rintro⟨j,A,c,rs⟩ e w1 ⟨hj,eM,hS⟩;dsimp only at hj eM hS|-;obtain⟨G,hG⟩:∃G,F++iS U k fl (xs.take j)=G:=⟨_,rfl⟩;rw[hG]at eM hS;have z6:G.length<=400:=by
    rw[<-hG,cj];have h1:=LW U k fl (xs.take j) (xs.drop j);rw[List.take_append_drop]at h1;rw[cj]at lW;omega
   refine bC O (aK _ O (λh1=>?_) (λh1=>?_))
   ·have pL:j<xs.length:=by omega
    have An:=Sb hU.len hS;have hR:=An.at_ (i:=(E:Int)) ac ac;rw[C7,eZ]at hR;have pS:=ua.2 _ (gi_in pL);obtain⟨Q,hQ⟩:∃Q:Nat,gi xs j=Q:=⟨(gi xs j).toNat,ac⟩;have lQ:F++iS U k fl (xs.take (j+1))=G++(fW U k (Q:Int)).map ((fl++[(Q:Int)])++ ·):=by
     rw[oQ pL,<-b7 pL,hQ,R9,<-ef,hG]
    have CP:(G++(fW U k (Q:Int)).map ((fl++[(Q:Int)])++ ·)).length<=400:=by
     rw[<-lQ,cj];have h1:=LW U k fl (xs.take (j+1)) (xs.drop (j+1));rw[List.take_append_drop]at h1;rw[cj]at lW;omega
    have yp:Rd w1 PO 2 _:=hS.rd 0 O;have fk:=hf _ _ _ _ _ hS;have ji:Rd w1 PG 1 (λ_=>.func (.func 88) #[] #[.pointer PU,.pointer PO,.pointer PG]):=Rd.one ((hS.sub Ff).rd 0 O);rw[hQ]at pS;refine aC O (aA hR.2 O (bg hR O ?_));rw[hQ];refine aq O (aS yp O (auP (j:=1) yp (by exact aQ Value.pointer O) O O O O ?_));refine aR O O (ay O ?_);refine vY O ac ?_;refine iu [5,7] [.ex (.func (.func 88) #[] #[.pointer PU,.pointer PO,.pointer PG]),yS (Af) (nf) (cf),.pr (λv w'=>∃A3 c3,v=.slice A3 nf c3/\St w0 w' (av 2 A3 nf c3 fl::mJ PO A c rs G V PG PU Au (N+1) cU bG U cq)),yI ((Q:Int)),.pr (λv w'=>∃A4,v=.slice A4 1 1/\bu w' A4 1 [(Q:Int)]),.pr (λv w'=>∃A5 c5,v=.slice A5 (nf+1) c5/\St w0 w' (av 2 A5 (nf+1) c5 (fl++[(Q:Int)])::mJ PO A c rs G V PG PU Au (N+1) cU bG U cq)),yI ((Q:Int)),.pr (λv w'=>∃A' c' rs',rs'.length=(G++(fW U k (Q:Int)).map ((fl++[(Q:Int)])++ ·)).length/\St w0 w' (mJ PO A' c' rs' (G++(fW U k (Q:Int)).map ((fl++[(Q:Int)])++ ·)) V PG PU Au (N+1) cU bG U cq))] (ly (ly (bV.2 ⟨Ye.bW (λv w w' h hb=>by obtain⟨A3,c3,hv,hT⟩:=h;exact⟨A3,c3,hv,hT.ao hb⟩),(ly (bV.2 ⟨Ye.bW (λv w w' h hb=>by obtain⟨A4,hv,hT⟩:=h;exact⟨A4,hv,hT.ao hb⟩),(bV.2 ⟨Ye.bW (λv w w' h hb=>by obtain⟨A5,c5,hv,hT⟩:=h;exact⟨A5,c5,hv,hT.ao hb⟩),(ly (bV.2 ⟨Ye.bW (λv w w' h hb=>by obtain⟨A',c',rs',dw,hT⟩:=h;exact⟨A',c',rs',dw,hT.ao hb⟩),(λ_ h=>by cases h)⟩))⟩)⟩))⟩))) ?_ ?_
    ·refine⟨?_,bP O,?_,bP O,?_,?_,bP O,?_,au⟩
     ·intro e1 w1 cc eL cI dC hp aW hq;show ak _ _ _ _ _ _ _;have hX:Rd w1 PG 1 (abl PU PO PG):=by { have cI:=lz cI (b:=1) an;rcases(show cc=0\/cc=1 by omega)with h|h; { exact Rd.below ji (dC h) }; { subst h;obtain⟨A5,c5,_,hT⟩:=hq 5 _ _ an an an rfl rfl an;exact Rd.one ((hT.tail.sub Ff).rd 0 rfl) } }
      refine ak.ld hX (by exact aQ Value.pointer (iK _).symm) am O O O ?_;refine ak.n (fp O ap)
     ·refine cP λe1 w1 hb hp aW hq=>?_
      refine aI (DA Af nf cf fl _ (fk.ao hb) ac) O ?_;rintro _ w9 ⟨A3,c3,rfl,aw⟩;exact ak.n (eD.dn O aw.below ⟨A3,c3,O,(hS.ao hb).call aw⟩)
     ·intro e1 w1 cc eL cI dC hp aW hq;show ak _ _ _ _ _ _ _;exact eh (St.refl _) O O O λA4 w9 aw=>ak.n (eD.dn O aw.below ⟨A4,O,aw.bF 0 O⟩)
     ·refine iF λe1 w1 hb hp aW hq=>?_
      obtain⟨A3,c3,pz,hT⟩:=(hp 2 _ _ an rfl rfl an);obtain⟨A4,h44,s7⟩:=(hp 4 _ _ an rfl rfl an);refine eQ 0 hT O s7 (by exact pz) (by exact h44) O ?_;intro A5 c5 w9 fg;exact ak.n (dS.dn O ⟨A5,c5,O,fg⟩)
     ·refine kB 1 λe1 w1 hp aW hq=>?_
      have cg:=hp 5 _ _ an O O an;obtain⟨A5,c5,Oh,hT⟩:=cg;refine auM (ih k (Nat.lt_succ_self _) (nf+1) Q (fl++[(Q:Int)]) A5 c5 (av 2 A5 (nf+1) c5 (fl++[(Q:Int)])::cq) _ A c rs G (by simp[G3]) ac ac ac (.inl (Nat.succ_pos _)) (λw' A c rs F h=>aqN h) eM CP (hT.perm (abm _))) O (by exact aQ (λv=>[v,Value.int .i64 (Q:Int),.pointer PU,.pointer PO,.pointer PG]) Oh) O ?_;rintro _ w9 ⟨rfl,A',c',rs',dw,fg⟩;exact ak.n (dS.dn O ⟨A',c',rs',dw,fg.sub (aqM _)⟩)
    intro u w2 _ hu _ _;obtain⟨A',c',rs',dw,hT⟩:=hu 7 _ rfl an;rw[<-lQ]at dw hT;refine gq O (aJ O (aN O (tQ ?_)));exact⟨(j+1,A',c',rs'),by show nx-(j+1)<nx-j;omega,(auV O),by show j+1<=nx;omega,dw,hT⟩
   ·have pL:j=xs.length:=by omega
    rw[pL,List.take_length]at hG;rw[<-hG]at eM hS;refine ba O (bc (vZ O ?_));exact qU ⟨O,A,c,rs,eM,hS⟩
end
section
variable{N E F E' F':Nat}
def vP(B:ag)(e f:Int):Bool:=decide (e∈gl B f/\∀x∈gl B f,e∉gl B x)
def nP(B:ag)(N E F x:Nat):ah:=if x=N then(b6 E).filter λe=>decide (gl B e=[])else if x<E then(b6 N).filter (vP B x)else if x=E then(b6 F).filter (vP B x)else[]
def fy(B:ag)(N E F:Nat):ag:=(List.range (N+1)).map (nP B N E F)
theorem zb(B:ag)(N E F:Nat):(fy B N E F).length=N+1:=by simp[fy]
theorem HP{B:ag}{x:Nat}(h:x<N+1):gl (fy B N E F) x=nP B N E F x:=by
 rw[df (by rw[zb];exact h)];simp[fy]
theorem Z8(B:ag)(N E F x:Nat)(hE:E<=N)(hF:F<=N):(nP B N E F x).length<=N:=by
 unfold nP
 split
 ·exact je (lJ _ _) (by rw[uL];exact hE)
 split
 ·exact je (lJ _ _) (by rw[uL];exact cJ _)
 split
 ·exact je (lJ _ _) (by rw[uL];exact hF)
 exact bl _
theorem HX(n:Nat):b6 (n+1)=b6 n++[(n:Int)]:=by
 unfold b6;rw[lK,iE];rfl
theorem Z9{B:ag}(h:∀x,x<N+1->nP B N E F x=nP B N E' F' x):fy B N E F=fy B N E' F':=
 ki λx hx=>h x (fo.1 hx)
theorem aab{B:ag}{i:Nat}{v:ah}(hi:i<N+1)(hv:v=nP B N E' F' i)(h:∀x,x<N+1->x≠i->nP B N E F x=nP B N E' F' x):(fy B N E F).set i v=fy B N E' F':=by
 refine iC (by rw[fR,zb,zb]) λx h1 h2=>?_
 rw[zb]at h2;rw[List.getElem_set];have e:∀(P Q:Nat)(h3:x<(fy B N P Q).length),(fy B N P Q)[x]=nP B N P Q x:=λP Q h3=>by simp[fy]
 rw[e E' F']
 split
 ·next hx=>subst hx;exact hv
 next hx=>rw[e E F];exact h x h2 λhe=>hx he.symm
theorem aoo{B:ag}(hE:E<N)(h:vP B E F=true):(fy B N E F).set E (gl (fy B N E F) E++[(F:Int)])=fy B N E (F+1):=by
 refine aab ac ?_ λx hx bN=>?_
 ·rw[HP (by omega)];unfold nP;rw[aD (by omega),aD (by omega),aG rfl,aD (by omega),aD (by omega),aG rfl,HX,mN,zE h,List.filter_nil]
 unfold nP
 split
 ·rfl
 split
 ·rfl
 first|rfl|rw[aD bN,aD bN]
theorem aop{B:ag}(h:¬vP B E F=true):fy B N E (F+1)=fy B N E F:=by
 refine Z9 λx hx=>?_
 unfold nP
 split
 ·rfl
 split
 ·rfl
 split
 ·next he=>subst he;rw[HX,mN,BP h,List.filter_nil,dQ]
 rfl
theorem aaa{B:ag}{x:Nat}(hx:x<N+1)(bN:x≠N):nP B N E N x=nP B N (E+1) 0 x:=by
 unfold nP;rw[aD bN,aD bN]
 by_cases h1:x<E
 ·rw[aG h1,aG (by omega)]
 rw[aD h1]
 by_cases h2:x=E
 ·rw[aG h2,aG (by omega)]
 rw[aD h2,aD (by omega)]
 split
 ·simp[b6]
 rfl
theorem aom{B:ag}(h:gl B E=[]):(fy B N E N).set N (gl (fy B N E N) N++[(E:Int)])=fy B N (E+1) 0:=by
 refine aab ac ?_ λx hx bN=>aaa hx bN
 rw[HP (by omega)];unfold nP;rw[aG rfl,aG rfl,HX,mN,zE (by simp[h]),List.filter_nil]
theorem aon{B:ag}(h:¬gl B E=[]):fy B N E N=fy B N (E+1) 0:=by
 refine Z9 λx hx=>?_
 by_cases bN:x=N
 ·unfold nP;rw[aG bN,aG bN,HX,mN,BP (by simp[h]),List.filter_nil,dQ]
 exact aaa hx bN
theorem aoq(B:ag)(N:Nat):fy B N 0 0=List.replicate (N+1) []:=by
 refine List.eq_replicate_iff.2 ⟨zb _ _ _ _,λy hy=>?_⟩;obtain⟨x,hx,rfl⟩:=de.1 hy;unfold nP
 split
 ·simp[b6]
 rw[aD (by omega)]
 split
 ·simp[b6]
 rfl
theorem aol(R:ah)(B:ag):fy B R.length R.length 0=vL R B:=by
 refine iC (by rw[zb,Ln]) λx h1 h2=>?_
 rw[<-df h1,<-df h2];rw[zb]at h1;rw[HP h1];unfold nP
 by_cases h:x=R.length
 ·rw[aG h,h,HR];rfl
 rw[aD h,aG (by omega),Rc (by omega)];rfl
end
section
open Go.RowKit
section
variable {P:Program}{N:Nat}{ops:Array Oper}{K:Env->aa->Prop}{rest:List Oper}{e:Env}{w:aa}{d:Nat}{ty:ad}{pos:String}{af:Array Edge}
theorem acQ{F:FuncId}{x y z:ae}{v1 v2 v3:ab}(hx:ev e x=v1)(hy:ev e y=v2)(hz:ev e z=v3)(hb:Nat.blt d N=true)(hK:ak P N ops K rest (bE e d (.func (.func F) #[] #[v1,v2,v3])) w):
 ak P N ops K (⟨some d,.makeFunc (.func F) #[] #[x,y,z],ty,pos,af,none⟩::rest) e w:=
 .val (by simp[execOp,Instr.makeFunc,hx,hy,hz]) hb hK
end
abbrev sJ(A1 A2 PO PU Au:ai)(n:Int)(A D:ai)(N cA cD:Nat)(bG:List aE)(U:ag):List Ck:=
 Bx 28 1 PU [.slice Au (N+1) (N+1)]::oV PO N none 0 0::iX A2::bS A1 n A N cA D N cD::(aV 27 2 Au (N+1) (N+1) bG U++[])
def Dn(R:ah)(e:Int):Int:=if e<R.length then gi R e else-1
theorem abN{n:Int}{R:ah}{B:ag}(hP:gN n R B):IF R.length (Dn R) (n-1) (vL R B):=by
 refine⟨Ln R B,hP.qm,λe he=>?_⟩;have vr:=hP.qm
 by_cases h:e<R.length
 ·rw[Rc h];refine⟨je (lJ _ _) (by rw[uL];omega),λf hf=>?_⟩;have h1:=Re.1 hf;have h2:=aoz hP hf;have h3:=hP.ri h1.1.1 h1.1.2;unfold Dn;rw[aG (by omega),aG h1.1.2];exact⟨h1.1,h2.2,h3.2⟩
 obtain rfl:e=R.length:=by omega
 rw[HR];refine⟨je (lJ _ _) (by rw[uL];omega),λf hf=>?_⟩;have h1:=(tz _ _).1 (fM.1 hf).1;have h3:=hP.ri h1.1 h1.2;unfold Dn;rw[aD (by omega),aG h1.2];exact⟨h1,ac,h3.2⟩
theorem ZJ{n:Int}{R:ah}{B:ag}(hP:gN n R B)(bN:R≠[]):QX R B≠[]:=by
 have hl:0<R.length:=List.length_pos_iff.2 bN;refine List.ne_nil_of_mem (a:=0) (fM.2 ⟨(tz _ _).2 ⟨Int.le_refl _,ac⟩,dB ?_⟩);have h:=(hP.at_ (e:=0) (Int.le_refl _) ac).2.1;cases hg:gl B 0 with
 |nil=>rfl
 |cons a r=>
  have:=h a (by rw[hg];simp);omega
theorem arX(n:Nat)(A D:ai)(cA cD:Nat)(R:ah)(rs:List aE)(B:ag)(w:aa)(hR:bu w A R.length R)(hB:bH w D B.length rs B)(hP:gN n R B)(JH:R.length<=60)(bN:R≠[])(lW:(jc n R B).length<=400):
 aF prog 37 [.agg #[aj n,.slice A R.length cA,.slice D B.length cD]] w (λv w'=>∃A' c' rs',v=.tuple #[.agg #[aj (R.length:Int),.slice A' (jc n R B).length c'],aj 0]/\rs'.length=(jc n R B).length/\St w w' (aV 27 2 A' (jc n R B).length c' rs' (jc n R B)++[])):=by
 have hn:=hP.n1;have hle:=hP.len;have tt:=abN hP;have pN:=ZJ hP bN;have eA:=aol R B;have C2:=HR R B;have Qf:∀x:Int,0<=x->x<R.length->SA (gl B x)/\(gl B x).length<=1000000/\∀y∈gl B x,0<=y/\y<R.length:=λx x0 x1=>by
  obtain⟨a,b,_⟩:=hP.at_ x0 x1;have cE:∀y∈gl B x,0<=y/\y<R.length:=λy hy=>by have:=(b y hy).1;omega
  have:=tv (N:=R.length) a.nodup cE;exact⟨a,ac,cE⟩
 have D5:bH w D R.length rs B:=hle▸hB;have e6:Dn R (R.length:Int)= -1:=aD ac;have yu:∀e f:Int,0<=f->f<R.length->e∈gl B f->e<f:=λe f f0 f1 h=>((hP.at_ f0 f1).2.1 e h).1.2
 unfold jc at lW|-;rw[hle];rw[<-eA]at tt C2 lW|-;obtain⟨N,hN⟩:∃N,R.length=N:=⟨_,rfl⟩;rw[hN]at hR JH hle tt C2 Qf D5 e6 yu lW|-;clear hB hP eA;refine bn func37 O ntmps37 O (tw O O) (aY O (og (St.refl w) O O ?_));intro A1 w1 ax;have Bc:Rd w1 A1 3 (λj=>[Value.int .i64 (n:Int),.slice A N cA,.slice D N cD].getD j undef):=ax.rd 0 O;refine kM ax O ?_;intro A2 w2 az;refine aq O (aS (az.rd 1 O) O (auP (j:=1) (az.rd 1 O) (by exact aQ Value.pointer O) O O O O (aI (oK _ _ _ _) O ?_)));rintro _ w2 ⟨rfl,rfl⟩;refine ay O (fq O (aC O (Iw aL aL O O O O O (kM az O ?_))));intro PO w3 aM;refine dU 2 0 aM O O O O O O O λw4 aU=>aq O (aJ O ?_);refine BV (N+1) aU (by show Value.int _ _=Value.int _ _;congr 1) O ac ?_;intro Au w5 aO;refine ak.new (z:=.slice none 0 0) aO O O ?_;intro PU w6 bk;refine ak.st (i:=0) (j:=0) bk O (by exact aQ Value.pointer (iK _).symm) O O (Nat.succ_pos _) ?_;intro w7 bp;have bp:St w w7 [Bx 28 1 PU [.slice Au (N+1) (N+1)],aX 27 Au (N+1) (N+1) (List.replicate (N+1) bI),oV PO N none 0 0,iX A2,bS A1 n A N cA D N cD]:=bp;have bB:St w w7 (sJ A1 A2 PO PU Au n A D N cA cD (List.replicate (N+1) bI) (fy B N 0 0)):=by
  rw[aoq];refine(xu (t:=2) (N+1) bp).perm ?_
  classical
  refine oe.2 λz=>?_
  simp only[sJ,aV,ob,mM,sR];omega
 clear bp bk aO aU aM az ax Bc;refine ay O ?_;refine Cd.loop (α:=Nat×List aE) (λz=>[(1,.pointer A1),(2,.pointer A2),(4,aj N),(5,.pointer PO),(6,.pointer PU),(21,aj N),(22,aj (z.1:Int))]) (λz w'=>z.1<=N/\z.2.length=N+1/\St w w' (sJ A1 A2 PO PU Au n A D N cA cD z.2 (fy B N z.1 0))) (λz=>N-z.1) (0,List.replicate (N+1) bI) (auV O) ⟨bl _,by simp,bB⟩ ?_;clear bB;rintro⟨E,bG⟩ e w8 ⟨hE,mA,hS⟩;dsimp only at hE mA hS|-;refine bC O (aK _ O (λh2=>?_) (λh2=>?_))
 ·have qt:E<N:=by omega
  refine cM O (Cd.loop (α:=Nat×List aE) (λz=>[(1,.pointer A1),(2,.pointer A2),(4,aj N),(5,.pointer PO),(6,.pointer PU),(7,aj E),(21,aj N),(22,aj E),(25,aj N),(26,aj (z.1:Int))]) (λz w'=>z.1<=N/\z.2.length=N+1/\St w w' (sJ A1 A2 PO PU Au n A D N cA cD z.2 (fy B N E z.1))) (λz=>N-z.1) (0,bG) (auV O) ⟨bl _,mA,hS⟩ ?_);clear hS mA bG;rintro⟨F,bG⟩ e w9 ⟨OB,mA,hS⟩;dsimp only at OB mA hS|-;have Ct:=hS.bU D5;have Kw:Rd w9 A1 3 (λj=>[Value.int .i64 (n:Int),.slice A N cA,.slice D N cD].getD j undef):=hS.rd 3 O;refine bC O (aK _ O (λh3=>?_) (λh3=>?_))
  ·have hF:F<N:=by omega
   have Hf:=Qf (F:Int) ac ac;have qL:¬vP B E F=true->St w w9 (sJ A1 A2 PO PU Au n A D N cA cD bG (fy B N E (F+1))):=λh=>by rw[aop h];exact hS
   refine aC O (b9 32 O (λg1=>?_) (λg1=>?_))
   ·refine ar O (aq O (ar O (aq O (ar O ?_))));refine aI (QD A1 A D cA N cD n N rs B E F _ Kw Ct hle ac Hf.1 Hf.2.1) O ?_;rintro _ w9 ⟨rfl,rfl⟩;refine aq O (b9 37 O (λg2=>?_) (λg2=>?_))
    ·refine ar O (aq O (ar O (aq O (ar O ?_))));refine aI (aiW A1 A D cA N cD n N rs B E F _ Kw Ct hle ac Qf) O ?_;rintro _ dJ ⟨rfl,aw⟩;have hS:=hS.ao aw.below;refine ar O ?_
     first|refine cO rfl rfl ?_|refine dv rfl rfl ?_
     refine ay O (aK _ O (λh4=>?_) (λh4=>?_))
     ·have hq9:vP B E F=true:=dB ⟨g2,λx hx hm=>h4 ⟨x,hx,dB hm⟩⟩;have wJ:=zb B N E F;have jq:bH dJ Au (N+1) bG (fy B N E F):=by
       have h9:=hS.sub (show(aV 27 2 Au (N+1) (N+1) bG (fy B N E F)).Sublist _ from((((ny _ _).cons _).cons _).cons _).cons _);exact h9.tB wJ
      have xc:=(jq.at_ (i:=(E:Int)) ac ac).1;have jb:(rg bG E).n<=500:=by
       rw[<-xc,HP (by omega)];exact je (Z8 _ _ _ _ _ ac ac) ac
      have AE:Rd dJ PU 1 (λ_=>.slice Au (N+1) (N+1)):=Rd.one (hS.rd 0 O);have pI:∀A9:ai,(av 2 A9 1 1 [(F:Int)]::sJ A1 A2 PO PU Au n A D N cA cD bG (fy B N E F))[5+1+E]?=some (av 2 (rg bG E).a (rg bG E).n (rg bG E).c (gl (fy B N E F) E)):=λA9=>uB (t1:=27) (t2:=2) (A:=Au) (n:=N+1) (c:=N+1) (rs:=bG) (xss:=fy B N E F) (pre:=[av 2 A9 1 1 [(F:Int)],Bx 28 1 PU [.slice Au (N+1) (N+1)],oV PO N none 0 0,iX A2,bS A1 n A N cA D N cD]) (ks:=[]) (i:=E) ac ac
      have mw:=λ(A9:ai)(s:aE)(xs:ah)=>HH (t1:=27) (t2:=2) (A:=Au) (n:=N+1) (c:=N+1) (rs:=bG) (xss:=fy B N E F) (ks:=[]) (pre:=[av 2 A9 1 1 [(F:Int)],Bx 28 1 PU [.slice Au (N+1) (N+1)],oV PO N none 0 0,iX A2,bS A1 n A N cA D N cD]) (i:=E) s xs ac ac
      refine iu [8,10] [yS Au (N+1) (N+1),yI ((E:Int)),yS (Au) (N+1) (N+1),yI ((E:Int)),yP (aH (Au) ((E:Int)).toNat),yS ((rg (bG) ((E:Int))).a) ((rg (bG) ((E:Int))).n) ((rg (bG) ((E:Int))).c),yI ((F:Int)),.pr (λv w'=>∃A9,v=.slice A9 1 1/\St w w' (av 2 A9 1 1 [(F:Int)]::sJ A1 A2 PO PU Au n A D N cA cD bG (fy B N E F))),.pr (λv w'=>∃AZ cZ,v=.slice AZ ((rg bG E).n+1) cZ/\St w w' (Bx 28 1 PU [.slice Au (N+1) (N+1)]::oV PO N none 0 0::iX A2::bS A1 n A N cA D N cD::(aX 27 Au (N+1) (N+1) bG::(cC 2 (bG.set E ⟨AZ,(rg bG E).n+1,cZ⟩) ((fy B N E F).set E (gl (fy B N E F) E++[(F:Int)]))++[])))),yP (aH Au ((E:Int)).toNat),.pr (λ_ w'=>∃AZ cZ,St w w' (sJ A1 A2 PO PU Au n A D N cA cD (bG.set E ⟨AZ,(rg bG E).n+1,cZ⟩) ((fy B N E F).set E (gl (fy B N E F) E++[(F:Int)]))))] (ly (ly (ly (ly (ly (ly (ly (bV.2 ⟨Ye.bW (λv w w' h hb=>by obtain⟨A9,hv,hT⟩:=h;exact⟨A9,hv,hT.ao hb⟩),(bV.2 ⟨Ye.bW (λv w w' h hb=>by obtain⟨AZ,cZ,hv,hT⟩:=h;exact⟨AZ,cZ,hv,hT.ao hb⟩),(ly (bV.2 ⟨Ye.bW (λv w w' h hb=>by obtain⟨AZ,cZ,hT⟩:=h;exact⟨AZ,cZ,hT.ao hb⟩),(λ_ h=>by cases h)⟩))⟩)⟩)))))))) ?_ ?_
      ·refine⟨?_,bP O,cP λ_ _ hb _ _ _=>auP (j:=0) (AE.below hb) (by exact aQ Value.pointer (iK _).symm) O O O O (bA O O),bP O,cP λ_ _ hb _ _ _=>aA (jq.top.ao hb).2 O (bA O O),cP λ_ _ hb _ _ _=>bw (jq.top.ao hb) O (bA O O),bP O,?_,?_,?_,?_,au⟩
       ·intro e1 w1 cc eL cI dC hp aW hq;show ak _ _ _ _ _ _ _;have hX:Rd w1 PU 1 (λ_=>.slice Au (N+1) (N+1)):=by { have cI:=lz cI (b:=1) an;rcases(show cc=0\/cc=1 by omega)with h|h; { exact Rd.below AE (dC h) }; { subst h;obtain⟨AZ,cZ,_,hT⟩:=hq 8 _ _ an an an rfl rfl an;exact Rd.one (hT.rd 0 rfl) } }
        refine auP (j:=0) hX (by exact aQ Value.pointer (iK _).symm) O O O O (ak.n (fp O ap))
       ·refine cP λe1 w1 hb hp aW hq=>?_
        exact eh (St.refl _) O O O λA9 w9 aw=>ak.n (eD.dn O aw.below ⟨A9,O,(hS.ao hb).call aw⟩)
       ·refine iF λe1 w1 hb hp aW hq=>?_
        obtain⟨A9,Gc,hT⟩:=(hp 7 _ _ an rfl rfl an);refine eQ (5+1+E) hT (pI A9) (hT.bF 0 O) O (by exact Gc) O ?_;intro AZ cZ wZ hZ;have hZ:=(mw A9 ⟨AZ,(rg bG E).n+1,cZ⟩ (gl (fy B N E F) E++[(F:Int)]))▸hZ;exact ak.n (dS.dn O ⟨AZ,cZ,O,hZ.tail⟩)
       ·intro e1 w1 cc eL cI dC hp aW hq;show ak _ _ _ _ _ _ _;have hX:fu w1 Au (N+1) bG:=by { have cI:=lz cI (b:=1) an;rcases(show cc=0\/cc=1 by omega)with h|h; { exact jq.top.ao (dC h) }; { subst h;obtain⟨AZ,cZ,_,hT⟩:=hq 8 _ _ an an an rfl rfl an;exact hT.dm 4 rfl } }
        refine aA hX.2 O (ak.n (fp O ap))
       refine kB 1 λe1 w1 hp aW hq=>?_
       have cg:=hp 8 _ _ an O O an;obtain⟨AZ,cZ,Gd,hT⟩:=cg;refine nC (te:=27) (n:=N+1) (c:=N+1) (A:=Au) (xs:=bG) 4 hT O O (by exact Gd) ac ?_;intro wY hY;exact ak.n (dS.st O ⟨AZ,cZ,hY⟩)
      intro u qZ _ hu _ _;obtain⟨AZ,cZ,hT⟩:=hu 10 _ rfl an;rw[aoo qt hq9]at hT;refine gq O (aJ O (aN O (tQ ?_)));exact⟨(F+1,_),by show N-(F+1)<N-F;omega,(auV O),by show F+1<=N;omega,by simp[mA],hT⟩
     refine aC O (aJ O (aN O (tQ ?_)));exact⟨(F+1,bG),by show N-(F+1)<N-F;omega,(auV O),by show F+1<=N;omega,mA,(qL λh=>by
      obtain⟨x,hx,hm⟩:=Decidable.not_not.1 h4;exact(bX h).2 x hx (bX hm)).ao aw.below⟩
    refine aB O (aB O (aB O (aB O (ay O ?_))));refine Cd.cX O (aC O (aJ O (aN O (tQ ?_))));exact⟨(F+1,bG),by show N-(F+1)<N-F;omega,(auV O),by show F+1<=N;omega,mA,qL λh=>g2 (bX h).1⟩
   refine aB O (aB O (aB O (aq O (aB O (aB O (aB O (aB O (ay O ?_))))))));refine Cd.cX O (aC O (aJ O (aN O (tQ ?_))));exact⟨(F+1,bG),by show N-(F+1)<N-F;omega,(auV O),by show F+1<=N;omega,mA,qL λh=>by
    have:=yu (E:Int) (F:Int) ac ac (bX h).1;omega⟩
  obtain rfl:F=N:=by omega
  obtain⟨dJ,rfl⟩:∃dJ,dJ=w9:=⟨_,rfl⟩;have akP:=Ct.at_ (i:=(E:Int)) ac ac;have bT:=akP.1;refine ba O (bc (bY O ?_));refine aS Kw O (auP (j:=2) Kw (by exact aQ Value.pointer O) O O O O (aq O (aA Ct.top.2 O (bw Ct.top O ?_))));refine aR O O (ay O ?_);refine aK _ O (λh4=>?_) (λh4=>?_)
  ·have hz:gl B E=[]:=iL ac;have wJ:=zb B F E F;have jq:bH dJ Au (F+1) bG (fy B F E F):=by
    have h9:=hS.sub (show(aV 27 2 Au (F+1) (F+1) bG (fy B F E F)).Sublist _ from((((ny _ _).cons _).cons _).cons _).cons _);exact h9.tB wJ
   have xc:=(jq.at_ (i:=(F:Int)) ac ac).1;have jb:(rg bG F).n<=500:=by
    rw[<-xc,HP (by omega)];exact je (Z8 _ _ _ _ _ ac ac) ac
   have AE:Rd dJ PU 1 (λ_=>.slice Au (F+1) (F+1)):=Rd.one (hS.rd 0 O);have pI:∀A9:ai,(av 2 A9 1 1 [(E:Int)]::sJ A1 A2 PO PU Au n A D F cA cD bG (fy B F E F))[5+1+F]?=some (av 2 (rg bG F).a (rg bG F).n (rg bG F).c (gl (fy B F E F) F)):=λA9=>uB (t1:=27) (t2:=2) (A:=Au) (n:=F+1) (c:=F+1) (rs:=bG) (xss:=fy B F E F) (pre:=[av 2 A9 1 1 [(E:Int)],Bx 28 1 PU [.slice Au (F+1) (F+1)],oV PO F none 0 0,iX A2,bS A1 n A F cA D F cD]) (ks:=[]) (i:=F) ac ac
   have mw:=λ(A9:ai)(s:aE)(xs:ah)=>HH (t1:=27) (t2:=2) (A:=Au) (n:=F+1) (c:=F+1) (rs:=bG) (xss:=fy B F E F) (ks:=[]) (pre:=[av 2 A9 1 1 [(E:Int)],Bx 28 1 PU [.slice Au (F+1) (F+1)],oV PO F none 0 0,iX A2,bS A1 n A F cA D F cD]) (i:=F) s xs ac ac
   refine iu [8,10] [yS Au (F+1) (F+1),yI ((F:Int)),yS (Au) (F+1) (F+1),yI ((F:Int)),yP (aH (Au) ((F:Int)).toNat),yS ((rg (bG) ((F:Int))).a) ((rg (bG) ((F:Int))).n) ((rg (bG) ((F:Int))).c),yI ((E:Int)),.pr (λv w'=>∃A9,v=.slice A9 1 1/\St w w' (av 2 A9 1 1 [(E:Int)]::sJ A1 A2 PO PU Au n A D F cA cD bG (fy B F E F))),.pr (λv w'=>∃AZ cZ,v=.slice AZ ((rg bG F).n+1) cZ/\St w w' (Bx 28 1 PU [.slice Au (F+1) (F+1)]::oV PO F none 0 0::iX A2::bS A1 n A F cA D F cD::(aX 27 Au (F+1) (F+1) bG::(cC 2 (bG.set F ⟨AZ,(rg bG F).n+1,cZ⟩) ((fy B F E F).set F (gl (fy B F E F) F++[(E:Int)]))++[])))),yP (aH Au ((F:Int)).toNat),.pr (λ_ w'=>∃AZ cZ,St w w' (sJ A1 A2 PO PU Au n A D F cA cD (bG.set F ⟨AZ,(rg bG F).n+1,cZ⟩) ((fy B F E F).set F (gl (fy B F E F) F++[(E:Int)]))))] (ly (ly (ly (ly (ly (ly (ly (bV.2 ⟨Ye.bW (λv w w' h hb=>by obtain⟨A9,hv,hT⟩:=h;exact⟨A9,hv,hT.ao hb⟩),(bV.2 ⟨Ye.bW (λv w w' h hb=>by obtain⟨AZ,cZ,hv,hT⟩:=h;exact⟨AZ,cZ,hv,hT.ao hb⟩),(ly (bV.2 ⟨Ye.bW (λv w w' h hb=>by obtain⟨AZ,cZ,hT⟩:=h;exact⟨AZ,cZ,hT.ao hb⟩),(λ_ h=>by cases h)⟩))⟩)⟩)))))))) ?_ ?_
   ·refine⟨?_,bP O,cP λ_ _ hb _ _ _=>auP (j:=0) (AE.below hb) (by exact aQ Value.pointer (iK _).symm) O O O O (bA O O),bP O,cP λ_ _ hb _ _ _=>aA (jq.top.ao hb).2 O (bA O O),cP λ_ _ hb _ _ _=>bw (jq.top.ao hb) O (bA O O),bP O,?_,?_,?_,?_,au⟩
    ·intro e1 w1 cc eL cI dC hp aW hq;show ak _ _ _ _ _ _ _;have hX:Rd w1 PU 1 (λ_=>.slice Au (F+1) (F+1)):=by { have cI:=lz cI (b:=1) an;rcases(show cc=0\/cc=1 by omega)with h|h; { exact Rd.below AE (dC h) }; { subst h;obtain⟨AZ,cZ,_,hT⟩:=hq 8 _ _ an an an rfl rfl an;exact Rd.one (hT.rd 0 rfl) } }
     refine auP (j:=0) hX (by exact aQ Value.pointer (iK _).symm) O O O O (ak.n (fp O ap))
    ·refine cP λe1 w1 hb hp aW hq=>?_
     exact eh (St.refl _) O O O λA9 w9 aw=>ak.n (eD.dn O aw.below ⟨A9,O,(hS.ao hb).call aw⟩)
    ·refine iF λe1 w1 hb hp aW hq=>?_
     obtain⟨A9,Gc,hT⟩:=(hp 7 _ _ an rfl rfl an);refine eQ (5+1+F) hT (pI A9) (hT.bF 0 O) O (by exact Gc) O ?_;intro AZ cZ wZ hZ;have hZ:=(mw A9 ⟨AZ,(rg bG F).n+1,cZ⟩ (gl (fy B F E F) F++[(E:Int)]))▸hZ;exact ak.n (dS.dn O ⟨AZ,cZ,O,hZ.tail⟩)
    ·intro e1 w1 cc eL cI dC hp aW hq;show ak _ _ _ _ _ _ _;have hX:fu w1 Au (F+1) bG:=by { have cI:=lz cI (b:=1) an;rcases(show cc=0\/cc=1 by omega)with h|h; { exact jq.top.ao (dC h) }; { subst h;obtain⟨AZ,cZ,_,hT⟩:=hq 8 _ _ an an an rfl rfl an;exact hT.dm 4 rfl } }
     refine aA hX.2 O (ak.n (fp O ap))
    refine kB 1 λe1 w1 hp aW hq=>?_
    have cg:=hp 8 _ _ an O O an;obtain⟨AZ,cZ,Gd,hT⟩:=cg;refine nC (te:=27) (n:=F+1) (c:=F+1) (A:=Au) (xs:=bG) 4 hT O O (by exact Gd) ac ?_;intro wY hY;exact ak.n (dS.st O ⟨AZ,cZ,hY⟩)
   intro u qZ _ hu _ _;obtain⟨AZ,cZ,hT⟩:=hu 10 _ rfl an;rw[aom hz]at hT;refine gq O (aJ O (aN O (tQ ?_)));exact⟨(E+1,_),by show F-(E+1)<F-E;omega,(auV O),by show E+1<=F;omega,by simp[mA],hT⟩
  refine aC O (aJ O (aN O (tQ ?_)));exact⟨(E+1,bG),by show F-(E+1)<F-E;omega,(auV O),by show E+1<=F;omega,mA,by
   show St w dJ (sJ A1 A2 PO PU Au n A D F cA cD bG (fy B F (E+1) 0));rw[<-aon (λhz=>h4 (by rw[hz]at bT;simp at bT;omega))];exact hS⟩
 obtain rfl:E=N:=by omega
 obtain⟨U,hU⟩:∃U,fy B E E 0=U:=⟨_,rfl⟩;rw[hU]at tt C2 lW hS|-;obtain⟨FF,V2⟩:∃FF,fW U (n+1) (E:Int)=FF:=⟨_,rfl⟩;have hid:([]:ag)++(fW U (n+1) (E:Int)).map (([]:ah)++ ·)=FF:=by
  rw[V2];simp
 rw[V2]at lW|-;refine ba O (bc (bY O ?_));refine ak.new (z:=.nilFunc) hS O O ?_;intro PG w9 bj;refine aq O (acQ O O O O (ak.st (i:=0) (j:=0) bj O (by exact aQ Value.pointer (iK _).symm) O O (Nat.succ_pos _) ?_));intro dJ cQ;have cQ:St w dJ (mJ PO none 0 [] [] E PG PU Au (E+1) (E+1) bG U [iX A2,bS A1 n A E cA D E cD]):=by
  have h9:St w dJ (aX 27 none 0 0 []::Bx 97 1 PG [.func (.func 88) #[] #[.pointer PU,.pointer PO,.pointer PG]]::sJ A1 A2 PO PU Au n A D E cA cD bG U):=cQ.nil _;refine h9.perm ?_
  classical
  refine oe.2 λz=>?_
  simp only[mJ,sJ,aV,cC,List.length_nil,ob,mM,sR];omega
 clear bj hS;have AA:Rd dJ PG 1 (abl PU PO PG):=Rd.one ((cQ.sub Ff).rd 0 O);refine aq O ?_;refine ak.ld AA (by exact aQ Value.pointer (iK _).symm) am O O O ?_;refine aq O ?_;refine aI (aqO w PO PG PU Au E E (E+1) bG U (Dn R) ((n:Int)-1) tt (n+1) 0 E [] none 0 [iX A2,bS A1 n A E cA D E cD] _ none 0 [] [] O ac ac ac (.inr (by rw[C2];exact pN)) (λw' A c rs F h=>bu.nil) O (by rw[hid];exact lW) cQ) O ?_;rintro _ eO ⟨rfl,A',c',rs',dw,hT⟩;rw[hid]at dw hT;have hT:St w eO (iX A2::oV PO E A' FF.length c'::aV 27 2 A' FF.length c' rs' FF):=by
  have h9:St w eO ((oV PO E A' FF.length c'::aV 27 2 A' FF.length c' rs' FF)++[iX A2]):=hT.sub (List.Sublist.cons_cons _ (List.Sublist.append_left (((List.sublist_append_of_sublist_right (List.Sublist.cons_cons _ (List.nil_sublist _))).cons _).cons _) _));exact h9.perm gL
 have yp:Rd eO PO 2 _:=hT.rd 1 O;refine aq O (aS yp O (auP (j:=1) yp (by exact aQ Value.pointer O) O O O O ?_));refine aR O O (ay O ?_);refine fq O (aC O (cG 1 yp O O O (dU 2 0 hT O O O O O O O ?_)));intro gD nL;refine bR O (oI O (nL.rd 0 O) O ?_);refine⟨A',c',rs',O,dw,?_⟩;rw[dQ];exact nL.tail.tail
def DK(n:Nat)(R:ah)(B:ag)(f:Nat)(x:Nat):Prop:=(f<=x/\gi R x=(n:Int)-1)\/∃g:Nat,(g:Int)∈kU R B x/\eF n R B g/\f<=g
def xW(n:Nat)(R:ah)(B:ag)(f j:Nat)(x:Nat):Prop:=DK n R B (f+1) x\/(x=f/\gi R x=(n:Int)-1)\/(eF n R B f/\(x:Int)∈(gl B f).take j/\gi R f=gi R x+1)
section
variable{j:Nat}
variable {n:Nat}{R:ah}{B:ag}
theorem TC(hP:gN n R B){f x:Nat}(hf:f<=x)(hx:x<R.length):DK n R B f x↔eF n R B x:=by
 have hr:=hP.ri (e:=(x:Int)) ac ac;constructor
 ·rintro(h|⟨g,h1,h2,_⟩)
  ·exact TE h.2
  have h3:=qf.1 h1;have:=hP.ri h3.1.1 h3.1.2;exact(IL ac ac).2 ⟨_,h1,h2⟩
 intro h
 by_cases c:gi R x=(n:Int)-1
 ·exact .inl ⟨hf,c⟩
 obtain⟨g,h1,h2⟩:=(IL ac ac).1 h;have h3:=BN hP h1;obtain⟨g',rfl⟩:∃g':Nat,g=g':=⟨g.toNat,ac⟩;exact .inr ⟨g',h1,h2,ac⟩
theorem adn(hP:gN n R B){x:Nat}(hx:x<R.length):¬DK n R B R.length x:=by
 rintro(h|⟨g,h1,_,h2⟩)
 ·omega
 have:=BN hP h1;omega
theorem adq(hP:gN n R B){f:Nat}(hf:f<R.length):xW n R B f j f↔eF n R B f:=by
 rw[<-TC hP (cJ f) hf];constructor
 ·rintro(h|h|h)
  ·rcases h with h|⟨g,h1,h2,h3⟩
   ·omega
   exact .inr ⟨g,h1,h2,ac⟩
  ·exact .inl ⟨cJ _,h.2⟩
  have:=((hP.at_ (e:=(f:Int)) ac ac).2.1 _ (List.mem_of_mem_take h.2.1)).1;omega
 rintro(h|⟨g,h1,h2,h3⟩)
 ·exact .inr (.inl ⟨O,h.2⟩)
 have:=BN hP h1;exact .inl (.inr ⟨g,h1,h2,ac⟩)
theorem ado(hP:gN n R B){f:Nat}(hf:f<R.length)(hj:¬eF n R B f\/(gl B f).length<=j){x:Nat}(hx:x<R.length):xW n R B f j x↔DK n R B f x:=by
 constructor
 ·rintro(h|h|h)
  ·rcases h with h|⟨g,h1,h2,h3⟩
   ·exact .inl ⟨ac,h.2⟩
   exact .inr ⟨g,h1,h2,ac⟩
  ·exact .inl ⟨ac,h.2⟩
  exact .inr ⟨f,qf.2 ⟨ac,h.2.2,List.mem_of_mem_take h.2.1⟩,h.1,cJ _⟩
 rintro(h|⟨g,h1,h2,h3⟩)
 ·by_cases e:x=f
  ·exact .inr (.inl ⟨e,h.2⟩)
  exact .inl (.inl ⟨ac,h.2⟩)
 by_cases e:g=f
 ·subst e;have h4:=qf.1 h1;rcases hj with hj|hj
  ·exact absurd h2 hj
  exact .inr (.inr ⟨h2,by rw[jw hj];exact h4.2.2,h4.2.1⟩)
 exact .inl (.inr ⟨g,h1,h2,ac⟩)
theorem adp{f:Nat}(hj:j<(gl B f).length){x:Nat}:xW n R B f (j+1) x↔xW n R B f j x\/(eF n R B f/\(x:Int)=gi (gl B f) j/\gi R f=gi R x+1):=by
 have e9:(gl B f).take (j+1)=(gl B f).take j++[gi (gl B f) j]:=by
  rw[oQ hj,b7 hj]
 unfold xW;rw[e9,dF,eX];constructor
 ·rintro(h|h|⟨h1,h2|h2,h3⟩)
  ·exact .inl (.inl h)
  ·exact .inl (.inr (.inl h))
  ·exact .inl (.inr (.inr ⟨h1,h2,h3⟩))
  exact .inr ⟨h1,h2,h3⟩
 rintro((h|h|⟨h1,h2,h3⟩)|⟨h1,h2,h3⟩)
 ·exact .inl h
 ·exact .inr (.inl h)
 ·exact .inr (.inr ⟨h1,.inl h2,h3⟩)
 exact .inr (.inr ⟨h1,.inr h2,h3⟩)
end
def sS(N:Nat)(L:List Bool)(P:Nat->Prop):Prop:=L.length=N/\∀x:Nat,x<N->(gb L x=true↔P x)
theorem sS.set{N:Nat}{L:List Bool}{P P':Nat->Prop}(h:sS N L P){y:Nat}(hy:y<N)(hP:∀x,x<N->(P' x↔P x\/x=y)):sS N (L.set y true) P':=by
 refine⟨by rw[fR];exact h.1,λx hx=>?_⟩;have:=F4 (S:=L) (x:=(y:Int)) (y:=(x:Int)) (b:=true) ac (by rw[h.1];omega) ac;rw[gx]at this;rw[this,hP x hx,<-h.2 x hx]
 by_cases e:x=y
 ·subst e;simp
 rw[aD (by omega)];exact⟨λh=>.inl h,λh=>h.resolve_right e⟩
theorem sS.congr{N:Nat}{L:List Bool}{P P':Nat->Prop}(h:sS N L P)(hP:∀x,x<N->(P' x↔P x)):sS N L P':=⟨h.1,λx hx=>(h.2 x hx).trans (hP x hx).symm⟩
theorem amG(n:Nat)(A D:ai)(cA cD:Nat)(R:ah)(rs:List aE)(B:ag)(w:aa)(hR:bu w A R.length R)(hB:bH w D B.length rs B)(hP:gN n R B):
 aF prog 143 [.agg #[aj n,.slice A R.length cA,.slice D B.length cD]] w (λv w'=>∃A' L,v=.slice A' R.length R.length/\sS R.length L (λx=>eF n R B x)/\St w w' [fB 4 A' R.length R.length L]):=by
 have hn:=hP.n1;have ou:=hP.qm;have hle:=hP.len;have br:=λ(f:Nat)(h:f<R.length)=>hP.at_ (e:=(f:Int)) ac ac
 have bT:∀f:Nat,f<R.length->(gl B f).length<=500:=λf h=>by
  have:=tv (N:=R.length) (br f h).1.nodup λx hx=>by have:=((br f h).2.1 x hx).1;omega
  omega
 have Yq:=λf j (h:f<R.length)=>adq (n:=n) (j:=j) hP h
 have GI:=λf j x (h:f<R.length) hj (hx:x<R.length)=>ado (n:=n) (j:=j) hP h hj hx
 have C2:=λx (h:x<R.length)=>adn (n:=n) hP h
 have pJ:=λx (h:x<R.length)=>TC (n:=n) (f:=0) hP (bl _) h
 have jH:=λ(x:Nat)(h:x<R.length)=>hP.ri (e:=(x:Int)) ac ac
 obtain⟨N,hN⟩:∃N,R.length=N:=⟨_,rfl⟩;rw[hN]at hR ou hle br bT Yq GI C2 pJ jH|-;rw[hle]at hB|-;refine bn func143 O ntmps143 O (bM O) (aY O (og (St.refl w) O O ?_));intro A1 w1 ax;have h1:Rd w1 A1 3 (λj=>[Value.int .i64 (n:Int),.slice A N cA,.slice D N cD].getD j undef):=ax.rd 0 O;have hR:=ax.dq hR;have hB:=ax.bU hB;refine aq O (aS h1 O (auP (j:=1) h1 (by exact aQ Value.pointer O) O O O O (aR O O (wb (v:=false) N (St.refl w1) O O ac ?_))));intro A3 w2 nL;have Ob:=Rd.below h1 nL.below;refine aq O (aS Ob O (auP (j:=1) Ob (by exact aQ Value.pointer O) O O O O ?_));have gZ:sS N (List.replicate N false) (DK n R B N):=⟨by simp,λx hx=>⟨λh=>(by rw[Vq]at h;cases h),λh=>absurd h (C2 x hx)⟩⟩;clear Ob;refine aR O O (cV O (ay O ?_));refine Cd.loop (α:=Nat×List Bool) (λz=>[(1,.pointer A1),(3,.slice A3 N N),(4,aj ((z.1:Int)-1))]) (λz w'=>z.1<=N/\sS N z.2 (DK n R B z.1)/\St w1 w' [fB 4 A3 N N z.2]) (λz=>z.1) (N,List.replicate N false) (auV O) ⟨cJ _,gZ,nL⟩ ?_;clear nL gZ;rintro⟨E',L⟩ e w3 ⟨hE,hL,hT⟩;dsimp only at hE hL hT|-;refine bC O (aK _ O (λh2=>?_) (λh2=>?_))
 ·obtain⟨f,rfl⟩:∃f,E'=f+1:=⟨E'-1,ac⟩;have nb:f<N:=by omega
  rw[show((f+1:Nat):Int)-1=(f:Int) by omega];have rE:=Rd.below h1 hT.below;have yl:=hR.ao hT.below;have Hh:=jH f nb;refine xL 3 O (lH (α:=List Bool) (λ_=>[(1,.pointer A1),(3,.slice A3 N N),(4,aj f)]) (λL' w'=>sS N L' (xW n R B f 0)/\St w1 w' [fB 4 A3 N N L']) ?_ ?_)
  ·refine bC O (ec [xP (aH (A1) 1),xS (A) (N) (cA),xI ((f:Int)),xP (aH (A) ((f:Int)).toNat),xI (gi (R) ((f:Int))),xP (aH (A1) 0),xI ((n:Int)),xI (((n:Int))-((1:Int))),xB (decide ((gi (R) ((f:Int)))=(((n:Int))-((1:Int)))))] O (eK O) ?_ ?_)
   ·exact⟨λ_ _ hb _ _=>aS (rE.below hb) O Az,λ_ _ hb _ _=>a6 (rE.below hb) O Az,Dr O,λ_ _ hb _ _=>aA (yl.ao hb).2 O Az,λ_ _ hb _ _=>bg (yl.ao hb) O Az,λ_ _ hb _ _=>aS (rE.below hb) O Az,λ_ _ hb _ _=>fX (rE.below hb) O O O O O Az,λ_ _ _ _ _=>cV O Az,Dr O,au⟩
   intro u w4 kq _;have Ak:=hT.ao kq;clear hT rE yl;refine fG O (aK _ O (λh3=>?_) (λh3=>?_))
   ·refine aC O (aA (Ak.iQ 0 O).2 O (pn 0 Ak O O O ac ?_));intro w5 k7;rw[gx]at k7;refine aN O (tQ ?_);refine⟨L.set f true,(auV O),hL.set nb λx hx=>?_,k7⟩;unfold xW;rw[List.take_zero];constructor
    ·rintro(h|h|h)
     ·exact .inl h
     ·exact .inr h.1
     cases h.2.1
    rintro(h|h)
    ·exact .inl h
    subst h;exact .inr (.inl ⟨rfl,h3⟩)
   refine jE O (tQ ?_);refine⟨L,(auV O),hL.congr λx hx=>?_,Ak⟩;unfold xW;rw[List.take_zero];constructor
   ·rintro(h|h|h)
    ·exact h
    ·exact absurd (h.1▸h.2) h3
    cases h.2.1
   exact λh=>.inl h
  clear hT hL rE yl;rintro L e w5 ⟨hL,hT⟩;have akM:=br f nb;have KM:=bT f nb;refine cM O (Cd.loop (α:=Nat×List Bool) (λz=>[(1,.pointer A1),(3,.slice A3 N N),(4,aj f),(5,aj (z.1:Int))]) (λz w'=>z.1<=(gl B f).length/\sS N z.2 (xW n R B f z.1)/\St w1 w' [fB 4 A3 N N z.2]) (λz=>(gl B f).length-z.1) (0,L) (auV O) ⟨bl _,hL,hT⟩ ?_);clear hT hL;rintro⟨j,L⟩ e w6 ⟨hj,hL,hT⟩;dsimp only at hj hL hT|-;have rE:=Rd.below h1 hT.below;have Gi:=hB.ao hT.below;have fJ:=Gi.at_ (i:=(f:Int)) ac ac;have jb:=fJ.1;have pB:=hL.1;have Es:=(hL.2 f nb).trans (Yq f j nb);refine aY O (aS rE O (auP (j:=2) rE (by exact aQ Value.pointer O) O O O O (aq O (aA Gi.top.2 O (bw Gi.top O ?_)))));refine aR O O (aq O ?_);refine b9 39 O (λh3=>?_) (λh3=>?_)
  ·have gp:j<(gl B f).length:=by omega
   refine ar O (aq O (ar O (aq O (ar O ?_))));refine aA (hT.iQ 0 O).2 O (ar O (rj (hT.iQ 0 O) O ac O O ?_));generalize AJ:gb L f=bb at*;rw[show bb=decide (bb=true) by cases bb<;>rfl];refine ay O (aK _ O (λh4=>?_) (λh4=>?_))
   ·have kD:=Es.1 h4;have vt:=akM.2.1 _ (gi_in gp);have eZ:=λx=>adp (n:=n) (R:=R) (B:=B) (f:=f) (x:=x) gp
    have yl:=hR.ao hT.below;obtain⟨d,hd⟩:∃d:Nat,gi (gl B f) j=d:=⟨(gi (gl B f) j).toNat,ac⟩;rw[hd]at vt eZ;have gI:=jH d ac;refine aC O (aS rE O (auP (j:=2) rE (by exact aQ Value.pointer O) O O O O (aq O (aA Gi.top.2 O (bw Gi.top O (aq O (aA fJ.2 O (bg fJ O ?_))))))));rw[hd];refine ay O (ec [xP (aH (A1) 1),xS (A) (N) (cA),xI ((d:Int)),xP (aH (A) ((d:Int)).toNat),xI (gi (R) ((d:Int))),xP (aH (A1) 1),xS (A) (N) (cA),xI ((f:Int)),xP (aH (A) ((f:Int)).toNat),xI (gi (R) ((f:Int))),xI ((gi (R) ((f:Int)))-((1:Int))),xB (decide ((gi (R) ((d:Int)))=((gi (R) ((f:Int)))-((1:Int)))))] O (eK O) ?_ ?_)
    ·exact⟨λ_ _ hb _ _=>aS (rE.below hb) O Az,λ_ _ hb _ _=>a6 (rE.below hb) O Az,Dr O,λ_ _ hb _ _=>aA (yl.ao hb).2 O Az,λ_ _ hb _ _=>bg (yl.ao hb) O Az,λ_ _ hb _ _=>aS (rE.below hb) O Az,λ_ _ hb _ _=>a6 (rE.below hb) O Az,Dr O,λ_ _ hb _ _=>aA (yl.ao hb).2 O Az,λ_ _ hb _ _=>bg (yl.ao hb) O Az,λ_ _ _ _ _=>cV O Az,Dr O,au⟩
    intro u w7 s9 _;have o4:=hT.ao s9;refine fG O (aK _ O (λh5=>?_) (λh5=>?_))
    ·refine aC O (aA (o4.iQ 0 O).2 O (pn 0 o4 O O O ac ?_));intro w8 o5;rw[gx]at o5;refine aq O (aJ O (aN O (tQ ?_)));refine⟨(j+1,L.set d true),by show(gl B f).length-(j+1)<(gl B f).length-j;omega,(auV O),by show j+1<=_;omega,hL.set ac λx hx=>?_,o5⟩;rw[eZ x];constructor
     ·rintro(h|h)
      ·exact .inl h
      exact .inr ac
     rintro(h|h)
     ·exact .inl h
     subst h;exact .inr ⟨kD,rfl,ac⟩
    refine aC O (aJ O (aN O (tQ ?_)));refine⟨(j+1,L),by show(gl B f).length-(j+1)<(gl B f).length-j;omega,(auV O),by show j+1<=_;omega,hL.congr λx hx=>?_,o4⟩;rw[eZ x];constructor
    ·rintro(h|h)
     ·exact h
     have h9:=h.2.1;have ik:=h.2.2;rw[h9]at ik;omega
    exact λh=>.inl h
   have kD:¬eF n R B f:=λh=>h4 (Es.2 h)
   refine ba O (bc (bY O (cV O (aN O (tQ ?_)))));exact⟨(f,L),by show f<f+1;omega,(auV O),by show f<=N;omega,hL.congr λx hx=>(GI f j x nb (.inl kD) hx).symm,hT⟩
  refine aB O (aB O (aB O (aB O (ay O ?_))));refine Cd.cX O (ba O (bc (bY O (cV O (aN O (tQ ?_))))));exact⟨(f,L),by show f<f+1;omega,(auV O),by show f<=N;omega,hL.congr λx hx=>(GI f j x nb (.inr ac) hx).symm,hT⟩
 obtain rfl:E'=0:=by omega
 refine ba O (bc (ew O ?_));refine dV O ?_;have h9:=ax.none.call hT;exact⟨A3,L,O,hL.congr λx hx=>(pJ x hx).symm,h9⟩
theorem aeF(G X:ag):cap (cap G++X)=cap (G++X):=by
 unfold cap
 by_cases h:G.length<=401
 ·rw[jw h]
 rw[zF (by rw[jG];omega),zF (by omega),List.take_take,Nat.min_self]
section
variable (n:Nat) (R:ah) (B:ag)
def mG(st:ah)(m:Nat):ah:=(b6 m).filter λe=>decide (gi R e=(st.length:Int)/\eF n R B e/\(st.length=0\/gi st ((st.length:Int)-1)∈gl B e))
def fN:Nat->ah->ag
 |0,st=>[st]
 |k+1,st=>(mG n R B st R.length).flatMap λe=>fN k (st++[e])
end
section
variable {n:Nat}{R:ah}{B:ag}
theorem aoi(st:ah)(m:Nat):mG n R B st (m+1)=if gi R m=(st.length:Int)/\eF n R B m/\(st.length=0\/gi st ((st.length:Int)-1)∈gl B m)then mG n R B st m++[(m:Int)]else mG n R B st m:=by
 have e9:b6 (m+1)=b6 m++[(m:Int)]:=by
  unfold b6;rw[lK,iE];rfl
 unfold mG;rw[e9,mN]
 by_cases c:gi R m=(st.length:Int)/\eF n R B m/\(st.length=0\/gi st ((st.length:Int)-1)∈gl B m)
 ·rw[aG c,zE (by simpa using c)];rfl
 rw[aD c,BP (by simpa using c)];simp
theorem UO:∀(k:Nat)(st:ah)(e:Int),0<st.length->gi st ((st.length:Int)-1)=e->(0<=e/\e<R.length)->gi R e=(st.length:Int)-1->st.length+k=n->fN n R B k st=(pw R B k e).map (st++ ·)
 |0,st,e,_,_,_,_,_=>by simp[fN,pw]
 |k+1,st,e,h0,hl,he,hr,hk=>by
  rw[fN,abS (n:=n) (by omega) (by omega),List.map_flatMap];have hn:mG n R B st R.length=(kU R B e).filter λf=>decide (eF n R B f):=by
   refine SA.eq (oO _ (uK _)) (oO _ (Ia _ _ _)) λy=>?_
   unfold mG;rw[fM,fM,tz,qf,k5,k5,hl];constructor
   ·rintro⟨h1,h2,h3,h4⟩;exact⟨⟨h1,ac,h4.resolve_left ac⟩,h3⟩
   ·rintro⟨⟨h1,h2,h4⟩,h3⟩;exact⟨h1,ac,h3,.inr h4⟩
  rw[hn];refine F2 λf hf=>?_
  have hf:=qf.1 (fM.1 hf).1;have hlen:(st++[f]).length=st.length+1:=by simp
  rw[UO k (st++[f]) f (by omega) (by
   rw[hlen,show((st.length+1:Nat):Int)-1=(st.length:Int) by omega,b7 (by omega)];simp) hf.1 (by rw[hlen];omega) (by omega),List.map_map]
  refine ki λy _=>?_
  show(st++[f])++y=st++(f::y);rw[ef];rfl
theorem agj(hn:1<=n):fN n R B n []=eH n R B:=by
 obtain⟨k,rfl⟩:∃k,n=k+1:=⟨n-1,ac⟩;rw[TY,fN];have hb:mG (k+1) R B [] R.length=(xZ R).filter λf=>decide (eF (k+1) R B f):=by
  refine SA.eq (oO _ (uK _)) (oO _ (oO _ (uK _))) λy=>?_
  unfold mG;rw[fM,fM,tz,B5,k5,k5];exact⟨λh=>⟨⟨h.1,h.2.1⟩,h.2.2.1⟩,λh=>⟨h.1.1,h.1.2,h.2,.inl O⟩⟩
 rw[hb];refine F2 λf hf=>?_
 have hf:=B5.1 (fM.1 hf).1;rw[List.nil_append,UO k [f] f (by simp) (by simp[gi]) hf.1 (by rw[hf.2];rfl) (by simp;omega)]
 rfl
end
theorem Ro{Q:jo}{e:Env}{w:aa}{F:List (Nat×ab)}(hM:Mt e F)(h:Q .normal (ext e F) w):Q .normal e w:=by rwa[yb hM]at h
theorem anV{w0 w:aa}{ks:List Ck}{t:ad}{A:ai}{n c:Nat}{xs:List Bool}(h:St w0 w ks)(hm:fB t A n c xs∈ks):ve w A n xs:=by
 obtain⟨i,hi,e⟩:=fS.1 hm;exact h.iQ i (by rw[fL hi,e])
theorem aap{α:Type}(s m:α)(X K:List α):(s::m::(X++K)).Perm (m::((X++[s])++K)):=by
 classical
 refine oe.2 λz=>?_
 simp only[ob,mM,sR];omega
theorem aoT{α:Type}(p s:α)(X K:List α):(p::s::(X++K)).Perm (X++(p::s::K)):=by
 classical
 refine oe.2 λz=>?_
 simp only[ob,mM];omega
theorem amI(w0:aa)(n:Nat)(AR AD:ai)(cR cD:Nat)(R:ah)(kg:List aE)(B:ag)(N:Nat)(hN:R.length=N)(hR:bu w0 AR N R)(hB:bH w0 AD N kg B)(hP:gN n R B)(Aa:ai)(La:List Bool)(JR:sS N La (λx=>eF n R B x)):
 ∀(k r:Nat)(st:ah)(As:ai)(cs:Nat)(cq:List Ck)(w:aa)(A:ai)(c:Nat)(rs:List aE)(F:ag),r+k=n->st.length=r->(∀x∈st,0<=x/\x<(N:Int))->fB 4 Aa N N La∈cq->rs.length=F.length->F.length<=401->
  St w0 w (av 2 As r cs st::(aV 27 2 A F.length c rs F++cq))->
  aF prog 142 [.agg #[aj n,.slice AR N cR,.slice AD N cD],.slice Aa N N,.slice As r cs,.slice A F.length c] w (λv w'=>∃A' c' rs',v=.slice A' (cap (F++fN n R B k st)).length c'/\rs'.length=(cap (F++fN n R B k st)).length/\St w0 w' (aV 27 2 A' (cap (F++fN n R B k st)).length c' rs' (cap (F++fN n R B k st))++cq)):=by
 have hn:=hP.n1;have ou:=hP.qm;have hle:=hP.len;have br:=λ(f:Nat)(h:f<R.length)=>hP.at_ (e:=(f:Int)) ac ac
 have bT:∀f:Nat,f<R.length->(gl B f).length<=500:=λf h=>by
  have:=tv (N:=R.length) (br f h).1.nodup λx hx=>by have:=((br f h).2.1 x hx).1;omega
  omega
 have jH:=λ(x:Nat)(h:x<R.length)=>hP.ri (e:=(x:Int)) ac ac
 rw[hN]at ou hle bT jH;have pB:=JR.1;intro k
 induction k with
 |zero=>
  intro r st As cs cq w A c rs F hk aw nm JI eM hF hS;refine bn func142 O ntmps142 O (bM O) (aY O (og hS O O ?_));intro A4 w1 ax;refine aq O (aR O O (ay O ?_));refine aK _ O (λh1=>?_) (λh1=>?_)
  ·have hc:cap (F++fN n R B 0 st)=F:=by
    have h9:cap F=F:=zP hF;rw[I6 (l:=F) _ (by rw[h9];omega),h9]
   refine dE O (dV O ?_);rw[hc];exact⟨A,c,rs,O,eM,ax.tail.tail⟩
  refine aC O (aR O O (aq O ?_));refine aS (ax.rd 0 O) O (fX (j:=0) (ax.rd 0 O) (by exact aQ Value.pointer O) O O O O (ay O (vY O ac ?_)));have hc:cap (F++fN n R B 0 st)=F++[st]:=zP (by rw[fN,cj];show F.length+1<=401;omega);have ax:=ax.tail;refine aC O (jW ax O O O ?_);intro A9 w2 az;refine iT 2 az O (az.dm 0 O) O O O ac ac O ?_;intro AZ cZ w3 aM;have aM:=aM.tail;refine bR O (dV O ?_);rw[hc];refine⟨AZ,cZ,rs++[⟨As,r,cs⟩],by rw[cj];rfl,by simp[eM],?_⟩;have aU:St w0 w3 (av 2 As r cs st::aX 27 AZ (F.length+1) cZ (rs++[⟨As,r,cs⟩])::(cC 2 rs F++cq)):=aM;have aU:=aU.perm (aap _ _ _ _);rw[<-Dp eM]at aU;rw[cj];exact aU
 |succ k ih=>
  intro r st As cs cq w A c rs F hk aw nm JI eM hF hS;refine bn func142 O ntmps142 O (bM O) (aY O (og hS O O ?_));intro A4 w1 ax;refine aq O (aR O O (ay O ?_));refine aK _ O (λh1=>?_) (λh1=>?_)
  ·have hc:cap (F++fN n R B (k+1) st)=F:=by
    have h9:cap F=F:=zP hF;rw[I6 (l:=F) _ (by rw[h9];omega),h9]
   refine dE O (dV O ?_);rw[hc];exact⟨A,c,rs,O,eM,ax.tail.tail⟩
  refine aC O (aR O O (aq O ?_));refine aS (ax.rd 0 O) O (fX (j:=0) (ax.rd 0 O) (by exact aQ Value.pointer O) O O O O (ay O (fq O ?_)));have ax:St w0 w1 (bS A4 n AR N cR AD N cD::av 2 As r cs st::(aV 27 2 A F.length c rs F++cq)):=ax;have az:=ax.perm (aoT _ _ _ _);have OA:cap (F++(mG n R B st 0).flatMap λe=>fN n R B k (st++[e]))=F:=by
   show cap (F++[])=F;rw[dQ,zP hF]
  clear ax hS;refine cM O ?_;refine Cd.loop (α:=Nat×ai×Nat×List aE) (λz=>[(1,.slice Aa N N),(2,.slice As r cs),(3,.slice z.2.1 (cap (F++(mG n R B st z.1).flatMap λe=>fN n R B k (st++[e]))).length z.2.2.1),(4,.pointer A4),(9,aj r),(10,aj (z.1:Int))])
   (λz w'=>z.1<=N/\z.2.2.2.length=(cap (F++(mG n R B st z.1).flatMap λe=>fN n R B k (st++[e]))).length/\St w0 w' (aV 27 2 z.2.1 (cap (F++(mG n R B st z.1).flatMap λe=>fN n R B k (st++[e]))).length z.2.2.1 z.2.2.2 (cap (F++(mG n R B st z.1).flatMap λe=>fN n R B k (st++[e])))++(bS A4 n AR N cR AD N cD::av 2 As r cs st::cq))) (λz=>N-z.1) (0,A,c,rs) ⟨rfl,rfl,aQ (λm:ag=>Value.slice A m.length c) OA.symm,rfl,rfl,rfl,au⟩ ⟨bl _,by show rs.length=_;rw[OA];exact eM,by show St w0 w1 (aV _ _ A (cap _).length c rs (cap _)++_);rw[OA];exact az⟩ ?_
  clear az eM;rintro⟨q,A,c,rs⟩ e w2 ⟨hq,eM,hS⟩;dsimp only at hq eM hS|-;have eZ:=aoi (n:=n) (R:=R) (B:=B) st q;have b8:=M7 (F++(mG n R B st q).flatMap λe=>fN n R B k (st++[e]));have sb:=aeF (F++(mG n R B st q).flatMap λe=>fN n R B k (st++[e]));generalize hG:(F++(mG n R B st q).flatMap λe=>fN n R B k (st++[e]))=G at*;have gH:∀{w':aa}{A:ai}{c:Nat}{rs:List aE}{F:ag},St w0 w' (aV 27 2 A F.length c rs F++(bS A4 n AR N cR AD N cD::av 2 As r cs st::cq))->Rd w' A4 3 (λq=>[Value.int .i64 (n:Int),.slice AR N cR,.slice AD N cD].getD q undef):=λh=>(h.sub (fj _ _)).rd 0 O
  have lS:∀{w':aa}{A:ai}{c:Nat}{rs:List aE}{F:ag},St w0 w' (aV 27 2 A F.length c rs F++(bS A4 n AR N cR AD N cD::av 2 As r cs st::cq))->bu w' As r st:=λh=>(h.sub (fj _ _)).bF 1 O
  have Eh:∀{w':aa}{A:ai}{c:Nat}{rs:List aE}{F:ag},St w0 w' (aV 27 2 A F.length c rs F++(bS A4 n AR N cR AD N cD::av 2 As r cs st::cq))->ve w' Aa N La:=λh=>anV h (List.mem_append_right _ (fE _ (fE _ JI)))
  have tV:=gH hS;refine aY O (aS tV O (auP (j:=1) tV (by exact aQ Value.pointer O) O O O O ?_));refine aR O O (ay O ?_);refine aK _ O (λh3=>?_) (λh3=>?_)
  ·have XY:q<N:=by omega
   have nK:=hS.dq hR;have iz:=hS.bU hB;have rL:=lS hS;have D3:=Eh hS;have yr:=JR.2 q XY;have hriq:=jH q XY;have hrlq:=bT q ac;have Yh:=iz.at_ (i:=(q:Int)) ac ac;have jb:=Yh.1;have qL:¬(gi R q=(st.length:Int)/\eF n R B q/\(st.length=0\/gi st ((st.length:Int)-1)∈gl B q))->F++((mG n R B st (q+1)).flatMap λe=>fN n R B k (st++[e]))=G:=λh=>by
    rw[eZ,aD h];exact hG
   have GD:¬gi R q=(r:Int)\/(gi R q=(r:Int)/\gb La q=false)\/(gi R q=(r:Int)/\gb La q=true/\(r:Int)=0)\/(gi R q=(r:Int)/\gb La q=true/\¬(r:Int)=0):=by
    by_cases a:gi R q=(r:Int)
    ·cases gb La q
     ·exact .inr (.inl ⟨a,O⟩)
     ·by_cases b:(r:Int)=0
      ·exact .inr (.inr (.inl ⟨a,O,b⟩))
      ·exact .inr (.inr (.inr ⟨a,O,b⟩))
    ·exact .inl a
   rcases GD with a1|⟨a1,a2⟩|⟨a1,a2,a3⟩|⟨a1,a2,a3⟩
   ·--dup 4
    have jJ:=qL (λh=>a1 (by rw[h.1,aw]));refine cM O (ec [xP (aH (A4) 1),xS (AR) (N) (cR),xI ((q:Int)),xP (aH (AR) ((q:Int)).toNat),xI (gi (R) ((q:Int))),xI ((r:Int)),xB (decide ((gi (R) ((q:Int)))=((r:Int)))),xB (false),xU,xU,xU,xU,xB (false),xB (false),xU,xU,xU,xU,xU,xU,xU,xU,xU,xU,xU,xU,xU,xU,xU,xB (false)] O (eK O) ?_ ?_)
    ·exact⟨λ_ _ hb _ _=>aS (tV.below hb) O Az,λ_ _ hb _ _=>a6 (tV.below hb) O Az,Dr O,λ_ _ hb _ _=>aA (nK.ao hb).2 O Az,λ_ _ hb _ _=>bg (nK.ao hb) O Az,Dr O,Dr O,λ_ _ _ _ _=>Dk O (by exact aQ Value.bool (db a1)),Dr O,Dr O,Dr O,Dr O,Dr O,λ_ _ _ _ _=>Dk O (by exact aQ Value.bool (O)),Dr O,Dr O,Dr O,Dr O,Dr O,Dr O,Dr O,Dr O,Dr O,Dr O,Dr O,Dr O,Dr O,Dr O,Dr O,Dr O,au⟩
    intro u w3 ji _;refine fG O (Cd.cX O ?_);refine aC O (aJ O (aN O (tQ ?_)));exact⟨(q+1,A,c,rs),by show N-(q+1)<N-q;omega,⟨O,O,aQ (λm:ag=>Value.slice A (cap m).length c) jJ.symm,O,O,O,au⟩,by show q+1<=N;omega,by show rs.length=(cap _).length;rw[jJ];exact eM,by show St w0 w3 (aV _ _ A (cap _).length c rs (cap _)++_);rw[jJ];exact hS.ao ji⟩
   ·have jJ:=qL (λh=>by have:=yr.2 h.2.1;rw[a2]at this;cases this);refine cM O (ec [xP (aH (A4) 1),xS (AR) (N) (cR),xI ((q:Int)),xP (aH (AR) ((q:Int)).toNat),xI (gi (R) ((q:Int))),xI ((r:Int)),xB (decide ((gi (R) ((q:Int)))=((r:Int)))),xB (true),xS (Aa) (N) (N),xI ((q:Int)),xP (aH (Aa) ((q:Int)).toNat),xB (gb (La) ((q:Int))),xB (gb (La) ((q:Int))),xB (false),xU,xU,xU,xU,xU,xU,xU,xU,xU,xU,xU,xU,xU,xU,xU,xB (false)] O (eK O) ?_ ?_)
    ·exact⟨λ_ _ hb _ _=>aS (tV.below hb) O Az,λ_ _ hb _ _=>a6 (tV.below hb) O Az,Dr O,λ_ _ hb _ _=>aA (nK.ao hb).2 O Az,λ_ _ hb _ _=>bg (nK.ao hb) O Az,Dr O,Dr O,λ_ _ _ _ _=>Dk O (by exact aQ Value.bool (dB a1)),Dr O,Dr O,λ_ _ hb _ _=>ar O (aA (D3.ao hb).2 O Az),λ_ _ hb _ _=>ar O (rj (D3.ao hb) O ac O O Az),Dr O,λ_ _ _ _ _=>Dk O (by exact aQ Value.bool (a2)),Dr O,Dr O,Dr O,Dr O,Dr O,Dr O,Dr O,Dr O,Dr O,Dr O,Dr O,Dr O,Dr O,Dr O,Dr O,Dr O,au⟩
    intro u w3 ji _;refine fG O (Cd.cX O ?_);refine aC O (aJ O (aN O (tQ ?_)));exact⟨(q+1,A,c,rs),by show N-(q+1)<N-q;omega,⟨O,O,aQ (λm:ag=>Value.slice A (cap m).length c) jJ.symm,O,O,O,au⟩,by show q+1<=N;omega,by show rs.length=(cap _).length;rw[jJ];exact eM,by show St w0 w3 (aV _ _ A (cap _).length c rs (cap _)++_);rw[jJ];exact hS.ao ji⟩
   ·have kS:gi R q=(st.length:Int)/\eF n R B q/\(st.length=0\/gi st ((st.length:Int)-1)∈gl B q):=⟨ac,yr.1 a2,.inl ac⟩;refine cM O (ec [xP (aH (A4) 1),xS (AR) (N) (cR),xI ((q:Int)),xP (aH (AR) ((q:Int)).toNat),xI (gi (R) ((q:Int))),xI ((r:Int)),xB (decide ((gi (R) ((q:Int)))=((r:Int)))),xB (true),xS (Aa) (N) (N),xI ((q:Int)),xP (aH (Aa) ((q:Int)).toNat),xB (gb (La) ((q:Int))),xB (gb (La) ((q:Int))),xB (true),xI ((r:Int)),xB (decide (((r:Int))=((0:Int)))),xB (true),xU,xU,xU,xU,xU,xU,xU,xU,xU,xU,xU,xB (true),xB (true)] O (eK O) ?_ ?_)
    ·exact⟨λ_ _ hb _ _=>aS (tV.below hb) O Az,λ_ _ hb _ _=>a6 (tV.below hb) O Az,Dr O,λ_ _ hb _ _=>aA (nK.ao hb).2 O Az,λ_ _ hb _ _=>bg (nK.ao hb) O Az,Dr O,Dr O,λ_ _ _ _ _=>Dk O (by exact aQ Value.bool (dB a1)),Dr O,Dr O,λ_ _ hb _ _=>ar O (aA (D3.ao hb).2 O Az),λ_ _ hb _ _=>ar O (rj (D3.ao hb) O ac O O Az),Dr O,λ_ _ _ _ _=>Dk O (by exact aQ Value.bool (a2)),Dr O,Dr O,λ_ _ _ _ _=>Dk O (by exact aQ Value.bool (dB a3)),Dr O,Dr O,Dr O,Dr O,Dr O,Dr O,Dr O,Dr O,Dr O,Dr O,Dr O,Dr O,Dr O,au⟩
    intro u w3 ji _;have hS:=hS.ao ji;refine fG O (Cd.iw O ?_);have G5:=eZ;rw[aG kS]at G5;have Cu:F++((mG n R B st (q+1)).flatMap λe=>fN n R B k (st++[e]))=G++fN n R B k (st++[(q:Int)]):=by
     rw[G5,List.flatMap_append,<-ef,hG];simp
    have Ph:=sb (fN n R B k (st++[(q:Int)]));have Ql:∀x∈st++[(q:Int)],0<=x/\x<(N:Int):=λx hx=>by
     rcases dF.1 hx with h|h
     ·exact nm x h
     ·obtain rfl:=eX.1 h;omega
    generalize hH:cap G=H at*;refine iu [6,8] [.ex (.agg #[aj n,.slice AR N cR,.slice AD N cD]),yS (Aa) (N) (N),yS (As) (r) (cs),.pr (λv w'=>∃A9 c9,v=.slice A9 r c9/\St w0 w' (av 2 A9 r c9 st::(aV 27 2 A H.length c rs H++(bS A4 n AR N cR AD N cD::av 2 As r cs st::cq)))),yI ((q:Int)),.pr (λv w'=>∃A9,v=.slice A9 1 1/\bu w' A9 1 [(q:Int)]),.pr (λv w'=>∃AZ cZ,v=.slice AZ (r+1) cZ/\St w0 w' (av 2 AZ (r+1) cZ (st++[(q:Int)])::(aV 27 2 A H.length c rs H++(bS A4 n AR N cR AD N cD::av 2 As r cs st::cq)))),yS (A) (H.length) (c),.pr (λv w'=>∃A' c' rs',v=.slice A' (cap (G++fN n R B k (st++[(q:Int)]))).length c'/\rs'.length=(cap (G++fN n R B k (st++[(q:Int)]))).length/\St w0 w' (aV 27 2 A' (cap (G++fN n R B k (st++[(q:Int)]))).length c' rs' (cap (G++fN n R B k (st++[(q:Int)])))++(bS A4 n AR N cR AD N cD::av 2 As r cs st::cq))),.pr (λv w'=>∃A' c' rs',v=.slice A' (cap (G++fN n R B k (st++[(q:Int)]))).length c'/\rs'.length=(cap (G++fN n R B k (st++[(q:Int)]))).length/\St w0 w' (aV 27 2 A' (cap (G++fN n R B k (st++[(q:Int)]))).length c' rs' (cap (G++fN n R B k (st++[(q:Int)])))++(bS A4 n AR N cR AD N cD::av 2 As r cs st::cq)))] (ly (ly (ly (bV.2 ⟨Ye.bW (λv w w' h hb=>by obtain⟨A9,c9,hv,hT⟩:=h;exact⟨A9,c9,hv,hT.ao hb⟩),(ly (bV.2 ⟨Ye.bW (λv w w' h hb=>by obtain⟨A9,hv,hT⟩:=h;exact⟨A9,hv,hT.ao hb⟩),(bV.2 ⟨Ye.bW (λv w w' h hb=>by obtain⟨AZ,cZ,hv,hT⟩:=h;exact⟨AZ,cZ,hv,hT.ao hb⟩),(ly (bV.2 ⟨Ye.bW (λv w w' h hb=>by obtain⟨A',c',rs',hv,dw,hT⟩:=h;exact⟨A',c',rs',hv,dw,hT.ao hb⟩),(bV.2 ⟨Ye.bW (λv w w' h hb=>by obtain⟨A',c',rs',hv,dw,hT⟩:=h;exact⟨A',c',rs',hv,dw,hT.ao hb⟩),(λ_ h=>by cases h)⟩)⟩))⟩)⟩))⟩)))) ?_ ?_
    ·refine⟨?_,bP O,bP O,?_,bP O,?_,?_,?_,?_,?_,au⟩
     ·intro e1 w1 cc eL cI dC hp aW hq;show ak _ _ _ _ _ _ _;have hX:Rd w1 A4 3 (λq=>[Value.int .i64 (n:Int),.slice AR N cR,.slice AD N cD].getD q undef):=by { have cI:=lz cI (b:=1) an;rcases(show cc=0\/cc=1 by omega)with h|h; { exact Rd.below (gH hS) (dC h) }; { subst h;obtain⟨AZ,cZ,_,hT⟩:=hq 6 _ _ an an an rfl rfl an;exact gH hT.tail } }
      refine cG 2 hX O O O (ak.n (fp O ap))
     ·refine cP λe1 w1 hb hp aW hq=>?_
      refine aI (ER As r cs st _ (lS (hS.ao hb)) ac) O ?_;rintro _ w9 ⟨A9,c9,rfl,kr⟩;exact ak.n (eD.dn O kr.below ⟨A9,c9,O,(hS.ao hb).call kr⟩)
     ·intro e1 w1 cc eL cI dC hp aW hq;show ak _ _ _ _ _ _ _;exact eh (St.refl _) O O O λA9 w9 kr=>ak.n (eD.dn O kr.below ⟨A9,O,kr.bF 0 O⟩)
     ·refine iF λe1 w1 hb hp aW hq=>?_
      obtain⟨A8,c8,Oj,hT⟩:=(hp 3 _ _ an rfl rfl an);obtain⟨A9,Ol,fg⟩:=(hp 5 _ _ an rfl rfl an);refine eQ 0 hT O fg (by exact Oj) (by exact Ol) O ?_;intro AZ cZ wZ hZ;exact ak.n (dS.dn O ⟨AZ,cZ,O,hZ⟩)
     ·intro e1 w1 cc eL cI dC hp aW hq;show ak _ _ _ _ _ _ _;refine mm O (by exact aW 9 _ O an) O (ak.n (fp O ap))
     ·refine kB 1 λe1 w1 hp aW hq=>?_
      have cg:=hp 6 _ _ an O O an;obtain⟨AZ,cZ,Om,hT⟩:=(hp 6 _ _ an rfl rfl an);refine auM (ih (r+1) (st++[(q:Int)]) AZ cZ (bS A4 n AR N cR AD N cD::av 2 As r cs st::cq) _ A c rs H ac (by rw[cj,aw];rfl) Ql (fE _ (fE _ JI)) eM ac hT) O (by exact aQ (λv=>[Value.agg #[aj n,.slice AR N cR,.slice AD N cD],.slice Aa N N,v,.slice A H.length c]) Om) O ?_;rintro _ w9 ⟨A',c',rs',rfl,dw,o3⟩;rw[Ph]at dw o3|-;exact ak.n (dS.dn O ⟨A',c',rs',O,dw,o3⟩)
     ·refine dP 2 λe1 w1 hp aW hq=>?_
      have cg:=hp 8 _ _ an O O an;obtain⟨A',c',rs',On,dw,hT⟩:=(hp 8 _ _ an rfl rfl an);refine mm O (by exact On) O (ak.n ?_);exact eD.dn O (Below.refl _ _) ⟨A',c',rs',O,dw,hT⟩
    intro u4 w4 _ Qq _ _;obtain⟨A',c',rs',Hs,dw,hT⟩:=Qq 9 _ rfl an;rw[<-Cu]at Hs dw hT;refine Ro (F:=[(1,.slice Aa N N),(2,.slice As r cs),(3,.slice A' (cap (F++((mG n R B st (q+1)).flatMap λe=>fN n R B k (st++[e])))).length c'),(4,.pointer A4),(9,aj r),(10,aj q)]) ⟨O,O,Hs,O,O,O,au⟩ (gq O (aJ O (aN O (tQ ?_))));exact⟨(q+1,A',c',rs'),by show N-(q+1)<N-q;omega,(auV O),by show q+1<=N;omega,dw,hT⟩
   ·refine cM O ?_;refine ec [xP (aH (A4) 1),xS (AR) (N) (cR),xI ((q:Int)),xP (aH (AR) ((q:Int)).toNat),xI (gi (R) ((q:Int))),xI ((r:Int)),xB (decide ((gi (R) ((q:Int)))=((r:Int)))),xB (true),xS (Aa) (N) (N),xI ((q:Int)),xP (aH (Aa) ((q:Int)).toNat),xB (gb (La) ((q:Int))),xB (gb (La) ((q:Int))),xB (true),xI ((r:Int)),xB (decide (((r:Int))=((0:Int)))),xB (false),xP (aH (A4) 2),xS (AD) (N) (cD),xI ((q:Int)),xP (aH (AD) ((q:Int)).toNat),xS ((rg (kg) ((q:Int))).a) ((rg (kg) ((q:Int))).n) ((rg (kg) ((q:Int))).c),xS (As) (r) (cs),xI ((r:Int)),xI (((r:Int))-((1:Int))),xP (aH (As) (((r:Int))-((1:Int))).toNat),xI (gi (st) (((r:Int))-((1:Int)))),xB (decide (gi st ((r:Int)-1)∈gl B q)),xB (decide (gi st ((r:Int)-1)∈gl B q)),xB (decide (gi st ((r:Int)-1)∈gl B q))] O (eK O) ?_ ?_
    ·refine⟨λ_ _ hb _ _=>aS (tV.below hb) O Az,λ_ _ hb _ _=>a6 (tV.below hb) O Az,Dr O,λ_ _ hb _ _=>aA (nK.ao hb).2 O Az,λ_ _ hb _ _=>bg (nK.ao hb) O Az,Dr O,Dr O,λ_ _ _ _ _=>Dk O (by exact aQ Value.bool (dB a1)),Dr O,Dr O,λ_ _ hb _ _=>ar O (aA (D3.ao hb).2 O Az),λ_ _ hb _ _=>ar O (rj (D3.ao hb) O ac O O Az),Dr O,λ_ _ _ _ _=>Dk O (by exact aQ Value.bool (a2)),Dr O,Dr O,λ_ _ _ _ _=>Dk O (by exact aQ Value.bool (db a3)),λ_ _ hb _ _=>ar O (aS (tV.below hb) O Az),λ_ _ hb _ _=>ar O (a6 (tV.below hb) O Az),Dr O,λ_ _ hb _ _=>ar O (aA (iz.top.ao hb).2 O Az),λ_ _ hb _ _=>ar O (bw (iz.top.ao hb) O Az),Dr O,Dr O,λ_ _ _ _ _=>ar O (cV O Az),λ_ _ hb _ _=>ar O (aA (rL.ao hb).2 O Az),λ_ _ hb _ _=>ar O (bg (rL.ao hb) O Az),?_,Dr O,Dr O,au⟩
     ·intro e1 w1 hb hp aW;refine ar O (aI (uy _ _ _ _ _ _ (Yh.ao hb) ac) O ?_);rintro _ w2 ⟨rfl,aw⟩;subst aw;refine ak.n (d0 ap)
    intro u w3 ji _;have hS:=hS.ao ji;refine fG O (aK _ O (λh5=>?_) (λh5=>?_))
    ·have kS:gi R q=(st.length:Int)/\eF n R B q/\(st.length=0\/gi st ((st.length:Int)-1)∈gl B q):=⟨ac,yr.1 a2,.inr (by rw[aw];exact h5)⟩;have G5:=eZ;rw[aG kS]at G5;have Cu:F++((mG n R B st (q+1)).flatMap λe=>fN n R B k (st++[e]))=G++fN n R B k (st++[(q:Int)]):=by
      rw[G5,List.flatMap_append,<-ef,hG];simp
     have Ph:=sb (fN n R B k (st++[(q:Int)]));have Ql:∀x∈st++[(q:Int)],0<=x/\x<(N:Int):=λx hx=>by
      rcases dF.1 hx with h|h
      ·exact nm x h
      ·obtain rfl:=eX.1 h;omega
     generalize hH:cap G=H at*;refine iu [6,8] [.ex (.agg #[aj n,.slice AR N cR,.slice AD N cD]),yS (Aa) (N) (N),yS (As) (r) (cs),.pr (λv w'=>∃A9 c9,v=.slice A9 r c9/\St w0 w' (av 2 A9 r c9 st::(aV 27 2 A H.length c rs H++(bS A4 n AR N cR AD N cD::av 2 As r cs st::cq)))),yI ((q:Int)),.pr (λv w'=>∃A9,v=.slice A9 1 1/\bu w' A9 1 [(q:Int)]),.pr (λv w'=>∃AZ cZ,v=.slice AZ (r+1) cZ/\St w0 w' (av 2 AZ (r+1) cZ (st++[(q:Int)])::(aV 27 2 A H.length c rs H++(bS A4 n AR N cR AD N cD::av 2 As r cs st::cq)))),yS (A) (H.length) (c),.pr (λv w'=>∃A' c' rs',v=.slice A' (cap (G++fN n R B k (st++[(q:Int)]))).length c'/\rs'.length=(cap (G++fN n R B k (st++[(q:Int)]))).length/\St w0 w' (aV 27 2 A' (cap (G++fN n R B k (st++[(q:Int)]))).length c' rs' (cap (G++fN n R B k (st++[(q:Int)])))++(bS A4 n AR N cR AD N cD::av 2 As r cs st::cq))),.pr (λv w'=>∃A' c' rs',v=.slice A' (cap (G++fN n R B k (st++[(q:Int)]))).length c'/\rs'.length=(cap (G++fN n R B k (st++[(q:Int)]))).length/\St w0 w' (aV 27 2 A' (cap (G++fN n R B k (st++[(q:Int)]))).length c' rs' (cap (G++fN n R B k (st++[(q:Int)])))++(bS A4 n AR N cR AD N cD::av 2 As r cs st::cq)))] (ly (ly (ly (bV.2 ⟨Ye.bW (λv w w' h hb=>by obtain⟨A9,c9,hv,hT⟩:=h;exact⟨A9,c9,hv,hT.ao hb⟩),(ly (bV.2 ⟨Ye.bW (λv w w' h hb=>by obtain⟨A9,hv,hT⟩:=h;exact⟨A9,hv,hT.ao hb⟩),(bV.2 ⟨Ye.bW (λv w w' h hb=>by obtain⟨AZ,cZ,hv,hT⟩:=h;exact⟨AZ,cZ,hv,hT.ao hb⟩),(ly (bV.2 ⟨Ye.bW (λv w w' h hb=>by obtain⟨A',c',rs',hv,dw,hT⟩:=h;exact⟨A',c',rs',hv,dw,hT.ao hb⟩),(bV.2 ⟨Ye.bW (λv w w' h hb=>by obtain⟨A',c',rs',hv,dw,hT⟩:=h;exact⟨A',c',rs',hv,dw,hT.ao hb⟩),(λ_ h=>by cases h)⟩)⟩))⟩)⟩))⟩)))) ?_ ?_
     ·refine⟨?_,bP O,bP O,?_,bP O,?_,?_,?_,?_,?_,au⟩
      ·intro e1 w1 cc eL cI dC hp aW hq;show ak _ _ _ _ _ _ _;have hX:Rd w1 A4 3 (λq=>[Value.int .i64 (n:Int),.slice AR N cR,.slice AD N cD].getD q undef):=by { have cI:=lz cI (b:=1) an;rcases(show cc=0\/cc=1 by omega)with h|h; { exact Rd.below (gH hS) (dC h) }; { subst h;obtain⟨AZ,cZ,_,hT⟩:=hq 6 _ _ an an an rfl rfl an;exact gH hT.tail } }
       refine cG 2 hX O O O (ak.n (fp O ap))
      ·refine cP λe1 w1 hb hp aW hq=>?_
       refine aI (ER As r cs st _ (lS (hS.ao hb)) ac) O ?_;rintro _ w9 ⟨A9,c9,rfl,kr⟩;exact ak.n (eD.dn O kr.below ⟨A9,c9,O,(hS.ao hb).call kr⟩)
      ·intro e1 w1 cc eL cI dC hp aW hq;show ak _ _ _ _ _ _ _;exact eh (St.refl _) O O O λA9 w9 kr=>ak.n (eD.dn O kr.below ⟨A9,O,kr.bF 0 O⟩)
      ·refine iF λe1 w1 hb hp aW hq=>?_
       obtain⟨A8,c8,Oj,hT⟩:=(hp 3 _ _ an rfl rfl an);obtain⟨A9,Ol,fg⟩:=(hp 5 _ _ an rfl rfl an);refine eQ 0 hT O fg (by exact Oj) (by exact Ol) O ?_;intro AZ cZ wZ hZ;exact ak.n (dS.dn O ⟨AZ,cZ,O,hZ⟩)
      ·intro e1 w1 cc eL cI dC hp aW hq;show ak _ _ _ _ _ _ _;refine mm O (by exact aW 9 _ O an) O (ak.n (fp O ap))
      ·refine kB 1 λe1 w1 hp aW hq=>?_
       have cg:=hp 6 _ _ an O O an;obtain⟨AZ,cZ,Om,hT⟩:=(hp 6 _ _ an rfl rfl an);refine auM (ih (r+1) (st++[(q:Int)]) AZ cZ (bS A4 n AR N cR AD N cD::av 2 As r cs st::cq) _ A c rs H ac (by rw[cj,aw];rfl) Ql (fE _ (fE _ JI)) eM ac hT) O (by exact aQ (λv=>[Value.agg #[aj n,.slice AR N cR,.slice AD N cD],.slice Aa N N,v,.slice A H.length c]) Om) O ?_;rintro _ w9 ⟨A',c',rs',rfl,dw,o3⟩;rw[Ph]at dw o3|-;exact ak.n (dS.dn O ⟨A',c',rs',O,dw,o3⟩)
      ·refine dP 2 λe1 w1 hp aW hq=>?_
       have cg:=hp 8 _ _ an O O an;obtain⟨A',c',rs',On,dw,hT⟩:=(hp 8 _ _ an rfl rfl an);refine mm O (by exact On) O (ak.n ?_);exact eD.dn O (Below.refl _ _) ⟨A',c',rs',O,dw,hT⟩
     intro u4 w4 _ Qq _ _;obtain⟨A',c',rs',Hs,dw,hT⟩:=Qq 9 _ rfl an;rw[<-Cu]at Hs dw hT;refine Ro (F:=[(1,.slice Aa N N),(2,.slice As r cs),(3,.slice A' (cap (F++((mG n R B st (q+1)).flatMap λe=>fN n R B k (st++[e])))).length c'),(4,.pointer A4),(9,aj r),(10,aj q)]) ⟨O,O,Hs,O,O,O,au⟩ (gq O (aJ O (aN O (tQ ?_))));exact⟨(q+1,A',c',rs'),by show N-(q+1)<N-q;omega,(auV O),by show q+1<=N;omega,dw,hT⟩
    ·have jJ:=qL (λh=>by rcases h.2.2 with h6|h6; { omega }; { rw[aw]at h6;exact h5 h6 });refine aC O (aJ O (aN O (tQ ?_)));exact⟨(q+1,A,c,rs),by show N-(q+1)<N-q;omega,⟨O,O,aQ (λm:ag=>Value.slice A (cap m).length c) jJ.symm,O,O,O,au⟩,by show q+1<=N;omega,by show rs.length=(cap _).length;rw[jJ];exact eM,by show St w0 w3 (aV _ _ A (cap _).length c rs (cap _)++_);rw[jJ];exact hS⟩
  ·have KD:q=N:=by omega
   subst KD;have iY:F++fN n R B (k+1) st=G:=by rw[<-hG,fN,hN]
   refine ba O (bc (ew O ?_));refine dV O ?_;rw[iY];exact⟨A,c,rs,O,eM,hS.sub ((fD _).append (((fD cq).cons _).cons _))⟩
theorem St.merge{w0 w:aa}{ks ks':List Ck}(h:St w0 w ks)(h':St w0 w ks')(hk:∀k∈ks,eV k.vs=false)(fU:∀k∈ks',eV k.vs=false)(he:∀k∈ks,∀k'∈ks',k.e≠k'.e):St w0 w (ks++ks'):=by
 refine⟨h.below,λk hm=>?_,?_⟩
 ·rcases dF.1 hm with hm|hm
  ·exact h.own k hm
  exact h'.own k hm
 rw[List.filterMap_append,List.nodup_append];refine⟨h.apart,h'.apart,λa ha b hb=>?_⟩;rintro rfl;obtain⟨k,hm,Ew⟩:=List.mem_filterMap.1 ha;obtain⟨k',jS,vw⟩:=List.mem_filterMap.1 hb;have one:∀{q:Ck},DG w0.heap.size w q->q.iv=some a->∃cur,w.heap[a]?=some (.cells cur q.e (0,0)):=λ{q} ho hq=>by
  obtain⟨_,_,_,⟨h1,_⟩|⟨g,o,cur,h1,_,h2,_⟩⟩:=ho
  ·unfold Ck.iv at hq;rw[h1]at hq;cases hq
  unfold Ck.iv at hq;rw[h1]at hq;obtain rfl:g=a:=cn hq;exact⟨cur,h2⟩
 obtain⟨c1,e1⟩:=one ((h.own k hm).Sx (hk k hm)) Ew;obtain⟨c2,e2⟩:=one ((h'.own k' jS).Sx (fU k' jS)) vw;rw[e1]at e2;injection e2 with e2
 injection e2 with _ e2 _
 exact he k hm k' jS e2
end
section
variable{y l:ah}{j:Nat}
def lb(x:ah)(i:Nat):ah:=x.set i (-1)
theorem RM(x:ah)(i:Nat):(lb x i).length=x.length:=by simp[lb]
theorem E8{x:ah}{i k:Nat}(hk:k<x.length):gi (lb x i) k=if k=i then-1 else gi x k:=by
 rw[b7 (by rw[RM];exact hk),b7 hk];unfold lb;rw[List.getElem_set]
 by_cases e:i=k
 ·rw[aG e,aG e.symm]
 rw[aD e,aD (λh=>e h.symm)]
theorem aaZ{n:Nat}{x:ah}{i:Nat}(hx:x.length=n)(hy:y.length=n):lb x i=lb y i↔∀k:Nat,k<n->k≠i->gi x k=gi y k:=by
 constructor
 ·intro h k hk bN;have:=aQ (λl=>gi l k) h;simp only[E8 (x:=x) (i:=i) (show k<x.length by omega),E8 (x:=y) (i:=i) (show k<y.length by omega),aD bN]at this;exact this
 intro h;refine QS (n:=n) (by rw[RM,hx]) (by rw[RM,hy]) λk hk=>?_
 rw[E8 (by omega),E8 (by omega)]
 split
 ·rfl
 rename_i e;exact h k hk e
theorem ap2{n:Nat}{x:ah}{i:Nat}(hx:x.length=n)(hy:y.length=n)(hi:i<n)(h0:∀e∈y,0<=e)(h:lb x i=lb y j):i=j:=by
 have:=aQ (λl=>gi l i) h;simp only[E8 (x:=x) (i:=i) (show i<x.length by omega),E8 (x:=y) (i:=j) (show i<y.length by omega),aG]at this
 by_cases e:i=j
 ·exact e
 rw[aD e]at this;have h2:=h0 _ (gi_in (show i<y.length by omega));omega
theorem N0(M:List nz)(x l:ah)(u:aE×ah):jO (gh M x u) l=if x=l then u.2 else jO M l:=by
 unfold jO;rw[DY]
 split<;>rfl
theorem NZ{M:List nz}{x:ah}(h:(M.map (·.1)).Nodup):jO (km M x) l=if x=l then[]else jO M l:=by
 unfold jO;rw[Vr h]
 split<;>rfl
structure jv(n:Nat)(fl:ag)(D:Nat->Nat->Prop)(G:Nat->Prop)(b:Nat)(M:List nz):Prop where
 nd:(M.map (·.1)).Nodup
 el:∀l y,y∈jO M l->∃y' i:Nat,y=(y':Int)/\y'<fl.length/\i<n/\D y' i/\l=lb (gl fl y') i
 al:∀y i:Nat,y<fl.length->i<n->D y i->(y:Int)∈jO M (lb (gl fl y) i)\/G y
 len:∀l,(jO M l).length<=b
section
variable{b':Nat}
variable {n:Nat}{fl:ag}{D D':Nat->Nat->Prop}{G G':Nat->Prop}{b:Nat}{M:List nz}{c:ah}
def zh(n:Nat)(fl:ag)(c:ah)(f i:Nat)(y j:Nat):Prop:=kz n c (gl fl y)/\(y<f\/y=f/\j<i)
theorem jv.zero:jv n fl (zh n fl c 0 0) (λ_=>False) 0 []:=⟨by simp,λl y h=>by simp[jO,dh]at h,λy i _ _ h=>by have:=h.2;omega,λl=>by simp[jO,dh]⟩
theorem jv.congr(h:jv n fl D G b M)(hD:∀y i,y<fl.length->i<n->(D y i↔D' y i)):jv n fl D' G b M:=
 ⟨h.nd,λl y hy=>by obtain⟨y',i,h1,h2,h3,h4,h5⟩:=h.el l y hy;exact⟨y',i,h1,h2,h3,(hD y' i h2 h3).1 h4,h5⟩,λy i hy hi hd=>h.al y i hy hi ((hD y i hy hi).2 hd),h.len⟩
theorem jv.more(h:jv n fl D G b M)(hb:b<=b'):jv n fl D G b' M:=⟨h.nd,h.el,h.al,λl=>je (h.len l) hb⟩
theorem jv.skip{f:Nat}(h:jv n fl (zh n fl c f 0) G b M)(hf:¬kz n c (gl fl f)):jv n fl (zh n fl c (f+1) 0) G b M:=
 h.congr λy i _ _=>⟨λh=>⟨h.1,by have:=h.2;omega⟩,λh=>⟨h.1,by
  have h2:=h.2;have:y≠f:=λe=>hf (e▸h.1)
  omega⟩⟩
theorem jv.row{f:Nat}(h:jv n fl (zh n fl c f n) G b M):jv n fl (zh n fl c (f+1) 0) G b M:=
 h.congr λy i _ hi=>⟨λh=>⟨h.1,by have:=h.2;omega⟩,λh=>⟨h.1,by have:=h.2;omega⟩⟩
theorem jv.put{f i:Nat}(h:jv n fl (zh n fl c f i) G b M)(hf:f<fl.length)(hi:i<n)(hH:kz n c (gl fl f))(s:aE):
 jv n fl (zh n fl c f (i+1)) G (b+1) (gh M (lb (gl fl f) i) (s,jO M (lb (gl fl f) i)++[(f:Int)])):=by
 refine⟨Rv h.nd,λl y hy=>?_,λy j hy hj hd=>?_,λl=>?_⟩
 ·rw[N0]at hy
  split at hy
  ·rename_i e;rcases dF.1 hy with hy|hy
   ·obtain⟨y',j,h1,h2,h3,h4,h5⟩:=h.el _ y hy;exact⟨y',j,h1,h2,h3,⟨h4.1,by have:=h4.2;omega⟩,e.symm.trans h5⟩
   exact⟨f,i,eX.1 hy,hf,hi,⟨hH,.inr ⟨O,Nat.lt_succ_self _⟩⟩,e.symm⟩
  obtain⟨y',j,h1,h2,h3,h4,h5⟩:=h.el _ y hy;exact⟨y',j,h1,h2,h3,⟨h4.1,by have:=h4.2;omega⟩,h5⟩
 ·rw[N0]
  by_cases e:y=f/\j=i
  ·obtain⟨rfl,rfl⟩:=e;rw[aG rfl];exact .inl (List.mem_append_right _ (by simp))
  rcases h.al y j hy hj ⟨hd.1,by have:=hd.2;omega⟩with h1|h1
  ·left
   split
   ·rename_i e2;rw[e2];exact List.mem_append_left _ h1
   exact h1
  exact .inr h1
 rw[N0]
 split
 ·rename_i e;have:=h.len (lb (gl fl f) i);rw[cj];simp;omega
 have:=h.len l;omega
theorem jv.mono(h:jv n fl D G b M)(hG:∀y,y<fl.length->G y->G' y):jv n fl D G' b M:=
 ⟨h.nd,h.el,λy i hy hi hd=>(h.al y i hy hi hd).imp id (hG y hy),h.len⟩
theorem jv.del(h:jv n fl D G b M){x:ah}(hx:∀y:Nat,(y:Int)∈jO M x->G y):jv n fl D G b (km M x):=by
 refine⟨afz h.nd,λl y hy=>?_,λy i hy hi hd=>?_,λl=>?_⟩
 ·rw[NZ h.nd]at hy
  split at hy
  ·cases hy
  exact h.el l y hy
 ·rcases h.al y i hy hi hd with h1|h1
  ·rw[NZ h.nd]
   split
   ·rename_i e;rw[<-e]at h1;exact .inr (hx y h1)
   exact .inl h1
  exact .inr h1
 rw[NZ h.nd]
 split
 ·exact bl _
 exact h.len l
theorem jv.II(h:jv n fl (λy _=>kz n c (gl fl y)) G b M)(hl:∀x∈fl,x.length=n/\∀e∈x,0<=e){x i:Nat}(hx:x<fl.length)(hi:i<n)(hH:kz n c (gl fl x)){y:Int}(hy:y∈jO M (lb (gl fl x) i)):∃y':Nat,y=y'/\y'<fl.length/\zA n fl c x y':=by
 obtain⟨y',j,h1,h2,h3,h4,h5⟩:=h.el _ y hy;have hm:∀z:Nat,z<fl.length->gl fl z∈fl:=λz hz=>by rw[df hz];exact dt _
 have Ez:=hl _ (hm x hx);have PM:=hl _ (hm y' h2);have e:i=j:=ap2 Ez.1 PM.1 hi PM.2 h5;subst e;exact⟨y',h1,h2,hH,h4,i,hi,hx,h2,λk hk bN=>(aaZ Ez.1 PM.1).1 h5 k hk bN⟩
end
theorem aeV{n:Nat}{c x:ah}(hc:c.length=n):sX c x=c↔kz n c x:=by
 constructor
 ·intro h k hk bN;have:=aQ (λl=>gi l k) h;simp only[M9 (a:=c) (b:=x) (show k<c.length by omega)]at this
  by_cases e:gi c k=gi x k
  ·exact e
  rw[aD e]at this;exact absurd this.symm bN
 intro h;refine QS (n:=n) (by rw[DO,hc]) hc λk hk=>?_
 rw[M9 (by omega)]
 split
 ·rfl
 rename_i e;refine qi λh2=>e (h k hk λh3=>h2 h3.symm)
def iU(n:Nat)(fl:ag)(c:ah)(f:Nat):ah:=(b6 f).filter λy=>decide (kz n c (gl fl y))
theorem adf{n:Nat}{fl:ag}{c:ah}{f:Nat}:iU n fl c (f+1)=if kz n c (gl fl f)then iU n fl c f++[(f:Int)]else iU n fl c f:=by
 have:b6 (f+1)=b6 f++[(f:Int)]:=by
  unfold b6;rw[lK,iE];rfl
 unfold iU;rw[this,mN]
 by_cases c:kz n c (gl fl f)
 ·rw[aG c];simp[c]
 rw[aD c];simp[c]
theorem FO{n:Nat}{fl:ag}{c:ah}{f:Nat}{y:Int}:y∈iU n fl c f↔(0<=y/\y<f)/\kz n c (gl fl y):=by
 unfold iU;rw[fM,tz,k5]
def pv(N:Nat)(al:ah)(j:Nat):Nat:=if j<al.length then(gi al j).toNat else N
theorem lf.jump{N:Nat}{K:Nat->Nat->Prop}(hK:BW N K){L:ah}:∀(d f:Nat),lf N K f L->f+d<=N->(∀x,f<=x->x<f+d->¬K x x)->lf N K (f+d) L
 |0,f,h,_,_=>h
 |d+1,f,h,hn,hx=>by
  have h1:=h.skip hK ac (.inr (hx f (cJ _) ac));have:=lf.jump hK d (f+1) h1 ac λx h2 h3=>hx x ac ac
  rwa[show f+1+d=f+(d+1) by omega]at this
section
variable {n:Nat}{fl:ag}{c:ah}{L:ah}
theorem IJ(f:Nat):SA (iU n fl c f):=oO _ (uK _)
theorem TX{j:Nat}:pv fl.length (iU n fl c fl.length) j<=fl.length:=by
 unfold pv
 split
 ·rename_i h;have:=(FO.1 (gi_in h)).1;omega
 exact cJ _
theorem anl(h:lf fl.length (mP n fl c) 0 L):lf fl.length (mP n fl c) (pv fl.length (iU n fl c fl.length) 0) L:=by
 have hle:=TX (n:=n) (fl:=fl) (c:=c) (j:=0);have:=h.jump (mP.HT n fl c) (pv fl.length (iU n fl c fl.length) 0) 0 ac λx _ hx hk=>by
  have hm:(x:Int)∈iU n fl c fl.length:=FO.2 ⟨ac,hk.1⟩;obtain⟨p,hp,e⟩:=fS.1 hm;rw[<-b7 hp]at e;unfold pv at hx;rw[aG (by omega)]at hx
  by_cases e0:p=0
  ·subst e0;omega
  have:=(IJ (n:=n) (fl:=fl) (c:=c) fl.length).y6 (show 0<p by omega) hp;omega
 rwa[Nat.zero_add]at this
theorem anm{j:Nat}(hj:j<(iU n fl c fl.length).length){f:Nat}(hf:gi (iU n fl c fl.length) j=f)(h:lf fl.length (mP n fl c) (f+1) L):lf fl.length (mP n fl c) (pv fl.length (iU n fl c fl.length) (j+1)) L:=by
 have hle:=TX (n:=n) (fl:=fl) (c:=c) (j:=j+1);have nb:=(FO.1 (gi_in hj)).1;have pJ:f+1<=pv fl.length (iU n fl c fl.length) (j+1):=by
  unfold pv
  split
  ·rename_i h2;have:=(IJ (n:=n) (fl:=fl) (c:=c) fl.length).y6 (show j<j+1 by omega) h2;omega
  omega
 have:=h.jump (mP.HT n fl c) (pv fl.length (iU n fl c fl.length) (j+1)-(f+1)) (f+1) ac λx uv hx hk=>by
  have hm:(x:Int)∈iU n fl c fl.length:=FO.2 ⟨ac,hk.1⟩;obtain⟨p,hp,e⟩:=fS.1 hm;rw[<-b7 hp]at e;have XT:j<p:=by
   rcases Nat.lt_trichotomy j p with h2|h2|h2
   ·exact h2
   ·subst h2;omega
   have:=(IJ (n:=n) (fl:=fl) (c:=c) fl.length).y6 h2 hj;omega
  unfold pv at hx;rw[aG (by omega)]at hx
  by_cases e0:p=j+1
  ·subst e0;omega
  have:=(IJ (n:=n) (fl:=fl) (c:=c) fl.length).y6 (show j+1<p by omega) hp;omega
 rwa[show f+1+(pv fl.length (iU n fl c fl.length) (j+1)-(f+1))=pv fl.length (iU n fl c fl.length) (j+1) by omega]at this
end
end
section
open Go.RowKit
variable{Q:List Nat}{y:Nat}{xs R:ah}
theorem aaN(PB A:ai)(N c n:Nat)(rs:List aE)(fl:ag)(f i:Nat)(w:aa)(hT:lh w)(hb:Rd w PB 1 (λ_=>.slice A N c))(hM:bH w A N rs fl)(hf:f<N)(hN:N<=1000)(hl:(gl fl f).length=n)(hi:i<n)(hn:n<=100)(hr:∀x∈gl fl f,0<=x/\x<=1000000):
 aF prog 201 [aj f,aj i,.pointer PB] w (λv w'=>v=yZ (lb (gl fl f) i)/\St w w' []):=by
 have fk:=hM.len;have fJ:=hM.at_ (i:=(f:Int)) ac ac;have jb:=fJ.1;refine bn func201 O ntmps201 O (bM O) (aY O (auP (j:=0) hb (by exact aQ Value.pointer (iK _).symm) O O O O (aq O (aA hM.top.2 O (bw hM.top O (aI (DA _ _ _ _ _ fJ ac) O ?_))))));rintro _ w1 ⟨A6,c6,rfl,hS⟩;refine aq O (aA (hS.bF 0 O).2 O (ak.oL 0 hS O O O ac ?_));intro w2 az;have az:St w w2 [av 2 A6 (rg rs f).n c6 (lb (gl fl f) i)]:=az;refine aq O ?_;refine auM (xm A6 _ c6 (lb (gl fl f) i) _ (hT.ao az.below) (az.bF 0 O) (λx hx=>by
  rcases List.mem_or_eq_of_mem_set hx with h|h
  ·have:=hr x h;omega
  omega) ac) rfl rfl rfl ?_
 rintro _ w3 ⟨rfl,aw⟩;refine bR O (LF O ?_);exact⟨O,az.none.ao aw.below⟩
abbrev tx(PB A:ai)(N c:Nat)(fA:ai)(L:ah)(Aa:ai)(ca:Nat)(al:ah)(g:Nat)(M:List nz)(ks:List Ck):List Ck:=
 av 2 fA N N L::Bx 28 1 PB [.slice A N c]::av 2 Aa al.length ca al::fc 182 g (dZ yZ EU M)::(qd 2 M++ks)
def ky(Q:List Nat):ah:=Q.map λx:Nat=>(x:Int)
theorem YO{k:Nat}(h:k<Q.length):gi (ky Q) k=(Q.getD k 0:Nat):=by
 rw[b7 (by simp[ky,h])];simp[ky,b5,h]
theorem Vy{k:Nat}(h:k<Q.length):(Q++[y]).getD k 0=Q.getD k 0:=by
 rw[b5,jF h,<-b5]
theorem alG{k:Nat}(h:k<=Q.length):ky ((Q++[y]).drop k)=ky (Q.drop k)++[(y:Int)]:=by
 rw[List.drop_append_of_le_length h];simp[ky]
theorem F7{L:ah}{f:Nat}{z:Nat}(h:0<=gi L z):0<=gi (L.set y (f:Int)) z:=by
 simp only[gi,gx,b5,lI]at h|-
 split
 ·split
  ·simp
  exact Int.le_refl _
 exact h
theorem VC{L:ah}{f:Nat}(h:y<L.length):gi (L.set y (f:Int)) y=f:=by
 rw[b7 (by simpa using h)];simp
theorem aoI(A:ai)(N c:Nat)(rs:List aE)(fl:ag)(n:Nat)(A2:ai)(c2:Nat)(cm:ah)(w:aa)(hT:lh w)(hM:bH w A N rs fl)(hC:bu w A2 n cm)(hN:N<=401)(hn:n<=5)(hl:∀x∈fl,x.length=n/\∀e∈x,0<=e/\e<=1000000)(lZ:fl.Nodup):
 aF prog 185 [.slice A N c,.slice A2 n c2] w (λv w'=>∃A' L,v=.slice A' N N/\lf N (mP n fl cm) N L/\St w w' [av 2 A' N N L]):=by
 have fk:=hM.len;have b8:=hC.1;have ng:∀f:Nat,f<N->gl fl f∈fl:=λf hf=>by rw[df (by omega)];exact dt _
 have yx:∀x∈fl,x.length=n/\∀e∈x,0<=e:=λx hx=>⟨(hl x hx).1,λe he=>((hl x hx).2 e he).1⟩
 have oz:∀x∈fl,x.length=n:=λx hx=>(hl x hx).1
 refine bn func185 O ntmps185 O (bM O) (aY O ?_);refine ak.box (v:=.slice A N c) (St.refl w) O O (by show(1:Nat)<=maxLen;simp[maxLen]) ?_;intro PB w1 ax;have fh:Rd w1 PB 1 (λ_=>.slice A N c):=Rd.one (ax.rd 0 O);refine aq O (eh (i:=-1) ax O O O ?_);intro kK w2 az;have fh:Rd w2 PB 1 (λ_=>.slice A N c):=Rd.one (az.rd 1 O);refine auP (j:=0) fh (by exact aQ Value.pointer (iK _).symm) O O O O (aR O O (aI (FL kK 1 (-1) N _ (az.bF 0 O) ac) O ?_));rintro _ w3 ⟨fA,rfl,aw⟩;have aM:=az.call aw;clear aw;refine aq O (wc aM O ?_);intro g w4 aU;have fh:Rd w4 PB 1 (λ_=>.slice A N c):=Rd.one (aU.rd 3 O);refine aq O (Iz O O (aq O (auP (j:=0) fh (by exact aQ Value.pointer (iK _).symm) O O O O (aI (BH _ _ _ _) O ?_))));rintro _ w4 ⟨rfl,rfl⟩;have aO:St w w4 [av 2 none 0 0 [],fc 182 g [],av 2 fA N N (List.replicate N (-1)),av 2 kK 1 1 [-1],Bx 28 1 PB [.slice A N c]]:=aU.nil 2;have aO:St w w4 (tx PB A N c fA (List.replicate N (-1)) none 0 (iU n fl cm 0) g [] []):=by
  have h9:=aO.perm (show List.Perm _ (av 2 kK 1 1 [-1]::tx PB A N c fA (List.replicate N (-1)) none 0 (iU n fl cm 0) g [] [])from by
   classical
   refine oe.2 λz=>?_
   simp only[tx,qd,List.map_nil,ob,mM,sR,iU,b6,List.range_zero,List.filter_nil,List.length_nil];have:dZ yZ EU ([]:List nz)=[]:=O;rw[this];omega)
  exact h9.tail
 clear aU aM az ax fh;refine ay O (Cd.loop (α:=Nat×ai×Nat×List nz) (λz=>[(1,.slice A2 n c2),(2,.pointer PB),(5,.slice fA N N),(6,.map (some g)),(7,.func (.func 201) #[] #[.pointer PB]),(8,.slice z.2.1 (iU n fl cm z.1).length z.2.2.1),(26,aj N),(27,aj (z.1:Int))]) (λz w'=>z.1<=N/\jv n fl (zh n fl cm z.1 0) (λ_=>False) (5*z.1) z.2.2.2/\St w w' (tx PB A N c fA (List.replicate N (-1)) z.2.1 z.2.2.1 (iU n fl cm z.1) g z.2.2.2 [])) (λz=>N-z.1) (0,none,0,[]) (auV O) ⟨bl _,jv.zero,aO⟩ ?_);clear aO;rintro⟨f,Aa,ca,M⟩ e w5 ⟨hf,jB,hS⟩;dsimp only at hf jB hS|-;have eA:(iU n fl cm f).length<=500:=by
  refine je (lJ _ _) ?_;rw[b6,jd,od];omega
 refine bC O (aK _ O (λh1=>?_) (λh1=>?_))
 ·have nb:f<N:=by omega
  have fh:Rd w5 PB 1 (λ_=>.slice A N c):=Rd.one (hS.rd 1 O);have wG:=hS.bU hM;have fJ:=wG.at_ (i:=(f:Int)) ac ac;have jb:=fJ.1;have Xq:=hl _ (ng f nb);have XD:(rg rs f).n=n:=by omega
  have tc:=aeV (n:=n) (c:=cm) (x:=gl fl f) b8;have Ef:=adf (n:=n) (fl:=fl) (c:=cm) (f:=f);refine aC O (auP (j:=0) fh (by exact aQ Value.pointer (iK _).symm) O O O O (aq O (aA wG.top.2 O (bw wG.top O (aI (Ud A2 (rg rs f).a n c2 (rg rs f).n (rg rs f).c cm (gl fl f) _ (hS.dq hC) fJ XD.symm ac) O ?_)))));rintro _ w6 ⟨Ig,I0,rfl,aw⟩;have bk:=hS.ao aw.below;have VZ:=bk.dq hC;have VR:=aw.bF 0 O;clear aw hS fh wG fJ;refine aq O ?_;refine aI (Fx Ig _ I0 (sX cm (gl fl f)) A2 n c2 cm _ VR VZ (by rw[DO];omega)) O ?_;rintro _ w7 ⟨rfl,aw⟩;have bp:=bk.ao aw.below;clear aw bk VR VZ
  first|refine cO rfl rfl ?_|refine dv rfl rfl ?_
  refine ay O (aK _ O (λh2=>?_) (λh2=>?_))
  ·have fI:¬kz n cm (gl fl f):=λh=>h2 (tc.2 h)
   rw[aD fI]at Ef;refine aC O (aJ O (aN O (tQ ?_)));refine⟨(f+1,Aa,ca,M),by show N-(f+1)<N-f;omega,⟨O,O,O,O,O,?_,O,O,au⟩,by show f+1<=N;omega,(jB.skip fI).more (by show 5*f<=5*(f+1);omega),?_⟩
   ·show Value.slice _ _ _=_;rw[Ef]
   show St w w7 (tx _ _ _ _ _ _ _ _ (iU n fl cm (f+1)) _ _ _);rw[Ef];exact bp
  have kS:kz n cm (gl fl f):=tc.1 (kW.1 h2);rw[aG kS]at Ef;refine aC O (eh bp O O O ?_);intro A9 w8 bB;refine eQ 3 bB O (bB.bF 0 O) O O O ?_;intro AZ cZ w9 bj;have bj:St w w9 (tx PB A N c fA (List.replicate N (-1)) AZ cZ (iU n fl cm (f+1)) g M []):=by
   have h9:=bj.tail;rw[Ef];show St w w9 (_::_::av _ AZ ((iU n fl cm f++[(f:Int)]).length) cZ _::_);rw[cj];exact h9
  have ajz:(iU n fl cm f).length+1=(iU n fl cm (f+1)).length:=by rw[Ef,cj];rfl
  clear bB bp;refine aq O (aR O O (ay O ?_));refine Cd.loop (α:=Nat×List nz) (λz=>[(1,.slice A2 n c2),(2,.pointer PB),(5,.slice fA N N),(6,.map (some g)),(7,.func (.func 201) #[] #[.pointer PB]),(8,.slice AZ (iU n fl cm (f+1)).length cZ),(26,aj N),(27,aj f),(9,aj f),(44,aj n),(45,aj (z.1:Int))]) (λz w'=>z.1<=n/\jv n fl (zh n fl cm f z.1) (λ_=>False) (5*f+z.1) z.2/\St w w' (tx PB A N c fA (List.replicate N (-1)) AZ cZ (iU n fl cm (f+1)) g z.2 [])) (λz=>n-z.1) (0,M) ⟨O,O,O,O,O,aQ (λm=>Value.slice AZ m cZ) ajz,O,O,O,O,O,au⟩ ⟨bl _,jB,bj⟩ ?_;clear bj jB;rintro⟨i,M⟩ e dJ ⟨hi,jB,hS⟩;dsimp only at hi jB hS|-;refine bC O (aK _ O (λh3=>?_) (λh3=>?_))
  ·have cE:i<n:=by omega
   refine aC O (aI (aaN PB A N c n rs fl f i _ (hT.ao hS.below) (Rd.one (hS.rd 1 O)) (hS.bU hM) nb ac Xq.1 cE ac Xq.2) O ?_);rintro _ eO ⟨rfl,aw⟩;have hS:=hS.ao aw.below;have hlen:=jB.len (lb (gl fl f) i);have rJ:=jB.put ac cE kS;generalize uf:lb (gl fl f) i=kx at*;have qK:=(MH (pre:=[_,_,_,_]) (x:=kx) hS).1;clear aw;refine aq O ?_;refine ak.look (v:=.slice (jA M kx).a (jA M kx).n (jA M kx).c) EP (hS.oH 3 rfl) rfl rfl (by unfold jA;cases dh M kx<;>rfl) rfl ?_;refine aq O (eh hS O O O ?_);intro A9 gD dz;have dz:=St.abG (pre:=[_,_,_,_,_]) (x:=kx) dz;refine eQ 0 dz O (dz.bF 1 O) O O O λAY cY jm il=>tL O EP 5 (a:=kx) (u:=(⟨AY,(jA M kx).n+1,cY⟩,jO M kx++[(f:Int)])) il O O O O ?_;intro qZ lR;have ke:=(Tv (M:=M) (x:=kx) (u:=(⟨AY,(jA M kx).n+1,cY⟩,jO M kx++[(f:Int)])) (pre:=[_,_,_,_,_]) lR).tail;refine aq O (aJ O (aN O (tQ ?_)));exact⟨(i+1,gh M kx (⟨AY,(jA M kx).n+1,cY⟩,jO M kx++[(f:Int)])),by show n-(i+1)<n-i;omega,(auV O),by show i+1<=n;omega,rJ _,ke⟩
  obtain rfl:i=n:=by omega
  refine ba O (bc (bY O (aJ O (aN O (tQ ?_)))));exact⟨(f+1,AZ,cZ,M),by show N-(f+1)<N-f;omega,(auV O),by show f+1<=N;omega,jB.row.more (by show 5*f+i<=5*(f+1);omega),hS⟩
 obtain rfl:f=N:=by omega
 subst fk;have Cx:=mP.HT n fl cm;have jB:jv n fl (λy _=>kz n cm (gl fl y)) (λy=>0<=gi (List.replicate fl.length (-1:Int)) y) 2005 M:=((jB.congr λy i hy hi=>⟨λh=>h.1,λh=>⟨h,.inl hy⟩⟩).mono λy _ h=>h.elim).more ac;have ll:=anl (n:=n) (fl:=fl) (c:=cm) (lf.zero fl.length (mP n fl cm));have eZ:=λ(L:ah)(j f:Nat)(hj:j<(iU n fl cm fl.length).length)(hf:gi (iU n fl cm fl.length) j=f) h=>anm (n:=n) (fl:=fl) (c:=cm) (L:=L) hj hf h
 have iq:=λy:Int=>FO (n:=n) (fl:=fl) (c:=cm) (f:=fl.length) (y:=y)
 generalize iU n fl cm fl.length=al at*;refine ba O (bc (bY O (aR O O (ay O ?_))));refine Cd.loop (α:=Nat×ah×List nz) (λz=>[(1,.slice A2 n c2),(2,.pointer PB),(5,.slice fA fl.length fl.length),(6,.map (some g)),(7,.func (.func 201) #[] #[.pointer PB]),(62,.slice Aa al.length ca),(63,aj (al.length:Int)),(64,aj (z.1:Int))]) (λz w'=>z.1<=al.length/\lf fl.length (mP n fl cm) (pv fl.length al z.1) z.2.1/\jv n fl (λy _=>kz n cm (gl fl y)) (λy=>0<=gi z.2.1 y) 2005 z.2.2/\St w w' (tx PB A fl.length c fA z.2.1 Aa ca al g z.2.2 [])) (λz=>al.length-z.1) (0,List.replicate fl.length (-1),M) (auV O) ⟨bl _,ll,jB,hS⟩ ?_;clear hS jB ll hf h1;rintro⟨j,L0,M⟩ e w6 ⟨hj,ll,jB,hS⟩;dsimp only at hj ll jB hS|-;refine bC O (aK _ O (λh1=>?_) (λh1=>?_))
 ·have Kl:j<al.length:=by omega
  have wP:=(iq _).1 (gi_in Kl);obtain⟨f,hf⟩:∃f:Nat,gi al j=f:=⟨(gi al j).toNat,ac⟩;have la:pv fl.length al j=f:=by unfold pv;rw[if_pos Kl,hf];rfl
  rw[hf]at wP;rw[la]at ll;have pB:=ll.1;have OL:mP n fl cm f f:=⟨wP.2,.refl ac⟩;have pE:=hS.bF 0 O;refine aC O (aA (hS.bF 2 O).2 O (bg (hS.bF 2 O) O (aq O ?_)));rw[hf];refine aA pE.2 O (bg pE O (ay O ?_));refine aK _ O (λh2=>?_) (λh2=>?_)
  ·refine aC O (aJ O (aN O (tQ ?_)));exact⟨(j+1,L0,M),by show al.length-(j+1)<al.length-j;omega,(auV O),by show j+1<=al.length;omega,eZ _ j f Kl hf (ll.skip Cx ac (.inl h2)),jB,hS⟩
  have h0:gi L0 f<0:=by omega
  refine aC O (aA pE.2 O (ak.oL 0 hS O O O ac ?_));intro w7 bp;have bp:St w w7 (tx PB A fl.length c fA (L0.set f (f:Int)) Aa ca al g M []):=bp;refine aq O (eh bp O O O ?_);intro Ao w8 bB;have fH:=nD.start (A:=zA n fl cm) pB (show f<fl.length by omega) h0 OL;have jB:=jB.mono (G':=λy=>0<=gi (L0.set f (f:Int)) y) λy _ h=>F7 h
  refine ay O (Cd.loop (α:=Nat×ah×List Nat×ai×Nat×List nz) (λz=>[(1,.slice A2 n c2),(2,.pointer PB),(5,.slice fA fl.length fl.length),(6,.map (some g)),(7,.func (.func 201) #[] #[.pointer PB]),(62,.slice Aa al.length ca),(63,aj (al.length:Int)),(64,aj j),(13,aj f),(14,.slice z.2.2.2.1 (z.2.2.1.length-z.1) z.2.2.2.2.1)]) (λz w'=>nD fl.length (mP n fl cm) (zA n fl cm) f L0 z.2.1 z.2.2.1 z.1/\jv n fl (λy _=>kz n cm (gl fl y)) (λy=>0<=gi z.2.1 y) 2005 z.2.2.2.2.2/\St w w' (av 2 z.2.2.2.1 (z.2.2.1.length-z.1) z.2.2.2.2.1 (ky (z.2.2.1.drop z.1))::tx PB A fl.length c fA z.2.1 Aa ca al g z.2.2.2.2.2 [])) (λz=>fl.length+1-z.1) (0,L0.set f (f:Int),[f],Ao,1,M) (auV O) ⟨fH,jB,bB⟩ ?_);clear bB bp hS pE fH jB;rintro⟨k,L,Q,Ao,co,M⟩ e w9 ⟨fH,jB,hS⟩;dsimp only at fH jB hS|-;have mz:=fH.BB;have qG:=fH.K7;refine aY O (aR O O (ay O ?_));refine aK _ O (λh3=>?_) (λh3=>?_)
  ·have ja:k<Q.length:=by omega
   obtain⟨x,hx⟩:∃x,Q.getD k 0=x:=⟨_,rfl⟩;have Hu:x∈Q:=by rw[<-hx,b5,fL ja];exact dt _
   have qO:=fH.Br x Hu;have hHx:kz n cm (gl fl x):=(qO.2.2.1.of qO.2.2.2);have Ez:=hl _ (ng x qO.1);refine aC O (aR O O (ay O ?_));refine Cd.loop (α:=Nat×ah×List Nat×ai×Nat×List nz) (λz=>[(1,.slice A2 n c2),(2,.pointer PB),(5,.slice fA fl.length fl.length),(6,.map (some g)),(7,.func (.func 201) #[] #[.pointer PB]),(62,.slice Aa al.length ca),(63,aj (al.length:Int)),(64,aj j),(13,aj f),(14,.slice z.2.2.2.1 (z.2.2.1.length-k) z.2.2.2.2.1),(85,aj n),(86,aj (z.1:Int))]) (λz w'=>z.1<=n/\nD fl.length (mP n fl cm) (zA n fl cm) f L0 z.2.1 z.2.2.1 k/\(k<z.2.2.1.length/\z.2.2.1.getD k 0=x)/\jv n fl (λy _=>kz n cm (gl fl y)) (λy=>0<=gi z.2.1 y) 2005 z.2.2.2.2.2/\(∀i' y:Nat,i'<z.1->y<fl.length->kz n cm (gl fl y)->lb (gl fl y) i'=lb (gl fl x) i'->0<=gi z.2.1 y)/\St w w' (av 2 z.2.2.2.1 (z.2.2.1.length-k) z.2.2.2.2.1 (ky (z.2.2.1.drop k))::tx PB A fl.length c fA z.2.1 Aa ca al g z.2.2.2.2.2 [])) (λz=>n-z.1) (0,L,Q,Ao,co,M) (auV O) ⟨bl _,fH,⟨ja,hx⟩,jB,λi' y h=>absurd h (kY _),hS⟩ ?_;clear hS jB fH hx Hu ja mz qG h3;rintro⟨i,Li,Qi,Ao,co,M⟩ e dJ ⟨hi,fH,⟨ja,hx⟩,jB,qw,hS⟩;dsimp only at hi fH ja hx jB qw hS|-;refine bC O (aK _ O (λh4=>?_) (λh4=>?_))
   ·have cE:i<n:=by omega
    have qx:gi (ky (Qi.drop k)) 0=(x:Int):=by
     have h9:=YO ja;rw[hx]at h9;rw[<-h9];unfold ky;rw[List.map_drop,ahi]
    have GH:(ky (Qi.drop k)).length=Qi.length-k:=by simp[ky]
    have ym:=hS.bF 0 O;refine aC O (auJ (i:=0) ym.2 O O O ac ac ?_);refine auK (i:=0) ym O (by show 0<_;omega) O O ?_;refine aq O ?_;rw[qx];refine aI (aaN PB A fl.length c n rs fl x i _ (hT.ao hS.below) (Rd.one (hS.rd 2 O)) (hS.bU hM) qO.1 ac Ez.1 cE ac Ez.2) O ?_;rintro _ eO ⟨rfl,aw⟩;have hS:=hS.ao aw.below;have yo:=λy hy=>jB.II yx qO.1 cE hHx (y:=y) hy
    have ai7:=jB.len (lb (gl fl x) i);have WN:=λ(y:Nat)(hy:y<fl.length)(hH:kz n cm (gl fl y))(he:lb (gl fl y) i=lb (gl fl x) i)=>he▸jB.al y i hy cE hH
    generalize uf:lb (gl fl x) i=kx at*;clear aw ym;obtain⟨sx,Hr⟩:∃sx,jA M kx=sx:=⟨_,rfl⟩;obtain⟨ys,yV⟩:∃ys,jO M kx=ys:=⟨_,rfl⟩;have gI:∀{w':aa}{Ao:ai}{no co:Nat}{qs:ah}{L:ah},St w w' (av 2 Ao no co qs::tx PB A fl.length c fA L Aa ca al g M [])->bu w' sx.a sx.n ys:=λh=>by
     rw[<-Hr,<-yV];exact MH (pre:=[_,_,_,_,_]) (x:=kx) h
    rw[yV]at ai7 yo WN;have nO:=(gI hS).1;refine aq O ?_;refine ak.look (v:=.slice sx.a sx.n sx.c) EP (hS.oH 4 rfl) rfl rfl (by rw[<-Hr];unfold jA;cases dh M kx<;>rfl) rfl ?_;refine aR O O (ay O ?_);refine Cd.loop (α:=Nat×ah×List Nat×ai×Nat) (λz=>[(1,.slice A2 n c2),(2,.pointer PB),(5,.slice fA fl.length fl.length),(6,.map (some g)),(7,.func (.func 201) #[] #[.pointer PB]),(62,.slice Aa al.length ca),(63,aj (al.length:Int)),(64,aj j),(13,aj f),(14,.slice z.2.2.2.1 (z.2.2.1.length-k) z.2.2.2.2),(85,aj n),(86,aj i),(16,yZ kx),(97,.slice sx.a sx.n sx.c),(98,aj (sx.n:Int)),(99,aj (z.1:Int))]) (λz w'=>z.1<=sx.n/\nD fl.length (mP n fl cm) (zA n fl cm) f L0 z.2.1 z.2.2.1 k/\(k<z.2.2.1.length/\z.2.2.1.getD k 0=x)/\(∀p:Nat,p<z.1->0<=gi z.2.1 (gi ys p))/\(∀y:Nat,0<=gi Li y->0<=gi z.2.1 y)/\St w w' (av 2 z.2.2.2.1 (z.2.2.1.length-k) z.2.2.2.2 (ky (z.2.2.1.drop k))::tx PB A fl.length c fA z.2.1 Aa ca al g M [])) (λz=>sx.n-z.1) (0,Li,Qi,Ao,co) (auV O) ⟨bl _,fH,⟨ja,hx⟩,λp h=>absurd h (kY _),λy h=>h,hS⟩ ?_;clear hS fH ja hx qx GH;rintro⟨q,L,Q,Ao,co⟩ e gD ⟨hq,fH,⟨ja,hx⟩,yy,vy,hS⟩;dsimp only at hq fH ja hx yy vy hS|-;have mz:=fH.BB;have aik:=fH.len;refine bC O (aK _ O (λh5=>?_) (λh5=>?_))
    ·have P9:q<ys.length:=by omega
     have xd:=gI hS;obtain⟨y,hy,yT,Hv⟩:=yo _ (gi_in P9);have pE:=hS.bF 1 O;refine aC O (aA xd.2 O (bg xd O (aq O ?_)));rw[hy];refine aA pE.2 O (bg pE O (ay O ?_));refine aK _ O (λh6=>?_) (λh6=>?_)
     ·have pO:=fH.meet yT h6 (Cx.Dv _ _ _ qO.2.2 (Hv.link lZ oz));refine aC O (aA pE.2 O (ak.oL 1 hS O O O ac ?_));intro jm il;refine aq O (eh il O O O ?_);intro A9 qZ lR;refine eQ 1 lR O (lR.bF 0 O) O O O ?_;intro AZ cZ Dw ke;have ke:=ke.tail;have CQ:(Q++[y]).length-k=(Q.length-k)+1:=by rw[cj];show Q.length+1-k=_;omega
      refine aq O (aJ O (aN O (tQ ?_)));refine⟨(q+1,L.set y (f:Int),Q++[y],AZ,cZ),by show sx.n-(q+1)<sx.n-q;omega,⟨O,O,O,O,O,O,O,O,O,aQ (λm=>Value.slice AZ m cZ) CQ.symm,O,O,O,O,O,O,au⟩,by show q+1<=sx.n;omega,pO,⟨by show k<(Q++[y]).length;rw[cj];omega,by show(Q++[y]).getD k 0=x;rw[Vy ja,hx]⟩,λp hp=>?_,λz hz=>F7 (vy z hz),?_⟩
      ·by_cases ep:p=q
       ·subst ep;rw[hy];have h9:=VC (L:=L) (y:=y) (f:=f) ac;show 0<=gi (L.set y (f:Int)) y;omega
       have hp:p<q+1:=hp;obtain⟨y9,Qv,_,_⟩:=yo _ (gi_in (show p<ys.length by omega));have h9:=yy p ac;rw[Qv]at h9|-;exact F7 h9
      show St w Dw (av _ AZ ((Q++[y]).length-k) cZ (ky ((Q++[y]).drop k))::_);rw[CQ,alG (by omega)];exact ke
     refine aC O (aJ O (aN O (tQ ?_)));refine⟨(q+1,L,Q,Ao,co),by show sx.n-(q+1)<sx.n-q;omega,(auV O),by show q+1<=sx.n;omega,fH,⟨ja,hx⟩,λp hp=>?_,vy,hS⟩
     by_cases ep:p=q
     ·subst ep;rw[hy];show 0<=gi L y;omega
     have hp:p<q+1:=hp;exact yy p ac
    have eA:∀y:Nat,(y:Int)∈ys->0<=gi L y:=λy hy=>by
     obtain⟨p,hp,e9⟩:=fS.1 hy;rw[<-b7 hp]at e9;have:=yy p ac
     rwa[e9]at this
    have ah1:=(jB.mono (G':=λy=>0<=gi L y) λy _ h=>vy y h).del (x:=kx) λy hy=>eA y (yV▸hy)
    refine ba O (bc (bY O ?_));refine acM EP 4 (a:=kx) hS O O O ?_;intro jm il;have il:=ac5 (pre:=[_,_,_,_,_]) (x:=kx) il;refine aq O (aJ O (aN O (tQ ?_)));refine⟨(i+1,L,Q,Ao,co,km M kx),by show n-(i+1)<n-i;omega,(auV O),by show i+1<=n;omega,fH,⟨ja,hx⟩,ah1,λi' y fY yT hH he=>?_,il⟩
    by_cases ei:i'=i
    ·subst ei;rcases WN y yT hH (he.trans uf)with h9|h9
     ·exact eA y h9
     exact vy y h9
    exact vy y (qw i' y (by have fY:i'<i+1:=fY;omega) yT hH he)
   obtain rfl:i=n:=by omega
   have mz:=fH.BB;have tk:=fH.next ja λy hy=>by
    rw[hx]at hy;obtain⟨_,hHy,i',fY,ha⟩:=hy;exact qw i' y fY ha.2.1 hHy ((aaZ Ez.1 (hl _ (ng y ha.2.1)).1).2 λk9 h9 ik=>ha.2.2 k9 h9 ik).symm
   have hkQ2:k<Qi.length:=ja;have na:=ac4 (i:=0) (l:=1) hS O (by show 1<=Qi.length-k;omega);refine ba O (bc (bY O ?_));refine uY (l:=1) O O O ac (aN O (tQ ?_));refine⟨(k+1,Li,Qi,cutAt Ao co 1,co-1,M),by show fl.length+1-(k+1)<fl.length+1-k;omega,⟨O,O,O,O,O,O,O,O,O,aQ (λm=>Value.slice (cutAt Ao co 1) m (co-1)) (Nat.sub_sub _ _ _),au⟩,tk,jB,?_⟩;show St w dJ (av _ (cutAt Ao co 1) (Qi.length-(k+1)) (co-1) (ky (Qi.drop (k+1)))::_);have e9:ky (Qi.drop (k+1))=(ky (Qi.drop k)).drop 1:=by simp[ky]
   rw[e9,<-Nat.sub_sub];exact na
  have ja:k=Q.length:=by omega
  subst ja;have ow:=fH.end_ Cx ll ac h0 (λS ax az=>mP.ind S ax az) (λx y h=>h.link lZ oz);refine ba O (bc (bY O (aJ O (aN O (tQ ?_)))));exact⟨(j+1,L,M),by show al.length-(j+1)<al.length-j;omega,(auV O),by show j+1<=al.length;omega,eZ _ j f Kl hf ow,jB,hS.tail⟩
 have qF:j=al.length:=by omega
 have la:pv fl.length al j=fl.length:=by unfold pv;rw[if_neg (by omega)]
 rw[la]at ll;refine ba O (bc (ew O ?_));exact dV O ⟨fA,L0,O,ll,hS.sub ((List.nil_sublist _).cons_cons _)⟩
def uset(u:Nat->ab)(k:Nat)(v:ab):Nat->ab:=λj=>cond (Nat.beq j k) v (u j)
theorem asL{u:Nat->ab}{k:Nat}{v:ab}(h:u k=v):u=uset u k v:=by
 funext j;unfold uset;cases hb:Nat.beq j k with
 |true=>rw[lg hb,h];rfl
 |false=>rfl
theorem Rm{x e:Int}:e∈uF xs x↔(0<=e/\e<xs.length)/\gi xs e=x:=by
 unfold uF;rw[fM,tz,k5]
theorem apS{n:Int}{i:Int}(h0:0<=i)(h1:i<n):uJ n R i=uF R i:=by
 unfold uJ;rw[aG (by omega)]
theorem RI{n:Int}{i:Int}(h:R.length<=500):(uJ n R i).length<=500:=by
 unfold uJ
 split
 ·refine je (lJ _ _) ?_;rw[b6,jd,od];exact h
 exact(by decide:1<=500)
theorem aaR{n:Int}{i e:Int}(h:e∈uJ n R i):e= -1\/(0<=e/\e<R.length):=by
 unfold uJ at h
 split at h
 ·exact .inr (Rm.1 h).1
 exact .inl (eX.1 h)
section
variable {P:Int->Prop} [DecidablePred P] {xs:ah}{q:Nat}
end
def T1(B:ag)(e f x:Int):Prop:=(e<0\/e∈gl B x)/\(f<0\/x∈gl B f)
instance (B:ag)(e f:Int):DecidablePred (T1 B e f):=λx=>by unfold T1;infer_instance
theorem Vd{n:Nat}{R:ah}{B:ag}(hn:1<=n)(hb:R.length<=500):∀x∈eH n R B,x.length=n/\∀e∈x,0<=e/\e<(R.length:Int):=λx hx=>by
 obtain⟨h1,h2,_⟩:=(agB hn).1 hx;refine⟨h1,λe he=>?_⟩;obtain⟨k,hk,rfl⟩:=fS.1 he;rw[<-b7 hk];exact(h2 k ac).1
theorem MY(b:Bool):b=decide (b=true):=by cases b<;>rfl
noncomputable def flM(M:ag):ag:=eH M.length (ct M M.length) (cd M)
noncomputable def vN(M:ag):Int:=if 500<a8 M M.length\/400<(flM M).length then 3 else 0
theorem Rn{M:ag}(hM:eY M)(h:a8 M M.length<=500):gN (M.length:Int) (ct M M.length) (cd M):=agL hM h
section
variable {P:Program}{N:Nat}{ops:Array Oper}{K:Env->aa->Prop}{rest:List Oper}{e:Env}{w0 w w':aa}{ks:List Ck}{d:Nat}{ty:ad}{pos:String}{af:Array Edge}
end
theorem eq_4{a b c d b' c' d':ab}(h1:b=b')(h2:c=c')(h3:d=d'):[a,b,c,d]=[a,b',c',d']:=by rw[h1,h2,h3]
theorem amK(n:Nat)(A D:ai)(cA cD:Nat)(R:ah)(rs:List aE)(B:ag)(w:aa)(hR:bu w A R.length R)(hB:bH w D B.length rs B)(hP:gN n R B):
 aF prog 98 [.agg #[aj n,.slice A R.length cA,.slice D B.length cD]] w (λv w'=>∃A' c' rs',v=.tuple #[.slice A' (cap (eH n R B)).length c',.bool (decide ((eH n R B).length<=400))]/\rs'.length=(cap (eH n R B)).length/\St w w' (aV 27 2 A' (cap (eH n R B)).length c' rs' (cap (eH n R B))++[])):=by
 have hn:=hP.n1;have hle:=hP.len;have eA:=agj (n:=n) (R:=R) (B:=B) ac;have Pj:=M6 (l:=eH n R B);obtain⟨N,hN⟩:∃N,R.length=N:=⟨_,rfl⟩;have kD:=λ(w:aa) hR hB=>amG n A D cA cD R rs B w hR hB hP
 have hex:=λ(w:aa) La hR hB Aa JR=>amI w n A D cA cD R rs B N hN hR hB hP Aa La JR
 rw[hle]at hB kD;rw[hN]at hR hB kD;rw[hle,hN];refine bn func98 O ntmps98 O (mI O) (aY O (og (St.refl w) O O ?_));intro A1 wB ax;have h1:Rd wB A1 3 (λj=>[Value.int .i64 (n:Int),.slice A N cA,.slice D N cD].getD j undef):=ax.rd 0 O;have hR:=ax.dq hR;have hB:=ax.bU hB;have ax:=ax.none;refine ay O ?_;refine iu [5] [.ex (.agg #[aj n,.slice A N cA,.slice D N cD]),.ex (.agg #[aj n,.slice A N cA,.slice D N cD]),.pr (λv w'=>∃A7 L,v=.slice A7 N N/\sS N L (λx=>eF n R B x)/\St wB w' [fB 4 A7 N N L]),.pr (λv w'=>∃A8,v=.slice A8 0 0/\St wB w' [av 2 A8 0 0 []]),.pr (λv w'=>∃A9,v=.slice A9 0 0/\St wB w' [aX 27 A9 0 0 []]),.pr (λv w'=>∃A' c' rs',v=.slice A' (cap (eH n R B)).length c'/\rs'.length=(cap (eH n R B)).length/\St wB w' (aV 27 2 A' (cap (eH n R B)).length c' rs' (cap (eH n R B))++[])),.pr (λv w'=>∃A' c' rs',v=.slice A' (cap (eH n R B)).length c'/\rs'.length=(cap (eH n R B)).length/\St wB w' (aV 27 2 A' (cap (eH n R B)).length c' rs' (cap (eH n R B))++[]))] (ly (ly (bV.2 ⟨Ye.bW (λv w w' h hb=>by obtain⟨A7,L,hv,hL,hT⟩:=h;exact⟨A7,L,hv,hL,hT.ao hb⟩),(bV.2 ⟨Ye.bW (λv w w' h hb=>by obtain⟨A8,hv,hT⟩:=h;exact⟨A8,hv,hT.ao hb⟩),(bV.2 ⟨Ye.bW (λv w w' h hb=>by obtain⟨A9,hv,hT⟩:=h;exact⟨A9,hv,hT.ao hb⟩),(bV.2 ⟨Ye.bW (λv w w' h hb=>by obtain⟨A',c',rs',hv,dw,hT⟩:=h;exact⟨A',c',rs',hv,dw,hT.ao hb⟩),(bV.2 ⟨Ye.bW (λv w w' h hb=>by obtain⟨A',c',rs',hv,dw,hT⟩:=h;exact⟨A',c',rs',hv,dw,hT.ao hb⟩),(λ_ h=>by cases h)⟩)⟩)⟩)⟩)⟩))) ?_ ?_
 ·refine⟨cP λ_ _ hb _ _ _=>cG 2 (Rd.below h1 hb) O O O (bA O O),cP λ_ _ hb _ _ _=>cG 2 (Rd.below h1 hb) O O O (bA O O),?_,?_,?_,?_,?_,au⟩
  ·refine cP λe1 w1 hb hp aW hq=>?_
   refine aI (kD _ (hR.ao hb) (hB.ao hb)) O ?_;rintro _ w9 ⟨A7,L,rfl,hL,aw⟩;refine ak.n ?_;exact eD.dn O aw.below ⟨A7,L,O,hL,by have:=((St.refl wB).ao hb).call aw;rwa[dQ]at this⟩
  ·refine cP λe1 w1 hb hp aW hq=>?_
   refine jy (St.refl _) O λA8 w9 aw=>ak.n ?_;exact eD.dn O aw.below ⟨A8,O,by have:=((St.refl wB).ao hb).call aw;rwa[dQ]at this⟩
  ·refine cP λe1 w1 hb hp aW hq=>?_
   refine jy (St.refl _) O λA9 w9 aw=>ak.n ?_;exact eD.dn O aw.below ⟨A9,O,by have:=((St.refl wB).ao hb).call aw;rwa[dQ]at this⟩
  ·refine iF λe1 w1 hb hp aW hq=>?_
   obtain⟨A7,L,h7,hL,o4⟩:=(hp 2 _ _ an rfl rfl an);obtain⟨A8,h8,o5⟩:=(hp 3 _ _ an rfl rfl an);obtain⟨A9,h9,fg⟩:=(hp 4 _ _ an rfl rfl an);have hM1:=fg.merge o4 (λk hk=>by obtain rfl:=eX.1 hk;rfl) (λk hk=>by obtain rfl:=eX.1 hk;exact EO _) (λk hk k' fU=>by obtain rfl:=eX.1 hk;obtain rfl:=eX.1 fU;exact(by decide:¬(27=4)));have Gn:=o5.merge hM1 (λk hk=>by obtain rfl:=eX.1 hk;rfl) (λk hk=>by rcases gW.1 hk with rfl|hk; { rfl }; { obtain rfl:=eX.1 hk;exact EO _ }) (λk hk k' fU=>by obtain rfl:=eX.1 hk;rcases gW.1 fU with rfl|fU; { exact(by decide:¬(2=27)) }; { obtain rfl:=eX.1 fU;exact(by decide:¬(2=4)) });refine auM (hex wB L hR hB A7 hL n 0 [] A8 0 [fB 4 A7 N N L] _ A9 0 [] [] ac rfl (λx hx=>by cases hx) (eX.2 rfl) rfl (bl _) Gn) rfl (by exact eq_4 h7 h8 h9) rfl ?_;rintro _ w9 ⟨A',c',rs',rfl,dw,o3⟩;rw[List.nil_append,eA]at dw o3|-;exact ak.n (dS.dn O ⟨A',c',rs',O,dw,o3.sub ((fD _).append (List.nil_sublist _))⟩)
  refine dP 1 λe1 w1 hp aW hq=>?_
  have cg:=hp 5 _ _ an O O an;obtain⟨A',c',rs',ik,dw,hT⟩:=(hp 5 _ _ an rfl rfl an);refine mm O (by exact ik) O (ak.n ?_);exact eD.dn O (Below.refl _ _) ⟨A',c',rs',O,dw,hT⟩
 intro u w2 _ hu _ _;obtain⟨A',c',rs',hv,dw,hT⟩:=hu 6 _ rfl an;refine Ro (F:=[(4,.slice A' (cap (eH n R B)).length c')]) ⟨hv,au⟩ (gq O (aR O O (bR O ?_)));refine RG O O ?_;refine⟨A',c',rs',?_,dw,(by rw[dQ]at hT;exact ax.none.call hT)⟩;show Value.tuple #[_,Value.bool (decide _)]=_;rw[show decide ((((cap (eH n R B)).length:Nat):Int)<=400)=decide ((eH n R B).length<=400)from kl.2 (by omega)]
theorem arI(A:ai)(n c:Nat)(rs:List aE)(M:ag)(w:aa)(hR:bH w A n rs M)(hn:n<=9223372036854775807)(hM:eY M):
 aF prog 97 [.agg #[.slice A n c]] w (λv w'=>
  (500<a8 M M.length/\v=.tuple #[.agg #[aj 0,.slice none 0 0,.slice none 0 0],aj 3]/\St w w' [])\/
  (a8 M M.length<=500/\∃AR c AD d rs,v=.tuple #[.agg #[aj (M.length:Int),.slice AR (a8 M M.length) c,.slice AD (a8 M M.length) d],aj 0]/\rs.length=a8 M M.length/\St w w' (av 2 AR (a8 M M.length) c (ct M M.length)::(aV 27 2 AD (a8 M M.length) d rs (cd M)++[])))):=by
 refine bn func97 O ntmps97 O (tw O O) (aY O (rf (St.refl w) O O ?_));intro A1 w1 ax;refine u9 ax O λA2 w2 az=>aq O (cG 0 (az.rd 1 O) O O O (aI (Zd A n c rs M _ (az.bU hR) hM) O ?_));rintro _ w3 ⟨rfl,aw⟩;have aM:=az.ao aw.below
 first|refine cO rfl rfl ?_|refine dv rfl rfl ?_
 refine ay O (auT O (λh=>h hM) (aC O (cG 0 (aM.rd 1 O) O O O (aI (amS A n c rs M _ (aM.bU hR) hM) O ?_))));rintro _ w4 ⟨AR,cR,AD,cD,jt,rfl,xb,nn⟩;have aU:=(aM.call nn).perm gL;refine u9 aU O λA4 w5 aO=>dU 3 0 aO O O O O O O O ?_;intro w6 bk;have bk:St w w6 (bS A4 (M.length:Int) AR (a8 M M.length) cR AD (a8 M M.length) cD::bS A2 0 none 0 0 none 0 0::Bx 32 1 A1 [.slice A n c]::(av 2 AR (a8 M M.length) cR (ct M M.length)::(aV 27 2 AD (a8 M M.length) cD jt (cd M)++[]))):=bk;refine aq O (aS (bk.rd 0 O) O (auP (j:=1) (bk.rd 0 O) (by exact aQ Value.pointer O) O O O O ?_));refine aR O O (ay O ?_);refine aK _ O (λh1=>?_) (λh1=>?_)
 ·refine aC O (Tg aL aL aL O (dU 3 1 bk O O O O O O O ?_));intro w7 bp;refine bR O (oI O (bp.rd 1 O) O ?_);exact .inl ⟨ac,O,bp.none⟩
 refine aC O (cG 2 (bk.rd 0 O) O O O (dU 3 1 bk O O O O O O O ?_));intro w7 bp;refine bR O (oI O (bp.rd 1 O) O ?_);exact .inr ⟨ac,AR,cR,AD,cD,jt,O,xb,bp.tail.tail.tail⟩
end
end Go.Proofs.YtimbpgackifflaaGreatDoor.Vc
