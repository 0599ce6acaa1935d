/-
 Lemmas. Conditions: as each states them.
-/
import Derived.Test.YtimbpgackifflaaGreatDoorZd
import Derived.Lib.AppendZeros
set_option maxHeartbeats 8000000
namespace Go.Proofs.YtimbpgackifflaaGreatDoor.Vc
open Tryz
section
open Go.RowKit
variable{w0 w:aa}{bs pre ks:List Ck}
def DN(x:PS)(d:Int):ah->Option (PS×Int×Int)
 |[]=>none
 |[g]=>some (x,d,g)
 |g::g'::r=>match EW x d g with
  |none=>none
  |some (y,e)=>DN y e (g'::r)
def I8(x:PS)(c:Int)(ws:ah):Option PS:=
 match ws with
 |[]=>some x
 |g::r=>match DN x c (g::r)with
  |none=>none
  |some (y,d,g)=>match pT y d g,pT y c g with
   |some e,some f=>if 0<=e then yW 100000 0 y [e] [c]else if 0<=f then yW 100000 0 y [f] [d]else some ⟨lF (lF y.im d g c) c g d,y.ls⟩
   |_,_=>none
structure Cl4(w0:aa)(ks:List Ck)(Ab Ac Aw:ai)(nw cw:Nat)(ws:ah)(c d:Int)(i:Nat)(x:LS)(y:PS)(d':Int)(S:Nat->Bool)(e:Env)(w:aa):Prop where
 f1:e 1=aj c
 f2:e 2=.slice Aw nw cw
 f3:e 3=.pointer Ab
 f6:e 6=.pointer Ac
 f7:e 7=aj d
 f8:e 8=aj i
 p0:S 0=true->e 27=x.val
 p1:S 1=true->e 28=aj d
 p2:S 2=true->e 29=.slice Aw nw cw
 p3:S 3=true->e 30=aj i
 p4:S 4=true->e 31=.pointer (aH Aw (i:Int).toNat)
 p5:S 5=true->e 32=aj (gi ws i)
 mem:∃(X:LS)(bs:List Ck)(Ad:ai),X.ok/\(S 6=false->X=x)/\(S 6=true->X.p=y/\e 33=.tuple #[X.val,aj d'])/\(S 7=true->e 26=.tuple #[X.val,aj d'])/\(S 8=true->e 34=X.val)/\(S 9=true->e 35=aj d')/\(S 10=false->bs=[])/\(S 10=true->e 9=.pointer Ad/\((S 11=false/\bs=[Bx 138 3 Ad [.slice none 0 0,.slice none 0 0,.bool false]])\/(S 11=true/\bs=[Bx 138 3 Ad X.cells])))/\(S 12=true->e 10=aj d')/\
  St w0 w (bs++([Bx 138 3 Ac [.slice none 0 0,.slice none 0 0,.bool false],Bx 138 3 Ab x.cells]++(X.iM++ks)))
theorem LS.back{x:LS}(h:St w0 w (bs++(pre++(x.iM++ks)))):St w0 w (x.iM++((bs++pre)++ks)):=by
 rw[<-ef]at h;exact h.nW
theorem acu{x:LS}(h:St w0 w (x.iM++(pre++ks))):St w0 w (pre++(x.iM++ks)):=h.nW
theorem acv{x:LS}(h:St w0 w (x.iM++((bs++pre)++ks))):St w0 w (bs++(pre++(x.iM++ks))):=by
 have:=h.nW
 rwa[ef]at this
theorem afL{l:ah}{i:Nat}(h:i+1<l.length):l.drop i=gi l i::gi l ((i+1:Nat):Int)::l.drop (i+2):=by
 rw[List.drop_eq_getElem_cons (by omega),List.drop_eq_getElem_cons (i:=i+1) (by omega),b7 (by omega),b7 (by omega)]
theorem drop_one{l:ah}{i:Nat}(h:i+1=l.length):l.drop i=[gi l i]:=by
 rw[List.drop_eq_getElem_cons (by omega),b7 (by omega),List.drop_eq_nil_of_le (by omega)]
theorem amU(x:LS)(c:Int)(Aw:ai)(nw cw:Nat)(ws:ah)(y:PS)(bD:x.ok)(hS:St w0 w (x.iM++ks))(hW:∀w',St w0 w' ks->bu w' Aw nw ws)(XH:nw<=1000000)(hp:I8 x.p c ws=some y):
 aF prog 169 [x.val,aj c,.slice Aw nw cw] w (λv w'=>∃x':LS,x'.ok/\x'.p=y/\v=x'.val/\St w0 w' (x'.iM++ks)):=by
 have pa:ws.length=nw:=(hW w (hS.sub (fj _ _))).1;refine bn func169 O ntmps169 O (BA O O) (aY O (BS hS O O ?_));intro Ab w1 ax;refine we ax O ?_;intro Ac w2 az;have az:St w0 w2 ([Bx 138 3 Ac [.slice none 0 0,.slice none 0 0,.bool false],Bx 138 3 Ab x.cells]++(x.iM++ks)):=az;refine aq O (aR O O (ay O ?_));refine aK _ O (λh1=>?_) (λh1=>?_)
 ·have:ws=[]:=iL ac;subst this;obtain rfl:=cn hp;refine aC O (cG 2 (az.rd 1 O) O O O (dU 3 0 az O O O O O O O ?_));intro w3 aM;refine bR O (zj O (aM.rd 0 O) ?_);exact⟨x,bD,O,O,(aM.sub ((fD _).cons _)).sub ((fD _).cons _)⟩
 ·obtain⟨z,d',g',lT,iY⟩:∃z d' g',DN x.p c (ws.drop 0)=some (z,d',g')/\(match pT z d' g',pT z c g' with
   |some e,some f=>if 0<=e then yW 100000 0 z [e] [c]else if 0<=f then yW 100000 0 z [f] [d']else some ⟨lF (lF z.im d' g' c) c g' d',z.ls⟩
   |_,_=>none)=some y:=by
   cases ws with
   |nil=>exact absurd (by simpa using pa.symm) ac
   |cons a r=>
    simp only[I8]at hp
    split at hp
    ·cases hp
    ·rename_i z d' g' hz;exact⟨z,d',g',hz,hp⟩
  clear hp;refine cM O ?_;refine Cd.loop (α:=Nat×LS×Int) (λs=>[(1,aj c),(2,.slice Aw nw cw),(3,.pointer Ab),(6,.pointer Ac),(7,aj s.2.2),(8,aj (s.1:Int))]) (λs w'=>s.2.1.ok/\s.1<nw/\DN s.2.1.p s.2.2 (ws.drop s.1)=some (z,d',g')/\St w0 w' ([Bx 138 3 Ac [.slice none 0 0,.slice none 0 0,.bool false],Bx 138 3 Ab s.2.1.cells]++(s.2.1.iM++ks))) (λs=>nw-s.1) (0,x,c) (auV O) ⟨bD,by show 0<nw;omega,lT,az⟩ ?_;rintro⟨i,x,d⟩ e w3 ⟨bD,hi,lT,aM⟩;dsimp only at bD hi lT aM|-;refine aY O (aJ O (aq O (aR O O (ay O ?_))));refine aK _ O (λh2=>?_) (λh2=>?_)
  ·rw[afL (by omega)]at lT;simp only[DN]at lT
   split at lT
   case h_1=>cases lT
   rename_i y1 d1 hn;refine cM O (Fq an an (λS e1 w1=>Cl4 w0 ks Ab Ac Aw nw cw ws c d i x y1 d1 S e1 w1) (λw4 hb=>⟨O,O,O,O,O,O,λh=>(nomatch h),λh=>(nomatch h),λh=>(nomatch h),λh=>(nomatch h),λh=>(nomatch h),λh=>(nomatch h),x,[],none,bD,λ_=>O,λh=>(nomatch h),λh=>(nomatch h),λh=>(nomatch h),λh=>(nomatch h),λ_=>O,λh=>(nomatch h),λh=>(nomatch h),aM.ao hb⟩) ?_ ?_)
   ·intro S k o e1 w4 hk cz hd b8 hI;obtain⟨f1,f2,f3,f6,f7,f8,p0,p1,p2,p3,p4,p5,X,bs,Ad,m0,m1,m2,m3,m4,m5,m6,m7,m8,hT⟩:=hI;have kc:bu w4 Aw nw ws:=hW w4 (((hT.sub (fj _ _)).sub (fj _ _)).sub (fj _ _))
    match k,hk,cz with
    |0,hk,cz=>
     obtain rfl:=cn hk;refine cG 2 ((hT.sub (fj bs _)).rd 1 O) (by exact f3) O O (ak.n ?_);exact⟨f1,f2,f3,f6,f7,f8,λ_=>O,p1,p2,p3,p4,p5,X,bs,Ad,m0,m1,m2,m3,m4,m5,m6,m7,m8,hT⟩
    |1,hk,cz=>
     obtain rfl:=cn hk;refine uZ O (by exact f7) O (ak.n ?_);exact⟨f1,f2,f3,f6,f7,f8,p0,λ_=>O,p2,p3,p4,p5,X,bs,Ad,m0,m1,m2,m3,m4,m5,m6,m7,m8,hT⟩
    |2,hk,cz=>
     obtain rfl:=cn hk;refine mm O (by exact f2) O (ak.n ?_);exact⟨f1,f2,f3,f6,f7,f8,p0,p1,λ_=>O,p3,p4,p5,X,bs,Ad,m0,m1,m2,m3,m4,m5,m6,m7,m8,hT⟩
    |3,hk,cz=>
     obtain rfl:=cn hk;refine uZ O (by exact f8) O (ak.n ?_);exact⟨f1,f2,f3,f6,f7,f8,p0,p1,p2,λ_=>O,p4,p5,X,bs,Ad,m0,m1,m2,m3,m4,m5,m6,m7,m8,hT⟩
    |4,hk,cz=>
     obtain rfl:=cn hk;refine auJ kc.2 (by exact p2 (bK hd 2 O)) (by exact p3 (bK hd 3 O)) O ac ac (ak.n ?_);exact⟨f1,f2,f3,f6,f7,f8,p0,p1,p2,p3,λ_=>O,p5,X,bs,Ad,m0,m1,m2,m3,m4,m5,m6,m7,m8,hT⟩
    |5,hk,cz=>
     obtain rfl:=cn hk;refine auK kc (by exact p4 (bK hd 4 O)) ac O O (ak.n ?_);exact⟨f1,f2,f3,f6,f7,f8,p0,p1,p2,p3,p4,λ_=>O,X,bs,Ad,m0,m1,m2,m3,m4,m5,m6,m7,m8,hT⟩
    |6,hk,cz=>
     obtain rfl:=cn hk;obtain rfl:=m1 cz;have n7:S 7=false:=by
      cases h:S 7 with
      |false=>rfl
      |true=>rw[<-cz];exact(bK (b8 7 _ h rfl) 6 rfl).symm
     have n8:S 8=false:=by
      cases h:S 8 with
      |false=>rfl
      |true=>rw[<-n7];exact(bK (b8 8 _ h rfl) 7 rfl).symm
     have n9:S 9=false:=by
      cases h:S 9 with
      |false=>rfl
      |true=>rw[<-n7];exact(bK (b8 9 _ h rfl) 7 rfl).symm
     have n11:S 11=false:=by
      cases h:S 11 with
      |false=>rfl
      |true=>rw[<-cz];exact(bK (b8 11 _ h rfl) 6 rfl).symm
     have n12:S 12=false:=by
      cases h:S 12 with
      |false=>rfl
      |true=>rw[<-n11];exact(bK (b8 12 _ h rfl) 11 rfl).symm
     refine auM (QJ X d (gi ws i) y1 d1 m0 (LS.back hT) hn) O (by show[e1 27,e1 28,e1 32]=_;rw[p0 (bK hd 0 O),p1 (bK hd 1 O),p5 (bK hd 5 O)]) O ?_;rintro _ w5 ⟨x',gQ,gR,rfl,o3⟩;refine ak.n ?_;refine⟨f1,f2,f3,f6,f7,f8,p0,p1,p2,p3,p4,p5,x',bs,Ad,gQ,λh=>(nomatch (show true=false from h)),λ_=>⟨gR,O⟩,λh=>?_,λh=>?_,λh=>?_,m6,λh=>?_,λh=>?_,acv o3⟩
     ·exact(nomatch n7.symm.trans h)
     ·exact(nomatch n8.symm.trans h)
     ·exact(nomatch n9.symm.trans h)
     ·obtain⟨h9,ik⟩:=m7 h;refine⟨h9,.inl ⟨n11,?_⟩⟩;rcases ik with ik|ik
      ·exact ik.2
      ·exact(nomatch n11.symm.trans ik.1)
     ·exact(nomatch n12.symm.trans h)
    |7,hk,cz=>
     obtain rfl:=cn hk;refine MB O (by exact(m2 (bK hd 6 O)).2) O (ak.n ?_);exact⟨f1,f2,f3,f6,f7,f8,p0,p1,p2,p3,p4,p5,X,bs,Ad,m0,m1,m2,λ_=>O,m4,m5,m6,m7,m8,hT⟩
    |8,hk,cz=>
     obtain rfl:=cn hk;refine ak.extract (by exact m3 (bK hd 7 O)) O O (ak.n ?_);exact⟨f1,f2,f3,f6,f7,f8,p0,p1,p2,p3,p4,p5,X,bs,Ad,m0,m1,m2,m3,λ_=>O,m5,m6,m7,m8,hT⟩
    |9,hk,cz=>
     obtain rfl:=cn hk;refine ak.extract (by exact m3 (bK hd 7 O)) O O (ak.n ?_);exact⟨f1,f2,f3,f6,f7,f8,p0,p1,p2,p3,p4,p5,X,bs,Ad,m0,m1,m2,m3,m4,λ_=>O,m6,m7,m8,hT⟩
    |10,hk,cz=>
     obtain rfl:=cn hk;obtain rfl:=m6 cz;have n11:S 11=false:=by
      cases h:S 11 with
      |false=>rfl
      |true=>rw[<-cz];exact(bK (b8 11 _ h rfl) 10 rfl).symm
     refine we hT O λAe w5 k7=>ak.n ?_;exact⟨f1,f2,f3,f6,f7,f8,p0,p1,p2,p3,p4,p5,X,[Bx 138 3 Ae [.slice none 0 0,.slice none 0 0,.bool false]],Ae,m0,m1,m2,m3,m4,m5,λh=>(nomatch (show true=false from h)),λ_=>⟨O,.inl ⟨n11,O⟩⟩,m8,k7⟩
    |11,hk,cz=>
     obtain rfl:=cn hk;have Yo:=bK hd 10 O;obtain⟨h9,ik⟩:=m7 Yo;rcases ik with⟨_,rfl⟩|ik
     ·refine dU 3 0 hT O (by exact h9) (by exact m4 (bK hd 8 O)) O O O O ?_;intro w5 k7;exact ak.n ⟨f1,f2,f3,f6,f7,f8,p0,p1,p2,p3,p4,p5,X,[Bx 138 3 Ad X.cells],Ad,m0,m1,m2,m3,m4,m5,λh=>(nomatch Yo.symm.trans h),λ_=>⟨h9,.inr ⟨O,O⟩⟩,m8,k7⟩
     ·exact(nomatch cz.symm.trans ik.1)
    |12,hk,cz=>
     obtain rfl:=cn hk;refine uZ O (by exact m5 (bK hd 9 O)) O (ak.n ?_);exact⟨f1,f2,f3,f6,f7,f8,p0,p1,p2,p3,p4,p5,X,bs,Ad,m0,m1,m2,m3,m4,m5,m6,m7,λ_=>O,hT⟩
    |q+13,hk,_=>exact(nomatch hk)
   ·intro S e1 w4 eA hI;obtain⟨f1,f2,f3,f6,f7,f8,p0,p1,p2,p3,p4,p5,X,bs,Ad,m0,m1,m2,m3,m4,m5,m6,m7,m8,hT⟩:=hI;obtain⟨h9,ik⟩:=m7 (eA 10 am);rcases ik with ik|⟨_,rfl⟩
    ·exact(nomatch (eA 11 am).symm.trans ik.1)
    have ux:=(m2 (eA 6 am)).1;refine IB (F:=[(1,aj c),(2,.slice Aw nw cw),(3,.pointer Ab),(6,.pointer Ac),(7,aj d),(8,aj i),(9,.pointer Ad),(10,aj d1)]) ⟨f1,f2,f3,f6,f7,f8,h9,m8 (eA 12 am),au⟩ (gq O (cG 2 (hT.rd 0 O) O O O (dU 3 2 hT O O O O O O O ?_)));intro w5 k7;have k7:St w0 w5 (Bx 138 3 Ad X.cells::([Bx 138 3 Ac [.slice none 0 0,.slice none 0 0,.bool false],Bx 138 3 Ab X.cells]++(X.iM++ks))):=k7;have k8:=k7.tail;refine aq O (aS (k8.rd 1 O) O (tK (k8.rd 1 O) O O O O O (ay O (Cd.cX O ?_))));refine aC O (aJ O (aN O (tQ ?_)));refine⟨(i+1,X,d1),by show nw-(i+1)<nw-i;omega,(auV O),m0,by show i+1<nw;omega,?_,k8⟩;show DN X.p d1 (ws.drop (i+1))=_;rw[ux,List.drop_eq_getElem_cons (by omega),<-b7 (by omega)];exact lT
  ·rw[drop_one (by omega)]at lT;have lT:=cn lT;simp only[Prod.mk.injEq]at lT;obtain⟨rfl,rfl,rfl⟩:=lT;have kc:bu w3 Aw nw ws:=hW w3 ((aM.sub (fj _ _)).sub (fj _ _))
   split at iY
   case h_2=>cases iY
   rename_i a b ha dC;have D7:=LS.fO bD aM;have jg:=LS.bF aM;refine ba O (bc (bY O (aR O O (cV O ?_))));refine aA kc.2 O ?_;have cE:((nw:Nat):Int)-1=(i:Nat):=by omega
   refine bg kc O ?_;rw[cE];generalize gi ws i=g at*;refine ay O (ec [.ex (.agg #[.slice (x.A) (x.n) (x.c),.slice (x.B) (x.m) (x.cB),.bool (false)]),xI (d),xI (g),xI (a),.ex (.agg #[.slice (x.A) (x.n) (x.c),.slice (x.B) (x.m) (x.cB),.bool (false)]),xI (c),xI (g),xI (b),xI (a),xI (b)] O (eK O) ?_ ?_)
   ·refine⟨λ_ _ hb _ _=>cG 2 ((aM.rd 1 O).below hb) O O O Az,Dr O,Dr O,?_,λ_ _ hb _ _=>cG 2 ((aM.rd 1 O).below hb) O O O Az,Dr O,Dr O,?_,Dr O,Dr O,au⟩
    ·intro e1 w1 hb hp aW;refine aI (HD x.rs x.im x.ls d g a _ (D7.ao hb) (jg.ao hb) ha) O ?_;rintro _ w2 ⟨rfl,aw⟩;refine ak.n ?_;exact gk.dn aw.below ap
    ·intro e1 w1 hb hp aW;refine aI (HD x.rs x.im x.ls c g b _ (D7.ao hb) (jg.ao hb) dC) O ?_;rintro _ w2 ⟨rfl,aw⟩;refine ak.n ?_;exact gk.dn aw.below ap
   intro u w4 kq _;have aU:=aM.ao kq;refine fG O (aK _ O (λh3=>?_) (λh3=>?_))
   ·rw[aG h3]at iY;refine aC O (cG 2 (aU.rd 1 O) O O O (aq O (aI (Zf x a c y 100000 bD (aU.nW (pre:=[_,_])) iY) O ?_)));rintro _ w5 ⟨x',gQ,gR,rfl,hT⟩;have hT:=hT.nW;refine dU 3 0 hT O O O O O O O λw6 k8=>bR O (zj O (k8.rd 0 O) ?_);exact⟨x',gQ,gR,O,(k8.sub ((fD _).cons _)).sub ((fD _).cons _)⟩
   ·rw[aD h3]at iY;refine cM O (aK _ O (λh4=>?_) (λh4=>?_))
    ·rw[aG h4]at iY;refine aC O (cG 2 (aU.rd 1 O) O O O (aq O (aI (Zf x b d y 100000 bD (aU.nW (pre:=[_,_])) iY) O ?_)));rintro _ w5 ⟨x',gQ,gR,rfl,hT⟩;have hT:=hT.nW;refine dU 3 0 hT O O O O O O O λw6 k8=>bR O (zj O (k8.rd 0 O) ?_);exact⟨x',gQ,gR,O,(k8.sub ((fD _).cons _)).sub ((fD _).cons _)⟩
    ·rw[aD h4]at iY;obtain rfl:=cn iY;have bd:∀{z:PS}{c g r:Int},pT z c g=some r->0<=c/\c<(z.im.length:Int)/\0<=g/\g<((gl z.im c).length:Int):=λ{z c g r} h=>by
      unfold pT at h
      split at h
      case isFalse=>cases h
      rename_i h';exact h'
     have b1:=bd ha;have b2:=bd dC;have b1:0<=d/\d<(x.im.length:Int)/\0<=g/\g<((gl x.im d).length:Int):=b1;have b2:0<=c/\c<(x.im.length:Int)/\0<=g/\g<((gl x.im c).length:Int):=b2;have yR:=bD.2.1;have C6:=bD.1;obtain⟨dN,rfl⟩:∃q:Nat,d=q:=⟨d.toNat,ac⟩;obtain⟨cN,rfl⟩:∃q:Nat,c=q:=⟨c.toNat,ac⟩;have OE:=LS.fO bD aU;have gI:=OE.at_ (i:=(dN:Int)) ac ac;have hrd1:=gI.1;have aO:St w0 w4 ([Bx 138 3 Ac [.slice none 0 0,.slice none 0 0,.bool false],Bx 138 3 Ab x.cells,av 2 x.B x.m x.cB x.ls]++(aV 27 2 x.A x.n x.c x.rs x.im++ks)):=aU;refine aC O (aS (aU.rd 1 O) O (a6 (aU.rd 1 O) O (aq O (aA OE.top.2 O (bw OE.top O (aq O (aA gI.2 O (zH dN aO ac ac O O ac ?_))))))));intro w6 k8;have G7:({ x with im:=x.im.set dN ((gl x.im dN).set g.toNat (cN:Int)) }:LS).ok:=⟨bD.1,by show(x.im.set _ _).length=_;rw[fR];exact bD.2.1,bD.2.2⟩;generalize Ht:({ x with im:=x.im.set dN ((gl x.im dN).set g.toNat (cN:Int)) }:LS)=x6 at G7;have Ou:x6.A=x.A/\x6.n=x.n/\x6.c=x.c/\x6.rs=x.rs/\x6.B=x.B/\x6.m=x.m/\x6.cB=x.cB/\x6.ls=x.ls/\x6.im=x.im.set dN ((gl x.im dN).set g.toNat (cN:Int)):=by subst Ht;exact⟨rfl,rfl,rfl,rfl,rfl,rfl,rfl,rfl,rfl⟩
     obtain⟨q1,q2,q3,q4,q5,q6,q7,q8,q9⟩:=Ou;have CC:St w0 w6 ([Bx 138 3 Ac [.slice none 0 0,.slice none 0 0,.bool false],Bx 138 3 Ab x.cells]++(x6.iM++ks)):=by
      show St w0 w6 ([Bx _ 3 Ac _,Bx _ 3 Ab x.cells]++((av _ x6.B x6.m x6.cB x6.ls::aV _ _ x6.A x6.n x6.c x6.rs x6.im)++ks));rw[q1,q2,q3,q4,q5,q6,q7,q8,q9];exact k8
     have yg:=LS.fO G7 CC;have C1:=yg.at_ (i:=(cN:Int)) ac ac;have Ns:(gl x6.im cN).length=(gl x.im cN).length:=by
      rw[q9,DZ (by omega)]
      split
      ·rename_i e;subst e;rw[fR]
      ·rfl
     have yH:(rg x6.rs cN).n=(gl x.im cN).length:=by rw[<-C1.1,Ns]
     refine aq O (aS (CC.rd 1 O) O (a6 (CC.rd 1 O) O (aq O ?_)));rw[q1,q2,q4]at yg;rw[q4]at C1 yH;refine aA yg.top.2 O (bw yg.top O (aq O (aA C1.2 O ?_)));have o4:St w0 w6 ([Bx 138 3 Ac [.slice none 0 0,.slice none 0 0,.bool false],Bx 138 3 Ab x.cells,av 2 x.B x.m x.cB x.ls]++(aV 27 2 x.A x.n x.c x.rs x6.im++ks)):=by
      rw[q9];exact k8
     refine zH cN o4 (by rw[q9,fR];omega) ac O O ac ?_;intro w8 o5;refine aq O (cG 2 (o5.rd 1 O) O O O (dU 3 0 o5 O O O O O O O ?_));intro w9 fg;refine bR O (zj O (fg.rd 0 O) ?_);refine⟨{ x with im:=x6.im.set cN ((gl x6.im cN).set g.toNat (dN:Int)) },⟨bD.1,by show(x6.im.set _ _).length=_;rw[fR,q9,fR];exact bD.2.1,bD.2.2⟩,?_,O,(fg.sub ((fD _).cons _)).sub ((fD _).cons _)⟩;show(⟨x6.im.set cN ((gl x6.im cN).set g.toNat (dN:Int)),x.ls⟩:PS)=_;rw[q9]
     rfl
def H2(c:Int):PS->ag->Option PS
 |x,[]=>some x
 |x,w::r=>if 0<=c/\c<(x.ls.length:Int)then(if gi x.ls c=c then(match I8 x c w with|none=>none|some y=>H2 c y r)else some x)else none
def Dq(c:Int)(aZ:Nat):Nat->Nat->PS->Option PS
 |0,_,_=>none
 |k+1,g,x=>if g<aZ then(if 0<=c/\c<(x.ls.length:Int)then(if gi x.ls c=c then(match EW x c g with|none=>none|some (y,_)=>Dq c aZ k (g+1) y)else some x)else none)else some x
def LJ(aZ:Nat)(rel:ag):Nat->Nat->PS->Option PS
 |0,_,_=>none
 |k+1,c,x=>if c<x.ls.length then(match H2 c x rel with|none=>none|some y=>match Dq c aZ 100 0 y with|none=>none|some z=>LJ aZ rel k (c+1) z)else some x
def RN(aZ:Nat)(rel:ag):Option PS:=
 match DQ ⟨[],[]⟩ aZ with
 |none=>none
 |some x=>LJ aZ rel 3000 0 x
section
variable {P:Program}{N:Nat}{ops:Array Oper}{K:Env->aa->Prop}{rest:List Oper}{e:Env}{w0 w w':aa}{ks:List Ck}{d:Nat}{ty:ad}{pos:String}{af:Array Edge}
theorem acF{t:ad}{f0 f1 f2:Field}{z0 z1 z2 y0 y1 y2:ab}{b b0 b1 b2:Nat}[bJ P t (.struct #[f0,f1,f2])][bL P t (.agg #[z0,z1,z2]) 3 b](oY:bL P f0.type y0 1 b0)(nJ:bL P f1.type y1 1 b1)(qu:bL P f2.type y2 1 b2)(ho:f0.offset=0)(qH:f1.offset=1)(G6:f2.offset=2)(hb:Nat.blt d N=true)(hK:ak P N ops K rest (bE e d (.agg #[z0,z1,z2])) w):ak P N ops K (⟨some d,.build t #[],ty,pos,af,none⟩::rest) e w:=by
 obtain⟨inf,hi,eN,hs,iI⟩:=bL.get P t;obtain⟨yX,eU,_,l7,_⟩:=oY.get P f0.type;obtain⟨Bs,kP,_,pR,_⟩:=nJ.get P f1.type;obtain⟨Hy,tf,_,o8,_⟩:=qu.get P f2.type;have ez:(Value.agg #[z0,z1,z2]).cells= #[z0,z1,z2]:=O;refine .val (w':=w) ?_ hb hK;simp[execOp,Instr.build,run_underlying (bJ.out (P:=P) (t:=t)),sizeOf,typeInfo,zeroValue,hi,eN,eU,l7,kP,pR,tf,o8,ez,Instr.fill]
end
theorem amY(aZ:Nat)(Ar:ai)(nr cr:Nat)(gB:List aE)(rel:ag)(A0:ai)(c0:Nat)(y:PS)(w:aa)(hR:bH w Ar nr gB rel)(pQ:∀x∈rel,x.length<=1000000)(wV:nr<=1000000)(hp:RN aZ rel=some y):
 aF prog 126 [.agg #[aj aZ,.slice Ar nr cr],.slice A0 0 c0] w (λv w'=>∃x':LS,x'.ok/\x'.p=y/\v=x'.val/\St w w' x'.iM):=by
 have bT:=hR.len;unfold RN at hp
 split at hp
 case h_1=>cases hp
 rename_i x1 mC;refine bn func126 O ntmps126 O (BA O O) (aY O (nB (St.refl w) O O ?_));intro A2 w1 ax;refine we ax O λA4 w2 az=>aq O (acF aL aL aL O O O O (aS (az.rd 1 O) O (fX (az.rd 1 O) O O O O O (aI (Ze ⟨none,0,0,[],[],none,0,0,[]⟩ aZ x1 ⟨O,O,O⟩ ((az.nil _).nil _) mC) O ?_))));rintro _ w3 ⟨X,bD,hXp,rfl,hT⟩;have hT:=acu (pre:=[Bx 138 3 A4 [.slice none 0 0,.slice none 0 0,.bool false],Bx 59 2 A2 [aj aZ,.slice Ar nr cr]]) (ks:=[]) hT;refine aq O (we hT O ?_);intro A5 w4 aU;refine dU 3 0 aU O O O O O O O ?_;intro w5 aO;have aO:St w w5 ([Bx 138 3 A5 X.cells,Bx 138 3 A4 [.slice none 0 0,.slice none 0 0,.bool false],Bx 59 2 A2 [aj aZ,.slice Ar nr cr]]++(X.iM++[])):=aO;refine ay O (Cd.loop (α:=Unit) (λ_=>[(1,.slice A0 0 c0),(2,.pointer A2),(4,.pointer A4),(5,.pointer A5),(7,aj 0)]) (λ_ w'=>w'=w5) (λ_=>0) () (auV O) O ?_);rintro⟨⟩ e w6 rfl;refine aY O (aR O O (aq O ?_));refine b9 24 O (λh=>absurd h am) (λ_=>?_);refine aB O (aB O (aB O (ay O ?_)));refine Cd.cX O (ba O (bc (kX O ?_)));refine Cd.loop (α:=Nat×Nat×LS) (λs=>[(2,.pointer A2),(4,.pointer A4),(5,.pointer A5),(8,aj (s.2.1:Int))]) (λs w'=>s.2.2.ok/\LJ aZ rel s.1 s.2.1 s.2.2.p=some y/\s.1+s.2.1=3000/\St w w' ([Bx 138 3 A5 s.2.2.cells,Bx 138 3 A4 [.slice none 0 0,.slice none 0 0,.bool false],Bx 59 2 A2 [aj aZ,.slice Ar nr cr]]++(s.2.2.iM++[]))) (λs=>s.1) (3000,0,X) (auV O) ⟨bD,by rw[hXp];exact hp,O,aO⟩ ?_;rintro⟨k,c,X⟩ e w7 ⟨bD,hc,hkc,bp⟩;dsimp only at bD hc hkc bp|-;obtain⟨q,rfl⟩:∃q,k=q+1:=by cases k with|zero=>cases hc|succ q=>exact⟨q,rfl⟩
 have hc:(if c<X.ls.length then(match H2 c X.p rel with|none=>none|some y=>match Dq c aZ 100 0 y with|none=>none|some z=>LJ aZ rel q (c+1) z)else some X.p)=some y:=hc;have O9:X.ls.length=X.m:=bD.2.2;refine aY O (aS (bp.rd 0 O) O (a6 (bp.rd 0 O) O ?_));refine aR O O (aq O ?_);refine b9 42 O (λh1=>?_) (λh1=>?_)
 ·rw[aG (by omega)]at hc
  split at hc
  case h_1=>cases hc
  rename_i y1 ux
  split at hc
  case h_1=>cases hc
  rename_i z1 Bo;refine ar O (aS (bp.rd 0 O) O (ar O (tK (bp.rd 0 O) O O O O O (ar O ?_))))
  first|refine cO rfl rfl ?_|refine dv rfl rfl ?_
  refine ay O (Cd.iw O (cM O ?_));refine Cd.loop (α:=Nat×LS) (λs=>[(2,.pointer A2),(4,.pointer A4),(5,.pointer A5),(8,aj c),(9,aj (s.1:Int))]) (λs w'=>s.2.ok/\s.1<=nr/\H2 c s.2.p (rel.drop s.1)=some y1/\St w w' ([Bx 138 3 A5 s.2.cells,Bx 138 3 A4 [.slice none 0 0,.slice none 0 0,.bool false],Bx 59 2 A2 [aj aZ,.slice Ar nr cr]]++(s.2.iM++[]))) (λs=>nr-s.1) (0,X) (auV O) ⟨bD,bl _,ux,bp⟩ ?_;rintro⟨i,X⟩ e w8 ⟨bD,hi,nk,bB⟩;dsimp only at bD hi nk bB|-;have Ah:=bB.bU hR;have O9:X.ls.length=X.m:=bD.2.2;have ko:bu w8 X.B X.m X.ls:=LS.bF bB;refine aY O (aS (bB.rd 2 O) O (a6 (bB.rd 2 O) O ?_));refine aR O O (aq O ?_);refine b9 54 O (λh2=>?_) (λh2=>?_)
  ·have Ev:i<rel.length:=by omega
   have hdr:rel.drop i=gl rel i::rel.drop (i+1):=by rw[List.drop_eq_getElem_cons Ev,df Ev]
   rw[hdr]at nk;have nk:(if 0<=(c:Int)/\(c:Int)<(X.ls.length:Int)then(if gi X.ls c=c then(match I8 X.p c (gl rel i)with|none=>none|some y=>H2 c y (rel.drop (i+1)))else some X.p)else none)=some y1:=nk
   split at nk
   case isFalse=>cases nk
   rename_i WS;refine ar O (aS (bB.rd 0 O) O (ar O (a6 (bB.rd 0 O) O ?_)));refine ar O (aq O (ar O ?_));refine aA ko.2 O (ar O (bg ko O ?_));refine ar O (aq O (ar O (aq O ?_)));refine b9 63 O (λh3=>?_) (λh3=>?_)
   ·rw[aG h3]at nk
    split at nk
    case h_1=>cases nk
    rename_i y2 b8;have br:=hR.at_ (i:=(i:Int)) ac ac;have jb:(rg gB i).n<=1000000:=by
     rw[<-br.1,df Ev];exact pQ _ (dt Ev)
    refine ar O (aS (bB.rd 0 O) O (ar O (tK (bB.rd 0 O) O O O O O (ar O ?_))))
    first|refine cO rfl rfl ?_|refine dv rfl rfl ?_
    refine ay O (Cd.iw O (cM O ?_));refine iu [7,8] [.ex (.agg #[.slice (X.A) (X.n) (X.c),.slice (X.B) (X.m) (X.cB),.bool (false)]),yI ((c:Int)),yP (aH (A2) 1),yS (Ar) (nr) (cr),yI ((i:Int)),yP (aH (Ar) ((i:Int)).toNat),yS ((rg (gB) ((i:Int))).a) ((rg (gB) ((i:Int))).n) ((rg (gB) ((i:Int))).c),.pr (λv w'=>∃x':LS,v=x'.val/\DD w [Bx 138 3 A5 X.cells,Bx 138 3 A4 [.slice none 0 0,.slice none 0 0,.bool false],Bx 59 2 A2 [aj aZ,.slice Ar nr cr]] [] y2 x' w'),.pr (λ_ w'=>∃x':LS,DD w [Bx 138 3 A5 x'.cells,Bx 138 3 A4 [.slice none 0 0,.slice none 0 0,.bool false],Bx 59 2 A2 [aj aZ,.slice Ar nr cr]] [] y2 x' w')] (ly (ly (ly (ly (ly (ly (ly (bV.2 ⟨Ye.bW (λv w w' h hb=>by obtain⟨x',hv,h1,h2,h3⟩:=h;exact⟨x',hv,h1,h2,h3.ao hb⟩),(bV.2 ⟨Ye.bW (λv w w' h hb=>by obtain⟨x',h1,h2,h3⟩:=h;exact⟨x',h1,h2,h3.ao hb⟩),(λ_ h=>by cases h)⟩)⟩)))))))) ?_ ?_
    ·refine⟨cP λ_ _ hb _ _ _=>cG 2 ((bB.rd 0 O).below hb) O O O (bA O O),bP O,cP λ_ _ hb _ _ _=>aS ((bB.rd 2 O).below hb) O (bA O O),cP λ_ _ hb _ _ _=>a6 ((bB.rd 2 O).below hb) O (bA O O),bP O,cP λ_ _ hb _ _ _=>aA (Ah.top.ao hb).2 O (bA O O),cP λ_ _ hb _ _ _=>bw (Ah.top.ao hb) O (bA O O),?_,?_,au⟩
     ·refine iF λe1 w1 hb hp aW hq=>?_
      refine aI (amU X c _ _ (rg gB i).c (gl rel i) y2 bD ((bB.ao hb).nW (pre:=[_,_,_])) (λw' h=>h.dq br) jb b8) O ?_;rintro _ w4 ⟨x',gQ,gR,rfl,hT⟩;exact ak.n (dS.dn O ⟨x',O,gQ,gR,hT.nW⟩)
     refine kB 1 λe1 w1 hp aW hq=>?_
     have cg:=hp 7 _ _ an O O an;obtain⟨x',hv,h1,h2,h3⟩:=(hp 7 _ _ an rfl rfl an);refine dU 3 0 h3 O O (by exact hv) O O O O ?_;intro eO oq;exact ak.n (dS.st O ⟨x',h1,h2,oq⟩)
    intro u w9 _ hu _ _;obtain⟨x',gQ,gR,hT⟩:=hu 8 _ rfl an;refine gq O (aJ O (aN O (tQ ?_)));exact⟨(i+1,x'),by show nr-(i+1)<nr-i;omega,(auV O),gQ,by show i+1<=nr;omega,by rw[gR];exact nk,hT⟩
   rw[aD h3]at nk;have nk:=cn nk;refine aB O (aB O (aB O (ay O ?_)));refine Cd.cX O (ba O (bc (kX O ?_)));refine Cd.loop (α:=Nat×Nat×LS) (λs=>[(2,.pointer A2),(4,.pointer A4),(5,.pointer A5),(8,aj c),(10,aj (s.2.1:Int))]) (λs w'=>s.2.2.ok/\Dq c aZ s.1 s.2.1 s.2.2.p=some z1/\s.1+s.2.1=100/\St w w' ([Bx 138 3 A5 s.2.2.cells,Bx 138 3 A4 [.slice none 0 0,.slice none 0 0,.bool false],Bx 59 2 A2 [aj aZ,.slice Ar nr cr]]++(s.2.2.iM++[]))) (λs=>s.1) (100,0,X) (auV O) ⟨bD,by rw[nk];exact Bo,O,bB⟩ ?_;rintro⟨k,g,X⟩ e w9 ⟨bD,ib,th,bj⟩;dsimp only at bD ib th bj|-;obtain⟨r,rfl⟩:∃q,k=q+1:=by cases k with|zero=>cases ib|succ q=>exact⟨q,rfl⟩
   have ib:(if g<aZ then(if 0<=(c:Int)/\(c:Int)<(X.ls.length:Int)then(if gi X.ls c=c then(match EW X.p c g with|none=>none|some (y,_)=>Dq c aZ r (g+1) y)else some X.p)else none)else some X.p)=some z1:=ib;have O9:X.ls.length=X.m:=bD.2.2;have ko:bu w9 X.B X.m X.ls:=LS.bF bj;refine aY O (aS (bj.rd 2 O) O (fX (bj.rd 2 O) O O O O O (aq O ?_)));refine b9 82 O (λh4=>?_) (λh4=>?_)
   ·rw[aG (by omega)]at ib
    split at ib
    case isFalse=>cases ib
    rename_i ajf;refine ar O (aS (bj.rd 0 O) O (ar O (a6 (bj.rd 0 O) O ?_)));refine ar O (aq O (ar O ?_));refine aA ko.2 O (ar O (bg ko O ?_));refine ar O (aq O (ar O (aq O ?_)));refine b9 91 O (λh5=>?_) (λh5=>?_)
    ·rw[aG h5]at ib
     split at ib
     case h_1=>cases ib
     rename_i y3 d3 eZ;refine ar O (aS (bj.rd 0 O) O (ar O (tK (bj.rd 0 O) O O O O O (ar O ?_))))
     first|refine cO rfl rfl ?_|refine dv rfl rfl ?_
     refine ay O (Cd.iw O (aC O (cG 2 (bj.rd 0 O) O O O (aq O (aI (QJ X c g y3 d3 bD (bj.nW (pre:=[_,_,_])) eZ) O ?_)))));rintro _ dJ ⟨x',gQ,gR,rfl,hT⟩;have hT:=hT.nW;refine aq O (we hT O ?_);intro eP eO oq;refine dU 3 0 oq O O O O O O O λgD ot=>aq O (cG 2 (ot.rd 0 O) O O O (dU 3 1 ot O O O O O O O ?_));intro jm tZ;refine aq O (aJ O (aN O (tQ ?_)));exact⟨(r,g+1,x'),Nat.lt_succ_self r,(auV O),gQ,by rw[gR];exact ib,by show r+(g+1)=100;omega,tZ.tail⟩
    rw[aD h5]at ib;have ib:=cn ib;refine aB O (aB O (aB O (ay O ?_)));refine Cd.cX O (ba O (bc (bY O (aJ O (aN O (tQ ?_))))));exact⟨(q,c+1,X),Nat.lt_succ_self q,(auV O),bD,by rw[ib];exact hc,by show q+(c+1)=3000;omega,bj⟩
   rw[aD (by omega)]at ib;have ib:=cn ib;refine aB O (aB O (aB O (aB O (aB O (aB O (aB O (aq O (aB O (aB O (aB O (ay O ?_)))))))))));refine Cd.cX O (ba O (bc (bY O (aJ O (aN O (tQ ?_))))));exact⟨(q,c+1,X),Nat.lt_succ_self q,(auV O),bD,by rw[ib];exact hc,by show q+(c+1)=3000;omega,bj⟩
  have Ev:rel.drop i=[]:=List.drop_eq_nil_of_le ac;rw[Ev]at nk;have nk:some X.p=some y1:=nk;have nk:=cn nk;refine aB O (aB O (aB O (aB O (aB O (aB O (aB O (aq O (aB O (aB O (aB O (ay O ?_)))))))))));refine Cd.cX O (ba O (bc (kX O ?_)));refine Cd.loop (α:=Nat×Nat×LS) (λs=>[(2,.pointer A2),(4,.pointer A4),(5,.pointer A5),(8,aj c),(10,aj (s.2.1:Int))]) (λs w'=>s.2.2.ok/\Dq c aZ s.1 s.2.1 s.2.2.p=some z1/\s.1+s.2.1=100/\St w w' ([Bx 138 3 A5 s.2.2.cells,Bx 138 3 A4 [.slice none 0 0,.slice none 0 0,.bool false],Bx 59 2 A2 [aj aZ,.slice Ar nr cr]]++(s.2.2.iM++[]))) (λs=>s.1) (100,0,X) (auV O) ⟨bD,by rw[nk];exact Bo,O,bB⟩ ?_;rintro⟨k,g,X⟩ e w9 ⟨bD,ib,th,bj⟩;dsimp only at bD ib th bj|-;obtain⟨r,rfl⟩:∃q,k=q+1:=by cases k with|zero=>cases ib|succ q=>exact⟨q,rfl⟩
  have ib:(if g<aZ then(if 0<=(c:Int)/\(c:Int)<(X.ls.length:Int)then(if gi X.ls c=c then(match EW X.p c g with|none=>none|some (y,_)=>Dq c aZ r (g+1) y)else some X.p)else none)else some X.p)=some z1:=ib;have O9:X.ls.length=X.m:=bD.2.2;have ko:bu w9 X.B X.m X.ls:=LS.bF bj;refine aY O (aS (bj.rd 2 O) O (fX (bj.rd 2 O) O O O O O (aq O ?_)));refine b9 82 O (λh4=>?_) (λh4=>?_)
  ·rw[aG (by omega)]at ib
   split at ib
   case isFalse=>cases ib
   rename_i ajf;refine ar O (aS (bj.rd 0 O) O (ar O (a6 (bj.rd 0 O) O ?_)));refine ar O (aq O (ar O ?_));refine aA ko.2 O (ar O (bg ko O ?_));refine ar O (aq O (ar O (aq O ?_)));refine b9 91 O (λh5=>?_) (λh5=>?_)
   ·rw[aG h5]at ib
    split at ib
    case h_1=>cases ib
    rename_i y3 d3 eZ;refine ar O (aS (bj.rd 0 O) O (ar O (tK (bj.rd 0 O) O O O O O (ar O ?_))))
    first|refine cO rfl rfl ?_|refine dv rfl rfl ?_
    refine ay O (Cd.iw O (aC O (cG 2 (bj.rd 0 O) O O O (aq O (aI (QJ X c g y3 d3 bD (bj.nW (pre:=[_,_,_])) eZ) O ?_)))));rintro _ dJ ⟨x',gQ,gR,rfl,hT⟩;have hT:=hT.nW;refine aq O (we hT O ?_);intro eP eO oq;refine dU 3 0 oq O O O O O O O λgD ot=>aq O (cG 2 (ot.rd 0 O) O O O (dU 3 1 ot O O O O O O O ?_));intro jm tZ;refine aq O (aJ O (aN O (tQ ?_)));exact⟨(r,g+1,x'),Nat.lt_succ_self r,(auV O),gQ,by rw[gR];exact ib,by show r+(g+1)=100;omega,tZ.tail⟩
   rw[aD h5]at ib;have ib:=cn ib;refine aB O (aB O (aB O (ay O ?_)));refine Cd.cX O (ba O (bc (bY O (aJ O (aN O (tQ ?_))))));exact⟨(q,c+1,X),Nat.lt_succ_self q,(auV O),bD,by rw[ib];exact hc,by show q+(c+1)=3000;omega,bj⟩
  rw[aD (by omega)]at ib;have ib:=cn ib;refine aB O (aB O (aB O (aB O (aB O (aB O (aB O (aq O (aB O (aB O (aB O (ay O ?_)))))))))));refine Cd.cX O (ba O (bc (bY O (aJ O (aN O (tQ ?_))))));exact⟨(q,c+1,X),Nat.lt_succ_self q,(auV O),bD,by rw[ib];exact hc,by show q+(c+1)=3000;omega,bj⟩
 rw[aD (by omega)]at hc;have hc:=cn hc;refine aB O (aB O (aB O (ay O ?_)));refine Cd.cX O (ba O (bc (bY O ?_)));refine cG 2 (bp.rd 0 O) O O O (dU 3 1 bp O O O O O O O ?_);intro w8 bB;refine bR O (zj O (bB.rd 1 O) ?_);refine⟨X,bD,hc,O,?_⟩;have h5:=((bB.sub ((fD _).cons _)).sub ((fD _).cons _)).sub ((fD _).cons _)
 rwa[dQ]at h5
def sk(n i:Nat):ah:=(List.range n).map λj=>if 0<j/\j<i then-1 else 0
theorem alB(n:Nat):sk n 1=List.replicate n 0:=by
 apply iC
 ·simp[sk]
 intro j h1 h2;simp only[sk,List.getElem_map,List.getElem_range,List.getElem_replicate];rw[aD (by omega)]
theorem alC{n i:Nat}(h0:0<i):(sk n i).set i (-1)=sk n (i+1):=by
 apply iC
 ·simp[sk]
 intro j h1 h2;rw[List.getElem_set];simp only[sk,List.getElem_map,List.getElem_range]
 split
 ·rename_i e;subst e;rw[aG (by omega)]
 rename_i e
 by_cases hj:0<j/\j<i
 ·rw[aG hj,aG (by omega)]
 rw[aD hj,aD (by omega)]
def H6(y:PS)(c:Int)(aZ:Nat):Nat->Nat->ah->ah->Option (ah×ah)
 |0,_,_,_=>none
 |k+1,g,ord,num=>if g<aZ then(match pT y c g with
  |none=>none
  |some d=>if 0<=d/\d<(num.length:Int)/\ord.length<1000000 then(if gi num d<0 then H6 y c aZ k (g+1) (ord++[d]) (num.set d.toNat (ord.length:Int))else H6 y c aZ k (g+1) ord num)else none)else some (ord,num)
def H7(y:PS)(aZ:Nat):Nat->Nat->ah->ah->Option (ah×ah)
 |0,_,_,_=>none
 |k+1,i,ord,num=>if i<ord.length then(match H6 y (gi ord i) aZ 100 0 ord num with
  |none=>none
  |some (o,n)=>H7 y aZ k (i+1) o n)else some (ord,num)
def LI(y:PS)(num:ah)(g:Nat):ah->Option (ah)
 |[]=>some []
 |c::r=>match pT y c g with
  |none=>none
  |some d=>if 0<=d/\d<(num.length:Int)then(match LI y num g r with|none=>none|some l=>some (gi num d::l))else none
def Lm(y:PS)(num ord:ah)(aZ:Nat):Nat->Nat->Option (ag)
 |0,_=>none
 |k+1,g=>if g<aZ then(match LI y num g ord with|none=>none|some r=>match Lm y num ord aZ k (g+1)with|none=>none|some l=>some (r::l))else some []
def uR(aZ:Nat)(rel:ag):Option (ag):=
 match RN aZ rel with
 |none=>none
 |some y=>if y.ls.length<=100000 then(match H7 y aZ 100000 0 [0] (sk y.ls.length y.ls.length)with
  |none=>none
  |some (ord,num)=>if ord.length<=1000000 then Lm y num ord aZ 100 0 else none)else none
theorem am0(aZ:Nat)(Ar:ai)(nr cr:Nat)(gB:List aE)(rel:ag)(T:ag)(w:aa)(hR:bH w Ar nr gB rel)(pQ:∀x∈rel,x.length<=1000000)(wV:nr<=1000000)(hp:uR aZ rel=some T):
 aF prog 76 [.agg #[aj aZ,.slice Ar nr cr],.slice none 0 0] w (λv w'=>∃A c rs,v=.tuple #[.slice A T.length c,.bool true]/\rs.length=T.length/\St w w' (aV 27 2 A T.length c rs T)):=by
 unfold uR at hp
 split at hp
 case h_1=>cases hp
 rename_i y hy
 split at hp
 case isFalse=>cases hp
 rename_i nO
 split at hp
 case h_1=>cases hp
 rename_i aag Z5 nm
 split at hp
 case isFalse=>cases hp
 rename_i G8;refine bn func76 O ntmps76 O (mI O) (aY O (nB (St.refl w) O O ?_));intro A2 w1 ax;refine aq O (cG 1 (ax.rd 0 O) O O O (aq O (aI (amY aZ Ar nr cr gB rel none 0 y _ (ax.bU hR) pQ wV hy) O ?_)));rintro _ w2 ⟨x,bD,C5,rfl,aw⟩;have az:=ax.call aw;refine we az O λA6 w3 aM=>dU 3 0 aM O O O O O O O ?_;intro w4 aU;have aU:St w w4 ([Bx 138 3 A6 x.cells]++(x.iM++[Bx 59 2 A2 [aj aZ,.slice Ar nr cr]])):=aU;have hI:bH w4 x.A x.n x.rs x.im:=LS.fO bD aU;have hL:bu w4 x.B x.m x.ls:=LS.bF aU;have Cr:=aU.rd 0 O;have iz:Rd w4 A2 2 (λj=>[Value.int .i64 (aZ:Int),.slice Ar nr cr].getD j undef):=(aU.sub (List.singleton_sublist.2 (by simp:Bx 59 2 A2 [aj aZ,.slice Ar nr cr]∈_))).rd 0 O;subst C5;have pS:x.ls.length=x.m:=bD.2.2;have nO:x.ls.length<=100000:=nO;have nm:H7 x.p aZ 100000 0 [0] (sk x.ls.length x.ls.length)=some (aag,Z5):=nm;rw[pS]at nm nO;refine aq O (aS Cr O (tK Cr O O O O O (ay O (Cd.cX O (aC O (eh (St.refl w4) O O O ?_))))));intro A7 w5 k7;have VY:=Rd.below Cr k7.below;refine aq O (aS VY O (a6 VY O (aR O O (FG x.m k7 O O ac ?_))));intro A8 w6 k8;rw[<-alB]at k8;refine ay O (Cd.loop (α:=Nat) (λi=>[(2,.pointer A2),(6,.pointer A6),(7,.slice A7 1 1),(8,.slice A8 x.m x.m),(9,aj i)]) (λi w'=>St w4 w' [av 2 A8 x.m x.m (sk x.m i),av 2 A7 1 1 [0]]/\1<=i/\(i<=x.m\/i=1)) (λi=>x.m-i) 1 (auV O) ⟨k8,cJ _,.inr O⟩ ?_);rintro i e w7 ⟨o4,kP,tf⟩;refine aY O (aR O O (ay O ?_));refine aK _ O (λh1=>?_) (λh1=>?_)
 ·have Ea:=o4.bF 0 O;refine aC O (aA Ea.2 O (ak.oL 0 o4 O O O ac ?_));intro w8 o5;rw[gx,alC (by omega)]at o5;refine aq O (aJ O (aN O (tQ ?_)));exact⟨i+1,ac,(auV O),o5,ac,ac⟩
 have cE:sk x.m i=sk x.m x.m:=by
  unfold sk;apply ki;intro j hj;have hj:=fo.1 hj
  by_cases h:0<j
  ·rw[aG (by omega),aG (by omega)]
  rw[aD (by omega),aD (by omega)]
 rw[cE]at o4;refine ba O (bc (kX O ?_));refine Cd.loop (α:=Nat×Nat×ai×Nat×ah×ah) (λs=>[(2,.pointer A2),(6,.pointer A6),(7,.slice s.2.2.1 s.2.2.2.2.1.length s.2.2.2.1),(8,.slice A8 x.m x.m),(10,aj (s.2.1:Int))]) (λs w'=>St w4 w' [av 2 A8 x.m x.m s.2.2.2.2.2,av 2 s.2.2.1 s.2.2.2.2.1.length s.2.2.2.1 s.2.2.2.2.1]/\s.1+s.2.1=100000/\H7 x.p aZ s.1 s.2.1 s.2.2.2.2.1 s.2.2.2.2.2=some (aag,Z5)) (λs=>s.1) (100000,0,A7,1,[0],sk x.m x.m) (auV O) ⟨o4,O,nm⟩ ?_;rintro⟨k,i,A7,c7,ord,num⟩ e w8 ⟨o5,fV,nm⟩;dsimp only at o5 fV nm|-;obtain⟨q,rfl⟩:∃q,k=q+1:=by cases k with|zero=>cases nm|succ q=>exact⟨q,rfl⟩
 rw[H7]at nm;refine aY O (aR O O (ay O ?_));refine aK _ O (λh2=>?_) (λh2=>?_)
 ·rw[aG (by omega)]at nm
  split at nm
  case h_1=>cases nm
  rename_i o2 n2 oB;refine cM O ?_;refine Cd.loop (α:=Nat×Nat×ai×Nat×ah×ah) (λs=>[(2,.pointer A2),(6,.pointer A6),(7,.slice s.2.2.1 s.2.2.2.2.1.length s.2.2.2.1),(8,.slice A8 x.m x.m),(10,aj i),(11,aj (s.2.1:Int))]) (λs w'=>St w4 w' [av 2 A8 x.m x.m s.2.2.2.2.2,av 2 s.2.2.1 s.2.2.2.2.1.length s.2.2.2.1 s.2.2.2.2.1]/\s.1+s.2.1=100/\i<s.2.2.2.2.1.length/\gi s.2.2.2.2.1 i=gi ord i/\H6 x.p (gi ord i) aZ s.1 s.2.1 s.2.2.2.2.1 s.2.2.2.2.2=some (o2,n2)) (λs=>s.1) (100,0,A7,c7,ord,num) (auV O) ⟨o5,O,by show i<ord.length;omega,O,oB⟩ ?_;rintro⟨kk,g,A7,c7,jL,num⟩ e w9 ⟨fg,th,CN,qx,oB⟩;dsimp only at fg th CN qx oB|-;obtain⟨r,rfl⟩:∃q,kk=q+1:=by cases kk with|zero=>cases oB|succ q=>exact⟨q,rfl⟩
  rw[H6]at oB;have VX:=Rd.below iz fg.below;have ah0:=Rd.below Cr fg.below;have mr:=fg.bU hI;have hL9:=fg.dq hL;have Wk:=fg.bF 1 O;have hN9:=fg.bF 0 O;have gP:num.length=x.m:=hN9.1;refine aY O (aS VX O (fX VX O O O O O (ay O ?_)));refine aK _ O (λh3=>?_) (λh3=>?_)
  ·rw[aG (by omega)]at oB
   split at oB
   case h_1=>cases oB
   rename_i d hd
   split at oB
   case isFalse=>cases oB
   rename_i hdb;rw[<-qx]at hd;refine cM O (ec [.ex (.agg #[.slice (x.A) (x.n) (x.c),.slice (x.B) (x.m) (x.cB),.bool (false)]),xS (A7) (jL.length) (c7),xI ((i:Int)),xP (aH (A7) ((i:Int)).toNat),xI (gi (jL) ((i:Int))),xI ((g:Int)),xI (d),xI (d)] O (eK O) ?_ ?_)
   ·refine⟨λ_ _ hb _ _=>cG 2 (ah0.below hb) O O O Az,Dr O,Dr O,λ_ _ hb _ _=>aA (Wk.ao hb).2 O Az,λ_ _ hb _ _=>bg (Wk.ao hb) O Az,Dr O,?_,Dr O,au⟩;intro e1 w1 hb hp aW;refine aI (HD x.rs x.im x.ls _ g d _ (mr.ao hb) (hL9.ao hb) hd) O ?_;rintro _ w2 ⟨rfl,aw⟩;refine ak.n ?_;exact gk.dn aw.below ap
   intro u dJ aiY _;have tY:=fg.ao aiY;have OX:=tY.bF 0 O;refine gq O (aA OX.2 O (bg OX O (ay O ?_)));refine aK _ O (λh4=>?_) (λh4=>?_)
   ·rw[aG h4]at oB;refine aC O (aR O O ?_);refine aA OX.2 O (ak.oL 0 tY O O O ac ?_);intro eO oq;have oq:St w4 eO [av 2 A8 x.m x.m (num.set d.toNat (jL.length:Int)),av 2 A7 jL.length c7 jL]:=oq;refine aq O (eh oq O O O ?_);intro rT gD ot;refine eQ 2 ot O (ot.bF 0 O) O O O ?_;intro ig kj jm tZ;have tZ:St w4 jm [av 2 A8 x.m x.m (num.set d.toNat (jL.length:Int)),av 2 ig (jL.length+1) kj (jL++[d])]:=tZ.tail;refine aq O (aJ O (aN O (tQ ?_)));refine⟨(r,g+1,ig,kj,jL++[d],num.set d.toNat (jL.length:Int)),Nat.lt_succ_self r,⟨O,O,by show Value.slice _ _ _=.slice _ _ _;rw[List.length_append];rfl,O,O,O,trivial⟩,by dsimp only;rw[List.length_append];exact tZ,by show r+(g+1)=100;omega,by show i<(jL++[d]).length;rw[List.length_append];omega,?_,oB⟩;show gi (jL++[d]) i=_;rw[<-qx,b7 (by rw[cj];omega),b7 CN,List.getElem_append_left CN]
   rw[aD h4]at oB;refine aC O (aJ O (aN O (tQ ?_)));exact⟨(r,g+1,A7,c7,jL,num),Nat.lt_succ_self r,(auV O),tY,by show r+(g+1)=100;omega,CN,qx,oB⟩
  rw[aD (by omega)]at oB;have oB:=cn oB;simp only[Prod.mk.injEq]at oB;obtain⟨rfl,rfl⟩:=oB;refine ba O (bc (bY O (aJ O (aN O (tQ ?_)))));exact⟨(q,i+1,A7,c7,jL,num),Nat.lt_succ_self q,(auV O),fg,by show q+(i+1)=100000;omega,nm⟩
 rw[aD (by omega)]at nm;have nm:=cn nm;simp only[Prod.mk.injEq]at nm;obtain⟨rfl,rfl⟩:=nm;have hN8:=o5.bF 0 O;have gP:num.length=x.m:=hN8.1;refine ba O (bc (bY O ?_));refine jy o5 O ?_;intro ig w9 fg;have fg:St w4 w9 (aV 27 2 ig 0 0 [] []++[av 2 A8 x.m x.m num,av 2 A7 ord.length c7 ord]):=fg;have hol2:ord.length<=1000000:=G8;refine ay O (Cd.loop (α:=Nat×Nat×ai×Nat×List aE×ag) (λs=>[(2,.pointer A2),(6,.pointer A6),(7,.slice A7 ord.length c7),(8,.slice A8 x.m x.m),(13,.slice s.2.2.1 s.2.1 s.2.2.2.1),(14,aj (s.2.1:Int))]) (λs w'=>St w4 w' (aV 27 2 s.2.2.1 s.2.1 s.2.2.2.1 s.2.2.2.2.1 s.2.2.2.2.2++[av 2 A8 x.m x.m num,av 2 A7 ord.length c7 ord])/\s.1+s.2.1=100/\s.2.2.2.2.1.length=s.2.1/\s.2.2.2.2.2.length=s.2.1/\∃l,Lm x.p num ord aZ s.1 s.2.1=some l/\s.2.2.2.2.2++l=T) (λs=>s.1) (100,0,ig,0,[],[]) (auV O) ⟨fg,O,O,O,T,hp,O⟩ ?_);rintro⟨k,g,B,cB,rs,xss⟩ e dJ ⟨tY,th,bT,cT,l,uh,J7⟩;dsimp only at tY th bT cT uh J7|-;obtain⟨q,rfl⟩:∃q,k=q+1:=by cases k with|zero=>cases uh|succ q=>exact⟨q,rfl⟩
 rw[Lm]at uh;have VW:=Rd.below iz tY.below;refine aY O (aS VW O (fX VW O O O O O (ay O ?_)));refine aK _ O (λh5=>?_) (λh5=>?_)
 ·rw[aG (by omega)]at uh
  split at uh
  case h_1=>cases uh
  rename_i row br
  split at uh
  case h_1=>cases uh
  rename_i l2 akp;obtain rfl:=cn uh;refine aC O (jy tY O ?_);intro gK eO oq;refine ay O (Cd.loop (α:=Nat×ai×Nat×ah) (λs=>[(2,.pointer A2),(6,.pointer A6),(7,.slice A7 ord.length c7),(8,.slice A8 x.m x.m),(13,.slice B g cB),(14,aj g),(15,.slice s.2.1 s.1 s.2.2.1),(16,aj (s.1:Int))]) (λs w'=>St w4 w' (av 2 s.2.1 s.1 s.2.2.1 s.2.2.2::(aV 27 2 B g cB rs xss++[av 2 A8 x.m x.m num,av 2 A7 ord.length c7 ord]))/\s.1<=ord.length/\s.2.2.2.length=s.1/\∃l,LI x.p num g (ord.drop s.1)=some l/\s.2.2.2++l=row) (λs=>ord.length-s.1) (0,gK,0,[]) (auV O) ⟨oq,bl _,O,row,br,O⟩ ?_);rintro⟨j,gK,mU,acc⟩ e gD ⟨ot,hj,kD,l3,ug,J6⟩;dsimp only at ot hj kD ug J6|-;refine aY O (aR O O (ay O ?_));refine aK _ O (λh6=>?_) (λh6=>?_)
  ·have GU:j<ord.length:=by omega
   rw[List.drop_eq_getElem_cons GU,<-b7 GU]at ug;simp only[LI]at ug
   split at ug
   case h_1=>cases ug
   rename_i d hd
   split at ug
   case isFalse=>cases ug
   rename_i hdb
   split at ug
   case h_1=>cases ug
   rename_i l4 hl4;obtain rfl:=cn ug;have ahZ:=Rd.below Cr ot.below;have aia:=ot.bU hI;have aic:=ot.dq hL;have dz:St w4 gD ([av 2 A8 x.m x.m num,av 2 A7 ord.length c7 ord]++(av 2 gK j mU acc::aV 27 2 B g cB rs xss)):=ot.perm (gL (l₁:=av 2 gK j mU acc::aV 27 2 B g cB rs xss));have Wh:=dz.bF 1 O;have We:=dz.bF 0 O;refine cM O ?_;refine iu [12] [yS (gK) (j) (mU),yS (A8) (x.m) (x.m),.ex (.agg #[.slice (x.A) (x.n) (x.c),.slice (x.B) (x.m) (x.cB),.bool (false)]),yS (A7) (ord.length) (c7),yI ((j:Int)),yP (aH (A7) ((j:Int)).toNat),yI (gi (ord) ((j:Int))),yI ((g:Int)),yI (d),yP (aH (A8) (d).toNat),yI (gi (num) (d)),.pr (λv w'=>∃uV,v=.slice uV 1 1/\St w4 w' (av 2 uV 1 1 [gi num d]::av 2 gK j mU acc::(aV 27 2 B g cB rs xss++[av 2 A8 x.m x.m num,av 2 A7 ord.length c7 ord]))),.pr (λv w'=>∃kh k4,v=.slice kh (j+1) k4/\St w4 w' (av 2 kh (j+1) k4 (acc++[gi num d])::(aV 27 2 B g cB rs xss++[av 2 A8 x.m x.m num,av 2 A7 ord.length c7 ord]))),.pr (λv w'=>∃kh k4,v=.slice kh (j+1) k4/\St w4 w' (av 2 kh (j+1) k4 (acc++[gi num d])::(aV 27 2 B g cB rs xss++[av 2 A8 x.m x.m num,av 2 A7 ord.length c7 ord])))] (ly (ly (ly (ly (ly (ly (ly (ly (ly (ly (ly (bV.2 ⟨Ye.bW (λv w w' h hb=>by obtain⟨uV,hv,h1⟩:=h;exact⟨uV,hv,h1.ao hb⟩),(bV.2 ⟨Ye.bW (λv w w' h hb=>by obtain⟨kh,k4,hv,h1⟩:=h;exact⟨kh,k4,hv,h1.ao hb⟩),(bV.2 ⟨Ye.bW (λv w w' h hb=>by obtain⟨kh,k4,hv,h1⟩:=h;exact⟨kh,k4,hv,h1.ao hb⟩),(λ_ h=>by cases h)⟩)⟩)⟩)))))))))))) ?_ ?_
   ·refine⟨?_,bP O,cP λ_ _ hb _ _ _=>cG 2 (ahZ.below hb) O O O (bA O O),bP O,bP O,cP λ_ _ hb _ _ _=>aA (Wh.ao hb).2 O (bA O O),cP λ_ _ hb _ _ _=>bg (Wh.ao hb) O (bA O O),bP O,?_,cP λ_ _ hb _ _ _=>aA (We.ao hb).2 O (bA O O),cP λ_ _ hb _ _ _=>bg (We.ao hb) O (bA O O),?_,?_,?_,au⟩
    ·intro e1 w1 cc eL cI dC hp aW hq;show ak _ _ _ _ _ _ _;refine mm O (by exact aW 13 _ O an) O (ak.n (fp O ap))
    ·refine cP λe1 w1 hb hp aW hq=>?_
     refine aI (HD x.rs x.im x.ls _ g d _ (aia.ao hb) (aic.ao hb) hd) O ?_;rintro _ w2 ⟨rfl,aw⟩;refine ak.n ?_;exact eD.dn O aw.below ap
    ·refine cP λe1 w1 hb hp aW hq=>?_
     exact eh (St.refl _) O O O λuV uT Bi=>ak.n (eD.dn O Bi.below ⟨uV,O,(ot.ao hb).call Bi⟩)
    ·refine iF λe1 w1 hb hp aW hq=>?_
     obtain⟨uV,hv,h1⟩:=(hp 11 _ _ an rfl rfl an);refine eQ 1 h1 O (h1.bF 0 O) O (by exact hv) O ?_;intro kh k4 Fk aiI;exact ak.n (dS.dn O ⟨kh,k4,O,aiI.tail⟩)
    refine dP 1 λe1 w1 hp aW hq=>?_
    have cg:=hp 12 _ _ an O O an;obtain⟨kh,k4,hv,h1⟩:=(hp 12 _ _ an rfl rfl an);refine mm O (by exact hv) O (ak.n ?_);exact eD.dn O (Below.refl _ _) ⟨kh,k4,O,h1⟩
   intro u jm _ hu _ _;obtain⟨kh,k4,hv,tZ⟩:=hu 13 _ rfl an;refine gq O (aJ O (aN O (tQ ?_)));exact⟨(j+1,kh,k4,acc++[gi num d]),ac,⟨O,O,O,O,O,O,hv,O,au⟩,tZ,by show j+1<=ord.length;omega,by show(acc++[gi num d]).length=j+1;rw[cj,kD];rfl,l4,hl4,by show(acc++[gi num d])++l4=row;rw[<-J6,ef];rfl⟩
  have gp:j=ord.length:=by omega
  rw[List.drop_eq_nil_of_le (by omega)]at ug;obtain rfl:=cn ug;rw[dQ]at J6;subst J6;refine ba O (bc (bY O ?_));refine jW ot O O O λfA jm tZ=>iT 2 tZ O (tZ.dm 0 O) O O O ac ac O ?_;intro vV MZ qZ O2;have O2:St w4 qZ (av 2 gK j mU acc::aX 27 vV (g+1) MZ (rs++[⟨gK,j,mU⟩])::(cC 2 rs xss++[av 2 A8 x.m x.m num,av 2 A7 ord.length c7 ord])):=O2.tail;refine aq O (aJ O (aN O (tQ ?_)));refine⟨(q,g+1,vV,MZ,rs++[⟨gK,j,mU⟩],xss++[acc]),Nat.lt_succ_self q,(auV O),?_,by show q+(g+1)=100;omega,by simp[bT],by simp[cT],l2,akp,by show(xss++[acc])++l2=T;rw[<-J7,ef];rfl⟩;show St w4 qZ (aX 27 vV (g+1) MZ (rs++[⟨gK,j,mU⟩])::(cC 2 (rs++[⟨gK,j,mU⟩]) (xss++[acc])++[av 2 A8 x.m x.m num,av 2 A7 ord.length c7 ord]));rw[tA (by omega),ef];refine O2.perm ?_;refine(List.Perm.swap _ _ _).trans (List.Perm.cons _ ?_);exact mO.symm
 rw[aD (by omega)]at uh;obtain rfl:=cn uh;rw[dQ]at J7;subst J7;refine ba O (bc (ew O ?_));refine RG O O ?_;refine⟨B,cB,rs,by rw[cT],ac,?_⟩;have h9:St w4 dJ (aV 27 2 B g cB rs xss):=tY.sub (ny _ _);have ik:=aU.call h9;rw[cT];exact ik.sub (ny _ _)
section
variable{t:ad}{b b0 b1 b2:Nat}{bs:ah}
variable {P:Program}{N:Nat}{ops:Array Oper}{K:Env->aa->Prop}{rest:List Oper}{e:Env}{w0 w w':aa}{ks:List Ck}{d:Nat}{ty:ad}{pos:String}{af:Array Edge}
theorem acI{el:ad}{x:ae}{v0 v1 v2:ab}(hS:St w0 w ks)(hx:ev e x=.agg #[v0,v1,v2])(hb:Nat.blt d N=true)(hK:∀A w',St w0 w' (Bx el 3 A [v0,v1,v2]::ks)->ak P N ops K rest (bE e d (.pointer A)) w')(hM:eV [v0,v1,v2]=false:=by rfl):ak P N ops K (⟨some d,.box el x,ty,pos,af,none⟩::rest) e w:=.FQ hS hx hb rfl hK hM
variable {x y:ae}{xt yt:ad}{i j:Int}
theorem abV(i:Int):0<=IntKind.u64.wrap i/\IntKind.u64.wrap i<=18446744073709551615:=by rw[IntKind.wrap_u64];omega
theorem MA(hx:ev e x=.int .u64 i)(hy:ev e y=.int .u64 j)(hb:Nat.blt d N=true)(hK:∀r:Int,0<=r/\r<=18446744073709551615->ak P N ops K rest (bE e d (.int .u64 r)) w):
 ak P N ops K (⟨some d,.binOp .mul xt x y yt,ty,pos,af,none⟩::rest) e w:=
 .val (by simp[execOp,hx,hy,eqGuard,binOp,Op.intArith]) hb (hK _ (abV (i*j)))
theorem Iv(hx:ev e x=.int .u64 i)(hy:ev e y=.int .u64 j)(hb:Nat.blt d N=true)(hK:∀r:Int,0<=r/\r<=18446744073709551615->ak P N ops K rest (bE e d (.int .u64 r)) w):
 ak P N ops K (⟨some d,.binOp .add xt x y yt,ty,pos,af,none⟩::rest) e w:=
 .val (by simp[execOp,hx,hy,eqGuard,binOp,Op.intArith]) hb (hK _ (abV (i+j)))
theorem aec(i:Int):0<=bits .and .u64 i 16777215/\bits .and .u64 i 16777215<=16777215:=by
 have h:∀a:BitVec 64,(a &&& BitVec.ofInt 64 16777215).toNat<=16777215:=λa=>by
  rw[BitVec.toNat_and];exact Nat.and_le_right
 have e:bits .and .u64 i 16777215=IntKind.u64.wrap ((BitVec.ofInt 64 i &&& BitVec.ofInt 64 16777215).toNat:Int):=O;have:=h (BitVec.ofInt 64 i);rw[e,IntKind.wrap_u64];omega
theorem acA(hx:ev e x=.int .u64 i)(hy:ev e y=.int .u64 16777215)(hb:Nat.blt d N=true)(hK:∀r:Int,0<=r/\r<=16777215->ak P N ops K rest (bE e d (.int .u64 r)) w):
 ak P N ops K (⟨some d,.binOp .and xt x y yt,ty,pos,af,none⟩::rest) e w:=
 .val (by simp only[execOp,hx,hy,eqGuard,binOp,intBits_and];simp) hb (hK _ (aec i))
theorem acZ{k:IntKind}(hx:ev e x=.int .u64 i)(hy:ev e y=.int k 33)(hb:Nat.blt d N=true)(hK:∀r:Int,ak P N ops K rest (bE e d (.int .u64 r)) w):
 ak P N ops K (⟨some d,.binOp .shr xt x y yt,ty,pos,af,none⟩::rest) e w:=by
 refine .val (v:=.int .u64 (i.fdiv (2^33))) ?_ hb (hK _);have e1:min 33 IntKind.u64.bits=33:=by decide
 simp[execOp,hx,hy,eqGuard,binOp,Op.shift,e1]
def vf(w:aa)(A:ai)(n:Nat)(bs:ah):Prop:=bs.length=n/\(∀b∈bs,0<=b/\b<=255)/\Rd w A n (λj=>.int .u8 (bs.getD j 0))
theorem vf.below{w w':aa}{A:ai}{n:Nat}(h:vf w A n bs)(hb:Below w.heap.size w w'):vf w' A n bs:=⟨h.1,h.2.1,Rd.below h.2.2 hb⟩
theorem vf.at_{A:ai}{n:Nat}(h:vf w A n bs){j:Int}(h0:0<=j)(h1:j<n):0<=bs.getD j.toNat 0/\bs.getD j.toNat 0<=255:=by
 have hl:j.toNat<bs.length:=by rw[h.1];omega
 rw[b5,fL hl];exact h.2.1 _ (dt hl)
theorem Tn{u:TypeDesc}[bJ P t u]{A:ai}{n:Nat}(hR:vf w A n bs)(hx:ev e x=.pointer (aH A i.toNat))(h1:i.toNat<n)(hp:xv u=true)(hb:Nat.blt d N=true)(hK:ak P N ops K rest (bE e d (.int .u8 (bs.getD i.toNat 0))) w):ak P N ops K (⟨some d,.load t x,ty,pos,af,none⟩::rest) e w:=
 .ld hR.2.2 hx h1 rfl hp hb hK
def EM:Nat->ah->List (Nat×ab)
 |_,[]=>[]
 |k,v::r=>(k,.int .i64 v)::EM (k+1) r
theorem U4:∀(vs:ah)(k:Nat)(cells:Array ab),k+vs.length<=cells.size->∃out,Instr.fill (λi=>some (i*1,1)) cells (EM k vs)=some out/\out.size=cells.size/\(∀j,j<k->out[j]?=cells[j]?)/\(∀j,j<vs.length->out[k+j]?=vs[j]?.map (Value.int .i64))/\(∀j,k+vs.length<=j->out[j]?=cells[j]?)
 |[],k,cells,_=>⟨cells,rfl,rfl,λ_ _=>rfl,λj hj=>absurd hj (kY _),λ_ _=>rfl⟩
 |v::r,k,cells,h=>by
  have hk:k<cells.size:=by simp at h;omega
  obtain⟨out,h1,h2,h3,h4,h5⟩:=U4 r (k+1) (cells.setIfInBounds k (aj v)) (by simp at h|-;omega);refine⟨out,?_,by rw[h2];simp,λj hj=>?_,λj hj=>?_,λj hj=>?_⟩
  ·show Instr.fill _ cells ((k,aj v)::EM (k+1) r)=some out;rw[<-h1];simp[Instr.fill,Value.cells,show ¬cells.size<k+1 by omega]
  ·rw[h3 j (by omega),zC,aD (by omega)]
  ·cases j with
   |zero=>rw[Nat.add_zero,h3 k (by omega),zC,aG rfl,aG hk];rfl
   |succ q=>
    have:=h4 q (by simpa using hj);rw[show k+(q+1)=k+1+q by omega,this]
    rfl
  ·rw[h5 j (by simp at hj|-;omega),zC,aD (by simp at hj;omega)]
theorem agx(vs:ah)(cells:Array ab)(h:cells.size=vs.length):Instr.fill (λi=>some (i*1,1)) cells (EM 0 vs)=some (vs.map (Value.int .i64)).toArray:=by
 obtain⟨out,h1,h2,_,h4,_⟩:=U4 vs 0 cells ac;rw[h1]
 congr 1
 apply Array.ext';apply List.ext_getElem?;intro j
 by_cases hj:j<vs.length
 ·have:=h4 j hj;rw[Nat.zero_add]at this;simpa using this
 rw[oP (by simpa[h2,h]using hj),oP (by simpa using hj)]
theorem rh{el:ad}{z:ab}{n:Nat}[bJ P t (.slice el)][bL P el z 1 b]{ps:Array (Nat×ae)}(vs:ah)(hS:St w0 w ks)(hv:(ps.toList.map λp=>(p.1,ev e p.2))=EM 0 vs)(hn:vs.length=n)(pP:n≠0)(CR:n<=1000)(hz:z.cells= #[z])(hb:Nat.blt d N=true)(hK:∀A w',St w0 w' (av el A n n vs::ks)->ak P N ops K rest (bE e d (.slice A n n)) w'):ak P N ops K (⟨some d,.buildSlice t n ps,ty,pos,af,none⟩::rest) e w:=by
 subst hn;obtain⟨inf,hi,eN,hs,iI⟩:=bL.get P el;have hA:=hS.alloc (vs.map (Value.int .i64)) el (by simp[maxLen];omega) (vH _);refine .val (w':=w.alloc (.cells (vs.map (Value.int .i64)).toArray el)) ?_ hb (hK _ _ (by simpa[av]using hA));have hf:=agx vs ((Array.range (vs.length*1)).map ((#[z]:Array ab)[· % (#[z]:Array ab).size]!)) (by simp);have hv':(ps.map λp=>(p.1,ev e p.2)).toList=EM 0 vs:=by rw[Array.toList_map];exact hv
 have zX:¬16777216<vs.length:=by omega
 simp only[Nat.mul_one]at hf;simp[execOp,Instr.buildSlice,run_underlying (bJ.out (P:=P) (t:=t)),sizeOf,typeInfo,zeroValue,hi,hs,eN,hz,newRow,hv,zX,pP];simp at hf;simp[hf]
theorem acH{f0 f1 f2:Field}{z0 z1 z2 y0 y1 y2:ab}[bJ P t (.struct #[f0,f1,f2])][bL P t (.agg #[z0,z1,z2]) 3 b]{x0 x2:ae}{v0 v2:ab}(oY:bL P f0.type y0 1 b0)(nJ:bL P f1.type y1 1 b1)(qu:bL P f2.type y2 1 b2)(ho:f0.offset=0)(qH:f1.offset=1)(G6:f2.offset=2)(h0:ev e x0=v0)(h2:ev e x2=v2)(c0:v0.oneCell'=true)(c2:v2.oneCell'=true)(hb:Nat.blt d N=true)(hK:ak P N ops K rest (bE e d (.agg #[v0,z1,v2])) w):ak P N ops K (⟨some d,.build t #[(0,x0),(2,x2)],ty,pos,af,none⟩::rest) e w:=by
 obtain⟨inf,hi,eN,hs,iI⟩:=bL.get P t;obtain⟨yX,eU,_,l7,_⟩:=oY.get P f0.type;obtain⟨Bs,kP,_,pR,_⟩:=nJ.get P f1.type;obtain⟨Hy,tf,_,o8,_⟩:=qu.get P f2.type;have e0:v0.cells= #[v0]:=by cases v0<;>simp[Value.oneCell']at c0<;>rfl
 have e2:v2.cells= #[v2]:=by cases v2<;>simp[Value.oneCell']at c2<;>rfl
 have ez:(Value.agg #[z0,z1,z2]).cells= #[z0,z1,z2]:=O;refine .val (w':=w) ?_ hb hK;simp[execOp,Instr.build,run_underlying (bJ.out (P:=P) (t:=t)),sizeOf,typeInfo,zeroValue,hi,eN,eU,l7,kP,pR,tf,o8,ho,qH,G6,h0,e0,h2,e2,ez,Instr.fill]
end
end
section
structure FK where
 f:Nat
 k:Nat
 B:ai
 n:Nat
 c:Nat
 rs:List aE
 xss:ag
end
section
open Go.RowKit
def zi(labels:ah)(i k:Nat):ag:=
 if 0<(if k=i+1 then gi labels i else 2)then[pow [(i:Int),(k:Int)] (if k=i+1 then gi labels i else 2).toNat]else[]
def xw(labels:ah)(aZ i:Nat):Nat->Nat->ag
 |0,_=>[]
 |f+1,k=>if k<aZ then zi labels i k++xw labels aZ i f (k+1)else[]
def uG(labels:ah)(aZ:Nat):Nat->Nat->ag
 |0,_=>[]
 |f+1,i=>if i<aZ then xw labels aZ i f (i+1)++uG labels aZ f (i+1)else[]
def dO(labels:ah):ag:=uG labels (labels.length+1) 20 0
theorem am4(A:ai)(n c:Nat)(w:aa)(hn:n<=1000):aF prog 74 [.slice A n c] w (λv w'=>v=aj ((n:Int)+1)/\w'=w):=by
 refine bn func74 O ntmps74 O (bM O) ?_;refine aY O (aR O O (aJ O (bR O ?_)));exact gj O ⟨O,O⟩
section
variable {P:Program}{N:Nat}{ops:Array Oper}{K:Env->aa->Prop}{rest:List Oper}{e:Env}{w0 w w':aa}{ks:List Ck}{d:Nat}{ty:ad}{pos:String}{af:Array Edge}
theorem Iw{t:ad}{f0 f1:Field}{z0 z1 y0 y1:ab}{b b0 b1:Nat}[bJ P t (.struct #[f0,f1])][bL P t (.agg #[z0,z1]) 2 b]{x0:ae}{v0:ab}(oY:bL P f0.type y0 1 b0)(nJ:bL P f1.type y1 1 b1)(ho:f0.offset=0)(qH:f1.offset=1)(h0:ev e x0=v0)(c0:v0.oneCell'=true)(hb:Nat.blt d N=true)(hK:ak P N ops K rest (bE e d (.agg #[v0,z1])) w):ak P N ops K (⟨some d,.build t #[(0,x0)],ty,pos,af,none⟩::rest) e w:=by
 obtain⟨inf,hi,eN,hs,iI⟩:=bL.get P t;obtain⟨yX,eU,_,l7,_⟩:=oY.get P f0.type;obtain⟨Bs,kP,_,pR,_⟩:=nJ.get P f1.type;have e0:v0.cells= #[v0]:=by cases v0<;>simp[Value.oneCell']at c0<;>rfl
 have ez:(Value.agg #[z0,z1]).cells= #[z0,z1]:=O;refine .val (w':=w) ?_ hb hK;simp[execOp,Instr.build,run_underlying (bJ.out (P:=P) (t:=t)),sizeOf,typeInfo,zeroValue,hi,eN,eU,l7,kP,pR,ho,qH,h0,e0,ez,Instr.fill]
end
theorem am3(Al:ai)(nl cl:Nat)(labels:ah)(w:aa)(hR:bu w Al nl labels)(gP:nl<=10)(hl:∀x∈labels,0<=x/\x<=32):
 aF prog 32 [.slice Al nl cl] w (λv w'=>∃B c rs,v=.agg #[aj ((nl:Int)+1),.slice B (dO labels).length c]/\rs.length=(dO labels).length/\St w w' (aV 27 2 B (dO labels).length c rs (dO labels))):=by
 have oz:=hR.1;refine bn func32 O ntmps32 O (BA O O) (aY O (kM (St.refl w) O ?_));intro A2 w1 ax;refine aq O (aI (am4 Al nl cl _ ac) O ?_);rintro _ w2 ⟨rfl,rfl⟩;refine Iw aL aL O O O O O (kM ax O ?_);intro A3 w2 az;refine dU 2 0 az O O O O O O O ?_;intro w3 aM;have aM:St w w3 ([Bx 59 2 A3 [aj ((nl:Int)+1),.slice none 0 0],Bx 59 2 A2 [aj 0,.slice none 0 0]]):=aM;have aU:St w w3 (aX 27 none 0 0 []::[Bx 59 2 A3 [aj ((nl:Int)+1),.slice none 0 0],Bx 59 2 A2 [aj 0,.slice none 0 0]]):=aM.nil _;have aO:St w w3 ([Bx 59 2 A3 [aj ((nl:Int)+1),.slice none 0 0],Bx 59 2 A2 [aj 0,.slice none 0 0]]++aV 27 2 none 0 0 [] []):=aU.perm (gL (l₁:=[_]) (l₂:=[_,_]));refine ay O ?_;refine Cd.loop (α:=FK) (λs=>[(0,.slice Al nl cl),(2,.pointer A2),(3,.pointer A3),(4,aj (s.k:Int))]) (λs w'=>St w w' ([Bx 59 2 A3 [aj ((nl:Int)+1),.slice s.B s.n s.c],Bx 59 2 A2 [aj 0,.slice none 0 0]]++aV 27 2 s.B s.n s.c s.rs s.xss)/\s.rs.length=s.n/\s.xss.length=s.n/\s.n<=20*s.k/\s.k+s.f=20/\s.xss++uG labels (nl+1) s.f s.k=dO labels) (λs=>s.f) ⟨20,0,none,0,0,[],[]⟩ ⟨O,O,O,O,trivial⟩ ⟨aO,O,O,Nat.zero_le _,O,by unfold dO;rw[oz];rfl⟩ ?_;rintro⟨f,i,B,n,cB,rs,xss⟩ e w4 ⟨aU,bT,cT,yD,PA,fx⟩;dsimp only at aU bT cT yD PA fx|-;refine aY O (aS (aU.rd 0 O) O (fX (aU.rd 0 O) O O O O O (ay O ?_)));refine aK _ O (λh1=>?_) (λh1=>?_)
 ·obtain⟨f,rfl⟩:∃q,f=q+1:=⟨f-1,ac⟩;rw[uG,aG (by omega)]at fx;refine aC O (aJ O (ay O ?_));refine Cd.loop (α:=FK) (λs=>[(0,.slice Al nl cl),(2,.pointer A2),(3,.pointer A3),(4,aj i),(5,aj (s.k:Int))]) (λs w'=>St w w' ([Bx 59 2 A3 [aj ((nl:Int)+1),.slice s.B s.n s.c],Bx 59 2 A2 [aj 0,.slice none 0 0]]++aV 27 2 s.B s.n s.c s.rs s.xss)/\s.rs.length=s.n/\s.xss.length=s.n/\i+1<=s.k/\s.n+i+1<=20*i+s.k/\s.k+s.f=20/\s.xss++(xw labels (nl+1) i s.f s.k++uG labels (nl+1) f (i+1))=dO labels) (λs=>s.f) ⟨f,i+1,B,n,cB,rs,xss⟩ (auV O) ⟨aU,bT,cT,cJ _,by show n+i+1<=20*i+(i+1);omega,by show i+1+f=20;omega,fx⟩ ?_;rintro⟨g,k,B,n,cB,rs,xss⟩ e w5 ⟨aO,bT,cT,qy,PR,th,fx⟩;dsimp only at aO bT cT qy PR th fx|-;refine aY O (aS (aO.rd 0 O) O (fX (aO.rd 0 O) O O O O O (ay O ?_)));refine aK _ O (λh2=>?_) (λh2=>?_)
  ·obtain⟨g,rfl⟩:∃q,g=q+1:=⟨g-1,ac⟩;rw[xw,aG (by omega)]at fx;have pA:∃L:Int,L=(if k=i+1 then gi labels i else 2)/\0<=L/\L<=32:=by
    refine⟨_,O,?_⟩
    split
    ·have:=hl (gi labels i) (by rw[b7 (by omega)];exact dt _);exact this
    ·omega
   obtain⟨L,hL,ll,aid⟩:=pA;refine xL 5 O (lH (α:=Unit) (λ_=>[(0,.slice Al nl cl),(2,.pointer A2),(3,.pointer A3),(4,aj i),(5,aj k),(6,aj L)]) (λ_ w'=>w'=w5) ?_ ?_)
   ·refine aY O (aJ O (ay O ?_));refine aK _ O (λh3=>?_) (λh3=>?_)
    ·have ko:=aO.dq hR;refine aC O (aA ko.2 O (bg ko O ?_));refine aN O (tQ ?_);exact⟨(),⟨O,O,O,O,O,by rw[hL,aG (by omega)];rfl,au⟩,O⟩
    ·refine jE O (tQ ?_);exact⟨(),⟨O,O,O,O,O,by rw[hL,aD (by omega)];rfl,au⟩,O⟩
   ·rintro⟨⟩ e w6 rfl;refine cM O (aK _ O (λh4=>?_) (λh4=>?_))
    ·have pQ:zi labels i k=[pow [(i:Int),(k:Int)] L.toNat]:=by
      unfold zi;rw[<-hL,aG h4]
     rw[pQ]at fx;refine iu [8,10] [yP (aH (A3) 1),yS (B) (n) (cB),yI ((i:Int)),yI ((k:Int)),.pr (λv w'=>∃dp,v=.slice dp 2 2/\St w w' (av 2 dp 2 2 [(i:Int),(k:Int)]::Bx 59 2 A3 [aj ((nl:Int)+1),.slice B n cB]::Bx 59 2 A2 [aj 0,.slice none 0 0]::aV 27 2 B n cB rs xss)),yI (L),.pr (λv w'=>∃dK eJ,v=.slice dK (2*L.toNat) eJ/\St w w' (av 2 dK (2*L.toNat) eJ (pow [(i:Int),(k:Int)] L.toNat)::Bx 59 2 A3 [aj ((nl:Int)+1),.slice B n cB]::Bx 59 2 A2 [aj 0,.slice none 0 0]::aV 27 2 B n cB rs xss)),.pr (λv w'=>∃dK eJ qg,v=.slice qg 1 1/\St w w' (aX 27 qg 1 1 [⟨dK,2*L.toNat,eJ⟩]::av 2 dK (2*L.toNat) eJ (pow [(i:Int),(k:Int)] L.toNat)::Bx 59 2 A3 [aj ((nl:Int)+1),.slice B n cB]::Bx 59 2 A2 [aj 0,.slice none 0 0]::aV 27 2 B n cB rs xss)),.pr (λv w'=>∃dK eJ fQ fT,v=.slice fQ (n+1) fT/\St w w' (av 2 dK (2*L.toNat) eJ (pow [(i:Int),(k:Int)] L.toNat)::Bx 59 2 A3 [aj ((nl:Int)+1),.slice B n cB]::Bx 59 2 A2 [aj 0,.slice none 0 0]::aX 27 fQ (n+1) fT (rs++[⟨dK,2*L.toNat,eJ⟩])::cC 2 rs xss)),yP (aH (A3) 1),.pr (λ_ w'=>∃dK eJ fQ fT,St w w' (av 2 dK (2*L.toNat) eJ (pow [(i:Int),(k:Int)] L.toNat)::Bx 59 2 A3 [aj ((nl:Int)+1),.slice fQ (n+1) fT]::Bx 59 2 A2 [aj 0,.slice none 0 0]::aX 27 fQ (n+1) fT (rs++[⟨dK,2*L.toNat,eJ⟩])::cC 2 rs xss))] (ly (ly (ly (ly (bV.2 ⟨Ye.bW (λv w w' h hb=>by obtain⟨dp,hv,h1⟩:=h;exact⟨dp,hv,h1.ao hb⟩),(ly (bV.2 ⟨Ye.bW (λv w w' h hb=>by obtain⟨dK,eJ,hv,h1⟩:=h;exact⟨dK,eJ,hv,h1.ao hb⟩),(bV.2 ⟨Ye.bW (λv w w' h hb=>by obtain⟨dK,eJ,qg,hv,h1⟩:=h;exact⟨dK,eJ,qg,hv,h1.ao hb⟩),(bV.2 ⟨Ye.bW (λv w w' h hb=>by obtain⟨dK,eJ,fQ,fT,hv,h1⟩:=h;exact⟨dK,eJ,fQ,fT,hv,h1.ao hb⟩),(ly (bV.2 ⟨Ye.bW (λv w w' h hb=>by obtain⟨dK,eJ,fQ,fT,h1⟩:=h;exact⟨dK,eJ,fQ,fT,h1.ao hb⟩),(λ_ h=>by cases h)⟩))⟩)⟩)⟩))⟩))))) ?_ ?_
     ·refine⟨cP λ_ _ hb _ _ _=>aS ((aO.rd 0 O).below hb) O (bA O O),cP λ_ _ hb _ _ _=>a6 ((aO.rd 0 O).below hb) O (bA O O),bP O,bP O,?_,bP O,?_,?_,?_,?_,?_,au⟩
      ·refine cP λe1 w1 hb hp aW hq=>?_
       exact rh [(i:Int),(k:Int)] (St.refl _) O O am am O O λdp uT Bi=>ak.n (eD.dn O Bi.below ⟨dp,O,(aO.ao hb).call Bi⟩)
      ·refine cP λe1 w1 hb hp aW hq=>?_
       obtain⟨dp,hv,h1⟩:=(hp 4 _ _ an rfl rfl an);refine auM (amX dp 2 2 [(i:Int),(k:Int)] L.toNat _ (h1.bF 0 O) am ac) O (by rw[Int.toNat_of_nonneg ll];exact aQ (λv=>[v,Value.int .i64 L]) hv) O ?_;rintro _ Fk ⟨dK,eJ,rfl,Hp⟩;exact ak.n (eD.dn O Hp.below ⟨dK,eJ,O,(h1.tail).call Hp⟩)
      ·refine cP λe1 w1 hb hp aW hq=>?_
       obtain⟨dK,eJ,hv,h1⟩:=(hp 6 _ _ an rfl rfl an);refine jW (St.refl _) (by exact hv) O O ?_;intro qg SE Bj;exact ak.n (eD.dn O Bj.below ⟨dK,eJ,qg,O,h1.call Bj⟩)
      ·refine iF λe1 w1 hb hp aW hq=>?_
       obtain⟨dK,eJ,qg,hv,h1⟩:=(hp 7 _ _ an rfl rfl an);refine iT 4 h1 O (h1.dm 0 O) O (by exact hv) O ac ac O ?_;intro fQ fT Fl Gw;exact ak.n (dS.dn O ⟨dK,eJ,fQ,fT,O,Gw.tail⟩)
      ·refine dP 1 λe1 w1 hp aW hq=>?_
       have cg:=hp 8 _ _ an O O an;obtain⟨dK,eJ,fQ,fT,pz,hT⟩:=cg;refine aS ((hT.rd 1 O)) O (ak.n (fp O ap))
      ·refine kB 1 λe1 w1 hp aW hq=>?_
       have cg:=hp 8 _ _ an O O an;obtain⟨dK,eJ,fQ,fT,pz,hT⟩:=cg;refine oR 1 hT O O (by exact pz) O O ?_;intro Ic CB;exact ak.n (dS.st O ⟨dK,eJ,fQ,fT,CB⟩)
     intro u w7 _ hu _ _;obtain⟨dK,eJ,fQ,fT,hT⟩:=hu 10 _ rfl an;refine gq O (aJ O (aN O (tQ ?_)));refine⟨⟨g,k+1,fQ,n+1,fT,rs++[⟨dK,2*L.toNat,eJ⟩],xss++[pow [(i:Int),(k:Int)] L.toNat]⟩,Nat.lt_succ_self g,(auV O),?_,by simp[bT],by simp[cT],by show i+1<=k+1;omega,by show n+1+i+1<=20*i+(k+1);omega,by show k+1+g=20;omega,by rw[<-fx];simp⟩;show St w w7 ([Bx 59 2 A3 [aj ((nl:Int)+1),.slice fQ (n+1) fT],Bx 59 2 A2 [aj 0,.slice none 0 0]]++aX 27 fQ (n+1) fT (rs++[⟨dK,2*L.toNat,eJ⟩])::cC 2 (rs++[⟨dK,2*L.toNat,eJ⟩]) (xss++[pow [(i:Int),(k:Int)] L.toNat]));rw[tA (by omega)];refine hT.perm ?_;exact gL (l₁:=[_]) (l₂:=Bx 59 2 A3 [aj ((nl:Int)+1),.slice fQ (n+1) fT]::Bx 59 2 A2 [aj 0,.slice none 0 0]::aX 27 fQ (n+1) fT (rs++[⟨dK,2*L.toNat,eJ⟩])::cC 2 rs xss)
    ·have pQ:zi labels i k=[]:=by
      unfold zi;rw[<-hL,aD h4]
     rw[pQ]at fx;refine aC O (aJ O (aN O (tQ ?_)));exact⟨⟨g,k+1,B,n,cB,rs,xss⟩,Nat.lt_succ_self g,(auV O),aO,bT,cT,by show i+1<=k+1;omega,by show n+i+1<=20*i+(k+1);omega,by show k+1+g=20;omega,fx⟩
  ·have GX:xw labels (nl+1) i g k=[]:=by
    cases g with
    |zero=>rfl
    |succ g=>rw[xw,aD (by omega)]
   rw[GX]at fx;refine ba O (bc (bY O (aJ O (aN O (tQ ?_)))));exact⟨⟨f,i+1,B,n,cB,rs,xss⟩,Nat.lt_succ_self f,(auV O),aO,bT,cT,by show n<=20*(i+1);omega,by show i+1+f=20;omega,fx⟩
 ·have GQ:uG labels (nl+1) f i=[]:=by
   cases f with
   |zero=>rfl
   |succ f=>rw[uG,aD (by omega)]
  rw[GQ,dQ]at fx;subst fx;refine ba O (bc (bY O ?_));refine cG 1 (aU.rd 0 O) O O O (dU 2 1 aU O O O O O O O ?_);intro w5 aO;refine bR O (zj O (aO.rd 1 O) ?_);refine⟨B,cB,rs,by rw[cT];rfl,ac,?_⟩;rw[cT];exact(aO.sub ((fD _).cons _)).sub ((fD _).cons _)
theorem am2(A:ai)(n c:Nat)(labels:ah)(w:aa)(hR:bu w A n labels)(hn:n<5)(hl:∀x∈labels,x=0\/(2<=x/\x<=32)):
 aF prog 30 [.slice A n c] w (λv w'=>v=.bool true/\w'=w):=by
 have oz:=hR.1;refine bn func30 O ntmps30 O (bM O) (bC O ?_);refine Cd.loop (α:=Nat) (λi=>[(0,.slice A n c),(3,aj i)]) (λi w'=>w'=w/\i<=n) (λi=>n-i) 0 (auV O) ⟨O,bl _⟩ ?_;rintro i e w1 ⟨rfl,hi⟩;refine aY O (aR O O (ay O ?_));refine aK _ O (λh1=>?_) (λh1=>?_)
 ·have hx:=hl (gi labels i) (by rw[b7 (by omega)];exact dt _);refine aC O (aA hR.2 O (bg hR O (aq O ?_)));refine b9 15 O (λh2=>?_) (λh2=>?_)
  ·refine ar O (aq O (ar O (aq O (ar O ?_))));refine aA hR.2 O (ar O (bg hR O (ar O (aI (y4 _ _ _ _) O ?_))));rintro _ w2 ⟨rfl,rfl⟩;refine ar O ?_
   first|refine cO rfl rfl ?_|refine dv rfl rfl ?_
   refine ay O (auT O (λh=>h ac) (aC O (aJ O (aN O (tQ ?_)))));exact⟨i+1,ac,(auV O),O,ac⟩
  refine aB O (aB O (aB O (aB O (aB O (aB O (ay O ?_))))));refine Cd.cX O (aC O (aJ O (aN O (tQ ?_))));exact⟨i+1,ac,(auV O),O,ac⟩
 refine ba O (bc (bY O (aR O O (bR O ?_))));refine cK O ?_;exact⟨by rw[dB (by omega)],O⟩
theorem am1(letters:Int)(A:ai)(n c:Nat)(ws:ah)(w:aa)(hR:bu w A n ws)(dH:0<=letters/\letters<=1000)(hn:n<=64)(hw:∀x∈ws,0<=x/\x<letters):
 aF prog 167 [aj letters,.slice A n c] w (λv w'=>v=.bool true/\w'=w):=by
 have oz:=hR.1;refine bn func167 O ntmps167 O (bM O) (bC O ?_);refine Cd.loop (α:=Nat) (λi=>[(0,aj letters),(1,.slice A n c),(5,aj i)]) (λi w'=>w'=w/\i<=n) (λi=>n-i) 0 (auV O) ⟨O,bl _⟩ ?_;rintro i e w1 ⟨rfl,hi⟩;refine aY O (aR O O (ay O ?_));refine aK _ O (λh1=>?_) (λh1=>?_)
 ·have hx:=hw (gi ws i) (by rw[b7 (by omega)];exact dt _);refine aC O (aA hR.2 O (bg hR O ?_));refine aq O (cV O ?_);refine aI (y4 _ _ _ _) O ?_;rintro _ w2 ⟨rfl,rfl⟩
  first|refine cO rfl rfl ?_|refine dv rfl rfl ?_
  refine ay O (auT O (λh=>h ac) (aC O (aJ O (aN O (tQ ?_)))));exact⟨i+1,ac,(auV O),O,ac⟩
 refine ba O (bc (bY O (aR O O (bR O ?_))));refine cK O ?_;exact⟨by rw[dB (by omega)],O⟩
def oS(letters:Int)(least:Nat)(zw:ag):Prop:=zw.length<=24/\∀ws∈zw,least<=ws.length/\ws.length<=64/\∀x∈ws,0<=x/\x<letters
instance (letters:Int)(least:Nat)(zw:ag):Decidable (oS letters least zw):=by unfold oS;exact inferInstance
theorem Zg(letters:Int)(least:Nat)(A:ai)(n c:Nat)(rs:List aE)(zw:ag)(w:aa)(hR:bH w A n rs zw)(dH:0<=letters/\letters<=1000)(hle:least<=1)(hW:oS letters least zw):
 aF prog 125 [aj letters,.slice A n c,aj least] w (λv w'=>v=.bool true/\w'=w):=by
 have oz:=hR.len;have hn:=hW.1;refine bn func125 O ntmps125 O (bM O) (bC O ?_);refine Cd.loop (α:=Nat) (λi=>[(0,aj letters),(1,.slice A n c),(2,aj least),(7,aj i)]) (λi w'=>w'=w/\i<=n) (λi=>n-i) 0 (auV O) ⟨O,bl _⟩ ?_;rintro i e w1 ⟨rfl,hi⟩;refine aY O (aR O O (ay O ?_));refine aK _ O (λh1=>?_) (λh1=>?_)
 ·have br:=hR.at_ (i:=(i:Int)) ac ac;have hx:=hW.2 (gl zw i) (by rw[df (by omega)];exact dt _);have bT:=br.1;refine aC O (aA hR.top.2 O (bw hR.top O (aI (am1 letters _ _ _ (gl zw i) _ br dH ac hx.2.2) O ?_)));rintro _ w2 ⟨rfl,rfl⟩
  first|refine cO rfl rfl ?_|refine dv rfl rfl ?_
  refine aq O (ak.split 21 O (λh=>absurd h am) (λ_=>?_));refine ar O (aq O (ar O (aq O (ar O ?_))));refine aA hR.top.2 O (ar O (bw hR.top O ?_));refine ar O (aR O O (ar O (aq O (ar O (ay O ?_)))));refine fq O (aC O (aJ O (aN O (tQ ?_))));exact⟨i+1,ac,(auV O),O,ac⟩
 refine ba O (bc (bY O (aR O O (bR O ?_))));refine cK O ?_;exact⟨by rw[dB (by omega)],O⟩
theorem amW(aZ:Nat)(Ar:ai)(nr cr:Nat)(gB:List aE)(rel:ag)(w:aa)(hR:bH w Ar nr gB rel)(hg:1<=aZ/\aZ<=5)(hW:oS aZ 1 rel):
 aF prog 124 [.agg #[aj aZ,.slice Ar nr cr]] w (λv w'=>v=.bool true/\St w w' []):=by
 refine bn func124 O ntmps124 O (bM O) (aY O (nB (St.refl w) O O ?_));intro A1 w1 ax;refine aq O (aS (ax.rd 0 O) O (fX (ax.rd 0 O) O O O O O (aI (y4 _ _ _ _) O ?_)));rintro _ w2 ⟨rfl,rfl⟩;refine aq O (b9 6 O (λ_=>?_) (λh=>absurd ac h));refine ar O (aS (ax.rd 0 O) O (ar O (fX (ax.rd 0 O) O O O O O (ar O (aS (ax.rd 0 O) O (ar O (a6 (ax.rd 0 O) O (ar O ?_))))))));refine aI (Zg aZ 1 Ar nr cr gB rel _ (ax.bU hR) ac am hW) O ?_;rintro _ w2 ⟨rfl,rfl⟩;refine bR O (cK O ?_);exact⟨O,ax.none⟩
theorem afh(aZ:Nat)(Ar:ai)(nr cr:Nat)(gB:List aE)(rel:ag)(tb:ag)(w:aa)(hR:bH w Ar nr gB rel)(pQ:∀x∈rel,x.length<=1000000)(wV:nr<=1000000)(Ep:aZ<=100)(hp:uQ aZ rel=some tb)(CA:0<tb.length)(Ak:(gl tb 0).length<=400):
 aF prog 28 [.agg #[aj aZ,.slice Ar nr cr],.slice none 0 0] w (λv w'=>∃A c rs,v=.tuple #[.slice A tb.length c,aj 0]/\rs.length=tb.length/\St w w' (aV 27 2 A tb.length c rs tb)):=by
 refine bn func28 O ntmps28 O (mI O) (aY O (nB (St.refl w) O O ?_));intro A2 w1 ax;refine aq O (cG 1 (ax.rd 0 O) O O O (aq O (aI (af6 aZ Ar nr cr gB rel tb _ (ax.bU hR) pQ wV Ep hp) O ?_)));rintro _ w2 ⟨A,c,rs,rfl,bT,aw⟩;have az:=ax.call aw;have s8:bH w2 A tb.length rs tb:=St.fO az O;have iO:=s8.at_ (i:=0) (Int.le_refl _) ac;have l6:=iO.1;refine aq O ?_
 first|refine cO rfl rfl ?_|refine dv rfl rfl ?_
 refine aq O (ak.split 16 O (λh=>absurd h am) (λ_=>?_));refine ar O (aq O (ar O ?_));refine aA s8.top.2 O (ar O (auQ (i:=0) s8.top O ac O O ?_));refine ar O (aR O O (ar O (ay O ?_)));refine fq O (dE O (vQ O O ?_));exact⟨A,c,rs,O,bT,az.sub (ny _ _)⟩
theorem alA(A:ai)(n c:Nat)(rs:List aE)(G:FuncId)[hF:bq prog G](cv:List ab)(w:aa)(hR:fu w A n rs)(hn:n<=1000000)(rG:∀(w':aa)(i:Nat),Below w.heap.size w w'->i<n->aF prog G (.slice (rg rs i).a (rg rs i).n (rg rs i).c::cv) w' (λv nX=>v=.bool false/\St w' nX [])):
 aF prog 118 [.slice A n c,.func (.func G) #[] cv.toArray] w (λv w'=>v=aj (-1)/\St w w' []):=by
 have cT:=hR.1;refine bn func118 O ntmps118 O (bM O) ?_;refine aY O (aR O O (ay O ?_));refine Cd.loop (α:=Nat) (λk=>[(0,.slice A n c),(1,.func (.func G) #[] cv.toArray),(7,aj n),(8,aj k)]) (λk w'=>St w w' []/\k<=n) (λk=>n-k) 0 (auV O) ⟨St.refl w,bl _⟩ ?_;rintro k e w1 ⟨hS,hk⟩;refine bC O (aK _ O (λh3=>?_) (λh3=>?_))
 ·have eW:=hS.pc hR;refine aC O (aA eW.2 O (bw eW O (aI (rG w1 k hS.below ac) O ?_)));rintro _ w2 ⟨rfl,aw⟩;refine ay O (Cd.cX O ?_);refine aC O (aJ O (aN O (tQ ?_)));exact⟨k+1,by show n-(k+1)<n-k;omega,(auV O),hS.ao aw.below,ac⟩
 refine ba O (bc (ew O ?_));exact gj O ⟨O,hS⟩
theorem Uf(A:ai)(n c:Nat)(rs:List aE)(G:FuncId)[hF:bq prog G](cv:List ab)(w:aa)(hR:fu w A n rs)(hn:n<=1000000)(rG:∀(w':aa)(i:Nat),Below w.heap.size w w'->i<n->aF prog G (.slice (rg rs i).a (rg rs i).n (rg rs i).c::cv) w' (λv nX=>v=.bool false/\St w' nX [])):
 aF prog 60 [.slice A n c,.func (.func G) #[] cv.toArray] w (λv w'=>v=.bool false/\St w w' []):=by
 refine bn func60 O ntmps60 O (bM O) (aY O (aI (alA A n c rs G cv _ hR hn rG) O ?_));rintro _ w2 ⟨rfl,aw⟩;refine bR O (cK O ?_);exact⟨O,aw⟩
theorem aly(A:ai)(n c:Nat)(xs:ah)(G:FuncId)[hF:bq prog G](cv:List ab)(w:aa)(hR:bu w A n xs)(hn:n<=1000000)(rG:∀(w':aa)(x:Int),Below w.heap.size w w'->x∈xs->aF prog G (aj x::cv) w' (λv nX=>v=.bool false/\St w' nX [])):
 aF prog 115 [.slice A n c,.func (.func G) #[] cv.toArray] w (λv w'=>v=aj (-1)/\St w w' []):=by
 have cT:=hR.1;refine bn func115 O ntmps115 O (bM O) ?_;refine aY O (aR O O (ay O ?_));refine Cd.loop (α:=Nat) (λk=>[(0,.slice A n c),(1,.func (.func G) #[] cv.toArray),(7,aj n),(8,aj k)]) (λk w'=>St w w' []/\k<=n) (λk=>n-k) 0 (auV O) ⟨St.refl w,bl _⟩ ?_;rintro k e w1 ⟨hS,hk⟩;refine bC O (aK _ O (λh3=>?_) (λh3=>?_))
 ·have eW:=hS.dq hR;refine aC O (aA eW.2 O (bg eW O (aI (rG w1 _ hS.below (gi_in ac)) O ?_)));rintro _ w2 ⟨rfl,aw⟩;refine ay O (Cd.cX O ?_);refine aC O (aJ O (aN O (tQ ?_)));exact⟨k+1,by show n-(k+1)<n-k;omega,(auV O),hS.ao aw.below,ac⟩
 refine ba O (bc (ew O ?_));exact gj O ⟨O,hS⟩
theorem afe(A:ai)(n c:Nat)(xs:ah)(G:FuncId)[hF:bq prog G](cv:List ab)(w:aa)(hR:bu w A n xs)(hn:n<=1000000)(rG:∀(w':aa)(x:Int),Below w.heap.size w w'->x∈xs->aF prog G (aj x::cv) w' (λv nX=>v=.bool false/\St w' nX [])):
 aF prog 54 [.slice A n c,.func (.func G) #[] cv.toArray] w (λv w'=>v=.bool false/\St w w' []):=by
 refine bn func54 O ntmps54 O (bM O) (aY O (aI (aly A n c xs G cv _ hR hn rG) O ?_));rintro _ w2 ⟨rfl,aw⟩;refine bR O (cK O ?_);exact⟨O,aw⟩
theorem YS(A:ai)(n c:Nat)(ws:ah)(g:Int)(w:aa)(hR:bu w A n ws)(hn:n<=64)(hg:0<=g/\g<=1000)(hw:∀x∈ws,0<=x/\x<g):
 aF prog 62 [.slice A n c,aj g] w (λv w'=>v=.bool true/\St w w' []):=by
 refine bn func62 O ntmps62 O (bM O) ?_;refine aY O (aR O O (aq O ?_));refine b9 8 O (λ_=>?_) (λh=>absurd ac h);refine ar O (aq O (ar O (aq O (ar O (cV O (ar O ?_))))));refine aI (MM A n c ws 0 (g-1) _ hR ac) O ?_;rintro _ w2 ⟨rfl,aw⟩;refine bR O (cK O ?_);exact⟨aQ Value.bool (dB (λx hx=>by have:=hw x hx;omega)),aw⟩
theorem alH(x:Int)(w:aa)(hx:x=0\/(2<=x/\x<=32)):aF prog 55 [aj x] w (λv w'=>v=.bool false/\St w w' []):=by
 refine bn func55 O ntmps55 O (bM O) (aY O ?_);refine b9 5 O (λh=>?_) (λh=>?_)
 ·refine ar O (aq O (ar O ?_));refine aI (uU x 2 32 _) O ?_;rintro _ w2 ⟨rfl,rfl⟩;refine ar O ?_
  first|refine cO rfl rfl ?_|refine dv rfl rfl ?_
  refine bR O (cK O ?_);exact⟨aQ Value.bool (db ac),St.refl _⟩
 refine aB O (aB O (aB O (bR O ?_)));exact cK O ⟨O,St.refl _⟩
theorem alI(A:ai)(n c:Nat)(labels:ah)(w:aa)(hR:bu w A n labels)(hn:n<5)(hl:∀x∈labels,x=0\/(2<=x/\x<=32)):
 aF prog 24 [.slice A n c] w (λv w'=>v=.bool true/\St w w' []):=by
 refine bn func24 O ntmps24 O (bM O) ?_;refine aY O (aR O O (aq O ?_));refine b9 6 O (λ_=>?_) (λh=>absurd ac h);refine ar O (aq O (ar O ?_));refine aI (afe A n c labels 55 [] _ hR ac (λw' x _ hx=>alH x w' (hl x hx))) O ?_;rintro _ w2 ⟨rfl,aw⟩;refine ar O ?_
 first|refine cO rfl rfl ?_|refine dv rfl rfl ?_
 refine bR O (cK O ?_);exact⟨O,aw⟩
theorem alR(Pa:ai)(A:ai)(n c:Nat)(ws:ah)(aZ nr cr:Nat)(Ar:ai)(w:aa)(hP:Rd w Pa 2 (λj=>([aj aZ,.slice Ar nr cr]:List ab).getD j undef))(hR:bu w A n ws)(hn:1<=n/\n<=64)(hg:aZ<=5)(hw:∀x∈ws,0<=x/\x<(aZ:Int)):
 aF prog 117 [.slice A n c,.pointer Pa] w (λv w'=>v=.bool false/\St w w' []):=by
 refine bn func117 O ntmps117 O (bM O) ?_;refine aY O (aR O O (aq O ?_));refine b9 7 O (λh=>absurd h ac) (λ_=>?_);refine ar O (aq O (ar O ?_));refine aS hP O (ar O (fX hP O O O O O (ar O (aI (YS A n c ws aZ _ hR hn.2 ac hw) O ?_))));rintro _ w2 ⟨rfl,aw⟩;refine ar O ?_
 first|refine cO rfl rfl ?_|refine dv rfl rfl ?_
 refine bR O (cK O ?_);exact⟨O,aw⟩
theorem alS(aZ:Nat)(Ar:ai)(nr cr:Nat)(gB:List aE)(rel:ag)(w:aa)(hR:bH w Ar nr gB rel)(hg:1<=aZ/\aZ<=5)(hW:oS aZ 1 rel):
 aF prog 59 [.agg #[aj aZ,.slice Ar nr cr]] w (λv w'=>v=.bool true/\St w w' []):=by
 have bT:=hR.len;have O6:=hW.1;refine bn func59 O ntmps59 O (bM O) (aY O (nB (St.refl w) O O ?_));intro A1 w1 ax;refine aq O (aS (ax.rd 0 O) O (fX (ax.rd 0 O) O O O O O (aI (uU aZ 1 5 _) O ?_)));rintro _ w2 ⟨rfl,rfl⟩;refine aq O (b9 6 O (λ_=>?_) (λh=>absurd ac h));refine ar O (aS (ax.rd 0 O) O (ar O (a6 (ax.rd 0 O) O ?_)));refine ar O (aR O O (ar O (aq O ?_)));refine b9 12 O (λ_=>?_) (λh=>absurd ac h);refine ar O (aS (ax.rd 0 O) O (ar O (a6 (ax.rd 0 O) O (ar O (Iz O O (ar O ?_))))));have eW:=ax.bU hR;refine auM (Uf Ar nr cr gB 117 [.pointer A1] _ eW.top ac (λw' i hb hi=>by
  have br:=(eW.ao hb).at_ (i:=(i:Int)) ac ac;have hx:=hW.2 (gl rel i) (rD ac ac);have yM:=br.1;exact alR A1 _ _ _ (gl rel i) aZ nr cr Ar w' ((ax.rd 0 O).below hb) br ac hg.2 hx.2.2)) O O O ?_
 rintro _ w3 ⟨rfl,aw⟩;refine ar O ?_
 first|refine cO rfl rfl ?_|refine dv rfl rfl ?_
 refine bR O (cK O ?_);exact⟨O,(ax.ao aw.below).none⟩
section
variable {P:Program}{N:Nat}{ops:Array Oper}{K:Env->aa->Prop}{rest:List Oper}{e:Env}{w0 w w':aa}{ks:List Ck}{d:Nat}{ty:ad}{pos:String}{af:Array Edge}
theorem Iy{x:ae}{t el:ad}{A:ai}{n c:Nat}[bJ P t (.slice el)](hx:ev e x=.slice A n c)(hb:Nat.blt d N=true)(hK:ak P N ops K rest (bE e d (aj c)) w):
 ak P N ops K (⟨some d,.call ⟨.builtin .cap, #[x], #[t]⟩,ty,pos,af,none⟩::rest) e w:=
 .val (by simp[execOp,resolve,invoke,builtin,hx,Builtin.cap_,run_underlying (bJ.out (P:=P) (t:=t)),goInt]) hb hK
theorem Tc{t tn el:ad}{kn:IntKind}{z:ab}{b:Nat}[hU:bJ P t (.slice el)][hN:bJ P tn (.int kn)][bL P el z 1 b]{x y:ae}{k:IntKind}(n:Nat)(h0:0<n)(hS:St w0 w ks)(hx:ev e x=.slice none 0 0)(hy:ev e y=.int k (n:Int))(hz:z.cells= #[z])(Bo:z.oneCell'=true)(hm:n<=maxLen)(pF:n*b<=281474976710656)(hb:Nat.blt d N=true)(hK:∀A c w',n<=c->St w0 w' (⟨A,0,c,el,[]⟩::ks)->ak P N ops K rest (bE e d (.slice A n c)) w'):
 ak P N ops K (⟨some d,.call ⟨.builtin .append, #[x,y], #[t,tn]⟩,ty,pos,af,none⟩::rest) e w:=by
 obtain⟨inf,hi,eN,hs,iI⟩:=bL.get P el;have pJ:=grownCap_ge w n 0 el;have hle:=grownCap_le_maxLen w n 0 el hm;have hr:=Go.Lib.run_append_nil_zeros (P:=P) w t tn ty el inf z k kn hU.out hN.out hi eN n h0 ac (by simp only[maxLen]at hm;omega) (by rw[iI];exact pF);have hA:=hS.drew.TD (List.replicate (grownCap w n 0 el) z) el 0 (grownCap w n 0 el) (bl _) (by simp) hle (YV _ Bo);have Bp:Builtin.zeroCells z.cells n++Builtin.zeroCells z.cells (grownCap w n 0 el-n)=(List.replicate (grownCap w n 0 el) z).toArray:=by
  have gen:∀m,Builtin.zeroCells z.cells m=(List.replicate m z).toArray:=λm=>by
   rw[hz];simp only[Builtin.zeroCells];exact(show _=_ from by have:=Ld z m;simpa[madeCells]using this)
  rw[gen,gen,List.append_toArray,List.replicate_append_replicate,Nat.add_sub_cancel' pJ]
 rw[Bp]at hr;refine .val (w':=w.drew.alloc (.cells (List.replicate (grownCap w n 0 el) z).toArray el)) ?_ hb (hK _ _ _ pJ hA);simp[execOp,resolve,invoke,builtin,hx,hy,hr]
end
theorem aco(n:Nat)(w:aa)(hn:n<=1000000):
 aF prog 119 [.slice none 0 0,aj n] w (λv w'=>∃A c,v=.slice A 0 c/\n<=c/\St w w' [aX 27 A 0 c []]):=by
 refine bn func119 O ntmps119 O (bM O) (bC O (fq O (aC O (Iy O O ?_))));refine aq O (aR O O (cV O (cV O (ay O ?_))));refine aK _ O (λh1=>?_) (λh1=>?_)
 ·refine aC O (Iy O O ?_);refine rW O O O (by simp) ?_;refine aq O ?_;refine Tc n ac (St.refl w) O (by show Value.int _ _=.int _ _;congr 1) O O (by simp only[maxLen];omega) ac O ?_;intro A c w1 ni ax;refine aq O (aR O O ?_);refine rW O O O (by simp) ?_;refine bR O (dV O ?_);exact⟨A,c,O,ni,ax⟩
 refine dE O (dV O ?_);exact⟨none,0,O,ac,(St.refl w).nil _⟩
def SQ(L:ag)(K:Int)(w:aa)(v:ab)(w':aa):Prop:=∃A c,∃rs:List aE,v=.tuple #[.agg #[.slice A L.length c],aj K]/\rs.length=L.length/\St w w' (aV 27 2 A L.length c rs L)
theorem amZ(aZ:Nat)(Ar:ai)(nr cr:Nat)(gB:List aE)(rel:ag)(T:ag)(w:aa)(hR:bH w Ar nr gB rel)(pQ:∀x∈rel,x.length<=1000000)(wV:nr<=1000000)(hp:uR aZ rel=some T)(CA:0<T.length)(Ak:(gl T 0).length<=400):
 aF prog 33 [.agg #[aj aZ,.slice Ar nr cr],.slice none 0 0] w (λv w'=>∃A c rs,v=.tuple #[.slice A T.length c,aj 0]/\rs.length=T.length/\St w w' (aV 27 2 A T.length c rs T)):=by
 refine bn func33 O ntmps33 O (mI O) (aY O (nB (St.refl w) O O ?_));intro A2 w1 ax;refine aq O (cG 1 (ax.rd 0 O) O O O (aq O (aI (am0 aZ Ar nr cr gB rel T _ (ax.bU hR) pQ wV hp) O ?_)));rintro _ w2 ⟨A,c,rs,rfl,bT,aw⟩;have az:=ax.call aw;have s8:bH w2 A T.length rs T:=St.fO az O;have iO:=s8.at_ (i:=0) (Int.le_refl _) ac;have l6:=iO.1;refine aq O ?_
 first|refine cO rfl rfl ?_|refine dv rfl rfl ?_
 refine aq O (ak.split 16 O (λh=>absurd h am) (λ_=>?_));refine ar O (aq O (ar O ?_));refine aA s8.top.2 O (ar O (auQ (i:=0) s8.top O ac O O ?_));refine ar O (aR O O (ar O (ay O ?_)));refine fq O (dE O (vQ O O ?_));exact⟨A,c,rs,O,bT,az.sub (ny _ _)⟩
theorem afj(Al:ai)(nl cl:Nat)(labels:ah)(w:aa)(hR:bu w Al nl labels)(gP:nl<=10)(hl:∀x∈labels,0<=x/\x<=32):
 aF prog 25 [.slice Al nl cl] w (λv w'=>∃B c rs,v=.agg #[aj ((nl:Int)+1),.slice B (dO labels).length c]/\rs.length=(dO labels).length/\St w w' (aV 27 2 B (dO labels).length c rs (dO labels))):=by
 have oz:=hR.1;refine bn func25 O ntmps25 O (BA O O) (aY O (kM (St.refl w) O ?_));intro A2 w1 ax;refine aq O (aI (oK Al nl cl _) O ?_);rintro _ w2 ⟨rfl,rfl⟩;refine aJ O (aq O ?_);refine Iw aL aL O O O O O (kM ax O ?_);intro A3 w2 az;refine dU 2 0 az O O O O O O O ?_;intro w3 aM;have aM:St w w3 ([Bx 59 2 A3 [aj ((nl:Int)+1),.slice none 0 0],Bx 59 2 A2 [aj 0,.slice none 0 0]]):=aM;have aU:St w w3 (aX 27 none 0 0 []::[Bx 59 2 A3 [aj ((nl:Int)+1),.slice none 0 0],Bx 59 2 A2 [aj 0,.slice none 0 0]]):=aM.nil _;have aO:St w w3 ([Bx 59 2 A3 [aj ((nl:Int)+1),.slice none 0 0],Bx 59 2 A2 [aj 0,.slice none 0 0]]++aV 27 2 none 0 0 [] []):=aU.perm (gL (l₁:=[_]) (l₂:=[_,_]));refine ay O ?_;refine Cd.loop (α:=FK) (λs=>[(0,.slice Al nl cl),(2,.pointer A2),(3,aj ((nl:Int)+1)),(4,.pointer A3),(13,aj ((nl:Int)+1)),(14,aj (s.k:Int))]) (λs w'=>St w w' ([Bx 59 2 A3 [aj ((nl:Int)+1),.slice s.B s.n s.c],Bx 59 2 A2 [aj 0,.slice none 0 0]]++aV 27 2 s.B s.n s.c s.rs s.xss)/\s.rs.length=s.n/\s.xss.length=s.n/\s.n<=20*s.k/\s.k+s.f=20/\s.xss++uG labels (nl+1) s.f s.k=dO labels) (λs=>s.f) ⟨20,0,none,0,0,[],[]⟩ ⟨O,O,O,O,O,O,trivial⟩ ⟨aO,O,O,Nat.zero_le _,O,by unfold dO;rw[oz];rfl⟩ ?_;rintro⟨f,i,B,n,cB,rs,xss⟩ e w4 ⟨aU,bT,cT,yD,PA,fx⟩;dsimp only at aU bT cT yD PA fx|-;refine bC O (aK _ O (λh1=>?_) (λh1=>?_))
 ·obtain⟨f,rfl⟩:∃q,f=q+1:=⟨f-1,ac⟩;rw[uG,aG (by omega)]at fx;refine aC O (aJ O (ay O ?_));refine Cd.loop (α:=FK) (λs=>[(0,.slice Al nl cl),(2,.pointer A2),(3,aj ((nl:Int)+1)),(4,.pointer A3),(13,aj ((nl:Int)+1)),(14,aj i),(5,aj i),(6,aj (s.k:Int))]) (λs w'=>St w w' ([Bx 59 2 A3 [aj ((nl:Int)+1),.slice s.B s.n s.c],Bx 59 2 A2 [aj 0,.slice none 0 0]]++aV 27 2 s.B s.n s.c s.rs s.xss)/\s.rs.length=s.n/\s.xss.length=s.n/\i+1<=s.k/\s.n+i+1<=20*i+s.k/\s.k+s.f=20/\s.xss++(xw labels (nl+1) i s.f s.k++uG labels (nl+1) f (i+1))=dO labels) (λs=>s.f) ⟨f,i+1,B,n,cB,rs,xss⟩ (auV O) ⟨aU,bT,cT,cJ _,by show n+i+1<=20*i+(i+1);omega,by show i+1+f=20;omega,fx⟩ ?_;rintro⟨g,k,B,n,cB,rs,xss⟩ e w5 ⟨aO,bT,cT,qy,PR,th,fx⟩;dsimp only at aO bT cT qy PR th fx|-;refine bC O (aK _ O (λh2=>?_) (λh2=>?_))
  ·obtain⟨g,rfl⟩:∃q,g=q+1:=⟨g-1,ac⟩;rw[xw,aG (by omega)]at fx;have pA:∃L:Int,L=(if k=i+1 then gi labels i else 2)/\0<=L/\L<=32:=by
    refine⟨_,O,?_⟩
    split
    ·have:=hl (gi labels i) (by rw[b7 (by omega)];exact dt _);exact this
    ·omega
   obtain⟨L,hL,ll,aid⟩:=pA;refine xL 5 O (lH (α:=Unit) (λ_=>[(0,.slice Al nl cl),(2,.pointer A2),(3,aj ((nl:Int)+1)),(4,.pointer A3),(13,aj ((nl:Int)+1)),(14,aj i),(5,aj i),(6,aj k),(7,aj L)]) (λ_ w'=>w'=w5) ?_ ?_)
   ·refine aY O (aJ O (ay O ?_));refine aK _ O (λh3=>?_) (λh3=>?_)
    ·have ko:=aO.dq hR;refine aC O (aA ko.2 O (bg ko O ?_));refine aN O (tQ ?_);exact⟨(),⟨O,O,O,O,O,O,O,O,by rw[hL,aG (by omega)];rfl,au⟩,O⟩
    ·refine jE O (tQ ?_);exact⟨(),⟨O,O,O,O,O,O,O,O,by rw[hL,aD (by omega)];rfl,au⟩,O⟩
   ·rintro⟨⟩ e w6 rfl;refine cM O (aK _ O (λh4=>?_) (λh4=>?_))
    ·have pQ:zi labels i k=[pow [(i:Int),(k:Int)] L.toNat]:=by
      unfold zi;rw[<-hL,aG h4]
     rw[pQ]at fx;refine iu [8,10] [yP (aH (A3) 1),yS (B) (n) (cB),yI ((i:Int)),yI ((k:Int)),.pr (λv w'=>∃dp,v=.slice dp 2 2/\St w w' (av 2 dp 2 2 [(i:Int),(k:Int)]::Bx 59 2 A3 [aj ((nl:Int)+1),.slice B n cB]::Bx 59 2 A2 [aj 0,.slice none 0 0]::aV 27 2 B n cB rs xss)),yI (L),.pr (λv w'=>∃dK eJ,v=.slice dK (2*L.toNat) eJ/\St w w' (av 2 dK (2*L.toNat) eJ (pow [(i:Int),(k:Int)] L.toNat)::Bx 59 2 A3 [aj ((nl:Int)+1),.slice B n cB]::Bx 59 2 A2 [aj 0,.slice none 0 0]::aV 27 2 B n cB rs xss)),.pr (λv w'=>∃dK eJ qg,v=.slice qg 1 1/\St w w' (aX 27 qg 1 1 [⟨dK,2*L.toNat,eJ⟩]::av 2 dK (2*L.toNat) eJ (pow [(i:Int),(k:Int)] L.toNat)::Bx 59 2 A3 [aj ((nl:Int)+1),.slice B n cB]::Bx 59 2 A2 [aj 0,.slice none 0 0]::aV 27 2 B n cB rs xss)),.pr (λv w'=>∃dK eJ fQ fT,v=.slice fQ (n+1) fT/\St w w' (av 2 dK (2*L.toNat) eJ (pow [(i:Int),(k:Int)] L.toNat)::Bx 59 2 A3 [aj ((nl:Int)+1),.slice B n cB]::Bx 59 2 A2 [aj 0,.slice none 0 0]::aX 27 fQ (n+1) fT (rs++[⟨dK,2*L.toNat,eJ⟩])::cC 2 rs xss)),yP (aH (A3) 1),.pr (λ_ w'=>∃dK eJ fQ fT,St w w' (av 2 dK (2*L.toNat) eJ (pow [(i:Int),(k:Int)] L.toNat)::Bx 59 2 A3 [aj ((nl:Int)+1),.slice fQ (n+1) fT]::Bx 59 2 A2 [aj 0,.slice none 0 0]::aX 27 fQ (n+1) fT (rs++[⟨dK,2*L.toNat,eJ⟩])::cC 2 rs xss))] (ly (ly (ly (ly (bV.2 ⟨Ye.bW (λv w w' h hb=>by obtain⟨dp,hv,h1⟩:=h;exact⟨dp,hv,h1.ao hb⟩),(ly (bV.2 ⟨Ye.bW (λv w w' h hb=>by obtain⟨dK,eJ,hv,h1⟩:=h;exact⟨dK,eJ,hv,h1.ao hb⟩),(bV.2 ⟨Ye.bW (λv w w' h hb=>by obtain⟨dK,eJ,qg,hv,h1⟩:=h;exact⟨dK,eJ,qg,hv,h1.ao hb⟩),(bV.2 ⟨Ye.bW (λv w w' h hb=>by obtain⟨dK,eJ,fQ,fT,hv,h1⟩:=h;exact⟨dK,eJ,fQ,fT,hv,h1.ao hb⟩),(ly (bV.2 ⟨Ye.bW (λv w w' h hb=>by obtain⟨dK,eJ,fQ,fT,h1⟩:=h;exact⟨dK,eJ,fQ,fT,h1.ao hb⟩),(λ_ h=>by cases h)⟩))⟩)⟩)⟩))⟩))))) ?_ ?_
     ·refine⟨cP λ_ _ hb _ _ _=>aS ((aO.rd 0 O).below hb) O (bA O O),cP λ_ _ hb _ _ _=>a6 ((aO.rd 0 O).below hb) O (bA O O),bP O,bP O,?_,bP O,?_,?_,?_,?_,?_,au⟩
      ·refine cP λe1 w1 hb hp aW hq=>?_
       exact rh [(i:Int),(k:Int)] (St.refl _) O O am am O O λdp uT Bi=>ak.n (eD.dn O Bi.below ⟨dp,O,(aO.ao hb).call Bi⟩)
      ·refine cP λe1 w1 hb hp aW hq=>?_
       obtain⟨dp,hv,h1⟩:=(hp 4 _ _ an rfl rfl an);refine auM (ac2 dp 2 2 [(i:Int),(k:Int)] L.toNat _ (h1.bF 0 O) am ac) O (by rw[Int.toNat_of_nonneg ll];exact aQ (λv=>[v,Value.int .i64 L]) hv) O ?_;rintro _ Fk ⟨dK,rfl,Hp⟩;exact ak.n (eD.dn O Hp.below ⟨dK,2*L.toNat,O,(h1.tail).call Hp⟩)
      ·refine cP λe1 w1 hb hp aW hq=>?_
       obtain⟨dK,eJ,hv,h1⟩:=(hp 6 _ _ an rfl rfl an);refine jW (St.refl _) (by exact hv) O O ?_;intro qg SE Bj;exact ak.n (eD.dn O Bj.below ⟨dK,eJ,qg,O,h1.call Bj⟩)
      ·refine iF λe1 w1 hb hp aW hq=>?_
       obtain⟨dK,eJ,qg,hv,h1⟩:=(hp 7 _ _ an rfl rfl an);refine iT 4 h1 O (h1.dm 0 O) O (by exact hv) O ac ac O ?_;intro fQ fT Fl Gw;exact ak.n (dS.dn O ⟨dK,eJ,fQ,fT,O,Gw.tail⟩)
      ·refine dP 1 λe1 w1 hp aW hq=>?_
       have cg:=hp 8 _ _ an O O an;obtain⟨dK,eJ,fQ,fT,pz,hT⟩:=cg;refine aS ((hT.rd 1 O)) O (ak.n (fp O ap))
      ·refine kB 1 λe1 w1 hp aW hq=>?_
       have cg:=hp 8 _ _ an O O an;obtain⟨dK,eJ,fQ,fT,pz,hT⟩:=cg;refine oR 1 hT O O (by exact pz) O O ?_;intro Ic CB;exact ak.n (dS.st O ⟨dK,eJ,fQ,fT,CB⟩)
     intro u w7 _ hu _ _;obtain⟨dK,eJ,fQ,fT,hT⟩:=hu 10 _ rfl an;refine gq O (aJ O (aN O (tQ ?_)));refine⟨⟨g,k+1,fQ,n+1,fT,rs++[⟨dK,2*L.toNat,eJ⟩],xss++[pow [(i:Int),(k:Int)] L.toNat]⟩,Nat.lt_succ_self g,(auV O),?_,by simp[bT],by simp[cT],by show i+1<=k+1;omega,by show n+1+i+1<=20*i+(k+1);omega,by show k+1+g=20;omega,by rw[<-fx];simp⟩;show St w w7 ([Bx 59 2 A3 [aj ((nl:Int)+1),.slice fQ (n+1) fT],Bx 59 2 A2 [aj 0,.slice none 0 0]]++aX 27 fQ (n+1) fT (rs++[⟨dK,2*L.toNat,eJ⟩])::cC 2 (rs++[⟨dK,2*L.toNat,eJ⟩]) (xss++[pow [(i:Int),(k:Int)] L.toNat]));rw[tA (by omega)];refine hT.perm ?_;exact gL (l₁:=[_]) (l₂:=Bx 59 2 A3 [aj ((nl:Int)+1),.slice fQ (n+1) fT]::Bx 59 2 A2 [aj 0,.slice none 0 0]::aX 27 fQ (n+1) fT (rs++[⟨dK,2*L.toNat,eJ⟩])::cC 2 rs xss)
    ·have pQ:zi labels i k=[]:=by
      unfold zi;rw[<-hL,aD h4]
     rw[pQ]at fx;refine aC O (aJ O (aN O (tQ ?_)));exact⟨⟨g,k+1,B,n,cB,rs,xss⟩,Nat.lt_succ_self g,(auV O),aO,bT,cT,by show i+1<=k+1;omega,by show n+i+1<=20*i+(k+1);omega,by show k+1+g=20;omega,fx⟩
  ·have GX:xw labels (nl+1) i g k=[]:=by
    cases g with
    |zero=>rfl
    |succ g=>rw[xw,aD (by omega)]
   rw[GX]at fx;refine ba O (bc (bY O (aJ O (aN O (tQ ?_)))));exact⟨⟨f,i+1,B,n,cB,rs,xss⟩,Nat.lt_succ_self f,(auV O),aO,bT,cT,by show n<=20*(i+1);omega,by show i+1+f=20;omega,fx⟩
 ·have GQ:uG labels (nl+1) f i=[]:=by
   cases f with
   |zero=>rfl
   |succ f=>rw[uG,aD (by omega)]
  rw[GQ,dQ]at fx;subst fx;refine ba O (bc (bY O ?_));refine cG 1 (aU.rd 0 O) O O O (dU 2 1 aU O O O O O O O ?_);intro w5 aO;refine bR O (zj O (aO.rd 1 O) ?_);refine⟨B,cB,rs,by rw[cT];rfl,ac,?_⟩;rw[cT];exact(aO.sub ((fD _).cons _)).sub ((fD _).cons _)
theorem Zd(A:ai)(n c:Nat)(rs:List aE)(xss:ag)(w:aa)(hR:bH w A n rs xss)(Gp:eY xss):
 aF prog 34 [.agg #[.slice A n c]] w (λv w'=>v=.bool (decide (eY xss))/\St w w' []):=by
 have cT:=hR.len;have OU:decide (eY xss)=true:=dB Gp;obtain⟨PN,G1,l6,Kp,EB⟩:=Gp;have hn:n<=9223372036854775807:=by omega
 have hs:=l6.sys;have e6:∀i:Int,0<=i->i<n->(rg rs i).n=(rg rs 0).n:=λi h0 h1=>by
  have e1:=hR.qc h0 h1;have e2:=(l6 _ (rD h0 ac)).1;have:=hR.qc (k:=0) ac ac;omega
 have r0:0<n->(gl xss 0).length=(rg rs 0).n:=λh=>hR.qc ac ac
 refine bn func34 O ntmps34 O (bM O) (aY O (rf (St.refl w) O O ?_));intro Ab w1 hS;refine aq O (aS (hS.rd 0 O) O (a6 (hS.rd 0 O) O ?_));refine aR O O (aq O ?_);refine b9 13 O (λh=>absurd h ac) (λ_=>?_);refine ar O (aq O (ar O (aq O ?_)));refine b9 17 O (λh=>absurd h ac) (λ_=>?_);have hM:=hS.bU hR;have r0:=r0 ac;refine ar O (aS (hS.rd 0 O) O (ar O (a6 (hS.rd 0 O) O (ar O (aA hM.top.2 O (ar O (bw hM.top O ?_)))))));refine ar O (aR O O (ar O (aq O ?_)));refine b9 25 O (λh=>absurd h ac) (λ_=>?_);refine ar O (aS (hS.rd 0 O) O (ar O (a6 (hS.rd 0 O) O (ar O (aA hM.top.2 O (ar O (bw hM.top O ?_)))))));refine ar O (aR O O (ar O (ay O ?_)));refine fq O (cM O ?_);refine Cd.loop (α:=Nat) (λk=>[(1,.pointer Ab),(3,aj n),(4,aj k)]) (λk w'=>St w w' [Bx 32 1 Ab [.slice A n c]]/\k<=n) (λk=>n-k) 0 (auV O) ⟨hS,bl _⟩ ?_;rintro k e w2 ⟨az,hk⟩;have hM:=az.bU hR;have hB:=az.rd 0 O;refine bC O (aK _ O (λh5=>?_) (λh5=>?_))
 ·have uf:k<xss.length:=by omega
  have rk:=hR.qc (k:=(k:Int)) ac ac;have br:=hM.at_ (i:=k) ac h5;refine cM O ?_;have qK:=l6.at_ uf;refine ec [xP (aH (Ab) 0),xS (A) (n) (c),xI ((k:Int)),xP (aH (A) ((k:Int)).toNat),xS ((rg (rs) ((k:Int))).a) ((rg (rs) ((k:Int))).n) ((rg (rs) ((k:Int))).c),xI ((((rg (rs) ((k:Int))).n:Nat):Int)),xP (aH (Ab) 0),xS (A) (n) (c),xP (aH (A) ((0:Int)).toNat),xS ((rg (rs) ((0:Int))).a) ((rg (rs) ((0:Int))).n) ((rg (rs) ((0:Int))).c),xI ((((rg (rs) ((0:Int))).n:Nat):Int)),xB (false),xB (false),xP (aH (Ab) 0),xS (A) (n) (c),xI ((k:Int)),xP (aH (A) ((k:Int)).toNat),xS ((rg (rs) ((k:Int))).a) ((rg (rs) ((k:Int))).n) ((rg (rs) ((k:Int))).c),xB (decide (mL (gl xss k))),xB (false),xB (false),xB (false),xP (aH (Ab) 0),xS (A) (n) (c),xI ((k:Int)),xP (aH (A) ((k:Int)).toNat),xS ((rg (rs) ((k:Int))).a) ((rg (rs) ((k:Int))).n) ((rg (rs) ((k:Int))).c),xB (decide (sQ (gl xss k))),xB (false),xB (false)] O (eK O) ?_ ?_
  ·refine⟨λ_ _ hb _ _=>aS (hB.below hb) O Az,λ_ _ hb _ _=>a6 (hB.below hb) O Az,Dr O,λ_ _ hb _ _=>aA (hM.top.ao hb).2 O Az,λ_ _ hb _ _=>bw (hM.top.ao hb) O Az,λ_ _ _ _ _=>aR O O Az,λ_ _ hb _ _=>aS (hB.below hb) O Az,λ_ _ hb _ _=>a6 (hB.below hb) O Az,λ_ _ hb _ _=>aA (hM.top.ao hb).2 O Az,λ_ _ hb _ _=>bw (hM.top.ao hb) O Az,λ_ _ _ _ _=>aR O O Az,λ_ _ _ _ _=>Dk O (by exact aQ Value.bool (db ac)),Dr O,λ_ _ hb _ _=>ar O (aS (hB.below hb) O Az),λ_ _ hb _ _=>ar O (a6 (hB.below hb) O Az),Dr O,λ_ _ hb _ _=>ar O (aA (hM.top.ao hb).2 O Az),λ_ _ hb _ _=>ar O (bw (hM.top.ao hb) O Az),?_,λ_ _ _ _ _=>ar O (cO O O (Az (by exact aQ Value.bool (db (λh=>h qK.2.1))))),Dr O,Dr O,λ_ _ hb _ _=>ar O (aS (hB.below hb) O Az),λ_ _ hb _ _=>ar O (a6 (hB.below hb) O Az),Dr O,λ_ _ hb _ _=>ar O (aA (hM.top.ao hb).2 O Az),λ_ _ hb _ _=>ar O (bw (hM.top.ao hb) O Az),?_,λ_ _ _ _ _=>ar O (cO O O (Az (by exact aQ Value.bool (db (λh=>h qK.2.2))))),Dr O,au⟩
   ·intro e1 w1 hb hp aW;refine ar O (aI (amB _ _ _ _ _ (br.ao hb)) O ?_);rintro _ w2 ⟨rfl,aw⟩;refine ak.n ?_;exact gk.dn aw.below ap
   intro e1 w1 hb hp aW;refine ar O (aI (amv _ _ _ _ _ (br.ao hb) qK.2.1) O ?_);rintro _ w2 ⟨rfl,aw⟩;subst aw;refine ak.n (d0 ap)
  intro u w3 ji _;have aM:=az.ao ji;refine fG O (Cd.cX O ?_);refine aC O (aJ O (aN O (tQ ?_)));exact⟨k+1,ac,(auV O),aM,ac⟩
 skip
 refine ba O (bc (kX O ?_));refine Cd.loop (α:=Nat) (λi=>[(1,.pointer Ab),(3,aj n),(5,aj i)]) (λi w'=>St w w' [Bx 32 1 Ab [.slice A n c]]/\i<=n) (λi=>n-i) 0 (auV O) ⟨az,bl _⟩ ?_;rintro i e w3 ⟨aM,hi⟩;refine bC O (aK _ O (λh6=>?_) (λh6=>?_))
 ·refine aC O (aJ O (ay O ?_));refine Cd.loop (α:=Nat) (λk=>[(1,.pointer Ab),(3,aj n),(5,aj i),(6,aj k)]) (λk w'=>St w w' [Bx 32 1 Ab [.slice A n c]]/\i+2<=k) (λk=>n+1-k) (i+2) (auV O) ⟨aM,cJ _⟩ ?_;rintro k e w4 ⟨aU,qy⟩;refine bC O (aK _ O (λh7=>?_) (λh7=>?_))
  ·have rki:=e6 i ac h6;have rkk:=e6 k ac h7;refine cM O (Cd.loop (α:=Nat) (λf=>[(1,.pointer Ab),(3,aj n),(5,aj i),(6,aj k),(7,aj f)]) (λf w'=>St w w' [Bx 32 1 Ab [.slice A n c]]/\f<=(gl xss 0).length) (λf=>(gl xss 0).length-f) 0 (auV O) ⟨aU,bl _⟩ ?_);rintro f e w5 ⟨aO,hf⟩;have hM:=aO.bU hR;have hB:=aO.rd 0 O;have jH:=hM.at_ (i:=i) ac h6;have tm:=hM.at_ (i:=k) ac h7;refine aY O (aS (aO.rd 0 O) O (a6 (aO.rd 0 O) O (aA hM.top.2 O (bw hM.top O ?_))));refine aR O O (ay O ?_);refine aK _ O (λh8=>?_) (λh8=>?_)
   ·have GQ:=(hs _ (rD (k:=(i:Int)) ac ac)).2 (f:Int) ac ac;have GX:=(hs _ (rD (k:=(k:Int)) ac ac)).2 (f:Int) ac ac;refine cM O ?_;have pG:=Kp i ac k ac qy f ac;refine ec [xP (aH (Ab) 0),xS (A) (n) (c),xI ((k:Int)),xP (aH (A) ((k:Int)).toNat),xS ((rg (rs) ((k:Int))).a) ((rg (rs) ((k:Int))).n) ((rg (rs) ((k:Int))).c),xP (aH (Ab) 0),xS (A) (n) (c),xI ((i:Int)),xP (aH (A) ((i:Int)).toNat),xS ((rg (rs) ((i:Int))).a) ((rg (rs) ((i:Int))).n) ((rg (rs) ((i:Int))).c),xI ((f:Int)),xP (aH ((rg (rs) ((i:Int))).a) ((f:Int)).toNat),xI (gi (gl xss i) ((f:Int))),xP (aH ((rg (rs) ((k:Int))).a) (gi (gl xss i) ((f:Int))).toNat),xI (gi (gl xss k) (gi (gl xss i) ((f:Int)))),xP (aH (Ab) 0),xS (A) (n) (c),xI ((i:Int)),xP (aH (A) ((i:Int)).toNat),xS ((rg (rs) ((i:Int))).a) ((rg (rs) ((i:Int))).n) ((rg (rs) ((i:Int))).c),xP (aH (Ab) 0),xS (A) (n) (c),xI ((k:Int)),xP (aH (A) ((k:Int)).toNat),xS ((rg (rs) ((k:Int))).a) ((rg (rs) ((k:Int))).n) ((rg (rs) ((k:Int))).c),xI ((f:Int)),xP (aH ((rg (rs) ((k:Int))).a) ((f:Int)).toNat),xI (gi (gl xss k) ((f:Int))),xP (aH ((rg (rs) ((i:Int))).a) (gi (gl xss k) ((f:Int))).toNat),xI (gi (gl xss i) (gi (gl xss k) ((f:Int)))),xB (false),xB (false),xP (aH (Ab) 0),xS (A) (n) (c),xI ((i:Int)),xP (aH (A) ((i:Int)).toNat),xS ((rg (rs) ((i:Int))).a) ((rg (rs) ((i:Int))).n) ((rg (rs) ((i:Int))).c),xI ((f:Int)),xP (aH ((rg (rs) ((i:Int))).a) ((f:Int)).toNat),xI (gi (gl xss i) ((f:Int))),xP (aH (Ab) 0),xS (A) (n) (c),xI ((k:Int)),xP (aH (A) ((k:Int)).toNat),xS ((rg (rs) ((k:Int))).a) ((rg (rs) ((k:Int))).n) ((rg (rs) ((k:Int))).c),xI ((f:Int)),xP (aH ((rg (rs) ((k:Int))).a) ((f:Int)).toNat),xI (gi (gl xss k) ((f:Int))),xB (false),xB (false)] O (eK O) ?_ ?_
    ·exact⟨λ_ _ hb _ _=>aS (hB.below hb) O Az,λ_ _ hb _ _=>a6 (hB.below hb) O Az,Dr O,λ_ _ hb _ _=>aA (hM.top.ao hb).2 O Az,λ_ _ hb _ _=>bw (hM.top.ao hb) O Az,λ_ _ hb _ _=>aS (hB.below hb) O Az,λ_ _ hb _ _=>a6 (hB.below hb) O Az,Dr O,λ_ _ hb _ _=>aA (hM.top.ao hb).2 O Az,λ_ _ hb _ _=>bw (hM.top.ao hb) O Az,Dr O,λ_ _ hb _ _=>aA (jH.ao hb).2 O Az,λ_ _ hb _ _=>bg (jH.ao hb) O Az,λ_ _ hb _ _=>aA (tm.ao hb).2 O Az,λ_ _ hb _ _=>bg (tm.ao hb) O Az,λ_ _ hb _ _=>aS (hB.below hb) O Az,λ_ _ hb _ _=>a6 (hB.below hb) O Az,Dr O,λ_ _ hb _ _=>aA (hM.top.ao hb).2 O Az,λ_ _ hb _ _=>bw (hM.top.ao hb) O Az,λ_ _ hb _ _=>aS (hB.below hb) O Az,λ_ _ hb _ _=>a6 (hB.below hb) O Az,Dr O,λ_ _ hb _ _=>aA (hM.top.ao hb).2 O Az,λ_ _ hb _ _=>bw (hM.top.ao hb) O Az,Dr O,λ_ _ hb _ _=>aA (tm.ao hb).2 O Az,λ_ _ hb _ _=>bg (tm.ao hb) O Az,λ_ _ hb _ _=>aA (jH.ao hb).2 O Az,λ_ _ hb _ _=>bg (jH.ao hb) O Az,λ_ _ _ _ _=>Dk O (by exact aQ Value.bool (db (λh=>h pG.1))),Dr O,λ_ _ hb _ _=>ar O (aS (hB.below hb) O Az),λ_ _ hb _ _=>ar O (a6 (hB.below hb) O Az),Dr O,λ_ _ hb _ _=>ar O (aA (hM.top.ao hb).2 O Az),λ_ _ hb _ _=>ar O (bw (hM.top.ao hb) O Az),Dr O,λ_ _ hb _ _=>ar O (aA (jH.ao hb).2 O Az),λ_ _ hb _ _=>ar O (bg (jH.ao hb) O Az),λ_ _ hb _ _=>ar O (aS (hB.below hb) O Az),λ_ _ hb _ _=>ar O (a6 (hB.below hb) O Az),Dr O,λ_ _ hb _ _=>ar O (aA (hM.top.ao hb).2 O Az),λ_ _ hb _ _=>ar O (bw (hM.top.ao hb) O Az),Dr O,λ_ _ hb _ _=>ar O (aA (tm.ao hb).2 O Az),λ_ _ hb _ _=>ar O (bg (tm.ao hb) O Az),λ_ _ _ _ _=>Dk O (by exact aQ Value.bool (db pG.2)),Dr O,au⟩
    intro u w6 mZ _;have bk:=aO.ao mZ;refine fG O (Cd.cX O ?_);refine aC O (aJ O (aN O (tQ ?_)));exact⟨f+1,ac,(auV O),bk,ac⟩
   refine ba O (bc (bY O (aJ O (aN O (tQ ?_)))));exact⟨k+1,ac,(auV O),aO,ac⟩
  refine ba O (bc (bY O (aJ O (aN O (tQ ?_)))));exact⟨i+1,ac,(auV O),aU,ac⟩
 have hM:=aM.bU hR;have hB:=aM.rd 0 O;refine ba O (bc (kX O ?_));refine ec [xP (aH (Ab) 0),xS (A) (n) (c),.pr (λv _=>∃A' c',v=.slice A' (gw (gl xss 0).length xss 0).length c'),xI (((gw (gl xss 0).length xss 0).length:Int)),xP (aH (Ab) 0),xS (A) (n) (c),xP (aH (A) ((0:Int)).toNat),xS ((rg (rs) ((0:Int))).a) ((rg (rs) ((0:Int))).n) ((rg (rs) ((0:Int))).c),xI ((((rg (rs) ((0:Int))).n:Nat):Int)),xB (decide ((((gw (gl xss 0).length xss 0).length:Int))=((((rg (rs) ((0:Int))).n:Nat):Int)))),xB (decide ((((gw (gl xss 0).length xss 0).length:Int))=((((rg (rs) ((0:Int))).n:Nat):Int))))] rfl (lx (lx (bV.2 ⟨Yd.bW (λ_ _ _ h _=>h),(lx (lx (lx (lx (lx (lx (lx (lx (λ_ h=>by cases h)))))))))⟩))) ?_ ?_
 ·refine⟨λ_ _ hb _ _=>aS (hB.below hb) O Az,λ_ _ hb _ _=>a6 (hB.below hb) O Az,?_,?_,λ_ _ hb _ _=>aS (hB.below hb) O Az,λ_ _ hb _ _=>a6 (hB.below hb) O Az,λ_ _ hb _ _=>aA (hM.top.ao hb).2 O Az,λ_ _ hb _ _=>bw (hM.top.ao hb) O Az,λ_ _ _ _ _=>aR O O Az,Dr O,Dr O,au⟩
  ·intro e1 w1 hb hp aW;refine aI (Zc _ _ _ _ _ (gl xss 0).length 0 _ (hM.ao hb) hn hs ac ac ac) O ?_;rintro _ w2 ⟨A',c',rfl,aw⟩;exact ak.n (gk.dn aw.below ⟨A',c',O⟩)
  intro e1 w1 hb hp aW;obtain⟨A',c',Oa⟩:=(hp 2 am rfl _ _ rfl rfl);refine aR (by exact Oa) O Az
 intro u w6 mZ _;have bk:=aM.ao mZ;refine xM O (cK O ?_);exact⟨aQ Value.bool ((dB ac).trans OU.symm),bk.none⟩
theorem K3(A:ai)(n c:Nat)(rs:List aE)(xss:ag)(w:aa)(hR:bH w A n rs xss)(hn:n<=c)(hc:c<=9223372036854775807)(Gp:eY xss):
 aF prog 29 [.agg #[.slice A n c]] w (λv w'=>v=.bool (decide (eY xss))/\St w w' []):=by
 have cT:=hR.len;have OU:decide (eY xss)=true:=dB Gp;obtain⟨PN,G1,l6,Kp,EB⟩:=Gp;have hs:=l6.sys;have e6:∀i:Int,0<=i->i<n->(rg rs i).n=(rg rs 0).n:=λi h0 h1=>by
  have e1:=hR.qc h0 h1;have e2:=(l6 _ (rD h0 ac)).1;have:=hR.qc (k:=0) ac ac;omega
 have r0:0<n->(gl xss 0).length=(rg rs 0).n:=λh=>hR.qc ac ac
 refine bn func29 O ntmps29 O (bM O) (aY O (rf (St.refl w) O O ?_));intro Ab w1 hS;refine aq O (aI (Ly _ _ _ _ _ _ (hS.rd 0 O) O) O ?_);rintro _ _ ⟨rfl,rfl⟩;refine aI (uU _ _ _ _) O ?_;rintro _ _ ⟨rfl,rfl⟩
 first|refine cO rfl rfl ?_|refine dv rfl rfl ?_
 refine aq O (b9 15 O (λh=>absurd h ac) (λ_=>?_));have hM:=hS.bU hR;have r0:=r0 ac;refine ar O (aI (Cf _ _ _ _ _ _ _ _ (hS.rd 0 O) O hM ac) O ?_);rintro _ _ ⟨rfl,rfl⟩;refine ar O (aI (uU _ _ _ _) O ?_);rintro _ _ ⟨rfl,rfl⟩;refine ar O ?_
 first|refine cO rfl rfl ?_|refine dv rfl rfl ?_
 refine ay O (fq O (aC O (aS (hS.rd 0 O) O (a6 (hS.rd 0 O) O ?_))));refine aR O O (ay O ?_);refine Cd.loop (α:=Nat) (λk=>[(1,.pointer Ab),(21,.slice A n c),(22,aj n),(23,aj k)]) (λk w'=>St w w' [Bx 32 1 Ab [.slice A n c]]/\k<=n) (λk=>n-k) 0 (auV O) ⟨hS,bl _⟩ ?_;rintro k e w2 ⟨az,hk⟩;have hM:=az.bU hR;refine bC O (aK _ O (λh5=>?_) (λh5=>?_))
 ·have uf:k<xss.length:=by omega
  have rk:=hR.qc (k:=(k:Int)) ac ac;have br:=hM.at_ (i:=k) ac h5;refine aC O (auJ hM.top.2 O O O ac h5 (bw hM.top O (aq O (aI (alM _ _ _ _ _ br) O ?_))));rintro _ w3 ⟨rfl,aw⟩;have aM:=az.ao aw.below;have hM:=aM.bU hR
  first|refine cO rfl rfl ?_|refine dv rfl rfl ?_
  refine aq O ?_;have qK:=l6.at_ uf;refine b9 30 O (λh=>absurd qK.2 h) (λ_=>?_);refine ar O (aq O (ar O ?_));refine aI (oK _ _ _ _) O ?_;rintro _ _ ⟨rfl,rfl⟩;refine ar O (aI (Cf _ _ _ _ _ _ _ _ (aM.rd 0 O) O hM ac) O ?_);rintro _ _ ⟨rfl,rfl⟩;refine ar O (ay O ?_);refine auT O (λh=>h ac) (aC O (aJ O (aN O (tQ ?_))));exact⟨k+1,ac,(auV O),aM,ac⟩
 skip
 refine ba O (bc (bY O ?_));refine aS (az.rd 0 O) O (a6 (az.rd 0 O) O ?_);refine aR O O (ay O ?_);refine Cd.loop (α:=Nat) (λi=>[(1,.pointer Ab),(38,.slice A n c),(39,aj n),(40,aj i)]) (λi w'=>St w w' [Bx 32 1 Ab [.slice A n c]]/\i<=n) (λi=>n-i) 0 (auV O) ⟨az,bl _⟩ ?_;rintro i e w3 ⟨aM,hi⟩;have hM:=aM.bU hR;refine bC O (aK _ O (λh6=>?_) (λh6=>?_))
 ·refine aC O (auJ hM.top.2 O O O ac h6 (bw hM.top O (aq O (aS (aM.rd 0 O) O (a6 (aM.rd 0 O) O ?_)))));refine aq O (aJ O ?_);refine aS (aM.rd 0 O) O (a6 (aM.rd 0 O) O (aR O O (Tq O O O ?_)));obtain⟨l,hl,vx,AP⟩:∃l:Nat,min ((i:Int)+2) (n:Int)=(l:Int)/\l<=n/\(l=i+2\/(l=n/\n<=i+2)):=⟨min (i+2) n,ac,ac,ac⟩;rw[hl];refine uY O O O ac ?_;rw[gx];refine aR O O (ay O ?_);refine Cd.loop (α:=Nat) (λj=>[(1,.pointer Ab),(38,.slice A n c),(39,aj n),(40,aj i),(6,.slice (rg rs i).a (rg rs i).n (rg rs i).c),(53,.slice (cutAt A c l) (n-l) (c-l)),(54,aj ((n-l:Nat):Int)),(55,aj j)]) (λj w'=>St w w' [Bx 32 1 Ab [.slice A n c]]/\j<=n-l) (λj=>n-l-j) 0 (auV O) ⟨aM,bl _⟩ ?_;rintro j e w4 ⟨aU,hj⟩;have hM:=aU.bU hR;have na:=hM.top.cut (c:=c) vx (cJ n) hn;refine bC O (aK _ O (λh7=>?_) (λh7=>?_))
  ·have gp:j<n-l:=by omega
   have hk:l+j<n:=by omega
   have qy:i+2<=l+j:=by omega
   refine aC O (auJ na.2 O O O ac h7 (bw na O ?_));rw[apN gp];generalize pM:l+j=k at hk qy;have rki:=e6 i ac h6;have rkk:=e6 k ac ac;refine aq O (aI (Cf _ _ _ _ _ _ _ _ (aU.rd 0 O) O hM ac) O ?_);rintro _ w4 ⟨rfl,rfl⟩;refine ay O (Cd.loop (α:=Nat) (λf=>[(1,.pointer Ab),(38,.slice A n c),(39,aj n),(40,aj i),(6,.slice (rg rs i).a (rg rs i).n (rg rs i).c),(53,.slice (cutAt A c l) (n-l) (c-l)),(54,aj ((n-l:Nat):Int)),(55,aj j),(8,.slice (rg rs k).a (rg rs k).n (rg rs k).c),(59,aj ((rg rs 0).n:Int)),(60,aj f)]) (λf w'=>St w w' [Bx 32 1 Ab [.slice A n c]]/\f<=(gl xss 0).length) (λf=>(gl xss 0).length-f) 0 (auV O) ⟨aU,bl _⟩ ?_);rintro f e w5 ⟨aO,hf⟩;have hM:=aO.bU hR;have jH:=hM.at_ (i:=i) ac h6;have tm:=hM.at_ (i:=k) ac ac;refine bC O (aK _ O (λh8=>?_) (λh8=>?_))
   ·have GQ:=(hs _ (rD (k:=(i:Int)) ac ac)).2 (f:Int) ac ac;have GX:=(hs _ (rD (k:=(k:Int)) ac ac)).2 (f:Int) ac ac;refine cM O ?_;have pG:=Kp i ac k ac qy f ac;refine ec [xS ((rg rs i).a) ((rg rs i).n) ((rg rs i).c),xI ((f:Int)),xP (aH ((rg rs i).a) ((f:Int)).toNat),xI (gi (gl xss i) ((f:Int))),xS ((rg rs k).a) ((rg rs k).n) ((rg rs k).c),xI ((f:Int)),xP (aH ((rg rs k).a) ((f:Int)).toNat),xI (gi (gl xss k) ((f:Int))),xB (false),xB (false),xS ((rg rs k).a) ((rg rs k).n) ((rg rs k).c),xS ((rg rs i).a) ((rg rs i).n) ((rg rs i).c),xI ((f:Int)),xP (aH ((rg rs i).a) ((f:Int)).toNat),xI (gi (gl xss i) ((f:Int))),xP (aH ((rg rs k).a) (gi (gl xss i) ((f:Int))).toNat),xI (gi (gl xss k) (gi (gl xss i) ((f:Int)))),xS ((rg rs i).a) ((rg rs i).n) ((rg rs i).c),xS ((rg rs k).a) ((rg rs k).n) ((rg rs k).c),xI ((f:Int)),xP (aH ((rg rs k).a) ((f:Int)).toNat),xI (gi (gl xss k) ((f:Int))),xP (aH ((rg rs i).a) (gi (gl xss k) ((f:Int))).toNat),xI (gi (gl xss i) (gi (gl xss k) ((f:Int)))),xB (false),xB (false)] O (eK O) ?_ ?_
    ·exact⟨Dr O,Dr O,λ_ _ hb _ _=>aA (jH.ao hb).2 O Az,λ_ _ hb _ _=>bg (jH.ao hb) O Az,Dr O,Dr O,λ_ _ hb _ _=>aA (tm.ao hb).2 O Az,λ_ _ hb _ _=>bg (tm.ao hb) O Az,λ_ _ _ _ _=>Dk O (by exact aQ Value.bool (db pG.2)),Dr O,Dr O,Dr O,Dr O,λ_ _ hb _ _=>ar O (aA (jH.ao hb).2 O Az),λ_ _ hb _ _=>ar O (bg (jH.ao hb) O Az),λ_ _ hb _ _=>ar O (aA (tm.ao hb).2 O Az),λ_ _ hb _ _=>ar O (bg (tm.ao hb) O Az),Dr O,Dr O,Dr O,λ_ _ hb _ _=>ar O (aA (tm.ao hb).2 O Az),λ_ _ hb _ _=>ar O (bg (tm.ao hb) O Az),λ_ _ hb _ _=>ar O (aA (jH.ao hb).2 O Az),λ_ _ hb _ _=>ar O (bg (jH.ao hb) O Az),λ_ _ _ _ _=>Dk O (by exact aQ Value.bool (db (λh=>h pG.1))),Dr O,au⟩
    intro u w6 mZ _;have bk:=aO.ao mZ;refine fG O (Cd.cX O ?_);refine aC O (aJ O (aN O (tQ ?_)));exact⟨f+1,ac,(auV O),bk,ac⟩
   refine ba O (bc (bY O (aJ O (aN O (tQ ?_)))));exact⟨j+1,ac,(auV O),aO,ac⟩
  refine ba O (bc (bY O (aJ O (aN O (tQ ?_)))));exact⟨i+1,ac,(auV O),aU,ac⟩
 have hB:=aM.rd 0 O;refine ba O (bc (kX O ?_));refine ec [xI (((rg rs 0).n:Int)),xP (aH (Ab) 0),xS (A) (n) (c),.pr (λv _=>∃A',v=.tuple #[.slice A' (gl xss 0).length (gl xss 0).length,aj (bO (gl xss 0).length xss (gl xss 0).length).2]),.pr (λv _=>∃A',v=.tuple #[.slice A' (gl xss 0).length (gl xss 0).length,aj (bO (gl xss 0).length xss (gl xss 0).length).2]),.pr (λv _=>∃A',v=.slice A' (gl xss 0).length (gl xss 0).length),xI ((bO (gl xss 0).length xss (gl xss 0).length).2),.pr (λv _=>∃A',v=.slice A' (gl xss 0).length (gl xss 0).length),xI ((bO (gl xss 0).length xss (gl xss 0).length).2)] rfl (lx (lx (lx (bV.2 ⟨Yd.bW (λ_ _ _ h _=>h),(bV.2 ⟨Yd.bW (λ_ _ _ h _=>h),(bV.2 ⟨Yd.bW (λ_ _ _ h _=>h),(lx (bV.2 ⟨Yd.bW (λ_ _ _ h _=>h),(lx (λ_ h=>by cases h))⟩))⟩)⟩)⟩)))) ?_ ?_
 ·refine⟨?_,λ_ _ hb _ _=>aS (hB.below hb) O Az,λ_ _ hb _ _=>a6 (hB.below hb) O Az,?_,?_,?_,?_,?_,Dr O,au⟩
  ·intro e1 w1 hb hp aW;refine aI (Cf _ _ _ _ _ _ _ _ (hB.below hb) O (hM.ao hb) ac) O ?_;rintro _ w2 ⟨rfl,aw⟩;subst aw;refine ak.n (d0 ap)
  ·intro e1 w1 hb hp aW;refine auM (aaf A n c rs xss (gl xss 0).length _ (hM.ao hb) ac hs l6.inj ac) O (by rw[r0];rfl) O ?_;rintro _ w2 ⟨A',rfl,aw⟩;exact ak.n (gk.dn aw.below ⟨A',O⟩)
  ·intro e1 w1 hb hp aW;obtain⟨A',Ge⟩:=(hp 3 am rfl _ _ rfl rfl);refine MB O (by exact Ge) O (ak.n ?_);exact gk.dn (Below.refl _ _) ⟨A',O⟩
  ·intro e1 w1 hb hp aW;obtain⟨A',Oq⟩:=(hp 4 am rfl _ _ rfl rfl);refine ak.extract (by exact Oq) O O (ak.n ?_);exact gk.dn (Below.refl _ _) ⟨A',O⟩
  ·intro e1 w1 hb hp aW;obtain⟨A',Oq⟩:=(hp 4 am rfl _ _ rfl rfl);refine ak.extract (by exact Oq) O O Az
  intro e1 w1 hb hp aW;obtain⟨A',Gf⟩:=(hp 5 am rfl _ _ rfl rfl);refine mm O (by exact Gf) O (ak.n ?_);exact gk.dn (Below.refl _ _) ⟨A',O⟩
 intro u w6 mZ _;have bk:=aM.ao mZ;refine xM O (cK O ?_);have ho:=aoy hs ac;have hl:=anf hs ac;exact⟨aQ Value.bool ((dB (hl.2 (ho.1 EB))).trans OU.symm),bk.none⟩
theorem ap1{w:aa}{A B:ai}{n m:Nat}{rs qs:List aE}{xss SF:ag}(h1:bH w A n rs xss)(h2:bH w B m qs SF){i:Nat}(hi:i<n+m):bu w (rg (rs++qs) i).a (rg (rs++qs) i).n (gl (xss++SF) i):=by
 have a1:=h1.top.1;have a2:=h1.len;have b1:=h2.top.1;have b2:=h2.len;unfold rg gl;rw[gx,b5,b5]
 by_cases h:i<n
 ·rw[jF (by omega),jF (by omega),<-b5,<-b5];exact h1.row i h
 rw[jM (by omega),jM (by omega),<-b5,<-b5,a1,a2];exact h2.row (i-n) ac
theorem acd(Aq:ai)(s t:aE)(x y:List aE)(w:aa)(hQ:fu w Aq 2 [s,t])(hx:fu w s.a s.n x)(hy:fu w t.a t.n y)(hn:s.n+t.n<=1000000):
 aF prog 63 [.slice Aq 2 2] w (λv w'=>∃A' c',v=.slice A' (x++y).length c'/\St w w' [aX 27 A' (x++y).length c' (x++y)]):=by
 have cT:=hx.1;have nO:=hy.1;refine bn func63 O ntmps63 O (bM O) ?_;refine aY O (aR O O (ay O ?_));have e0:rg [s,t] ((0:Nat):Int)=s:=O;have e1:rg [s,t] ((1:Nat):Int)=t:=O;refine Cd.loop (α:=Nat×Nat) (λk=>[(0,.slice Aq 2 2),(3,aj (k.2:Int)),(9,.slice Aq 2 2),(10,aj 2),(11,aj (k.1:Int))]) (λk w'=>w'=w/\k.1<=2/\k.2=if k.1=0 then 0 else if k.1=1 then s.n else s.n+t.n) (λk=>2-k.1) (0,0) (auV O) ⟨O,am,O⟩ ?_;rintro⟨k,m⟩ e w1 ⟨rfl,hk,hm⟩;dsimp only at hk hm|-;refine bC O (aK _ O (λh1=>?_) (λh1=>?_))
 ·rcases(show k=0\/k=1 by omega)with rfl|rfl
  ·obtain rfl:m=0:=hm;refine aC O (aA hQ.2 O ?_);refine auQ (i:=((0:Nat):Int)) hQ O (by simp) O O ?_;rw[e0];refine aq O (aR O O (aJ O (ay O ?_)));refine fq O (aC O (aJ O (aN O (tQ ?_))));exact⟨(1,s.n),by show 2-1<2-0;omega,⟨O,by show Value.int .i64 (((0:Nat):Int)+(s.n:Int))=aj (s.n:Int);congr 1;omega,O,O,O,au⟩,O,by show 1<=2;omega,O⟩
  obtain rfl:m=s.n:=hm;refine aC O (aA hQ.2 O ?_);refine auQ (i:=((1:Nat):Int)) hQ O (by simp) O O ?_;rw[e1];refine aq O (aR O O (aJ O (ay O ?_)));refine fq O (aC O (aJ O (aN O (tQ ?_))));exact⟨(2,s.n+t.n),by show 2-2<2-1;omega,⟨O,by show Value.int .i64 ((s.n:Int)+(t.n:Int))=aj ((s.n+t.n:Nat):Int);congr 1,O,O,O,au⟩,O,by show 2<=2;omega,O⟩
 obtain rfl:k=2:=by omega
 obtain rfl:m=s.n+t.n:=hm;refine ba O (bc (bY O ?_));refine aI (aco (s.n+t.n) _ ac) O ?_;rintro _ w2 ⟨A6,c6,rfl,ni,az⟩;refine aq O (aR O O (ay O ?_));refine Cd.loop (α:=Nat×ai×Nat×List aE) (λk=>[(6,.slice k.2.1 k.2.2.2.length k.2.2.1),(25,.slice Aq 2 2),(26,aj 2),(27,aj (k.1:Int))]) (λk w'=>St w1 w' [aX 27 k.2.1 k.2.2.2.length k.2.2.1 k.2.2.2]/\k.1<=2/\k.2.2.2=if k.1=0 then[]else if k.1=1 then x else x++y) (λk=>2-k.1) (0,A6,c6,[]) (auV O) ⟨az,by show 0<=2;omega,O⟩ ?_;rintro⟨k,A6,c6,zs⟩ e w3 ⟨aM,hk,hm⟩;dsimp only at aM hk hm|-;have yj:=aM.pc hQ;refine bC O (aK _ O (λh2=>?_) (λh2=>?_))
 ·rcases(show k=0\/k=1 by omega)with rfl|rfl
  ·obtain rfl:zs=[]:=hm;refine aC O (aA yj.2 O ?_);refine auQ (i:=((0:Nat):Int)) yj O (by simp) O O ?_;rw[e0];refine aq O ?_;refine iT 0 aM O (aM.pc hx) O O O (by simp;omega) (by simp;omega) O ?_;intro A7 c7 w4 aU;refine aq O (aJ O (aN O (tQ ?_)));refine⟨(1,A7,c7,x),by show 2-1<2-0;omega,⟨by show Value.slice A7 (0+s.n) c7=.slice A7 x.length c7;rw[cT,Nat.zero_add],O,O,O,au⟩,?_,by show 1<=2;omega,O⟩;show St w1 w4 [aX 27 A7 x.length c7 x];have h5:St w1 w4 [aX 27 A7 (0+s.n) c7 x]:=aU;rw[cT]
   rwa[Nat.zero_add]at h5
  obtain rfl:zs=x:=hm;refine aC O (aA yj.2 O ?_);refine auQ (i:=((1:Nat):Int)) yj O (by simp) O O ?_;rw[e1];refine aq O (iT 0 aM O (aM.pc hy) O O O ac ac O ?_);intro A7 c7 w4 aU;refine aq O (aJ O (aN O (tQ ?_)));refine⟨(2,A7,c7,zs++y),by show 2-2<2-1;omega,⟨by show Value.slice A7 (zs.length+t.n) c7=.slice A7 (zs++y).length c7;rw[cj,nO],O,O,O,au⟩,?_,by show 2<=2;omega,O⟩;show St w1 w4 [aX 27 A7 (zs++y).length c7 (zs++y)];rw[cj,nO];exact aU
 obtain rfl:k=2:=by omega
 obtain rfl:zs=x++y:=hm;refine ba O (bc (ew O ?_));exact dV O ⟨A6,c6,O,aM⟩
theorem arY(Pa:ai)(A:ai)(n c:Nat)(ws:ah)(aZ nr cr:Nat)(Ar:ai)(w:aa)(hP:Rd w Pa 2 (λj=>([aj aZ,.slice Ar nr cr]:List ab).getD j undef))(hR:bu w A n ws)(hn:1<=n/\n<=64)(hg:aZ<=5)(hw:∀x∈ws,0<=x/\x<(aZ:Int)):
 aF prog 61 [.slice A n c,.pointer Pa] w (λv w'=>v=.bool false/\St w w' []):=by
 refine bn func61 O ntmps61 O (bM O) (aY O (aS hP O (fX hP O O O O O (aI (YS A n c ws aZ _ hR hn.2 ac hw) O ?_))));rintro _ w2 ⟨rfl,aw⟩
 first|refine cO rfl rfl ?_|refine dv rfl rfl ?_
 refine bR O (cK O ?_);exact⟨O,aw⟩
theorem arZ(aZ:Nat)(Ar:ai)(nr cr:Nat)(gB:List aE)(rel:ag)(Aw:ai)(nw cw:Nat)(ie:List aE)(words:ag)(w:aa)(hR:bH w Ar nr gB rel)(kc:bH w Aw nw ie words)(Av:oS aZ 1 words)(hg:1<=aZ/\aZ<=5)(hW:oS aZ 1 rel):
 aF prog 26 [.agg #[aj aZ,.slice Ar nr cr],.slice Aw nw cw] w (λv w'=>v=aj 0/\St w w' []):=by
 have pa:=kc.len;have O6:=Av.1;refine bn func26 O ntmps26 O (bM O) (aY O (nB (St.refl w) O O ?_));intro A1 w1 ax;refine aq O (cG 1 (ax.rd 0 O) O O O (aI (alS aZ Ar nr cr gB rel _ (ax.bU hR) hg hW) O ?_));rintro _ w2 ⟨rfl,aw⟩;have az:=ax.ao aw.below;have Ws:=az.bU kc
 first|refine cO rfl rfl ?_|refine dv rfl rfl ?_
 refine aq O (ak.split 8 O (λh=>absurd h am) (λ_=>?_));refine ar O (aq O (ar O (aR O O (ar O (aq O ?_)))));refine b9 13 O (λh=>absurd h ac) (λ_=>?_);refine ar O (aq O (ar O ?_));refine Iz O O (ar O ?_);refine auM (Uf Aw nw cw ie 61 [.pointer A1] _ Ws.top ac (λw' i hb hi=>by
  have br:=(Ws.ao hb).at_ (i:=(i:Int)) ac ac;have hx:=Av.2 (gl words i) (rD ac ac);have yM:=br.1;exact arY A1 _ _ _ (gl words i) aZ nr cr Ar w' ((az.rd 0 O).below hb) br ac hg.2 hx.2.2)) O O O ?_
 rintro _ w3 ⟨rfl,mB⟩;refine ay O (Cd.cX O (dE O (gj O ?_)));exact⟨O,(az.ao mB.below).none⟩
theorem asS(aZ:Nat)(Ar:ai)(nr cr:Nat)(gB:List aE)(rel:ag)(Aw:ai)(nw cw:Nat)(ie:List aE)(words:ag)(w:aa)(hR:bH w Ar nr gB rel)(kc:bH w Aw nw ie words)(hW:oS aZ 1 (rel++words)):
 aF prog 27 [.agg #[aj aZ,.slice Ar nr cr],.slice Aw nw cw] w (λv w'=>∃B c rs,v=.tuple #[.agg #[aj aZ,.slice B (rel++words).length c],aj 0]/\rs.length=(rel++words).length/\St w w' (aV 27 2 B (rel++words).length c rs (rel++words))):=by
 have bT:=hR.len;have pa:=kc.len;have O6:=hW.1;have XD:=hR.top.1;have XH:=kc.top.1;have hq:∀(w':aa),bH w' Ar nr gB rel->bH w' Aw nw ie words->∀i:Nat,i<nr+nw->bu w' (rg (gB++ie) i).a (rg (gB++ie) i).n (gl (rel++words) i):=λw' h1 h2 i hi=>ap1 h1 h2 hi
 obtain⟨rl,yJ⟩:∃rl,rel++words=rl:=⟨_,rfl⟩;obtain⟨rq,Qg⟩:∃rq,gB++ie=rq:=⟨_,rfl⟩;obtain⟨N,hN⟩:∃N,nr+nw=N:=⟨_,rfl⟩;have mz:rq.length=N:=by rw[<-Qg,cj];omega
 have oz:rl.length=N:=by rw[<-yJ,cj];omega
 rw[yJ,Qg,hN]at hq;rw[yJ]at hW O6|-;refine bn func27 O ntmps27 O (tw O O) (aY O (nB (St.refl w) O O ?_));intro A2 w1 ax;refine kM ax O λA4 w2 az=>aq O (aS (az.rd 1 O) O (fX (az.rd 1 O) O O O O O (Iw aL aL O O O O O (kM az O ?_))));intro A6 w3 aM;refine dU 2 0 aM O O O O O O O ?_;intro w4 aU;have aU:St w w4 [Bx 59 2 A6 [aj aZ,.slice none 0 0],Bx 59 2 A4 [aj 0,.slice none 0 0],Bx 59 2 A2 [aj aZ,.slice Ar nr cr]]:=aU;refine aq O (aS (aU.rd 2 O) O (a6 (aU.rd 2 O) O (aq O (FC aU O O O O O O ?_))));intro gK w5 aO;have aO:St w w5 (aX 28 gK 2 2 [⟨Ar,nr,cr⟩,⟨Aw,nw,cw⟩]::[Bx 59 2 A6 [aj aZ,.slice none 0 0],Bx 59 2 A4 [aj 0,.slice none 0 0],Bx 59 2 A2 [aj aZ,.slice Ar nr cr]]):=aO;refine aI (acd gK ⟨Ar,nr,cr⟩ ⟨Aw,nw,cw⟩ gB ie _ (aO.dm 0 O) (aO.pc hR.top) (aO.pc kc.top) (by show nr+nw<=1000000;omega)) O ?_;rintro _ w6 ⟨kV,kZ,rfl,np⟩;rw[Qg,mz]at np|-;have bk:St w w6 (aX 27 kV N kZ rq::aX 28 gK 2 2 [⟨Ar,nr,cr⟩,⟨Aw,nw,cw⟩]::[Bx 59 2 A6 [aj aZ,.slice none 0 0],Bx 59 2 A4 [aj 0,.slice none 0 0],Bx 59 2 A2 [aj aZ,.slice Ar nr cr]]):=aO.call np;have bk:St w w6 [aX 27 kV N kZ rq,Bx 59 2 A6 [aj aZ,.slice none 0 0],Bx 59 2 A4 [aj 0,.slice none 0 0]]:=bk.sub (List.Sublist.cons_cons _ (List.Sublist.cons _ (List.Sublist.cons_cons _ (List.Sublist.cons_cons _ (List.nil_sublist _)))));have bk:St w w6 [Bx 59 2 A6 [aj aZ,.slice none 0 0],aX 27 kV N kZ rq,Bx 59 2 A4 [aj 0,.slice none 0 0]]:=bk.perm (List.Perm.swap _ _ _);have bp:St w w6 (aX 27 none 0 0 []::[Bx 59 2 A6 [aj aZ,.slice none 0 0],aX 27 kV N kZ rq,Bx 59 2 A4 [aj 0,.slice none 0 0]]):=bk.nil _;have bB:St w w6 ([Bx 59 2 A6 [aj aZ,.slice none 0 0],aX 27 kV N kZ rq,Bx 59 2 A4 [aj 0,.slice none 0 0]]++aV 27 2 none 0 0 [] []):=bp.perm (gL (l₁:=[_]) (l₂:=[_,_,_]));refine aR O O (ay O ?_);refine Cd.loop (α:=FK) (λs=>[(4,.pointer A4),(6,.pointer A6),(16,.slice kV N kZ),(17,aj N),(18,aj (s.n:Int))]) (λs w'=>St w w' ([Bx 59 2 A6 [aj aZ,.slice s.B s.n s.c],aX 27 kV N kZ rq,Bx 59 2 A4 [aj 0,.slice none 0 0]]++aV 27 2 s.B s.n s.c s.rs s.xss)/\s.rs.length=s.n/\s.xss.length=s.n/\s.n<=N/\s.xss++rl.drop s.n=rl) (λs=>N-s.n) ⟨0,0,none,0,0,[],[]⟩ (auV O) ⟨bB,O,O,bl _,O⟩ ?_;rintro⟨f0,k0,B,i,cB,rs,xss⟩ e w7 ⟨bp,eM,cT,hi,fx⟩;dsimp only at bp eM cT hi fx|-;have V0:=bp.dm 1 O;have Ea:=hq _ (bp.bU hR) (bp.bU kc);refine bC O (aK _ O (λh1=>?_) (λh1=>?_))
 ·have br:=Ea i ac;have hx:=hW.2 (gl rl i) (rD ac ac);have yM:=br.1;refine aC O (aA V0.2 O (bw V0 O ?_));refine aq O (aR O O (ay O ?_));refine vY O ac ?_;refine iu [5,7] [yP (aH (A6) 1),yS (B) (i) (cB),yS ((rg rq i).a) ((rg rq i).n) ((rg rq i).c),.pr (λv w'=>∃eC eE,v=.slice eC (rg rq i).n eE/\St w w' (av 2 eC (rg rq i).n eE (gl rl i)::Bx 59 2 A6 [aj aZ,.slice B i cB]::aX 27 kV N kZ rq::Bx 59 2 A4 [aj 0,.slice none 0 0]::aV 27 2 B i cB rs xss)),.pr (λv w'=>∃eC eE nY,v=.slice nY 1 1/\St w w' (aX 27 nY 1 1 [⟨eC,(rg rq i).n,eE⟩]::av 2 eC (rg rq i).n eE (gl rl i)::Bx 59 2 A6 [aj aZ,.slice B i cB]::aX 27 kV N kZ rq::Bx 59 2 A4 [aj 0,.slice none 0 0]::aV 27 2 B i cB rs xss)),.pr (λv w'=>∃eC eE gV gY,v=.slice gV (i+1) gY/\St w w' (av 2 eC (rg rq i).n eE (gl rl i)::Bx 59 2 A6 [aj aZ,.slice B i cB]::aX 27 kV N kZ rq::Bx 59 2 A4 [aj 0,.slice none 0 0]::aX 27 gV (i+1) gY (rs++[⟨eC,(rg rq i).n,eE⟩])::cC 2 rs xss)),yP (aH (A6) 1),.pr (λ_ w'=>∃eC eE gV gY,St w w' (av 2 eC (rg rq i).n eE (gl rl i)::Bx 59 2 A6 [aj aZ,.slice gV (i+1) gY]::aX 27 kV N kZ rq::Bx 59 2 A4 [aj 0,.slice none 0 0]::aX 27 gV (i+1) gY (rs++[⟨eC,(rg rq i).n,eE⟩])::cC 2 rs xss))] (ly (ly (ly (bV.2 ⟨Ye.bW (λv w w' h hb=>by obtain⟨eC,eE,hv,h1⟩:=h;exact⟨eC,eE,hv,h1.ao hb⟩),(bV.2 ⟨Ye.bW (λv w w' h hb=>by obtain⟨eC,eE,nY,hv,h1⟩:=h;exact⟨eC,eE,nY,hv,h1.ao hb⟩),(bV.2 ⟨Ye.bW (λv w w' h hb=>by obtain⟨eC,eE,gV,gY,hv,h1⟩:=h;exact⟨eC,eE,gV,gY,hv,h1.ao hb⟩),(ly (bV.2 ⟨Ye.bW (λv w w' h hb=>by obtain⟨eC,eE,gV,gY,h1⟩:=h;exact⟨eC,eE,gV,gY,h1.ao hb⟩),(λ_ h=>by cases h)⟩))⟩)⟩)⟩)))) ?_ ?_
  ·refine⟨cP λ_ _ hb _ _ _=>aS ((bp.rd 0 O).below hb) O (bA O O),cP λ_ _ hb _ _ _=>a6 ((bp.rd 0 O).below hb) O (bA O O),bP O,?_,?_,?_,?_,?_,au⟩
   ·refine cP λe1 w1 hb hp aW hq=>?_
    refine aI (DA _ _ _ (gl rl i) _ (br.ao hb) ac) O ?_;rintro _ w8 ⟨eC,eE,rfl,aw⟩;exact ak.n (eD.dn O aw.below ⟨eC,eE,O,(bp.ao hb).call aw⟩)
   ·refine cP λe1 w1 hb hp aW hq=>?_
    obtain⟨eC,eE,hv,h1⟩:=(hp 3 _ _ an rfl rfl an);refine jW (St.refl _) (by exact hv) O O ?_;intro nY SE Bj;exact ak.n (eD.dn O Bj.below ⟨eC,eE,nY,O,h1.call Bj⟩)
   ·refine iF λe1 w1 hb hp aW hq=>?_
    obtain⟨eC,eE,nY,hv,h1⟩:=(hp 4 _ _ an rfl rfl an);refine iT 5 h1 O (h1.dm 0 O) O (by exact hv) O ac ac O ?_;intro gV gY Fl Gw;exact ak.n (dS.dn O ⟨eC,eE,gV,gY,O,Gw.tail⟩)
   ·refine dP 1 λe1 w1 hp aW hq=>?_
    have cg:=hp 5 _ _ an O O an;obtain⟨eC,eE,gV,gY,pz,hT⟩:=cg;refine aS ((hT.rd 1 O)) O (ak.n (fp O ap))
   refine kB 1 λe1 w1 hp aW hq=>?_
   have cg:=hp 5 _ _ an O O an;obtain⟨eC,eE,gV,gY,pz,hT⟩:=cg;refine oR 1 hT O O (by exact pz) O O ?_;intro Ic CB;exact ak.n (dS.st O ⟨eC,eE,gV,gY,CB⟩)
  intro u w8 _ hu _ _;obtain⟨eC,eE,gV,gY,hT⟩:=hu 7 _ rfl an;refine gq O (aJ O (aN O (tQ ?_)));refine⟨⟨f0,k0,gV,i+1,gY,rs++[⟨eC,(rg rq i).n,eE⟩],xss++[gl rl i]⟩,by show N-(i+1)<N-i;omega,(auV O),?_,by simp[eM],by simp[cT],by show i+1<=N;omega,?_⟩
  ·show St w w8 ([Bx 59 2 A6 [aj aZ,.slice gV (i+1) gY],aX 27 kV N kZ rq,Bx 59 2 A4 [aj 0,.slice none 0 0]]++aX 27 gV (i+1) gY (rs++[⟨eC,(rg rq i).n,eE⟩])::cC 2 (rs++[⟨eC,(rg rq i).n,eE⟩]) (xss++[gl rl i]));rw[tA (by omega)];refine hT.perm ?_;exact gL (l₁:=[_]) (l₂:=Bx 59 2 A6 [aj aZ,.slice gV (i+1) gY]::aX 27 kV N kZ rq::Bx 59 2 A4 [aj 0,.slice none 0 0]::aX 27 gV (i+1) gY (rs++[⟨eC,(rg rq i).n,eE⟩])::cC 2 rs xss)
  show(xss++[gl rl i])++rl.drop (i+1)=rl;rw[List.drop_eq_getElem_cons (by omega),<-df (by omega)]at fx;rw[ef];exact fx
 obtain rfl:i=N:=by omega
 rw[List.drop_eq_nil_of_le (by omega),dQ]at fx;subst fx;refine ba O (bc (bY O ?_));refine aS (bp.rd 0 O) O (a6 (bp.rd 0 O) O ?_);refine aR O O (ay O ?_);refine fq O (aC O (cG 1 (bp.rd 0 O) O O O (dU 2 2 bp O O O O O O O ?_)));intro w9 bj;refine bR O (oI O (bj.rd 2 O) O ?_);refine⟨B,cB,rs,by rw[cT];rfl,ac,?_⟩;rw[cT];exact((bj.sub ((fD _).cons _)).sub ((fD _).cons _)).sub ((fD _).cons _)
structure wi(labels:ah)(words:ag)(T:ag):Prop where
 len:labels.length<5
 bO:∀x∈labels,x=0\/(2<=x/\x<=32)
 wds:oS ((labels.length+1:Nat):Int) 1 (dO labels)
 asR:oS ((labels.length+1:Nat):Int) 1 words
 both:oS ((labels.length+1:Nat):Int) 1 (dO labels++words)
 ju:uQ (labels.length+1) (dO labels++words)=some T
 ZB:eY T
theorem alw(Al:ai)(nl cl:Nat)(labels:ah)(T:ag)(w:aa)(hR:bu w Al nl labels)(Aw:ai)(nw cw:Nat)(ie:List aE)(words:ag)(kc:bH w Aw nw ie words)(hU:wi labels words T):
 aF prog 8 [.slice Al nl cl,.slice Aw nw cw] w (SQ T 0 w):=by
 obtain⟨u1,u2,u3,u6,u7,u4,u5⟩:=hU;have oz:=hR.1;have k7:=u5.1;have aiJ:=u5.2.1;rw[oz]at u1 u3 u4 u6 u7;refine bn func8 O ntmps8 O (tw O O) (aY O (DE (St.refl w) O ?_));intro A4 w1 ax;refine aq O (aI (alI Al nl cl labels _ (ax.dq hR) u1 u2) O ?_);rintro _ w2 ⟨rfl,rL⟩;have az:=ax.ao rL.below
 first|refine cO rfl rfl ?_|refine dv rfl rfl ?_
 refine ay O (Cd.cX O (aC O ?_));refine aI (afj Al nl cl labels _ (az.dq hR) ac (λx hx=>by have:=u2 x hx;omega)) O ?_;rintro _ w3 ⟨B,c,rs,rfl,bT,mB⟩;have aM:=az.call mB;refine kM aM O λA6 w4 aU=>dU 2 0 aU O O O O O O O ?_;intro w5 aO;have Ep:((nl:Int)+1)=((nl+1:Nat):Int):=by omega
 have aO:St w w5 (Bx 59 2 A6 [aj ((nl+1:Nat):Int),.slice B (dO labels).length c]::(aV 27 2 B (dO labels).length c rs (dO labels)++[Bx 32 1 A4 [.slice none 0 0]])):=by
  rw[<-Ep];exact aO
 have JY:bH w5 B (dO labels).length rs (dO labels):=St.fO aO.tail O;refine aq O (cG 1 (aO.rd 0 O) O O O (aq O (aI (arZ (nl+1) B (dO labels).length c rs (dO labels) Aw nw cw ie words _ JY (aO.bU kc) u6 ac u3) O ?_)));rintro _ w6 ⟨rfl,np⟩;have bk:=aO.ao np.below;refine ay O (auT O (λh=>h O) (aC O (cG 1 (bk.rd 0 O) O O O (aq O (aI (asS (nl+1) B (dO labels).length c rs (dO labels) Aw nw cw ie words _ (JY.ao np.below) (bk.bU kc) u7) O ?_)))));rintro _ w7 ⟨B2,c2,zk,rfl,yJ,Bk⟩;have bp:=bk.call Bk;have bp:St w w7 ([Bx 59 2 A6 [aj ((nl+1:Nat):Int),.slice B (dO labels).length c],Bx 32 1 A4 [.slice none 0 0]]++aV 27 2 B2 (dO labels++words).length c2 zk (dO labels++words)):=by
  refine St.perm (bp.sub (List.Sublist.append_left (List.Sublist.cons_cons _ (fj _ _)) _)) ?_;exact gL
 refine aq O (dU 2 0 bp O O O O O O O ?_);intro w8 bB;have bB:St w w8 ([Bx 59 2 A6 [aj ((nl+1:Nat):Int),.slice B2 (dO labels++words).length c2],Bx 32 1 A4 [.slice none 0 0]]++aV 27 2 B2 (dO labels++words).length c2 zk (dO labels++words)):=bB;have O1:bH w8 B2 (dO labels++words).length zk (dO labels++words):=St.fO (ks:=[]) (by rw[dQ];exact bB.sub (fj _ _)) O;refine ay O (auT O (λh=>h O) (aC O (cG 1 (bB.rd 0 O) O O O ?_)));refine aI (afh (nl+1) B2 (dO labels++words).length c2 zk (dO labels++words) T _ O1 (λx hx=>by have:=(u7.2 x hx).2.1;omega) (by have:=u7.1;omega) ac u4 ac ac) O ?_;rintro _ w9 ⟨A,cA,sI,rfl,Qe,kr⟩;have bj:=bB.call kr;have bj:St w w9 (aV 27 2 A T.length cA sI T++[Bx 32 1 A4 [.slice none 0 0]]):=bj.sub (List.Sublist.append_left (List.Sublist.cons _ (ny [_] _)) _);refine aq O (Td aL O O O O (DE bj O ?_));intro fC dJ cQ;refine dU 1 0 cQ O O O O O O O ?_;intro eO dA;have dA:St w eO (Bx 32 1 fC [.slice A T.length cA]::(aV 27 2 A T.length cA sI T++[Bx 32 1 A4 [.slice none 0 0]])):=dA;have s8:bH eO A T.length sI T:=St.fO dA.tail O;refine ay O (auT O (λh=>h O) (aC O (cG 0 (dA.rd 0 O) O O O ?_)));have gu:=(dA.tail).cap 0 O;dsimp only[aX]at gu;simp only[maxLen]at gu;refine aI (K3 A T.length cA sI T _ s8 ac ac u5) O ?_;rintro _ gD ⟨rfl,akV⟩;have dz:=dA.ao akV.below;have il:St w gD ([Bx 32 1 fC [.slice A T.length cA],Bx 32 1 A4 [.slice none 0 0]]++aV 27 2 A T.length cA sI T):=dz.perm (List.Perm.cons _ (gL (l₂:=[_])))
 first|refine cO rfl rfl ?_|refine dv rfl rfl ?_
 refine ay O (auT O (λh=>h u5) (aC O (cG 0 (il.rd 0 O) O O O (dU 1 1 il O O O O O O O ?_))));intro qZ lR;refine bR O (oI O (lR.rd 1 O) O ?_);exact⟨A,cA,sI,O,Qe,(lR.sub ((fD _).cons _)).sub ((fD _).cons _)⟩
theorem amV(aZ:Nat)(Ar:ai)(nr cr:Nat)(gB:List aE)(rel:ag)(Aw:ai)(nw cw:Nat)(ie:List aE)(words:ag)(w:aa)(hR:bH w Ar nr gB rel)(kc:bH w Aw nw ie words)(Av:oS aZ 0 words)(hg:1<=aZ/\aZ<=5)(hW:oS aZ 1 rel):
 aF prog 71 [.agg #[aj aZ,.slice Ar nr cr],.slice Aw nw cw] w (λv w'=>v=aj 0/\St w w' []):=by
 refine bn func71 O ntmps71 O (bM O) (aY O (nB (St.refl w) O O ?_));intro A1 w1 ax;refine aq O (cG 1 (ax.rd 0 O) O O O (aI (amW aZ Ar nr cr gB rel _ (ax.bU hR) hg hW) O ?_));rintro _ w2 ⟨rfl,aw⟩;have az:=ax.ao aw.below
 first|refine cO rfl rfl ?_|refine dv rfl rfl ?_
 refine aq O (ak.split 8 O (λh=>absurd h am) (λ_=>?_));refine ar O (aS (az.rd 0 O) O (ar O (fX (az.rd 0 O) O O O O O ?_)));refine ar O (aq O (ar O ?_));refine aI (Zg aZ 0 Aw nw cw ie words _ (az.bU kc) ac am Av) O ?_;rintro _ w3 ⟨rfl,rfl⟩;refine ar O ?_
 first|refine cO rfl rfl ?_|refine dv rfl rfl ?_
 refine ay O (Cd.cX O (dE O (gj O ?_)));exact⟨O,az.none⟩
structure Wr5(w0:aa)(A2 A4:ai)(aZ:Nat)(Ar:ai)(nr cr:Nat)(rel:ag)(Aw:ai)(nw cw:Nat)(S:Nat->Bool)(e:Env)(w:aa):Prop where
 f1:e 1=.slice Aw nw cw
 f2:e 2=.pointer A2
 f4:e 4=.pointer A4
 p0:S 0=true->e 16=.pointer (aH A2 0)
 p1:S 1=true->e 17=aj aZ
 p2:S 2=true->e 18=.pointer (aH A2 1)
 p3:S 3=true->e 19=.slice Ar nr cr
 mem:∃(B:ai)(cB:Nat)(kg:List aE)(M bs:List Ck)(Ad:ai),(S 4=false->M=[])/\(S 4=true->e 20=.slice B nr cB/\kg.length=nr/\M=aV 27 2 B nr cB kg rel)/\(S 5=true->e 21=.agg #[aj aZ,.slice B nr cB])/\(S 6=false->bs=[])/\(S 6=true->e 7=.pointer Ad/\((S 7=false/\bs=[Bx 59 2 Ad [aj 0,.slice none 0 0]])\/(S 7=true/\bs=[Bx 59 2 Ad [aj aZ,.slice B nr cB]])))/\
  St w0 w (bs++(M++[Bx 59 2 A4 [aj 0,.slice none 0 0],Bx 59 2 A2 [aj aZ,.slice Ar nr cr]]))
theorem ac8(aZ:Nat)(Ar:ai)(nr cr:Nat)(gB:List aE)(rel:ag)(Aw:ai)(nw cw:Nat)(ie:List aE)(words:ag)(w:aa)(hR:bH w Ar nr gB rel)(kc:bH w Aw nw ie words)(Av:oS aZ 1 words)(hB24:nr+nw<=24)(hg:1<=aZ/\aZ<=5)(hW:oS aZ 1 rel):
 aF prog 31 [.agg #[aj aZ,.slice Ar nr cr],.slice Aw nw cw] w (λv w'=>∃B cB kg,v=.tuple #[.agg #[aj aZ,.slice B (nr+nw) cB],aj 0]/\kg.length=nr+nw/\St w w' (aV 27 2 B (nr+nw) cB kg (rel++words))):=by
 have bT:=hR.len;have zX:=hW.1;refine bn func31 O ntmps31 O (tw O O) (aY O (nB (St.refl w) O O ?_));intro A2 w1 ax;refine kM ax O λA4 w2 az=>aq O (cG 1 (az.rd 1 O) O O O (aq O ?_));refine aI (amV aZ Ar nr cr gB rel Aw nw cw ie words _ (az.bU hR) (az.bU kc) ⟨Av.1,λx hx=>⟨bl _,(Av.2 x hx).2⟩⟩ hg hW) O ?_;rintro _ w3 ⟨rfl,aw⟩;have aM:=az.ao aw.below;refine ay O (auT O (λh=>h O) (cM O (Fq an an (λS e1 w1=>Wr5 w A2 A4 aZ Ar nr cr rel Aw nw cw S e1 w1) (λw4 hb=>⟨O,O,O,λh=>(nomatch h),λh=>(nomatch h),λh=>(nomatch h),λh=>(nomatch h),none,0,[],[],[],none,λ_=>O,λh=>(nomatch h),λh=>(nomatch h),λ_=>O,λh=>(nomatch h),aM.ao hb⟩) ?_ ?_)))
 ·intro S k o e1 w4 hk cz hd b8 hI;obtain⟨f1,f2,f4,p0,p1,p2,p3,B,cB,kg,M,bs,Ad,m0,m1,m2,m3,m4,hT⟩:=hI;have Ah:bH w4 Ar nr gB rel:=hT.bU hR;have iz:Rd w4 A2 2 (λj=>[Value.int .i64 (aZ:Int),.slice Ar nr cr].getD j undef):=(((hT.sub (fj _ _)).sub (fj _ _))).rd 1 O
  match k,hk,cz with
  |0,hk,cz=>
   obtain rfl:=cn hk;refine auO iz (by exact f2) O O O inferInstance (ak.n ?_);exact⟨f1,f2,f4,λ_=>O,p1,p2,p3,B,cB,kg,M,bs,Ad,m0,m1,m2,m3,m4,hT⟩
  |1,hk,cz=>
   obtain rfl:=cn hk;refine fX iz (by exact p0 (bK hd 0 O)) O O O O (ak.n ?_);exact⟨f1,f2,f4,p0,λ_=>O,p2,p3,B,cB,kg,M,bs,Ad,m0,m1,m2,m3,m4,hT⟩
  |2,hk,cz=>
   obtain rfl:=cn hk;refine auO iz (by exact f2) O O O inferInstance (ak.n ?_);exact⟨f1,f2,f4,p0,p1,λ_=>O,p3,B,cB,kg,M,bs,Ad,m0,m1,m2,m3,m4,hT⟩
  |3,hk,cz=>
   obtain rfl:=cn hk;refine auP iz (by exact p2 (bK hd 2 O)) O O O O (ak.n ?_);exact⟨f1,f2,f4,p0,p1,p2,λ_=>O,B,cB,kg,M,bs,Ad,m0,m1,m2,m3,m4,hT⟩
  |4,hk,cz=>
   obtain rfl:=cn hk;have hM:=m0 cz;subst hM;have n5:S 5=false:=by
    cases h:S 5 with
    |false=>rfl
    |true=>rw[<-cz];exact(bK (b8 5 _ h rfl) 4 rfl).symm
   have n7:S 7=false:=by
    cases h:S 7 with
    |false=>rfl
    |true=>rw[<-n5];exact(bK (b8 7 _ h rfl) 5 rfl).symm
   refine auM (amA Ar nr cr gB rel _ Ah ac (λj hj=>by
    have br:=hR.at_ (i:=(j:Int)) ac ac;have h1:=(hW.2 (gl rel j) (by rw[df (by omega)];exact dt _)).2.1;have h2:=br.1;have e:rg gB j=gB.getD j bI:=by simp[rg]
    rw[<-e];omega)) rfl (by exact aQ (λv=>[v]) (p3 (bK hd 3 rfl))) rfl ?_
   rintro _ w5 ⟨B',c',rs',rfl,Hi,vB⟩;refine ak.n ?_;refine⟨f1,f2,f4,p0,p1,p2,p3,B',c',rs',_,bs,Ad,λh=>(nomatch (show true=false from h)),λ_=>⟨O,Hi,O⟩,λh=>(nomatch n5.symm.trans h),m3,λh=>?_,?_⟩
   ·obtain⟨h7,h8⟩:=m4 h;refine⟨h7,.inl ⟨n7,?_⟩⟩;rcases h8 with h8|h8
    ·exact h8.2
    ·exact(nomatch n7.symm.trans h8.1)
   ·have h9:=hT.call vB;have h9:St w w5 (aV 27 2 B' nr c' rs' rel++(bs++[Bx 59 2 A4 [aj 0,.slice none 0 0],Bx 59 2 A2 [aj aZ,.slice Ar nr cr]])):=h9;exact h9.nW
  |5,hk,cz=>
   obtain rfl:=cn hk;obtain⟨h20,Qb,hM⟩:=m1 (bK hd 4 rfl);refine FB aL aL O O (by exact p1 (bK hd 1 O)) (by exact h20) O O O (ak.n ?_);exact⟨f1,f2,f4,p0,p1,p2,p3,B,cB,kg,M,bs,Ad,m0,m1,λ_=>O,m3,m4,hT⟩
  |6,hk,cz=>
   obtain rfl:=cn hk;have lS:=m3 cz;subst lS;have n7:S 7=false:=by
    cases h:S 7 with
    |false=>rfl
    |true=>rw[<-cz];exact(bK (b8 7 _ h rfl) 6 rfl).symm
   refine kM hT O λAe w5 k7=>ak.n ?_;exact⟨f1,f2,f4,p0,p1,p2,p3,B,cB,kg,M,[Bx 59 2 Ae [aj 0,.slice none 0 0]],Ae,m0,m1,m2,λh=>(nomatch (show true=false from h)),λ_=>⟨O,.inl ⟨n7,O⟩⟩,k7⟩
  |7,hk,cz=>
   obtain rfl:=cn hk;have Yp:=bK hd 6 O;obtain⟨h7,h8⟩:=m4 Yp;rcases h8 with⟨_,rfl⟩|h8
   ·refine dU 2 0 hT O (by exact h7) (by exact m2 (bK hd 5 O)) O O O O ?_;intro w5 k7;exact ak.n ⟨f1,f2,f4,p0,p1,p2,p3,B,cB,kg,M,[Bx 59 2 Ad [aj aZ,.slice B nr cB]],Ad,m0,m1,m2,λh=>(nomatch Yp.symm.trans h),λ_=>⟨h7,.inr ⟨O,O⟩⟩,k7⟩
   ·exact(nomatch cz.symm.trans h8.1)
  |q+8,hk,_=>exact(nomatch hk)
 ·intro S e1 w4 eA hI;obtain⟨f1,f2,f4,p0,p1,p2,p3,B,cB,kg,M,bs,Ad,m0,m1,m2,m3,m4,hT⟩:=hI;obtain⟨h7,h8⟩:=m4 (eA 6 am);rcases h8 with h8|⟨_,rfl⟩
  ·exact(nomatch (eA 7 am).symm.trans h8.1)
  obtain⟨_,Qb,hM⟩:=m1 (eA 4 am);subst hM;refine IB (F:=[(1,.slice Aw nw cw),(2,.pointer A2),(4,.pointer A4),(7,.pointer Ad)]) ⟨f1,f2,f4,h7,au⟩ ?_;have hT:=(hT:St w w4 ([Bx 59 2 Ad [aj aZ,.slice B nr cB]]++(aV 27 2 B nr cB kg rel++[Bx 59 2 A4 [aj 0,.slice none 0 0],Bx 59 2 A2 [aj aZ,.slice Ar nr cr]])));have nL:St w w4 ([Bx 59 2 Ad [aj aZ,.slice B nr cB],Bx 59 2 A4 [aj 0,.slice none 0 0],Bx 59 2 A2 [aj aZ,.slice Ar nr cr]]++aV 27 2 B nr cB kg rel):=hT.perm (List.Perm.cons _ (gL (l₂:=[_,_])));clear hT;have pa:=kc.len;refine fG O ?_;refine Cd.loop (α:=Nat×ai×Nat×List aE) (λz=>[(1,.slice Aw nw cw),(4,.pointer A4),(7,.pointer Ad),(8,aj (z.1:Int))]) (λz w'=>z.1<=nw/\z.2.2.2.length=nr+z.1/\St w w' ([Bx 59 2 Ad [aj aZ,.slice z.2.1 (nr+z.1) z.2.2.1],Bx 59 2 A4 [aj 0,.slice none 0 0],Bx 59 2 A2 [aj aZ,.slice Ar nr cr]]++aV 27 2 z.2.1 (nr+z.1) z.2.2.1 z.2.2.2 (rel++words.take z.1))) (λz=>nw-z.1) (0,B,cB,kg) (auV O) ⟨bl _,by show kg.length=nr+0;omega,by
   show St w w4 (_++aV _ _ B (nr+0) cB kg (rel++words.take 0));rw[List.take_zero,dQ];exact nL⟩ ?_
  clear nL Qb;rintro⟨i,B,cB,rs⟩ e w5 ⟨hi,eM,bp⟩;dsimp only at hi eM bp|-;have Gu:=bp.bU kc;refine aY O (aR O O (ay O ?_));refine aK _ O (λh1=>?_) (λh1=>?_)
  ·have br:=Gu.at_ (i:=(i:Int)) ac ac;have hx:=Av.2 (gl words i) (rD ac ac);have yM:=br.1;have cT:(rel++words.take i).length=nr+i:=by rw[cj,jG];omega
   refine aC O (aA Gu.top.2 O (bw Gu.top O ?_));refine aR O O (ay O ?_);refine vY O ac ?_;refine iu [8,10] [yP (aH (Ad) 1),yS (B) (nr+i) (cB),yS (Aw) (nw) (cw),yI ((i:Int)),yP (aH (Aw) ((i:Int)).toNat),yS ((rg (ie) ((i:Int))).a) ((rg (ie) ((i:Int))).n) ((rg (ie) ((i:Int))).c),.pr (λv w'=>∃eC eE,v=.slice eC (rg ie i).n eE/\St w w' (av 2 eC (rg ie i).n eE (gl words i)::Bx 59 2 Ad [aj aZ,.slice B (nr+i) cB]::Bx 59 2 A4 [aj 0,.slice none 0 0]::Bx 59 2 A2 [aj aZ,.slice Ar nr cr]::aV 27 2 B (nr+i) cB rs (rel++words.take i))),.pr (λv w'=>∃eC eE nY,v=.slice nY 1 1/\St w w' (aX 27 nY 1 1 [⟨eC,(rg ie i).n,eE⟩]::av 2 eC (rg ie i).n eE (gl words i)::Bx 59 2 Ad [aj aZ,.slice B (nr+i) cB]::Bx 59 2 A4 [aj 0,.slice none 0 0]::Bx 59 2 A2 [aj aZ,.slice Ar nr cr]::aV 27 2 B (nr+i) cB rs (rel++words.take i))),.pr (λv w'=>∃eC eE gV gY,v=.slice gV (nr+i+1) gY/\St w w' (av 2 eC (rg ie i).n eE (gl words i)::Bx 59 2 Ad [aj aZ,.slice B (nr+i) cB]::Bx 59 2 A4 [aj 0,.slice none 0 0]::Bx 59 2 A2 [aj aZ,.slice Ar nr cr]::aX 27 gV (nr+i+1) gY (rs++[⟨eC,(rg ie i).n,eE⟩])::cC 2 rs (rel++words.take i))),yP (aH (Ad) 1),.pr (λ_ w'=>∃eC eE gV gY,St w w' (av 2 eC (rg ie i).n eE (gl words i)::Bx 59 2 Ad [aj aZ,.slice gV (nr+i+1) gY]::Bx 59 2 A4 [aj 0,.slice none 0 0]::Bx 59 2 A2 [aj aZ,.slice Ar nr cr]::aX 27 gV (nr+i+1) gY (rs++[⟨eC,(rg ie i).n,eE⟩])::cC 2 rs (rel++words.take i)))] (ly (ly (ly (ly (ly (ly (bV.2 ⟨Ye.bW (λv w w' h hb=>by obtain⟨eC,eE,hv,h1⟩:=h;exact⟨eC,eE,hv,h1.ao hb⟩),(bV.2 ⟨Ye.bW (λv w w' h hb=>by obtain⟨eC,eE,nY,hv,h1⟩:=h;exact⟨eC,eE,nY,hv,h1.ao hb⟩),(bV.2 ⟨Ye.bW (λv w w' h hb=>by obtain⟨eC,eE,gV,gY,hv,h1⟩:=h;exact⟨eC,eE,gV,gY,hv,h1.ao hb⟩),(ly (bV.2 ⟨Ye.bW (λv w w' h hb=>by obtain⟨eC,eE,gV,gY,h1⟩:=h;exact⟨eC,eE,gV,gY,h1.ao hb⟩),(λ_ h=>by cases h)⟩))⟩)⟩)⟩))))))) ?_ ?_
   ·refine⟨cP λ_ _ hb _ _ _=>aS ((bp.rd 0 O).below hb) O (bA O O),cP λ_ _ hb _ _ _=>a6 ((bp.rd 0 O).below hb) O (bA O O),bP O,bP O,cP λ_ _ hb _ _ _=>aA (Gu.top.ao hb).2 O (bA O O),cP λ_ _ hb _ _ _=>bw (Gu.top.ao hb) O (bA O O),?_,?_,?_,?_,?_,au⟩
    ·refine cP λe1 w1 hb hp aW hq=>?_
     refine aI (ER _ _ _ (gl words i) _ (br.ao hb) ac) O ?_;rintro _ w9 ⟨eC,eE,rfl,aw⟩;exact ak.n (eD.dn O aw.below ⟨eC,eE,O,(bp.ao hb).call aw⟩)
    ·refine cP λe1 w1 hb hp aW hq=>?_
     obtain⟨eC,eE,D0,hT⟩:=(hp 6 _ _ an rfl rfl an);refine jW (St.refl _) (by exact D0) O O ?_;intro nY w9 fg;exact ak.n (eD.dn O fg.below ⟨eC,eE,nY,O,hT.call fg⟩)
    ·refine iF λe1 w1 hb hp aW hq=>?_
     obtain⟨eC,eE,nY,Og,hT⟩:=(hp 7 _ _ an rfl rfl an);refine iT 5 hT O (hT.dm 0 O) O (by exact Og) O ac ac O ?_;intro gV gY w9 fg;exact ak.n (dS.dn O ⟨eC,eE,gV,gY,O,fg.tail⟩)
    ·refine dP 1 λe1 w1 hp aW hq=>?_
     have cg:=hp 8 _ _ an O O an;obtain⟨eC,eE,gV,gY,pz,hT⟩:=cg;refine aS ((hT.rd 1 O)) O (ak.n (fp O ap))
    ·refine kB 1 λe1 w1 hp aW hq=>?_
     have cg:=hp 8 _ _ an O O an;obtain⟨eC,eE,gV,gY,pz,hT⟩:=cg;refine oR 1 hT O O (by exact pz) O O ?_;intro eO oq;exact ak.n (dS.st O ⟨eC,eE,gV,gY,oq⟩)
   intro u w8 _ hu _ _;obtain⟨eC,eE,gV,gY,hT⟩:=hu 10 _ rfl an;have kH:rel++words.take (i+1)=(rel++words.take i)++[gl words i]:=by
    rw[ef,oQ (by omega),df (by omega)]
   refine gq O (aJ O (aN O (tQ ?_)));refine⟨(i+1,gV,gY,rs++[⟨eC,(rg ie i).n,eE⟩]),by show nw-(i+1)<nw-i;omega,(auV O),by show i+1<=nw;omega,by show(rs++[_]).length=nr+(i+1);rw[cj,eM];rfl,?_⟩;show St w w8 ([Bx 59 2 Ad [aj aZ,.slice gV (nr+i+1) gY],Bx 59 2 A4 [aj 0,.slice none 0 0],Bx 59 2 A2 [aj aZ,.slice Ar nr cr]]++aX 27 gV (nr+i+1) gY (rs++[⟨eC,(rg ie i).n,eE⟩])::cC 2 (rs++[⟨eC,(rg ie i).n,eE⟩]) (rel++words.take (i+1)));rw[kH,tA (by omega)];refine hT.perm ?_;exact gL (l₁:=[_]) (l₂:=Bx 59 2 Ad [aj aZ,.slice gV (nr+i+1) gY]::Bx 59 2 A4 [aj 0,.slice none 0 0]::Bx 59 2 A2 [aj aZ,.slice Ar nr cr]::aX 27 gV (nr+i+1) gY (rs++[⟨eC,(rg ie i).n,eE⟩])::cC 2 rs (rel++words.take i))
  ·obtain rfl:i=nw:=by omega
   rw[jw (by omega)]at bp;refine ba O (bc (bY O ?_));refine aS (bp.rd 0 O) O (a6 (bp.rd 0 O) O ?_);refine aR O O (ay O ?_);refine fq O (aC O (cG 1 (bp.rd 0 O) O O O (dU 2 1 bp O O O O O O O ?_)));intro w6 k8;refine bR O (oI O (k8.rd 1 O) O ?_);exact⟨B,cB,rs,O,eM,((k8.sub ((fD _).cons _)).sub ((fD _).cons _)).sub ((fD _).cons _)⟩
structure wj(labels:ah)(words:ag)(T:ag):Prop where
 len:labels.length<5
 bO:∀x∈labels,x=0\/(2<=x/\x<=32)
 wds:oS ((labels.length+1:Nat):Int) 1 (dO labels)
 asR:oS ((labels.length+1:Nat):Int) 1 words
 both:oS ((labels.length+1:Nat):Int) 1 (dO labels++words)
 ju:uR (labels.length+1) (dO labels++words)=some T
 ZB:eY T
theorem arL(Al:ai)(nl cl:Nat)(labels:ah)(T:ag)(w:aa)(hR:bu w Al nl labels)(Aw:ai)(nw cw:Nat)(ie:List aE)(words:ag)(kc:bH w Aw nw ie words)(hU:wj labels words T):
 aF prog 9 [.slice Al nl cl,.slice Aw nw cw] w (SQ T 0 w):=by
 obtain⟨u1,u2,u3,u6,u7,u4,u5⟩:=hU;have pa:=kc.len;have s9:=u7.1;rw[cj]at s9;have oz:=hR.1;have k7:=u5.1;have aiJ:=u5.2.1;rw[oz]at u1 u3 u4 u6 u7;refine bn func9 O ntmps9 O (tw O O) (aY O (DE (St.refl w) O ?_));intro A4 w1 ax;refine aq O (aI (am2 Al nl cl labels _ (ax.dq hR) u1 u2) O ?_);rintro _ w2 ⟨rfl,rfl⟩
 first|refine cO rfl rfl ?_|refine dv rfl rfl ?_
 refine ay O (Cd.cX O (aC O ?_));refine aI (am3 Al nl cl labels _ (ax.dq hR) ac (λx hx=>by have:=u2 x hx;omega)) O ?_;rintro _ w3 ⟨B,c,rs,rfl,bT,mB⟩;have aM:=ax.call mB;have JY:bH w3 B (dO labels).length rs (dO labels):=St.fO aM O;have Ep:((nl:Int)+1)=((nl+1:Nat):Int):=by omega
 rw[Ep];refine aq O (aI (ac8 (nl+1) B (dO labels).length c rs (dO labels) Aw nw cw ie words _ JY (aM.bU kc) u6 ac ac u3) O ?_);rintro _ w4 ⟨B2,c2,zk,rfl,yJ,nn⟩;have hlen:(dO labels).length+nw=(dO labels++words).length:=by rw[cj,pa]
 rw[hlen]at nn yJ|-;have aU:=aM.call nn;refine aq O (kM aU O ?_);intro A6 w5 aO;refine dU 2 0 aO O O O O O O O ?_;intro w6 bk;have bk:St w w6 (Bx 59 2 A6 [aj ((nl+1:Nat):Int),.slice B2 (dO labels++words).length c2]::(aV 27 2 B2 (dO labels++words).length c2 zk (dO labels++words)++(aV 27 2 B (dO labels).length c rs (dO labels)++[Bx 32 1 A4 [.slice none 0 0]]))):=bk;have O1:bH w6 B2 (dO labels++words).length zk (dO labels++words):=St.fO bk.tail O;refine ay O (auT O (λh=>h O) (aC O (cG 1 (bk.rd 0 O) O O O ?_)));refine aI (amZ (nl+1) B2 (dO labels++words).length c2 zk (dO labels++words) T _ O1 (λx hx=>by have:=(u7.2 x hx).2.1;omega) (by have:=u7.1;omega) u4 ac ac) O ?_;rintro _ w7 ⟨A,cA,sI,rfl,Qe,Bk⟩;have bp:=bk.call Bk;have s8:bH w7 A T.length sI T:=St.fO bp O;have iO:=s8.at_ (i:=0) (Int.le_refl _) ac;have l6:=iO.1;refine aq O (b9 33 O (λh=>absurd O h) (λ_=>?_));refine ar O (aq O (ar O ?_));refine aA s8.top.2 O (ar O (auQ (i:=0) s8.top O ac O O ?_));refine ar O (aR O O (ar O (ay O ?_)));refine fq O (aC O (Td aL O O O O (DE bp O ?_)));intro fC w8 bB;refine dU 1 0 bB O O O O O O O ?_;intro w9 bj;have bj:St w w9 (Bx 32 1 fC [.slice A T.length cA]::(aV 27 2 A T.length cA sI T++(Bx 59 2 A6 [aj ((nl+1:Nat):Int),.slice B2 (dO labels++words).length c2]::(aV 27 2 B2 (dO labels++words).length c2 zk (dO labels++words)++(aV 27 2 B (dO labels).length c rs (dO labels)++[Bx 32 1 A4 [.slice none 0 0]]))))):=bj;have aiB:bH w9 A T.length sI T:=St.fO bj.tail O;refine aq O (cG 0 (bj.rd 0 O) O O O (aI (Zd A T.length cA sI T _ aiB u5) O ?_));rintro _ dJ ⟨rfl,Qm⟩;have cQ:=bj.ao Qm.below;have dA:St w dJ ([Bx 32 1 fC [.slice A T.length cA],Bx 32 1 A4 [.slice none 0 0]]++aV 27 2 A T.length cA sI T):=by
  have h1:St w dJ (Bx 32 1 fC [.slice A T.length cA]::(aV 27 2 A T.length cA sI T++[Bx 32 1 A4 [.slice none 0 0]])):=
   cQ.sub (List.Sublist.cons_cons _ (List.Sublist.append_left (((fj _ _).trans (fj _ _)).cons _) _))
  exact h1.perm (List.Perm.cons _ (gL (l₂:=[_])))
 first|refine cO rfl rfl ?_|refine dv rfl rfl ?_
 refine ay O (auT O (λh=>h u5) (aC O (cG 0 (dA.rd 0 O) O O O (dU 1 1 dA O O O O O O O ?_))));intro gD dz;refine bR O (oI O (dz.rd 1 O) O ?_);exact⟨A,cA,sI,O,Qe,(dz.sub ((fD _).cons _)).sub ((fD _).cons _)⟩
end
end Go.Proofs.YtimbpgackifflaaGreatDoor.Vc
