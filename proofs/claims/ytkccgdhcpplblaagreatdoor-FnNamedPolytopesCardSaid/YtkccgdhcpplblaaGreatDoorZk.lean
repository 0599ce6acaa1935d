/-
 Lemmas. Conditions: as each states them.
-/
import Derived.Test.YtkccgdhcpplblaaGreatDoorZj
import Derived.Shelf.SlSortCmp.NoneTotal
set_option maxHeartbeats 8000000
namespace Go.Proofs.YtkccgdhcpplblaaGreatDoor.Vc
open Tryz
section
open Go.RowKit
theorem aa2(Ac:aj)(nc cc:Nat)(w:aa):aJ prog 12 [.slice Ac nc cc] w (fun v w'=>v= .bool (decide (4096< (nc:Int)))/\St w w' []):=by
 refine bC func12 O ntmps12 O (df O) ?_;refine bh O (a8 O O (bH O ?_));exact dq O ⟨O,St.refl w⟩
theorem WD(A:aj)(n c:Nat)(xs:ai)(B:aj)(m cB:Nat)(ys:ai)(w:aa)(hX:cL w A n xs)(hY:cL w B m ys)(hn:n<=9223372036854775806):
 aJ prog 23 [.slice A n c,.slice B m cB] w (fun v w'=>v= .bool (decide (xs=ys))/\St w w' []):=by
 have iU:=hX.1;have Ey:=hY.1;refine bC func23 O ntmps23 O (df O) ?_;refine bh O (a8 O O (ar O (a8 O O (aC O ?_))));refine aM _ O (fun h1=>?_) (fun h1=>?_)
 ·have bP:xs≠ys:=fun e=>h1 (by rw [<-iU,<-Ey,e])
  refine dM O (dq O ?_);exact⟨by rw [cT bP],St.refl w⟩
 have Gz:n=m:=by omega
 subst Gz;refine dA O (Cd.loop (α:=Nat) (fun i=> [(0,.slice A n c),(1,.slice B n cB),(5,ak i)]) (fun i w'=>St w w' []/\i<=n/\∀j,j<i->xs[j]?=ys[j]?) (fun i=>n - i) 0 (aqv O) ⟨St.refl w,bg _,fun j hj=>absurd hj (oF _)⟩ ?_);rintro i e w1 ⟨aH,hi,hj⟩;have xl:=aH.gA hX;have yq:=aH.gA hY;refine bh O (a8 O O (aC O ?_));refine aM _ O (fun h2=>?_) (fun h2=>?_)
 ·refine dA O (dU [xS (A) (n) (c),xI ((i:Int)),xP (ay (A) ((i:Int)).toNat),xI (gi (xs) ((i:Int))),xS (B) (n) (cB),xI ((i:Int)),xP (ay (B) ((i:Int)).toNat),xI (gi (ys) ((i:Int))),xB (decide (¬(gi (xs) ((i:Int)))=(gi (ys) ((i:Int)))))] O (eG O) ?_ ?_)
  ·exact⟨Dr O,Dr O,fun _ _ hb _ _=>aD (xl.aq hb).2 O Az,fun _ _ hb _ _=>aY (xl.aq hb) O Az,Dr O,Dr O,fun _ _ hb _ _=>aD (yq.aq hb).2 O Az,fun _ _ hb _ _=>aY (yq.aq hb) O Az,Dr O,au⟩
  intro u w2 eB _;have aF:=aH.aq eB;refine eS O (aM _ O (fun h3=>?_) (fun h3=>?_))
  ·have bP:xs≠ys:=fun e=>h3 (by rw [e])
   refine dM O (fB (fe ?_));refine dq O ?_;exact⟨by rw [cT bP],aF⟩
  have h3:=Decidable.not_not.1 h3;rw [bV (by omega),bV (by omega)]at h3;refine aA O (aI O (aT O (tQ ?_)));refine⟨i+1,by show n - (i+1)<n - i;omega,(aqv O),aF,am,fun j gW=>?_⟩
  by_cases e:j=i
  ·subst e;rw [fq (by omega),fq (by omega),h3]
  exact hj j am
 have he:xs=ys:=List.ext_getElem? fun j=>by
  by_cases mV:j<n
  ·exact hj j am
  rw [me (by omega),me (by omega)]
 refine bp O (bt (gw O ?_));refine dq O ?_;exact⟨by rw [dz he],aH⟩
theorem aiT(A:aj)(n c:Nat)(rs:List aO)(xss:ah)(B:aj)(m cB:Nat)(rs':List aO)(l7:ah)(w:aa)(hX:bF w A n rs xss)(hY:bF w B m rs' l7)(hn:n<=9223372036854775806)(hr:∀x∈xss,x.length<=9223372036854775806):
 aJ prog 54 [.slice A n c,.slice B m cB] w (fun v w'=>v= .bool (decide (xss=l7))/\St w w' []):=by
 have iU:=hX.len;have Ey:=hY.len;refine bC func54 O ntmps54 O (df O) ?_;refine bh O (a8 O O (ar O (a8 O O (aC O ?_))));refine aM _ O (fun h1=>?_) (fun h1=>?_)
 ·have bP:xss≠l7:=fun e=>h1 (by rw [<-iU,<-Ey,e])
  refine dM O (dq O ?_);exact⟨by rw [cT bP],St.refl w⟩
 have Gz:n=m:=by omega
 subst Gz;refine dA O (Cd.loop (α:=Nat) (fun i=> [(0,.slice A n c),(1,.slice B n cB),(5,ak i)]) (fun i w'=>St w w' []/\i<=n/\∀j,j<i->xss[j]?=l7[j]?) (fun i=>n - i) 0 (aqv O) ⟨St.refl w,bg _,fun j hj=>absurd hj (oF _)⟩ ?_);rintro i e w1 ⟨aH,hi,hj⟩;have xl:=aH.b7 hX;have yq:=aH.b7 hY;refine bh O (a8 O O (aC O ?_));refine aM _ O (fun h2=>?_) (fun h2=>?_)
 ·have gE:=xl.at_ (i:=(i:Int)) am am;have hyi:=yq.at_ (i:=(i:Int)) am am;have gm:(rg rs i).n<=9223372036854775806:=by
   rw [<-gE.1,bR (by omega)];exact hr _ (dK _)
  refine dA O (dU [xS (A) (n) (c),xI ((i:Int)),xP (ay (A) ((i:Int)).toNat),xS ((rg (rs) ((i:Int))).a) ((rg (rs) ((i:Int))).n) ((rg (rs) ((i:Int))).c),xS (B) (n) (cB),xI ((i:Int)),xP (ay (B) ((i:Int)).toNat),xS ((rg (rs') ((i:Int))).a) ((rg (rs') ((i:Int))).n) ((rg (rs') ((i:Int))).c),xB (decide (gl xss i=gl l7 i)),xB (decide (¬(gl xss i=gl l7 i)))] O (eG O) ?_ ?_)
  ·refine⟨Dr O,Dr O,fun _ _ hb _ _=>aD (xl.top.aq hb).2 O Az,fun _ _ hb _ _=>b9 (xl.top.aq hb) O Az,Dr O,Dr O,fun _ _ hb _ _=>aD (yq.top.aq hb).2 O Az,fun _ _ hb _ _=>b9 (yq.top.aq hb) O Az,?_,fun _ _ _ _ _=>fv O O Az,au⟩;intro e1 w1 hb hp aU;refine aL (WD _ _ _ _ _ _ _ _ _ (gE.aq hb) (hyi.aq hb) gm) O ?_;rintro _ w2 ⟨rfl,av⟩;refine ao.n ?_;exact eP.dn av.below (by exact O)
  intro u w2 eB _;have aF:=aH.aq eB;refine eS O (aM _ O (fun h3=>?_) (fun h3=>?_))
  ·have bP:xss≠l7:=fun e=>h3 (by rw [e])
   refine dM O (fB (fe ?_));refine dq O ?_;exact⟨by rw [cT bP],aF⟩
  have h3:=Decidable.not_not.1 h3;rw [bR (by omega),bR (by omega)]at h3;refine aA O (aI O (aT O (tQ ?_)));refine⟨i+1,by show n - (i+1)<n - i;omega,(aqv O),aF,am,fun j gW=>?_⟩
  by_cases e:j=i
  ·subst e;rw [fq (by omega),fq (by omega),h3]
  exact hj j am
 have he:xss=l7:=List.ext_getElem? fun j=>by
  by_cases mV:j<n
  ·exact hj j am
  rw [me (by omega),me (by omega)]
 refine bp O (bt (gw O ?_));refine dq O ?_;exact⟨by rw [dz he],aH⟩
theorem aiS(A:aj)(n c:Nat)(rs:List aO)(xss:ah)(B:aj)(m cB:Nat)(rs':List aO)(l7:ah)(w:aa)(hX:bF w A n rs xss)(hY:bF w B m rs' l7)(hn:n<=9223372036854775806)(hr:∀x∈xss,x.length<=9223372036854775806):
 aJ prog 17 [.agg #[.slice A n c],.agg #[.slice B m cB]] w (fun v w'=>v= .bool (decide (xss=l7))/\St w w' []):=by
 refine bC func17 O ntmps17 O (df O) (bh O (jH (St.refl w) O O ?_));intro A1 w1 aH;refine jH aH O O fun A2 w2 aF=>ar O (aV (aF.rd 1 O) O (bj (aF.rd 1 O) O (aV (aF.rd 0 O) O (bj (aF.rd 0 O) O (aL (aiT A n c rs xss B m cB rs' l7 _ (aF.b7 hX) (aF.b7 hY) hn hr) O ?_)))));rintro _ w3 ⟨rfl,av⟩;refine bH O (dq O ?_);exact⟨O,(aF.aq av.below).none⟩
theorem ahj(A:aj)(n c:Nat)(rs:List aO)(M:ah)(w:aa)(hR:bF w A n rs M)(hn:n<=c)(hc:c<=9223372036854775807)(hM:bI M):
 aJ prog 18 [.agg #[.slice A n c]] w (fun v w'=>∃A' c',v= .tuple #[.slice A' n c',ak 0]/\St w w' [ax 2 A' n c' (jt M)]):=by
 refine bC func18 O ntmps18 O (pV O) (bh O (jH (St.refl w) O O ?_));intro A1 w1 aH;refine ar O (ao.cN 0 (aH.rd 0 O) O O O (aL (yZ A n c rs M _ (aH.b7 hR) hn hc) O ?_));rintro _ w2 ⟨rfl,av⟩;have aF:=aH.aq av.below
 first | refine fv rfl rfl ?_ | refine gz rfl rfl ?_
 refine aC O (qC O (fun h=>h hM) (aA O (aL (Mf A1 A n c rs M _ (Rd.one (aF.rd 0 O)) (aF.b7 hR) hM) O ?_)));rintro _ w3 ⟨A',c',rfl,o7⟩;refine bH O (CX O O ?_);exact⟨A',c',O,(aF.call o7).sub (oE _ _)⟩
end
section
theorem alf{M K:ah}{kind:Int}(h:iV M K kind=0)(hf:ye M K kind<=400):jt (jy M K kind)=Sf (gF M K kind) (iq M K kind):=by
 have hq:=(PH h).2;have hY:=Xr h hf;have e:jy M K kind=b6 (gF M K kind) (aG (gF M K kind) (iq M K kind) (pU M K kind)):=by
  unfold jy;rw [if_pos h];exact(EL (by rw [hq];exact hf)).2.2
 rw [e];unfold jt Sf;rw [hY.len];exact pj fun i hi=>hY.nT (ig.1 hi)
end
section
open Go.RowKit
variable{k m j:Nat}
def pS(n:Nat):Nat->ai->ah
 | 0,s=> [s]
 | d+1,s=> (List.range n).flatMap fun i:Nat=>if(i:Int)∈s then []else pS n d (s++ [(i:Int)])
def pb(n d:Nat)(s:ai)(k:Nat):ah:=(List.range k).flatMap fun i:Nat=>if(i:Int)∈s then []else pS n d (s++ [(i:Int)])
theorem Xe(n d:Nat)(s:ai)(k:Nat):pb n d s (k+1)=pb n d s k++if(k:Int)∈s then []else pS n d (s++ [(k:Int)]):=by
 unfold pb;rw [jU,List.flatMap_append];simp
theorem Xd(n d:Nat)(s:ai)(h:k<=m):(pb n d s k).length<=(pb n d s m).length:=by
 induction h with
 | refl=>exact br _
 | step _ ih=>rw [Xe,ck];omega
theorem Xc(n:Nat):∀(d:Nat) (s:ai),∀x∈pS n d s,x.length=s.length+d
 | 0,s,x,h=>by rw [gj.1 h];rfl
 | d+1,s,x,h=>by
  obtain⟨i,_,h⟩:=List.mem_flatMap.1 h
  split at h
  ·cases h
  ·have:=Xc n d _ x h;rw [this];simp;omega
theorem aiu(n:Nat)(hn:n<=100):∀(d:Nat) {w0 w:aa} {ks:List Ck} (s:ai) (As:aj) (cs:Nat) (L:ah) (A:aj) (c:Nat) (rs:List aO),s.length+d=n->rs.length=L.length->L.length+ (pS n d s).length<=1000->
 St w0 w (cg 34 A L.length c rs::ax 2 As s.length cs s::(da 2 rs L++ks))->
 aJ prog 183 [ak n,.slice As s.length cs,.slice A L.length c] w (fun v w'=>∃A' c' rs',v= .slice A' (L++pS n d s).length c'/\rs'.length=(L++pS n d s).length/\
  St w0 w' (cg 34 A' (L++pS n d s).length c' rs'::(da 2 rs' (L++pS n d s)++ks))):=by
 intro d
 induction d with
 | zero=>
  intro w0 w ks s As cs L A c rs hd cn hlen hS;refine bC func183 O ntmps183 O (df O) ?_;refine bh O (a8 O O (aC O ?_));refine Cd.gu (by rw [show s.length=n by omega];exact aE Value.bool (dz O)) ?_;refine aA O (lp hS O O O ?_);intro oz w1 aH;refine lK 1 aH O (aH.fQ 0 O) O O O (by simp [pS]at hlen;omega) (by simp [pS]at hlen;omega) O ?_;intro tE zI w2 aF;have aF:St w0 w2 (cg 34 tE (L.length+1) zI (rs++ [⟨As,s.length,cs⟩])::ax 2 As s.length cs s::(da 2 rs L++ks)):=aF.tail;refine bH O (gJ O ?_);have e1:(L++pS n 0 s).length=L.length+1:=by simp [pS]
  refine⟨tE,zI,rs++ [⟨As,s.length,cs⟩],by rw [e1],by rw [e1,ck,cn];rfl,?_⟩;rw [e1,pS,pZ cn];refine aF.perm (List.Perm.cons _ ?_);rw [gV];exact(rC (l₁:=da 2 rs L)).symm
 | succ d ih=>
  intro w0 w ks s As cs L A c rs hd cn hlen hS;have Cw:s.length≠n:=by omega
  have dt:pS n (d+1) s=pb n d s n:=O;rw [dt]at hlen|-;refine bC func183 O ntmps183 O (df O) ?_;refine bh O (a8 O O (aC O ?_));refine Cd.fg (aE Value.bool (cT am)) (dA O ?_);refine Cd.loop (α:=Nat×(aj×Nat)×List aO) (fun z=> [(0,ak n),(1,.slice As s.length cs),(2,.slice z.2.1.1 (L++pb n d s z.1).length z.2.1.2),(7,ak (z.1:Int))]) (fun z w'=>z.1<=n/\z.2.2.length=(L++pb n d s z.1).length/\St w0 w' (cg 34 z.2.1.1 (L++pb n d s z.1).length z.2.1.2 z.2.2::ax 2 As s.length cs s::(da 2 z.2.2 (L++pb n d s z.1)++ks))) (fun z=>n - z.1) (0,(A,c),rs)
   ⟨rfl,rfl,by show Value.slice A L.length c=Value.slice A (L++ []).length c;rw [fI],rfl,au⟩ ⟨bg _,by show rs.length=(L++ []).length;rw [fI];exact cn,by show St w0 w (cg _ A (L++ []).length c rs::_::(da _ rs (L++ [])++ks));rw [fI];exact hS⟩ ?_
  rintro⟨i,⟨B,cB⟩,rb⟩ e w2 ⟨hi,tq,aF⟩;dsimp only at hi tq aF|-;have hle:=Xd n d s hi;refine bL O (aM _ O (fun h1=>?_) (fun h1=>?_))
  ·have dw:i<n:=by omega
   have Cv:=Xe n d s i;have afR:=Xd n d s (show i+1<=n from dw);refine aA O (aL (Kk As s.length cs s i _ (aF.bz 1 O) am) O ?_);rintro _ w2 ⟨rfl,rfl⟩
   first | refine fv rfl rfl ?_ | refine gz rfl rfl ?_
   refine aC O (aM _ O (fun h2=>?_) (fun h2=>?_))
   ·rw [az h2]at Cv;refine aA O (aL (Kl As s.length cs s _ (aF.bz 1 O) am) O ?_);rintro _ w3 ⟨Zc,c27,rfl,av⟩;have aQ:St w0 w3 (ax 2 Zc s.length c27 s::cg 34 B (L++pb n d s i).length cB rb::ax 2 As s.length cs s::(da 2 rb (L++pb n d s i)++ks)):=aF.call av;refine ar O (eL aQ O O O ?_);intro zw w4 aX;refine fu 1 aX O (aX.bz 0 O) O O O ?_;intro nK nQ w5 ba;have ba:St w0 w5 (ax 2 nK (s++ [(i:Int)]).length nQ (s++ [(i:Int)])::cg 34 B (L++pb n d s i).length cB rb::ax 2 As s.length cs s::(da 2 rb (L++pb n d s i)++ks)):=by
     rw [ck];exact ba.tail
    have bo:St w0 w5 (cg 34 B (L++pb n d s i).length cB rb::ax 2 nK (s++ [(i:Int)]).length nQ (s++ [(i:Int)])::(da 2 rb (L++pb n d s i)++ (ax 2 As s.length cs s::ks))):=by
     refine ba.perm ((List.Perm.swap _ _ _).trans (List.Perm.cons _ (List.Perm.cons _ ?_)));exact rC.symm
    refine ar O ?_;refine aqm (ih (s++ [(i:Int)]) nK nQ (L++pb n d s i) B cB rb (by rw [ck];show s.length+1+d=n;omega) tq (by rw [Cv,ck]at afR;rw [ck];omega) bo) O (by rw [show(s++ [(i:Int)]).length=s.length+1 from ck];rfl) O ?_;rintro _ w6 ⟨QJ,c32,r32,rfl,Vu,bK⟩;have e2:L++pb n d s i++pS n d (s++ [(i:Int)])=L++pb n d s (i+1):=by rw [Cv,gV]
    rw [e2]at Vu bK|-;refine ar O (aI O (aT O (tQ ?_)));refine⟨(i+1,(QJ,c32),r32),by show n - (i+1)<n - i;omega,(aqv O),dw,Vu,bK.perm (List.Perm.cons _ rC)⟩
   ·have h2:(i:Int)∈s:=jR.1 h2;rw [aB h2,fI]at Cv;refine aA O (aI O (aT O (tQ ?_)));refine⟨(i+1,(B,cB),rb),by show n - (i+1)<n - i;omega,⟨O,O,by rw [Cv];exact O,O,au⟩,dw,by rw [Cv];exact tq,by rw [Cv];exact aF⟩
  ·obtain rfl:i=n:=by omega
   refine bp O (bt (gw O ?_));exact gJ O ⟨B,cB,rb,O,tq,aF.sub (List.Sublist.cons_cons _ (List.sublist_cons_self _ _))⟩
def ll(L:ah)(w:aa)(v:ad)(w':aa):Prop:=∃A c,∃rs:List aO,v= .agg #[.slice A L.length c]/\rs.length=L.length/\St w w' (aS 34 2 A L.length c rs L)
theorem OM(n kind:Int)(hn:1<=n/\n<=4)(hk:kind=1\/kind=2)(w:aa)(hT:lO w):
 aJ prog 109 [ak n,ak kind] w (ll (fV kind (n - 1).toNat) w):=by
 refine bC func109 O ntmps109 O (re O O) (bh O (ib (St.refl w) O ?_));intro A4 w1 aH;refine ar O (aL (V5 _) O ?_);rintro _ w2 ⟨E,r,rfl,av⟩;have aF:=aH.call2 av;refine ib aF O fun A5 w3 aQ=>b5 1 0 aQ O O O O O O O fun w4 aX=>ar O (dZ O (aC O ?_));refine Cd.loop (α:=Nat×(aj×Nat)×List aO) (fun z=> [(1,ak kind),(4,.pointer A4),(5,.pointer A5),(10,ak (n - 1)),(11,ak (z.1:Int))]) (fun z w'=> (z.1:Int)<=n - 1/\z.2.2.length=(fV kind z.1).length/\St w w' ([eO A5 z.2.1.1 (fV kind z.1).length z.2.1.2,eO A4 none 0 0]++aS 34 2 z.2.1.1 (fV kind z.1).length z.2.1.2 z.2.2 (fV kind z.1))) (fun z=> (n - 1).toNat - z.1) (0,(E,1),[r]) (aqv O) ⟨by show(0:Int)<=n - 1;omega,O,aX⟩ ?_;clear aX aQ aF aH av;rintro⟨j,⟨A,c⟩,rs⟩ e w5 ⟨hj,cn,ba⟩;dsimp only at hj cn ba|-;have nz:=ba.rd 0 O;have uY:=hT.aq ba.below;have zU:bF w5 A (fV kind j).length rs (fV kind j):=St.nJ ba.tail.tail O;refine bL O (aM _ O (fun h1=>?_) (fun h1=>?_))
 ·have M8:=fun(w':aa) (E:aj) (r:aO) (hT:lO w') (hM:bF w' A (fV kind j).length rs (fV kind j)) (hE:bF w' E 1 [r] fk)=>alz A E (fV kind j).length c 1 1 rs [r] (fV kind j) fk kind w' hT hM hE (ba.cap 2 O).1 (ba.cap 2 O).2 (br _) am
  have hPl:=fun(w':aa) A D cA cD rs hT hR hB=>alh (fV kind j) fk kind A D cA cD rs w' hT hR hB
  generalize tA (fV kind j) fk kind=N at*;generalize ow (fV kind j) fk kind=R at*;generalize ov (fV kind j) fk kind=B at*;generalize iV (fV kind j) fk kind=C at*;refine dA O ?_;refine kK [8] [.ex (.agg #[.slice (A) ((fV kind j).length) (c)]),.pr (fun v w'=>∃E,∃r:aO,v= .agg #[.slice E 1 1]/\bF w' E 1 [r] fk),yI ((kind)),.pr (fun v w'=>Bo N R B C w5 v w'),.al (fun v=>∃u0,v= .tuple #[u0,ak C]) (fun v w'=>Bo N R B C w5 v w'),.pr (fun v w'=>∃AR cR AD cD dB,v= .agg #[ak N,.slice AR R.length cR,.slice AD B.length cD]/\dB.length=B.length/\St w5 w' (ax 2 AR R.length cR R::(aS 34 2 AD B.length cD dB B++ []))),yI (C),.pr (fun v w'=>∃A9,v= .pointer A9/\St w5 w' [bJ A9 0 none 0 0 none 0 0]),.p2 7 (fun a v w'=>∃A9 AR c AD d rs,a= .pointer A9/\rs.length=B.length/\St w5 w' (bJ A9 N AR R.length c AD B.length d::(ax 2 AR R.length c R::(aS 34 2 AD B.length d rs B++ [])))),yI (C)] (ly (cH.2 ⟨Ye.cJ (fun v w w' h hb=>by obtain⟨E,r,hv,h1⟩:=h;exact⟨E,r,hv,h1.aq hb⟩),(ly (cH.2 ⟨Ye.cJ (fun v w w' h hb=>by obtain⟨AR,cR,AD,cD,dB,hv,h1,h2⟩:=h;exact⟨AR,cR,AD,cD,dB,hv,h1,h2.aq hb⟩),(cH.2 ⟨aas (fun v w w' h hb=>by obtain⟨AR,cR,AD,cD,dB,hv,h1,h2⟩:=h;exact⟨AR,cR,AD,cD,dB,hv,h1,h2.aq hb⟩),(cH.2 ⟨Ye.cJ (fun v w w' h hb=>by obtain⟨AR,cR,AD,cD,dB,hv,h1,h2⟩:=h;exact⟨AR,cR,AD,cD,dB,hv,h1,h2.aq hb⟩),(ly (cH.2 ⟨Ye.cJ (fun v w w' h hb=>by obtain⟨A9,hv,hT⟩:=h;exact⟨A9,hv,hT.aq hb⟩),(cH.2 ⟨Rn (fun a v w w' h hb=>by obtain⟨A9,AR,cR,AD,cD,dB,h9,h1,hT⟩:=h;exact⟨A9,AR,cR,AD,cD,dB,h9,h1,hT.aq hb⟩),(ly (fun _ h=>by cases h))⟩)⟩))⟩)⟩)⟩))⟩)) ?_ ?_
  ·refine⟨cP fun _ _ hb _ _ _=>ao.cN 0 (nz.below hb) O O O (bG O O),?_,bZ O,?_,?_,?_,?_,?_,?_,bZ O,au⟩
   ·refine cP fun e1 w1 hb hp aU hq=>?_
    refine aL (V5 _) O ?_;rintro _ w9 h9;obtain⟨E,r,hv,hE,oV⟩:=h9.rows;exact ao.n (fM.dn O oV ⟨E,r,hv,hE⟩)
   ·refine cP fun e1 w1 hb hp aU hq=>?_
    obtain⟨E,r,h8,h1⟩:=(hp 1 _ _ (by kernel_rfl) rfl rfl (by kernel_rfl));refine aqm (M8 _ E r (uY.aq hb) (zU.aq hb) h1) O (by exact aE (fun v=> [Value.agg #[.slice A (fV kind j).length c],v,ak kind]) h8) O ?_;rintro _ w9 ⟨AR,cR,AD,cD,dB,rfl,mH,av⟩;refine ao.n ?_;exact fM.dn O av.below ⟨AR,cR,AD,cD,dB,O,mH,by have:=((St.refl w5).aq hb).call av;rwa [fI]at this⟩
   ·refine cP fun e1 w1 hb hp aU hq=>?_
    obtain⟨AR,cR,AD,cD,dB,h9,h1,h2⟩:=(hp 3 _ _ (by kernel_rfl) rfl rfl (by kernel_rfl));refine Rj O (by exact h9) O (ao.n ?_);exact fM.dn O (Below.refl _ _) ⟨⟨_,O⟩,AR,cR,AD,cD,dB,O,h1,h2⟩
   ·refine cP fun e1 w1 hb hp aU hq=>?_
    obtain⟨AR,cR,AD,cD,dB,h6,h1,h2⟩:=((hp 4 _ _ (by kernel_rfl) rfl rfl).2 (by kernel_rfl));refine ao.extract (by exact h6) O O (ao.n ?_);exact fM.dn O (Below.refl _ _) ⟨AR,cR,AD,cD,dB,O,h1,h2⟩
   ·intro e1 w1 cc fo dv fL hp aU hq;show ao _ _ _ _ _ _ _;obtain⟨u0,h6⟩:=(hp 4 _ _ (by kernel_rfl) rfl rfl).1;refine ao.extract (by exact h6) O O (ao.n (iz O (by exact O)))
   ·refine cP fun e1 w1 hb hp aU hq=>?_
    refine nP (St.refl _) O fun A9 w9 bT=>ao.n ?_;exact fM.dn O bT.below ⟨A9,O,by have:=((St.refl w5).aq hb).call bT;rwa [fI]at this⟩
   refine kO fun e1 w1 hb hp aU hq=>?_
   obtain⟨A9,h9,hT⟩:=(hp 7 _ _ (by kernel_rfl) rfl rfl (by kernel_rfl));obtain⟨AR,cR,AD,cD,dB,fz,h1,h2⟩:=(hp 5 _ _ (by kernel_rfl) rfl rfl (by kernel_rfl));refine b5 3 0 (hT.aji h2) O (by exact h9) (by exact fz) O O O O ?_;intro w9 bT;exact ao.n (gn.st O ⟨A9,AR,cR,AD,cD,dB,h9,h1,bT⟩)
  intro u2 w7 _ _ lb _;obtain⟨A9,AR,cR,AD,cD,dB,h9,mH,xk⟩:=lb 8 7 _ rfl (by kernel_rfl);have bK:=ba.aq xk.below;refine Dn (F:=[(1,ak kind),(4,.pointer A4),(5,.pointer A5),(6,.pointer A9),(7,ak C),(10,ak (n - 1)),(11,ak j)]) ⟨O,O,O,h9,O,O,O,au⟩ (jD O (ao.cN 2 (xk.rd 0 O) O O O (ar O (aL (hPl _ AR AD cR cD dB (hT.aq bK.below) (xk.bz 1 O) (St.jB xk.tail.tail O)) O ?_))));rintro _ w8 ⟨Am,cm,kH,rfl,o5,av⟩;have cj:=bK.call2 av;refine ar O (b5 1 0 cj O O O O O O O ?_);intro w9 bT;refine ar O (aI O (aT O (tQ ?_)));exact⟨(j+1,(Am,cm),kH),by show(n - 1).toNat - (j+1)< (n - 1).toNat - j;omega,(aqv O),by show((j+1:Nat):Int)<=n - 1;omega,o5,bT.sub (List.Sublist.cons_cons _ (List.Sublist.cons_cons _ (kA _ _)))⟩
 have mV:(n - 1).toNat=j:=by omega
 rw [mV];refine bp O (bt (cS O ?_));refine ao.cN 0 nz O O O (b5 1 1 ba O O O O O O O ?_);intro w6 bo;refine bH O (iA O (bo.rd 1 O) ?_);exact⟨A,c,rs,O,cn,bo.tail.tail⟩
def vC(p:ai)(i:Nat):ai:=(p.set i (gi p ((i:Int)+1))).set (i+1) (gi p i)
def du(n:Nat):ah:=pS (n+1) (n+1) []
def vA(n i k:Nat):ai:=(List.range k).map fun f:Nat=> (((du n).idxOf (vC (gl (du n) f) i):Nat):Int)
def nn(n k:Nat):ah:=(List.range k).map fun i:Nat=>vA n i (du n).length
theorem Yg(n k:Nat):(nn n k).length=k:=by simp [nn]
theorem amU(n i k:Nat):vA n i (k+1)=vA n i k++ [(((du n).idxOf (vC (gl (du n) k) i):Nat):Int)]:=by simp [vA,jU]
theorem amT(n k:Nat):nn n (k+1)=nn n k++ [vA n k (du n).length]:=by simp [nn,jU]
def Fy(n:Nat):Prop:=n<=90/\(du n).length<=1000/\∀i,i<n->∀f,f< (du n).length->vC (gl (du n) f) i∈du n
theorem ahh{L:ah}{x:ai}(h:j<L.idxOf x)(hj:j<L.length):L[j]≠x:=fun e=>by
 have:=List.not_of_lt_findIdx (p:=(· ==x)) (xs:=L) (i:=j) h;simp [e]at this
theorem ak2{α:Type}(b m q1 q2:α)(X Y:List α):(b::q1::q2::m::(X++Y)).Perm (q1::q2::m::((X++ [b])++Y)):=by
 classical
 refine jT.2 fun z=>?_
 simp only [l9,jS,ln];omega
theorem Wq(n:Nat)(w:aa)(hn:Fy n):aJ prog 104 [ak n] w (ll (nn n n) w):=by
 obtain⟨tp,hO1,hO⟩:=hn;have bS:∀x∈du n,x.length=n+1:=fun x hx=>by have:=Xc (n+1) (n+1) [] x hx;simpa using this
 refine bC func104 O ntmps104 O (re O O) (bh O (ib (St.refl w) O ?_));intro A2 w1 aH;refine ar O (aI O ?_);refine jr aH O fun fR w2 aF=>jr aF O ?_;intro oy w3 aQ;have aQ:St w w3 (cg 34 oy ([]:ah).length 0 []::ax 2 fR ([]:ai).length 0 []::(da 2 [] []++ [Bx 24 1 A2 [.slice none 0 0]])):=aQ;refine aL (aiu (n+1) am (n+1) [] fR 0 [] oy 0 [] (by show 0+ (n+1)=n+1;omega) O (by show 0+_<=1000;rw [Nat.zero_add];exact hO1) aQ) O ?_;rintro _ w4 ⟨AO,cO,rO,rfl,Vw,aX⟩;rw [List.nil_append]at Vw aX|-;rw [show pS (n+1) (n+1) []=du n from rfl]at Vw aX|-;refine wR (by exact inferInstance) O (ib aX O ?_);intro A4 w5 ba;refine ar O (b5 1 0 ba O O O O O O O ?_);intro w6 bo;have bo:St w w6 (eO A4 none 0 0::cg 34 AO (du n).length cO rO::(da 2 rO (du n)++ [eO A2 none 0 0])):=bo;have bo:St w w6 (eO A4 none 0 0::eO A2 none 0 0::(aS 34 2 none 0 0 [] []++aS 34 2 AO (du n).length cO rO (du n))):=((bo.nil 34).perm (by
  classical
  refine jT.2 fun z=>?_
  simp only [aS,da,cg,List.map_nil,l9,jS,ln];omega))
 clear aH aF aQ aX ba;refine aC O (Cd.loop (α:=Nat×(aj×Nat)×List aO) (fun z=> [(0,ak n),(2,.pointer A2),(3,.slice AO (du n).length cO),(4,.pointer A4),(5,ak (z.1:Int))]) (fun z w'=>z.1<=n/\z.2.2.length=z.1/\St w w' (eO A4 z.2.1.1 z.1 z.2.1.2::eO A2 none 0 0::(aS 34 2 z.2.1.1 z.1 z.2.1.2 z.2.2 (nn n z.1)++aS 34 2 AO (du n).length cO rO (du n)))) (fun z=>n - z.1) (0,(none,0),[]) (aqv O) ⟨bg _,O,bo⟩ ?_);clear bo;rintro⟨i,⟨AX,cX⟩,rX⟩ e w7 ⟨hi,qW,hS⟩;dsimp only at hi qW hS|-;refine bL O (aM _ O (fun h1=>?_) (fun h1=>?_))
 ·have dw:i<n:=by omega
  refine aA O (jr hS O ?_);intro eu w8 cj;have cj:St w w8 (ax 2 eu 0 0 (vA n i 0)::eO A4 AX i cX::eO A2 none 0 0::(aS 34 2 AX i cX rX (nn n i)++aS 34 2 AO (du n).length cO rO (du n))):=cj;clear hS;refine aC O (Cd.loop (α:=Nat×(aj×Nat)) (fun z=> [(0,ak n),(2,.pointer A2),(3,.slice AO (du n).length cO),(4,.pointer A4),(5,ak i),(6,.slice z.2.1 z.1 z.2.2),(7,ak (z.1:Int))]) (fun z w'=>z.1<=(du n).length/\St w w' (ax 2 z.2.1 z.1 z.2.2 (vA n i z.1)::eO A4 AX i cX::eO A2 none 0 0::(aS 34 2 AX i cX rX (nn n i)++aS 34 2 AO (du n).length cO rO (du n)))) (fun z=> (du n).length - z.1) (0,(eu,0)) (aqv O) ⟨bg _,cj⟩ ?_);clear cj;rintro⟨f,⟨AM,cM⟩⟩ e w9 ⟨hf,hS⟩;dsimp only at hf hS|-;refine bh O (a8 O O (aC O ?_));refine aM _ O (fun h2=>?_) (fun h2=>?_)
  ·have iD:f< (du n).length:=by omega
   have Jf:∀ {w':aa},St w w' (ax 2 AM f cM (vA n i f)::eO A4 AX i cX::eO A2 none 0 0::(aS 34 2 AX i cX rX (nn n i)++aS 34 2 AO (du n).length cO rO (du n)))->bF w' AO (du n).length rO (du n):=fun h=> (h.sub (((kA _ _).cons _ |>.cons _).cons _)).nJ O
   have n3:=Jf hS;have tt:=n3.at_ (i:=(f:Int)) am am;have N6:gl (du n) f∈du n:=by rw [bR iD];exact dK _
   have Cl:=bS _ N6;have yM:(rg rO f).n=n+1:=by rw [<-tt.1];exact Cl
   refine aA O (aD n3.top.2 O (b9 n3.top O (aL (Kl _ _ _ (gl (du n) f) _ tt am) O ?_)));rintro _ dY ⟨A8,c8,rfl,av⟩;rw [yM]at av|-;have bW:St w dY (ax 2 A8 (n+1) c8 (gl (du n) f)::ax 2 AM f cM (vA n i f)::eO A4 AX i cX::eO A2 none 0 0::(aS 34 2 AX i cX rX (nn n i)++aS 34 2 AO (du n).length cO rO (du n))):=hS.call av;clear hS av n3 tt;have Jg:=Jf bW.tail;have Oh:=Jg.at_ (i:=(f:Int)) am am;refine ar O (aD Jg.top.2 O (b9 Jg.top O ?_));refine ar O (aI O ?_);refine aD Oh.2 O (aY Oh O (aD (bW.bz 0 O).2 O (kN 0 (i:=(i:Int)) bW O O O am ?_)));intro eF eH;have vV:=Jf eH.tail;have Oi:=vV.at_ (i:=(f:Int)) am am;refine ar O (aI O (ar O ?_));refine aD vV.top.2 O (b9 vV.top O (ar O (aD Oi.2 O (aY Oi O (aD (eH.bz 0 O).2 O (kN 0 (i:=(i:Int)+1) eH O O O am ?_))))));intro fH dT;have dT:St w fH (ax 2 A8 (n+1) c8 (vC (gl (du n) f) i)::ax 2 AM f cM (vA n i f)::eO A4 AX i cX::eO A2 none 0 0::(aS 34 2 AX i cX rX (nn n i)++aS 34 2 AO (du n).length cO rO (du n))):=dT;clear bW eH Jg vV Oh Oi;have cI:=hO i dw f iD;have Eg:=List.idxOf_lt_length_of_mem cI;refine aC O (Cd.loop (α:=Nat) (fun a=> [(0,ak n),(2,.pointer A2),(3,.slice AO (du n).length cO),(4,.pointer A4),(5,ak i),(6,.slice AM f cM),(7,ak f),(8,.slice A8 (n+1) c8),(9,ak a)]) (fun a w'=>a<=(du n).idxOf (vC (gl (du n) f) i)/\St w w' (ax 2 A8 (n+1) c8 (vC (gl (du n) f) i)::ax 2 AM f cM (vA n i f)::eO A4 AX i cX::eO A2 none 0 0::(aS 34 2 AX i cX rX (nn n i)++aS 34 2 AO (du n).length cO rO (du n)))) (fun a=> (du n).length - a) 0 (aqv O) ⟨bg _,dT⟩ ?_);clear dT;rintro a e gG ⟨ha,hS⟩;have z7:a< (du n).length:=by omega
   have M9:=Jf hS.tail;have vj:=M9.at_ (i:=(a:Int)) am am;have JR:(rg rO a).n=n+1:=by rw [<-vj.1,bR z7];exact bS _ (dK _)
   refine bh O (aD M9.top.2 O (b9 M9.top O (ar O (aL (aia _ _ _ (gl (du n) a) A8 (n+1) c8 (vC (gl (du n) f) i) _ vj (hS.bz 0 O) am) O ?_))));rintro _ mO ⟨rfl,av⟩;have jK:=hS.aq av.below;clear hS av
   first | refine fv rfl rfl ?_ | refine gz rfl rfl ?_
   refine aC O (aM _ O (fun h3=>?_) (fun h3=>?_))
   ·have fG:a+1<=(du n).idxOf (vC (gl (du n) f) i):=by
     rcases Nat.lt_or_ge a ((du n).idxOf (vC (gl (du n) f) i))with q | q
     ·exact q
     exfalso;obtain rfl:a=(du n).idxOf (vC (gl (du n) f) i):=by omega
     apply h3;rw [bR z7,List.getElem_idxOf]
    refine aA O (aI O (aT O (tQ ?_)));exact⟨a+1,by show(du n).length - (a+1)< (du n).length - a;omega,(aqv O),fG,jK⟩
   have h3:=jR.1 h3;have yr:a=(du n).idxOf (vC (gl (du n) f) i):=by
    rcases Nat.lt_or_ge a ((du n).idxOf (vC (gl (du n) f) i))with q | q
    ·rw [bR z7]at h3;exact absurd h3 (ahh q z7)
    omega
   refine bp O (bt (cS O ?_));refine eL jK.tail O O O fun A66 sC iC=>fu 1 iC O (iC.bz 0 O) O O O fun AZ cZ vD kD=>ar O (aI O (aT O (tQ ?_)));refine⟨(f+1,(AZ,cZ)),by show(du n).length - (f+1)< (du n).length - f;omega,(aqv O),iD,?_⟩;show St w vD (ax _ AZ (f+1) cZ (vA n i (f+1))::_);rw [amU,<-yr];exact kD.tail
  obtain rfl:f=(du n).length:=by omega
  refine bp O (bt (cS O ?_));refine aV (hS.rd 1 O) O (aqp (j:=0) (hS.rd 1 O) O O O O O (ar O (lp hS O O O ?_)));intro Ze dY bW;refine lK 4 bW O (bW.fQ 0 O) O O O am am O fun AZ cZ eF eH=>aV (eH.rd 2 O) O (ki 2 (j:=0) eH O O O O O ?_);intro fH dT;have dT:=dT.tail.perm (ak2 _ _ _ _ _ _);refine ar O (aI O (aT O (tQ ?_)));refine⟨(i+1,(AZ,cZ),rX++ [⟨AM,(du n).length,cM⟩]),by show n - (i+1)<n - i;omega,(aqv O),by show i+1<=n;omega,by show(rX++ [_]).length=i+1;rw [ck,qW];rfl,?_⟩;show St w fH (eO A4 AZ (i+1) cZ::eO A2 none 0 0::(aS 34 2 AZ (i+1) cZ (rX++ [_]) (nn n (i+1))++aS 34 2 AO (du n).length cO rO (du n)));rw [amT];unfold aS;rw [pZ (by rw [qW,Yg])];exact dT
 obtain rfl:i=n:=by omega
 refine bp O (bt (cS O ?_));refine ao.cN 0 (hS.rd 0 O) O O O (b5 1 1 hS O O O O O O O ?_);intro w8 cj;refine bH O (iA O (cj.rd 1 O) ?_);have hl:=Yg i i;refine⟨AX,cX,rX,by rw [hl];rfl,by rw [hl];exact qW,?_⟩;rw [hl];exact cj.sub (show List.Sublist _ (_::_::_) from((oE _ _).cons _ |>.cons _))
def Rg(n:Nat)(xs:ai):Prop:=xs.length=n/\∀x∈xs,0<=x/\x< (n:Int)
theorem Rg.gi{n:Nat}{xs:ai}(h:Rg n xs){i:Int}(h0:0<=i)(h1:i<n):0<=Vc.gi xs i/\Vc.gi xs i<n:=by
 obtain⟨q,rfl⟩:∃q:Nat,i=q:=⟨i.toNat,am⟩;rw [bV (by rw [h.1];omega)];exact h.2 _ (dK _)
theorem Rg.set{n:Nat}{xs:ai}(h:Rg n xs){v:Int}(h0:0<=v)(h1:v<n):Rg n (xs.set j v):=by
 refine⟨by rw [mA];exact h.1,fun x hx=>?_⟩;rcases List.mem_or_eq_of_mem_set hx with hx | rfl
 ·exact h.2 x hx
 exact⟨h0,h1⟩
def GM(N:Nat)(xss:ah):Prop:=∀p∈xss,Rg N p
def wD(v:Nat->Int)(n f:Nat):ai:=(List.range n).map fun g=>if g<f then v g else 0
theorem anb(v:Nat->Int)(n:Nat):wD v n 0=List.replicate n 0:=by
 apply jE (by simp [wD]);intro i h1 h2;simp [wD]
theorem anc{v:Nat->Int}{n f:Nat}:(wD v n f).set f (v f)=wD v n (f+1):=by
 apply jE (by simp [wD]);intro i h1 h2;rw [List.getElem_set];simp only [wD,List.getElem_map,List.getElem_range]
 by_cases h:f=i
 ·subst h;rw [aB rfl,aB (Nat.lt_succ_self _)]
 rw [az h]
 by_cases h2:i<f
 ·rw [aB h2,aB (by omega)]
 rw [az h2,az (by omega)]
def E5(g:Nat):Int:=if(g:Int)%2=0 then(g:Int)+1 else(g:Int) - 1
end
section
open Go.RowKit Go.Sort
theorem afp{α:Type}[Inhabited α]{enc:α->ad}{w:aa}{g n off:Nat}{os:Array Obj}{cur:Array ad}{e:ae}{fr:Nat×Nat}(d:Array α)(hb:w.heap[g]?=some (.cells cur e fr)):(Go.Sort.grow (putRow enc (Sort.ahead w n) g off d) os).heap[g]?=some (.cells (putCells enc off d cur) e fr):=by
 have hg:g<w.heap.size:=(Array.getElem?_eq_some_iff.1 hb).1;rw [heap_grow_old _ _ (by simpa using hg)];simp [putRow,mapBlock,Sort.ahead,Array.getElem?_modify,hb,onCells]
theorem adC{α:Type}[Inhabited α]{enc:α->ad}{w:aa}{g n off:Nat}{os:Array Obj}(d:Array α):Db w (Go.Sort.grow (putRow enc (Sort.ahead w n) g off d) os) (some g):=by
 refine⟨⟨O,O,O,by simp,fun k hk bP=>?_⟩,Nat.le_add_right _ _⟩;rw [heap_grow_old _ _ (by simpa using hk)];have:g≠k:=fun e=>bP (by rw [e])
 simp [putRow,mapBlock,Sort.ahead,Array.getElem?_modify,this]
def sv(ss:List aO)(j:Nat):aO:=ss.getD j eY
end
end Go.Proofs.YtkccgdhcpplblaaGreatDoor.Vc
