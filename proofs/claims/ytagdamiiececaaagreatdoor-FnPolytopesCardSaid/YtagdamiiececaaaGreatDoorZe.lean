/-
 Lemmas. Conditions: as each states them.
-/
import Derived.Test.YtagdamiiececaaaGreatDoorZd
set_option maxHeartbeats 8000000
namespace Go.Proofs.YtagdamiiececaaaGreatDoor.Vc
open Tryz
section
open Go.RowKit
variable{ks:List Ck}{k':Ck}
theorem F5(A:aj)(n c:Nat)(xs:ai)(w:aa)(hR:bu w A n xs)(hn:n<=1000000000):
 aJ prog 115 [.slice A n c] w (fun v w'=>∃b:Bool,v= .bool b/\(b=true↔mu xs)/\St w w' []):=by
 have eu:=hR.1;refine br func115 O ntmps115 O (cw O) ?_;refine a8 O (ba O O (dA O (aE O ?_)));refine Cd.loop (α:=Nat) (fun k=> [(0,.slice A n c),(3,ak ((n:Int) - 1 - (k:Int)))]) (fun k w'=>St w w' []/\(k<=n - 1)/\∀j:Nat,n - k<=j->j<n->gi xs ((j:Int) - 1)<=gi xs j) (fun k=>n - k) 0 ⟨O,aH (Value.int .i64) (by show(n:Int) - 1=(n:Int) - 1 - ((0:Nat):Int);omega),av⟩ ⟨St.refl w,bn _,fun j h1 h2=>by omega⟩ ?_;rintro k e w1 ⟨hS,hk,hK⟩;have jA:=hS.da hR;refine bX O (aN _ O (fun h1=>?_) (fun h1=>?_))
 ·have e1:((n:Int) - 1 - (k:Int))=((n - 1 - k:Nat):Int):=by omega
  have e2:((n:Int) - 1 - (k:Int) - 1)=((n - 1 - k:Nat):Int) - 1:=by omega
  refine df O ?_;refine dL [xS (A) (n) (c),xI (((n:Int) - 1 - (k:Int))),xP (aD (A) (((n:Int) - 1 - (k:Int))).toNat),xI (gi (xs) (((n:Int) - 1 - (k:Int)))),xS (A) (n) (c),xI (((n:Int) - 1 - (k:Int))),xI ((((n:Int) - 1 - (k:Int))) - ((1:Int))),xP (aD (A) ((((n:Int) - 1 - (k:Int))) - ((1:Int))).toNat),xI (gi (xs) ((((n:Int) - 1 - (k:Int))) - ((1:Int)))),xB (decide (gi xs ((n:Int) - 1 - (k:Int))<gi xs ((n:Int) - 1 - (k:Int) - 1)))] O (dV O) ?_ ?_
  ·refine⟨Dr O,Dr O,fun _ _ hb _ _=>aB (jA.aq hb).2 O Az,fun _ _ hb _ _=>aW (jA.aq hb) O Az,Dr O,Dr O,fun _ _ _ _ _=>dA O Az,fun _ _ hb _ _=>aB (jA.aq hb).2 O Az,fun _ _ hb _ _=>aW (jA.aq hb) O Az,?_,av⟩
   ·intro e1 w1 hb hp aX;refine aI (GL _ _ _) O ?_;rintro _ w2 ⟨rfl,ax⟩;subst ax;refine ao.n (d0 (by exact O))
  intro u w2 hb _;have aM:=hS.aq hb;refine fq O (aN _ O (fun h2=>?_) (fun h2=>?_))
  ·refine du O (dN (dE ?_));refine cH O ?_;refine⟨false,rfl,⟨fun h=> (by cases h),fun h=>?_⟩,aM⟩;rw [e1]at h2;have h3:=List.pairwise_iff_getElem.1 h (n - 1 - k - 1) (n - 1 - k) (by omega) (by omega) (by omega);rw [<-bF (by omega),<-bF (by omega),show((n - 1 - k - 1:Nat):Int)=((n - 1 - k:Nat):Int) - 1 by omega]at h3;omega
  ·refine aG O (dA O (aR O (tQ ?_)));refine⟨k+1,by show n - (k+1)<n - k;omega,⟨O,aH (Value.int .i64) (by show(n:Int) - 1 - (k:Int) - 1=(n:Int) - 1 - ((k+1:Nat):Int);omega),av⟩,aM,by omega,fun j hj1 Qd=>?_⟩
   by_cases ej:n - k<=j
   ·exact hK j ej Qd
   ·have:(j:Int)=(n:Int) - 1 - (k:Int):=by omega
    rw [this];omega
 ·refine bk O (bm (fA O ?_));refine cH O ⟨true,O,⟨fun _=>?_,fun _=>O⟩,hS⟩;have key:∀j i:Nat,i<=j->j<n->gi xs i<=gi xs j:=by
   intro j
   induction j with
   | zero=>
    intro i hi _;have:i=0:=by omega
    rw [this];exact Int.le_refl _
   | succ j ih=>
    intro i hi hj
    by_cases e:i=j+1
    ·subst e;exact Int.le_refl _
    ·have h3:=ih i (by omega) (by omega);have h4:=hK (j+1) (by omega) hj;rw [show((j+1:Nat):Int) - 1=(j:Int) by omega]at h4;omega
  refine List.pairwise_iff_getElem.2 fun i j hi hj pa=>?_
  have:=key j i (by omega) (by omega)
  rwa [bF hi,bF hj]at this
theorem Gr{n:Int}{R:ai}(h:∀x∈R,0<=x/\x<=n - 1):tm 0 (n - 1) R:=h
theorem Bi(n:Int)(A D:aj)(cA cD:Nat)(R:ai)(rs:List aL)(B:ah)(w:aa)(hR:bu w A R.length R)(hB:bq w D B.length rs B)(hP:dm n R B):
 aJ prog 60 [.agg #[ak n,.slice A R.length cA,.slice D B.length cD]] w (fun v w'=>v= .bool true/\St w w' []):=by
 have hn:=hP.n1;have gQ:=hP.jK;have hle:=hP.len;have bH:=fun e (h:e<R.length)=>hP.row e h
 have bM:∀e:Nat,e<R.length->(gl B e).length<=500:=fun e h=>by
  have:=nN (N:=R.length) (bH e h).1.nodup fun x hx=> ((bH e h).2 x hx).1
  omega
 obtain⟨N,hN⟩:∃N,R.length=N:=⟨_,rfl⟩;rw [hN]at hR gQ hle bH bM|-;rw [hle]at hB|-;refine br func60 O ntmps60 O (cw O) (a8 O (ga (St.refl w) O O ?_));intro A1 w1 ay;have eN:=ay.below;have h1:Rd w1 A1 3 (fun j=> [Value.int .i64 n,.slice A N cA,.slice D N cD].getD j undef):=ay.rd 0 O;have hR:=hR.aq eN;have hB:=hB.aq eN;have ay:=ay.none;refine ar O (aS h1 O (aZ h1 O (aI (s8 _ _ _ _) O ?_)));rintro _ w1 ⟨rfl,rfl⟩;refine ar O (aS h1 O (fJ (j:=0) h1 (by exact aH Value.pointer O) O O O O (aI (mS _ _ _ _) O ?_)));rintro _ w1 ⟨rfl,rfl⟩
 first | refine dk rfl rfl ?_ | refine eF rfl rfl ?_
 refine ar O (bY 23 O (fun h=>absurd (by omega) h) (fun _=>?_));refine au O (ar O (au O (ar O ?_)));refine bY 27 O (fun h=>by omega) (fun _=>?_);refine au O (aS h1 O (au O (aZ h1 O ?_)));refine au O (ba O O (au O ?_));refine aS h1 O (au O (aZ h1 O ?_));refine au O (ba O O (au O (ar O ?_)));refine bY 36 O (fun h=>absurd O h) (fun _=>?_);refine au O (aS h1 O (au O (aZ h1 O (au O (aS h1 O (au O (fJ (j:=0) h1 (by exact aH Value.pointer O) O O O O ?_)))))));refine au O (dA O (au O ?_));refine aI (Gt A N cA R 0 (n - 1) _ hR (by omega)) O ?_;rintro _ w2 ⟨rfl,ax⟩;have hb:=ax.below;have h1:=Rd.below h1 hb;have hR:=hR.aq hb;have hB:=hB.aq hb;have ay:=ay.aq hb;clear ax hb;refine au O ?_
 first | refine dk rfl rfl ?_ | refine eF rfl rfl ?_
 refine ar O (bY 45 O (fun h=>absurd (Gr hP.jD) h) (fun _=>?_));refine au O (aS h1 O (au O (aZ h1 O (au O (aI (F5 A N cA R _ hR (by omega)) O ?_)))));rintro _ w3 ⟨b,rfl,zW,ax⟩;obtain rfl:=zW.2 hP.nm;have hb:=ax.below;have h1:=Rd.below h1 hb;have hR:=hR.aq hb;have hB:=hB.aq hb;have ay:=ay.aq hb;clear ax hb;refine au O ?_
 first | refine dk rfl rfl ?_ | refine eF rfl rfl ?_
 refine aE O (Cd.eM O (aG O (aS h1 O (aZ h1 O ?_))));refine ba O O (aE O ?_);refine Cd.loop (α:=Nat) (fun k=> [(1,.pointer A1),(3,ak N),(52,.slice D N cD),(53,ak N),(54,ak k)]) (fun k w'=>k<=N/\St w3 w' []) (fun k=>N - k) 0 (WM O) ⟨bn _,St.refl _⟩ ?_;rintro k e w4 ⟨hk,ax⟩;have hb:=ax.below;have h1:=Rd.below h1 hb;have hR:=hR.aq hb;have hB:=hB.aq hb;have ay:=ay.aq hb;clear hb;refine bX O (aN _ O (fun h3=>?_) (fun h3=>?_))
 ·have oA:k<N:=by omega
  have bW:=hB.at_ (i:=(k:Int)) (by omega) (by omega);have fp:=bW.1;have Jp:=bM k oA;have jg:=bH k oA;refine aG O (aB hB.top.2 O (ck hB.top O ?_));refine ar O (ba O O (aE O ?_));refine Cd.loop (α:=Nat) (fun q=> [(1,.pointer A1),(3,ak N),(52,.slice D N cD),(53,ak N),(54,ak k),(4,ak k),(5,.slice (rg rs k).a (rg rs k).n (rg rs k).c),(59,.slice (rg rs k).a (rg rs k).n (rg rs k).c),(60,ak ((rg rs k).n:Int)),(61,ak q)]) (fun q w'=>q<=(rg rs k).n/\St w4 w' []) (fun q=> (rg rs k).n - q) 0 (WM O) ⟨bn _,St.refl _⟩ ?_;rintro q e w5 ⟨hq,kl⟩;have hb:=kl.below;have h1:=Rd.below h1 hb;have hR:=hR.aq hb;have hB:=hB.aq hb;have bW:=bW.aq hb;clear hb;refine bX O (aN _ O (fun h4=>?_) (fun h4=>?_))
  ·have kJ:q< (gl B k).length:=by omega
   have hd:=jg.2 (gi (gl B k) q) (gi_in kJ);refine aG O (aB bW.2 O (aW bW O (aE O ?_)));generalize qk:gi (gl B k) q=d at*
   by_cases qp:0<q
   ·
    have QX:=jg.1.qz (show q - 1<q by omega) kJ;rw [qk,show((q - 1:Nat):Int)=(q:Int) - 1 by omega]at QX;refine dL [xI (d),xI ((N:Int)),xI (((N:Int)) - ((1:Int))),xB (decide (0<=d/\d<=(N:Int) - 1)),xB (false),xB (false),xP (aD (A1) 1),xS (A) (N) (cA),xI (d),xP (aD (A) (d).toNat),xI (gi (R) (d)),xP (aD (A1) 1),xS (A) (N) (cA),xI ((k:Int)),xP (aD (A) ((k:Int)).toNat),xI (gi (R) ((k:Int))),xB (false),xB (false),xB (false),xI ((q:Int)),xB (true),xB (true),xS ((rg rs k).a) ((rg rs k).n) ((rg rs k).c),xI ((q:Int)),xI (((q:Int)) - ((1:Int))),xP (aD ((rg rs k).a) (((q:Int)) - ((1:Int))).toNat),xI (gi (gl B k) (((q:Int)) - ((1:Int)))),xI (d),xB (false),xB (false),xB (false)] O (dV O) ?_ ?_
    ·refine⟨Dr O,Dr O,fun _ _ _ _ _=>dA O Az,?_,fun _ _ _ _ _=>dk O O (Az (by exact aH Value.bool (cS (fun h=>h (by omega))))),Dr O,fun _ _ hb _ _=>au O (aS (h1.below hb) O Az),fun _ _ hb _ _=>au O (aZ (h1.below hb) O Az),Dr O,fun _ _ hb _ _=>au O (aB (hR.aq hb).2 O Az),fun _ _ hb _ _=>au O (aW (hR.aq hb) O Az),fun _ _ hb _ _=>au O (aS (h1.below hb) O Az),fun _ _ hb _ _=>au O (aZ (h1.below hb) O Az),Dr O,fun _ _ hb _ _=>au O (aB (hR.aq hb).2 O Az),fun _ _ hb _ _=>au O (aW (hR.aq hb) O Az),fun _ _ _ _ _=>Dk O (by exact aH Value.bool (cS (by omega))),Dr O,Dr O,Dr O,fun _ _ _ _ _=>Dk O (by exact aH Value.bool (eD (by omega))),Dr O,Dr O,Dr O,fun _ _ _ _ _=>au O (dA O Az),fun _ _ hb _ _=>au O (aB (bW.aq hb).2 O Az),fun _ _ hb _ _=>au O (aW (bW.aq hb) O Az),Dr O,fun _ _ _ _ _=>Dk O (by exact aH Value.bool (cS (by omega))),Dr O,Dr O,av⟩;intro e1 w1 hb hp aX;refine aI (mS _ _ _ _) O ?_;rintro _ w2 ⟨rfl,ax⟩;subst ax;refine ao.n (d0 (by exact O))
    intro u w6 hb _;refine fq O (Cd.eM O ?_);refine aG O (aK O (aR O (tQ ?_)));exact⟨q+1,by show(rg rs k).n - (q+1)< (rg rs k).n - q;omega,(WM O),by omega,kl.aq hb⟩
   refine dL [xI (d),xI ((N:Int)),xI (((N:Int)) - ((1:Int))),xB (decide (0<=d/\d<=(N:Int) - 1)),xB (false),xB (false),xP (aD (A1) 1),xS (A) (N) (cA),xI (d),xP (aD (A) (d).toNat),xI (gi (R) (d)),xP (aD (A1) 1),xS (A) (N) (cA),xI ((k:Int)),xP (aD (A) ((k:Int)).toNat),xI (gi (R) ((k:Int))),xB (false),xB (false),xB (false),xI ((q:Int)),xB (false),xB (false),xU,xU,xU,xU,xU,xU,xU,xB (false),xB (false)] O (dV O) ?_ ?_
   ·refine⟨Dr O,Dr O,fun _ _ _ _ _=>dA O Az,?_,fun _ _ _ _ _=>dk O O (Az (by exact aH Value.bool (cS (fun h=>h (by omega))))),Dr O,fun _ _ hb _ _=>au O (aS (h1.below hb) O Az),fun _ _ hb _ _=>au O (aZ (h1.below hb) O Az),Dr O,fun _ _ hb _ _=>au O (aB (hR.aq hb).2 O Az),fun _ _ hb _ _=>au O (aW (hR.aq hb) O Az),fun _ _ hb _ _=>au O (aS (h1.below hb) O Az),fun _ _ hb _ _=>au O (aZ (h1.below hb) O Az),Dr O,fun _ _ hb _ _=>au O (aB (hR.aq hb).2 O Az),fun _ _ hb _ _=>au O (aW (hR.aq hb) O Az),fun _ _ _ _ _=>Dk O (by exact aH Value.bool (cS (by omega))),Dr O,Dr O,Dr O,fun _ _ _ _ _=>Dk O (by exact aH Value.bool (cS (by omega))),Dr O,Dr O,Dr O,Dr O,Dr O,Dr O,Dr O,Dr O,Dr O,Dr O,av⟩;intro e1 w1 hb hp aX;refine aI (mS _ _ _ _) O ?_;rintro _ w2 ⟨rfl,ax⟩;subst ax;refine ao.n (d0 (by exact O))
   intro u w6 hb _;refine fq O (Cd.eM O ?_);refine aG O (aK O (aR O (tQ ?_)));exact⟨q+1,by show(rg rs k).n - (q+1)< (rg rs k).n - q;omega,(WM O),by omega,kl.aq hb⟩
  refine bk O (bm (ct O (aK O (aR O (tQ ?_)))));exact⟨k+1,by show N - (k+1)<N - k;omega,(WM O),by omega,ax.aq kl.below⟩
 clear ax h3;refine bk O (bm (ct O ?_));refine aS h1 O (aZ h1 O ?_);refine ba O O (aE O ?_);refine Cd.loop (α:=Nat) (fun k=> [(1,.pointer A1),(100,.slice D N cD),(101,ak N),(102,ak k)]) (fun k w'=>k<=N/\St w4 w' []) (fun k=>N - k) 0 (WM O) ⟨bn _,St.refl _⟩ ?_;rintro k e w5 ⟨hk,ax⟩;have hb:=ax.below;have h1:=Rd.below h1 hb;have hB:=hB.aq hb;have ay:=ay.aq hb;clear hb;refine bX O (aN _ O (fun h3=>?_) (fun h3=>?_))
 ·have oA:k<N:=by omega
  have bW:=hB.at_ (i:=(k:Int)) (by omega) (by omega);have fp:=bW.1;have Jp:=bM k oA;have jg:=bH k oA;refine aG O (aB hB.top.2 O (ck hB.top O ?_));refine ar O (ba O O (aE O ?_));refine Cd.loop (α:=Nat) (fun q=> [(1,.pointer A1),(100,.slice D N cD),(101,ak N),(102,ak k),(9,.slice (rg rs k).a (rg rs k).n (rg rs k).c),(106,.slice (rg rs k).a (rg rs k).n (rg rs k).c),(107,ak ((rg rs k).n:Int)),(108,ak q)]) (fun q w'=>q<=(rg rs k).n/\w'=w5) (fun q=> (rg rs k).n - q) 0 (WM O) ⟨bn _,O⟩ ?_;rintro q e w6 ⟨hq,rfl⟩;refine bX O (aN _ O (fun h4=>?_) (fun h4=>?_))
  ·have kJ:q< (gl B k).length:=by omega
   have rh:=gi_in kJ;have hd:=jg.2 (gi (gl B k) q) rh;refine aG O (aB bW.2 O (aW bW O (ar O (aS h1 O (aZ h1 O (ar O ?_))))));generalize qk:gi (gl B k) q=d at*;have fS:=hB.at_ (i:=d) (by omega) (by omega);have Jr:=fS.1;have vF:(gl B d).length<=500:=by
    have:=bM d.toNat (by omega)
    rwa [Int.toNat_of_nonneg hd.1.1]at this
   refine aB hB.top.2 O (ck hB.top O ?_);refine ba O O (aE O ?_);refine Cd.loop (α:=Nat) (fun t=> [(1,.pointer A1),(100,.slice D N cD),(101,ak N),(102,ak k),(9,.slice (rg rs k).a (rg rs k).n (rg rs k).c),(106,.slice (rg rs k).a (rg rs k).n (rg rs k).c),(107,ak ((rg rs k).n:Int)),(108,ak q),(116,.slice (rg rs d).a (rg rs d).n (rg rs d).c),(117,ak ((rg rs d).n:Int)),(118,ak t)]) (fun t w'=>t<=(rg rs d).n/\w'=w6) (fun t=> (rg rs d).n - t) 0 (WM O) ⟨bn _,O⟩ ?_;rintro t e w7 ⟨ht,rfl⟩;refine bX O (aN _ O (fun h5=>?_) (fun h5=>?_))
   ·have ya:t< (gl B d).length:=by omega
    have lk:=gi_in ya;have ug:=hP.tr k (by omega) d rh _ lk;refine aG O (aB fS.2 O (aW fS O (ar O (aI (Cv _ _ _ (gl B k) _ _ bW jg.1 (by omega)) O ?_))));rintro _ _ ⟨⟨p,rfl⟩,rfl⟩;refine ar O ?_
    first | refine dk rfl rfl ?_ | refine eF rfl rfl ?_
    refine aE O (tf O (fun h=>h ug) (aG O (aK O (aR O (tQ ?_)))));exact⟨t+1,by show(rg rs d).n - (t+1)< (rg rs d).n - t;omega,(WM O),by omega,O⟩
   refine bk O (bm (ct O (aK O (aR O (tQ ?_)))));exact⟨q+1,by show(rg rs k).n - (q+1)< (rg rs k).n - q;omega,(WM O),by omega,O⟩
  refine bk O (bm (ct O (aK O (aR O (tQ ?_)))));exact⟨k+1,by show N - (k+1)<N - k;omega,(WM O),by omega,ax⟩
 refine bk O (bm (fA O ?_));exact cH O ⟨O,ay⟩
theorem KR{l:ai}(h:∀p:Nat,p+1<l.length->gi l p<gi l ((p+1:Nat):Int)):SA l:=by
 have key:∀j i:Nat,i<j->j<l.length->gi l i<gi l j:=by
  intro j
  induction j with
  | zero=>intro i hi;omega
  | succ j ih=>
   intro i hi hj;have h1:=h j hj
   by_cases e:i=j
   ·subst e;exact h1
   ·have:=ih i (by omega) (by omega);omega
 refine List.pairwise_iff_getElem.2 fun i j hi hj pa=>?_
 have:=key j i pa hj
 rwa [bF hi,bF hj]at this
theorem JR(n:Int)(A D:aj)(cA cD N M:Nat)(R:ai)(rs:List aL)(B:ah)(w:aa)(hR:bu w A N R)(hB:bq w D M rs B)(hn: -1000<=n/\n<=1000)(hN:N<=1000000)(hM:M<=1000000):
 aJ prog 60 [.agg #[ak n,.slice A N cA,.slice D M cD]] w (fun v w'=>∃b:Bool,v= .bool b/\(b=true↔dm n R B)/\St w w' []):=by
 have ny:R.length=N:=hR.1;have iH:B.length=M:=hB.len;refine br func60 O ntmps60 O (cw O) (a8 O (ga (St.refl w) O O ?_));intro A1 w1 ay;have eN:=ay.below;have h1:Rd w1 A1 3 (fun j=> [Value.int .i64 n,.slice A N cA,.slice D M cD].getD j undef):=ay.rd 0 O;have hR:=hR.aq eN;have hB:=hB.aq eN;have ay:=ay.none;refine ar O (aS h1 O (aZ h1 O (aI (s8 _ _ _ _) O ?_)));rintro _ w1 ⟨rfl,rfl⟩;refine ar O (aS h1 O (fJ (j:=0) h1 (by exact aH Value.pointer O) O O O O (aI (mS _ _ _ _) O ?_)));rintro _ w1 ⟨rfl,rfl⟩
 first | refine dk rfl rfl ?_ | refine eF rfl rfl ?_
 refine ar O (bY 23 O (fun h=>?_) (fun g1=>?_))
 ·refine az O (az O (ar O (az O (az O (az O (az O (az O (az O (az O (ar O (az O ?_)))))))))));refine az O (az O (az O (az O (az O (az O (ar O (az O (az O (az O (az O (aE O ?_)))))))))));refine Cd.fx O (du O (cH O ?_));exact⟨false,O,⟨fun h'=>absurd h' (by decide),fun hP=>absurd hP.n1 (by omega)⟩,ay.none⟩
 refine au O (ar O (au O (ar O ?_)));refine bY 27 O (fun h=>?_) (fun g2=>?_)
 ·refine az O (az O (az O (az O (az O (az O (az O (ar O (az O (az O (az O (az O ?_)))))))))));refine az O (az O (az O (ar O (az O (az O (az O (az O (aE O ?_))))))));refine Cd.fx O (du O (cH O ?_));exact⟨false,O,⟨fun h'=>absurd h' (by decide),fun hP=>by have:=hP.jK;omega⟩,ay.none⟩
 refine au O (aS h1 O (au O (aZ h1 O ?_)));refine au O (ba O O (au O ?_));refine aS h1 O (au O (aZ h1 O ?_));refine au O (ba O O (au O (ar O ?_)));refine bY 36 O (fun h=>?_) (fun g3=>?_)
 ·refine az O (az O (az O (az O (az O (az O (az O (ar O (az O (az O (az O (az O ?_)))))))))));refine aE O (Cd.fx O (du O (cH O ?_)));exact⟨false,O,⟨fun h'=>absurd h' (by decide),fun hP=>by have:=hP.len;omega⟩,ay.none⟩
 obtain rfl:N=M:=by omega
 refine au O (aS h1 O (au O (aZ h1 O (au O (aS h1 O (au O (fJ (j:=0) h1 (by exact aH Value.pointer O) O O O O ?_)))))));refine au O (dA O (au O ?_));refine aI (Gt A N cA R 0 (n - 1) _ hR (by omega)) O ?_;rintro _ w2 ⟨rfl,ax⟩;have hb:=ax.below;have h1:=Rd.below h1 hb;have hR:=hR.aq hb;have hB:=hB.aq hb;have ay:=ay.aq hb;clear ax hb;refine au O ?_
 first | refine dk rfl rfl ?_ | refine eF rfl rfl ?_
 refine ar O (bY 45 O (fun h=>?_) (fun g4=>?_))
 ·refine az O (az O (az O (az O (aE O ?_))));refine Cd.fx O (du O (cH O ?_));exact⟨false,O,⟨fun h'=>absurd h' (by decide),fun hP=>absurd (Gr hP.jD) h⟩,ay.none⟩
 have g4:=Decidable.not_not.1 g4;refine au O (aS h1 O (au O (aZ h1 O (au O (aI (F5 A N cA R _ hR (by omega)) O ?_)))));rintro _ w3 ⟨b,rfl,zW,ax⟩;rw [show b=decide (b=true) by cases b<;>rfl];have hb:=ax.below;have h1:=Rd.below h1 hb;have hR:=hR.aq hb;have hB:=hB.aq hb;have ay:=ay.aq hb;clear ax hb;refine au O ?_
 first | refine dk rfl rfl ?_ | refine eF rfl rfl ?_
 refine aE O (aN _ O (fun h=>?_) (fun g5=>?_))
 ·refine du O (cH O ?_);exact⟨false,O,⟨fun h'=>absurd h' (by decide),fun hP=>absurd (zW.2 hP.nm) h⟩,ay.none⟩
 have DY:mu R:=zW.1 (Decidable.not_not.1 g5);refine aG O (aS h1 O (aZ h1 O ?_));refine ba O O (aE O ?_);refine Cd.loop (α:=Nat) (fun k=> [(1,.pointer A1),(3,ak N),(52,.slice D N cD),(53,ak N),(54,ak k)]) (fun k w'=>k<=N/\(∀e:Nat,e<k->SA (gl B e)/\∀d∈gl B e,(0<=d/\d<R.length)/\gi R d<gi R e)/\St w3 w' []) (fun k=>N - k) 0 (WM O) ⟨bn _,fun e he=>by omega,St.refl _⟩ ?_;rintro k e w4 ⟨hk,bH,ax⟩;have hb:=ax.below;have h1:=Rd.below h1 hb;have hR:=hR.aq hb;have hB:=hB.aq hb;have ay:=ay.aq hb;clear hb;refine bX O (aN _ O (fun h3=>?_) (fun h3=>?_))
 ·have oA:k<N:=by omega
  have bW:=hB.at_ (i:=(k:Int)) (by omega) (by omega);have fp:=bW.1;have D3:=hB.cap_ (i:=(k:Int)) (by omega) (by omega);refine aG O (aB hB.top.2 O (ck hB.top O ?_));refine ar O (ba O O (aE O ?_));refine Cd.loop (α:=Nat) (fun q=> [(1,.pointer A1),(3,ak N),(52,.slice D N cD),(53,ak N),(54,ak k),(4,ak k),(5,.slice (rg rs k).a (rg rs k).n (rg rs k).c),(59,.slice (rg rs k).a (rg rs k).n (rg rs k).c),(60,ak ((rg rs k).n:Int)),(61,ak q)]) (fun q w'=>q<=(rg rs k).n/\(∀p:Nat,p<q->(0<=gi (gl B k) p/\gi (gl B k) p<R.length)/\gi R (gi (gl B k) p)<gi R k)/\(∀p:Nat,p+1<q->gi (gl B k) p<gi (gl B k) ((p+1:Nat):Int))/\St w4 w' []) (fun q=> (rg rs k).n - q) 0 (WM O) ⟨bn _,fun p hp=>by omega,fun p hp=>by omega,St.refl _⟩ ?_;rintro q e w5 ⟨hq,de,has,kl⟩;have hb:=kl.below;have h1:=Rd.below h1 hb;have hR:=hR.aq hb;have hB:=hB.aq hb;have bW:=bW.aq hb;clear hb;refine bX O (aN _ O (fun h4=>?_) (fun h4=>?_))
  ·have kJ:q< (gl B k).length:=by omega
   refine aG O (aB bW.2 O (aW bW O (aE O ?_)));have gS:=gi_in kJ;have vy:(0<=gi (gl B k) q/\gi (gl B k) q<R.length)/\gi R (gi (gl B k) q)<gi R k->∀p:Nat,p<q+1->(0<=gi (gl B k) p/\gi (gl B k) p<R.length)/\gi R (gi (gl B k) p)<gi R k:=fun h p hp=>by
    by_cases ep:p=q
    ·subst ep;exact h
    exact de p (by omega)
   have Ir:(0<q->gi (gl B k) ((q - 1:Nat):Int)<gi (gl B k) q)->∀p:Nat,p+1<q+1->gi (gl B k) p<gi (gl B k) ((p+1:Nat):Int):=fun h p hp=>by
    by_cases ep:p+1=q
    ·have:=h (by omega)
     rwa [<-ep,Nat.add_sub_cancel]at this
    exact has p (by omega)
   have Ew:dm n R B->_:=fun hP=>hP.row k (by omega)
   have eQ:dm n R B->0<q->gi (gl B k) ((q - 1:Nat):Int)<gi (gl B k) q:=fun hP h0=> (Ew hP).1.qz (show q - 1<q by omega) kJ
   generalize qk:gi (gl B k) q=d at*;have tO:(¬(0<=d/\d<N))\/((0<=d/\d<N)/\gi R k<=gi R d)\/((0<=d/\d<N)/\gi R d<gi R k/\q=0)\/((0<=d/\d<N)/\gi R d<gi R k/\0<q/\d<=gi (gl B k) ((q:Int) - 1))\/((0<=d/\d<N)/\gi R d<gi R k/\0<q/\gi (gl B k) ((q:Int) - 1)<d):=by omega
   rcases tO with hc | ⟨hc,hr⟩ | ⟨hc,hr,qp⟩ | ⟨hc,hr,qp,hs⟩ | ⟨hc,hr,qp,hs⟩
   ·
    refine dL [xI (d),xI ((N:Int)),xI (((N:Int)) - ((1:Int))),xB (decide (0<=d/\d<=(N:Int) - 1)),xB (true),xB (true),xU,xU,xU,xU,xU,xU,xU,xU,xU,xU,xU,xB (true),xB (true),xU,xU,xU,xU,xU,xU,xU,xU,xU,xU,xU,xB (true)] O (dV O) ?_ ?_
    ·refine⟨Dr O,Dr O,fun _ _ _ _ _=>dA O Az,?_,fun _ _ _ _ _=>dk O O (Az (by exact aH Value.bool (eD (by omega)))),Dr O,Dr O,Dr O,Dr O,Dr O,Dr O,Dr O,Dr O,Dr O,Dr O,Dr O,Dr O,Dr O,Dr O,Dr O,Dr O,Dr O,Dr O,Dr O,Dr O,Dr O,Dr O,Dr O,Dr O,Dr O,Dr O,av⟩;intro e1 w1 hb hp aX;refine aI (mS _ _ _ _) O ?_;rintro _ w2 ⟨rfl,ax⟩;subst ax;refine ao.n (d0 (by exact O))
    intro u w6 hb _;refine fq O (Cd.fx O ?_);refine du O (dN (dE (dN (dE ?_))));refine cH O ?_;exact⟨false,O,⟨fun h'=>absurd h' (by decide),fun hP=>by have:=((Ew hP).2 d gS).1;omega⟩,((ay.aq kl.below).aq hb).none⟩
   ·refine dL [xI (d),xI ((N:Int)),xI (((N:Int)) - ((1:Int))),xB (decide (0<=d/\d<=(N:Int) - 1)),xB (false),xB (false),xP (aD (A1) 1),xS (A) (N) (cA),xI (d),xP (aD (A) (d).toNat),xI (gi (R) (d)),xP (aD (A1) 1),xS (A) (N) (cA),xI ((k:Int)),xP (aD (A) ((k:Int)).toNat),xI (gi (R) ((k:Int))),xB (true),xB (true),xB (true),xU,xU,xU,xU,xU,xU,xU,xU,xU,xU,xU,xB (true)] O (dV O) ?_ ?_
    ·refine⟨Dr O,Dr O,fun _ _ _ _ _=>dA O Az,?_,fun _ _ _ _ _=>dk O O (Az (by exact aH Value.bool (cS (fun h=>h (by omega))))),Dr O,fun _ _ hb _ _=>au O (aS (h1.below hb) O Az),fun _ _ hb _ _=>au O (aZ (h1.below hb) O Az),Dr O,fun _ _ hb _ _=>au O (aB (hR.aq hb).2 O Az),fun _ _ hb _ _=>au O (aW (hR.aq hb) O Az),fun _ _ hb _ _=>au O (aS (h1.below hb) O Az),fun _ _ hb _ _=>au O (aZ (h1.below hb) O Az),Dr O,fun _ _ hb _ _=>au O (aB (hR.aq hb).2 O Az),fun _ _ hb _ _=>au O (aW (hR.aq hb) O Az),fun _ _ _ _ _=>Dk O (by exact aH Value.bool (eD (by omega))),Dr O,Dr O,Dr O,Dr O,Dr O,Dr O,Dr O,Dr O,Dr O,Dr O,Dr O,Dr O,Dr O,Dr O,av⟩;intro e1 w1 hb hp aX;refine aI (mS _ _ _ _) O ?_;rintro _ w2 ⟨rfl,ax⟩;subst ax;refine ao.n (d0 (by exact O))
    intro u w6 hb _;refine fq O (Cd.fx O ?_);refine du O (dN (dE (dN (dE ?_))));refine cH O ?_;exact⟨false,O,⟨fun h'=>absurd h' (by decide),fun hP=>by have:=((Ew hP).2 d gS).2;omega⟩,((ay.aq kl.below).aq hb).none⟩
   ·refine dL [xI (d),xI ((N:Int)),xI (((N:Int)) - ((1:Int))),xB (decide (0<=d/\d<=(N:Int) - 1)),xB (false),xB (false),xP (aD (A1) 1),xS (A) (N) (cA),xI (d),xP (aD (A) (d).toNat),xI (gi (R) (d)),xP (aD (A1) 1),xS (A) (N) (cA),xI ((k:Int)),xP (aD (A) ((k:Int)).toNat),xI (gi (R) ((k:Int))),xB (false),xB (false),xB (false),xI ((q:Int)),xB (false),xB (false),xU,xU,xU,xU,xU,xU,xU,xB (false),xB (false)] O (dV O) ?_ ?_
    ·refine⟨Dr O,Dr O,fun _ _ _ _ _=>dA O Az,?_,fun _ _ _ _ _=>dk O O (Az (by exact aH Value.bool (cS (fun h=>h (by omega))))),Dr O,fun _ _ hb _ _=>au O (aS (h1.below hb) O Az),fun _ _ hb _ _=>au O (aZ (h1.below hb) O Az),Dr O,fun _ _ hb _ _=>au O (aB (hR.aq hb).2 O Az),fun _ _ hb _ _=>au O (aW (hR.aq hb) O Az),fun _ _ hb _ _=>au O (aS (h1.below hb) O Az),fun _ _ hb _ _=>au O (aZ (h1.below hb) O Az),Dr O,fun _ _ hb _ _=>au O (aB (hR.aq hb).2 O Az),fun _ _ hb _ _=>au O (aW (hR.aq hb) O Az),fun _ _ _ _ _=>Dk O (by exact aH Value.bool (cS (by omega))),Dr O,Dr O,Dr O,fun _ _ _ _ _=>Dk O (by exact aH Value.bool (cS (by omega))),Dr O,Dr O,Dr O,Dr O,Dr O,Dr O,Dr O,Dr O,Dr O,Dr O,av⟩;intro e1 w1 hb hp aX;refine aI (mS _ _ _ _) O ?_;rintro _ w2 ⟨rfl,ax⟩;subst ax;refine ao.n (d0 (by exact O))
    intro u w6 hb _;refine fq O ?_;have vy:=vy ⟨by omega,hr⟩;refine Cd.eM O (aG O (aK O (aR O (tQ ?_))));refine⟨q+1,by show(rg rs k).n - (q+1)< (rg rs k).n - q;omega,(WM O),by omega,vy,Ir (fun h=>by omega),kl.aq hb⟩
   ·refine dL [xI (d),xI ((N:Int)),xI (((N:Int)) - ((1:Int))),xB (decide (0<=d/\d<=(N:Int) - 1)),xB (false),xB (false),xP (aD (A1) 1),xS (A) (N) (cA),xI (d),xP (aD (A) (d).toNat),xI (gi (R) (d)),xP (aD (A1) 1),xS (A) (N) (cA),xI ((k:Int)),xP (aD (A) ((k:Int)).toNat),xI (gi (R) ((k:Int))),xB (false),xB (false),xB (false),xI ((q:Int)),xB (true),xB (true),xS ((rg rs k).a) ((rg rs k).n) ((rg rs k).c),xI ((q:Int)),xI (((q:Int)) - ((1:Int))),xP (aD ((rg rs k).a) (((q:Int)) - ((1:Int))).toNat),xI (gi (gl B k) (((q:Int)) - ((1:Int)))),xI (d),xB (true),xB (true),xB (true)] O (dV O) ?_ ?_
    ·refine⟨Dr O,Dr O,fun _ _ _ _ _=>dA O Az,?_,fun _ _ _ _ _=>dk O O (Az (by exact aH Value.bool (cS (fun h=>h (by omega))))),Dr O,fun _ _ hb _ _=>au O (aS (h1.below hb) O Az),fun _ _ hb _ _=>au O (aZ (h1.below hb) O Az),Dr O,fun _ _ hb _ _=>au O (aB (hR.aq hb).2 O Az),fun _ _ hb _ _=>au O (aW (hR.aq hb) O Az),fun _ _ hb _ _=>au O (aS (h1.below hb) O Az),fun _ _ hb _ _=>au O (aZ (h1.below hb) O Az),Dr O,fun _ _ hb _ _=>au O (aB (hR.aq hb).2 O Az),fun _ _ hb _ _=>au O (aW (hR.aq hb) O Az),fun _ _ _ _ _=>Dk O (by exact aH Value.bool (cS (by omega))),Dr O,Dr O,Dr O,fun _ _ _ _ _=>Dk O (by exact aH Value.bool (eD (by omega))),Dr O,Dr O,Dr O,fun _ _ _ _ _=>au O (dA O Az),fun _ _ hb _ _=>au O (aB (bW.aq hb).2 O Az),fun _ _ hb _ _=>au O (aW (bW.aq hb) O Az),Dr O,fun _ _ _ _ _=>Dk O (by exact aH Value.bool (eD (by omega))),Dr O,Dr O,av⟩;intro e1 w1 hb hp aX;refine aI (mS _ _ _ _) O ?_;rintro _ w2 ⟨rfl,ax⟩;subst ax;refine ao.n (d0 (by exact O))
    intro u w6 hb _;refine fq O (Cd.fx O ?_);refine du O (dN (dE (dN (dE ?_))));refine cH O ?_;exact⟨false,O,⟨fun h'=>absurd h' (by decide),fun hP=>by have:=eQ hP qp;rw [show((q - 1:Nat):Int)=(q:Int) - 1 by omega]at this;omega⟩,((ay.aq kl.below).aq hb).none⟩
   refine dL [xI (d),xI ((N:Int)),xI (((N:Int)) - ((1:Int))),xB (decide (0<=d/\d<=(N:Int) - 1)),xB (false),xB (false),xP (aD (A1) 1),xS (A) (N) (cA),xI (d),xP (aD (A) (d).toNat),xI (gi (R) (d)),xP (aD (A1) 1),xS (A) (N) (cA),xI ((k:Int)),xP (aD (A) ((k:Int)).toNat),xI (gi (R) ((k:Int))),xB (false),xB (false),xB (false),xI ((q:Int)),xB (true),xB (true),xS ((rg rs k).a) ((rg rs k).n) ((rg rs k).c),xI ((q:Int)),xI (((q:Int)) - ((1:Int))),xP (aD ((rg rs k).a) (((q:Int)) - ((1:Int))).toNat),xI (gi (gl B k) (((q:Int)) - ((1:Int)))),xI (d),xB (false),xB (false),xB (false)] O (dV O) ?_ ?_
   ·refine⟨Dr O,Dr O,fun _ _ _ _ _=>dA O Az,?_,fun _ _ _ _ _=>dk O O (Az (by exact aH Value.bool (cS (fun h=>h (by omega))))),Dr O,fun _ _ hb _ _=>au O (aS (h1.below hb) O Az),fun _ _ hb _ _=>au O (aZ (h1.below hb) O Az),Dr O,fun _ _ hb _ _=>au O (aB (hR.aq hb).2 O Az),fun _ _ hb _ _=>au O (aW (hR.aq hb) O Az),fun _ _ hb _ _=>au O (aS (h1.below hb) O Az),fun _ _ hb _ _=>au O (aZ (h1.below hb) O Az),Dr O,fun _ _ hb _ _=>au O (aB (hR.aq hb).2 O Az),fun _ _ hb _ _=>au O (aW (hR.aq hb) O Az),fun _ _ _ _ _=>Dk O (by exact aH Value.bool (cS (by omega))),Dr O,Dr O,Dr O,fun _ _ _ _ _=>Dk O (by exact aH Value.bool (eD (by omega))),Dr O,Dr O,Dr O,fun _ _ _ _ _=>au O (dA O Az),fun _ _ hb _ _=>au O (aB (bW.aq hb).2 O Az),fun _ _ hb _ _=>au O (aW (bW.aq hb) O Az),Dr O,fun _ _ _ _ _=>Dk O (by exact aH Value.bool (cS (by omega))),Dr O,Dr O,av⟩;intro e1 w1 hb hp aX;refine aI (mS _ _ _ _) O ?_;rintro _ w2 ⟨rfl,ax⟩;subst ax;refine ao.n (d0 (by exact O))
   intro u w6 hb _;refine fq O ?_;have vy:=vy ⟨by omega,hr⟩;refine Cd.eM O (aG O (aK O (aR O (tQ ?_))));refine⟨q+1,by show(rg rs k).n - (q+1)< (rg rs k).n - q;omega,(WM O),by omega,vy,Ir (fun h=>by rw [show((q - 1:Nat):Int)=(q:Int) - 1 by omega];exact hs),kl.aq hb⟩
  refine bk O (bm (ct O (aK O (aR O (tQ ?_)))));have oE:q=(gl B k).length:=by omega
  refine⟨k+1,by show N - (k+1)<N - k;omega,(WM O),by omega,fun e he=>?_,ax.aq kl.below⟩
  by_cases ee:e=k
  ·subst ee;refine⟨KR fun p hp=>has p (by omega),fun d hd=>?_⟩;obtain⟨p,hp,rfl⟩:=eZ.1 hd;have:=de p (by omega)
   rwa [bF hp]at this
  exact bH e (by omega)
 have IX:k=N:=by omega
 rw [IX,<-ny]at bH;have bM:∀e:Nat,e<N->(gl B e).length<=500:=fun e h=>by
  have:=nN (N:=R.length) (bH e (by omega)).1.nodup fun x hx=> ((bH e (by omega)).2 x hx).1
  omega
 clear ax h3 hk IX;refine bk O (bm (ct O ?_));refine aS h1 O (aZ h1 O ?_);refine ba O O (aE O ?_);refine Cd.loop (α:=Nat) (fun k=> [(1,.pointer A1),(100,.slice D N cD),(101,ak N),(102,ak k)]) (fun k w'=>k<=N/\(∀e:Nat,e<k->∀d∈gl B e,∀c∈gl B d,c∈gl B e)/\St w4 w' []) (fun k=>N - k) 0 (WM O) ⟨bn _,fun e he=>by omega,St.refl _⟩ ?_;rintro k e w5 ⟨hk,ug,ax⟩;have hb:=ax.below;have h1:=Rd.below h1 hb;have hB:=hB.aq hb;have ay:=ay.aq hb;clear hb;refine bX O (aN _ O (fun h3=>?_) (fun h3=>?_))
 ·have oA:k<N:=by omega
  have bW:=hB.at_ (i:=(k:Int)) (by omega) (by omega);have fp:=bW.1;have Jp:=bM k oA;have jg:=bH k (by omega);refine aG O (aB hB.top.2 O (ck hB.top O ?_));refine ar O (ba O O (aE O ?_));refine Cd.loop (α:=Nat) (fun q=> [(1,.pointer A1),(100,.slice D N cD),(101,ak N),(102,ak k),(9,.slice (rg rs k).a (rg rs k).n (rg rs k).c),(106,.slice (rg rs k).a (rg rs k).n (rg rs k).c),(107,ak ((rg rs k).n:Int)),(108,ak q)]) (fun q w'=>q<=(rg rs k).n/\(∀p:Nat,p<q->∀c∈gl B (gi (gl B k) p),c∈gl B k)/\w'=w5) (fun q=> (rg rs k).n - q) 0 (WM O) ⟨bn _,fun p hp=>by omega,O⟩ ?_;rintro q e w6 ⟨hq,Jm,rfl⟩;refine bX O (aN _ O (fun h4=>?_) (fun h4=>?_))
  ·have kJ:q< (gl B k).length:=by omega
   have rh:=gi_in kJ;have hd:=jg.2 (gi (gl B k) q) rh;refine aG O (aB bW.2 O (aW bW O (ar O (aS h1 O (aZ h1 O (ar O ?_))))));generalize qk:gi (gl B k) q=d at*;have fS:=hB.at_ (i:=d) (by omega) (by omega);have Jr:=fS.1;have vF:(gl B d).length<=500:=by
    have:=bM d.toNat (by omega)
    rwa [Int.toNat_of_nonneg hd.1.1]at this
   refine aB hB.top.2 O (ck hB.top O ?_);refine ba O O (aE O ?_);refine Cd.loop (α:=Nat) (fun t=> [(1,.pointer A1),(100,.slice D N cD),(101,ak N),(102,ak k),(9,.slice (rg rs k).a (rg rs k).n (rg rs k).c),(106,.slice (rg rs k).a (rg rs k).n (rg rs k).c),(107,ak ((rg rs k).n:Int)),(108,ak q),(116,.slice (rg rs d).a (rg rs d).n (rg rs d).c),(117,ak ((rg rs d).n:Int)),(118,ak t)]) (fun t w'=>t<=(rg rs d).n/\(∀p:Nat,p<t->gi (gl B d) p∈gl B k)/\w'=w6) (fun t=> (rg rs d).n - t) 0 (WM O) ⟨bn _,fun p hp=>by omega,O⟩ ?_;rintro t e w7 ⟨ht,JE,rfl⟩;refine bX O (aN _ O (fun h5=>?_) (fun h5=>?_))
   ·have ya:t< (gl B d).length:=by omega
    have lk:=gi_in ya;refine aG O (aB fS.2 O (aW fS O (ar O (aI (Cv _ _ _ (gl B k) _ _ bW jg.1 (by omega)) O ?_))));rintro _ _ ⟨⟨p,rfl⟩,rfl⟩;refine ar O ?_
    first | refine dk rfl rfl ?_ | refine eF rfl rfl ?_
    refine aE O (aN _ O (fun h=>?_) (fun h6=>?_))
    ·refine du O (dN (dE (dN (dE (dN (dE ?_))))));exact cH O ⟨false,O,⟨fun h'=>absurd h' (by decide),fun hP=>absurd (hP.tr k (by omega) d rh _ lk) h⟩,ay.none⟩
    refine aG O (aK O (aR O (tQ ?_)));exact⟨t+1,by show(rg rs d).n - (t+1)< (rg rs d).n - t;omega,(WM O),by omega,fun p hp=>by
     by_cases ep:p=t
     ·subst ep;exact Decidable.not_not.1 h6
     exact JE p (by omega),O⟩
   refine bk O (bm (ct O (aK O (aR O (tQ ?_)))));exact⟨q+1,by show(rg rs k).n - (q+1)< (rg rs k).n - q;omega,(WM O),by omega,fun p hp c hc=>by
    by_cases ep:p=q
    ·subst ep;rw [qk]at hc;obtain⟨j,hj,rfl⟩:=eZ.1 hc;have:=JE j (by omega)
     rwa [bF hj]at this
    exact Jm p (by omega) c hc,O⟩
  refine bk O (bm (ct O (aK O (aR O (tQ ?_)))));exact⟨k+1,by show N - (k+1)<N - k;omega,(WM O),by omega,fun e he d hd c hc=>by
   by_cases ee:e=k
   ·subst ee;obtain⟨j,hj,rfl⟩:=eZ.1 hd;exact Jm j (by omega) c (by rw [bF hj];exact hc)
   exact ug e (by omega) d hd c hc,ax⟩
 refine bk O (bm (fA O ?_));refine cH O ?_;exact⟨true,O,⟨fun _=> ⟨by omega,by omega,by omega,g4,DY,bH,fun e he=>ug e (by omega)⟩,fun _=>O⟩,ay.none⟩
structure rW where
 m:Nat
 AR:aj
 cR:Nat
 Lr:ai
 AD:aj
 cD:Nat
 cq:List aL
 BL:ah
 AF:aj
 cF:Nat
 F:ai
 AG:aj
 cG:Nat
 G:ai
def rW.ma(x:rW)(A2 A3 A4 A5:aj)(n:Int)(vp vq:List ad):List Ck:=a7 A5 n x.AR x.m x.cR x.AD x.m x.cD::aw 2 x.AR x.m x.cR x.Lr::aw 2 x.AF (x.F).length x.cF (x.F)::aw 2 x.AG (x.G).length x.cG (x.G)::a7 A4 0 none 0 0 none 0 0::Bx 27 3 A3 vq::Bx 27 3 A2 vp::bE 24 x.AD x.m x.cD x.cq::b6 2 x.cq x.BL
structure rW.ok(x:rW):Prop where
 r:x.cq.length=x.m
 b:x.BL.length=x.m
 l:x.Lr.length=x.m
 f:x.F.length<=x.m
 g:x.G.length<=x.m
theorem Kw{α:Type}(y l a b c d e f g h:α)(X:List α):(a::b::c::d::e::f::g::h::(X++ [y])).Perm (y::a::b::c::d::e::f::g::h::X):=by
 classical
 refine l3.2 fun z=>?_
 simp only [mW,lB,nY];omega
theorem TL{α:Type}(g f o a q p x y:α):[x,y,g,f,o,a,q,p].Perm [o,x,f,g,a,q,p,y]:=by
 classical
 refine l3.2 fun z=>?_
 simp only [lB,nY];omega
theorem Sn(n:Int)(A D:aj)(cA cD:Nat)(R:ai)(rs:List aL)(B:ah)(A' D':aj)(GI tp:Nat)(R':ai)(rs':List aL)(B':ah)(w:aa)(hR:bu w A R.length R)(hB:bq w D B.length rs B)(sn:bu w A' R'.length R')(Dq:bq w D' B'.length rs' B')(hP:wx n R B)(qf:wx n R' B'):
 aJ prog 104 [.agg #[ak n,.slice A R.length cA,.slice D B.length cD],.agg #[ak n,.slice A' R'.length GI,.slice D' B'.length tp]] w (fun v w'=>∃(AR:aj) (m cR:Nat) (Lr:ai) (AD:aj) (cE:Nat) (cq:List aL) (BL:ah),v= .agg #[ak n,.slice AR m cR,.slice AD m cE]/\m<=10000/\cq.length=m/\BL.length=m/\St w w' (aw 2 AR m cR Lr::bE 24 AD m cE cq::b6 2 cq BL)):=by
 have hn:=hP.n1;have gQ:=hP.jK;have Py:=qf.jK;have hle:=hP.len;have I0:=qf.len;obtain⟨N,hN⟩:∃N,R.length=N:=⟨_,rfl⟩;obtain⟨N',zL⟩:∃N',R'.length=N':=⟨_,rfl⟩;rw [hle,hN]at hB;rw [I0,zL]at Dq;rw [hN]at hR gQ;rw [zL]at sn Py;rw [hle,I0,hN,zL];have bH:∀e:Nat,e<N->∀d∈gl B e,(0<=d/\d< (e:Int))/\gi R d<gi R e:=fun e he d hd=> (hP.at_ (e:=(e:Int)) (by omega) (by omega)).2.1 d hd
 have QT:∀e:Nat,e<N'->∀d∈gl B' e,(0<=d/\d< (e:Int))/\gi R' d<gi R' e:=fun e he d hd=> (qf.at_ (e:=(e:Int)) (by omega) (by omega)).2.1 d hd
 have DY:∀i j:Nat,i<=j->j<N->gi R i<=gi R j:=fun i j h1 h2=>hP.nm.le h1 (by omega)
 have Pv:∀i j:Nat,i<=j->j<N'->gi R' i<=gi R' j:=fun i j h1 h2=>qf.nm.le h1 (by omega)
 have hlen:∀e:Nat,e<N->(gl B e).length<=500:=fun e he=>by
  have h1:=hP.row e (by omega);have:=nN (N:=R.length) h1.1.nodup fun x hx=> (h1.2 x hx).1
  omega
 have qo:∀e:Nat,e<N'->(gl B' e).length<=500:=fun e he=>by
  have h1:=qf.row e (by omega);have:=nN (N:=R'.length) h1.1.nodup fun x hx=> (h1.2 x hx).1
  omega
 have DI:∀j:Nat,j<N->0<=gi R j:=fun j hj=> (hP.jD _ (gi_in (by omega))).1
 have Pl:∀j:Nat,j<N'->0<=gi R' j:=fun j hj=> (qf.jD _ (gi_in (by omega))).1
 clear hP qf;refine br func104 O ntmps104 O (pD O O) (a8 O (ga (St.refl w) O O ?_));intro A2 w1 hS;refine ga hS O O fun A3 w2 hS=>kV hS O ?_;intro A4 w3 hS;refine ar O (aS (hS.rd 2 O) O (fJ (j:=0) (hS.rd 2 O) (by exact aH Value.pointer O) O O O O (yY (by exact inferInstance) (by exact inferInstance) (by exact inferInstance) O O O O O O (kV hS O ?_))));intro A5 w4 hS;refine dG 3 0 hS O O O O O O O ?_;clear hS;intro w5 hS;refine ar O (iB hS O ?_);clear hS;intro A6 w6 hS;refine iB hS O ?_;clear hS;intro A7 w7 hS;obtain⟨vp,Bd⟩:∃vp:List ad,vp=[ak n,.slice A N cA,.slice D N cD]:=⟨_,rfl⟩;obtain⟨vq,EM⟩:∃vq:List ad,vq=[ak n,.slice A' N' GI,.slice D' N' tp]:=⟨_,rfl⟩;have qg:St w w7 (rW.ma ⟨0,none,0,[],none,0,[],[],A6,0,[],A7,0,[]⟩ A2 A3 A4 A5 n vp vq):=by
  rw [Bd,EM];have h9:=(hS.nil 24).nil 2;exact h9.perm (TL _ _ _ _ _ _ _ _)
 clear hS;refine aE O (Cd.loop (α:=Nat×rW) (fun z=> [(2,.pointer A2),(3,.pointer A3),(4,.pointer A4),(5,.pointer A5),(6,.slice z.2.AF z.2.F.length z.2.cF),(7,.slice z.2.AG z.2.G.length z.2.cG),(8,ak (z.1:Int))]) (fun z w'=>z.1<=n.toNat/\z.2.ok/\(∀j:Nat,j<N->gi R j<z.1->j<z.2.F.length)/\(∀j:Nat,j<N'->gi R' j<z.1->j<z.2.G.length)/\z.2.m<=1000*z.1/\St w w' (z.2.ma A2 A3 A4 A5 n vp vq)) (fun z=>n.toNat - z.1) (0,⟨0,none,0,[],none,0,[],[],A6,0,[],A7,0,[]⟩) (WM O) ⟨bn _,⟨O,O,O,dh _,dh _⟩,fun j hj h=>?_,fun j hj h=>?_,dh _,qg⟩ ?_)
 ·have:=DI j hj;have h:gi R j< ((0:Nat):Int):=h;omega
 ·have:=Pl j hj;have h:gi R' j< ((0:Nat):Int):=h;omega
 clear qg;rintro⟨k,x⟩ e w8 ⟨hk,b8,hF,hG,hm,hS⟩;dsimp only at hk b8 hF hG hm hS|-;have fo:=hS.rd 6 O;rw [Bd]at fo;refine a8 O (aS fo O (fJ (j:=0) fo (by exact aH Value.pointer O) O O O O ?_));clear fo;refine aE O (aN _ O (fun h1=>?_) (fun h1=>?_))
 ·have pd:(k:Int)<n:=h1;refine df O ?_;refine Cd.loop (α:=Nat×rW) (fun z=> [(2,.pointer A2),(3,.pointer A3),(4,.pointer A4),(5,.pointer A5),(6,.slice z.2.AF z.2.F.length z.2.cF),(7,.slice z.2.AG z.2.G.length z.2.cG),(8,ak k),(9,ak (z.1:Int))]) (fun z w'=>z.1<=N/\z.2.ok/\(∀j:Nat,j<N->(gi R j<k\/gi R j=k/\j<z.1)->j<z.2.F.length)/\(∀j:Nat,j<N'->gi R' j<k->j<z.2.G.length)/\z.2.m<=1000*k+z.1/\St w w' (z.2.ma A2 A3 A4 A5 n vp vq)) (fun z=>N - z.1) (0,x) (WM O) ⟨bn _,b8,fun j hj h=>hF j hj (h.resolve_right fun h=>absurd h.2 (gM _)),hG,by show x.m<=1000*k+0;omega,hS⟩ ?_;clear hS b8 hF hG hm;rintro⟨e,x⟩ ev w9 ⟨he,b8,hF,hG,hm,hS⟩;dsimp only at he b8 hF hG hm hS|-;have pv:=b8.f;have yd:=b8.g;have Q6:=b8.r;have Q7:=b8.b;have Q8:=b8.l;have fo:=hS.rd 6 O;rw [Bd]at fo;have jA:=hS.da hR;have iD:=hS.bO hB;refine a8 O (aS fo O (WI (j:=1) fo (by exact aH Value.pointer O) O O O O ?_));refine ba O O (aE O ?_);refine aN _ O (fun h2=>?_) (fun h2=>?_)
  ·have o9:e<N:=by omega
   refine aG O (aS fo O (WI (j:=1) fo (by exact aH Value.pointer O) O O O O (ar O (aB jA.2 O (aW jA O (aE O ?_))))));refine aN _ O (fun h3=>?_) (fun h3=>?_)
   ·have h3:gi R e=k:=h3;have PO:e<=x.F.length:=by
     by_cases h0:e=0
     ·omega
     have h4:=DY (e - 1) e (by omega) o9;have h5:=hF (e - 1) (by omega) (by omega);omega
    have bW:=iD.at_ (i:=(e:Int)) (by omega) (by omega);have fp:=bW.1;have bM:=hlen e o9;refine aG O (iB hS O ?_);intro b9 dw bQ;have bQ:St w dw (aw 2 b9 0 0 []::x.ma A2 A3 A4 A5 n vp vq):=bQ;refine aE O (Cd.loop (α:=Nat×aj×Nat×ai) (fun z=> [(2,.pointer A2),(3,.pointer A3),(4,.pointer A4),(5,.pointer A5),(6,.slice x.AF x.F.length x.cF),(7,.slice x.AG x.G.length x.cG),(8,ak k),(9,ak e),(10,.slice z.2.1 z.1 z.2.2.1),(11,ak (z.1:Int))]) (fun z w'=>z.1<=(gl B e).length/\St w w' (aw 2 z.2.1 z.1 z.2.2.1 z.2.2.2::x.ma A2 A3 A4 A5 n vp vq)) (fun z=> (gl B e).length - z.1) (0,b9,0,[]) (WM O) ⟨bn _,bQ⟩ ?_);clear bQ hS fo;rintro⟨q,b9,en,L⟩ ev ew ⟨hq,hS⟩;dsimp only at hq hS|-;have fo:=hS.rd 7 O;rw [Bd]at fo;have iD:=hS.bO hB;have bW:=iD.at_ (i:=(e:Int)) (by omega) (by omega);refine a8 O (aS fo O (WI (j:=2) fo (by exact aH Value.pointer O) O O O O (ar O (aB iD.top.2 O (ck iD.top O ?_)))));refine ba O O (aE O ?_);refine aN _ O (fun h4=>?_) (fun h4=>?_)
    ·have kJ:q< (gl B e).length:=by omega
     have hd:=bH e o9 _ (gi_in kJ);refine aG O (aS fo O (WI (j:=2) fo (by exact aH Value.pointer O) O O O O (ar O (aB iD.top.2 O (ck iD.top O (ar O (aB bW.2 O (aW bW O ?_))))))));have sj:=hS.bo 3 O;refine aB sj.2 O (aW sj O (eE hS O O O ?_));intro Ll eh dC;refine fj 1 dC O (dC.bo 0 O) O O O fun BX CA gp eJ=>ar O (aK O (aR O (tQ ?_)));exact⟨(q+1,BX,CA,_),by show(gl B e).length - (q+1)< (gl B e).length - q;omega,(WM O),by show q+1<=(gl B e).length;omega,eJ.tail⟩
    clear fo iD bW;have lM:=hS.rd 1 O;refine bk O (bm (ct O ?_));refine aS lM O (WI (j:=1) lM (by exact aH Value.pointer O) O O O O (ba O O (eE hS O O O ?_)));intro Ln eh dC;refine fj 4 dC O (dC.bo 0 O) O O O ?_;intro lV l9 gp eJ;have hS:=eJ.tail;clear dC eJ lM;have lM:=hS.rd 1 O;refine ar O (aS lM O (WI (j:=1) lM (by exact aH Value.pointer O) O O O O (ar O (eE hS O O O ?_))));intro Lo lT iS;refine fj 3 iS O (iS.bo 0 O) O O O ?_;intro gY ib lU gP;have xV:=gP.rd 2 O;refine aS xV O (kB 2 gP O O O O O ?_);intro uC kF;have kF:St w uC (aw 2 b9 q en L::a7 A5 n gY (x.m+1) ib x.AD x.m x.cD::aw 2 gY (x.m+1) ib (x.Lr++ [(k:Int)])::aw 2 lV (x.F.length+1) l9 (x.F++ [(x.m:Int)])::aw 2 x.AG (x.G).length x.cG (x.G)::a7 A4 0 none 0 0 none 0 0::Bx 27 3 A3 vq::Bx 27 3 A2 vp::bE 24 x.AD x.m x.cD x.cq::b6 2 x.cq x.BL):=kF.tail;clear iS gP hS lM xV;refine aE O ?_;refine ja [5,7] [yP (aD (A5) 2),yS (x.AD) (x.m) (x.cD),yS (b9) (q) (en),.pr (fun v w'=>∃db dd dt,v= .slice db q dd/\St w w' (aw 2 db q dd dt::aw 2 b9 q en L::a7 A5 n gY (x.m+1) ib x.AD x.m x.cD::aw 2 gY (x.m+1) ib (x.Lr++ [(k:Int)])::aw 2 lV (x.F.length+1) l9 (x.F++ [(x.m:Int)])::aw 2 x.AG (x.G).length x.cG (x.G)::a7 A4 0 none 0 0 none 0 0::Bx 27 3 A3 vq::Bx 27 3 A2 vp::bE 24 x.AD x.m x.cD x.cq::b6 2 x.cq x.BL)),.pr (fun v w'=>∃db dd dt lW,v= .slice lW 1 1/\St w w' (bE 24 lW 1 1 [⟨db,q,dd⟩]::aw 2 db q dd dt::aw 2 b9 q en L::a7 A5 n gY (x.m+1) ib x.AD x.m x.cD::aw 2 gY (x.m+1) ib (x.Lr++ [(k:Int)])::aw 2 lV (x.F.length+1) l9 (x.F++ [(x.m:Int)])::aw 2 x.AG (x.G).length x.cG (x.G)::a7 A4 0 none 0 0 none 0 0::Bx 27 3 A3 vq::Bx 27 3 A2 vp::bE 24 x.AD x.m x.cD x.cq::b6 2 x.cq x.BL)),.pr (fun v w'=>∃db dd dt fv fw,v= .slice fv (x.m+1) fw/\St w w' (aw 2 db q dd dt::aw 2 b9 q en L::a7 A5 n gY (x.m+1) ib x.AD x.m x.cD::aw 2 gY (x.m+1) ib (x.Lr++ [(k:Int)])::aw 2 lV (x.F.length+1) l9 (x.F++ [(x.m:Int)])::aw 2 x.AG (x.G).length x.cG (x.G)::a7 A4 0 none 0 0 none 0 0::Bx 27 3 A3 vq::Bx 27 3 A2 vp::bE 24 fv (x.m+1) fw (x.cq++ [⟨db,q,dd⟩])::b6 2 x.cq x.BL)),yP (aD (A5) 2),.pr (fun _ w'=>∃db dd dt fv fw,St w w' (aw 2 db q dd dt::aw 2 b9 q en L::a7 A5 n gY (x.m+1) ib fv (x.m+1) fw::aw 2 gY (x.m+1) ib (x.Lr++ [(k:Int)])::aw 2 lV (x.F.length+1) l9 (x.F++ [(x.m:Int)])::aw 2 x.AG (x.G).length x.cG (x.G)::a7 A4 0 none 0 0 none 0 0::Bx 27 3 A3 vq::Bx 27 3 A2 vp::bE 24 fv (x.m+1) fw (x.cq++ [⟨db,q,dd⟩])::b6 2 x.cq x.BL))] (by kernel_rfl) (by kernel_rfl) (ly (ly (ly (cM.2 ⟨Ye.cN (fun v w w' h hb=>by obtain⟨db,dd,dt,hv,h1⟩:=h;exact⟨db,dd,dt,hv,h1.aq hb⟩),(cM.2 ⟨Ye.cN (fun v w w' h hb=>by obtain⟨db,dd,dt,lW,hv,h1⟩:=h;exact⟨db,dd,dt,lW,hv,h1.aq hb⟩),(cM.2 ⟨Ye.cN (fun v w w' h hb=>by obtain⟨db,dd,dt,fv,fw,hv,h1⟩:=h;exact⟨db,dd,dt,fv,fw,hv,h1.aq hb⟩),(ly (cM.2 ⟨Ye.cN (fun v w w' h hb=>by obtain⟨db,dd,dt,fv,fw,h1⟩:=h;exact⟨db,dd,dt,fv,fw,h1.aq hb⟩),(fun _ h=>by cases h)⟩))⟩)⟩)⟩)))) ?_ ?_
    ·refine⟨cP fun _ _ hb _ _ _=>aS ((kF.rd 1 O).below hb) O (bB O O),cP fun _ _ hb _ _ _=>aZ ((kF.rd 1 O).below hb) O (bB O O),bT O,?_,?_,?_,?_,?_,av⟩
     ·refine cP fun e1 w1 hb hp aX hq=>?_
      refine aI (J2 b9 q en L _ ((kF.aq hb).bo 0 O) (by omega)) O ?_;rintro _ yH ⟨db,dd,dt,rfl,_,x5⟩;exact ao.n (eX.dn O x5.below ⟨db,dd,dt,O,(kF.aq hb).call x5⟩)
     ·refine cP fun e1 w1 hb hp aX hq=>?_
      obtain⟨db,dd,dt,hv,h1⟩:=(hp 3 _ _ (by kernel_rfl) rfl rfl (by kernel_rfl));refine l6 (St.refl _) (by exact hv) O O ?_;intro lW Lf x6;exact ao.n (eX.dn O x6.below ⟨db,dd,dt,lW,O,h1.call x6⟩)
     ·refine jc fun e1 w1 hb hp aX hq=>?_
      obtain⟨db,dd,dt,lW,hv,h1⟩:=(hp 4 _ _ (by kernel_rfl) rfl rfl (by kernel_rfl));refine l5 10 h1 O (h1.fz 0 O) O (by exact hv) O (by omega) (by omega) O ?_;intro fv fw Vj DP;exact ao.n (fg.dn O ⟨db,dd,dt,fv,fw,O,DP.tail⟩)
     ·refine dP 1 fun e1 w1 hp aX hq=>?_
      have eT:=hp 5 _ _ (by kernel_rfl) O O (by kernel_rfl);obtain⟨db,dd,dt,fv,fw,qW,hT⟩:=eT;refine aS ((hT.rd 2 O)) O (ao.n (eO O (by exact O)))
     refine pY 1 fun e1 w1 hp aX hq=>?_
     have eT:=hp 5 _ _ (by kernel_rfl) O O (by kernel_rfl);obtain⟨db,dd,dt,fv,fw,qW,hT⟩:=eT;refine kB 2 hT O O (by exact qW) O O ?_;intro Vk DQ;exact ao.n (fg.st O ⟨db,dd,dt,fv,fw,DQ⟩)
    intro u oS _ hu _ _;obtain⟨db,dd,dt,fv,fw,hT⟩:=hu 7 _ rfl (by kernel_rfl);refine gZ O (aK O (aR O (tQ ?_)));refine⟨(e+1,⟨x.m+1,gY,ib,x.Lr++ [(k:Int)],fv,fw,x.cq++ [⟨db,q,dd⟩],x.BL++ [dt],lV,l9,x.F++ [(x.m:Int)],x.AG,x.cG,x.G⟩),by show N - (e+1)<N - e;omega,⟨O,O,O,O,by show Value.slice _ _ _= .slice _ _ _;rw [eY];rfl,O,O,aH (Value.int .i64) (by omega),av⟩,by show e+1<=N;omega,⟨by simp [b8.r],by simp [b8.b],by simp [b8.l],by show(x.F++ [_]).length<=x.m+1;simp;omega,by show x.G.length<=x.m+1;omega⟩,fun j hj h=>by
     show j< (x.F++ [_]).length;rw [eY,List.length_singleton]
     by_cases ej:j=e
     ·omega
     have:=hF j hj (by exact h.imp_right fun h=> ⟨h.1,by have h2:j<e+1:=h.2;omega⟩);omega,hG,by show x.m+1<=1000*k+ (e+1);omega,?_⟩
    show St w oS (a7 A5 n gY (x.m+1) ib fv (x.m+1) fw::aw 2 gY (x.m+1) ib (x.Lr++ [(k:Int)])::aw 2 lV (x.F++ [(x.m:Int)]).length l9 (x.F++ [(x.m:Int)])::aw 2 x.AG (x.G).length x.cG (x.G)::a7 A4 0 none 0 0 none 0 0::Bx 27 3 A3 vq::Bx 27 3 A2 vp::bE 24 fv (x.m+1) fw (x.cq++ [⟨db,q,dd⟩])::b6 2 (x.cq++ [⟨db,q,dd⟩]) (x.BL++ [dt]));rw [rQ (by omega),show(x.F++ [(x.m:Int)]).length=x.F.length+1 by simp];refine St.perm ?_ (Kw _ (aw 2 b9 q en L) _ _ _ _ _ _ _ _ _).symm;exact hT.sub ((List.sublist_cons_self _ _).cons_cons _)
   refine aG O (aK O (aR O (tQ ?_)));exact⟨(e+1,x),by show N - (e+1)<N - e;omega,⟨O,O,O,O,O,O,O,aH (Value.int .i64) (by omega),av⟩,by show e+1<=N;omega,b8,fun j hj h=>hF j hj (h.imp_right fun h5=> ⟨h5.1,by have h2:j<e+1:=h5.2;have:j≠e:=(fun ej=>h3 (by rw [<-ej];exact h5.1));omega⟩),hG,by show x.m<=1000*k+ (e+1);omega,hS⟩
  have o9:e=N:=by omega
  have HR:∀j:Nat,j<N->gi R j< ((k+1:Nat):Int)->j<x.F.length:=fun j hj h=>hF j hj (by omega)
  clear hF fo jA iD;have hF:=HR;clear HR;rw [o9]at hm;refine bk O (bm (mw O ?_));refine Cd.loop (α:=Nat×rW) (fun z=> [(2,.pointer A2),(3,.pointer A3),(4,.pointer A4),(5,.pointer A5),(6,.slice z.2.AF z.2.F.length z.2.cF),(7,.slice z.2.AG z.2.G.length z.2.cG),(8,ak k),(12,ak (z.1:Int))]) (fun z w'=>z.1<=N'/\z.2.ok/\(∀j:Nat,j<N->gi R j< ((k+1:Nat):Int)->j<z.2.F.length)/\(∀j:Nat,j<N'->(gi R' j<k\/gi R' j=k/\j<z.1)->j<z.2.G.length)/\z.2.m<=1000*k+N+z.1/\St w w' (z.2.ma A2 A3 A4 A5 n vp vq)) (fun z=>N' - z.1) (0,x) (WM O) ⟨bn _,b8,hF,fun j hj h=>hG j hj (h.resolve_right fun h=>absurd h.2 (gM _)),by show x.m<=1000*k+N+0;omega,hS⟩ ?_;clear hS b8 hF hG hm;rintro⟨e,x⟩ ev w9 ⟨he,b8,hF,hG,hm,hS⟩;dsimp only at he b8 hF hG hm hS|-;have pv:=b8.f;have yd:=b8.g;have Q6:=b8.r;have Q7:=b8.b;have Q8:=b8.l;have fo:=hS.rd 5 O;rw [EM]at fo;have Ia:=hS.da sn;have iD:=hS.bO Dq;refine a8 O (aS fo O (WI (j:=1) fo (by exact aH Value.pointer O) O O O O ?_));refine ba O O (aE O ?_);refine aN _ O (fun h2=>?_) (fun h2=>?_)
  ·have o9:e<N':=by omega
   refine aG O (aS fo O (WI (j:=1) fo (by exact aH Value.pointer O) O O O O (ar O (aB Ia.2 O (aW Ia O (aE O ?_))))));refine aN _ O (fun h3=>?_) (fun h3=>?_)
   ·have h3:gi R' e=k:=h3;have PO:e<=x.G.length:=by
     by_cases h0:e=0
     ·omega
     have h4:=Pv (e - 1) e (by omega) o9;have h5:=hG (e - 1) (by omega) (by omega);omega
    have bW:=iD.at_ (i:=(e:Int)) (by omega) (by omega);have fp:=bW.1;have bM:=qo e o9;refine aG O (iB hS O ?_);intro b9 dw bQ;have bQ:St w dw (aw 2 b9 0 0 []::x.ma A2 A3 A4 A5 n vp vq):=bQ;refine aE O (Cd.loop (α:=Nat×aj×Nat×ai) (fun z=> [(2,.pointer A2),(3,.pointer A3),(4,.pointer A4),(5,.pointer A5),(6,.slice x.AF x.F.length x.cF),(7,.slice x.AG x.G.length x.cG),(8,ak k),(12,ak e),(13,.slice z.2.1 z.1 z.2.2.1),(14,ak (z.1:Int))]) (fun z w'=>z.1<=(gl B' e).length/\St w w' (aw 2 z.2.1 z.1 z.2.2.1 z.2.2.2::x.ma A2 A3 A4 A5 n vp vq)) (fun z=> (gl B' e).length - z.1) (0,b9,0,[]) (WM O) ⟨bn _,bQ⟩ ?_);clear bQ hS fo;rintro⟨q,b9,en,L⟩ ev ew ⟨hq,hS⟩;dsimp only at hq hS|-;have fo:=hS.rd 6 O;rw [EM]at fo;have iD:=hS.bO Dq;have bW:=iD.at_ (i:=(e:Int)) (by omega) (by omega);refine a8 O (aS fo O (WI (j:=2) fo (by exact aH Value.pointer O) O O O O (ar O (aB iD.top.2 O (ck iD.top O ?_)))));refine ba O O (aE O ?_);refine aN _ O (fun h4=>?_) (fun h4=>?_)
    ·have kJ:q< (gl B' e).length:=by omega
     have hd:=QT e o9 _ (gi_in kJ);refine aG O (aS fo O (WI (j:=2) fo (by exact aH Value.pointer O) O O O O (ar O (aB iD.top.2 O (ck iD.top O (ar O (aB bW.2 O (aW bW O ?_))))))));have sj:=hS.bo 4 O;refine aB sj.2 O (aW sj O (eE hS O O O ?_));intro Ll eh dC;refine fj 1 dC O (dC.bo 0 O) O O O fun BX CA gp eJ=>ar O (aK O (aR O (tQ ?_)));exact⟨(q+1,BX,CA,_),by show(gl B' e).length - (q+1)< (gl B' e).length - q;omega,(WM O),by show q+1<=(gl B' e).length;omega,eJ.tail⟩
    clear fo iD bW;have lM:=hS.rd 1 O;refine bk O (bm (ct O ?_));refine aS lM O (WI (j:=1) lM (by exact aH Value.pointer O) O O O O (ba O O (eE hS O O O ?_)));intro Ln eh dC;refine fj 5 dC O (dC.bo 0 O) O O O ?_;intro lV l9 gp eJ;have hS:=eJ.tail;clear dC eJ lM;have lM:=hS.rd 1 O;refine ar O (aS lM O (WI (j:=1) lM (by exact aH Value.pointer O) O O O O (ar O (eE hS O O O ?_))));intro Lo lT iS;refine fj 3 iS O (iS.bo 0 O) O O O ?_;intro gY ib lU gP;have xV:=gP.rd 2 O;refine aS xV O (kB 2 gP O O O O O ?_);intro uC kF;have kF:St w uC (aw 2 b9 q en L::a7 A5 n gY (x.m+1) ib x.AD x.m x.cD::aw 2 gY (x.m+1) ib (x.Lr++ [(k:Int)])::aw 2 x.AF (x.F).length x.cF (x.F)::aw 2 lV (x.G.length+1) l9 (x.G++ [(x.m:Int)])::a7 A4 0 none 0 0 none 0 0::Bx 27 3 A3 vq::Bx 27 3 A2 vp::bE 24 x.AD x.m x.cD x.cq::b6 2 x.cq x.BL):=kF.tail;clear iS gP hS lM xV;refine aE O ?_;refine ja [5,7] [yP (aD (A5) 2),yS (x.AD) (x.m) (x.cD),yS (b9) (q) (en),.pr (fun v w'=>∃db dd dt,v= .slice db q dd/\St w w' (aw 2 db q dd dt::aw 2 b9 q en L::a7 A5 n gY (x.m+1) ib x.AD x.m x.cD::aw 2 gY (x.m+1) ib (x.Lr++ [(k:Int)])::aw 2 x.AF (x.F).length x.cF (x.F)::aw 2 lV (x.G.length+1) l9 (x.G++ [(x.m:Int)])::a7 A4 0 none 0 0 none 0 0::Bx 27 3 A3 vq::Bx 27 3 A2 vp::bE 24 x.AD x.m x.cD x.cq::b6 2 x.cq x.BL)),.pr (fun v w'=>∃db dd dt lW,v= .slice lW 1 1/\St w w' (bE 24 lW 1 1 [⟨db,q,dd⟩]::aw 2 db q dd dt::aw 2 b9 q en L::a7 A5 n gY (x.m+1) ib x.AD x.m x.cD::aw 2 gY (x.m+1) ib (x.Lr++ [(k:Int)])::aw 2 x.AF (x.F).length x.cF (x.F)::aw 2 lV (x.G.length+1) l9 (x.G++ [(x.m:Int)])::a7 A4 0 none 0 0 none 0 0::Bx 27 3 A3 vq::Bx 27 3 A2 vp::bE 24 x.AD x.m x.cD x.cq::b6 2 x.cq x.BL)),.pr (fun v w'=>∃db dd dt fv fw,v= .slice fv (x.m+1) fw/\St w w' (aw 2 db q dd dt::aw 2 b9 q en L::a7 A5 n gY (x.m+1) ib x.AD x.m x.cD::aw 2 gY (x.m+1) ib (x.Lr++ [(k:Int)])::aw 2 x.AF (x.F).length x.cF (x.F)::aw 2 lV (x.G.length+1) l9 (x.G++ [(x.m:Int)])::a7 A4 0 none 0 0 none 0 0::Bx 27 3 A3 vq::Bx 27 3 A2 vp::bE 24 fv (x.m+1) fw (x.cq++ [⟨db,q,dd⟩])::b6 2 x.cq x.BL)),yP (aD (A5) 2),.pr (fun _ w'=>∃db dd dt fv fw,St w w' (aw 2 db q dd dt::aw 2 b9 q en L::a7 A5 n gY (x.m+1) ib fv (x.m+1) fw::aw 2 gY (x.m+1) ib (x.Lr++ [(k:Int)])::aw 2 x.AF (x.F).length x.cF (x.F)::aw 2 lV (x.G.length+1) l9 (x.G++ [(x.m:Int)])::a7 A4 0 none 0 0 none 0 0::Bx 27 3 A3 vq::Bx 27 3 A2 vp::bE 24 fv (x.m+1) fw (x.cq++ [⟨db,q,dd⟩])::b6 2 x.cq x.BL))] (by kernel_rfl) (by kernel_rfl) (ly (ly (ly (cM.2 ⟨Ye.cN (fun v w w' h hb=>by obtain⟨db,dd,dt,hv,h1⟩:=h;exact⟨db,dd,dt,hv,h1.aq hb⟩),(cM.2 ⟨Ye.cN (fun v w w' h hb=>by obtain⟨db,dd,dt,lW,hv,h1⟩:=h;exact⟨db,dd,dt,lW,hv,h1.aq hb⟩),(cM.2 ⟨Ye.cN (fun v w w' h hb=>by obtain⟨db,dd,dt,fv,fw,hv,h1⟩:=h;exact⟨db,dd,dt,fv,fw,hv,h1.aq hb⟩),(ly (cM.2 ⟨Ye.cN (fun v w w' h hb=>by obtain⟨db,dd,dt,fv,fw,h1⟩:=h;exact⟨db,dd,dt,fv,fw,h1.aq hb⟩),(fun _ h=>by cases h)⟩))⟩)⟩)⟩)))) ?_ ?_
    ·refine⟨cP fun _ _ hb _ _ _=>aS ((kF.rd 1 O).below hb) O (bB O O),cP fun _ _ hb _ _ _=>aZ ((kF.rd 1 O).below hb) O (bB O O),bT O,?_,?_,?_,?_,?_,av⟩
     ·refine cP fun e1 w1 hb hp aX hq=>?_
      refine aI (J2 b9 q en L _ ((kF.aq hb).bo 0 O) (by omega)) O ?_;rintro _ yH ⟨db,dd,dt,rfl,_,x5⟩;exact ao.n (eX.dn O x5.below ⟨db,dd,dt,O,(kF.aq hb).call x5⟩)
     ·refine cP fun e1 w1 hb hp aX hq=>?_
      obtain⟨db,dd,dt,hv,h1⟩:=(hp 3 _ _ (by kernel_rfl) rfl rfl (by kernel_rfl));refine l6 (St.refl _) (by exact hv) O O ?_;intro lW Lf x6;exact ao.n (eX.dn O x6.below ⟨db,dd,dt,lW,O,h1.call x6⟩)
     ·refine jc fun e1 w1 hb hp aX hq=>?_
      obtain⟨db,dd,dt,lW,hv,h1⟩:=(hp 4 _ _ (by kernel_rfl) rfl rfl (by kernel_rfl));refine l5 10 h1 O (h1.fz 0 O) O (by exact hv) O (by omega) (by omega) O ?_;intro fv fw Vj DP;exact ao.n (fg.dn O ⟨db,dd,dt,fv,fw,O,DP.tail⟩)
     ·refine dP 1 fun e1 w1 hp aX hq=>?_
      have eT:=hp 5 _ _ (by kernel_rfl) O O (by kernel_rfl);obtain⟨db,dd,dt,fv,fw,qW,hT⟩:=eT;refine aS ((hT.rd 2 O)) O (ao.n (eO O (by exact O)))
     refine pY 1 fun e1 w1 hp aX hq=>?_
     have eT:=hp 5 _ _ (by kernel_rfl) O O (by kernel_rfl);obtain⟨db,dd,dt,fv,fw,qW,hT⟩:=eT;refine kB 2 hT O O (by exact qW) O O ?_;intro Vk DQ;exact ao.n (fg.st O ⟨db,dd,dt,fv,fw,DQ⟩)
    intro u oS _ hu _ _;obtain⟨db,dd,dt,fv,fw,hT⟩:=hu 7 _ rfl (by kernel_rfl);refine gZ O (aK O (aR O (tQ ?_)));refine⟨(e+1,⟨x.m+1,gY,ib,x.Lr++ [(k:Int)],fv,fw,x.cq++ [⟨db,q,dd⟩],x.BL++ [dt],x.AF,x.cF,x.F,lV,l9,x.G++ [(x.m:Int)]⟩),by show N' - (e+1)<N' - e;omega,⟨O,O,O,O,O,by show Value.slice _ _ _= .slice _ _ _;rw [eY];rfl,O,aH (Value.int .i64) (by omega),av⟩,by show e+1<=N';omega,⟨by simp [b8.r],by simp [b8.b],by simp [b8.l],by show x.F.length<=x.m+1;omega,by show(x.G++ [_]).length<=x.m+1;simp;omega⟩,hF,fun j hj h=>by
     show j< (x.G++ [_]).length;rw [eY,List.length_singleton]
     by_cases ej:j=e
     ·omega
     have:=hG j hj (by exact h.imp_right fun h=> ⟨h.1,by have h2:j<e+1:=h.2;omega⟩);omega,by show x.m+1<=1000*k+N+ (e+1);omega,?_⟩
    show St w oS (a7 A5 n gY (x.m+1) ib fv (x.m+1) fw::aw 2 gY (x.m+1) ib (x.Lr++ [(k:Int)])::aw 2 x.AF (x.F).length x.cF (x.F)::aw 2 lV (x.G++ [(x.m:Int)]).length l9 (x.G++ [(x.m:Int)])::a7 A4 0 none 0 0 none 0 0::Bx 27 3 A3 vq::Bx 27 3 A2 vp::bE 24 fv (x.m+1) fw (x.cq++ [⟨db,q,dd⟩])::b6 2 (x.cq++ [⟨db,q,dd⟩]) (x.BL++ [dt]));rw [rQ (by omega),show(x.G++ [(x.m:Int)]).length=x.G.length+1 by simp];refine St.perm ?_ (Kw _ (aw 2 b9 q en L) _ _ _ _ _ _ _ _ _).symm;exact hT.sub ((List.sublist_cons_self _ _).cons_cons _)
   refine aG O (aK O (aR O (tQ ?_)));exact⟨(e+1,x),by show N' - (e+1)<N' - e;omega,⟨O,O,O,O,O,O,O,aH (Value.int .i64) (by omega),av⟩,by show e+1<=N';omega,b8,hF,fun j hj h=>hG j hj (h.imp_right fun h5=> ⟨h5.1,by have h2:j<e+1:=h5.2;have:j≠e:=(fun ej=>h3 (by rw [<-ej];exact h5.1));omega⟩),by show x.m<=1000*k+N+ (e+1);omega,hS⟩
  have o9:e=N':=by omega
  refine bk O (bm (ct O (aK O (aR O (tQ ?_)))));exact⟨(k+1,x),by show n.toNat - (k+1)<n.toNat - k;omega,⟨O,O,O,O,O,O,aH (Value.int .i64) (by omega),av⟩,by show k+1<=n.toNat;omega,b8,hF,fun j hj h=>hG j hj (by have h:gi R' j< ((k+1:Nat):Int):=h;omega),by show x.m<=1000* (k+1);omega,hS⟩
 refine bk O (bm (ct O ?_));refine bK 2 (hS.rd 0 O) O O O (dG 3 4 hS O O O O O O O ?_);intro w9 bg;refine bI O (jC O (bg.rd 4 O) ?_);refine⟨x.AR,x.m,x.cR,x.Lr,x.AD,x.cD,x.cq,x.BL,O,by omega,b8.r,b8.b,?_⟩;exact bg.tail.sub (((((((gB _).cons _).cons _).cons _).cons _).cons _).cons_cons _)
theorem FC{i:Nat}{k:Ck}(h:ks[i]?=some k):ks.set i k=ks:=by
 apply List.ext_getElem?;intro j;rw [l0]
 split
 ·rename_i e;subst e;have hl:=(fY.1 h).1;rw [aF hl,h]
 rfl
theorem kP{i:Nat}{k:Ck}(h:ks[i]?=some k):(ks.set i k')[i]?=some k':=by
 have hl:=(fY.1 h).1;rw [l0,aF rfl,aF hl]
def fu(w0:aa)(As:aj)(k:Ck):Prop:=∃(Ac:aj) (nc cc:Nat) (a h:Int) (bs:ai),k=Bx 104 3 As [.slice Ac nc cc,ak a,.int .u64 h]/\(0<=a/\a<=nc)/\nc<=1000000/\nj w0 Ac nc bs
theorem s9{w0 w:aa}(i:Nat){As:aj}{k:Ck}(n:Int)(hS:St w0 w ks)(hk:ks[i]?=some k)(hK:fu w0 As k):
 aJ prog 94 [.pointer As,ak n] w (fun v w'=>∃(r:Int) (k':Ck),v=ak r/\(0<=r/\(1<=n->r<n)/\(n<1->r=0))/\fu w0 As k'/\St w0 w' (ks.set i k')):=by
 have wV:=hK;obtain⟨Ac,nc,cc,a,h,bs,rfl,ha,oC,hY⟩:=hK;refine br func94 O ntmps94 O (cw O) (bX O ?_);refine aN _ O (fun h1=>?_) (fun h1=>?_)
 ·refine du O (kN O ?_);exact⟨0,_,O,⟨Int.le_refl _,fun h=>by omega,fun _=>O⟩,wV,by rw [FC hk];exact hS⟩
 refine aG O (kb (hS.rd i hk) (Nat.succ_pos 2) O O (aS (hS.rd i hk) O (fJ (k:= .u64) (hS.rd i hk) O O O O O ?_)));refine Ge O O O fun r1 pk=>?_
 refine yW O O O fun r2 qq=>?_
 refine kb (hS.rd i hk) (Nat.succ_pos 2) O O (aS (hS.rd i hk) O (kB i hS hk O O O O ?_));intro w1 ay;have fR:=kP (k':=(⟨As,3,3,104,[.slice Ac nc cc,ak a,.int .u64 r2]⟩:Ck)) hk;have ay:St w0 w1 (ks.set i (Bx 104 3 As [.slice Ac nc cc,ak a,.int .u64 r2])):=ay;refine ar O (kb (ay.rd i fR) (Nat.succ_pos 2) O O (aS (ay.rd i fR) O (fJ (k:= .u64) (ay.rd i fR) O O O O O ?_)));refine L9 O O O fun r3=>?_
 refine LM O O O fun r4 hr4=>?_
 refine nZ O O (IntWalk.i64_in _ (by omega)) (aE O ?_);refine dL [xP (As),xP (As),xP (aD (As) 1),xI (a),xP (As),xP (As),xP (aD (As) 0),xS (Ac) (nc) (cc),xI (((nc:Nat):Int)),xB (decide ((a)< (((nc:Nat):Int))))] O (dV O) ?_ ?_
 ·exact⟨Dr O,fun _ _ hb _ _=>kb ((ay.rd i fR).below hb) (Nat.succ_pos _) O O Az,fun _ _ hb _ _=>aS ((ay.rd i fR).below hb) O Az,fun _ _ hb _ _=>fJ ((ay.rd i fR).below hb) O O O O O Az,Dr O,fun _ _ hb _ _=>kb ((ay.rd i fR).below hb) (Nat.succ_pos _) O O Az,fun _ _ hb _ _=>aS ((ay.rd i fR).below hb) O Az,fun _ _ hb _ _=>aZ ((ay.rd i fR).below hb) O Az,fun _ _ _ _ _=>ba O O Az,Dr O,av⟩
 intro u w2 iI _;have aM:=ay.aq iI;have Io:nj w2 Ac nc bs:=hY.below aM.below;refine fq O (aN _ O (fun h2=>?_) (fun h2=>?_))
 ·have OG:=hY.at_ ha.1 h2;refine df O (dL [xI (r4),xP (As),xP (As),xP (aD (As) 0),xS (Ac) (nc) (cc),xP (As),xP (As),xP (aD (As) 1),xI (a),xP (aD Ac a.toNat),.ex (.int .u8 (bs.getD a.toNat 0)),xI (bs.getD a.toNat 0),xI ((r4)+ (bs.getD a.toNat 0)),xI ((r4)+ (bs.getD a.toNat 0))] O (dV O) ?_ ?_)
  ·refine⟨fun _ _ _ _ aX=>lE O (by exact aX 13 _ O (by kernel_rfl)) O Az,Dr O,fun _ _ hb _ _=>kb ((aM.rd i fR).below hb) (Nat.succ_pos _) O O Az,fun _ _ hb _ _=>aS ((aM.rd i fR).below hb) O Az,fun _ _ hb _ _=>aZ ((aM.rd i fR).below hb) O Az,Dr O,fun _ _ hb _ _=>kb ((aM.rd i fR).below hb) (Nat.succ_pos _) O O Az,fun _ _ hb _ _=>aS ((aM.rd i fR).below hb) O Az,fun _ _ hb _ _=>fJ ((aM.rd i fR).below hb) O O O O O Az,?_,?_,?_,fun _ _ _ _ _=>aK O Az,Dr O,av⟩
   ·intro e1 w1 hb hp aX;refine aB (Io.below hb).2.2 O Az
   ·intro e1 w1 hb hp aX;refine Gc (Io.below hb) O (by omega) O O Az
   intro e1 w1 hb hp aX;refine nZ O O (IntWalk.i64_in _ (by omega)) Az
  intro u3 w3 jQ _;have aU:=aM.aq jQ;refine gZ O (kb (aU.rd i fR) (Nat.succ_pos 2) O O (aS (aU.rd i fR) O (fJ (aU.rd i fR) O O O O O (aK O (kb (aU.rd i fR) (Nat.succ_pos 2) O O (aS (aU.rd i fR) O (kB i aU fR O O O O ?_)))))));intro w4 bd;rw [jx]at bd;refine ar O (ao.rem O O O (by omega) (bI O (kN O ?_)));exact⟨(r4+bs.getD a.toNat 0)%n,_,O,⟨Int.emod_nonneg _ (by omega),fun h=>Int.emod_lt_of_pos _ (by omega),fun h=>by omega⟩,⟨Ac,nc,cc,a+1,r2,bs,O,by omega,oC,hY⟩,bd⟩
 refine aG O (ao.rem O O O (by omega) (bI O (kN O ?_)));exact⟨r4%n,_,O,⟨Int.emod_nonneg _ (by omega),fun h=>Int.emod_lt_of_pos _ (by omega),fun h=>by omega⟩,⟨Ac,nc,cc,a,r2,bs,O,ha,oC,hY⟩,aM⟩
theorem Sc{w0 w:aa}(i:Nat){As:aj}{k:Ck}(A:aj)(n c:Nat)(xs:ai)(hS:St w0 w ks)(hk:ks[i]?=some k)(hK:fu w0 As k)(hR:∀k' w',St w0 w' (ks.set i k')->bu w' A n xs)(hn:0<n/\n<=1000000):
 aJ prog 105 [.pointer As,.slice A n c] w (fun v w'=>∃(x:Int) (k':Ck),v=ak x/\x∈xs/\fu w0 As k'/\St w0 w' (ks.set i k')):=by
 refine br func105 O ntmps105 O (cw O) ?_;refine a8 O (ba O O ?_);refine aI (s9 i n hS hk hK) O ?_;rintro _ w1 ⟨r,k',rfl,⟨h0,h1,_⟩,ot,hT⟩;have jA:=hR k' w1 hT;have hl:=jA.1;have h1:=h1 (by omega);refine aB jA.2 O (aW jA O (bI O (kN O ?_)));refine⟨gi xs r,k',O,?_,ot,hT⟩;obtain⟨q,rfl⟩:∃q:Nat,r=q:=⟨r.toNat,by omega⟩;rw [bF (by omega)];exact dU _
def Gv(l:List Oper):Bool:=l.zipIdx.all fun p=> (dS p.1).all fun ed=>Nat.blt ed.on p.2
theorem b5{o:Oper}{S:Nat->Bool}(h:∀ed∈dS o,S ed.on=true)(k:Nat)(hk:(dS o).any (fun ed=>Nat.beq ed.on k)=true):S k=true:=by
 obtain⟨ed,eo,hb⟩:=List.any_eq_true.1 hk;rw [<-kz hb];exact h ed eo
section
variable {P:Program} {N:Nat} {e:Env} {w:aa}
theorem tg{id:Nat}{l:List Oper}{Q:gu}(hm:P.follows .mixedOrders=true)(rf:Gv l=true)(I:(Nat->Bool)->Env->aa->Prop)(h0:∀w1,Below w.heap.size w w1->I (fun _=>false) e w1)
 (lO:∀(S:Nat->Bool) (i:Nat) (o:Oper) (e1:Env) (w1:aa),l[i]?=some o->S i=false->(∀ed∈dS o,S ed.on=true)->(∀(k:Nat) (o':Oper),S k=true->l[k]?=some o'->∀ed∈dS o',S ed.on=true)->I S e1 w1->ao P N l.toArray (fun e2 w2=>I (fun k=>Nat.beq k i || S k) e2 w2) [o] e1 w1)
 (rj:∀(S:Nat->Bool) (e1:Env) (w1:aa),(∀i,i<l.length->S i=true)->I S e1 w1->Q .normal e1 w1):Cd P N (.region id l.toArray true) Q e w:= .mk' fun a ha=>by
 have re:∀(i:Nat) (o:Oper),l[i]?=some o->∀ed∈dS o,ed.on<i:=by
  intro i o ho ed eo;simp only [Gv,List.all_eq_true]at rf;have:=rf (o,i) (by
   obtain⟨hi,Ed⟩:=fY.1 ho;rw [List.mem_iff_getElem?];exact⟨i,by simp [ho]⟩)
  simpa [Nat.blt_eq]using this ed eo
 refine wp_region_any hm ?_;have key:∀(fuel:Nat) (listed:Array Bool) (a1:Act) (e1:Env) (w1:aa),gC N a1 e1->listed.size=l.length->
  (∀(i:Nat) (o:Oper),listed.getD i false=true->l[i]?=some o->∀ed∈dS o,listed.getD ed.on false=true)->I (fun k=>listed.getD k false) e1 w1->(l.length - fuel<=(List.range l.length).countP fun i=>listed.getD i false)->
  wpAny P .any l.toArray (low N Q) fuel listed a1 w1:=by
  have lK:∀(listed:Array Bool) (a1:Act) (e1:Env) (w1:aa),gC N a1 e1->I (fun k=>listed.getD k false) e1 w1->(∀i,i<l.length->listed.getD i false=true)->low N Q .normal a1 w1:=
   fun listed a1 e1 w1 hr hI dv=> ⟨e1,hr,rj _ e1 w1 dv hI⟩
  have xY:∀(listed:Array Bool),listed.size=l.length->Region.ready .any l.toArray listed=[]->∀i,i<l.length->listed.getD i false=true:=by
   intro listed kK pg i
   induction i using Nat.strongRecOn with
   | _ i ih=>
    intro hi;cases sF:listed.getD i false with
    | true=>rfl
    | false=>
     exfalso;have:i∈Region.ready .any l.toArray listed:=by
      rw [mem_ready];refine⟨?_,l[i],by simp [hi],fun ed eo lj=>ih ed.on (re i _ (eS hi) ed (ml.2 ⟨eo,lj⟩)) (by have:=re i _ (eS hi) ed (ml.2 ⟨eo,lj⟩);omega)⟩;rw [fU,mr (by omega)]at sF|-;exact sF
     rw [pg]at this;cases this
  intro fuel
  induction fuel with
  | zero=>
   intro listed a1 e1 w1 hr kK cT hI ki;have dv:∀i,i<l.length->listed.getD i false=true:=by
    have h4:(List.range l.length).countP (fun i=>listed.getD i false)=(List.range l.length).length:=by
     have:=List.countP_le_length (p:=fun i=>listed.getD i false) (l:=List.range l.length);simp at this ki|-;omega
    rw [List.countP_eq_length]at h4;intro i hi;exact h4 i (by simpa using hi)
   refine⟨?_,lK listed a1 e1 w1 hr hI dv⟩;rw [List.eq_nil_iff_forall_not_mem];intro i hi;obtain⟨h5,o,ho,_⟩:=mem_ready.1 hi;have mJ:i<l.length:=by
    rcases Nat.lt_or_ge i l.length with h | h
    ·exact h
    ·simp [oX h]at ho
   have h6:=dv i mJ;rw [fU,mr (by omega)]at h5 h6;simp at h5 h6;rw [h5]at h6;cases h6
  | succ fuel ih=>
   intro listed a1 e1 w1 hr kK cT hI ki;refine⟨fun pg=>lK listed a1 e1 w1 hr hI (xY listed kK pg),fun i hi=>?_⟩;obtain⟨aX,o,ho,vd⟩:=mem_ready.1 hi;have iV:l[i]?=some o:=by simpa using ho
   have mJ:i<l.length:=(fY.1 iV).1;have fS:∀ed∈dS o,listed.getD ed.on false=true:=fun ed eo=>vd ed (ml.1 eo).1 (ml.1 eo).2
   have oJ:listed.getD i false=false:=by
    have h5:=aX;rw [fU,mr (by omega)]at h5|-;exact h5
   have lL:∀k,(listed.setIfInBounds i true).getD k false=if k=i then true else listed.getD k false:=by
    intro k;rw [fU,qH]
    by_cases dz:k=i
    ·subst dz;rw [aF rfl,aF (by omega),aF rfl];rfl
    ·rw [aC (fun e=>dz e.symm),aC dz,<-fU]
   have hS:(fun k=> (listed.setIfInBounds i true).getD k false)=fun k=>Nat.beq k i || listed.getD k false:=by
    funext k;rw [lL]
    by_cases dz:k=i
    ·subst dz;rw [aF rfl,Nat.beq_refl];rfl
    ·rw [aC dz];have:Nat.beq k i=false:=by
      cases hb:Nat.beq k i with
      | false=>rfl
      | true=>exact absurd (kz hb) dz
     rw [this];rfl
   have ax:=lO (fun k=>listed.getD k false) i o e1 w1 iV oJ fS (fun k o' hk b8=>cT k o' hk b8) hI;have lp:=ax.run a1 hr;have oD:∀a2 w2,(∃e2,gC N a2 e2/\I (fun k=>Nat.beq k i || listed.getD k false) e2 w2)->wpAny P .any l.toArray (low N Q) fuel (listed.setIfInBounds i true) a2 w2:=by
    intro a2 w2 ⟨e2,qq,qe⟩;refine ih _ a2 e2 w2 qq (by simpa using kK) (fun k o' hk b8 ed eo=>?_) (by rw [hS];exact qe) ?_
    ·rw [lL]
     by_cases sD:ed.on=i
     ·rw [aF sD]
     ·rw [aC sD]
      by_cases dz:k=i
      ·subst dz;rw [iV]at b8;cases b8;exact fS ed eo
      ·rw [lL,aC dz]at hk;exact cT k o' hk b8 ed eo
    ·have xo:(List.range l.length).countP (fun k=> (listed.setIfInBounds i true).getD k false)=(List.range l.length).countP (fun k=>listed.getD k false)+1:=
      uW (fun k=>listed.getD k false) (fun k=> (listed.setIfInBounds i true).getD k false) i oJ lL _ List.nodup_range (by simpa using mJ)
     rw [xo];omega
   unfold wpOp;rw [ho];unfold wpList at lp;show if _ then _ else _
   by_cases hw:Region.wanted o (yielded l.toArray a1.tmps)=true
   ·rw [aF hw]at lp|-;rcases lp with h5 | ⟨_,a0,w0,h5⟩
    ·refine .inl (Ca h5 (fun a2 w2 hx=>?_) (fun x a w hx hq=>hx hq.1));exact oD a2 w2 hx.2
    ·exact absurd h5.1 (by simp)
   ·rw [aC hw]at lp|-;exact oD _ _ lp.2
 refine key l.length (Array.replicate l.length false) a e _ ha (by simp) (fun i o hi=>?_) (by
  have:(fun k=> (Array.replicate l.length false).getD k false)=fun _=>false:=by
   funext k;rw [fU,Array.getElem?_replicate]
   split<;>rfl
  rw [this];exact h0 _ ⟨⟨rfl,rfl,rfl,dh _,fun _ _=>rfl⟩,fun _=>Nat.le_add_right _ _⟩) (by omega)
 exfalso;rw [fU,Array.getElem?_replicate]at hi
 split at hi<;>simp at hi
end
def Rg(n:Nat)(xs:ai):Prop:=xs.length=n/\∀x∈xs,0<=x/\x< (n:Int)
theorem Rg.gi{n:Nat}{xs:ai}(h:Rg n xs){i:Int}(h0:0<=i)(h1:i<n):0<=Vc.gi xs i/\Vc.gi xs i<n:=by
 obtain⟨q,rfl⟩:∃q:Nat,i=q:=⟨i.toNat,by omega⟩;rw [bF (by rw [h.1];omega)];exact h.2 _ (dU _)
theorem Rg.set{n:Nat}{xs:ai}(h:Rg n xs){j:Nat}{v:Int}(h0:0<=v)(h1:v<n):Rg n (xs.set j v):=by
 refine⟨by rw [ij];exact h.1,fun x hx=>?_⟩;rcases List.mem_or_eq_of_mem_set hx with hx | rfl
 ·exact h.2 x hx
 exact⟨h0,h1⟩
theorem Sd(n:Nat)(w:aa)(hn:n<=1000000):
 aJ prog 211 [ak n] w (fun v w'=>∃A c xs,v= .slice A n c/\Rg n xs/\St w w' [aw 2 A n c xs]):=by
 refine br func211 O ntmps211 O (cw O) (a8 O (iB (St.refl w) O ?_));intro A1 w1 ay;refine aE O (Cd.loop (α:=Nat×aj×Nat×ai) (fun s=> [(0,ak n),(3,.slice s.2.1 s.1 s.2.2.1),(4,ak (s.1:Int))]) (fun s w'=>St w w' [aw 2 s.2.1 s.1 s.2.2.1 s.2.2.2]/\s.1<=n/\s.2.2.2.length=s.1/\∀x∈s.2.2.2,0<=x/\x< (s.1:Int)) (fun s=>n - s.1) (0,A1,0,[]) (WM O) ⟨ay,bn _,O,fun x hx=> (nomatch hx)⟩ ?_);rintro⟨i,A2,c2,xs⟩ e w2 ⟨aM,hi,hl,hx⟩;dsimp only at aM hi hl hx|-;refine bX O (aN _ O (fun h1=>?_) (fun h1=>?_))
 ·refine aG O (eE aM O O O ?_);intro A3 w3 aU;refine fj 1 aU O (aU.bo 0 O) O O O fun A4 c4 w4 bd=>ar O (aK O (aR O (tQ ?_)));refine⟨(i+1,A4,c4,xs++ [(i:Int)]),by show n - (i+1)<n - i;omega,(WM O),bd.tail,by show i+1<=n;omega,by simp [hl],fun x gF=>?_⟩;rcases gL.1 gF with h | h
  ·have:=hx x h;show 0<=x/\x< ((i+1:Nat):Int);omega
  rw [eP]at h;subst h;show 0<=(i:Int)/\(i:Int)< ((i+1:Nat):Int);omega
 have de:i=n:=by omega
 subst de;refine bk O (bm (fA O ?_));exact eW O ⟨A2,c2,xs,O,⟨hl,hx⟩,aM⟩
theorem JZ{w0 w:aa}{ks:List Ck}(ix:Nat){As:aj}{k:Ck}(n:Nat)(hS:St w0 w ks)(hk:ks[ix]?=some k)(hK:fu w0 As k)(hn:n<=1000000):
 aJ prog 178 [.pointer As,ak n] w (fun v w'=>∃A c xs k',v= .slice A n c/\Rg n xs/\fu w0 As k'/\St w0 w' (aw 2 A n c xs::ks.set ix k')):=by
 refine br func178 O ntmps178 O (cw O) (a8 O (aI (Sd n _ hn) O ?_));rintro _ w1 ⟨A,c,xs,rfl,hx,ax⟩;have ay:St w0 w1 (aw 2 A n c xs::ks):=hS.call ax;refine ar O (dA O (aE O ?_));refine Cd.loop (α:=Int×ai×Ck) (fun s=> [(0,.pointer As),(5,.slice A n c),(6,ak s.1)]) (fun s w'=>St w0 w' (aw 2 A n c s.2.1::ks.set ix s.2.2)/\Rg n s.2.1/\fu w0 As s.2.2/\ -1<=s.1/\s.1<n) (fun s=>s.1.toNat) ((n:Int) - 1,xs,k) ⟨O,O,O,trivial⟩ ⟨by dsimp only;rw [FC hk];exact ay,hx,hK,by show -1<=(n:Int) - 1;omega,by show(n:Int) - 1<n;omega⟩ ?_;rintro⟨i,xs,k1⟩ e w2 ⟨aM,hx,mC,mI,mg⟩;dsimp only at aM hx mC mI mg|-;have fR:(aw 2 A n c xs::ks.set ix k1)[ix+1]?=some k1:=kP (k':=k1) hk;refine bX O (aN _ O (fun h1=>?_) (fun h1=>?_))
 ·refine aG O (aK O ?_);refine aI (s9 (ix+1) (i+1) aM fR mC) O ?_;rintro _ w3 ⟨r,k2,rfl,⟨oF,pk,_⟩,ir,aU⟩;have pk:=pk (by omega);have aU:St w0 w3 (aw 2 A n c xs::(ks.set ix k1).set ix k2):=aU;rw [jx]at aU;have jP:=aU.bo 0 O;have vt:=hx.gi (i:=i) (by omega) mg;have xw:=hx.gi (i:=r) oF (by omega);refine ar O (aB jP.2 O (aW jP O (ar O (aB jP.2 O (aW jP O (aB jP.2 O (il 0 aU O O O (by omega) ?_)))))));intro w4 bd;have bd:St w0 w4 (aw 2 A n c (xs.set i.toNat (gi xs r))::ks.set ix k2):=bd;have zQ:=bd.bo 0 O;refine ar O (aB zQ.2 O (il 0 bd O O O (by omega) ?_));intro w5 bh;refine ar O (dA O (aR O (tQ ?_)));exact⟨(i - 1,(xs.set i.toNat (gi xs r)).set r.toNat (gi xs i),k2),by show(i - 1).toNat<i.toNat;omega,(WM O),bh,(hx.set xw.1 xw.2).set vt.1 vt.2,ir,by show -1<=i - 1;omega,by show i - 1<n;omega⟩
 refine bk O (bm (fA O ?_));exact eW O ⟨A,c,xs,k1,O,hx,mC,aM⟩
structure LJ(w0:aa)(ks:List Ck)(ix:Nat)(As:aj)(k:Ck)(n:Nat)(S:Nat->Bool)(e:Env)(w:aa):Prop where
 f0:e 0= .pointer As
 f1:e 1=ak n
 p0:S 0=true->e 8= .pointer As
 p1:S 1=true->e 9=ak n
 p3:S 3=true->e 11=ak n
 mem:∃(A:aj) (c:Nat) (xs:ai) (A2:aj) (k':Ck) (o3 kc:List Ck),(S 2=false->o3=[]/\k'=k)/\(S 2=true->e 10= .slice A n c/\Rg n xs/\o3=[aw 2 A n c xs])/\fu w0 As k'/\(S 4=false->kc=[])/\(S 4=true->e 12= .slice A2 n n/\kc=[aw 2 A2 n n (List.replicate n 0)])/\(S 5=true->e 5= .slice A n c)/\(S 6=true->e 6= .slice A2 n n)/\St w0 w (kc++ (o3++ks.set ix k'))
theorem Sa{w0 w:aa}{ks:List Ck}(ix:Nat){As:aj}{k:Ck}(n:Nat)(hS:St w0 w ks)(hk:ks[ix]?=some k)(hK:fu w0 As k)(hn:n<=1000000):
 aJ prog 218 [.pointer As,ak n] w (fun v w'=>∃A c xs k',v= .slice A n c/\Rg n xs/\fu w0 As k'/\St w0 w' (aw 2 A n c xs::ks.set ix k')):=by
 refine br func218 O ntmps218 O (cw O) (bX O ?_);refine tg (by kernel_rfl) (by kernel_rfl) (fun S e1 w1=>LJ w0 ks ix As k n S e1 w1) (fun w4 hb=> ⟨O,O,fun h=> (nomatch h),fun h=> (nomatch h),fun h=> (nomatch h),none,0,[],none,k,[],[],fun _=> ⟨O,O⟩,fun h=> (nomatch h),hK,fun _=>O,fun h=> (nomatch h),fun h=> (nomatch h),fun h=> (nomatch h),by rw [FC hk];exact hS.aq hb⟩) ?_ ?_
 ·intro S q o e1 w4 hq bz hd cT hI;obtain⟨f0,f1,p0,p1,p3,A,c,xs,A2,k',o3,kc,m0,m1,ot,m2,m3,m4,m5,hT⟩:=hI
  match q,hq,bz with
  | 0,hq,bz=>
   obtain rfl:=bV hq;refine uI O (by exact f0) O (ao.n ?_);exact⟨f0,f1,fun _=>O,p1,p3,A,c,xs,A2,k',o3,kc,m0,m1,ot,m2,m3,m4,m5,hT⟩
  | 1,hq,bz=>
   obtain rfl:=bV hq;refine lE O (by exact f1) O (ao.n ?_);exact⟨f0,f1,p0,fun _=>O,p3,A,c,xs,A2,k',o3,kc,m0,m1,ot,m2,m3,m4,m5,hT⟩
  | 2,hq,bz=>
   obtain rfl:=bV hq;obtain⟨rfl,rfl⟩:=m0 bz;have n5:S 5=false:=by
    cases h:S 5 with
    | false=>rfl
    | true=>rw [<-bz];exact(b5 (cT 5 _ h rfl) 2 rfl).symm
   have n6:S 6=false:=by
    cases h:S 6 with
    | false=>rfl
    | true=>rw [<-n5];exact(b5 (cT 6 _ h rfl) 5 rfl).symm
   rw [List.nil_append]at hT;have cV:(kc++ks.set ix k')[kc.length+ix]?=some k':=by
    rw [lZ (by omega),show kc.length+ix - kc.length=ix by omega];exact kP hk
   refine WD (JZ (kc.length+ix) n hT cV hK hn) O (by show [e1 8,e1 9]=_;rw [p0 (b5 hd 0 O),p1 (b5 hd 1 O)]) O ?_;rintro _ w5 ⟨A',c',dt,k2,rfl,gF,ir,ic⟩;refine ao.n ?_;refine⟨f0,f1,p0,p1,p3,A',c',dt,A2,k2,[aw 2 A' n c' dt],kc,fun h=> (nomatch (show true=false from h)),fun _=> ⟨O,gF,O⟩,ir,m2,m3,fun h=> (nomatch n5.symm.trans h),fun h=> (nomatch n6.symm.trans h),?_⟩;rw [List.set_append_right _ _ (by omega),show kc.length+ix - kc.length=ix by omega,jx]at ic;exact ic.perm (iA (l₁:=kc)).symm
  | 3,hq,bz=>
   obtain rfl:=bV hq;refine lE O (by exact f1) O (ao.n ?_);exact⟨f0,f1,p0,p1,fun _=>O,A,c,xs,A2,k',o3,kc,m0,m1,ot,m2,m3,m4,m5,hT⟩
  | 4,hq,bz=>
   obtain rfl:=bV hq;obtain rfl:=m2 bz;have n6:S 6=false:=by
    cases h:S 6 with
    | false=>rfl
    | true=>rw [<-bz];exact(b5 (cT 6 _ h rfl) 4 rfl).symm
   refine rZ n hT (by exact p3 (b5 hd 3 O)) O (by omega) ?_;intro A' w5 gx;refine ao.n ?_;exact⟨f0,f1,p0,p1,p3,A,c,xs,A',k',o3,[aw 2 A' n n (List.replicate n 0)],m0,m1,ot,fun h=> (nomatch (show true=false from h)),fun _=> ⟨O,O⟩,m4,fun h=> (nomatch n6.symm.trans h),gx⟩
  | 5,hq,bz=>
   obtain rfl:=bV hq;refine kA O (by exact(m1 (b5 hd 2 O)).1) O (ao.n ?_);exact⟨f0,f1,p0,p1,p3,A,c,xs,A2,k',o3,kc,m0,m1,ot,m2,m3,fun _=>O,m5,hT⟩
  | 6,hq,bz=>
   obtain rfl:=bV hq;refine kA O (by exact(m3 (b5 hd 4 O)).1) O (ao.n ?_);exact⟨f0,f1,p0,p1,p3,A,c,xs,A2,k',o3,kc,m0,m1,ot,m2,m3,m4,fun _=>O,hT⟩
  | q+7,hq,_=>exact(nomatch hq)
 ·intro S e1 w4 dv hI;obtain⟨f0,f1,p0,p1,p3,A,c,xs,A2,k',o3,kc,m0,m1,ot,m2,m3,m4,m5,hT⟩:=hI;obtain⟨_,hx,rfl⟩:=m1 (dv 2 (by decide));obtain⟨_,rfl⟩:=m3 (dv 4 (by decide));refine Ci (F:=[(0,.pointer As),(1,ak n),(5,.slice A n c),(6,.slice A2 n n)]) ⟨f0,f1,m4 (dv 5 (by decide)),m5 (dv 6 (by decide)),av⟩ ?_;have hT:St w0 w4 (aw 2 A2 n n (List.replicate n 0)::aw 2 A n c xs::ks.set ix k'):=hT;refine fq O ?_;refine Cd.loop (α:=Nat×ai) (fun s=> [(1,ak n),(5,.slice A n c),(6,.slice A2 n n),(7,ak (s.1:Int))]) (fun s w'=>St w0 w' (aw 2 A2 n n s.2::aw 2 A n c xs::ks.set ix k')/\Rg n s.2/\s.1<=n+1) (fun s=>n+2 - s.1) (0,List.replicate n 0) ⟨rfl,rfl,rfl,rfl,av⟩ ⟨hT,⟨by simp,fun x hx=>by obtain⟨h0,rfl⟩:=List.mem_replicate.1 hx;omega⟩,bn _⟩ ?_;rintro⟨i,ps⟩ e w5 ⟨gx,kj,hi⟩;dsimp only at gx kj hi|-;refine a8 O (aK O (aE O ?_));refine aN _ O (fun h1=>?_) (fun h1=>?_)
  ·have Pj:=gx.bo 0 O;have tE:=gx.bo 1 O;have D9:=hx.gi (i:=(i:Int)) (by omega) (by omega);have IK:=hx.gi (i:=(i:Int)+1) (by omega) (by omega);refine df O ?_;refine ja [11] [yS (A2) (n) (n),yS (A) (n) (c),yI ((i:Int)),yP (aD (A) ((i:Int)).toNat),yI (gi (xs) ((i:Int))),yS (A) (n) (c),yI ((i:Int)),yI (((i:Int))+ ((1:Int))),yP (aD (A) (((i:Int))+ ((1:Int))).toNat),yI (gi (xs) (((i:Int))+ ((1:Int)))),yP (aD (A2) (gi (xs) ((i:Int))).toNat),.pr (fun _ w'=>St w0 w' (aw 2 A2 n n (ps.set (gi xs i).toNat (gi xs ((i:Int)+1)))::aw 2 A n c xs::ks.set ix k'))] (by kernel_rfl) (by kernel_rfl) (ly (ly (ly (ly (ly (ly (ly (ly (ly (ly (ly (cM.2 ⟨Ye.cN (fun v w w' h hb=>h.aq hb),(fun _ h=>by cases h)⟩)))))))))))) ?_ ?_
   ·refine⟨bT O,bT O,bT O,cP fun _ _ hb _ _ _=>aB (tE.aq hb).2 O (bB O O),cP fun _ _ hb _ _ _=>aW (tE.aq hb) O (bB O O),bT O,bT O,aP fun _ _=>aK O (bB O O),cP fun _ _ hb _ _ _=>aB (tE.aq hb).2 O (bB O O),cP fun _ _ hb _ _ _=>aW (tE.aq hb) O (bB O O),cP fun _ _ hb _ _ _=>aB (Pj.aq hb).2 O (bB O O),?_,av⟩
    ·refine jc fun e1 w1 hb hp aX hq=>?_
     exact il 0 (gx.aq hb) O O O (by omega) fun w9 ra=>ao.n (fg.st O ra)
   intro u w6 _ hu _ _;have iu:=hu 11 _ O (by kernel_rfl);have Pk:=iu.bo 0 O;have zO:=iu.bo 1 O;refine fq O ?_;refine ja [11] [yS (A2) (n) (n),yS (A) (n) (c),yI ((i:Int)),yI (((i:Int))+ ((1:Int))),yP (aD (A) (((i:Int))+ ((1:Int))).toNat),yI (gi (xs) (((i:Int))+ ((1:Int)))),yS (A) (n) (c),yI ((i:Int)),yP (aD (A) ((i:Int)).toNat),yI (gi (xs) ((i:Int))),yP (aD (A2) (gi (xs) (((i:Int))+ ((1:Int)))).toNat),.pr (fun _ w'=>St w0 w' (aw 2 A2 n n ((ps.set (gi xs i).toNat (gi xs ((i:Int)+1))).set (gi xs ((i:Int)+1)).toNat (gi xs i))::aw 2 A n c xs::ks.set ix k'))] (by kernel_rfl) (by kernel_rfl) (ly (ly (ly (ly (ly (ly (ly (ly (ly (ly (ly (cM.2 ⟨Ye.cN (fun v w w' h hb=>h.aq hb),(fun _ h=>by cases h)⟩)))))))))))) ?_ ?_
   ·refine⟨bT O,bT O,bT O,aP fun _ _=>aK O (bB O O),cP fun _ _ hb _ _ _=>aB (zO.aq hb).2 O (bB O O),cP fun _ _ hb _ _ _=>aW (zO.aq hb) O (bB O O),bT O,bT O,cP fun _ _ hb _ _ _=>aB (zO.aq hb).2 O (bB O O),cP fun _ _ hb _ _ _=>aW (zO.aq hb) O (bB O O),cP fun _ _ hb _ _ _=>aB (Pk.aq hb).2 O (bB O O),?_,av⟩
    ·refine jc fun e1 w1 hb hp aX hq=>?_
     exact il 0 (iu.aq hb) O O O (by omega) fun w9 ra=>ao.n (fg.st O ra)
   intro u2 w7 _ mN _ _;have fL:=mN 11 _ O (by kernel_rfl);refine gZ O (aK O (aR O (tQ ?_)));exact⟨(i+2,(ps.set (gi xs i).toNat (gi xs ((i:Int)+1))).set (gi xs ((i:Int)+1)).toNat (gi xs i)),by show n+2 - (i+2)<n+2 - i;omega,(WM O),fL,(kj.set IK.1 IK.2).set D9.1 D9.2,by show i+2<=n+1;omega⟩
  ·refine bk O (bm (fA O ?_));exact eW O ⟨A2,n,ps,k',O,kj,ot,gx.sub (List.Sublist.cons_cons _ (List.sublist_cons_self _ _))⟩
def GM(N:Nat)(xss:ah):Prop:=∀p∈xss,Rg N p
theorem GM.sys{N:Nat}{xss:ah}(h:GM N xss):Sys N xss:=fun p hp=> ⟨(h p hp).1,fun x h0 h1=> (h p hp).gi h0 h1⟩
def FT(n N:Nat)(w:aa)(v:ad)(w':aa):Prop:=∃A c rs xss,v= .agg #[.slice A n c]/\rs.length=n/\xss.length=n/\GM N xss/\St w w' (aQ 24 2 A n c rs xss)
structure Md(w0:aa)(base:List Ck)(n:Nat)(S:Nat->Bool)(e:Env)(w:aa):Prop where
 f2:∃A,e 2= .pointer A/\base=[Bx 37 1 A [.slice none 0 0]]
 f3:e 3=ak n
 p0:S 0=true->e 9=ak n
 p2:S 2=true->e 11=ak n
 mem:∃(A1 A2:aj) (b1 b2:List Ck),(S 1=false->b1=[])/\(S 1=true->e 10= .slice A1 n n/\b1=[aw 2 A1 n n (List.replicate n 0)])/\(S 3=false->b2=[])/\(S 3=true->e 12= .slice A2 n n/\b2=[aw 2 A2 n n (List.replicate n 0)])/\(S 4=true->e 4= .slice A1 n n)/\(S 5=true->e 5= .slice A2 n n)/\St w0 w (b1++ (b2++base))
def iY(v:Nat->Int)(n f:Nat):ai:=(List.range n).map fun g=>if g<f then v g else 0
theorem BO(v:Nat->Int)(n:Nat):iY v n 0=List.replicate n 0:=by
 apply ia (by simp [iY]);intro i h1 h2;simp [iY]
theorem BP{v:Nat->Int}{n f:Nat}:(iY v n f).set f (v f)=iY v n (f+1):=by
 apply ia (by simp [iY]);intro i h1 h2;rw [List.getElem_set];simp only [iY,List.getElem_map,List.getElem_range]
 by_cases h:f=i
 ·subst h;rw [aF rfl,aF (Nat.lt_succ_self _)]
 rw [aC h]
 by_cases h2:i<f
 ·rw [aF h2,aF (by omega)]
 rw [aC h2,aC (by omega)]
theorem K0{v:Nat->Int}{n:Nat}(h:∀g,g<n->0<=v g/\v g<n):Rg n (iY v n n):=⟨by simp [iY],fun x hx=>by
 obtain⟨g,hg,rfl⟩:=fh.1 hx;have hg:=fP.1 hg;rw [aF hg];exact h g hg⟩
def pH(g:Nat):Int:=if(g:Int)%2=0 then(g:Int)+1 else(g:Int) - 1
def pI(n g:Nat):Int:=if(g:Int)%2=0 then((g:Int)+ (n:Int) - 1)% (n:Int)else((g:Int)+1)% (n:Int)
def Bw(p:Nat):ah:=[iY pH (2*p) (2*p),iY (pI (2*p)) (2*p) (2*p)]
theorem T4{p:Nat}(hp:1<=p):GM (2*p) (Bw p):=fun q hq=>by
 rcases kT.1 hq with rfl | hq
 ·refine K0 fun g hg=>?_
  unfold pH
  split<;>omega
 rw [eP]at hq;subst hq;refine K0 fun g hg=>?_
 unfold pI;have tX:=Int.emod_nonneg ((g:Int)+ ((2*p:Nat):Int) - 1) (b:=((2*p:Nat):Int)) (by omega);have xM:=Int.emod_lt_of_pos ((g:Int)+ ((2*p:Nat):Int) - 1) (b:=((2*p:Nat):Int)) (by omega);have I3:=Int.emod_nonneg ((g:Int)+1) (b:=((2*p:Nat):Int)) (by omega);have I4:=Int.emod_lt_of_pos ((g:Int)+1) (b:=((2*p:Nat):Int)) (by omega)
 split
 ·exact⟨tX,xM⟩
 exact⟨I3,I4⟩
theorem Sk(p:Nat)(w:aa)(hp:1<=p/\p<=100000):aJ prog 228 [ak p] w (fun v w'=>∃A c rs,v= .agg #[.slice A 2 c]/\rs.length=2/\St w w' (aQ 24 2 A 2 c rs (Bw p))):=by
 unfold Bw;refine br func228 O ntmps228 O (pD O O) (a8 O (jH (St.refl w) O ?_));intro A2 w1 ay;refine ar O (ao.mul O O O (by omega) (aE O ?_));have hn:(2:Int)* (p:Int)=((2*p:Nat):Int):=by omega
 rw [hn];generalize hN:2*p=n;have AA:2<=n:=by omega
 refine tg (by kernel_rfl) (by kernel_rfl) (fun S e1 w1=>Md w [Bx 37 1 A2 [.slice none 0 0]] n S e1 w1) (fun w4 hb=> ⟨⟨A2,O,O⟩,O,fun h=> (nomatch h),fun h=> (nomatch h),none,none,[],[],fun _=>O,fun h=> (nomatch h),fun _=>O,fun h=> (nomatch h),fun h=> (nomatch h),fun h=> (nomatch h),ay.aq hb⟩) ?_ ?_
 ·intro S q o e1 w4 hq bz hd cT hI;obtain⟨f2,f3,p0,p2,A,B,b1,b2,m1,sT,m3,sU,m4,m5,hT⟩:=hI
  match q,hq,bz with
  | 0,hq,bz=>
   obtain rfl:=bV hq;refine lE O (by exact f3) O (ao.n ?_);exact⟨f2,f3,fun _=>O,p2,A,B,b1,b2,m1,sT,m3,sU,m4,m5,hT⟩
  | 1,hq,bz=>
   obtain rfl:=bV hq;obtain rfl:=m1 bz;have n4:S 4=false:=by
    cases h:S 4 with
    | false=>rfl
    | true=>rw [<-bz];exact(b5 (cT 4 _ h rfl) 1 rfl).symm
   refine rZ n hT (by exact p0 (b5 hd 0 O)) O (by omega) ?_;intro A' w5 gx;refine ao.n ?_;exact⟨f2,f3,p0,p2,A',B,[aw 2 A' n n (List.replicate n 0)],b2,fun h=> (nomatch (show true=false from h)),fun _=> ⟨O,O⟩,m3,sU,fun h=> (nomatch n4.symm.trans h),m5,gx⟩
  | 2,hq,bz=>
   obtain rfl:=bV hq;refine lE O (by exact f3) O (ao.n ?_);exact⟨f2,f3,p0,fun _=>O,A,B,b1,b2,m1,sT,m3,sU,m4,m5,hT⟩
  | 3,hq,bz=>
   obtain rfl:=bV hq;obtain rfl:=m3 bz;have n5:S 5=false:=by
    cases h:S 5 with
    | false=>rfl
    | true=>rw [<-bz];exact(b5 (cT 5 _ h rfl) 3 rfl).symm
   refine rZ n hT (by exact p2 (b5 hd 2 O)) O (by omega) ?_;intro A' w5 gx;refine ao.n ?_;exact⟨f2,f3,p0,p2,A,A',b1,[aw 2 A' n n (List.replicate n 0)],m1,sT,fun h=> (nomatch (show true=false from h)),fun _=> ⟨O,O⟩,m4,fun h=> (nomatch n5.symm.trans h),gx.perm (iA (l₁:=b1)).symm⟩
  | 4,hq,bz=>
   obtain rfl:=bV hq;refine kA O (by exact(sT (b5 hd 1 O)).1) O (ao.n ?_);exact⟨f2,f3,p0,p2,A,B,b1,b2,m1,sT,m3,sU,fun _=>O,m5,hT⟩
  | 5,hq,bz=>
   obtain rfl:=bV hq;refine kA O (by exact(sU (b5 hd 3 O)).1) O (ao.n ?_);exact⟨f2,f3,p0,p2,A,B,b1,b2,m1,sT,m3,sU,m4,fun _=>O,hT⟩
  | q+6,hq,_=>exact(nomatch hq)
 ·intro S e1 w4 dv hI;obtain⟨⟨A0,f2,Px⟩,f3,p0,p2,A,B,b1,b2,m1,sT,m3,sU,m4,m5,hT⟩:=hI;obtain⟨_,rfl⟩:=sT (dv 1 (by decide));obtain⟨_,rfl⟩:=sU (dv 3 (by decide));rw [Px]at hT;refine Ci (F:=[(2,.pointer A0),(3,ak n),(4,.slice A n n),(5,.slice B n n)]) ⟨f2,f3,m4 (dv 4 (by decide)),m5 (dv 5 (by decide)),av⟩ ?_;have hT:St w w4 [aw 2 A n n (List.replicate n 0),aw 2 B n n (List.replicate n 0),Bx 37 1 A0 [.slice none 0 0]]:=hT;rw [<-BO pH n]at hT;have hT:St w w4 [aw 2 A n n (iY pH n 0),aw 2 B n n (iY (pI n) n 0),Bx 37 1 A0 [.slice none 0 0]]:=by rw [BO,BO (pI n)];rw [BO]at hT;exact hT
  refine fq O (Cd.loop (α:=Nat) (fun s=> [(2,.pointer A0),(3,ak n),(4,.slice A n n),(5,.slice B n n),(6,ak s)]) (fun s w'=>St w w' [aw 2 A n n (iY pH n s),aw 2 B n n (iY (pI n) n s),Bx 37 1 A0 [.slice none 0 0]]/\s<=n) (fun s=>n - s) 0 (WM O) ⟨hT,bn _⟩ ?_);rintro f e w5 ⟨gx,hf⟩;refine bX O (aN _ O (fun h1=>?_) (fun h1=>?_))
  ·have Il:=gx.bo 0 O;have tX:=Int.emod_nonneg ((f:Int)+ (n:Int) - 1) (b:=(n:Int)) (by omega);have xM:=Int.emod_lt_of_pos ((f:Int)+ (n:Int) - 1) (b:=(n:Int)) (by omega);have I3:=Int.emod_nonneg ((f:Int)+1) (b:=(n:Int)) (by omega);have I4:=Int.emod_lt_of_pos ((f:Int)+1) (b:=(n:Int)) (by omega);refine aG O (ao.rem O O O (by omega) (aE O ?_));refine aN _ O (fun h2=>?_) (fun h2=>?_)
   ·have EK:pH f=(f:Int)+1:=aF h2;have EL:pI n f=((f:Int)+ (n:Int) - 1)% (n:Int):=aF h2;refine aG O (aK O ?_);refine aB Il.2 O (il 0 gx O O O (by omega) ?_);intro w6 iu;have iu:St w w6 [aw 2 A n n ((iY pH n f).set f ((f:Int)+1)),aw 2 B n n (iY (pI n) n f),Bx 37 1 A0 [.slice none 0 0]]:=iu;rw [<-EK,BP]at iu;have DV:=iu.bo 1 O;refine ar O (aK O (dA O (ar O ?_)));refine ao.rem O O O (by omega) (aB DV.2 O (il 1 iu O O O (by omega) ?_));intro w7 fL;have fL:St w w7 [aw 2 A n n (iY pH n (f+1)),aw 2 B n n ((iY (pI n) n f).set f (((f:Int)+ (n:Int) - 1)% (n:Int))),Bx 37 1 A0 [.slice none 0 0]]:=fL;rw [<-EL,BP]at fL;refine ar O (aK O (aR O (tQ ?_)));exact⟨f+1,by show n - (f+1)<n - f;omega,(WM O),fL,by omega⟩
   ·have EK:pH f=(f:Int) - 1:=aC h2;have EL:pI n f=((f:Int)+1)% (n:Int):=aC h2;refine aG O (dA O ?_);refine aB Il.2 O (il 0 gx O O O (by omega) ?_);intro w6 iu;have iu:St w w6 [aw 2 A n n ((iY pH n f).set f ((f:Int) - 1)),aw 2 B n n (iY (pI n) n f),Bx 37 1 A0 [.slice none 0 0]]:=iu;rw [<-EK,BP]at iu;have DV:=iu.bo 1 O;refine ar O (aK O (ar O ?_));refine ao.rem O O O (by omega) (aB DV.2 O (il 1 iu O O O (by omega) ?_));intro w7 fL;have fL:St w w7 [aw 2 A n n (iY pH n (f+1)),aw 2 B n n ((iY (pI n) n f).set f (((f:Int)+1)% (n:Int))),Bx 37 1 A0 [.slice none 0 0]]:=fL;rw [<-EL,BP]at fL;refine ar O (aK O (aR O (tQ ?_)));exact⟨f+1,by show n - (f+1)<n - f;omega,(WM O),fL,by omega⟩
  ·have iU:f=n:=by omega
   subst iU;refine bk O (bm (ct O ?_));refine LS gx O O O O O O fun A9 w6 iu=>Ga (by exact inferInstance) O O O O (dG 1 3 iu O O O O O O O ?_);intro w7 fL;refine bI O (jC O (fL.rd 3 O) ?_);exact⟨A9,2,[⟨A,f,f⟩,⟨B,f,f⟩],O,O,fL.sub (List.Sublist.cons_cons _ (List.Sublist.cons_cons _ (List.Sublist.cons_cons _ (List.nil_sublist _))))⟩
theorem Bm(p:Nat)(w:aa)(hp:1<=p/\p<=100000):aJ prog 228 [ak p] w (FT 2 (2*p) w):=(Sk p w hp).mono fun v w' h=>by
 obtain⟨A,c,rs,hv,bM,ax⟩:=h;exact⟨A,c,rs,Bw p,hv,bM,O,T4 hp.1,ax⟩
end
section
structure Gh where
 f:Nat
 k:Nat
 B:aj
 n:Nat
 c:Nat
 rs:List aL
 xss:ah
end
section
open Go.RowKit
theorem Gy{N M v r:Int}(hv:0<=v/\v<N)(hr:0<=r/\r<M)(hb:N*M<=1000000):0<=v*M/\v*M<=1000000/\0<=v*M+r/\v*M+r<N*M:=by
 have h1:(v+1)*M<=N*M:=Int.mul_le_mul_of_nonneg_right (by omega) (by omega);have h2:0<=v*M:=Int.mul_nonneg hv.1 (by omega);rw [Int.add_mul,Int.one_mul]at h1;omega
theorem GM.first{N:Nat}{xss:ah}(h:GM N xss)(hn:0<xss.length):(gl xss 0).length=N:=by
 have e:gl xss (0:Nat)=xss[0]:=cX hn;have e:gl xss 0=xss[0]:=e;rw [e];exact(h _ (dU hn)).1
theorem GM.at_{N:Nat}{xss:ah}(h:GM N xss){i:Nat}(hi:i<xss.length):Rg N (gl xss i):=by
 rw [cX hi];exact h _ (dU hi)
theorem Bl(A:aj)(n c:Nat)(rs:List aL)(xss:ah)(N:Nat)(B:aj)(m cB:Nat)(rs':List aL)(wb:ah)(M:Nat)(w:aa)(hX:bq w A n rs xss)(hY:bq w B m rs' wb)(hn:1<=n/\n<=100)(hm:1<=m/\m<=100)(hx:GM N xss)(hy:GM M wb)(hN:1<=N)(hM:1<=M)(iQ:N*M<=1000000):
 aJ prog 229 [.agg #[.slice A n c],.agg #[.slice B m cB]] w (FT (n+m) (N*M) w):=by
 have eu:=hX.len;have vI:=hY.len;have ye:=hx.first (by omega);have Re:=hy.first (by omega);have H7:(N:Int)* (M:Int)<=1000000:=by
  rw [<-Int.natCast_mul];exact Int.ofNat_le.2 iQ
 refine br func229 O ntmps229 O (pD O O) (a8 O (ng (St.refl w) O O ?_));intro A2 w1 ay;refine ng ay O O fun A3 w2 aM=>jH aM O fun A4 w3 aU=>aE O (dL [.ex (.agg #[.slice (A) (n) (c)]),xI ((gl xss 0).length:Int),.ex (.agg #[.slice (B) (m) (cB)]),xI ((gl wb 0).length:Int),xI ((gl xss 0).length:Int),xI ((gl wb 0).length:Int)] O (dV O) ?_ ?_)
 ·refine⟨fun _ _ hb _ _=>bK 0 ((aU.rd 2 O).below hb) O O O Az,?_,fun _ _ hb _ _=>bK 0 ((aU.rd 1 O).below hb) O O O Az,?_,Dr O,Dr O,av⟩
  ·intro e1 w1 hb hp aX;refine aI (vL A n c rs xss _ ((aU.aq hb).bO hX) (by omega)) O ?_;rintro _ w2 ⟨rfl,ax⟩;refine ao.n ?_;exact gK.dn ax.below (by exact O)
  intro e1 w1 hb hp aX;refine aI (vL B m cB rs' wb _ ((aU.aq hb).bO hY) (by omega)) O ?_;rintro _ w2 ⟨rfl,ax⟩;refine ao.n ?_;exact gK.dn ax.below (by exact O)
 intro u w4 mF _;have bd:=aU.aq mF;rw [ye,Re];refine gZ O (yX (by exact inferInstance) O (jH bd O ?_));intro A7 w5 bh;refine dG 1 0 bh O O O O O O O ?_;intro w6 bD;have bD:St w w6 ([Bx 37 1 A7 [.slice none 0 0],Bx 37 1 A4 [.slice none 0 0],Bx 37 1 A3 [.slice B m cB],Bx 37 1 A2 [.slice A n c]]++aQ 24 2 none 0 0 [] []):=(bD.nil _).perm (ka (l₁:=[_]) (l₂:=[_,_,_,_]));refine aE O (Cd.loop (α:=Gh) (fun s=> [(2,.pointer A2),(3,.pointer A3),(4,.pointer A4),(5,ak N),(6,ak M),(7,.pointer A7),(8,ak (s.n:Int))]) (fun s w'=>St w w' ([Bx 37 1 A7 [.slice s.B s.n s.c],Bx 37 1 A4 [.slice none 0 0],Bx 37 1 A3 [.slice B m cB],Bx 37 1 A2 [.slice A n c]]++aQ 24 2 s.B s.n s.c s.rs s.xss)/\s.n<=n+m/\s.rs.length=s.n/\s.xss.length=s.n/\GM (N*M) s.xss) (fun s=>n+m - s.n) ⟨0,0,none,0,0,[],[]⟩ (WM O) ⟨bD,bn _,O,O,fun p hp=> (nomatch hp)⟩ ?_);rintro⟨_,_,C,i,cC,fN,iz⟩ e w7 ⟨bl,hi,bM,uj,hz⟩;dsimp only at bl hi bM uj hz|-;refine a8 O (aS (bl.rd 3 O) O (aZ (bl.rd 3 O) O (ba O O (aS (bl.rd 2 O) O (aZ (bl.rd 2 O) O ?_)))));refine ba O O (aK O (aE O ?_));refine aN _ O (fun h1=>?_) (fun h1=>?_)
 ·refine aG O (iB bl O ?_);intro A9 w8 b7;refine aE O (Cd.loop (α:=Nat×aj×Nat×ai) (fun s=> [(2,.pointer A2),(3,.pointer A3),(4,.pointer A4),(5,ak N),(6,ak M),(7,.pointer A7),(8,ak i),(9,.slice s.2.1 s.1 s.2.2.1),(10,ak (s.1:Int))]) (fun s w'=>St w w' (aw 2 s.2.1 s.1 s.2.2.1 s.2.2.2::([Bx 37 1 A7 [.slice C i cC],Bx 37 1 A4 [.slice none 0 0],Bx 37 1 A3 [.slice B m cB],Bx 37 1 A2 [.slice A n c]]++aQ 24 2 C i cC fN iz))/\s.1<=N*M/\s.2.2.2.length=s.1/\∀x∈s.2.2.2,0<=x/\x< ((N*M:Nat):Int)) (fun s=>N*M - s.1) (0,A9,0,[]) (WM O) ⟨b7,bn _,O,fun x hx=> (nomatch hx)⟩ ?_);rintro⟨f,A9,c9,acc⟩ e w9 ⟨bg,hf,kH,sw⟩;dsimp only at bg hf kH sw|-;have Pc:(N:Int)* (M:Int)=((N*M:Nat):Int):=(Int.natCast_mul N M).symm;refine a8 O (ao.mul O O O (by omega) ?_);rw [Pc];refine aE O (aN _ O (fun h2=>?_) (fun h2=>?_))
  ·have qp:0<=(f:Int) / (M:Int):=Int.ediv_nonneg (by omega) (by omega);have Jl:(f:Int) / (M:Int)< (N:Int):=Int.ediv_lt_of_lt_mul (by omega) (by omega);have oF:=Int.emod_nonneg (f:Int) (b:=(M:Int)) (by omega);have pk:=Int.emod_lt_of_pos (f:Int) (b:=(M:Int)) (by omega);have DT:=bg.bO hX;have DW:=bg.bO hY;refine aG O (aS (bg.rd 4 O) O (aZ (bg.rd 4 O) O ?_));refine ba O O (aE O ?_);refine aN _ O (fun h3=>?_) (fun h3=>?_)
   ·have bH:=DT.at_ (i:=(i:Int)) (by omega) (by omega);have nG:=hx.at_ (i:=i) (by omega);have fp:(rg rs i).n=N:=by rw [<-bH.1,nG.1]
    have hv:=nG.gi qp Jl;have lj:=Gy (N:=(N:Int)) (M:=(M:Int)) hv ⟨oF,pk⟩ H7;generalize hV:gi (gl xss i) ((f:Int) / (M:Int))=v at hv lj;refine ja [18] [yS (A9) (f) (c9),yP (aD (A2) 0),yS (A) (n) (c),yI ((i:Int)),yP (aD (A) ((i:Int)).toNat),yS ((rg (rs) ((i:Int))).a) ((rg (rs) ((i:Int))).n) ((rg (rs) ((i:Int))).c),yI ((f:Int)),yI ((M:Int)),yI ((f:Int) / (M:Int)),yP (aD ((rg (rs) ((i:Int))).a) ((f:Int) / (M:Int)).toNat),yI (v),yI ((M:Int)),yI (v* (M:Int)),yI ((f:Int)),yI ((M:Int)),yI ((f:Int)% (M:Int)),yI ((v* (M:Int))+ ((f:Int)% (M:Int))),.pr (fun v' w'=>∃mq,v'= .slice mq 1 1/\St w w' (aw 2 mq 1 1 [v* (M:Int)+ (f:Int)% (M:Int)]::aw 2 A9 f c9 acc::([Bx 37 1 A7 [.slice C i cC],Bx 37 1 A4 [.slice none 0 0],Bx 37 1 A3 [.slice B m cB],Bx 37 1 A2 [.slice A n c]]++aQ 24 2 C i cC fN iz))),.pr (fun v' w'=>∃di dB,v'= .slice di (f+1) dB/\St w w' (aw 2 di (f+1) dB (acc++ [v* (M:Int)+ (f:Int)% (M:Int)])::([Bx 37 1 A7 [.slice C i cC],Bx 37 1 A4 [.slice none 0 0],Bx 37 1 A3 [.slice B m cB],Bx 37 1 A2 [.slice A n c]]++aQ 24 2 C i cC fN iz))),.pr (fun v' w'=>∃di dB,v'= .slice di (f+1) dB/\St w w' (aw 2 di (f+1) dB (acc++ [v* (M:Int)+ (f:Int)% (M:Int)])::([Bx 37 1 A7 [.slice C i cC],Bx 37 1 A4 [.slice none 0 0],Bx 37 1 A3 [.slice B m cB],Bx 37 1 A2 [.slice A n c]]++aQ 24 2 C i cC fN iz)))] (by kernel_rfl) (by kernel_rfl) (ly (ly (ly (ly (ly (ly (ly (ly (ly (ly (ly (ly (ly (ly (ly (ly (ly (cM.2 ⟨Ye.cN (fun v w w' h hb=>by obtain⟨iZ,hv,h1⟩:=h;exact⟨iZ,hv,h1.aq hb⟩),(cM.2 ⟨Ye.cN (fun v w w' h hb=>by obtain⟨di,dB,hv,h1⟩:=h;exact⟨di,dB,hv,h1.aq hb⟩),(cM.2 ⟨Ye.cN (fun v w w' h hb=>by obtain⟨di,dB,hv,h1⟩:=h;exact⟨di,dB,hv,h1.aq hb⟩),(fun _ h=>by cases h)⟩)⟩)⟩)))))))))))))))))) ?_ ?_
    ·refine⟨?_,cP fun _ _ hb _ _ _=>aS ((bg.rd 4 O).below hb) O (bB O O),cP fun _ _ hb _ _ _=>aZ ((bg.rd 4 O).below hb) O (bB O O),bT O,cP fun _ _ hb _ _ _=>aB (DT.top.aq hb).2 O (bB O O),cP fun _ _ hb _ _ _=>ck (DT.top.aq hb) O (bB O O),bT O,bT O,?_,cP fun _ _ hb _ _ _=>aB (bH.aq hb).2 O (bB O O),?_,bT O,?_,bT O,bT O,?_,aP fun _ _=>aK O (bB O O),?_,?_,?_,av⟩
     ·intro e1 w1 cc dF bU dO hp aX hq;show ao _ _ _ _ _ _ _;refine kA O (by exact aX 19 _ O (by kernel_rfl)) O (ao.n (eO O (by exact O)))
     ·intro e1 w1 cc dF bU dO hp aX hq;show ao _ _ _ _ _ _ _;refine ao.quo O O O (by omega) (ao.n (eO O (by exact O)))
     ·refine cP fun e1 w1 hb hp aX hq=>?_
      refine aW (bH.aq hb) O (ao.n ?_);exact eO O (by exact aH (Value.int .i64) hV)
     ·intro e1 w1 cc dF bU dO hp aX hq;show ao _ _ _ _ _ _ _;refine ao.mul O O O (by omega) (ao.n (eO O (by exact O)))
     ·intro e1 w1 cc dF bU dO hp aX hq;show ao _ _ _ _ _ _ _;refine ao.rem O O O (by omega) (ao.n (eO O (by exact O)))
     ·refine cP fun e1 w1 hb hp aX hq=>?_
      exact eE (St.refl _) O O O fun iZ oT sL=>ao.n (eX.dn O sL.below ⟨iZ,O,(bg.aq hb).call sL⟩)
     ·refine jc fun e1 w1 hb hp aX hq=>?_
      obtain⟨iZ,oK,h1⟩:=(hp 17 _ _ (by kernel_rfl) rfl rfl (by kernel_rfl));refine fj 1 h1 O (h1.bo 0 O) O (by exact oK) O ?_;intro di dB yH xf;exact ao.n (fg.dn O ⟨di,dB,O,xf.tail⟩)
     refine dP 1 fun e1 w1 hp aX hq=>?_
     have eT:=hp 18 _ _ (by kernel_rfl) O O (by kernel_rfl);obtain⟨di,dB,oK,h1⟩:=(hp 18 _ _ (by kernel_rfl) rfl rfl (by kernel_rfl));refine kA O (by exact oK) O (ao.n ?_);exact eX.dn O (Below.refl _ _) ⟨di,dB,O,h1⟩
    intro u dw _ hu _ _;obtain⟨di,dB,EJ,hT⟩:=hu 19 _ rfl (by kernel_rfl);refine gZ O (aK O (aR O (tQ ?_)));refine⟨(f+1,di,dB,acc++ [v* (M:Int)+ (f:Int)% (M:Int)]),by show N*M - (f+1)<N*M - f;omega,⟨O,O,O,O,O,O,O,EJ,O,av⟩,hT,by show f+1<=N*M;omega,by simp [kH],fun x gF=>?_⟩;rcases gL.1 gF with h | h
    ·exact sw x h
    rw [eP]at h;subst h;omega
   have bH:=DW.at_ (i:=(i:Int) - (n:Int)) (by omega) (by omega);obtain⟨j,hj⟩:∃j:Nat,(i:Int) - (n:Int)=j:=⟨i - n,by omega⟩;have nG:=hy.at_ (i:=j) (by omega);rw [<-hj]at nG;have fp:(rg rs' ((i:Int) - (n:Int))).n=M:=by rw [<-bH.1,nG.1]
   have hv:=nG.gi oF pk;have lj:=Gy (N:=(N:Int)) (M:=(M:Int)) (v:=(f:Int) / (M:Int)) ⟨qp,Jl⟩ hv H7;generalize hV:gi (gl wb ((i:Int) - (n:Int))) ((f:Int)% (M:Int))=v at hv lj;refine ja [22] [yS (A9) (f) (c9),yI ((f:Int)),yI ((M:Int)),yI ((f:Int) / (M:Int)),yI ((M:Int)),yI ((f:Int) / (M:Int)* (M:Int)),yP (aD (A3) 0),yS (B) (m) (cB),yI ((i:Int)),yP (aD (A2) 0),yS (A) (n) (c),yI (((n:Nat):Int)),yI (((i:Int)) - (((n:Nat):Int))),yP (aD (B) (((i:Int)) - (((n:Nat):Int))).toNat),yS ((rg (rs') (((i:Int)) - (((n:Nat):Int)))).a) ((rg (rs') (((i:Int)) - (((n:Nat):Int)))).n) ((rg (rs') (((i:Int)) - (((n:Nat):Int)))).c),yI ((f:Int)),yI ((M:Int)),yI ((f:Int)% (M:Int)),yP (aD ((rg (rs') (((i:Int)) - (((n:Nat):Int)))).a) ((f:Int)% (M:Int)).toNat),yI (v),yI (((f:Int) / (M:Int)* (M:Int))+ (v)),.pr (fun v' w'=>∃mq,v'= .slice mq 1 1/\St w w' (aw 2 mq 1 1 [(f:Int) / (M:Int)* (M:Int)+v]::aw 2 A9 f c9 acc::([Bx 37 1 A7 [.slice C i cC],Bx 37 1 A4 [.slice none 0 0],Bx 37 1 A3 [.slice B m cB],Bx 37 1 A2 [.slice A n c]]++aQ 24 2 C i cC fN iz))),.pr (fun v' w'=>∃di dB,v'= .slice di (f+1) dB/\St w w' (aw 2 di (f+1) dB (acc++ [(f:Int) / (M:Int)* (M:Int)+v])::([Bx 37 1 A7 [.slice C i cC],Bx 37 1 A4 [.slice none 0 0],Bx 37 1 A3 [.slice B m cB],Bx 37 1 A2 [.slice A n c]]++aQ 24 2 C i cC fN iz))),.pr (fun v' w'=>∃di dB,v'= .slice di (f+1) dB/\St w w' (aw 2 di (f+1) dB (acc++ [(f:Int) / (M:Int)* (M:Int)+v])::([Bx 37 1 A7 [.slice C i cC],Bx 37 1 A4 [.slice none 0 0],Bx 37 1 A3 [.slice B m cB],Bx 37 1 A2 [.slice A n c]]++aQ 24 2 C i cC fN iz)))] (by kernel_rfl) (by kernel_rfl) (ly (ly (ly (ly (ly (ly (ly (ly (ly (ly (ly (ly (ly (ly (ly (ly (ly (ly (ly (ly (ly (cM.2 ⟨Ye.cN (fun v w w' h hb=>by obtain⟨iZ,hv,h1⟩:=h;exact⟨iZ,hv,h1.aq hb⟩),(cM.2 ⟨Ye.cN (fun v w w' h hb=>by obtain⟨di,dB,hv,h1⟩:=h;exact⟨di,dB,hv,h1.aq hb⟩),(cM.2 ⟨Ye.cN (fun v w w' h hb=>by obtain⟨di,dB,hv,h1⟩:=h;exact⟨di,dB,hv,h1.aq hb⟩),(fun _ h=>by cases h)⟩)⟩)⟩)))))))))))))))))))))) ?_ ?_
   ·refine⟨?_,bT O,bT O,?_,bT O,?_,cP fun _ _ hb _ _ _=>aS ((bg.rd 3 O).below hb) O (bB O O),cP fun _ _ hb _ _ _=>aZ ((bg.rd 3 O).below hb) O (bB O O),bT O,cP fun _ _ hb _ _ _=>aS ((bg.rd 4 O).below hb) O (bB O O),cP fun _ _ hb _ _ _=>aZ ((bg.rd 4 O).below hb) O (bB O O),aP fun _ _=>ba O O (bB O O),aP fun _ _=>dA O (bB O O),cP fun _ _ hb _ _ _=>aB (DW.top.aq hb).2 O (bB O O),cP fun _ _ hb _ _ _=>ck (DW.top.aq hb) O (bB O O),bT O,bT O,?_,cP fun _ _ hb _ _ _=>aB (bH.aq hb).2 O (bB O O),?_,aP fun _ _=>aK O (bB O O),?_,?_,?_,av⟩
    ·intro e1 w1 cc dF bU dO hp aX hq;show ao _ _ _ _ _ _ _;refine kA O (by exact aX 23 _ O (by kernel_rfl)) O (ao.n (eO O (by exact O)))
    ·intro e1 w1 cc dF bU dO hp aX hq;show ao _ _ _ _ _ _ _;refine ao.quo O O O (by omega) (ao.n (eO O (by exact O)))
    ·intro e1 w1 cc dF bU dO hp aX hq;show ao _ _ _ _ _ _ _;refine ao.mul O O O (by omega) (ao.n (eO O (by exact O)))
    ·intro e1 w1 cc dF bU dO hp aX hq;show ao _ _ _ _ _ _ _;refine ao.rem O O O (by omega) (ao.n (eO O (by exact O)))
    ·refine cP fun e1 w1 hb hp aX hq=>?_
     refine aW (bH.aq hb) O (ao.n ?_);exact eO O (by exact aH (Value.int .i64) hV)
    ·refine cP fun e1 w1 hb hp aX hq=>?_
     exact eE (St.refl _) O O O fun iZ oT sL=>ao.n (eX.dn O sL.below ⟨iZ,O,(bg.aq hb).call sL⟩)
    ·refine jc fun e1 w1 hb hp aX hq=>?_
     obtain⟨iZ,oK,h1⟩:=(hp 21 _ _ (by kernel_rfl) rfl rfl (by kernel_rfl));refine fj 1 h1 O (h1.bo 0 O) O (by exact oK) O ?_;intro di dB yH xf;exact ao.n (fg.dn O ⟨di,dB,O,xf.tail⟩)
    refine dP 1 fun e1 w1 hp aX hq=>?_
    have eT:=hp 22 _ _ (by kernel_rfl) O O (by kernel_rfl);obtain⟨di,dB,oK,h1⟩:=(hp 22 _ _ (by kernel_rfl) rfl rfl (by kernel_rfl));refine kA O (by exact oK) O (ao.n ?_);exact eX.dn O (Below.refl _ _) ⟨di,dB,O,h1⟩
   intro u dw _ hu _ _;obtain⟨di,dB,EJ,hT⟩:=hu 23 _ rfl (by kernel_rfl);refine gZ O (aK O (aR O (tQ ?_)));refine⟨(f+1,di,dB,acc++ [(f:Int) / (M:Int)* (M:Int)+v]),by show N*M - (f+1)<N*M - f;omega,⟨O,O,O,O,O,O,O,EJ,O,av⟩,hT,by show f+1<=N*M;omega,by simp [kH],fun x gF=>?_⟩;rcases gL.1 gF with h | h
   ·exact sw x h
   rw [eP]at h;subst h;omega
  have vn:f=N*M:=by omega
  refine bk O (bm (ct O ?_));refine aS (bg.rd 1 O) O (aZ (bg.rd 1 O) O (ar O (l6 bg O O O ?_)));intro Lp dw bQ;refine l5 6 bQ O (bQ.fz 0 O) O O O (by omega) (by omega) O ?_;intro mU nq ew dT;have dT:St w ew (aw 2 A9 f c9 acc::Bx 37 1 A7 [.slice C i cC]::Bx 37 1 A4 [.slice none 0 0]::Bx 37 1 A3 [.slice B m cB]::Bx 37 1 A2 [.slice A n c]::bE 24 mU (i+1) nq (fN++ [⟨A9,f,c9⟩])::b6 2 fN iz):=dT.tail;refine aS (dT.rd 1 O) O (kB 1 dT O O O O O ?_);intro eh dC;have dC:St w eh (aw 2 A9 f c9 acc::Bx 37 1 A7 [.slice mU (i+1) nq]::Bx 37 1 A4 [.slice none 0 0]::Bx 37 1 A3 [.slice B m cB]::Bx 37 1 A2 [.slice A n c]::bE 24 mU (i+1) nq (fN++ [⟨A9,f,c9⟩])::b6 2 fN iz):=dC;refine ar O (aK O (aR O (tQ ?_)));refine⟨⟨0,0,mU,i+1,nq,fN++ [⟨A9,f,c9⟩],iz++ [acc]⟩,by show n+m - (i+1)<n+m - i;omega,(WM O),?_,by show i+1<=n+m;omega,by simp [bM],by simp [uj],fun p hp=>?_⟩
  ·show St w eh ([_,_,_,_]++bE 24 mU (i+1) nq (fN++ [⟨A9,f,c9⟩])::b6 2 (fN++ [⟨A9,f,c9⟩]) (iz++ [acc]));rw [yA (by omega)];refine dC.perm ?_;exact ka (l₁:=[_]) (l₂:=_::_::_::_::bE 24 mU (i+1) nq (fN++ [⟨A9,f,c9⟩])::b6 2 fN iz)
  rcases gL.1 hp with h | h
  ·exact hz p h
  rw [eP]at h;subst h;exact⟨by omega,sw⟩
 have tT:i=n+m:=by omega
 subst tT;refine bk O (bm (ct O ?_));refine bK 0 (bl.rd 0 O) O O O (dG 1 1 bl O O O O O O O ?_);intro w8 b7;refine bI O (jC O (b7.rd 1 O) ?_);exact⟨C,cC,fN,iz,O,bM,uj,hz,(((b7.sub ((gB _).cons _)).sub ((gB _).cons _)).sub ((gB _).cons _)).sub ((gB _).cons _)⟩
theorem GC{q e c:Nat}(h:q<4*e)(hc:c<4)(he:e<=1000000):0<=bits .xor .i64 (q:Int) (c:Int)/\bits .xor .i64 (q:Int) (c:Int)< ((4*e:Nat):Int):=by
 have h1:(q^^^c) / 4=q / 4:=by
  have h2:(q^^^c) / 2^2=q / 2^2^^^c / 2^2:=Nat.xor_div_two_pow;have h3:c / 2^2=0:=Nat.div_eq_of_lt (by simpa using hc);rw [h3,Nat.xor_zero]at h2;exact h2
 have h4:q^^^c<4*e:=by omega
 have e1:bits .xor .i64 (q:Int) (c:Int)=IntKind.i64.wrap ((BitVec.ofInt 64 (q:Int)^^^BitVec.ofInt 64 (c:Int)).toNat:Int):=O;have e2:(BitVec.ofInt 64 (q:Int)^^^BitVec.ofInt 64 (c:Int)).toNat=q^^^c:=by
  rw [BitVec.toNat_xor,BitVec.ofInt_natCast,BitVec.ofInt_natCast,BitVec.toNat_ofNat,BitVec.toNat_ofNat,Nat.mod_eq_of_lt (by omega),Nat.mod_eq_of_lt (by omega)]
 rw [e1,e2,IntWalk.i64_in _ (by omega)];omega
section
variable {P:Program} {N:Nat} {ops:Array Oper} {K:Env->aa->Prop} {rest:List Oper} {e:Env} {w0 w w':aa} {ks:List Ck} {d:Nat} {ty:ae} {pos:String} {af:Array Edge} {x y:ag} {xt yt:ae} {i j:Int}
theorem Gg(hx:ev e x=ak i)(hy:ev e y=ak j)(hb:Nat.blt d N=true)(hK:ao P N ops K rest (bj e d (ak (bits .xor .i64 i j))) w):
 ao P N ops K (⟨some d,.binOp .xor xt x y yt,ty,pos,af,none⟩::rest) e w:=
 .val (by simp only [execOp,hx,hy,eqGuard,binOp,intBits_xor];simp) hb hK
theorem LU{t el:ae}{b:Nat}[bG P t (.slice el)][bJ P el (.slice none 0 0) 1 b]{x0 x1 x2:ag}{s0 s1 s2:aL}(hS:St w0 w ks)(h0:ev e x0=s0.v)(h1:ev e x1=s1.v)(h2:ev e x2=s2.v)(hb:Nat.blt d N=true)(hK:∀A w',St w0 w' (bE el A 3 3 [s0,s1,s2]::ks)->ao P N ops K rest (bj e d (.slice A 3 3)) w'):ao P N ops K (⟨some d,.buildSlice t 3 #[(0,x0),(1,x1),(2,x2)],ty,pos,af,none⟩::rest) e w:=by
 obtain⟨inf,hi,fH,hs,iT⟩:=bJ.get P el;have e0:(s0.v).cells= #[s0.v]:=O;have e1:(s1.v).cells= #[s1.v]:=O;have e2:(s2.v).cells= #[s2.v]:=O;have hz:(Value.slice none 0 0).cells= #[Value.slice none 0 0]:=O;refine .val (w':=w.alloc (.cells #[s0.v,s1.v,s2.v] el)) ?_ hb (hK _ _ (hS.alloc [s0.v,s1.v,s2.v] el (by simp [maxLen]) O));simp [execOp,Instr.buildSlice,run_underlying (bG.out (P:=P) (t:=t)),sizeOf,typeInfo,zeroValue,hi,hs,fH,hz,Instr.fill,newRow,h0,e0,h1,e1,h2,e2,y8,l4]
end
theorem Si{w0 w:aa}{ks:List Ck}(ix:Nat){As:aj}{k:Ck}(ed:Nat)(hS:St w0 w ks)(hk:ks[ix]?=some k)(hK:fu w0 As k)(he:1<=ed/\ed<=100000):
 aJ prog 230 [.pointer As,ak ed] w (fun v w'=>∃A c rs xss N k',v= .agg #[.slice A 3 c]/\rs.length=3/\xss.length=3/\GM N xss/\(1<=N/\N<=4*ed)/\fu w0 As k'/\St w0 w' (aQ 24 2 A 3 c rs xss++ks.set ix k')):=by
 refine br func230 O ntmps230 O (pD O O) (a8 O (jH hS O ?_));intro A4 w1 ay;refine ar O (ao.mul O O O (by omega) (ar O ?_));refine iB ay O fun iZ w2 aM=>iB aM O ?_;intro di w3 aU;have hn:(4:Int)* (ed:Int)=((4*ed:Nat):Int):=by omega
 rw [hn];have aU:St w0 w3 (aw 2 di 0 0 []::aw 2 iZ 0 0 []::Bx 37 1 A4 [.slice none 0 0]::ks):=aU;refine ar O (aI (Sa (ix+3) (4*ed) aU (by exact hk) hK (by omega)) O ?_);rintro _ w4 ⟨Am,cm,ps,k',rfl,kj,ot,bd⟩;have bd:St w0 w4 (aw 2 Am (4*ed) cm ps::aw 2 di 0 0 []::aw 2 iZ 0 0 []::Bx 37 1 A4 [.slice none 0 0]::ks.set ix k'):=bd;generalize hN:4*ed=n at*;refine aE O (Cd.loop (α:=Nat×aj×Nat×ai×aj×Nat×ai) (fun s=> [(4,.pointer A4),(5,ak n),(6,.slice s.2.1 s.1 s.2.2.1),(7,.slice s.2.2.2.2.1 s.1 s.2.2.2.2.2.1),(8,.slice Am n cm),(9,ak (s.1:Int))]) (fun s w'=>St w0 w' (aw 2 Am n cm ps::aw 2 s.2.2.2.2.1 s.1 s.2.2.2.2.2.1 s.2.2.2.2.2.2::aw 2 s.2.1 s.1 s.2.2.1 s.2.2.2.1::Bx 37 1 A4 [.slice none 0 0]::ks.set ix k')/\s.1<=n/\s.2.2.2.1.length=s.1/\s.2.2.2.2.2.2.length=s.1/\(∀x∈s.2.2.2.1,0<=x/\x< (n:Int))/\(∀x∈s.2.2.2.2.2.2,0<=x/\x< (n:Int))) (fun s=>n - s.1) (0,iZ,0,[],di,0,[]) (WM O) ⟨bd,bn _,O,O,fun x hx=> (nomatch hx),fun x hx=> (nomatch hx)⟩ ?_);rintro⟨f,A6,c6,zs,A7,c7,ts⟩ e w5 ⟨bh,hf,uj,EF,hz,ht⟩;dsimp only at bh hf uj EF hz ht|-;refine bX O (aN _ O (fun h1=>?_) (fun h1=>?_))
 ·have pv:=GC (q:=f) (e:=ed) (c:=1) (by omega) (by decide) (by omega);have yd:=GC (q:=f) (e:=ed) (c:=2) (by omega) (by decide) (by omega);rw [hN]at pv yd;refine aG O (Gg (j:=((1:Nat):Int)) O O O ?_);generalize bits .xor .i64 (f:Int) ((1:Nat):Int)=b1 at pv|-;refine eE bh O O O fun pJ w6 bD=>fj 3 bD O (bD.bo 0 O) O O O ?_;intro FQ GH w7 bl;have bl:St w0 w7 (aw 2 Am n cm ps::aw 2 A7 f c7 ts::aw 2 FQ (f+1) GH (zs++ [b1])::Bx 37 1 A4 [.slice none 0 0]::ks.set ix k'):=bl.tail;refine ar O (Gg (j:=((2:Nat):Int)) O O O ?_);generalize bits .xor .i64 (f:Int) ((2:Nat):Int)=b2 at yd|-;refine eE bl O O O fun cJ w8 b7=>fj 2 b7 O (b7.bo 0 O) O O O fun nU o4 w9 bg=>ar O (aK O (aR O (tQ ?_)));refine⟨(f+1,FQ,GH,zs++ [b1],nU,o4,ts++ [b2]),by show n - (f+1)<n - f;omega,(WM O),bg.tail,by show f+1<=n;omega,by simp [uj],by simp [EF],fun x hx=>?_,fun x hx=>?_⟩
  ·rcases gL.1 hx with h | h
   ·exact hz x h
   rw [eP]at h;subst h;exact pv
  rcases gL.1 hx with h | h
  ·exact ht x h
  rw [eP]at h;subst h;exact yd
 have iU:f=n:=by omega
 subst iU;refine bk O (bm (ct O ?_));refine LU (s0:=⟨A6,f,c6⟩) (s1:=⟨Am,f,cm⟩) (s2:=⟨A7,f,c7⟩) bh O O O O ?_;intro b9 w6 bD;have bD:St w0 w6 (aQ 24 2 b9 3 3 [⟨A6,f,c6⟩,⟨Am,f,cm⟩,⟨A7,f,c7⟩] [zs,ps,ts]++ (Bx 37 1 A4 [.slice none 0 0]::ks.set ix k')):=bD.perm (List.Perm.cons _ (((List.Perm.cons _ (List.Perm.swap _ _ _)).trans (List.Perm.swap _ _ _)).trans (List.Perm.cons _ (List.Perm.refl _))));have hG:GM f [zs,ps,ts]:=fun q hq=>by
  rcases kT.1 hq with rfl | hq
  ·exact⟨uj,hz⟩
  rcases kT.1 hq with rfl | hq
  ·exact kj
  rw [eP]at hq;subst hq;exact⟨EF,ht⟩
 have jO:bq w6 b9 3 [⟨A6,f,c6⟩,⟨Am,f,cm⟩,⟨A7,f,c7⟩] [zs,ps,ts]:=St.iX bD O;obtain⟨o1,o2,_⟩:=qB (N:=f) (xss:=[zs,ps,ts]) (pt:=0) hG.sys (Int.le_refl _) (by omega);have Je:=o1.len;have QK:1<=(eV f [zs,ps,ts] 0).length:=by
  have:=o2.length_le;simpa using this
 have Ji:=o1.range;refine ar O (aI (J0 b9 3 3 _ _ f 0 _ jO (by decide) hG.sys (by omega) (Int.le_refl _) (by omega)) O ?_);rintro _ w7 ⟨gz,r9,rfl,x7⟩;have bl:=bD.call x7;generalize hO:eV f [zs,ps,ts] 0=ord at*;have bl:St w0 w7 (aw 2 gz ord.length r9 ord::(aQ 24 2 b9 3 3 [⟨A6,f,c6⟩,⟨Am,f,cm⟩,⟨A7,f,c7⟩] [zs,ps,ts]++ (Bx 37 1 A4 [.slice none 0 0]::ks.set ix k'))):=bl;refine ar O (rZ f bl O O (by omega) ?_);intro uD w8 b7;refine aE O ?_;refine Cd.loop (α:=Nat×ai) (fun s=> [(4,.pointer A4),(5,ak f),(10,.slice b9 3 3),(11,.slice gz ord.length r9),(12,.slice uD f f),(13,ak (s.1:Int))]) (fun s w'=>St w0 w' (aw 2 uD f f s.2::aw 2 gz ord.length r9 ord::(aQ 24 2 b9 3 3 [⟨A6,f,c6⟩,⟨Am,f,cm⟩,⟨A7,f,c7⟩] [zs,ps,ts]++ (Bx 37 1 A4 [.slice none 0 0]::ks.set ix k')))/\s.1<=ord.length/\s.2.length=f/\∀x∈s.2,0<=x/\x< (ord.length:Int)) (fun s=>ord.length - s.1) (0,List.replicate f 0) ⟨rfl,rfl,rfl,rfl,rfl,rfl,av⟩ ⟨b7,bn _,by simp,fun x hx=>by obtain⟨h0,rfl⟩:=List.mem_replicate.1 hx;omega⟩ ?_;rintro⟨i,num⟩ e w9 ⟨bg,hi,gU,xQ⟩;dsimp only at bg hi gU xQ|-;refine a8 O (ba O O (aE O ?_));refine aN _ O (fun h2=>?_) (fun h2=>?_)
 ·have tF:=bg.bo 1 O;have DJ:=bg.bo 0 O;have vB:=Ji (gi ord i) (by rw [bF (by omega)];exact dU _);refine aG O (aB tF.2 O (aW tF O (ar O (aB DJ.2 O (il 0 bg O O O (by omega) ?_)))));intro dw bQ;refine ar O (aK O (aR O (tQ ?_)));refine⟨(i+1,num.set (gi ord i).toNat (i:Int)),by show ord.length - (i+1)<ord.length - i;omega,(WM O),bQ,by show i+1<=ord.length;omega,by rw [ij];exact gU,fun x hx=>?_⟩;rcases List.mem_or_eq_of_mem_set hx with hx | rfl
  ·exact xQ x hx
  omega
 have tF:=bg.bo 1 O;have DJ:=bg.bo 0 O;have Pa:bq w9 b9 3 [⟨A6,f,c6⟩,⟨Am,f,cm⟩,⟨A7,f,c7⟩] [zs,ps,ts]:=St.iX bg.tail.tail O;have AH:∀x:Int,0<=x->x<f->0<=gi num x/\gi num x< (ord.length:Int):=fun x h0 h1=>by
  obtain⟨q,rfl⟩:∃q:Nat,x=q:=⟨x.toNat,by omega⟩;rw [bF (by omega)];exact xQ _ (dU _)
 refine bk O (bm (ct O ?_));refine yX (by exact inferInstance) O (jH (St.refl w9) O ?_);intro gJ dw DM;refine dG 1 0 DM O O O O O O O ?_;intro ew xd;have xd:St w9 ew ([Bx 37 1 gJ [.slice none 0 0]]++aQ 24 2 none 0 0 [] []):=(xd.nil _).perm (ka (l₁:=[_]) (l₂:=[_]));refine aE O (Cd.loop (α:=Gh) (fun s=> [(4,.pointer A4),(5,ak f),(10,.slice b9 3 3),(11,.slice gz ord.length r9),(12,.slice uD f f),(14,.pointer gJ),(15,ak (s.n:Int))]) (fun s w'=>St w9 w' ([Bx 37 1 gJ [.slice s.B s.n s.c]]++aQ 24 2 s.B s.n s.c s.rs s.xss)/\s.n<=3/\s.rs.length=s.n/\s.xss.length=s.n/\GM ord.length s.xss) (fun s=>3 - s.n) ⟨0,0,none,0,0,[],[]⟩ (WM O) ⟨xd,bn _,O,O,fun p hp=> (nomatch hp)⟩ ?_);rintro⟨_,_,C,q,cC,fN,iz⟩ e eh ⟨DN,hq,bM,EO,EP⟩;dsimp only at DN hq bM EO EP|-;refine bX O (aN _ O (fun h3=>?_) (fun h3=>?_))
 ·refine aG O (iB DN O ?_);intro ku gp Pq;refine aE O (Cd.loop (α:=Nat×aj×Nat×ai) (fun s=> [(4,.pointer A4),(5,ak f),(10,.slice b9 3 3),(11,.slice gz ord.length r9),(12,.slice uD f f),(14,.pointer gJ),(15,ak q),(16,.slice s.2.1 s.1 s.2.2.1),(17,ak (s.1:Int))]) (fun s w'=>St w9 w' (aw 2 s.2.1 s.1 s.2.2.1 s.2.2.2::([Bx 37 1 gJ [.slice C q cC]]++aQ 24 2 C q cC fN iz))/\s.1<=ord.length/\s.2.2.2.length=s.1/\∀x∈s.2.2.2,0<=x/\x< (ord.length:Int)) (fun s=>ord.length - s.1) (0,ku,0,[]) (WM O) ⟨Pq,bn _,O,fun x hx=> (nomatch hx)⟩ ?_);rintro⟨j,ku,pW,acc⟩ e lT ⟨su,hj,kH,sw⟩;dsimp only at su hj kH sw|-;refine a8 O (ba O O (aE O ?_));refine aN _ O (fun h4=>?_) (fun h4=>?_)
  ·have H9:=su.da tF;have H6:=su.da DJ;have DE:=su.bO Pa;have bH:=DE.at_ (i:=(q:Int)) (by omega) (by omega);have nG:=hG.at_ (i:=q) (by show q<3;omega);have fp:(rg [⟨A6,f,c6⟩,⟨Am,f,cm⟩,⟨A7,f,c7⟩] q).n=f:=by rw [<-bH.1,nG.1]
   have vB:=Ji (gi ord j) (by rw [bF (by omega)];exact dU _);have sG:=nG.gi vB.1 vB.2;have Jb:=AH _ sG.1 sG.2;generalize hV:gi (gl [zs,ps,ts] q) (gi ord j)=mv at sG Jb;refine df O ?_;refine ja [15] [yS (ku) (j) (pW),yS (uD) (f) (f),yS (b9) (3) (3),yI ((q:Int)),yP (aD (b9) ((q:Int)).toNat),yS ((rg ([⟨A6,f,c6⟩,⟨Am,f,cm⟩,⟨A7,f,c7⟩]) ((q:Int))).a) ((rg ([⟨A6,f,c6⟩,⟨Am,f,cm⟩,⟨A7,f,c7⟩]) ((q:Int))).n) ((rg ([⟨A6,f,c6⟩,⟨Am,f,cm⟩,⟨A7,f,c7⟩]) ((q:Int))).c),yS (gz) (ord.length) (r9),yI ((j:Int)),yP (aD (gz) ((j:Int)).toNat),yI (gi (ord) ((j:Int))),yP (aD (rg [⟨A6,f,c6⟩,⟨Am,f,cm⟩,⟨A7,f,c7⟩] q).a (gi ord j).toNat),yI (mv),yP (aD (uD) (mv).toNat),yI (gi (num) (mv)),.pr (fun v' w'=>∃mq,v'= .slice mq 1 1/\St w9 w' (aw 2 mq 1 1 [gi num mv]::aw 2 ku j pW acc::([Bx 37 1 gJ [.slice C q cC]]++aQ 24 2 C q cC fN iz))),.pr (fun v' w'=>∃di dB,v'= .slice di (j+1) dB/\St w9 w' (aw 2 di (j+1) dB (acc++ [gi num mv])::([Bx 37 1 gJ [.slice C q cC]]++aQ 24 2 C q cC fN iz))),.pr (fun v' w'=>∃di dB,v'= .slice di (j+1) dB/\St w9 w' (aw 2 di (j+1) dB (acc++ [gi num mv])::([Bx 37 1 gJ [.slice C q cC]]++aQ 24 2 C q cC fN iz)))] (by kernel_rfl) (by kernel_rfl) (ly (ly (ly (ly (ly (ly (ly (ly (ly (ly (ly (ly (ly (ly (cM.2 ⟨Ye.cN (fun v w w' h hb=>by obtain⟨iZ,hv,h1⟩:=h;exact⟨iZ,hv,h1.aq hb⟩),(cM.2 ⟨Ye.cN (fun v w w' h hb=>by obtain⟨di,dB,hv,h1⟩:=h;exact⟨di,dB,hv,h1.aq hb⟩),(cM.2 ⟨Ye.cN (fun v w w' h hb=>by obtain⟨di,dB,hv,h1⟩:=h;exact⟨di,dB,hv,h1.aq hb⟩),(fun _ h=>by cases h)⟩)⟩)⟩))))))))))))))) ?_ ?_
   ·refine⟨?_,bT O,bT O,bT O,cP fun _ _ hb _ _ _=>aB (DE.top.aq hb).2 O (bB O O),cP fun _ _ hb _ _ _=>ck (DE.top.aq hb) O (bB O O),bT O,bT O,cP fun _ _ hb _ _ _=>aB (H9.aq hb).2 O (bB O O),cP fun _ _ hb _ _ _=>aW (H9.aq hb) O (bB O O),?_,?_,cP fun _ _ hb _ _ _=>aB (H6.aq hb).2 O (bB O O),cP fun _ _ hb _ _ _=>aW (H6.aq hb) O (bB O O),?_,?_,?_,av⟩
    ·intro e1 w1 cc dF bU dO hp aX hq;show ao _ _ _ _ _ _ _;refine kA O (by exact aX 16 _ O (by kernel_rfl)) O (ao.n (eO O (by exact O)))
    ·refine cP fun e1 w1 hb hp aX hq=>?_
     refine aB (bH.aq hb).2 O (ao.n (eO O (by exact O)))
    ·refine cP fun e1 w1 hb hp aX hq=>?_
     refine aW (bH.aq hb) O (ao.n ?_);exact eO O (by exact aH (Value.int .i64) hV)
    ·refine cP fun e1 w1 hb hp aX hq=>?_
     exact eE (St.refl _) O O O fun iZ oT sL=>ao.n (eX.dn O sL.below ⟨iZ,O,(su.aq hb).call sL⟩)
    ·refine jc fun e1 w1 hb hp aX hq=>?_
     obtain⟨iZ,oK,h1⟩:=(hp 14 _ _ (by kernel_rfl) rfl rfl (by kernel_rfl));refine fj 1 h1 O (h1.bo 0 O) O (by exact oK) O ?_;intro di dB yH xf;exact ao.n (fg.dn O ⟨di,dB,O,xf.tail⟩)
    refine dP 1 fun e1 w1 hp aX hq=>?_
    have eT:=hp 15 _ _ (by kernel_rfl) O O (by kernel_rfl);obtain⟨di,dB,oK,h1⟩:=(hp 15 _ _ (by kernel_rfl) rfl rfl (by kernel_rfl));refine kA O (by exact oK) O (ao.n ?_);exact eX.dn O (Below.refl _ _) ⟨di,dB,O,h1⟩
   intro u lU _ hu _ _;obtain⟨di,dB,Q3,hT⟩:=hu 16 _ rfl (by kernel_rfl);refine gZ O (aK O (aR O (tQ ?_)));refine⟨(j+1,di,dB,acc++ [gi num mv]),by show ord.length - (j+1)<ord.length - j;omega,⟨O,O,O,O,O,O,O,Q3,O,av⟩,hT,by show j+1<=ord.length;omega,by simp [kH],fun x gF=>?_⟩;rcases gL.1 gF with h | h
   ·exact sw x h
   rw [eP]at h;subst h;exact Jb
  have xF:j=ord.length:=by omega
  refine bk O (bm (ct O ?_));refine aS (su.rd 1 O) O (aZ (su.rd 1 O) O (ar O (l6 su O O O ?_)));intro Lp lU Ih;refine l5 3 Ih O (Ih.fz 0 O) O O O (by omega) (by omega) O ?_;intro mU nq uC zS;have zS:St w9 uC (aw 2 ku j pW acc::Bx 37 1 gJ [.slice C q cC]::bE 24 mU (q+1) nq (fN++ [⟨ku,j,pW⟩])::b6 2 fN iz):=zS.tail;refine aS (zS.rd 1 O) O (kB 1 zS O O O O O ?_);intro oS xe;have xe:St w9 oS (aw 2 ku j pW acc::Bx 37 1 gJ [.slice mU (q+1) nq]::bE 24 mU (q+1) nq (fN++ [⟨ku,j,pW⟩])::b6 2 fN iz):=xe;refine ar O (aK O (aR O (tQ ?_)));refine⟨⟨0,0,mU,q+1,nq,fN++ [⟨ku,j,pW⟩],iz++ [acc]⟩,by show 3 - (q+1)<3 - q;omega,(WM O),?_,by show q+1<=3;omega,by simp [bM],by simp [EO],fun p hp=>?_⟩
  ·show St w9 oS ([_]++bE 24 mU (q+1) nq (fN++ [⟨ku,j,pW⟩])::b6 2 (fN++ [⟨ku,j,pW⟩]) (iz++ [acc]));rw [yA (by omega)];refine xe.perm ?_;exact ka (l₁:=[_]) (l₂:=_::bE 24 mU (q+1) nq (fN++ [⟨ku,j,pW⟩])::b6 2 fN iz)
  rcases gL.1 hp with h | h
  ·exact EP p h
  rw [eP]at h;subst h;exact⟨by omega,sw⟩
 have vE:q=3:=by omega
 subst vE;have hF:=bg.call DN;have u5:St w0 eh (Bx 37 1 gJ [.slice C 3 cC]::(aQ 24 2 C 3 cC fN iz++ (Bx 37 1 A4 [.slice none 0 0]::ks.set ix k'))):=
  hF.sub (List.Sublist.cons_cons _ (List.Sublist.append_left ((gq _ _).cons _ |>.cons _) _))
 have sj:St w0 eh (Bx 37 1 gJ [.slice C 3 cC]::Bx 37 1 A4 [.slice none 0 0]::(aQ 24 2 C 3 cC fN iz++ks.set ix k')):=u5.perm (List.Perm.cons _ iA);refine bk O (bm (ct O ?_));refine bK 0 (sj.rd 0 O) O O O (dG 1 1 sj O O O O O O O ?_);intro gp HQ;refine bI O (jC O (HQ.rd 1 O) ?_);exact⟨C,cC,fN,iz,ord.length,k',O,bM,EO,EP,⟨QK,by omega⟩,ot,(HQ.sub ((gB _).cons _)).sub ((gB _).cons _)⟩
theorem uB{a b a' b':ad}(h:a=a')(h':b=b'):[a,b]=[a',b']:=by rw [h,h']
theorem BA{Q:gu}{e:Env}{w:aa}{F:List (Nat×ad)}(hM:Mt e F)(h:Q .normal (ext e F) w):Q .normal e w:=by rwa [sb hM]at h
theorem uy{w0 w:aa}{ks:List Ck}(X:List Ck)(ix:Nat){As:aj}{k:Ck}(n:Int)(hS:St w0 w (X++ks))(hk:ks[ix]?=some k)(hK:fu w0 As k):
 aJ prog 94 [.pointer As,ak n] w (fun v w'=>∃(r:Int) (k':Ck),v=ak r/\(0<=r/\(1<=n->r<n)/\(n<1->r=0))/\fu w0 As k'/\St w0 w' (X++ks.set ix k')):=by
 have e:(X++ks)[X.length+ix]?=some k:=by
  rw [lZ (by omega),Nat.add_sub_cancel_left];exact hk
 have h:=s9 (X.length+ix) n hS e hK;refine h.mono ?_;rintro v w' ⟨r,k',h1,h2,h3,h4⟩;rw [show(X++ks).set (X.length+ix) k'=X++ks.set ix k' from by rw [List.set_append,aC (by omega),Nat.add_sub_cancel_left]]at h4;exact⟨r,k',h1,h2,h3,h4⟩
def B0(most:Nat)(w0:aa)(ks:List Ck)(ix:Nat)(As:aj)(v:ad)(w':aa):Prop:=
 ∃(n N:Nat) (A:aj) (c:Nat) (rs:List aL) (xss:ah) (k':Ck),v= .agg #[.slice A n c]/\(1<=n/\n<=5)/\(1<=N/\N<=most)/\rs.length=n/\xss.length=n/\GM N xss/\fu w0 As k'/\St w0 w' (aQ 24 2 A n c rs xss++ks.set ix k')
structure FR where
 n:Nat
 N:Nat
 A:aj
 c:Nat
 rs:List aL
 xss:ah
 k:Ck
abbrev pU(A4 A5 A6 Ar Ae:aj)(vs:List ad)(X:List Ck):List Ck:=
 Bx 37 1 A6 vs::Bx 37 1 A5 [.slice Ar 1 1]::Bx 37 1 A4 [.slice none 0 0]::(aQ 24 2 Ar 1 1 [⟨Ae,2,2⟩] [[1,0]]++X)
abbrev anyM(A4 A5 A6 Ar Ae:aj)(vs:List ad)(ms X:List Ck):List Ck:=
 Bx 37 1 A6 vs::Bx 37 1 A5 [.slice Ar 1 1]::Bx 37 1 A4 [.slice none 0 0]::(ms++ (aQ 24 2 Ar 1 1 [⟨Ae,2,2⟩] [[1,0]]++X))
theorem any_join{w0 w w':aa}{A4 A5 A6 Ar Ae:aj}{vs:List ad}{ms X:List Ck}(hS:St w0 w (pU A4 A5 A6 Ar Ae vs X))(hT:St w w' ms):St w0 w' (anyM A4 A5 A6 Ar Ae vs ms X):=(hS.call hT).perm ((iA (l₁:=ms)).trans (List.Perm.cons _ ((iA (l₁:=ms)).trans (List.Perm.cons _ (iA (l₁:=ms))))))
theorem MC{w0 w':aa}{A4 A5 A6 Ar Ae:aj}{vs:List ad}{ms X:List Ck}(hS:St w0 w' (ms++pU A4 A5 A6 Ar Ae vs X)):St w0 w' (anyM A4 A5 A6 Ar Ae vs ms X):=
 hS.perm ((iA (l₁:=ms)).trans (List.Perm.cons _ ((iA (l₁:=ms)).trans (List.Perm.cons _ (iA (l₁:=ms))))))
theorem uO{w0 w':aa}{A4 A5 A6 Ar Ae:aj}{vs:List ad}{ms X:List Ck}(hS:St w0 w' (anyM A4 A5 A6 Ar Ae vs ms X)):St w0 w' (pU A4 A5 A6 Ar Ae vs X):=
 hS.sub (List.Sublist.cons_cons _ (List.Sublist.cons_cons _ (List.Sublist.cons_cons _ (gq _ _))))
theorem FE{w0 w:aa}{A4 A5 A6 Ar Ae:aj}{vs:List ad}{ms ks:List Ck}(ix:Nat){As:aj}{k:Ck}(n:Int)(hS:St w0 w (anyM A4 A5 A6 Ar Ae vs ms ks))(hk:ks[ix]?=some k)(hK:fu w0 As k):
 aJ prog 94 [.pointer As,ak n] w (fun v w'=>∃(r:Int) (k':Ck),v=ak r/\(0<=r/\(1<=n->r<n)/\(n<1->r=0))/\fu w0 As k'/\St w0 w' (anyM A4 A5 A6 Ar Ae vs ms (ks.set ix k'))):=by
 have e:∀X,anyM A4 A5 A6 Ar Ae vs ms X=anyM A4 A5 A6 Ar Ae vs ms []++X:=fun X=>by simp [anyM]
 rw [e]at hS;refine(uy _ ix n hS hk hK).mono ?_;rintro v w' ⟨r,k',h1,h2,h3,h4⟩;rw [<-e]at h4;exact⟨r,k',h1,h2,h3,h4⟩
theorem yO:GM 2 [[1,0]]:=fun p hp=>by
 rw [eP]at hp;subst hp;exact⟨O,fun x hx=>by
  rcases kT.1 hx with rfl | hx
  ·decide
  rw [eP]at hx;subst hx;decide⟩
structure Lt(w0:aa)(ks:List Ck)(ix:Nat)(As A4 A5 A6 Ar Ae:aj)(most p:Nat)(D:Int)(S:Nat->Bool)(e:Env)(w:aa):Prop where
 f0:e 0= .pointer As
 f1:e 1=ak most
 f4:e 4= .pointer A4
 f5:e 5= .pointer A5
 f6:e 6= .pointer A6
 f7:e 7=ak p
 p0:S 0=true->e 52=ak p
 p2:S 2=true->e 54= .pointer As
 p3:S 3=true->e 55=ak most
 p4:S 4=true->e 56=ak p
 p5:S 5=true->e 57=ak (4* (p:Int))
 p6:S 6=true->e 58=ak D
 p7:S 7=true->∃r:Int,e 59=ak r/\0<=r/\r<=250/\(1+r)* (4* (p:Int))<=most
 p8:S 8=true->∃q:Nat,e 60=ak q/\1<=q/\q<=251/\2*p* (2*q)<=most
 mem:∃(b1 b2 b3:List Ck) (kk:Ck) (vs:List ad),fu w0 As kk/\(S 1=true->∃A c rs xss,e 53= .agg #[.slice A 2 c]/\rs.length=2/\xss.length=2/\GM (2*p) xss/\b1=aQ 24 2 A 2 c rs xss)/\(S 9=true->∃A c rs xss q,e 61= .agg #[.slice A 2 c]/\(1<=q/\q<=251/\2*p* (2*q)<=most)/\rs.length=2/\xss.length=2/\GM (2*q) xss/\b2=aQ 24 2 A 2 c rs xss)/\(S 11=false->vs=[.slice Ar 1 1])/\(S 10=true->∃A c rs xss N,e 62= .agg #[.slice A 4 c]/\(1<=N/\N<=most)/\rs.length=4/\xss.length=4/\GM N xss/\b3=aQ 24 2 A 4 c rs xss/\(S 11=true->vs=[.slice A 4 c]))/\
  St w0 w (anyM A4 A5 A6 Ar Ae vs (b3++ (b2++b1)) (ks.set ix kk))
theorem Cq{w0 w':aa}{A4 A5 A6 Ar Ae:aj}{vs:List ad}{n m m' X:List Ck}(hS:St w0 w' (n++anyM A4 A5 A6 Ar Ae vs m X))(hm:(n++m).Perm m'):St w0 w' (anyM A4 A5 A6 Ar Ae vs m' X):=
 hS.perm ((iA (l₁:=n)).trans (List.Perm.cons _ ((iA (l₁:=n)).trans (List.Perm.cons _ ((iA (l₁:=n)).trans (List.Perm.cons _ (by rw [<-ig];exact hm.append_right _)))))))
theorem uP{w0 w':aa}{A4 A5 A6 Ar Ae:aj}{vs:List ad}{m m' X:List Ck}(hS:St w0 w' (anyM A4 A5 A6 Ar Ae vs m X))(hm:m'.Sublist m):St w0 w' (anyM A4 A5 A6 Ar Ae vs m' X):=
 hS.sub (List.Sublist.cons_cons _ (List.Sublist.cons_cons _ (List.Sublist.cons_cons _ (hm.append (gB _)))))
theorem Se{w0 w:aa}{ks:List Ck}(ix:Nat){As:aj}{k:Ck}(most:Nat)(hS:St w0 w ks)(hk:ks[ix]?=some k)(hK:fu w0 As k)(hm:8<=most/\most<=1000):
 aJ prog 176 [.pointer As,ak most] w (B0 most w0 ks ix As):=by
 refine br func176 O ntmps176 O (pD O O) (a8 O (jH hS O ?_));intro A4 w1 ay;refine ar O (pP [1,0] ay O O (by decide) (by decide) O O fun Ae w2 aM=>l6 aM O O O fun Ar w3 aU=>Ga (by exact inferInstance) O O O O (jH aU O ?_));intro A5 w4 bd;refine dG 1 0 bd O O O O O O O fun w5 bh=>ar O (bK 0 (bh.rd 0 O) O O O (jH bh O ?_));intro A6 w6 bD;refine dG 1 0 bD O O O O O O O ?_;intro w7 bl;have bl:St w0 w7 (pU A4 A5 A6 Ar Ae [.slice Ar 1 1] ks):=bl.perm (List.Perm.cons _ (List.Perm.cons _ ((ka (l₁:=[_,_]) (l₂:=[_])).append_right ks)));refine yQ 0 O (pK (α:=FR) (fun s=> [(0,.pointer As),(1,ak most),(4,.pointer A4),(5,.pointer A5),(6,.pointer A6)]) (fun s w'=> (1<=s.n/\s.n<=5)/\(1<=s.N/\s.N<=most)/\s.rs.length=s.n/\s.xss.length=s.n/\GM s.N s.xss/\fu w0 As s.k/\St w0 w' (anyM A4 A5 A6 Ar Ae [.slice s.A s.n s.c] (aQ 24 2 s.A s.n s.c s.rs s.xss) (ks.set ix s.k))) ?_ ?_)
 ·refine a8 O (aI (s9 (ix+5) 7 bl (by exact hk) hK) O ?_);rintro _ w8 ⟨r,k1,rfl,hr,mC,b7⟩;have b7:St w0 w8 (pU A4 A5 A6 Ar Ae [.slice Ar 1 1] (ks.set ix k1)):=b7;have fR:=kP (k':=k1) hk;refine aE O (aN _ O (fun h1=>?_) (fun h1=>?_))
  ·refine aG O (ao.quo O O O (by omega) (aI (s9 (ix+5) _ b7 (by exact fR) mC) O ?_));rintro _ w9 ⟨q,k2,rfl,hq,ir,bg⟩;have bg:St w0 w9 (pU A4 A5 A6 Ar Ae [.slice Ar 1 1] ((ks.set ix k1).set ix k2)):=bg;rw [jx]at bg;have nC:=kP (k':=k2) hk;refine aK O ?_;obtain⟨p,hp⟩:∃p:Nat,1+q=p:=⟨(1+q).toNat,by omega⟩;rw [hp];refine aI (Bm p _ (by omega)) O ?_;rintro _ dw ⟨A,c,rs,xss,rfl,bM,eu,hG,hT⟩;have bQ:=any_join bg hT;refine dG 1 0 bQ O O O O O O O fun ew dT=>aR O (tQ ?_);exact⟨⟨2,2*p,A,c,rs,xss,k2⟩,(WM O),(by show 1<=2/\2<=5;decide),⟨by show 1<=2*p;omega,by show 2*p<=most;omega⟩,bM,eu,hG,ir,dT⟩
  ·refine df O (aN _ O (fun h2=>?_) (fun h2=>?_))
   ·refine aG O (bK 0 (b7.rd 1 O) O O O (dG 1 2 b7 O O O O O O O ?_));intro w9 bg;refine bI O (dN (dE ?_));refine jC O (bg.rd 2 O) ?_;exact⟨1,2,Ar,1,[⟨Ae,2,2⟩],[[1,0]],k1,O,by decide,⟨by decide,by omega⟩,O,O,yO,mC,bg.tail.tail.tail⟩
   ·refine df O (aN _ O (fun h3=>?_) (fun h3=>?_))
    ·refine aG O (ao.quo O O O (by omega) (aI (s9 (ix+5) _ b7 (by exact fR) mC) O ?_));rintro _ w9 ⟨q,k2,rfl,hq,ir,bg⟩;have bg:St w0 w9 (pU A4 A5 A6 Ar Ae [.slice Ar 1 1] ((ks.set ix k1).set ix k2)):=bg;rw [jx]at bg;refine aK O ?_;obtain⟨p,hp⟩:∃p:Nat,1+q=p:=⟨(1+q).toNat,by omega⟩;rw [hp];refine aI (Bm p _ (by omega)) O ?_;rintro _ dw ⟨A,c,rs,xss,rfl,bM,eu,hG,hT⟩;have bQ:=any_join bg hT;refine dG 1 0 bQ O O O O O O O ?_;intro ew dT;have dT:St w0 ew (anyM A4 A5 A6 Ar Ae [.slice A 2 c] (aQ 24 2 A 2 c rs xss) (ks.set ix k2)):=dT;refine ar O (bK 0 (dT.rd 0 O) O O O (bK 0 (dT.rd 1 O) O O O ?_));refine aI (Bl A 2 c rs xss (2*p) Ar 1 1 [⟨Ae,2,2⟩] [[1,0]] 2 ew (St.iX dT.tail.tail.tail (by omega)) (St.iX (uO dT).tail.tail.tail O) (by decide) (by decide) hG yO (by omega) (by omega) (by omega)) O ?_;rintro _ eh ⟨A',c',rs',xss',rfl,oG,pw,oq,ic⟩;have dC:=any_join (uO dT) ic;refine dG 1 0 dC O O O O O O O fun gp eJ=>aR O (tQ ?_);exact⟨⟨3,2*p*2,A',c',rs',xss',k2⟩,(WM O),(by show 1<=3/\3<=5;decide),⟨by show 1<=2*p*2;omega,by show 2*p*2<=most;omega⟩,oG,pw,oq,ir,eJ⟩
    ·refine df O (aN _ O (fun h4=>?_) (fun h4=>?_))
     ·refine aG O (aI (s9 (ix+5) 4 b7 (by exact fR) mC) O ?_);rintro _ w9 ⟨q,k2,rfl,hq,ir,bg⟩;have bg:St w0 w9 (pU A4 A5 A6 Ar Ae [.slice Ar 1 1] ((ks.set ix k1).set ix k2)):=bg;rw [jx]at bg;refine aK O (yQ 0 O ?_);refine pK (α:=Nat) (fun p=> [(0,.pointer As),(1,ak most),(4,.pointer A4),(5,.pointer A5),(6,.pointer A6),(7,ak p)]) (fun p w'=>w'=w9/\(1<=p/\p<=4)/\4*p<=most) ?_ ?_
      ·refine a8 O (ao.mul O O O (by omega) (aE O ?_));refine aN _ O (fun h5=>?_) (fun h5=>?_)
       ·refine wm O (tQ ?_);exact⟨2,(WM O),O,by decide,by omega⟩
       ·refine wm O (tQ ?_);exact⟨(1+q).toNat,⟨O,O,O,O,O,aH (Value.int .i64) (by omega),av⟩,O,by omega,by omega⟩
      rintro p e dw ⟨rfl,hp,hp4⟩;obtain⟨D,hD⟩:∃D:Int,(most:Int) / (4* (p:Int))=D:=⟨_,rfl⟩;have hDb:0<=D/\D<=250:=by
       rcases(by omega:p=1\/p=2\/p=3\/p=4)with rfl | rfl | rfl | rfl<;>omega
      have OX:∀r:Int,0<=r->(1<=D->r<D)->(D<1->r=0)->(1+r)* (4* (p:Int))<=most:=fun r r0 r1 r2=>by
       rcases(by omega:p=1\/p=2\/p=3\/p=4)with rfl | rfl | rfl | rfl<;>omega
      have nE:∀r:Int,0<=r->(1+r)* (4* (p:Int))<=most->2*p* (2* (1+r).toNat)<=most:=fun r r0 h=>by
       rcases(by omega:p=1\/p=2\/p=3\/p=4)with rfl | rfl | rfl | rfl<;>omega
      refine tg (by kernel_rfl) (by kernel_rfl) (fun S e1 w1=>Lt w0 ks ix As A4 A5 A6 Ar Ae most p D S e1 w1) (fun w4 hb=> ⟨O,O,O,O,O,O,fun h=> (nomatch h),fun h=> (nomatch h),fun h=> (nomatch h),fun h=> (nomatch h),fun h=> (nomatch h),fun h=> (nomatch h),fun h=> (nomatch h),fun h=> (nomatch h),[],[],[],k2,[.slice Ar 1 1],ir,fun h=> (nomatch h),fun h=> (nomatch h),fun _=>O,fun h=> (nomatch h),bg.aq hb⟩) ?_ ?_
      ·intro S i o e1 w4 hq bz hd cT hI;obtain⟨f0,f1,f4,f5,f6,f7,p0,p2,p3,p4,p5,p6,p7,p8,B1,B2,B3,kk,vs,cV,m1,m9,m11,m10,hT⟩:=hI
       match i,hq,bz with
       | 0,hq,bz=>
        obtain rfl:=bV hq;refine lE O (by exact f7) O (ao.n ?_);exact⟨f0,f1,f4,f5,f6,f7,fun _=>O,p2,p3,p4,p5,p6,p7,p8,B1,B2,B3,kk,vs,cV,m1,m9,m11,m10,hT⟩
       | 1,hq,bz=>
        obtain rfl:=bV hq;refine WD (Bm p w4 (by omega)) O (by exact aH (fun v=> [v]) (p0 (b5 hd 0 O))) O ?_;rintro _ w5 ⟨A,c,rs,xss,rfl,bM,eu,hG,ic⟩;have gx:=Cq (m':=B3++ (B2++aQ 24 2 A 2 c rs xss)) ((uP hT (m':=B3++ (B2++ [])) ((gB _).append ((gB _).append (List.nil_sublist _)))).call ic) (by rw [fO,<-ig B3 B2];exact ka);exact ao.n ⟨f0,f1,f4,f5,f6,f7,p0,p2,p3,p4,p5,p6,p7,p8,aQ 24 2 A 2 c rs xss,B2,B3,kk,vs,cV,fun _=> ⟨A,c,rs,xss,O,bM,eu,hG,O⟩,m9,m11,m10,gx⟩
       | 2,hq,bz=>
        obtain rfl:=bV hq;refine uI O (by exact f0) O (ao.n ?_);exact⟨f0,f1,f4,f5,f6,f7,p0,fun _=>O,p3,p4,p5,p6,p7,p8,B1,B2,B3,kk,vs,cV,m1,m9,m11,m10,hT⟩
       | 3,hq,bz=>
        obtain rfl:=bV hq;refine lE O (by exact f1) O (ao.n ?_);exact⟨f0,f1,f4,f5,f6,f7,p0,p2,fun _=>O,p4,p5,p6,p7,p8,B1,B2,B3,kk,vs,cV,m1,m9,m11,m10,hT⟩
       | 4,hq,bz=>
        obtain rfl:=bV hq;refine lE O (by exact f7) O (ao.n ?_);exact⟨f0,f1,f4,f5,f6,f7,p0,p2,p3,fun _=>O,p5,p6,p7,p8,B1,B2,B3,kk,vs,cV,m1,m9,m11,m10,hT⟩
       | 5,hq,bz=>
        obtain rfl:=bV hq;refine ao.mul O (by exact p4 (b5 hd 4 O)) O (by omega) (ao.n ?_);exact⟨f0,f1,f4,f5,f6,f7,p0,p2,p3,p4,fun _=>O,p6,p7,p8,B1,B2,B3,kk,vs,cV,m1,m9,m11,m10,hT⟩
       | 6,hq,bz=>
        obtain rfl:=bV hq;refine ao.quo (by exact p3 (b5 hd 3 O)) (by exact p5 (b5 hd 5 O)) O (by omega) (ao.n ?_);exact⟨f0,f1,f4,f5,f6,f7,p0,p2,p3,p4,p5,fun _=>aH (Value.int .i64) hD,p7,p8,B1,B2,B3,kk,vs,cV,m1,m9,m11,m10,hT⟩
       | 7,hq,bz=>
        obtain rfl:=bV hq;have pc:=kP (k':=kk) hk;refine WD (FE ix D hT pc cV) O (by exact uB (p2 (b5 hd 2 O)) (p6 (b5 hd 6 O))) O ?_;rintro _ w5 ⟨r7,k7,rfl,uc,DB,fL⟩;rw [jx]at fL;refine ao.n ?_;exact⟨f0,f1,f4,f5,f6,f7,p0,p2,p3,p4,p5,p6,fun _=> ⟨r7,O,uc.1,by omega,OX r7 uc.1 uc.2.1 uc.2.2⟩,p8,B1,B2,B3,k7,vs,DB,m1,m9,m11,m10,fL⟩
       | 8,hq,bz=>
        obtain rfl:=bV hq;obtain⟨r7,h7,uc⟩:=p7 (b5 hd 7 rfl);refine WG O (by exact h7) O (by omega) (ao.n ?_);exact⟨f0,f1,f4,f5,f6,f7,p0,p2,p3,p4,p5,p6,p7,fun _=> ⟨(1+r7).toNat,aH (Value.int .i64) (by omega),by omega,by omega,nE r7 uc.1 uc.2.2⟩,B1,B2,B3,kk,vs,cV,m1,m9,m11,m10,hT⟩
       | 9,hq,bz=>
        obtain rfl:=bV hq;obtain⟨q8,h8,Ey⟩:=p8 (b5 hd 8 rfl);refine WD (Bm q8 w4 (by omega)) O (by exact aH (fun v=> [v]) h8) O ?_;rintro _ w5 ⟨A,c,rs,xss,rfl,bM,eu,hG,ic⟩;have gx:=Cq (m':=B3++ (aQ 24 2 A 2 c rs xss++B1)) ((uP hT (m':=B3++ ([]++B1)) ((gB _).append ((List.nil_sublist _).append (gB _)))).call ic) (by rw [List.nil_append,<-ig,<-ig];exact ka.append_right _);exact ao.n ⟨f0,f1,f4,f5,f6,f7,p0,p2,p3,p4,p5,p6,p7,p8,B1,aQ 24 2 A 2 c rs xss,B3,kk,vs,cV,m1,fun _=> ⟨A,c,rs,xss,q8,O,Ey,bM,eu,hG,O⟩,m11,m10,gx⟩
       | 10,hq,bz=>
        obtain rfl:=bV hq;obtain⟨A1,c1,jW,v8,HF,QP,Ra,HT,rfl⟩:=m1 (b5 hd 1 rfl);obtain⟨A2,c2,s7,wa,q8,HG,Ey,QQ,Rb,HU,rfl⟩:=m9 (b5 hd 9 rfl);have n11:S 11=false:=by
         cases h:S 11 with
         | false=>rfl
         | true=>rw [<-bz];exact(b5 (cT 11 _ h rfl) 10 rfl).symm
        have zU:bq w4 A1 2 jW v8:=St.iX ((uP hT (m':=[]++ ([]++aQ 24 2 A1 2 c1 jW v8)) ((List.nil_sublist _).append ((List.nil_sublist _).append (gB _)))).tail.tail.tail) (by omega);have Pu:bq w4 A2 2 s7 wa:=St.iX ((uP hT (m':=aQ 24 2 A2 2 c2 s7 wa) ((kU _ _).trans (gq _ _))).tail.tail.tail) (by omega);have hN:2*p* (2*q8)<=8*502:=Nat.mul_le_mul (by omega) (by omega);have zM:1<=2*p* (2*q8):=Nat.mul_pos (by omega) (by omega);refine WD (Bl A1 2 c1 jW v8 (2*p) A2 2 c2 s7 wa (2*q8) w4 zU Pu (by decide) (by decide) HT HU (by omega) (by omega) (by omega)) O (by exact uB HF HG) O ?_;rintro _ w5 ⟨A,c,rs,xss,rfl,bM,eu,hG,ic⟩;have gx:=Cq (m':=aQ 24 2 A (2+2) c rs xss++ (aQ 24 2 A2 2 c2 s7 wa++aQ 24 2 A1 2 c1 jW v8)) ((uP hT (gq _ _)).call ic) (List.Perm.refl _);refine ao.n ?_;exact⟨f0,f1,f4,f5,f6,f7,p0,p2,p3,p4,p5,p6,p7,p8,aQ 24 2 A1 2 c1 jW v8,aQ 24 2 A2 2 c2 s7 wa,aQ 24 2 A (2+2) c rs xss,kk,vs,cV,fun _=> ⟨A1,c1,jW,v8,HF,QP,Ra,HT,O⟩,fun _=> ⟨A2,c2,s7,wa,q8,HG,Ey,QQ,Rb,HU,O⟩,m11,fun _=> ⟨A,c,rs,xss,2*p* (2*q8),O,⟨zM,by omega⟩,bM,eu,hG,O,fun h=> (nomatch n11.symm.trans h)⟩,gx⟩
       | 11,hq,bz=>
        obtain rfl:=bV hq;obtain⟨A,c,rs,xss,N,Dh,hN,bM,eu,hG,rfl,_⟩:=m10 (b5 hd 10 rfl);obtain rfl:=m11 bz;refine dG 1 0 hT O (by exact f6) (by exact Dh) O O O O ?_;intro w5 gx;refine ao.n ?_;exact⟨f0,f1,f4,f5,f6,f7,p0,p2,p3,p4,p5,p6,p7,p8,B1,B2,_,kk,[.slice A 4 c],cV,m1,m9,fun h=> (nomatch (show true=false from h)),fun _=> ⟨A,c,rs,xss,N,Dh,hN,bM,eu,hG,O,fun _=>O⟩,gx⟩
       | i+12,hq,_=>exact(nomatch hq)
      ·intro S e1 w4 dv hI;obtain⟨f0,f1,f4,f5,f6,f7,p0,p2,p3,p4,p5,p6,p7,p8,B1,B2,B3,kk,vs,cV,m1,m9,m11,m10,hT⟩:=hI;obtain⟨A,c,rs,xss,N,Dh,hN,bM,eu,hG,rfl,yc⟩:=m10 (dv 10 (by decide));obtain rfl:=yc (dv 11 (by decide));refine BA (F:=[(0,.pointer As),(1,ak most),(4,.pointer A4),(5,.pointer A5),(6,.pointer A6)]) ⟨f0,f1,f4,f5,f6,av⟩ (F2 O (tQ ?_));exact⟨⟨4,N,A,c,rs,xss,kk⟩,(WM O),(by show 1<=4/\4<=5;decide),hN,bM,eu,hG,cV,uP hT (kU _ _)⟩
     ·refine aG O (ao.quo O O O (by omega) (aI (s9 (ix+5) _ b7 (by exact fR) mC) O ?_));rintro _ w9 ⟨q,k2,rfl,hq,ir,bg⟩;have bg:St w0 w9 (pU A4 A5 A6 Ar Ae [.slice Ar 1 1] ((ks.set ix k1).set ix k2)):=bg;rw [jx]at bg;have nC:=kP (k':=k2) hk;refine aK O ?_;obtain⟨p,hp⟩:∃p:Nat,1+q=p:=⟨(1+q).toNat,by omega⟩;rw [hp];refine aI (Si (ix+5) p bg (by exact nC) ir (by omega)) O ?_;rintro _ dw ⟨A,c,rs,xss,N,k3,rfl,bM,eu,hG,hN,kE,hT⟩;have hT:St w0 dw (aQ 24 2 A 3 c rs xss++pU A4 A5 A6 Ar Ae [.slice Ar 1 1] ((ks.set ix k2).set ix k3)):=hT;rw [jx]at hT;have bQ:=MC hT;refine dG 1 0 bQ O O O O O O O fun ew dT=>aR O (tQ ?_);exact⟨⟨3,N,A,c,rs,xss,k3⟩,(WM O),(by show 1<=3/\3<=5;decide),⟨hN.1,by show N<=most;omega⟩,bM,eu,hG,kE,dT⟩
 ·intro s e w9 hI;refine df O (Cd.loop (α:=FR) (fun s=> [(0,.pointer As),(1,ak most),(4,.pointer A4),(5,.pointer A5),(6,.pointer A6)]) (fun s w'=> (1<=s.n/\s.n<=5)/\(1<=s.N/\s.N<=most)/\s.rs.length=s.n/\s.xss.length=s.n/\GM s.N s.xss/\fu w0 As s.k/\St w0 w' (anyM A4 A5 A6 Ar Ae [.slice s.A s.n s.c] (aQ 24 2 s.A s.n s.c s.rs s.xss) (ks.set ix s.k))) (fun s=>5 - s.n) s (WM O) hI ?_);clear hI s;rintro⟨n,N,A,c,rs,xss,k2⟩ e dw ⟨hn,hN,bM,eu,hG,ir,bQ⟩;dsimp only at hn hN bM eu hG ir bQ|-;have nC:=kP (k':=k2) hk;refine a8 O (aS (bQ.rd 0 O) O (aZ (bQ.rd 0 O) O ?_));refine ba O O (ar O ?_);have Dv:∀(k5:Ck) (ew:aa),fu w0 As k5->St w0 ew (aQ 24 2 A n c rs xss++ (aQ 24 2 Ar 1 1 [⟨Ae,2,2⟩] [[1,0]]++ks.set ix k5))->B0 most w0 ks ix As (.agg #[.slice A n c]) ew:=fun k5 ew O5 h=> ⟨n,N,A,c,rs,xss,k5,O,hn,hN,bM,eu,hG,O5,h.sub ((gB _).append (gq _ _))⟩
  refine bY 67 O (fun h1=>?_) (fun h1=>?_)
  ·refine au O (bK 0 (bQ.rd 0 O) O O O (au O (aI (vL A n c rs xss dw (St.iX bQ.tail.tail.tail (by omega)) (by omega)) O ?_)));rintro _ ew ⟨rfl,hT⟩;have dT:=bQ.aq hT.below;rw [hG.first (by omega)];refine au O (ao.mul O O O (by omega) (au O (ar O (au O (ar O ?_)))));refine bY 74 O (fun h2=>?_) (fun h2=>?_)
   ·refine au O (ar O (au O ?_));refine aI (FE ix 3 dT nC ir) O ?_;rintro _ eh ⟨r,k3,rfl,hr,kE,dC⟩;rw [jx]at dC;have Qf:=kP (k':=k3) hk;refine au O (aE O ?_);refine aN _ O (fun h3=>?_) (fun h3=>?_)
    ·refine aG O (aI (FE ix 2 dC Qf kE) O ?_);rintro _ gp ⟨r',k4,rfl,dZ,HY,eJ⟩;rw [jx]at eJ;refine aE O (aN _ O (fun h4=>?_) (fun h4=>?_))
     ·skip
      refine aG O (bK 0 (eJ.rd 0 O) O O O (bK 0 (eJ.rd 1 O) O O O ?_));refine aI (Bl A n c rs xss N Ar 1 1 [⟨Ae,2,2⟩] [[1,0]] 2 gp (St.iX eJ.tail.tail.tail (by omega)) (St.iX (uO eJ).tail.tail.tail O) (by omega) (by decide) hG yO (by omega) (by omega) (by omega)) O ?_;rintro _ lT ⟨A',c',rs',xss',rfl,oG,pw,oq,ic⟩;have iS:=any_join (uO eJ) ic;refine dG 1 0 iS O O O O O O O fun lU gP=>aR O (tQ ?_);exact⟨⟨n+1,N*2,A',c',rs',xss',k4⟩,by show 5 - (n+1)<5 - n;omega,(WM O),⟨by show 1<=n+1;omega,by show n+1<=5;omega⟩,⟨by show 1<=N*2;omega,by show N*2<=most;omega⟩,oG,pw,oq,HY,gP⟩
     ·skip
      refine aG O (bK 0 (eJ.rd 1 O) O O O (bK 0 (eJ.rd 0 O) O O O ?_));refine aI (Bl Ar 1 1 [⟨Ae,2,2⟩] [[1,0]] 2 A n c rs xss N gp (St.iX (uO eJ).tail.tail.tail O) (St.iX eJ.tail.tail.tail (by omega)) (by decide) (by omega) yO hG (by omega) (by omega) (by omega)) O ?_;rintro _ lT ⟨A',c',rs',xss',rfl,oG,pw,oq,ic⟩;have iS:=any_join (uO eJ) ic;refine dG 1 0 iS O O O O O O O fun lU gP=>aR O (tQ ?_);exact⟨⟨1+n,2*N,A',c',rs',xss',k4⟩,by show 5 - (1+n)<5 - n;omega,(WM O),⟨by show 1<=1+n;omega,by show 1+n<=5;omega⟩,⟨by show 1<=2*N;omega,by show 2*N<=most;omega⟩,oG,pw,oq,HY,gP⟩
    ·refine bk O (bm (ct O ?_));refine bK 0 (dC.rd 0 O) O O O (dG 1 2 dC O O O O O O O ?_);intro oT ov;refine bI O (jC O (ov.rd 2 O) ?_);exact Dv k3 oT ‹_› ov.tail.tail.tail
   ·refine az O (az O (az O (aE O ?_)));refine Cd.eM O (bk O (bm (ct O ?_)));refine bK 0 (dT.rd 0 O) O O O (dG 1 2 dT O O O O O O O ?_);intro oT ov;refine bI O (jC O (ov.rd 2 O) ?_);exact Dv k2 oT ‹_› ov.tail.tail.tail
  ·refine az O (az O (az O (az O (az O (ar O (az O (az O (az O (aE O ?_)))))))));refine Cd.eM O (bk O (bm (ct O ?_)));refine bK 0 (bQ.rd 0 O) O O O (dG 1 2 bQ O O O O O O O ?_);intro oT ov;refine bI O (jC O (ov.rd 2 O) ?_);exact Dv k2 oT ‹_› ov.tail.tail.tail
theorem KU{N:Nat}{f g:Nat->Int}(hg:∀i,i<N->0<=g i/\g i< (N:Int)):∀ {m:Nat} {xs:ai},m<=N->Rg N xs->Rg N (ux xs f g m)
 | 0,_,_,h=>h
 | m+1,xs,hm,h=>by
  have h1:=KU (f:=f) hg (m:=m) (by omega) h;have h2:=hg m (by omega);refine⟨by simp [ux,h1.1],fun x hx=>?_⟩;simp only [ux]at hx;rcases List.mem_or_eq_of_mem_set hx with hx | rfl
  ·exact h1.2 x hx
  ·exact h2
theorem GM.Ue{N:Nat}{p:ai}{xss:ah}(h:GM N xss)(hp:Rg N p):GM N (xss.map (mo N p)):=fun q hq=>by
 obtain⟨mv,sG,rfl⟩:=fh.1 hq;have h1:=h mv sG;refine KU (fun i hi=>?_) (dh _) ⟨by simp,fun x hx=>by obtain⟨h0,rfl⟩:=List.mem_replicate.1 hx;omega⟩;have h2:=h1.gi (i:=(i:Int)) (by omega) (by omega);exact hp.gi h2.1 h2.2
structure LC(w0:aa)(ks:List Ck)(ix:Nat)(As A4 A5:aj)(n N:Nat)(A:aj)(c:Nat)(rs:List aL)(xss:ah)(S:Nat->Bool)(e:Env)(w:aa):Prop where
 f0:e 0= .pointer As
 f4:e 4= .pointer A4
 f5:e 5= .pointer A5
 p0:S 0=true->e 12= .agg #[.slice A n c]
 p1:S 1=true->e 13= .pointer As
 p2:S 2=true->e 14= .agg #[.slice A n c]
 p3:S 3=true->e 15=ak N
 mem:∃(b1 b2:List Ck) (kk:Ck) (vs:List ad),fu w0 As kk/\(S 4=true->∃Ap cp ps,e 16= .slice Ap N cp/\Rg N ps/\b1=[aw 2 Ap N cp ps])/\(S 6=false->vs=[.slice none 0 0])/\(S 5=true->∃A' c' rs' xss',e 17= .agg #[.slice A' n c']/\rs'.length=n/\xss'.length=n/\GM N xss'/\b2=aQ 24 2 A' n c' rs' xss'/\(S 6=true->vs=[.slice A' n c']))/\
  St w0 w (Bx 37 1 A5 [.slice A n c]::Bx 37 1 A4 vs::(aQ 24 2 A n c rs xss++ (b2++ (b1++ks.set ix kk))))
theorem R7{w0 w:aa}{ks:List Ck}(X:List Ck)(ix:Nat){As:aj}{k:Ck}(n:Nat)(hS:St w0 w (X++ks))(hk:ks[ix]?=some k)(hK:fu w0 As k)(hn:n<=1000000):
 aJ prog 178 [.pointer As,ak n] w (fun v w'=>∃A c xs k',v= .slice A n c/\Rg n xs/\fu w0 As k'/\St w0 w' (aw 2 A n c xs::(X++ks.set ix k'))):=by
 have e:(X++ks)[X.length+ix]?=some k:=by
  rw [lZ (by omega),Nat.add_sub_cancel_left];exact hk
 refine(JZ (X.length+ix) n hS e hK hn).mono ?_;rintro v w' ⟨A,c,xs,k',h1,h2,h3,h4⟩;rw [show(X++ks).set (X.length+ix) k'=X++ks.set ix k' from by rw [List.set_append,aC (by omega),Nat.add_sub_cancel_left]]at h4;exact⟨A,c,xs,k',h1,h2,h3,h4⟩
theorem J3{w0 w:aa}{ks:List Ck}(ix:Nat){As:aj}{k:Ck}(most:Nat)(hS:St w0 w ks)(hk:ks[ix]?=some k)(hK:fu w0 As k)(hm:8<=most/\most<=1000):
 aJ prog 103 [.pointer As,ak most] w (B0 most w0 ks ix As):=by
 refine br func103 O ntmps103 O (pD O O) (a8 O (jH hS O ?_));intro A4 w1 ay;refine ar O (aI (Se (ix+1) most ay (by exact hk) hK hm) O ?_);rintro _ w2 ⟨n,N,A,c,rs,xss,k1,rfl,hn,hN,bM,eu,hG,mC,aM⟩;refine jH aM O fun A5 w3 aU=>dG 1 0 aU O O O O O O O ?_;intro w4 bd;have bd:St w0 w4 (Bx 37 1 A5 [.slice A n c]::(aQ 24 2 A n c rs xss++ (Bx 37 1 A4 [.slice none 0 0]::ks.set ix k1))):=bd;have bd:St w0 w4 (Bx 37 1 A5 [.slice A n c]::Bx 37 1 A4 [.slice none 0 0]::(aQ 24 2 A n c rs xss++ks.set ix k1)):=bd.perm (List.Perm.cons _ iA);have fR:=kP (k':=k1) hk;refine ar O ?_;have Pb:∀(X:List Ck) (kk:Ck) (w5:aa) (vs:List ad) (q:Int),fu w0 As kk->St w0 w5 (Bx 37 1 A5 [.slice A n c]::Bx 37 1 A4 vs::(aQ 24 2 A n c rs xss++ (X++ks.set ix kk)))->aJ prog 94 [.pointer As,ak q] w5 (fun v w'=>∃(r:Int) (k':Ck),v=ak r/\(0<=r/\(1<=q->r<q)/\(q<1->r=0))/\fu w0 As k'/\St w0 w' (Bx 37 1 A5 [.slice A n c]::Bx 37 1 A4 vs::(aQ 24 2 A n c rs xss++ (X++ks.set ix k')))):=by
  intro X kk w5 vs q cV hT;have pc:=kP (k':=kk) hk;have e:∀Y,Bx 37 1 A5 [.slice A n c]::Bx 37 1 A4 vs::(aQ 24 2 A n c rs xss++ (X++Y))=(Bx 37 1 A5 [.slice A n c]::Bx 37 1 A4 vs::(aQ 24 2 A n c rs xss++X))++Y:=fun Y=>by simp
  rw [e]at hT;refine(uy _ ix q hT pc cV).mono ?_;rintro v w' ⟨r,k',h1,h2,h3,h4⟩;rw [<-e,jx]at h4;exact⟨r,k',h1,h2,h3,h4⟩
 refine aI (Pb [] k1 w4 _ 4 mC bd) O ?_;rintro _ w5 ⟨r,k2,rfl,hr,ir,bh⟩;have bh:St w0 w5 (Bx 37 1 A5 [.slice A n c]::Bx 37 1 A4 [.slice none 0 0]::(aQ 24 2 A n c rs xss++ks.set ix k2)):=bh;have nC:=kP (k':=k2) hk;refine aE O (aN _ O (fun h1=>?_) (fun h1=>?_))
 ·refine df O (tg (by kernel_rfl) (by kernel_rfl) (fun S e1 w1=>LC w0 ks ix As A4 A5 n N A c rs xss S e1 w1) (fun w6 hb=> ⟨O,O,O,fun h=> (nomatch h),fun h=> (nomatch h),fun h=> (nomatch h),fun h=> (nomatch h),[],[],k2,[.slice none 0 0],ir,fun h=> (nomatch h),fun _=>O,fun h=> (nomatch h),bh.aq hb⟩) ?_ ?_)
  ·intro S i o e1 w6 hq bz hd cT hI;obtain⟨f0,f4,f5,p0,p1,p2,p3,B1,B2,kk,vs,cV,m4,m6,m5,hT⟩:=hI;have hX:bq w6 A n rs xss:=St.iX hT.tail.tail (by omega)
   match i,hq,bz with
   | 0,hq,bz=>
    obtain rfl:=bV hq;refine bK 0 (hT.rd 0 O) (by exact f5) O O (ao.n ?_);exact⟨f0,f4,f5,fun _=>O,p1,p2,p3,B1,B2,kk,vs,cV,m4,m6,m5,hT⟩
   | 1,hq,bz=>
    obtain rfl:=bV hq;refine uI O (by exact f0) O (ao.n ?_);exact⟨f0,f4,f5,p0,fun _=>O,p2,p3,B1,B2,kk,vs,cV,m4,m6,m5,hT⟩
   | 2,hq,bz=>
    obtain rfl:=bV hq;refine bK 0 (hT.rd 0 O) (by exact f5) O O (ao.n ?_);exact⟨f0,f4,f5,p0,p1,fun _=>O,p3,B1,B2,kk,vs,cV,m4,m6,m5,hT⟩
   | 3,hq,bz=>
    obtain rfl:=bV hq;refine WD (vL A n c rs xss w6 hX (by omega)) O (by exact aH (fun v=> [v]) (p2 (b5 hd 2 O))) O ?_;rintro _ w7 ⟨rfl,ic⟩;have fL:=hT.aq ic.below;rw [hG.first (by omega)];exact ao.n ⟨f0,f4,f5,p0,p1,p2,fun _=>O,B1,B2,kk,vs,cV,m4,m6,m5,fL⟩
   | 4,hq,bz=>
    obtain rfl:=bV hq;have pc:=kP (k':=kk) hk;have e:(Bx 37 1 A5 [.slice A n c]::Bx 37 1 A4 vs::(aQ 24 2 A n c rs xss++ (B2++ (B1++ks.set ix kk))))=(Bx 37 1 A5 [.slice A n c]::Bx 37 1 A4 vs::(aQ 24 2 A n c rs xss++ (B2++B1)))++ks.set ix kk:=by simp
    have Ik:=hT;rw [e]at Ik;refine WD (R7 _ ix N Ik pc cV (by omega)) O (by exact uB (p1 (b5 hd 1 O)) (p3 (b5 hd 3 O))) O ?_;rintro _ w7 ⟨Ap,cp,ps,k7,rfl,kj,DB,fL⟩;rw [jx]at fL;have sv:St w0 w7 (Bx 37 1 A5 [.slice A n c]::Bx 37 1 A4 vs::(aQ 24 2 A n c rs xss++ (B2++ ([aw 2 Ap N cp ps]++ks.set ix k7)))):=by
     refine(fL.sub (ks':=aw 2 Ap N cp ps::Bx 37 1 A5 [.slice A n c]::Bx 37 1 A4 vs::((aQ 24 2 A n c rs xss++B2)++ks.set ix k7)) ?_).perm ?_
     ·rw [<-ig (aQ 24 2 A n c rs xss)];exact List.Sublist.cons_cons _ (List.Sublist.cons_cons _ (List.Sublist.cons_cons _ ((kU _ _).append (gB _))))
     ·rw [<-ig (aQ 24 2 A n c rs xss)];exact(List.Perm.swap _ _ _).trans (List.Perm.cons _ ((List.Perm.swap _ _ _).trans (List.Perm.cons _ iA.symm)))
    exact ao.n ⟨f0,f4,f5,p0,p1,p2,p3,[aw 2 Ap N cp ps],B2,k7,vs,DB,fun _=> ⟨Ap,cp,ps,O,kj,O⟩,m6,m5,sv⟩
   | 5,hq,bz=>
    obtain rfl:=bV hq;obtain⟨Ap,cp,ps,k8,kj,rfl⟩:=m4 (b5 hd 4 rfl);have n6:S 6=false:=by
     cases h:S 6 with
     | false=>rfl
     | true=>rw [<-bz];exact(b5 (cT 6 _ h rfl) 5 rfl).symm
    have hP:bu w6 Ap N ps:=((hT.sub ((((gq _ _).trans (gq _ _)).cons _).cons _):St w0 w6 (aw 2 Ap N cp ps::ks.set ix kk))).bo 0 O;refine WD (Sl A n c rs xss N Ap cp ps w6 hX (by omega) hG.sys (by omega) hP (fun x h0 h1=>kj.gi h0 h1)) O (by exact uB (p0 (b5 hd 0 O)) k8) O ?_;rintro _ w7 ⟨A',c',rs',rfl,oG,ic⟩;have sv:St w0 w7 (Bx 37 1 A5 [.slice A n c]::Bx 37 1 A4 vs::(aQ 24 2 A n c rs xss++ (aQ 24 2 A' n c' rs' (xss.map (mo N ps))++ ([aw 2 Ap N cp ps]++ks.set ix kk)))):=by
     refine((hT.sub (ks':=Bx 37 1 A5 [.slice A n c]::Bx 37 1 A4 vs::(aQ 24 2 A n c rs xss++ ([aw 2 Ap N cp ps]++ks.set ix kk))) ?_).call ic).perm ?_
     ·exact List.Sublist.cons_cons _ (List.Sublist.cons_cons _ ((gB _).append (gq _ _)))
     ·refine(iA (l₁:=aQ 24 2 A' n c' rs' (xss.map (mo N ps)))).trans (List.Perm.cons _ ((iA (l₁:=aQ 24 2 A' n c' rs' (xss.map (mo N ps)))).trans (List.Perm.cons _ ?_)));rw [<-ig (aQ 24 2 A' n c' rs' (xss.map (mo N ps))) (aQ 24 2 A n c rs xss),<-ig (aQ 24 2 A n c rs xss) (aQ 24 2 A' n c' rs' (xss.map (mo N ps)))];exact ka.append_right _
    refine ao.n ?_;exact⟨f0,f4,f5,p0,p1,p2,p3,[aw 2 Ap N cp ps],aQ 24 2 A' n c' rs' (xss.map (mo N ps)),kk,vs,cV,fun _=> ⟨Ap,cp,ps,k8,kj,O⟩,m6,fun _=> ⟨A',c',rs',_,O,oG,by simp [eu],hG.Ue kj,O,fun h=> (nomatch n6.symm.trans h)⟩,sv⟩
   | 6,hq,bz=>
    obtain rfl:=bV hq;obtain⟨A',c',rs',xss',De,oG,pw,oq,rfl,_⟩:=m5 (b5 hd 5 rfl);obtain rfl:=m6 bz;refine dG 1 1 hT O (by exact f4) (by exact De) O O O O ?_;intro w7 fL;refine ao.n ?_;exact⟨f0,f4,f5,p0,p1,p2,p3,B1,_,kk,[.slice A' n c'],cV,m4,fun h=> (nomatch (show true=false from h)),fun _=> ⟨A',c',rs',xss',De,oG,pw,oq,O,fun _=>O⟩,fL⟩
   | i+7,hq,_=>exact(nomatch hq)
  ·intro S e1 w6 dv hI;obtain⟨f0,f4,f5,p0,p1,p2,p3,B1,B2,kk,vs,cV,m4,m6,m5,hT⟩:=hI;obtain⟨A',c',rs',xss',De,oG,pw,oq,rfl,yc⟩:=m5 (dv 5 (by decide));obtain rfl:=yc (dv 6 (by decide));refine BA (F:=[(4,.pointer A4)]) ⟨f4,av⟩ (B7 O (jC O (hT.rd 1 O) ?_));exact⟨n,N,A',c',rs',xss',kk,O,hn,hN,oG,pw,oq,cV,hT.tail.tail.sub (((gB _).append (gq _ _)).trans (gq _ _))⟩
 ·refine aG O (bK 0 (bh.rd 0 O) O O O (dG 1 1 bh O O O O O O O ?_));intro w6 bD;refine bI O (jC O (bD.rd 1 O) ?_);exact⟨n,N,A,c,rs,xss,k2,O,hn,hN,bM,eu,hG,ir,bD.tail.tail⟩
end
end Go.Proofs.YtagdamiiececaaaGreatDoor.Vc
