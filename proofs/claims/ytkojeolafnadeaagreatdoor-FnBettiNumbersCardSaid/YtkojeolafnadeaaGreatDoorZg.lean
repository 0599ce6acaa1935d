/-
 Lemmas. Conditions: as each states them.
-/
import Derived.Test.YtkojeolafnadeaaGreatDoorZf
set_option maxHeartbeats 8000000
namespace Go.Proofs.YtkojeolafnadeaaGreatDoor.Vc
open Tryz
open Go.RowKit
variable{b' j p q:Nat}{R xs:ah}{w w' w0:aa}{ks pre post:List Ck}{eZ As:ai}{M:Int}{k':Ck}
theorem MD(A:ai)(n c:Nat)(xs:ah)(w:aa)(hR:bt w A n xs)(hn:n<=1000000000):
 aG prog 127 [.slice A n c] w (fun v w'=>∃b:Bool,v= .bool b/\(b=true↔lK xs)/\St w w' []):=by
 have di:=hR.1;refine bw func127 O ntmps127 O (b7 O) ?_;refine bb O (ba O O (dq O (az O ?_)));refine Cd.loop (α:=Nat) (fun k=> [(0,.slice A n c),(3,aj ((n:Int) - 1 - (k:Int)))]) (fun k w'=>St w w' []/\(k<=n - 1)/\∀j:Nat,n - k<=j->j<n->gi xs ((j:Int) - 1)<=gi xs j) (fun k=>n - k) 0 ⟨O,aL (Value.int .i64) (by show(n:Int) - 1=(n:Int) - 1 - ((0:Nat):Int);omega),aw⟩ ⟨St.refl w,bu _,fun j h1 h2=>by omega⟩ ?_;rintro k e w1 ⟨hS,hk,hK⟩;have kj:=hS.b9 hR;refine b8 O (aM _ O (fun h1=>?_) (fun h1=>?_))
 ·have e1:((n:Int) - 1 - (k:Int))=((n - 1 - k:Nat):Int):=by omega
  have e2:((n:Int) - 1 - (k:Int) - 1)=((n - 1 - k:Nat):Int) - 1:=by omega
  refine cW O ?_;refine dQ [xS (A) (n) (c),xI (((n:Int) - 1 - (k:Int))),xP (aB (A) (((n:Int) - 1 - (k:Int))).toNat),xI (gi (xs) (((n:Int) - 1 - (k:Int)))),xS (A) (n) (c),xI (((n:Int) - 1 - (k:Int))),xI ((((n:Int) - 1 - (k:Int))) - ((1:Int))),xP (aB (A) ((((n:Int) - 1 - (k:Int))) - ((1:Int))).toNat),xI (gi (xs) ((((n:Int) - 1 - (k:Int))) - ((1:Int)))),xB (decide (gi xs ((n:Int) - 1 - (k:Int))<gi xs ((n:Int) - 1 - (k:Int) - 1)))] O (eE O) ?_ ?_
  ·refine⟨Dr O,Dr O,fun _ _ hb _ _=>aA (kj.ao hb).2 O Az,fun _ _ hb _ _=>aY (kj.ao hb) O Az,Dr O,Dr O,fun _ _ _ _ _=>dq O Az,fun _ _ hb _ _=>aA (kj.ao hb).2 O Az,fun _ _ hb _ _=>aY (kj.ao hb) O Az,?_,aw⟩
   ·intro e1 w1 hb hp bc;refine aF (NG _ _ _) O ?_;rintro _ w2 ⟨rfl,ax⟩;subst ax;refine ak.n (d0 (by exact O))
  intro u w2 hb _;have aE:=hS.ao hb;refine fv O (aM _ O (fun h2=>?_) (fun h2=>?_))
  ·refine dB O (dO (dJ ?_));refine ck O ?_;refine⟨false,rfl,⟨fun h=> (by cases h),fun h=>?_⟩,aE⟩;rw [e1]at h2;have h3:=List.pairwise_iff_getElem.1 h (n - 1 - k - 1) (n - 1 - k) (by omega) (by omega) (by omega);rw [<-bX (by omega),<-bX (by omega),show((n - 1 - k - 1:Nat):Int)=((n - 1 - k:Nat):Int) - 1 by omega]at h3;omega
  ·refine aD O (dq O (aS O (tQ ?_)));refine⟨k+1,by show n - (k+1)<n - k;omega,⟨O,aL (Value.int .i64) (by show(n:Int) - 1 - (k:Int) - 1=(n:Int) - 1 - ((k+1:Nat):Int);omega),aw⟩,aE,by omega,fun j hj1 hj2=>?_⟩
   by_cases ej:n - k<=j
   ·exact hK j ej hj2
   ·have:(j:Int)=(n:Int) - 1 - (k:Int):=by omega
    rw [this];omega
 ·refine bo O (bn (eG O ?_));refine ck O ⟨true,O,⟨fun _=>?_,fun _=>O⟩,hS⟩;have key:∀j i:Nat,i<=j->j<n->gi xs i<=gi xs j:=by
   intro j
   induction j with
   | zero=>
    intro i hi _;have:i=0:=by omega
    rw [this];exact Int.le_refl _
   | succ j ih=>
    intro i hi hj
    by_cases e:i=j+1
    ·subst e;exact Int.le_refl _
    ·have h3:=ih i (by omega) (by omega);have h4:=hK (j+1) (by omega) hj;rw [show((j+1:Nat):Int) - 1=(j:Int) by omega]at h4;omega
  refine List.pairwise_iff_getElem.2 fun i j hi hj pO=>?_
  have:=key j i (by omega) (by omega)
  rwa [bX hi,bX hj]at this
theorem M3{n:Int}(h:∀x∈R,0<=x/\x<=n - 1):yg 0 (n - 1) R:=h
theorem RI(n:Int)(A D:ai)(cA cD:Nat)(R:ah)(rs:List aX)(B:ag)(w:aa)(hR:bt w A R.length R)(hB:bL w D B.length rs B)(hP:eV n R B):
 aG prog 66 [.agg #[aj n,.slice A R.length cA,.slice D B.length cD]] w (fun v w'=>v= .bool true/\St w w' []):=by
 have hn:=hP.n1;have rV:=hP.od;have hle:=hP.len;have bM:=fun e (h:e<R.length)=>hP.row e h
 have bT:∀e:Nat,e<R.length->(gl B e).length<=500:=fun e h=>by
  have:=sy (N:=R.length) (bM e h).1.nodup fun x hx=> ((bM e h).2 x hx).1
  omega
 obtain⟨N,hN⟩:∃N,R.length=N:=⟨_,rfl⟩;rw [hN]at hR rV hle bM bT|-;rw [hle]at hB|-;refine bw func66 O ntmps66 O (b7 O) (bb O (lT (St.refl w) O O ?_));intro A1 w1 aC;have fa:=aC.below;have h1:Rd w1 A1 3 (fun j=> [Value.int .i64 n,.slice A N cA,.slice D N cD].getD j undef):=aC.rd 0 O;have hR:=hR.ao fa;have hB:=hB.ao fa;have aC:=aC.none;refine aq O (aI h1 O (aV h1 O (aF (xX _ _ _ _) O ?_)));rintro _ w1 ⟨rfl,rfl⟩;refine aq O (aI h1 O (fL (j:=0) h1 (by exact aL Value.pointer O) O O O O (aF (qm _ _ _ _) O ?_)));rintro _ w1 ⟨rfl,rfl⟩
 first | refine de rfl rfl ?_ | refine dV rfl rfl ?_
 refine aq O (cz 23 O (fun h=>absurd (by omega) h) (fun _=>?_));refine au O (aq O (au O (aq O ?_)));refine cz 27 O (fun h=>by omega) (fun _=>?_);refine au O (aI h1 O (au O (aV h1 O ?_)));refine au O (ba O O (au O ?_));refine aI h1 O (au O (aV h1 O ?_));refine au O (ba O O (au O (aq O ?_)));refine cz 36 O (fun h=>absurd O h) (fun _=>?_);refine au O (aI h1 O (au O (aV h1 O (au O (aI h1 O (au O (fL (j:=0) h1 (by exact aL Value.pointer O) O O O O ?_)))))));refine au O (dq O (au O ?_));refine aF (M7 A N cA R 0 (n - 1) _ hR (by omega)) O ?_;rintro _ w2 ⟨rfl,ax⟩;have hb:=ax.below;have h1:=Rd.below h1 hb;have hR:=hR.ao hb;have hB:=hB.ao hb;have aC:=aC.ao hb;clear ax hb;refine au O ?_
 first | refine de rfl rfl ?_ | refine dV rfl rfl ?_
 refine aq O (cz 45 O (fun h=>absurd (M3 hP.lH) h) (fun _=>?_));refine au O (aI h1 O (au O (aV h1 O (au O (aF (MD A N cA R _ hR (by omega)) O ?_)))));rintro _ w3 ⟨b,rfl,FT,ax⟩;obtain rfl:=FT.2 hP.mj;have hb:=ax.below;have h1:=Rd.below h1 hb;have hR:=hR.ao hb;have hB:=hB.ao hb;have aC:=aC.ao hb;clear ax hb;refine au O ?_
 first | refine de rfl rfl ?_ | refine dV rfl rfl ?_
 refine az O (Cd.dZ O (aD O (aI h1 O (aV h1 O ?_))));refine ba O O (az O ?_);refine Cd.loop (α:=Nat) (fun k=> [(1,.pointer A1),(3,aj N),(52,.slice D N cD),(53,aj N),(54,aj k)]) (fun k w'=>k<=N/\St w3 w' []) (fun k=>N - k) 0 (ajz O) ⟨bu _,St.refl _⟩ ?_;rintro k e w4 ⟨hk,ax⟩;have hb:=ax.below;have h1:=Rd.below h1 hb;have hR:=hR.ao hb;have hB:=hB.ao hb;have aC:=aC.ao hb;clear hb;refine b8 O (aM _ O (fun h3=>?_) (fun h3=>?_))
 ·have o3:k<N:=by omega
  have dM:=hB.at_ (i:=(k:Int)) (by omega) (by omega);have jG:=dM.1;have Kn:=bT k o3;have ew:=bM k o3;refine aD O (aA hB.top.2 O (bQ hB.top O ?_));refine aq O (ba O O (az O ?_));refine Cd.loop (α:=Nat) (fun q=> [(1,.pointer A1),(3,aj N),(52,.slice D N cD),(53,aj N),(54,aj k),(4,aj k),(5,.slice (rg rs k).a (rg rs k).n (rg rs k).c),(59,.slice (rg rs k).a (rg rs k).n (rg rs k).c),(60,aj ((rg rs k).n:Int)),(61,aj q)]) (fun q w'=>q<=(rg rs k).n/\St w4 w' []) (fun q=> (rg rs k).n - q) 0 (ajz O) ⟨bu _,St.refl _⟩ ?_;rintro q e w5 ⟨hq,oA⟩;have hb:=oA.below;have h1:=Rd.below h1 hb;have hR:=hR.ao hb;have hB:=hB.ao hb;have dM:=dM.ao hb;clear hb;refine b8 O (aM _ O (fun h4=>?_) (fun h4=>?_))
  ·have ng:q< (gl B k).length:=by omega
   have hd:=ew.2 (gi (gl B k) q) (gi_in ng);refine aD O (aA dM.2 O (aY dM O (az O ?_)));generalize uh:gi (gl B k) q=d at*
   by_cases uv:0<q
   ·
    have hsa:=ew.1.uF (show q - 1<q by omega) ng;rw [uh,show((q - 1:Nat):Int)=(q:Int) - 1 by omega]at hsa;refine dQ [xI (d),xI ((N:Int)),xI (((N:Int)) - ((1:Int))),xB (decide (0<=d/\d<=(N:Int) - 1)),xB (false),xB (false),xP (aB (A1) 1),xS (A) (N) (cA),xI (d),xP (aB (A) (d).toNat),xI (gi (R) (d)),xP (aB (A1) 1),xS (A) (N) (cA),xI ((k:Int)),xP (aB (A) ((k:Int)).toNat),xI (gi (R) ((k:Int))),xB (false),xB (false),xB (false),xI ((q:Int)),xB (true),xB (true),xS ((rg rs k).a) ((rg rs k).n) ((rg rs k).c),xI ((q:Int)),xI (((q:Int)) - ((1:Int))),xP (aB ((rg rs k).a) (((q:Int)) - ((1:Int))).toNat),xI (gi (gl B k) (((q:Int)) - ((1:Int)))),xI (d),xB (false),xB (false),xB (false)] O (eE O) ?_ ?_
    ·refine⟨Dr O,Dr O,fun _ _ _ _ _=>dq O Az,?_,fun _ _ _ _ _=>de O O (Az (by exact aL Value.bool (cM (fun h=>h (by omega))))),Dr O,fun _ _ hb _ _=>au O (aI (h1.below hb) O Az),fun _ _ hb _ _=>au O (aV (h1.below hb) O Az),Dr O,fun _ _ hb _ _=>au O (aA (hR.ao hb).2 O Az),fun _ _ hb _ _=>au O (aY (hR.ao hb) O Az),fun _ _ hb _ _=>au O (aI (h1.below hb) O Az),fun _ _ hb _ _=>au O (aV (h1.below hb) O Az),Dr O,fun _ _ hb _ _=>au O (aA (hR.ao hb).2 O Az),fun _ _ hb _ _=>au O (aY (hR.ao hb) O Az),fun _ _ _ _ _=>Dk O (by exact aL Value.bool (cM (by omega))),Dr O,Dr O,Dr O,fun _ _ _ _ _=>Dk O (by exact aL Value.bool (eC (by omega))),Dr O,Dr O,Dr O,fun _ _ _ _ _=>au O (dq O Az),fun _ _ hb _ _=>au O (aA (dM.ao hb).2 O Az),fun _ _ hb _ _=>au O (aY (dM.ao hb) O Az),Dr O,fun _ _ _ _ _=>Dk O (by exact aL Value.bool (cM (by omega))),Dr O,Dr O,aw⟩;intro e1 w1 hb hp bc;refine aF (qm _ _ _ _) O ?_;rintro _ w2 ⟨rfl,ax⟩;subst ax;refine ak.n (d0 (by exact O))
    intro u w6 hb _;refine fv O (Cd.dZ O ?_);refine aD O (aK O (aS O (tQ ?_)));exact⟨q+1,by show(rg rs k).n - (q+1)< (rg rs k).n - q;omega,(ajz O),by omega,oA.ao hb⟩
   refine dQ [xI (d),xI ((N:Int)),xI (((N:Int)) - ((1:Int))),xB (decide (0<=d/\d<=(N:Int) - 1)),xB (false),xB (false),xP (aB (A1) 1),xS (A) (N) (cA),xI (d),xP (aB (A) (d).toNat),xI (gi (R) (d)),xP (aB (A1) 1),xS (A) (N) (cA),xI ((k:Int)),xP (aB (A) ((k:Int)).toNat),xI (gi (R) ((k:Int))),xB (false),xB (false),xB (false),xI ((q:Int)),xB (false),xB (false),xU,xU,xU,xU,xU,xU,xU,xB (false),xB (false)] O (eE O) ?_ ?_
   ·refine⟨Dr O,Dr O,fun _ _ _ _ _=>dq O Az,?_,fun _ _ _ _ _=>de O O (Az (by exact aL Value.bool (cM (fun h=>h (by omega))))),Dr O,fun _ _ hb _ _=>au O (aI (h1.below hb) O Az),fun _ _ hb _ _=>au O (aV (h1.below hb) O Az),Dr O,fun _ _ hb _ _=>au O (aA (hR.ao hb).2 O Az),fun _ _ hb _ _=>au O (aY (hR.ao hb) O Az),fun _ _ hb _ _=>au O (aI (h1.below hb) O Az),fun _ _ hb _ _=>au O (aV (h1.below hb) O Az),Dr O,fun _ _ hb _ _=>au O (aA (hR.ao hb).2 O Az),fun _ _ hb _ _=>au O (aY (hR.ao hb) O Az),fun _ _ _ _ _=>Dk O (by exact aL Value.bool (cM (by omega))),Dr O,Dr O,Dr O,fun _ _ _ _ _=>Dk O (by exact aL Value.bool (cM (by omega))),Dr O,Dr O,Dr O,Dr O,Dr O,Dr O,Dr O,Dr O,Dr O,Dr O,aw⟩;intro e1 w1 hb hp bc;refine aF (qm _ _ _ _) O ?_;rintro _ w2 ⟨rfl,ax⟩;subst ax;refine ak.n (d0 (by exact O))
   intro u w6 hb _;refine fv O (Cd.dZ O ?_);refine aD O (aK O (aS O (tQ ?_)));exact⟨q+1,by show(rg rs k).n - (q+1)< (rg rs k).n - q;omega,(ajz O),by omega,oA.ao hb⟩
  refine bo O (bn (cJ O (aK O (aS O (tQ ?_)))));exact⟨k+1,by show N - (k+1)<N - k;omega,(ajz O),by omega,ax.ao oA.below⟩
 clear ax h3;refine bo O (bn (cJ O ?_));refine aI h1 O (aV h1 O ?_);refine ba O O (az O ?_);refine Cd.loop (α:=Nat) (fun k=> [(1,.pointer A1),(100,.slice D N cD),(101,aj N),(102,aj k)]) (fun k w'=>k<=N/\St w4 w' []) (fun k=>N - k) 0 (ajz O) ⟨bu _,St.refl _⟩ ?_;rintro k e w5 ⟨hk,ax⟩;have hb:=ax.below;have h1:=Rd.below h1 hb;have hB:=hB.ao hb;have aC:=aC.ao hb;clear hb;refine b8 O (aM _ O (fun h3=>?_) (fun h3=>?_))
 ·have o3:k<N:=by omega
  have dM:=hB.at_ (i:=(k:Int)) (by omega) (by omega);have jG:=dM.1;have Kn:=bT k o3;have ew:=bM k o3;refine aD O (aA hB.top.2 O (bQ hB.top O ?_));refine aq O (ba O O (az O ?_));refine Cd.loop (α:=Nat) (fun q=> [(1,.pointer A1),(100,.slice D N cD),(101,aj N),(102,aj k),(9,.slice (rg rs k).a (rg rs k).n (rg rs k).c),(106,.slice (rg rs k).a (rg rs k).n (rg rs k).c),(107,aj ((rg rs k).n:Int)),(108,aj q)]) (fun q w'=>q<=(rg rs k).n/\w'=w5) (fun q=> (rg rs k).n - q) 0 (ajz O) ⟨bu _,O⟩ ?_;rintro q e w6 ⟨hq,rfl⟩;refine b8 O (aM _ O (fun h4=>?_) (fun h4=>?_))
  ·have ng:q< (gl B k).length:=by omega
   have yL:=gi_in ng;have hd:=ew.2 (gi (gl B k) q) yL;refine aD O (aA dM.2 O (aY dM O (aq O (aI h1 O (aV h1 O (aq O ?_))))));generalize uh:gi (gl B k) q=d at*;have gF:=hB.at_ (i:=d) (by omega) (by omega);have Q3:=gF.1;have s8:(gl B d).length<=500:=by
    have:=bT d.toNat (by omega)
    rwa [Int.toNat_of_nonneg hd.1.1]at this
   refine aA hB.top.2 O (bQ hB.top O ?_);refine ba O O (az O ?_);refine Cd.loop (α:=Nat) (fun t=> [(1,.pointer A1),(100,.slice D N cD),(101,aj N),(102,aj k),(9,.slice (rg rs k).a (rg rs k).n (rg rs k).c),(106,.slice (rg rs k).a (rg rs k).n (rg rs k).c),(107,aj ((rg rs k).n:Int)),(108,aj q),(116,.slice (rg rs d).a (rg rs d).n (rg rs d).c),(117,aj ((rg rs d).n:Int)),(118,aj t)]) (fun t w'=>t<=(rg rs d).n/\w'=w6) (fun t=> (rg rs d).n - t) 0 (ajz O) ⟨bu _,O⟩ ?_;rintro t e w7 ⟨ht,rfl⟩;refine b8 O (aM _ O (fun h5=>?_) (fun h5=>?_))
   ·have DY:t< (gl B d).length:=by omega
    have rW:=gi_in DY;have zb:=hP.tr k (by omega) d yL _ rW;refine aD O (aA gF.2 O (aY gF O (aq O (aF (HT _ _ _ (gl B k) _ _ dM ew.1 (by omega)) O ?_))));rintro _ _ ⟨⟨p,rfl⟩,rfl⟩;refine aq O ?_
    first | refine de rfl rfl ?_ | refine dV rfl rfl ?_
    refine az O (gV O (fun h=>h zb) (aD O (aK O (aS O (tQ ?_)))));exact⟨t+1,by show(rg rs d).n - (t+1)< (rg rs d).n - t;omega,(ajz O),by omega,O⟩
   refine bo O (bn (cJ O (aK O (aS O (tQ ?_)))));exact⟨q+1,by show(rg rs k).n - (q+1)< (rg rs k).n - q;omega,(ajz O),by omega,O⟩
  refine bo O (bn (cJ O (aK O (aS O (tQ ?_)))));exact⟨k+1,by show N - (k+1)<N - k;omega,(ajz O),by omega,ax⟩
 refine bo O (bn (eG O ?_));exact ck O ⟨O,aC⟩
theorem Tm{l:ah}(h:∀p:Nat,p+1<l.length->gi l p<gi l ((p+1:Nat):Int)):SA l:=by
 have key:∀j i:Nat,i<j->j<l.length->gi l i<gi l j:=by
  intro j
  induction j with
  | zero=>intro i hi;omega
  | succ j ih=>
   intro i hi hj;have h1:=h j hj
   by_cases e:i=j
   ·subst e;exact h1
   ·have:=ih i (by omega) (by omega);omega
 refine List.pairwise_iff_getElem.2 fun i j hi hj pO=>?_
 have:=key j i pO hj
 rwa [bX hi,bX hj]at this
theorem KN(n:Int)(A D:ai)(cA cD N M:Nat)(R:ah)(rs:List aX)(B:ag)(w:aa)(hR:bt w A N R)(hB:bL w D M rs B)(hn: -1000<=n/\n<=1000)(hN:N<=1000000)(hM:M<=1000000):
 aG prog 66 [.agg #[aj n,.slice A N cA,.slice D M cD]] w (fun v w'=>∃b:Bool,v= .bool b/\(b=true↔eV n R B)/\St w w' []):=by
 have gZ:R.length=N:=hR.1;have kh:B.length=M:=hB.len;refine bw func66 O ntmps66 O (b7 O) (bb O (lT (St.refl w) O O ?_));intro A1 w1 aC;have fa:=aC.below;have h1:Rd w1 A1 3 (fun j=> [Value.int .i64 n,.slice A N cA,.slice D M cD].getD j undef):=aC.rd 0 O;have hR:=hR.ao fa;have hB:=hB.ao fa;have aC:=aC.none;refine aq O (aI h1 O (aV h1 O (aF (xX _ _ _ _) O ?_)));rintro _ w1 ⟨rfl,rfl⟩;refine aq O (aI h1 O (fL (j:=0) h1 (by exact aL Value.pointer O) O O O O (aF (qm _ _ _ _) O ?_)));rintro _ w1 ⟨rfl,rfl⟩
 first | refine de rfl rfl ?_ | refine dV rfl rfl ?_
 refine aq O (cz 23 O (fun h=>?_) (fun g1=>?_))
 ·refine ay O (ay O (aq O (ay O (ay O (ay O (ay O (ay O (ay O (ay O (aq O (ay O ?_)))))))))));refine ay O (ay O (ay O (ay O (ay O (ay O (aq O (ay O (ay O (ay O (ay O (az O ?_)))))))))));refine Cd.eH O (dB O (ck O ?_));exact⟨false,O,⟨fun h'=>absurd h' (by decide),fun hP=>absurd hP.n1 (by omega)⟩,aC.none⟩
 refine au O (aq O (au O (aq O ?_)));refine cz 27 O (fun h=>?_) (fun g2=>?_)
 ·refine ay O (ay O (ay O (ay O (ay O (ay O (ay O (aq O (ay O (ay O (ay O (ay O ?_)))))))))));refine ay O (ay O (ay O (aq O (ay O (ay O (ay O (ay O (az O ?_))))))));refine Cd.eH O (dB O (ck O ?_));exact⟨false,O,⟨fun h'=>absurd h' (by decide),fun hP=>by have:=hP.od;omega⟩,aC.none⟩
 refine au O (aI h1 O (au O (aV h1 O ?_)));refine au O (ba O O (au O ?_));refine aI h1 O (au O (aV h1 O ?_));refine au O (ba O O (au O (aq O ?_)));refine cz 36 O (fun h=>?_) (fun g3=>?_)
 ·refine ay O (ay O (ay O (ay O (ay O (ay O (ay O (aq O (ay O (ay O (ay O (ay O ?_)))))))))));refine az O (Cd.eH O (dB O (ck O ?_)));exact⟨false,O,⟨fun h'=>absurd h' (by decide),fun hP=>by have:=hP.len;omega⟩,aC.none⟩
 obtain rfl:N=M:=by omega
 refine au O (aI h1 O (au O (aV h1 O (au O (aI h1 O (au O (fL (j:=0) h1 (by exact aL Value.pointer O) O O O O ?_)))))));refine au O (dq O (au O ?_));refine aF (M7 A N cA R 0 (n - 1) _ hR (by omega)) O ?_;rintro _ w2 ⟨rfl,ax⟩;have hb:=ax.below;have h1:=Rd.below h1 hb;have hR:=hR.ao hb;have hB:=hB.ao hb;have aC:=aC.ao hb;clear ax hb;refine au O ?_
 first | refine de rfl rfl ?_ | refine dV rfl rfl ?_
 refine aq O (cz 45 O (fun h=>?_) (fun g4=>?_))
 ·refine ay O (ay O (ay O (ay O (az O ?_))));refine Cd.eH O (dB O (ck O ?_));exact⟨false,O,⟨fun h'=>absurd h' (by decide),fun hP=>absurd (M3 hP.lH) h⟩,aC.none⟩
 have g4:=Decidable.not_not.1 g4;refine au O (aI h1 O (au O (aV h1 O (au O (aF (MD A N cA R _ hR (by omega)) O ?_)))));rintro _ w3 ⟨b,rfl,FT,ax⟩;rw [show b=decide (b=true) by cases b<;>rfl];have hb:=ax.below;have h1:=Rd.below h1 hb;have hR:=hR.ao hb;have hB:=hB.ao hb;have aC:=aC.ao hb;clear ax hb;refine au O ?_
 first | refine de rfl rfl ?_ | refine dV rfl rfl ?_
 refine az O (aM _ O (fun h=>?_) (fun g5=>?_))
 ·refine dB O (ck O ?_);exact⟨false,O,⟨fun h'=>absurd h' (by decide),fun hP=>absurd (FT.2 hP.mj) h⟩,aC.none⟩
 have JH:lK R:=FT.1 (Decidable.not_not.1 g5);refine aD O (aI h1 O (aV h1 O ?_));refine ba O O (az O ?_);refine Cd.loop (α:=Nat) (fun k=> [(1,.pointer A1),(3,aj N),(52,.slice D N cD),(53,aj N),(54,aj k)]) (fun k w'=>k<=N/\(∀e:Nat,e<k->SA (gl B e)/\∀d∈gl B e,(0<=d/\d<R.length)/\gi R d<gi R e)/\St w3 w' []) (fun k=>N - k) 0 (ajz O) ⟨bu _,fun e he=>by omega,St.refl _⟩ ?_;rintro k e w4 ⟨hk,bM,ax⟩;have hb:=ax.below;have h1:=Rd.below h1 hb;have hR:=hR.ao hb;have hB:=hB.ao hb;have aC:=aC.ao hb;clear hb;refine b8 O (aM _ O (fun h3=>?_) (fun h3=>?_))
 ·have o3:k<N:=by omega
  have dM:=hB.at_ (i:=(k:Int)) (by omega) (by omega);have jG:=dM.1;have gD:=hB.cap_ (i:=(k:Int)) (by omega) (by omega);refine aD O (aA hB.top.2 O (bQ hB.top O ?_));refine aq O (ba O O (az O ?_));refine Cd.loop (α:=Nat) (fun q=> [(1,.pointer A1),(3,aj N),(52,.slice D N cD),(53,aj N),(54,aj k),(4,aj k),(5,.slice (rg rs k).a (rg rs k).n (rg rs k).c),(59,.slice (rg rs k).a (rg rs k).n (rg rs k).c),(60,aj ((rg rs k).n:Int)),(61,aj q)]) (fun q w'=>q<=(rg rs k).n/\(∀p:Nat,p<q->(0<=gi (gl B k) p/\gi (gl B k) p<R.length)/\gi R (gi (gl B k) p)<gi R k)/\(∀p:Nat,p+1<q->gi (gl B k) p<gi (gl B k) ((p+1:Nat):Int))/\St w4 w' []) (fun q=> (rg rs k).n - q) 0 (ajz O) ⟨bu _,fun p hp=>by omega,fun p hp=>by omega,St.refl _⟩ ?_;rintro q e w5 ⟨hq,da,has,oA⟩;have hb:=oA.below;have h1:=Rd.below h1 hb;have hR:=hR.ao hb;have hB:=hB.ao hb;have dM:=dM.ao hb;clear hb;refine b8 O (aM _ O (fun h4=>?_) (fun h4=>?_))
  ·have ng:q< (gl B k).length:=by omega
   refine aD O (aA dM.2 O (aY dM O (az O ?_)));have gp:=gi_in ng;have Bk:(0<=gi (gl B k) q/\gi (gl B k) q<R.length)/\gi R (gi (gl B k) q)<gi R k->∀p:Nat,p<q+1->(0<=gi (gl B k) p/\gi (gl B k) p<R.length)/\gi R (gi (gl B k) p)<gi R k:=fun h p hp=>by
    by_cases ep:p=q
    ·subst ep;exact h
    exact da p (by omega)
   have PR:(0<q->gi (gl B k) ((q - 1:Nat):Int)<gi (gl B k) q)->∀p:Nat,p+1<q+1->gi (gl B k) p<gi (gl B k) ((p+1:Nat):Int):=fun h p hp=>by
    by_cases ep:p+1=q
    ·have:=h (by omega)
     rwa [<-ep,Nat.add_sub_cancel]at this
    exact has p (by omega)
   have Ki:eV n R B->_:=fun hP=>hP.row k (by omega)
   have eL:eV n R B->0<q->gi (gl B k) ((q - 1:Nat):Int)<gi (gl B k) q:=fun hP h0=> (Ki hP).1.uF (show q - 1<q by omega) ng
   generalize uh:gi (gl B k) q=d at*;have yJ:(¬(0<=d/\d<N))\/((0<=d/\d<N)/\gi R k<=gi R d)\/((0<=d/\d<N)/\gi R d<gi R k/\q=0)\/((0<=d/\d<N)/\gi R d<gi R k/\0<q/\d<=gi (gl B k) ((q:Int) - 1))\/((0<=d/\d<N)/\gi R d<gi R k/\0<q/\gi (gl B k) ((q:Int) - 1)<d):=by omega
   rcases yJ with hc | ⟨hc,hr⟩ | ⟨hc,hr,uv⟩ | ⟨hc,hr,uv,hs⟩ | ⟨hc,hr,uv,hs⟩
   ·
    refine dQ [xI (d),xI ((N:Int)),xI (((N:Int)) - ((1:Int))),xB (decide (0<=d/\d<=(N:Int) - 1)),xB (true),xB (true),xU,xU,xU,xU,xU,xU,xU,xU,xU,xU,xU,xB (true),xB (true),xU,xU,xU,xU,xU,xU,xU,xU,xU,xU,xU,xB (true)] O (eE O) ?_ ?_
    ·refine⟨Dr O,Dr O,fun _ _ _ _ _=>dq O Az,?_,fun _ _ _ _ _=>de O O (Az (by exact aL Value.bool (eC (by omega)))),Dr O,Dr O,Dr O,Dr O,Dr O,Dr O,Dr O,Dr O,Dr O,Dr O,Dr O,Dr O,Dr O,Dr O,Dr O,Dr O,Dr O,Dr O,Dr O,Dr O,Dr O,Dr O,Dr O,Dr O,Dr O,Dr O,aw⟩;intro e1 w1 hb hp bc;refine aF (qm _ _ _ _) O ?_;rintro _ w2 ⟨rfl,ax⟩;subst ax;refine ak.n (d0 (by exact O))
    intro u w6 hb _;refine fv O (Cd.eH O ?_);refine dB O (dO (dJ (dO (dJ ?_))));refine ck O ?_;exact⟨false,O,⟨fun h'=>absurd h' (by decide),fun hP=>by have:=((Ki hP).2 d gp).1;omega⟩,((aC.ao oA.below).ao hb).none⟩
   ·refine dQ [xI (d),xI ((N:Int)),xI (((N:Int)) - ((1:Int))),xB (decide (0<=d/\d<=(N:Int) - 1)),xB (false),xB (false),xP (aB (A1) 1),xS (A) (N) (cA),xI (d),xP (aB (A) (d).toNat),xI (gi (R) (d)),xP (aB (A1) 1),xS (A) (N) (cA),xI ((k:Int)),xP (aB (A) ((k:Int)).toNat),xI (gi (R) ((k:Int))),xB (true),xB (true),xB (true),xU,xU,xU,xU,xU,xU,xU,xU,xU,xU,xU,xB (true)] O (eE O) ?_ ?_
    ·refine⟨Dr O,Dr O,fun _ _ _ _ _=>dq O Az,?_,fun _ _ _ _ _=>de O O (Az (by exact aL Value.bool (cM (fun h=>h (by omega))))),Dr O,fun _ _ hb _ _=>au O (aI (h1.below hb) O Az),fun _ _ hb _ _=>au O (aV (h1.below hb) O Az),Dr O,fun _ _ hb _ _=>au O (aA (hR.ao hb).2 O Az),fun _ _ hb _ _=>au O (aY (hR.ao hb) O Az),fun _ _ hb _ _=>au O (aI (h1.below hb) O Az),fun _ _ hb _ _=>au O (aV (h1.below hb) O Az),Dr O,fun _ _ hb _ _=>au O (aA (hR.ao hb).2 O Az),fun _ _ hb _ _=>au O (aY (hR.ao hb) O Az),fun _ _ _ _ _=>Dk O (by exact aL Value.bool (eC (by omega))),Dr O,Dr O,Dr O,Dr O,Dr O,Dr O,Dr O,Dr O,Dr O,Dr O,Dr O,Dr O,Dr O,Dr O,aw⟩;intro e1 w1 hb hp bc;refine aF (qm _ _ _ _) O ?_;rintro _ w2 ⟨rfl,ax⟩;subst ax;refine ak.n (d0 (by exact O))
    intro u w6 hb _;refine fv O (Cd.eH O ?_);refine dB O (dO (dJ (dO (dJ ?_))));refine ck O ?_;exact⟨false,O,⟨fun h'=>absurd h' (by decide),fun hP=>by have:=((Ki hP).2 d gp).2;omega⟩,((aC.ao oA.below).ao hb).none⟩
   ·refine dQ [xI (d),xI ((N:Int)),xI (((N:Int)) - ((1:Int))),xB (decide (0<=d/\d<=(N:Int) - 1)),xB (false),xB (false),xP (aB (A1) 1),xS (A) (N) (cA),xI (d),xP (aB (A) (d).toNat),xI (gi (R) (d)),xP (aB (A1) 1),xS (A) (N) (cA),xI ((k:Int)),xP (aB (A) ((k:Int)).toNat),xI (gi (R) ((k:Int))),xB (false),xB (false),xB (false),xI ((q:Int)),xB (false),xB (false),xU,xU,xU,xU,xU,xU,xU,xB (false),xB (false)] O (eE O) ?_ ?_
    ·refine⟨Dr O,Dr O,fun _ _ _ _ _=>dq O Az,?_,fun _ _ _ _ _=>de O O (Az (by exact aL Value.bool (cM (fun h=>h (by omega))))),Dr O,fun _ _ hb _ _=>au O (aI (h1.below hb) O Az),fun _ _ hb _ _=>au O (aV (h1.below hb) O Az),Dr O,fun _ _ hb _ _=>au O (aA (hR.ao hb).2 O Az),fun _ _ hb _ _=>au O (aY (hR.ao hb) O Az),fun _ _ hb _ _=>au O (aI (h1.below hb) O Az),fun _ _ hb _ _=>au O (aV (h1.below hb) O Az),Dr O,fun _ _ hb _ _=>au O (aA (hR.ao hb).2 O Az),fun _ _ hb _ _=>au O (aY (hR.ao hb) O Az),fun _ _ _ _ _=>Dk O (by exact aL Value.bool (cM (by omega))),Dr O,Dr O,Dr O,fun _ _ _ _ _=>Dk O (by exact aL Value.bool (cM (by omega))),Dr O,Dr O,Dr O,Dr O,Dr O,Dr O,Dr O,Dr O,Dr O,Dr O,aw⟩;intro e1 w1 hb hp bc;refine aF (qm _ _ _ _) O ?_;rintro _ w2 ⟨rfl,ax⟩;subst ax;refine ak.n (d0 (by exact O))
    intro u w6 hb _;refine fv O ?_;have Bk:=Bk ⟨by omega,hr⟩;refine Cd.dZ O (aD O (aK O (aS O (tQ ?_))));refine⟨q+1,by show(rg rs k).n - (q+1)< (rg rs k).n - q;omega,(ajz O),by omega,Bk,PR (fun h=>by omega),oA.ao hb⟩
   ·refine dQ [xI (d),xI ((N:Int)),xI (((N:Int)) - ((1:Int))),xB (decide (0<=d/\d<=(N:Int) - 1)),xB (false),xB (false),xP (aB (A1) 1),xS (A) (N) (cA),xI (d),xP (aB (A) (d).toNat),xI (gi (R) (d)),xP (aB (A1) 1),xS (A) (N) (cA),xI ((k:Int)),xP (aB (A) ((k:Int)).toNat),xI (gi (R) ((k:Int))),xB (false),xB (false),xB (false),xI ((q:Int)),xB (true),xB (true),xS ((rg rs k).a) ((rg rs k).n) ((rg rs k).c),xI ((q:Int)),xI (((q:Int)) - ((1:Int))),xP (aB ((rg rs k).a) (((q:Int)) - ((1:Int))).toNat),xI (gi (gl B k) (((q:Int)) - ((1:Int)))),xI (d),xB (true),xB (true),xB (true)] O (eE O) ?_ ?_
    ·refine⟨Dr O,Dr O,fun _ _ _ _ _=>dq O Az,?_,fun _ _ _ _ _=>de O O (Az (by exact aL Value.bool (cM (fun h=>h (by omega))))),Dr O,fun _ _ hb _ _=>au O (aI (h1.below hb) O Az),fun _ _ hb _ _=>au O (aV (h1.below hb) O Az),Dr O,fun _ _ hb _ _=>au O (aA (hR.ao hb).2 O Az),fun _ _ hb _ _=>au O (aY (hR.ao hb) O Az),fun _ _ hb _ _=>au O (aI (h1.below hb) O Az),fun _ _ hb _ _=>au O (aV (h1.below hb) O Az),Dr O,fun _ _ hb _ _=>au O (aA (hR.ao hb).2 O Az),fun _ _ hb _ _=>au O (aY (hR.ao hb) O Az),fun _ _ _ _ _=>Dk O (by exact aL Value.bool (cM (by omega))),Dr O,Dr O,Dr O,fun _ _ _ _ _=>Dk O (by exact aL Value.bool (eC (by omega))),Dr O,Dr O,Dr O,fun _ _ _ _ _=>au O (dq O Az),fun _ _ hb _ _=>au O (aA (dM.ao hb).2 O Az),fun _ _ hb _ _=>au O (aY (dM.ao hb) O Az),Dr O,fun _ _ _ _ _=>Dk O (by exact aL Value.bool (eC (by omega))),Dr O,Dr O,aw⟩;intro e1 w1 hb hp bc;refine aF (qm _ _ _ _) O ?_;rintro _ w2 ⟨rfl,ax⟩;subst ax;refine ak.n (d0 (by exact O))
    intro u w6 hb _;refine fv O (Cd.eH O ?_);refine dB O (dO (dJ (dO (dJ ?_))));refine ck O ?_;exact⟨false,O,⟨fun h'=>absurd h' (by decide),fun hP=>by have:=eL hP uv;rw [show((q - 1:Nat):Int)=(q:Int) - 1 by omega]at this;omega⟩,((aC.ao oA.below).ao hb).none⟩
   refine dQ [xI (d),xI ((N:Int)),xI (((N:Int)) - ((1:Int))),xB (decide (0<=d/\d<=(N:Int) - 1)),xB (false),xB (false),xP (aB (A1) 1),xS (A) (N) (cA),xI (d),xP (aB (A) (d).toNat),xI (gi (R) (d)),xP (aB (A1) 1),xS (A) (N) (cA),xI ((k:Int)),xP (aB (A) ((k:Int)).toNat),xI (gi (R) ((k:Int))),xB (false),xB (false),xB (false),xI ((q:Int)),xB (true),xB (true),xS ((rg rs k).a) ((rg rs k).n) ((rg rs k).c),xI ((q:Int)),xI (((q:Int)) - ((1:Int))),xP (aB ((rg rs k).a) (((q:Int)) - ((1:Int))).toNat),xI (gi (gl B k) (((q:Int)) - ((1:Int)))),xI (d),xB (false),xB (false),xB (false)] O (eE O) ?_ ?_
   ·refine⟨Dr O,Dr O,fun _ _ _ _ _=>dq O Az,?_,fun _ _ _ _ _=>de O O (Az (by exact aL Value.bool (cM (fun h=>h (by omega))))),Dr O,fun _ _ hb _ _=>au O (aI (h1.below hb) O Az),fun _ _ hb _ _=>au O (aV (h1.below hb) O Az),Dr O,fun _ _ hb _ _=>au O (aA (hR.ao hb).2 O Az),fun _ _ hb _ _=>au O (aY (hR.ao hb) O Az),fun _ _ hb _ _=>au O (aI (h1.below hb) O Az),fun _ _ hb _ _=>au O (aV (h1.below hb) O Az),Dr O,fun _ _ hb _ _=>au O (aA (hR.ao hb).2 O Az),fun _ _ hb _ _=>au O (aY (hR.ao hb) O Az),fun _ _ _ _ _=>Dk O (by exact aL Value.bool (cM (by omega))),Dr O,Dr O,Dr O,fun _ _ _ _ _=>Dk O (by exact aL Value.bool (eC (by omega))),Dr O,Dr O,Dr O,fun _ _ _ _ _=>au O (dq O Az),fun _ _ hb _ _=>au O (aA (dM.ao hb).2 O Az),fun _ _ hb _ _=>au O (aY (dM.ao hb) O Az),Dr O,fun _ _ _ _ _=>Dk O (by exact aL Value.bool (cM (by omega))),Dr O,Dr O,aw⟩;intro e1 w1 hb hp bc;refine aF (qm _ _ _ _) O ?_;rintro _ w2 ⟨rfl,ax⟩;subst ax;refine ak.n (d0 (by exact O))
   intro u w6 hb _;refine fv O ?_;have Bk:=Bk ⟨by omega,hr⟩;refine Cd.dZ O (aD O (aK O (aS O (tQ ?_))));refine⟨q+1,by show(rg rs k).n - (q+1)< (rg rs k).n - q;omega,(ajz O),by omega,Bk,PR (fun h=>by rw [show((q - 1:Nat):Int)=(q:Int) - 1 by omega];exact hs),oA.ao hb⟩
  refine bo O (bn (cJ O (aK O (aS O (tQ ?_)))));have uw:q=(gl B k).length:=by omega
  refine⟨k+1,by show N - (k+1)<N - k;omega,(ajz O),by omega,fun e he=>?_,ax.ao oA.below⟩
  by_cases ee:e=k
  ·subst ee;refine⟨Tm fun p hp=>has p (by omega),fun d hd=>?_⟩;obtain⟨p,hp,rfl⟩:=gj.1 hd;have:=da p (by omega)
   rwa [bX hp]at this
  exact bM e (by omega)
 have Qy:k=N:=by omega
 rw [Qy,<-gZ]at bM;have bT:∀e:Nat,e<N->(gl B e).length<=500:=fun e h=>by
  have:=sy (N:=R.length) (bM e (by omega)).1.nodup fun x hx=> ((bM e (by omega)).2 x hx).1
  omega
 clear ax h3 hk Qy;refine bo O (bn (cJ O ?_));refine aI h1 O (aV h1 O ?_);refine ba O O (az O ?_);refine Cd.loop (α:=Nat) (fun k=> [(1,.pointer A1),(100,.slice D N cD),(101,aj N),(102,aj k)]) (fun k w'=>k<=N/\(∀e:Nat,e<k->∀d∈gl B e,∀c∈gl B d,c∈gl B e)/\St w4 w' []) (fun k=>N - k) 0 (ajz O) ⟨bu _,fun e he=>by omega,St.refl _⟩ ?_;rintro k e w5 ⟨hk,zb,ax⟩;have hb:=ax.below;have h1:=Rd.below h1 hb;have hB:=hB.ao hb;have aC:=aC.ao hb;clear hb;refine b8 O (aM _ O (fun h3=>?_) (fun h3=>?_))
 ·have o3:k<N:=by omega
  have dM:=hB.at_ (i:=(k:Int)) (by omega) (by omega);have jG:=dM.1;have Kn:=bT k o3;have ew:=bM k (by omega);refine aD O (aA hB.top.2 O (bQ hB.top O ?_));refine aq O (ba O O (az O ?_));refine Cd.loop (α:=Nat) (fun q=> [(1,.pointer A1),(100,.slice D N cD),(101,aj N),(102,aj k),(9,.slice (rg rs k).a (rg rs k).n (rg rs k).c),(106,.slice (rg rs k).a (rg rs k).n (rg rs k).c),(107,aj ((rg rs k).n:Int)),(108,aj q)]) (fun q w'=>q<=(rg rs k).n/\(∀p:Nat,p<q->∀c∈gl B (gi (gl B k) p),c∈gl B k)/\w'=w5) (fun q=> (rg rs k).n - q) 0 (ajz O) ⟨bu _,fun p hp=>by omega,O⟩ ?_;rintro q e w6 ⟨hq,QX,rfl⟩;refine b8 O (aM _ O (fun h4=>?_) (fun h4=>?_))
  ·have ng:q< (gl B k).length:=by omega
   have yL:=gi_in ng;have hd:=ew.2 (gi (gl B k) q) yL;refine aD O (aA dM.2 O (aY dM O (aq O (aI h1 O (aV h1 O (aq O ?_))))));generalize uh:gi (gl B k) q=d at*;have gF:=hB.at_ (i:=d) (by omega) (by omega);have Q3:=gF.1;have s8:(gl B d).length<=500:=by
    have:=bT d.toNat (by omega)
    rwa [Int.toNat_of_nonneg hd.1.1]at this
   refine aA hB.top.2 O (bQ hB.top O ?_);refine ba O O (az O ?_);refine Cd.loop (α:=Nat) (fun t=> [(1,.pointer A1),(100,.slice D N cD),(101,aj N),(102,aj k),(9,.slice (rg rs k).a (rg rs k).n (rg rs k).c),(106,.slice (rg rs k).a (rg rs k).n (rg rs k).c),(107,aj ((rg rs k).n:Int)),(108,aj q),(116,.slice (rg rs d).a (rg rs d).n (rg rs d).c),(117,aj ((rg rs d).n:Int)),(118,aj t)]) (fun t w'=>t<=(rg rs d).n/\(∀p:Nat,p<t->gi (gl B d) p∈gl B k)/\w'=w6) (fun t=> (rg rs d).n - t) 0 (ajz O) ⟨bu _,fun p hp=>by omega,O⟩ ?_;rintro t e w7 ⟨ht,Rm,rfl⟩;refine b8 O (aM _ O (fun h5=>?_) (fun h5=>?_))
   ·have DY:t< (gl B d).length:=by omega
    have rW:=gi_in DY;refine aD O (aA gF.2 O (aY gF O (aq O (aF (HT _ _ _ (gl B k) _ _ dM ew.1 (by omega)) O ?_))));rintro _ _ ⟨⟨p,rfl⟩,rfl⟩;refine aq O ?_
    first | refine de rfl rfl ?_ | refine dV rfl rfl ?_
    refine az O (aM _ O (fun h=>?_) (fun h6=>?_))
    ·refine dB O (dO (dJ (dO (dJ (dO (dJ ?_))))));exact ck O ⟨false,O,⟨fun h'=>absurd h' (by decide),fun hP=>absurd (hP.tr k (by omega) d yL _ rW) h⟩,aC.none⟩
    refine aD O (aK O (aS O (tQ ?_)));exact⟨t+1,by show(rg rs d).n - (t+1)< (rg rs d).n - t;omega,(ajz O),by omega,fun p hp=>by
     by_cases ep:p=t
     ·subst ep;exact Decidable.not_not.1 h6
     exact Rm p (by omega),O⟩
   refine bo O (bn (cJ O (aK O (aS O (tQ ?_)))));exact⟨q+1,by show(rg rs k).n - (q+1)< (rg rs k).n - q;omega,(ajz O),by omega,fun p hp c hc=>by
    by_cases ep:p=q
    ·subst ep;rw [uh]at hc;obtain⟨j,hj,rfl⟩:=gj.1 hc;have:=Rm j (by omega)
     rwa [bX hj]at this
    exact QX p (by omega) c hc,O⟩
  refine bo O (bn (cJ O (aK O (aS O (tQ ?_)))));exact⟨k+1,by show N - (k+1)<N - k;omega,(ajz O),by omega,fun e he d hd c hc=>by
   by_cases ee:e=k
   ·subst ee;obtain⟨j,hj,rfl⟩:=gj.1 hd;exact QX j (by omega) c (by rw [bX hj];exact hc)
   exact zb e (by omega) d hd c hc,ax⟩
 refine bo O (bn (eG O ?_));refine ck O ?_;exact⟨true,O,⟨fun _=> ⟨by omega,by omega,by omega,g4,JH,bM,fun e he=>zb e (by omega)⟩,fun _=>O⟩,aC.none⟩
structure wj where
 m:Nat
 AR:ai
 cR:Nat
 Lr:ah
 AD:ai
 cD:Nat
 bN:List aX
 BL:ag
 AF:ai
 cF:Nat
 F:ah
 AG:ai
 cG:Nat
 G:ah
def wj.dH(x:wj)(A2 A3 A4 A5:ai)(n:Int)(vp vq:List ab):List Ck:=bp A5 n x.AR x.m x.cR x.AD x.m x.cD::ar 2 x.AR x.m x.cR x.Lr::ar 2 x.AF (x.F).length x.cF (x.F)::ar 2 x.AG (x.G).length x.cG (x.G)::bp A4 0 none 0 0 none 0 0::Bx 51 3 A3 vq::Bx 51 3 A2 vp::br 24 x.AD x.m x.cD x.bN::bF 2 x.bN x.BL
structure wj.ok(x:wj):Prop where
 r:x.bN.length=x.m
 b:x.BL.length=x.m
 l:x.Lr.length=x.m
 f:x.F.length<=x.m
 g:x.G.length<=x.m
theorem SN{α:Type}(y l a b c d e f g h:α)(X:List α):(a::b::c::d::e::f::g::h::(X++ [y])).Perm (y::a::b::c::d::e::f::g::h::X):=by
 classical
 refine px.2 fun z=>?_
 simp only [rz,nZ,rA];omega
theorem afb{α:Type}(g f o a q p x y:α):[x,y,g,f,o,a,q,p].Perm [o,x,f,g,a,q,p,y]:=by
 classical
 refine px.2 fun z=>?_
 simp only [nZ,rA];omega
theorem adG(n:Int)(A D:ai)(cA cD:Nat)(R:ah)(rs:List aX)(B:ag)(A' D':ai)(Nz yi:Nat)(R':ah)(rs':List aX)(B':ag)(w:aa)(hR:bt w A R.length R)(hB:bL w D B.length rs B)(wT:bt w A' R'.length R')(Jb:bL w D' B'.length rs' B')(hP:CJ n R B)(tZ:CJ n R' B'):
 aG prog 231 [.agg #[aj n,.slice A R.length cA,.slice D B.length cD],.agg #[aj n,.slice A' R'.length Nz,.slice D' B'.length yi]] w (fun v w'=>∃(AR:ai) (m cR:Nat) (Lr:ah) (AD:ai) (cE:Nat) (bN:List aX) (BL:ag),v= .agg #[aj n,.slice AR m cR,.slice AD m cE]/\m<=10000/\bN.length=m/\BL.length=m/\St w w' (ar 2 AR m cR Lr::br 24 AD m cE bN::bF 2 bN BL)):=by
 have hn:=hP.n1;have rV:=hP.od;have Z7:=tZ.od;have hle:=hP.len;have QC:=tZ.len;obtain⟨N,hN⟩:∃N,R.length=N:=⟨_,rfl⟩;obtain⟨N',FD⟩:∃N',R'.length=N':=⟨_,rfl⟩;rw [hle,hN]at hB;rw [QC,FD]at Jb;rw [hN]at hR rV;rw [FD]at wT Z7;rw [hle,QC,hN,FD];have bM:∀e:Nat,e<N->∀d∈gl B e,(0<=d/\d< (e:Int))/\gi R d<gi R e:=fun e he d hd=> (hP.at_ (e:=(e:Int)) (by omega) (by omega)).2.1 d hd
 have abT:∀e:Nat,e<N'->∀d∈gl B' e,(0<=d/\d< (e:Int))/\gi R' d<gi R' e:=fun e he d hd=> (tZ.at_ (e:=(e:Int)) (by omega) (by omega)).2.1 d hd
 have JH:∀i j:Nat,i<=j->j<N->gi R i<=gi R j:=fun i j h1 h2=>hP.mj.le h1 (by omega)
 have ZZ:∀i j:Nat,i<=j->j<N'->gi R' i<=gi R' j:=fun i j h1 h2=>tZ.mj.le h1 (by omega)
 have hlen:∀e:Nat,e<N->(gl B e).length<=500:=fun e he=>by
  have h1:=hP.row e (by omega);have:=sy (N:=R.length) h1.1.nodup fun x hx=> (h1.2 x hx).1
  omega
 have qR:∀e:Nat,e<N'->(gl B' e).length<=500:=fun e he=>by
  have h1:=tZ.row e (by omega);have:=sy (N:=R'.length) h1.1.nodup fun x hx=> (h1.2 x hx).1
  omega
 have FJ:∀j:Nat,j<N->0<=gi R j:=fun j hj=> (hP.lH _ (gi_in (by omega))).1
 have ZE:∀j:Nat,j<N'->0<=gi R' j:=fun j hj=> (tZ.lH _ (gi_in (by omega))).1
 clear hP tZ;refine bw func231 O ntmps231 O (kX O O) (bb O (lT (St.refl w) O O ?_));intro A2 w1 hS;refine lT hS O O fun A3 w2 hS=>jc hS O ?_;intro A4 w3 hS;refine aq O (aI (hS.rd 2 O) O (fL (j:=0) (hS.rd 2 O) (by exact aL Value.pointer O) O O O O (CD (by exact inferInstance) (by exact inferInstance) (by exact inferInstance) O O O O O O (jc hS O ?_))));intro A5 w4 hS;refine bS 3 0 hS O O O O O O O ?_;clear hS;intro w5 hS;refine aq O (fZ hS O ?_);clear hS;intro A6 w6 hS;refine fZ hS O ?_;clear hS;intro A7 w7 hS;obtain⟨vp,Gm⟩:∃vp:List ab,vp=[aj n,.slice A N cA,.slice D N cD]:=⟨_,rfl⟩;obtain⟨vq,Ky⟩:∃vq:List ab,vq=[aj n,.slice A' N' Nz,.slice D' N' yi]:=⟨_,rfl⟩;have uc:St w w7 (wj.dH ⟨0,none,0,[],none,0,[],[],A6,0,[],A7,0,[]⟩ A2 A3 A4 A5 n vp vq):=by
  rw [Gm,Ky];have h9:=(hS.nil 24).nil 2;exact h9.perm (afb _ _ _ _ _ _ _ _)
 clear hS;refine az O (Cd.loop (α:=Nat×wj) (fun z=> [(2,.pointer A2),(3,.pointer A3),(4,.pointer A4),(5,.pointer A5),(6,.slice z.2.AF z.2.F.length z.2.cF),(7,.slice z.2.AG z.2.G.length z.2.cG),(8,aj (z.1:Int))]) (fun z w'=>z.1<=n.toNat/\z.2.ok/\(∀j:Nat,j<N->gi R j<z.1->j<z.2.F.length)/\(∀j:Nat,j<N'->gi R' j<z.1->j<z.2.G.length)/\z.2.m<=1000*z.1/\St w w' (z.2.dH A2 A3 A4 A5 n vp vq)) (fun z=>n.toNat - z.1) (0,⟨0,none,0,[],none,0,[],[],A6,0,[],A7,0,[]⟩) (ajz O) ⟨bu _,⟨O,O,O,dC _,dC _⟩,fun j hj h=>?_,fun j hj h=>?_,dC _,uc⟩ ?_)
 ·have:=FJ j hj;have h:gi R j< ((0:Nat):Int):=h;omega
 ·have:=ZE j hj;have h:gi R' j< ((0:Nat):Int):=h;omega
 clear uc;rintro⟨k,x⟩ e w8 ⟨hk,bz,hF,hG,hm,hS⟩;dsimp only at hk bz hF hG hm hS|-;have gA:=hS.rd 6 O;rw [Gm]at gA;refine bb O (aI gA O (fL (j:=0) gA (by exact aL Value.pointer O) O O O O ?_));clear gA;refine az O (aM _ O (fun h1=>?_) (fun h1=>?_))
 ·have qQ:(k:Int)<n:=h1;refine cW O ?_;refine Cd.loop (α:=Nat×wj) (fun z=> [(2,.pointer A2),(3,.pointer A3),(4,.pointer A4),(5,.pointer A5),(6,.slice z.2.AF z.2.F.length z.2.cF),(7,.slice z.2.AG z.2.G.length z.2.cG),(8,aj k),(9,aj (z.1:Int))]) (fun z w'=>z.1<=N/\z.2.ok/\(∀j:Nat,j<N->(gi R j<k\/gi R j=k/\j<z.1)->j<z.2.F.length)/\(∀j:Nat,j<N'->gi R' j<k->j<z.2.G.length)/\z.2.m<=1000*k+z.1/\St w w' (z.2.dH A2 A3 A4 A5 n vp vq)) (fun z=>N - z.1) (0,x) (ajz O) ⟨bu _,bz,fun j hj h=>hF j hj (h.resolve_right fun h=>absurd h.2 (mg _)),hG,by show x.m<=1000*k+0;omega,hS⟩ ?_;clear hS bz hF hG hm;rintro⟨e,x⟩ ev w9 ⟨he,bz,hF,hG,hm,hS⟩;dsimp only at he bz hF hG hm hS|-;have qY:=bz.f;have vI:=bz.g;have hx3:=bz.r;have hx4:=bz.b;have hx5:=bz.l;have gA:=hS.rd 6 O;rw [Gm]at gA;have kj:=hS.b9 hR;have kf:=hS.cV hB;refine bb O (aI gA O (ajt (j:=1) gA (by exact aL Value.pointer O) O O O O ?_));refine ba O O (az O ?_);refine aM _ O (fun h2=>?_) (fun h2=>?_)
  ·have sY:e<N:=by omega
   refine aD O (aI gA O (ajt (j:=1) gA (by exact aL Value.pointer O) O O O O (aq O (aA kj.2 O (aY kj O (az O ?_))))));refine aM _ O (fun h3=>?_) (fun h3=>?_)
   ·have h3:gi R e=k:=h3;have heF:e<=x.F.length:=by
     by_cases h0:e=0
     ·omega
     have h4:=JH (e - 1) e (by omega) sY;have h5:=hF (e - 1) (by omega) (by omega);omega
    have dM:=kf.at_ (i:=(e:Int)) (by omega) (by omega);have jG:=dM.1;have bT:=hlen e sY;refine aD O (fZ hS O ?_);intro du dA cj;have cj:St w dA (ar 2 du 0 0 []::x.dH A2 A3 A4 A5 n vp vq):=cj;refine az O (Cd.loop (α:=Nat×ai×Nat×ah) (fun z=> [(2,.pointer A2),(3,.pointer A3),(4,.pointer A4),(5,.pointer A5),(6,.slice x.AF x.F.length x.cF),(7,.slice x.AG x.G.length x.cG),(8,aj k),(9,aj e),(10,.slice z.2.1 z.1 z.2.2.1),(11,aj (z.1:Int))]) (fun z w'=>z.1<=(gl B e).length/\St w w' (ar 2 z.2.1 z.1 z.2.2.1 z.2.2.2::x.dH A2 A3 A4 A5 n vp vq)) (fun z=> (gl B e).length - z.1) (0,du,0,[]) (ajz O) ⟨bu _,cj⟩ ?_);clear cj hS gA;rintro⟨q,du,fx,L⟩ ev eA ⟨hq,hS⟩;dsimp only at hq hS|-;have gA:=hS.rd 7 O;rw [Gm]at gA;have kf:=hS.cV hB;have dM:=kf.at_ (i:=(e:Int)) (by omega) (by omega);refine bb O (aI gA O (ajt (j:=2) gA (by exact aL Value.pointer O) O O O O (aq O (aA kf.top.2 O (bQ kf.top O ?_)))));refine ba O O (az O ?_);refine aM _ O (fun h4=>?_) (fun h4=>?_)
    ·have ng:q< (gl B e).length:=by omega
     have hd:=bM e sY _ (gi_in ng);refine aD O (aI gA O (ajt (j:=2) gA (by exact aL Value.pointer O) O O O O (aq O (aA kf.top.2 O (bQ kf.top O (aq O (aA dM.2 O (aY dM O ?_))))))));have wP:=hS.bk 3 O;refine aA wP.2 O (aY wP O (dE hS O O O ?_));intro Mh fY eo;refine dS 1 eo O (eo.bk 0 O) O O O fun Hh H3 iw fR=>aq O (aK O (aS O (tQ ?_)));exact⟨(q+1,Hh,H3,_),by show(gl B e).length - (q+1)< (gl B e).length - q;omega,(ajz O),by show q+1<=(gl B e).length;omega,fR.tail⟩
    clear gA kf dM;have o4:=hS.rd 1 O;refine bo O (bn (cJ O ?_));refine aI o4 O (ajt (j:=1) o4 (by exact aL Value.pointer O) O O O O (ba O O (dE hS O O O ?_)));intro T9 fY eo;refine dS 4 eo O (eo.bk 0 O) O O O ?_;intro oL oT iw fR;have hS:=fR.tail;clear eo fR o4;have o4:=hS.rd 1 O;refine aq O (aI o4 O (ajt (j:=1) o4 (by exact aL Value.pointer O) O O O O (aq O (dE hS O O O ?_))));intro Ub rq l9;refine dS 3 l9 O (l9.bk 0 O) O O O ?_;intro jK jO uR kD;have DL:=kD.rd 2 O;refine aI DL O (ke 2 kD O O O O O ?_);intro zx mW;have mW:St w zx (ar 2 du q fx L::bp A5 n jK (x.m+1) jO x.AD x.m x.cD::ar 2 jK (x.m+1) jO (x.Lr++ [(k:Int)])::ar 2 oL (x.F.length+1) oT (x.F++ [(x.m:Int)])::ar 2 x.AG (x.G).length x.cG (x.G)::bp A4 0 none 0 0 none 0 0::Bx 51 3 A3 vq::Bx 51 3 A2 vp::br 24 x.AD x.m x.cD x.bN::bF 2 x.bN x.BL):=mW.tail;clear l9 kD hS o4 DL;refine az O ?_;refine jm [5,7] [yP (aB (A5) 2),yS (x.AD) (x.m) (x.cD),yS (du) (q) (fx),.pr (fun v w'=>∃eg en eF,v= .slice eg q en/\St w w' (ar 2 eg q en eF::ar 2 du q fx L::bp A5 n jK (x.m+1) jO x.AD x.m x.cD::ar 2 jK (x.m+1) jO (x.Lr++ [(k:Int)])::ar 2 oL (x.F.length+1) oT (x.F++ [(x.m:Int)])::ar 2 x.AG (x.G).length x.cG (x.G)::bp A4 0 none 0 0 none 0 0::Bx 51 3 A3 vq::Bx 51 3 A2 vp::br 24 x.AD x.m x.cD x.bN::bF 2 x.bN x.BL)),.pr (fun v w'=>∃eg en eF oM,v= .slice oM 1 1/\St w w' (br 24 oM 1 1 [⟨eg,q,en⟩]::ar 2 eg q en eF::ar 2 du q fx L::bp A5 n jK (x.m+1) jO x.AD x.m x.cD::ar 2 jK (x.m+1) jO (x.Lr++ [(k:Int)])::ar 2 oL (x.F.length+1) oT (x.F++ [(x.m:Int)])::ar 2 x.AG (x.G).length x.cG (x.G)::bp A4 0 none 0 0 none 0 0::Bx 51 3 A3 vq::Bx 51 3 A2 vp::br 24 x.AD x.m x.cD x.bN::bF 2 x.bN x.BL)),.pr (fun v w'=>∃eg en eF gH gJ,v= .slice gH (x.m+1) gJ/\St w w' (ar 2 eg q en eF::ar 2 du q fx L::bp A5 n jK (x.m+1) jO x.AD x.m x.cD::ar 2 jK (x.m+1) jO (x.Lr++ [(k:Int)])::ar 2 oL (x.F.length+1) oT (x.F++ [(x.m:Int)])::ar 2 x.AG (x.G).length x.cG (x.G)::bp A4 0 none 0 0 none 0 0::Bx 51 3 A3 vq::Bx 51 3 A2 vp::br 24 gH (x.m+1) gJ (x.bN++ [⟨eg,q,en⟩])::bF 2 x.bN x.BL)),yP (aB (A5) 2),.pr (fun _ w'=>∃eg en eF gH gJ,St w w' (ar 2 eg q en eF::ar 2 du q fx L::bp A5 n jK (x.m+1) jO gH (x.m+1) gJ::ar 2 jK (x.m+1) jO (x.Lr++ [(k:Int)])::ar 2 oL (x.F.length+1) oT (x.F++ [(x.m:Int)])::ar 2 x.AG (x.G).length x.cG (x.G)::bp A4 0 none 0 0 none 0 0::Bx 51 3 A3 vq::Bx 51 3 A2 vp::br 24 gH (x.m+1) gJ (x.bN++ [⟨eg,q,en⟩])::bF 2 x.bN x.BL))] (ly (ly (ly (cg.2 ⟨Ye.cH (fun v w w' h hb=>by obtain⟨eg,en,eF,hv,h1⟩:=h;exact⟨eg,en,eF,hv,h1.ao hb⟩),(cg.2 ⟨Ye.cH (fun v w w' h hb=>by obtain⟨eg,en,eF,oM,hv,h1⟩:=h;exact⟨eg,en,eF,oM,hv,h1.ao hb⟩),(cg.2 ⟨Ye.cH (fun v w w' h hb=>by obtain⟨eg,en,eF,gH,gJ,hv,h1⟩:=h;exact⟨eg,en,eF,gH,gJ,hv,h1.ao hb⟩),(ly (cg.2 ⟨Ye.cH (fun v w w' h hb=>by obtain⟨eg,en,eF,gH,gJ,h1⟩:=h;exact⟨eg,en,eF,gH,gJ,h1.ao hb⟩),(fun _ h=>by cases h)⟩))⟩)⟩)⟩)))) ?_ ?_
    ·refine⟨cP fun _ _ hb _ _ _=>aI ((mW.rd 1 O).below hb) O (bq O O),cP fun _ _ hb _ _ _=>aV ((mW.rd 1 O).below hb) O (bq O O),bZ O,?_,?_,?_,?_,?_,aw⟩
     ·refine cP fun e1 w1 hb hp bc hq=>?_
      refine aF (RX du q fx L _ ((mW.ao hb).bk 0 O) (by omega)) O ?_;rintro _ pj ⟨eg,en,eF,rfl,_,xD⟩;exact ak.n (fu.dn O xD.below ⟨eg,en,eF,O,(mW.ao hb).call xD⟩)
     ·refine cP fun e1 w1 hb hp bc hq=>?_
      obtain⟨eg,en,eF,hv,h1⟩:=(hp 3 _ _ (by kernel_rfl) rfl rfl (by kernel_rfl));refine lU (St.refl _) (by exact hv) O O ?_;intro oM Cf xE;exact ak.n (fu.dn O xE.below ⟨eg,en,eF,oM,O,h1.call xE⟩)
     ·refine ju fun e1 w1 hb hp bc hq=>?_
      obtain⟨eg,en,eF,oM,hv,h1⟩:=(hp 4 _ _ (by kernel_rfl) rfl rfl (by kernel_rfl));refine lS 10 h1 O (h1.fq 0 O) O (by exact hv) O (by omega) (by omega) O ?_;intro gH gJ zy Dj;exact ak.n (fF.dn O ⟨eg,en,eF,gH,gJ,O,Dj.tail⟩)
     ·refine dP 1 fun e1 w1 hp bc hq=>?_
      have fC:=hp 5 _ _ (by kernel_rfl) O O (by kernel_rfl);obtain⟨eg,en,eF,gH,gJ,vj,hT⟩:=fC;refine aI ((hT.rd 2 O)) O (ak.n (gh O (by exact O)))
     refine sP 1 fun e1 w1 hp bc hq=>?_
     have fC:=hp 5 _ _ (by kernel_rfl) O O (by kernel_rfl);obtain⟨eg,en,eF,gH,gJ,vj,hT⟩:=fC;refine ke 2 hT O O (by exact vj) O O ?_;intro zz Dl;exact ak.n (fF.st O ⟨eg,en,eF,gH,gJ,Dl⟩)
    intro u tD _ hu _ _;obtain⟨eg,en,eF,gH,gJ,hT⟩:=hu 7 _ rfl (by kernel_rfl);refine fJ O (aK O (aS O (tQ ?_)));refine⟨(e+1,⟨x.m+1,jK,jO,x.Lr++ [(k:Int)],gH,gJ,x.bN++ [⟨eg,q,en⟩],x.BL++ [eF],oL,oT,x.F++ [(x.m:Int)],x.AG,x.cG,x.G⟩),by show N - (e+1)<N - e;omega,⟨O,O,O,O,by show Value.slice _ _ _= .slice _ _ _;rw [dh];rfl,O,O,aL (Value.int .i64) (by omega),aw⟩,by show e+1<=N;omega,⟨by simp [bz.r],by simp [bz.b],by simp [bz.l],by show(x.F++ [_]).length<=x.m+1;simp;omega,by show x.G.length<=x.m+1;omega⟩,fun j hj h=>by
     show j< (x.F++ [_]).length;rw [dh,List.length_singleton]
     by_cases ej:j=e
     ·omega
     have:=hF j hj (by exact h.imp_right fun h=> ⟨h.1,by have h2:j<e+1:=h.2;omega⟩);omega,hG,by show x.m+1<=1000*k+ (e+1);omega,?_⟩
    show St w tD (bp A5 n jK (x.m+1) jO gH (x.m+1) gJ::ar 2 jK (x.m+1) jO (x.Lr++ [(k:Int)])::ar 2 oL (x.F++ [(x.m:Int)]).length oT (x.F++ [(x.m:Int)])::ar 2 x.AG (x.G).length x.cG (x.G)::bp A4 0 none 0 0 none 0 0::Bx 51 3 A3 vq::Bx 51 3 A2 vp::br 24 gH (x.m+1) gJ (x.bN++ [⟨eg,q,en⟩])::bF 2 (x.bN++ [⟨eg,q,en⟩]) (x.BL++ [eF]));rw [vV (by omega),show(x.F++ [(x.m:Int)]).length=x.F.length+1 by simp];refine St.perm ?_ (SN _ (ar 2 du q fx L) _ _ _ _ _ _ _ _ _).symm;exact hT.sub ((List.sublist_cons_self _ _).cons_cons _)
   refine aD O (aK O (aS O (tQ ?_)));exact⟨(e+1,x),by show N - (e+1)<N - e;omega,⟨O,O,O,O,O,O,O,aL (Value.int .i64) (by omega),aw⟩,by show e+1<=N;omega,bz,fun j hj h=>hF j hj (h.imp_right fun h5=> ⟨h5.1,by have h2:j<e+1:=h5.2;have:j≠e:=(fun ej=>h3 (by rw [<-ej];exact h5.1));omega⟩),hG,by show x.m<=1000*k+ (e+1);omega,hS⟩
  have sY:e=N:=by omega
  have Pb:∀j:Nat,j<N->gi R j< ((k+1:Nat):Int)->j<x.F.length:=fun j hj h=>hF j hj (by omega)
  clear hF gA kj kf;have hF:=Pb;clear Pb;rw [sY]at hm;refine bo O (bn (nY O ?_));refine Cd.loop (α:=Nat×wj) (fun z=> [(2,.pointer A2),(3,.pointer A3),(4,.pointer A4),(5,.pointer A5),(6,.slice z.2.AF z.2.F.length z.2.cF),(7,.slice z.2.AG z.2.G.length z.2.cG),(8,aj k),(12,aj (z.1:Int))]) (fun z w'=>z.1<=N'/\z.2.ok/\(∀j:Nat,j<N->gi R j< ((k+1:Nat):Int)->j<z.2.F.length)/\(∀j:Nat,j<N'->(gi R' j<k\/gi R' j=k/\j<z.1)->j<z.2.G.length)/\z.2.m<=1000*k+N+z.1/\St w w' (z.2.dH A2 A3 A4 A5 n vp vq)) (fun z=>N' - z.1) (0,x) (ajz O) ⟨bu _,bz,hF,fun j hj h=>hG j hj (h.resolve_right fun h=>absurd h.2 (mg _)),by show x.m<=1000*k+N+0;omega,hS⟩ ?_;clear hS bz hF hG hm;rintro⟨e,x⟩ ev w9 ⟨he,bz,hF,hG,hm,hS⟩;dsimp only at he bz hF hG hm hS|-;have qY:=bz.f;have vI:=bz.g;have hx3:=bz.r;have hx4:=bz.b;have hx5:=bz.l;have gA:=hS.rd 5 O;rw [Ky]at gA;have PD:=hS.b9 wT;have kf:=hS.cV Jb;refine bb O (aI gA O (ajt (j:=1) gA (by exact aL Value.pointer O) O O O O ?_));refine ba O O (az O ?_);refine aM _ O (fun h2=>?_) (fun h2=>?_)
  ·have sY:e<N':=by omega
   refine aD O (aI gA O (ajt (j:=1) gA (by exact aL Value.pointer O) O O O O (aq O (aA PD.2 O (aY PD O (az O ?_))))));refine aM _ O (fun h3=>?_) (fun h3=>?_)
   ·have h3:gi R' e=k:=h3;have heF:e<=x.G.length:=by
     by_cases h0:e=0
     ·omega
     have h4:=ZZ (e - 1) e (by omega) sY;have h5:=hG (e - 1) (by omega) (by omega);omega
    have dM:=kf.at_ (i:=(e:Int)) (by omega) (by omega);have jG:=dM.1;have bT:=qR e sY;refine aD O (fZ hS O ?_);intro du dA cj;have cj:St w dA (ar 2 du 0 0 []::x.dH A2 A3 A4 A5 n vp vq):=cj;refine az O (Cd.loop (α:=Nat×ai×Nat×ah) (fun z=> [(2,.pointer A2),(3,.pointer A3),(4,.pointer A4),(5,.pointer A5),(6,.slice x.AF x.F.length x.cF),(7,.slice x.AG x.G.length x.cG),(8,aj k),(12,aj e),(13,.slice z.2.1 z.1 z.2.2.1),(14,aj (z.1:Int))]) (fun z w'=>z.1<=(gl B' e).length/\St w w' (ar 2 z.2.1 z.1 z.2.2.1 z.2.2.2::x.dH A2 A3 A4 A5 n vp vq)) (fun z=> (gl B' e).length - z.1) (0,du,0,[]) (ajz O) ⟨bu _,cj⟩ ?_);clear cj hS gA;rintro⟨q,du,fx,L⟩ ev eA ⟨hq,hS⟩;dsimp only at hq hS|-;have gA:=hS.rd 6 O;rw [Ky]at gA;have kf:=hS.cV Jb;have dM:=kf.at_ (i:=(e:Int)) (by omega) (by omega);refine bb O (aI gA O (ajt (j:=2) gA (by exact aL Value.pointer O) O O O O (aq O (aA kf.top.2 O (bQ kf.top O ?_)))));refine ba O O (az O ?_);refine aM _ O (fun h4=>?_) (fun h4=>?_)
    ·have ng:q< (gl B' e).length:=by omega
     have hd:=abT e sY _ (gi_in ng);refine aD O (aI gA O (ajt (j:=2) gA (by exact aL Value.pointer O) O O O O (aq O (aA kf.top.2 O (bQ kf.top O (aq O (aA dM.2 O (aY dM O ?_))))))));have wP:=hS.bk 4 O;refine aA wP.2 O (aY wP O (dE hS O O O ?_));intro Mh fY eo;refine dS 1 eo O (eo.bk 0 O) O O O fun Hh H3 iw fR=>aq O (aK O (aS O (tQ ?_)));exact⟨(q+1,Hh,H3,_),by show(gl B' e).length - (q+1)< (gl B' e).length - q;omega,(ajz O),by show q+1<=(gl B' e).length;omega,fR.tail⟩
    clear gA kf dM;have o4:=hS.rd 1 O;refine bo O (bn (cJ O ?_));refine aI o4 O (ajt (j:=1) o4 (by exact aL Value.pointer O) O O O O (ba O O (dE hS O O O ?_)));intro T9 fY eo;refine dS 5 eo O (eo.bk 0 O) O O O ?_;intro oL oT iw fR;have hS:=fR.tail;clear eo fR o4;have o4:=hS.rd 1 O;refine aq O (aI o4 O (ajt (j:=1) o4 (by exact aL Value.pointer O) O O O O (aq O (dE hS O O O ?_))));intro Ub rq l9;refine dS 3 l9 O (l9.bk 0 O) O O O ?_;intro jK jO uR kD;have DL:=kD.rd 2 O;refine aI DL O (ke 2 kD O O O O O ?_);intro zx mW;have mW:St w zx (ar 2 du q fx L::bp A5 n jK (x.m+1) jO x.AD x.m x.cD::ar 2 jK (x.m+1) jO (x.Lr++ [(k:Int)])::ar 2 x.AF (x.F).length x.cF (x.F)::ar 2 oL (x.G.length+1) oT (x.G++ [(x.m:Int)])::bp A4 0 none 0 0 none 0 0::Bx 51 3 A3 vq::Bx 51 3 A2 vp::br 24 x.AD x.m x.cD x.bN::bF 2 x.bN x.BL):=mW.tail;clear l9 kD hS o4 DL;refine az O ?_;refine jm [5,7] [yP (aB (A5) 2),yS (x.AD) (x.m) (x.cD),yS (du) (q) (fx),.pr (fun v w'=>∃eg en eF,v= .slice eg q en/\St w w' (ar 2 eg q en eF::ar 2 du q fx L::bp A5 n jK (x.m+1) jO x.AD x.m x.cD::ar 2 jK (x.m+1) jO (x.Lr++ [(k:Int)])::ar 2 x.AF (x.F).length x.cF (x.F)::ar 2 oL (x.G.length+1) oT (x.G++ [(x.m:Int)])::bp A4 0 none 0 0 none 0 0::Bx 51 3 A3 vq::Bx 51 3 A2 vp::br 24 x.AD x.m x.cD x.bN::bF 2 x.bN x.BL)),.pr (fun v w'=>∃eg en eF oM,v= .slice oM 1 1/\St w w' (br 24 oM 1 1 [⟨eg,q,en⟩]::ar 2 eg q en eF::ar 2 du q fx L::bp A5 n jK (x.m+1) jO x.AD x.m x.cD::ar 2 jK (x.m+1) jO (x.Lr++ [(k:Int)])::ar 2 x.AF (x.F).length x.cF (x.F)::ar 2 oL (x.G.length+1) oT (x.G++ [(x.m:Int)])::bp A4 0 none 0 0 none 0 0::Bx 51 3 A3 vq::Bx 51 3 A2 vp::br 24 x.AD x.m x.cD x.bN::bF 2 x.bN x.BL)),.pr (fun v w'=>∃eg en eF gH gJ,v= .slice gH (x.m+1) gJ/\St w w' (ar 2 eg q en eF::ar 2 du q fx L::bp A5 n jK (x.m+1) jO x.AD x.m x.cD::ar 2 jK (x.m+1) jO (x.Lr++ [(k:Int)])::ar 2 x.AF (x.F).length x.cF (x.F)::ar 2 oL (x.G.length+1) oT (x.G++ [(x.m:Int)])::bp A4 0 none 0 0 none 0 0::Bx 51 3 A3 vq::Bx 51 3 A2 vp::br 24 gH (x.m+1) gJ (x.bN++ [⟨eg,q,en⟩])::bF 2 x.bN x.BL)),yP (aB (A5) 2),.pr (fun _ w'=>∃eg en eF gH gJ,St w w' (ar 2 eg q en eF::ar 2 du q fx L::bp A5 n jK (x.m+1) jO gH (x.m+1) gJ::ar 2 jK (x.m+1) jO (x.Lr++ [(k:Int)])::ar 2 x.AF (x.F).length x.cF (x.F)::ar 2 oL (x.G.length+1) oT (x.G++ [(x.m:Int)])::bp A4 0 none 0 0 none 0 0::Bx 51 3 A3 vq::Bx 51 3 A2 vp::br 24 gH (x.m+1) gJ (x.bN++ [⟨eg,q,en⟩])::bF 2 x.bN x.BL))] (ly (ly (ly (cg.2 ⟨Ye.cH (fun v w w' h hb=>by obtain⟨eg,en,eF,hv,h1⟩:=h;exact⟨eg,en,eF,hv,h1.ao hb⟩),(cg.2 ⟨Ye.cH (fun v w w' h hb=>by obtain⟨eg,en,eF,oM,hv,h1⟩:=h;exact⟨eg,en,eF,oM,hv,h1.ao hb⟩),(cg.2 ⟨Ye.cH (fun v w w' h hb=>by obtain⟨eg,en,eF,gH,gJ,hv,h1⟩:=h;exact⟨eg,en,eF,gH,gJ,hv,h1.ao hb⟩),(ly (cg.2 ⟨Ye.cH (fun v w w' h hb=>by obtain⟨eg,en,eF,gH,gJ,h1⟩:=h;exact⟨eg,en,eF,gH,gJ,h1.ao hb⟩),(fun _ h=>by cases h)⟩))⟩)⟩)⟩)))) ?_ ?_
    ·refine⟨cP fun _ _ hb _ _ _=>aI ((mW.rd 1 O).below hb) O (bq O O),cP fun _ _ hb _ _ _=>aV ((mW.rd 1 O).below hb) O (bq O O),bZ O,?_,?_,?_,?_,?_,aw⟩
     ·refine cP fun e1 w1 hb hp bc hq=>?_
      refine aF (RX du q fx L _ ((mW.ao hb).bk 0 O) (by omega)) O ?_;rintro _ pj ⟨eg,en,eF,rfl,_,xD⟩;exact ak.n (fu.dn O xD.below ⟨eg,en,eF,O,(mW.ao hb).call xD⟩)
     ·refine cP fun e1 w1 hb hp bc hq=>?_
      obtain⟨eg,en,eF,hv,h1⟩:=(hp 3 _ _ (by kernel_rfl) rfl rfl (by kernel_rfl));refine lU (St.refl _) (by exact hv) O O ?_;intro oM Cf xE;exact ak.n (fu.dn O xE.below ⟨eg,en,eF,oM,O,h1.call xE⟩)
     ·refine ju fun e1 w1 hb hp bc hq=>?_
      obtain⟨eg,en,eF,oM,hv,h1⟩:=(hp 4 _ _ (by kernel_rfl) rfl rfl (by kernel_rfl));refine lS 10 h1 O (h1.fq 0 O) O (by exact hv) O (by omega) (by omega) O ?_;intro gH gJ zy Dj;exact ak.n (fF.dn O ⟨eg,en,eF,gH,gJ,O,Dj.tail⟩)
     ·refine dP 1 fun e1 w1 hp bc hq=>?_
      have fC:=hp 5 _ _ (by kernel_rfl) O O (by kernel_rfl);obtain⟨eg,en,eF,gH,gJ,vj,hT⟩:=fC;refine aI ((hT.rd 2 O)) O (ak.n (gh O (by exact O)))
     refine sP 1 fun e1 w1 hp bc hq=>?_
     have fC:=hp 5 _ _ (by kernel_rfl) O O (by kernel_rfl);obtain⟨eg,en,eF,gH,gJ,vj,hT⟩:=fC;refine ke 2 hT O O (by exact vj) O O ?_;intro zz Dl;exact ak.n (fF.st O ⟨eg,en,eF,gH,gJ,Dl⟩)
    intro u tD _ hu _ _;obtain⟨eg,en,eF,gH,gJ,hT⟩:=hu 7 _ rfl (by kernel_rfl);refine fJ O (aK O (aS O (tQ ?_)));refine⟨(e+1,⟨x.m+1,jK,jO,x.Lr++ [(k:Int)],gH,gJ,x.bN++ [⟨eg,q,en⟩],x.BL++ [eF],x.AF,x.cF,x.F,oL,oT,x.G++ [(x.m:Int)]⟩),by show N' - (e+1)<N' - e;omega,⟨O,O,O,O,O,by show Value.slice _ _ _= .slice _ _ _;rw [dh];rfl,O,aL (Value.int .i64) (by omega),aw⟩,by show e+1<=N';omega,⟨by simp [bz.r],by simp [bz.b],by simp [bz.l],by show x.F.length<=x.m+1;omega,by show(x.G++ [_]).length<=x.m+1;simp;omega⟩,hF,fun j hj h=>by
     show j< (x.G++ [_]).length;rw [dh,List.length_singleton]
     by_cases ej:j=e
     ·omega
     have:=hG j hj (by exact h.imp_right fun h=> ⟨h.1,by have h2:j<e+1:=h.2;omega⟩);omega,by show x.m+1<=1000*k+N+ (e+1);omega,?_⟩
    show St w tD (bp A5 n jK (x.m+1) jO gH (x.m+1) gJ::ar 2 jK (x.m+1) jO (x.Lr++ [(k:Int)])::ar 2 x.AF (x.F).length x.cF (x.F)::ar 2 oL (x.G++ [(x.m:Int)]).length oT (x.G++ [(x.m:Int)])::bp A4 0 none 0 0 none 0 0::Bx 51 3 A3 vq::Bx 51 3 A2 vp::br 24 gH (x.m+1) gJ (x.bN++ [⟨eg,q,en⟩])::bF 2 (x.bN++ [⟨eg,q,en⟩]) (x.BL++ [eF]));rw [vV (by omega),show(x.G++ [(x.m:Int)]).length=x.G.length+1 by simp];refine St.perm ?_ (SN _ (ar 2 du q fx L) _ _ _ _ _ _ _ _ _).symm;exact hT.sub ((List.sublist_cons_self _ _).cons_cons _)
   refine aD O (aK O (aS O (tQ ?_)));exact⟨(e+1,x),by show N' - (e+1)<N' - e;omega,⟨O,O,O,O,O,O,O,aL (Value.int .i64) (by omega),aw⟩,by show e+1<=N';omega,bz,hF,fun j hj h=>hG j hj (h.imp_right fun h5=> ⟨h5.1,by have h2:j<e+1:=h5.2;have:j≠e:=(fun ej=>h3 (by rw [<-ej];exact h5.1));omega⟩),by show x.m<=1000*k+N+ (e+1);omega,hS⟩
  have sY:e=N':=by omega
  refine bo O (bn (cJ O (aK O (aS O (tQ ?_)))));exact⟨(k+1,x),by show n.toNat - (k+1)<n.toNat - k;omega,⟨O,O,O,O,O,O,aL (Value.int .i64) (by omega),aw⟩,by show k+1<=n.toNat;omega,bz,hF,fun j hj h=>hG j hj (by have h:gi R' j< ((k+1:Nat):Int):=h;omega),by show x.m<=1000* (k+1);omega,hS⟩
 refine bo O (bn (cJ O ?_));refine bI 2 (hS.rd 0 O) O O O (bS 3 4 hS O O O O O O O ?_);intro w9 bh;refine bD O (fI O (bh.rd 4 O) ?_);refine⟨x.AR,x.m,x.cR,x.Lr,x.AD,x.cD,x.bN,x.BL,O,by omega,bz.r,bz.b,?_⟩;exact bh.tail.sub (((((((dY _).cons _).cons _).cons _).cons _).cons _).cons_cons _)
theorem adT(At:ai)(ct:Nat)(sB:List aX)(T:ag)(s:Nat)(w:aa)(hT:bL w At 2 sB T)(hs:Sys 6 T)(uk:(gl T 0).length=6)(h3:s<=3):aG prog 238 [.slice At 2 ct,aj s] w (fun v w'=>∃A' c' L,v= .slice A' 6 c'/\L.length=6/\(∀x∈L,0<=x/\x<6)/\St w w' [ar 2 A' 6 c' L]):=by
 have yH:=hT.len;refine bw func238 O ntmps238 O (b7 O) (bb O (fZ (St.refl w) O ?_));intro A5 w1 aC;have aC:St w w1 (br 24 A5 0 0 []::[]):=aC;refine az O (Cd.loop (α:=Nat×(ai×Nat)×List aX×ag) (fun z=> [(0,.slice At 2 ct),(1,aj s),(5,.slice z.2.1.1 z.2.2.1.length z.2.1.2),(6,aj (z.1:Int))]) (fun z w'=>z.1<=2/\z.2.2.1.length=z.2.2.2.length/\z.2.2.1.length<=z.1/\(∀j,j<z.2.2.1.length->∃g:Nat,g<2/\z.2.2.1.getD j bW=sB.getD g bW/\z.2.2.2.getD j []=T.getD g [])/\St w w' [br 24 z.2.1.1 z.2.2.1.length z.2.1.2 z.2.2.1]) (fun z=>2 - z.1) (0,(A5,0),[],[]) (ajz O) ⟨bu _,O,dC _,(fun j h=>absurd h (mg _)),aC⟩ ?_);clear aC;rintro⟨i,⟨A5,c5⟩,pU,xs⟩ e w2 ⟨hi,nI,um,hg,hS⟩;dsimp only at hi nI um hg hS|-;have mq:=hS.cV hT;refine bb O (ba O O (az O ?_));refine aM _ O (fun h1=>?_) (fun h1=>?_)
 ·have dI:i<2:=by omega
  refine aD O (lV O O (nX _ (by omega)) (uX (m:=s) (i:=i) O O (by omega) (by omega) O (uU O O (iS (Nat.div_le_self _ _) (by omega)) O (az O ?_))));refine aM _ O (fun h2=>?_) (fun h2=>?_)
  ·refine aD O (aA mq.top.2 O (bQ mq.top O (lU hS O O O ?_)));intro lI w3 aH;refine lS 1 aH O (aH.fq 0 O) O O O (by omega) (by omega) O ?_;intro uS HZ w4 aQ;have aQ:St w w4 [br 24 uS (pU++ [rg sB i]).length HZ (pU++ [rg sB i])]:=by rw [dh];exact aQ.tail
   refine aq O (aK O (aS O (tQ ?_)));exact⟨(i+1,(uS,HZ),pU++ [rg sB i],xs++ [gl T i]),by show 2 - (i+1)<2 - i;omega,⟨O,O,by show Value.slice _ _ _= .slice uS (pU++ [rg sB i]).length HZ;rw [dh];rfl,aL (Value.int .i64) (by omega),aw⟩,by show i+1<=2;omega,by show(pU++ [_]).length=(xs++ [_]).length;simp [nI],by show(pU++ [_]).length<=i+1;simp;omega,(fun j hj=>by
    have hj:j< (pU++ [rg sB i]).length:=hj;rw [dh,List.length_singleton]at hj;show ∃g:Nat,g<2/\(pU++ [rg sB i]).getD j bW=_/\(xs++ [gl T i]).getD j []=_;rcases Nat.lt_or_eq_of_le (Nat.le_of_lt_succ hj)with h | h
    ·obtain⟨g,a,b,c⟩:=hg j h;refine⟨g,a,?_,?_⟩
     ·rw [<-b,dt,dt,lh h]
     rw [<-c,dt,dt,lh (by omega)]
    refine⟨i,dI,?_,?_⟩
    ·rw [dt,jW (by omega),h,Nat.sub_self];rfl
    rw [dt,jW (by omega),show j - xs.length=0 by omega];rfl),aQ⟩
  refine aD O (aK O (aS O (tQ ?_)));exact⟨(i+1,(A5,c5),pU,xs),by show 2 - (i+1)<2 - i;omega,⟨O,O,O,aL (Value.int .i64) (by omega),aw⟩,by show i+1<=2;omega,nI,by show pU.length<=i+1;omega,hg,hS⟩
 have h0:=mq.ql (k:=0) (by omega) (by omega);have ub:bL w2 A5 pU.length pU xs:=⟨hS.fq 0 O,nI.symm,fun j hj=>by
  obtain⟨g,a,b,c⟩:=hg j hj;rw [b,c];exact mq.row g a,fun j hj=>by
  obtain⟨g,a,b,c⟩:=hg j hj;rw [b];exact mq.cap g a⟩
 have DX:Sys 6 xs:=fun p hp=>by
  obtain⟨j,hj,rfl⟩:=gj.1 hp;obtain⟨g,a,b,c⟩:=hg j (by omega);rw [dt,fU hj]at c;have c:xs[j]=T.getD g []:=c;rw [c];refine hs _ ?_;rw [dt,fU (by omega)];exact fe _
 refine bo O (bn (cJ O ?_));refine ajn (i:=0) mq.top.2 O O O (by decide) (by decide) (aju (i:=0) mq.top O (by decide) O O ?_);rw [uk]at h0;rw [<-h0];refine ba O O (aq O ?_);refine aF (RT A5 pU.length c5 pU xs 6 w2 ub (by omega) DX (by omega)) O ?_;rintro _ w3 ⟨A',c',rfl,ax⟩;have hlen:=nQ 6 xs 6;have abS:∀x∈(bG 6 xs 6).1,0<=x/\x<6:=fun x hx=>by
  obtain⟨j,hj,rfl⟩:=gj.1 hx;have h1:=GD DX j (by omega) (by omega);have h2:=uD 6 xs 6;rw [bX hj]at h1;omega
 refine bD O (fb O ?_);exact⟨A',c',(bG 6 xs 6).1,O,hlen,abS,(hS.call ax).sub (List.Sublist.cons_cons _ (List.nil_sublist _))⟩
theorem ahm:(uP [3]).length=2:=by kernel_rfl
theorem ahs:(gl (uP [3]) 0).length=6:=by kernel_rfl
theorem ahq:(ie [3]).all (fun x=>decide (x.length<=1000000))=true:=by kernel_rfl
theorem ahr:decide ((ie [3]).length<=1000000)=true:=by kernel_rfl
def CA(b:Nat)(x:ah):Prop:=(SA x/\∀e∈x,0<=e)/\∀e∈x,e< (b:Int)
def Co(w:aa)(v:ab)(w':aa):Prop:=
 ∃(n:Int) (AR AD:ai) (cR cD m:Nat) (R:ah) (rs:List aX) (B:ag) (X:List Ck) (cd:Int),v= .tuple #[.agg #[aj n,.slice AR m cR,.slice AD m cD],aj cd]/\(-1000<=n/\n<=1000)/\m<=100000/\(∀(w1 fX:aa) (Y:List Ck),St w1 fX (X++Y)->bt fX AR m R/\bL fX AD m rs B)/\St w w' X
theorem Mo(h:St w w' [])(cd:Int):Co w (.tuple #[.agg #[aj 0,.slice none 0 0,.slice none 0 0],aj cd]) w':=
 ⟨0,none,none,0,0,0,[],[],[],[],cd,rfl,by decide,by decide,fun _ _ _ _=> ⟨bt.nil,bL.nil _⟩,h⟩
structure gM where
 m:Nat
 AR:ai
 cR:Nat
 Lr:ah
 AD:ai
 cD:Nat
 bN:List aX
 BL:ag
 AF:ai
 cF:Nat
 F:ah
 AC:ai
 cC:Nat
 hs:List aX
 CS:ag
def gM.dH(x:gM)(eZ:ai):List Ck:=bp eZ 2 x.AR x.m x.cR x.AD x.m x.cD::ar 2 x.AR x.m x.cR x.Lr::ar 2 x.AF x.F.length x.cF x.F::br 24 x.AC x.hs.length x.cC x.hs::br 24 x.AD x.m x.cD x.bN::(bF 2 x.bN x.BL++bF 2 x.hs x.CS)
structure gM.ok(x:gM):Prop where
 d:x.bN.length=x.m
 b:x.BL.length=x.m
 f:x.F.length=x.hs.length
 c:x.CS.length=x.hs.length
 row:∀r∈x.CS,r.length=6/\∀y∈r,0<=y/\y<6
 mj:∀r∈x.BL,CA x.m r
def gM.pos(x:gM)(i:Nat):Prop:=∀j:Nat,j<i->0<=gi x.F j/\∀y∈gl x.CS j,gi x.F j+y<x.m
theorem T1{A:ai}{c:Nat}{hs:List aX}{CS:ag}(h:St w0 w ks)(hl:CS.length=hs.length)(h1:br 24 A hs.length c hs∈ks)(h2:∀k∈bF 2 hs CS,k∈ks):bL w A hs.length hs CS:=by
 obtain⟨n,hn⟩:=List.mem_iff_getElem?.1 h1;refine⟨h.fq n hn,hl,fun i hi=>?_,fun i hi=>?_⟩
 ·obtain⟨n2,s6⟩:=List.mem_iff_getElem?.1 (h2 _ (List.mem_iff_getElem?.2 ⟨i,vU (by omega) hi⟩));exact h.bk n2 s6
 obtain⟨n2,s6⟩:=List.mem_iff_getElem?.1 (h2 _ (List.mem_iff_getElem?.2 ⟨i,vU (by omega) hi⟩));exact h.cap n2 s6
theorem VC{x:gM}(h:St w0 w (x.dH eZ))(hx:x.ok):bL w x.AC x.hs.length x.hs x.CS:=
 T1 (c:=x.cC) h hx.c (by unfold gM.dH;simp) fun k hk=>by
  unfold gM.dH;exact eb _ (eb _ (eb _ (eb _ (eb _ (List.mem_append_right _ hk)))))
theorem VD{x:gM}(h:St w0 w (x.dH eZ))(hx:x.ok):bL w x.AD x.m x.bN x.BL:=by
 have:=T1 (A:=x.AD) (c:=x.cD) (hs:=x.bN) (CS:=x.BL) h (by rw [hx.b,hx.d]) (by rw [hx.d];unfold gM.dH;simp) fun k hk=>by
  unfold gM.dH;exact eb _ (eb _ (eb _ (eb _ (eb _ (List.mem_append_left _ hk)))))
 rwa [hx.d]at this
theorem ahn{α:Type}(n1 n2 f c p:α):[n1,n2,f,c,p].Perm [p,n1,f,c,n2]:=by
 classical
 refine px.2 fun z=>?_
 simp only [nZ,rA];omega
theorem aho{α:Type}(y a b c d e:α)(P Q:List α):(y::a::b::c::d::e::(P++Q)).Perm (a::b::c::d::e::(P++ (Q++ [y]))):=by
 classical
 refine px.2 fun z=>?_
 simp only [rz,nZ,rA];omega
theorem ahp{α:Type}(y a b c d e:α)(P Z:List α):(y::a::b::c::d::e::(P++Z)).Perm (a::b::c::d::e::((P++ [y])++Z)):=by
 classical
 refine px.2 fun z=>?_
 simp only [rz,nZ,rA];omega
theorem CA.mono{b:Nat}{r:ah}(h:CA b r)(hb:b<=b'):CA b' r:=⟨h.1,fun e he=>by have:=h.2 e he;omega⟩
theorem ahj{F:ah}{v:Int}(h:j<F.length):gi (F++ [v]) j=gi F j:=by
 rw [bX (by rw [dh];omega),bX h,List.getElem_append_left h]
theorem ahi(F:ah)(v:Int):gi (F++ [v]) (F.length:Int)=v:=by
 rw [bX (by simp)];simp
theorem ahl{F:ag}{v:ah}(h:j<F.length):gl (F++ [v]) j=gl F j:=by
 rw [fm (by rw [dh];omega),fm h,List.getElem_append_left h]
theorem ahk(F:ag)(v:ah):gl (F++ [v]) (F.length:Int)=v:=by
 rw [fm (by simp)];simp
theorem aht{t:ad}{rs:List aX}{xss:ag}{i:Nat}{s:aX}(h:St w0 w (ar t s.a s.n s.c xs::(pre++ (bF t rs xss++post))))(hl:rs.length=xss.length)(hi:i<rs.length):St w0 w (pre++ (bF t (rs.set i s) (xss.set i xs)++post)):=by
 have hg:(pre++ (bF t rs xss++post))[pre.length+i]?=some (ar t (rs.getD i bW).a (rs.getD i bW).n (rs.getD i bW).c (xss.getD i [])):=by
  rw [jW (by omega),Nat.add_sub_cancel_left,lh (by rw [tq hl];exact hi)];exact vU hl hi
 have h2:=h.VX hg
 rwa [List.set_append_right _ _ (by omega),Nat.add_sub_cancel_left,List.set_append_left _ _ (by rw [tq hl];exact hi),G1 hl]at h2
theorem ahu(Al:ai)(cl:Nat)(t:Nat)(w:aa)(hR:bt w Al 1 [3])(ht:t<=3):aG prog 184 [.slice Al 1 cl,aj t] w (Co w):=by
 have hU:=tA agT;have mq:=ahm;have uk:=ahs;have uq:∀x∈[(3:Int)],0<=x/\x<=32:=fun x hx=>by obtain rfl:=dK.1 hx;decide
 have sg:∀x∈ie [3],x.length<=1000000:=fun x hx=>by have:=List.all_eq_true.1 ahq x hx;simpa using this
 have Q4:(ie [3]).length<=1000000:=rb ahr;have ab6:Sys 6 (uP [3]):=by have:=hU.Lg.2.2.1.sys;rw [uk]at this;exact this
 have Rn:=hU.tab;generalize uP [3]=T at*;obtain⟨PP,Pz⟩:∃P,ie [3]=P:=⟨_,rfl⟩;rw [Pz]at sg Q4 Rn;refine bw func184 O ntmps184 O (tm O O) (bb O (jc (St.refl w) O ?_));intro A4 w1 hS;refine aq O (aF (adS Al cl t _ (hS.b9 hR) ht) O ?_);rintro _ w2 ⟨hc,ax⟩;replace hS:=hS.ao ax.below;clear ax;rcases hc with rfl | rfl
 case inr=>
  refine az O (ya O (by decide) (aD O (yc O (aq O (bS 3 0 hS O O O O O O O ?_)))));intro w7 bl;refine bD O (mH O (bl.rd 0 O) O ?_);exact Mo bl.none 5
 refine az O (gV O (by decide) (aD O (aF (adW Al cl t _ (hS.b9 hR) ht) O ?_)));rintro _ w3 ⟨A7,c7,L,rfl,hL,Pn,Po,ax⟩;replace hS:=hS.call ax;have hS:St w w3 [ar 2 A7 L.length c7 L,bp A4 0 none 0 0 none 0 0]:=hS;clear ax;obtain⟨nk,Kd⟩:∃nk,L.length - 1=nk:=⟨_,rfl⟩;rw [Kd];have F6:∀i:Nat,i<nk->∃s:Nat,gi (L.take nk) i=(s:Int)/\s<=3:=fun i hi=>by
  have h:=hL _ (List.mem_of_mem_take (gi_in (out:=L.take nk) (i:=i) (by rw [nt];omega)));exact⟨(gi (L.take nk) i).toNat,by omega,by omega⟩
 refine az O (Cd.loop (α:=Nat×Int) (fun z=> [(0,.slice Al 1 cl),(1,aj t),(4,.pointer A4),(7,.slice A7 nk c7),(8,aj z.2),(9,aj (z.1:Int))]) (fun z w'=>z.1<=nk/\(0<=z.2/\z.2<=81* (z.1:Int))/\St w w' [ar 2 A7 L.length c7 L,bp A4 0 none 0 0 none 0 0]) (fun z=>nk - z.1) (0,0) (ajz O) ⟨bu _,⟨Int.le_refl _,Int.le_refl _⟩,hS⟩ ?_);clear hS;rintro⟨i,G8⟩ e w4 ⟨hi,Rp,hS⟩;dsimp only at hi Rp hS|-;have hK:=(hS.bk 0 O).take (l:=nk) (by omega);refine bb O (ba O O (az O ?_));refine aM _ O (fun h1=>?_) (fun h1=>?_)
 ·obtain⟨s,DU,DT⟩:=F6 i (by omega);refine aD O (aA hK.2 O (aY hK O ?_));rw [DU];refine aF (adU Al cl t s _ (hS.b9 hR) ht DT) O ?_;rintro _ w5 ⟨r,rfl,hr,ax⟩;refine aK O (aq O (aK O (aS O (tQ ?_))));exact⟨(i+1,G8+r),by show nk - (i+1)<nk - i;omega,⟨O,O,O,O,O,aL (Value.int .i64) (by omega),aw⟩,by show i+1<=nk;omega,by show 0<=G8+r/\G8+r<=81* ((i+1:Nat):Int);omega,hS.ao ax.below⟩
 clear hK;refine bo O (bn (cJ O ?_));refine aF (zi Al cl _) O ?_;rintro _ w5 ⟨rfl,rfl⟩;refine aF (GC Al cl 3 _ (hS.b9 hR) (by omega)) O ?_;rintro _ w6 ⟨r,rfl,hr,ax⟩;replace hS:=hS.ao ax.below;clear ax;refine aq O (cz 53 O (fun h=>absurd h (by omega)) (fun _=>?_));refine au O (aq O (au O (az O ?_)));refine aM _ O (fun h2=>?_) (fun h2=>?_)
 ·refine aD O (yc O (bS 3 1 hS O O O O O O O ?_));intro w7 bl;refine bD O (mH O (bl.rd 1 O) O ?_);exact Mo bl.none 3
 refine aD O ?_;have Kh:=R8 Al 1 cl [3] w6 (hS.b9 hR) (by omega) uq;rw [Pz]at Kh;refine aF Kh O ?_;rintro _ w7 ⟨AP,W9,rsP,rfl,hrP,ax⟩;have PE:=ax.nn O;replace hS:=hS.ao ax.below;clear ax Kh;refine aF (R4 2 AP PP.length W9 rsP PP T _ PE sg Q4 Rn (by omega) (by omega)) O ?_;rintro _ w8 ⟨AT,cT,sB,rfl,hrT,ax⟩;replace hS:=hS.ao ax.below;have Jy:bL w8 AT 2 sB T:=by have:=ax.nn O;rwa [mq]at this
 rw [mq];clear ax PE hrP;have Jn:=(hS.bk 0 O).take (l:=nk) (by omega);have ZH:=hS.b9 hR;have wX:=(Jy.row 0 (by omega)).1;have hT06:(rg sB 0).n=6:=by rw [<-uk];exact wX.symm
 refine az O (gV O (by decide) (aD O (aF (xJ Al 1 cl _ (by omega)) O ?_)));rintro _ w9 ⟨rfl,rfl⟩;refine CD (by exact inferInstance) (by exact inferInstance) (by exact inferInstance) O O O O O O (jc (St.refl _) O ?_);intro eZ dA hU;refine bS 3 0 hU O O O O O O O fun eA hU=>aq O (fZ hU O ?_);intro rr fY hU;refine fZ hU O ?_;intro gU iw hU;have hU:St w9 iw (gM.dH ⟨0,none,0,[],none,0,[],[],gU,0,[],rr,0,[],[]⟩ eZ):=by
  have h7:=(hU.nil 24).nil 2;exact h7.perm (ahn _ _ _ _ _)
 refine az O ?_;refine Cd.loop (α:=Nat×gM) (fun z=> [(0,.slice Al 1 cl),(1,aj t),(4,.pointer A4),(7,.slice A7 nk c7),(10,.slice AT 2 cT),(12,.pointer eZ),(13,.slice z.2.AC z.2.hs.length z.2.cC),(14,.slice z.2.AF z.2.F.length z.2.cF),(15,aj (z.1:Int))]) (fun z w'=>z.1<=nk/\z.2.ok/\z.2.hs.length=z.1/\z.2.m<=6*z.1/\z.2.pos z.1/\St w9 w' (z.2.dH eZ)) (fun z=>nk - z.1) (0,⟨0,none,0,[],none,0,[],[],gU,0,[],rr,0,[],[]⟩) ⟨rfl,rfl,rfl,rfl,rfl,rfl,rfl,rfl,rfl,aw⟩ ⟨bu _,⟨rfl,rfl,rfl,rfl,fun r hr=> (by cases hr),fun r hr=> (by cases hr)⟩,rfl,bu _,fun j h=>absurd h (mg _),hU⟩ ?_;clear hU h2 hr Rp h1;rintro⟨i,x⟩ e' rq ⟨r5,bz,JW,J9,y4,hU⟩;dsimp only at r5 bz JW J9 y4 hU|-;have hokc:=bz.c;have hokf:=bz.f;have hokd:=bz.d;have hokb:=bz.b;have hK:=Jn.ao hU.below;have gZ:=ZH.ao hU.below;have yH:=Jy.ao hU.below;refine bb O (ba O O (az O ?_));refine aM _ O (fun h3=>?_) (fun h3=>?_)
 ·have da:i<nk:=by omega
  obtain⟨s,DU,DT⟩:=F6 i da;refine cW O ?_;refine dQ [xS (AT) (2) (cT),xS (A7) (nk) (c7),xI ((i:Int)),xP (aB (A7) ((i:Int)).toNat),xI (gi ((L.take nk)) ((i:Int))),xS (Al) (1) (cl),xI ((t:Int)),xS (A7) (nk) (c7),xI ((i:Int)),xP (aB (A7) ((i:Int)).toNat),xI (gi ((L.take nk)) ((i:Int))),.pr (fun v w'=>∃r:Nat,v=aj r/\r<=3),.pr (fun v w'=>∃r:Nat,v=aj r/\r<=3),.pr (fun v w'=>∃A' c' L',v= .slice A' 6 c'/\L'.length=6/\(∀x∈L',0<=x/\x<6)/\St w9 w' (ar 2 A' 6 c' L'::x.dH eZ)),.pr (fun v w'=>∃A' c' L',v= .slice A' 6 c'/\L'.length=6/\(∀x∈L',0<=x/\x<6)/\St w9 w' (ar 2 A' 6 c' L'::x.dH eZ))] rfl (lx (lx (lx (lx (lx (lx (lx (lx (lx (lx (lx (cg.2 ⟨Yd.cH (fun v w w' h hb=>h),(cg.2 ⟨Yd.cH (fun v w w' h hb=>h),(cg.2 ⟨Yd.cH (fun v w w' h hb=>by obtain⟨A',c',L',hv,h1,h2,hT⟩:=h;exact⟨A',c',L',hv,h1,h2,hT.ao hb⟩),(cg.2 ⟨Yd.cH (fun v w w' h hb=>by obtain⟨A',c',L',hv,h1,h2,hT⟩:=h;exact⟨A',c',L',hv,h1,h2,hT.ao hb⟩),(fun _ h=>by cases h)⟩)⟩)⟩)⟩)))))))))))) ?_ ?_
  ·refine⟨Dr O,Dr O,Dr O,fun _ _ hb _ _=>aA (hK.ao hb).2 O Az,fun _ _ hb _ _=>aY (hK.ao hb) O Az,Dr O,Dr O,Dr O,Dr O,fun _ _ hb _ _=>aA (hK.ao hb).2 O Az,fun _ _ hb _ _=>aY (hK.ao hb) O Az,?_,?_,?_,?_,aw⟩
   ·intro e1 w1 hb hp bc;refine ajq (Sa Al cl t s _ (gZ.ao hb) ht DT) O (by exact aL (fun x:Int=> [Value.slice Al 1 cl,aj t,aj x]) DU) O ?_;rintro _ w9 ⟨⟨r,rfl,h1⟩,rfl⟩;exact ak.n (e6.dn (Below.refl _ _) ⟨r,O,h1⟩)
   ·intro e1 w1 hb hp bc;obtain⟨r,YO,hr⟩:=(hp 11 (by decide) rfl _ _ rfl rfl);refine HB (a:=s) (b:=r) (by exact aL (Value.int .i64) DU) (by exact YO) DT hr O ?_;intro q hq;exact ak.n (e6.dn (Below.refl _ _) ⟨q,O,hq⟩)
   ·intro e1 w1 hb hp bc;obtain⟨q,YP,hq⟩:=(hp 12 (by decide) rfl _ _ rfl rfl);refine ajq (adT AT cT sB T q _ (yH.ao hb) ab6 uk hq) O (by exact aL (fun v=> [Value.slice AT 2 cT,v]) YP) O ?_;rintro _ w9 ⟨A',c',L',rfl,h1,h2,ax⟩;exact ak.n (e6.dn ax.below ⟨A',c',L',O,h1,h2,(hU.ao hb).call ax⟩)
   intro e1 w1 hb hp bc;obtain⟨A',c',L',C9,h1,h2,hT⟩:=(hp 13 (by decide) rfl _ _ rfl rfl);refine kc O (by exact C9) O (ak.n ?_);exact e6.dn (Below.refl _ _) ⟨A',c',L',O,h1,h2,hT⟩
  intro u uR hb15 hu;obtain⟨jB,kN,sH,l7,yy,Jo,hV⟩:=hu 14 _ rfl;rw [GP u l7 l7];clear hU hu;refine fJ O (lU hV O O O ?_);intro A95 zx hV;refine lS 5 hV O (hV.fq 0 O) O O O (by omega) (by omega) O ?_;intro pq pB tD hV;have hV:St w9 tD (ar 2 jB 6 kN sH::bp eZ 2 x.AR x.m x.cR x.AD x.m x.cD::ar 2 x.AR x.m x.cR x.Lr::ar 2 x.AF x.F.length x.cF x.F::br 24 pq (x.hs.length+1) pB (x.hs++ [⟨jB,6,kN⟩])::br 24 x.AD x.m x.cD x.bN::(bF 2 x.bN x.BL++bF 2 x.hs x.CS)):=hV.tail;refine aq O ?_;have hp:=hV.rd 1 O;refine aI hp O (ajt (j:=1) hp (by exact aL Value.pointer O) O O O O (ba O O (dE hV O O O ?_)));intro A101 w18 hV;refine dS 4 hV O (hV.bk 0 O) O O O ?_;intro qn qG Md hV;have hV:St w9 Md (ar 2 jB 6 kN sH::bp eZ 2 x.AR x.m x.cR x.AD x.m x.cD::ar 2 x.AR x.m x.cR x.Lr::ar 2 qn (x.F.length+1) qG (x.F++ [(x.m:Int)])::br 24 pq (x.hs.length+1) pB (x.hs++ [⟨jB,6,kN⟩])::br 24 x.AD x.m x.cD x.bN::(bF 2 x.bN x.BL++bF 2 x.hs x.CS)):=hV.tail;have Jh:(x.F++ [(x.m:Int)]).length=x.F.length+1:=by simp
  have Jj:(x.hs++ [(⟨jB,6,kN⟩:aX)]).length=x.hs.length+1:=by simp
  have Da:(x.CS++ [sH]).length=x.CS.length+1:=by simp
  have hV:St w9 Md (gM.dH ⟨x.m,x.AR,x.cR,x.Lr,x.AD,x.cD,x.bN,x.BL,qn,qG,x.F++ [(x.m:Int)],pq,pB,x.hs++ [⟨jB,6,kN⟩],x.CS++ [sH]⟩ eZ):=by
   have h9:=hV.perm (aho _ _ _ _ _ _ _ _);rw [<-vV (by omega)]at h9;unfold gM.dH;dsimp only;rw [Jh,Jj];exact h9
  have xA:∀r∈x.CS++ [sH],r.length=6/\∀y∈r,0<=y/\y<6:=fun r hr=>by
   rcases eD.1 hr with h | h
   ·exact bz.row r h
   rw [dK.1 h];exact⟨yy,Jo⟩
  have hg:=Ft 6 sH yy;obtain⟨G,hG⟩:∃G:Nat,mU sH=(G:Int):=⟨(mU sH).toNat,by omega⟩;have hG6:G<=6:=by
   rcases hg.2.2 with h | ⟨y,hy,h⟩
   ·omega
   have:=Jo y hy;omega
  obtain⟨F1,O9⟩:∃F1,x.F++ [(x.m:Int)]=F1:=⟨_,rfl⟩;obtain⟨H1,Pj⟩:∃H1,x.hs++ [(⟨jB,6,kN⟩:aX)]=H1:=⟨_,rfl⟩;obtain⟨C1,Je⟩:∃C1,x.CS++ [sH]=C1:=⟨_,rfl⟩;have abC:∀j:Nat,j<i+1->0<=gi F1 j/\∀y∈gl C1 j,gi F1 j+y< ((x.m+G:Nat):Int):=fun j hj=>by
   rw [<-O9,<-Je]
   by_cases ou:j<i
   ·rw [ahj (by omega),ahl (by omega)];have:=y4 j ou;exact⟨this.1,fun y hy=>by have:=this.2 y hy;omega⟩
   obtain rfl:j=x.F.length:=by omega
   have e2:x.F.length=x.CS.length:=by omega
   rw [ahi];refine⟨by omega,fun y hy=>?_⟩;rw [e2,ahk]at hy;have:=hg.2.1 y hy;omega
  rw [O9]at hV Jh;rw [Pj]at hV Jj;rw [Je]at hV Da xA;rw [<-Jh,<-Jj];refine az O ?_;refine Cd.loop (α:=Nat×(ai×Nat×ah)×(ai×Nat×List aX×ag)) (fun z=> [(0,.slice Al 1 cl),(1,aj t),(4,.pointer A4),(7,.slice A7 nk c7),(10,.slice AT 2 cT),(12,.pointer eZ),(13,.slice pq H1.length pB),(14,.slice qn F1.length qG),(15,aj i),(16,.slice jB 6 kN),(17,aj (z.1:Int))]) (fun z w'=>z.1<=G/\gM.ok ⟨x.m+z.1,z.2.1.1,z.2.1.2.1,z.2.1.2.2,z.2.2.1,z.2.2.2.1,z.2.2.2.2.1,z.2.2.2.2.2,qn,qG,F1,pq,pB,H1,C1⟩/\St w9 w' (gM.dH ⟨x.m+z.1,z.2.1.1,z.2.1.2.1,z.2.1.2.2,z.2.2.1,z.2.2.2.1,z.2.2.2.2.1,z.2.2.2.2.2,qn,qG,F1,pq,pB,H1,C1⟩ eZ)) (fun z=>G - z.1) (0,(x.AR,x.cR,x.Lr),(x.AD,x.cD,x.bN,x.BL)) ⟨O,O,O,O,O,O,O,O,O,O,O,trivial⟩ ⟨Nat.zero_le _,⟨bz.d,bz.b,by dsimp only;omega,by dsimp only;omega,xA,bz.mj⟩,hV⟩ ?_;clear hV;rintro⟨k,⟨AR,cR,Lr⟩,⟨AD,cD,bN,BL⟩⟩ e'' iH ⟨hk,xv,hV⟩;dsimp only at hk xv hV|-;have yK:bN.length=x.m+k:=xv.d;have JO:BL.length=x.m+k:=xv.b;have AA:=Jn.ao hV.below;obtain⟨n2,s6⟩:=List.mem_iff_getElem?.1 (show ar 2 jB 6 kN sH∈gM.dH ⟨x.m+k,AR,cR,Lr,AD,cD,bN,BL,qn,qG,F1,pq,pB,H1,C1⟩ eZ from by
   unfold gM.dH;refine eb _ (eb _ (eb _ (eb _ (eb _ (List.mem_append_right _ ?_)))));dsimp only;rw [<-Pj,<-Je,vV (by omega)];simp)
  have Zg:=hV.bk n2 s6;have hV:St w9 iH (bp eZ 2 AR (x.m+k) cR AD (x.m+k) cD::ar 2 AR (x.m+k) cR Lr::ar 2 qn F1.length qG F1::br 24 pq H1.length pB H1::br 24 AD (x.m+k) cD bN::(bF 2 bN BL++bF 2 H1 C1)):=hV;refine bb O ?_;refine aF (RY jB 6 kN sH _ Zg (by omega) (fun y hy=>by have:=Jo y hy;omega)) O ?_;rintro _ pj ⟨rfl,rfl⟩;rw [hG];refine az O (aM _ O (fun h4=>?_) (fun h4=>?_))
  ·have hkG:k<G:=by omega
   refine cW O ?_;refine jm [8,10] [yP (aB (eZ) 1),yS (AR) (x.m+k) (cR),yS (A7) (nk) (c7),yI ((i:Int)),yP (aB (A7) ((i:Int)).toNat),yI (gi ((L.take nk)) ((i:Int))),.pr (fun v w'=>∃r:Nat,v=aj r/\r<=6),.pr (fun v w'=>∃(r:Nat) (A':ai),v= .slice A' 1 1/\St w9 w' (ar 2 A' 1 1 [(r:Int)]::bp eZ 2 AR (x.m+k) cR AD (x.m+k) cD::ar 2 AR (x.m+k) cR Lr::ar 2 qn F1.length qG F1::br 24 pq H1.length pB H1::br 24 AD (x.m+k) cD bN::(bF 2 bN BL++bF 2 H1 C1))),.pr (fun v w'=>∃(r:Nat) (A':ai) (c':Nat),v= .slice A' (x.m+k+1) c'/\St w9 w' (bp eZ 2 AR (x.m+k) cR AD (x.m+k) cD::ar 2 A' (x.m+k+1) c' (Lr++ [(r:Int)])::ar 2 qn F1.length qG F1::br 24 pq H1.length pB H1::br 24 AD (x.m+k) cD bN::(bF 2 bN BL++bF 2 H1 C1))),yP (aB (eZ) 1),.pr (fun _ w'=>∃(r:Nat) (A':ai) (c':Nat),St w9 w' (bp eZ 2 A' (x.m+k+1) c' AD (x.m+k) cD::ar 2 A' (x.m+k+1) c' (Lr++ [(r:Int)])::ar 2 qn F1.length qG F1::br 24 pq H1.length pB H1::br 24 AD (x.m+k) cD bN::(bF 2 bN BL++bF 2 H1 C1)))] (ly (ly (ly (ly (ly (ly (cg.2 ⟨Ye.cH (fun v w w' h hb=>h),(cg.2 ⟨Ye.cH (fun v w w' h hb=>by obtain⟨r,A',hv,hT⟩:=h;exact⟨r,A',hv,hT.ao hb⟩),(cg.2 ⟨Ye.cH (fun v w w' h hb=>by obtain⟨r,A',c',hv,hT⟩:=h;exact⟨r,A',c',hv,hT.ao hb⟩),(ly (cg.2 ⟨Ye.cH (fun v w w' h hb=>by obtain⟨r,A',c',hT⟩:=h;exact⟨r,A',c',hT.ao hb⟩),(fun _ h=>by cases h)⟩))⟩)⟩)⟩))))))) ?_ ?_
   ·refine⟨cP fun _ _ hb _ _ _=>aI ((hV.rd 0 O).below hb) O (bq O O),cP fun _ _ hb _ _ _=>aV ((hV.rd 0 O).below hb) O (bq O O),bZ O,bZ O,cP fun _ _ hb _ _ _=>aA (AA.ao hb).2 O (bq O O),cP fun _ _ hb _ _ _=>aY (AA.ao hb) O (bq O O),?_,?_,?_,?_,?_,aw⟩
    ·intro e1 w1 cc fB ea fz hp bc hq;show ak _ _ _ _ _ _ _;refine ajq (R9 s _ DT) O (by exact aL (fun x:Int=> [Value.int .i64 x]) DU) O ?_;rintro _ w9 ⟨⟨r,rfl,h1,_⟩,rfl⟩;exact ak.n (fu.dn O (Below.refl _ _) ⟨r,O,h1⟩)
    ·refine cP fun e1 w1 hb hp bc hq=>?_
     obtain⟨r,Yn,hr⟩:=(hp 6 _ _ (by kernel_rfl) rfl rfl (by kernel_rfl));refine dE (St.refl _) (by exact Yn) O O ?_;intro A' w9 ax;exact ak.n (fu.dn O ax.below ⟨r,A',O,(hV.ao hb).call ax⟩)
    ·refine ju fun e1 w1 hb hp bc hq=>?_
     obtain⟨r,A',Yo,hT⟩:=(hp 7 _ _ (by kernel_rfl) rfl rfl (by kernel_rfl));refine dS 2 hT O (hT.bk 0 O) O (by exact Yo) O ?_;intro A2 c2 w9 jy;exact ak.n (fF.dn O ⟨r,A2,c2,O,jy.tail⟩)
    ·refine dP 1 fun e1 w1 hp bc hq=>?_
     have fC:=hp 8 _ _ (by kernel_rfl) O O (by kernel_rfl);obtain⟨r,A2,c2,ON,hT⟩:=fC;refine aI ((hT.rd 0 O)) O (ak.n (gh O (by exact O)))
    refine sP 1 fun e1 w1 hp bc hq=>?_
    have fC:=hp 8 _ _ (by kernel_rfl) O O (by kernel_rfl);obtain⟨r,A2,c2,ON,hT⟩:=fC;refine ke 0 hT O O (by exact ON) O O ?_;intro eA kR;exact ak.n (fF.st O ⟨r,A2,c2,kR⟩)
   intro u Cf _ hu _ _;obtain⟨r,EB,E2,hT⟩:=hu 10 _ rfl (by kernel_rfl);clear hV;refine fJ O ?_;have hp:=hT.rd 0 O;refine aI hp O (ajt (j:=2) hp (by exact aL Value.pointer O) O O O O (fZ hT O ?_));intro Ci zy hV;have hV:St w9 zy (ar 2 Ci 0 0 []::_):=hV;refine lU hV O O O fun A122 zz hV=>lS 6 hV O (hV.fq 0 O) O O O (by omega) (by omega) O ?_;intro EC E3 TZ hV;have hp:=hV.rd 2 O;refine aI hp O (ke 2 hV O O O O O ?_);intro Cg hV;have hV:St w9 Cg (ar 2 Ci 0 0 []::bp eZ 2 EB (x.m+k+1) E2 EC (x.m+k+1) E3::ar 2 EB (x.m+k+1) E2 (Lr++ [(r:Int)])::ar 2 qn F1.length qG F1::br 24 pq H1.length pB H1::br 24 EC (x.m+k+1) E3 (bN++ [⟨Ci,0,0⟩])::(bF 2 bN BL++bF 2 H1 C1)):=hV.tail;have hV:St w9 Cg (gM.dH ⟨x.m+ (k+1),EB,E2,Lr++ [(r:Int)],EC,E3,bN++ [⟨Ci,0,0⟩],BL++ [[]],qn,qG,F1,pq,pB,H1,C1⟩ eZ):=by
    have h9:=hV.perm (ahp _ _ _ _ _ _ _ _);rw [<-vV (by omega)]at h9;exact h9
   refine aq O (aK O (aS O (tQ ?_)));exact⟨(k+1,(EB,E2,Lr++ [(r:Int)]),(EC,E3,bN++ [⟨Ci,0,0⟩],BL++ [[]])),by show G - (k+1)<G - k;omega,(ajz O),by show k+1<=G;omega,⟨by show(bN++ [_]).length=_;rw [dh,yK];rfl,by show(BL++ [_]).length=_;rw [dh,JO];rfl,xv.f,xv.c,xv.row,fun r hr=>by
    rcases eD.1 hr with h | h
    ·exact(xv.mj r h).mono (by show x.m+k<=x.m+ (k+1);omega)
    rw [dK.1 h];exact⟨⟨List.Pairwise.nil,fun e he=>by cases he⟩,fun e he=>by cases he⟩⟩,hV⟩
  obtain rfl:k=G:=by omega
  refine bo O (bn (cJ O (aK O (aS O (tQ ?_)))));exact⟨(i+1,⟨x.m+k,AR,cR,Lr,AD,cD,bN,BL,qn,qG,F1,pq,pB,H1,C1⟩),by show nk - (i+1)<nk - i;omega,(ajz O),by show i+1<=nk;omega,xv,by show H1.length=i+1;omega,by show x.m+k<=6* (i+1);omega,abC,hV⟩
 have o0:i=nk:=by omega
 rw [o0]at JW J9 y4;clear hK gZ yH h3 r5 o0;obtain⟨m,AR,cR,Lr,AD,cD,bN,BL,AF,cF,F,AC,cC,hs,CS⟩:=x;dsimp only at JW J9;have y4:∀j:Nat,j<nk->0<=gi F j/\∀y∈gl CS j,gi F j+y<m:=y4;have Ji:F.length=hs.length:=bz.f;have hCl:CS.length=hs.length:=bz.c;have Ru:∀j:Nat,j<nk->∀f:Nat,f<6->(gl CS j).length=6/\0<=gi F j/\0<=gi (gl CS j) f/\gi (gl CS j) f<6/\gi F j+gi (gl CS j) f<m:=fun j hj f hf=>by
  have gp:gl CS j∈CS:=by rw [fm (by omega)];exact fe _
  have h1:=bz.row _ gp;have h2:=y4 j hj;have hg:gi (gl CS j) f∈gl CS j:=gi_in (by omega);exact⟨h1.1,h2.1,(h1.2 _ hg).1,(h1.2 _ hg).2,h2.2 _ hg⟩
 refine bo O (bn (nY O ?_));refine Cd.loop (α:=Nat×List aX×ag) (fun z=> [(4,.pointer A4),(7,.slice A7 nk c7),(10,.slice AT 2 cT),(12,.pointer eZ),(13,.slice AC hs.length cC),(14,.slice AF F.length cF),(18,aj (z.1:Int))]) (fun z w'=>z.1<=nk/\gM.ok ⟨m,AR,cR,Lr,AD,cD,z.2.1,z.2.2,AF,cF,F,AC,cC,hs,CS⟩/\St w9 w' (gM.dH ⟨m,AR,cR,Lr,AD,cD,z.2.1,z.2.2,AF,cF,F,AC,cC,hs,CS⟩ eZ)) (fun z=>nk - z.1) (0,bN,BL) (ajz O) ⟨bu _,bz,hU⟩ ?_;clear hU bz y4;rintro⟨a,dX,wi⟩ e1 w30 ⟨ha,yW,hV⟩;dsimp only at ha yW hV|-;refine bb O (ba O O (az O ?_));refine aM _ O (fun h3=>?_) (fun h3=>?_)
 ·have ud:a<nk:=by omega
  obtain⟨sa,ZW,ZV⟩:=F6 a ud;refine cW O (Cd.loop (α:=Nat×List aX×ag) (fun z=> [(4,.pointer A4),(7,.slice A7 nk c7),(10,.slice AT 2 cT),(12,.pointer eZ),(13,.slice AC hs.length cC),(14,.slice AF F.length cF),(18,aj a),(19,aj (z.1:Int))]) (fun z w'=>z.1<=a/\gM.ok ⟨m,AR,cR,Lr,AD,cD,z.2.1,z.2.2,AF,cF,F,AC,cC,hs,CS⟩/\St w9 w' (gM.dH ⟨m,AR,cR,Lr,AD,cD,z.2.1,z.2.2,AF,cF,F,AC,cC,hs,CS⟩ eZ)) (fun z=>a - z.1) (0,dX,wi) (ajz O) ⟨bu _,yW,hV⟩ ?_);clear hV yW;rintro⟨b,pe,Hm⟩ e2 w31 ⟨gP,yX,hV⟩;dsimp only at gP yX hV|-;refine b8 O (aM _ O (fun h4=>?_) (fun h4=>?_))
  ·have JK:b<a:=by omega
   obtain⟨sb,vt,km⟩:=F6 b (by omega);have hK:=Jn.ao hV.below;refine cW O ?_;refine dQ [xS (A7) (nk) (c7),xI ((b:Int)),xP (aB (A7) ((b:Int)).toNat),xI (gi ((L.take nk)) ((b:Int))),xS (A7) (nk) (c7),xI ((a:Int)),xP (aB (A7) ((a:Int)).toNat),xI (gi ((L.take nk)) ((a:Int))),.pr (fun v w'=>∃r:Nat,v=aj r),.pr (fun v w'=>∃r:Nat,v= .bool (decide (¬(r:Int)=0)))] rfl (lx (lx (lx (lx (lx (lx (lx (lx (cg.2 ⟨Yd.cH (fun v w w' h hb=>h),(cg.2 ⟨Yd.cH (fun v w w' h hb=>h),(fun _ h=>by cases h)⟩)⟩))))))))) ?_ ?_
   ·refine⟨Dr O,Dr O,fun _ _ hb _ _=>aA (hK.ao hb).2 O Az,fun _ _ hb _ _=>aY (hK.ao hb) O Az,Dr O,Dr O,fun _ _ hb _ _=>aA (hK.ao hb).2 O Az,fun _ _ hb _ _=>aY (hK.ao hb) O Az,?_,?_,aw⟩
    ·intro e1 w1 hb hp bc;refine US (a:=sb) (b:=sa) (by exact aL (Value.int .i64) vt) (by exact aL (Value.int .i64) ZW) km ZV O (ak.n ?_);exact e6.dn (Below.refl _ _) ⟨_,O⟩
    intro e1 w1 hb hp bc;obtain⟨r,Yq⟩:=(hp 8 (by decide) rfl _ _ rfl rfl);refine ak.neq (by exact Yq) O O (ak.n ?_);exact e6.dn (Below.refl _ _) ⟨r,O⟩
   intro u w32 Z3 hu;obtain⟨r,I2⟩:=hu 9 _ rfl;rw [GP u I2 I2];replace hV:=hV.ao Z3;refine fv O (aM _ O (fun h5=>?_) (fun h5=>?_))
   ·refine aD O (aK O (aS O (tQ ?_)));exact⟨(b+1,pe,Hm),by show a - (b+1)<a - b;omega,(ajz O),by show b+1<=a;omega,yX,hV⟩
   refine cW O (Cd.loop (α:=Nat×List aX×ag) (fun z=> [(4,.pointer A4),(7,.slice A7 nk c7),(10,.slice AT 2 cT),(12,.pointer eZ),(13,.slice AC hs.length cC),(14,.slice AF F.length cF),(18,aj a),(19,aj b),(20,aj (z.1:Int))]) (fun z w'=>z.1<=6/\gM.ok ⟨m,AR,cR,Lr,AD,cD,z.2.1,z.2.2,AF,cF,F,AC,cC,hs,CS⟩/\St w9 w' (gM.dH ⟨m,AR,cR,Lr,AD,cD,z.2.1,z.2.2,AF,cF,F,AC,cC,hs,CS⟩ eZ)) (fun z=>6 - z.1) (0,pe,Hm) (ajz O) ⟨bu _,yX,hV⟩ ?_);clear hV yX hK h5 I2 hu;rintro⟨f,jH,kb⟩ e3 Hd ⟨hf,r9,hV⟩;dsimp only at hf r9 hV|-;have yH:=Jy.ao hV.below;refine bb O (aA yH.top.2 O ?_);refine aju yH.top O (by decide) O O (ba O O (az O ?_));refine aM _ O (fun h6=>?_) (fun h6=>?_)
   ·have Ql:f<6:=by omega
    obtain⟨la,fa0,ya0,ya6,T4⟩:=Ru a ud f Ql;obtain⟨lb,fb0,yb0,yb6,ybm⟩:=Ru b (by omega) f Ql;have Aj:bL Hd AC hs.length hs CS:=VC hV r9;have oX:bL Hd AD m jH kb:=VD hV r9;have Ja:=Aj.at_ (i:=(a:Int)) (by omega) (by omega);have gN:=Aj.at_ (i:=(b:Int)) (by omega) (by omega);have hAl:=Ja.1;have kh:=gN.1;have hV:St w9 Hd (bp eZ 2 AR m cR AD m cD::ar 2 AR m cR Lr::ar 2 AF F.length cF F::br 24 AC hs.length cC hs::br 24 AD m cD jH::(bF 2 jH kb++bF 2 hs CS)):=hV;refine cW O ?_;refine dQ [xS (AF) (F.length) (cF),xI ((a:Int)),xP (aB (AF) ((a:Int)).toNat),xI (gi (F) ((a:Int))),xS (AC) (hs.length) (cC),xI ((a:Int)),xP (aB (AC) ((a:Int)).toNat),xS ((rg (hs) ((a:Int))).a) ((rg (hs) ((a:Int))).n) ((rg (hs) ((a:Int))).c),xI ((f:Int)),xP (aB ((rg (hs) ((a:Int))).a) ((f:Int)).toNat),xI (gi (gl CS a) ((f:Int))),xI ((gi (F) ((a:Int)))+ (gi (gl CS a) ((f:Int)))),xS (AF) (F.length) (cF),xI ((b:Int)),xP (aB (AF) ((b:Int)).toNat),xI (gi (F) ((b:Int))),xS (AC) (hs.length) (cC),xI ((b:Int)),xP (aB (AC) ((b:Int)).toNat),xS ((rg (hs) ((b:Int))).a) ((rg (hs) ((b:Int))).n) ((rg (hs) ((b:Int))).c),xI ((f:Int)),xP (aB ((rg (hs) ((b:Int))).a) ((f:Int)).toNat),xI (gi (gl CS b) ((f:Int))),xI ((gi (F) ((b:Int)))+ (gi (gl CS b) ((f:Int)))),xI ((gi (F) ((a:Int)))+ (gi (gl CS a) ((f:Int)))),xI ((gi (F) ((b:Int)))+ (gi (gl CS b) ((f:Int))))] O (eE O) ?_ ?_
    ·exact⟨Dr O,Dr O,fun _ _ hb _ _=>aA ((hV.bk 2 O).ao hb).2 O Az,fun _ _ hb _ _=>aY ((hV.bk 2 O).ao hb) O Az,Dr O,Dr O,fun _ _ hb _ _=>aA (Aj.top.ao hb).2 O Az,fun _ _ hb _ _=>bQ (Aj.top.ao hb) O Az,Dr O,fun _ _ hb _ _=>aA (Ja.ao hb).2 O Az,fun _ _ hb _ _=>aY (Ja.ao hb) O Az,fun _ _ _ _ _=>aK O Az,Dr O,Dr O,fun _ _ hb _ _=>aA ((hV.bk 2 O).ao hb).2 O Az,fun _ _ hb _ _=>aY ((hV.bk 2 O).ao hb) O Az,Dr O,Dr O,fun _ _ hb _ _=>aA (Aj.top.ao hb).2 O Az,fun _ _ hb _ _=>bQ (Aj.top.ao hb) O Az,Dr O,fun _ _ hb _ _=>aA (gN.ao hb).2 O Az,fun _ _ hb _ _=>aY (gN.ao hb) O Az,fun _ _ _ _ _=>aK O Az,Dr O,Dr O,aw⟩
    intro u w34 PX _;replace hV:=hV.ao PX;replace oX:=oX.ao PX;have PT:0<=gi F a+gi (gl CS a) f:=by omega
    have aac:0<=gi F b+gi (gl CS b) f:=by omega
    generalize gi F a+gi (gl CS a) f=av at*;generalize gi F b+gi (gl CS b) f=bv at*;have Bs:=hV.rd 0 O;refine fJ O (aI Bs O (ajt (j:=2) Bs (by exact aL Value.pointer O) O O O O (aq O (aA oX.top.2 O (bQ oX.top O ?_)))));have bM:=oX.at_ PT T4;have gD:=oX.cap_ PT T4;have bT:=bM.1;have hd3:jH.length=m:=r9.d;have Z2:kb.length=m:=r9.b;have wS:=r9.mj (gl kb av) (by
     obtain⟨q,rfl⟩:∃q:Nat,av=q:=⟨av.toNat,by omega⟩;show gl kb q∈kb;rw [fm (by omega)];exact fe _)
    have wS:CA m (gl kb av):=wS;have hlen:=sy (N:=m) wS.1.1.nodup fun z hz=> ⟨wS.1.2 z hz,wS.2 z hz⟩
    refine aq O (aF (KS (rg jH av).a (rg jH av).n (rg jH av).c (gl kb av) bv _ bM (by omega)) O ?_);rintro _ w35 ⟨rfl,rfl⟩
    first | refine de rfl rfl ?_ | refine dV rfl rfl ?_
    refine az O (aM _ O (fun h7=>?_) (fun h7=>?_))
    ·skip
     refine jm [11] [yP (aB (eZ) 2),yS (AD) (m) (cD),yI (av),yP (aB (eZ) 2),yS (AD) (m) (cD),yI (av),yP (aB (AD) (av).toNat),yS ((rg (jH) (av)).a) ((rg (jH) (av)).n) ((rg (jH) (av)).c),yI (bv),.pr (fun v w'=>∃A' c',v= .slice A' (cs (gl kb av++ [bv])).length c'/\St w9 w' (ar 2 A' (cs (gl kb av++ [bv])).length c' (cs (gl kb av++ [bv]))::bp eZ 2 AR m cR AD m cD::ar 2 AR m cR Lr::ar 2 AF F.length cF F::br 24 AC hs.length cC hs::br 24 AD m cD jH::(bF 2 jH kb++bF 2 hs CS))),yP (aB (AD) (av).toNat),.pr (fun _ w'=>∃A' c',St w9 w' (ar 2 A' (cs (gl kb av++ [bv])).length c' (cs (gl kb av++ [bv]))::bp eZ 2 AR m cR AD m cD::ar 2 AR m cR Lr::ar 2 AF F.length cF F::br 24 AC hs.length cC hs::br 24 AD m cD (jH.set av.toNat ⟨A',(cs (gl kb av++ [bv])).length,c'⟩)::(bF 2 jH kb++bF 2 hs CS)))] (ly (ly (ly (ly (ly (ly (ly (ly (ly (cg.2 ⟨Ye.cH (fun v w w' h hb=>by obtain⟨A',c',hv,hT⟩:=h;exact⟨A',c',hv,hT.ao hb⟩),(ly (cg.2 ⟨Ye.cH (fun v w w' h hb=>by obtain⟨A',c',hT⟩:=h;exact⟨A',c',hT.ao hb⟩),(fun _ h=>by cases h)⟩))⟩)))))))))) ?_ ?_
     ·refine⟨cP fun _ _ hb _ _ _=>aI (Bs.below hb) O (bq O O),cP fun _ _ hb _ _ _=>aV (Bs.below hb) O (bq O O),bZ O,cP fun _ _ hb _ _ _=>aI (Bs.below hb) O (bq O O),cP fun _ _ hb _ _ _=>aV (Bs.below hb) O (bq O O),bZ O,cP fun _ _ hb _ _ _=>aA (oX.top.ao hb).2 O (bq O O),cP fun _ _ hb _ _ _=>bQ (oX.top.ao hb) O (bq O O),bZ O,?_,cP fun _ _ hb _ _ _=>aA (oX.top.ao hb).2 O (bq O O),?_,aw⟩
      ·refine cP fun e1 w1 hb hp bc hq=>?_
       refine aF (adV (rg jH av).a (rg jH av).n (rg jH av).c (gl kb av) bv _ (bM.ao hb) gD.1 (by omega) wS.1.1 h7) O ?_;rintro _ w9 ⟨A',c',rfl,ax⟩;exact ak.n (fu.dn O ax.below ⟨A',c',O,(hV.ao hb).call ax⟩)
      refine ju fun e1 w1 hb hp bc hq=>?_
      obtain⟨A',c',Yv,hT⟩:=(hp 9 _ _ (by kernel_rfl) rfl rfl (by kernel_rfl));refine uY 5 hT O O (by exact Yv) (by omega) ?_;intro eA kR;exact ak.n (fF.st O ⟨A',c',kR⟩)
     intro u w36 _ hu _ _;obtain⟨Mf,Nw,hT⟩:=hu 11 _ rfl (by kernel_rfl);have hT:=aht (s:=⟨Mf,(cs (gl kb av++ [bv])).length,Nw⟩) (pre:=[_,_,_,_,_]) (i:=av.toNat) hT (by omega) (by omega);refine fJ O (aK O (aS O (tQ ?_)));refine⟨(f+1,jH.set av.toNat ⟨Mf,(cs (gl kb av++ [bv])).length,Nw⟩,kb.set av.toNat (cs (gl kb av++ [bv]))),by show 6 - (f+1)<6 - f;omega,(ajz O),by show f+1<=6;omega,⟨by show(jH.set _ _).length=m;rw [iR,hd3],by show(kb.set _ _).length=m;rw [iR,Z2],r9.f,r9.c,r9.row,fun r hr=>?_⟩,hT⟩;rcases List.mem_or_eq_of_mem_set hr with h | h
     ·exact r9.mj r h
     rw [h];have da:∀z∈cs (gl kb av++ [bv]),0<=z/\z< (m:Int):=fun z hz=>by
      rw [Ik]at hz;rcases eD.1 hz with h | h
      ·exact⟨wS.1.2 z h,wS.2 z h⟩
      rw [dK.1 h];exact⟨aac,ybm⟩
     exact⟨⟨Ij _,fun z hz=> (da z hz).1⟩,fun z hz=> (da z hz).2⟩
    refine aD O (aK O (aS O (tQ ?_)));exact⟨(f+1,jH,kb),by show 6 - (f+1)<6 - f;omega,(ajz O),by show f+1<=6;omega,r9,hV⟩
   refine bo O (bn (cJ O (aK O (aS O (tQ ?_)))));exact⟨(b+1,jH,kb),by show a - (b+1)<a - b;omega,(ajz O),by show b+1<=a;omega,r9,hV⟩
  refine bo O (bn (cJ O (aK O (aS O (tQ ?_)))));exact⟨(a+1,pe,Hm),by show nk - (a+1)<nk - a;omega,(ajz O),by show a+1<=nk;omega,yX,hV⟩
 have hW:=hS.call hV;clear hV hS;have yK:dX.length=m:=yW.d;refine bo O (bn (cJ O ?_));refine bI 2 (hW.rd 0 O) O O O ?_;have hj:(gM.dH ⟨m,AR,cR,Lr,AD,cD,dX,wi,AF,cF,F,AC,cC,hs,CS⟩ eZ++ [ar 2 A7 L.length c7 L,bp A4 0 none 0 0 none 0 0])[(gM.dH ⟨m,AR,cR,Lr,AD,cD,dX,wi,AF,cF,F,AC,cC,hs,CS⟩ eZ).length+1]?=some (bp A4 0 none 0 0 none 0 0):=by
  rw [jW (by omega),Nat.add_sub_cancel_left];rfl
 refine bS 3 _ hW hj O O O O O O ?_;intro He Dm;rw [List.set_append_right _ _ (by omega),Nat.add_sub_cancel_left]at Dm;have Dm:St w He (gM.dH ⟨m,AR,cR,Lr,AD,cD,dX,wi,AF,cF,F,AC,cC,hs,CS⟩ eZ++ [ar 2 A7 L.length c7 L,bp A4 2 AR m cR AD m cD]):=Dm;have gF:Rd He A4 3 _:=Dm.rd _ (by
  rw [jW (Nat.le_add_right (gM.dH ⟨m,AR,cR,Lr,AD,cD,dX,wi,AF,cF,F,AC,cC,hs,CS⟩ eZ).length 1),Nat.add_sub_cancel_left];rfl)
 refine bD O (mH O gF O ?_);refine⟨2,AR,AD,cR,cD,m,Lr,dX,wi,gM.dH ⟨m,AR,cR,Lr,AD,cD,dX,wi,AF,cF,F,AC,cC,hs,CS⟩ eZ,0,O,by decide,by omega,fun w1 fX Z h=> ⟨h.bk 1 O,?_⟩,Dm.sub (lQ _ _)⟩;have h2:St w1 fX (bp eZ 2 AR m cR AD m cD::ar 2 AR m cR Lr::ar 2 AF F.length cF F::br 24 AC hs.length cC hs::br 24 AD m cD dX::(bF 2 dX wi++ (bF 2 hs CS++Z))):=by
  rw [<-fK];exact h
 have h3:=h2.tail.tail.tail.tail;exact St.eU h3 yW.b
theorem LP{i:Nat}{k:Ck}(h:ks[i]?=some k):ks.set i k=ks:=by
 apply List.ext_getElem?;intro j;rw [n3]
 split
 ·rename_i e;subst e;have hl:=(gw.1 h).1;rw [aT hl,h]
 rfl
theorem jl{i:Nat}{k:Ck}(h:ks[i]?=some k):(ks.set i k')[i]?=some k':=by
 have hl:=(gw.1 h).1;rw [n3,aT rfl,aT hl]
def eQ(w0:aa)(As:ai)(k:Ck):Prop:=∃(Ac:ai) (nc cc:Nat) (a h:Int) (bs:ah),k=Bx 186 3 As [.slice Ac nc cc,aj a,.int .u64 h]/\(0<=a/\a<=nc)/\nc<=1000000/\nv w0 Ac nc bs
theorem rl(i:Nat){k:Ck}(n:Int)(hS:St w0 w ks)(hk:ks[i]?=some k)(hK:eQ w0 As k):
 aG prog 182 [.pointer As,aj n] w (fun v w'=>∃(r:Int) (k':Ck),v=aj r/\(0<=r/\(1<=n->r<n)/\(n<1->r=0))/\eQ w0 As k'/\St w0 w' (ks.set i k')):=by
 have vm:=hK;obtain⟨Ac,nc,cc,a,h,bs,rfl,ha,ko,hY⟩:=hK;refine bw func182 O ntmps182 O (b7 O) (b8 O ?_);refine aM _ O (fun h1=>?_) (fun h1=>?_)
 ·refine dB O (iY O ?_);exact⟨0,_,O,⟨Int.le_refl _,fun h=>by omega,fun _=>O⟩,vm,by rw [LP hk];exact hS⟩
 refine aD O (ik (hS.rd i hk) (Nat.succ_pos 2) O O (aI (hS.rd i hk) O (fL (k:= .u64) (hS.rd i hk) O O O O O ?_)));refine MP O O O fun r1 nK=>?_
 refine EM O O O fun r2 xy=>?_
 refine ik (hS.rd i hk) (Nat.succ_pos 2) O O (aI (hS.rd i hk) O (ke i hS hk O O O O ?_));intro w1 aC;have fA:=jl (k':=(⟨As,3,3,186,[.slice Ac nc cc,aj a,.int .u64 r2]⟩:Ck)) hk;have aC:St w0 w1 (ks.set i (Bx 186 3 As [.slice Ac nc cc,aj a,.int .u64 r2])):=aC;refine aq O (ik (aC.rd i fA) (Nat.succ_pos 2) O O (aI (aC.rd i fA) O (fL (k:= .u64) (aC.rd i fA) O O O O O ?_)));refine Vk O O O fun r3=>?_
 refine UR O O O fun r4 hr4=>?_
 refine lV O O (IntWalk.i64_in _ (by omega)) (az O ?_);refine dQ [xP (As),xP (As),xP (aB (As) 1),xI (a),xP (As),xP (As),xP (aB (As) 0),xS (Ac) (nc) (cc),xI (((nc:Nat):Int)),xB (decide ((a)< (((nc:Nat):Int))))] O (eE O) ?_ ?_
 ·exact⟨Dr O,fun _ _ hb _ _=>ik ((aC.rd i fA).below hb) (Nat.succ_pos _) O O Az,fun _ _ hb _ _=>aI ((aC.rd i fA).below hb) O Az,fun _ _ hb _ _=>fL ((aC.rd i fA).below hb) O O O O O Az,Dr O,fun _ _ hb _ _=>ik ((aC.rd i fA).below hb) (Nat.succ_pos _) O O Az,fun _ _ hb _ _=>aI ((aC.rd i fA).below hb) O Az,fun _ _ hb _ _=>aV ((aC.rd i fA).below hb) O Az,fun _ _ _ _ _=>ba O O Az,Dr O,aw⟩
 intro u w2 gP _;have aE:=aC.ao gP;have PQ:nv w2 Ac nc bs:=hY.below aE.below;refine fv O (aM _ O (fun h2=>?_) (fun h2=>?_))
 ·have Yz:=hY.at_ ha.1 h2;refine cW O (dQ [xI (r4),xP (As),xP (As),xP (aB (As) 0),xS (Ac) (nc) (cc),xP (As),xP (As),xP (aB (As) 1),xI (a),xP (aB Ac a.toNat),.ex (.int .u8 (bs.getD a.toNat 0)),xI (bs.getD a.toNat 0),xI ((r4)+ (bs.getD a.toNat 0)),xI ((r4)+ (bs.getD a.toNat 0))] O (eE O) ?_ ?_)
  ·refine⟨fun _ _ _ _ bc=>jq O (by exact bc 13 _ O (by kernel_rfl)) O Az,Dr O,fun _ _ hb _ _=>ik ((aE.rd i fA).below hb) (Nat.succ_pos _) O O Az,fun _ _ hb _ _=>aI ((aE.rd i fA).below hb) O Az,fun _ _ hb _ _=>aV ((aE.rd i fA).below hb) O Az,Dr O,fun _ _ hb _ _=>ik ((aE.rd i fA).below hb) (Nat.succ_pos _) O O Az,fun _ _ hb _ _=>aI ((aE.rd i fA).below hb) O Az,fun _ _ hb _ _=>fL ((aE.rd i fA).below hb) O O O O O Az,?_,?_,?_,fun _ _ _ _ _=>aK O Az,Dr O,aw⟩
   ·intro e1 w1 hb hp bc;refine aA (PQ.below hb).2.2 O Az
   ·intro e1 w1 hb hp bc;refine MN (PQ.below hb) O (by omega) O O Az
   intro e1 w1 hb hp bc;refine lV O O (IntWalk.i64_in _ (by omega)) Az
  intro u3 w3 km _;have aH:=aE.ao km;refine fJ O (ik (aH.rd i fA) (Nat.succ_pos 2) O O (aI (aH.rd i fA) O (fL (aH.rd i fA) O O O O O (aK O (ik (aH.rd i fA) (Nat.succ_pos 2) O O (aI (aH.rd i fA) O (ke i aH fA O O O O ?_)))))));intro w4 aQ;rw [gW]at aQ;refine aq O (ob O O O (by omega) (bD O (iY O ?_)));exact⟨(r4+bs.getD a.toNat 0)%n,_,O,⟨Int.emod_nonneg _ (by omega),fun h=>Int.emod_lt_of_pos _ (by omega),fun h=>by omega⟩,⟨Ac,nc,cc,a+1,r2,bs,O,by omega,ko,hY⟩,aQ⟩
 refine aD O (ob O O O (by omega) (bD O (iY O ?_)));exact⟨r4%n,_,O,⟨Int.emod_nonneg _ (by omega),fun h=>Int.emod_lt_of_pos _ (by omega),fun h=>by omega⟩,⟨Ac,nc,cc,a,r2,bs,O,ha,ko,hY⟩,aE⟩
theorem RW(i:Nat){k:Ck}(A:ai)(n c:Nat)(xs:ah)(hS:St w0 w ks)(hk:ks[i]?=some k)(hK:eQ w0 As k)(hR:∀k' w',St w0 w' (ks.set i k')->bt w' A n xs)(hn:0<n/\n<=1000000):
 aG prog 232 [.pointer As,.slice A n c] w (fun v w'=>∃(x:Int) (k':Ck),v=aj x/\x∈xs/\eQ w0 As k'/\St w0 w' (ks.set i k')):=by
 refine bw func232 O ntmps232 O (b7 O) ?_;refine bb O (ba O O ?_);refine aF (rl i n hS hk hK) O ?_;rintro _ w1 ⟨r,k',rfl,⟨h0,h1,_⟩,rP,hT⟩;have kj:=hR k' w1 hT;have hl:=kj.1;have h1:=h1 (by omega);refine aA kj.2 O (aY kj O (bD O (iY O ?_)));refine⟨gi xs r,k',O,?_,rP,hT⟩;obtain⟨q,rfl⟩:∃q:Nat,r=q:=⟨r.toNat,by omega⟩;rw [bX (by omega)];exact fe _
def Rg(n:Nat)(xs:ah):Prop:=xs.length=n/\∀x∈xs,0<=x/\x< (n:Int)
theorem Rg.gi{n:Nat}(h:Rg n xs){i:Int}(h0:0<=i)(h1:i<n):0<=Vc.gi xs i/\Vc.gi xs i<n:=by
 obtain⟨q,rfl⟩:∃q:Nat,i=q:=⟨i.toNat,by omega⟩;rw [bX (by rw [h.1];omega)];exact h.2 _ (fe _)
theorem Rg.set{n:Nat}(h:Rg n xs){v:Int}(h0:0<=v)(h1:v<n):Rg n (xs.set j v):=by
 refine⟨by rw [iR];exact h.1,fun x hx=>?_⟩;rcases List.mem_or_eq_of_mem_set hx with hx | rfl
 ·exact h.2 x hx
 exact⟨h0,h1⟩
theorem adx(n:Nat)(w:aa)(hn:n<=1000000):
 aG prog 279 [aj n] w (fun v w'=>∃A c xs,v= .slice A n c/\Rg n xs/\St w w' [ar 2 A n c xs]):=by
 refine bw func279 O ntmps279 O (b7 O) (bb O (fZ (St.refl w) O ?_));intro A1 w1 aC;refine az O (Cd.loop (α:=Nat×ai×Nat×ah) (fun s=> [(0,aj n),(3,.slice s.2.1 s.1 s.2.2.1),(4,aj (s.1:Int))]) (fun s w'=>St w w' [ar 2 s.2.1 s.1 s.2.2.1 s.2.2.2]/\s.1<=n/\s.2.2.2.length=s.1/\∀x∈s.2.2.2,0<=x/\x< (s.1:Int)) (fun s=>n - s.1) (0,A1,0,[]) (ajz O) ⟨aC,bu _,O,fun x hx=> (nomatch hx)⟩ ?_);rintro⟨i,A2,c2,xs⟩ e w2 ⟨aE,hi,hl,hx⟩;dsimp only at aE hi hl hx|-;refine b8 O (aM _ O (fun h1=>?_) (fun h1=>?_))
 ·refine aD O (dE aE O O O ?_);intro A3 w3 aH;refine dS 1 aH O (aH.bk 0 O) O O O fun A4 c4 w4 aQ=>aq O (aK O (aS O (tQ ?_)));refine⟨(i+1,A4,c4,xs++ [(i:Int)]),by show n - (i+1)<n - i;omega,(ajz O),aQ.tail,by show i+1<=n;omega,by simp [hl],fun x gR=>?_⟩;rcases eD.1 gR with h | h
  ·have:=hx x h;show 0<=x/\x< ((i+1:Nat):Int);omega
  rw [dK]at h;subst h;show 0<=(i:Int)/\(i:Int)< ((i+1:Nat):Int);omega
 have da:i=n:=by omega
 subst da;refine bo O (bn (eG O ?_));exact fb O ⟨A2,c2,xs,O,⟨hl,hx⟩,aE⟩
theorem RP(ix:Nat){k:Ck}(n:Nat)(hS:St w0 w ks)(hk:ks[ix]?=some k)(hK:eQ w0 As k)(hn:n<=1000000):
 aG prog 262 [.pointer As,aj n] w (fun v w'=>∃A c xs k',v= .slice A n c/\Rg n xs/\eQ w0 As k'/\St w0 w' (ar 2 A n c xs::ks.set ix k')):=by
 refine bw func262 O ntmps262 O (b7 O) (bb O (aF (adx n _ hn) O ?_));rintro _ w1 ⟨A,c,xs,rfl,hx,ax⟩;have aC:St w0 w1 (ar 2 A n c xs::ks):=hS.call ax;refine aq O (dq O (az O ?_));refine Cd.loop (α:=Int×ah×Ck) (fun s=> [(0,.pointer As),(5,.slice A n c),(6,aj s.1)]) (fun s w'=>St w0 w' (ar 2 A n c s.2.1::ks.set ix s.2.2)/\Rg n s.2.1/\eQ w0 As s.2.2/\ -1<=s.1/\s.1<n) (fun s=>s.1.toNat) ((n:Int) - 1,xs,k) ⟨O,O,O,trivial⟩ ⟨by dsimp only;rw [LP hk];exact aC,hx,hK,by show -1<=(n:Int) - 1;omega,by show(n:Int) - 1<n;omega⟩ ?_;rintro⟨i,xs,k1⟩ e w2 ⟨aE,hx,iO,mw,kE⟩;dsimp only at aE hx iO mw kE|-;have fA:(ar 2 A n c xs::ks.set ix k1)[ix+1]?=some k1:=jl (k':=k1) hk;refine b8 O (aM _ O (fun h1=>?_) (fun h1=>?_))
 ·refine aD O (aK O ?_);refine aF (rl (ix+1) (i+1) aE fA iO) O ?_;rintro _ w3 ⟨r,k2,rfl,⟨kq,nK,_⟩,eP,aH⟩;have nK:=nK (by omega);have aH:St w0 w3 (ar 2 A n c xs::(ks.set ix k1).set ix k2):=aH;rw [gW]at aH;have jf:=aH.bk 0 O;have Bg:=hx.gi (i:=i) (by omega) kE;have Dz:=hx.gi (i:=r) kq (by omega);refine aq O (aA jf.2 O (aY jf O (aq O (aA jf.2 O (aY jf O (aA jf.2 O (ak.iG 0 aH O O O (by omega) ?_)))))));intro w4 aQ;have aQ:St w0 w4 (ar 2 A n c (xs.set i.toNat (gi xs r))::ks.set ix k2):=aQ;have FK:=aQ.bk 0 O;refine aq O (aA FK.2 O (ak.iG 0 aQ O O O (by omega) ?_));intro w5 a8;refine aq O (dq O (aS O (tQ ?_)));exact⟨(i - 1,(xs.set i.toNat (gi xs r)).set r.toNat (gi xs i),k2),by show(i - 1).toNat<i.toNat;omega,(ajz O),a8,(hx.set Dz.1 Dz.2).set Bg.1 Bg.2,eP,by show -1<=i - 1;omega,by show i - 1<n;omega⟩
 refine bo O (bn (eG O ?_));exact fb O ⟨A,c,xs,k1,O,hx,iO,aE⟩
structure UK(w0:aa)(ks:List Ck)(ix:Nat)(As:ai)(k:Ck)(n:Nat)(S:Nat->Bool)(e:Env)(w:aa):Prop where
 f0:e 0= .pointer As
 f1:e 1=aj n
 p0:S 0=true->e 8= .pointer As
 p1:S 1=true->e 9=aj n
 p3:S 3=true->e 11=aj n
 mem:∃(A:ai) (c:Nat) (xs:ah) (A2:ai) (k':Ck) (sL ml:List Ck),(S 2=false->sL=[]/\k'=k)/\(S 2=true->e 10= .slice A n c/\Rg n xs/\sL=[ar 2 A n c xs])/\eQ w0 As k'/\(S 4=false->ml=[])/\(S 4=true->e 12= .slice A2 n n/\ml=[ar 2 A2 n n (List.replicate n 0)])/\(S 5=true->e 5= .slice A n c)/\(S 6=true->e 6= .slice A2 n n)/\St w0 w (ml++ (sL++ks.set ix k'))
theorem RS(ix:Nat){k:Ck}(n:Nat)(hS:St w0 w ks)(hk:ks[ix]?=some k)(hK:eQ w0 As k)(hn:n<=1000000):
 aG prog 245 [.pointer As,aj n] w (fun v w'=>∃A c xs k',v= .slice A n c/\Rg n xs/\eQ w0 As k'/\St w0 w' (ar 2 A n c xs::ks.set ix k')):=by
 refine bw func245 O ntmps245 O (b7 O) (b8 O ?_);refine oO (by kernel_rfl) (by kernel_rfl) (fun S e1 w1=>UK w0 ks ix As k n S e1 w1) (fun w4 hb=> ⟨O,O,fun h=> (nomatch h),fun h=> (nomatch h),fun h=> (nomatch h),none,0,[],none,k,[],[],fun _=> ⟨O,O⟩,fun h=> (nomatch h),hK,fun _=>O,fun h=> (nomatch h),fun h=> (nomatch h),fun h=> (nomatch h),by rw [LP hk];exact hS.ao hb⟩) ?_ ?_
 ·intro S q o e1 w4 hq aO hd bE hI;obtain⟨f0,f1,p0,p1,p3,A,c,xs,A2,k',sL,ml,m0,m1,rP,m2,m3,m4,m5,hT⟩:=hI
  match q,hq,aO with
  | 0,hq,aO=>
   obtain rfl:=bj hq;refine uW O (by exact f0) O (ak.n ?_);exact⟨f0,f1,fun _=>O,p1,p3,A,c,xs,A2,k',sL,ml,m0,m1,rP,m2,m3,m4,m5,hT⟩
  | 1,hq,aO=>
   obtain rfl:=bj hq;refine jq O (by exact f1) O (ak.n ?_);exact⟨f0,f1,p0,fun _=>O,p3,A,c,xs,A2,k',sL,ml,m0,m1,rP,m2,m3,m4,m5,hT⟩
  | 2,hq,aO=>
   obtain rfl:=bj hq;obtain⟨rfl,rfl⟩:=m0 aO;have n5:S 5=false:=by
    cases h:S 5 with
    | false=>rfl
    | true=>rw [<-aO];exact(aZ (bE 5 _ h rfl) 2 rfl).symm
   have n6:S 6=false:=by
    cases h:S 6 with
    | false=>rfl
    | true=>rw [<-n5];exact(aZ (bE 6 _ h rfl) 5 rfl).symm
   rw [List.nil_append]at hT;have cL:(ml++ks.set ix k')[ml.length+ix]?=some k':=by
    rw [jW (by omega),show ml.length+ix - ml.length=ix by omega];exact jl hk
   refine ajq (RP (ml.length+ix) n hT cL hK hn) O (by show [e1 8,e1 9]=_;rw [p0 (aZ hd 0 O),p1 (aZ hd 1 O)]) O ?_;rintro _ w5 ⟨A',c',eF,k2,rfl,gR,eP,jh⟩;refine ak.n ?_;refine⟨f0,f1,p0,p1,p3,A',c',eF,A2,k2,[ar 2 A' n c' eF],ml,fun h=> (nomatch (show true=false from h)),fun _=> ⟨O,gR,O⟩,eP,m2,m3,fun h=> (nomatch n5.symm.trans h),fun h=> (nomatch n6.symm.trans h),?_⟩;rw [List.set_append_right _ _ (by omega),show ml.length+ix - ml.length=ix by omega,gW]at jh;exact jh.perm (eK (l₁:=ml)).symm
  | 3,hq,aO=>
   obtain rfl:=bj hq;refine jq O (by exact f1) O (ak.n ?_);exact⟨f0,f1,p0,p1,fun _=>O,A,c,xs,A2,k',sL,ml,m0,m1,rP,m2,m3,m4,m5,hT⟩
  | 4,hq,aO=>
   obtain rfl:=bj hq;obtain rfl:=m2 aO;have n6:S 6=false:=by
    cases h:S 6 with
    | false=>rfl
    | true=>rw [<-aO];exact(aZ (bE 6 _ h rfl) 4 rfl).symm
   refine sJ n hT (by exact p3 (aZ hd 3 O)) O (by omega) ?_;intro A' w5 dW;refine ak.n ?_;exact⟨f0,f1,p0,p1,p3,A,c,xs,A',k',sL,[ar 2 A' n n (List.replicate n 0)],m0,m1,rP,fun h=> (nomatch (show true=false from h)),fun _=> ⟨O,O⟩,m4,fun h=> (nomatch n6.symm.trans h),dW⟩
  | 5,hq,aO=>
   obtain rfl:=bj hq;refine kc O (by exact(m1 (aZ hd 2 O)).1) O (ak.n ?_);exact⟨f0,f1,p0,p1,p3,A,c,xs,A2,k',sL,ml,m0,m1,rP,m2,m3,fun _=>O,m5,hT⟩
  | 6,hq,aO=>
   obtain rfl:=bj hq;refine kc O (by exact(m3 (aZ hd 4 O)).1) O (ak.n ?_);exact⟨f0,f1,p0,p1,p3,A,c,xs,A2,k',sL,ml,m0,m1,rP,m2,m3,m4,fun _=>O,hT⟩
  | q+7,hq,_=>exact(nomatch hq)
 ·intro S e1 w4 cO hI;obtain⟨f0,f1,p0,p1,p3,A,c,xs,A2,k',sL,ml,m0,m1,rP,m2,m3,m4,m5,hT⟩:=hI;obtain⟨_,hx,rfl⟩:=m1 (cO 2 (by decide));obtain⟨_,rfl⟩:=m3 (cO 4 (by decide));refine yf (F:=[(0,.pointer As),(1,aj n),(5,.slice A n c),(6,.slice A2 n n)]) ⟨f0,f1,m4 (cO 5 (by decide)),m5 (cO 6 (by decide)),aw⟩ ?_;have hT:St w0 w4 (ar 2 A2 n n (List.replicate n 0)::ar 2 A n c xs::ks.set ix k'):=hT;refine fv O ?_;refine Cd.loop (α:=Nat×ah) (fun s=> [(1,aj n),(5,.slice A n c),(6,.slice A2 n n),(7,aj (s.1:Int))]) (fun s w'=>St w0 w' (ar 2 A2 n n s.2::ar 2 A n c xs::ks.set ix k')/\Rg n s.2/\s.1<=n+1) (fun s=>n+2 - s.1) (0,List.replicate n 0) ⟨rfl,rfl,rfl,rfl,aw⟩ ⟨hT,⟨by simp,fun x hx=>by obtain⟨h0,rfl⟩:=List.mem_replicate.1 hx;omega⟩,bu _⟩ ?_;rintro⟨i,ps⟩ e w5 ⟨dW,kp,hi⟩;dsimp only at dW kp hi|-;refine bb O (aK O (az O ?_));refine aM _ O (fun h1=>?_) (fun h1=>?_)
  ·have FG:=dW.bk 0 O;have yA:=dW.bk 1 O;have JS:=hx.gi (i:=(i:Int)) (by omega) (by omega);have Qo:=hx.gi (i:=(i:Int)+1) (by omega) (by omega);refine cW O ?_;refine jm [11] [yS (A2) (n) (n),yS (A) (n) (c),yI ((i:Int)),yP (aB (A) ((i:Int)).toNat),yI (gi (xs) ((i:Int))),yS (A) (n) (c),yI ((i:Int)),yI (((i:Int))+ ((1:Int))),yP (aB (A) (((i:Int))+ ((1:Int))).toNat),yI (gi (xs) (((i:Int))+ ((1:Int)))),yP (aB (A2) (gi (xs) ((i:Int))).toNat),.pr (fun _ w'=>St w0 w' (ar 2 A2 n n (ps.set (gi xs i).toNat (gi xs ((i:Int)+1)))::ar 2 A n c xs::ks.set ix k'))] (ly (ly (ly (ly (ly (ly (ly (ly (ly (ly (ly (cg.2 ⟨Ye.cH (fun v w w' h hb=>h.ao hb),(fun _ h=>by cases h)⟩)))))))))))) ?_ ?_
   ·refine⟨bZ O,bZ O,bZ O,cP fun _ _ hb _ _ _=>aA (yA.ao hb).2 O (bq O O),cP fun _ _ hb _ _ _=>aY (yA.ao hb) O (bq O O),bZ O,bZ O,aP fun _ _=>aK O (bq O O),cP fun _ _ hb _ _ _=>aA (yA.ao hb).2 O (bq O O),cP fun _ _ hb _ _ _=>aY (yA.ao hb) O (bq O O),cP fun _ _ hb _ _ _=>aA (FG.ao hb).2 O (bq O O),?_,aw⟩
    ·refine ju fun e1 w1 hb hp bc hq=>?_
     exact ak.iG 0 (dW.ao hb) O O O (by omega) fun w9 jy=>ak.n (fF.st O jy)
   intro u w6 _ hu _ _;have eJ:=hu 11 _ O (by kernel_rfl);have ZB:=eJ.bk 0 O;have FE:=eJ.bk 1 O;refine fv O ?_;refine jm [11] [yS (A2) (n) (n),yS (A) (n) (c),yI ((i:Int)),yI (((i:Int))+ ((1:Int))),yP (aB (A) (((i:Int))+ ((1:Int))).toNat),yI (gi (xs) (((i:Int))+ ((1:Int)))),yS (A) (n) (c),yI ((i:Int)),yP (aB (A) ((i:Int)).toNat),yI (gi (xs) ((i:Int))),yP (aB (A2) (gi (xs) (((i:Int))+ ((1:Int)))).toNat),.pr (fun _ w'=>St w0 w' (ar 2 A2 n n ((ps.set (gi xs i).toNat (gi xs ((i:Int)+1))).set (gi xs ((i:Int)+1)).toNat (gi xs i))::ar 2 A n c xs::ks.set ix k'))] (ly (ly (ly (ly (ly (ly (ly (ly (ly (ly (ly (cg.2 ⟨Ye.cH (fun v w w' h hb=>h.ao hb),(fun _ h=>by cases h)⟩)))))))))))) ?_ ?_
   ·refine⟨bZ O,bZ O,bZ O,aP fun _ _=>aK O (bq O O),cP fun _ _ hb _ _ _=>aA (FE.ao hb).2 O (bq O O),cP fun _ _ hb _ _ _=>aY (FE.ao hb) O (bq O O),bZ O,bZ O,cP fun _ _ hb _ _ _=>aA (FE.ao hb).2 O (bq O O),cP fun _ _ hb _ _ _=>aY (FE.ao hb) O (bq O O),cP fun _ _ hb _ _ _=>aA (ZB.ao hb).2 O (bq O O),?_,aw⟩
    ·refine ju fun e1 w1 hb hp bc hq=>?_
     exact ak.iG 0 (eJ.ao hb) O O O (by omega) fun w9 jy=>ak.n (fF.st O jy)
   intro u2 w7 _ pY _ _;have fg:=pY 11 _ O (by kernel_rfl);refine fJ O (aK O (aS O (tQ ?_)));exact⟨(i+2,(ps.set (gi xs i).toNat (gi xs ((i:Int)+1))).set (gi xs ((i:Int)+1)).toNat (gi xs i)),by show n+2 - (i+2)<n+2 - i;omega,(ajz O),fg,(kp.set Qo.1 Qo.2).set JS.1 JS.2,by show i+2<=n+1;omega⟩
  ·refine bo O (bn (eG O ?_));exact fb O ⟨A2,n,ps,k',O,kp,rP,dW.sub (List.Sublist.cons_cons _ (List.sublist_cons_self _ _))⟩
def GM(N:Nat)(xss:ag):Prop:=∀p∈xss,Rg N p
theorem GM.sys{N:Nat}{xss:ag}(h:GM N xss):Sys N xss:=fun p hp=> ⟨(h p hp).1,fun x h0 h1=> (h p hp).gi h0 h1⟩
def Ml(n N:Nat)(w:aa)(v:ab)(w':aa):Prop:=∃A c rs xss,v= .agg #[.slice A n c]/\rs.length=n/\xss.length=n/\GM N xss/\St w w' (aU 24 2 A n c rs xss)
structure Vr(w0:aa)(base:List Ck)(n:Nat)(S:Nat->Bool)(e:Env)(w:aa):Prop where
 f2:∃A,e 2= .pointer A/\base=[Bx 31 1 A [.slice none 0 0]]
 f3:e 3=aj n
 p0:S 0=true->e 9=aj n
 p2:S 2=true->e 11=aj n
 mem:∃(A1 A2:ai) (b1 b2:List Ck),(S 1=false->b1=[])/\(S 1=true->e 10= .slice A1 n n/\b1=[ar 2 A1 n n (List.replicate n 0)])/\(S 3=false->b2=[])/\(S 3=true->e 12= .slice A2 n n/\b2=[ar 2 A2 n n (List.replicate n 0)])/\(S 4=true->e 4= .slice A1 n n)/\(S 5=true->e 5= .slice A2 n n)/\St w0 w (b1++ (b2++base))
def k6(v:Nat->Int)(n f:Nat):ah:=(List.range n).map fun g=>if g<f then v g else 0
theorem G6(v:Nat->Int)(n:Nat):k6 v n 0=List.replicate n 0:=by
 apply jV (by simp [k6]);intro i h1 h2;simp [k6]
theorem G7{v:Nat->Int}{n f:Nat}:(k6 v n f).set f (v f)=k6 v n (f+1):=by
 apply jV (by simp [k6]);intro i h1 h2;rw [List.getElem_set];simp only [k6,List.getElem_map,List.getElem_range]
 by_cases h:f=i
 ·subst h;rw [aT rfl,aT (Nat.lt_succ_self _)]
 rw [aR h]
 by_cases h2:i<f
 ·rw [aT h2,aT (by omega)]
 rw [aR h2,aR (by omega)]
theorem TG{v:Nat->Int}{n:Nat}(h:∀g,g<n->0<=v g/\v g<n):Rg n (k6 v n n):=⟨by simp [k6],fun x hx=>by
 obtain⟨g,hg,rfl⟩:=eh.1 hx;have hg:=nu.1 hg;rw [aT hg];exact h g hg⟩
def tB(g:Nat):Int:=if(g:Int)%2=0 then(g:Int)+1 else(g:Int) - 1
def tC(n g:Nat):Int:=if(g:Int)%2=0 then((g:Int)+ (n:Int) - 1)% (n:Int)else((g:Int)+1)% (n:Int)
def GQ(p:Nat):ag:=[k6 tB (2*p) (2*p),k6 (tC (2*p)) (2*p) (2*p)]
theorem afn(hp:1<=p):GM (2*p) (GQ p):=fun q hq=>by
 rcases ij.1 hq with rfl | hq
 ·refine TG fun g hg=>?_
  unfold tB
  split<;>omega
 rw [dK]at hq;subst hq;refine TG fun g hg=>?_
 unfold tC;have vB:=Int.emod_nonneg ((g:Int)+ ((2*p:Nat):Int) - 1) (b:=((2*p:Nat):Int)) (by omega);have vC:=Int.emod_lt_of_pos ((g:Int)+ ((2*p:Nat):Int) - 1) (b:=((2*p:Nat):Int)) (by omega);have J8:=Int.emod_nonneg ((g:Int)+1) (b:=((2*p:Nat):Int)) (by omega);have QI:=Int.emod_lt_of_pos ((g:Int)+1) (b:=((2*p:Nat):Int)) (by omega)
 split
 ·exact⟨vB,vC⟩
 exact⟨J8,QI⟩
theorem adD(p:Nat)(w:aa)(hp:1<=p/\p<=100000):aG prog 276 [aj p] w (fun v w'=>∃A c rs,v= .agg #[.slice A 2 c]/\rs.length=2/\St w w' (aU 24 2 A 2 c rs (GQ p))):=by
 unfold GQ;refine bw func276 O ntmps276 O (kX O O) (bb O (jN (St.refl w) O ?_));intro A2 w1 aC;refine aq O (iL O O O (by omega) (az O ?_));have hn:(2:Int)* (p:Int)=((2*p:Nat):Int):=by omega
 rw [hn];generalize hN:2*p=n;have s6:2<=n:=by omega
 refine oO (by kernel_rfl) (by kernel_rfl) (fun S e1 w1=>Vr w [Bx 31 1 A2 [.slice none 0 0]] n S e1 w1) (fun w4 hb=> ⟨⟨A2,O,O⟩,O,fun h=> (nomatch h),fun h=> (nomatch h),none,none,[],[],fun _=>O,fun h=> (nomatch h),fun _=>O,fun h=> (nomatch h),fun h=> (nomatch h),fun h=> (nomatch h),aC.ao hb⟩) ?_ ?_
 ·intro S q o e1 w4 hq aO hd bE hI;obtain⟨f2,f3,p0,p2,A,B,b1,b2,m1,xM,m3,xN,m4,m5,hT⟩:=hI
  match q,hq,aO with
  | 0,hq,aO=>
   obtain rfl:=bj hq;refine jq O (by exact f3) O (ak.n ?_);exact⟨f2,f3,fun _=>O,p2,A,B,b1,b2,m1,xM,m3,xN,m4,m5,hT⟩
  | 1,hq,aO=>
   obtain rfl:=bj hq;obtain rfl:=m1 aO;have n4:S 4=false:=by
    cases h:S 4 with
    | false=>rfl
    | true=>rw [<-aO];exact(aZ (bE 4 _ h rfl) 1 rfl).symm
   refine sJ n hT (by exact p0 (aZ hd 0 O)) O (by omega) ?_;intro A' w5 dW;refine ak.n ?_;exact⟨f2,f3,p0,p2,A',B,[ar 2 A' n n (List.replicate n 0)],b2,fun h=> (nomatch (show true=false from h)),fun _=> ⟨O,O⟩,m3,xN,fun h=> (nomatch n4.symm.trans h),m5,dW⟩
  | 2,hq,aO=>
   obtain rfl:=bj hq;refine jq O (by exact f3) O (ak.n ?_);exact⟨f2,f3,p0,fun _=>O,A,B,b1,b2,m1,xM,m3,xN,m4,m5,hT⟩
  | 3,hq,aO=>
   obtain rfl:=bj hq;obtain rfl:=m3 aO;have n5:S 5=false:=by
    cases h:S 5 with
    | false=>rfl
    | true=>rw [<-aO];exact(aZ (bE 5 _ h rfl) 3 rfl).symm
   refine sJ n hT (by exact p2 (aZ hd 2 O)) O (by omega) ?_;intro A' w5 dW;refine ak.n ?_;exact⟨f2,f3,p0,p2,A,A',b1,[ar 2 A' n n (List.replicate n 0)],m1,xM,fun h=> (nomatch (show true=false from h)),fun _=> ⟨O,O⟩,m4,fun h=> (nomatch n5.symm.trans h),dW.perm (eK (l₁:=b1)).symm⟩
  | 4,hq,aO=>
   obtain rfl:=bj hq;refine kc O (by exact(xM (aZ hd 1 O)).1) O (ak.n ?_);exact⟨f2,f3,p0,p2,A,B,b1,b2,m1,xM,m3,xN,fun _=>O,m5,hT⟩
  | 5,hq,aO=>
   obtain rfl:=bj hq;refine kc O (by exact(xN (aZ hd 3 O)).1) O (ak.n ?_);exact⟨f2,f3,p0,p2,A,B,b1,b2,m1,xM,m3,xN,m4,fun _=>O,hT⟩
  | q+6,hq,_=>exact(nomatch hq)
 ·intro S e1 w4 cO hI;obtain⟨⟨A0,f2,Z6⟩,f3,p0,p2,A,B,b1,b2,m1,xM,m3,xN,m4,m5,hT⟩:=hI;obtain⟨_,rfl⟩:=xM (cO 1 (by decide));obtain⟨_,rfl⟩:=xN (cO 3 (by decide));rw [Z6]at hT;refine yf (F:=[(2,.pointer A0),(3,aj n),(4,.slice A n n),(5,.slice B n n)]) ⟨f2,f3,m4 (cO 4 (by decide)),m5 (cO 5 (by decide)),aw⟩ ?_;have hT:St w w4 [ar 2 A n n (List.replicate n 0),ar 2 B n n (List.replicate n 0),Bx 31 1 A0 [.slice none 0 0]]:=hT;rw [<-G6 tB n]at hT;have hT:St w w4 [ar 2 A n n (k6 tB n 0),ar 2 B n n (k6 (tC n) n 0),Bx 31 1 A0 [.slice none 0 0]]:=by rw [G6,G6 (tC n)];rw [G6]at hT;exact hT
  refine fv O (Cd.loop (α:=Nat) (fun s=> [(2,.pointer A0),(3,aj n),(4,.slice A n n),(5,.slice B n n),(6,aj s)]) (fun s w'=>St w w' [ar 2 A n n (k6 tB n s),ar 2 B n n (k6 (tC n) n s),Bx 31 1 A0 [.slice none 0 0]]/\s<=n) (fun s=>n - s) 0 (ajz O) ⟨hT,bu _⟩ ?_);rintro f e w5 ⟨dW,hf⟩;refine b8 O (aM _ O (fun h1=>?_) (fun h1=>?_))
  ·have PO:=dW.bk 0 O;have vB:=Int.emod_nonneg ((f:Int)+ (n:Int) - 1) (b:=(n:Int)) (by omega);have vC:=Int.emod_lt_of_pos ((f:Int)+ (n:Int) - 1) (b:=(n:Int)) (by omega);have J8:=Int.emod_nonneg ((f:Int)+1) (b:=(n:Int)) (by omega);have QI:=Int.emod_lt_of_pos ((f:Int)+1) (b:=(n:Int)) (by omega);refine aD O (ob O O O (by omega) (az O ?_));refine aM _ O (fun h2=>?_) (fun h2=>?_)
   ·have Kw:tB f=(f:Int)+1:=aT h2;have Kx:tC n f=((f:Int)+ (n:Int) - 1)% (n:Int):=aT h2;refine aD O (aK O ?_);refine aA PO.2 O (ak.iG 0 dW O O O (by omega) ?_);intro w6 eJ;have eJ:St w w6 [ar 2 A n n ((k6 tB n f).set f ((f:Int)+1)),ar 2 B n n (k6 (tC n) n f),Bx 31 1 A0 [.slice none 0 0]]:=eJ;rw [<-Kw,G7]at eJ;have JC:=eJ.bk 1 O;refine aq O (aK O (dq O (aq O ?_)));refine ob O O O (by omega) (aA JC.2 O (ak.iG 1 eJ O O O (by omega) ?_));intro w7 fg;have fg:St w w7 [ar 2 A n n (k6 tB n (f+1)),ar 2 B n n ((k6 (tC n) n f).set f (((f:Int)+ (n:Int) - 1)% (n:Int))),Bx 31 1 A0 [.slice none 0 0]]:=fg;rw [<-Kx,G7]at fg;refine aq O (aK O (aS O (tQ ?_)));exact⟨f+1,by show n - (f+1)<n - f;omega,(ajz O),fg,by omega⟩
   ·have Kw:tB f=(f:Int) - 1:=aR h2;have Kx:tC n f=((f:Int)+1)% (n:Int):=aR h2;refine aD O (dq O ?_);refine aA PO.2 O (ak.iG 0 dW O O O (by omega) ?_);intro w6 eJ;have eJ:St w w6 [ar 2 A n n ((k6 tB n f).set f ((f:Int) - 1)),ar 2 B n n (k6 (tC n) n f),Bx 31 1 A0 [.slice none 0 0]]:=eJ;rw [<-Kw,G7]at eJ;have JC:=eJ.bk 1 O;refine aq O (aK O (aq O ?_));refine ob O O O (by omega) (aA JC.2 O (ak.iG 1 eJ O O O (by omega) ?_));intro w7 fg;have fg:St w w7 [ar 2 A n n (k6 tB n (f+1)),ar 2 B n n ((k6 (tC n) n f).set f (((f:Int)+1)% (n:Int))),Bx 31 1 A0 [.slice none 0 0]]:=fg;rw [<-Kx,G7]at fg;refine aq O (aK O (aS O (tQ ?_)));exact⟨f+1,by show n - (f+1)<n - f;omega,(ajz O),fg,by omega⟩
  ·have kT:f=n:=by omega
   subst kT;refine bo O (bn (cJ O ?_));refine Hw dW O O O O O O fun A9 w6 eJ=>EN (by exact inferInstance) O O O O (bS 1 3 eJ O O O O O O O ?_);intro w7 fg;refine bD O (fI O (fg.rd 3 O) ?_);exact⟨A9,2,[⟨A,f,f⟩,⟨B,f,f⟩],O,O,fg.sub (List.Sublist.cons_cons _ (List.Sublist.cons_cons _ (List.Sublist.cons_cons _ (List.nil_sublist _))))⟩
theorem GA(p:Nat)(w:aa)(hp:1<=p/\p<=100000):aG prog 276 [aj p] w (Ml 2 (2*p) w):=(adD p w hp).mono fun v w' h=>by
 obtain⟨A,c,rs,hv,bT,ax⟩:=h;exact⟨A,c,rs,GQ p,hv,bT,O,afn hp.1,ax⟩
theorem Nf{N v r:Int}(hv:0<=v/\v<N)(hr:0<=r/\r<M)(hb:N*M<=1000000):0<=v*M/\v*M<=1000000/\0<=v*M+r/\v*M+r<N*M:=by
 have h1:(v+1)*M<=N*M:=Int.mul_le_mul_of_nonneg_right (by omega) (by omega);have h2:0<=v*M:=Int.mul_nonneg hv.1 (by omega);rw [Int.add_mul,Int.one_mul]at h1;omega
theorem GM.first{N:Nat}{xss:ag}(h:GM N xss)(hn:0<xss.length):(gl xss 0).length=N:=by
 have e:gl xss (0:Nat)=xss[0]:=fm hn;have e:gl xss 0=xss[0]:=e;rw [e];exact(h _ (fe hn)).1
theorem GM.at_{N:Nat}{xss:ag}(h:GM N xss){i:Nat}(hi:i<xss.length):Rg N (gl xss i):=by
 rw [fm hi];exact h _ (fe hi)
theorem Gx(A:ai)(n c:Nat)(rs:List aX)(xss:ag)(N:Nat)(B:ai)(m cB:Nat)(rs':List aX)(zA:ag)(M:Nat)(w:aa)(hX:bL w A n rs xss)(hY:bL w B m rs' zA)(hn:1<=n/\n<=100)(hm:1<=m/\m<=100)(hx:GM N xss)(hy:GM M zA)(hN:1<=N)(hM:1<=M)(kP:N*M<=1000000):
 aG prog 277 [.agg #[.slice A n c],.agg #[.slice B m cB]] w (Ml (n+m) (N*M) w):=by
 have di:=hX.len;have pZ:=hY.len;have D0:=hx.first (by omega);have hyM:=hy.first (by omega);have Pu:(N:Int)* (M:Int)<=1000000:=by
  rw [<-Int.natCast_mul];exact Int.ofNat_le.2 kP
 refine bw func277 O ntmps277 O (kX O O) (bb O (mQ (St.refl w) O O ?_));intro A2 w1 aC;refine mQ aC O O fun A3 w2 aE=>jN aE O fun A4 w3 aH=>az O (dQ [.ex (.agg #[.slice (A) (n) (c)]),xI ((gl xss 0).length:Int),.ex (.agg #[.slice (B) (m) (cB)]),xI ((gl zA 0).length:Int),xI ((gl xss 0).length:Int),xI ((gl zA 0).length:Int)] O (eE O) ?_ ?_)
 ·refine⟨fun _ _ hb _ _=>bI 0 ((aH.rd 2 O).below hb) O O O Az,?_,fun _ _ hb _ _=>bI 0 ((aH.rd 1 O).below hb) O O O Az,?_,Dr O,Dr O,aw⟩
  ·intro e1 w1 hb hp bc;refine aF (xH A n c rs xss _ ((aH.ao hb).cV hX) (by omega)) O ?_;rintro _ w2 ⟨rfl,ax⟩;refine ak.n ?_;exact e6.dn ax.below (by exact O)
  intro e1 w1 hb hp bc;refine aF (xH B m cB rs' zA _ ((aH.ao hb).cV hY) (by omega)) O ?_;rintro _ w2 ⟨rfl,ax⟩;refine ak.n ?_;exact e6.dn ax.below (by exact O)
 intro u w4 jX _;have aQ:=aH.ao jX;rw [D0,hyM];refine fJ O (CB (by exact inferInstance) O (jN aQ O ?_));intro A7 w5 a8;refine bS 1 0 a8 O O O O O O O ?_;intro w6 bg;have bg:St w w6 ([Bx 31 1 A7 [.slice none 0 0],Bx 31 1 A4 [.slice none 0 0],Bx 31 1 A3 [.slice B m cB],Bx 31 1 A2 [.slice A n c]]++aU 24 2 none 0 0 [] []):=(bg.nil _).perm (iK (l₁:=[_]) (l₂:=[_,_,_,_]));refine az O (Cd.loop (α:=ER) (fun s=> [(2,.pointer A2),(3,.pointer A3),(4,.pointer A4),(5,aj N),(6,aj M),(7,.pointer A7),(8,aj (s.n:Int))]) (fun s w'=>St w w' ([Bx 31 1 A7 [.slice s.B s.n s.c],Bx 31 1 A4 [.slice none 0 0],Bx 31 1 A3 [.slice B m cB],Bx 31 1 A2 [.slice A n c]]++aU 24 2 s.B s.n s.c s.rs s.xss)/\s.n<=n+m/\s.rs.length=s.n/\s.xss.length=s.n/\GM (N*M) s.xss) (fun s=>n+m - s.n) ⟨0,0,none,0,0,[],[]⟩ (ajz O) ⟨bg,bu _,O,O,fun p hp=> (nomatch hp)⟩ ?_);rintro⟨_,_,C,i,cC,iv,jZ⟩ e w7 ⟨bl,hi,bT,sr,hz⟩;dsimp only at bl hi bT sr hz|-;refine bb O (aI (bl.rd 3 O) O (aV (bl.rd 3 O) O (ba O O (aI (bl.rd 2 O) O (aV (bl.rd 2 O) O ?_)))));refine ba O O (aK O (az O ?_));refine aM _ O (fun h1=>?_) (fun h1=>?_)
 ·refine aD O (fZ bl O ?_);intro A9 w8 bK;refine az O (Cd.loop (α:=Nat×ai×Nat×ah) (fun s=> [(2,.pointer A2),(3,.pointer A3),(4,.pointer A4),(5,aj N),(6,aj M),(7,.pointer A7),(8,aj i),(9,.slice s.2.1 s.1 s.2.2.1),(10,aj (s.1:Int))]) (fun s w'=>St w w' (ar 2 s.2.1 s.1 s.2.2.1 s.2.2.2::([Bx 31 1 A7 [.slice C i cC],Bx 31 1 A4 [.slice none 0 0],Bx 31 1 A3 [.slice B m cB],Bx 31 1 A2 [.slice A n c]]++aU 24 2 C i cC iv jZ))/\s.1<=N*M/\s.2.2.2.length=s.1/\∀x∈s.2.2.2,0<=x/\x< ((N*M:Nat):Int)) (fun s=>N*M - s.1) (0,A9,0,[]) (ajz O) ⟨bK,bu _,O,fun x hx=> (nomatch hx)⟩ ?_);rintro⟨f,A9,c9,acc⟩ e w9 ⟨bh,hf,pM,xf⟩;dsimp only at bh hf pM xf|-;have Zw:(N:Int)* (M:Int)=((N*M:Nat):Int):=(Int.natCast_mul N M).symm;refine bb O (iL O O O (by omega) ?_);rw [Zw];refine az O (aM _ O (fun h2=>?_) (fun h2=>?_))
  ·have uv:0<=(f:Int) / (M:Int):=Int.ediv_nonneg (by omega) (by omega);have y6:(f:Int) / (M:Int)< (N:Int):=Int.ediv_lt_of_lt_mul (by omega) (by omega);have kq:=Int.emod_nonneg (f:Int) (b:=(M:Int)) (by omega);have nK:=Int.emod_lt_of_pos (f:Int) (b:=(M:Int)) (by omega);have JA:=bh.cV hX;have JD:=bh.cV hY;refine aD O (aI (bh.rd 4 O) O (aV (bh.rd 4 O) O ?_));refine ba O O (az O ?_);refine aM _ O (fun h3=>?_) (fun h3=>?_)
   ·have bM:=JA.at_ (i:=(i:Int)) (by omega) (by omega);have mz:=hx.at_ (i:=i) (by omega);have jG:(rg rs i).n=N:=by rw [<-bM.1,mz.1]
    have hv:=mz.gi uv y6;have gQ:=Nf (N:=(N:Int)) (M:=(M:Int)) hv ⟨kq,nK⟩ Pu;generalize hV:gi (gl xss i) ((f:Int) / (M:Int))=v at hv gQ;refine jm [18] [yS (A9) (f) (c9),yP (aB (A2) 0),yS (A) (n) (c),yI ((i:Int)),yP (aB (A) ((i:Int)).toNat),yS ((rg (rs) ((i:Int))).a) ((rg (rs) ((i:Int))).n) ((rg (rs) ((i:Int))).c),yI ((f:Int)),yI ((M:Int)),yI ((f:Int) / (M:Int)),yP (aB ((rg (rs) ((i:Int))).a) ((f:Int) / (M:Int)).toNat),yI (v),yI ((M:Int)),yI (v* (M:Int)),yI ((f:Int)),yI ((M:Int)),yI ((f:Int)% (M:Int)),yI ((v* (M:Int))+ ((f:Int)% (M:Int))),.pr (fun v' w'=>∃po,v'= .slice po 1 1/\St w w' (ar 2 po 1 1 [v* (M:Int)+ (f:Int)% (M:Int)]::ar 2 A9 f c9 acc::([Bx 31 1 A7 [.slice C i cC],Bx 31 1 A4 [.slice none 0 0],Bx 31 1 A3 [.slice B m cB],Bx 31 1 A2 [.slice A n c]]++aU 24 2 C i cC iv jZ))),.pr (fun v' w'=>∃dv dG,v'= .slice dv (f+1) dG/\St w w' (ar 2 dv (f+1) dG (acc++ [v* (M:Int)+ (f:Int)% (M:Int)])::([Bx 31 1 A7 [.slice C i cC],Bx 31 1 A4 [.slice none 0 0],Bx 31 1 A3 [.slice B m cB],Bx 31 1 A2 [.slice A n c]]++aU 24 2 C i cC iv jZ))),.pr (fun v' w'=>∃dv dG,v'= .slice dv (f+1) dG/\St w w' (ar 2 dv (f+1) dG (acc++ [v* (M:Int)+ (f:Int)% (M:Int)])::([Bx 31 1 A7 [.slice C i cC],Bx 31 1 A4 [.slice none 0 0],Bx 31 1 A3 [.slice B m cB],Bx 31 1 A2 [.slice A n c]]++aU 24 2 C i cC iv jZ)))] (ly (ly (ly (ly (ly (ly (ly (ly (ly (ly (ly (ly (ly (ly (ly (ly (ly (cg.2 ⟨Ye.cH (fun v w w' h hb=>by obtain⟨jC,hv,h1⟩:=h;exact⟨jC,hv,h1.ao hb⟩),(cg.2 ⟨Ye.cH (fun v w w' h hb=>by obtain⟨dv,dG,hv,h1⟩:=h;exact⟨dv,dG,hv,h1.ao hb⟩),(cg.2 ⟨Ye.cH (fun v w w' h hb=>by obtain⟨dv,dG,hv,h1⟩:=h;exact⟨dv,dG,hv,h1.ao hb⟩),(fun _ h=>by cases h)⟩)⟩)⟩)))))))))))))))))) ?_ ?_
    ·refine⟨?_,cP fun _ _ hb _ _ _=>aI ((bh.rd 4 O).below hb) O (bq O O),cP fun _ _ hb _ _ _=>aV ((bh.rd 4 O).below hb) O (bq O O),bZ O,cP fun _ _ hb _ _ _=>aA (JA.top.ao hb).2 O (bq O O),cP fun _ _ hb _ _ _=>bQ (JA.top.ao hb) O (bq O O),bZ O,bZ O,?_,cP fun _ _ hb _ _ _=>aA (bM.ao hb).2 O (bq O O),?_,bZ O,?_,bZ O,bZ O,?_,aP fun _ _=>aK O (bq O O),?_,?_,?_,aw⟩
     ·intro e1 w1 cc fB ea fz hp bc hq;show ak _ _ _ _ _ _ _;refine kc O (by exact bc 19 _ O (by kernel_rfl)) O (ak.n (gh O (by exact O)))
     ·intro e1 w1 cc fB ea fz hp bc hq;show ak _ _ _ _ _ _ _;refine ak.quo O O O (by omega) (ak.n (gh O (by exact O)))
     ·refine cP fun e1 w1 hb hp bc hq=>?_
      refine aY (bM.ao hb) O (ak.n ?_);exact gh O (by exact aL (Value.int .i64) hV)
     ·intro e1 w1 cc fB ea fz hp bc hq;show ak _ _ _ _ _ _ _;refine iL O O O (by omega) (ak.n (gh O (by exact O)))
     ·intro e1 w1 cc fB ea fz hp bc hq;show ak _ _ _ _ _ _ _;refine ob O O O (by omega) (ak.n (gh O (by exact O)))
     ·refine cP fun e1 w1 hb hp bc hq=>?_
      exact dE (St.refl _) O O O fun jC iH pV=>ak.n (fu.dn O pV.below ⟨jC,O,(bh.ao hb).call pV⟩)
     ·refine ju fun e1 w1 hb hp bc hq=>?_
      obtain⟨jC,qX,h1⟩:=(hp 17 _ _ (by kernel_rfl) rfl rfl (by kernel_rfl));refine dS 1 h1 O (h1.bk 0 O) O (by exact qX) O ?_;intro dv dG pj yF;exact ak.n (fF.dn O ⟨dv,dG,O,yF.tail⟩)
     refine dP 1 fun e1 w1 hp bc hq=>?_
     have fC:=hp 18 _ _ (by kernel_rfl) O O (by kernel_rfl);obtain⟨dv,dG,qX,h1⟩:=(hp 18 _ _ (by kernel_rfl) rfl rfl (by kernel_rfl));refine kc O (by exact qX) O (ak.n ?_);exact fu.dn O (Below.refl _ _) ⟨dv,dG,O,h1⟩
    intro u dA _ hu _ _;obtain⟨dv,dG,Kv,hT⟩:=hu 19 _ rfl (by kernel_rfl);refine fJ O (aK O (aS O (tQ ?_)));refine⟨(f+1,dv,dG,acc++ [v* (M:Int)+ (f:Int)% (M:Int)]),by show N*M - (f+1)<N*M - f;omega,⟨O,O,O,O,O,O,O,Kv,O,aw⟩,hT,by show f+1<=N*M;omega,by simp [pM],fun x gR=>?_⟩;rcases eD.1 gR with h | h
    ·exact xf x h
    rw [dK]at h;subst h;omega
   have bM:=JD.at_ (i:=(i:Int) - (n:Int)) (by omega) (by omega);obtain⟨j,hj⟩:∃j:Nat,(i:Int) - (n:Int)=j:=⟨i - n,by omega⟩;have mz:=hy.at_ (i:=j) (by omega);rw [<-hj]at mz;have jG:(rg rs' ((i:Int) - (n:Int))).n=M:=by rw [<-bM.1,mz.1]
   have hv:=mz.gi kq nK;have gQ:=Nf (N:=(N:Int)) (M:=(M:Int)) (v:=(f:Int) / (M:Int)) ⟨uv,y6⟩ hv Pu;generalize hV:gi (gl zA ((i:Int) - (n:Int))) ((f:Int)% (M:Int))=v at hv gQ;refine jm [22] [yS (A9) (f) (c9),yI ((f:Int)),yI ((M:Int)),yI ((f:Int) / (M:Int)),yI ((M:Int)),yI ((f:Int) / (M:Int)* (M:Int)),yP (aB (A3) 0),yS (B) (m) (cB),yI ((i:Int)),yP (aB (A2) 0),yS (A) (n) (c),yI (((n:Nat):Int)),yI (((i:Int)) - (((n:Nat):Int))),yP (aB (B) (((i:Int)) - (((n:Nat):Int))).toNat),yS ((rg (rs') (((i:Int)) - (((n:Nat):Int)))).a) ((rg (rs') (((i:Int)) - (((n:Nat):Int)))).n) ((rg (rs') (((i:Int)) - (((n:Nat):Int)))).c),yI ((f:Int)),yI ((M:Int)),yI ((f:Int)% (M:Int)),yP (aB ((rg (rs') (((i:Int)) - (((n:Nat):Int)))).a) ((f:Int)% (M:Int)).toNat),yI (v),yI (((f:Int) / (M:Int)* (M:Int))+ (v)),.pr (fun v' w'=>∃po,v'= .slice po 1 1/\St w w' (ar 2 po 1 1 [(f:Int) / (M:Int)* (M:Int)+v]::ar 2 A9 f c9 acc::([Bx 31 1 A7 [.slice C i cC],Bx 31 1 A4 [.slice none 0 0],Bx 31 1 A3 [.slice B m cB],Bx 31 1 A2 [.slice A n c]]++aU 24 2 C i cC iv jZ))),.pr (fun v' w'=>∃dv dG,v'= .slice dv (f+1) dG/\St w w' (ar 2 dv (f+1) dG (acc++ [(f:Int) / (M:Int)* (M:Int)+v])::([Bx 31 1 A7 [.slice C i cC],Bx 31 1 A4 [.slice none 0 0],Bx 31 1 A3 [.slice B m cB],Bx 31 1 A2 [.slice A n c]]++aU 24 2 C i cC iv jZ))),.pr (fun v' w'=>∃dv dG,v'= .slice dv (f+1) dG/\St w w' (ar 2 dv (f+1) dG (acc++ [(f:Int) / (M:Int)* (M:Int)+v])::([Bx 31 1 A7 [.slice C i cC],Bx 31 1 A4 [.slice none 0 0],Bx 31 1 A3 [.slice B m cB],Bx 31 1 A2 [.slice A n c]]++aU 24 2 C i cC iv jZ)))] (ly (ly (ly (ly (ly (ly (ly (ly (ly (ly (ly (ly (ly (ly (ly (ly (ly (ly (ly (ly (ly (cg.2 ⟨Ye.cH (fun v w w' h hb=>by obtain⟨jC,hv,h1⟩:=h;exact⟨jC,hv,h1.ao hb⟩),(cg.2 ⟨Ye.cH (fun v w w' h hb=>by obtain⟨dv,dG,hv,h1⟩:=h;exact⟨dv,dG,hv,h1.ao hb⟩),(cg.2 ⟨Ye.cH (fun v w w' h hb=>by obtain⟨dv,dG,hv,h1⟩:=h;exact⟨dv,dG,hv,h1.ao hb⟩),(fun _ h=>by cases h)⟩)⟩)⟩)))))))))))))))))))))) ?_ ?_
   ·refine⟨?_,bZ O,bZ O,?_,bZ O,?_,cP fun _ _ hb _ _ _=>aI ((bh.rd 3 O).below hb) O (bq O O),cP fun _ _ hb _ _ _=>aV ((bh.rd 3 O).below hb) O (bq O O),bZ O,cP fun _ _ hb _ _ _=>aI ((bh.rd 4 O).below hb) O (bq O O),cP fun _ _ hb _ _ _=>aV ((bh.rd 4 O).below hb) O (bq O O),aP fun _ _=>ba O O (bq O O),aP fun _ _=>dq O (bq O O),cP fun _ _ hb _ _ _=>aA (JD.top.ao hb).2 O (bq O O),cP fun _ _ hb _ _ _=>bQ (JD.top.ao hb) O (bq O O),bZ O,bZ O,?_,cP fun _ _ hb _ _ _=>aA (bM.ao hb).2 O (bq O O),?_,aP fun _ _=>aK O (bq O O),?_,?_,?_,aw⟩
    ·intro e1 w1 cc fB ea fz hp bc hq;show ak _ _ _ _ _ _ _;refine kc O (by exact bc 23 _ O (by kernel_rfl)) O (ak.n (gh O (by exact O)))
    ·intro e1 w1 cc fB ea fz hp bc hq;show ak _ _ _ _ _ _ _;refine ak.quo O O O (by omega) (ak.n (gh O (by exact O)))
    ·intro e1 w1 cc fB ea fz hp bc hq;show ak _ _ _ _ _ _ _;refine iL O O O (by omega) (ak.n (gh O (by exact O)))
    ·intro e1 w1 cc fB ea fz hp bc hq;show ak _ _ _ _ _ _ _;refine ob O O O (by omega) (ak.n (gh O (by exact O)))
    ·refine cP fun e1 w1 hb hp bc hq=>?_
     refine aY (bM.ao hb) O (ak.n ?_);exact gh O (by exact aL (Value.int .i64) hV)
    ·refine cP fun e1 w1 hb hp bc hq=>?_
     exact dE (St.refl _) O O O fun jC iH pV=>ak.n (fu.dn O pV.below ⟨jC,O,(bh.ao hb).call pV⟩)
    ·refine ju fun e1 w1 hb hp bc hq=>?_
     obtain⟨jC,qX,h1⟩:=(hp 21 _ _ (by kernel_rfl) rfl rfl (by kernel_rfl));refine dS 1 h1 O (h1.bk 0 O) O (by exact qX) O ?_;intro dv dG pj yF;exact ak.n (fF.dn O ⟨dv,dG,O,yF.tail⟩)
    refine dP 1 fun e1 w1 hp bc hq=>?_
    have fC:=hp 22 _ _ (by kernel_rfl) O O (by kernel_rfl);obtain⟨dv,dG,qX,h1⟩:=(hp 22 _ _ (by kernel_rfl) rfl rfl (by kernel_rfl));refine kc O (by exact qX) O (ak.n ?_);exact fu.dn O (Below.refl _ _) ⟨dv,dG,O,h1⟩
   intro u dA _ hu _ _;obtain⟨dv,dG,Kv,hT⟩:=hu 23 _ rfl (by kernel_rfl);refine fJ O (aK O (aS O (tQ ?_)));refine⟨(f+1,dv,dG,acc++ [(f:Int) / (M:Int)* (M:Int)+v]),by show N*M - (f+1)<N*M - f;omega,⟨O,O,O,O,O,O,O,Kv,O,aw⟩,hT,by show f+1<=N*M;omega,by simp [pM],fun x gR=>?_⟩;rcases eD.1 gR with h | h
   ·exact xf x h
   rw [dK]at h;subst h;omega
  have hfe:f=N*M:=by omega
  refine bo O (bn (cJ O ?_));refine aI (bh.rd 1 O) O (aV (bh.rd 1 O) O (aq O (lU bh O O O ?_)));intro Uc dA cj;refine lS 6 cj O (cj.fq 0 O) O O O (by omega) (by omega) O ?_;intro qt qH eA eI;have eI:St w eA (ar 2 A9 f c9 acc::Bx 31 1 A7 [.slice C i cC]::Bx 31 1 A4 [.slice none 0 0]::Bx 31 1 A3 [.slice B m cB]::Bx 31 1 A2 [.slice A n c]::br 24 qt (i+1) qH (iv++ [⟨A9,f,c9⟩])::bF 2 iv jZ):=eI.tail;refine aI (eI.rd 1 O) O (ke 1 eI O O O O O ?_);intro fY eo;have eo:St w fY (ar 2 A9 f c9 acc::Bx 31 1 A7 [.slice qt (i+1) qH]::Bx 31 1 A4 [.slice none 0 0]::Bx 31 1 A3 [.slice B m cB]::Bx 31 1 A2 [.slice A n c]::br 24 qt (i+1) qH (iv++ [⟨A9,f,c9⟩])::bF 2 iv jZ):=eo;refine aq O (aK O (aS O (tQ ?_)));refine⟨⟨0,0,qt,i+1,qH,iv++ [⟨A9,f,c9⟩],jZ++ [acc]⟩,by show n+m - (i+1)<n+m - i;omega,(ajz O),?_,by show i+1<=n+m;omega,by simp [bT],by simp [sr],fun p hp=>?_⟩
  ·show St w fY ([_,_,_,_]++br 24 qt (i+1) qH (iv++ [⟨A9,f,c9⟩])::bF 2 (iv++ [⟨A9,f,c9⟩]) (jZ++ [acc]));rw [tp (by omega)];refine eo.perm ?_;exact (iK (l₁:=[_]) (l₂:=_::_::_::_::br 24 qt (i+1) qH (iv++ [⟨A9,f,c9⟩])::bF 2 iv jZ))
  rcases eD.1 hp with h | h
  ·exact hz p h
  rw [dK]at h;subst h;exact⟨by omega,xf⟩
 have DC:i=n+m:=by omega
 subst DC;refine bo O (bn (cJ O ?_));refine bI 0 (bl.rd 0 O) O O O (bS 1 1 bl O O O O O O O ?_);intro w8 bK;refine bD O (fI O (bK.rd 1 O) ?_);exact⟨C,cC,iv,jZ,O,bT,sr,hz,(((bK.sub ((dY _).cons _)).sub ((dY _).cons _)).sub ((dY _).cons _)).sub ((dY _).cons _)⟩
theorem Ni{e c:Nat}(h:q<4*e)(hc:c<4)(he:e<=1000000):0<=bits .xor .i64 (q:Int) (c:Int)/\bits .xor .i64 (q:Int) (c:Int)< ((4*e:Nat):Int):=by
 have h1:(q^^^c) / 4=q / 4:=by
  have h2:(q^^^c) / 2^2=q / 2^2^^^c / 2^2:=Nat.xor_div_two_pow;have h3:c / 2^2=0:=Nat.div_eq_of_lt (by simpa using hc);rw [h3,Nat.xor_zero]at h2;exact h2
 have h4:q^^^c<4*e:=by omega
 have e1:bits .xor .i64 (q:Int) (c:Int)=IntKind.i64.wrap ((BitVec.ofInt 64 (q:Int)^^^BitVec.ofInt 64 (c:Int)).toNat:Int):=O;have e2:(BitVec.ofInt 64 (q:Int)^^^BitVec.ofInt 64 (c:Int)).toNat=q^^^c:=by
  rw [BitVec.toNat_xor,BitVec.ofInt_natCast,BitVec.ofInt_natCast,BitVec.toNat_ofNat,BitVec.toNat_ofNat,Nat.mod_eq_of_lt (by omega),Nat.mod_eq_of_lt (by omega)]
 rw [e1,e2,IntWalk.i64_in _ (by omega)];omega
section
variable {P:Program} {N:Nat} {ops:Array Oper} {K:Env->aa->Prop} {rest:List Oper} {e:Env} {w0 w w':aa} {ks:List Ck} {d:Nat} {ty:ad} {pos:String} {af:Array Edge} {x y:ae} {xt yt:ad} {i j:Int}
theorem MR(hx:ev e x=aj i)(hy:ev e y=aj j)(hb:Nat.blt d N=true)(hK:ak P N ops K rest (bC e d (aj (bits .xor .i64 i j))) w):
 ak P N ops K (⟨some d,.binOp .xor xt x y yt,ty,pos,af,none⟩::rest) e w:=
 .val (by simp only [execOp,hx,hy,eqGuard,binOp,intBits_xor];simp) hb hK
theorem MK{t el:ad}{b:Nat}[bP P t (.slice el)][bO P el (.slice none 0 0) 1 b]{x0 x1 x2:ae}{s0 s1 s2:aX}(hS:St w0 w ks)(h0:ev e x0=s0.v)(h1:ev e x1=s1.v)(h2:ev e x2=s2.v)(hb:Nat.blt d N=true)(hK:∀A w',St w0 w' (br el A 3 3 [s0,s1,s2]::ks)->ak P N ops K rest (bC e d (.slice A 3 3)) w'):ak P N ops K (⟨some d,.buildSlice t 3 #[(0,x0),(1,x1),(2,x2)],ty,pos,af,none⟩::rest) e w:=by
 obtain⟨inf,hi,fp,hs,iq⟩:=bO.get P el;have e0:(s0.v).cells= #[s0.v]:=O;have e1:(s1.v).cells= #[s1.v]:=O;have e2:(s2.v).cells= #[s2.v]:=O;have hz:(Value.slice none 0 0).cells= #[Value.slice none 0 0]:=O;refine .val (w':=w.alloc (.cells #[s0.v,s1.v,s2.v] el)) ?_ hb (hK _ _ (hS.alloc [s0.v,s1.v,s2.v] el (by simp [maxLen]) O));simp [execOp,Instr.buildSlice,run_underlying (bP.out (P:=P) (t:=t)),sizeOf,typeInfo,zeroValue,hi,hs,fp,hz,Instr.fill,newRow,h0,e0,h1,e1,h2,e2,zP,tI]
end
theorem adB{w0 w:aa}{ks:List Ck}(ix:Nat){As:ai}{k:Ck}(ed:Nat)(hS:St w0 w ks)(hk:ks[ix]?=some k)(hK:eQ w0 As k)(he:1<=ed/\ed<=100000):
 aG prog 278 [.pointer As,aj ed] w (fun v w'=>∃A c rs xss N k',v= .agg #[.slice A 3 c]/\rs.length=3/\xss.length=3/\GM N xss/\(1<=N/\N<=4*ed)/\eQ w0 As k'/\St w0 w' (aU 24 2 A 3 c rs xss++ks.set ix k')):=by
 refine bw func278 O ntmps278 O (kX O O) (bb O (jN hS O ?_));intro A4 w1 aC;refine aq O (iL O O O (by omega) (aq O ?_));refine fZ aC O fun jC w2 aE=>fZ aE O ?_;intro dv w3 aH;have hn:(4:Int)* (ed:Int)=((4*ed:Nat):Int):=by omega
 rw [hn];have aH:St w0 w3 (ar 2 dv 0 0 []::ar 2 jC 0 0 []::Bx 31 1 A4 [.slice none 0 0]::ks):=aH;refine aq O (aF (RS (ix+3) (4*ed) aH (by exact hk) hK (by omega)) O ?_);rintro _ w4 ⟨Am,cm,ps,k',rfl,kp,rP,aQ⟩;have aQ:St w0 w4 (ar 2 Am (4*ed) cm ps::ar 2 dv 0 0 []::ar 2 jC 0 0 []::Bx 31 1 A4 [.slice none 0 0]::ks.set ix k'):=aQ;generalize hN:4*ed=n at*;refine az O (Cd.loop (α:=Nat×ai×Nat×ah×ai×Nat×ah) (fun s=> [(4,.pointer A4),(5,aj n),(6,.slice s.2.1 s.1 s.2.2.1),(7,.slice s.2.2.2.2.1 s.1 s.2.2.2.2.2.1),(8,.slice Am n cm),(9,aj (s.1:Int))]) (fun s w'=>St w0 w' (ar 2 Am n cm ps::ar 2 s.2.2.2.2.1 s.1 s.2.2.2.2.2.1 s.2.2.2.2.2.2::ar 2 s.2.1 s.1 s.2.2.1 s.2.2.2.1::Bx 31 1 A4 [.slice none 0 0]::ks.set ix k')/\s.1<=n/\s.2.2.2.1.length=s.1/\s.2.2.2.2.2.2.length=s.1/\(∀x∈s.2.2.2.1,0<=x/\x< (n:Int))/\(∀x∈s.2.2.2.2.2.2,0<=x/\x< (n:Int))) (fun s=>n - s.1) (0,jC,0,[],dv,0,[]) (ajz O) ⟨aQ,bu _,O,O,fun x hx=> (nomatch hx),fun x hx=> (nomatch hx)⟩ ?_);rintro⟨f,A6,c6,zs,A7,c7,ts⟩ e w5 ⟨a8,hf,sr,Ks,hz,ht⟩;dsimp only at a8 hf sr Ks hz ht|-;refine b8 O (aM _ O (fun h1=>?_) (fun h1=>?_))
 ·have qY:=Ni (q:=f) (e:=ed) (c:=1) (by omega) (by decide) (by omega);have vI:=Ni (q:=f) (e:=ed) (c:=2) (by omega) (by decide) (by omega);rw [hN]at qY vI;refine aD O (MR (j:=((1:Nat):Int)) O O O ?_);generalize bits .xor .i64 (f:Int) ((1:Nat):Int)=b1 at qY|-;refine dE a8 O O O fun tE w6 bg=>dS 3 bg O (bg.bk 0 O) O O O ?_;intro Mg Nx w7 bl;have bl:St w0 w7 (ar 2 Am n cm ps::ar 2 A7 f c7 ts::ar 2 Mg (f+1) Nx (zs++ [b1])::Bx 31 1 A4 [.slice none 0 0]::ks.set ix k'):=bl.tail;refine aq O (MR (j:=((2:Nat):Int)) O O O ?_);generalize bits .xor .i64 (f:Int) ((2:Nat):Int)=b2 at vI|-;refine dE bl O O O fun dp w8 bK=>dS 2 bK O (bK.bk 0 O) O O O fun qq sM w9 bh=>aq O (aK O (aS O (tQ ?_)));refine⟨(f+1,Mg,Nx,zs++ [b1],qq,sM,ts++ [b2]),by show n - (f+1)<n - f;omega,(ajz O),bh.tail,by show f+1<=n;omega,by simp [sr],by simp [Ks],fun x hx=>?_,fun x hx=>?_⟩
  ·rcases eD.1 hx with h | h
   ·exact hz x h
   rw [dK]at h;subst h;exact qY
  rcases eD.1 hx with h | h
  ·exact ht x h
  rw [dK]at h;subst h;exact vI
 have kT:f=n:=by omega
 subst kT;refine bo O (bn (cJ O ?_));refine MK (s0:=⟨A6,f,c6⟩) (s1:=⟨Am,f,cm⟩) (s2:=⟨A7,f,c7⟩) a8 O O O O ?_;intro du w6 bg;have bg:St w0 w6 (aU 24 2 du 3 3 [⟨A6,f,c6⟩,⟨Am,f,cm⟩,⟨A7,f,c7⟩] [zs,ps,ts]++ (Bx 31 1 A4 [.slice none 0 0]::ks.set ix k')):=bg.perm (List.Perm.cons _ (((List.Perm.cons _ (List.Perm.swap _ _ _)).trans (List.Perm.swap _ _ _)).trans (List.Perm.cons _ (List.Perm.refl _))));have hG:GM f [zs,ps,ts]:=fun q hq=>by
  rcases ij.1 hq with rfl | hq
  ·exact⟨sr,hz⟩
  rcases ij.1 hq with rfl | hq
  ·exact kp
  rw [dK]at hq;subst hq;exact⟨Ks,ht⟩
 have Zn:bL w6 du 3 [⟨A6,f,c6⟩,⟨Am,f,cm⟩,⟨A7,f,c7⟩] [zs,ps,ts]:=St.eU bg O;obtain⟨o1,o2,_⟩:=uJ (N:=f) (xss:=[zs,ps,ts]) (pt:=0) hG.sys (Int.le_refl _) (by omega);have yY:=o1.len;have abx:1<=(fG f [zs,ps,ts] 0).length:=by
  have:=o2.length_le;simpa using this
 have QU:=o1.range;refine aq O (aF (KU du 3 3 _ _ f 0 _ Zn (by decide) hG.sys (by omega) (Int.le_refl _) (by omega)) O ?_);rintro _ w7 ⟨gv,og,rfl,za⟩;have bl:=bg.call za;generalize hO:fG f [zs,ps,ts] 0=ord at*;have bl:St w0 w7 (ar 2 gv ord.length og ord::(aU 24 2 du 3 3 [⟨A6,f,c6⟩,⟨Am,f,cm⟩,⟨A7,f,c7⟩] [zs,ps,ts]++ (Bx 31 1 A4 [.slice none 0 0]::ks.set ix k'))):=bl;refine aq O (sJ f bl O O (by omega) ?_);intro eZ w8 bK;refine az O ?_;refine Cd.loop (α:=Nat×ah) (fun s=> [(4,.pointer A4),(5,aj f),(10,.slice du 3 3),(11,.slice gv ord.length og),(12,.slice eZ f f),(13,aj (s.1:Int))]) (fun s w'=>St w0 w' (ar 2 eZ f f s.2::ar 2 gv ord.length og ord::(aU 24 2 du 3 3 [⟨A6,f,c6⟩,⟨Am,f,cm⟩,⟨A7,f,c7⟩] [zs,ps,ts]++ (Bx 31 1 A4 [.slice none 0 0]::ks.set ix k')))/\s.1<=ord.length/\s.2.length=f/\∀x∈s.2,0<=x/\x< (ord.length:Int)) (fun s=>ord.length - s.1) (0,List.replicate f 0) ⟨rfl,rfl,rfl,rfl,rfl,rfl,aw⟩ ⟨bK,bu _,by simp,fun x hx=>by obtain⟨h0,rfl⟩:=List.mem_replicate.1 hx;omega⟩ ?_;rintro⟨i,num⟩ e w9 ⟨bh,hi,gL,s7⟩;dsimp only at bh hi gL s7|-;refine bb O (ba O O (az O ?_));refine aM _ O (fun h2=>?_) (fun h2=>?_)
 ·have yC:=bh.bk 1 O;have Ju:=bh.bk 0 O;have my:=QU (gi ord i) (by rw [bX (by omega)];exact fe _);refine aD O (aA yC.2 O (aY yC O (aq O (aA Ju.2 O (ak.iG 0 bh O O O (by omega) ?_)))));intro dA cj;refine aq O (aK O (aS O (tQ ?_)));refine⟨(i+1,num.set (gi ord i).toNat (i:Int)),by show ord.length - (i+1)<ord.length - i;omega,(ajz O),cj,by show i+1<=ord.length;omega,by rw [iR];exact gL,fun x hx=>?_⟩;rcases List.mem_or_eq_of_mem_set hx with hx | rfl
  ·exact s7 x hx
  omega
 have yC:=bh.bk 1 O;have Ju:=bh.bk 0 O;have Zo:bL w9 du 3 [⟨A6,f,c6⟩,⟨Am,f,cm⟩,⟨A7,f,c7⟩] [zs,ps,ts]:=St.eU bh.tail.tail O;have Gd:∀x:Int,0<=x->x<f->0<=gi num x/\gi num x< (ord.length:Int):=fun x h0 h1=>by
  obtain⟨q,rfl⟩:∃q:Nat,x=q:=⟨x.toNat,by omega⟩;rw [bX (by omega)];exact s7 _ (fe _)
 refine bo O (bn (cJ O ?_));refine CB (by exact inferInstance) O (jN (St.refl w9) O ?_);intro gU dA oY;refine bS 1 0 oY O O O O O O O ?_;intro eA kR;have kR:St w9 eA ([Bx 31 1 gU [.slice none 0 0]]++aU 24 2 none 0 0 [] []):=(kR.nil _).perm (iK (l₁:=[_]) (l₂:=[_]));refine az O (Cd.loop (α:=ER) (fun s=> [(4,.pointer A4),(5,aj f),(10,.slice du 3 3),(11,.slice gv ord.length og),(12,.slice eZ f f),(14,.pointer gU),(15,aj (s.n:Int))]) (fun s w'=>St w9 w' ([Bx 31 1 gU [.slice s.B s.n s.c]]++aU 24 2 s.B s.n s.c s.rs s.xss)/\s.n<=3/\s.rs.length=s.n/\s.xss.length=s.n/\GM ord.length s.xss) (fun s=>3 - s.n) ⟨0,0,none,0,0,[],[]⟩ (ajz O) ⟨kR,bu _,O,O,fun p hp=> (nomatch hp)⟩ ?_);rintro⟨_,_,C,q,cC,iv,jZ⟩ e fY ⟨ma,hq,bT,KH,KI⟩;dsimp only at ma hq bT KH KI|-;refine b8 O (aM _ O (fun h3=>?_) (fun h3=>?_))
 ·refine aD O (fZ ma O ?_);intro jB iw pL;refine az O (Cd.loop (α:=Nat×ai×Nat×ah) (fun s=> [(4,.pointer A4),(5,aj f),(10,.slice du 3 3),(11,.slice gv ord.length og),(12,.slice eZ f f),(14,.pointer gU),(15,aj q),(16,.slice s.2.1 s.1 s.2.2.1),(17,aj (s.1:Int))]) (fun s w'=>St w9 w' (ar 2 s.2.1 s.1 s.2.2.1 s.2.2.2::([Bx 31 1 gU [.slice C q cC]]++aU 24 2 C q cC iv jZ))/\s.1<=ord.length/\s.2.2.2.length=s.1/\∀x∈s.2.2.2,0<=x/\x< (ord.length:Int)) (fun s=>ord.length - s.1) (0,jB,0,[]) (ajz O) ⟨pL,bu _,O,fun x hx=> (nomatch hx)⟩ ?_);rintro⟨j,jB,kN,acc⟩ e rq ⟨rS,hj,pM,xf⟩;dsimp only at rS hj pM xf|-;refine bb O (ba O O (az O ?_));refine aM _ O (fun h4=>?_) (fun h4=>?_)
  ·have Px:=rS.b9 yC;have Pt:=rS.b9 Ju;have Jp:=rS.cV Zo;have bM:=Jp.at_ (i:=(q:Int)) (by omega) (by omega);have mz:=hG.at_ (i:=q) (by show q<3;omega);have jG:(rg [⟨A6,f,c6⟩,⟨Am,f,cm⟩,⟨A7,f,c7⟩] q).n=f:=by rw [<-bM.1,mz.1]
   have my:=QU (gi ord j) (by rw [bX (by omega)];exact fe _);have xp:=mz.gi my.1 my.2;have QQ:=Gd _ xp.1 xp.2;generalize hV:gi (gl [zs,ps,ts] q) (gi ord j)=mv at xp QQ;refine cW O ?_;refine jm [15] [yS (jB) (j) (kN),yS (eZ) (f) (f),yS (du) (3) (3),yI ((q:Int)),yP (aB (du) ((q:Int)).toNat),yS ((rg ([⟨A6,f,c6⟩,⟨Am,f,cm⟩,⟨A7,f,c7⟩]) ((q:Int))).a) ((rg ([⟨A6,f,c6⟩,⟨Am,f,cm⟩,⟨A7,f,c7⟩]) ((q:Int))).n) ((rg ([⟨A6,f,c6⟩,⟨Am,f,cm⟩,⟨A7,f,c7⟩]) ((q:Int))).c),yS (gv) (ord.length) (og),yI ((j:Int)),yP (aB (gv) ((j:Int)).toNat),yI (gi (ord) ((j:Int))),yP (aB (rg [⟨A6,f,c6⟩,⟨Am,f,cm⟩,⟨A7,f,c7⟩] q).a (gi ord j).toNat),yI (mv),yP (aB (eZ) (mv).toNat),yI (gi (num) (mv)),.pr (fun v' w'=>∃po,v'= .slice po 1 1/\St w9 w' (ar 2 po 1 1 [gi num mv]::ar 2 jB j kN acc::([Bx 31 1 gU [.slice C q cC]]++aU 24 2 C q cC iv jZ))),.pr (fun v' w'=>∃dv dG,v'= .slice dv (j+1) dG/\St w9 w' (ar 2 dv (j+1) dG (acc++ [gi num mv])::([Bx 31 1 gU [.slice C q cC]]++aU 24 2 C q cC iv jZ))),.pr (fun v' w'=>∃dv dG,v'= .slice dv (j+1) dG/\St w9 w' (ar 2 dv (j+1) dG (acc++ [gi num mv])::([Bx 31 1 gU [.slice C q cC]]++aU 24 2 C q cC iv jZ)))] (ly (ly (ly (ly (ly (ly (ly (ly (ly (ly (ly (ly (ly (ly (cg.2 ⟨Ye.cH (fun v w w' h hb=>by obtain⟨jC,hv,h1⟩:=h;exact⟨jC,hv,h1.ao hb⟩),(cg.2 ⟨Ye.cH (fun v w w' h hb=>by obtain⟨dv,dG,hv,h1⟩:=h;exact⟨dv,dG,hv,h1.ao hb⟩),(cg.2 ⟨Ye.cH (fun v w w' h hb=>by obtain⟨dv,dG,hv,h1⟩:=h;exact⟨dv,dG,hv,h1.ao hb⟩),(fun _ h=>by cases h)⟩)⟩)⟩))))))))))))))) ?_ ?_
   ·refine⟨?_,bZ O,bZ O,bZ O,cP fun _ _ hb _ _ _=>aA (Jp.top.ao hb).2 O (bq O O),cP fun _ _ hb _ _ _=>bQ (Jp.top.ao hb) O (bq O O),bZ O,bZ O,cP fun _ _ hb _ _ _=>aA (Px.ao hb).2 O (bq O O),cP fun _ _ hb _ _ _=>aY (Px.ao hb) O (bq O O),?_,?_,cP fun _ _ hb _ _ _=>aA (Pt.ao hb).2 O (bq O O),cP fun _ _ hb _ _ _=>aY (Pt.ao hb) O (bq O O),?_,?_,?_,aw⟩
    ·intro e1 w1 cc fB ea fz hp bc hq;show ak _ _ _ _ _ _ _;refine kc O (by exact bc 16 _ O (by kernel_rfl)) O (ak.n (gh O (by exact O)))
    ·refine cP fun e1 w1 hb hp bc hq=>?_
     refine aA (bM.ao hb).2 O (ak.n (gh O (by exact O)))
    ·refine cP fun e1 w1 hb hp bc hq=>?_
     refine aY (bM.ao hb) O (ak.n ?_);exact gh O (by exact aL (Value.int .i64) hV)
    ·refine cP fun e1 w1 hb hp bc hq=>?_
     exact dE (St.refl _) O O O fun jC iH pV=>ak.n (fu.dn O pV.below ⟨jC,O,(rS.ao hb).call pV⟩)
    ·refine ju fun e1 w1 hb hp bc hq=>?_
     obtain⟨jC,qX,h1⟩:=(hp 14 _ _ (by kernel_rfl) rfl rfl (by kernel_rfl));refine dS 1 h1 O (h1.bk 0 O) O (by exact qX) O ?_;intro dv dG pj yF;exact ak.n (fF.dn O ⟨dv,dG,O,yF.tail⟩)
    refine dP 1 fun e1 w1 hp bc hq=>?_
    have fC:=hp 15 _ _ (by kernel_rfl) O O (by kernel_rfl);obtain⟨dv,dG,qX,h1⟩:=(hp 15 _ _ (by kernel_rfl) rfl rfl (by kernel_rfl));refine kc O (by exact qX) O (ak.n ?_);exact fu.dn O (Below.refl _ _) ⟨dv,dG,O,h1⟩
   intro u uR _ hu _ _;obtain⟨dv,dG,aca,hT⟩:=hu 16 _ rfl (by kernel_rfl);refine fJ O (aK O (aS O (tQ ?_)));refine⟨(j+1,dv,dG,acc++ [gi num mv]),by show ord.length - (j+1)<ord.length - j;omega,⟨O,O,O,O,O,O,O,aca,O,aw⟩,hT,by show j+1<=ord.length;omega,by simp [pM],fun x gR=>?_⟩;rcases eD.1 gR with h | h
   ·exact xf x h
   rw [dK]at h;subst h;exact QQ
  have DE:j=ord.length:=by omega
  refine bo O (bn (cJ O ?_));refine aI (rS.rd 1 O) O (aV (rS.rd 1 O) O (aq O (lU rS O O O ?_)));intro Uc uR PL;refine lS 3 PL O (PL.fq 0 O) O O O (by omega) (by omega) O ?_;intro qt qH zx FN;have FN:St w9 zx (ar 2 jB j kN acc::Bx 31 1 gU [.slice C q cC]::br 24 qt (q+1) qH (iv++ [⟨jB,j,kN⟩])::bF 2 iv jZ):=FN.tail;refine aI (FN.rd 1 O) O (ke 1 FN O O O O O ?_);intro tD Di;have Di:St w9 tD (ar 2 jB j kN acc::Bx 31 1 gU [.slice qt (q+1) qH]::br 24 qt (q+1) qH (iv++ [⟨jB,j,kN⟩])::bF 2 iv jZ):=Di;refine aq O (aK O (aS O (tQ ?_)));refine⟨⟨0,0,qt,q+1,qH,iv++ [⟨jB,j,kN⟩],jZ++ [acc]⟩,by show 3 - (q+1)<3 - q;omega,(ajz O),?_,by show q+1<=3;omega,by simp [bT],by simp [KH],fun p hp=>?_⟩
  ·show St w9 tD ([_]++br 24 qt (q+1) qH (iv++ [⟨jB,j,kN⟩])::bF 2 (iv++ [⟨jB,j,kN⟩]) (jZ++ [acc]));rw [tp (by omega)];refine Di.perm ?_;exact (iK (l₁:=[_]) (l₂:=_::br 24 qt (q+1) qH (iv++ [⟨jB,j,kN⟩])::bF 2 iv jZ))
  rcases eD.1 hp with h | h
  ·exact KI p h
  rw [dK]at h;subst h;exact⟨by omega,xf⟩
 have Bu:q=3:=by omega
 subst Bu;have hF:=bh.call ma;have Y4:St w0 fY (Bx 31 1 gU [.slice C 3 cC]::(aU 24 2 C 3 cC iv jZ++ (Bx 31 1 A4 [.slice none 0 0]::ks.set ix k'))):=
  hF.sub (List.Sublist.cons_cons _ (List.Sublist.append_left ((dz _ _).cons _ |>.cons _) _))
 have wP:St w0 fY (Bx 31 1 gU [.slice C 3 cC]::Bx 31 1 A4 [.slice none 0 0]::(aU 24 2 C 3 cC iv jZ++ks.set ix k')):=Y4.perm (List.Perm.cons _ eK);refine bo O (bn (cJ O ?_));refine bI 0 (wP.rd 0 O) O O O (bS 1 1 wP O O O O O O O ?_);intro iw Pa;refine bD O (fI O (Pa.rd 1 O) ?_);exact⟨C,cC,iv,jZ,ord.length,k',O,bT,KH,KI,⟨abx,by omega⟩,rP,(Pa.sub ((dY _).cons _)).sub ((dY _).cons _)⟩
end Go.Proofs.YtkojeolafnadeaaGreatDoor.Vc
