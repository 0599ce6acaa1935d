/-
 Lemmas. Conditions: as each states them.
-/
import Derived.Test.YtkojeolafnadeaaGreatDoorZe
set_option maxHeartbeats 8000000
namespace Go.Proofs.YtkojeolafnadeaaGreatDoor.Vc
open Tryz
section
open Go.RowKit
theorem adQ(A:ai)(c:Nat)(s:Nat)(w:aa)(hR:bt w A 1 [3])(hs:s<=3):aG prog 280 [.slice A 1 c,aj s] w (fun v w'=>v=aj 0/\St w w' []):=by
 refine bw func280 O ntmps280 O (b7 O) (bb O (aF (R7 A c s w hR hs) O ?_));rintro _ w1 ⟨A5,c5,rs,P,rfl,hP,bT,aC⟩;have aC:St w w1 (aU 24 2 A5 P.length c5 rs P++ []):=by rw [iz];exact aC
 have ZC:=hP.1;refine az O (Cd.loop (α:=Nat) (fun z=> [(5,.slice A5 P.length c5),(6,aj 0),(7,aj z)]) (fun z w'=>z<=P.length/\St w w' (aU 24 2 A5 P.length c5 rs P++ [])) (fun z=>P.length - z) 0 (ajz O) ⟨bu _,aC⟩ ?_);clear aC;rintro i e w2 ⟨hi,hS⟩;refine bb O (ba O O (az O ?_));refine aM _ O (fun h1=>?_) (fun h1=>?_)
 ·have dI:i<P.length:=by omega
  have ub:=hS.eU O;have bM:=ub.at_ (i:=(i:Int)) (by omega) (by omega);have gp:gl P i∈P:=by rw [fm dI];exact fe _
  refine aD O (aA ub.top.2 O (bQ ub.top O (aF (R6 _ _ _ (gl P i) w2 (hP.2 _ gp) bM) O ?_)));rintro _ w3 ⟨A8,c8,D,rfl,hD,Y0,Y2,ax⟩;have aH:=hS.ao ax.below;refine ba O O (az O ?_);refine ya O (by omega) (aD O (aK O (aS O (tQ ?_))));exact⟨i+1,by show P.length - (i+1)<P.length - i;omega,⟨O,O,aL (Value.int .i64) (by omega),aw⟩,by omega,aH⟩
 refine bo O (bn (eG O ?_));exact iY O ⟨O,hS.none⟩
theorem adR(A:ai)(c:Nat)(s:Nat)(w:aa)(hR:bt w A 1 [3])(hs:s<=3):aG prog 264 [.slice A 1 c,aj s] w (fun v w'=>v=aj 0/\St w w' []):=by
 refine bw func264 O ntmps264 O (b7 O) (bb O ?_);refine ajq (KZ A 1 c [3] w hR (by decide) (fun x hx=>by obtain rfl:=dK.1 hx;exact .inr (by decide))) rfl rfl rfl ?_;rintro _ w1 ⟨rfl,rfl⟩
 first | refine de rfl rfl ?_ | refine dV rfl rfl ?_
 refine az O (Cd.dZ O (aD O (aF (zi A c _) O ?_)));rintro _ w2 ⟨rfl,rfl⟩;refine aF (oC _ _ _ _) O ?_;rintro _ w3 ⟨rfl,rfl⟩
 first | refine de rfl rfl ?_ | refine dV rfl rfl ?_
 refine az O (gV O (by omega) (aD O (aF (adQ A c s _ hR hs) O ?_)));rintro _ w4 ⟨rfl,ax⟩;refine az O (gV O (by decide) (dB O (iY O ?_)));exact⟨O,ax⟩
theorem adP(A:ai)(c:Nat)(s:Nat)(w:aa)(hR:bt w A 1 [3])(hs:s<=3):aG prog 267 [.slice A 1 c,aj s] w (fun v w'=>∃A' c' L,v= .slice A' L.length c'/\Ct L/\L.length<=4/\St w w' [ar 2 A' L.length c' L]):=by
 refine bw func267 O ntmps267 O (b7 O) (bb O (aF (R7 A c s w hR hs) O ?_));rintro _ w1 ⟨A5,c5,rs,P,rfl,hP,bT,aC⟩;have ZC:=hP.1;refine fZ aC O ?_;intro A6 w2 aE;have aE:St w w2 (ar 2 A6 0 0 []::(aU 24 2 A5 P.length c5 rs P++ [])):=by rw [iz];exact aE
 refine az O ?_;refine Cd.loop (α:=Nat×(ai×Nat)×ah) (fun z=> [(5,.slice A5 P.length c5),(6,.slice z.2.1.1 z.2.2.length z.2.1.2),(7,aj (z.1:Int))]) (fun z w'=>z.1<=P.length/\z.2.2.length<=2*z.1/\Ct z.2.2/\St w w' (ar 2 z.2.1.1 z.2.2.length z.2.1.2 z.2.2::(aU 24 2 A5 P.length c5 rs P++ []))) (fun z=>P.length - z.1) (0,(A6,0),[]) ⟨rfl,rfl,rfl,aw⟩ ⟨bu _,dC _,(fun _ h=>by cases h),aE⟩ ?_;clear aE aC;rintro⟨i,⟨A6,c6⟩,L⟩ e w3 ⟨hi,nD,hL,hS⟩;dsimp only at hi nD hL hS|-;refine bb O (ba O O (az O ?_));refine aM _ O (fun h1=>?_) (fun h1=>?_)
 ·have dI:i<P.length:=by omega
  have ub:=hS.tail.eU O;have bM:=ub.at_ (i:=(i:Int)) (by omega) (by omega);have gp:gl P i∈P:=by rw [fm dI];exact fe _
  refine aD O (aA ub.top.2 O (bQ ub.top O (aF (R6 _ _ _ (gl P i) w3 (hP.2 _ gp) bM) O ?_)));rintro _ w4 ⟨A8,c8,D,rfl,hD,Y0,Y2,ax⟩;have aQ:St w w4 (ar 2 A8 D.length c8 D::ar 2 A6 L.length c6 L::(aU 24 2 A5 P.length c5 rs P++ [])):=hS.call ax;clear hS ub bM ax;refine az O (Cd.loop (α:=Nat×(ai×Nat)×ah) (fun z=> [(5,.slice A5 P.length c5),(6,.slice z.2.1.1 z.2.2.length z.2.1.2),(7,aj i),(8,.slice A8 D.length c8),(9,aj (z.1:Int))]) (fun z w'=>z.1<=D.length/\z.2.2.length<=2*i+z.1/\Ct z.2.2/\St w w' (ar 2 A8 D.length c8 D::ar 2 z.2.1.1 z.2.2.length z.2.1.2 z.2.2::(aU 24 2 A5 P.length c5 rs P++ []))) (fun z=>D.length - z.1) (0,(A6,c6),L) (ajz O) ⟨bu _,nD,hL,aQ⟩ ?_);clear aQ hL nD;rintro⟨k,⟨A6,c6⟩,L⟩ e2 w5 ⟨hk,nD,hL,hS⟩;dsimp only at hk nD hL hS|-;refine bb O (ba O O (az O ?_));refine aM _ O (fun h2=>?_) (fun h2=>?_)
  ·have eN:k<D.length:=by omega
   refine wm 5 O (nq (α:=Nat) (fun a=> [(5,.slice A5 P.length c5),(6,.slice A6 L.length c6),(7,aj i),(8,.slice A8 D.length c8),(9,aj k),(10,aj a)]) (fun a w'=>a<=L.length/\St w w' (ar 2 A8 D.length c8 D::ar 2 A6 L.length c6 L::(aU 24 2 A5 P.length c5 rs P++ []))) ?_ ?_)
   ·refine b8 O (Cd.loop (α:=Nat) (fun a=> [(5,.slice A5 P.length c5),(6,.slice A6 L.length c6),(7,aj i),(8,.slice A8 D.length c8),(9,aj k),(10,aj a)]) (fun a w'=>a<=L.length/\St w w' (ar 2 A8 D.length c8 D::ar 2 A6 L.length c6 L::(aU 24 2 A5 P.length c5 rs P++ []))) (fun a=>L.length - a) 0 (ajz O) ⟨bu _,hS⟩ ?_);clear hS;rintro a e3 w6 ⟨ha,hS⟩;have oX:=hS.bk 0 O;have ki:=hS.bk 1 O;refine b8 O ?_
    by_cases h3:a<L.length
    ·
     refine dQ [xI ((a:Int)),xS (A6) (L.length) (c6),xI (((L.length:Nat):Int)),xB (decide (((a:Int))< (((L.length:Nat):Int)))),xB (true),xS (A6) (L.length) (c6),xI ((a:Int)),xP (aB (A6) ((a:Int)).toNat),xI (gi (L) ((a:Int))),xS (A8) (D.length) (c8),xI ((k:Int)),xP (aB (A8) ((k:Int)).toNat),xI (gi (D) ((k:Int))),xB (decide ((gi (L) ((a:Int)))<=(gi (D) ((k:Int))))),xB (decide ((gi (L) ((a:Int)))<=(gi (D) ((k:Int)))))] O (eE O) ?_ ?_
     ·exact⟨Dr O,Dr O,fun _ _ _ _ _=>ba O O Az,Dr O,fun _ _ _ _ _=>Dk O (by exact aL Value.bool (eC (by omega))),Dr O,Dr O,fun _ _ hb _ _=>au O (aA (ki.ao hb).2 O Az),fun _ _ hb _ _=>au O (aY (ki.ao hb) O Az),Dr O,Dr O,fun _ _ hb _ _=>au O (aA (oX.ao hb).2 O Az),fun _ _ hb _ _=>au O (aY (oX.ao hb) O Az),Dr O,Dr O,aw⟩
     intro u w7 xh _;replace hS:=hS.ao xh;refine fv O (aM _ O (fun h4=>?_) (fun h4=>?_))
     ·refine aD O (aK O (aS O (tQ ?_)));exact⟨a+1,by show L.length - (a+1)<L.length - a;omega,⟨O,O,O,O,O,aL (Value.int .i64) (by omega),aw⟩,by omega,hS⟩
     refine bo O (bn (zD O (tQ ?_)));exact⟨a,(ajz O),ha,hS⟩
    refine dQ [xI ((a:Int)),xS (A6) (L.length) (c6),xI (((L.length:Nat):Int)),xB (decide (((a:Int))< (((L.length:Nat):Int)))),xB (false),xU,xU,xU,xU,xU,xU,xU,xU,xU,xB (false)] O (eE O) ?_ ?_
    ·exact⟨Dr O,Dr O,fun _ _ _ _ _=>ba O O Az,Dr O,fun _ _ _ _ _=>Dk O (by exact aL Value.bool (cM (by omega))),Dr O,Dr O,Dr O,Dr O,Dr O,Dr O,Dr O,Dr O,Dr O,Dr O,aw⟩
    intro u w7 xh _;replace hS:=hS.ao xh;refine fv O (Cd.dZ O ?_);refine bo O (bn (zD O (tQ ?_)));exact⟨a,(ajz O),ha,hS⟩
   clear hS;rintro a e3 w6 ⟨ha,hS⟩;have oX:=hS.bk 0 O;have ki:=hS.bk 1 O;have gD:L.length<=c6:=(hS.cap 1 O).1;have hgd:=hD _ (gi_in eN);generalize hdk:gi D k=dk at*;refine cW O ?_;refine dQ [xS (A8) (D.length) (c8),xI ((k:Int)),xP (aB A8 k),xI (dk),.pr (fun v w'=>∃A',v= .slice A' 1 1/\St w6 w' [ar 2 A' 1 1 [dk]]),xS (A6) (L.length) (c6),xI ((a:Int)),xS (cutAt A6 c6 a) (L.length - a) (c6 - a),.pr (fun v w'=>∃A' c',v= .slice A' (1+ (L.length - a)) c'/\bt w' A' (1+ (L.length - a)) ([dk]++L.drop a)),.pr (fun v w'=>∃A' c',v= .slice A' (1+ (L.length - a)) c'/\bt w' A' (1+ (L.length - a)) ([dk]++L.drop a))] rfl (lx (lx (lx (lx (cg.2 ⟨Yd.cH (fun v w w' h hb=>by obtain⟨A',hv,hT⟩:=h;exact⟨A',hv,hT.ao hb⟩),(lx (lx (lx (cg.2 ⟨Yd.cH (fun v w w' h hb=>by obtain⟨A',c',hv,hT⟩:=h;exact⟨A',c',hv,hT.ao hb⟩),(cg.2 ⟨Yd.cH (fun v w w' h hb=>by obtain⟨A',c',hv,hT⟩:=h;exact⟨A',c',hv,hT.ao hb⟩),(fun _ h=>by cases h)⟩)⟩))))⟩))))) ?_ ?_
   ·refine⟨Dr O,Dr O,fun _ _ hb _ _=>ajn (i:=(k:Int)) (oX.ao hb).2 O O O (by omega) (by omega) Az,?_,?_,Dr O,Dr O,fun _ _ _ _ _=>yd O O O (by omega) Az,?_,?_,aw⟩
    ·intro e1 w1 hb hp bc;rw [<-hdk];refine ajo (i:=(k:Int)) (oX.ao hb) O (by omega) O O Az
    ·intro e1 w1 hb hp bc;exact dE (St.refl _) O O O fun A' w9 ax=>ak.n (e6.dn ax.below ⟨A',O,((St.refl w6).ao hb).call ax⟩)
    ·intro e1 w1 hb hp bc;obtain⟨A',I6,hT⟩:=(hp 4 (by decide) rfl _ _ rfl rfl);refine MJ 0 O hT O ((ki.ao hb).drop (l:=a) (by omega) gD) (by exact I6) O O (by omega) (by omega) O ?_;intro A2 c2 w9 mY ax;exact ak.n (e6.dn mY ⟨A2,c2,O,St.bk ax 0 O⟩)
    intro e1 w1 hb hp bc;obtain⟨A',c',YH,hT⟩:=(hp 8 (by decide) rfl _ _ rfl rfl);refine kc O (by exact YH) O (ak.n ?_);exact e6.dn (Below.refl _ _) ⟨A',c',O,hT⟩
   intro u w7 xh hu;obtain⟨gv,og,pI,abI⟩:=hu 9 _ rfl;replace hS:=hS.ao xh;replace ki:=ki.ao xh;rw [GP u pI pI];refine fJ O (fZ (St.refl w7) O ?_);intro x9 w8 hX;have hX:St w7 w8 (ar 2 x9 0 0 []::[]):=hX;refine aq O (sI O O O (by omega) (dS 0 hX O ((hX.b9 ki).take (l:=a) (by omega)) O O O ?_));intro Mh c63 w9 hX;refine aq O (dS 0 hX O (hX.b9 abI) O O O ?_);intro Cj H4 dA hX;have hX:St w7 dA [ar 2 Cj (0+a+ (1+ (L.length - a))) H4 (([]++L.take a)++ ([dk]++L.drop a))]:=hX;have hlen:(([]++L.take a)++ ([dk]++L.drop a)).length=0+a+ (1+ (L.length - a)):=by simp;omega
   have hlen2:(([]++L.take a)++ ([dk]++L.drop a)).length=L.length+1:=by rw [hlen];omega
   have hdg:Ct (([]++L.take a)++ ([dk]++L.drop a)):=fun d hd=>by
    simp only [List.nil_append,eD,dK]at hd;rcases hd with h9 | h9 | h9
    ·exact hL d (List.mem_of_mem_take h9)
    ·rw [h9];exact hgd
    exact hL d (List.mem_of_mem_drop h9)
   rw [<-hlen]at hX|-;generalize ([]++L.take a)++ ([dk]++L.drop a)=L2 at*;have cj:St w dA (ar 2 Cj L2.length H4 L2::ar 2 A8 D.length c8 D::ar 2 A6 L.length c6 L::(aU 24 2 A5 P.length c5 rs P++ [])):=hS.call hX;have eI:=(cj.perm (List.Perm.swap _ _ _)).sub (List.Sublist.cons_cons _ (List.Sublist.cons_cons _ (List.sublist_cons_self _ _)));refine aq O (aK O (aS O (tQ ?_)));exact⟨(k+1,(Cj,H4),L2),by show D.length - (k+1)<D.length - k;omega,⟨O,O,O,O,aL (Value.int .i64) (by omega),aw⟩,by show k+1<=D.length;omega,by show L2.length<=2*i+ (k+1);omega,hdg,eI⟩
  refine bo O (bn (cJ O (aK O (aS O (tQ ?_)))));exact⟨(i+1,(A6,c6),L),by show P.length - (i+1)<P.length - i;omega,⟨O,O,aL (Value.int .i64) (by omega),aw⟩,by show i+1<=P.length;omega,by show L.length<=2* (i+1);omega,hL,hS.tail⟩
 refine bo O (bn (eG O ?_));refine fb O ?_;exact⟨A6,c6,L,O,hL,by omega,hS.sub (List.Sublist.cons_cons _ (List.nil_sublist _))⟩
theorem GC(A:ai)(c:Nat)(s:Nat)(w:aa)(hR:bt w A 1 [3])(hs:s<=3):aG prog 236 [.slice A 1 c,aj s] w (fun v w'=>∃r:Int,v=aj r/\(1<=r/\r<=81)/\St w w' []):=by
 refine bw func236 O ntmps236 O (b7 O) (bb O (aF (adP A c s w hR hs) O ?_));rintro _ w1 ⟨A5,c5,L,rfl,hL,hl,aC⟩;refine az O (Cd.loop (α:=Nat×Int) (fun z=> [(5,.slice A5 L.length c5),(6,aj z.2),(7,aj (z.1:Int))]) (fun z w'=>z.1<=L.length/\(1<=z.2/\z.2<=((3^z.1:Nat):Int))/\w'=w1) (fun z=>L.length - z.1) (0,1) (ajz O) ⟨bu _,⟨Int.le_refl _,Int.le_refl _⟩,O⟩ ?_);rintro⟨i,r⟩ e w2 ⟨hi,hr,rfl⟩;dsimp only at hi hr|-;have C8:3^i<=3^4:=Nat.pow_le_pow_right (by decide) (by omega);have e81:(3:Nat)^4=81:=by decide
 refine bb O (ba O O (az O ?_));refine aM _ O (fun h1=>?_) (fun h1=>?_)
 ·have dI:i<L.length:=by omega
  have ki:=aC.bk 0 O;have hd:=hL _ (gi_in dI);have hp:3^ (i+1)=3^i*3:=Nat.pow_succ 3 i;have hmul:1<=r*gi L i/\r*gi L i<=((3^ (i+1):Nat):Int)/\r*gi L i<=243:=by
   rcases hd with h | h<;>rw [h,hp]<;>omega
  refine aD O (aA ki.2 O (aY ki O (iL O O O (by omega) ?_)));refine aq O (aK O (aS O (tQ ?_)));exact⟨(i+1,r*gi L i),by show L.length - (i+1)<L.length - i;omega,⟨O,O,aL (Value.int .i64) (by omega),aw⟩,by show i+1<=L.length;omega,⟨hmul.1,hmul.2.1⟩,O⟩
 refine bo O (bn (eG O ?_));refine iY O ?_;exact⟨r,O,by omega,aC.none⟩
theorem Sa(A:ai)(c:Nat)(t s:Nat)(w:aa)(hR:bt w A 1 [3])(ht:t<=3)(hs:s<=3):aG prog 239 [.slice A 1 c,aj t,aj s] w (fun v w'=> (∃r:Nat,v=aj r/\r<=3)/\w'=w):=by
 refine bw func239 O ntmps239 O (b7 O) (b8 O ?_);refine Cd.loop (α:=Nat×Nat) (fun z=> [(0,.slice A 1 c),(1,aj t),(2,aj s),(7,aj (z.2:Int)),(8,aj (z.1:Int))]) (fun z w'=>z.1<=2/\z.2<=3/\w'=w) (fun z=>2 - z.1) (0,0) (ajz O) ⟨by decide,by decide,O⟩ ?_;rintro⟨i,o⟩ e w1 ⟨hi,ho,rfl⟩;dsimp only at hi ho|-;refine bb O (aF (xJ A 1 c w1 (by omega)) O ?_);rintro _ w2 ⟨rfl,rfl⟩;refine az O (aM _ O (fun h1=>?_) (fun h1=>?_))
 ·have dI:i<2:=by omega
  refine wm 3 O (nq (α:=Bool) (fun b=> [(0,.slice A 1 c),(1,aj t),(2,aj s),(7,aj o),(8,aj i),(9,.bool b)]) (fun _ w'=>w'=w2) ?_ ?_)
  ·refine bb O (cz 18 O (fun h3=>?_) (fun h3=>?_))
   ·obtain rfl:i=1:=by omega
    refine au O (aq O (au O (aq O (au O (dq O (au O ?_))))));refine lV O O (nX _ (by omega)) (au O (uX (m:=s) (i:=0) O O (by omega) (by omega) O (au O (uU O O (iS (Nat.div_le_self _ _) (by omega)) O ?_))));refine au O (aq O ?_);refine cz 27 O (fun h5=>?_) (fun h5=>?_)
    ·refine au O (aq O (au O (aq O (au O (dq O (au O ?_))))));refine ajn (i:=0) hR.2 O O O (by decide) (by decide) (au O (ajo (i:=0) hR O (by decide) O O (au O (aS O (tQ ?_)))));exact⟨_,(ajz O),O⟩
    refine ay O (ay O (ay O (ay O (ay O (ay O (aS O (tQ ?_)))))));exact⟨_,(ajz O),O⟩
   refine ay O (ay O (ay O (ay O (ay O (ay O (ay O (aq O (ay O (ay O (ay O (ay O ?_)))))))))));refine ay O (ay O (aS O (tQ ?_)));exact⟨_,(ajz O),O⟩
  rintro b e1 w3 rfl;refine nq (α:=Bool) (fun b=> [(0,.slice A 1 c),(1,aj t),(2,aj s),(7,aj o),(8,aj i),(9,.bool b)]) (fun _ w'=>w'=w3) ?_ ?_
  ·refine bb O (ak.split 36 O (fun h3=>?_) (fun h3=>?_))
   ·refine ay O (ay O (ay O (ay O (ay O (ay O (iA O O O O (iA O O O O (iA O O O O (iA O O O O (iA O O O O (iA O O O O ?_)))))))))));refine iA O O O O (ay O (ay O (iA O O O O (iA O O O O (iA O O O O (iA O O O O (iA O O O O (ay O (aS O (tQ ?_))))))))));exact⟨_,(ajz O),O⟩
   refine au O (aq O (au O (aK O (au O (aq O (au O ?_))))));refine aF (xJ A 1 c w3 (by omega)) O ?_;rintro _ w4 ⟨rfl,rfl⟩;refine au O (aq O (au O (aq O ?_)));refine cz 42 O (fun h4=>?_) (fun h4=>?_)
   ·obtain rfl:i=0:=by omega
    refine au O (aq O (au O (aq O (au O (aK O (au O ?_))))));refine lV O O (nX _ (by omega)) (au O (uX (m:=s) (i:=1) O O (by omega) (by omega) O (au O (uU O O (iS (Nat.div_le_self _ _) (by omega)) O ?_))));refine au O (aq O (au O (aq O (au O (aq O ?_)))));refine cz 51 O (fun h5=>?_) (fun h5=>?_)
    ·refine au O (aq O (au O (aq O (au O ?_))));refine ajn (i:=0) hR.2 O O O (by decide) (by decide) (au O (ajo (i:=0) hR O (by decide) O O (au O (aq O (au O (aS O (tQ ?_)))))));exact⟨_,(ajz O),O⟩
    refine ay O (ay O (ay O (ay O (ay O (au O (aS O (tQ ?_)))))));exact⟨_,(ajz O),O⟩
   refine ay O (ay O (ay O (ay O (ay O (ay O (ay O (au O (aq O (au O (aq O (ay O ?_)))))))))));refine ay O (ay O (ay O (ay O (au O (aS O (tQ ?_))))));exact⟨_,(ajz O),O⟩
  clear b;rintro b e1 w4 rfl;refine aD O (HB (a:=s) (b:=t) O O hs ht O ?_);intro q hq;refine aq O (lV O O (nX _ (by omega)) (uX (m:=q) (i:=i) O O (by omega) (by omega) O (uU O O (iS (Nat.div_le_self _ _) (by omega)) O (aq O ?_))));refine cz 67 O (fun h5=>?_) (fun h5=>?_)
  ·refine au O (aq O (au O ?_))
   first | refine de rfl rfl ?_ | refine dV rfl rfl ?_
   refine az O (Cd.cond O (fun h6=>?_) (fun h6=>?_))
   ·have hp:2^i<=3:=by rcases(show i=0\/i=1 by omega)with rfl | rfl<;>decide
    refine aD O (lV O O (nX _ (by omega)) (MQ (i:=i) O O (by omega) O (HB (a:=o) (b:=2^i) O O ho hp O ?_)));intro q2 Kk;refine aq O (aK O (aS O (tQ ?_)));exact⟨(i+1,q2),by show 2 - (i+1)<2 - i;omega,⟨O,O,O,O,aL (Value.int .i64) (by omega),aw⟩,by show i+1<=2;omega,Kk,O⟩
   refine aD O (aK O (aS O (tQ ?_)));exact⟨(i+1,o),by show 2 - (i+1)<2 - i;omega,⟨O,O,O,O,aL (Value.int .i64) (by omega),aw⟩,by show i+1<=2;omega,ho,O⟩
  refine ay O (ay O (az O ?_));refine Cd.dZ O (aD O (aK O (aS O (tQ ?_))));exact⟨(i+1,o),by show 2 - (i+1)<2 - i;omega,⟨O,O,O,O,aL (Value.int .i64) (by omega),aw⟩,by show i+1<=2;omega,ho,O⟩
 refine bo O (bn (eG O ?_));exact iY O ⟨⟨o,O,ho⟩,O⟩
theorem S3{a b:Int}(ha:0<=a/\a<=81)(hb:1<=b):0<=a / b/\a / b<=81:=⟨Int.ediv_nonneg ha.1 (by omega),Int.le_trans (Int.ediv_le_self _ ha.1) ha.2⟩
theorem adU(A:ai)(c:Nat)(t s:Nat)(w:aa)(hR:bt w A 1 [3])(ht:t<=3)(hs:s<=3):aG prog 235 [.slice A 1 c,aj t,aj s] w (fun v w'=>∃r:Int,v=aj r/\(0<=r/\r<=81)/\St w w' []):=by
 refine bw func235 O ntmps235 O (b7 O) (b8 O ?_);refine dQ [xS (A) (1) (c),xS (A) (1) (c),xI ((3:Int)),.pr (fun v w'=>∃r:Int,v=aj r/\(1<=r/\r<=81)),xS (A) (1) (c),xI ((s:Int)),.pr (fun v w'=>∃r:Int,v=aj r/\(1<=r/\r<=81)),.pr (fun v w'=>∃r:Int,v=aj r/\(0<=r/\r<=81)),xS (A) (1) (c),xS (A) (1) (c),xI ((t:Int)),xI ((s:Int)),.pr (fun v w'=>∃r:Nat,v=aj r/\r<=3),.pr (fun v w'=>∃r:Int,v=aj r/\(1<=r/\r<=81)),.pr (fun v w'=>∃r:Int,v=aj r/\(0<=r/\r<=81)),.pr (fun v w'=>∃r:Int,v=aj r/\(0<=r/\r<=81))] rfl (lx (lx (lx (cg.2 ⟨Yd.cH (fun v w w' h hb=>h),(lx (lx (cg.2 ⟨Yd.cH (fun v w w' h hb=>h),(cg.2 ⟨Yd.cH (fun v w w' h hb=>h),(lx (lx (lx (lx (cg.2 ⟨Yd.cH (fun v w w' h hb=>h),(cg.2 ⟨Yd.cH (fun v w w' h hb=>h),(cg.2 ⟨Yd.cH (fun v w w' h hb=>h),(cg.2 ⟨Yd.cH (fun v w w' h hb=>h),(fun _ h=>by cases h)⟩)⟩)⟩)⟩)))))⟩)⟩)))⟩)))) ?_ ?_
 ·refine⟨Dr O,Dr O,?_,?_,Dr O,Dr O,?_,?_,Dr O,Dr O,Dr O,Dr O,?_,?_,?_,?_,aw⟩
  ·intro e1 w1 hb hp bc;refine aF (zi A c _) O ?_;rintro _ w2 ⟨rfl,ax⟩;subst ax;refine ak.n (d0 (by exact O))
  ·intro e1 w1 hb hp bc;refine aF (GC A c 3 _ (hR.ao hb) (by omega)) O ?_;rintro _ w9 ⟨r,rfl,h1,ax⟩;exact ak.n (e6.dn ax.below ⟨r,O,h1⟩)
  ·intro e1 w1 hb hp bc;refine aF (GC A c s _ (hR.ao hb) (by omega)) O ?_;rintro _ w9 ⟨r,rfl,h1,ax⟩;exact ak.n (e6.dn ax.below ⟨r,O,h1⟩)
  ·intro e1 w1 hb hp bc;obtain⟨a,fH,ha⟩:=(hp 3 (by decide) rfl _ _ rfl rfl);obtain⟨b,lp,gP⟩:=(hp 6 (by decide) rfl _ _ rfl rfl);refine ak.quo (by exact fH) (by exact lp) O (by omega) (ak.n ?_);exact e6.dn (Below.refl _ _) ⟨a / b,O,S3 (by omega) gP.1⟩
  ·intro e1 w1 hb hp bc;refine aF (Sa A c t s _ (hR.ao hb) ht hs) O ?_;rintro _ w9 ⟨⟨r,rfl,h1⟩,rfl⟩;exact ak.n (e6.dn (Below.refl _ _) ⟨r,O,h1⟩)
  ·intro e1 w1 hb hp bc;obtain⟨q,Yu,hq⟩:=(hp 12 (by decide) rfl _ _ rfl rfl);refine ajq (GC A c q _ (hR.ao hb) hq) O (by exact aL (fun v=> [Value.slice A 1 c,v]) Yu) O ?_;rintro _ w9 ⟨r,rfl,h1,ax⟩;exact ak.n (e6.dn ax.below ⟨r,O,h1⟩)
  ·intro e1 w1 hb hp bc;obtain⟨a,jP,ha⟩:=(hp 7 (by decide) rfl _ _ rfl rfl);obtain⟨b,tV,gP⟩:=(hp 13 (by decide) rfl _ _ rfl rfl);refine ak.quo (by exact jP) (by exact tV) O (by omega) (ak.n ?_);exact e6.dn (Below.refl _ _) ⟨a / b,O,S3 (by omega) gP.1⟩
  intro e1 w1 hb hp bc;obtain⟨a,I3,ha⟩:=(hp 14 (by decide) rfl _ _ rfl rfl);refine jq O (by exact I3) O (ak.n ?_);exact e6.dn (Below.refl _ _) ⟨a,O,ha⟩
 intro u w1 fa hu;obtain⟨r,h6,hr⟩:=hu 15 _ rfl;rw [GP u h6 h6];refine Cv O (iY O ?_);exact⟨r,O,hr,(St.refl w).ao fa⟩
theorem adS(A:ai)(c:Nat)(t:Nat)(w:aa)(hR:bt w A 1 [3])(ht:t<=3):aG prog 233 [.slice A 1 c,aj t] w (fun v w'=> (v=aj 0\/v=aj 5)/\St w w' []):=by
 have uq:∀x∈[(3:Int)],x=0\/(2<=x/\x<=32):=fun x hx=>by obtain rfl:=dK.1 hx;exact .inr (by decide)
 refine bw func233 O ntmps233 O (b7 O) (bb O (aF (zi A c _) O ?_));rintro _ w1 ⟨rfl,rfl⟩;refine aF (adR A c 3 _ hR (by omega)) O ?_;rintro _ w2 ⟨rfl,ax⟩;have rR:=ax.b9 hR;refine aq O (aF (KZ A 1 c [3] _ rR (by decide) uq) O ?_);rintro _ w3 ⟨rfl,rfl⟩
 first | refine de rfl rfl ?_ | refine dV rfl rfl ?_
 refine az O (Cd.dZ O (aD O (aF (zi A c _) O ?_)));rintro _ w4 ⟨rfl,rfl⟩;refine aF (oC _ _ _ _) O ?_;rintro _ w5 ⟨rfl,rfl⟩
 first | refine de rfl rfl ?_ | refine dV rfl rfl ?_
 refine az O (gV O (by omega) (cW O ?_));refine gV O (by decide) (aD O (aF (zi A c _) O ?_));rintro _ w6 ⟨rfl,rfl⟩;refine aq O (aF (Sb A c 3 t _ rR (by omega) ht) O ?_);rintro _ w7 ⟨⟨b,rfl,_⟩,rfl⟩
 first | refine de rfl rfl ?_ | refine dV rfl rfl ?_
 refine az O (Cd.cond O (fun h6=>?_) (fun h6=>?_))
 ·refine dB O (iY O ?_);exact⟨.inr O,ax⟩
 refine dB O (iY O ?_);exact⟨.inl O,ax⟩
theorem adX(A:ai)(c:Nat)(t:Nat)(w:aa)(hR:bt w A 1 [3])(ht:t<=3):aG prog 266 [.slice A 1 c,aj t] w (fun v w'=>∃A' c' L,v= .slice A' L.length c'/\(∀x∈L,0<=x/\x<=3)/\1<=L.length/\L.length<=12/\St w w' [ar 2 A' L.length c' L]):=by
 refine bw func266 O ntmps266 O (b7 O) (bb O (fZ (St.refl w) O ?_));intro A5 w1 aC;have aC:St w w1 (ar 2 A5 0 0 []::[]):=aC;refine az O ?_;refine Cd.loop (α:=Nat×(ai×Nat)×ah) (fun z=> [(0,.slice A 1 c),(1,aj t),(5,.slice z.2.1.1 z.2.2.length z.2.1.2),(6,aj (z.1:Int))]) (fun z w'=>z.1<=3/\(∀x∈z.2.2,0<=x/\x<=3)/\z.2.2.length<=4*z.1/\(0<z.1->1<=z.2.2.length)/\St w w' [ar 2 z.2.1.1 z.2.2.length z.2.1.2 z.2.2]) (fun z=>3 - z.1) (0,(A5,0),[]) ⟨rfl,rfl,rfl,rfl,aw⟩ ⟨bu _,(fun _ h=>by cases h),dC _,(fun h=>absurd h (Nat.lt_irrefl 0)),aC⟩ ?_;clear aC;rintro⟨i,⟨A5,c5⟩,L⟩ e w2 ⟨hi,hL,hl,h1,hS⟩;dsimp only at hi hL hl h1 hS|-;refine bb O (aF (xJ A 1 c w2 (by omega)) O ?_);rintro _ w3 ⟨rfl,rfl⟩;refine az O (aM _ O (fun h2=>?_) (fun h2=>?_))
 ·refine cW O ?_;refine Cd.loop (α:=Nat×(ai×Nat)×ah) (fun z=> [(0,.slice A 1 c),(1,aj t),(5,.slice z.2.1.1 z.2.2.length z.2.1.2),(6,aj i),(7,aj (z.1:Int))]) (fun z w'=>z.1<=4/\(∀x∈z.2.2,0<=x/\x<=3)/\z.2.2.length<=4*i+z.1/\(0<i\/0<z.1->1<=z.2.2.length)/\St w w' [ar 2 z.2.1.1 z.2.2.length z.2.1.2 z.2.2]) (fun z=>4 - z.1) (0,(A5,c5),L) (ajz O) ⟨bu _,hL,hl,(fun h=>h1 (h.resolve_right (by show ¬0<0;omega))),hS⟩ ?_;clear hS hL hl h1;rintro⟨k,⟨A5,c5⟩,L⟩ e w4 ⟨hk,hL,hl,h1,hS⟩;dsimp only at hk hL hl h1 hS|-;refine bb O (aF (zi A c _) O ?_);rintro _ w5 ⟨rfl,rfl⟩;refine az O (aM _ O (fun h3=>?_) (fun h3=>?_))
  ·refine aD O (aF (R9 k _ (by omega)) O ?_);rintro _ w6 ⟨⟨r,rfl,s8,kq⟩,rfl⟩;refine aq O (cz 25 O (fun h4=>?_) (fun h4=>?_))
   ·refine au O (aq O (au O (aq O (au O (aq O (au O ?_))))));refine aF (Sb A c k t _ (hS.b9 hR) (by omega) ht) O ?_;rintro _ w7 ⟨⟨b,rfl,fz⟩,rfl⟩;refine az O (Cd.cond O (fun h6=>?_) (fun h6=>?_))
    ·refine aD O (dE hS O O O ?_);intro oK w8 a8;refine dS 1 a8 O (a8.bk 0 O) O O O fun eR eS w9 bg=>aq O (aK O (aS O (tQ ?_)));exact⟨(k+1,(eR,eS),L++ [(k:Int)]),by show 4 - (k+1)<4 - k;omega,⟨O,O,by show Value.slice _ _ _= .slice eR (L++ [(k:Int)]).length eS;rw [dh];rfl,O,aL (Value.int .i64) (by omega),aw⟩,by show k+1<=4;omega,(fun x hx=>by
      rcases eD.1 hx with hx | hx
      ·exact hL x hx
      ·obtain rfl:=dK.1 hx;omega),by show(L++ [(k:Int)]).length<=4*i+ (k+1);rw [dh];show L.length+1<=_;omega,(fun _=>by show 1<=(L++ [(k:Int)]).length;rw [dh];show 1<=L.length+1;omega),by
      show St w w9 [ar 2 eR (L++ [(k:Int)]).length eS (L++ [(k:Int)])];rw [dh];exact bg.tail⟩
    refine aD O (aK O (aS O (tQ ?_)));exact⟨(k+1,(A5,c5),L),by show 4 - (k+1)<4 - k;omega,⟨O,O,O,O,aL (Value.int .i64) (by omega),aw⟩,by show k+1<=4;omega,hL,by show L.length<=4*i+ (k+1);omega,(fun _=>by
     rcases Nat.eq_zero_or_pos k with h9 | h9
     ·rw [fz h9]at h6;cases h6
     exact h1 (.inr h9)),hS⟩
   refine ay O (ay O (ay O (ay O (az O ?_))));refine Cd.dZ O (aD O (aK O (aS O (tQ ?_))));exact⟨(k+1,(A5,c5),L),by show 4 - (k+1)<4 - k;omega,⟨O,O,O,O,aL (Value.int .i64) (by omega),aw⟩,by show k+1<=4;omega,hL,by show L.length<=4*i+ (k+1);omega,(fun _=>by
    rcases Nat.eq_zero_or_pos k with h9 | h9
    ·rcases Nat.eq_zero_or_pos i with h8 | h8
     ·exfalso;have:=kq h9;omega
     exact h1 (.inl h8)
    exact h1 (.inr h9)),hS⟩
  refine bo O (bn (cJ O (aK O (aS O (tQ ?_)))));exact⟨(i+1,(A5,c5),L),by show 3 - (i+1)<3 - i;omega,⟨O,O,O,aL (Value.int .i64) (by omega),aw⟩,by show i+1<=3;omega,hL,by show L.length<=4* (i+1);omega,(fun _=>h1 (.inr (by omega))),hS⟩
 refine bo O (bn (eG O ?_));refine fb O ?_;exact⟨A5,c5,L,O,hL,h1 (by omega),by omega,hS⟩
theorem adW(A:ai)(c:Nat)(t:Nat)(w:aa)(hR:bt w A 1 [3])(ht:t<=3):aG prog 234 [.slice A 1 c,aj t] w (fun v w'=>∃A' c' L,v= .slice A' (L.length - 1) c'/\(∀x∈L,0<=x/\x<=3)/\1<=L.length/\L.length<=12/\St w w' [ar 2 A' L.length c' L]):=by
 refine bw func234 O ntmps234 O (b7 O) (bb O (aF (adX A c t w hR ht) O ?_));rintro _ w1 ⟨A5,c5,L,rfl,hL,h1,wL,aC⟩;have gD:L.length<=c5:=(aC.cap 0 O).1;refine aq O (ba O O (dq O ?_));refine sI O O O (by omega) (bD O (fb O ?_));refine⟨A5,c5,L,?_,hL,h1,wL,aC⟩;show Value.slice _ _ _=_
 congr 1
 omega
def uP(labels:ah):ag:=(Cc (labels.length+1) (ie labels)).getD []
def tz(labels:ah):Bool:=decide (labels.length<5) && decide (∀x∈labels,x=0\/(2<=x/\x<=32)) && decide (wz ((labels.length+1:Nat):Int) 1 (ie labels)) && (Cc (labels.length+1) (ie labels)).isSome && decide (dm (uP labels))
theorem tA{labels:ah}(h:tz labels=true):HG labels (uP labels):=by
 simp only [tz,Bool.and_eq_true,nB]at h;obtain⟨⟨⟨⟨h1,h2⟩,h3⟩,h4⟩,h5⟩:=h;refine⟨h1,h2,h3,?_,h5⟩;obtain⟨T,hT⟩:=Option.isSome_iff_exists.1 h4;rw [hT,uP,hT]
 rfl
set_option maxRecDepth 100000 in
theorem agT:tz [3]=true:=by kernel_rfl
set_option maxRecDepth 100000 in
theorem TP:tz [2,2]=true:=by kernel_rfl
set_option maxRecDepth 100000 in
theorem agR:tz [2,3]=true:=by kernel_rfl
set_option maxRecDepth 100000 in
theorem agV:tz [4,2]=true:=by kernel_rfl
set_option maxRecDepth 100000 in
theorem agX:tz [5,2]=true:=by kernel_rfl
set_option maxRecDepth 100000 in
theorem agS:tz [2,6]=true:=by kernel_rfl
set_option maxRecDepth 100000 in
theorem TQ:tz [3,3]=true:=by kernel_rfl
set_option maxRecDepth 100000 in
theorem agW:tz [4,3]=true:=by kernel_rfl
set_option maxRecDepth 100000 in
theorem agU:tz [3,4]=true:=by kernel_rfl
theorem RX(A:ai)(n c:Nat)(xs:ah)(w:aa)(hR:bt w A n xs)(hn:n<=1000000):
 aG prog 263 [.slice A n c] w (fun v w'=>∃A' c' eF,v= .slice A' n c'/\eF.length=n/\St w w' [ar 2 A' n c' eF]):=by
 have di:=hR.1;refine bw func263 O ntmps263 O (b7 O) (bb O (aF (RU A n c xs _ hR (by omega)) O ?_));rintro _ w1 ⟨A1,c1,rfl,aC⟩;refine az O ?_;refine Cd.loop (α:=Nat×ah) (fun z=> [(3,.slice A1 n c1),(4,aj (z.1:Int))]) (fun z w'=>z.1<=n+1/\z.2.length=n/\St w w' [ar 2 A1 n c1 z.2]) (fun z=>n+1 - z.1) (1,xs) (ajz O) ⟨by show 1<=n+1;omega,di,aC⟩ ?_;clear aC;rintro⟨i,L⟩ e w2 ⟨hi,hl,hS⟩;dsimp only at hi hl hS|-;refine bb O (ba O O (az O ?_));refine aM _ O (fun h1=>?_) (fun h1=>?_)
 ·refine cW O (Cd.loop (α:=Nat×ah) (fun z=> [(3,.slice A1 n c1),(4,aj i),(5,aj (z.1:Int))]) (fun z w'=>z.1<=i/\z.2.length=n/\St w w' [ar 2 A1 n c1 z.2]) (fun z=>z.1) (i,L) (ajz O) ⟨dC _,hl,hS⟩ ?_);clear hS hl;rintro⟨k,L⟩ e w3 ⟨hk,hl,hS⟩;dsimp only at hk hl hS|-;have jf:=hS.bk 0 O;obtain⟨less,DI⟩:∃p:Prop,p=(0<k/\gi L k<gi L ((k:Int) - 1)):=⟨_,rfl⟩;have aap:Decidable less:=by rw [DI];infer_instance
  refine Mz 1 O (nq (α:=Unit) (fun _=> [(3,.slice A1 n c1),(4,aj i),(5,aj k),(29,.bool (decide less))]) (fun _ w'=>w3.heap.size<=w3.heap.size/\Below w3.heap.size w3 w') ?_ ?_)
  ·have yJ:k=0\/(0<k/\¬gi L k<gi L ((k:Int) - 1))\/(0<k/\gi L k<gi L ((k:Int) - 1)):=by omega
   rcases yJ with h0 | ⟨h0,hs⟩ | ⟨h0,hs⟩
   ·
    refine dQ [xI ((k:Int)),xB (decide (((0:Int))< ((k:Int)))),xB (false),xU,xU,xU,xU,xU,xU,xU,xU,xU,xU,xB (false)] O (eE O) ?_ ?_
    ·exact⟨Dr O,Dr O,fun _ _ _ _ _=>Dk O (by exact aL Value.bool (cM (by omega))),Dr O,Dr O,Dr O,Dr O,Dr O,Dr O,Dr O,Dr O,Dr O,Dr O,Dr O,aw⟩
    intro u w4 hb _;refine tQ ?_;exact⟨(),⟨O,O,O,aL Value.bool (cM (by rw [DI];omega)).symm,aw⟩,dC _,hb⟩
   ·refine dQ [xI ((k:Int)),xB (decide (((0:Int))< ((k:Int)))),xB (true),xS (A1) (n) (c1),xI ((k:Int)),xP (aB (A1) ((k:Int)).toNat),xI (gi (L) ((k:Int))),xS (A1) (n) (c1),xI ((k:Int)),xI (((k:Int)) - ((1:Int))),xP (aB (A1) (((k:Int)) - ((1:Int))).toNat),xI (gi (L) (((k:Int)) - ((1:Int)))),xB (false),xB (false)] O (eE O) ?_ ?_
    ·exact⟨Dr O,Dr O,fun _ _ _ _ _=>Dk O (by exact aL Value.bool (eC (by omega))),Dr O,Dr O,fun _ _ hb _ _=>au O (aA (jf.ao hb).2 O Az),fun _ _ hb _ _=>au O (aY (jf.ao hb) O Az),Dr O,Dr O,fun _ _ _ _ _=>au O (dq O Az),fun _ _ hb _ _=>au O (aA (jf.ao hb).2 O Az),fun _ _ hb _ _=>au O (aY (jf.ao hb) O Az),fun _ _ _ _ _=>Dk O (by exact aL Value.bool (cM (by omega))),Dr O,aw⟩
    intro u w4 hb _;refine tQ ?_;exact⟨(),⟨O,O,O,aL Value.bool (cM (by rw [DI];omega)).symm,aw⟩,dC _,hb⟩
   refine dQ [xI ((k:Int)),xB (decide (((0:Int))< ((k:Int)))),xB (true),xS (A1) (n) (c1),xI ((k:Int)),xP (aB (A1) ((k:Int)).toNat),xI (gi (L) ((k:Int))),xS (A1) (n) (c1),xI ((k:Int)),xI (((k:Int)) - ((1:Int))),xP (aB (A1) (((k:Int)) - ((1:Int))).toNat),xI (gi (L) (((k:Int)) - ((1:Int)))),xB (true),xB (true)] O (eE O) ?_ ?_
   ·exact⟨Dr O,Dr O,fun _ _ _ _ _=>Dk O (by exact aL Value.bool (eC (by omega))),Dr O,Dr O,fun _ _ hb _ _=>au O (aA (jf.ao hb).2 O Az),fun _ _ hb _ _=>au O (aY (jf.ao hb) O Az),Dr O,Dr O,fun _ _ _ _ _=>au O (dq O Az),fun _ _ hb _ _=>au O (aA (jf.ao hb).2 O Az),fun _ _ hb _ _=>au O (aY (jf.ao hb) O Az),fun _ _ _ _ _=>Dk O (by exact aL Value.bool (eC (by omega))),Dr O,aw⟩
   intro u w4 hb _;refine tQ ?_;exact⟨(),⟨O,O,O,aL Value.bool (eC (by rw [DI];omega)).symm,aw⟩,dC _,hb⟩
  rintro _ e5 w5 ⟨_,fS⟩;have a8:=hS.ao fS;have ua:=a8.bk 0 O;clear fS hS jf;refine aM _ O (fun h2=>?_) (fun h2=>?_)
  ·rw [DI]at h2;refine aD O (aA ua.2 O (aY ua O ?_));refine aq O (dq O ?_);refine aA ua.2 O (aY ua O (aA ua.2 O (ak.iG 0 a8 O O O (by omega) ?_)));intro w6 bg;have oj:=bg.bk 0 O;refine aq O (dq O (aq O ?_));refine aA oj.2 O (ak.iG 0 bg O O O (by omega) ?_);intro w7 bl;refine aq O (dq O (aS O (tQ ?_)));refine⟨(k - 1,_),by show k - 1<k;omega,⟨O,O,aL (Value.int .i64) (by show(k:Int) - 1=((k - 1:Nat):Int);omega),aw⟩,by show k - 1<=i;omega,?_,bl⟩;simp only [iR];exact hl
  refine bo O (bn (cJ O (aK O (aS O (tQ ?_)))));exact⟨(i+1,L),by show n+1 - (i+1)<n+1 - i;omega,(ajz O),by show i+1<=n+1;omega,hl,a8⟩
 refine bo O (bn (eG O ?_));exact fb O ⟨A1,c1,L,O,hl,hS⟩
section
variable {P:Program} {N:Nat} {ops:Array Oper} {K:Env->aa->Prop} {rest:List Oper} {e:Env} {w:aa} {d:Nat} {ty:ad} {pos:String} {af:Array Edge}
theorem Vb{F:FuncId}{x y:ae}{v1 v2:ab}(hx:ev e x=v1)(hy:ev e y=v2)(hb:Nat.blt d N=true)(hK:ak P N ops K rest (bC e d (.func (.func F) #[] #[v1,v2])) w):
 ak P N ops K (⟨some d,.makeFunc (.func F) #[] #[x,y],ty,pos,af,none⟩::rest) e w:=
 .val (by simp [execOp,Instr.makeFunc,hx,hy]) hb hK
end
def yg(lo hi:Int)(xs:ah):Prop:=∀x∈xs,lo<=x/\x<=hi
instance (lo hi:Int)(xs:ah):Decidable (yg lo hi xs):=by unfold yg;exact inferInstance
theorem V3(x lo hi:Int)(P1 P2:ai)(w:aa)(h1:Rd w P1 1 (fun _=>aj lo))(h2:Rd w P2 1 (fun _=>aj hi)):
 aG prog 172 [aj x,.pointer P1,.pointer P2] w (fun v w'=>v= .bool (decide (¬(lo<=x/\x<=hi)))/\w'=w):=by
 refine bw func172 O ntmps172 O (b7 O) (bb O ?_);refine ak.ld h1 (by exact aL Value.pointer (mF P1).symm) (by decide) O O O ?_;refine ak.ld h2 (by exact aL Value.pointer (mF P2).symm) (by decide) O O O ?_;refine aF (qm _ _ _ _) O ?_;rintro _ w ⟨rfl,rfl⟩
 first | refine de rfl rfl ?_ | refine dV rfl rfl ?_
 refine bD O (ck O ?_);exact⟨O,O⟩
theorem UD(A:ai)(n c:Nat)(xs:ah)(lo hi:Int)(P1 P2:ai)(w:aa)(hR:bt w A n xs)(hn:n<=9223372036854775807)(h1:Rd w P1 1 (fun _=>aj lo))(h2:Rd w P2 1 (fun _=>aj hi)):
 aG prog 145 [.slice A n c,.func (.func 172) #[] #[.pointer P1,.pointer P2]] w (fun v w'=> (∃i:Int,v=aj i/\(0<=i↔¬yg lo hi xs))/\w'=w):=by
 have di:=hR.1;refine bw func145 O ntmps145 O (b7 O) ?_;refine bb O (ba O O (az O ?_));refine Cd.loop (α:=Nat) (fun k=> [(0,.slice A n c),(1,.func (.func 172) #[] #[.pointer P1,.pointer P2]),(7,aj n),(8,aj k)]) (fun k w'=>w'=w/\k<=n/\∀j,j<k->lo<=gi xs (j:Nat)/\gi xs (j:Nat)<=hi) (fun k=>n - k) 0 (ajz O) ⟨O,bu _,fun j hj=>by omega⟩ ?_;rintro k e w ⟨rfl,hk,hK⟩;refine b8 O (aM _ O (fun h3=>?_) (fun h3=>?_))
 ·refine aD O (aA hR.2 O (aY hR O (aF (V3 _ lo hi P1 P2 _ h1 h2) O ?_)));rintro _ w ⟨rfl,rfl⟩;refine az O (aM _ O (fun h4=>?_) (fun h4=>?_))
  ·refine dB O (dO (dJ ?_));refine iY O ?_;exact⟨⟨(k:Int),O,⟨fun _ ha=>h4 (by rw [bX (by omega)];exact ha _ (fe _)),fun _=>by omega⟩⟩,O⟩
  refine aD O (aK O (aS O (tQ ?_)));refine⟨k+1,by show n - (k+1)<n - k;omega,(ajz O),O,by omega,fun j hj=>?_⟩
  by_cases ej:j=k
  ·subst ej;exact mM.1 h4
  exact hK j (by omega)
 refine bo O (bn (eG O ?_));refine iY O ⟨⟨-1,O,⟨fun h=>absurd h (by decide),fun h=>absurd (fun x hx=>?_) h⟩⟩,O⟩;obtain⟨j,hj,rfl⟩:=gj.1 hx;have:=hK j (by omega)
 rwa [bX hj]at this
theorem Up(A:ai)(n c:Nat)(xs:ah)(lo hi:Int)(P1 P2:ai)(w:aa)(hR:bt w A n xs)(hn:n<=9223372036854775807)(h1:Rd w P1 1 (fun _=>aj lo))(h2:Rd w P2 1 (fun _=>aj hi)):
 aG prog 82 [.slice A n c,.func (.func 172) #[] #[.pointer P1,.pointer P2]] w (fun v w'=>v= .bool (decide (¬yg lo hi xs))/\w'=w):=by
 refine bw func82 O ntmps82 O (b7 O) (bb O (aF (UD A n c xs lo hi P1 P2 _ hR hn h1 h2) O ?_));rintro _ w ⟨⟨i,rfl,dI⟩,rfl⟩;refine bD O (ck O ?_);exact⟨aL Value.bool (nA.2 dI),O⟩
theorem M7(A:ai)(n c:Nat)(xs:ah)(lo hi:Int)(w:aa)(hR:bt w A n xs)(hn:n<=9223372036854775807):
 aG prog 126 [.slice A n c,aj lo,aj hi] w (fun v w'=>v= .bool (decide (yg lo hi xs))/\St w w' []):=by
 refine bw func126 O ntmps126 O (b7 O) (bb O ?_);refine ak.box (v:=aj lo) (St.refl w) O O (by show(1:Nat)<=maxLen;simp [maxLen]) ?_;intro P1 w1 aC;have aC:St w w1 [Bx 2 1 P1 [aj lo]]:=aC;refine ak.box (v:=aj hi) aC O O (by show(1:Nat)<=maxLen;simp [maxLen]) ?_;intro P2 w2 aE;have aE:St w w2 [Bx 2 1 P2 [aj hi],Bx 2 1 P1 [aj lo]]:=aE;refine aq O (Vb O O O (aF (Up A n c xs lo hi P1 P2 _ (aE.b9 hR) hn (Rd.one (aE.rd 1 O)) (Rd.one (aE.rd 0 O))) O ?_));rintro _ w2 ⟨rfl,rfl⟩
 first | refine de rfl rfl ?_ | refine dV rfl rfl ?_
 refine bD O (ck O ?_);exact⟨by simp,aE.none⟩
def ME(n:Nat)(ws:ah):Prop:=yg 0 ((n:Int) - 1) ws/\ws.length<=64
instance (n:Nat)(ws:ah):Decidable (ME n ws):=by unfold ME;exact inferInstance
def agl(wo u:Int)(st:ah×ah)(x:Int):ah×ah:=if gi st.1 x<0/\x≠wo then(st.1.set x.toNat (gi st.1 u+1),st.2++ [x])else st
def afT(wo u:Int)(r:ah)(st:ah×ah):ah×ah:=r.foldl (agl wo u) st
def Ng(next:ag)(wo:Int):Nat->Nat->ah×ah->ah×ah
 | 0,_,st=>st
 | f+1,i,st=>if i<st.2.length then Ng next wo f (i+1) (afT wo (gi st.2 i) (gl next (gi st.2 i)) st)else st
def acC(n:Nat)(v:Int):ah×ah:=((List.replicate n (-1)).set v.toNat 0,[v])
def Xk(next:ag)(wo v:Int):ah×ah:=Ng next wo (next.length+1) 0 (acC next.length v)
theorem OG{l:ah}{x:Int}(h0:0<=x)(h1:x<l.length):gi l x∈l:=by
 obtain⟨k,rfl⟩:∃k:Nat,x=k:=⟨x.toNat,by omega⟩;exact gi_in (by omega)
end
section
variable{M:ag}{j:Nat}{p R:ah}{x y u:Int}
theorem Sg{N:Nat}{xss:ag}(hs:Sys N xss)(dI:ry N xss){x y:Int}(h0:0<=x)(h1:x<N)(hr:Reach xss x y):∀i,i<=N->gi (bG N xss i).1 x=gi (bG N xss i).1 y
 | 0,_=>by
  have hy:=hr.range hs h0 h1;simp only [bG,wK h0 h1,wK hy.1 hy.2]
 | i+1,hi=>by
  have hy:=hr.range hs h0 h1;have ih:=Sg hs dI h0 h1 hr i (by omega);have ho:=uJ hs (pt:=(i:Int)) (by omega) (by omega);simp only [bG]
  split
  ·exact ih
  ·simp only;rw [vh _ _ _ (nQ N xss i) ho.1.range x h0,vh _ _ _ (nQ N xss i) ho.1.range y hy.1];have hm:x∈fG N xss i↔y∈fG N xss i:=by
    rw [ho.2.2,ho.2.2];exact⟨fun h=>h.trans hr,fun h=>h.trans (hr.symm hs dI h0 h1)⟩
   by_cases h:x∈fG N xss i
   ·rw [aT h,aT (hm.1 h)]
   ·rw [aR h,aR (fun h'=>h (hm.2 h')),ih]
theorem Sf{N:Nat}{xss:ag}(hs:Sys N xss)(dI:ry N xss){x y:Int}(h0:0<=x)(h1:x<N)(h2:0<=y)(h3:y<N):∀i,i<=N->gi (bG N xss i).1 x=gi (bG N xss i).1 y->0<=gi (bG N xss i).1 x->Reach xss x y
 | 0,_,_,h=>by simp only [bG,wK h0 h1]at h;omega
 | i+1,hi,he,hp=>by
  have ih:=Sf hs dI h0 h1 h2 h3 i (by omega);have ho:=uJ hs (pt:=(i:Int)) (by omega) (by omega);have hc:=uD N xss i;have hx:=(Eb hs dI i (by omega)).1 x h0 h1;have hy:=(Eb hs dI i (by omega)).1 y h2 h3;simp only [bG]at he hp
  split at he
  ·rename_i hl;rw [aT hl]at hp;exact ih he hp
  ·rename_i hl;rw [aR hl]at hp;simp only at he hp;rw [vh _ _ _ (nQ N xss i) ho.1.range x h0]at he hp;rw [vh _ _ _ (nQ N xss i) ho.1.range y h2]at he
   by_cases tc:x∈fG N xss i
   ·rw [aT tc]at he
    by_cases D3:y∈fG N xss i
    ·exact(((ho.2.2 x).1 tc).symm hs dI (by omega) (by omega)).trans ((ho.2.2 y).1 D3)
    ·rw [aR D3]at he;omega
   ·rw [aR tc]at he hp
    by_cases D3:y∈fG N xss i
    ·rw [aT D3]at he;omega
    ·rw [aR D3]at he;exact ih he hp
theorem Xz{xss:ag}{i k:Nat}(hk:k<xss.length)(cS:k≠i):gl xss k∈xss.eraseIdx i:=by
 rw [List.mem_eraseIdx_iff_getElem];exact⟨k,hk,cS,by rw [fm hk]⟩
theorem N9{xss:ag}{i:Nat}(h:p∈xss.eraseIdx i):∃k:Nat,k<xss.length/\k≠i/\p=gl xss k:=by
 rw [List.mem_eraseIdx_iff_getElem]at h;obtain⟨k,hk,cS,rfl⟩:=h;exact⟨k,hk,cS,by rw [fm hk]⟩
theorem wG{xss:ag}(hM:dm xss){i k:Nat}(hk:k<xss.length)(cS:k≠i){f:Int}(h0:0<=f)(h1:f< (gl xss 0).length):gi (cX xss i) (gi (gl xss k) f)=gi (cX xss i) f:=(Sg (hM.2.2.1.sys.erase i) (hM.2.2.1.inj.erase i) h0 h1 (.step .refl (Xz hk cS)) _ (dC _)).symm
theorem Oi{xss:ag}(hM:dm xss){i:Nat}{f g:Int}(h0:0<=f)(h1:f< (gl xss 0).length)(h2:0<=g)(h3:g< (gl xss 0).length)(h:gi (cX xss i) f=gi (cX xss i) g):Reach (xss.eraseIdx i) f g:=by
 obtain⟨k,rfl⟩:∃k:Nat,f=k:=⟨f.toNat,by omega⟩;exact Sf (hM.2.2.1.sys.erase i) (hM.2.2.1.inj.erase i) h0 h1 h2 h3 _ (dC _) h (IA hM i k (by omega)).1
theorem dm.two{xss:ag}(hM:dm xss){k:Nat}(hk:k<xss.length){f:Int}(h0:0<=f)(h1:f< (gl xss 0).length):gi (gl xss k) (gi (gl xss k) f)=f:=by
 obtain⟨q,rfl⟩:∃q:Nat,f=q:=⟨f.toNat,by omega⟩;have hr:=hM.2.2.1.at_ hk;exact(hr.2.2 q (by omega)).2
theorem dm.su{xss:ag}(hM:dm xss){k:Nat}(hk:k<xss.length){f:Int}(h0:0<=f)(h1:f< (gl xss 0).length):0<=gi (gl xss k) f/\gi (gl xss k) f< (gl xss 0).length:=(hM.2.2.1.sys _ (by rw [fm hk];exact fe _)).2 f h0 h1
theorem dm.comm{xss:ag}(hM:dm xss){i k:Nat}(hi:i<xss.length)(hk:k<xss.length)(o0:i+2<=k){f:Int}(h0:0<=f)(h1:f< (gl xss 0).length):gi (gl xss k) (gi (gl xss i) f)=gi (gl xss i) (gi (gl xss k) f):=by
 obtain⟨q,rfl⟩:∃q:Nat,f=q:=⟨f.toNat,by omega⟩;exact(hM.2.2.2.1 i hi k hk o0 q (by omega)).1
theorem Xv{xss:ag}(hM:dm xss)(h2:1<xss.length){f:Int}(h0:0<=f)(h1:f< (gl xss 0).length){g:Int}(hr:Reach (xss.eraseIdx 1) f g):
 (gi (cX xss 0) g=gi (cX xss 0) f/\gi (cX xss 0) (gi (gl xss 0) g)=gi (cX xss 0) (gi (gl xss 0) f))\/(gi (cX xss 0) g=gi (cX xss 0) (gi (gl xss 0) f)/\gi (cX xss 0) (gi (gl xss 0) g)=gi (cX xss 0) f):=by
 induction hr with
 | refl=>exact .inl ⟨rfl,rfl⟩
 | step hr hp ih=>
  rename_i y p;have hy:=Reach.range (hM.2.2.1.sys.erase 1) h0 h1 hr;obtain⟨k,hk,fA,rfl⟩:=N9 hp;have hL:0<xss.length:=by omega
  by_cases mZ:k=0
  ·subst mZ;have e:=hM.two hL hy.1 hy.2;have e:gi (gl xss ((0:Nat):Int)) (gi (gl xss ((0:Nat):Int)) y)=y:=e;simp only [Int.natCast_zero]at e|-;rw [e];rcases ih with⟨a,b⟩ | ⟨a,b⟩
   ·exact .inr ⟨b,a⟩
   ·exact .inl ⟨b,a⟩
  ·have e:=hM.comm hL hk (by omega) hy.1 hy.2;have OM:=hM.su hL hy.1 hy.2;have v1:=wG hM hk mZ hy.1 hy.2;have v2:=wG hM hk mZ OM.1 OM.2;rw [e]at v2;simp only [Int.natCast_zero]at v2;rw [v1,v2];exact ih
def LT(a b:ah):Prop:=uE a b<0
instance (a b:ah):Decidable (LT a b):=by unfold LT;infer_instance
theorem LT.ne{a b:ah}(h:LT a b):a≠b:=fun e=>by
 unfold LT at h;rw [Sk.2 e]at h;omega
def SL(l:ag):Prop:=l.Pairwise LT
theorem SL.nodup{l:ag}(h:SL l):l.Nodup:=h.imp fun h=>h.ne
def Ins(a b:ah):Prop:=∀x∈a,x∈b
instance (a b:ah):Decidable (Ins a b):=by unfold Ins;infer_instance
def Lz:ah->Nat->ag
 | _,0=> [[]]
 | [],_+1=> []
 | x::r,k+1=> (Lz r k).map (x:: ·)++Lz r (k+1)
theorem MF{a b:ah}:LT (x::a) (y::b)↔x<y\/x=y/\LT a b:=by
 unfold LT;rw [uE]
 by_cases e:x=y
 ·subst e;rw [aT (Fa.2 rfl)];constructor
  ·exact fun h=> .inr ⟨O,h⟩
  rintro(h | h)
  ·omega
  exact h.2
 rw [aR (fun h=>e (Fa.1 h)),WX];constructor
 ·exact fun h=> .inl h
 rintro(h | h)
 ·exact h
 exact absurd h.1 e
def MH(ls:ag)(x:ah):Prop:=x∈ls/\x≠[]/\∀y∈ls,Ins x y->y=x
instance (ls:ag)(x:ah):Decidable (MH ls x):=by unfold MH;infer_instance
def HQ(x:ah):ag->Nat
 | []=>0
 | y::l=>if LT y x then HQ x l+1 else 0
def S0(l:ag)(x:ah):ag:=if x∈l then l else l.take (HQ x l)++x::l.drop (HQ x l)
def S2(ls:ag):ag:=(ls.filter fun l=>decide (l≠[])).foldl S0 []
def XE(ls:ag):ag:=(S2 ls).filter fun x=>decide (∀y∈S2 ls,Ins x y->y=x)
def ix(s:ah)(x:Int):Int:=(s.idxOf x:Nat)
def Xf(ss:ag):ah:=cs ss.flatten
def Mu(ss:ag):Prop:=(∃l∈ss,6<l.length)\/60< (Xf ss).length\/400< (XE ss).length
instance (ss:ag):Decidable (Mu ss):=by unfold Mu;infer_instance
structure Uq(V:Int)(F:ag):Prop where
 v:0<=V/\V<=60
 f:F.length<=400
 row:∀l∈F,(1<=l.length/\l.length<=6)/\SA l/\∀x∈l,0<=x/\x<V
 ord:SL F
 all:∀x:Int,0<=x->x<V->∃l∈F,x∈l
 top:∀l∈F,∀m∈F,Ins l m->m=l
def dL(n:Nat):ah:=(List.range n).map fun k:Nat=> (k:Int)
theorem LK(n:Nat):(dL n).length=n:=by simp [dL]
theorem zq(n:Nat)(x:Int):x∈dL n↔0<=x/\x<n:=by
 simp only [dL,eh,nu];exact⟨fun⟨k,hk,e⟩=>by omega,fun h=> ⟨x.toNat,by omega,by omega⟩⟩
theorem vT(n:Nat):SA (dL n):=by
 unfold SA dL;rw [List.pairwise_map];exact List.pairwise_lt_range.imp fun h=>by omega
theorem Fq(x:Int)(l:ah)(i:Nat):gi (x::l) ((i+1:Nat):Int)=gi l (i:Nat):=by simp [gi]
theorem SA.uF{l:ah}(h:SA l){i:Nat}(pO:i<j)(hj:j<l.length):gi l i<gi l j:=by
 rw [bX (by omega),bX hj];exact List.pairwise_iff_getElem.1 h i j (by omega) hj pO
def kJ(R:ah)(B:ag)(e:Int):ah:=(dL R.length).filter fun f=>decide (gi R f=gi R e+1/\e∈gl B f)
theorem sD{B:ag}{e f:Int}:f∈kJ R B e↔(0<=f/\f<R.length)/\gi R f=gi R e+1/\e∈gl B f:=by
 unfold kJ;rw [ja,zq,nB]
theorem Hc(R:ah)(B:ag)(e:Int):SA (kJ R B e):=tG _ (vT _)
def oW(R:ah)(B:ag):Nat->Int->ag
 | 0,_=> [[]]
 | k+1,e=> (kJ R B e).flatMap fun f=> (oW R B k f).map (f:: ·)
def wC(R:ah):ah:=(dL R.length).filter fun e=>decide (gi R e=0)
theorem CR{e:Int}:e∈wC R↔(0<=e/\e<R.length)/\gi R e=0:=by
 unfold wC;rw [ja,zq,nB]
def gy(n:Nat)(R:ah)(B:ag):ag:=(wC R).flatMap fun e=> (oW R B (n - 1) e).map (e:: ·)
def fD(n:Nat)(R:ah)(B:ag)(e:Int):Prop:=oW R B (n - 1 - (gi R e).toNat) e≠[]
instance (n:Nat)(R:ah)(B:ag)(e:Int):Decidable (fD n R B e):=by unfold fD;infer_instance
theorem VT{n:Nat}{B:ag}{e:Int}(h:gi R e=(n:Int) - 1):fD n R B e:=by
 unfold fD;rw [show n - 1 - (gi R e).toNat=0 by omega];simp [oW]
theorem M5{n:Nat}{B:ag}{e:Int}(h0:0<=gi R e)(h1:gi R e< (n:Int) - 1):fD n R B e↔∃f∈kJ R B e,fD n R B f:=by
 obtain⟨k,hk⟩:∃k,n - 1 - (gi R e).toNat=k+1:=⟨n - 1 - (gi R e).toNat - 1,by omega⟩;have hf:∀f∈kJ R B e,n - 1 - (gi R f).toNat=k:=fun f hf=>by
  have:=(sD.1 hf).2.1;omega
 unfold fD;rw [hk,oW];constructor
 ·intro h;obtain⟨x,hx⟩:=List.exists_mem_of_ne_nil _ h;obtain⟨f,yM,hx⟩:=List.mem_flatMap.1 hx;obtain⟨y,hy,_⟩:=eh.1 hx;exact⟨f,yM,by rw [hf f yM];exact List.ne_nil_of_mem hy⟩
 rintro⟨f,yM,h⟩;rw [hf f yM]at h;obtain⟨y,hy⟩:=List.exists_mem_of_ne_nil _ h;exact List.ne_nil_of_mem (List.mem_flatMap.2 ⟨f,yM,eh.2 ⟨y,hy,O⟩⟩)
theorem IE{α β:Type}{p:α->Bool}{g:α->List β}:∀ {l:List α},(∀x∈l,p x=false->g x=[])->(l.filter p).flatMap g=l.flatMap g
 | [],_=>rfl
 | a::r,h=>by
  have ih:=IE (p:=p) (g:=g) (l:=r) fun x hx=>h x (eb _ hx)
  cases hp:p a with
  | true=>rw [List.filter_cons_of_pos hp,List.flatMap_cons,List.flatMap_cons,ih]
  | false=>rw [List.filter_cons_of_neg (by simp [hp]),List.flatMap_cons,ih,h a (by simp) hp];rfl
theorem ag3{n:Nat}{B:ag}{e:Int}{k:Nat}(h0:0<=gi R e)(hk:(gi R e).toNat+ (k+1)=n - 1):oW R B (k+1) e=((kJ R B e).filter fun f=>decide (fD n R B f)).flatMap fun f=> (oW R B k f).map (f:: ·):=by
 rw [oW,IE];intro f hf h;have h2:=(sD.1 hf).2.1;have h3:¬fD n R B f:=by simpa using h
 unfold fD at h3;rw [show n - 1 - (gi R f).toNat=k by omega]at h3;rw [mM.1 h3];rfl
theorem Wx{n:Nat}{B:ag}:gy n R B=((wC R).filter fun f=>decide (fD n R B f)).flatMap fun e=> (oW R B (n - 1) e).map (e:: ·):=by
 rw [gy,IE];intro f hf h;have h2:=(CR.1 hf).2;have h3:¬fD n R B f:=by simpa using h
 unfold fD at h3;rw [h2]at h3;rw [show n - 1 - (0:Int).toNat=n - 1 by rfl]at h3;rw [mM.1 h3];rfl
def cap(l:ag):ag:=l.take 401
theorem ND(l:ag):(cap l).length<=401:=by unfold cap;rw [List.length_take];omega
theorem NC{l:ag}(m:ag)(h:400< (cap l).length):cap (l++m)=cap l:=by
 unfold cap at h|-;rw [nt]at h;rw [zF (by omega)]
theorem NA{l:ag}(h:(cap l).length<=400):cap l=l:=by
 unfold cap at h|-;rw [nt]at h;exact kA (by omega)
theorem NB{l:ag}:(cap l).length<=400↔l.length<=400:=by
 unfold cap;rw [nt];omega
theorem WR{l:ag}(x:ah)(h:(cap l).length<=400):cap (l++ [x])=cap l++ [x]:=by
 rw [NA h];rw [NB]at h;unfold cap;exact kA (by rw [dh,List.length_singleton];omega)
def Cp(R:ah)(B:ag):Int->ah->Prop
 | _,[]=>True
 | e,f::r=>f∈kJ R B e/\Cp R B f r
theorem Fh{R:ah}{B:ag}:∀ {k:Nat} {e:Int} {x:ah},x∈oW R B k e↔x.length=k/\Cp R B e x
 | 0,e,x=>by
  rw [oW,dK];constructor
  ·rintro rfl;exact⟨rfl,aw⟩
  ·exact fun h=>lg h.1
 | k+1,e,x=>by
  rw [oW,List.mem_flatMap];constructor
  ·rintro⟨f,hf,h⟩;obtain⟨y,hy,rfl⟩:=eh.1 h;obtain⟨h1,h2⟩:=Fh.1 hy;exact⟨by rw [List.length_cons,h1],hf,h2⟩
  ·rintro⟨h1,h2⟩
   match x,h1,h2 with
   | f::r,h1,⟨h2,h3⟩=>exact⟨f,h2,eh.2 ⟨r,Fh.2 ⟨by simpa using h1,h3⟩,rfl⟩⟩
theorem Hn{R:ah}{B:ag}:∀ {x:ah} {e:Int},Cp R B e x↔∀i:Nat,i<x.length->gi (e::x) ((i+1:Nat):Int)∈kJ R B (gi (e::x) i)
 | [],e=>by simp [Cp]
 | f::r,e=>by
  rw [Cp,Hn (x:=r) (e:=f)];constructor
  ·rintro⟨h1,h2⟩ i hi
   match i with
   | 0=>exact h1
   | i+1=>
    rw [Fq,Fq];exact h2 i (by simpa using hi)
  ·intro h;refine⟨h 0 (by simp),fun i hi=>?_⟩;have:=h (i+1) (by simpa using hi)
   rwa [Fq,Fq]at this
theorem XM{n:Nat}(hn:1<=n){B:ag}{x:ah}:x∈gy n R B↔x.length=n/\(∀i:Nat,i<n->(0<=gi x i/\gi x i<R.length)/\gi R (gi x i)=i)/\∀i:Nat,i+1<n->gi x i∈gl B (gi x ((i+1:Nat):Int)):=by
 unfold gy;rw [List.mem_flatMap];constructor
 ·rintro⟨e,he,h⟩;obtain⟨y,hy,rfl⟩:=eh.1 h;obtain⟨h1,h2⟩:=Fh.1 hy;obtain⟨h3,h4⟩:=CR.1 he;rw [Hn]at h2;have key:∀i:Nat,i<n->(0<=gi (e::y) i/\gi (e::y) i<R.length)/\gi R (gi (e::y) i)=i:=by
   intro i
   induction i with
   | zero=>intro _;exact⟨h3,h4⟩
   | succ i ih=>
    intro hi;have h5:=sD.1 (h2 i (by omega));have h6:=ih (by omega);exact⟨h5.1,by rw [h5.2.1,h6.2];omega⟩
  exact⟨by rw [List.length_cons,h1];omega,key,fun i hi=> (sD.1 (h2 i (by omega))).2.2⟩
 ·rintro⟨h1,h2,h3⟩
  match x,h1,h2,h3 with
  | [],h1,_,_=>simp at h1;omega
  | e::y,h1,h2,h3=>
   rw [List.length_cons]at h1;refine⟨e,CR.2 (h2 0 (by omega)),eh.2 ⟨y,Fh.2 ⟨by omega,Hn.2 fun i hi=>?_⟩,O⟩⟩;have h4:=h2 (i+1) (by omega);have h5:=h2 i (by omega);exact sD.2 ⟨h4.1,by rw [h4.2,h5.2];omega,h3 i (by omega)⟩
theorem HE{g:Int->ag}(hg:∀f,SL (g f)):∀ {l:ah},SA l->SL (l.flatMap fun f=> (g f).map (f:: ·))
 | [],_=>List.Pairwise.nil
 | a::l,h=>by
  obtain⟨h1,h2⟩:=List.pairwise_cons.1 h;rw [List.flatMap_cons,SL,List.pairwise_append];refine⟨List.pairwise_map.2 ((hg a).imp fun h=>MF.2 (.inr ⟨O,h⟩)),HE hg h2,fun x hx y hy=>?_⟩;obtain⟨u,_,rfl⟩:=eh.1 hx;obtain⟨b,hb,hy⟩:=List.mem_flatMap.1 hy;obtain⟨v,_,rfl⟩:=eh.1 hy;exact MF.2 (.inl (h1 b hb))
theorem Of(R:ah)(B:ag):∀(k:Nat) (e:Int),SL (oW R B k e)
 | 0,_=>by simp [oW,SL]
 | k+1,e=>HE (Of R B k) (Hc R B e)
theorem XK(n:Nat)(R:ah)(B:ag):SL (gy n R B):=HE (Of R B (n - 1)) (tG _ (vT _))
structure eV(n:Int)(R:ah)(B:ag):Prop where
 n1:1<=n/\n<=5
 od:R.length<=500
 len:B.length=R.length
 lH:∀x∈R,0<=x/\x<=n - 1
 mj:lK R
 row:∀e:Nat,e<R.length->SA (gl B e)/\∀d∈gl B e,(0<=d/\d<R.length)/\gi R d<gi R e
 tr:∀e:Nat,e<R.length->∀d∈gl B e,∀c∈gl B d,c∈gl B e
theorem lK.le(h:lK R){i:Nat}(pO:i<=j)(hj:j<R.length):gi R i<=gi R j:=by
 rcases Nat.lt_or_eq_of_le pO with h1 | rfl
 ·rw [bX (by omega),bX hj];exact List.pairwise_iff_getElem.1 h i j (by omega) hj h1
 exact Int.le_refl _
theorem eV.at_{n:Int}{B:ag}(h:eV n R B){e:Int}(h0:0<=e)(h1:e<R.length):SA (gl B e)/\(∀d∈gl B e,(0<=d/\d<e)/\gi R d<gi R e)/\∀d∈gl B e,∀c∈gl B d,c∈gl B e:=by
 obtain⟨k,rfl⟩:∃k:Nat,e=k:=⟨e.toNat,by omega⟩;have hr:=h.row k (by omega);refine⟨hr.1,fun d hd=>?_,h.tr k (by omega)⟩;have h2:=hr.2 d hd;obtain⟨j,rfl⟩:∃j:Nat,d=j:=⟨d.toNat,by omega⟩;refine⟨⟨by omega,?_⟩,h2.2⟩;refine Int.not_le.1 fun hle=>?_
 have:=h.mj.le (i:=k) (j:=j) (by omega) (by omega);omega
theorem eV.ri{n:Int}{B:ag}(h:eV n R B){e:Int}(h0:0<=e)(h1:e<R.length):0<=gi R e/\gi R e<=n - 1:=by
 obtain⟨k,rfl⟩:∃k:Nat,e=k:=⟨e.toNat,by omega⟩;exact h.lH _ (gi_in (by omega))
def a7(M:ag):Nat->Nat
 | 0=>0
 | i+1=>a7 M i+ (fE M i).toNat
def cq(M:ag):Nat->ah
 | 0=> []
 | i+1=>cq M i++List.replicate (fE M i).toNat (i:Int)
theorem tT(M:ag):∀i,(cq M i).length=a7 M i
 | 0=>rfl
 | i+1=>by rw [cq,dh,tT M i,List.length_replicate];rfl
def cn(M:ag)(i:Nat)(f:Nat):Int:=(a7 M i:Int)+gi (cX M i) f
theorem jU(M:ag){i:Nat}(h:i<=j):a7 M i<=a7 M j:=by
 induction h with
 | refl=>exact dC _
 | step _ ih=>exact iS ih (by show _<=a7 M _+_;omega)
theorem qK(hM:dm M){i f:Nat}(hf:f< (gl M 0).length):(a7 M i:Int)<=cn M i f/\cn M i f< (a7 M (i+1):Int):=by
 have h1:=IA hM i f hf;unfold cn;show _/\_< ((a7 M i+ (fE M i).toNat:Nat):Int);omega
theorem wI{n:Nat}:∀ {i:Nat},i<n->∀ {e:Int},(a7 M i:Int)<=e->e< (a7 M (i+1):Int)->gi (cq M n) e=i:=by
 induction n with
 | zero=>intro i hi;omega
 | succ n ih=>
  intro i hi e h0 h1;obtain⟨k,rfl⟩:∃k:Nat,e=k:=⟨e.toNat,by omega⟩;have hl:=tT M n
  by_cases h:i=n
  ·subst h;rw [cq,gi,dt,jW (by rw [hl];omega),List.getElem?_replicate,aT]
   ·rfl
   ·have:a7 M (i+1)=a7 M i+ (fE M i).toNat:=O;rw [hl];omega
  ·have h3:=jU M (show i+1<=n by omega);have h2:=ih (show i<n by omega) h0 h1;rw [cq,gi,dt,lh (by rw [hl];omega),<-dt];exact h2
theorem Oz{n:Nat}{e:Int}(h0:0<=e)(h1:e< (a7 M n:Int)):∃i,i<n/\(a7 M i:Int)<=e/\e< (a7 M (i+1):Int):=by
 induction n with
 | zero=>have:a7 M 0=0:=rfl;omega
 | succ n ih=>
  by_cases h:e< (a7 M n:Int)
  ·obtain⟨i,hi,h2⟩:=ih h;exact⟨i,by omega,h2⟩
  ·exact⟨n,by omega,by omega,h1⟩
theorem IH(M:ag):∀n,lK (cq M n)/\∀x∈cq M n,0<=x/\x< (n:Int)
 | 0=> ⟨List.Pairwise.nil,fun x hx=>by cases hx⟩
 | n+1=>by
  obtain⟨h1,h2⟩:=IH M n;refine⟨?_,fun x hx=>?_⟩
  ·rw [cq,lK,List.pairwise_append];refine⟨h1,List.pairwise_replicate.2 (.inr (Int.le_refl _)),fun x hx y hy=>?_⟩;have:=h2 x hx;have:=(List.mem_replicate.1 hy).2;omega
  ·rw [cq]at hx;rcases eD.1 hx with h | h
   ·have:=h2 x h;omega
   ·have:=(List.mem_replicate.1 h).2;omega
def sF(M:ag)(d e:Int):Prop:=∃f:Nat,f< (gl M 0).length/\∃i:Nat,i<M.length/\∃k:Nat,k<i/\e=cn M i f/\d=cn M k f
open Classical in
noncomputable def b6(M:ag):ag:=(dL (a7 M M.length)).map fun e=> (dL (a7 M M.length)).filter fun d=>decide (sF M d e)
theorem pH(M:ag):(b6 M).length=a7 M M.length:=by simp [b6,dL]
theorem pG{e:Int}(h0:0<=e)(h1:e< (a7 M M.length:Int))(d:Int):d∈gl (b6 M) e↔(0<=d/\d< (a7 M M.length:Int))/\sF M d e:=by
 obtain⟨k,rfl⟩:∃k:Nat,e=k:=⟨e.toNat,by omega⟩;rw [fm (by rw [pH];omega)];unfold b6;rw [List.getElem_map,ja,zq];have:(dL (a7 M M.length))[k]'(by rw [LK];omega)=(k:Int):=by simp [dL]
 rw [this];exact and_congr Iff.rfl (by simp)
theorem sF.lH(hM:dm M){d e:Int}(h:sF M d e):(0<=d/\d< (a7 M M.length:Int))/\(0<=e/\e< (a7 M M.length:Int))/\gi (cq M M.length) d<gi (cq M M.length) e:=by
 obtain⟨f,hf,i,hi,k,hk,rfl,rfl⟩:=h;have h1:=qK hM (i:=i) hf;have h2:=qK hM (i:=k) hf;have h3:=jU M (show i+1<=M.length by omega);have h4:=jU M (show k+1<=M.length by omega);refine⟨by omega,by omega,?_⟩;rw [wI hi h1.1 h1.2,wI (show k<M.length by omega) h2.1 h2.2];omega
theorem TI(h:p∈M.take j):∃k:Nat,k<j/\k<M.length/\p=gl M k:=by
 obtain⟨k,hk,rfl⟩:=gj.1 h;rw [nt]at hk;exact⟨k,by omega,by omega,by rw [List.getElem_take,fm (by omega)]⟩
theorem Sm(hM:dm M)(j:Nat):Sys (gl M 0).length (M.take j):=fun p hp=>hM.2.2.1.sys p (List.mem_of_mem_take hp)
theorem aet(hM:dm M)(h0:0<=y)(h1:y< (gl M 0).length)(h:Reach (M.take j) y u):∀i:Nat,j<=i->gi (cX M i) u=gi (cX M i) y:=by
 induction h with
 | refl=>exact fun _ _=>rfl
 | step h hp ih=>
  intro i hi;have hr:=h.range (Sm hM j) h0 h1;obtain⟨k,Qz,hk,rfl⟩:=TI hp;rw [wG hM hk (by omega) hr.1 hr.2,ih i hi]
theorem aes(hM:dm M){k:Nat}(F5:j<k)(hk:k<M.length)(h0:0<=y)(h1:y< (gl M 0).length)(h:Reach (M.take j) y u):Reach (M.take j) (gi (gl M k) y) (gi (gl M k) u):=by
 induction h with
 | refl=>exact .refl
 | step h hp ih=>
  have hr:=h.range (Sm hM j) h0 h1;obtain⟨i,pO,hi,rfl⟩:=TI hp;rw [hM.comm hi hk (by omega) hr.1 hr.2];exact .step ih hp
theorem agh(hM:dm M){f:Int}(h0:0<=f)(h1:f< (gl M 0).length){g:Int}(h:Reach (M.eraseIdx j) f g):
 ∃u:Int,(0<=u/\u< (gl M 0).length)/\(∀i:Nat,i<=j->gi (cX M i) u=gi (cX M i) f)/\∀i:Nat,j<=i->gi (cX M i) u=gi (cX M i) g:=by
 have key:∃u:Int,(0<=u/\u< (gl M 0).length)/\(∀i:Nat,i<=j->gi (cX M i) u=gi (cX M i) f)/\Reach (M.take j) g u:=by
  induction h with
  | refl=>exact⟨f,⟨h0,h1⟩,fun _ _=>rfl,.refl⟩
  | step h hp ih=>
   rename_i y p;obtain⟨u,hu,fB,hr⟩:=ih;have ra:=h.range (hM.2.2.1.sys.erase j) h0 h1;obtain⟨k,hk,Qz,rfl⟩:=N9 hp;rcases Nat.lt_or_gt_of_ne Qz with eL | F3
   ·refine⟨u,hu,fB,?_⟩;have hm:gl M k∈M.take j:=by
     rw [gj];exact⟨k,by rw [nt];omega,by rw [List.getElem_take,fm hk]⟩
    have h2:Reach (M.take j) (gi (gl M k) y) (gi (gl M k) (gi (gl M k) y)):= .step .refl hm;rw [hM.two hk ra.1 ra.2]at h2;exact h2.trans hr
   ·refine⟨gi (gl M k) u,hM.su hk hu.1 hu.2,fun i hi=>?_,aes hM F3 hk ra.1 ra.2 hr⟩;rw [wG hM hk (by omega) hu.1 hu.2,fB i hi]
 obtain⟨u,hu,fB,hr⟩:=key;have hg:=h.range (hM.2.2.1.sys.erase j) h0 h1;exact⟨u,hu,fB,aet hM hg.1 hg.2 hr⟩
theorem sF.trans(hM:dm M){c d e:Int}(h:sF M c d)(h':sF M d e):sF M c e:=by
 obtain⟨f,hf,j,hj,k,hk,rfl,rfl⟩:=h;obtain⟨g,hg,i,hi,l,hl,rfl,e2⟩:=h';have h1:=qK hM (i:=j) hf;have h2:=qK hM (i:=l) hg;have nG:j=l:=by
  rcases Nat.lt_trichotomy j l with h | h | h
  ·have:=jU M (show j+1<=l by omega);omega
  ·exact h
  have:=jU M (show l+1<=j by omega);omega
 subst nG;have e3:gi (cX M j) f=gi (cX M j) g:=by unfold cn at e2;omega
 obtain⟨u,hu,fB,ea⟩:=agh hM (j:=j) (f:=(f:Int)) (by omega) (by omega) (Oi hM (by omega) (by omega) (by omega) (by omega) e3);refine⟨u.toNat,by omega,i,hi,k,by omega,?_,?_⟩
 ·unfold cn;rw [Int.toNat_of_nonneg hu.1,ea i (by omega)]
 unfold cn;rw [Int.toNat_of_nonneg hu.1,fB k (by omega)]
theorem Fo(hM:dm M)(hb:a7 M M.length<=500):eV M.length (cq M M.length) (b6 M):=by
 have h1:=hM.1;have hl:=tT M M.length;obtain⟨ha,hr⟩:=IH M M.length;refine⟨by omega,by omega,by rw [pH,hl],fun x hx=>?_,ha,fun e he=> ⟨?_,fun d hd=>?_⟩,fun e he d hd c hc=>?_⟩
 ·have:=hr x hx;omega
 ·rw [fm (by rw [pH];omega)];unfold b6;rw [List.getElem_map];exact tG _ (vT _)
 ·rw [pG (by omega) (by omega)]at hd;have:=hd.2.lH hM;exact⟨by omega,this.2.2⟩
 rw [pG (by omega) (by omega)]at hd|-;rw [pG (by omega) (by omega)]at hc;exact⟨hc.1,hc.2.trans hM hd.2⟩
end
section
open Go.RowKit
section
variable {P:Program} {N:Nat} {ops:Array Oper} {K:Env->aa->Prop} {rest:List Oper} {e:Env} {w:aa} {d:Nat} {ty:ad} {pos:String} {af:Array Edge} {x y:ae} {xt yt:ad} {i:Int}
theorem Vj{k:IntKind}(hx:ev e x= .int .u64 i)(hy:ev e y= .int k 1)(hb:Nat.blt d N=true)(h0:0<=i)(hK:ak P N ops K rest (bC e d (.int .u64 (i / 2))) w):
 ak P N ops K (⟨some d,.binOp .shr xt x y yt,ty,pos,af,none⟩::rest) e w:=by
 refine .val (v:= .int .u64 (i / 2)) ?_ hb hK;have e1:min 1 IntKind.u64.bits=1:=by decide
 have e2:i.fdiv 2=i / 2:=Int.fdiv_eq_ediv_of_nonneg _ (by decide);simp [execOp,hx,hy,eqGuard,binOp,Op.shift,e1,e2]
end
section
variable {w:aa} {e:Env}
theorem LH{R:ab->aa->Prop}{t u:Nat}{b:Bool}{k:IntKind}{i:Int}(h:e t= .int k i)(h2:e u= .bool b)(hR:R (.tuple #[.int k i,.bool b]) w):B5 t u R .ret e w:=by show R (.tuple #[e t,e u]) w;rw [h,h2];exact hR
end
theorem W0(x:Int)(w:aa):aG prog 212 [aj x] w (fun v w'=>v= .bool (decide (¬x=x))/\w'=w):=by
 refine bw func212 O ntmps212 O (b7 O) (MA O (ck O ?_));exact⟨O,O⟩
theorem NG(x y:Int)(w:aa):aG prog 173 [aj x,aj y] w (fun v w'=>v= .bool (decide (x<y))/\w'=w):=by
 refine bw func173 O ntmps173 O (b7 O) (bb O (aF (W0 x w) O ?_));rintro _ _ ⟨rfl,rfl⟩;refine aq O (cz 7 O (fun h=>absurd O h) (fun _=>?_));refine ay O (ay O (ay O (aq O (au O (aq O (au O (aq O (au O (bD O ?_)))))))));exact ck O ⟨O,O⟩
theorem agb(x:Int)(w:aa):aG prog 174 [aj x] w (fun v w'=>v= .bool (decide (¬x=x))/\w'=w):=by
 refine bw func174 O ntmps174 O (b7 O) (MA O (ck O ?_));exact⟨O,O⟩
theorem HT(A:ai)(n c:Nat)(xs:ah)(x:Int)(w:aa)(hR:bt w A n xs)(hs:SA xs)(hn:n<=1000000000):
 aG prog 128 [.slice A n c,aj x] w (fun v w'=> (∃k:Int,v= .tuple #[aj k,.bool (decide (x∈xs))])/\w'=w):=by
 have di:=hR.1;refine bw func128 O ntmps128 O (oF O) ?_;refine bb O (ba O O (az O ?_));refine Cd.loop (α:=Nat×Nat) (fun z=> [(0,.slice A n c),(1,aj x),(6,aj n),(7,aj (z.1:Int)),(8,aj (z.2:Int))]) (fun z w'=>w'=w/\z.1<=z.2/\z.2<=n/\(∀p:Nat,p<z.1->gi xs p<x)/\∀p:Nat,z.2<=p->p<n->x<=gi xs p) (fun z=>z.2 - z.1) (0,n) (ajz O) ⟨O,bu _,dC _,fun p hp=>absurd hp (mg _),fun p hp gA=>by have hp:n<=p:=hp;omega⟩ ?_;rintro⟨i,j⟩ e w ⟨rfl,pO,s4,fB,ea⟩;dsimp only at pO s4 fB ea|-;refine b8 O (aM _ O (fun h1=>?_) (fun h1=>?_))
 ·refine aD O (aK O ?_);refine lV O O (nX _ (by omega)) (Vj O O O (by omega) (lV O O (IntWalk.i64_in _ (by omega)) ?_));obtain⟨h,hh⟩:∃h:Nat,h=(i+j) / 2:=⟨_,rfl⟩;rw [show((i:Int)+ (j:Int)) / 2=(h:Int) by omega];refine aq O (aA hR.2 O (aY hR O (aq O (aF (NG _ _ _) O ?_))));rintro _ _ ⟨rfl,rfl⟩;refine az O (aM _ O (fun h2=>?_) (fun h2=>?_))
  ·refine aD O (aK O (aS O (tQ ?_)));refine⟨(h+1,j),by show j - (h+1)<j - i;omega,(ajz O),O,by show h+1<=j;omega,s4,fun p hp=>?_,ea⟩;have hp:p<h+1:=hp
   by_cases e:p=h
   ·subst e;exact h2
   have:=hs.uF (show p<h by omega) (by omega);omega
  refine mN O (tQ ?_);refine⟨(i,h),by show h - i<j - i;omega,(ajz O),O,by show i<=h;omega,by show h<=n;omega,fB,fun p hp gA=>?_⟩;have hp:h<=p:=hp
  by_cases e:p=h
  ·subst e;omega
  have:=hs.uF (show h<p by omega) (by omega);omega
 obtain rfl:i=j:=by omega
 have gE:∀p:Nat,p<n->gi xs p=x->p=i:=fun p hp hx=>by
  rcases Nat.lt_trichotomy p i with h | h | h
  ·have:=fB p h;omega
  ·exact h
  have h3:=hs.uF h (by omega);have h4:=ea i (dC _) (by omega);omega
 have gp:x∈xs↔i<n/\gi xs i=x:=by
  constructor
  ·intro hm;obtain⟨p,hp,e⟩:=gj.1 hm;have e2:gi xs p=x:=by rw [bX hp];exact e
   have:=gE p (by omega) e2;subst this;exact⟨by omega,e2⟩
  rintro⟨h2,h3⟩;rw [<-h3];exact gi_in (by omega)
 refine bo O (bn (cJ O ?_));refine cz 35 O (fun h2=>?_) (fun h2=>?_)
 ·refine au O (aq O (au O (aq O (au O ?_))));refine aA hR.2 O (au O (aY hR O ?_));refine au O (aq O (au O (aq O (au O (aq O ?_)))));refine cz 42 O (fun h3=>?_) (fun h3=>?_)
  ·refine ay O (ay O (ay O (ay O (ay O (ay O (iA O O O O (iA O O O O (ay O (au O (bD O ?_))))))))));refine LH O O ?_;exact⟨⟨_,by rw [eC (gp.2 ⟨by omega,h3⟩)]⟩,O⟩
  refine au O (aq O (au O (aq O (au O ?_))));refine aA hR.2 O (au O (aY hR O (au O (aF (agb _ _) O ?_))));rintro _ _ ⟨rfl,rfl⟩;refine au O (aq O ?_);refine cz 48 O (fun h=>absurd O h) (fun _=>?_);refine ay O (ay O (au O (aq O (au O (bD O ?_)))));refine LH O O ?_;exact⟨⟨_,by rw [cM (fun h=>h3 (gp.1 h).2)]⟩,O⟩
 refine ay O (ay O (ay O (ay O (ay O (ay O (ay O (iA O O O O (iA O O O O (iA O O O O (iA O O O O (iA O O O O ?_)))))))))));refine iA O O O O (iA O O O O (iA O O O O (iA O O O O (ay O (bD O ?_)))));refine LH O O ?_;exact⟨⟨_,by rw [cM (fun h=>by have:=(gp.1 h).1;omega)]⟩,O⟩
theorem acH(P A D:ai)(cA r cD:Nat)(n:Int)(N:Nat)(rs:List aX)(B:ag)(e f:Int)(w:aa)(hP:Rd w P 3 (fun j=> [Value.int .i64 n,.slice A r cA,.slice D N cD].getD j undef))(hB:bL w D N rs B)(kh:B.length=N)(hf:0<=f/\f<N)(hs:SA (gl B f))(hl:(gl B f).length<=1000000):
 aG prog 130 [.pointer P,aj e,aj f] w (fun v w'=>v= .bool (decide (e∈gl B f))/\w'=w):=by
 have bM:=hB.at_ (i:=f) hf.1 hf.2;have jG:=bM.1;refine bw func130 O ntmps130 O (b7 O) (bb O ?_);refine ik hP (by decide) O O (aI hP O (aV hP O (aq O (aA hB.top.2 O (bQ hB.top O (aq O (aF (HT _ _ _ (gl B f) e w bM hs (by omega)) O ?_)))))));rintro _ _ ⟨⟨k,rfl⟩,rfl⟩;refine bD O (ck O ?_);exact⟨O,O⟩
theorem td(P A D:ai)(cA cD:Nat)(n:Int)(R:ah)(rs:List aX)(B:ag)(e f:Int)(w:aa)(hP:Rd w P 3 (fun j=> [Value.int .i64 n,.slice A R.length cA,.slice D B.length cD].getD j undef))(hB:bL w D B.length rs B)(hf:0<=f/\f<B.length)(hs:SA (gl B f))(hl:(gl B f).length<=1000000):
 aG prog 130 [.pointer P,aj e,aj f] w (fun v w'=>v= .bool (decide (e∈gl B f))/\w'=w):=
 acH P A D cA R.length cD n B.length rs B e f w hP hB rfl hf hs hl
theorem Lh{t1 t2:ad}{A:ai}{n c:Nat}{rs:List aX}{xss:ag}{ks:List Ck}{q:Ck}{i:Nat}(s:aX)(xs:ah)(hr:rs.length=xss.length)(hi:i<rs.length):(q::(aU t1 t2 A n c rs xss++ks)).set (2+i) (ar t2 s.a s.n s.c xs)=q::(br t1 A n c rs::(bF t2 (rs.set i s) (xss.set i xs)++ks)):=by
 rw [show 2+i=i+1+1 by omega,List.set_cons_succ];show _::(br t1 A n c rs::(bF t2 rs xss++ks)).set (i+1) _=_;rw [List.set_cons_succ,List.set_append_left _ _ (by rw [tq hr];exact hi),G1 hr]
def jw(M:ag)(i f:Nat):ag:=(List.range (gl M 0).length).map fun g=> (List.range (if g<f then i+1 else i)).map fun k=>cn M k g
def nC(M:ag):ag:=(List.range (gl M 0).length).map fun g=> (List.range M.length).map fun k=>cn M k g
theorem Fm(M:ag)(i f:Nat):(jw M i f).length=(gl M 0).length:=by simp [jw]
theorem XZ(M:ag)(f:Nat)(h:f=0):jw M 0 f=List.replicate (gl M 0).length []:=by
 subst h;apply jV (by simp [jw]);intro i h1 h2;simp [jw]
theorem XX(M:ag)(i:Nat):jw M i (gl M 0).length=jw M (i+1) 0:=by
 unfold jw;refine pw fun g hg=>?_
 rw [aT (nu.1 hg),aR (mg _)]
theorem XW(M:ag):jw M M.length 0=nC M:=by
 unfold jw nC;exact pw fun g _=>by rw [aR (mg _)]
theorem Fl{M:ag}{i f g:Nat}(hg:g< (gl M 0).length):gl (jw M i f) g=(List.range (if g<f then i+1 else i)).map fun k=>cn M k g:=by
 rw [fm (by rw [Fm];exact hg)];simp [jw]
theorem XY{M:ag}{i f:Nat}(hf:f< (gl M 0).length):(jw M i f).set f (gl (jw M i f) f++ [cn M i f])=jw M i (f+1):=by
 apply jV (by simp [jw]);intro g h1 h2;have hg:g< (gl M 0).length:=by rw [Fm]at h2;exact h2
 rw [List.getElem_set];have e:(jw M i (f+1))[g]=gl (jw M i (f+1)) g:=by rw [fm h2]
 rw [e,Fl hg]
 by_cases h:f=g
 ·subst h;rw [aT rfl,aT (by omega),Fl hg,aR (by omega),tI,qA];rfl
 rw [aR h];have e2:(jw M i f)[g]'(by rw [Fm];exact hg)=gl (jw M i f) g:=by rw [fm]
 rw [e2,Fl hg]
 by_cases h3:g<f
 ·rw [aT h3,aT (by omega)]
 rw [aR h3,aR (by omega)]
theorem BO{M:ag}:∀i,a7 M i<=i* (gl M 0).length
 | 0=>bu _
 | i+1=>by
  have h1:=BO (M:=M) i;have h2:=rH M i;show a7 M i+ (fE M i).toNat<=_;rw [Nat.succ_mul];omega
theorem VQ(Ab A:ai)(n c:Nat)(rs:List aX)(M:ag)(w:aa)(hB:Rd w Ab 1 (fun _=> .slice A n c))(hR:bL w A n rs M)(hM:dm M):
 aG prog 123 [.pointer Ab] w (fun v w'=>∃A' rs',v= .slice A' (gl M 0).length (gl M 0).length/\rs'.length=(gl M 0).length/\St w w' (aU 24 2 A' (gl M 0).length (gl M 0).length rs' (nC M)++ [])):=by
 have hl:=hR.len;have h1:=hM.1;have h2:=hM.2.1;have e0:(rg rs 0).n=(gl M 0).length:=(hR.ql (by omega) (by omega)).symm;have xr:∀i,i<=n->a7 M i<=2000:=fun i hi=>by
  have h3:=BO (M:=M) i;have h4:i* (gl M 0).length<=5*400:=Nat.mul_le_mul (by omega) (by omega);omega
 generalize hF:(gl M 0).length=F at*;refine bw func123 O ntmps123 O (b7 O) (bb O (aF (yp Ab A n c rs M _ w hB O hR (by omega)) O ?_));rintro _ w ⟨rfl,rfl⟩;rw [e0];refine Hz F (St.refl w) O O (by omega) ?_;intro A3 w1 aC;have aC:St w w1 (aU 24 2 A3 F F (List.replicate F bW) (List.replicate F [])):=GK F aC;refine aq O (aF (GV Ab A n c _ _ (aC.nj hB) O) O ?_);rintro _ w1 ⟨rfl,rfl⟩;refine az O ?_;refine Cd.loop (α:=Nat×List aX) (fun z=> [(0,.pointer Ab),(3,.slice A3 F F),(4,aj (a7 M z.1:Int)),(14,aj n),(15,aj (z.1:Int))]) (fun z w'=>z.1<=n/\z.2.length=F/\St w w' (aU 24 2 A3 F F z.2 (jw M z.1 0)++ [])) (fun z=>n - z.1) (0,List.replicate F bW) (ajz O) ⟨bu _,by simp,by rw [XZ M 0 O,hF,iz];exact aC⟩ ?_;clear aC;rintro⟨i,jH⟩ e w2 ⟨hi,bT,hS⟩;dsimp only at hi bT hS|-;have QR:=xr i hi;refine b8 O (aM _ O (fun h3=>?_) (fun h3=>?_))
 ·have da:i<n:=by omega
  have ow:=xr (i+1) (by omega);have xm:=rH M i;have yZ:a7 M (i+1)=a7 M i+ (fE M i).toNat:=O;refine aD O (aF (Oh Ab A n c rs M i _ (hS.nj hB) (hS.cV hR) hM da) O ?_);rintro _ w3 ⟨A6,rfl,ax⟩;have aH:=(hS.call ax).perm (iK (l₁:=[ar 2 A6 (gl M 0).length (gl M 0).length (cX M i)]));rw [hF]at aH|-;clear ax hS;refine aq O (ba O O (az O ?_));refine Cd.loop (α:=Nat×List aX) (fun z=> [(0,.pointer Ab),(3,.slice A3 F F),(4,aj (a7 M i:Int)),(7,aj (fE M i)),(14,aj n),(15,aj i),(24,.slice A6 F F),(5,aj i),(25,aj F),(26,aj (z.1:Int))]) (fun z w'=>z.1<=F/\z.2.length=F/\St w w' (aU 24 2 A3 F F z.2 (jw M i z.1)++ [ar 2 A6 F F (cX M i)])) (fun z=>F - z.1) (0,jH) (ajz O) ⟨bu _,bT,by simpa using aH⟩ ?_;clear aH;rintro⟨f,dw⟩ e w4 ⟨hf,si,aQ⟩;dsimp only at hf si aQ|-;have oq:=Fm M i f;rw [hF]at oq;refine b8 O (aM _ O (fun h4=>?_) (fun h4=>?_))
  ·have qN:f<F:=by omega
   have lN:=St.eU aQ oq;have ov:(aU 24 2 A3 F F dw (jw M i f)++ [ar 2 A6 F F (cX M i)])[F+1]?=some (ar 2 A6 F F (cX M i)):=by
    rw [jW (by rw [Sr (by omega)];omega),Sr (by omega),si,Nat.sub_self];rfl
   have QB:bt w4 A6 F (cX M i):=aQ.bk (F+1) ov;have hin2:=qK hM (i:=i) (f:=f) (by omega);have aaI:(a7 M i:Int)+gi (cX M i) f=cn M i f:=O;have bM:=lN.at_ (i:=(f:Int)) (by omega) (by omega);have jG:(rg dw f).n<=5:=by
    have:=bM.1;rw [<-this,Fl (by omega),aR (by omega)];simp;omega
   refine aD O (aA QB.2 O (aY QB O (aq O (aA lN.top.2 O (bQ lN.top O ?_)))));refine aq O (aK O ?_);refine dE aQ O O O ?_;intro AQ wQ hQ;have sZ:(ar 2 AQ 1 1 [((a7 M i:Int)+gi (cX M i) f)]::(aU 24 2 A3 F F dw (jw M i f)++ [ar 2 A6 F F (cX M i)]))[2+f]?=some (ar 2 (rg dw f).a (rg dw f).n (rg dw f).c (gl (jw M i f) f)):=by
    have h0:=BJ (t1:=24) (t2:=2) (A:=A3) (n:=F) (c:=F) (rs:=dw) (xss:=(jw M i f)) (pre:=[ar 2 AQ 1 1 [((a7 M i:Int)+gi (cX M i) f)]]) (ks:=[ar 2 A6 F F (cX M i)]) (i:=f) (by omega) (by omega);exact h0
   refine dS (2+f) hQ sZ (hQ.bk 0 O) O O O ?_;intro AZ cZ wZ hZ;rw [Lh ⟨AZ,(rg dw f).n+1,cZ⟩ (gl (jw M i f) f++ [((a7 M i:Int)+gi (cX M i) f)]) (by omega) (by omega)]at hZ;have PM:iT wZ A3 F dw:=hZ.fq 1 O;refine aA PM.2 O (uY (te:=24) (n:=F) (c:=F) (A:=A3) (xs:=dw) 1 hZ O O O (by omega) ?_);intro wY hY;have a8:St w wY (aU 24 2 A3 F F (dw.set f ⟨AZ,(rg dw f).n+1,cZ⟩) ((jw M i f).set f (gl (jw M i f) f++ [((a7 M i:Int)+gi (cX M i) f)]))++ [ar 2 A6 F F (cX M i)]):=St.tail hY;clear hY PM hZ sZ hQ;rw [aaI,XY (by omega)]at a8;refine aq O (aK O (aS O (tQ ?_)));exact⟨(f+1,_),by show F - (f+1)<F - f;omega,(ajz O),by show f+1<=F;omega,by simp [si],a8⟩
  have qN:f=F:=by omega
  subst qN;have gf:=XX M i;rw [hF]at gf;rw [gf]at aQ;refine bo O (bn (cJ O (aK O (aq O (aK O (aS O (tQ ?_)))))));exact⟨(i+1,dw),by show n - (i+1)<n - i;omega,⟨O,O,by show Value.int .i64 ((a7 M i:Int)+fE M i)=aj ((a7 M (i+1):Nat):Int);congr 1;omega,O,O,aw⟩,by show i+1<=n;omega,si,aQ.sub (List.Sublist.append_left (List.nil_sublist _) _)⟩
 have da:i=n:=by omega
 subst da;have he:=XW M;rw [hl]at he;rw [he]at hS;refine bo O (bn (eG O ?_));exact fb O ⟨A3,jH,O,bT,hS⟩
theorem Ux(A:ai)(n c:Nat)(xs:ah)(A':ai)(n' c':Nat)(ys:ah)(w:aa)(hR:bt w A n xs)(wT:bt w A' n' ys)(hn:n<=9223372036854775807):
 aG prog 200 [.slice A n c,.slice A' n' c'] w (fun v w'=>v= .bool (decide (xs=ys))/\St w w' []):=by
 have hl:=hR.1;have DH:=wT.1;subst hl;subst DH;refine bw func200 O ntmps200 O (b7 O) ?_;refine bb O (ba O O (aq O (ba O O (az O ?_))));refine aM _ O (fun h=>?_) (fun h=>?_)
 ·refine dB O (ck O ?_);exact⟨by rw [cM (fun e:xs=ys=>h (by rw [e]))],St.refl _⟩
 refine aD O (ba O O (az O ?_));refine Cd.loop (α:=Nat) (fun k=> [(0,.slice A xs.length c),(1,.slice A' ys.length c'),(12,aj (xs.length:Int)),(13,aj k)]) (fun k w'=>St w w' []/\k<=xs.length/\xs.take k=ys.take k) (fun k=>xs.length - k) 0 (ajz O) ⟨St.refl w,bu _,O⟩ ?_;rintro k e w2 ⟨aE,hk,hI⟩;have hle:xs.length=ys.length:=by omega
 refine b8 O (aM _ O (fun h1=>?_) (fun h1=>?_))
 ·have hA:=aE.b9 hR;have hB:=aE.b9 wT;have h2:(k:Int)<ys.length:=by omega
  have hx:=bX (p:=xs) (k:=k) (by omega);have hy:=bX (p:=ys) (k:=k) (by omega);refine cW O (dQ [xS (A) (xs.length) (c),xI ((k:Int)),xP (aB (A) ((k:Int)).toNat),xI (gi (xs) ((k:Int))),xS (A') (ys.length) (c'),xI ((k:Int)),xP (aB (A') ((k:Int)).toNat),xI (gi (ys) ((k:Int))),xB (decide (¬(gi (xs) ((k:Int)))=(gi (ys) ((k:Int)))))] O (eE O) ?_ ?_)
  ·exact⟨Dr O,Dr O,fun _ _ hb _ _=>aA (hA.ao hb).2 O Az,fun _ _ hb _ _=>aY (hA.ao hb) O Az,Dr O,Dr O,fun _ _ hb _ _=>aA (hB.ao hb).2 O Az,fun _ _ hb _ _=>aY (hB.ao hb) O Az,Dr O,aw⟩
  intro u w3 km _;have aH:=aE.ao km;refine fv O (aM _ O (fun h3=>?_) (fun h3=>?_))
  ·refine dB O (dO (dJ ?_));refine ck O ?_;refine⟨by rw [cM (fun e:xs=ys=>h3 (by rw [e]))],aH⟩
  refine aD O (aK O (aS O (tQ ?_)));refine⟨k+1,by omega,(ajz O),aH,by omega,?_⟩;rw [pg (by omega),pg (by omega),hI,mM.1 h3]
 refine bo O (bn (eG O ?_));refine ck O ⟨?_,aE⟩;rw [kA (by omega),kA (by omega)]at hI;rw [eC hI]
def fy(xss:ag):ah:=(List.range xss.length).map fun i=>fE xss i
theorem Ic(xss:ag):(fy xss).length=xss.length:=by simp [fy]
theorem W2{xss:ag}{i:Nat}(h:i<xss.length):(fy xss).take (i+1)=(fy xss).take i++ [fE xss i]:=by
 rw [rC (by rw [Ic];exact h)];simp [fy]
theorem Og(Ab A:ai)(n c:Nat)(rs:List aX)(xss:ag)(w:aa)(hB:Rd w Ab 1 (fun _=> .slice A n c))(hR:bL w A n rs xss)(hM:dm xss):
 aG prog 56 [.pointer Ab] w (fun v w'=>∃A' c',v= .slice A' n c'/\St w w' [ar 2 A' n c' (fy xss)]):=by
 have hl:=hR.len;have h1:=hM.1;have h2:=hM.2.1;refine bw func56 O ntmps56 O (b7 O) (bb O (aF (GV Ab A n c _ _ hB O) O ?_));rintro _ w ⟨rfl,rfl⟩;refine az O (Cd.loop (α:=Nat×ai×Nat) (fun s=> [(0,.pointer Ab),(3,.slice s.2.1 s.1 s.2.2),(8,aj n),(9,aj (s.1:Int))]) (fun s w'=>St w w' [ar 2 s.2.1 s.1 s.2.2 ((fy xss).take s.1)]/\s.1<=n) (fun s=>n - s.1) (0,none,0) (ajz O) ⟨(St.refl w).nil _,bu _⟩ ?_);rintro⟨i,A3,c3⟩ e w1 ⟨aC,hi⟩;dsimp only at aC hi|-;refine b8 O (aM _ O (fun h3=>?_) (fun h3=>?_))
 ·have dI:i<n:=by omega
  have kT:=rH xss i;refine aD O (aF (Oh Ab A n c rs xss i _ (hB.below aC.below) (aC.cV hR) hM dI) O ?_);rintro _ w2 ⟨A5,rfl,oA⟩;have aE:=(aC.call oA).tail;refine aq O (dE aE O O O ?_);intro A6 w3 aH;refine dS 1 aH O (aH.bk 0 O) O O O fun A7 c7 w4 aQ=>aq O (aK O (aS O (tQ ?_)));refine⟨(i+1,A7,c7),by show n - (i+1)<n - i;omega,(ajz O),?_,dI⟩;show St w w4 [ar _ A7 (i+1) c7 ((fy xss).take (i+1))];rw [W2 (by omega)];exact aQ.tail
 refine bo O (bn (eG O ?_));refine fb O ?_;have da:i=n:=by omega
 rw [da,kA (by rw [Ic];omega)]at aC;rw [da];exact⟨A3,c3,O,aC⟩
theorem St.nn{w0 w:aa}{t1 t2:ad}{A:ai}{n c:Nat}{rs:List aX}{xss:ag}(h:St w0 w (aU t1 t2 A n c rs xss))(hl:xss.length=n):bL w A n rs xss:=
 St.eU (ks:=[]) (by rw [iz];exact h) hl
section
variable{b0 b1 b2:Nat}
variable {P:Program} {N:Nat} {ops:Array Oper} {K:Env->aa->Prop} {rest:List Oper} {e:Env} {w0 w w':aa} {ks:List Ck} {d:Nat} {ty:ad} {pos:String} {af:Array Edge}
theorem CD{t:ad}{f0 f1 f2:Field}{z0 z1 z2 y0 y1 y2:ab}{b:Nat}[bP P t (.struct #[f0,f1,f2])][bO P t (.agg #[z0,z1,z2]) 3 b]{x0:ae}{v0:ab}(rM:bO P f0.type y0 1 b0)(pK:bO P f1.type y1 1 b1)(rN:bO P f2.type y2 1 b2)(ho:f0.offset=0)(ow:f1.offset=1)(xq:f2.offset=2)(h0:ev e x0=v0)(c0:v0.oneCell'=true)(hb:Nat.blt d N=true)(hK:ak P N ops K rest (bC e d (.agg #[v0,z1,z2])) w):ak P N ops K (⟨some d,.build t #[(0,x0)],ty,pos,af,none⟩::rest) e w:=by
 obtain⟨inf,hi,fp,hs,iq⟩:=bO.get P t;obtain⟨D5,mw,_,oz,_⟩:=rM.get P f0.type;obtain⟨D6,kE,_,s9,_⟩:=pK.get P f1.type;obtain⟨Gq,r5,_,y8,_⟩:=rN.get P f2.type;have e0:v0.cells= #[v0]:=by cases v0<;>simp [Value.oneCell']at c0<;>rfl
 have ez:(Value.agg #[z0,z1,z2]).cells= #[z0,z1,z2]:=O;refine .val (w':=w) ?_ hb hK;simp [execOp,Instr.build,run_underlying (bP.out (P:=P) (t:=t)),sizeOf,typeInfo,zeroValue,hi,fp,mw,oz,kE,s9,r5,y8,ho,h0,e0,ez,Instr.fill]
theorem ajy{t:ad}{f0 f1 f2:Field}{z0 z1 z2 y0 y1 y2:ab}{b:Nat}[bP P t (.struct #[f0,f1,f2])][bO P t (.agg #[z0,z1,z2]) 3 b](rM:bO P f0.type y0 1 b0)(pK:bO P f1.type y1 1 b1)(rN:bO P f2.type y2 1 b2)(hb:Nat.blt d N=true)(hK:ak P N ops K rest (bC e d (.agg #[z0,z1,z2])) w):ak P N ops K (⟨some d,.build t #[],ty,pos,af,none⟩::rest) e w:=by
 obtain⟨inf,hi,fp,hs,iq⟩:=bO.get P t;obtain⟨D5,mw,_,oz,_⟩:=rM.get P f0.type;obtain⟨D6,kE,_,s9,_⟩:=pK.get P f1.type;obtain⟨Gq,r5,_,y8,_⟩:=rN.get P f2.type;have ez:(Value.agg #[z0,z1,z2]).cells= #[z0,z1,z2]:=O;refine .val (w':=w) ?_ hb hK;simp [execOp,Instr.build,run_underlying (bP.out (P:=P) (t:=t)),sizeOf,typeInfo,zeroValue,hi,fp,mw,oz,kE,s9,r5,y8,ez,Instr.fill]
theorem yc{t:ad}{f0 f1 f2:Field}{z0 z1 z2 y0 y1 y2:ab}{b:Nat}[bP P t (.struct #[f0,f1,f2])][bO P t (.agg #[z0,z1,z2]) 3 b](hb:Nat.blt d N=true)(hK:ak P N ops K rest (bC e d (.agg #[z0,z1,z2])) w)(rM:bO P f0.type y0 1 b0:=by exact inferInstance)(pK:bO P f1.type y1 1 b1:=by exact inferInstance)(rN:bO P f2.type y2 1 b2:=by exact inferInstance):ak P N ops K (⟨some d,.build t #[],ty,pos,af,none⟩::rest) e w:=ajy rM pK rN hb hK
theorem jc{el:ad}{v0 v1 v2:ab}{s b:Nat}[bO P el (.agg #[v0,v1,v2]) s b](hS:St w0 w ks)(hb:Nat.blt d N=true)(hK:∀A w',St w0 w' (Bx el 3 A [v0,v1,v2]::ks)->ak P N ops K rest (bC e d (.pointer A)) w')(hM:eT [v0,v1,v2]=false:=by rfl):ak P N ops K (⟨some d,.alloc el,ty,pos,af,none⟩::rest) e w:= .new (el:=el) (z:= .agg #[v0,v1,v2]) (s:=s) (b:=b) hS hb rfl hK hM
end
theorem aff{α:Type}(q1 q2 q3 q4 q5 q6:α)(X Y:List α):([q1,q2,q3,q4,q5,q6]++Y++X).Perm (q4::(q2::((q1::X)++ (q3::q5::q6::Y)))):=by
 classical
 refine px.2 fun z=>?_
 simp only [rz,nZ,List.cons_append,List.nil_append];omega
abbrev bp(A:ai)(n:Int)(AR:ai)(N c:Nat)(AD:ai)(m d:Nat):Ck:=Bx 51 3 A [aj n,.slice AR N c,.slice AD m d]
theorem W1{M:ag}{i:Nat}(h:i<M.length):gi (fy M) i=fE M i:=by
 rw [bX (by rw [Ic];exact h)];simp [fy]
structure py(M:ag)(f i:Nat)(B:ag):Prop where
 len:B.length=a7 M M.length
 mem:∀e:Nat,e<a7 M M.length->∀x,x∈gl B e↔∃f' i',(f'<f\/f'=f/\i'<i)/\f'< (gl M 0).length/\i'<M.length/\cn M i' f'=e/\∃k,k<i'/\x=cn M k f'
 num:∀e:Nat,(gl B e).length<=25*f+5*i
theorem py.zero(M:ag):py M 0 0 (List.replicate (a7 M M.length) []):=by
 have hg:∀e:Nat,gl (List.replicate (a7 M M.length) ([]:ah)) e=[]:=fun e=>by
  simp only [gl,gB,dt,List.getElem?_replicate]
  split<;>rfl
 refine⟨by simp,fun e he x=>?_,fun e=>by rw [hg];exact bu _⟩;rw [hg];constructor
 ·intro h;cases h
 rintro⟨f',i',h,_⟩;omega
theorem py.next{M:ag}{f i:Nat}{B:ag}(hM:dm M)(h:py M f i B)(hf:f< (gl M 0).length)(hi:i<M.length):py M f (i+1) (B.set (cn M i f).toNat (gl B (cn M i f)++ (List.range i).map fun k=>cn M k f)):=by
 have da:=qK hM (i:=i) hf;have Kc:=jU M (show i+1<=M.length by omega);have h5:=hM.1;obtain⟨q,hq⟩:∃q:Nat,cn M i f=q:=⟨(cn M i f).toNat,by omega⟩;rw [hq,gB];have hg:∀e:Nat,gl (B.set q (gl B q++ (List.range i).map fun k=>cn M k f)) e=if q=e then gl B q++ (List.range i).map fun k=>cn M k f else gl B e:=fun e=>IW (by rw [h.len];omega)
 refine⟨by rw [iR];exact h.len,fun e he x=>?_,fun e=>?_⟩
 ·rw [hg]
  by_cases e1:q=e
  ·subst e1;rw [aT rfl,eD,h.mem q he];constructor
   ·rintro(⟨f',i',h1,h2⟩ | h1)
    ·exact⟨f',i',by omega,h2⟩
    obtain⟨k,hk,rfl⟩:=eh.1 h1;exact⟨f,i,.inr ⟨O,by omega⟩,hf,hi,hq,k,nu.1 hk,O⟩
   rintro⟨f',i',h1,h2,h3,h4,k,hk,rfl⟩
   by_cases e2:f'=f/\i'=i
   ·obtain⟨rfl,rfl⟩:=e2;exact .inr (eh.2 ⟨k,nu.2 hk,O⟩)
   exact .inl ⟨f',i',by omega,h2,h3,h4,k,hk,O⟩
  rw [aR e1,h.mem e he];constructor
  ·rintro⟨f',i',h1,h2⟩;exact⟨f',i',by omega,h2⟩
  rintro⟨f',i',h1,h2,h3,h4,h6⟩;refine⟨f',i',?_,h2,h3,h4,h6⟩
  by_cases e2:f'=f/\i'=i
  ·obtain⟨rfl,rfl⟩:=e2;omega
  omega
 rw [hg];have h1:=h.num q;have h2:=h.num e
 split
 ·rw [dh,mf,tH];omega
 omega
theorem py.row{M:ag}{f:Nat}{B:ag}(hM:dm M)(h:py M f M.length B):py M (f+1) 0 B:=by
 have h5:=hM.1;refine⟨h.len,fun e he x=>?_,fun e=>by have:=h.num e;omega⟩;rw [h.mem e he];constructor
 ·rintro⟨f',i',h1,h2⟩;exact⟨f',i',by omega,h2⟩
 rintro⟨f',i',h1,h2,h3,h4⟩;exact⟨f',i',by omega,h2,h3,h4⟩
theorem py.done{M:ag}{B:ag}(hM:dm M)(h:py M (gl M 0).length 0 B){e:Nat}(he:e<a7 M M.length):cs (gl B e)=gl (b6 M) e:=by
 refine(Ij _).eq ?_ fun x=>?_
 ·rw [fm (by rw [pH];exact he)];unfold b6;rw [List.getElem_map];exact tG _ (vT _)
 rw [Ik,h.mem e he,pG (by omega) (by omega)];constructor
 ·rintro⟨f',i',_,h2,h3,h4,k,hk,rfl⟩;have hI:sF M (cn M k f') e:=⟨f',h2,i',h3,k,hk,h4.symm,O⟩;exact⟨(hI.lH hM).1,hI⟩
 rintro⟨_,f',h2,i',h3,k,hk,h4,rfl⟩;exact⟨f',i',.inl h2,h2,h3,h4.symm,k,hk,O⟩
def Ug(M:ag)(w:aa)(v:ab)(w':aa):Prop:=(500<a7 M M.length/\v= .tuple #[.agg #[aj 0,.slice none 0 0,.slice none 0 0],.bool false]/\St w w' [])\/(a7 M M.length<=500/\∃AR c AD d rs,v= .tuple #[.agg #[aj (M.length:Int),.slice AR (a7 M M.length) c,.slice AD (a7 M M.length) d],.bool true]/\rs.length=a7 M M.length/\St w w' (ar 2 AR (a7 M M.length) c (cq M M.length)::(aU 24 2 AD (a7 M M.length) d rs (b6 M)++ [])))
theorem Iy(A:ai)(n c:Nat)(rs:List aX)(M:ag)(w:aa)(hR:bL w A n rs M)(hM:dm M):
 aG prog 65 [.agg #[.slice A n c]] w (Ug M w):=by
 have hl:=hR.len;have h1:=hM.1;have h2:=hM.2.1;have xr:∀i,i<=n->a7 M i<=2000:=fun i hi=>by
  have h3:=BO (M:=M) i;have h4:i* (gl M 0).length<=5*400:=Nat.mul_le_mul (by omega) (by omega);omega
 refine bw func65 O ntmps65 O (tm O O) (bb O (mQ (St.refl w) O O ?_));intro A1 w1 aC;refine jc aC O fun A2 w2 aE=>aq O (aF (GV A1 A n c _ _ (Rd.one (aE.rd 1 O)) O) O ?_);rintro _ w2 ⟨rfl,rfl⟩;refine CD (by exact inferInstance) (by exact inferInstance) (by exact inferInstance) O O O O O O (jc aE O ?_);intro A4 w3 aH;refine bS 3 0 aH O O O O O O O ?_;intro w4 aQ;have aQ:St w w4 [bp A4 n none 0 0 none 0 0,bp A2 0 none 0 0 none 0 0,Bx 31 1 A1 [.slice A n c]]:=aQ;clear aH aE aC;refine aq O (aF (Og A1 A n c rs M _ (Rd.one (aQ.rd 2 O)) (aQ.cV hR) hM) O ?_);rintro _ w5 ⟨gU,oS,rfl,ax⟩;have a8:=aQ.call ax;clear ax aQ;have a8:St w w5 [bp A4 n none 0 0 none 0 0,ar 2 none 0 0 [],ar 2 gU n oS (fy M),bp A2 0 none 0 0 none 0 0,Bx 31 1 A1 [.slice A n c]]:=(a8.nil 2).perm (eK (l₁:=[_,_]));refine ba O O (az O ?_);refine Cd.loop (α:=Nat×ai×Nat) (fun z=> [(1,.pointer A1),(2,.pointer A2),(4,.pointer A4),(14,.slice gU n oS),(15,aj n),(16,aj (z.1:Int))]) (fun z w'=>z.1<=n/\St w w' [bp A4 n z.2.1 (a7 M z.1) z.2.2 none 0 0,ar 2 z.2.1 (a7 M z.1) z.2.2 (cq M z.1),ar 2 gU n oS (fy M),bp A2 0 none 0 0 none 0 0,Bx 31 1 A1 [.slice A n c]]) (fun z=>n - z.1) (0,none,0) (ajz O) ⟨bu _,a8⟩ ?_;clear a8;rintro⟨i,AR,cR⟩ e w6 ⟨hi,hS⟩;dsimp only at hi hS|-;have QR:=xr i hi;have gZ:=tT M i;refine b8 O (aM _ O (fun h3=>?_) (fun h3=>?_))
 ·have da:i<n:=by omega
  have Bc:=W1 (M:=M) (i:=i) (by omega);have xm:=rH M i;have ow:=xr (i+1) (by omega);have yZ:a7 M (i+1)=a7 M i+ (fE M i).toNat:=O;have Dx:cq M (i+1)=cq M i++List.replicate (fE M i).toNat (i:Int):=O;have hC:=hS.bk 2 O;refine aD O (aA hC.2 O (aY hC O (az O ?_)));rw [Bc];obtain⟨N,hN⟩:∃N:Nat,fE M i=N:=⟨(fE M i).toNat,by omega⟩;rw [hN,gB]at yZ Dx;rw [hN]at xm|-;refine jm [6,8] [yP (aB (A4) 1),yS (AR) (a7 M i) (cR),yI ((i:Int)),.pr (fun v w'=>∃A9,v= .slice A9 1 1/\St w w' (ar 2 A9 1 1 [(i:Int)]::[bp A4 n AR (a7 M i) cR none 0 0,ar 2 AR (a7 M i) cR (cq M i),ar 2 gU n oS (fy M),bp A2 0 none 0 0 none 0 0,Bx 31 1 A1 [.slice A n c]])),yI ((N:Int)),.pr (fun v w'=>∃A9,v= .slice A9 N N/\St w w' (ar 2 A9 N N (List.replicate N (i:Int))::[bp A4 n AR (a7 M i) cR none 0 0,ar 2 AR (a7 M i) cR (cq M i),ar 2 gU n oS (fy M),bp A2 0 none 0 0 none 0 0,Bx 31 1 A1 [.slice A n c]])),.pr (fun v w'=>∃du fx,v= .slice du (a7 M i+N) fx/\St w w' [bp A4 n AR (a7 M i) cR none 0 0,ar 2 du (a7 M i+N) fx (cq M i++List.replicate N (i:Int)),ar 2 gU n oS (fy M),bp A2 0 none 0 0 none 0 0,Bx 31 1 A1 [.slice A n c]]),yP (aB (A4) 1),.pr (fun _ w'=>∃du fx,St w w' [bp A4 n du (a7 M i+N) fx none 0 0,ar 2 du (a7 M i+N) fx (cq M i++List.replicate N (i:Int)),ar 2 gU n oS (fy M),bp A2 0 none 0 0 none 0 0,Bx 31 1 A1 [.slice A n c]])] (ly (ly (ly (cg.2 ⟨Ye.cH (fun v w w' h hb=>by obtain⟨A9,hv,hT⟩:=h;exact⟨A9,hv,hT.ao hb⟩),(ly (cg.2 ⟨Ye.cH (fun v w w' h hb=>by obtain⟨A9,hv,hT⟩:=h;exact⟨A9,hv,hT.ao hb⟩),(cg.2 ⟨Ye.cH (fun v w w' h hb=>by obtain⟨du,fx,hv,hT⟩:=h;exact⟨du,fx,hv,hT.ao hb⟩),(ly (cg.2 ⟨Ye.cH (fun v w w' h hb=>by obtain⟨du,fx,hT⟩:=h;exact⟨du,fx,hT.ao hb⟩),(fun _ h=>by cases h)⟩))⟩)⟩))⟩)))) ?_ ?_
  ·refine⟨cP fun _ _ hb _ _ _=>aI ((hS.rd 0 O).below hb) O (bq O O),cP fun _ _ hb _ _ _=>aV ((hS.rd 0 O).below hb) O (bq O O),bZ O,?_,bZ O,?_,?_,?_,?_,aw⟩
   ·refine cP fun e1 w1 hb hp bc hq=>?_
    exact dE (St.refl _) O O O fun A9 w9 ax=>ak.n (fu.dn O ax.below ⟨A9,O,(hS.ao hb).call ax⟩)
   ·refine cP fun e1 w1 hb hp bc hq=>?_
    obtain⟨A9,rK,hT⟩:=(hp 3 _ _ (by kernel_rfl) rfl rfl (by kernel_rfl));refine ajq (HD A9 1 i N _ (hT.bk 0 O) (by omega)) O (by exact aL (fun v=> [v,Value.int .i64 (N:Int)]) rK) O ?_;rintro _ w2 ⟨A5,rfl,ax⟩;exact ak.n (fu.dn O ax.below ⟨A5,O,hT.tail.call ax⟩)
   ·refine ju fun e1 w1 hb hp bc hq=>?_
    obtain⟨A9,I4,hT⟩:=(hp 5 _ _ (by kernel_rfl) rfl rfl (by kernel_rfl));refine dS 2 hT O (hT.bk 0 O) O (by exact I4) O ?_;intro du fx dA oY;exact ak.n (fF.dn O ⟨du,fx,O,oY.tail⟩)
   ·refine dP 1 fun e1 w1 hp bc hq=>?_
    have fC:=hp 6 _ _ (by kernel_rfl) O O (by kernel_rfl);obtain⟨du,fx,vi,hT⟩:=fC;refine aI ((hT.rd 0 O)) O (ak.n (gh O (by exact O)))
   refine sP 1 fun e1 w1 hp bc hq=>?_
   have fC:=hp 6 _ _ (by kernel_rfl) O O (by kernel_rfl);obtain⟨du,fx,vi,hT⟩:=fC;refine ke 0 hT O O (by exact vi) O O ?_;intro eA kR;exact ak.n (fF.st O ⟨du,fx,kR⟩)
  intro u w7 _ hu _ _;obtain⟨du,fx,hT⟩:=hu 8 _ rfl (by kernel_rfl);rw [<-yZ,<-Dx]at hT;refine fJ O (aK O (aS O (tQ ?_)));exact⟨(i+1,du,fx),by show n - (i+1)<n - i;omega,(ajz O),by show i+1<=n;omega,hT⟩
 obtain rfl:i=n:=by omega
 have gL:M.length=i:=hl;generalize hK:a7 M i=N at*;have kg:=hS.rd 0 O;refine bo O (bn (cJ O ?_));refine aI kg O (aV kg O ?_);refine ba O O (az O ?_);refine aM _ O (fun h4=>?_) (fun h4=>?_)
 ·refine aD O (yc O (bS 3 3 hS O O O O O O O ?_));intro w9 bh;refine bD O (mH O (bh.rd 3 O) O ?_);exact .inl ⟨by rw [gL,hK];omega,O,bh.none⟩
 refine aD O (aI kg O (aV kg O (ba O O (Hz N hS O O (by omega) ?_))));intro dp w7 bl;have bl:St w w7 (br 24 dp N N (List.replicate N bW)::[bp A4 i AR N cR none 0 0,ar 2 AR N cR (cq M i),ar 2 gU i oS (fy M),bp A2 0 none 0 0 none 0 0,Bx 31 1 A1 [.slice A i c]]):=bl;refine aI (bl.rd 1 O) O (ke 1 bl O O O O O ?_);intro w8 bK;have bK:St w w8 (br 24 dp N N (List.replicate N bW)::[bp A4 i AR N cR dp N N,ar 2 AR N cR (cq M i),ar 2 gU i oS (fy M),bp A2 0 none 0 0 none 0 0,Bx 31 1 A1 [.slice A i c]]):=bK;clear bl hS;refine aq O (aF (VQ A1 A i c rs M _ (Rd.one (bK.rd 5 O)) (bK.cV hR) hM) O ?_);rintro _ w9 ⟨fj,mK,rfl,abQ,ax⟩;obtain⟨F,hF⟩:∃F,(gl M 0).length=F:=⟨_,rfl⟩;rw [hF]at h2 abQ ax|-;have Ji:(nC M).length=F:=by simp [nC,hF]
 have bh:=bK.call ax;clear ax bK;obtain⟨KK,De⟩:∃KK:List Ck,KK=ar 2 AR N cR (cq M i)::bp A2 0 none 0 0 none 0 0::Bx 31 1 A1 [.slice A i c]::(aU 24 2 fj F F mK (nC M)++ []):=⟨_,rfl⟩;have bh:St w w9 (bp A4 i AR N cR dp N N::(aU 24 2 dp N N (List.replicate N bW) (List.replicate N [])++KK)):=by
  rw [De];have h9:=(bh.perm iK);have h9:=GK (t:=2) N h9;have hp:([br 24 dp N N (List.replicate N bW),bp A4 i AR N cR dp N N,ar 2 AR N cR (cq M i),ar 2 gU i oS (fy M),bp A2 0 none 0 0 none 0 0,Bx 31 1 A1 [.slice A i c]]++ (aU 24 2 fj F F mK (nC M)++ [])++bF 2 (List.replicate N bW) (List.replicate N [])).Perm (ar 2 gU i oS (fy M)::(bp A4 i AR N cR dp N N::(aU 24 2 dp N N (List.replicate N bW) (List.replicate N [])++ (ar 2 AR N cR (cq M i)::bp A2 0 none 0 0 none 0 0::Bx 31 1 A1 [.slice A i c]::(aU 24 2 fj F F mK (nC M)++ []))))):=by
   unfold aU;generalize bF 2 (List.replicate N bW) (List.replicate N [])=X;generalize br 24 fj F F mK::bF 2 mK (nC M)++ []=Y;generalize br 24 dp N N (List.replicate N bW)=q1;generalize bp A4 i AR N cR dp N N=q2;generalize ar 2 AR N cR (cq M i)=q3;generalize ar 2 gU i oS (fy M)=q4;generalize bp A2 0 none 0 0 none 0 0=q5;generalize Bx 31 1 A1 [.slice A i c]=q6;exact aff q1 q2 q3 q4 q5 q6 X Y
  exact(h9.perm hp).tail
 have ov:∀(rs':List aX) (B:ag),(aU 24 2 fj F F mK (nC M)).Sublist (bp A4 i AR N cR dp N N::(aU 24 2 dp N N rs' B++KK)):=fun rs' B=>by
  rw [De];refine List.Sublist.cons _ (List.Sublist.trans ?_ (dz _ _));refine List.Sublist.cons _ (List.Sublist.cons _ (List.Sublist.cons _ ?_));rw [iz];exact dY _
 have kP:a7 M M.length=N:=by rw [gL,hK]
 refine ba O O (az O ?_);refine Cd.loop (α:=Nat×List aX×ag) (fun z=> [(1,.pointer A1),(2,.pointer A2),(4,.pointer A4),(40,.slice fj F F),(41,aj F),(42,aj (z.1:Int))]) (fun z w'=>z.1<=F/\z.2.1.length=N/\py M z.1 0 z.2.2/\St w w' (bp A4 i AR N cR dp N N::(aU 24 2 dp N N z.2.1 z.2.2++KK))) (fun z=>F - z.1) (0,List.replicate N bW,List.replicate N []) (ajz O) ⟨bu _,by simp,by have:=py.zero M;rwa [kP]at this,bh⟩ ?_;clear bh;rintro⟨f,jH,B⟩ e dA ⟨hf,Gh,hB,hS⟩;dsimp only at hf Gh hB hS|-;refine b8 O (aM _ O (fun h5=>?_) (fun h5=>?_))
 ·have qN:f<F:=by omega
  have wR:=(hS.sub (ov jH B)).nn Ji;have bM:=wR.at_ (i:=(f:Int)) (by omega) (by omega);have bT:=bM.1;have JU:gl (nC M) f=(List.range M.length).map fun k=>cn M k f:=by rw [fm (by omega)];simp [nC]
  have jG:(rg mK f).n=i:=by rw [<-bT,JU];simp [gL]
  refine aD O (aA wR.top.2 O (bQ wR.top O ?_));refine aq O (ba O O (az O ?_));refine Cd.loop (α:=Nat×List aX×ag) (fun z=> [(1,.pointer A1),(2,.pointer A2),(4,.pointer A4),(40,.slice fj F F),(41,aj F),(42,aj f),(8,.slice (rg mK f).a (rg mK f).n (rg mK f).c),(46,.slice (rg mK f).a (rg mK f).n (rg mK f).c),(47,aj ((rg mK f).n:Int)),(48,aj (z.1:Int))]) (fun z w'=>z.1<=i/\z.2.1.length=N/\py M f z.1 z.2.2/\St w w' (bp A4 i AR N cR dp N N::(aU 24 2 dp N N z.2.1 z.2.2++KK))) (fun z=>i - z.1) (0,jH,B) (ajz O) ⟨bu _,Gh,hB,hS⟩ ?_;clear hS hB wR bM bT Gh;rintro⟨j,dw,B4⟩ e eA ⟨hj,si,kg,aQ⟩;dsimp only at hj si kg aQ|-;have kh:B4.length=N:=by rw [kg.len,kP]
  refine b8 O (aM _ O (fun h6=>?_) (fun h6=>?_))
  ·have ou:j<i:=by omega
   have wR:=(aQ.sub (ov dw B4)).nn Ji;have bM:=wR.at_ (i:=(f:Int)) (by omega) (by omega);have bT:=bM.1;have Qq:gi (gl (nC M) f) j=cn M j f:=by rw [bX (by omega)];simp [JU]
   have da:=qK hM (i:=j) (f:=f) (by omega);have Kc:=jU M (show j+1<=M.length by omega);rw [kP]at Kc;obtain⟨E,hE⟩:∃E:Nat,cn M j f=E:=⟨(cn M j f).toNat,by omega⟩;rw [hE]at Qq da;have gf:=kg.next hM (by omega) (show j<M.length by omega);rw [hE,gB]at gf;have pJ:E<N:=by omega
   have o6:(gl (nC M) f).take j=(List.range j).map fun k=>cn M k f:=by
    rw [JU,<-List.map_take,List.take_range,Nat.min_eq_left (by omega)]
   have lN:bL eA dp N dw B4:=(aQ.perm (eK (l₁:=aU 24 2 dp N N dw B4)).symm).eU kh;have Bw:=(lN.at_ (i:=(E:Int)) (by omega) (by omega)).1;have Gd:=kg.num E;refine aD O (aA bM.2 O (aY bM O (az O ?_)));rw [Qq];have sZ:(bp A4 i AR N cR dp N N::(aU 24 2 dp N N dw B4++KK))[2+E]?=some (ar 2 (rg dw E).a (rg dw E).n (rg dw E).c (gl B4 E)):=BJ (t1:=24) (t2:=2) (A:=dp) (n:=N) (c:=N) (rs:=dw) (xss:=B4) (pre:=[bp A4 i AR N cR dp N N]) (ks:=KK) (i:=E) (by omega) (by omega);have xg:=fun(s:aX) (xs:ah)=>Lh (t1:=24) (t2:=2) (A:=dp) (n:=N) (c:=N) (rs:=dw) (xss:=B4) (ks:=KK) (q:=bp A4 i AR N cR dp N N) (i:=E) s xs (by omega) (by omega)
   refine jm [11,13] [yP (aB A4 2),yS (dp) (N) (N),yI ((E:Int)),yP (aB (A4) 2),yS (dp) (N) (N),yI ((E:Int)),yP (aB (dp) ((E:Int)).toNat),yS ((rg (dw) ((E:Int))).a) ((rg (dw) ((E:Int))).n) ((rg (dw) ((E:Int))).c),yS ((rg mK f).a) ((rg mK f).n) ((rg mK f).c),yI ((j:Int)),yS ((rg mK f).a) (j) ((rg mK f).c),.pr (fun v w'=>∃AZ cZ,v= .slice AZ ((rg dw E).n+j) cZ/\St w w' (bp A4 i AR N cR dp N N::(br 24 dp N N dw::(bF 2 (dw.set E ⟨AZ,(rg dw E).n+j,cZ⟩) (B4.set E (gl B4 E++ (gl (nC M) f).take j))++KK)))),yP (aB dp ((E:Int)).toNat),.pr (fun _ w'=>∃AZ cZ,St w w' (bp A4 i AR N cR dp N N::(aU 24 2 dp N N (dw.set E ⟨AZ,(rg dw E).n+j,cZ⟩) (B4.set E (gl B4 E++ (gl (nC M) f).take j))++KK)))] (ly (ly (ly (ly (ly (ly (ly (ly (ly (ly (ly (cg.2 ⟨Ye.cH (fun v w w' h hb=>by obtain⟨AZ,cZ,hv,hT⟩:=h;exact⟨AZ,cZ,hv,hT.ao hb⟩),(ly (cg.2 ⟨Ye.cH (fun v w w' h hb=>by obtain⟨AZ,cZ,hT⟩:=h;exact⟨AZ,cZ,hT.ao hb⟩),(fun _ h=>by cases h)⟩))⟩)))))))))))) ?_ ?_
   ·refine⟨?_,?_,bZ O,cP fun _ _ hb _ _ _=>aI ((aQ.rd 0 O).below hb) O (bq O O),cP fun _ _ hb _ _ _=>aV ((aQ.rd 0 O).below hb) O (bq O O),bZ O,cP fun _ _ hb _ _ _=>aA (lN.top.ao hb).2 O (bq O O),cP fun _ _ hb _ _ _=>bQ (lN.top.ao hb) O (bq O O),bZ O,bZ O,aP fun _ _=>sI O O O (by have:=wR.cap_ (i:=(f:Int)) (by omega) (by omega);omega) (bq O O),?_,?_,?_,aw⟩
    ·intro e1 w1 cc fB ea fz hp bc hq;show ak _ _ _ _ _ _ _;have hX:Rd w1 A4 3 (fun q=> [Value.int .i64 (i:Int),.slice AR N cR,.slice dp N N].getD q undef):=by { have ea:=tg ea (b:=1) (by kernel_rfl);rcases(show cc=0\/cc=1 by omega)with h | h; { exact(aQ.ao (fz h)).rd 0 rfl }; { subst h;obtain⟨AZ,cZ,_,hT⟩:=hq 11 _ _ (by kernel_rfl) (by kernel_rfl) (by kernel_rfl) rfl rfl (by kernel_rfl);exact hT.rd 0 rfl } }
     refine aI hX O (ak.n (gh O (by exact O)))
    ·intro e1 w1 cc fB ea fz hp bc hq;show ak _ _ _ _ _ _ _;have hX:Rd w1 A4 3 (fun q=> [Value.int .i64 (i:Int),.slice AR N cR,.slice dp N N].getD q undef):=by { have ea:=tg ea (b:=1) (by kernel_rfl);rcases(show cc=0\/cc=1 by omega)with h | h; { exact(aQ.ao (fz h)).rd 0 rfl }; { subst h;obtain⟨AZ,cZ,_,hT⟩:=hq 11 _ _ (by kernel_rfl) (by kernel_rfl) (by kernel_rfl) rfl rfl (by kernel_rfl);exact hT.rd 0 rfl } }
     refine aV hX O (ak.n (gh O (by exact O)))
    ·refine ju fun e1 w1 hb hp bc hq=>?_
     have Y7:=wR.ao hb;refine dS (2+E) (aQ.ao hb) sZ ((Y7.at_ (i:=(f:Int)) (by omega) (by omega)).take (l:=j) (by omega)) O O O ?_;intro AZ cZ wZ hZ;rw [xg ⟨AZ,(rg dw E).n+j,cZ⟩ (gl B4 E++ (gl (nC M) f).take j)]at hZ;exact ak.n (fF.dn O ⟨AZ,cZ,O,hZ⟩)
    ·intro e1 w1 cc fB ea fz hp bc hq;show ak _ _ _ _ _ _ _;have hX:iT w1 dp N dw:=by { have ea:=tg ea (b:=1) (by kernel_rfl);rcases(show cc=0\/cc=1 by omega)with h | h; { exact(aQ.ao (fz h)).fq 1 rfl }; { subst h;obtain⟨AZ,cZ,_,hT⟩:=hq 11 _ _ (by kernel_rfl) (by kernel_rfl) (by kernel_rfl) rfl rfl (by kernel_rfl);exact hT.fq 1 rfl } }
     refine aA hX.2 O (ak.n (gh O (by exact O)))
    refine sP 1 fun e1 w1 hp bc hq=>?_
    have fC:=hp 11 _ _ (by kernel_rfl) O O (by kernel_rfl);obtain⟨AZ,cZ,YJ,hT⟩:=fC;refine uY (te:=24) (n:=N) (c:=N) (A:=dp) (xs:=dw) 1 hT O O (by exact YJ) (by omega) ?_;intro wY hY;exact ak.n (fF.st O ⟨AZ,cZ,hY⟩)
   intro u fY _ hu _ _;obtain⟨AZ,cZ,hT⟩:=hu 13 _ rfl (by kernel_rfl);rw [o6]at hT;refine fJ O (aK O (aS O (tQ ?_)));exact⟨(j+1,_,_),by show i - (j+1)<i - j;omega,(ajz O),by show j+1<=i;omega,by simp [si],gf,hT⟩
  have ou:j=M.length:=by omega
  subst ou;refine bo O (bn (cJ O (aK O (aS O (tQ ?_)))));exact⟨(f+1,dw,B4),by show F - (f+1)<F - f;omega,(ajz O),by show f+1<=F;omega,si,kg.row hM,aQ⟩
 have qN:f=F:=by omega
 subst qN;have kh:B.length=N:=by rw [hB.len,kP]
 have aat:∀e':Nat,e'<N->cs (gl B e')=gl (b6 M) e':=fun e' rY=>py.done hM (by rw [hF];exact hB) (by omega)
 have Gd:∀e':Nat,(gl B e').length<=25*f:=fun e'=>by have:=hB.num e';omega
 have kg:=hS.rd 0 O;refine bo O (bn (cJ O ?_));refine aI kg O (aV kg O ?_);refine ba O O (az O ?_);refine Cd.loop (α:=Nat×List aX) (fun z=> [(2,.pointer A2),(4,.pointer A4),(70,aj N),(71,aj (z.1:Int))]) (fun z w'=>z.1<=N/\z.2.length=N/\St w w' (bp A4 i AR N cR dp N N::(aU 24 2 dp N N z.2 (lu B z.1)++KK))) (fun z=>N - z.1) (0,jH) (ajz O) ⟨bu _,Gh,by rw [aeH];exact hS⟩ ?_;clear hS kg;rintro⟨E,dw⟩ e eA ⟨hE,si,hS⟩;dsimp only at hE si hS|-;have Kb:=aeF B E;refine b8 O (aM _ O (fun h6=>?_) (fun h6=>?_))
 ·have pJ:E<N:=by omega
  have QJ:=aeE (B:=B) (e:=E) (by omega);have ib:=aeG (B:=B) (e:=E) (by omega);have kg:=hS.rd 0 O;have lN:bL eA dp N dw (lu B E):=(hS.perm (eK (l₁:=aU 24 2 dp N N dw (lu B E))).symm).eU (by omega);have Bw:=(lN.at_ (i:=(E:Int)) (by omega) (by omega)).1;rw [QJ]at Bw;have hq:=Gd E;have sZ:(bp A4 i AR N cR dp N N::(aU 24 2 dp N N dw (lu B E)++KK))[2+E]?=some (ar 2 (rg dw E).a (rg dw E).n (rg dw E).c (gl B E)):=by
   have h0:=BJ (t1:=24) (t2:=2) (A:=dp) (n:=N) (c:=N) (rs:=dw) (xss:=lu B E) (pre:=[bp A4 i AR N cR dp N N]) (ks:=KK) (i:=E) (by omega) (by omega);rw [<-QJ];exact h0
  have aa7:=(gw.1 sZ).1;have xg:=fun(s:aX) (xs:ah)=>Lh (t1:=24) (t2:=2) (A:=dp) (n:=N) (c:=N) (rs:=dw) (xss:=lu B E) (ks:=KK) (q:=bp A4 i AR N cR dp N N) (i:=E) s xs (by omega) (by omega)
  refine aD O (aI kg O (aV kg O (aq O (aA lN.top.2 O (bQ lN.top O (aF (Tt (2+E) hS sZ (by omega)) O ?_))))));rintro _ fY ⟨rfl,bl⟩;have Dy:((bp A4 i AR N cR dp N N::(aU 24 2 dp N N dw (lu B E)++KK)).set (2+E) (ar 2 (rg dw E).a (rg dw E).n (rg dw E).c (fT (gl B E))))[2+E]?=some (ar 2 (rg dw E).a (rg dw E).n (rg dw E).c (fT (gl B E))):=by
   rw [n3,aT rfl,aT aa7]
  have e7:=xg ⟨(rg dw E).a,(rg dw E).n,(rg dw E).c⟩ (fT (gl B E));have fg:iT fY dp N dw:=by
   have h8:=bl;rw [e7]at h8;exact h8.fq 1 O
  have Fw:Rd fY A4 3 (fun q=> [Value.int .i64 (i:Int),.slice AR N cR,.slice dp N N].getD q undef):=by
   have h8:=bl;rw [e7]at h8;exact h8.rd 0 O
  refine az O ?_;refine jm [8,10] [yP (aB A4 2),yS (dp) (N) (N),yI ((E:Int)),yP (aB (A4) 2),yS (dp) (N) (N),yI ((E:Int)),yP (aB (dp) ((E:Int)).toNat),yS ((rg (dw) ((E:Int))).a) ((rg (dw) ((E:Int))).n) ((rg (dw) ((E:Int))).c),.pr (fun v w'=>v= .slice (rg dw E).a (kC (fT (gl B E))).length (rg dw E).c/\St w w' (bp A4 i AR N cR dp N N::(br 24 dp N N dw::(bF 2 (dw.set E ⟨(rg dw E).a,(kC (fT (gl B E))).length,(rg dw E).c⟩) ((lu B E).set E (kC (fT (gl B E))))++KK)))),yP (aB dp ((E:Int)).toNat),.pr (fun _ w'=>St w w' (bp A4 i AR N cR dp N N::(aU 24 2 dp N N (dw.set E ⟨(rg dw E).a,(kC (fT (gl B E))).length,(rg dw E).c⟩) ((lu B E).set E (kC (fT (gl B E))))++KK)))] (ly (ly (ly (ly (ly (ly (ly (ly (cg.2 ⟨Ye.cH (fun v w w' h hb=> ⟨h.1,h.2.ao hb⟩),(ly (cg.2 ⟨Ye.cH (fun v w w' h hb=>h.ao hb),(fun _ h=>by cases h)⟩))⟩))))))))) ?_ ?_
  ·refine⟨?_,?_,bZ O,cP fun _ _ hb _ _ _=>aI (Fw.below hb) O (bq O O),cP fun _ _ hb _ _ _=>aV (Fw.below hb) O (bq O O),bZ O,cP fun _ _ hb _ _ _=>aA (fg.ao hb).2 O (bq O O),cP fun _ _ hb _ _ _=>bQ (fg.ao hb) O (bq O O),?_,?_,?_,aw⟩
   ·intro e1 w1 cc fB ea fz hp bc hq;show ak _ _ _ _ _ _ _;have hX:Rd w1 A4 3 (fun q=> [Value.int .i64 (i:Int),.slice AR N cR,.slice dp N N].getD q undef):=by { have ea:=tg ea (b:=1) (by kernel_rfl);rcases(show cc=0\/cc=1 by omega)with h | h; { exact Rd.below Fw (fz h) }; { subst h;obtain⟨_,hT⟩:=hq 8 _ _ (by kernel_rfl) (by kernel_rfl) (by kernel_rfl) rfl rfl (by kernel_rfl);exact hT.rd 0 rfl } }
    refine aI hX O (ak.n (gh O (by exact O)))
   ·intro e1 w1 cc fB ea fz hp bc hq;show ak _ _ _ _ _ _ _;have hX:Rd w1 A4 3 (fun q=> [Value.int .i64 (i:Int),.slice AR N cR,.slice dp N N].getD q undef):=by { have ea:=tg ea (b:=1) (by kernel_rfl);rcases(show cc=0\/cc=1 by omega)with h | h; { exact Rd.below Fw (fz h) }; { subst h;obtain⟨_,hT⟩:=hq 8 _ _ (by kernel_rfl) (by kernel_rfl) (by kernel_rfl) rfl rfl (by kernel_rfl);exact hT.rd 0 rfl } }
    refine aV hX O (ak.n (gh O (by exact O)))
   ·refine ju fun e1 w1 hb hp bc hq=>?_
    refine aF (W4 (2+E) (bl.ao hb) Dy (by omega)) O ?_;rintro _ w9 ⟨rfl,bK⟩;rw [gW,xg ⟨(rg dw E).a,(kC (fT (gl B E))).length,(rg dw E).c⟩ (kC (fT (gl B E)))]at bK;exact ak.n (fF.dn O ⟨O,bK⟩)
   ·intro e1 w1 cc fB ea fz hp bc hq;show ak _ _ _ _ _ _ _;have hX:iT w1 dp N dw:=by { have ea:=tg ea (b:=1) (by kernel_rfl);rcases(show cc=0\/cc=1 by omega)with h | h; { exact fg.ao (fz h) }; { subst h;obtain⟨_,hT⟩:=hq 8 _ _ (by kernel_rfl) (by kernel_rfl) (by kernel_rfl) rfl rfl (by kernel_rfl);exact hT.fq 1 rfl } }
    refine aA hX.2 O (ak.n (gh O (by exact O)))
   refine sP 1 fun e1 w1 hp bc hq=>?_
   have fC:=hp 8 _ _ (by kernel_rfl) O O (by kernel_rfl);obtain⟨YN,hT⟩:=fC;refine uY (te:=24) (n:=N) (c:=N) (A:=dp) (xs:=dw) 1 hT O O (by exact YN) (by omega) ?_;intro wY hY;exact ak.n (fF.st O hY)
  intro u iw _ hu _ _;have hT:=hu 10 _ O (by kernel_rfl);have hT:St w iw (bp A4 i AR N cR dp N N::(aU 24 2 dp N N (dw.set E ⟨(rg dw E).a,(kC (fT (gl B E))).length,(rg dw E).c⟩) ((lu B E).set E (cs (gl B E)))++KK)):=hT;rw [ib]at hT;refine fJ O (aK O (aS O (tQ ?_)));exact⟨(E+1,_),by show N - (E+1)<N - E;omega,(ajz O),by show E+1<=N;omega,by simp [si],hT⟩
 have pJ:E=N:=by omega
 have cO:lu B E=b6 M:=by
  rw [pJ,<-kh,aeD];apply jV
  ·rw [mf,pH,kh,kP]
  intro k h1 h2;rw [mf]at h1;have e1:=aat k (by omega);rw [fm h1,fm h2]at e1;rw [List.getElem_map];exact e1
 rw [cO]at hS;refine bo O (bn (cJ O ?_));refine bI 2 (hS.rd 0 O) O O O ?_;have aE:St w eA (bp A2 0 none 0 0 none 0 0::(ar 2 AR N cR (cq M i)::(aU 24 2 dp N N dw (b6 M)++ []))):=by
  have hs:(aU 24 2 dp N N dw (b6 M)++ [ar 2 AR N cR (cq M i),bp A2 0 none 0 0 none 0 0]).Sublist (bp A4 i AR N cR dp N N::(aU 24 2 dp N N dw (b6 M)++KK)):=by
   rw [De];exact List.Sublist.cons _ (List.Sublist.append_left (List.Sublist.cons_cons _ (List.Sublist.cons_cons _ (List.nil_sublist _))) _)
  refine(hS.sub hs).perm ?_;rw [iz];exact(iK).trans (List.Perm.swap _ _ _)
 refine bS 3 0 aE O O O O O O O fun fY eo=>bD O (mH O (eo.rd 0 O) O ?_);refine .inr ⟨by omega,AR,cR,dp,N,dw,?_,by rw [kP];exact si,?_⟩
 ·rw [kP,gL];rfl
 rw [kP,gL];exact eo.tail
theorem vg{M:ag}(hM:qC M){i f:Nat}(hf:f< (gl M 0).length):(a7 M i:Int)<=cn M i f/\cn M i f< (a7 M (i+1):Int):=by
 have h1:=C2 hM i f hf;unfold cn;show _/\_< ((a7 M i+ (fE M i).toNat:Nat):Int);omega
theorem ae9{α:Type}(x a b c d e f g:α)(X Y:List α):(x::a::b::c::d::e::f::g::(X++Y)).Perm (a::b::c::d::e::f::g::((X++ [x])++Y)):=by
 classical
 refine px.2 fun z=>?_
 simp only [rz,nZ,rA];omega
theorem afa{α:Type}(x a b c d e f g:α)(X Y:List α):(x::a::b::c::d::e::f::g::(X++Y)).Perm (a::b::c::d::e::f::g::(X++ (Y++ [x]))):=by
 classical
 refine px.2 fun z=>?_
 simp only [rz,nZ,rA];omega
theorem afc{α:Type}(a b c d e f g:α)(X Y:List α):(a::b::c::d::e::f::g::(X++Y)).Perm (a::((f::X)++ (b::c::d::e::((g::Y)++ [])))):=by
 classical
 refine px.2 fun z=>?_
 simp only [rz,nZ,rA];omega
def lv(M:ag)(i:Nat):ah:=(List.range i).map fun k=> (a7 M k:Int)
def ni(M:ag)(i:Nat):ag:=(List.range i).map (cX M)
theorem aeZ(M:ag)(i:Nat):lv M (i+1)=lv M i++ [(a7 M i:Int)]:=by simp [lv,tI]
theorem ad7(M:ag)(i:Nat):ni M (i+1)=ni M i++ [cX M i]:=by simp [ni,tI]
theorem SB{M:ag}{i k:Nat}(h:k<i):gi (lv M i) k=(a7 M k:Int):=by
 rw [bX (by simp [lv];exact h)];simp [lv]
theorem Se{M:ag}{i k:Nat}(h:k<i):gl (ni M i) k=cX M k:=by
 rw [fm (by simp [ni];exact h)];simp [ni]
theorem K4(M:ag)(i:Nat):(ni M i).length=i:=by simp [ni]
def qx(M:ag)(i f k:Nat)(G:List Bool):Prop:=G.length=a7 M M.length*a7 M M.length/\∀e d:Nat,e<a7 M M.length->d<a7 M M.length->(gb G ((e*a7 M M.length+d:Nat):Int)=true↔∃f' k',(f'<f\/f'=f/\k'<k)/\f'< (gl M 0).length/\k'<i/\cn M i f'=e/\cn M k' f'=d)
theorem ae2{N e d e' d':Nat}(h1:d<N)(h2:d'<N)(h:e*N+d=e'*N+d'):e=e'/\d=d':=by
 have h3:(e*N+d) / N=e:=by rw [Nat.add_comm,Nat.add_mul_div_right _ _ (by omega),Nat.div_eq_of_lt h1,Nat.zero_add]
 have h4:(e'*N+d') / N=e':=by rw [Nat.add_comm,Nat.add_mul_div_right _ _ (by omega),Nat.div_eq_of_lt h2,Nat.zero_add]
 have h5:e=e':=by rw [<-h3,h,h4]
 subst h5;exact⟨O,by omega⟩
theorem Lw{N e d:Nat}(h1:e<N)(h2:d<N):e*N+d<N*N:=by
 have:(e+1)*N<=N*N:=Nat.mul_le_mul_right N h1;rw [Nat.succ_mul]at this;omega
theorem qx.zero(M:ag)(i:Nat):qx M i 0 0 (List.replicate (a7 M M.length*a7 M M.length) false):=by
 refine⟨by simp,fun e d he hd=>?_⟩;have:gb (List.replicate (a7 M M.length*a7 M M.length) false) ((e*a7 M M.length+d:Nat):Int)=false:=by
  simp only [gb,gB,dt,List.getElem?_replicate]
  split<;>rfl
 rw [this];constructor
 ·intro h;cases h
 rintro⟨f',k',h,_⟩;omega
theorem qx.next{M:ag}(hM:qC M){i f k:Nat}{G:List Bool}(h:qx M i f k G)(hf:f< (gl M 0).length)(hi:i<M.length)(hk:k<i):qx M i f (k+1) (G.set ((cn M i f).toNat*a7 M M.length+ (cn M k f).toNat) true):=by
 have h1:=vg hM (i:=i) hf;have h2:=vg hM (i:=k) hf;have h3:=jU M (show i+1<=M.length by omega);have h4:=jU M (show k+1<=M.length by omega);refine⟨by rw [iR];exact h.1,fun e d he hd=>?_⟩;have hl:=Lw (e:=(cn M i f).toNat) (d:=(cn M k f).toNat) (N:=a7 M M.length) (by omega) (by omega);have hg:gb (G.set ((cn M i f).toNat*a7 M M.length+ (cn M k f).toNat) true) ((e*a7 M M.length+d:Nat):Int)=if(cn M i f).toNat*a7 M M.length+ (cn M k f).toNat=e*a7 M M.length+d then true else gb G ((e*a7 M M.length+d:Nat):Int):=by
  simp only [gb,gB,dt,n3]
  by_cases e1:(cn M i f).toNat*a7 M M.length+ (cn M k f).toNat=e*a7 M M.length+d
  ·rw [aT e1,aT (by rw [h.1];exact hl),aT e1];rfl
  rw [aR e1,aR e1]
 rw [hg]
 by_cases e1:(cn M i f).toNat*a7 M M.length+ (cn M k f).toNat=e*a7 M M.length+d
 ·rw [aT e1];have:=ae2 (by omega) hd e1;exact⟨fun _=> ⟨f,k,.inr ⟨O,by omega⟩,hf,hk,by omega,by omega⟩,fun _=>O⟩
 rw [aR e1,h.2 e d he hd];constructor
 ·rintro⟨f',k',q,r⟩;exact⟨f',k',by omega,r⟩
 rintro⟨f',k',q,r1,r2,r3,r4⟩;refine⟨f',k',?_,r1,r2,r3,r4⟩
 by_cases e2:f'=f/\k'=k
 ·obtain⟨rfl,rfl⟩:=e2;exact absurd (by rw [r3,r4];rfl) e1
 omega
theorem qx.row{M:ag}{i f:Nat}{G:List Bool}(h:qx M i f i G):qx M i (f+1) 0 G:=by
 refine⟨h.1,fun e d he hd=>?_⟩;rw [h.2 e d he hd];constructor
 ·rintro⟨f',k',q,r⟩;exact⟨f',k',by omega,r⟩
 rintro⟨f',k',q,r1,r2,r3⟩;exact⟨f',k',by omega,r1,r2,r3⟩
theorem qx.done{M:ag}(hM:qC M){i:Nat}{G:List Bool}(h:qx M i (gl M 0).length 0 G)(hi:i<M.length){e d:Nat}(he:e<a7 M M.length)(hd:d<a7 M M.length):gb G ((e*a7 M M.length+d:Nat):Int)=true↔((a7 M i<=e/\e<a7 M (i+1))/\(d:Int)∈gl (b6 M) e):=by
 rw [h.2 e d he hd,pG (by omega) (by omega)];constructor
 ·rintro⟨f',k',_,r1,r2,r3,r4⟩;have:=vg hM (i:=i) r1;exact⟨by omega,by omega,f',r1,i,hi,k',r2,r3.symm,r4.symm⟩
 rintro⟨h1,_,f',r1,i',dI,k',r2,r3,r4⟩;have h5:=vg hM (i:=i') r1;have:i'=i:=by
  rcases Nat.lt_trichotomy i' i with h | h | h
  ·have:=jU M (show i'+1<=i by omega);omega
  ·exact h
  have:=jU M (show i+1<=i' by omega);omega
 subst this;exact⟨f',k',by omega,r1,r2,r3.symm,r4.symm⟩
noncomputable def rE(M:ag)(i e d x:Nat):ah:=if x<a7 M i then gl (b6 M) x else if a7 M (i+1)<=x then []else if x<e then gl (b6 M) x else if x=e then(gl (b6 M) x).filter fun y=>decide (y<d)else []
noncomputable def fM(M:ag)(i e d:Nat):ag:=(List.range (a7 M M.length)).map (rE M i e d)
theorem wB(M:ag)(i e d:Nat):(fM M i e d).length=a7 M M.length:=by simp [fM]
theorem Nd{M:ag}{i e d x:Nat}(h:x<a7 M M.length):gl (fM M i e d) x=rE M i e d x:=by
 rw [fm (by rw [wB];exact h)];simp [fM]
theorem XU{M:ag}{e:Nat}(he:e<a7 M M.length):gl (b6 M) e=(gl (b6 M) e).filter (fun y=>decide (y< (a7 M M.length:Int))):=by
 refine(List.filter_eq_self.2 fun y hy=>?_).symm;rw [pG (by omega) (by omega)]at hy;exact eC hy.1.2
theorem Ox(M:ag)(e:Int):SA (gl (b6 M) e):=by
 have cO:∀l∈b6 M,SA l:=fun l hl=>by
  unfold b6 at hl;obtain⟨x,_,rfl⟩:=eh.1 hl;exact tG _ (vT _)
 by_cases h:e.toNat< (b6 M).length
 ·have:gl (b6 M) e=gl (b6 M) (e.toNat:Int):=by simp only [gl,gB]
  rw [this,fm h];exact cO _ (fe _)
 have:gl (b6 M) e=[]:=by simp [gl,dt,qy (Nat.le_of_not_lt h)]
 rw [this];exact List.Pairwise.nil
theorem XV{M:ag}(hM:qC M){e:Nat}(he:e<a7 M 1):gl (b6 M) e=[]:=by
 have h5:=hM.1;have Kc:=jU M (show 1<=M.length by omega);refine List.eq_nil_iff_forall_not_mem.2 fun y hy=>?_
 rw [pG (by omega) (by omega)]at hy;obtain⟨_,f,hf,i,hi,k,hk,h1,_⟩:=hy;have h2:=vg hM (i:=i) hf;have h3:=jU M (show 1<=i by omega);omega
theorem Wj{M:ag}(hM:qC M):fM M 1 0 0=List.replicate (a7 M M.length) []:=by
 apply jV (by simp [fM]);intro x h1 h2;rw [wB]at h1;simp only [fM,List.getElem_map,List.getElem_range,List.getElem_replicate];unfold rE
 split
 ·exact XV hM (by assumption)
 split
 ·rfl
 split
 ·omega
 split
 ·rename_i h;subst h;rw [List.filter_eq_nil_iff];intro y hy h;have:=rb h;rw [pG (by omega) (by omega)]at hy;omega
 rfl
theorem Wi{M:ag}{i:Nat}:fM M i (a7 M M.length) 0=fM M (i+1) 0 0:=by
 unfold fM;refine pw fun x hx=>?_
 have hx:=nu.1 hx;have h1:=jU M (show i+1<=i+1+1 by omega);have h2:=jU M (show i<=i+1 by omega);have hz:∀y∈gl (b6 M) x,0<=y:=fun y hy=>by rw [pG (by omega) (by omega)]at hy;omega
 unfold rE
 by_cases c1:x<a7 M i
 ·rw [aT c1,aT (by omega)]
 rw [aR c1]
 by_cases c2:x<a7 M (i+1)
 ·rw [aR (by omega),aT hx,aT c2]
 rw [aT (by omega),aR c2]
 split
 ·rfl
 rw [aR (by omega)]
 split
 ·rename_i h;subst h;symm;rw [List.filter_eq_nil_iff];intro y hy h;have:=rb h;have:=hz y hy;omega
 rfl
theorem Wl{M:ag}{i e:Nat}:fM M i e (a7 M M.length)=fM M i (e+1) 0:=by
 unfold fM;refine pw fun x hx=>?_
 have hx:=nu.1 hx;have hz:∀y∈gl (b6 M) x,0<=y:=fun y hy=>by rw [pG (by omega) (by omega)]at hy;omega
 unfold rE
 by_cases c1:x<a7 M i
 ·rw [aT c1,aT c1]
 rw [aR c1,aR c1]
 by_cases c2:a7 M (i+1)<=x
 ·rw [aT c2,aT c2]
 rw [aR c2,aR c2]
 by_cases c3:x<e
 ·rw [aT c3,aT (by omega)]
 rw [aR c3]
 by_cases c4:x=e
 ·rw [aT c4,aT (by omega),<-XU hx]
 rw [aR c4,aR (by omega)]
 split
 ·rename_i h;subst h;symm;rw [List.filter_eq_nil_iff];intro y hy h;have:=rb h;have:=hz y hy;omega
 rfl
theorem Wm{M:ag}{i e d:Nat}(he:e<a7 M M.length)(hd:d<a7 M M.length)(h:¬((a7 M i<=e/\e<a7 M (i+1))/\(d:Int)∈gl (b6 M) e)):fM M i e (d+1)=fM M i e d:=by
 unfold fM;refine pw fun x hx=>?_
 unfold rE
 by_cases c1:x<a7 M i
 ·rw [aT c1,aT c1]
 rw [aR c1,aR c1]
 by_cases c2:a7 M (i+1)<=x
 ·rw [aT c2,aT c2]
 rw [aR c2,aR c2]
 by_cases c3:x<e
 ·rw [aT c3,aT c3]
 rw [aR c3,aR c3]
 by_cases c4:x=e
 ·subst c4;rw [aT rfl,aT rfl];refine List.filter_congr fun y hy=>?_
  have cS:y≠(d:Int):=fun e=>h ⟨by omega,e▸hy⟩
  exact nA.2 (by omega)
 rw [aR c4,aR c4]
theorem Wk{M:ag}{i e d:Nat}(he:e<a7 M M.length)(h:(a7 M i<=e/\e<a7 M (i+1))/\(d:Int)∈gl (b6 M) e):(fM M i e d).set e (gl (fM M i e d) e++ [(d:Int)])=fM M i e (d+1):=by
 apply jV (by simp [fM]);intro x h1 h2;rw [wB]at h2;rw [List.getElem_set];have e2:∀d' (hx:x< (fM M i e d').length),(fM M i e d')[x]=rE M i e d' x:=fun d' hx=>by simp [fM]
 rw [e2 (d+1) (by rw [wB];exact h2),e2 d (by rw [wB];exact h2)]
 by_cases c:e=x
 ·subst c;rw [aT rfl,Nd he];have hz:∀d':Nat,rE M i e d' e=(gl (b6 M) e).filter fun y=>decide (y< (d':Int)):=fun d'=>by
   unfold rE;rw [aR (by omega),aR (by omega),aR (by omega),aT rfl]
  rw [hz,hz];have hs:=Ox M e;refine SA.eq ?_ (tG _ hs) fun y=>?_
  ·rw [SA,List.pairwise_append];refine⟨tG _ hs,List.pairwise_singleton _ _,fun a ha b hb=>?_⟩;obtain rfl:=dK.1 hb;exact rb (ja.1 ha).2
  rw [eD,ja,ja,dK];simp only [nB];constructor
  ·rintro(⟨h3,h4⟩ | rfl)
   ·exact⟨h3,by omega⟩
   exact⟨h.2,by omega⟩
  rintro⟨h3,h4⟩
  by_cases e3:y=(d:Int)
  ·exact .inr e3
  exact .inl ⟨h3,by omega⟩
 rw [aR c];unfold rE
 by_cases c1:x<a7 M i
 ·rw [aT c1,aT c1]
 rw [aR c1,aR c1]
 by_cases c2:a7 M (i+1)<=x
 ·rw [aT c2,aT c2]
 rw [aR c2,aR c2]
 by_cases c3:x<e
 ·rw [aT c3,aT c3]
 rw [aR c3,aR c3,aR (fun h=>c h.symm),aR (fun h=>c h.symm)]
theorem Wh{M:ag}:fM M M.length 0 0=b6 M:=by
 apply jV (by rw [wB,pH]);intro x h1 h2;rw [wB]at h1;simp only [fM,List.getElem_map,List.getElem_range];unfold rE;rw [aT h1,fm h2]
theorem afd{α:Type}(x y p r i q b:α):[x,y,p,r,i,q,b].Perm [p,x,i,q,b,y,r]:=by
 classical
 refine px.2 fun z=>?_
 simp only [nZ,rA];omega
theorem vV{t:ad}{rs:List aX}{xss:ag}{a:ai}{n c:Nat}{x:ah}(h:rs.length=xss.length):bF t (rs++ [⟨a,n,c⟩]) (xss++ [x])=bF t rs xss++ [ar t a n c x]:=by
 rw [tp h];rfl
abbrev vR(A1 A2 A4 A5 A6:ai)(A:ai)(n c:Nat)(M:ag)(i j i':Nat)(AR:ai)(cR:Nat)(AD:ai)(cD:Nat)(bN:List aX)(c5 c6:Nat)(gu:List aX):List Ck:=
 bp A4 n AR (a7 M i+j) cR AD (a7 M i+j) cD::ar 2 AR (a7 M i+j) cR (cq M i++List.replicate j (i:Int))::ar 2 A5 i' c5 (lv M i')::bp A2 0 none 0 0 none 0 0::Bx 31 1 A1 [.slice A n c]::br 24 AD (a7 M i+j) cD bN::br 24 A6 i' c6 gu::(bF 2 bN (List.replicate (a7 M i+j) [])++bF 2 gu (ni M i'))
theorem Sq{t1 t2:ad}{A:ai}{n c:Nat}{rs:List aX}{xss:ag}{pre ks:List Ck}{i:Nat}(s:aX)(xs:ah)(hr:rs.length=xss.length)(hi:i<rs.length):(pre++ (aU t1 t2 A n c rs xss++ks)).set (pre.length+1+i) (ar t2 s.a s.n s.c xs)=pre++ (br t1 A n c rs::(bF t2 (rs.set i s) (xss.set i xs)++ks)):=by
 rw [List.set_append_right _ _ (by omega),show pre.length+1+i - pre.length=i+1 by omega]
 congr 1
 show(br t1 A n c rs::(bF t2 rs xss++ks)).set (i+1) _=_;rw [List.set_cons_succ,List.set_append_left _ _ (by rw [tq hr];exact hi),G1 hr]
abbrev nU(A1 A2 A5 A6:ai)(A:ai)(n c:Nat)(M:ag)(AR:ai)(N cR c5 c6:Nat)(gu:List aX):List Ck:=
 ar 2 AR N cR (cq M n)::ar 2 A5 n c5 (lv M n)::bp A2 0 none 0 0 none 0 0::Bx 31 1 A1 [.slice A n c]::(aU 24 2 A6 n c6 gu (ni M n)++ [])
theorem KV(A:ai)(n c:Nat)(rs:List aX)(M:ag)(w:aa)(hR:bL w A n rs M)(hM:qC M):
 aG prog 80 [.agg #[.slice A n c]] w (fun v w'=>∃AR cR AD cD bN,v= .agg #[aj (M.length:Int),.slice AR (a7 M M.length) cR,.slice AD (a7 M M.length) cD]/\bN.length=a7 M M.length/\St w w' (ar 2 AR (a7 M M.length) cR (cq M M.length)::(aU 24 2 AD (a7 M M.length) cD bN (b6 M)++ []))):=by
 have hl:=hR.len;have h1:=hM.1;have h2:=hM.2.1;have xr:∀i,i<=n->a7 M i<=2000:=fun i hi=>by
  have h3:=BO (M:=M) i;have h4:i* (gl M 0).length<=5*400:=Nat.mul_le_mul (by omega) (by omega);omega
 refine bw func80 O ntmps80 O (kX O O) (bb O (mQ (St.refl w) O O ?_));intro A1 w1 aC;refine jc aC O fun A2 w2 aE=>aq O (aI (aE.rd 1 O) O (aV (aE.rd 1 O) O ?_));refine ba O O (aq O ?_);refine CD (by exact inferInstance) (by exact inferInstance) (by exact inferInstance) O O O O O O (fZ aE O ?_);intro A5 w3 aH;refine fZ aH O fun A6 w4 aQ=>jc aQ O fun A4 w5 a8=>bS 3 0 a8 O O O O O O O ?_;intro w6 bg;have bg:St w w6 (vR A1 A2 A4 A5 A6 A n c M 0 0 0 none 0 none 0 [] 0 0 []):=by
  have h7:=(bg.nil 24).nil 2;exact h7.perm (afd _ _ _ _ _ _ _)
 clear a8 aQ aH aE aC;refine az O ?_;refine Cd.loop (α:=Nat×(ai×Nat)×(ai×Nat×List aX)×(ai×Nat)×(ai×Nat×List aX)) (fun z=> [(1,.pointer A1),(2,.pointer A2),(3,aj n),(4,.pointer A4),(5,.slice z.2.2.2.1.1 z.1 z.2.2.2.1.2),(6,.slice z.2.2.2.2.1 z.1 z.2.2.2.2.2.1),(7,aj (z.1:Int))])
  (fun z w'=>z.1<=n/\z.2.2.1.2.2.length=a7 M z.1/\z.2.2.2.2.2.2.length=z.1/\St w w' (vR A1 A2 A4 z.2.2.2.1.1 z.2.2.2.2.1 A n c M z.1 0 z.1 z.2.1.1 z.2.1.2 z.2.2.1.1 z.2.2.1.2.1 z.2.2.1.2.2 z.2.2.2.1.2 z.2.2.2.2.2.1 z.2.2.2.2.2.2)) (fun z=>n - z.1) (0,(none,0),(none,0,[]),(A5,0),(A6,0,[])) ⟨rfl,rfl,rfl,rfl,rfl,rfl,rfl,aw⟩ ⟨bu _,rfl,rfl,bg⟩ ?_
 clear bg;rintro⟨i,⟨AR,cR⟩,⟨AD,cD,bN⟩,⟨A5,c5⟩,⟨A6,c6,gu⟩⟩ e w7 ⟨hi,pT,s8,hS⟩;dsimp only at hi pT s8 hS|-;have QR:=xr i hi;refine b8 O (aM _ O (fun h3=>?_) (fun h3=>?_))
 ·have da:i<n:=by omega
  have xm:=rH M i;have ow:=xr (i+1) (by omega);have yZ:a7 M (i+1)=a7 M i+ (fE M i).toNat:=O;obtain⟨N,hN⟩:∃N:Nat,fE M i=N:=⟨(fE M i).toNat,by omega⟩;rw [hN,gB]at yZ;have Dz:=XF hM i;rw [hN]at Dz xm;have Dx:cq M (i+1)=cq M i++List.replicate N (i:Int):=by rw [cq,hN,gB]
  refine aD O (aI (hS.rd 0 O) O (aV (hS.rd 0 O) O (ba O O (dE hS O O O ?_))));intro T8 w8 bK;refine dS 3 bK O (bK.bk 0 O) O O O ?_;intro tE u9 w9 bh;have bh:=bh.tail;have e5:lv M i++ [((a7 M i+0:Nat):Int)]=lv M (i+1):=(aeZ M i).symm;rw [e5]at bh;clear bK hS;refine aq O (bI 0 (bh.rd 4 O) O O O (aq O (aF (adA A n c rs M i _ (bh.cV hR) hM da) O ?_)));rintro _ dA ⟨qo,vb,rfl,ax⟩;have cj:=bh.call ax;clear ax bh;refine lU cj O O O fun dp eA eI=>lS 8 eI O (eI.fq 0 O) O O O (by omega) (by omega) O ?_;intro qq sM fY eo;have eo:St w fY (ar 2 qo (gl M 0).length vb (cX M i)::bp A4 n AR (a7 M i+0) cR AD (a7 M i+0) cD::ar 2 AR (a7 M i+0) cR (cq M i++List.replicate 0 (i:Int))::ar 2 tE (i+1) u9 (lv M (i+1))::bp A2 0 none 0 0 none 0 0::Bx 31 1 A1 [.slice A n c]::br 24 AD (a7 M i+0) cD bN::br 24 qq (i+1) sM (gu++ [⟨qo,(gl M 0).length,vb⟩])::(bF 2 bN (List.replicate (a7 M i+0) [])++bF 2 gu (ni M i))):=eo.tail;have eo:St w fY (vR A1 A2 A4 tE qq A n c M i 0 (i+1) AR cR AD cD bN u9 sM (gu++ [⟨qo,(gl M 0).length,vb⟩])):=by
   have h9:=eo.perm (afa _ _ _ _ _ _ _ _ _ _);rw [<-vV (by rw [s8,K4]),<-ad7]at h9;exact h9
  have QZ:(gu++ [(⟨qo,(gl M 0).length,vb⟩:aX)]).length=i+1:=by simp [s8]
  have Qp:rg (gu++ [(⟨qo,(gl M 0).length,vb⟩:aX)]) i=⟨qo,(gl M 0).length,vb⟩:=by
   unfold rg;rw [gB,dt,jW (by omega),s8,Nat.sub_self];rfl
  clear cj eI;generalize gu++ [(⟨qo,(gl M 0).length,vb⟩:aX)]=sA at*;have eJ:iT fY qq (i+1) sA:=eo.fq 6 O;have yy:bt fY qo (gl M 0).length (cX M i):=by
   have hk6:bF 2 sA (ni M (i+1))≠[]\/True:= .inr aw;have h7:=vU (t:=2) (rs:=sA) (xss:=ni M (i+1)) (i:=i) (by rw [QZ,K4]) (by omega);have h8:=eo.sub (show(bF 2 sA (ni M (i+1))).Sublist (vR A1 A2 A4 tE qq A n c M i 0 (i+1) AR cR AD cD bN u9 sM sA) from(((((((dz _ _).cons _).cons _).cons _).cons _).cons _).cons _).cons _);have h9:=h8.bk i h7;have e8:sA.getD i bW=⟨qo,(gl M 0).length,vb⟩:=Qp;have e9:(ni M (i+1)).getD i []=cX M i:=Se (show i<i+1 by omega);rw [e8,e9]at h9;exact h9
  refine aq O (aA eJ.2 O (bQ eJ O ?_));rw [Qp];refine ajq (RY qo (gl M 0).length vb (cX M i) _ yy (by omega) (fun x hx=>by
   obtain⟨k,hk,rfl⟩:=gj.1 hx;rw [Fi]at hk;have:=C2 hM i k hk;rw [bX (by rw [Fi];exact hk)]at this;omega)) rfl rfl rfl ?_
  rintro _ fY ⟨rfl,rfl⟩;rw [Dz];refine az O ?_;clear eJ yy;refine Cd.loop (α:=Nat×(ai×Nat)×(ai×Nat×List aX)) (fun z=> [(1,.pointer A1),(2,.pointer A2),(3,aj n),(4,.pointer A4),(5,.slice tE (i+1) u9),(6,.slice qq (i+1) sM),(7,aj i),(8,aj ((N:Int) - (z.1:Int)))])
   (fun z w'=>z.1<=N/\z.2.2.2.2.length=a7 M i+z.1/\St w w' (vR A1 A2 A4 tE qq A n c M i z.1 (i+1) z.2.1.1 z.2.1.2 z.2.2.1 z.2.2.2.1 z.2.2.2.2 u9 sM sA)) (fun z=>N - z.1) (0,(AR,cR),(AD,cD,bN)) ⟨rfl,rfl,rfl,rfl,rfl,rfl,rfl,aL (Value.int .i64) (by show(N:Int)=(N:Int) - ((0:Nat):Int);omega),aw⟩ ⟨bu _,pT,eo⟩ ?_
  clear eo;rintro⟨j,⟨BR,dR⟩,⟨BD,dD,oG⟩⟩ e iw ⟨hj,vG,hS⟩;dsimp only at hj vG hS|-;refine b8 O (aM _ O (fun h4=>?_) (fun h4=>?_))
  ·have xo:j<N:=by omega
   refine aD O (aI (hS.rd 0 O) O (aV (hS.rd 0 O) O (aq O (dE hS O O O ?_))));intro A52 rq l9;refine dS 2 l9 O (l9.bk 0 O) O O O ?_;intro ED E5 uR kD;have hB:=kD.rd 1 O;refine aI hB O (ke 1 kD O O O O O ?_);intro zx mW;have mW:=mW.tail;clear l9 kD hB hS;refine aq O ?_;have hB:=mW.rd 0 O;refine aI hB O (aV hB O (fZ mW O ?_));intro po tD Jx;have Jx:St w tD (ar 2 po 0 0 []::_):=Jx;refine lU Jx O O O fun tF w18 PI=>lS 7 PI O (PI.fq 0 O) O O O (by omega) (by omega) O ?_;intro x9 E6 Md PJ;have hB:=PJ.rd 2 O;refine aI hB O (ke 2 PJ O O O O O ?_);intro iH jg;have jg:St w iH (ar 2 po 0 0 []::bp A4 n ED (a7 M i+j+1) E5 x9 (a7 M i+j+1) E6::ar 2 ED (a7 M i+j+1) E5 ((cq M i++List.replicate j (i:Int))++ [(i:Int)])::ar 2 tE (i+1) u9 (lv M (i+1))::bp A2 0 none 0 0 none 0 0::Bx 31 1 A1 [.slice A n c]::br 24 x9 (a7 M i+j+1) E6 (oG++ [⟨po,0,0⟩])::br 24 qq (i+1) sM sA::(bF 2 oG (List.replicate (a7 M i+j) [])++bF 2 sA (ni M (i+1)))):=jg.tail;have ZM:St w iH (vR A1 A2 A4 tE qq A n c M i (j+1) (i+1) ED E5 x9 E6 (oG++ [⟨po,0,0⟩]) u9 sM sA):=by
    have h9:=jg.perm (ae9 _ _ _ _ _ _ _ _ _ _);rw [<-vV (by rw [vG,List.length_replicate]),fK,<-List.replicate_succ',<-List.replicate_succ']at h9;exact h9
   refine aq O (dq O (aS O (tQ ?_)));exact⟨(j+1,(ED,E5),(x9,E6,oG++ [⟨po,0,0⟩])),by show N - (j+1)<N - j;omega,⟨O,O,O,O,O,O,O,aL (Value.int .i64) (by show(N:Int) - (j:Int) - 1=(N:Int) - ((j+1:Nat):Int);omega),aw⟩,by show j+1<=N;omega,by show(oG++ [_]).length=a7 M i+ (j+1);rw [dh,vG];rfl,ZM⟩
  ·have xo:j=N:=by omega
   subst xo;refine bo O (bn (cJ O (aK O (aS O (tQ ?_)))));refine⟨(i+1,(BR,dR),(BD,dD,oG),(tE,u9),(qq,sM,sA)),by show n - (i+1)<n - i;omega,(ajz O),by show i+1<=n;omega,by rw [yZ];exact vG,QZ,?_⟩;show St w iw (vR A1 A2 A4 tE qq A n c M (i+1) 0 (i+1) BR dR BD dD oG u9 sM sA);unfold vR at hS|-;rw [<-yZ,<-Dx]at hS;rw [Nat.add_zero,List.replicate_zero,iz];exact hS
 obtain rfl:i=n:=by omega
 have gL:M.length=i:=hl;obtain⟨N,hK⟩:∃N,a7 M i=N:=⟨_,rfl⟩;have kP:a7 M M.length=N:=by rw [gL,hK]
 have hsq:N*N<=4000000:=iS (Nat.mul_le_mul (show N<=2000 by omega) (show N<=2000 by omega)) (by decide);have PK:St w w7 (bp A4 i AR N cR AD N cD::(aU 24 2 AD N cD bN (fM M 1 0 0)++nU A1 A2 A5 A6 A i c M AR N cR c5 c6 gu)):=by
  rw [Wj hM,kP];unfold vR at hS;rw [Nat.add_zero,hK,List.replicate_zero,iz]at hS;exact hS.perm (afc _ _ _ _ _ _ _ _ _)
 clear hS;rw [hK]at pT;refine bo O (bn (nY O ?_));refine Cd.loop (α:=Nat×List aX) (fun z=> [(1,.pointer A1),(2,.pointer A2),(3,aj i),(4,.pointer A4),(5,.slice A5 i c5),(6,.slice A6 i c6),(9,aj (z.1:Int))])
  (fun z w'=> (1<=z.1/\z.1<=i)/\z.2.length=N/\St w w' (bp A4 i AR N cR AD N cD::(aU 24 2 AD N cD z.2 (fM M z.1 0 0)++nU A1 A2 A5 A6 A i c M AR N cR c5 c6 gu))) (fun z=>i - z.1) (1,bN) ⟨rfl,rfl,rfl,rfl,rfl,rfl,rfl,aw⟩ ⟨⟨dC _,by show 1<=i;omega⟩,pT,PK⟩ ?_
 clear PK;rintro⟨k,oG⟩ e w8 ⟨⟨fA,fo⟩,vG,hS⟩;dsimp only at fA fo vG hS|-;refine b8 O (aM _ O (fun h4=>?_) (fun h4=>?_))
 ·have qQ:k<i:=by omega
  refine aD O (aI (hS.rd 0 O) O (aV (hS.rd 0 O) O ?_));refine ba O O (aq O ?_);refine iL O O O (by have:((N*N:Nat):Int)=(N:Int)* (N:Int):=Int.natCast_mul N N;omega) ?_;rw [show(N:Int)* (N:Int)=((N*N:Nat):Int) from(Int.natCast_mul N N).symm];refine zH (v:=false) (N*N) hS O O (by omega) fun gv w9 bh=>az O ?_;refine Cd.loop (α:=Nat×List Bool) (fun z=> [(1,.pointer A1),(2,.pointer A2),(3,aj i),(4,.pointer A4),(5,.slice A5 i c5),(6,.slice A6 i c6),(9,aj k),(10,aj N),(11,.slice gv (N*N) (N*N)),(12,aj (z.1:Int))])
   (fun z w'=>z.1<=(gl M 0).length/\qx M k z.1 0 z.2/\St w w' (iy 4 gv (N*N) (N*N) z.2::bp A4 i AR N cR AD N cD::(aU 24 2 AD N cD oG (fM M k 0 0)++nU A1 A2 A5 A6 A i c M AR N cR c5 c6 gu))) (fun z=> (gl M 0).length - z.1) (0,List.replicate (N*N) false) ⟨rfl,rfl,rfl,rfl,rfl,rfl,rfl,rfl,rfl,rfl,aw⟩ ⟨bu _,by have:=qx.zero M k;rwa [kP]at this,bh⟩ ?_
  clear bh hS;rintro⟨f,G⟩ e dA ⟨hf,hG,hS⟩;dsimp only at hf hG hS|-;have Kr:∀(G:List Bool) (q:List aX) (B:ag),(nU A1 A2 A5 A6 A i c M AR N cR c5 c6 gu).Sublist (iy 4 gv (N*N) (N*N) G::bp A4 i AR N cR AD N cD::(aU 24 2 AD N cD q B++nU A1 A2 A5 A6 A i c M AR N cR c5 c6 gu)):=fun G q B=> ((dz _ _).cons _).cons _
  have ab5:(aU 24 2 A6 i c6 gu (ni M i)).Sublist (nU A1 A2 A5 A6 A i c M AR N cR c5 c6 gu):=by
   refine List.Sublist.cons _ (List.Sublist.cons _ (List.Sublist.cons _ (List.Sublist.cons _ ?_)));rw [iz];exact dY _
  have kf:=(hS.sub (Kr _ _ _)).rd 3 O;refine bb O (bI 0 kf O O O (aF (xH A i c rs M _ (hS.cV hR) (by omega)) O ?_));rintro _ eA ⟨rfl,ax⟩;have hS:=hS.ao ax.below;clear ax kf;refine az O (aM _ O (fun h5=>?_) (fun h5=>?_))
  ·have qN:f< (gl M 0).length:=by omega
   refine cW O ?_;refine Cd.loop (α:=Nat×List Bool) (fun z=> [(1,.pointer A1),(2,.pointer A2),(3,aj i),(4,.pointer A4),(5,.slice A5 i c5),(6,.slice A6 i c6),(9,aj k),(10,aj N),(11,.slice gv (N*N) (N*N)),(12,aj f),(13,aj (z.1:Int))])
    (fun z w'=>z.1<=k/\qx M k f z.1 z.2/\St w w' (iy 4 gv (N*N) (N*N) z.2::bp A4 i AR N cR AD N cD::(aU 24 2 AD N cD oG (fM M k 0 0)++nU A1 A2 A5 A6 A i c M AR N cR c5 c6 gu))) (fun z=>k - z.1) (0,G) ⟨rfl,rfl,rfl,rfl,rfl,rfl,rfl,rfl,rfl,rfl,rfl,aw⟩ ⟨bu _,hG,hS⟩ ?_
   clear hS hG;rintro⟨j,G⟩ e fY ⟨hj,hG,hS⟩;dsimp only at hj hG hS|-;refine b8 O (aM _ O (fun h6=>?_) (fun h6=>?_))
   ·have F5:j<k:=by omega
    have AH:bt fY A5 i (lv M i):=(hS.sub (Kr _ _ _)).bk 1 O;have oj:bL fY A6 i gu (ni M i):=(hS.sub (ab5.trans (Kr _ _ _))).nn (K4 M i);have ew:=oj.at_ (i:=(k:Int)) (by omega) (by omega);have Gg:=oj.at_ (i:=(j:Int)) (by omega) (by omega);rw [Se (by omega)]at ew Gg;have hkn9:(rg gu k).n=(gl M 0).length:=by rw [<-ew.1,Fi]
    have hjn9:(rg gu j).n=(gl M 0).length:=by rw [<-Gg.1,Fi]
    have o1:=SB (M:=M) (i:=i) (k:=k) (by omega);have o2:=SB (M:=M) (i:=i) (k:=j) (by omega);have e1:=vg hM (i:=k) qN;have e2:=vg hM (i:=j) qN;have m1:=jU M (show k+1<=M.length by omega);have m2:=jU M (show j+1<=M.length by omega);rw [kP]at m1 m2;have f1:gi (lv M i) k+gi (cX M k) f=cn M k f:=by rw [o1];rfl
    have f2:gi (lv M i) j+gi (cX M j) f=cn M j f:=by rw [o2];rfl
    obtain⟨E,hE⟩:∃E:Nat,cn M k f=E:=⟨(cn M k f).toNat,by omega⟩;obtain⟨D,hD⟩:∃D:Nat,cn M j f=D:=⟨(cn M j f).toNat,by omega⟩;have gf:=hG.next hM qN (by omega) F5;rw [hE,hD,kP,gB,gB]at gf;rw [hE]at e1 f1;rw [hD]at e2 f2;have ox:=Lw (N:=N) (e:=E) (d:=D) (by omega) (by omega);have pJ:((E*N:Nat):Int)=(E:Int)* (N:Int):=Int.natCast_mul E N;have hle:E*N<=N*N:=Nat.mul_le_mul_right N (by omega);have fB:=C2 hM k f qN;have hlo2:=C2 hM j f qN;have DD:(E:Int)* (N:Int)+gi (lv M i) j+gi (cX M j) f=((E*N+D:Nat):Int):=by omega
    refine cW O ?_;refine jm [29] [yS (gv) (N*N) (N*N),yS (A5) (i) (c5),yI ((k:Int)),yP (aB (A5) ((k:Int)).toNat),yI (gi (lv M i) ((k:Int))),yS (A6) (i) (c6),yI ((k:Int)),yP (aB (A6) ((k:Int)).toNat),yS ((rg (gu) ((k:Int))).a) ((rg (gu) ((k:Int))).n) ((rg (gu) ((k:Int))).c),yI ((f:Int)),yP (aB ((rg (gu) ((k:Int))).a) ((f:Int)).toNat),yI (gi (cX M k) ((f:Int))),yI ((gi (lv M i) ((k:Int)))+ (gi (cX M k) ((f:Int)))),yI ((N:Int)),yI ((E:Int)* (N:Int)),yS (A5) (i) (c5),yI ((j:Int)),yP (aB (A5) ((j:Int)).toNat),yI (gi (lv M i) ((j:Int))),yI (((E:Int)* (N:Int))+ (gi (lv M i) ((j:Int)))),yS (A6) (i) (c6),yI ((j:Int)),yP (aB (A6) ((j:Int)).toNat),yS ((rg (gu) ((j:Int))).a) ((rg (gu) ((j:Int))).n) ((rg (gu) ((j:Int))).c),yI ((f:Int)),yP (aB ((rg (gu) ((j:Int))).a) ((f:Int)).toNat),yI (gi (cX M j) ((f:Int))),yI ((((E:Int)* (N:Int))+ (gi (lv M i) ((j:Int))))+ (gi (cX M j) ((f:Int)))),yP (aB (gv) ((((E:Int)* (N:Int))+ (gi (lv M i) ((j:Int))))+ (gi (cX M j) ((f:Int)))).toNat),.pr (fun _ w'=>St w w' (iy 4 gv (N*N) (N*N) (G.set (E*N+D) true)::bp A4 i AR N cR AD N cD::(aU 24 2 AD N cD oG (fM M k 0 0)++nU A1 A2 A5 A6 A i c M AR N cR c5 c6 gu)))] (ly (ly (ly (ly (ly (ly (ly (ly (ly (ly (ly (ly (ly (ly (ly (ly (ly (ly (ly (ly (ly (ly (ly (ly (ly (ly (ly (ly (ly (cg.2 ⟨Ye.cH (fun v w w' h hb=>h.ao hb),(fun _ h=>by cases h)⟩)))))))))))))))))))))))))))))) ?_ ?_
    ·refine⟨bZ O,bZ O,bZ O,cP fun _ _ hb _ _ _=>aA (AH.ao hb).2 O (bq O O),cP fun _ _ hb _ _ _=>aY (AH.ao hb) O (bq O O),bZ O,bZ O,cP fun _ _ hb _ _ _=>aA (oj.top.ao hb).2 O (bq O O),cP fun _ _ hb _ _ _=>bQ (oj.top.ao hb) O (bq O O),bZ O,cP fun _ _ hb _ _ _=>aA (ew.ao hb).2 O (bq O O),cP fun _ _ hb _ _ _=>aY (ew.ao hb) O (bq O O),aP fun _ _=>aK O (bq O O),bZ O,aP fun _ _=>iL (i:=(E:Int)) (j:=(N:Int)) (by exact aL (Value.int .i64) f1) O O (by omega) (bq O O),bZ O,bZ O,cP fun _ _ hb _ _ _=>aA (AH.ao hb).2 O (bq O O),cP fun _ _ hb _ _ _=>aY (AH.ao hb) O (bq O O),aP fun _ _=>aK O (bq O O),bZ O,bZ O,cP fun _ _ hb _ _ _=>aA (oj.top.ao hb).2 O (bq O O),cP fun _ _ hb _ _ _=>bQ (oj.top.ao hb) O (bq O O),bZ O,cP fun _ _ hb _ _ _=>aA (Gg.ao hb).2 O (bq O O),cP fun _ _ hb _ _ _=>aY (Gg.ao hb) O (bq O O),aP fun _ _=>aK O (bq O O),cP fun _ _ hb _ _ _=>aA ((hS.kY 0 O).ao hb).2 O (bq O O),?_,aw⟩
     ·refine ju fun e1 w1 hb hp bc hq=>?_
      refine wv 0 (hS.ao hb) O O O (by omega) fun w6 bg=>ak.n ?_;exact fF.st O (by rw [DD,gB]at bg;exact bg)
    intro u iw _ hu _ _;have hT:=hu 29 _ O (by kernel_rfl);refine fJ O (aK O (aS O (tQ ?_)));exact⟨(j+1,_),by show k - (j+1)<k - j;omega,(ajz O),by show j+1<=k;omega,gf,hT⟩
   ·have F5:j=k:=by omega
    subst F5;refine bo O (bn (cJ O (aK O (aS O (tQ ?_)))));exact⟨(f+1,G),by show(gl M 0).length - (f+1)< (gl M 0).length - f;omega,(ajz O),by show f+1<=(gl M 0).length;omega,hG.row,hS⟩
  ·have qN:f=(gl M 0).length:=by omega
   subst qN;have iV:=fun e d he hd=>hG.done hM (show k<M.length by omega) (e:=e) (d:=d) he hd
   rw [kP]at iV;have hGl:G.length=N*N:=by have:=hG.1;rwa [kP]at this
   refine bo O (bn (nY O ?_));refine Cd.loop (α:=Nat×List aX) (fun z=> [(1,.pointer A1),(2,.pointer A2),(3,aj i),(4,.pointer A4),(5,.slice A5 i c5),(6,.slice A6 i c6),(9,aj k),(10,aj N),(11,.slice gv (N*N) (N*N)),(14,aj (z.1:Int))])
    (fun z w'=>z.1<=N/\z.2.length=N/\St w w' (iy 4 gv (N*N) (N*N) G::bp A4 i AR N cR AD N cD::(aU 24 2 AD N cD z.2 (fM M k z.1 0)++nU A1 A2 A5 A6 A i c M AR N cR c5 c6 gu))) (fun z=>N - z.1) (0,oG) ⟨rfl,rfl,rfl,rfl,rfl,rfl,rfl,rfl,rfl,rfl,aw⟩ ⟨bu _,vG,hS⟩ ?_
   clear hS vG hG h5;rintro⟨E,q3⟩ e fY ⟨hE,Bu,hS⟩;dsimp only at hE Bu hS|-;refine b8 O (aM _ O (fun h5=>?_) (fun h5=>?_))
   ·have pJ:E<N:=by omega
    have hEm:((E*N:Nat):Int)=(E:Int)* (N:Int):=Int.natCast_mul E N;have hEle:E*N<=N*N:=Nat.mul_le_mul_right N (by omega);refine cW O ?_;refine Cd.loop (α:=Nat×List aX) (fun z=> [(1,.pointer A1),(2,.pointer A2),(3,aj i),(4,.pointer A4),(5,.slice A5 i c5),(6,.slice A6 i c6),(9,aj k),(10,aj N),(11,.slice gv (N*N) (N*N)),(14,aj E),(15,aj (z.1:Int))])
     (fun z w'=>z.1<=N/\z.2.length=N/\St w w' (iy 4 gv (N*N) (N*N) G::bp A4 i AR N cR AD N cD::(aU 24 2 AD N cD z.2 (fM M k E z.1)++nU A1 A2 A5 A6 A i c M AR N cR c5 c6 gu))) (fun z=>N - z.1) (0,q3) ⟨rfl,rfl,rfl,rfl,rfl,rfl,rfl,rfl,rfl,rfl,rfl,aw⟩ ⟨bu _,Bu,hS⟩ ?_
    clear hS Bu;rintro⟨D,q4⟩ e iw ⟨hD,Gf,hS⟩;dsimp only at hD Gf hS|-;refine b8 O (aM _ O (fun h6=>?_) (fun h6=>?_))
    ·have Fx:D<N:=by omega
     have ox:=Lw (N:=N) (e:=E) (d:=D) pJ Fx;have mY:=wB M k E D;rw [kP]at mY;have Qm:=iV E D pJ Fx;have Ph:uZ iw gv (N*N) G:=hS.kY 0 O;have DD:(E:Int)* (N:Int)+ (D:Int)=((E*N+D:Nat):Int):=by omega
     refine aD O (iL O O O (by omega) ?_);refine aq O (aK O ?_);refine aA Ph.2 O (uV Ph O (by omega) O O ?_);rw [DD];refine az O ?_;generalize hgb:gb G ((E*N+D:Nat):Int)=b at*;cases b with
     | false => --dup 2
      have hsk:=Wm (M:=M) (i:=k) (e:=E) (d:=D) (by omega) (by omega) (fun h=>by have:=Qm.2 h;cases this);refine Cd.dZ O (aD O (aK O (aS O (tQ ?_))));exact⟨(D+1,q4),by show N - (D+1)<N - D;omega,(ajz O),by show D+1<=N;omega,Gf,by rw [hsk];exact hS⟩
     | true=>
      have Bt:=Wk (M:=M) (i:=k) (e:=E) (d:=D) (by omega) (Qm.1 O);have lN:bL iw AD N q4 (fM M k E D):=by
       have h9:=hS.sub (show(aU 24 2 AD N cD q4 (fM M k E D)).Sublist _ from((lQ _ _).cons _).cons _);exact h9.nn mY
      have Bw:=(lN.at_ (i:=(E:Int)) (by omega) (by omega)).1;have jG:(rg q4 E).n<=N:=by
       rw [<-Bw,Nd (by omega)];have kS:(gl (b6 M) E).length<=N:=by
        refine sy (Ox M _).nodup fun x hx=>?_
        rw [pG (by omega) (by omega)]at hx;omega
       unfold rE
       split
       ·exact kS
       ·split
        ·exact bu _
        ·split
         ·exact kS
         ·split
          ·exact iS (oa _ _) kS
          ·exact bu _
      have kg:Rd iw A4 3 (fun q=> [Value.int .i64 (i:Int),.slice AR N cR,.slice AD N cD].getD q undef):=hS.rd 1 O;have sZ:∀A9:ai,(ar 2 A9 1 1 [(D:Int)]::(iy 4 gv (N*N) (N*N) G::bp A4 i AR N cR AD N cD::(aU 24 2 AD N cD q4 (fM M k E D)++nU A1 A2 A5 A6 A i c M AR N cR c5 c6 gu)))[3+1+E]?=some (ar 2 (rg q4 E).a (rg q4 E).n (rg q4 E).c (gl (fM M k E D) E)):=fun A9=>BJ (t1:=24) (t2:=2) (A:=AD) (n:=N) (c:=cD) (rs:=q4) (xss:=fM M k E D) (pre:=[ar 2 A9 1 1 [(D:Int)],iy 4 gv (N*N) (N*N) G,bp A4 i AR N cR AD N cD]) (ks:=nU A1 A2 A5 A6 A i c M AR N cR c5 c6 gu) (i:=E) (by omega) (by omega)
      have xg:=fun(A9:ai) (s:aX) (xs:ah)=>Sq (t1:=24) (t2:=2) (A:=AD) (n:=N) (c:=cD) (rs:=q4) (xss:=fM M k E D) (ks:=nU A1 A2 A5 A6 A i c M AR N cR c5 c6 gu) (pre:=[ar 2 A9 1 1 [(D:Int)],iy 4 gv (N*N) (N*N) G,bp A4 i AR N cR AD N cD]) (i:=E) s xs (by omega) (by omega)
      refine Cd.eH O ?_;refine jm [10,12] [yP (aB A4 2),yS (AD) (N) (cD),yI ((E:Int)),yP (aB (A4) 2),yS (AD) (N) (cD),yI ((E:Int)),yP (aB (AD) ((E:Int)).toNat),yS ((rg (q4) ((E:Int))).a) ((rg (q4) ((E:Int))).n) ((rg (q4) ((E:Int))).c),yI ((D:Int)),.pr (fun v w'=>∃A9,v= .slice A9 1 1/\St w w' (ar 2 A9 1 1 [(D:Int)]::(iy 4 gv (N*N) (N*N) G::bp A4 i AR N cR AD N cD::(aU 24 2 AD N cD q4 (fM M k E D)++nU A1 A2 A5 A6 A i c M AR N cR c5 c6 gu)))),.pr (fun v w'=>∃AZ cZ,v= .slice AZ ((rg q4 E).n+1) cZ/\St w w' (iy 4 gv (N*N) (N*N) G::bp A4 i AR N cR AD N cD::(br 24 AD N cD q4::(bF 2 (q4.set E ⟨AZ,(rg q4 E).n+1,cZ⟩) ((fM M k E D).set E (gl (fM M k E D) E++ [(D:Int)]))++nU A1 A2 A5 A6 A i c M AR N cR c5 c6 gu)))),yP (aB AD ((E:Int)).toNat),.pr (fun _ w'=>∃AZ cZ,St w w' (iy 4 gv (N*N) (N*N) G::bp A4 i AR N cR AD N cD::(aU 24 2 AD N cD (q4.set E ⟨AZ,(rg q4 E).n+1,cZ⟩) ((fM M k E D).set E (gl (fM M k E D) E++ [(D:Int)]))++nU A1 A2 A5 A6 A i c M AR N cR c5 c6 gu)))] (ly (ly (ly (ly (ly (ly (ly (ly (ly (cg.2 ⟨Ye.cH (fun v w w' h hb=>by obtain⟨A9,hv,hT⟩:=h;exact⟨A9,hv,hT.ao hb⟩),(cg.2 ⟨Ye.cH (fun v w w' h hb=>by obtain⟨AZ,cZ,hv,hT⟩:=h;exact⟨AZ,cZ,hv,hT.ao hb⟩),(ly (cg.2 ⟨Ye.cH (fun v w w' h hb=>by obtain⟨AZ,cZ,hT⟩:=h;exact⟨AZ,cZ,hT.ao hb⟩),(fun _ h=>by cases h)⟩))⟩)⟩)))))))))) ?_ ?_
      ·refine⟨?_,?_,bZ O,cP fun _ _ hb _ _ _=>aI (kg.below hb) O (bq O O),cP fun _ _ hb _ _ _=>aV (kg.below hb) O (bq O O),bZ O,cP fun _ _ hb _ _ _=>aA (lN.top.ao hb).2 O (bq O O),cP fun _ _ hb _ _ _=>bQ (lN.top.ao hb) O (bq O O),bZ O,?_,?_,?_,?_,aw⟩
       ·intro e1 w1 cc fB ea fz hp bc hq;show ak _ _ _ _ _ _ _;have hX:Rd w1 A4 3 (fun q=> [Value.int .i64 (i:Int),.slice AR N cR,.slice AD N cD].getD q undef):=by { have ea:=tg ea (b:=1) (by kernel_rfl);rcases(show cc=0\/cc=1 by omega)with h | h; { exact Rd.below kg (fz h) }; { subst h;obtain⟨AZ,cZ,_,hT⟩:=hq 10 _ _ (by kernel_rfl) (by kernel_rfl) (by kernel_rfl) rfl rfl (by kernel_rfl);exact hT.rd 1 rfl } }
        refine aI hX O (ak.n (gh O (by exact O)))
       ·intro e1 w1 cc fB ea fz hp bc hq;show ak _ _ _ _ _ _ _;have hX:Rd w1 A4 3 (fun q=> [Value.int .i64 (i:Int),.slice AR N cR,.slice AD N cD].getD q undef):=by { have ea:=tg ea (b:=1) (by kernel_rfl);rcases(show cc=0\/cc=1 by omega)with h | h; { exact Rd.below kg (fz h) }; { subst h;obtain⟨AZ,cZ,_,hT⟩:=hq 10 _ _ (by kernel_rfl) (by kernel_rfl) (by kernel_rfl) rfl rfl (by kernel_rfl);exact hT.rd 1 rfl } }
        refine aV hX O (ak.n (gh O (by exact O)))
       ·refine cP fun e1 w1 hb hp bc hq=>?_
        exact dE (St.refl _) O O O fun A9 w9 ax=>ak.n (fu.dn O ax.below ⟨A9,O,(hS.ao hb).call ax⟩)
       ·refine ju fun e1 w1 hb hp bc hq=>?_
        obtain⟨A9,Yp,hT⟩:=(hp 9 _ _ (by kernel_rfl) rfl rfl (by kernel_rfl));refine dS (3+1+E) hT (sZ A9) (hT.bk 0 O) O (by exact Yp) O ?_;intro AZ cZ wZ hZ;have hZ:=(xg A9 ⟨AZ,(rg q4 E).n+1,cZ⟩ (gl (fM M k E D) E++ [(D:Int)]))▸hZ;exact ak.n (fF.dn O ⟨AZ,cZ,O,hZ.tail⟩)
       ·intro e1 w1 cc fB ea fz hp bc hq;show ak _ _ _ _ _ _ _;have hX:iT w1 AD N q4:=by { have ea:=tg ea (b:=1) (by kernel_rfl);rcases(show cc=0\/cc=1 by omega)with h | h; { exact lN.top.ao (fz h) }; { subst h;obtain⟨AZ,cZ,_,hT⟩:=hq 10 _ _ (by kernel_rfl) (by kernel_rfl) (by kernel_rfl) rfl rfl (by kernel_rfl);exact hT.fq 2 rfl } }
        refine aA hX.2 O (ak.n (gh O (by exact O)))
       ·refine sP 1 fun e1 w1 hp bc hq=>?_
        have fC:=hp 10 _ _ (by kernel_rfl) O O (by kernel_rfl);obtain⟨AZ,cZ,I1,hT⟩:=fC;refine uY (te:=24) (n:=N) (c:=cD) (A:=AD) (xs:=q4) 2 hT O O (by exact I1) (by omega) ?_;intro wY hY;exact ak.n (fF.st O ⟨AZ,cZ,hY⟩)
      intro u rq _ hu _ _;obtain⟨AZ,cZ,hT⟩:=hu 12 _ rfl (by kernel_rfl);rw [Bt]at hT;refine fJ O (aK O (aS O (tQ ?_)));exact⟨(D+1,_),by show N - (D+1)<N - D;omega,(ajz O),by show D+1<=N;omega,by simp [Gf],hT⟩
    ·have Fx:D=N:=by omega
     have bM:=Wl (M:=M) (i:=k) (e:=E);rw [kP]at bM;rw [Fx,bM]at hS;refine bo O (bn (cJ O (aK O (aS O (tQ ?_)))));exact⟨(E+1,q4),by show N - (E+1)<N - E;omega,(ajz O),by show E+1<=N;omega,Gf,hS⟩
   ·have pJ:E=N:=by omega
    have gf:=Wi (M:=M) (i:=k);rw [kP]at gf;rw [pJ,gf]at hS;refine bo O (bn (cJ O (aK O (aS O (tQ ?_)))));exact⟨(k+1,q3),by show i - (k+1)<i - k;omega,(ajz O),⟨by show 1<=k+1;omega,by show k+1<=i;omega⟩,Bu,hS.tail⟩
 ·have qQ:k=M.length:=by omega
  have cO:=Wh (M:=M);rw [qQ,cO]at hS;refine bo O (bn (cJ O ?_));refine bI 2 (hS.rd 0 O) O O O ?_;have aE:St w w8 (bp A2 0 none 0 0 none 0 0::(ar 2 AR N cR (cq M i)::(aU 24 2 AD N cD oG (b6 M)++ []))):=by
   have hs:(aU 24 2 AD N cD oG (b6 M)++ [ar 2 AR N cR (cq M i),bp A2 0 none 0 0 none 0 0]).Sublist (bp A4 i AR N cR AD N cD::(aU 24 2 AD N cD oG (b6 M)++nU A1 A2 A5 A6 A i c M AR N cR c5 c6 gu)):=
    List.Sublist.cons _ (List.Sublist.append_left (List.Sublist.cons_cons _ (List.Sublist.cons _ (List.Sublist.cons_cons _ (List.nil_sublist _)))) _)
   refine(hS.sub hs).perm ?_;rw [iz];exact(iK).trans (List.Perm.swap _ _ _)
  refine bS 3 0 aE O O O O O O O fun fY eo=>bD O (fI O (eo.rd 0 O) ?_);refine⟨AR,cR,AD,cD,oG,?_,by rw [kP];exact vG,?_⟩
  ·rw [kP,gL];rfl
  ·rw [kP,gL];exact eo.tail
theorem KW(A:ai)(n c:Nat)(rs:List aX)(M:ag)(w:aa)(hR:bL w A n rs M)(hM:dm M):
 aG prog 80 [.agg #[.slice A n c]] w (fun v w'=>∃AR cR AD cD bN,v= .agg #[aj (M.length:Int),.slice AR (a7 M M.length) cR,.slice AD (a7 M M.length) cD]/\bN.length=a7 M M.length/\St w w' (ar 2 AR (a7 M M.length) cR (cq M M.length)::(aU 24 2 AD (a7 M M.length) cD bN (b6 M)++ []))):=KV A n c rs M w hR hM.agn
end
section
structure CJ(n:Int)(R:ah)(B:ag):Prop where
 n1:1<=n/\n<=5
 od:R.length<=500
 len:B.length=R.length
 lH:∀x∈R,0<=x/\x<=n - 1
 mj:lK R
 row:∀e:Nat,e<R.length->SA (gl B e)/\∀d∈gl B e,(0<=d/\d<R.length)/\gi R d<gi R e
theorem CJ.at_{n:Int}{R:ah}{B:ag}(h:CJ n R B){e:Int}(h0:0<=e)(h1:e<R.length):SA (gl B e)/\(∀d∈gl B e,(0<=d/\d<e)/\gi R d<gi R e)/\True:=by
 obtain⟨k,rfl⟩:∃k:Nat,e=k:=⟨e.toNat,by omega⟩;have hr:=h.row k (by omega);refine⟨hr.1,fun d hd=>?_,aw⟩;have h2:=hr.2 d hd;obtain⟨j,rfl⟩:∃j:Nat,d=j:=⟨d.toNat,by omega⟩;refine⟨⟨by omega,?_⟩,h2.2⟩;refine Int.not_le.1 fun hle=>?_
 have:=h.mj.le (i:=k) (j:=j) (by omega) (by omega);omega
theorem OA{M:ag}(hM:qC M)(hb:a7 M M.length<=500):CJ M.length (cq M M.length) (b6 M):=by
 have h1:=hM.1;have hl:=tT M M.length;obtain⟨ha,hr⟩:=IH M M.length;refine⟨by omega,by omega,by rw [pH,hl],fun x hx=>?_,ha,fun e he=> ⟨?_,fun d hd=>?_⟩⟩
 ·have:=hr x hx;omega
 ·rw [fm (by rw [pH];omega)];unfold b6;rw [List.getElem_map];exact tG _ (vT _)
 rw [pG (by omega) (by omega)]at hd;obtain⟨f,hf,i,hi,k,hk,e1,e2⟩:=hd.2;have h1:=vg hM (i:=i) hf;have h2:=vg hM (i:=k) hf;have h3:=jU M (show i+1<=M.length by omega);have h4:=jU M (show k+1<=M.length by omega);refine⟨by omega,?_⟩;rw [e1,e2,wI hi h1.1 h1.2,wI (show k<M.length by omega) h2.1 h2.2];omega
theorem Ls(M:ag):∀n:Nat,a7 M n<=n* (gl M 0).length
 | 0=>bu _
 | n+1=>by
  have h1:=Ls M n;have h2:=rH M n;rw [a7,Nat.succ_mul];omega
end
section
open Go.RowKit
structure TV where
 f:Int
 g:Int
 r:Int
def ahw(x:TV):List ab:=[aj x.f,aj x.g,aj x.r]
def TV.v(x:TV):ab:= .agg #[aj x.f,aj x.g,aj x.r]
def agt:TV:=⟨0,0,0⟩
section
variable {w0 w:aa} {ks:List Ck} {i:Nat} {t:ad} {A:ai} {k q:Nat} {cs:List TV}
end
section
variable {P:Program} {N:Nat} {ops:Array Oper} {K:Env->aa->Prop} {rest:List Oper} {e:Env} {w0 w w':aa} {ks:List Ck} {d:Nat} {ty:ad} {pos:String} {af:Array Edge}
theorem lT{el:ad}{x:ae}{v0 v1 v2:ab}(hS:St w0 w ks)(hx:ev e x= .agg #[v0,v1,v2])(hb:Nat.blt d N=true)(hK:∀A w',St w0 w' (Bx el 3 A [v0,v1,v2]::ks)->ak P N ops K rest (bC e d (.pointer A)) w')(hM:eT [v0,v1,v2]=false:=by rfl):ak P N ops K (⟨some d,.box el x,ty,pos,af,none⟩::rest) e w:= .CT hS hx hb rfl hK hM
end
end
end Go.Proofs.YtkojeolafnadeaaGreatDoor.Vc
