/-
 Lemmas. Conditions: as each states them.
-/
import Derived.Test.YtkojeolafnadeaaGreatDoorZk
set_option maxHeartbeats 8000000
namespace Go.Proofs.YtkojeolafnadeaaGreatDoor.Vc
open Tryz
section
open Go.RowKit
variable{j:Nat}{R:ah}
structure zJ(m:Nat)(R:ah)(B:ag):Prop extends qB m R B where
 sa:∀e:Int,0<=e->e<m->SA (gl B e)
theorem zJ.ok{m:Nat}{B:ag}(h:zJ m R B){e:Int}(h0:0<=e)(h1:e<m):fw m (eB R B e):=⟨⟨(h.sa e h0 h1).sublist List.filter_sublist,fun x hx=> (zQ h.toqB h0 h1 x hx).1⟩,fun x hx=> (zQ h.toqB h0 h1 x hx).2⟩
abbrev lZ(A1:ai)(n:Int)(A D:ai)(m cA cD:Nat):Ck:=Bx 51 3 A1 [aj n,.slice A m cA,.slice D m cD]
theorem K1(n:Int)(A D:ai)(cA cD m:Nat)(R:ah)(rs:List aX)(B:ag)(e:Int)(w:aa)(hR:bt w A m R)(hB:bL w D m rs B)(hO:qB m R B)(h0:0<=e)(h1:e<m):
 aG prog 138 [.agg #[aj n,.slice A m cA,.slice D m cD],aj e] w (wh (eB R B e) w):=by
 have hm:=hO.wH;have mz:=hO.rg e h0 h1;have Ko:=hO.rk e h0 h1;have bT:=hR.1;have mY:=hB.len;refine bw func138 O ntmps138 O (b7 O) (bb O (lT (St.refl w) O O ?_));intro A2 w1 aC;refine aq O (fZ aC O ?_);intro A5 w2 aE;have aE:St w w2 [ar 2 A5 0 0 [],lZ A2 n A D m cA cD]:=aE;refine az O (Cd.loop (α:=Nat×ai×Nat) (fun z=> [(1,aj e),(2,.pointer A2),(5,.slice z.2.1 (gC R B e z.1).length z.2.2),(6,aj (z.1:Int))]) (fun z w'=>z.1<=(gl B e).length/\St w w' [ar 2 z.2.1 (gC R B e z.1).length z.2.2 (gC R B e z.1),lZ A2 n A D m cA cD]) (fun z=> (gl B e).length - z.1) (0,A5,0) (ajz O) ⟨bu _,aE⟩ ?_);clear aC aE;rintro⟨k,A5,c5⟩ e0 w3 ⟨hk,hS⟩;dsimp only at hk hS|-;have ec:=hS.rd 1 O;have iN:=hS.cV hB;have bM:=iN.at_ (i:=e) h0 h1;have abV:=bM.1;have ji:=EY R B e k;refine bb O (aI ec O (aV ec O (aq O (aA iN.top.2 O (bQ iN.top O ?_)))));refine ba O O (az O ?_);refine aM _ O (fun h2=>?_) (fun h2=>?_)
 ·have eN:k< (gl B e).length:=by omega
  have hd:=mz.2 _ (gi_in (out:=gl B e) (i:=k) eN);have gF:=hO.rk _ hd.1 hd.2;have DB:=EX (R:=R) (B:=B) (e:=e) eN;have Bo:=EZ (R:=R) (B:=B) (e:=e) eN;have ew:=hS.b9 hR;refine aD O (aI ec O (aV ec O (aq O (aA iN.top.2 O (bQ iN.top O (aq O (aA bM.2 O (aY bM O ?_))))))));generalize gi (gl B e) k=dd at*;refine az O (dQ [xP (aB (A2) 1),xS (A) (m) (cA),xI (dd),xP (aB (A) (dd).toNat),xI (gi (R) (dd)),xP (aB (A2) 1),xS (A) (m) (cA),xI (e),xP (aB (A) (e).toNat),xI (gi (R) (e)),xI ((gi (R) (e)) - ((1:Int))),xB (decide ((gi (R) (dd))=((gi (R) (e)) - ((1:Int)))))] O (eE O) ?_ ?_)
  ·exact⟨fun _ _ hb _ _=>aI (ec.below hb) O Az,fun _ _ hb _ _=>aV (ec.below hb) O Az,Dr O,fun _ _ hb _ _=>aA (ew.ao hb).2 O Az,fun _ _ hb _ _=>aY (ew.ao hb) O Az,fun _ _ hb _ _=>aI (ec.below hb) O Az,fun _ _ hb _ _=>aV (ec.below hb) O Az,Dr O,fun _ _ hb _ _=>aA (ew.ao hb).2 O Az,fun _ _ hb _ _=>aY (ew.ao hb) O Az,fun _ _ _ _ _=>dq O Az,Dr O,aw⟩
  intro u w4 jX _;replace hS:=hS.ao jX;refine fv O (aM _ O (fun h3=>?_) (fun h3=>?_))
  ·have hh:=DB h3;refine aD O (dE hS O O O ?_);intro oK w5 a8;refine dS 1 a8 O (a8.bk 0 O) O O O fun eR eS w6 bg=>aq O (aK O (aS O (tQ ?_)));exact⟨(k+1,eR,eS),by show(gl B e).length - (k+1)< (gl B e).length - k;omega,⟨O,O,by show Value.slice _ _ _= .slice eR (gC R B e (k+1)).length eS;rw [hh,dh];rfl,aL (Value.int .i64) (by omega),aw⟩,by show k+1<=_;omega,by
    show St w w6 [ar 2 eR (gC R B e (k+1)).length eS (gC R B e (k+1)),_];rw [hh,dh];exact bg.tail⟩
  have hh:=Bo h3;refine aD O (aK O (aS O (tQ ?_)));exact⟨(k+1,A5,c5),by show(gl B e).length - (k+1)< (gl B e).length - k;omega,⟨O,O,by show Value.slice _ _ _= .slice A5 (gC R B e (k+1)).length c5;rw [hh],aL (Value.int .i64) (by omega),aw⟩,by show k+1<=_;omega,by
   show St w w4 [ar 2 A5 (gC R B e (k+1)).length c5 (gC R B e (k+1)),_];rw [hh];exact hS⟩
 rw [CN (by omega)]at hS|-;refine bo O (bn (eG O ?_));exact fb O ⟨A5,c5,O,hS.sub (List.Sublist.cons_cons _ (List.nil_sublist _))⟩
theorem Sd(n:Int)(A D:ai)(cA cD m:Nat)(R:ah)(i:Int)(w:aa)(hR:bt w A m R)(hm:m<=1000):
 aG prog 78 [.agg #[aj n,.slice A m cA,.slice D m cD],aj i] w (wh (eO R i) w):=by
 have bT:=hR.1;have ox:eO R i=(dL m).filter fun e=>decide (gi R e=i):=by unfold eO;rw [bT]
 refine bw func78 O ntmps78 O (b7 O) (bb O (lT (St.refl w) O O ?_));intro A2 w1 aC;refine aq O (fZ aC O ?_);intro A5 w2 aE;have aE:St w w2 [ar 2 A5 0 0 [],lZ A2 n A D m cA cD]:=aE;refine az O (Cd.loop (α:=Nat×ai×Nat) (fun z=> [(1,aj i),(2,.pointer A2),(5,.slice z.2.1 ((dL z.1).filter fun e=>decide (gi R e=i)).length z.2.2),(6,aj (z.1:Int))]) (fun z w'=>z.1<=m/\St w w' [ar 2 z.2.1 ((dL z.1).filter fun e=>decide (gi R e=i)).length z.2.2 ((dL z.1).filter fun e=>decide (gi R e=i)),lZ A2 n A D m cA cD]) (fun z=>m - z.1) (0,A5,0) (ajz O) ⟨bu _,aE⟩ ?_);clear aC aE;rintro⟨k,A5,c5⟩ e0 w3 ⟨hk,hS⟩;dsimp only at hk hS|-;have ec:=hS.rd 1 O;have kS:((dL k).filter fun e=>decide (gi R e=i)).length<=1000:=by
  refine iS (oa _ _) ?_;rw [dL,mf,tH];omega
 have gf:=SR (xs:=R) (x:=i) (m:=k);refine bb O (aI ec O (aV ec O ?_));refine ba O O (az O ?_);refine aM _ O (fun h2=>?_) (fun h2=>?_)
 ·have ew:=hS.b9 hR;refine aD O (aI ec O (aV ec O (aq O (aA ew.2 O (aY ew O (az O ?_))))));refine aM _ O (fun h3=>?_) (fun h3=>?_)
  ·rw [aT h3.symm]at gf;refine aD O (dE hS O O O ?_);intro oK w5 a8;refine dS 1 a8 O (a8.bk 0 O) O O O fun eR eS w6 bg=>aq O (aK O (aS O (tQ ?_)));exact⟨(k+1,eR,eS),by show m - (k+1)<m - k;omega,⟨O,O,by show Value.slice _ _ _= .slice eR ((dL (k+1)).filter fun e=>decide (gi R e=i)).length eS;rw [gf,dh];rfl,aL (Value.int .i64) (by omega),aw⟩,by show k+1<=_;omega,by
    show St w w6 [ar 2 eR ((dL (k+1)).filter fun e=>decide (gi R e=i)).length eS ((dL (k+1)).filter fun e=>decide (gi R e=i)),_];rw [gf,dh];exact bg.tail⟩
  rw [aR (fun h=>h3 h.symm)]at gf;refine aD O (aK O (aS O (tQ ?_)));exact⟨(k+1,A5,c5),by show m - (k+1)<m - k;omega,⟨O,O,by show Value.slice _ _ _= .slice A5 ((dL (k+1)).filter fun e=>decide (gi R e=i)).length c5;rw [gf],aL (Value.int .i64) (by omega),aw⟩,by show k+1<=_;omega,by
   show St w w3 [ar 2 A5 ((dL (k+1)).filter fun e=>decide (gi R e=i)).length c5 ((dL (k+1)).filter fun e=>decide (gi R e=i)),_];rw [gf];exact hS⟩
 obtain rfl:k=m:=by omega
 rw [<-ox]at hS|-;refine bo O (bn (eG O ?_));exact fb O ⟨A5,c5,O,hS.sub (List.Sublist.cons_cons _ (List.nil_sublist _))⟩
structure tM(m:Nat)(a b:ah)(i k:Nat)(out:ah):Prop where
 ok:fw m out
 mb:bV out=bV (a.take i)^^^bV (b.take k)
 la:∀x∈out,i<a.length->x<gi a i
 lb:∀x∈out,k<b.length->x<gi b k
theorem tM.symm{m:Nat}{a b:ah}{i k:Nat}{out:ah}(h:tM m a b i k out):tM m b a k i out:=⟨h.ok,by rw [h.mb,Nat.xor_comm],h.lb,h.la⟩
theorem aeJ(x:Int):bV [x]=2^x.toNat:=by rw [qh,Ec,Nat.xor_zero]
theorem Lm{a:ah}{i:Nat}(h:i<a.length):bV (a.take (i+1))=bV (a.take i)^^^bV [gi a i]:=by rw [pg h,uH]
theorem LO{a:ah}(h:SA a){i:Nat}(pO:i<j)(hj:j<a.length):gi a i<gi a j:=by
 have:=List.pairwise_iff_getElem.1 h i j (by omega) hj pO
 rwa [<-bX,<-bX]at this
theorem tM.left{m:Nat}{a b:ah}{i k:Nat}{out:ah}(h:tM m a b i k out)(ha:fw m a)(hi:i<a.length)(hl:k<b.length->gi a i<gi b k):tM m a b (i+1) k (out++ [gi a i]):=by
 have da:=gi_in (out:=a) (i:=i) hi;refine⟨⟨⟨?_,fun x hx=>?_⟩,fun x hx=>?_⟩,?_,fun x hx h2=>?_,fun x hx h2=>?_⟩
 ·rw [SA,List.pairwise_append];exact⟨h.ok.1.1,List.pairwise_singleton _ _,fun x hx y hy=>by obtain rfl:=dK.1 hy;exact h.la x hx hi⟩
 ·rcases eD.1 hx with hx | hx
  ·exact h.ok.1.2 x hx
  obtain rfl:=dK.1 hx;exact ha.1.2 _ da
 ·rcases eD.1 hx with hx | hx
  ·exact h.ok.2 x hx
  obtain rfl:=dK.1 hx;exact ha.2 _ da
 ·rw [uH,h.mb,Lm hi,Nat.xor_assoc,Nat.xor_assoc,Nat.xor_comm (bV (b.take k))]
 ·have h3:=LO ha.1.1 (show i<i+1 by omega) h2;rcases eD.1 hx with hx | hx
  ·have:=h.la x hx hi;omega
  obtain rfl:=dK.1 hx;exact h3
 rcases eD.1 hx with hx | hx
 ·exact h.lb x hx h2
 obtain rfl:=dK.1 hx;exact hl h2
theorem tM.both{m:Nat}{a b:ah}{i k:Nat}{out:ah}(h:tM m a b i k out)(ha:fw m a)(hb:fw m b)(hi:i<a.length)(hk:k<b.length)(e:gi a i=gi b k):tM m a b (i+1) (k+1) out:=by
 refine⟨h.ok,?_,fun x hx h2=>?_,fun x hx h2=>?_⟩
 ·rw [h.mb,Lm hi,Lm hk,e,Nat.xor_assoc,Nat.xor_comm (bV [gi b k]),Nat.xor_assoc,Nat.xor_self,Nat.xor_zero]
 ·have:=h.la x hx hi;have:=LO ha.1.1 (show i<i+1 by omega) h2;omega
 have:=h.lb x hx hk;have:=LO hb.1.1 (show k<k+1 by omega) h2;omega
def Uj(m v:Nat)(w:aa)(r:ab)(w':aa):Prop:=∃A' c' out,r= .slice A' out.length c'/\fw m out/\bV out=v/\St w w' [ar 2 A' out.length c' out]
theorem K3(A D:ai)(cA cD na nb m:Nat)(a b:ah)(w:aa)(hA:bt w A na a)(hB:bt w D nb b)(ha:fw m a)(hb:fw m b)(hm:m<=1000):
 aG prog 187 [.slice A na cA,.slice D nb cD] w (Uj m (bV a^^^bV b) w):=by
 have pM:=hA.1;have mY:=hB.1;have hal2:=ha.1.len ha.2;have hbl2:=hb.1.len hb.2;refine bw func187 O ntmps187 O (b7 O) (bb O (fZ (St.refl w) O ?_));intro A5 w2 aE;have aE:St w w2 [ar 2 A5 0 0 []]:=aE;refine az O ?_;refine Cd.loop (α:=Nat×Nat×ai×Nat×ah) (fun z=> [(0,.slice A na cA),(1,.slice D nb cD),(5,.slice z.2.2.1 z.2.2.2.2.length z.2.2.2.1),(6,aj (z.1:Int)),(7,aj (z.2.1:Int))]) (fun z w'=>z.1<=na/\z.2.1<=nb/\tM m a b z.1 z.2.1 z.2.2.2.2/\St w w' [ar 2 z.2.2.1 z.2.2.2.2.length z.2.2.2.1 z.2.2.2.2]) (fun z=> (na - z.1)+ (nb - z.2.1)) (0,0,A5,0,[]) ⟨rfl,rfl,rfl,rfl,rfl,aw⟩ ⟨bu _,bu _,⟨⟨⟨List.Pairwise.nil,fun _ h=>by cases h⟩,fun _ h=>by cases h⟩,by simp [bV],(fun _ h=>by cases h),(fun _ h=>by cases h)⟩,aE⟩ ?_;clear aE;rintro⟨i,k,A5,c5,out⟩ e0 w3 ⟨hi,hk,hM,hS⟩;dsimp only at hi hk hM hS|-;have yY:=hM.ok.1.len hM.ok.2;have O1:=hS.b9 hA;have iN:=hS.b9 hB;refine bb O (ba O O (aq O ?_));refine cz 13 O (fun h2=>?_) (fun h2=>?_)
 ·refine ay O (ay O (ay O (ay O (az O ?_))));refine Cd.eH O (cW O ?_)
  by_cases uj:k=nb
  ·
   refine dQ [xI ((k:Int)),xS (D) (nb) (cD),xI (((nb:Nat):Int)),xB (decide (((k:Int))=(((nb:Nat):Int)))),xB (true),xU,xU,xU,xU,xU,xU,xU,xU,xU,xU,xU,xU,xU,xU,xU,xB (true),xB (true)] O (eE O) ?_ ?_
   ·exact⟨Dr O,Dr O,fun _ _ _ _ _=>ba O O Az,Dr O,fun _ _ _ _ _=>Dk O (by exact aL Value.bool (eC (by omega))),Dr O,Dr O,Dr O,Dr O,Dr O,Dr O,Dr O,Dr O,Dr O,Dr O,Dr O,Dr O,Dr O,Dr O,Dr O,Dr O,Dr O,aw⟩
   intro u w5 fS _;replace hS:=hS.ao fS;have yv:=hS.b9 hA;have ib:=hM.left ha (by omega) (fun h=>absurd h (by omega));refine fv O (Cd.eH O (aD O (aA yv.2 O (aY yv O (dE hS O O O ?_)))));intro oK w5 a8;refine dS 1 a8 O (a8.bk 0 O) O O O fun eR eS w6 bg=>aq O (aK O (aS O (tQ ?_)));exact⟨(i+1,k,eR,eS,out++ [gi a i]),by show(na - (i+1))+ (nb - k)< (na - i)+ (nb - k);omega,⟨O,O,by show Value.slice _ _ _= .slice eR (out++ [gi a i]).length eS;rw [dh];rfl,aL (Value.int .i64) (by omega),O,aw⟩,by show i+1<=na;omega,hk,ib,by
    show St w w6 [ar 2 eR (out++ [gi a i]).length eS (out++ [gi a i])];rw [dh];exact bg.tail⟩
  refine dQ [xI ((k:Int)),xS (D) (nb) (cD),xI (((nb:Nat):Int)),xB (decide (((k:Int))=(((nb:Nat):Int)))),xB (false),xI ((i:Int)),xS (A) (na) (cA),xI (((na:Nat):Int)),xB (decide (((i:Int))< (((na:Nat):Int)))),xB (true),xS (A) (na) (cA),xI ((i:Int)),xP (aB (A) ((i:Int)).toNat),xI (gi (a) ((i:Int))),xS (D) (nb) (cD),xI ((k:Int)),xP (aB (D) ((k:Int)).toNat),xI (gi (b) ((k:Int))),xB (decide ((gi (a) ((i:Int)))< (gi (b) ((k:Int))))),xB (decide ((gi (a) ((i:Int)))< (gi (b) ((k:Int))))),xB (decide ((gi (a) ((i:Int)))< (gi (b) ((k:Int))))),xB (decide ((gi (a) ((i:Int)))< (gi (b) ((k:Int)))))] O (eE O) ?_ ?_
  ·exact⟨Dr O,Dr O,fun _ _ _ _ _=>ba O O Az,Dr O,fun _ _ _ _ _=>Dk O (by exact aL Value.bool (cM (by omega))),Dr O,Dr O,fun _ _ _ _ _=>au O (ba O O Az),Dr O,fun _ _ _ _ _=>Dk O (by exact aL Value.bool (eC (by omega))),Dr O,Dr O,fun _ _ hb _ _=>au O (aA (O1.ao hb).2 O Az),fun _ _ hb _ _=>au O (aY (O1.ao hb) O Az),Dr O,Dr O,fun _ _ hb _ _=>au O (aA (iN.ao hb).2 O Az),fun _ _ hb _ _=>au O (aY (iN.ao hb) O Az),Dr O,Dr O,Dr O,Dr O,aw⟩
  intro u w5 fS _;replace hS:=hS.ao fS;have yv:=hS.b9 hA;have yw:=hS.b9 hB;refine fv O (aM _ O (fun h5=>?_) (fun h5=>?_))
  ·have ib:=hM.left ha (by omega) (fun _=>h5);refine aD O (aA yv.2 O (aY yv O (dE hS O O O ?_)));intro oK w5 a8;refine dS 1 a8 O (a8.bk 0 O) O O O fun eR eS w6 bg=>aq O (aK O (aS O (tQ ?_)));exact⟨(i+1,k,eR,eS,out++ [gi a i]),by show(na - (i+1))+ (nb - k)< (na - i)+ (nb - k);omega,⟨O,O,by show Value.slice _ _ _= .slice eR (out++ [gi a i]).length eS;rw [dh];rfl,aL (Value.int .i64) (by omega),O,aw⟩,by show i+1<=na;omega,hk,ib,by
    show St w w6 [ar 2 eR (out++ [gi a i]).length eS (out++ [gi a i])];rw [dh];exact bg.tail⟩
  refine cW O ?_;refine dQ [xI ((i:Int)),xS (A) (na) (cA),xI (((na:Nat):Int)),xB (decide (((i:Int))=(((na:Nat):Int)))),xB (false),xS (D) (nb) (cD),xI ((k:Int)),xP (aB (D) ((k:Int)).toNat),xI (gi (b) ((k:Int))),xS (A) (na) (cA),xI ((i:Int)),xP (aB (A) ((i:Int)).toNat),xI (gi (a) ((i:Int))),xB (decide ((gi (b) ((k:Int)))< (gi (a) ((i:Int))))),xB (decide ((gi (b) ((k:Int)))< (gi (a) ((i:Int))))),xB (decide ((gi (b) ((k:Int)))< (gi (a) ((i:Int)))))] O (eE O) ?_ ?_
  ·exact⟨Dr O,Dr O,fun _ _ _ _ _=>ba O O Az,Dr O,fun _ _ _ _ _=>Dk O (by exact aL Value.bool (cM (by omega))),Dr O,Dr O,fun _ _ hb _ _=>au O (aA (yw.ao hb).2 O Az),fun _ _ hb _ _=>au O (aY (yw.ao hb) O Az),Dr O,Dr O,fun _ _ hb _ _=>au O (aA (yv.ao hb).2 O Az),fun _ _ hb _ _=>au O (aY (yv.ao hb) O Az),Dr O,Dr O,Dr O,aw⟩
  intro u2 w6 jR _;replace hS:=hS.ao jR;have wN:=hS.b9 hB;refine fv O (aM _ O (fun h6=>?_) (fun h6=>?_))
  ·have ib:=(hM.symm.left hb (by omega) (fun _=>h6)).symm;refine aD O (aA wN.2 O (aY wN O (dE hS O O O ?_)));intro oK w5 a8;refine dS 1 a8 O (a8.bk 0 O) O O O fun eR eS w6 bg=>aq O (aK O (aS O (tQ ?_)));exact⟨(i,k+1,eR,eS,out++ [gi b k]),by show(na - i)+ (nb - (k+1))< (na - i)+ (nb - k);omega,⟨O,O,by show Value.slice _ _ _= .slice eR (out++ [gi b k]).length eS;rw [dh];rfl,O,aL (Value.int .i64) (by show(k:Int)+1=((k+1:Nat):Int);omega),aw⟩,hi,by show k+1<=nb;omega,ib,by
    show St w w6 [ar 2 eR (out++ [gi b k]).length eS (out++ [gi b k])];rw [dh];exact bg.tail⟩
  have ib:=hM.both ha hb (by omega) (by omega) (by omega);refine aD O (aK O (aq O (aK O (aS O (tQ ?_)))));exact⟨(i+1,k+1,A5,c5,out),by show(na - (i+1))+ (nb - (k+1))< (na - i)+ (nb - k);omega,⟨O,O,O,aL (Value.int .i64) (by omega),aL (Value.int .i64) (by show(k:Int)+1=((k+1:Nat):Int);omega),aw⟩,by show i+1<=na;omega,by show k+1<=nb;omega,ib,hS⟩
 refine au O (aq O (au O (aq O (au O (ba O O (au O (az O ?_)))))));refine aM _ O (fun h3=>?_) (fun h3=>?_)
 ·refine cW O (dQ [xI ((k:Int)),xS (D) (nb) (cD),xI (((nb:Nat):Int)),xB (decide (((k:Int))=(((nb:Nat):Int)))),xB (false),xI ((i:Int)),xS (A) (na) (cA),xI (((na:Nat):Int)),xB (decide (((i:Int))< (((na:Nat):Int)))),xB (false),xU,xU,xU,xU,xU,xU,xU,xU,xU,xB (false),xB (false),xB (false)] O (eE O) ?_ ?_)
  ·exact⟨Dr O,Dr O,fun _ _ _ _ _=>ba O O Az,Dr O,fun _ _ _ _ _=>Dk O (by exact aL Value.bool (cM (by omega))),Dr O,Dr O,fun _ _ _ _ _=>au O (ba O O Az),Dr O,fun _ _ _ _ _=>Dk O (by exact aL Value.bool (cM (by omega))),Dr O,Dr O,Dr O,Dr O,Dr O,Dr O,Dr O,Dr O,Dr O,Dr O,Dr O,Dr O,aw⟩
  intro u w5 fS _;replace hS:=hS.ao fS;refine fv O (Cd.dZ O (cW O ?_));refine dQ [xI ((i:Int)),xS (A) (na) (cA),xI (((na:Nat):Int)),xB (decide (((i:Int))=(((na:Nat):Int)))),xB (true),xU,xU,xU,xU,xU,xU,xU,xU,xU,xB (true),xB (true)] O (eE O) ?_ ?_
  ·exact⟨Dr O,Dr O,fun _ _ _ _ _=>ba O O Az,Dr O,fun _ _ _ _ _=>Dk O (by exact aL Value.bool (eC (by omega))),Dr O,Dr O,Dr O,Dr O,Dr O,Dr O,Dr O,Dr O,Dr O,Dr O,Dr O,aw⟩
  intro u2 w6 jR _;replace hS:=hS.ao jR;have yw:=hS.b9 hB;have ib:=(hM.symm.left hb (by omega) (fun h=>absurd h (by omega))).symm;refine fv O (Cd.eH O (aD O (aA yw.2 O (aY yw O (dE hS O O O ?_)))));intro oK w5 a8;refine dS 1 a8 O (a8.bk 0 O) O O O fun eR eS w6 bg=>aq O (aK O (aS O (tQ ?_)));exact⟨(i,k+1,eR,eS,out++ [gi b k]),by show(na - i)+ (nb - (k+1))< (na - i)+ (nb - k);omega,⟨O,O,by show Value.slice _ _ _= .slice eR (out++ [gi b k]).length eS;rw [dh];rfl,O,aL (Value.int .i64) (by show(k:Int)+1=((k+1:Nat):Int);omega),aw⟩,hi,by show k+1<=nb;omega,ib,by
   show St w w6 [ar 2 eR (out++ [gi b k]).length eS (out++ [gi b k])];rw [dh];exact bg.tail⟩
 have qS:=hM.mb;rw [kA (by omega),kA (by omega)]at qS;refine bo O (bn (eG O ?_));exact fb O ⟨A5,c5,out,O,hM.ok,qS,hS⟩
theorem ad1(n:Int)(A D:ai)(cA cD m:Nat)(R:ah)(rs:List aX)(B:ag)(Ac:ai)(nc cc:Nat)(ch:ah)(w:aa)(hR:bt w A m R)(hB:bL w D m rs B)(hO:zJ m R B)(hC:bt w Ac nc ch)(sW:∀e∈ch,0<=e/\e< (m:Int))(ko:nc<=1000000):
 aG prog 139 [.agg #[aj n,.slice A m cA,.slice D m cD],.slice Ac nc cc] w (fun v w'=>∃A' c' out,v= .slice A' out.length c'/\fw m out/\bV out=bV (eW R B ch)/\St w w' []):=by
 have hm:=hO.wH;have bE:=hC.1;refine bw func139 O ntmps139 O (b7 O) (bb O (lT (St.refl w) O O ?_));intro A2 w1 aC;refine aq O (fZ aC O ?_);intro A5 w2 aE;have aE:St w w2 [ar 2 A5 0 0 [],lZ A2 n A D m cA cD]:=aE;refine az O ?_;refine Cd.loop (α:=Nat×ai×Nat×ah) (fun z=> [(1,.slice Ac nc cc),(2,.pointer A2),(5,.slice z.2.1 z.2.2.2.length z.2.2.1),(6,aj (z.1:Int))]) (fun z w'=>z.1<=nc/\fw m z.2.2.2/\bV z.2.2.2=bV (eW R B (ch.take z.1))/\bt w' z.2.1 z.2.2.2.length z.2.2.2/\Rd w' A2 3 (fun j=> [Value.int .i64 n,.slice A m cA,.slice D m cD].getD j undef)/\St w w' []) (fun z=>nc - z.1) (0,A5,0,[]) ⟨rfl,rfl,rfl,rfl,aw⟩ ⟨bu _,⟨⟨List.Pairwise.nil,fun _ h=>by cases h⟩,fun _ h=>by cases h⟩,rfl,aE.bk 0 rfl,aE.rd 1 rfl,aE.none⟩ ?_;clear aC aE;rintro⟨k,A5,c5,out⟩ e0 w3 ⟨hk,bz,qS,gF,ec,hS⟩;dsimp only at hk bz qS gF ec hS|-;refine bb O (ba O O (az O ?_));refine aM _ O (fun h2=>?_) (fun h2=>?_)
 ·have eN:k<ch.length:=by omega
  have FV:=sW _ (gi_in (out:=ch) (i:=k) eN);have O6:=hS.b9 hC;have jf:=hS.b9 hR;have iN:=hS.cV hB;have o6:bV (eW R B (ch.take (k+1)))=bV (eW R B (ch.take k))^^^bV (eB R B (gi ch k)):=by rw [pg eN,HS,uH]
  generalize xl:gi ch k=el at*;refine cW O ?_;refine dQ [xS A5 out.length c5,.ex (.agg #[aj (n),.slice (A) (m) (cA),.slice (D) (m) (cD)]),xS (Ac) (nc) (cc),xI ((k:Int)),xP (aB Ac k),xI (el),.pr (fun v w'=>∃A' c',v= .slice A' (eB R B el).length c'/\bt w' A' (eB R B el).length (eB R B el)),.pr (fun v w'=>∃A' c' o2,v= .slice A' o2.length c'/\fw m o2/\bV o2=bV out^^^bV (eB R B el)/\bt w' A' o2.length o2),.pr (fun v w'=>∃A' c' o2,v= .slice A' o2.length c'/\fw m o2/\bV o2=bV out^^^bV (eB R B el)/\bt w' A' o2.length o2)] rfl (lx (lx (lx (lx (lx (lx (cg.2 ⟨Yd.cH (fun v w w' h hb=>by obtain⟨A',c',hv,hT⟩:=h;exact⟨A',c',hv,hT.ao hb⟩),(cg.2 ⟨Yd.cH (fun v w w' h hb=>by obtain⟨A',c',o2,hv,h1,h2,hT⟩:=h;exact⟨A',c',o2,hv,h1,h2,hT.ao hb⟩),(cg.2 ⟨Yd.cH (fun v w w' h hb=>by obtain⟨A',c',o2,hv,h1,h2,hT⟩:=h;exact⟨A',c',o2,hv,h1,h2,hT.ao hb⟩),(fun _ h=>by cases h)⟩)⟩)⟩))))))) ?_ ?_
  ·refine⟨fun _ _ _ _ bc=>kc O (by exact bc 8 _ O (by kernel_rfl)) O Az,fun _ _ hb _ _=>bI 2 (ec.below hb) O O O Az,Dr O,Dr O,fun _ _ hb _ _=>ajn (i:=(k:Int)) (O6.ao hb).2 O O O (by omega) (by omega) Az,?_,?_,?_,?_,aw⟩
   ·intro e1 w1 hb hp bc;rw [<-xl];refine ajo (i:=(k:Int)) (O6.ao hb) O (by omega) O O Az
   ·intro e1 w1 hb hp bc;refine aF (K1 n A D cA cD m R rs B el _ (jf.ao hb) (iN.ao hb) hO.toqB FV.1 FV.2) O ?_;rintro _ w9 ⟨A',c',rfl,ax⟩;exact ak.n (e6.dn ax.below ⟨A',c',O,ax.bk 0 O⟩)
   ·intro e1 w1 hb hp bc;obtain⟨A',c',tV,hT⟩:=(hp 6 (by decide) rfl _ _ rfl rfl);refine ajq (K3 A5 A' c5 c' _ _ m out (eB R B el) _ (gF.ao hb) hT bz (hO.ok FV.1 FV.2) hm) O (by exact aL (fun v=> [Value.slice A5 out.length c5,v]) tV) O ?_;rintro _ w9 ⟨T7,WN,o2,rfl,h1,h2,xF⟩;exact ak.n (e6.dn xF.below ⟨T7,WN,o2,O,h1,h2,xF.bk 0 O⟩)
   intro e1 w1 hb hp bc;obtain⟨A',c',o2,I3,h1,h2,hT⟩:=(hp 7 (by decide) rfl _ _ rfl rfl);refine kc O (by exact I3) O (ak.n ?_);exact e6.dn (Below.refl _ _) ⟨A',c',o2,O,h1,h2,hT⟩
  intro u w4 jX hu;obtain⟨A9,c9,o2,h5,yX,abe,abL⟩:=hu 8 _ rfl;refine fJ O (aK O (aS O (tQ ?_)));exact⟨(k+1,A9,c9,o2),by show nc - (k+1)<nc - k;omega,⟨O,O,by exact h5,aL (Value.int .i64) (by omega),aw⟩,by show k+1<=nc;omega,yX,by show bV o2=bV (eW R B (ch.take (k+1)));rw [abe,o6,qS],abL,Rd.below ec jX,hS.ao jX⟩
 rw [kA (by omega)]at qS;refine bo O (bn (eG O ?_));exact fb O ⟨A5,c5,out,O,bz,qS,hS⟩
structure PV where
 s:Int
 v:Int
section
variable {w0 w:aa} {ks:List Ck} {i:Nat} {t:ad} {A:ai} {k q z:Nat} {cs:List PV}
end
section
variable {P:Program} {N:Nat} {ops:Array Oper} {K:Env->aa->Prop} {rest:List Oper} {e:Env} {w0 w w':aa} {ks:List Ck} {d:Nat} {ty:ad} {pos:String} {af:Array Edge}
end
section
variable {P:Program} {N:Nat} {ops:Array Oper} {K:Env->aa->Prop} {rest:List Oper} {e:Env} {w0 w w':aa} {ks:List Ck} {d:Nat} {ty:ad} {pos:String} {af:Array Edge}
end
structure PW where
 s:aX
 v:aX
def gx:List PW->List ab
 | []=> []
 | x::r=>x.s.v::x.v.v::gx r
theorem C4:∀l:List PW,(gx l).length=2*l.length
 | []=>rfl
 | x::r=>by
  simp only [gx,List.length_cons];rw [C4 r];omega
theorem IC:∀a b:List PW,gx (a++b)=gx a++gx b
 | [],_=>rfl
 | x::r,b=>by
  simp only [List.cons_append,gx];rw [IC r b]
theorem Ot:∀ {l:List PW} {i:Nat} (h:i<l.length),(gx l)[2*i]?=some (l[i].s.v)/\(gx l)[2*i+1]?=some (l[i].v.v)
 | x::r,0,_=> ⟨rfl,rfl⟩
 | x::r,i+1,h=>by
  have:=Ot (l:=r) (i:=i) (by simpa using h);simp only [gx,List.getElem_cons_succ];rw [show 2* (i+1)=2*i+1+1 by omega];simpa using this
theorem BH(l:List PW):eT (gx l)=false:=by cases l<;>rfl
def lL(t:ad)(A:ai)(k q z:Nat)(cs:List PW):Ck:=⟨A,2*k,min (2* (q+z)) maxLen - 2*z,t,gx cs⟩
def oQ(w:aa)(A:ai)(k:Nat)(cs:List PW):Prop:=cs.length=k/\Rd w A (2*k) (fun j=> (gx cs).getD j undef)
theorem oQ.below{w w':aa}{A:ai}{k:Nat}{cs:List PW}(h:oQ w A k cs)(hb:Below w.heap.size w w'):oQ w' A k cs:=⟨h.1,Rd.below h.2 hb⟩
section
variable {w0 w:aa} {ks:List Ck} {i:Nat} {t:ad} {A:ai} {k q z:Nat} {cs:List PW}
theorem St.LF(h:St w0 w ks)(i:Nat)(hk:ks[i]?=some (lL t A k q z cs)):oQ w A k cs:=by
 have h1:(gx cs).length=2*k:=(h.rI hk (BH _)).1;rw [C4]at h1;exact⟨by omega,h.rd i hk⟩
theorem St.WQ(h:St w0 w ks)(i:Nat)(hk:ks[i]?=some (lL t A k q z cs)):k<=q/\2*k<=maxLen:=by
 have h1:2*k<=min (2* (q+z)) maxLen - 2*z:=(h.get hk).cap.1;omega
theorem oQ.at_(h:oQ w A k cs){j:Nat}(hj:j<k):Rd w (aB A (j*2)) 2 (fun m=> [((cs[j]'(by rw [h.1];exact hj)).s).v,((cs[j]'(by rw [h.1];exact hj)).v).v].getD m undef):=by
 have hl:j<cs.length:=by rw [h.1];exact hj
 have:=(h.2.behind (o:=j*2) (m:=2) (by omega));refine this.congr fun m hm=>?_
 have hg:=Ot hl;rcases(show m=0\/m=1 by omega)with rfl | rfl
 ·rw [show j*2+0=2*j by omega,dt,hg.1];rfl
 rw [show j*2+1=2*j+1 by omega,dt,hg.2];rfl
end
section
variable{t:ad}{z z0 z1:ab}{q c':Nat}{A':ai}
variable {P:Program} {N:Nat} {ops:Array Oper} {K:Env->aa->Prop} {rest:List Oper} {e:Env} {w0 w w':aa} {ks:List Ck} {d:Nat} {ty:ad} {pos:String} {af:Array Edge}
theorem Hx{el:ad}{b:Nat}[bP P t (.slice el)][bO P el z 2 b]{x ix:ae}{A:ai}{n c:Nat}{k:IntKind}{i:Int}{cs:List PW}(hR:oQ w A n cs)(hx:ev e x= .slice A n c)(hy:ev e ix= .int k i)(hb:Nat.blt d N=true)(h0:0<=i)(h1:i< (n:Int))(hK:ak P N ops K rest (bC e d (.pointer (aB A (i.toNat*2)))) w):
 ak P N ops K (⟨some d,.indexAddr t x ix,ty,pos,af,none⟩::rest) e w:=by
 obtain⟨p,hp,_⟩:=hR.2 i.toNat (by omega);obtain⟨q,rfl⟩:∃q,A=some q:=by cases A with | none=>simp [aB]at hp | some q=>exact⟨q,rfl⟩
 obtain⟨inf,hi,_,hs,_⟩:=bO.get P el;refine .val (w':=w) ?_ hb hK;simp [execOp,Instr.indexAt,hx,hy,asIntOf,run_underlying (bP.out (P:=P) (t:=t)),h0,h1,sizeOf,typeInfo,hi,hs,aB]
theorem U3{el:ad}{b:Nat}[bP P t (.slice el)][bO P el z 2 b](hS:St w0 w ks)(hb:Nat.blt d N=true)(hK:∀A w',St w0 w' (lL el A 0 0 0 []::ks)->ak P N ops K rest (bC e d (.slice A 0 0)) w'):ak P N ops K (⟨some d,.buildSlice t 0 #[],ty,pos,af,none⟩::rest) e w:=by
 obtain⟨inf,hi,fp,hs,iq⟩:=bO.get P el;refine .val (w':=w.alloc (.cells #[] el)) ?_ hb (hK _ _ (hS.alloc [] el (by simp) O));simp [execOp,Instr.buildSlice,run_underlying (bP.out (P:=P) (t:=t)),sizeOf,typeInfo,hi,hs,Instr.fill,newRow,zP]
theorem U4{el:ad}{b:Nat}[bP P t (.slice el)][bO P el z 2 b]{x0:ae}{u0 v0:aX}(hS:St w0 w ks)(h0:ev e x0= .agg #[u0.v,v0.v])(hz:z.cells= #[z0,z1])(hb:Nat.blt d N=true)(hK:∀A w',St w0 w' (lL el A 1 1 0 [⟨u0,v0⟩]::ks)->ak P N ops K rest (bC e d (.slice A 1 1)) w'):ak P N ops K (⟨some d,.buildSlice t 1 #[(0,x0)],ty,pos,af,none⟩::rest) e w:=by
 obtain⟨inf,hi,fp,hs,iq⟩:=bO.get P el;refine .val (w':=w.alloc (.cells #[u0.v,v0.v] el)) ?_ hb (hK _ _ (hS.alloc [u0.v,v0.v] el (by simp [maxLen]) O));simp [execOp,Instr.buildSlice,run_underlying (bP.out (P:=P) (t:=t)),sizeOf,typeInfo,zeroValue,hi,hs,fp,hz,Instr.fill,newRow,h0,zP,tI,Value.cells]
theorem afZ{el:ad}{b:Nat}[hU:bP P t (.slice el)][bO P el z 2 b](hz:z.cells= #[z0,z1]){A:ai}{n c:Nat}{cs:List PW}(i:Nat)(hS:St w0 w ks)(hk:ks[i]?=some (lL el A n c q cs)){m:Nat}{ds:List PW}(hR:oQ w A' m ds)
 (oh:2* (n+m+q)<=maxLen) (mr:(n+m)*b<=140737488355328) (ty:ad):
 ∃A2 c2 q2 w',(Builtin.append_ #[t,t] ty #[.slice A n c,.slice A' m c']).run P w= .ok (.slice A2 (n+m) c2) w'/\q2<=q/\St w0 w' (ks.set i (lL el A2 (n+m) c2 q2 (cs++ds))):=by
 obtain⟨inf,hi,fp,hs,iq⟩:=bO.get P el;have DK:=hS.rI hk (BH _);have gD:=hS.WQ i hk;have bE:=(hS.LF i hk).1;obtain⟨hl,ko,rW,h4⟩:=DK;have yQ:=(gw.1 hk).1
 by_cases hm:m=0
 ·subst hm;have Du:ds=[]:=lg hR.1;subst Du;refine⟨A,c,q,w,?_,dC _,?_⟩
  ·cases A' with
   | none=>cases A<;>simp [Builtin.append_,run_underlying hU.out,sizeOf,typeInfo,hi,Builtin.lenOf,Builtin.firstCells,gD.1,storeCells]
   | some a=>
    cases A<;>simp [Builtin.append_,run_underlying hU.out,sizeOf,typeInfo,hi,Builtin.lenOf,Builtin.firstCells,gD.1,storeCells,loadCells,loadCellsFrom]
  ·rw [iz,Nat.add_zero];have:ks.set i (lL el A n c q cs)=ks:=by
    apply List.ext_getElem?;intro j;rw [n3]
    split
    ·rename_i e;subst e;rw [hk]
     try simp [yQ]
    ·rfl
   rw [this];exact hS
 ·obtain⟨a,rfl⟩:∃a,A'=some a:=by
   obtain⟨p,hp,_⟩:=hR.2 0 (by omega);cases A' with | none=>simp [aB]at hp | some q'=>exact⟨q',rfl⟩
  have gL:(gx ds).length=m*2:=by rw [C4,hR.1];omega
  have vE:∀j v,(gx ds)[j]?=some v->w.cell? (a.add j)=some v:=by
   intro j v hj;have Bm:j<2*m:=by have:=(gw.1 hj).1;omega
   obtain⟨p,hp,hc⟩:=hR.2 j Bm;simp only [aB,Option.map_some,mh]at hp;rw [hp,hc];show some ((gx ds).getD j undef)=some v;rw [dt,hj]
   rfl
  have rJ:∀u∈gx ds,u.oneCell'=true:=by
   intro u hu;obtain⟨j,hj,rfl⟩:=gj.1 hu;have gen:∀(l:List PW),∀u∈gx l,u.oneCell'=true:=by
    intro l
    induction l with
    | nil=>intro u h;cases h
    | cons x l ih=>
     intro u h;simp only [gx,ij]at h;rcases h with rfl | rfl | h
     ·rfl
     ·rfl
     ·exact ih u h
   exact gen ds _ (fe hj)
  have P9:(gx cs).length=2*n:=by rw [C4,bE]
  have fresh:∀(xs:List ab) (c2:Nat),n+m<=c2->xs.length=2*c2->xs.take (2* (n+m))=gx cs++gx ds->eT xs=false->
   St w0 (w.drew.alloc (.cells xs.toArray el)) (ks.set i (lL el (some ⟨w.heap.size,0,none⟩) (n+m) c2 0 (cs++ds))):=by
   intro xs c2 h5 h7 h8 h9;have hA:=hS.drew.M4 xs el (2* (n+m)) (min (2*c2) maxLen) (by omega) (by omega) (by omega) h9;rw [h8,<-IC]at hA;exact(hA.perm (SO ks i _ _ hk)).tail
  have I8:((n+m:Nat):Int)<=9223372036854775807:=by simp only [maxLen]at oh;omega
  have h63n:n+m<=maxLen:=by omega
  rcases h4 with⟨hA,h0⟩ | ⟨g,o,cur,hA,hg,hh,lP,hc⟩
  ·have hA:A=none:=hA;subst hA;have h0:min (2* (c+q)) maxLen - 2*q=0:=h0;have om:c=0:=by simp only [maxLen]at h0 oh;omega
   have qT:n=0:=by omega
   subst om qT;have zd:cs=[]:=lg bE;subst zd;have hr:=run_append_nil (P:=P) w t ty el inf z hU.out hi fp a m c' (gx ds) (by rw [gL,hs]) vE (by omega) (by omega) (by rw [iq];rw [Nat.zero_add]at mr;omega);have ui:=grownCap_ge w m 0 el;have sr:=T6 hz (grownCap w m 0 el - m);refine⟨some ⟨w.heap.size,0,none⟩,grownCap w m 0 el,0,_,?_,bu _,fresh (gx ds++ (Builtin.zeroCells z.cells (grownCap w m 0 el - m)).toList) (grownCap w m 0 el) (by omega) (by rw [dh,sr,gL];omega) (by
    rw [zF (by omega),kA (by omega)]
    rfl) (D7 (BH _) (by intro hn;rw [hn]at gL;simp at gL;omega))⟩
   rw [Nat.zero_add,hr]
   congr 3
   apply Array.ext';simp
  ·have hA:A=some ⟨g,o,none⟩:=hA;have hh:w.heap[g]?=some (.cells cur el (0,0)):=hh;have lP:o+ (min (2* (c+q)) maxLen - 2*q)<=cur.size:=lP;have hc:∀j,j<2*n->cur[o+j]?=(gx cs)[j]?:=hc
   by_cases DS:n+m<=c
   ·have hf:=run_firstCells_some (P:=P) w inf.size m a m c' (gx ds) (by rw [gL,hs]) vE;have ax:=run_storeCells_at P g (o+2*n) el (gx ds) 0 cur w hh (by rw [gL];omega) rJ;simp only [Nat.add_zero]at ax;refine⟨some ⟨g,o,none⟩,c,q,w.setRow g (cur.toList.take (o+2*n)++gx ds++cur.toList.drop (o+2*n+ (gx ds).length)).toArray,?_,dC _,hS.turn (k:=lL el A n c q cs) (k':=lL el (some ⟨g,o,none⟩) (n+m) c q (cs++ds)) (g:=g) hk (by simp [Ck.il,lL,hA]) (by simp [Ck.il,lL]) ?_ ?_⟩
    ·rw [hA];rw [hs]at hf;simp [Builtin.append_,run_underlying hU.out,sizeOf,typeInfo,hi,hs,Builtin.lenOf,DS,Addr.add_lit,hf];rw [show n*2=2*n by omega];simp [ax]
    ·exact⟨⟨O,O,O,by simp,fun x _ hx=>setRow_other w g x _ (fun e=>hx (by rw [e]))⟩,dC _⟩
    ·refine .qj (BH _) ⟨by show(gx (cs++ds)).length=2* (n+m);rw [C4,dh,bE,hR.1],by show 2* (n+m)<=min (2* (c+q)) maxLen - 2*q;omega,rW,.inr ⟨g,o,_,O,hg,setRow_heap w g cur _ el _ hh,?_,fun j hj=>?_⟩⟩
     ·show o+ (min (2* (c+q)) maxLen - 2*q)<=_;simp;omega
     ·have kF:j<2* (n+m):=hj;show((cur.toList.take (o+2*n)++gx ds++cur.toList.drop (o+2*n+ (gx ds).length)).toArray)[o+j]?=(gx (cs++ds))[j]?;rw [IC];have hcl2:cur.toList.length=cur.size:=by simp
      rw [List.getElem?_toArray]
      by_cases s4:j<2*n
      ·rw [fK,lh (by simp;omega),rB,aT (by omega),lh (by omega)];rw [Array.getElem?_toList];exact hc j s4
      ·rw [fK,jW (by simp;omega),lh (by simp;omega),jW (by omega)]
       congr 1
       simp;omega
   ·have holds:∀j v,(gx cs)[j]?=some v->w.cell? ((⟨g,o,none⟩:Addr).add j)=some v:=by
     intro j v hj;have s4:j<2*n:=by have:=(gw.1 hj).1;omega
     rw [zL];simp only [World.cell?,hh];simpa [hc j s4]using hj
    have hr:=run_append_grow (P:=P) w t ty el inf z hU.out hi fp ⟨g,o,none⟩ n c (gx cs) (by rw [P9,hs];omega) holds a m c' (gx ds) (by rw [gL,hs]) vE (by omega) I8 (growslice_fits (by omega) (by rw [iq];exact mr));have ui:=grownCap_ge w (n+m) c el;have sr:=T6 hz (grownCap w (n+m) c el - (n+m));refine⟨some ⟨w.heap.size,0,none⟩,grownCap w (n+m) c el,0,_,?_,bu _,fresh (gx cs++gx ds++ (Builtin.zeroCells z.cells (grownCap w (n+m) c el - (n+m))).toList) (grownCap w (n+m) c el) (by omega) (by rw [dh,dh,sr,gL,P9];omega) (by
     rw [zF (by rw [dh];omega),kA (by rw [dh];omega)]) (D7 (RF (BH _) (BH _)) (by intro hn;have:=aL List.length hn;rw [dh,gL]at this;simp at this;omega))⟩
    rw [hA,hr]
    congr 3
    apply Array.ext';simp
theorem UT{el:ad}{b:Nat}[hU:bP P t (.slice el)][bO P el z 2 b]{x y:ae}(i:Nat){A:ai}{n c:Nat}{cs:List PW}{m:Nat}{ds:List PW}(hS:St w0 w ks)(hk:ks[i]?=some (lL el A n c q cs))(hR:oQ w A' m ds)(hx:ev e x= .slice A n c)(hy:ev e y= .slice A' m c')(hz:z.cells= #[z0,z1])(oh:n+m+q<=4611686018427387903)(mr:(n+m)*b<=140737488355328)(hb:Nat.blt d N=true)(hK:∀A2 c2 q2 w',q2<=q->St w0 w' (ks.set i (lL el A2 (n+m) c2 q2 (cs++ds)))->ak P N ops K rest (bC e d (.slice A2 (n+m) c2)) w'):
 ak P N ops K (⟨some d,.call ⟨.builtin .append, #[x,y], #[t,t]⟩,ty,pos,af,none⟩::rest) e w:=by
 obtain⟨A2,c2,q2,w',hr,Kk,l8⟩:=afZ (P:=P) (t:=t) hz i hS hk hR (by simp only [maxLen];omega) mr ty (c':=c');refine .val (w':=w') ?_ hb (hK _ _ _ _ Kk l8);simp [execOp,resolve,invoke,builtin,hx,hy,hr]
end
theorem FY{m:Nat}{y:ah}(h:fw m y){t:Int}(ht:y.head?=some t):t∈y/\∀x∈y,t<=x:=by
 cases y with
 | nil=>cases ht
 | cons a r=>
  obtain rfl:=bj ht;refine⟨by simp,fun x hx=>?_⟩;rcases ij.1 hx with rfl | hx
  ·exact Int.le_refl _
  ·exact Int.le_of_lt ((List.pairwise_cons.1 h.1.1).1 x hx)
theorem fw.bit{m:Nat}{y:ah}(h:fw m y)(j:Nat):(bV y).testBit j=decide ((j:Int)∈y):=xR h.1.1.nodup h.1.2 j
theorem agm{m:Nat}{y z out:ah}{t:Int}(hy:fw m y)(hz:fw m z)(ho:fw m out)(e:bV out=bV y^^^bV z)(h1:y.head?=some t)(h2:z.head?=some t):∀x∈out,t<x:=fun x hx=>by
 obtain⟨a1,a2⟩:=FY hy h1;obtain⟨b1,b2⟩:=FY hz h2;have nO:=ho.1.2 x hx;have hb:=ho.bit x.toNat;rw [e,Nat.testBit_xor,hy.bit,hz.bit,show((x.toNat:Nat):Int)=x by omega]at hb;rcases Int.lt_trichotomy x t with h | h | h
 ·exfalso;have c1:x∉y:=fun h9=>by have:=a2 x h9;omega
  have c2:x∉z:=fun h9=>by have:=b2 x h9;omega
  simp [c1,c2,hx]at hb
 ·exfalso;subst h;simp [a1,b1,hx]at hb
 exact h
def zm(m:Nat)(y:ah):Nat:=match y with | []=>0 | t::_=>m - t.toNat
theorem aeL{m:Nat}{y out:ah}{t:Int}(hy:fw m y)(h1:y.head?=some t)(h:∀x∈out,t<x):zm m out<zm m y:=by
 cases y with
 | nil=>cases h1
 | cons a r=>
  obtain rfl:=bj h1;have h0:=hy.1.2 a (by simp);have h2:=hy.2 a (by simp);cases out with
  | nil=>show 0<m - a.toNat;omega
  | cons b r'=>
   have:=h b (by simp);show m - b.toNat<m - a.toNat;omega
def oN(v t:Nat):Prop:=v.testBit t=true/\∀j,j<t->v.testBit j=false
theorem oN.eq{v s t:Nat}(h:oN v s)(h':oN v t):s=t:=by
 rcases Nat.lt_trichotomy s t with hl | e | hl
 ·have:=h'.2 s hl;rw [h.1]at this;cases this
 ·exact e
 have:=h.2 t hl;rw [h'.1]at this;cases this
theorem oN.ne{v t:Nat}(h:oN v t):v≠0:=by rintro rfl;simp [oN]at h
theorem oN.xor{u v s t:Nat}(h:oN u s)(h':oN v t)(hl:s<t):oN (u^^^v) s:=by
 refine⟨by rw [Nat.testBit_xor,h'.2 s hl,h.1];rfl,fun j hj=>?_⟩;rw [Nat.testBit_xor,h.2 j hj,h'.2 j (by omega)];rfl
theorem HV:∀ {B:List (Nat×Nat)},(∀p∈B,oN p.2 p.1)->(B.map (·.1)).Nodup->∀v∈cK (B.map (·.2)),v≠0->∃t∈B.map (·.1),oN v t
 | [],_,_,v,hv,cS=>by simp [cK]at hv;exact absurd hv cS
 | p::B,hT,hn,v,hv,cS=>by
  simp only [List.map_cons,kz]at hn;rw [List.map_cons,xO]at hv;have jh:∀q∈B,oN q.2 q.1:=fun q hq=>hT q (eb _ hq)
  rcases hv with hv | hv
  ·obtain⟨t,ht,h⟩:=HV jh hn.2 v hv cS;exact⟨t,eb _ ht,h⟩
  ·by_cases e:p.2^^^v=0
   ·have e2:v=p.2:=by
     have:=aL (p.2^^^ ·) e;simpa only [oJ,Nat.xor_zero]using this
    exact⟨p.1,by simp,by rw [e2];exact hT p (by simp)⟩
   ·obtain⟨t,ht,h⟩:=HV jh hn.2 _ hv e;have se:p.1≠t:=fun e=>hn.1 (by rw [e];exact ht)
    have hp:=hT p (by simp);have e3:v=p.2^^^ (p.2^^^v):=(oJ _ _).symm;rcases Nat.lt_or_gt_of_ne se with hl | hl
    ·exact⟨p.1,by simp,by rw [e3];exact hp.xor h hl⟩
    ·exact⟨t,by simp [ht],by rw [e3,Nat.xor_comm];exact h.xor hp hl⟩
theorem Nn:∀ {B:List (Nat×Nat)},(∀p∈B,oN p.2 p.1)->(B.map (·.1)).Nodup->(cK (B.map (·.2))).Nodup
 | [],_,_=>by simp [cK]
 | p::B,hT,hn=>by
  simp only [List.map_cons,kz]at hn;rw [List.map_cons];refine Cb (Nn (fun q hq=>hT q (eb _ hq)) hn.2) fun hb=>?_
  obtain⟨t,ht,h⟩:=HV (fun q hq=>hT q (eb _ hq)) hn.2 _ hb (hT p (by simp)).ne;exact hn.1 (by rw [(hT p (by simp)).eq h];exact ht)
abbrev KP:=PW×(ah×ah)
def uT(m:Nat)(p:KP):Prop:=fw m p.2.1/\fw m p.2.2/\p.2.2≠[]
def pf(Q:List KP):List Nat:=Q.map fun p=>bV p.2.2
def rX(p:KP):Int:=p.2.2.headD 0
theorem uT.hd{m:Nat}{p:KP}(h:uT m p):p.2.2.head?=some (rX p):=by
 obtain⟨_,_,h⟩:=h;unfold rX;cases e:p.2.2 with
 | nil=>exact absurd e h
 | cons a r=>rfl
theorem uT.bot{m:Nat}{p:KP}(h:uT m p):oN (bV p.2.2) (rX p).toNat:=by
 obtain⟨a,b⟩:=FY h.2.1 h.hd;have h0:=h.2.1.1.2 _ a;refine⟨?_,fun j hj=>?_⟩
 ·rw [h.2.1.bit,show(((rX p).toNat:Nat):Int)=rX p by omega];exact eC a
 rw [h.2.1.bit];refine cM fun hm=>?_
 have:=b _ hm;omega
theorem afi{Q:List KP}{m:Nat}{L:List Nat}(hk:(Q.map rX).Nodup)(hQ:∀p∈Q,uT m p)(h:iZ (pf Q) L):lf L Q.length:=by
 refine⟨pf Q,by simp [pf],?_,h.symm⟩;have e:pf Q=(Q.map fun p=> ((rX p).toNat,bV p.2.2)).map (·.2):=by simp [pf]
 rw [e];refine Nn (fun p hp=>?_) ?_
 ·obtain⟨q,hq,rfl⟩:=eh.1 hp;exact(hQ q hq).bot
 rw [List.map_map];have h0:∀p∈Q,0<=rX p:=fun p hp=> (hQ p hp).2.1.1.2 _ (FY (hQ p hp).2.1 (hQ p hp).hd).1
 rw [List.Nodup,List.pairwise_map]at hk|-;refine hk.imp_of_mem fun {p q} hp hq cS e=>cS ?_
 have e:(rX p).toNat=(rX q).toNat:=e;have:=h0 p hp;have:=h0 q hq;omega
abbrev kL(A:ai)(v u:aX):Ck:=Bx 188 2 A [v.v,u.v]
theorem Qf{y:ah}(h:y≠[]):y.head?=some (gi y 0):=by
 cases y with
 | nil=>exact absurd rfl h
 | cons a r=>rfl
theorem ad6(Av:ai)(cv:Nat)(Q:List KP)(s0 s:aX)(x0 x:ah)(m:Nat)(w:aa)(hQ:oQ w Av Q.length (Q.map (·.1)))(PC:∀p∈Q,(bt w p.1.s.a p.1.s.n p.2.1/\bt w p.1.v.a p.1.v.n p.2.2)/\uT m p)(hQl:Q.length<=1000)(nO:bt w s0.a s0.n x0)(mX:fw m x0)(hx:bt w s.a s.n x)(hX:fw m x)(hm:m<=1000):
 aG prog 188 [.slice Av Q.length cv,.agg #[s0.v,s.v]] w (fun v w'=>∃jI oI s' x' X,v= .agg #[aX.v jI,aX.v s']/\fw m oI/\fw m x'/\bV x^^^bV x'∈cK (pf Q)/\(∀p∈Q,x'.head?≠p.2.2.head?)/\St w w' X/\(jI=s0/\oI=x0\/ar 2 jI.a jI.n jI.c oI∈X)/\(s'=s/\x'=x\/ar 2 s'.a s'.n s'.c x'∈X)):=by
 refine bw func188 O ntmps188 O (kX O O) (bb O (wu (St.refl w) O O ?_));intro P3 w1 aC;refine sK aC O ?_;intro P4 w2 aE;have aE:St w w2 (kL P3 s0 s::kL P4 bW bW::[]):=aE.swap;refine az O ?_;refine Cd.loop (α:=Nat×(aX×ah)×(aX×ah)×List Ck) (fun z=> [(0,.slice Av Q.length cv),(3,.pointer P3),(4,.pointer P4),(5,aj (z.1:Int))]) (fun z w'=>z.1<=Q.length/\(∀j (hj:j<Q.length),j<z.1->z.2.2.1.2.head?≠Q[j].2.2.head?)/\fw m z.2.1.2/\fw m z.2.2.1.2/\bV x^^^bV z.2.2.1.2∈cK (pf Q)/\(z.2.1.1=s0/\z.2.1.2=x0\/ar 2 z.2.1.1.a z.2.1.1.n z.2.1.1.c z.2.1.2∈z.2.2.2)/\(z.2.2.1.1=s/\z.2.2.1.2=x\/ar 2 z.2.2.1.1.a z.2.2.1.1.n z.2.2.1.1.c z.2.2.1.2∈z.2.2.2)/\St w w' (kL P3 z.2.1.1 z.2.2.1.1::kL P4 bW bW::z.2.2.2)) (fun z=>zm m z.2.2.1.2* (Q.length+1)+ (Q.length - z.1)) (0,(s0,x0),(s,x),[]) (ajz O) ⟨bu _,(fun j _ h=>absurd h (mg _)),mX,hX,by show bV x^^^bV x∈_;rw [Nat.xor_self];exact tw _,.inl ⟨O,O⟩,.inl ⟨O,O⟩,aE⟩ ?_;clear aE aC;rintro⟨i,⟨v,qp⟩,⟨u,y⟩,X⟩ e w3 ⟨hi,cS,nJ,hy,iP,ur,my,hS⟩;dsimp only at hi cS nJ hy iP ur my hS|-;have Bv:bt w3 v.a v.n qp:=by
  rcases ur with⟨rfl,rfl⟩ | h9
  ·exact hS.b9 nO
  exact mD hS (eb _ (eb _ h9))
 have qZ:bt w3 u.a u.n y:=by
  rcases my with⟨rfl,rfl⟩ | h9
  ·exact hS.b9 hx
  exact mD hS (eb _ (eb _ h9))
 have DO:=Bv.1;have pZ:=qZ.1;have hyb:=hy.1.len hy.2;have hqb:=nJ.1.len nJ.2;have iN:=hS.rd 0 O;refine bb O (ba O O (aq O ?_));refine cz 10 O (fun h1=>?_) (fun h1=>?_)
 ·have dI:i<Q.length:=by omega
  have DM:Q[i]∈Q:=fe dI;have sV:=oQ.below hQ hS.below;have pN:Rd w3 (aB Av (i*2)) 2 (fun j=> [Q[i].1.s.v,Q[i].1.v.v].getD j undef):=by
   have h:=sV.at_ (j:=i) dI;simp only [List.getElem_map]at h;exact h
  obtain⟨⟨y5,vF⟩,xw,sf,Br⟩:=PC _ DM;have fC:=uT.hd (m:=m) (p:=Q[i]) ⟨xw,sf,Br⟩;have Rj:bV Q[i].2.2∈cK (pf Q):=jJ (eh.2 ⟨_,DM,O⟩);have gf:∀ {y':ah},y'.head?≠Q[i].2.2.head?->(∀j (hj:j<Q.length),j<i->y'.head?≠Q[j].2.2.head?)->∀j (hj:j<Q.length),j<i+1->y'.head?≠Q[j].2.2.head?:=fun h1 h2 j hj ou=>by
   rcases Nat.lt_or_eq_of_le (Nat.le_of_lt_succ ou)with h | h
   ·exact h2 j hj h
   subst h;exact h1
  replace y5:=hS.b9 y5;replace vF:=hS.b9 vF;generalize Q[i]=p at*;obtain⟨⟨⟨sa,sn,sc⟩,⟨va,vn,vc⟩⟩,gq,gz⟩:=p;dsimp only at pN y5 vF xw sf Br Rj gf;have hpsl:=y5.1;have hpvl:=vF.1;have DA:=Qf Br;have hgzl:0<gz.length:=List.length_pos_iff.2 Br;refine au O (aI iN O (au O (aV iN O ?_)));refine au O (ba O O (au O (az O ?_)));refine aM _ O (fun h2=>?_) (fun h2=>?_)
  ·have KD:y≠[]:=fun h9=>by rw [h9]at pZ;simp at pZ;omega
   have Qs:=Qf KD;refine cW O (dQ [xS (Av) (Q.length) (cv),xI ((i:Int)),xP (aB Av (i*2)),xP (aB (aB Av (i*2)) 1),xS (va) (vn) (vc),xP (aB (va) ((0:Int)).toNat),xI (gi (gz) ((0:Int))),xP (aB (P3) 1),xS (u.a) (u.n) (u.c),xP (aB (u.a) ((0:Int)).toNat),xI (gi (y) ((0:Int))),xB (decide ((gi (gz) ((0:Int)))=(gi (y) ((0:Int)))))] O (eE O) ?_ ?_)
   ·exact⟨Dr O,Dr O,fun _ _ hb _ _=>Hx (i:=(i:Int)) (oQ.below sV hb) O O O (by omega) (by omega) Az,fun _ _ hb _ _=>aI (Rd.below pN hb) O Az,fun _ _ hb _ _=>ajt (j:=1) (Rd.below pN hb) O O O O O Az,fun _ _ hb _ _=>ajn (vF.ao hb).2 O O O (by decide) (by omega) Az,fun _ _ hb _ _=>aY (vF.ao hb) O Az,fun _ _ hb _ _=>aI (iN.below hb) O Az,fun _ _ hb _ _=>aV (iN.below hb) O Az,fun _ _ hb _ _=>ajn (qZ.ao hb).2 O O O (by decide) (by omega) Az,fun _ _ hb _ _=>aY (qZ.ao hb) O Az,Dr O,aw⟩
   intro e4 w4 jX _;replace hS:=hS.ao jX;replace qZ:=qZ.ao jX;replace Bv:=Bv.ao jX;replace y5:=y5.ao jX;replace vF:=vF.ao jX;replace pN:=Rd.below pN jX;replace sV:=oQ.below sV jX;replace iN:=Rd.below iN jX;refine fv O (aM _ O (fun h3=>?_) (fun h3=>?_))
   ·have Qt:y.head?=gz.head?:=by rw [Qs,DA];exact aL some h3.symm
    refine cW O ?_;refine jm [17] [yP (aB (P3) 0),yS (v.a) (v.n) (v.c),yS (Av) (Q.length) (cv),yI ((i:Int)),yP (aB Av (i*2)),yP (aB (aB Av (i*2)) 0),yS (sa) (sn) (sc),.pr (fun r w'=>∃A1 c1 o1,r= .slice A1 o1.length c1/\fw m o1/\St w w' (ar 2 A1 o1.length c1 o1::kL P3 v u::kL P4 bW bW::X)),yP (aB (P3) 1),yS (u.a) (u.n) (u.c),yS (Av) (Q.length) (cv),yI ((i:Int)),yP (aB Av (i*2)),yP (aB (aB Av (i*2)) 1),yS (va) (vn) (vc),.p2 7 (fun a r w'=>∃A1 c1 o1 A2 c2 o2,a= .slice A1 o1.length c1/\r= .slice A2 o2.length c2/\fw m o1/\fw m o2/\bV o2=bV y^^^bV gz/\St w w' (ar 2 A2 o2.length c2 o2::ar 2 A1 o1.length c1 o1::kL P3 v u::kL P4 bW bW::X)),.pr (fun r w'=>∃A1 c1 o1 A2 c2 o2,r= .agg #[.slice A1 (List.length o1) c1,.slice A2 (List.length o2) c2]/\fw m o1/\fw m o2/\bV o2=bV y^^^bV gz/\St w w' (ar 2 A2 o2.length c2 o2::ar 2 A1 o1.length c1 o1::kL P3 v u::kL P4 bW bW::X)),.pr (fun _ w'=>∃A1 c1 o1 A2 c2 o2,fw m o1/\fw m o2/\bV o2=bV y^^^bV gz/\St w w' (ar 2 A2 (List.length o2) c2 o2::ar 2 A1 (List.length o1) c1 o1::kL P3 ⟨A1,(List.length o1),c1⟩ ⟨A2,(List.length o2),c2⟩::kL P4 bW bW::X))] (ly (ly (ly (ly (ly (ly (ly (cg.2 ⟨Ye.cH (fun v w w' h hb=>by obtain⟨A',c',o1,hv,h1,hT⟩:=h;exact⟨A',c',o1,hv,h1,hT.ao hb⟩),(ly (ly (ly (ly (ly (ly (ly (cg.2 ⟨VH (fun a v w w' h hb=>by obtain⟨A1,c1,o1,A2,c2,o2,h1,h2,h3,h4,h5,hT⟩:=h;exact⟨A1,c1,o1,A2,c2,o2,h1,h2,h3,h4,h5,hT.ao hb⟩),(cg.2 ⟨Ye.cH (fun v w w' h hb=>by obtain⟨A1,c1,o1,A2,c2,o2,h1,h3,h4,h5,hT⟩:=h;exact⟨A1,c1,o1,A2,c2,o2,h1,h3,h4,h5,hT.ao hb⟩),(cg.2 ⟨Ye.cH (fun v w w' h hb=>by obtain⟨A1,c1,o1,A2,c2,o2,h3,h4,h5,hT⟩:=h;exact⟨A1,c1,o1,A2,c2,o2,h3,h4,h5,hT.ao hb⟩),(fun _ h=>by cases h)⟩)⟩)⟩))))))))⟩)))))))) ?_ ?_
    ·refine⟨cP fun _ _ hb _ _ _=>aI (iN.below hb) O (bq O O),cP fun _ _ hb _ _ _=>aV (iN.below hb) O (bq O O),bZ O,bZ O,cP fun _ _ hb _ _ _=>Hx (i:=(i:Int)) (oQ.below sV hb) O O O (by omega) (by omega) (bq O O),cP fun _ _ hb _ _ _=>aI (Rd.below pN hb) O (bq O O),cP fun _ _ hb _ _ _=>ajt (j:=0) (Rd.below pN hb) O O O O O (bq O O),?_,cP fun _ _ hb _ _ _=>aI (iN.below hb) O (bq O O),cP fun _ _ hb _ _ _=>aV (iN.below hb) O (bq O O),bZ O,bZ O,cP fun _ _ hb _ _ _=>Hx (i:=(i:Int)) (oQ.below sV hb) O O O (by omega) (by omega) (bq O O),cP fun _ _ hb _ _ _=>aI (Rd.below pN hb) O (bq O O),cP fun _ _ hb _ _ _=>ajt (j:=1) (Rd.below pN hb) O O O O O (bq O O),?_,?_,?_,aw⟩
     ·refine cP fun e1 w1 hb hp bc hq=>?_
      refine aF (K3 v.a sa v.c sc v.n sn m qp gq _ (Bv.ao hb) (y5.ao hb) nJ xw hm) O ?_;rintro _ w9 ⟨A',c',o1,rfl,h1,_,xF⟩;exact ak.n (fu.dn O xF.below ⟨A',c',o1,O,h1,(hS.ao hb).call xF⟩)
     ·refine cP fun e1 w1 hb hp bc hq=>?_
      obtain⟨A1,c1,o1,I5,ow,hT⟩:=(hp 7 _ _ (by kernel_rfl) rfl rfl (by kernel_rfl));refine aF (K3 u.a va u.c vc u.n vn m y gz _ (qZ.ao hb) (vF.ao hb) hy sf hm) O ?_;rintro _ w9 ⟨A',c',o2,rfl,h1,h2,xF⟩;exact ak.n (fu.dn O xF.below ⟨A1,c1,o1,A',c',o2,I5,O,ow,h1,h2,hT.call xF⟩)
     ·refine cP fun e1 w1 hb hp bc hq=>?_
      obtain⟨A1,c1,o1,A2,c2,o2,I5,YE,g1,g2,g3,hT⟩:=(hp 15 _ _ (by kernel_rfl) rfl rfl (by kernel_rfl));refine CC (by exact inferInstance) (by exact inferInstance) O O (by exact I5) (by exact YE) O O O (ak.n ?_);exact fu.dn O (Below.refl _ _) ⟨A1,c1,o1,A2,c2,o2,O,g1,g2,g3,hT⟩
     refine ju fun e1 w1 hb hp bc hq=>?_
     obtain⟨A1,c1,o1,A2,c2,o2,YF,g1,g2,g3,hT⟩:=(hp 16 _ _ (by kernel_rfl) rfl rfl (by kernel_rfl));refine bS 2 2 hT O O (by exact YF) O O O O ?_;intro w9 bh;exact ak.n (fF.st O ⟨A1,c1,o1,A2,c2,o2,g1,g2,g3,bh⟩)
    intro e5 w5 _ hu _ _;obtain⟨A1,c1,o1,A2,c2,o2,ow,xq,qS,hT⟩:=hu 17 _ rfl (by kernel_rfl);have Gb:=aeL hy (out:=o2) (Qt.trans DA) (agm hy sf xq qS (Qt.trans DA) DA);have abh:=Nat.mul_le_mul_right (Q.length+1) Gb;rw [Nat.succ_mul]at abh;refine fJ O (aK O (aS O (tQ ?_)));refine⟨(0,(⟨A1,o1.length,c1⟩,o1),(⟨A2,o2.length,c2⟩,o2),ar 2 A2 o2.length c2 o2::ar 2 A1 o1.length c1 o1::X),?_,(ajz O),bu _,(fun j _ h=>absurd h (mg _)),ow,xq,?_,.inr (by simp),.inr (by simp),hT.perm ?_⟩
    ·show zm m o2* (Q.length+1)+ (Q.length - 0)<zm m y* (Q.length+1)+ (Q.length - i);omega
    ·show bV x^^^bV o2∈_;rw [qS,<-Nat.xor_assoc];exact rn iP Rj
    show([_,_]++ [_,_]++X).Perm ([_,_]++ [_,_]++X);exact iK.append_right X
   refine aD O (aK O (aS O (tQ ?_)));exact⟨(i+1,(v,qp),(u,y),X),by show zm m y* (Q.length+1)+ (Q.length - (i+1))<zm m y* (Q.length+1)+ (Q.length - i);omega,⟨rfl,rfl,rfl,aL (Value.int .i64) (by omega),aw⟩,by show i+1<=Q.length;omega,gf (by rw [Qs,DA];intro h9;exact h3 (bj h9).symm) cS,nJ,hy,iP,ur,my,hS⟩
  have KD:y=[]:=lg (by omega);refine bo O (bn (cJ O ?_));refine bI 1 iN O O O (bS 2 1 hS O O O O O O O ?_);intro w6 bg;have bg:St w w6 (kL P3 v u::kL P4 v u::X):=bg;refine bD O ?_;refine⟨P4,_,O,bg.rd 1 O,v,qp,u,y,_,O,nJ,hy,iP,fun p hp=>?_,bg,ur.imp id fun h=>by simp [h],my.imp id fun h=>by simp [h]⟩;rw [KD,(PC p hp).2.hd];exact fun h=>by cases h
 refine ay O (ay O (ay O (ay O (az O ?_))));refine Cd.dZ O (bo O (bn (cJ O ?_)));refine bI 1 iN O O O (bS 2 1 hS O O O O O O O ?_);intro w6 bg;have bg:St w w6 (kL P3 v u::kL P4 v u::X):=bg;refine bD O ?_;refine⟨P4,_,O,bg.rd 1 O,v,qp,u,y,_,O,nJ,hy,iP,fun p hp=>?_,bg,ur.imp id fun h=>by simp [h],my.imp id fun h=>by simp [h]⟩;obtain⟨j,hj,rfl⟩:=gj.1 hp;exact cS j hj (by omega)
structure MU(n:Int)(R:ah)(B:ag)(e:Nat):Prop where
 lH:0<=gi R e/\gi R e<=n - 1
 mj:0<e->gi R ((e:Int) - 1)<=gi R e
 row:SA (gl B e)/\∀d∈gl B e,(0<=d/\d<R.length)/\gi R d<gi R e
 tr:∀d∈gl B e,∀c∈gl B d,c∈gl B e
theorem V5{R:ah}(h:∀e:Nat,e<R.length->0<e->gi R ((e:Int) - 1)<=gi R e):lK R:=by
 have key:∀j i:Nat,i<=j->j<R.length->gi R i<=gi R j:=by
  intro j
  induction j with
  | zero=>
   intro i hi _;have:i=0:=by omega
   rw [this];exact Int.le_refl _
  | succ j ih=>
   intro i hi hj
   by_cases e:i=j+1
   ·subst e;exact Int.le_refl _
   ·have h3:=ih i (by omega) (by omega);have h4:=h (j+1) hj (by omega);rw [show((j+1:Nat):Int) - 1=(j:Int) by omega]at h4;omega
 refine List.pairwise_iff_getElem.2 fun i j hi hj pO=>?_
 have:=key j i (by omega) (by omega)
 rwa [bX hi,bX hj]at this
theorem RZ(n:Int)(A D:ai)(cA cD N M:Nat)(R:ah)(rs:List aX)(B:ag)(w:aa)(hR:bt w A N R)(hB:bL w D M rs B)(hn: -1000<=n/\n<=1000)(hN:N<=1000000)(hM:M<=1000000):
 aG prog 75 [.agg #[aj n,.slice A N cA,.slice D M cD]] w (fun v w'=>∃b:Bool,v= .bool b/\(b=true↔eV n R B)/\St w w' []):=by
 have gZ:R.length=N:=hR.1;have kh:B.length=M:=hB.len;refine bw func75 O ntmps75 O (b7 O) (bb O (lT (St.refl w) O O ?_));intro A1 w1 aC;have fa:=aC.below;have h1:Rd w1 A1 3 (fun j=> [Value.int .i64 n,.slice A N cA,.slice D M cD].getD j undef):=aC.rd 0 O;have hR:=hR.ao fa;have hB:=hB.ao fa;have aC:=aC.none;refine aq O (aI h1 O (fL (j:=0) h1 (by exact aL Value.pointer O) O O O O (aF (oC _ _ _ _) O ?_)));rintro _ w1 ⟨rfl,rfl⟩
 first | refine de rfl rfl ?_ | refine dV rfl rfl ?_
 refine aq O (cz 11 O (fun h=>?_) (fun g1=>?_))
 ·refine ay O (ay O (ay O (ay O (aq O (ay O (ay O (ay O (ay O (ay O (ay O (ay O ?_)))))))))));refine az O (Cd.eH O (dB O (ck O ?_)));exact⟨false,O,⟨fun h'=>absurd h' (by decide),fun hP=>absurd hP.n1 (by omega)⟩,aC⟩
 refine au O (aI h1 O (au O (aV h1 O ?_)));refine au O (ba O O (au O (aq O ?_)));refine cz 17 O (fun h=>?_) (fun g2=>?_)
 ·refine ay O (ay O (ay O (ay O (ay O (ay O (ay O (az O ?_)))))));refine Cd.eH O (dB O (ck O ?_));exact⟨false,O,⟨fun h'=>absurd h' (by decide),fun hP=>by have:=hP.od;omega⟩,aC⟩
 refine au O (aI h1 O (au O (aV h1 O ?_)));refine au O (ba O O (au O ?_));refine aI h1 O (au O (aV h1 O ?_));refine au O (ba O O (au O (az O ?_)));refine aM _ O (fun h=>?_) (fun g3=>?_)
 ·refine dB O (ck O ?_);exact⟨false,O,⟨fun h'=>absurd h' (by decide),fun hP=>by have:=hP.len;omega⟩,aC⟩
 obtain rfl:N=M:=by omega
 refine cW O ?_;refine Cd.loop (α:=Nat) (fun e=> [(1,.pointer A1),(3,aj e)]) (fun e w'=>e<=N/\(∀j:Nat,j<e->MU n R B j)/\St w1 w' []) (fun e=>N - e) 0 (ajz O) ⟨bu _,fun j hj=>by omega,St.refl _⟩ ?_;rintro e ev4 w4 ⟨he,kp,ax⟩;have hb:=ax.below;have h1:=Rd.below h1 hb;have hR:=hR.ao hb;have hB:=hB.ao hb;clear hb;refine bb O (aI h1 O (aV h1 O ?_));refine ba O O (az O ?_);refine aM _ O (fun h3=>?_) (fun h3=>?_)
 ·have sY:e<N:=by omega
  have ZI:gi R e∈R:=gi_in (by omega);have DP:eV n R B->0<e->gi R ((e:Int) - 1)<=gi R e:=fun hP h0=>by
   have:=hP.mj.le (show e - 1<=e by omega) (by omega)
   rwa [show((e - 1:Nat):Int)=(e:Int) - 1 by omega]at this
  obtain⟨bad,rU⟩:∃p:Prop,p=(¬(0<=gi R e/\gi R e<=n - 1)\/(0<e/\gi R e<gi R ((e:Int) - 1))):=⟨_,rfl⟩;have aap:Decidable bad:=by rw [rU];infer_instance
  refine wm 4 O (nq (α:=Unit) (fun _=> [(1,.pointer A1),(3,aj e),(60,.bool (decide bad))]) (fun _ w'=>St w4 w' []) ?_ ?_)
  ·have yJ:(¬(0<=gi R e/\gi R e<=n - 1))\/((0<=gi R e/\gi R e<=n - 1)/\e=0)\/((0<=gi R e/\gi R e<=n - 1)/\0<e/\gi R e<gi R ((e:Int) - 1))\/((0<=gi R e/\gi R e<=n - 1)/\0<e/\gi R ((e:Int) - 1)<=gi R e):=by omega
   rcases yJ with hc | ⟨hc,h0⟩ | ⟨hc,h0,hr⟩ | ⟨hc,h0,hr⟩
   ·--dup 4
    refine dQ [xP (aB (A1) 1),xS (A) (N) (cA),xI ((e:Int)),xP (aB (A) ((e:Int)).toNat),xI (gi (R) ((e:Int))),xP (aB (A1) 0),xI (n),xI ((n) - ((1:Int))),xB (decide (0<=gi R e/\gi R e<=n - 1)),xB (decide (¬(0<=gi R e/\gi R e<=n - 1))),xB (true),xU,xU,xU,xU,xU,xU,xU,xU,xU,xU,xU,xU,xU,xU,xU,xU,xB (true)] O (eE O) ?_ ?_
    ·refine⟨fun _ _ hb _ _=>aI (h1.below hb) O Az,fun _ _ hb _ _=>aV (h1.below hb) O Az,Dr O,fun _ _ hb _ _=>aA (hR.ao hb).2 O Az,fun _ _ hb _ _=>aY (hR.ao hb) O Az,fun _ _ hb _ _=>aI (h1.below hb) O Az,fun _ _ hb _ _=>fL (h1.below hb) O O O O O Az,fun _ _ _ _ _=>dq O Az,?_,fun _ _ _ _ _=>de O O Az,fun _ _ _ _ _=>Dk O (by exact aL Value.bool (eC (by omega))),Dr O,Dr O,Dr O,Dr O,Dr O,Dr O,Dr O,Dr O,Dr O,Dr O,Dr O,Dr O,Dr O,Dr O,Dr O,Dr O,Dr O,aw⟩
     ·intro e1 w1 hb hp bc;refine aF (oC _ _ _ _) O ?_;rintro _ w2 ⟨rfl,ax⟩;subst ax;refine ak.n (d0 (by exact O))
    intro u w6 hb _;refine tQ ?_;exact⟨(),⟨O,O,aL Value.bool (eC (by rw [rU];omega)).symm,aw⟩,(St.refl w4).ao hb⟩
   ·refine dQ [.ex (.pointer (aB (A1) 1)),.ex (.slice (A) (N) (cA)),.ex (aj ((e:Int))),.ex (.pointer (aB (A) ((e:Int)).toNat)),.ex (aj (gi (R) ((e:Int)))),.ex (.pointer (aB (A1) 0)),.ex (aj (n)),.ex (aj ((n) - ((1:Int)))),.ex (.bool (decide (0<=gi R e/\gi R e<=n - 1))),.ex (.bool (decide (¬(0<=gi R e/\gi R e<=n - 1)))),.ex (.bool (false)),.ex (aj ((e:Int))),.ex (.bool (decide (((0:Int))< ((e:Int))))),.ex (.bool (false)),.ex (undef),.ex (undef),.ex (undef),.ex (undef),.ex (undef),.ex (undef),.ex (undef),.ex (undef),.ex (undef),.ex (undef),.ex (undef),.ex (undef),.ex (.bool (false)),.ex (.bool (false))] O (eE O) ?_ ?_
    ·refine⟨fun _ _ hb _ _=>aI (h1.below hb) O Az,fun _ _ hb _ _=>aV (h1.below hb) O Az,Dr O,fun _ _ hb _ _=>aA (hR.ao hb).2 O Az,fun _ _ hb _ _=>aY (hR.ao hb) O Az,fun _ _ hb _ _=>aI (h1.below hb) O Az,fun _ _ hb _ _=>fL (h1.below hb) O O O O O Az,fun _ _ _ _ _=>dq O Az,?_,fun _ _ _ _ _=>de O O Az,fun _ _ _ _ _=>Dk O (by exact aL Value.bool (cM (fun h=>h (by omega)))),Dr O,Dr O,fun _ _ _ _ _=>Dk O (by exact aL Value.bool (cM (by omega))),Dr O,Dr O,Dr O,Dr O,Dr O,Dr O,Dr O,Dr O,Dr O,Dr O,Dr O,Dr O,Dr O,Dr O,aw⟩
     ·intro e1 w1 hb hp bc;refine aF (oC _ _ _ _) O ?_;rintro _ w2 ⟨rfl,ax⟩;subst ax;refine ak.n (d0 (by exact O))
    intro u w6 hb _;refine tQ ?_;exact⟨(),⟨O,O,aL Value.bool (cM (by rw [rU];omega)).symm,aw⟩,(St.refl w4).ao hb⟩
   ·refine dQ [.ex (.pointer (aB (A1) 1)),.ex (.slice (A) (N) (cA)),.ex (aj ((e:Int))),.ex (.pointer (aB (A) ((e:Int)).toNat)),.ex (aj (gi (R) ((e:Int)))),.ex (.pointer (aB (A1) 0)),.ex (aj (n)),.ex (aj ((n) - ((1:Int)))),.ex (.bool (decide (0<=gi R e/\gi R e<=n - 1))),.ex (.bool (decide (¬(0<=gi R e/\gi R e<=n - 1)))),.ex (.bool (false)),.ex (aj ((e:Int))),.ex (.bool (decide (((0:Int))< ((e:Int))))),.ex (.bool (true)),.ex (.pointer (aB (A1) 1)),.ex (.slice (A) (N) (cA)),.ex (aj ((e:Int))),.ex (.pointer (aB (A) ((e:Int)).toNat)),.ex (aj (gi (R) ((e:Int)))),.ex (.pointer (aB (A1) 1)),.ex (.slice (A) (N) (cA)),.ex (aj ((e:Int))),.ex (aj (((e:Int)) - ((1:Int)))),.ex (.pointer (aB (A) (((e:Int)) - ((1:Int))).toNat)),.ex (aj (gi (R) (((e:Int)) - ((1:Int))))),.ex (.bool (true)),.ex (.bool (true)),.ex (.bool (true))] O (eE O) ?_ ?_
    ·refine⟨fun _ _ hb _ _=>aI (h1.below hb) O Az,fun _ _ hb _ _=>aV (h1.below hb) O Az,Dr O,fun _ _ hb _ _=>aA (hR.ao hb).2 O Az,fun _ _ hb _ _=>aY (hR.ao hb) O Az,fun _ _ hb _ _=>aI (h1.below hb) O Az,fun _ _ hb _ _=>fL (h1.below hb) O O O O O Az,fun _ _ _ _ _=>dq O Az,?_,fun _ _ _ _ _=>de O O Az,fun _ _ _ _ _=>Dk O (by exact aL Value.bool (cM (fun h=>h (by omega)))),Dr O,Dr O,fun _ _ _ _ _=>Dk O (by exact aL Value.bool (eC (by omega))),fun _ _ hb _ _=>au O (aI (h1.below hb) O Az),fun _ _ hb _ _=>au O (aV (h1.below hb) O Az),Dr O,fun _ _ hb _ _=>au O (aA (hR.ao hb).2 O Az),fun _ _ hb _ _=>au O (aY (hR.ao hb) O Az),fun _ _ hb _ _=>au O (aI (h1.below hb) O Az),fun _ _ hb _ _=>au O (aV (h1.below hb) O Az),Dr O,fun _ _ _ _ _=>au O (dq O Az),fun _ _ hb _ _=>au O (aA (hR.ao hb).2 O Az),fun _ _ hb _ _=>au O (aY (hR.ao hb) O Az),fun _ _ _ _ _=>Dk O (by exact aL Value.bool (eC (by omega))),Dr O,Dr O,aw⟩
     ·intro e1 w1 hb hp bc;refine aF (oC _ _ _ _) O ?_;rintro _ w2 ⟨rfl,ax⟩;subst ax;refine ak.n (d0 (by exact O))
    intro u w6 hb _;refine tQ ?_;exact⟨(),⟨O,O,aL Value.bool (eC (by rw [rU];omega)).symm,aw⟩,(St.refl w4).ao hb⟩
   ·refine dQ [.ex (.pointer (aB (A1) 1)),.ex (.slice (A) (N) (cA)),.ex (aj ((e:Int))),.ex (.pointer (aB (A) ((e:Int)).toNat)),.ex (aj (gi (R) ((e:Int)))),.ex (.pointer (aB (A1) 0)),.ex (aj (n)),.ex (aj ((n) - ((1:Int)))),.ex (.bool (decide (0<=gi R e/\gi R e<=n - 1))),.ex (.bool (decide (¬(0<=gi R e/\gi R e<=n - 1)))),.ex (.bool (false)),.ex (aj ((e:Int))),.ex (.bool (decide (((0:Int))< ((e:Int))))),.ex (.bool (true)),.ex (.pointer (aB (A1) 1)),.ex (.slice (A) (N) (cA)),.ex (aj ((e:Int))),.ex (.pointer (aB (A) ((e:Int)).toNat)),.ex (aj (gi (R) ((e:Int)))),.ex (.pointer (aB (A1) 1)),.ex (.slice (A) (N) (cA)),.ex (aj ((e:Int))),.ex (aj (((e:Int)) - ((1:Int)))),.ex (.pointer (aB (A) (((e:Int)) - ((1:Int))).toNat)),.ex (aj (gi (R) (((e:Int)) - ((1:Int))))),.ex (.bool (false)),.ex (.bool (false)),.ex (.bool (false))] O (eE O) ?_ ?_
    ·refine⟨fun _ _ hb _ _=>aI (h1.below hb) O Az,fun _ _ hb _ _=>aV (h1.below hb) O Az,Dr O,fun _ _ hb _ _=>aA (hR.ao hb).2 O Az,fun _ _ hb _ _=>aY (hR.ao hb) O Az,fun _ _ hb _ _=>aI (h1.below hb) O Az,fun _ _ hb _ _=>fL (h1.below hb) O O O O O Az,fun _ _ _ _ _=>dq O Az,?_,fun _ _ _ _ _=>de O O Az,fun _ _ _ _ _=>Dk O (by exact aL Value.bool (cM (fun h=>h (by omega)))),Dr O,Dr O,fun _ _ _ _ _=>Dk O (by exact aL Value.bool (eC (by omega))),fun _ _ hb _ _=>au O (aI (h1.below hb) O Az),fun _ _ hb _ _=>au O (aV (h1.below hb) O Az),Dr O,fun _ _ hb _ _=>au O (aA (hR.ao hb).2 O Az),fun _ _ hb _ _=>au O (aY (hR.ao hb) O Az),fun _ _ hb _ _=>au O (aI (h1.below hb) O Az),fun _ _ hb _ _=>au O (aV (h1.below hb) O Az),Dr O,fun _ _ _ _ _=>au O (dq O Az),fun _ _ hb _ _=>au O (aA (hR.ao hb).2 O Az),fun _ _ hb _ _=>au O (aY (hR.ao hb) O Az),fun _ _ _ _ _=>Dk O (by exact aL Value.bool (cM (by omega))),Dr O,Dr O,aw⟩
     ·intro e1 w1 hb hp bc;refine aF (oC _ _ _ _) O ?_;rintro _ w2 ⟨rfl,ax⟩;subst ax;refine ak.n (d0 (by exact O))
    intro u w6 hb _;refine tQ ?_;exact⟨(),⟨O,O,aL Value.bool (cM (by rw [rU];omega)).symm,aw⟩,(St.refl w4).ao hb⟩
  rintro _ ev5 w5 qW;have hb:=qW.below;have h1:=Rd.below h1 hb;have hR:=hR.ao hb;have hB:=hB.ao hb;clear hb;refine aM _ O (fun h4=>?_) (fun h4=>?_)
  ·refine dB O (dO (dJ ?_));refine ck O ?_;rw [rU]at h4;exact⟨false,O,⟨fun h'=>absurd h' (by decide),fun hP=>by have:=hP.lH _ ZI;have:=DP hP;omega⟩,(aC.ao (ax.ao qW.below).below).none⟩
  rw [rU]at h4;have dM:=hB.at_ (i:=(e:Int)) (by omega) (by omega);have jG:=dM.1;have gD:=hB.cap_ (i:=(e:Int)) (by omega) (by omega);have hcap2:=hB.top.1;refine cW O ?_;refine Cd.loop (α:=Nat) (fun q=> [(1,.pointer A1),(3,aj e),(4,aj q)]) (fun q w'=>q<=(rg rs e).n/\(∀p:Nat,p<q->(0<=gi (gl B e) p/\gi (gl B e) p< (e:Int))/\gi R (gi (gl B e) p)<gi R e)/\(∀p:Nat,p+1<q->gi (gl B e) p<gi (gl B e) ((p+1:Nat):Int))/\(∀p:Nat,p<q->∀c∈gl B (gi (gl B e) p),c∈gl B e)/\St w5 w' []) (fun q=> (rg rs e).n - q) 0 (ajz O) ⟨bu _,fun p hp=>by omega,fun p hp=>by omega,fun p hp=>by omega,St.refl _⟩ ?_;rintro q ev6 w6 ⟨hq,da,has,zb,uz⟩;have hb:=uz.below;have h1:=Rd.below h1 hb;have hR:=hR.ao hb;have hB:=hB.ao hb;have dM:=dM.ao hb;clear hb;refine bb O (aI h1 O (aV h1 O (aq O (aA hB.top.2 O (bQ hB.top O ?_)))));refine ba O O (az O ?_);refine aM _ O (fun h5=>?_) (fun h5=>?_)
  ·have ng:q< (gl B e).length:=by omega
   have gp:=gi_in ng;refine aD O (aI h1 O (aV h1 O (aq O (aA hB.top.2 O (bQ hB.top O (aq O (aA dM.2 O (aY dM O ?_))))))));have eL:eV n R B->0<q->gi (gl B e) ((q - 1:Nat):Int)<gi (gl B e) q:=fun hP h0=> (hP.row e (by omega)).1.uF (show q - 1<q by omega) ng
   have DW:(0<q->gi (gl B e) ((q:Int) - 1)<gi (gl B e) q)->∀p:Nat,p+1<q+1->gi (gl B e) p<gi (gl B e) ((p+1:Nat):Int):=fun h p hp=>by
    by_cases ep:p+1=q
    ·have:=h (by omega);rw [<-ep]at this
     rwa [show((p+1:Nat):Int) - 1=(p:Int) by omega]at this
    ·exact has p (by omega)
   obtain⟨d,uh⟩:∃d,gi (gl B e) q=d:=⟨_,rfl⟩;rw [uh]at gp eL|-;obtain⟨Na,xi⟩:∃p:Prop,p=((¬(0<=d/\d<=(e:Int) - 1))\/((0<=d/\d<=(e:Int) - 1)/\gi R e<=gi R d)\/(0<q/\d<=gi (gl B e) ((q:Int) - 1))):=⟨_,rfl⟩;have hdec2:Decidable Na:=by rw [xi];infer_instance
   refine zC 1 O (nq (α:=Unit) (fun _=> [(1,.pointer A1),(3,aj e),(4,aj q),(5,aj d),(113,.bool (decide Na))]) (fun _ w'=>St w6 w' []) ?_ ?_)
   ·have yJ:(¬(0<=d/\d<=(e:Int) - 1))\/((0<=d/\d<=(e:Int) - 1)/\gi R e<=gi R d)\/((0<=d/\d<=(e:Int) - 1)/\gi R d<gi R e/\q=0)\/((0<=d/\d<=(e:Int) - 1)/\gi R d<gi R e/\0<q/\d<=gi (gl B e) ((q:Int) - 1))\/((0<=d/\d<=(e:Int) - 1)/\gi R d<gi R e/\0<q/\gi (gl B e) ((q:Int) - 1)<d):=by omega
    rcases yJ with hc | ⟨hc,hr⟩ | ⟨hc,hr,h0⟩ | ⟨hc,hr,h0,hs⟩ | ⟨hc,hr,h0,hs⟩
    ·--dup 5
     refine dQ [xI (d),xI ((e:Int)),xI (((e:Int)) - ((1:Int))),xB (decide (0<=d/\d<=(e:Int) - 1)),xB (decide (¬(0<=d/\d<=(e:Int) - 1))),xB (true),xU,xU,xU,xU,xU,xU,xU,xU,xU,xU,xU,xB (true),xB (true),xU,xU,xU,xU,xU,xU,xU,xU,xU,xU,xU,xU,xU,xU,xU,xB (true)] O (eE O) ?_ ?_
     ·refine⟨Dr O,Dr O,fun _ _ _ _ _=>dq O Az,?_,fun _ _ _ _ _=>de O O Az,fun _ _ _ _ _=>Dk O (by exact aL Value.bool (eC (by omega))),Dr O,Dr O,Dr O,Dr O,Dr O,Dr O,Dr O,Dr O,Dr O,Dr O,Dr O,Dr O,Dr O,Dr O,Dr O,Dr O,Dr O,Dr O,Dr O,Dr O,Dr O,Dr O,Dr O,Dr O,Dr O,Dr O,Dr O,Dr O,Dr O,aw⟩
      ·intro e1 w1 hb hp bc;refine aF (oC _ _ _ _) O ?_;rintro _ w2 ⟨rfl,ax⟩;subst ax;refine ak.n (d0 (by exact O))
     intro u w8 hb _;refine tQ ?_;exact⟨(),⟨O,O,O,O,aL Value.bool (eC (by rw [xi];omega)).symm,aw⟩,(St.refl w6).ao hb⟩
    ·refine dQ [.ex (aj (d)),.ex (aj ((e:Int))),.ex (aj (((e:Int)) - ((1:Int)))),.ex (.bool (decide (0<=d/\d<=(e:Int) - 1))),.ex (.bool (decide (¬(0<=d/\d<=(e:Int) - 1)))),.ex (.bool (false)),.ex (.pointer (aB (A1) 1)),.ex (.slice (A) (N) (cA)),.ex (aj (d)),.ex (.pointer (aB (A) (d).toNat)),.ex (aj (gi (R) (d))),.ex (.pointer (aB (A1) 1)),.ex (.slice (A) (N) (cA)),.ex (aj ((e:Int))),.ex (.pointer (aB (A) ((e:Int)).toNat)),.ex (aj (gi (R) ((e:Int)))),.ex (.bool (decide ((gi (R) ((e:Int)))<=(gi (R) (d))))),.ex (.bool (decide ((gi (R) ((e:Int)))<=(gi (R) (d))))),.ex (.bool (true)),.ex (undef),.ex (undef),.ex (undef),.ex (undef),.ex (undef),.ex (undef),.ex (undef),.ex (undef),.ex (undef),.ex (undef),.ex (undef),.ex (undef),.ex (undef),.ex (undef),.ex (undef),.ex (.bool (true))] O (eE O) ?_ ?_
     ·refine⟨Dr O,Dr O,fun _ _ _ _ _=>dq O Az,?_,fun _ _ _ _ _=>de O O Az,fun _ _ _ _ _=>Dk O (by exact aL Value.bool (cM (fun h=>h (by omega)))),fun _ _ hb _ _=>au O (aI (h1.below hb) O Az),fun _ _ hb _ _=>au O (aV (h1.below hb) O Az),Dr O,fun _ _ hb _ _=>au O (aA (hR.ao hb).2 O Az),fun _ _ hb _ _=>au O (aY (hR.ao hb) O Az),fun _ _ hb _ _=>au O (aI (h1.below hb) O Az),fun _ _ hb _ _=>au O (aV (h1.below hb) O Az),Dr O,fun _ _ hb _ _=>au O (aA (hR.ao hb).2 O Az),fun _ _ hb _ _=>au O (aY (hR.ao hb) O Az),Dr O,Dr O,fun _ _ _ _ _=>Dk O (by exact aL Value.bool (eC (by omega))),Dr O,Dr O,Dr O,Dr O,Dr O,Dr O,Dr O,Dr O,Dr O,Dr O,Dr O,Dr O,Dr O,Dr O,Dr O,Dr O,aw⟩
      ·intro e1 w1 hb hp bc;refine aF (oC _ _ _ _) O ?_;rintro _ w2 ⟨rfl,ax⟩;subst ax;refine ak.n (d0 (by exact O))
     intro u w8 hb _;refine tQ ?_;exact⟨(),⟨O,O,O,O,aL Value.bool (eC (by rw [xi];omega)).symm,aw⟩,(St.refl w6).ao hb⟩
    ·refine dQ [.ex (aj (d)),.ex (aj ((e:Int))),.ex (aj (((e:Int)) - ((1:Int)))),.ex (.bool (decide (0<=d/\d<=(e:Int) - 1))),.ex (.bool (decide (¬(0<=d/\d<=(e:Int) - 1)))),.ex (.bool (false)),.ex (.pointer (aB (A1) 1)),.ex (.slice (A) (N) (cA)),.ex (aj (d)),.ex (.pointer (aB (A) (d).toNat)),.ex (aj (gi (R) (d))),.ex (.pointer (aB (A1) 1)),.ex (.slice (A) (N) (cA)),.ex (aj ((e:Int))),.ex (.pointer (aB (A) ((e:Int)).toNat)),.ex (aj (gi (R) ((e:Int)))),.ex (.bool (decide ((gi (R) ((e:Int)))<=(gi (R) (d))))),.ex (.bool (decide ((gi (R) ((e:Int)))<=(gi (R) (d))))),.ex (.bool (false)),.ex (aj ((q:Int))),.ex (.bool (decide (((0:Int))< ((q:Int))))),.ex (.bool (false)),.ex (undef),.ex (undef),.ex (undef),.ex (undef),.ex (undef),.ex (undef),.ex (undef),.ex (undef),.ex (undef),.ex (undef),.ex (undef),.ex (.bool (false)),.ex (.bool (false))] O (eE O) ?_ ?_
     ·refine⟨Dr O,Dr O,fun _ _ _ _ _=>dq O Az,?_,fun _ _ _ _ _=>de O O Az,fun _ _ _ _ _=>Dk O (by exact aL Value.bool (cM (fun h=>h (by omega)))),fun _ _ hb _ _=>au O (aI (h1.below hb) O Az),fun _ _ hb _ _=>au O (aV (h1.below hb) O Az),Dr O,fun _ _ hb _ _=>au O (aA (hR.ao hb).2 O Az),fun _ _ hb _ _=>au O (aY (hR.ao hb) O Az),fun _ _ hb _ _=>au O (aI (h1.below hb) O Az),fun _ _ hb _ _=>au O (aV (h1.below hb) O Az),Dr O,fun _ _ hb _ _=>au O (aA (hR.ao hb).2 O Az),fun _ _ hb _ _=>au O (aY (hR.ao hb) O Az),Dr O,Dr O,fun _ _ _ _ _=>Dk O (by exact aL Value.bool (cM (by omega))),Dr O,Dr O,fun _ _ _ _ _=>Dk O (by exact aL Value.bool (cM (by omega))),Dr O,Dr O,Dr O,Dr O,Dr O,Dr O,Dr O,Dr O,Dr O,Dr O,Dr O,Dr O,Dr O,aw⟩
      ·intro e1 w1 hb hp bc;refine aF (oC _ _ _ _) O ?_;rintro _ w2 ⟨rfl,ax⟩;subst ax;refine ak.n (d0 (by exact O))
     intro u w8 hb _;refine tQ ?_;exact⟨(),⟨O,O,O,O,aL Value.bool (cM (by rw [xi];omega)).symm,aw⟩,(St.refl w6).ao hb⟩
    ·refine dQ [.ex (aj (d)),.ex (aj ((e:Int))),.ex (aj (((e:Int)) - ((1:Int)))),.ex (.bool (decide (0<=d/\d<=(e:Int) - 1))),.ex (.bool (decide (¬(0<=d/\d<=(e:Int) - 1)))),.ex (.bool (false)),.ex (.pointer (aB (A1) 1)),.ex (.slice (A) (N) (cA)),.ex (aj (d)),.ex (.pointer (aB (A) (d).toNat)),.ex (aj (gi (R) (d))),.ex (.pointer (aB (A1) 1)),.ex (.slice (A) (N) (cA)),.ex (aj ((e:Int))),.ex (.pointer (aB (A) ((e:Int)).toNat)),.ex (aj (gi (R) ((e:Int)))),.ex (.bool (decide ((gi (R) ((e:Int)))<=(gi (R) (d))))),.ex (.bool (decide ((gi (R) ((e:Int)))<=(gi (R) (d))))),.ex (.bool (false)),.ex (aj ((q:Int))),.ex (.bool (decide (((0:Int))< ((q:Int))))),.ex (.bool (true)),.ex (aj (d)),.ex (.pointer (aB (A1) 2)),.ex (.slice (D) (N) (cD)),.ex (aj ((e:Int))),.ex (.pointer (aB (D) ((e:Int)).toNat)),.ex (.slice ((rg (rs) ((e:Int))).a) ((rg (rs) ((e:Int))).n) ((rg (rs) ((e:Int))).c)),.ex (aj ((q:Int))),.ex (aj (((q:Int)) - ((1:Int)))),.ex (.pointer (aB ((rg (rs) ((e:Int))).a) (((q:Int)) - ((1:Int))).toNat)),.ex (aj (gi (gl B e) (((q:Int)) - ((1:Int))))),.ex (.bool (true)),.ex (.bool (true)),.ex (.bool (true))] O (eE O) ?_ ?_
     ·refine⟨Dr O,Dr O,fun _ _ _ _ _=>dq O Az,?_,fun _ _ _ _ _=>de O O Az,fun _ _ _ _ _=>Dk O (by exact aL Value.bool (cM (fun h=>h (by omega)))),fun _ _ hb _ _=>au O (aI (h1.below hb) O Az),fun _ _ hb _ _=>au O (aV (h1.below hb) O Az),Dr O,fun _ _ hb _ _=>au O (aA (hR.ao hb).2 O Az),fun _ _ hb _ _=>au O (aY (hR.ao hb) O Az),fun _ _ hb _ _=>au O (aI (h1.below hb) O Az),fun _ _ hb _ _=>au O (aV (h1.below hb) O Az),Dr O,fun _ _ hb _ _=>au O (aA (hR.ao hb).2 O Az),fun _ _ hb _ _=>au O (aY (hR.ao hb) O Az),Dr O,Dr O,fun _ _ _ _ _=>Dk O (by exact aL Value.bool (cM (by omega))),Dr O,Dr O,fun _ _ _ _ _=>Dk O (by exact aL Value.bool (eC (by omega))),Dr O,fun _ _ hb _ _=>au O (aI (h1.below hb) O Az),fun _ _ hb _ _=>au O (aV (h1.below hb) O Az),Dr O,fun _ _ hb _ _=>au O (aA (hB.top.ao hb).2 O Az),fun _ _ hb _ _=>au O (bQ (hB.top.ao hb) O Az),Dr O,fun _ _ _ _ _=>au O (dq O Az),fun _ _ hb _ _=>au O (aA (dM.ao hb).2 O Az),fun _ _ hb _ _=>au O (aY (dM.ao hb) O Az),fun _ _ _ _ _=>Dk O (by exact aL Value.bool (eC (by omega))),Dr O,Dr O,aw⟩
      ·intro e1 w1 hb hp bc;refine aF (oC _ _ _ _) O ?_;rintro _ w2 ⟨rfl,ax⟩;subst ax;refine ak.n (d0 (by exact O))
     intro u w8 hb _;refine tQ ?_;exact⟨(),⟨O,O,O,O,aL Value.bool (eC (by rw [xi];omega)).symm,aw⟩,(St.refl w6).ao hb⟩
    ·refine dQ [.ex (aj (d)),.ex (aj ((e:Int))),.ex (aj (((e:Int)) - ((1:Int)))),.ex (.bool (decide (0<=d/\d<=(e:Int) - 1))),.ex (.bool (decide (¬(0<=d/\d<=(e:Int) - 1)))),.ex (.bool (false)),.ex (.pointer (aB (A1) 1)),.ex (.slice (A) (N) (cA)),.ex (aj (d)),.ex (.pointer (aB (A) (d).toNat)),.ex (aj (gi (R) (d))),.ex (.pointer (aB (A1) 1)),.ex (.slice (A) (N) (cA)),.ex (aj ((e:Int))),.ex (.pointer (aB (A) ((e:Int)).toNat)),.ex (aj (gi (R) ((e:Int)))),.ex (.bool (decide ((gi (R) ((e:Int)))<=(gi (R) (d))))),.ex (.bool (decide ((gi (R) ((e:Int)))<=(gi (R) (d))))),.ex (.bool (false)),.ex (aj ((q:Int))),.ex (.bool (decide (((0:Int))< ((q:Int))))),.ex (.bool (true)),.ex (aj (d)),.ex (.pointer (aB (A1) 2)),.ex (.slice (D) (N) (cD)),.ex (aj ((e:Int))),.ex (.pointer (aB (D) ((e:Int)).toNat)),.ex (.slice ((rg (rs) ((e:Int))).a) ((rg (rs) ((e:Int))).n) ((rg (rs) ((e:Int))).c)),.ex (aj ((q:Int))),.ex (aj (((q:Int)) - ((1:Int)))),.ex (.pointer (aB ((rg (rs) ((e:Int))).a) (((q:Int)) - ((1:Int))).toNat)),.ex (aj (gi (gl B e) (((q:Int)) - ((1:Int))))),.ex (.bool (false)),.ex (.bool (false)),.ex (.bool (false))] O (eE O) ?_ ?_
     ·refine⟨Dr O,Dr O,fun _ _ _ _ _=>dq O Az,?_,fun _ _ _ _ _=>de O O Az,fun _ _ _ _ _=>Dk O (by exact aL Value.bool (cM (fun h=>h (by omega)))),fun _ _ hb _ _=>au O (aI (h1.below hb) O Az),fun _ _ hb _ _=>au O (aV (h1.below hb) O Az),Dr O,fun _ _ hb _ _=>au O (aA (hR.ao hb).2 O Az),fun _ _ hb _ _=>au O (aY (hR.ao hb) O Az),fun _ _ hb _ _=>au O (aI (h1.below hb) O Az),fun _ _ hb _ _=>au O (aV (h1.below hb) O Az),Dr O,fun _ _ hb _ _=>au O (aA (hR.ao hb).2 O Az),fun _ _ hb _ _=>au O (aY (hR.ao hb) O Az),Dr O,Dr O,fun _ _ _ _ _=>Dk O (by exact aL Value.bool (cM (by omega))),Dr O,Dr O,fun _ _ _ _ _=>Dk O (by exact aL Value.bool (eC (by omega))),Dr O,fun _ _ hb _ _=>au O (aI (h1.below hb) O Az),fun _ _ hb _ _=>au O (aV (h1.below hb) O Az),Dr O,fun _ _ hb _ _=>au O (aA (hB.top.ao hb).2 O Az),fun _ _ hb _ _=>au O (bQ (hB.top.ao hb) O Az),Dr O,fun _ _ _ _ _=>au O (dq O Az),fun _ _ hb _ _=>au O (aA (dM.ao hb).2 O Az),fun _ _ hb _ _=>au O (aY (dM.ao hb) O Az),fun _ _ _ _ _=>Dk O (by exact aL Value.bool (cM (by omega))),Dr O,Dr O,aw⟩
      ·intro e1 w1 hb hp bc;refine aF (oC _ _ _ _) O ?_;rintro _ w2 ⟨rfl,ax⟩;subst ax;refine ak.n (d0 (by exact O))
     intro u w8 hb _;refine tQ ?_;exact⟨(),⟨O,O,O,O,aL Value.bool (cM (by rw [xi];omega)).symm,aw⟩,(St.refl w6).ao hb⟩
   rintro _ ev7 w7 za;have hb:=za.below;have h1:=Rd.below h1 hb;have hR:=hR.ao hb;have hB:=hB.ao hb;have dM:=dM.ao hb;clear hb;have bl:=((aC.ao ax.below).ao qW.below).ao (uz.ao za.below).below;refine aM _ O (fun h6=>?_) (fun h6=>?_)
   ·refine dB O (dO (dJ (dO (dJ ?_))));refine ck O ?_;rw [xi]at h6;exact⟨false,rfl,⟨fun h'=>absurd h' (by decide),fun hP=>by have h8:=hP.at_ (e:=(e:Int)) (by omega) (by omega);have h9:=h8.2.1 d gp;rcases Nat.eq_zero_or_pos q with h0 | h0<;>first | omega | (have:=eL hP h0;rw [show((q - 1:Nat):Int)=(q:Int) - 1 by omega]at this;omega)⟩,bl.none⟩
   rw [xi]at h6;have Du:0<=d/\d< (e:Int):=by omega
   have gF:=hB.at_ (i:=d) (by omega) (by omega);have Q3:=gF.1;have hcapd:=hB.cap_ (i:=d) (by omega) (by omega);refine cW O ?_;refine Cd.loop (α:=Nat) (fun t=> [(1,.pointer A1),(3,aj e),(4,aj q),(5,aj d),(6,aj t)]) (fun t w'=>t<=(rg rs d).n/\(∀p:Nat,p<t->gi (gl B d) p∈gl B e)/\St w7 w' []) (fun t=> (rg rs d).n - t) 0 (ajz O) ⟨bu _,fun p hp=>by omega,St.refl _⟩ ?_;rintro t ev8 w8 ⟨ht,Rq,Gk⟩;have hb:=Gk.below;have h1:=Rd.below h1 hb;have hR:=hR.ao hb;have hB:=hB.ao hb;have dM:=dM.ao hb;have gF:=gF.ao hb;clear hb;refine bb O (aI h1 O (aV h1 O (aq O (aA hB.top.2 O (bQ hB.top O ?_)))));refine ba O O (az O ?_);refine aM _ O (fun h7=>?_) (fun h7=>?_)
   ·have DY:t< (gl B d).length:=by omega
    have rW:=gi_in DY;refine cW O ?_;refine dQ [xP (aB (A1) 2),xS (D) (N) (cD),xI ((e:Int)),xP (aB (D) ((e:Int)).toNat),xS ((rg (rs) ((e:Int))).a) ((rg (rs) ((e:Int))).n) ((rg (rs) ((e:Int))).c),xP (aB (A1) 2),xS (D) (N) (cD),xI (d),xP (aB (D) (d).toNat),xS ((rg (rs) (d)).a) ((rg (rs) (d)).n) ((rg (rs) (d)).c),xI ((t:Int)),xP (aB ((rg (rs) (d)).a) ((t:Int)).toNat),xI (gi (gl B d) ((t:Int))),xB (decide (gi (gl B d) t∈gl B e)),xB (decide (¬(gi (gl B d) t∈gl B e)))] O (eE O) ?_ ?_
    ·refine⟨fun _ _ hb _ _=>aI (h1.below hb) O Az,fun _ _ hb _ _=>aV (h1.below hb) O Az,Dr O,fun _ _ hb _ _=>aA (hB.top.ao hb).2 O Az,fun _ _ hb _ _=>bQ (hB.top.ao hb) O Az,fun _ _ hb _ _=>aI (h1.below hb) O Az,fun _ _ hb _ _=>aV (h1.below hb) O Az,Dr O,fun _ _ hb _ _=>aA (hB.top.ao hb).2 O Az,fun _ _ hb _ _=>bQ (hB.top.ao hb) O Az,Dr O,fun _ _ hb _ _=>aA (gF.ao hb).2 O Az,fun _ _ hb _ _=>aY (gF.ao hb) O Az,?_,fun _ _ _ _ _=>de O O Az,aw⟩
     ·intro e1 w1 hb hp bc;refine aF (KS _ _ _ _ _ _ (dM.ao hb) (by omega)) O ?_;rintro _ w2 ⟨rfl,ax⟩;subst ax;refine ak.n (d0 (by exact O))
    intro u w9 vt _;refine fv O (aM _ O (fun h8=>?_) (fun h8=>?_))
    ·refine dB O (dO (dJ (dO (dJ (dO (dJ ?_))))));exact ck O ⟨false,O,⟨fun h'=>absurd h' (by decide),fun hP=>absurd (hP.tr e (by omega) d gp _ rW) h8⟩,((bl.ao Gk.below).ao vt).none⟩
    ·refine aD O (aK O (aS O (tQ ?_)));exact⟨t+1,by show(rg rs d).n - (t+1)< (rg rs d).n - t;omega,(ajz O),by omega,fun p hp=>by
      by_cases ep:p=t
      ·subst ep;exact Decidable.not_not.1 h8
      ·exact Rq p (by omega),Gk.ao vt⟩
   ·refine bo O (bn (cJ O (aK O (aS O (tQ ?_)))));refine⟨q+1,by show(rg rs e).n - (q+1)< (rg rs e).n - q;omega,(ajz O),by omega,fun p hp=>?_,DW (by rw [uh];omega),fun p hp c hc=>?_,uz.ao (za.ao Gk.below).below⟩
    ·by_cases ep:p=q
     ·subst ep;rw [uh];omega
     ·exact da p (by omega)
    ·by_cases ep:p=q
     ·subst ep;rw [uh]at hc;obtain⟨j,hj,rfl⟩:=gj.1 hc;have:=Rq j (by omega)
      rwa [bX hj]at this
     ·exact zb p (by omega) c hc
  ·refine bo O (bn (cJ O (aK O (aS O (tQ ?_)))));refine⟨e+1,by show N - (e+1)<N - e;omega,(ajz O),by omega,fun j hj=>?_,ax.ao (qW.ao uz.below).below⟩
   by_cases ee:j=e
   ·subst ee;refine⟨by omega,fun h0=>by omega,⟨Tm fun p hp=>has p (by omega),fun d hd=>?_⟩,fun d hd c hc=>?_⟩
    ·obtain⟨p,hp,rfl⟩:=gj.1 hd;have:=da p (by omega);rw [bX hp]at this;exact⟨⟨this.1.1,by omega⟩,this.2⟩
    ·obtain⟨p,hp,rfl⟩:=gj.1 hd;exact zb p (by omega) c (by rw [bX hp];exact hc)
   ·exact kp j (by omega)
 ·refine bo O (bn (eG O ?_));refine ck O ?_;have cO:∀j:Nat,j<R.length->MU n R B j:=fun j hj=>kp j (by omega)
  refine⟨true,O,⟨fun _=> ⟨by omega,by omega,by omega,fun x hx=>?_,V5 fun j hj=> (cO j hj).mj,fun j hj=> (cO j hj).row,fun j hj=> (cO j hj).tr⟩,fun _=>O⟩,(aC.ao ax.below).none⟩;obtain⟨j,hj,rfl⟩:=gj.1 hx;have:=(cO j hj).lH
  rwa [bX hj]at this
theorem ae7{α:Type}(X bx N1 K:List α):(X++ (bx++ (N1++K))).Perm (bx++ ((X++N1)++K)):=by
 rw [<-fK,fK X N1 K,<-fK bx X];exact iK.append_right _
theorem ae8{α:Type}(bx N1 Y:List α)(c b:α):(bx++ (N1++ (c::b::Y))).Perm (c::b::(bx++ (N1++Y))):=by
 have:=(iK (l₁:=bx++N1) (l₂:=[c,b])).append_right Y;simpa using this
structure Vq(w0:aa)(A2:ai)(n:Int)(A D:ai)(m cA cD:Nat)(A5:ai)(c5:Nat)(N:ah)(k:Nat)(A6:ai)(c6:Nat)(Q:List KP)(el:Int)(x0:ah)(Y:List Ck)(S:Nat->Bool)(e:Env)(w:aa):Prop where
 f2:e 2= .pointer A2
 f5:e 5= .slice A5 N.length c5
 f6:e 6= .slice A6 Q.length c6
 f7:e 7=aj k
 p0:S 0=true->e 19= .slice A6 Q.length c6
 p1:S 1=true->e 20= .slice A5 N.length c5
 p2:S 2=true->e 21=aj k
 p3:S 3=true->e 22= .pointer (aB A5 k)
 p4:S 4=true->e 23=aj el
 p6:S 6=true->e 25= .agg #[aj n,.slice A m cA,.slice D m cD]
 p7:S 7=true->e 26= .slice A5 N.length c5
 p8:S 8=true->e 27=aj k
 p9:S 9=true->e 28= .pointer (aB A5 k)
 db:S 10=true->e 29=aj el
 mem:∃(N1 bx:List Ck) (Aa Ab:ai) (cb:Nat) (s1:aX) (y1:ah) (s2:aX) (y2:ah) (P:ai),(S 5=true->e 24= .slice Aa 1 1/\ar 2 Aa 1 1 [el]∈N1)/\(S 11=true->e 30= .slice Ab x0.length cb/\ar 2 Ab x0.length cb x0∈N1)/\(S 12=true->e 31= .agg #[.slice Aa 1 1,.slice Ab x0.length cb])/\(S 13=true->e 32= .agg #[aX.v s1,aX.v s2]/\fw m y1/\fw m y2/\bV x0^^^bV y2∈cK (pf Q)/\(∀p∈Q,y2.head?≠p.2.2.head?)/\ar 2 s1.a s1.n s1.c y1∈N1/\ar 2 s2.a s2.n s2.c y2∈N1)/\(S 14=false->bx=[])/\(S 14=true->e 8= .pointer P)/\(S 14=true->S 15=false->bx=[kL P bW bW])/\(S 15=true->bx=[kL P s1 s2])/\St w0 w (bx++ (N1++ (lL 188 A6 Q.length c6 0 (Q.map (·.1))::lZ A2 n A D m cA cD::Y)))
theorem ad4(n:Int)(A D:ai)(cA cD m:Nat)(R:ah)(rs:List aX)(B:ag)(i:Int)(w:aa)(hR:bt w A m R)(hB:bL w D m rs B)(hO:zJ m R B):
 aG prog 140 [.agg #[aj n,.slice A m cA,.slice D m cD],aj i] w (fun v w'=>∃(A':ai) (r c':Nat),v= .slice A' r c'/\lf (iE R B i) r/\r<=1000/\St w w' []):=by
 have hm:=hO.wH;have bT:=hR.1;have Js:∀e∈eO R i,0<=e/\e< (m:Int):=fun e he=>by have:=(BU.1 he).1;rw [bT]at this;exact this
 have Zx:(eO R i).length<=m:=iS (oa _ _) (by rw [dL,mf,tH];omega);have ew:iE R B i=(eO R i).map fun e=>bV (eB R B e):=O
 have Q1:=fun w' h=>Sd n A D cA cD m R i w' h hm
 generalize eO R i=N at*;refine bw func140 O ntmps140 O (b7 O) (bb O (lT (St.refl w) O O ?_));intro A2 w1 aC;refine aq O (bI 2 (aC.rd 0 O) O O O (aq O (aF (Q1 _ (aC.b9 hR)) O ?_)));rintro _ w2 ⟨A5,c5,rfl,ax⟩;have aE:=aC.call ax;clear aC ax Q1;refine U3 aE O ?_;intro A6 w3 aH;have aH:St w w3 (lL 188 A6 ([]:List KP).length 0 0 (([]:List KP).map (·.1))::lZ A2 n A D m cA cD::[ar 2 A5 N.length c5 N]):=aH.perm (List.Perm.cons _ (List.Perm.swap _ _ _));clear aE;refine az O ?_;refine Cd.loop (α:=Nat×List KP×(ai×Nat)×List Ck) (fun z=> [(2,.pointer A2),(5,.slice A5 N.length c5),(6,.slice z.2.2.1.1 z.2.1.length z.2.2.1.2),(7,aj (z.1:Int))])
  (fun z w'=>z.1<=N.length/\z.2.1.length<=z.1/\(∀p∈z.2.1,uT m p/\ar 2 p.1.s.a p.1.s.n p.1.s.c p.2.1∈z.2.2.2/\ar 2 p.1.v.a p.1.v.n p.1.v.c p.2.2∈z.2.2.2)/\(z.2.1.map rX).Nodup/\iZ (pf z.2.1) ((N.take z.1).map fun e=>bV (eB R B e))/\ar 2 A5 N.length c5 N∈z.2.2.2/\St w w' (lL 188 z.2.2.1.1 z.2.1.length z.2.2.1.2 0 (z.2.1.map (·.1))::lZ A2 n A D m cA cD::z.2.2.2)) (fun z=>N.length - z.1) (0,[],(A6,0),[ar 2 A5 N.length c5 N]) ⟨rfl,rfl,rfl,rfl,aw⟩ ⟨bu _,bu _,(fun _ h=>by cases h),List.Pairwise.nil,iZ.refl _,List.mem_cons_self,aH⟩ ?_
 clear aH;rintro⟨k,Q,⟨A6,c6⟩,Y⟩ e w4 ⟨hk,ZD,hQ,FI,hE,da,hS⟩;dsimp only at hk ZD hQ FI hE da hS|-;refine bb O (ba O O (az O ?_));refine aM _ O (fun h1=>?_) (fun h1=>?_)
 ·have o3:k<N.length:=by omega
  have mu:=Js _ (gi_in (out:=N) (i:=k) o3);have o6:(N.take (k+1)).map (fun e=>bV (eB R B e))=(N.take k).map (fun e=>bV (eB R B e))++ [bV (eB R B (gi N k))]:=by rw [pg o3,qA];rfl
  generalize xl:gi N k=el at*;have yW:fw m [el]:=⟨⟨List.pairwise_singleton _ _,fun e he=>by obtain rfl:=dK.1 he;exact mu.1⟩,fun e he=>by obtain rfl:=dK.1 he;exact mu.2⟩;refine cW O (oO (by kernel_rfl) (by kernel_rfl) (fun S e1 w1=>Vq w A2 n A D m cA cD A5 c5 N k A6 c6 Q el (eB R B el) Y S e1 w1) (fun w4 hb=> ⟨O,O,O,O,fun h=> (nomatch h),fun h=> (nomatch h),fun h=> (nomatch h),fun h=> (nomatch h),fun h=> (nomatch h),fun h=> (nomatch h),fun h=> (nomatch h),fun h=> (nomatch h),fun h=> (nomatch h),fun h=> (nomatch h),[],[],none,none,0,bW,[],bW,[],none,fun h=> (nomatch h),fun h=> (nomatch h),fun h=> (nomatch h),fun h=> (nomatch h),fun _=>O,fun h=> (nomatch h),fun h=> (nomatch h),fun h=> (nomatch h),hS.ao hb⟩) ?_ ?_)
  ·intro S q o e1 w4 hq aO hd bE hI;obtain⟨f2,f5,f6,f7,p0,p1,p2,p3,p4,p6,p7,p8,p9,db,N1,bx,Aa,Ab,cb,s1,y1,s2,y2,P,m5,m11,m12,m13,m14,mC,nS,m15,hT⟩:=hI
   match q,hq,aO with
   | 0,hq,aO=>
    obtain rfl:=bj hq;refine kc O (by exact f6) O (ak.n ?_);exact⟨f2,f5,f6,f7,fun _=>O,p1,p2,p3,p4,p6,p7,p8,p9,db,N1,bx,Aa,Ab,cb,s1,y1,s2,y2,P,m5,m11,m12,m13,m14,mC,nS,m15,hT⟩
   | 1,hq,aO=>
    obtain rfl:=bj hq;refine kc O (by exact f5) O (ak.n ?_);exact⟨f2,f5,f6,f7,p0,fun _=>O,p2,p3,p4,p6,p7,p8,p9,db,N1,bx,Aa,Ab,cb,s1,y1,s2,y2,P,m5,m11,m12,m13,m14,mC,nS,m15,hT⟩
   | 2,hq,aO=>
    obtain rfl:=bj hq;refine jq O (by exact f7) O (ak.n ?_);exact⟨f2,f5,f6,f7,p0,p1,fun _=>O,p3,p4,p6,p7,p8,p9,db,N1,bx,Aa,Ab,cb,s1,y1,s2,y2,P,m5,m11,m12,m13,m14,mC,nS,m15,hT⟩
   | 3,hq,aO=>
    obtain rfl:=bj hq;have hN:=mD hT (List.mem_append_right _ (List.mem_append_right _ (eb _ (eb _ da))));refine ajn hN.2 (by exact p1 (aZ hd 1 O)) (by exact p2 (aZ hd 2 O)) O (by omega) (by omega) (ak.n ?_);exact⟨f2,f5,f6,f7,p0,p1,p2,fun _=>O,p4,p6,p7,p8,p9,db,N1,bx,Aa,Ab,cb,s1,y1,s2,y2,P,m5,m11,m12,m13,m14,mC,nS,m15,hT⟩
   | 4,hq,aO=>
    obtain rfl:=bj hq;have hN:=mD hT (List.mem_append_right _ (List.mem_append_right _ (eb _ (eb _ da))));refine ajo (i:=(k:Int)) hN (by exact p3 (aZ hd 3 O)) (by omega) O O ?_;rw [xl];exact ak.n ⟨f2,f5,f6,f7,p0,p1,p2,p3,fun _=>O,p6,p7,p8,p9,db,N1,bx,Aa,Ab,cb,s1,y1,s2,y2,P,m5,m11,m12,m13,m14,mC,nS,m15,hT⟩
   | 5,hq,aO=>
    obtain rfl:=bj hq;have n12:S 12=false:=by
     cases h:S 12 with
     | false=>rfl
     | true=>rw [<-aO];exact(aZ (bE 12 _ h rfl) 5 rfl).symm
    have n13:S 13=false:=by
     cases h:S 13 with
     | false=>rfl
     | true=>rw [<-aO];exact(aZ (bE 12 _ (aZ (bE 13 _ h rfl) 12 rfl) rfl) 5 rfl).symm
    refine dE hT (by exact p4 (aZ hd 4 O)) O O ?_;intro A' w9 hT;replace hT:=hT.perm (eK (l₁:=bx)).symm;exact ak.n ⟨f2,f5,f6,f7,p0,p1,p2,p3,p4,p6,p7,p8,p9,db,(ar 2 A' 1 1 [el]::N1),bx,A',Ab,cb,s1,y1,s2,y2,P,fun _=> ⟨O,List.mem_cons_self⟩,fun h=> ⟨(m11 h).1,eb _ (m11 h).2⟩,fun h=> (nomatch n12.symm.trans h),fun h=> (nomatch n13.symm.trans h),m14,mC,nS,m15,hT⟩
   | 6,hq,aO=>
    obtain rfl:=bj hq;have hmb:lZ A2 n A D m cA cD∈bx++ (N1++ (lL 188 A6 Q.length c6 0 (Q.map (·.1))::lZ A2 n A D m cA cD::Y)):=List.mem_append_right _ (List.mem_append_right _ (eb _ List.mem_cons_self));obtain⟨i9,JX⟩:=List.mem_iff_getElem?.1 hmb;refine bI 2 (hT.rd i9 JX) (by exact f2) O O (ak.n ?_);exact⟨f2,f5,f6,f7,p0,p1,p2,p3,p4,fun _=>O,p7,p8,p9,db,N1,bx,Aa,Ab,cb,s1,y1,s2,y2,P,m5,m11,m12,m13,m14,mC,nS,m15,hT⟩
   | 7,hq,aO=>
    obtain rfl:=bj hq;refine kc O (by exact f5) O (ak.n ?_);exact⟨f2,f5,f6,f7,p0,p1,p2,p3,p4,p6,fun _=>O,p8,p9,db,N1,bx,Aa,Ab,cb,s1,y1,s2,y2,P,m5,m11,m12,m13,m14,mC,nS,m15,hT⟩
   | 8,hq,aO=>
    obtain rfl:=bj hq;refine jq O (by exact f7) O (ak.n ?_);exact⟨f2,f5,f6,f7,p0,p1,p2,p3,p4,p6,p7,fun _=>O,p9,db,N1,bx,Aa,Ab,cb,s1,y1,s2,y2,P,m5,m11,m12,m13,m14,mC,nS,m15,hT⟩
   | 9,hq,aO=>
    obtain rfl:=bj hq;have hN:=mD hT (List.mem_append_right _ (List.mem_append_right _ (eb _ (eb _ da))));refine ajn hN.2 (by exact p7 (aZ hd 7 O)) (by exact p8 (aZ hd 8 O)) O (by omega) (by omega) (ak.n ?_);exact⟨f2,f5,f6,f7,p0,p1,p2,p3,p4,p6,p7,p8,fun _=>O,db,N1,bx,Aa,Ab,cb,s1,y1,s2,y2,P,m5,m11,m12,m13,m14,mC,nS,m15,hT⟩
   | 10,hq,aO=>
    obtain rfl:=bj hq;have hN:=mD hT (List.mem_append_right _ (List.mem_append_right _ (eb _ (eb _ da))));refine ajo (i:=(k:Int)) hN (by exact p9 (aZ hd 9 O)) (by omega) O O ?_;rw [xl];exact ak.n ⟨f2,f5,f6,f7,p0,p1,p2,p3,p4,p6,p7,p8,p9,fun _=>O,N1,bx,Aa,Ab,cb,s1,y1,s2,y2,P,m5,m11,m12,m13,m14,mC,nS,m15,hT⟩
   | 11,hq,aO=>
    obtain rfl:=bj hq;have n12:S 12=false:=by
     cases h:S 12 with
     | false=>rfl
     | true=>rw [<-aO];exact(aZ (bE 12 _ h rfl) 11 rfl).symm
    have n13:S 13=false:=by
     cases h:S 13 with
     | false=>rfl
     | true=>rw [<-aO];exact(aZ (bE 13 _ h rfl) 11 rfl).symm
    refine ajq (K1 n A D cA cD m R rs B el _ (hT.b9 hR) (hT.cV hB) hO.toqB mu.1 mu.2) O (by exact sC (by exact p6 (aZ hd 6 O)) (by exact db (aZ hd 10 O))) O ?_;rintro _ w9 ⟨A',c',rfl,ax⟩;replace hT:=(hT.call ax).perm (eK (l₁:=bx)).symm;exact ak.n ⟨f2,f5,f6,f7,p0,p1,p2,p3,p4,p6,p7,p8,p9,db,(ar 2 A' (eB R B el).length c' (eB R B el)::N1),bx,Aa,A',c',s1,y1,s2,y2,P,fun h=> ⟨(m5 h).1,eb _ (m5 h).2⟩,fun _=> ⟨O,List.mem_cons_self⟩,fun h=> (nomatch n12.symm.trans h),fun h=> (nomatch n13.symm.trans h),m14,mC,nS,m15,hT⟩
   | 12,hq,aO=>
    obtain rfl:=bj hq;have q5:=m5 (aZ hd 5 O);have GS:=m11 (aZ hd 11 O);refine CC (by exact inferInstance) (by exact inferInstance) O O (by exact q5.1) (by exact GS.1) O O O (ak.n ?_);exact⟨f2,f5,f6,f7,p0,p1,p2,p3,p4,p6,p7,p8,p9,db,N1,bx,Aa,Ab,cb,s1,y1,s2,y2,P,m5,m11,fun _=>O,m13,m14,mC,nS,m15,hT⟩
   | 13,hq,aO=>
    obtain rfl:=bj hq;have n15:S 15=false:=by
     cases h:S 15 with
     | false=>rfl
     | true=>rw [<-aO];exact(aZ (bE 15 _ h rfl) 13 rfl).symm
    have q12:=m12 (aZ hd 12 O);have q5:=m5 (aZ (bE 12 _ (aZ hd 12 O) O) 5 O);have GS:=m11 (aZ hd 11 O);have hmw:lL 188 A6 Q.length c6 0 (Q.map (·.1))∈bx++ (N1++ (lL 188 A6 Q.length c6 0 (Q.map (·.1))::lZ A2 n A D m cA cD::Y)):=List.mem_append_right _ (List.mem_append_right _ List.mem_cons_self);obtain⟨i9,JX⟩:=List.mem_iff_getElem?.1 hmw;refine ajq (ad6 A6 c6 Q ⟨Aa,1,1⟩ ⟨Ab,(eB R B el).length,cb⟩ [el] (eB R B el) m _ (hT.LF i9 JX) (fun p hp=> ⟨⟨mD hT (List.mem_append_right _ (List.mem_append_right _ (eb _ (eb _ (hQ p hp).2.1)))),mD hT (List.mem_append_right _ (List.mem_append_right _ (eb _ (eb _ (hQ p hp).2.2))))⟩,(hQ p hp).1⟩) (by omega) (mD hT (List.mem_append_right _ (List.mem_append_left _ q5.2))) yW (mD hT (List.mem_append_right _ (List.mem_append_left _ GS.2))) (hO.ok mu.1 mu.2) (by omega)) O (by exact sC (by exact p0 (aZ hd 0 O)) q12) O ?_;rintro _ w9 ⟨jI,oI,s',x',X,rfl,g1,g2,g3,g4,ax,g5,g6⟩;replace hT:=(hT.call ax).perm (ae7 _ _ _ _);refine ak.n ?_;exact⟨f2,f5,f6,f7,p0,p1,p2,p3,p4,p6,p7,p8,p9,db,(X++N1),bx,Aa,Ab,cb,jI,oI,s',x',P,fun h=> ⟨(m5 h).1,List.mem_append_right _ (m5 h).2⟩,fun h=> ⟨(m11 h).1,List.mem_append_right _ (m11 h).2⟩,m12,fun _=> ⟨rfl,g1,g2,g3,g4,by { rcases g5 with⟨rfl,rfl⟩ | h; { exact List.mem_append_right _ q5.2 }; { exact List.mem_append_left _ h } },by { rcases g6 with⟨rfl,rfl⟩ | h; { exact List.mem_append_right _ GS.2 }; { exact List.mem_append_left _ h } }⟩,m14,mC,nS,fun h=> (nomatch n15.symm.trans h),hT⟩
   | 14,hq,aO=>
    obtain rfl:=bj hq;have n15:S 15=false:=by
     cases h:S 15 with
     | false=>rfl
     | true=>rw [<-aO];exact(aZ (bE 15 _ h rfl) 14 rfl).symm
    obtain rfl:=m14 aO;refine sK hT O fun P' w9 hT=>ak.n ?_;exact⟨f2,f5,f6,f7,p0,p1,p2,p3,p4,p6,p7,p8,p9,db,N1,[kL P' bW bW],Aa,Ab,cb,s1,y1,s2,y2,P',m5,m11,m12,m13,fun h=> (nomatch (show true=false from h)),fun _=>O,fun _ _=>O,fun h=> (nomatch n15.symm.trans h),hT⟩
   | 15,hq,aO=>
    obtain rfl:=bj hq;obtain⟨Ag,g1,g2,g3,g4,g5,g6⟩:=m13 (aZ hd 13 rfl);have h8:=mC (aZ hd 14 O);obtain rfl:=nS (aZ hd 14 rfl) aO;refine bS 2 0 hT O (by exact h8) (by exact Ag) O O O O ?_;intro w9 hT;refine ak.n ?_;exact⟨f2,f5,f6,f7,p0,p1,p2,p3,p4,p6,p7,p8,p9,db,N1,[kL P s1 s2],Aa,Ab,cb,s1,y1,s2,y2,P,m5,m11,m12,fun _=> ⟨Ag,g1,g2,g3,g4,g5,g6⟩,fun h=> (nomatch (aZ hd 14 O).symm.trans h),mC,fun _ h=> (nomatch (show true=false from h)),fun _=>O,hT⟩
   | q+16,hq,_=>exact(nomatch hq)
  ·intro S e1 w4 cO hI;obtain⟨f2,f5,f6,f7,p0,p1,p2,p3,p4,p6,p7,p8,p9,db,N1,bx,Aa,Ab,cb,s1,y1,s2,y2,P,m5,m11,m12,m13,m14,mC,nS,m15,hT⟩:=hI;obtain⟨_,ow,xq,iP,hnh,vB,vC⟩:=m13 (cO 13 (by decide));obtain rfl:=m15 (cO 15 (by decide));have h8:=mC (cO 14 (by decide));refine yf (F:=[(2,.pointer A2),(5,.slice A5 N.length c5),(6,.slice A6 Q.length c6),(7,aj k),(8,.pointer P)]) ⟨f2,f5,f6,f7,h8,aw⟩ ?_;have sT:=hT.rd 0 O;have D1:=mD hT (List.mem_append_right _ (List.mem_append_left _ vC));have di:=D1.1;have hT:=hT.perm (ae8 _ _ _ _ _);have qL:∀q∈Y,q∈[kL P s1 s2]++ (N1++Y):=fun q hq=>List.mem_append_right _ (List.mem_append_right _ hq)
   have Pv:∀q∈N1,q∈[kL P s1 s2]++ (N1++Y):=fun q hq=>List.mem_append_right _ (List.mem_append_left _ hq)
   generalize [kL P s1 s2]++ (N1++Y)=Z at*;clear m5 m11 m12 m13 m14 mC nS m15 hS;refine fJ O (aI sT O (aV sT O ?_));refine ba O O (az O ?_);refine aM _ O (fun h4=>?_) (fun h4=>?_)
   ·have cS:y2≠[]:=fun h9=>by rw [h9]at di;simp at di;omega
    have Pl:uT m ((⟨s1,s2⟩,(y1,y2)):KP):=⟨ow,xq,cS⟩;refine aD O (bI 1 sT O O O (U4 hT O O O ?_));intro qq w9 bh;refine UT 1 bh O (bh.LF 0 O) O O O (by omega) (by omega) O ?_;intro fj gI q40 dA hq40 cj;obtain rfl:q40=0:=by omega
    have cj:St w dA (lL 188 fj (Q++ [((⟨s1,s2⟩,(y1,y2)):KP)]).length gI 0 ((Q++ [((⟨s1,s2⟩,(y1,y2)):KP)]).map (·.1))::lZ A2 n A D m cA cD::Z):=by
     rw [dh,qA];exact cj.tail
    refine aq O (aK O (aS O (tQ ?_)));refine⟨(k+1,Q++ [(⟨s1,s2⟩,(y1,y2))],(fj,gI),Z),by show N.length - (k+1)<N.length - k;omega,⟨O,O,by show Value.slice _ _ _= .slice fj (Q++ [((⟨s1,s2⟩,(y1,y2)):KP)]).length gI;rw [dh];rfl,aL (Value.int .i64) (by omega),aw⟩,by show k+1<=N.length;omega,by show(Q++ [_]).length<=k+1;simp;omega,fun p hp=>?_,?_,?_,qL _ da,cj⟩
    ·rcases eD.1 hp with hp | hp
     ·exact⟨(hQ p hp).1,qL _ (hQ p hp).2.1,qL _ (hQ p hp).2.2⟩
     ·obtain rfl:=dK.1 hp;exact⟨Pl,Pv _ vB,Pv _ vC⟩
    ·show((Q++ [((⟨s1,s2⟩,(y1,y2)):KP)]).map rX).Nodup;rw [qA,List.nodup_append];refine⟨FI,by simp,fun a ha b hb e=>?_⟩;obtain⟨q,hq,rfl⟩:=eh.1 ha;obtain rfl:=dK.1 hb;exact hnh q hq (by rw [(hQ q hq).1.hd,e];exact Pl.hd)
    ·show iZ (pf (Q++ [((⟨s1,s2⟩,(y1,y2)):KP)])) ((N.take (k+1)).map _);rw [show pf (Q++ [((⟨s1,s2⟩,(y1,y2)):KP)])=pf Q++ [bV y2] by simp [pf],o6];exact N8 hE iP
   ·have mx:y2=[]:=lg (by omega);rw [mx,Ec,Nat.xor_zero]at iP;refine aD O (aK O (aS O (tQ ?_)));exact⟨(k+1,Q,(A6,c6),Z),by show N.length - (k+1)<N.length - k;omega,⟨O,O,O,aL (Value.int .i64) (by omega),aw⟩,by show k+1<=N.length;omega,by show Q.length<=k+1;omega,fun p hp=> ⟨(hQ p hp).1,qL _ (hQ p hp).2.1,qL _ (hQ p hp).2.2⟩,FI,by show iZ (pf Q) ((N.take (k+1)).map _);rw [o6];exact N7 hE iP,qL _ da,hT⟩
 ·rw [kA (show N.length<=k by omega)]at hE;refine bo O (bn (eG O ?_));refine fb O ?_;exact⟨A6,Q.length,c6,O,by rw [ew];exact afi FI (fun p hp=> (hQ p hp).1) hE,by omega,hS.none⟩
theorem eV.SU{n:Int}{R:ah}{B:ag}(h:eV n R B):zJ R.length R B:=⟨h.Ly,fun e h0 h1=> (h.at_ h0 h1).1⟩
theorem eV.one{n:Int}{R:ah}{B:ag}(h:eV n R B){e:Int}(h0:0<=e)(h1:e<R.length)(hr:gi R e=1):eB R B e=gl B e:=by
 unfold eB;refine List.filter_eq_self.2 fun d hd=>eC ?_
 obtain⟨⟨a,b⟩,c⟩:=(h.at_ h0 h1).2.1 d hd;have:=(h.lH _ (OG a (by omega:d<R.length))).1;omega
theorem ad5(N:Nat)(A D:ai)(cA cD m:Nat)(R:ah)(rs:List aX)(B:ag)(w:aa)(hR:bt w A m R)(hB:bL w D m rs B)(hO:zJ m R B)(hN:N<=1000):
 aG prog 77 [.agg #[aj ((N:Int)+1),.slice A m cA,.slice D m cD]] w (fun v w'=>∃A' c',v= .slice A' (1+N+1) c'/\(∀x∈jt R B N,0<=x/\x<=1000)/\St w w' [ar 2 A' (1+N+1) c' ([0]++jt R B N++ [0])]):=by
 refine bw func77 O ntmps77 O (b7 O) (bb O (lT (St.refl w) O O ?_));intro A1 w1 aC;refine aq O (dE aC O O O ?_);intro A3 w2 aE;have aE:St w w2 [ar 2 A3 (1+0) 1 ([0]++jt R B 0),lZ A1 ((N:Int)+1) A D m cA cD]:=aE;refine az O ?_;refine Cd.loop (α:=Nat×ai×Nat) (fun z=> [(1,.pointer A1),(3,.slice z.2.1 (1+z.1) z.2.2),(4,aj ((z.1:Int)+1))]) (fun z w'=>z.1<=N/\(∀x∈jt R B z.1,0<=x/\x<=1000)/\St w w' [ar 2 z.2.1 (1+z.1) z.2.2 ([0]++jt R B z.1),lZ A1 ((N:Int)+1) A D m cA cD]) (fun z=>N - z.1) (0,A3,1) ⟨rfl,rfl,rfl,aw⟩ ⟨bu _,(fun _ h=>by cases h),aE⟩ ?_;clear aC aE;rintro⟨i,A3,c3⟩ e w3 ⟨hi,gQ,hS⟩;dsimp only at hi gQ hS|-;have ec:=hS.rd 1 O;refine bb O (aI ec O (fL (j:=0) ec (by exact aL Value.pointer O) O O O O (az O ?_)));refine aM _ O (fun h1=>?_) (fun h1=>?_)
 ·refine aD O (bI 2 ec O O O (aq O (aF (ad4 _ A D cA cD m R rs B ((i:Int)+1) w3 (hS.b9 hR) (hS.cV hB) hO) O ?_)));rintro _ w4 ⟨ka,r,kM,rfl,ew,hr,ax⟩;replace hS:=hS.ao ax.below;have qV:=Nq R B i;rw [GZ ew]at qV;refine ba O O (dE hS O O O ?_);intro pn w5 aH;refine dS 1 aH O (aH.bk 0 O) O O O fun k8 pA w6 aQ=>aq O (aK O (aS O (tQ ?_)));exact⟨(i+1,k8,pA),by show N - (i+1)<N - i;omega,⟨O,O,aL (Value.int .i64) (by omega),aw⟩,by show i+1<=N;omega,by
   show ∀x∈jt R B (i+1),_;rw [qV];intro x hx;rcases eD.1 hx with hx | hx
   ·exact gQ x hx
   ·obtain rfl:=dK.1 hx;omega,by
   show St w w6 [ar 2 k8 (1+ (i+1)) pA ([0]++jt R B (i+1)),_];rw [qV,<-fK];exact aQ.tail⟩
 obtain rfl:i=N:=by omega
 refine bo O (bn (cJ O ?_));refine dE hS O O O fun pn w5 aH=>dS 1 aH O (aH.bk 0 O) O O O fun k8 pA w6 aQ=>bD O (fb O ?_);exact⟨k8,pA,O,gQ,aQ.tail.sub (List.Sublist.cons_cons _ (List.nil_sublist _))⟩
theorem ad3(n:Int)(A D:ai)(cA cD m:Nat)(R:ah)(rs:List aX)(B:ag)(w:aa)(hR:bt w A m R)(hB:bL w D m rs B)(hP:eV n R B):
 aG prog 76 [.agg #[aj n,.slice A m cA,.slice D m cD]] w (fun v w'=>∃b:Bool,v= .bool b/\(b=true↔qw R B)/\St w w' []):=by
 have hO:=hP.SU;have bT:=hR.1;rw [bT]at hO;have hm:=hO.wH;refine bw func76 O ntmps76 O (b7 O) (bb O (lT (St.refl w) O O ?_));intro A1 w1 aC;have aC:St w w1 [lZ A1 n A D m cA cD]:=aC;refine az O (Cd.loop (α:=Nat) (fun z=> [(1,.pointer A1),(3,aj z)]) (fun z w'=>z<=m/\(∀e:Nat,e<z->zB R B e)/\St w w' [lZ A1 n A D m cA cD]) (fun z=>m - z) 0 (ajz O) ⟨bu _,(fun _ h=>absurd h (mg _)),aC⟩ ?_);clear aC;rintro i e w2 ⟨hi,vy,hS⟩;have ec:=hS.rd 0 O;refine bb O (aI ec O (aV ec O ?_));refine ba O O (az O ?_);refine aM _ O (fun h1=>?_) (fun h1=>?_)
 ·have dI:i<m:=by omega
  have Ko:=hO.rk (i:Int) (by omega) (by omega);have Z8:=zQ hO.toqB (e:=(i:Int)) (by omega) (by omega);have mY:=Nb hO.toqB (e:=(i:Int)) (by omega) (by omega);have uq:=fun h=>hP.one (e:=(i:Int)) (by omega) (by omega) h
  have pR:zB R B i->∀e:Nat,e<i+1->zB R B e:=fun h e he=>by
   rcases Nat.lt_or_eq_of_le (Nat.le_of_lt_succ he)with h9 | h9
   ·exact vy e h9
   subst h9;exact h
  refine aD O (bI 2 ec O O O (aq O (aF (K1 n A D cA cD m R rs B i _ (hS.b9 hR) (hS.cV hB) hO.toqB (by omega) (by omega)) O ?_)));rintro _ w3 ⟨gU,oS,rfl,ax⟩;have jP:=ax.bk 0 O;replace hS:=hS.ao ax.below;replace ec:=hS.rd 0 rfl;have Dh:=hS.b9 hR;have FX:zB R B i↔(gi R i=1->(gl B i).length%2=0)/\(2<=gi R i->bV (eW R B (eB R B i))=0):=Iff.rfl;have hlen:∀h:gi R i=1,(eB R B i).length=(gl B i).length:=fun h=>by rw [uq h]
  generalize eB R B i=be at*;refine aq O (aI ec O (aV ec O (aq O (aA Dh.2 O (aY Dh O (az O ?_))))));refine aM _ O (fun h2=>?_) (fun h2=>?_)
  ·have F8:=hlen h2;refine aD O (ba O O ?_);refine ob O O O (by omega) (az O ?_);refine aM _ O (fun h3=>?_) (fun h3=>?_)
   ·refine dB O (dO (dJ ?_));exact ck O ⟨false,O,⟨fun h=>absurd h (by decide),fun h=>absurd ((h i (by omega)).1 h2) (by omega)⟩,hS.none⟩
   refine aD O (aK O (aS O (tQ ?_)));exact⟨i+1,by show m - (i+1)<m - i;omega,⟨O,aL (Value.int .i64) (by omega),aw⟩,by show i+1<=m;omega,pR (FX.2 ⟨fun _=>by omega,fun h=>absurd h (by omega)⟩),hS⟩
  refine aD O (aI ec O (aV ec O (aq O (aA Dh.2 O (aY Dh O (az O ?_))))));refine aM _ O (fun h3=>?_) (fun h3=>?_)
  ·refine aD O (bI 2 ec O O O (aq O (aF (ad1 n A D cA cD m R rs B gU be.length oS be _ Dh (hS.cV hB) hO jP Z8 (by omega)) O ?_)));rintro _ w4 ⟨lJ,Ny,out,rfl,bz,qS,ax⟩;replace hS:=hS.ao ax.below;have hz:=aeK bz.1;refine ba O O (az O ?_);refine aM _ O (fun h4=>?_) (fun h4=>?_)
   ·refine dB O (dO (dJ ?_));refine ck O ?_;exact⟨false,O,⟨fun h=>absurd h (by decide),fun h=>by
     exfalso;have h8:=(FX.1 (h i (by omega))).2 (by omega);rw [<-qS]at h8;rw [hz.1 h8]at h4;simp at h4⟩,hS.none⟩
   have hn:out=[]:=lg (by omega);refine aD O (aK O (aS O (tQ ?_)));exact⟨i+1,by show m - (i+1)<m - i;omega,⟨O,aL (Value.int .i64) (by omega),aw⟩,by show i+1<=m;omega,pR (FX.2 ⟨fun h=>absurd h h2,fun _=>by rw [<-qS,hn];rfl⟩),hS⟩
  refine aD O (aK O (aS O (tQ ?_)));exact⟨i+1,by show m - (i+1)<m - i;omega,⟨O,aL (Value.int .i64) (by omega),aw⟩,by show i+1<=m;omega,pR (FX.2 ⟨fun h=>absurd h h2,fun h=>absurd h (by omega)⟩),hS⟩
 obtain rfl:i=m:=by omega
 refine bo O (bn (eG O ?_));exact ck O ⟨true,O,⟨fun _ e he=>vy e (by omega),fun _=>O⟩,hS.none⟩
def rF(c rk:ah)(z:Nat):ah:=(List.range z).map fun i:Nat=>gi c i - gi rk i - gi rk ((i:Int)+1)
theorem Ns(c rk:ah)(z:Nat):(rF c rk z).length=z:=by simp [rF]
theorem WG(c rk:ah)(z:Nat):rF c rk (z+1)=rF c rk z++ [gi c z - gi rk z - gi rk ((z:Int)+1)]:=by unfold rF;rw [List.range_succ,List.map_append];rfl
theorem WE(c rk:ah):rF c rk c.length=kB c rk c.length:=by
 unfold rF kB;refine pw fun i hi=>?_
 rw [aT (nu.1 hi)];omega
theorem Tu(n:Int)(A D:ai)(cA cD N M:Nat)(R:ah)(rs:List aX)(B:ag)(w:aa)(hR:bt w A N R)(hB:bL w D M rs B)(hn: -1000<=n/\n<=1000)(hN:N<=1000000)(hM:M<=1000000):
 aG prog 28 [.agg #[aj n,.slice A N cA,.slice D M cD]] w (Mj n R B w):=by
 refine bw func28 O ntmps28 O (oF O) (bb O (lT (St.refl w) O O ?_));intro A1 w1 aC;refine aq O (bI 2 (aC.rd 0 O) O O O (aF (RZ n A D cA cD N M R rs B _ (aC.b9 hR) (aC.cV hB) hn hN hM) O ?_));rintro _ w2 ⟨b,rfl,hb,ax⟩;have aE:=aC.ao ax.below;clear aC ax
 first | refine de rfl rfl ?_ | refine dV rfl rfl ?_
 refine az O ?_;cases b with
 | false => --dup 2
  refine Cd.eH O (dB O (rh O O ?_));exact⟨none,0,[],1,O,aE.none.nil _,.inl ⟨fun h=>absurd (hb.2 h) (by decide),O,O⟩⟩
 | true=>
  have hP:=hb.1 O;refine Cd.dZ O ?_;obtain⟨k,rfl⟩:∃k:Nat,n=(k:Int)+1:=⟨(n - 1).toNat,by have:=hP.n1;omega⟩;obtain rfl:M=N:=by rw [<-hB.len,hP.len,hR.1]
  have hO:=hP.SU;rw [hR.1]at hO;have gZ:=hR.1;have ue:=hP.od;have J3:=hP.n1;have hm:=hO.wH;have bE:(fQ (k+1) R).length=k+1:=sN _ _;have Bb:=fun r (h:r<k+1)=>H8 (R:=R) h
  have JN:∀r:Nat,r<k+1->gi (fQ (k+1) R) r=((eO R r).length:Int):=fun r h=>by unfold fQ;rw [Fs h];rfl
  refine aD O (bI 2 (aE.rd 0 O) O O O (aF (ad3 ((k:Int)+1) A D cA cD M R rs B _ (aE.b9 hR) (aE.cV hB) hP) O ?_));rintro _ w3 ⟨b2,rfl,gP,ax⟩;have aH:=aE.ao ax.below;clear aE ax
  first | refine de rfl rfl ?_ | refine dV rfl rfl ?_
  refine az O ?_;cases b2 with
  | false => --dup 2
   refine Cd.eH O (dB O (rh O O ?_));exact⟨none,0,[],5,O,aH.none.nil _,.inr (.inl ⟨hP,fun h=>absurd (gP.2 h) (by decide),O,O⟩)⟩
  | true=>
   refine Cd.dZ O (aD O (bI 2 (aH.rd 0 O) O O O (aF (ad5 k A D cA cD M R rs B _ (aH.b9 hR) (aH.cV hB) hO (by omega)) O ?_)));rintro _ w4 ⟨A4,c4,rfl,xz,ax⟩;have bT:=CU R B k;have iV:mm (k+1) R B=kB (fQ (k+1) R) ([0]++jt R B k++ [0]) (k+1):=O;generalize jt R B k=rk at*;have DR:∀j:Nat,j<=k+1->0<=gi ([0]++rk++ [0]) j/\gi ([0]++rk++ [0]) j<=1000:=fun j hj=>by
    have:=gi_in (out:=[0]++rk++ [0]) (i:=j) (by simp;omega);rcases eD.1 this with h | h
    ·rcases eD.1 h with h | h
     ·rw [dK.1 h];omega
     ·exact xz _ h
    ·rw [dK.1 h];omega
   generalize abO:[0]++rk++ [0]=ig at*;have aQ:=aH.call ax;refine fZ aQ O ?_;intro A5 w5 a8;have a8:St w w5 (ar 2 A5 0 0 (rF (fQ (k+1) R) ig 0)::ar 2 A4 (1+k+1) c4 ig::[lZ A1 ((k:Int)+1) A D M cA cD]):=a8;clear aH aQ ax;refine az O (Cd.loop (α:=Nat×ai×Nat) (fun z=> [(1,.pointer A1),(4,.slice A4 (1+k+1) c4),(5,.slice z.2.1 z.1 z.2.2),(6,aj (z.1:Int))]) (fun z w'=>z.1<=k+1/\St w w' (ar 2 z.2.1 z.1 z.2.2 (rF (fQ (k+1) R) ig z.1)::ar 2 A4 (1+k+1) c4 ig::[lZ A1 ((k:Int)+1) A D M cA cD])) (fun z=>k+1 - z.1) (0,A5,0) (ajz O) ⟨bu _,a8⟩ ?_);clear a8;rintro⟨i,A5,c5⟩ e w6 ⟨hi,hS⟩;dsimp only at hi hS|-;have ec:=hS.rd 2 O;refine bb O (aI ec O (fL (j:=0) ec (by exact aL Value.pointer O) O O O O (az O ?_)));refine aM _ O (fun h1=>?_) (fun h1=>?_)
   ·have dI:i<k+1:=by omega
    have hK:=hS.bk 1 O;have h1:=DR i (by omega);have h2:=DR (i+1) (by omega);have h3:=Bb i dI;rw [JN i dI]at h3;have qV:=WG (fQ (k+1) R) ig i;rw [JN i dI]at qV;rw [show((i+1:Nat):Int)=(i:Int)+1 by omega]at h2;have oj:=hS.b9 hR;refine cW O ?_;refine jm [17] [yS (A5) (i) (c5),.ex (.agg #[aj ((k:Int)+1),.slice (A) (M) (cA),.slice (D) (M) (cD)]),yI ((i:Int)),.pr (fun v w'=>∃A' c',v= .slice A' (eO R i).length c'),yI (((eO R i).length:Int)),yS (A4) (1+k+1) (c4),yI ((i:Int)),yP (aB (A4) ((i:Int)).toNat),yI (gi (ig) ((i:Int))),yI ((((eO R i).length:Int)) - (gi (ig) ((i:Int)))),yS (A4) (1+k+1) (c4),yI ((i:Int)),yI (((i:Int))+ ((1:Int))),yP (aB (A4) (((i:Int))+ ((1:Int))).toNat),yI (gi (ig) (((i:Int))+ ((1:Int)))),yI (((((eO R i).length:Int)) - (gi (ig) ((i:Int)))) - (gi (ig) (((i:Int))+ ((1:Int))))),.pr (fun v w'=>∃A',v= .slice A' 1 1/\bt w' A' 1 [((eO R i).length:Int) - gi ig i - gi ig ((i:Int)+1)]),.pr (fun v w'=>∃A9 c9,v= .slice A9 (i+1) c9/\St w w' (ar 2 A9 (i+1) c9 (rF (fQ (k+1) R) ig (i+1))::ar 2 A4 (1+k+1) c4 ig::[lZ A1 ((k:Int)+1) A D M cA cD])),.pr (fun v w'=>∃A9 c9,v= .slice A9 (i+1) c9/\St w w' (ar 2 A9 (i+1) c9 (rF (fQ (k+1) R) ig (i+1))::ar 2 A4 (1+k+1) c4 ig::[lZ A1 ((k:Int)+1) A D M cA cD]))] (ly (ly (ly (cg.2 ⟨Ye.cH (fun v w w' h hb=>h),(ly (ly (ly (ly (ly (ly (ly (ly (ly (ly (ly (ly (cg.2 ⟨Ye.cH (fun v w w' h hb=>by obtain⟨A',hv,hT⟩:=h;exact⟨A',hv,hT.ao hb⟩),(cg.2 ⟨Ye.cH (fun v w w' h hb=>by obtain⟨A9,c9,hv,hT⟩:=h;exact⟨A9,c9,hv,hT.ao hb⟩),(cg.2 ⟨Ye.cH (fun v w w' h hb=>by obtain⟨A9,c9,hv,hT⟩:=h;exact⟨A9,c9,hv,hT.ao hb⟩),(fun _ h=>by cases h)⟩)⟩)⟩)))))))))))))⟩)))) ?_ ?_
    ·refine⟨?_,cP fun _ _ hb _ _ _=>bI 2 (ec.below hb) O O O (bq O O),bZ O,?_,?_,bZ O,bZ O,cP fun _ _ hb _ _ _=>aA (hK.ao hb).2 O (bq O O),cP fun _ _ hb _ _ _=>aY (hK.ao hb) O (bq O O),aP fun _ _=>dq O (bq O O),bZ O,bZ O,aP fun _ _=>aK O (bq O O),cP fun _ _ hb _ _ _=>aA (hK.ao hb).2 O (bq O O),cP fun _ _ hb _ _ _=>aY (hK.ao hb) O (bq O O),aP fun _ _=>dq O (bq O O),?_,?_,?_,aw⟩
     ·intro e1 w1 cc fB ea fz hp bc hq;show ak _ _ _ _ _ _ _;refine kc O (by exact bc 18 _ O (by kernel_rfl)) O (ak.n (gh O (by exact O)))
     ·refine cP fun e1 w1 hb hp bc hq=>?_
      refine aF (Sd ((k:Int)+1) A D cA cD M R i _ (oj.ao hb) hm) O ?_;rintro _ w9 ⟨A',c',rfl,ax⟩;exact ak.n (fu.dn O ax.below ⟨A',c',O⟩)
     ·refine cP fun e1 w1 hb hp bc hq=>?_
      obtain⟨A',c',vi⟩:=(hp 3 _ _ (by kernel_rfl) rfl rfl (by kernel_rfl));refine ba (by exact vi) O (ak.n (gh O (by exact O)))
     ·intro e1 w1 cc fB ea fz hp bc hq;show ak _ _ _ _ _ _ _;exact dE (St.refl _) O O O fun A' w9 ax=>ak.n (fu.dn O ax.below ⟨A',O,ax.bk 0 O⟩)
     ·refine ju fun e1 w1 hb hp bc hq=>?_
      obtain⟨A',Fv,mq⟩:=(hp 16 _ _ (by kernel_rfl) rfl rfl (by kernel_rfl));refine dS 0 (hS.ao hb) O mq O (by exact Fv) O ?_;intro A9 c9 dA oY;refine ak.n ?_;rw [<-qV]at oY;exact fF.dn O ⟨A9,c9,O,oY⟩
     ·refine dP 1 fun e1 w1 hp bc hq=>?_
      have fC:=hp 17 _ _ (by kernel_rfl) O O (by kernel_rfl);obtain⟨A9,c9,YD,hT⟩:=(hp 17 _ _ (by kernel_rfl) rfl rfl (by kernel_rfl));refine kc O (by exact YD) O (ak.n ?_);exact fu.dn O (Below.refl _ _) ⟨A9,c9,O,hT⟩
    intro u w7 _ hu _ _;obtain⟨A9,c9,h5,hT⟩:=hu 18 _ rfl (by kernel_rfl);refine fJ O (aK O (aS O (tQ ?_)));exact⟨(i+1,A9,c9),by show k+1 - (i+1)<k+1 - i;omega,⟨O,O,by exact h5,aL (Value.int .i64) (by omega),aw⟩,by show i+1<=k+1;omega,hT⟩
   ·obtain rfl:i=k+1:=by omega
    have cO:mm (k+1) R B=rF (fQ (k+1) R) ig (k+1):=by rw [iV];have:=WE (fQ (k+1) R) ig;rw [bE]at this;exact this.symm
    refine bo O (bn (eG O ?_));refine rh O O ?_;exact⟨A5,c5,mm (k+1) R B,0,by rw [cO,Ns],by rw [cO,Ns];exact hS.sub (List.Sublist.cons_cons _ (List.nil_sublist _)),.inr (.inr ⟨hP,gP.1 O,O,O⟩)⟩
theorem XC{f:ah}{r:Nat}(hr:r<f.length)(v:Int)(k:Nat):lM (f.set r v) k=if k=r then(if r%2=0 then v else -v)else lM f k:=by
 unfold lM
 by_cases e:k=r
 ·subst e;rw [aT rfl,bX (by rw [iR];exact hr),List.getElem_set_self]
 rw [aR e];have:gi (f.set r v) k=gi f k:=by
  unfold gi;simp only [gB];rw [dt,dt,List.getElem?_set_ne (fun h=>e h.symm)]
 rw [this]
theorem XA{f:ah}{r:Nat}(hr:r<f.length)(k:Nat):gk (f.set r (gi f r+1)) k=gk f k+ (if r<k then(if r%2=0 then 1 else -1)else 0):=by
 induction k with
 | zero=>rfl
 | succ k ih=>
  show gk _ k+lM _ k=gk f k+lM f k+_;rw [ih,XC hr]
  by_cases e:k=r
  ·subst e;rw [aT rfl,aR (show ¬k<k by omega),aT (show k<k+1 by omega)];unfold lM
   split<;>omega
  ·rw [aR e]
   by_cases h:r<k
   ·rw [aT h,aT (show r<k+1 by omega)];omega
   ·rw [aR h,aR (show ¬r<k+1 by omega)];omega
theorem Oc(n k:Nat):gk (List.replicate n 0) k=0:=by
 induction k with
 | zero=>rfl
 | succ k ih=>
  show gk _ k+lM _ k=0;have:gi (List.replicate n 0) k=0:=by
   unfold gi;simp only [gB,dt,List.getElem?_replicate]
   split<;>rfl
  rw [ih];unfold lM;rw [this]
  split<;>rfl
def tt(n:Nat)(R:ah)(i:Nat):Int:=gk (ll n R i) n
theorem Tq{n:Nat}{R:ah}{i:Nat}(hi:i<R.length)(h:0<=gi R i/\gi R i<n):tt n R (i+1)=tt n R i+1 - 2* (gi R i%2):=by
 obtain⟨r,hr⟩:∃r:Nat,gi R i=r:=⟨(gi R i).toNat,by omega⟩;unfold tt;rw [<-NI hi (by omega:r<n) hr,XA (by rw [yk];omega),hr,aT (by omega)]
 split<;>omega
theorem Tp{n:Nat}{R:ah}(h:∀x∈R,0<=x/\x< (n:Int)):∀i,i<=R.length-> -(i:Int)<=tt n R i/\tt n R i<=i
 | 0,_=>by unfold tt;rw [H9,Oc];omega
 | i+1,hi=>by
  have ih:=Tp h i (by omega);have h2:=h _ (gi_in (out:=R) (i:=i) (by omega));rw [Tq (by omega) h2];omega
theorem agd(n:Int)(A D:ai)(cA cD N M:Nat)(R:ah)(rs:List aX)(B:ag)(w:aa)(hR:bt w A N R)(hB:bL w D M rs B)(hn: -1000<=n/\n<=1000)(hN:N<=1000000)(hM:M<=1000000):
 aG prog 30 [.agg #[aj n,.slice A N cA,.slice D M cD]] w (fun v w'=> ((¬eV n R B/\v= .tuple #[aj 0,aj 1])\/(eV n R B/\v= .tuple #[aj (gk (fQ n.toNat R) n.toNat),aj 0]))/\St w w' []):=by
 refine bw func30 O ntmps30 O (oF O) (bb O (lT (St.refl w) O O ?_));intro A1 w1 aC;refine aq O (bI 2 (aC.rd 0 O) O O O (aF (RZ n A D cA cD N M R rs B _ (aC.b9 hR) (aC.cV hB) hn hN hM) O ?_));rintro _ w2 ⟨b,rfl,hb,ax⟩;have aE:=aC.ao ax.below;clear aC ax
 first | refine de rfl rfl ?_ | refine dV rfl rfl ?_
 refine az O ?_;cases b with
 | false => --dup 2
  refine Cd.eH O (dB O (zp O O ?_));exact⟨.inl ⟨fun h=>absurd (hb.2 h) (by decide),O⟩,aE.none⟩
 | true=>
  have hP:=hb.1 O;refine Cd.dZ O ?_;obtain⟨k,rfl⟩:∃k:Nat,n=(k:Int):=⟨n.toNat,by have:=hP.n1;omega⟩;have ue:=hP.od;have gZ:=hR.1;have kW:∀x∈R,0<=x/\x< (k:Int):=fun x hx=>by have:=hP.lH x hx;omega
  have ec:=aE.rd 0 O;have rR:=aE.b9 hR;refine cW O ?_;refine Cd.loop (α:=Nat) (fun z=> [(1,.pointer A1),(4,aj (tt k R z)),(5,aj z)]) (fun z w'=>z<=N/\w'=w2) (fun z=>N - z) 0 ⟨O,by show Value.int .i64 0=aj (tt k R 0);unfold tt;rw [H9,Oc],O,trivial⟩ ⟨Nat.zero_le _,O⟩ ?_;rintro i e w3 ⟨hi,rfl⟩;have hsb:=Tp kW i (by omega);refine bb O (aI ec O (aV ec O ?_));refine ba O O (az O ?_);refine aM _ O (fun h1=>?_) (fun h1=>?_)
  ·have dI:i<R.length:=by omega
   have h2:=kW _ (gi_in dI);have ax:=Tq dI h2;have km:=hP.n1;refine aD O (aK O ?_);refine aI ec O (aV ec O (aq O (aA rR.2 O (aY rR O (ob O O O (by omega) ?_)))));refine iL O O O (by omega) (dq O (aq O (aK O (aS O (tQ ?_)))));exact⟨i+1,by show N - (i+1)<N - i;omega,⟨O,by show Value.int .i64 _=aj _;rw [ax],aL (Value.int .i64) (by omega),aw⟩,by omega,O⟩
  ·have he:i=R.length:=by omega
   have iV:tt k R i=gk (fQ k R) k:=by unfold tt;rw [he,Ia]
   rw [iV];refine bo O (bn (eG O ?_));exact zp O O ⟨.inr ⟨hP,O⟩,aE.none⟩
end
section
variable{P X R:ah}
def vW(P:ah)(v:Nat):Nat:=rj (P.map fun y=>if v.testBit y.toNat=true then 1 else 0)
theorem G4(P:ah)(v q:Nat):(vW P v).testBit q=(match P[q]? with | some y=>v.testBit y.toNat | none=>false):=by
 unfold vW;rw [Tb,List.getElem?_map];cases P[q]? with
 | none=>simp
 | some y=>cases h:v.testBit y.toNat<;>simp [h]
theorem af7(P:ah):vW P 0=0:=Nat.eq_of_testBit_eq fun q=>by rw [G4];cases P[q]?<;>simp
theorem af6(P:ah)(u v:Nat):vW P (u^^^v)=vW P u^^^vW P v:=Nat.eq_of_testBit_eq fun q=>by
 rw [Nat.testBit_xor,G4,G4,G4];cases P[q]?<;>simp [Nat.testBit_xor]
theorem af5(P:ah)(v:Nat):vW P v<2^P.length:=by
 have:=Tc (P.map fun y=>if v.testBit y.toNat=true then(1:Int)else 0)
 rwa [mf]at this
theorem XS{α:Type}(g:α->Nat){A B:List α}(h:A.Perm B):A.foldr (fun y a=>g y^^^a) 0=B.foldr (fun y a=>g y^^^a) 0:=by
 induction h with
 | nil=>rfl
 | cons x _ ih=>simp only [List.foldr_cons,ih]
 | swap x y l=>simp only [List.foldr_cons];rw [<-Nat.xor_assoc,<-Nat.xor_assoc,Nat.xor_comm (g y)]
 | trans _ _ a b=>exact a.trans b
theorem XO(hP:P.Nodup)(AJ:∀e∈P,0<=e)(hX:X.Nodup)(mX:∀e∈X,0<=e)(hs:∀e∈X,e∈P):(P.filter fun y=> (bV X).testBit y.toNat).Perm X:=by
 refine(List.perm_ext_iff_of_nodup (hP.filter _) hX).2 fun y=>?_
 rw [ja];constructor
 ·rintro⟨h1,h2⟩;rw [xR hX mX,nB,Int.toNat_of_nonneg (AJ y h1)]at h2;exact h2
 intro h;refine⟨hs y h,?_⟩;rw [xR hX mX,nB,Int.toNat_of_nonneg (mX y h)];exact h
theorem Tl(g:Int->Nat)(hP:P.Nodup)(AJ:∀e∈P,0<=e)(hX:X.Nodup)(mX:∀e∈X,0<=e)(hs:∀e∈X,e∈P):dmap (P.map g) (vW P (bV X))=X.foldr (fun y a=>g y^^^a) 0:=(NY g (fun y=> (bV X).testBit y.toNat) P).trans (XS g (XO hP AJ hX mX hs))
theorem Nc(R:ah)(B:ag):∀X:ah,X.foldr (fun y a=>bV (eB R B y)^^^a) 0=bV (eW R B X)
 | []=>rfl
 | y::X=>by
  rw [List.foldr_cons,Nc R B X,<-uH];rfl
theorem EV{n:Int}{B:ag}(h:eV n R B){i e:Int}(he:e∈eO R (i+1)):(eB R B e).Nodup/\∀d∈eB R B e,0<=d/\d∈eO R i:=by
 obtain⟨⟨e0,e1⟩,e2⟩:=(mI (R:=R)).1 he;obtain⟨h1,h2,_⟩:=h.at_ e0 e1;refine⟨h1.nodup.filter _,fun d hd=>?_⟩;obtain⟨yK,JO⟩:=ja.1 hd;have h3:=h2 d yK;have h4:=rb JO;exact⟨by omega,(mI (R:=R)).2 ⟨by omega,by omega⟩⟩
theorem Wg{n:Int}{B:ag}(h:eV n R B)(hE:qw R B){i e:Int}(hi:0<=i)(he:e∈eO R (i+1)):bV (eW R B (eB R B e))=0:=by
 obtain⟨⟨e0,e1⟩,e2⟩:=(mI (R:=R)).1 he
 by_cases h1:1<=i
 ·have:=(hE e.toNat (by omega)).2;rw [Int.toNat_of_nonneg e0]at this;exact this (by omega)
 have hb:eW R B (eB R B e)=[]:=by
  unfold eW;rw [List.flatMap_eq_nil_iff];intro d hd;have h3:=(mI (R:=R)).1 ((EV h he).2 d hd).2;unfold eB;rw [List.filter_eq_nil_iff];intro x hx vI;have h4:=(h.at_ h3.1.1 h3.1.2).2.1 x hx;have h5:=h.ri h4.1.1 (by omega:x< (R.length:Int));have:=rb vI;omega
 rw [hb];rfl
theorem afO{n:Int}{B:ag}(h:eV n R B)(hE:qw R B){i:Int}(hi:0<=i):kZ (iE R B i)+kZ (iE R B (i+1))<=(eO R i).length:=by
 have hP:(eO R i).Nodup:=S8 R i;have AJ:∀e∈eO R i,0<=e:=fun e he=> ((mI (R:=R)).1 he).1.1
 have hl:(iE R B i).length=(eO R i).length:=by simp [iE]
 have:=afD (L:=iE R B i) (L':=(iE R B (i+1)).map (vW (eO R i))) (r:=kZ (iE R B i)) (r':=kZ (iE R B (i+1))) (fun v hv=>?_) (LJ _) (afC (ψ:=dmap ((eO R i).map fun y=>2^y.toNat)) (af7 _) (af6 _) (z7 _) (z6 _) (fun x hx=>?_) (LJ _))
 ·omega
 ·obtain⟨x,hx,rfl⟩:=eh.1 hv;obtain⟨e,he,rfl⟩:=eh.1 hx;obtain⟨h1,h2⟩:=EV h he;refine⟨by rw [hl];exact af5 _ _,?_⟩;refine(Tl (fun e=>bV (eB R B e)) hP AJ h1 (fun d hd=> (h2 d hd).1) fun d hd=> (h2 d hd).2).trans ?_;rw [Nc];exact Wg h hE hi he
 obtain⟨e,he,rfl⟩:=eh.1 hx;obtain⟨h1,h2⟩:=EV h he;exact Tl (fun y=>2^y.toNat) hP AJ h1 (fun d hd=> (h2 d hd).1) fun d hd=> (h2 d hd).2
noncomputable def mJ(n:Nat)(R:ah)(B:ag)(j:Nat):Int:=if 1<=j/\j<n then((kZ (iE R B j):Nat):Int)else 0
theorem S9{n:Nat}{B:ag}(hn:1<=n)(j:Nat):gi ([0]++jt R B (n - 1)++ [0]) j=mJ n R B j:=by
 have hl:=CU R B (n - 1);unfold mJ;rw [gi,dt];simp only [gB];rcases j with _ | j
 ·simp
 show((0::(jt R B (n - 1)++ [0]))[j+1]?).getD 0=_;rw [List.getElem?_cons_succ]
 by_cases h:j+1<n
 ·rw [aT ⟨by omega,h⟩,lh (by omega)];unfold jt;rw [List.getElem?_map,List.getElem?_range (by omega)]
  rfl
 rw [aR (by omega),jW (by omega)];generalize j - (jt R B (n - 1)).length=t;rcases t with _ | t<;>simp
theorem zS{n i:Nat}{B:ag}(hn:1<=n)(hi:i<n):gi (mm n R B) i=gi (fQ n R) i - (mJ n R B i+mJ n R B (i+1)):=by
 unfold mm kB;rw [Fs (by rw [sN];exact hi),aT hi,S9 hn,<-S9 hn (i+1)]
 rfl
theorem E1(n:Nat)(R:ah)(B:ag):(mm n R B).length=n:=by unfold mm;rw [HY,sN]
theorem Nt{n:Nat}{R:ah}{B:ag}(hn:1<=n):∀k,k<=n->gk (mm n R B) k=gk (fQ n R) k+ (if k%2=0 then mJ n R B k else -mJ n R B k)
 | 0,_=>by simp [gk,mJ]
 | k+1,h=>by
  have ih:=Nt (R:=R) (B:=B) hn k (by omega);have h1:=zS (R:=R) (B:=B) hn (show k<n by omega);unfold gk lM;rw [ih,h1];rcases Nat.mod_two_eq_zero_or_one k with e | e
  ·rw [aT e,aT e,aT e,aR (by omega)];omega
  ·rw [aR (by omega),aR (by omega),aR (by omega),aT (by omega)];omega
theorem WM{n:Nat}{B:ag}(hn:1<=n):gk (mm n R B) n=gk (fQ n R) n:=by
 have e:mJ n R B n=0:=aR (by omega);rw [Nt hn n (dC _),e]
 split<;>omega
theorem WL{n:Nat}{B:ag}(h:eV n R B)(hE:qw R B){i:Nat}(hi:i<n):0<=gi (mm n R B) i:=by
 rw [zS (by omega) hi,wF hi];have h1:=afO h hE (i:=(i:Int)) (by omega);have h2:(uN R i).length=(eO R i).length:=O;have h3:mJ n R B i<=((kZ (iE R B i):Nat):Int):=by unfold mJ;split<;>omega
 have h4:mJ n R B (i+1)<=((kZ (iE R B ((i:Int)+1)):Nat):Int):=by
  unfold mJ
  split
  ·exact Int.le_refl _
  omega
 omega
theorem yl(M:ag):fQ M.length (cq M M.length)=fy M:=by
 unfold fQ fy;refine pw fun i hi=>?_
 exact z8 M (nu.1 hi)
theorem NX:∀(L:List Nat) (k:Nat),k<L.length->dmap L (2^k)=L.getD k 0
 | b::L,0,_=>by
  unfold dmap;rw [show(2^0) / 2=0 from rfl,z7,aT (by decide)];simp
 | b::L,k+1,h=>by
  have ih:=NX L k (by simpa using h);unfold dmap;rw [show 2^ (k+1) / 2=2^k by rw [Nat.pow_succ];omega,ih,aR]
  ·simp
  ·rw [Nat.testBit_zero,Nat.pow_succ];simp
def BQ(m v:Nat):Nat:=dmap (List.replicate m 1) v
theorem Lx{m:Nat}:∀ {X:ah},(∀e∈X,0<=e/\e< (m:Int))->BQ m (bV X)=X.length%2
 | [],_=>by rw [Ec];exact z7 _
 | a::X,h=>by
  have ih:=Lx (m:=m) (X:=X) fun e he=>h e (eb _ he)
  have ha:=h a (by simp);unfold BQ at ih|-;rw [qh,z6,ih,NX _ _ (by rw [List.length_replicate];omega),List.length_cons];have:(List.replicate m 1).getD a.toNat 0=1:=by
   rw [dt,List.getElem?_replicate,aT (by omega)];rfl
  rw [this];rcases Nat.mod_two_eq_zero_or_one X.length with e | e
  ·rw [e,show(X.length+1)%2=1 by omega];rfl
  ·rw [e,show(X.length+1)%2=0 by omega];rfl
def uO:Nat->List Nat
 | 0=> []
 | k+1=>2^k::uO k
theorem TN:∀k,(uO k).length=k
 | 0=>rfl
 | k+1=>by rw [uO,List.length_cons,TN k]
theorem Ez:∀ {k v:Nat},v∈uO k↔∃j,j<k/\v=2^j
 | 0,v=>by simp [uO]
 | k+1,v=>by
  rw [uO,ij,Ez];constructor
  ·rintro(h | ⟨j,hj,h⟩)
   ·exact⟨k,by omega,h⟩
   ·exact⟨j,by omega,h⟩
  ·rintro⟨j,hj,h⟩
   by_cases e:j=k
   ·subst e;exact .inl h
   ·exact .inr ⟨j,by omega,h⟩
theorem TO:∀k,(cK (uO k)).Nodup
 | 0=>by simp [uO,cK]
 | k+1=>by
  refine Cb (TO k) fun h=>?_
  have:=xZ (S:=fun v=>v<2^k) (Nat.pow_pos (by omega)) (fun u v hu hv=>Nat.xor_lt_two_pow hu hv) (fun b hb=>by
   obtain⟨j,hj,rfl⟩:=Ez.1 hb;exact Nat.pow_lt_pow_right (by omega) hj) _ h
  exact absurd this (Nat.lt_irrefl _)
section
variable {M:ag}
theorem acA(hM:dm M)(h2:2<=M.length){x:Int}(x0:0<=x)(x1:x< (gl M 0).length){d:Int}(h:sF M d (cn M 1 x.toNat)):d=gi (cX M 0) x\/d=gi (cX M 0) (gi (gl M 0) x):=by
 obtain⟨f,hf,i,hi,k,hk,e1,rfl⟩:=h;have b1:=qK hM (i:=1) (f:=x.toNat) (by omega);have b2:=qK hM (i:=i) hf;have kE:i=1:=by
  rcases Nat.lt_trichotomy i 1 with h | h | h
  ·have:=jU M (show i+1<=1 by omega);omega
  ·exact h
  have:=jU M (show 1+1<=i by omega);omega
 subst kE;obtain rfl:k=0:=by omega
 have e3:gi (cX M 1) x=gi (cX M 1) f:=by
  unfold cn at e1;rw [Int.toNat_of_nonneg x0]at e1;omega
 have hr:=Oi hM (i:=1) (f:=x) (g:=(f:Int)) x0 x1 (by omega) (by omega) e3;have e4:cn M 0 f=gi (cX M 0) f:=by unfold cn;rw [show a7 M 0=0 from O];omega
 rw [e4];rcases Xv hM (by omega) x0 x1 hr with h | h
 ·exact .inl h.1
 exact .inr h.1
theorem NL(hM:dm M)(h2:2<=M.length)(hb:a7 M M.length<=500)(hE:qw (cq M M.length) (b6 M)):1+kZ (iE (cq M M.length) (b6 M) 1)=(fE M 0).toNat:=by
 have hP:=Fo hM hb;have gZ:=tT M M.length;obtain⟨R,hR⟩:∃R,cq M M.length=R:=⟨_,rfl⟩;obtain⟨B,hB⟩:∃B,b6 M=B:=⟨_,rfl⟩;have Zs:=hM.2.1.1;have hV:a7 M 1=(fE M 0).toNat:=by show(0:Nat)+ (fE M 0).toNat=_;omega
 have vB:=jU M (show 1<=M.length by omega);have vC:=jU M (show 2<=M.length by omega);have hm12:=jU M (show 1<=2 by omega);have DZ:∀x:Int,0<=x->x< (gl M 0).length->0<=gi (cX M 0) x/\gi (cX M 0) x<a7 M 1:=fun x x0 x1=>by
  have:=IA hM 0 x.toNat (by omega);rw [Int.toNat_of_nonneg x0]at this;omega
 have fh:∀x:Int,0<=x->x< (gl M 0).length->cn M 1 x.toNat∈eO R 1/\eB R B (cn M 1 x.toNat)=gl B (cn M 1 x.toNat)/\(∀d,d∈gl B (cn M 1 x.toNat)↔d=gi (cX M 0) x\/d=gi (cX M 0) (gi (gl M 0) x))/\(gl B (cn M 1 x.toNat)).Nodup:=fun x x0 x1=>by
  have b1:(a7 M 1:Int)<=cn M 1 x.toNat/\cn M 1 x.toNat< (a7 M 2:Int):=qK hM (i:=1) (f:=x.toNat) (by omega);have ew:gi R (cn M 1 x.toNat)=1:=by rw [<-hR];exact wI (i:=1) (show 1<M.length by omega) b1.1 b1.2
  have da:cn M 1 x.toNat< (R.length:Int):=by rw [<-hR,gZ];omega
  have h0:0<=cn M 1 x.toNat:=by omega
  rw [hR,hB]at hP;refine⟨(mI (R:=R)).2 ⟨⟨h0,da⟩,ew⟩,hP.one h0 da ew,fun d=>?_,(hP.at_ h0 da).1.nodup⟩;rw [<-hB,pG h0 (by omega)];have kq:0<=gi (gl M 0) x/\gi (gl M 0) x< (gl M 0).length:=hM.su (k:=0) (by omega) x0 x1;have N3:∀z:Int,0<=z->z< (gl M 0).length->cn M 1 z.toNat=cn M 1 x.toNat->sF M (gi (cX M 0) z) (cn M 1 x.toNat):=fun z z0 z1 ez=> ⟨z.toNat,by omega,1,by omega,0,by omega,ez.symm,by unfold cn;rw [show a7 M 0=0 from O,Int.toNat_of_nonneg z0];omega⟩
  constructor
  ·rintro⟨_,h⟩;exact acA hM h2 x0 x1 h
  ·rintro(rfl | rfl)
   ·have:=DZ x x0 x1;exact⟨by omega,N3 x x0 x1 O⟩
   ·have:=DZ _ kq.1 kq.2;refine⟨by omega,N3 _ kq.1 kq.2 ?_⟩;have:gi (cX M 1) (gi (gl M 0) x)=gi (cX M 1) x:=wG hM (i:=1) (k:=0) (by omega) (by omega) x0 x1;unfold cn;rw [Int.toNat_of_nonneg kq.1,Int.toNat_of_nonneg x0,this]
 have ox:∀e∈eO R 1,∃x:Int,0<=x/\x< (gl M 0).length/\e=cn M 1 x.toNat:=fun e he=>by
  obtain⟨⟨e0,e1⟩,e2⟩:=(mI (R:=R)).1 he;rw [<-hR,gZ]at e1;obtain⟨i,hi,i0,i1⟩:=Oz e0 e1;rw [<-hR,wI hi i0 i1]at e2;obtain rfl:i=1:=by omega
  obtain⟨f,hf,ef⟩:=Iz hM 1 (e - a7 M 1) (by omega) (by
   have:a7 M (1+1)=a7 M 1+ (fE M 1).toNat:=O;omega)
  exact⟨f,by omega,by omega,by unfold cn;rw [Int.toNat_natCast,ef];omega⟩
 rw [hR,hB]at hP hE|-;have bM:∀e∈eO R 1,bV (eB R B e)∈iE R B 1:=fun e he=>eh.2 ⟨e,he,O⟩
 have h1:∀x:Int,0<=x->x< (gl M 0).length->2^ (gi (cX M 0) x).toNat^^^2^ (gi (cX M 0) (gi (gl M 0) x)).toNat∈cK (iE R B 1):=fun x x0 x1=>by
  obtain⟨hp,fa,gp,r8⟩:=fh x x0 x1
  by_cases kl:gi (cX M 0) x=gi (cX M 0) (gi (gl M 0) x)
  ·rw [<-kl,Nat.xor_self];exact tw _
  ·have Kg:(gl B (cn M 1 x.toNat)).Perm [gi (cX M 0) x,gi (cX M 0) (gi (gl M 0) x)]:=by
    refine(List.perm_ext_iff_of_nodup r8 ?_).2 fun d=>?_
    ·simp [kl]
    ·rw [gp];simp
   have:=jJ (bM _ hp);rw [fa,Ll Kg,qh,qh,Ec,Nat.xor_zero]at this;exact this
 have gQ:∀e∈eO R 1,∀d∈eB R B e,0<=d/\d< (a7 M 1:Int):=fun e he d hd=>by
  obtain⟨x,x0,x1,rfl⟩:=ox e he;obtain⟨_,fa,gp,_⟩:=fh x x0 x1;rw [fa,gp]at hd;rcases hd with rfl | rfl
  ·exact DZ x x0 x1
  ·have kq:0<=gi (gl M 0) x/\gi (gl M 0) x< (gl M 0).length:=hM.su (k:=0) (by omega) x0 x1;exact DZ _ kq.1 kq.2
 have Yx:∀d∈iE R B 1,BQ (a7 M 1) d=0:=fun d hd=>by
  obtain⟨e,he,rfl⟩:=eh.1 hd;show BQ _ (bV (eB R B e))=0;rw [Lx (gQ e he)];obtain⟨x,x0,x1,rfl⟩:=ox e he;obtain⟨hp,fa,_,_⟩:=fh x x0 x1;obtain⟨⟨e0,e1⟩,e2⟩:=(mI (R:=R)).1 hp;have:=(hE (cn M 1 x.toNat).toNat (by omega)).1;rw [Int.toNat_of_nonneg e0]at this;rw [fa];exact this e2
 have h3:∀x:Int,Reach M 0 x->2^ (gi (cX M 0) 0).toNat^^^2^ (gi (cX M 0) x).toNat∈cK (iE R B 1):=fun x hx=>by
  induction hx with
  | refl=>rw [Nat.xor_self];exact tw _
  | step hr hp ih=>
   rename_i y p;have hy:=Reach.range hM.2.2.1.sys (by omega) (by omega) hr;obtain⟨k,hk,rfl⟩:=gj.1 hp;rw [<-fm hk]
   by_cases mZ:k=0
   ·subst mZ;have:=rn ih (h1 y hy.1 hy.2)
    rwa [Nat.xor_assoc,oJ]at this
   ·rw [wG hM hk mZ hy.1 hy.2];exact ih
 have hv0:=DZ 0 (by omega) (by omega);have h4:iZ (2^ (gi (cX M 0) 0).toNat::iE R B 1) (uO (a7 M 1)):=by
  refine .of (fun b hb=>?_) (fun b hb=>?_)
  ·rcases ij.1 hb with rfl | hb
   ·exact jJ (Ez.2 ⟨_,by omega,O⟩)
   ·obtain⟨e,he,rfl⟩:=eh.1 hb;refine IG (g:=fun e:Int=>2^e.toNat) fun d hd=>?_
    have:=gQ e he d hd;exact jJ (Ez.2 ⟨d.toNat,by omega,O⟩)
  ·obtain⟨v,hv,rfl⟩:=Ez.1 hb;obtain⟨f,hf,ef⟩:=Iz hM 0 v (by omega) (by omega);have:=h3 (f:Int) (hM.any (f:=0) (g:=(f:Int)) (by omega) (by omega) (by omega) (by omega));rw [ef,gB]at this;exact xO.2 (.inr this)
 have h5:lf ([2^ (gi (cX M 0) 0).toNat]++iE R B 1) (1+kZ (iE R B 1)):=by
  refine afB (π:=BQ (a7 M 1)) (z7 _) (z6 _) ?_ Yx (LJ _);have:BQ (a7 M 1) (2^ (gi (cX M 0) 0).toNat)=1:=by
   have:=Lx (m:=a7 M 1) (X:=[gi (cX M 0) 0]) fun e he=>by rw [dK.1 he];exact hv0
   rw [aeJ]at this;exact this
  rw [List.map_cons,List.map_nil,this];decide
 have h6:lf ([2^ (gi (cX M 0) 0).toNat]++iE R B 1) (a7 M 1):=⟨uO (a7 M 1),TN _,TO _,h4⟩;rw [h5.eq h6,hV]
end
theorem LX(g:Int->Nat):∀ {G:ah} {s:Nat},G.Nodup->s∈cK (G.map g)->∃p:Int->Bool,(G.filter p).foldr (fun y a=>g y^^^a) 0=s
 | [],s,_,h=> ⟨fun _=>true,by simp [cK]at h;rw [h];rfl⟩
 | y::G,s,hn,h=>by
  rw [kz]at hn;have cS:∀z∈G,z≠y:=fun z hz e=>hn.1 (e▸hz)
  rw [List.map_cons,xO]at h;rcases h with h | h
  ·obtain⟨p,hp⟩:=LX g hn.2 h;refine⟨fun z=>p z && !decide (z=y),?_⟩;rw [List.filter_cons_of_neg (by simp),List.filter_congr (q:=p) fun z hz=>by simp [cS z hz]];exact hp
  ·obtain⟨p,hp⟩:=LX g hn.2 h;refine⟨fun z=>p z || decide (z=y),?_⟩;rw [List.filter_cons_of_pos (by simp),List.filter_congr (q:=p) fun z hz=>by simp [cS z hz],List.foldr_cons,hp,oJ]
theorem RL(g:Int->Nat):∀ {G:ah},G.Nodup->(∀p:Int->Bool,(G.filter p).foldr (fun y a=>g y^^^a) 0=0->G.filter p=[])->(cK (G.map g)).Nodup
 | [],_,_=>by simp [cK]
 | y::G,hn,h=>by
  have uo:=hn;rw [kz]at hn;have cS:∀z∈G,z≠y:=fun z hz e=>hn.1 (e▸hz)
  refine Cb (RL g hn.2 fun p hp=>?_) fun hs=>?_
  ·have e:(y::G).filter (fun z=>p z && !decide (z=y))=G.filter p:=by
    rw [List.filter_cons_of_neg (by simp),List.filter_congr (q:=p) fun z hz=>by simp [cS z hz]]
   rw [<-e];exact h _ (by rw [e];exact hp)
  ·obtain⟨p,hp⟩:=LX g hn.2 hs;have e:(y::G).filter (fun z=>p z || decide (z=y))=y::G.filter p:=by
    rw [List.filter_cons_of_pos (by simp),List.filter_congr (q:=p) fun z hz=>by simp [cS z hz]]
   have:=h (fun z=>p z || decide (z=y)) (by rw [e,List.foldr_cons,hp,Nat.xor_self]);rw [e]at this;cases this
theorem adi(g:Int->Nat){G:ah}(hn:G.Nodup)(cS:G≠[])(h1:G.foldr (fun y a=>g y^^^a) 0=0)(h2:∀p:Int->Bool,(G.filter p).foldr (fun y a=>g y^^^a) 0=0->∀y∈G,∀z∈G,p y=p z):1+kZ (G.map g)=G.length:=by
 match G,cS with
 | y::G,_=>
  have uo:=hn;rw [kz]at hn;have cS:∀z∈G,z≠y:=fun z hz e=>hn.1 (e▸hz)
  have r8:(cK (G.map g)).Nodup:=RL g hn.2 fun p hp=>by
   have e:(y::G).filter (fun z=>p z && !decide (z=y))=G.filter p:=by
    rw [List.filter_cons_of_neg (by simp),List.filter_congr (q:=p) fun z hz=>by simp [cS z hz]]
   have h3:=h2 (fun z=>p z && !decide (z=y)) (by rw [e];exact hp);rw [List.filter_eq_nil_iff];intro z hz sf;have:=h3 y (by simp) z (eb _ hz);simp [sf,cS z hz]at this
  have hy:g y∈cK (G.map g):=by
   rw [List.foldr_cons]at h1;have e:g y=G.foldr (fun y a=>g y^^^a) 0:=by
    have:=aL (g y^^^ ·) h1;simp only [oJ,Nat.xor_zero]at this;exact this.symm
   rw [e];exact IG fun z hz=>jJ (eh.2 ⟨z,hz,O⟩)
  have hr:lf ((y::G).map g) (G.map g).length:=⟨G.map g,O,r8,.of (fun b hb=>by
   rw [List.map_cons]at hb;rcases ij.1 hb with rfl | hb
   ·exact hy
   ·exact jJ hb) (fun b hb=>jJ (eb _ hb))⟩
  rw [GZ hr,mf,List.length_cons];omega
section
variable {M:ag}
theorem Xq(hM:dm M)(h3:M.length=3)(hg:EJ M):1+kZ (iE (cq M M.length) (b6 M) 2)=(fE M 2).toNat:=by
 have hb:=hg.1;have hP:=Fo hM hb;have hD:Hp M.length (cq M M.length) (b6 M):=hg.2.2.2.2.1;have gZ:=tT M M.length;have Zs:=hM.2.1.1;have lq:=z8 M (i:=2) (n:=M.length) (by omega);obtain⟨R,hR⟩:∃R,cq M M.length=R:=⟨_,rfl⟩;obtain⟨B,hB⟩:∃B,b6 M=B:=⟨_,rfl⟩;have vC:=jU M (show 2<=M.length by omega);have J8:=jU M (show 3<=M.length by omega);have ew:∀i:Nat,i<3->∀x:Int,0<=x->x< (gl M 0).length->cn M i x.toNat∈eO R i:=fun i hi x x0 x1=>by
  have b1:=qK hM (i:=i) (f:=x.toNat) (by omega);have:=jU M (show i+1<=M.length by omega);refine(mI (R:=R)).2 ⟨⟨by omega,by rw [<-hR,gZ];omega⟩,?_⟩;rw [<-hR];exact wI (by omega) b1.1 b1.2
 have ox:∀e∈eO R 2,∃x:Int,0<=x/\x< (gl M 0).length/\e=cn M 2 x.toNat:=fun e he=>by
  obtain⟨⟨e0,e1⟩,e2⟩:=(mI (R:=R)).1 he;rw [<-hR,gZ]at e1;obtain⟨i,hi,i0,i1⟩:=Oz e0 e1;rw [<-hR,wI hi i0 i1]at e2;obtain rfl:i=2:=by omega
  obtain⟨f,hf,ef⟩:=Iz hM 2 (e - a7 M 2) (by omega) (by
   have:a7 M (2+1)=a7 M 2+ (fE M 2).toNat:=O;omega)
  exact⟨f,by omega,by omega,by unfold cn;rw [Int.toNat_natCast,ef];omega⟩
 have aaO:∀x:Int,0<=x->x< (gl M 0).length->cn M 1 x.toNat∈gl B (cn M 2 x.toNat):=fun x x0 x1=>by
  have b1:(a7 M 1:Int)<=cn M 1 x.toNat/\cn M 1 x.toNat< (a7 M 2:Int):=qK hM (i:=1) (f:=x.toNat) (by omega);have b2:(a7 M 2:Int)<=cn M 2 x.toNat/\cn M 2 x.toNat< (a7 M 3:Int):=qK hM (i:=2) (f:=x.toNat) (by omega);rw [<-hB,pG (by omega) (by omega)];exact⟨by omega,x.toNat,by omega,2,by omega,1,by omega,O,O⟩
 rw [hR,hB]at hP hD|-;rw [hR]at lq;have JL:∀y∈eO R 2,∀q:Nat,(bV (eB R B y)).testBit q=decide ((q:Int)∈gl B y/\gi R q=1):=fun y hy q=>by
  have uA:y∈eO R ((1:Int)+1):=hy;obtain⟨h1,h2⟩:=EV hP uA;rw [xR h1 fun d hd=> (h2 d hd).1];refine nA.2 ?_;have e2:=((mI (R:=R)).1 hy).2;unfold eB;rw [ja,nB,e2];exact Iff.rfl
 have QK:∀e∈eO R 1,(oP R B 2 e (-1)).length=2:=fun e he=>by
  obtain⟨⟨e0,e1⟩,e2⟩:=(mI (R:=R)).1 he;exact hD 2 e (-1) (by omega) (by omega) (.inr ⟨⟨e0,e1⟩,by omega,by omega⟩) (.inl ⟨O,by omega⟩) fun _ h=>absurd h (by omega)
 have QN:(eO R 2).Nodup:=S8 R 2;have Rh:∀(p:Int->Bool) (q:Nat),(q:Int)∈eO R 1->(((eO R 2).filter p).filter fun y=> (bV (eB R B y)).testBit q).Perm ((oP R B 2 q (-1)).filter p):=fun p q hq=>by
  have y6:=((mI (R:=R)).1 hq).2;refine(List.perm_ext_iff_of_nodup ((QN.filter _).filter _) ((Ht R B 2 _ _).filter _)).2 fun y=>?_
  rw [ja,ja,ja,MI];constructor
  ·rintro⟨⟨h1,h2⟩,h4⟩;rw [JL y h1,nB]at h4;have h5:=(mI (R:=R)).1 h1;exact⟨⟨h5.1,h5.2,.inr h4.1,.inl (by omega)⟩,h2⟩
  ·rintro⟨⟨h1,h2,h4,_⟩,h5⟩;have h6:y∈eO R 2:=(mI (R:=R)).2 ⟨h1,h2⟩;refine⟨⟨h6,h5⟩,?_⟩;rw [JL y h6,nB];rcases h4 with h4 | h4
   ·omega
   ·exact⟨h4,y6⟩
 have hF:((eO R 2).length:Int)=fE M 2:=lq;have aaG:cn M 2 (0:Int).toNat∈eO R 2:=ew 2 (by omega) 0 (by omega) (by omega);have key:=adi (fun e=>bV (eB R B e)) QN (List.ne_nil_of_mem aaG) ?_ ?_
 ·show 1+kZ ((eO R 2).map fun e=>bV (eB R B e))=_;rw [key];omega
 ·refine Nat.eq_of_testBit_eq fun q=>?_
  rw [IF];simp only [Nat.zero_testBit,decide_eq_false_iff_not]
  by_cases hq:(q:Int)∈eO R 1
  ·have h1:=(Rh (fun _=>true) q hq).length_eq;rw [List.filter_eq_self.2 (fun _ _=>rfl),List.filter_eq_self.2 (fun _ _=>rfl),QK _ hq]at h1;omega
  ·rw [List.filter_eq_nil_iff.2 fun y hy h=>hq ?_]
   ·simp
   ·rw [JL y hy,nB]at h;have h5:=(mI (R:=R)).1 hy;have h6:=(hP.at_ h5.1.1 h5.1.2).2.1 _ h.1;exact(mI (R:=R)).2 ⟨⟨h6.1.1,by omega⟩,h.2⟩
 ·intro p hp;have hx:∀x:Int,0<=x->x< (gl M 0).length->p (cn M 2 x.toNat)=p (cn M 2 (gi (gl M 2) x).toNat):=fun x x0 x1=>by
   by_cases hy:cn M 2 x.toNat=cn M 2 (gi (gl M 2) x).toNat
   ·rw [<-hy]
   ·have hr:0<=gi (gl M 2) x/\gi (gl M 2) x< (gl M 0).length:=hM.su (k:=2) (by omega) x0 x1;have he:=ew 1 (by omega) x x0 x1;have e1:cn M 1 (gi (gl M 2) x).toNat=cn M 1 x.toNat:=by
     have:gi (cX M 1) (gi (gl M 2) x)=gi (cX M 1) x:=wG hM (i:=1) (k:=2) (by omega) (by omega) x0 x1;unfold cn;rw [Int.toNat_of_nonneg hr.1,Int.toNat_of_nonneg x0,this]
    obtain⟨q,hq⟩:∃q:Nat,cn M 1 x.toNat=(q:Int):=⟨(cn M 1 x.toNat).toNat,by
     have:=((mI (R:=R)).1 he).1.1;omega⟩
    have hm:∀z:Int,0<=z->z< (gl M 0).length->cn M 1 z.toNat=cn M 1 x.toNat->cn M 2 z.toNat∈oP R B 2 q (-1):=fun z z0 z1 ez=>by
     have h5:=(mI (R:=R)).1 (ew 2 (by omega) z z0 z1);refine MI.2 ⟨h5.1,h5.2,.inr ?_,.inl (by omega)⟩;have:=aaO z z0 z1
     rwa [ez,hq]at this
    have vB:=hm x x0 x1 O;have vC:=hm _ hr.1 hr.2 e1;have y6:(q:Int)∈eO R 1:=by rw [<-hq];exact he
    obtain⟨a,b,kl,hc⟩:=agu (Ht R B 2 q (-1)) (QK _ y6);have Kg:(oP R B 2 q (-1)).Perm [cn M 2 x.toNat,cn M 2 (gi (gl M 2) x).toNat]:=by
     refine(List.perm_ext_iff_of_nodup (Ht _ _ _ _ _) (by simp [hy])).2 fun d=>?_
     have h1:=(hc _).1 vB;have h2:=(hc _).1 vC;rw [hc];simp only [ij,List.not_mem_nil,or_false];omega
    have h1:=(Rh p q y6).length_eq;have h2:=(Kg.filter p).length_eq;have h3:=IF (fun e=>bV (eB R B e)) q ((eO R 2).filter p);rw [hp,h1,h2]at h3;simp only [Nat.zero_testBit]at h3;have h3:=of_decide_eq_false h3.symm;cases e1:p (cn M 2 x.toNat)<;>cases e2:p (cn M 2 (gi (gl M 2) x).toNat)<;>simp [e1,e2]at h3|-
  have cO:∀x:Int,Reach M 0 x->p (cn M 2 x.toNat)=p (cn M 2 (0:Int).toNat):=fun x vI=>by
   induction vI with
   | refl=>rfl
   | step hr hp ih=>
    rename_i y p';have hy:=Reach.range hM.2.2.1.sys (by omega) (by omega) hr;obtain⟨k,hk,rfl⟩:=gj.1 hp;rw [<-fm hk]
    by_cases mZ:k=2
    ·subst mZ;exact(hx y hy.1 hy.2).symm.trans ih
    ·have xy:=hM.su hk hy.1 hy.2;have e1:cn M 2 (gi (gl M k) y).toNat=cn M 2 y.toNat:=by
      have:=wG hM (i:=2) hk mZ hy.1 hy.2;unfold cn;rw [Int.toNat_of_nonneg xy.1,Int.toNat_of_nonneg hy.1,this]
     rw [e1];exact ih
  intro y hy z hz;obtain⟨a,a0,a1,rfl⟩:=ox y hy;obtain⟨b,b0,b1,rfl⟩:=ox z hz;rw [cO a (hM.any (by omega) (by omega) a0 a1),cO b (hM.any (by omega) (by omega) b0 b1)]
theorem Nu(hM:dm M)(h2:2<=M.length)(hb:a7 M M.length<=500)(hE:qw (cq M M.length) (b6 M)):gi (mm M.length (cq M M.length) (b6 M)) 0=1:=by
 have h1:=NL hM h2 hb hE;have h3:=zS (n:=M.length) (R:=cq M M.length) (B:=b6 M) (by omega) (show 0<M.length by omega);have h4:=z8 M (i:=0) (n:=M.length) (by omega);rw [wF (by omega),h4]at h3;have h5:mJ M.length (cq M M.length) (b6 M) 0=0:=aR (by omega);have h6:mJ M.length (cq M M.length) (b6 M) (0+1)=((kZ (iE (cq M M.length) (b6 M) 1):Nat):Int):=aT (by omega);have h7:=rH M 0;rw [h5,h6]at h3;simp only [Int.natCast_zero]at h3;omega
theorem Nv(hM:dm M)(h3:M.length=3)(hg:EJ M)(hE:qw (cq M M.length) (b6 M)):mm M.length (cq M M.length) (b6 M)=[1,2 - gk (fy M) (fy M).length,1]:=by
 have h1:=NL hM (by omega) hg.1 hE;have h2:=Xq hM h3 hg;have Dw:=Nu hM (by omega) hg.1 hE;have hl:=E1 M.length (cq M M.length) (b6 M);have hc:(fy M).length=3:=by rw [<-yl,sN,h3]
 have HO:=zS (n:=M.length) (R:=cq M M.length) (B:=b6 M) (by omega) (show 1<M.length by omega);have HP:=zS (n:=M.length) (R:=cq M M.length) (B:=b6 M) (by omega) (show 2<M.length by omega);have c0:=z8 M (i:=0) (n:=M.length) (by omega);have c1:=z8 M (i:=1) (n:=M.length) (by omega);have c2:=z8 M (i:=2) (n:=M.length) (by omega);have d0:gi (fy M) 0=fE M 0:=by rw [<-yl];exact(wF (i:=0) (by omega)).trans c0
 have d1:gi (fy M) 1=fE M 1:=by rw [<-yl];exact(wF (i:=1) (by omega)).trans c1
 have d2:gi (fy M) 2=fE M 2:=by rw [<-yl];exact(wF (i:=2) (by omega)).trans c2
 rw [wF (by omega),c1]at HO;rw [wF (by omega),c2]at HP;have k1:mJ M.length (cq M M.length) (b6 M) 1=((kZ (iE (cq M M.length) (b6 M) 1):Nat):Int):=aT (by omega);have k2:mJ M.length (cq M M.length) (b6 M) 2=((kZ (iE (cq M M.length) (b6 M) 2):Nat):Int):=aT (by omega);have k3:mJ M.length (cq M M.length) (b6 M) 3=0:=aR (by omega);rw [k1,k2]at HO;rw [k2,k3]at HP;have e1:=rH M 0;have e2:=rH M 1;have e3:=rH M 2;have hx:gk (fy M) (fy M).length=fE M 0 - fE M 1+fE M 2:=by
  rw [hc];show 0+gi (fy M) 0+ -gi (fy M) 1+gi (fy M) 2=_;rw [d0,d1,d2];omega
 rw [hx];generalize mm M.length (cq M M.length) (b6 M)=b at*;rw [h3]at hl
 match b,hl with
 | [x,y,z],_=>
  have a0:x=1:=Dw;have a1:y=_:=HO;have a2:z=_:=HP;rw [a0,a1,a2];have:fE M 2 - (((kZ (iE (cq M M.length) (b6 M) 2):Nat):Int)+0)=1:=by omega
  rw [this];have:fE M 1 - (((kZ (iE (cq M M.length) (b6 M) 1):Nat):Int)+ ((kZ (iE (cq M M.length) (b6 M) 2):Nat):Int))=2 - (fE M 0 - fE M 1+fE M 2):=by omega
  rw [this]
end
end
end Go.Proofs.YtkojeolafnadeaaGreatDoor.Vc
