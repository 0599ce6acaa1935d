/-
 Lemmas. Conditions: as each states them.
-/
import Derived.Test.YtopgfgdgfjddpaaGreatDoorZe
import Derived.MapKept
import Derived.Carry
set_option maxHeartbeats 8000000
namespace Go.Proofs.YtopgfgdgfjddpaaGreatDoor.Vc.TS
open Go.RowKit Tryz
variable{b j:Nat}{w0 w' w:aa}{t:ae}{ks:List Ck}
def nq(x:TV):Int:=x.f*1000+x.g
def kT(x:TV):Int:=x.r*1000000+nq x
def qG(x:TV):Prop:=(0<=x.f/\x.f<1000)/\0<=x.g/\x.g<1000
def sy(x y:TV):Int:=if x.r<y.r then -1 else if y.r<x.r then 1 else 0
theorem qG.ix{x:TV}(h:qG x):0<=nq x/\nq x<1000000:=by unfold qG at h;unfold nq;omega
theorem QH{x y:TV}(hx:qG x)(hy:qG y)(h:nq y<nq x):sy x y<0↔kT x<kT y:=by
 have h1:=hx.ix;have h2:=hy.ix;unfold sy kT
 by_cases e:x.r<y.r
 ·rw [ay e];omega
 rw [aw e]
 by_cases e2:y.r<x.r
 ·rw [ay e2];omega
 rw [aw e2];omega
theorem UK(x:Int)(w:aa):aN prog 221 [ak x] w (fun v w'=>v= .bool false/\w'=w):=by
 refine bI func221 O ntmps221 O (du O) (Kf O (dz O ?_));exact⟨by rw [dk (fun h=>h O)],O⟩
theorem ZC(x y:Int)(w:aa):aN prog 176 [ak x,ak y] w (fun v w'=>v=ak (if x<y then -1 else if y<x then 1 else 0)/\w'=w):=by
 refine bI func176 O ntmps176 O (du O) (bc O (aL (UK x w) O ?_));rintro _ w1 ⟨rfl,rfl⟩;refine ar O (aL (UK y _) O ?_);rintro _ w1 ⟨rfl,rfl⟩;refine aI O (Cd.gq O (cM O (Cd.gq O (cM O ?_))));refine aR _ O (fun h=>?_) (fun h=>?_)
 ·refine eF O (jj O ?_);exact⟨by rw [ay h],O⟩
 refine cM O (aR _ O (fun h2=>?_) (fun h2=>?_))
 ·refine eF O (jj O ?_);exact⟨by rw [aw h,ay h2],O⟩
 refine eF O (jj O ?_);exact⟨by rw [aw h,aw h2],O⟩
theorem HH(x y:TV)(w:aa):
 aN prog 175 [x.v,y.v] w (fun v w'=>v=ak (sy x y)/\St w w' []):=by
 refine bI func175 O ntmps175 O (du O) (bc O (mW (St.refl w) O O ?_));intro A2 w1 aE;refine mW aE O O fun A3 w2 aD=>ar O (aW (aD.rd 1 O) O (iW (aD.rd 1 O) O O O O O (aW (aD.rd 0 O) O (iW (aD.rd 0 O) O O O O O (aL (ZC x.r y.r _) O ?_)))));rintro _ w3 ⟨rfl,rfl⟩;refine bM O (jj O ?_);exact⟨O,aD.none⟩
theorem R8{ds:List TV}(h:∀s∈ds,qG s)(i:Nat):qG (gs ds i):=by
 by_cases hi:i<ds.length
 ·rw [tx hi];exact h _ (dH _)
 have:gs ds i=O3:=by simp [gs,dd,qm (Nat.le_of_not_lt hi)]
 rw [this];exact⟨⟨Int.le_refl _,by decide⟩,Int.le_refl _,by decide⟩
theorem RP.cap{ds mx:List TV}{a:Nat}(h:RP ds mx a b)(hc:∀s∈ds,qG s):∀s∈mx,qG s:=fun s hs=>hc s (h.perm.mem_iff.1 hs)
theorem AL{A:aj}{n c:Nat}{L:List TV}{x s:TV}{i:Int}(e:i.toNat=j)(g:s=x)(h:St w0 w' (eJ t A n c (L.set i.toNat s)::ks)):St w0 w' (eJ t A n c (L.set j x)::ks):=by
 subst g;rw [<-e];exact h
theorem OX{A:aj}{n c:Nat}{P X M Y S:List TV}{G:FuncId}(a b m:Nat)(ha:P.length=a)(hb:P.length+X.length+M.length=b)(hm:X.length=m)(jT:X.length=Y.length)(hn:n<=4000000000000)(hS:St w0 w (eJ t A n c (P++X++M++Y++S)::ks)):
 aN prog 286 [.slice A n c,ak a,ak b,ak m,.func (.func G) #[] #[]] w (fun v w'=>v= .tuple #[]/\St w0 w' (eJ t A n c (P++Y++M++X++S)::ks)):=by
 have vM:(P++X++M++Y++S).length=n:=(hS.kK 0 O).1;simp only [dI]at vM;refine bI func286 O ntmps286 O (Cu O) (b8 O ?_);refine Cd.loop (α:=Nat) (fun k=> [(0,.slice A n c),(1,ak a),(2,ak b),(3,ak m),(4,.func (.func G) #[] #[]),(10,ak k)]) (fun k w'=>k<=m/\St w0 w' (eJ t A n c (P++ (Y.take k++X.drop k)++M++ (X.take k++Y.drop k)++S)::ks)) (fun k=>m - k) 0 (alH O) ⟨bm _,by simpa using hS⟩ ?_;rintro k e w1 ⟨hk,aE⟩;refine b8 O (aR _ O (fun h1=>?_) (fun h1=>?_))
 ·have pP:k<X.length:=by omega
  have MO:k<Y.length:=by omega
  have hR:=aE.kK 0 O;have ga:tg (P++ (Y.take k++X.drop k)++M++ (X.take k++Y.drop k)++S) ((a:Int)+ (k:Int))=X[k]:=by
   have e1:((a:Int)+ (k:Int)).toNat=P.length+k:=by omega
   unfold tg;rw [e1,dd];simp only [gN];rw [kN (by omega),kN (by simp;omega),mq (by simp;omega)];simp [Nat.min_eq_left (Nat.le_of_lt MO),pP]
  have gb:tg (P++ (Y.take k++X.drop k)++M++ (X.take k++Y.drop k)++S) ((b:Int)+ (k:Int))=Y[k]:=by
   have e1:((b:Int)+ (k:Int)).toNat=P.length+X.length+M.length+k:=by omega
   unfold tg;rw [e1,dd];simp only [gN];rw [kN (by omega),kN (by simp;omega),kN (by simp;omega),kN (by simp;omega),kN (by simp;omega),mq (by simp;omega)];have e2:P.length+X.length+M.length+k - P.length - (List.take k Y).length - (List.drop k X).length - M.length - (List.take k X).length=0:=by simp;omega
   rw [e2];simp [MO]
  have hx:=aau P X M Y S k jT pP X[k] Y[k] (by simp [pP]) (by simp [MO]);have ea:((a:Int)+ (k:Int)).toNat=P.length+k:=by omega
  have eb:((b:Int)+ (k:Int)).toNat=P.length+X.length+M.length+k:=by omega
  generalize hL:P++ (Y.take k++X.drop k)++M++ (X.take k++Y.drop k)++S=L at*;have tG:L.length=n:=hR.1;refine cM O ?_;refine jA [21,23] [yS (A) (n) (c),yI ((a:Int)),yI ((k:Int)),yI (((a:Int))+ ((k:Int))),yS (A) (n) (c),yI ((b:Int)),yI ((k:Int)),yI (((b:Int))+ ((k:Int))),yS (A) (n) (c),yI ((b:Int)),yI ((k:Int)),yI (((b:Int))+ ((k:Int))),yP (aB (A) ((((b:Int))+ ((k:Int))).toNat*3)),.ex ((tg (L) (((b:Int))+ ((k:Int)))).v),yS (A) (n) (c),yI ((a:Int)),yI ((k:Int)),yI (((a:Int))+ ((k:Int))),yP (aB (A) ((((a:Int))+ ((k:Int))).toNat*3)),.ex ((tg (L) (((a:Int))+ ((k:Int)))).v),yP (aB (A) ((((a:Int))+ ((k:Int))).toNat*3)),.pr (fun _ w'=>St w0 w' (eJ t A n c (L.set (P.length+k) Y[k])::ks)),yP (aB (A) ((((b:Int))+ ((k:Int))).toNat*3)),.pr (fun _ w'=>St w0 w' (eJ t A n c ((L.set (P.length+k) Y[k]).set (P.length+X.length+M.length+k) X[k])::ks))] (ly (ly (ly (ly (ly (ly (ly (ly (ly (ly (ly (ly (ly (ly (ly (ly (ly (ly (ly (ly (ly (cj.2 ⟨Ye.cN (fun v w w' h hb=>h.aq hb),(ly (cj.2 ⟨Ye.cN (fun v w w' h hb=>h.aq hb),(fun _ h=>by cases h)⟩))⟩)))))))))))))))))))))) ?_ ?_
  ·refine⟨bQ O,bQ O,bQ O,aP fun _ _=>aJ O (bq O O),bQ O,bQ O,bQ O,aP fun _ _=>aJ O (bq O O),bQ O,bQ O,bQ O,aP fun _ _=>aJ O (bq O O),cP fun _ _ hb _ _ _=>lq (hR.aq hb) O (bq O O),cP fun _ _ hb _ _ _=>pE (hR.aq hb) O (by omega) O (bq O O),bQ O,bQ O,bQ O,aP fun _ _=>aJ O (bq O O),cP fun _ _ hb _ _ _=>lq (hR.aq hb) O (bq O O),cP fun _ _ hb _ _ _=>pE (hR.aq hb) O (by omega) O (bq O O),cP fun _ _ hb _ _ _=>lq (hR.aq hb) O (bq O O),?_,?_,?_,av⟩
   ·refine jC fun e1 w1 hb hp aY hq=>?_
    exact zk 0 (aE.aq hb) O O O (by omega) fun w6 aZ=>ao.n (fH.st O (AL ea gb aZ))
   ·refine dP 1 fun e1 w1 hp aY hq=>?_
    have fe:=hp 21 _ _ (by kernel_rfl) O O (by kernel_rfl);have kD:=fe.kK 0 O;refine lq (kD) O (ao.n (fL O (by exact O)))
   refine rJ 1 fun e1 w1 hp aY hq=>?_
   have fe:=hp 21 _ _ (by kernel_rfl) O O (by kernel_rfl);have kD:=fe.kK 0 O;exact zk 0 fe O O O (by omega) fun w7 a6=>ao.n (fH.st O (AL eb ga a6))
  intro u w5 _ hu _ _;have aV:=hu 23 _ O (by kernel_rfl);rw [hx]at aV;refine iV O (aJ O (aT O (tQ ?_)));exact⟨k+1,by show m - (k+1)<m - k;omega,(alH O),by omega,aV⟩
 have TB:k=m:=by omega
 subst TB;rw [lp (by omega),lp (by omega),List.drop_eq_nil_of_le (by omega),List.drop_eq_nil_of_le (by omega),eu,eu]at aE;refine bw O (bA (EE O ?_));exact yK ⟨O,aE⟩
theorem ain{A:aj}{n c:Nat}{P X Y S:List TV}{G:FuncId}(a m b:Nat)(ha:P.length=a)(hm:P.length+X.length=m)(hb:P.length+X.length+Y.length=b)(rX:0<X.length)(Ny:0<Y.length)(hn:n<=4000000000000)(hS:St w0 w (eJ t A n c (P++ (X++ (Y++S)))::ks)):
 aN prog 275 [.slice A n c,ak a,ak m,ak b,.func (.func G) #[] #[]] w (fun v w'=>v= .tuple #[]/\St w0 w' (eJ t A n c (P++ (Y++ (X++S)))::ks)):=by
 have vM:(P++ (X++ (Y++S))).length=n:=(hS.kK 0 O).1;simp only [dI]at vM;generalize hT:P++ (Y++ (X++S))=T;refine bI func275 O ntmps275 O (Cu O) ?_;refine bc O (dT O (ar O (dT O (aI O ?_))));refine Cd.loop (α:=List TV×List TV×List TV×List TV) (fun z=> [(0,.slice A n c),(2,ak m),(4,.func (.func G) #[] #[]),(10,ak (z.2.1.length:Int)),(11,ak (z.2.2.1.length:Int))]) (fun z w'=>z.1.length+z.2.1.length=m/\0<z.2.1.length/\0<z.2.2.1.length/\z.1++ (z.2.2.1++ (z.2.1++z.2.2.2))=T/\z.1.length+ (z.2.1.length+ (z.2.2.1.length+z.2.2.2.length))=n/\St w0 w' (eJ t A n c (z.1++ (z.2.1++ (z.2.2.1++z.2.2.2)))::ks)) (fun z=>z.2.1.length+z.2.2.1.length) (P,X,Y,S)
  ⟨rfl,rfl,rfl,by show Value.int .i64 ((m:Int) - (a:Int))=ak (X.length:Int);congr 1;omega,by show Value.int .i64 ((b:Int) - (m:Int))=ak (Y.length:Int);congr 1;omega,av⟩ ⟨hm,rX,Ny,hT,by show P.length+ (X.length+ (Y.length+S.length))=n;omega,hS⟩ ?_
 rintro⟨P',X',Y',S'⟩ e w1 ⟨jw,eE,kX,iM,vL,aE⟩;dsimp only at jw eE kX iM vL aE|-;refine b8 O (aR _ O (fun h1=>?_) (fun h1=>?_))
 ·refine cM O (aR _ O (fun h2=>?_) (fun h2=>?_))
  ·have hj:Y'.length<=X'.length:=by omega
   obtain⟨X1,X2,rfl,uN⟩:∃X1 X2,X'=X1++X2/\X1.length=Y'.length:=⟨X'.take Y'.length,X'.drop Y'.length,(List.take_append_drop _ _).symm,by simp;omega⟩;have hlen:(X1++X2).length=X1.length+X2.length:=dI;simp only [dI]at jw eE vL h1 h2;refine aG O (dT O (ar O ?_));refine als (OX (P:=P') (X:=X1) (M:=X2) (Y:=Y') (S:=S') P'.length m Y'.length O (by omega) uN uN hn (by simpa using aE)) O (by show [Value.slice A n c,ak ((m:Int) - ((X1++X2).length:Int)),ak m,ak (Y'.length:Int),.func (.func G) #[] #[]]=_;congr 3;simp;omega) O ?_;rintro _ w2 ⟨rfl,aD⟩;refine ar O (dT O (aT O (tQ ?_)));exact⟨(P'++Y',X2,X1,S'),by show X2.length+X1.length< (X1++X2).length+Y'.length;simp;omega,⟨O,O,O,by show Value.int .i64 _=ak _;congr 1;simp;omega,aK (fun k:Nat=>Value.int .i64 (k:Int)) uN.symm,av⟩,by simp;omega,by show 0<X2.length;omega,by show 0<X1.length;omega,by show(P'++Y')++ (X1++ (X2++S'))=T;rw [<-iM];simp,by show(P'++Y').length+_=n;simp;omega,by simpa using aD⟩
  have hj:X'.length<Y'.length:=by omega
  obtain⟨Y1,Y2,rfl,FL⟩:∃Y1 Y2,Y'=Y1++Y2/\Y2.length=X'.length:=⟨Y'.take (Y'.length - X'.length),Y'.drop (Y'.length - X'.length),(List.take_append_drop _ _).symm,by simp;omega⟩;have hlen:(Y1++Y2).length=Y1.length+Y2.length:=dI;simp only [dI]at kX vL h1 h2 hj;refine aG O (dT O (ar O (aJ O (ar O (dT O (ar O ?_))))));refine als (OX (P:=P') (X:=X') (M:=Y1) (Y:=Y2) (S:=S') P'.length (m+Y1.length) X'.length O (by omega) O FL.symm hn (by simpa using aE)) O (by show [Value.slice A n c,ak ((m:Int) - (X'.length:Int)),ak ((m:Int)+ ((Y1++Y2).length:Int) - (X'.length:Int)),ak (X'.length:Int),.func (.func G) #[] #[]]=_;rw [show(m:Int)+ ((Y1++Y2).length:Int) - (X'.length:Int)=((m+Y1.length:Nat):Int) by omega,show(m:Int) - (X'.length:Int)=(P'.length:Int) by omega]) O ?_;rintro _ w2 ⟨rfl,aD⟩;refine ar O (dT O (aT O (tQ ?_)));exact⟨(P',Y2,Y1,X'++S'),by show Y2.length+Y1.length<X'.length+ (Y1++Y2).length;simp;omega,⟨O,O,O,aK (fun k:Nat=>Value.int .i64 (k:Int)) FL.symm,by show Value.int .i64 _=ak _;congr 1;simp;omega,av⟩,by show P'.length+Y2.length=m;omega,by show 0<Y2.length;omega,by show 0<Y1.length;omega,by show P'++ (Y1++ (Y2++ (X'++S')))=T;rw [<-iM];simp,by show P'.length+ (Y2.length+ (Y1.length+ (X'++S').length))=n;simp;omega,by simpa using aD⟩
 have jT:X'.length=Y'.length:=by omega
 refine bw O (bA (dh O (dT O (ar O ?_))));refine als (OX (P:=P') (X:=X') (M:=[]) (Y:=Y') (S:=S') P'.length m X'.length O (by simpa using jw) O jT hn (by simpa using aE)) O (by show [Value.slice A n c,ak ((m:Int) - (X'.length:Int)),ak m,ak (X'.length:Int),.func (.func G) #[] #[]]=_;congr 3;omega) O ?_;rintro _ w2 ⟨rfl,aD⟩;refine aT O (yK ?_);exact⟨O,by rw [<-iM];simpa using aD⟩
theorem UE{A:aj}{n c:Nat}{ds:List TV}(a b:Nat)(hb:b<=n)(ha:a<=n)(hn:n<=4000000000000)(hc:∀s∈ds,qG s)(yl:∀x y,a<=x->x<y->y<b->nq (gs ds x)<nq (gs ds y))(hS:St w0 w (eJ t A n c ds::ks)):
 aN prog 253 [.slice A n c,ak a,ak b,.func (.func 175) #[] #[]] w (fun v w'=>v= .tuple #[]/\∃mx,RP ds mx a b/\SR kT mx a b/\St w0 w' (eJ t A n c mx::ks)):=by
 have vM:ds.length=n:=(hS.kK 0 O).1;refine bI func253 O ntmps253 O (Cu O) ?_;refine bc O (aJ O (aI O ?_));refine Cd.loop (α:=Nat×List TV) (fun z=> [(0,.slice A n c),(1,ak a),(2,ak b),(3,.func (.func 175) #[] #[]),(8,ak (z.1:Int))]) (fun z w'=>a+1<=z.1/\RP ds z.2 a b/\SR kT z.2 a z.1/\(∀x,z.1<=x->gs z.2 x=gs ds x)/\(∀x y,a<=x->x<z.1->z.1<=y->y<b->nq (gs z.2 x)<nq (gs ds y))/\St w0 w' (eJ t A n c z.2::ks)) (fun z=>b - z.1) (a+1,ds) (alH O) ⟨bB _,RP.refl _ _ _,SR.one _ _ (bB _),fun _ _=>O,fun x y h1 h2 h3 h4=>yl x y h1 (Nat.lt_of_lt_of_le h2 h3) h4,hS⟩ ?_;rintro⟨i,cur⟩ e w1 ⟨hi,hp,hs,aY,TF,aE⟩;dsimp only at hi hp hs aY TF aE|-;refine b8 O (aR _ O (fun h1=>?_) (fun h1=>?_))
 ·refine cM O ?_;refine Cd.loop (α:=Nat×List TV) (fun z=> [(0,.slice A n c),(1,ak a),(2,ak b),(3,.func (.func 175) #[] #[]),(8,ak i),(9,ak (z.1:Int))]) (fun z w'=>RP ds z.2 a b/\xv kT z.2 a i z.1/\gs z.2 z.1=gs ds i/\(∀x,i<x->gs z.2 x=gs ds x)/\(∀x y,a<=x->x<=i->x≠z.1->i<=y->y<b->nq (gs z.2 x)<nq (gs ds y))/\St w0 w' (eJ t A n c z.2::ks)) (fun z=>z.1) (i,cur) (alH O) ⟨hp,xv.start hs (by omega),aY i (bB _),fun x hx=>aY x (Nat.le_of_lt hx),fun x y h3 h4 h5 h6 h7=>TF x y h3 (by have h5:x≠i:=h5;omega) h6 h7,aE⟩ ?_;rintro⟨j,cu⟩ e w2 ⟨iy,hI,kj,Jh,DL,aD⟩;dsimp only at iy hI kj Jh DL aD|-;have da:cu.length=n:=(aD.kK 0 O).1;have hR:=aD.kK 0 O;have TC:=hI.low;have hhigh:=hI.high;have lQ:=R8 (iy.cap hc);refine b8 O ?_
  by_cases S3:a<j
  ·
   have ej:((j:Int) - 1).toNat=j - 1:=by omega
   have g1:tg cu j=gs cu j:=O;have g2:tg cu ((j:Int) - 1)=gs cu (j - 1):=by unfold tg gs;rw [ej]
   refine eB [xI ((j:Int)),xI ((a:Int)),xB (decide (((a:Int))< ((j:Int)))),xB (true),.ex (.func (.func 175) #[] #[]),xS (A) (n) (c),xI ((j:Int)),xP (aB (A) (((j:Int)).toNat*3)),.ex ((tg (cu) ((j:Int))).v),xS (A) (n) (c),xI ((j:Int)),xI (((j:Int)) - ((1:Int))),xP (aB (A) ((((j:Int)) - ((1:Int))).toNat*3)),.ex ((tg (cu) (((j:Int)) - ((1:Int)))).v),xI (sy (gs cu j) (gs cu (j - 1))),xB (decide ((sy (gs cu j) (gs cu (j - 1)))< ((0:Int)))),xB (decide ((sy (gs cu j) (gs cu (j - 1)))< ((0:Int))))] O (eQ O) ?_ ?_
   ·refine⟨Dr O,Dr O,Dr O,fun _ _ _ _ _=>Dk O (by exact aK Value.bool (eP (by omega))),Dr O,Dr O,Dr O,fun _ _ hb _ _=>au O (lq (hR.aq hb) O Az),fun _ _ hb _ _=>au O (pE (hR.aq hb) O (by omega) O Az),Dr O,Dr O,fun _ _ _ _ _=>au O (dT O Az),fun _ _ hb _ _=>au O (lq (hR.aq hb) O Az),fun _ _ hb _ _=>au O (pE (hR.aq hb) O (by omega) O Az),?_,Dr O,Dr O,av⟩;intro e1 w1 hb hp aY;refine au O ?_;refine als (HH (gs cu j) (gs cu (j - 1)) _) O (by rw [<-g2];rfl) O ?_;rintro _ w9 ⟨rfl,ln⟩;refine ao.n ?_;exact iB.dn ln.below (by exact O)
   intro u w3 ib _;have aM:=aD.aq ib;have yb:=QH (lQ j) (lQ (j - 1)) (by rw [kj];exact DL (j - 1) i (by omega) (by omega) (by omega) (bB _) (by omega));refine fh O (aR _ O (fun h2=>?_) (fun h2=>?_))
   ·have iD:=aM.kK 0 O;have gB:kT (gs cu j)<kT (gs cu (j - 1)):=yb.1 h2;have LD:=fun x=>Fh (l:=cu) (i:=j) (j:=j - 1) (by omega) (by omega) x
    refine cM O ?_;refine jA [15,17] [yS (A) (n) (c),yI ((j:Int)),yS (A) (n) (c),yI ((j:Int)),yI (((j:Int)) - ((1:Int))),yS (A) (n) (c),yI ((j:Int)),yI (((j:Int)) - ((1:Int))),yP (aB (A) ((((j:Int)) - ((1:Int))).toNat*3)),.ex ((tg (cu) (((j:Int)) - ((1:Int)))).v),yS (A) (n) (c),yI ((j:Int)),yP (aB (A) (((j:Int)).toNat*3)),.ex ((tg (cu) ((j:Int))).v),yP (aB (A) (((j:Int)).toNat*3)),.pr (fun _ w'=>St w0 w' (eJ t A n c (cu.set j (gs cu (j - 1)))::ks)),yP (aB (A) ((((j:Int)) - ((1:Int))).toNat*3)),.pr (fun _ w'=>St w0 w' (eJ t A n c (swp cu j (j - 1))::ks))] (ly (ly (ly (ly (ly (ly (ly (ly (ly (ly (ly (ly (ly (ly (ly (cj.2 ⟨Ye.cN (fun v w w' h hb=>h.aq hb),(ly (cj.2 ⟨Ye.cN (fun v w w' h hb=>h.aq hb),(fun _ h=>by cases h)⟩))⟩)))))))))))))))) ?_ ?_
    ·refine⟨bQ O,bQ O,bQ O,bQ O,aP fun _ _=>dT O (bq O O),bQ O,bQ O,aP fun _ _=>dT O (bq O O),cP fun _ _ hb _ _ _=>lq (iD.aq hb) O (bq O O),cP fun _ _ hb _ _ _=>pE (iD.aq hb) O (by omega) O (bq O O),bQ O,bQ O,cP fun _ _ hb _ _ _=>lq (iD.aq hb) O (bq O O),cP fun _ _ hb _ _ _=>pE (iD.aq hb) O (by omega) O (bq O O),cP fun _ _ hb _ _ _=>lq (iD.aq hb) O (bq O O),?_,?_,?_,av⟩
     ·refine jC fun e1 w1 hb hp aY hq=>?_
      exact zk 0 (aM.aq hb) O O O (by omega) fun w6 aZ=>ao.n (fH.st O (AL (i:=(j:Int)) O g2 aZ))
     ·refine dP 1 fun e1 w1 hp aY hq=>?_
      have fe:=hp 15 _ _ (by kernel_rfl) O O (by kernel_rfl);have kD:=fe.kK 0 O;have F6:(cu.set j (gs cu (j - 1))).length=n:=by rw [jK];exact da
      refine lq (kD) O (ao.n (fL O (by exact O)))
     refine rJ 1 fun e1 w1 hp aY hq=>?_
     have fe:=hp 15 _ _ (by kernel_rfl) O O (by kernel_rfl);have kD:=fe.kK 0 O;have F6:(cu.set j (gs cu (j - 1))).length=n:=by rw [jK];exact da
     exact zk 0 fe O O O (by omega) fun w7 a6=>ao.n (fH.st O (AL ej g1 a6))
    intro u w5 _ hu _ _;have aV:=hu 17 _ O (by kernel_rfl);refine iV O (dT O (aT O (tQ ?_)));exact⟨(j - 1,swp cu j (j - 1)),by show j - 1<j;omega,⟨O,O,O,O,O,by show Value.int .i64 _=ak _;congr 1;omega,av⟩,iy.trans (OY (by omega) (by omega) (Nat.le_of_lt S3) (by omega) (by omega) (by omega)) (bB _) (bB _),hI.next S3 (by omega) gB,by show gs (swp cu j (j - 1)) (j - 1)=_;rw [LD,ay O];exact kj,fun x hx=>by rw [LD,aw (by omega),aw (by omega)];exact Jh x hx,fun x y h3 h4 h5 h6 h7=>by { have h5:x≠j - 1:=h5;rw [LD,aw h5];by_cases e:x=j; { rw [ay e];exact DL (j - 1) y (by omega) (by omega) (by omega) h6 h7 }; { rw [aw e];exact DL x y h3 h4 e h6 h7 } },aV⟩
   refine bw O (bA (dh O (aJ O (aT O (tQ ?_)))));exact⟨(i+1,cu),by show b - (i+1)<b - i;omega,(alH O),by show a+1<=i+1;omega,iy,hI.stop (.inr (Int.not_lt.1 fun h=>h2 (yb.2 h))),fun x hx=>Jh x (by have hx:i+1<=x:=hx;omega),fun x y h3 h4 h5 h6=>by { have h4:x<i+1:=h4;have h5:i+1<=y:=h5;by_cases e:x=j; { rw [e,kj];exact yl i y (by omega) (by omega) h6 }; { exact DL x y h3 (by omega) e (by omega) h6 } },aM⟩
  refine eB [xI ((j:Int)),xI ((a:Int)),xB (decide (((a:Int))< ((j:Int)))),xB (false),xU,xU,xU,xU,xU,xU,xU,xU,xU,xU,xU,xU,xB (false)] O (eQ O) ?_ ?_
  ·exact⟨Dr O,Dr O,Dr O,fun _ _ _ _ _=>Dk O (by exact aK Value.bool (dk (by omega))),Dr O,Dr O,Dr O,Dr O,Dr O,Dr O,Dr O,Dr O,Dr O,Dr O,Dr O,Dr O,Dr O,av⟩
  intro u w3 ib _;have aM:=aD.aq ib;refine fh O (Cd.gq O ?_);refine bw O (bA (dh O (aJ O (aT O (tQ ?_)))));exact⟨(i+1,cu),by show b - (i+1)<b - i;omega,(alH O),by show a+1<=i+1;omega,iy,hI.stop (.inl (by omega)),fun x hx=>Jh x (by have hx:i+1<=x:=hx;omega),fun x y h3 h4 h5 h6=>by { have h4:x<i+1:=h4;have h5:i+1<=y:=h5;by_cases e:x=j; { rw [e,kj];exact yl i y (by omega) (by omega) h6 }; { exact DL x y h3 (by omega) e (by omega) h6 } },aM⟩
 refine bw O (bA (EE O ?_));exact yK ⟨O,cur,hp,hs.sub (bB _) (by omega),aE⟩
end Go.Proofs.YtopgfgdgfjddpaaGreatDoor.Vc.TS
namespace Go.Proofs.YtopgfgdgfjddpaaGreatDoor.Vc
open TS Tryz
def qi(m1 m2:Nat)(kind:Int)(a b:Int):Prop:=
 if kind=1 then(a=0\/b=0\/(a=(m1:Int) - 1/\b=(m2:Int) - 1))else if kind=2 then(a=(m1:Int) - 1\/b=(m2:Int) - 1\/(a=0/\b=0))else((a=0/\b=0)\/(a=(m1:Int) - 1/\b=(m2:Int) - 1))
instance (m1 m2:Nat)(kind a b:Int):Decidable (qi m1 m2 kind a b):=by unfold qi;infer_instance
def wv(m1 m2:Nat)(kind:Int)(a:Int)(b:Nat):List (Int×Int):=((bN b).filter fun b=>decide (¬qi m1 m2 kind a b)).map fun b=> (a,b)
def gY(m1 m2:Nat)(kind:Int)(a b:Nat):List (Int×Int):=(bN a).flatMap (fun a=>wv m1 m2 kind a m2)++wv m1 m2 kind a b
def sk(rk1 rk2:Int->Int)(kind:Int)(c:Int×Int):TV:=⟨c.1,c.2,cS rk1 rk2 kind c⟩
section
variable {m1 m2:Nat} {kind:Int} {n1 n2:Int} {rk1 rk2:Int->Int} {cO cL:Int->Int->Prop}
theorem v8(n:Nat):bN (n+1)=bN n++ [(n:Int)]:=by
 unfold bN;rw [nZ,jm];rfl
theorem Hw(a:Int):wv m1 m2 kind a 0=[]:=rfl
theorem Ku(a:Nat):gY m1 m2 kind (a+1) 0=gY m1 m2 kind a m2:=by
 unfold gY;rw [v8,List.flatMap_append,Hw,eu];simp
theorem YK{a b:Nat}(h:¬qi m1 m2 kind a b):gY m1 m2 kind a (b+1)=gY m1 m2 kind a b++ [((a:Int),(b:Int))]:=by
 unfold gY wv;rw [v8,oR,jm,gN];simp [h]
theorem YL{a b:Nat}(h:qi m1 m2 kind a b):gY m1 m2 kind a (b+1)=gY m1 m2 kind a b:=by
 unfold gY wv;rw [v8,oR,jm];simp [h]
theorem P9(a:Int)(b:Nat):(wv m1 m2 kind a b).length<=b:=by
 unfold wv;rw [fj];refine l5 (rD _ _) ?_;rw [bN,fj,qE];exact bB _
theorem P8:∀a b:Nat,b<=m2->(gY m1 m2 kind a b).length<=a*m2+b:=by
 intro a
 induction a with
 | zero=>intro b hb;have:=P9 (m1:=m1) (m2:=m2) (kind:=kind) ((0:Nat):Int) b;simpa [gY,bN]using this
 | succ a ih=>
  intro b hb;have h1:=ih m2 (bB _);rw [<-Ku]at h1;have h2:=P9 (m1:=m1) (m2:=m2) (kind:=kind) ((a+1:Nat):Int) b;unfold gY at h1|-;rw [Hw,eu]at h1;rw [dI,Nat.succ_mul];omega
theorem Ks{c:Int×Int}:c∈gY m1 m2 kind m1 0↔(0<=c.1/\c.1<m1)/\(0<=c.2/\c.2<m2)/\¬qi m1 m2 kind c.1 c.2:=by
 unfold gY;rw [Hw,eu,List.mem_flatMap];unfold wv;constructor
 ·rintro⟨a,ha,h⟩;obtain⟨b,hb,rfl⟩:=dv.1 h;rw [fU,fM,kz]at hb;exact⟨(fM _ _).1 ha,hb.1,hb.2⟩
 rintro⟨h1,h2,h3⟩;exact⟨c.1,(fM _ _).2 h1,dv.2 ⟨c.2,fU.2 ⟨(fM _ _).2 h2,eP h3⟩,O⟩⟩
theorem Kt(h:m2<=1000):(gY m1 m2 kind m1 0).Pairwise fun c d=>c.1*1000+c.2<d.1*1000+d.2:=by
 unfold gY;rw [Hw,eu];refine List.pairwise_flatMap.2 ⟨fun a _=>?_,(lh m1).imp_of_mem fun {a a'} ha S1 gB x hx y hy=>?_⟩
 ·unfold wv;refine nB.2 (((lh m2).filter _).imp fun h=>?_);show a*1000+_<a*1000+_;omega
 unfold wv at hx hy;obtain⟨b,hb,rfl⟩:=dv.1 hx;obtain⟨b',uP,rfl⟩:=dv.1 hy;have h1:=(fM _ _).1 (fU.1 hb).1;have h2:=(fM _ _).1 (fU.1 uP).1;show a*1000+b<a'*1000+b';omega
theorem Vh(h1:eY m1 n1 rk1 cO)(h2:eY m2 n2 rk2 cL)(hk:0<=kind/\kind<=2){k:Nat}(hn:(k:Int)=fT n1 n2 kind){c:Int×Int}:((0<=c.1/\c.1<m1)/\(0<=c.2/\c.2<m2)/\¬qi m1 m2 kind c.1 c.2)↔∃i:Nat,i<k/\jJ m1 m2 rk1 rk2 kind i c:=by
 have z1:=h1.r0;have z2:=h2.r0;have t1:=h1.rt;have t2:=h2.rt;have w1:=h1.two;have w2:=h2.two;have m1n:=h1.n0;have m2n:=h2.n0;obtain⟨a,b⟩:=c;show((0<=a/\a<m1)/\(0<=b/\b<m2)/\¬qi m1 m2 kind a b)↔∃i:Nat,i<k/\(0<=a/\a<m1)/\(0<=b/\b<m2)/\rk1 a+rk2 b+fC kind=i/\¬((kind=1/\(a=0\/b=0))\/(kind=2/\(a=(m1:Int) - 1\/b=(m2:Int) - 1)));unfold fT at hn;constructor
 ·rintro⟨ha,hb,hl⟩;have ra:=h1.dp ha;have rb:=h2.dp hb;have za:=fun h=>h1.zero ha h;have zb:=fun h=>h2.zero hb h
  have ta:=fun h=>h1.whole ha h;have tb:=fun h=>h2.whole hb h
  unfold qi at hl;unfold fC
  by_cases k1:kind=1
  ·rw [ay k1]at hl;rw [aw (by omega)]at hn;refine⟨(rk1 a+rk2 b).toNat,?_,ha,hb,?_,by omega⟩
   ·have:¬(rk1 a=n1/\rk2 b=n2):=fun h=>hl (.inr (.inr ⟨ta h.1,tb h.2⟩))
    omega
   rw [ay k1];have:rk1 a≠ -1:=fun h=>hl (.inl (za h))
   have:rk2 b≠ -1:=fun h=>hl (.inr (.inl (zb h)))
   omega
  rw [aw k1]at hl|-
  by_cases k2:kind=2
  ·rw [ay k2]at hl;rw [aw (by omega)]at hn;have q1:rk1 a≠n1:=fun h=>hl (.inl (ta h))
   have q2:rk2 b≠n2:=fun h=>hl (.inr (.inl (tb h)))
   have q3:¬(rk1 a= -1/\rk2 b= -1):=fun h=>hl (.inr (.inr ⟨za h.1,zb h.2⟩))
   exact⟨(rk1 a+rk2 b+1).toNat,by omega,ha,hb,by omega,by omega⟩
  rw [aw k2]at hl;rw [ay (by omega)]at hn;have q3:¬(rk1 a= -1/\rk2 b= -1):=fun h=>hl (.inl ⟨za h.1,zb h.2⟩)
  have q4:¬(rk1 a=n1/\rk2 b=n2):=fun h=>hl (.inr ⟨ta h.1,tb h.2⟩)
  exact⟨(rk1 a+rk2 b+1).toNat,by omega,ha,hb,by omega,by omega⟩
 rintro⟨i,hi,ha,hb,hr,he⟩;refine⟨ha,hb,fun hl=>?_⟩;have ra:=h1.dp ha;have rb:=h2.dp hb;unfold fC at hr;unfold qi at hl
 by_cases k1:kind=1
 ·rw [ay k1]at hl hr;rw [aw (by omega)]at hn;rcases hl with h | h | ⟨h,h'⟩
  ·exact he (.inl ⟨k1,.inl h⟩)
  ·exact he (.inl ⟨k1,.inr h⟩)
  rw [h,h',t1,t2]at hr;omega
 rw [aw k1]at hl hr
 by_cases k2:kind=2
 ·rw [ay k2]at hl;rcases hl with h | h | ⟨h,h'⟩
  ·exact he (.inr ⟨k2,.inl h⟩)
  ·exact he (.inr ⟨k2,.inr h⟩)
  rw [h,h',z1,z2]at hr;omega
 rw [aw k2]at hl;rw [ay (by omega)]at hn;rcases hl with⟨h,h'⟩ | ⟨h,h'⟩
 ·rw [h,h',z1,z2]at hr;omega
 rw [h,h',t1,t2]at hr;omega
end
theorem VV{α:Type}(k:α->Int):∀ {l' l:List α},l.Perm l'->l.Pairwise (fun x y=>k x<=k y)->l'.Pairwise (fun x y=>k x<k y)->l=l'
 | [],l,h,_,_=>h.eq_nil
 | b::r',l,h,h1,h2=>by
  cases l with
  | nil=>exact absurd h.symm.eq_nil (by simp)
  | cons a r=>
   have eG:a=b:=by
    have ha:a∈b::r':=h.subset (List.mem_cons_self ..);have hb:b∈a::r:=h.symm.subset (List.mem_cons_self ..);rcases jn.1 ha with e | e
    ·exact e
    ·have h3:=(List.pairwise_cons.1 h2).1 a e;rcases jn.1 hb with e' | e'
     ·exact e'.symm
     ·have h4:=(List.pairwise_cons.1 h1).1 b e';omega
   subst eG;rw [VV k (h.cons_inv) (List.pairwise_cons.1 h1).2 (List.pairwise_cons.1 h2).2]
theorem ahv{m1 m2:Nat}{rk1 rk2:Int->Int}{kind:Int}{i:Int}(h:m2<=1000):(v7 m1 m2 rk1 rk2 kind i).Pairwise fun c d=>c.1*1000+c.2<d.1*1000+d.2:=by
 unfold v7;refine List.pairwise_flatMap.2 ⟨fun a _=>?_,(lh m1).imp_of_mem fun {a a'} ha S1 gB x hx y hy=>?_⟩
 ·refine nB.2 (((lh m2).filter _).imp fun h=>?_);show a*1000+_<a*1000+_;omega
 obtain⟨b,hb,rfl⟩:=dv.1 hx;obtain⟨b',uP,rfl⟩:=dv.1 hy;have h1:=(fM _ _).1 (fU.1 hb).1;have h2:=(fM _ _).1 (fU.1 uP).1;show a*1000+b<a'*1000+b';omega
theorem Wb{m1 m2:Nat}{rk1 rk2:Int->Int}{kind:Int}(h:m2<=1000)(h1:m1<=1000):∀k:Nat,((cg m1 m2 rk1 rk2 kind k).map (sk rk1 rk2 kind)).Pairwise fun x y=>kT x<kT y
 | 0=>List.Pairwise.nil
 | k+1=>by
  rw [cg,jm,List.pairwise_append];refine⟨Wb h h1 k,nB.2 ((ahv h).imp_of_mem fun {c d} hc hd gB=>?_),fun x hx y hy=>?_⟩
  ·have e1:=(xh.1 hc).2.2.1;have e2:=(xh.1 hd).2.2.1;show(cS rk1 rk2 kind c)*1000000+ (c.1*1000+c.2)< (cS rk1 rk2 kind d)*1000000+ (d.1*1000+d.2);omega
  ·obtain⟨c,hc,rfl⟩:=dv.1 hx;obtain⟨d,hd,rfl⟩:=dv.1 hy;obtain⟨i,hi,hc⟩:=ru.1 hc;have hd:=xh.1 hd;have e1:=hc.2.2.1;have e2:=hd.2.2.1;have:=hc.1;have:=hc.2.1;have:=hd.1;have:=hd.2.1;show(cS rk1 rk2 kind c)*1000000+ (c.1*1000+c.2)< (cS rk1 rk2 kind d)*1000000+ (d.1*1000+d.2);omega
theorem YJ{m1 m2:Nat}{kind:Int}{n1 n2:Int}{rk1 rk2:Int->Int}{cO cL:Int->Int->Prop}(h1:eY m1 n1 rk1 cO)(h2:eY m2 n2 rk2 cL)(hk:0<=kind/\kind<=2){k:Nat}(hn:(k:Int)=fT n1 n2 kind)(qW:m2<=1000):(gY m1 m2 kind m1 0).Perm (cg m1 m2 rk1 rk2 kind k):=by
 refine(rE ?_ (Cw k)).2 fun c=>?_
 ·exact(Kt qW).imp fun h e=>by rw [e]at h;omega
 rw [Ks,ru];exact Vh h1 h2 hk hn
theorem aiW(f:Int×Int->TV)(L:List (Int×Int)){i:Nat}(h:i<L.length):tg (L.map f) i=f (gp L i):=by
 rw [qM h];unfold tg;rw [gI,dd,gO (by simpa using h),Option.getD_some,List.getElem_map]
theorem aiX(L:List TV){i j:Nat}(h:j<i)(hi:i<=L.length):tg (L.take i) j=tg L j:=by
 unfold tg;rw [gI,dd,dd,List.getElem?_take_of_lt h]
theorem aiJ{m1 m2:Nat}{kind:Int}{n1 n2:Int}{rk1 rk2:Int->Int}{cO cL:Int->Int->Prop}(h1:eY m1 n1 rk1 cO)(h2:eY m2 n2 rk2 cL)(hk:0<=kind/\kind<=2){k:Nat}(hn:(k:Int)=fT n1 n2 kind)(zT:m1<=1000)(qW:m2<=1000){ds:List TV}(hp:ds.Perm ((gY m1 m2 kind m1 0).map (sk rk1 rk2 kind)))(hs:SR kT ds 0 ds.length):ds=(cg m1 m2 rk1 rk2 kind k).map (sk rk1 rk2 kind):=by
 have hP:(gY m1 m2 kind m1 0).Perm (cg m1 m2 rk1 rk2 kind k):=by
  refine(rE ?_ (Cw k)).2 fun c=>?_
  ·exact(Kt qW).imp fun h e=>by rw [e]at h;omega
  rw [Ks,ru];exact Vh h1 h2 hk hn
 refine VV kT (hp.trans (hP.map _)) ?_ (Wb qW zT k);refine List.pairwise_iff_getElem.2 fun i j hi hj iJ=>?_
 have:=hs i j (bm _) iJ hj
 rwa [tx hi,tx hj]at this
theorem YI(m1 m2:Nat)(kind:Int)(rk1 rk2:Int->Int)(zT:m1<=1000)(qW:m2<=1000):(∀s∈(gY m1 m2 kind m1 0).map (sk rk1 rk2 kind),qG s)/\∀x y,x<y->y< ((gY m1 m2 kind m1 0).map (sk rk1 rk2 kind)).length->nq (gs ((gY m1 m2 kind m1 0).map (sk rk1 rk2 kind)) x)<nq (gs ((gY m1 m2 kind m1 0).map (sk rk1 rk2 kind)) y):=by
 constructor
 ·intro s hs;obtain⟨c,hc,rfl⟩:=dv.1 hs;have:=Ks.1 hc;show(0<=c.1/\c.1<1000)/\0<=c.2/\c.2<1000;omega
 intro x y jT hy;rw [tx (by omega),tx hy,List.getElem_map,List.getElem_map];rw [fj]at hy;exact List.pairwise_iff_getElem.1 (Kt (m1:=m1) (kind:=kind) qW) x y (by omega) hy jT
end Go.Proofs.YtopgfgdgfjddpaaGreatDoor.Vc
namespace Go.Proofs.YtopgfgdgfjddpaaGreatDoor.Vc
open Tryz
def CL(m:Nat)(n:Int)(rk:Int->Int)(gx:Int->Int->Prop):Prop:=∃z:Int->Int,∀i:Int,-1<=i->i<=n->(0<=z i/\z i<m)/\rk (z i)=i/\∀j:Int,i<=j->j<=n->gx (z i) (z j)
theorem C7{n:Nat}{R:ai}{B:ah}(h:gE n R B)(hf:aC n R B≠[]):CL (R.length+2) n (gi (eS n R)) (dJ R.length B):=by
 have hn:=h.n1;have vN:1<=n:=by omega
 obtain⟨x,hx⟩:=List.exists_mem_of_ne_nil _ hf;obtain⟨hl,ha,hb⟩:=(nh vN).1 hx;have eG:∀i j:Nat,i<j->j<n->gi x i∈gl B (gi x j):=by
  intro i j iJ
  induction j with
  | zero=>omega
  | succ j ih=>
   intro hj;have h1:=hb j (by omega)
   by_cases e:i=j
   ·subst e;exact h1
   ·have h2:=ih (by omega) (by omega);have h3:=ha (j+1) (by omega);exact(h.at_ (e:=gi x ((j+1:Nat):Int)) h3.1.1 h3.1.2).2.2 _ h1 _ h2
 have key:∀i:Int,0<=i->i<n->0<=gi x i/\gi x i<R.length/\gi R (gi x i)=i:=fun i h0 h1=>by
  obtain⟨k,rfl⟩:∃k:Nat,i=k:=⟨i.toNat,by omega⟩;have:=ha k (by omega);exact⟨this.1.1,this.1.2,this.2⟩
 have rZ:∀i j:Int,0<=i->i<j->j<n->gi x i∈gl B (gi x j):=fun i j h0 h1 h2=>by
  obtain⟨k,rfl⟩:∃k:Nat,i=k:=⟨i.toNat,by omega⟩;obtain⟨q,rfl⟩:∃q:Nat,j=q:=⟨j.toNat,by omega⟩;exact eG k q (by omega) (by omega)
 refine⟨fun i=>if i<0 then 0 else if i<n then gi x i+1 else(R.length:Int)+1,fun i h0 h1=>?_⟩
 by_cases c0:i<0
 ·have e:i= -1:=by omega
  subst e;refine⟨by show(0:Int)<=(if(-1:Int)<0 then 0 else _)/\(if(-1:Int)<0 then 0 else _)<_;rw [ay (by omega)];omega,by show gi _ (if(-1:Int)<0 then 0 else _)=_;rw [ay (by omega)];rfl,fun j _ _=>by show dJ _ _ (if(-1:Int)<0 then 0 else _) _;rw [ay (by omega)];exact .inr (.inl O)⟩
 by_cases c1:i<n
 ·have hk:=key i (by omega) c1;have hz:(if i<0 then 0 else if i<n then gi x i+1 else(R.length:Int)+1)=gi x i+1:=by rw [aw c0,ay c1]
  refine⟨by show(0:Int)<=(if i<0 then 0 else if i<n then gi x i+1 else(R.length:Int)+1)/\(if i<0 then 0 else if i<n then gi x i+1 else(R.length:Int)+1)<_;rw [hz];omega,by show gi _ (if i<0 then 0 else if i<n then gi x i+1 else(R.length:Int)+1)=_;rw [hz,uE _ _ (by omega) (by omega),Int.add_sub_cancel];exact hk.2.2,fun j hj oD=>?_⟩;show dJ _ _ (if i<0 then 0 else if i<n then gi x i+1 else(R.length:Int)+1) (if j<0 then 0 else if j<n then gi x j+1 else(R.length:Int)+1);rw [hz,aw (by omega)]
  by_cases c2:j<n
  ·rw [ay c2]
   by_cases e:i=j
   ·subst e;exact .inl rfl
   ·have gW:=key j (by omega) c2;exact .inr (.inr (.inr ⟨by omega,by omega,by omega,by omega,by rw [Int.add_sub_cancel,Int.add_sub_cancel];exact rZ i j (by omega) (by omega) c2⟩))
  ·rw [aw c2];exact .inr (.inr (.inl rfl))
 ·have e:i=n:=by omega
  have hz:(if i<0 then 0 else if i<n then gi x i+1 else(R.length:Int)+1)=(R.length:Int)+1:=by rw [aw c0,aw c1]
  refine⟨by show(0:Int)<=(if i<0 then 0 else if i<n then gi x i+1 else(R.length:Int)+1)/\(if i<0 then 0 else if i<n then gi x i+1 else(R.length:Int)+1)<_;rw [hz];omega,by show gi _ (if i<0 then 0 else if i<n then gi x i+1 else(R.length:Int)+1)=_;rw [hz,xK];exact e.symm,fun j hj oD=>?_⟩;obtain rfl:j=i:=by omega
  exact .inl O
theorem QD:CL 2 0 (gi [-1,0]) (dJ 0 []):=⟨fun i=>i+1,fun i h0 h1=>by
 rcases(show i= -1\/i=0 by omega)with rfl | rfl
 ·exact⟨by show(0:Int)<= -1+1/\(-1:Int)+1<_;omega,O,fun j _ _=> .inr (.inl O)⟩
 exact⟨by show(0:Int)<=0+1/\(0:Int)+1<_;omega,rfl,fun j _ _=>by obtain rfl:j=0:=(by omega);exact .inl rfl⟩⟩
section
variable {m1 m2:Nat} {n1 n2:Int} {rk1 rk2:Int->Int} {cO cL:Int->Int->Prop} [DecidableRel cO] [DecidableRel cL] {kind:Int}
theorem Ot(h1:eY m1 n1 rk1 cO)(h2:eY m2 n2 rk2 cL)(c1:CL m1 n1 rk1 cO)(c2:CL m2 n2 rk2 cL)(nj:0<=kind/\kind<=2){k:Nat}(hk:(k:Int)=fT n1 n2 kind)(fv:1<=k)(yj:1<=n1/\(1<=n2\/kind=0)):
 aC k ((cg m1 m2 rk1 rk2 kind k).map (cS rk1 rk2 kind)) (oJ cO cL (cg m1 m2 rk1 rk2 kind k))≠[]:=by
 obtain⟨z1,Jl⟩:=c1;obtain⟨z2,Uz⟩:=c2;have vN:=h1.n0;have B0:=h2.n0;have r10:=h1.r0;have r1t:=h1.rt;have r20:=h2.r0;have r2t:=h2.rt;obtain⟨t,ht⟩:∃t:Int,t=if kind=2 then n1 - 1 else n1:=⟨_,rfl⟩
 obtain⟨s,hs⟩:∃s:Int,s=if kind=1 then 0 else -1:=⟨_,rfl⟩
 obtain⟨p,hpd⟩:∃p:Nat->Int,p=fun i:Nat=>if(i:Int)<=t then(i:Int)else t:=⟨_,rfl⟩
 obtain⟨q,M9⟩:∃q:Nat->Int,q=fun i:Nat=>if(i:Int)<=t then s else s+ ((i:Int) - t):=⟨_,rfl⟩
 have hp:∀i:Nat,p i=if(i:Int)<=t then(i:Int)else t:=fun i=>by rw [hpd]
 have hq:∀i:Nat,q i=if(i:Int)<=t then s else s+ ((i:Int) - t):=fun i=>by rw [M9]
 have tO:∀i:Nat,i<k->(-1<=p i/\p i<=n1)/\(-1<=q i/\q i<=n2)/\p i+q i+fC kind=i/\(kind=1->0<=p i/\0<=q i)/\(kind=2->p i<n1/\q i<n2):=fun i hi=>by
  rw [hp,hq];rcases(show kind=0\/kind=1\/kind=2 by omega)with rfl | rfl | rfl
  ·simp only [fT,ay]at hk;simp only [fC]at*;simp at ht hs
   split<;>simp<;>omega
  ·simp only [fT]at hk;simp only [fC]at*;simp at ht hs hk
   split<;>simp<;>omega
  simp only [fT]at hk;simp only [fC]at*;simp at ht hs hk
  split<;>simp<;>omega
 have tM:∀i:Nat,p i<=p (i+1)/\q i<=q (i+1):=fun i=>by
  rw [hp,hq,hp,hq]
  split<;>split<;>omega
 have kj:∀i:Nat,i<k->jJ m1 m2 rk1 rk2 kind i (z1 (p i),z2 (q i)):=fun i hi=>by
  have h:=tO i hi;have a:=Jl (p i) h.1.1 h.1.2;have b:=Uz (q i) h.2.1.1 h.2.1.2;refine⟨a.1,b.1,by show rk1 (z1 (p i))+rk2 (z2 (q i))+fC kind=i;rw [a.2.1,b.2.1];exact h.2.2.1,fun hx=>?_⟩;rcases hx with⟨k1,e | e⟩ | ⟨k2,e | e⟩
  ·have e:z1 (p i)=0:=e;have:=a.2.1;rw [e,r10]at this;have:=(h.2.2.2.1 k1).1;omega
  ·have e:z2 (q i)=0:=e;have:=b.2.1;rw [e,r20]at this;have:=(h.2.2.2.1 k1).2;omega
  ·have e:z1 (p i)=(m1:Int) - 1:=e;have:=a.2.1;rw [e,r1t]at this;have:=(h.2.2.2.2 k2).1;omega
  have e:z2 (q i)=(m2:Int) - 1:=e;have:=b.2.1;rw [e,r2t]at this;have:=(h.2.2.2.2 k2).2;omega
 have hex:∀i:Nat,∃e:Int,i<k->(0<=e/\e< (cg m1 m2 rk1 rk2 kind k).length)/\gp (cg m1 m2 rk1 rk2 kind k) e=(z1 (p i),z2 (q i)):=fun i=>by
  by_cases hi:i<k
  ·obtain⟨e,h,h'⟩:=K6 hi (kj i hi);exact⟨e,fun _=> ⟨h,h'⟩⟩
  exact⟨0,fun h=>absurd h hi⟩
 obtain⟨E,hE⟩:=Classical.axiomOfChoice hex;have hE:∀i:Nat,i<k->(0<=E i/\E i< (cg m1 m2 rk1 rk2 kind k).length)/\gp (cg m1 m2 rk1 rk2 kind k) (E i)=(z1 (p i),z2 (q i)):=hE;have gw:∀i:Nat,i<k->gi ((List.range k).map E) i=E i:=fun i hi=>by
  rw [cd (by simpa using hi),List.getElem_map,List.getElem_range]
 have hm:(List.range k).map E∈aC k ((cg m1 m2 rk1 rk2 kind k).map (cS rk1 rk2 kind)) (oJ cO cL (cg m1 m2 rk1 rk2 kind k)):=by
  refine(nh fv).2 ⟨by simp,fun i hi=>?_,fun i hi=>?_⟩
  ·rw [gw i hi,fj];have h:=hE i hi;refine⟨h.1,?_⟩;rw [yG h.1.1 h.1.2,h.2];exact(kj i hi).2.2.1
  rw [gw i (by omega),gw (i+1) hi];have h:=hE i (by omega);have h':=hE (i+1) hi;rw [u9 h'.1.1 h'.1.2,tZ h1 h2 h'.1];have b0:=tO i (by omega);have b1:=tO (i+1) hi;have hm:=tM i;refine⟨h.1,fun e=>?_,?_,?_⟩
  ·have e2:=h'.2;rw [<-e,h.2]at e2;have r1:=(kj i (by omega)).2.2.1;have r2:=(kj (i+1) hi).2.2.1;rw [e2,r2]at r1;omega
  ·rw [h.2,h'.2];exact(Jl (p i) b0.1.1 b0.1.2).2.2 (p (i+1)) hm.1 b1.1.2
  rw [h.2,h'.2];exact(Uz (q i) b0.2.1.1 b0.2.1.2).2.2 (q (i+1)) hm.2 b1.2.1.2
 intro h;rw [h]at hm;cases hm
end
end Go.Proofs.YtopgfgdgfjddpaaGreatDoor.Vc
namespace Go.Proofs.YtopgfgdgfjddpaaGreatDoor.Vc
open Go.RowKit Go.MapKept Tryz
structure vc{κ:Type}(d:TypeDesc)(kv:κ->ad):Prop where
 isKey:∀a,IsKey d (kv a)
 inj:∀a b,kv a=kv b->a=b
theorem UU:vc .string Value.string:=⟨fun _=>av,fun a b h=>by injection h⟩
section
variable {κ ν:Type} [DecidableEq κ]
def gy:List (κ×ν)->κ->Option ν
 | [],_=>none
 | (y,v)::r,x=>if y=x then some v else gy r x
def km:List (κ×ν)->κ->ν->List (κ×ν)
 | [],x,v=> [(x,v)]
 | (y,u)::r,x,v=>if y=x then(x,v)::r else(y,u)::km r x v
def pI:List (κ×ν)->κ->Option (Nat×ν)
 | [],_=>none
 | (y,v)::r,x=>if y=x then some (0,v)else(pI r x).map fun p=> (p.1+1,p.2)
theorem RC:∀(L:List (κ×ν)) (x:κ),gy L x=(pI L x).map (·.2)
 | [],_=>rfl
 | (y,v)::r,x=>by
  simp only [gy,pI]
  split
  ·rfl
  ·rw [RC r x,Option.map_map];rfl
theorem RE:∀ {L:List (κ×ν)} {x:κ} {j:Nat} {v:ν},pI L x=some (j,v)->L[j]?=some (x,v)/\∀u,km L x u=L.set j (x,u)
 | (y,w)::r,x,j,v,h=>by
  simp only [pI]at h
  split at h
  ·rename_i e;simp only [qo,Prod.mk.injEq]at h;obtain⟨rfl,rfl⟩:=h;subst e;exact⟨O,fun u=>by simp [km]⟩
  ·rename_i e;cases hf:pI r x with
   | none=>simp [hf]at h
   | some p=>
    simp only [hf,Option.map_some,qo,Prod.mk.injEq]at h;obtain⟨rfl,rfl⟩:=h;obtain⟨h1,h2⟩:=RE (L:=r) (x:=x) (j:=p.1) (v:=p.2) hf;exact⟨by simpa using h1,fun u=>by simp only [km,aw e,h2 u,List.set_cons_succ]⟩
theorem RD:∀ {L:List (κ×ν)} {x:κ},pI L x=none->∀u,km L x u=L++ [(x,u)]
 | [],x,_,u=>rfl
 | (y,w)::r,x,h,u=>by
  simp only [pI]at h
  split at h
  ·cases h
  ·rename_i e;rw [Option.map_eq_none_iff]at h;simp only [km,aw e,RD h u,List.cons_append]
theorem Lr(L:List (κ×ν))(x y:κ)(u:ν):gy (km L x u) y=if x=y then some u else gy L y:=by
 induction L with
 | nil=>simp only [km,gy]
 | cons p r ih=>
  obtain⟨z,w⟩:=p;simp only [km]
  by_cases e:z=x
  ·subst e;rw [ay rfl];simp only [gy]
   split<;>simp_all
  ·rw [aw e];simp only [gy,ih]
   by_cases e2:z=y
   ·subst e2;rw [ay rfl,aw (fun h=>e h.symm),ay rfl]
   ·rw [aw e2,aw e2]
def kJ(kv:κ->ad)(vv:ν->ad)(L:List (κ×ν)):List (ad×ad):=L.map fun p=> (kv p.1,vv p.2)
theorem HX{d:TypeDesc}{kv:κ->ad}{vv:ν->ad}(K:vc d kv)(x:κ):∀(l:List MapEntry) (L:List (κ×ν)) (i:Nat),l.map (fun e=> (e.key,e.val))=kJ kv vv L->Instr.findNow d (kv x) l i=some ((pI L x).map fun p=> (i+p.1,vv p.2))
 | [],[],_,_=>rfl
 | [],_::_,_,h=>by simp [kJ]at h
 | _::_,[],_,h=>by simp [kJ]at h
 | e::l,(y,v)::L,i,h=>by
  simp only [kJ,List.map_cons,List.cons.injEq,Prod.mk.injEq]at h;obtain⟨⟨h1,h2⟩,h3⟩:=h;obtain⟨r,hr,F0⟩:=sameNow_of_keys (K.isKey x) (K.isKey y);simp only [Instr.findNow,pI];rw [h1,hr];cases r with
  | true=>
   have e1:=K.inj _ _ (F0.1 O);subst e1;simp [h2]
  | false=>
   have bt:¬y=x:=fun q=>by
    have:=F0.2 (by rw [q]);cases this
   rw [aw bt];simp only;rw [HX K x l L (i+1) h3,Option.map_map]
   congr 2
   funext p;simp only [Function.comp];rw [Nat.add_assoc,Nat.add_comm 1]
end
def lZ(t:ae)(g:Nat)(vV:List (ad×ad)):Ck:=⟨some ⟨g,0,none⟩,0,0,t,.tuple #[]::wE vV⟩
def CR(w:aa)(g:Nat)(vV:List (ad×ad)):Prop:=∃es cl,w.heap[g]?=some (.map es cl)/\es.toList.map (fun e=> (e.key,e.val))=vV
section
variable {w0 w w':aa} {ks:List Ck} {t:ae} {g:Nat} {vV:List (ad×ad)}
theorem St.JE(h:St w0 w ks)(i:Nat)(hk:ks[i]?=some (lZ t g vV)):w0.heap.size<=g/\CR w g vV:=by
 rcases(h.get hk).cases with⟨_,_,_,g',es,cl,hA,hg,hh,hv⟩ | ⟨hm,_⟩
 ·have hA:some (⟨g,0,Option.none⟩:Addr)=some ⟨g',0,Option.none⟩:=hA;simp only [qo,Addr.mk.injEq,and_true]at hA;subst hA;have hv:(.tuple #[]::wE vV:List ad)= .tuple #[]::wE (es.toList.map fun e=> (e.key,e.val)):=hv;simp only [List.cons.injEq,true_and]at hv;exact⟨hg,es,cl,hh,(Rw hv).symm⟩
 cases hm
theorem St.JM(h:St w0 w ks)(i:Nat)(hk:ks[i]?=some (lZ t g vV)):CR w g vV:=(h.JE i hk).2
theorem St.YS(h:St w0 w ks)(t:ae):St w0 (w.alloc (.map #[] 0)) (lZ t w.heap.size []::ks):=by
 have hb:Below w.heap.size w (w.alloc (.map #[] 0)):=(Below.refl _ _).alloc (bB _) _;have h1:=h.aq hb;refine⟨h1.below,fun k hk=>?_,?_⟩
 ·rcases jn.1 hk with rfl | hk
  ·exact .ofM O ⟨O,O,_, #[],0,O,h.below.size,heap_alloc_new w _,O⟩
  exact h1.own k hk
 simp only [List.filterMap_cons,lZ,Ck.iX,Option.map_some,oS];refine⟨fun db=>?_,h.apart⟩;obtain⟨k',eM,yg⟩:=List.mem_filterMap.1 db;have:=((h.own k' eM).lt yg).2;omega
theorem St.J1{i:Nat}{NJ:List (ad×ad)}{Lc:Array MapEntry}{QE:Nat}(h:St w0 w ks)(hk:ks[i]?=some (lZ t g vV))(hv:Lc.toList.map (fun e=> (e.key,e.val))=NJ):St w0 { w with heap:=w.heap.setIfInBounds g (.map Lc QE) } (ks.set i (lZ t g NJ)):=by
 obtain⟨hg,es,cl,hh,_⟩:=h.JE i hk;refine h.turn (k:=lZ t g vV) (k':=lZ t g NJ) (g:=g) hk O O ⟨⟨O,O,O,by simp,fun x _ hx=>?_⟩,bB _⟩ ?_
 ·exact(heap_set hh).2 x fun e=>hx (by rw [e])
 refine .ofM O ⟨O,O,g,Lc,QE,O,hg,(heap_set hh).1,?_⟩;rw [hv];rfl
end
section
variable{t kt et T:ae}{b:Nat}{ix x:ag}
variable {P:Program} {N:Nat} {ops:Array Oper} {K:Env->aa->Prop} {rest:List Oper} {e:Env} {w0 w w':aa} {ks:List Ck} {d:Nat} {ty:ae} {pos:String} {af:Array Edge}
variable {κ ν:Type} [DecidableEq κ] {kd:TypeDesc} {kv:κ->ad} {vv:ν->ad}
theorem Kk(hS:St w0 w ks)(hb:Nat.blt d N=true)(hK:∀g w',St w0 w' (lZ t g []::ks)->ao P N ops K rest (bG e d (.map (some g))) w'):
 ao P N ops K (⟨some d,.makeMap t none,ty,pos,af,none⟩::rest) e w:=
 .val (w':=w.alloc (.map #[] 0)) (by simp [execOp,run_makeMap]) hb (hK _ _ (hS.YS t))
theorem OK{z:ad}{s:Nat}[hU:bV P t (.map kt et)][hk:bV P kt kd][bR P et z s b](KT:vc kd kv){g:Nat}{L:List (κ×ν)}{x:κ}(hR:CR w g (kJ kv vv L))(ok:Bool):
 (Instr.lookup t (.map (some g)) (kv x) ok).run P w= .ok (if ok then .tuple #[((gy L x).map vv).getD z,.bool (gy L x).isSome]else((gy L x).map vv).getD z) w:=by
 obtain⟨es,cl,hh,hm⟩:=hR;obtain⟨inf,hi,fS,_,_⟩:=bR.get P et;have hf:=HX (vv:=vv) KT x es.toList L 0 hm;rw [RC];unfold Instr.lookup;simp only [Sem.run_bind,run_underlying hU.out,Result.andThen,MapKept.run_getObj_map hh,MapKept.run_checkKey hk.out (KT.isKey x)];cases mH:pI L x with
 | none=>
  rw [mH]at hf;have yd:=MapKept.run_findKey (P:=P) (w:=w) hk.out hf;cases ok<;>simp [yd,zeroValue,typeInfo,hi,fS]
 | some p=>
  rw [mH]at hf;have yd:=MapKept.run_findKey (P:=P) (w:=w) hk.out hf;cases ok<;>simp [yd]
theorem PM{z v:ad}{s:Nat}[bV P t (.map kt et)][bV P kt kd][bR P et z s b](KT:vc kd kv){g:Nat}{L:List (κ×ν)}{m:ag}{x:κ}(hR:CR w g (kJ kv vv L))(hx:ev e m= .map (some g))(hy:ev e ix=kv x)(hv:((gy L x).map vv).getD z=v)(hb:Nat.blt d N=true)(hK:ao P N ops K rest (bG e d v) w):ao P N ops K (⟨some d,.lookup t m ix false,ty,pos,af,none⟩::rest) e w:=by
 subst hv;refine .val (w':=w) ?_ hb hK;have:=OK (P:=P) (t:=t) (x:=x) KT hR false;simp [execOp,hx,hy,this]
theorem Yk[bV P t (.map kt et)][bV P kt kd][bR P et (ak 0) 1 b](KT:vc kd kv){g:Nat}{L:List (κ×Int)}{m:ag}(x:κ)(hR:CR w g (kJ kv (Value.int .i64) L))(hx:ev e m= .map (some g))(hy:ev e ix=kv x)(hb:Nat.blt d N=true)(hK:ao P N ops K rest (bG e d (.tuple #[ak ((gy L x).getD 0),.bool (gy L x).isSome])) w):ao P N ops K (⟨some d,.lookup t m ix true,ty,pos,af,none⟩::rest) e w:=by
 refine .val (w':=w) ?_ hb hK;have:=OK (P:=P) (t:=t) (x:=x) KT hR true;have e1:((gy L x).map (Value.int .i64)).getD (ak 0)=ak ((gy L x).getD 0):=by cases gy L x<;>rfl
 rw [e1]at this;simp [execOp,hx,hy,this]
theorem aiy[hU:bV P t (.map kt et)][hk:bV P kt kd](KT:vc kd kv){g:Nat}{L:List (κ×ν)}(i:Nat)(x:κ)(u:ν)(hS:St w0 w ks)(hi:ks[i]?=some (lZ T g (kJ kv vv L))):
 ∃w',(Instr.mapUpdate t (.map (some g)) (kv x) (vv u)).run P w= .ok () w'/\St w0 w' (ks.set i (lZ T g (kJ kv vv (km L x u)))):=by
 obtain⟨_,es,cl,hh,hm⟩:=hS.JE i hi;have hf:=HX (vv:=vv) KT x es.toList L 0 hm;have yd:=MapKept.run_findKey (P:=P) (w:=w) hk.out hf;cases mH:pI L x with
 | none=>
  refine⟨{ w with heap:=w.heap.setIfInBounds g (.map (es.push ⟨kv x,vv u,cl⟩) (cl+1)) },?_,hS.J1 hi ?_⟩
  ·simp [Instr.mapUpdate,run_underlying hU.out,MapKept.run_getObj_map hh,MapKept.run_checkKey hk.out (KT.isKey x),yd,mH,MapKept.run_setObj_map _ hh,Result.andThen]
  ·rw [RD mH];simp only [Array.toList_push,jm,hm,kJ]
   rfl
 | some p=>
  obtain⟨j,v⟩:=p;obtain⟨h1,h2⟩:=RE mH;have lR:j<L.length:=(iQ.1 h1).1;have kj:es.toList.length=L.length:=by have:=aK List.length hm;simpa [kJ]using this
  have hes:es.size=L.length:=by simpa using kj
  have BS:j<es.size:=by omega
  have ac7:es[j].key=kv x:=by
   have:=aK (fun l=>l[j]?) hm;simp [kJ,h1,BS]at this;exact this.1
  have ax:=MapKept.run_keyThatStays (P:=P) (w:=w) (KT.isKey x);refine⟨{ w with heap:=w.heap.setIfInBounds g (.map (es.modify j fun e=> { e with key:=kv x,val:=vv u }) cl) },?_,hS.J1 hi ?_⟩
  ·simp [Instr.mapUpdate,run_underlying hU.out,MapKept.run_getObj_map hh,MapKept.run_checkKey hk.out (KT.isKey x),yd,mH,MapKept.run_setObj_map _ hh,Result.andThen,BS,ac7,ax]
  ·rw [h2 u];apply List.ext_getElem?;intro q;have hq:=aK (fun l=>l[q]?) hm;simp only [kJ,List.getElem?_map,Array.getElem?_toList]at hq;simp only [kJ,List.getElem?_map,pA,Array.getElem?_toList,Array.getElem?_modify]
   by_cases e1:j=q
   ·subst e1;simp [BS,lR]
   ·rw [aw e1,aw e1];exact hq
def Xd:Op->Option (ae×ag×ag×ag)
 | .mapUpdate t m k x=>some (t,m,k,x)
 | .insert t m k x=>some (t,m,k,x)
 | _=>none
theorem Kl{op:Op}{m k:ag}[hU:bV P t (.map kt et)][bV P kt kd](sQ:Xd op=some (t,m,k,x))(KT:vc kd kv){g:Nat}{L:List (κ×ν)}(i:Nat){a:κ}{u:ν}(hS:St w0 w ks)(hi:ks[i]?=some (lZ T g (kJ kv vv L)))(hm:ev e m= .map (some g))(hk:ev e k=kv a)(hx:ev e x=vv u)(hK:∀w',St w0 w' (ks.set i (lZ T g (kJ kv vv (km L a u))))->ao P N ops K rest e w'):ao P N ops K (⟨none,op,ty,pos,af,none⟩::rest) e w:=by
 obtain⟨w',vR,o9⟩:=aiy (P:=P) (t:=t) KT i a u hS hi;refine .unit (w':=w') ?_ (hK _ o9);cases op<;>simp [Xd]at sQ<;>obtain⟨rfl,rfl,rfl,rfl⟩:=sQ<;>simp [execOp,hm,hk,hx,vR]
end
end Go.Proofs.YtopgfgdgfjddpaaGreatDoor.Vc
