/-
 Lemmas. Conditions: as each states them.
-/
import Derived.Test.YtagdamiiececaaaGreatDoorZf
set_option maxHeartbeats 8000000
namespace Go.Proofs.YtagdamiiececaaaGreatDoor.Vc
open Tryz
section
open Go.RowKit
theorem XT(bL:Nat)(Ar:ai)(nr cr:Nat)(ju:List aO)(rel:ag)(T:ag)(w:aa)(hR:bl w Ar nr ju rel)(td:∀x∈rel,x.length<=1000000)(qC:nr<=1000000)(hp:yw bL rel=some T)(Lr:0<T.length)(hT4:(gl T 0).length<=400):
 aE prog 222 [.agg #[aj bL,.slice Ar nr cr],.slice none 0 0] w (fun v w'=>∃A c rs,v= .tuple #[.slice A T.length c,aj 0]/\rs.length=T.length/\St w w' (aK 24 2 A T.length c rs T)):=by
 refine bm func222 O ntmps222 O (my O) (aY O (wO (St.refl w) O O ?_));intro A2 w1 aB;refine ao O (ac3 1 (aB.rd 0 O) O (ao O (aH (XU bL Ar nr cr ju rel T _ (aB.bE hR) td qC hp) O ?_)));rintro _ w2 ⟨A,c,rs,rfl,bO,aA⟩;have aw:=aB.call aA;have vx:bl w2 A T.length rs T:=St.du aw O;have ie:=vx.at_ (i:=0) (Int.le_refl _) (by omega);have lu:=ie.1;refine ao O ?_
 first | refine dM rfl rfl ?_ | refine eI rfl rfl ?_
 refine ao O (ak.split 16 O (fun h=>absurd h (by decide)) (fun _=>?_));refine ar O (ao O (ar O ?_));refine ay vx.top.2 O (ar O (ac0 (i:=0) vx.top O (by omega) O O ?_));refine ar O (aZ O O (ar O (az O ?_)));refine jw O (by omega) (cE O (uT O O ?_));exact⟨A,c,rs,O,bO,aw.sub (kY _ _)⟩
structure EF(labels:ah)(T:ag):Prop where
 len:labels.length<5
 bM:∀x∈labels,x=0\/(2<=x/\x<=32)
 words:tI ((labels.length+1:Nat):Int) 1 (ij labels)
 tab:yw (labels.length+1) (ij labels)=some T
 we:bj T
theorem OL(Al:ai)(nl cl:Nat)(labels:ah)(T:ag)(w:aa)(hR:cd w Al nl labels)(hU:EF labels T):
 aE prog 166 [.slice Al nl cl,.slice none 0 0] w (qW T 0 w):=by
 obtain⟨u1,u2,u3,u4,u5⟩:=hU;have lq:=hR.1;have dC:=u5.1;have hT40:=u5.2.1;rw [lq]at u1 u3 u4;refine bm func166 O ntmps166 O (uQ O O) (aY O (eH (St.refl w) O ?_));intro A4 w1 aB;refine ao O (aH (XW Al nl cl labels _ (aB.dY hR) u1 u2) O ?_);rintro _ w2 ⟨rfl,rfl⟩
 first | refine dM rfl rfl ?_ | refine eI rfl rfl ?_
 refine az O (Cd.dO O (aD O ?_));refine aH (XX Al nl cl labels _ (aB.dY hR) (by omega) (fun x hx=>by have:=u2 x hx;omega)) O ?_;rintro _ w3 ⟨B,c,rs,rfl,bO,tf⟩;have aI:=aB.call tf;have T8:bl w3 B (ij labels).length rs (ij labels):=St.du aI O;have U8:((nl:Int)+1)=((nl+1:Nat):Int):=by omega
 rw [U8];refine ao O (aH (Qu (nl+1) B (ij labels).length c rs (ij labels) _ T8 (by omega) u3) O ?_);rintro _ w4 ⟨B2,c2,qO,rfl,MC,oT⟩;have aG:=aI.call oT;refine ao O (yN aG O ?_);intro A6 w5 aR;refine bR 2 0 aR O O O O O O O ?_;intro w6 aQ;have aQ:St w w6 (Bx 199 2 A6 [aj ((nl+1:Nat):Int),.slice B2 (ij labels).length c2]::(aK 24 2 B2 (ij labels).length c2 qO (ij labels)++ (aK 24 2 B (ij labels).length c rs (ij labels)++ [Bx 37 1 A4 [.slice none 0 0]]))):=aQ;have T9:bl w6 B2 (ij labels).length qO (ij labels):=St.du aQ.tail O;refine az O (jw O (fun h=>h O) (aD O (ac3 1 (aQ.rd 0 O) O ?_)));refine aH (XT (nl+1) B2 (ij labels).length c2 qO (ij labels) T _ T9 (fun x hx=>by have:=(u3.2 x hx).2.1;omega) (by have:=u3.1;omega) u4 (by omega) (by omega)) O ?_;rintro _ w7 ⟨A,cA,wv,rfl,V0,tg⟩;have a6:=aQ.call tg;have vx:bl w7 A T.length wv T:=St.du a6 O;have ie:=vx.at_ (i:=0) (Int.le_refl _) (by omega);have lu:=ie.1;refine ao O (bX 33 O (fun h=>absurd O h) (fun _=>?_));refine ar O (ao O (ar O ?_));refine ay vx.top.2 O (ar O (ac0 (i:=0) vx.top O (by omega) O O ?_));refine ar O (aZ O O (ar O (az O ?_)));refine jw O (by omega) (aD O (wN (by exact inferInstance) O O O O (eH a6 O ?_)));intro bI w8 a7;refine bR 1 0 a7 O O O O O O O ?_;intro w9 aW;have aW:St w w9 (Bx 37 1 bI [.slice A T.length cA]::(aK 24 2 A T.length cA wv T++ (Bx 199 2 A6 [aj ((nl+1:Nat):Int),.slice B2 (ij labels).length c2]::(aK 24 2 B2 (ij labels).length c2 qO (ij labels)++ (aK 24 2 B (ij labels).length c rs (ij labels)++ [Bx 37 1 A4 [.slice none 0 0]]))))):=aW;have T6:bl w9 A T.length wv T:=St.du aW.tail O;refine ao O (ac3 0 (aW.rd 0 O) O (aH (DG A T.length cA wv T _ T6 (by omega)) O ?_));rintro _ dt ⟨rfl,Av⟩;have bV:=aW.aq Av.below;have dW:St w dt ([Bx 37 1 bI [.slice A T.length cA],Bx 37 1 A4 [.slice none 0 0]]++aK 24 2 A T.length cA wv T):=by
  have h1:St w dt (Bx 37 1 bI [.slice A T.length cA]::(aK 24 2 A T.length cA wv T++ [Bx 37 1 A4 [.slice none 0 0]])):=
   bV.sub (List.Sublist.cons_cons _ (List.Sublist.append_left (((dD _ _).trans (dD _ _)).cons _) _))
  exact h1.perm (List.Perm.cons _ (fb (l₂:=[_])))
 first | refine dM rfl rfl ?_ | refine eI rfl rfl ?_
 refine az O (jw O (fun h=>h u5) (aD O (ac3 0 (dW.rd 0 O) O (bR 1 1 dW O O O O O O O ?_))));intro iO fU;refine bu O (mz O (fU.rd 1 O) O ?_);exact⟨A,cA,wv,O,V0,(fU.sub ((dA _).cons _)).sub ((dA _).cons _)⟩
def yx(labels:ah):ag:=(yw (labels.length+1) (ij labels)).getD []
def se(labels:ah):Bool:=decide (labels.length<5) && decide (∀x∈labels,x=0\/(2<=x/\x<=32)) && decide (tI ((labels.length+1:Nat):Int) 1 (ij labels)) && (yw (labels.length+1) (ij labels)).isSome && decide (bj (yx labels))
theorem sf{labels:ah}(h:se labels=true):EF labels (yx labels):=by
 simp only [se,Bool.and_eq_true,qp]at h;obtain⟨⟨⟨⟨h1,h2⟩,h3⟩,h4⟩,h5⟩:=h;refine⟨h1,h2,h3,?_,h5⟩;obtain⟨T,hT⟩:=Option.isSome_iff_exists.1 h4;rw [hT,yx,hT]
 rfl
set_option maxRecDepth 100000 in
theorem OZ:se [2,2]=true:=by kernel_rfl
set_option maxRecDepth 100000 in
theorem aax:se [2,3]=true:=by kernel_rfl
set_option maxRecDepth 100000 in
theorem aaA:se [4,2]=true:=by kernel_rfl
set_option maxRecDepth 100000 in
theorem aaC:se [5,2]=true:=by kernel_rfl
set_option maxRecDepth 100000 in
theorem aay:se [2,6]=true:=by kernel_rfl
set_option maxRecDepth 100000 in
theorem O0:se [3,3]=true:=by kernel_rfl
set_option maxRecDepth 100000 in
theorem aaB:se [4,3]=true:=by kernel_rfl
set_option maxRecDepth 100000 in
theorem aaz:se [3,4]=true:=by kernel_rfl
section
variable {P:Program} {N:Nat} {ops:Array Oper} {K:Env->aa->Prop} {rest:List Oper} {e:Env} {w0 w:aa} {ks:List Ck} {d:Nat} {ty:ad} {pos:String} {af:Array Edge}
def yg:Nat->List aO->List (Nat×ab)
 | _,[]=> []
 | k,v::r=> (k,v.v)::yg (k+1) r
theorem Ka:∀(vs:List aO) (k:Nat) (cells:Array ab),k+vs.length<=cells.size->∃out,Instr.fill (fun i=>some (i*1,1)) cells (yg k vs)=some out/\out.size=cells.size/\(∀j,j<k->out[j]?=cells[j]?)/\(∀j,j<vs.length->out[k+j]?=vs[j]?.map aO.v)/\(∀j,k+vs.length<=j->out[j]?=cells[j]?)
 | [],k,cells,_=> ⟨cells,rfl,rfl,fun _ _=>rfl,fun j hj=>absurd hj (oy _),fun _ _=>rfl⟩
 | v::r,k,cells,h=>by
  have hk:k<cells.size:=by simp at h;omega
  obtain⟨out,h1,h2,h3,h4,h5⟩:=Ka r (k+1) (cells.setIfInBounds k v.v) (by simp at h|-;omega);refine⟨out,?_,by rw [h2];simp,fun j hj=>?_,fun j hj=>?_,fun j hj=>?_⟩
  ·show Instr.fill _ cells ((k,v.v)::yg (k+1) r)=some out;rw [<-h1];simp [Instr.fill,aO.v,Value.cells,show ¬cells.size<k+1 by omega]
  ·rw [h3 j (by omega),pb,aC (by omega)]
  ·cases j with
   | zero=>rw [Nat.add_zero,h3 k (by omega),pb,aJ rfl,aJ hk];rfl
   | succ q=>
    have:=h4 q (by simpa using hj);rw [show k+ (q+1)=k+1+q by omega,this]
    rfl
  ·rw [h5 j (by simp at hj|-;omega),pb,aC (by simp at hj;omega)]
theorem Sd(vs:List aO)(cells:Array ab)(h:cells.size=vs.length):Instr.fill (fun i=>some (i*1,1)) cells (yg 0 vs)=some (vs.map aO.v).toArray:=by
 obtain⟨out,h1,h2,_,h4,_⟩:=Ka vs 0 cells (by omega);rw [h1]
 congr 1
 apply Array.ext';apply List.ext_getElem?;intro j
 by_cases hj:j<vs.length
 ·have:=h4 j hj;rw [Nat.zero_add]at this;simpa using this
 rw [mD (by simpa [h2,h]using hj),mD (by simpa using hj)]
theorem Qa{t el:ad}{z:ab}{b n:Nat}[bK P t (.slice el)][bF P el z 1 b]{ps:Array (Nat×ae)}(vs:List aO)(hS:St w0 w ks)(hv:(ps.toList.map fun p=> (p.1,ev e p.2))=yg 0 vs)(hn:vs.length=n)(lr:n≠0)(zS:n<=1000)(hz:z.cells= #[z])(hb:Nat.blt d N=true)(hK:∀A w',St w0 w' (aV el A n n vs::ks)->ak P N ops K rest (bt e d (.slice A n n)) w'):ak P N ops K (⟨some d,.buildSlice t n ps,ty,pos,af,none⟩::rest) e w:=by
 subst hn;obtain⟨inf,hi,eM,hs,ib⟩:=bF.get P el;have hA:=hS.alloc (vs.map aO.v) el (by simp [maxLen];omega) (qJ _);refine .val (w':=w.alloc (.cells (vs.map aO.v).toArray el)) ?_ hb (hK _ _ (by simpa [aV]using hA));have hf:=Sd vs ((Array.range (vs.length*1)).map ((#[z]:Array ab)[· % (#[z]:Array ab).size]!)) (by simp);have oU:(ps.map fun p=> (p.1,ev e p.2)).toList=yg 0 vs:=by rw [Array.toList_map];exact hv
 have pB:¬16777216<vs.length:=by omega
 simp only [Nat.mul_one]at hf;simp [execOp,Instr.buildSlice,run_underlying (bK.out (P:=P) (t:=t)),sizeOf,typeInfo,zeroValue,hi,hs,eM,hz,newRow,hv,pB,lr];simp at hf;simp [hf]
end
theorem bj.bound{xss:ag}(h:bj xss):xss.length<=6/\∀p∈xss,p.length<=20001/\∀x∈p,-1<=x/\x<=20001:=by
 obtain⟨h1,h2,h3,_⟩:=h;refine⟨by omega,fun p hp=>?_⟩;obtain⟨q1,q2,_⟩:=h3 p hp;obtain⟨q3,q4,_⟩:=q2;exact⟨by omega,fun x hx=>by have:=q4 x hx;omega⟩
theorem aaD:∀r:Nat,r<8->EF (gl [[3,3],[3,3],[4,3],[3,4],[2,3],[4,2],[5,2],[2,6]] r) (yx (gl [[3,3],[3,3],[4,3],[3,4],[2,3],[4,2],[5,2],[2,6]] r))
 | 0,_=>sf O0
 | 1,_=>sf O0
 | 2,_=>sf aaB
 | 3,_=>sf aaz
 | 4,_=>sf aax
 | 5,_=>sf aaA
 | 6,_=>sf aaC
 | 7,_=>sf aay
 | r+8,h=>absurd h (by omega)
theorem X0{w0 w:aa}{ks:List Ck}(ix:Nat){As:ai}{k:Ck}(most:Nat)(hS:St w0 w ks)(hk:ks[ix]?=some k)(hK:fj w0 As k)(hm:8<=most/\most<=1000):
 aE prog 95 [.pointer As,aj most] w (Er w0 ks ix As):=by
 refine bm func95 O ntmps95 O (lB O O) (aY O (eH hS O ?_));intro A4 w1 aB;refine wJ 0 O (pc (α:=Ck) (fun _=> [(0,.pointer As),(1,aj most),(4,.pointer A4)]) (fun k' w'=>fj w0 As k'/\St w0 w' (Bx 37 1 A4 [.slice none 0 0]::ks.set ix k')) ?_ ?_)
 ·refine aY O (aH (o9 (ix+1) 4 aB (by exact hk) hK) O ?_);rintro _ w2 ⟨r,k1,rfl,hr,jT,aw⟩;have aw:St w0 w2 (Bx 37 1 A4 [.slice none 0 0]::ks.set ix k1):=aw;have gm:=kl (k':=k1) hk;refine az O (aM _ O (fun h1=>?_) (fun h1=>?_))
  ·refine aD O (me [3,3] aw O O (by decide) (by decide) O O fun L0 v0 nm=>me [3,3] nm O O (by decide) (by decide) O O fun L1 v1 TH=>me [4,3] TH O O (by decide) (by decide) O O fun L2 v2 TJ=>me [3,4] TJ O O (by decide) (by decide) O O fun L3 v3 TK=>me [2,3] TK O O (by decide) (by decide) O O fun L4 v4 TL=>me [4,2] TL O O (by decide) (by decide) O O fun L5 v5 TM=>me [5,2] TM O O (by decide) (by decide) O O fun L6 v6 FQ=>me [2,6] FQ O O (by decide) (by decide) O O fun L7 v7 TN=>Qa [⟨L0,2,2⟩,⟨L1,2,2⟩,⟨L2,2,2⟩,⟨L3,2,2⟩,⟨L4,2,2⟩,⟨L5,2,2⟩,⟨L6,2,2⟩,⟨L7,2,2⟩] TN O O (by decide) (by decide) O O ?_);intro Pc w3 aI;refine ao O (aH (o9 (ix+10) 8 aI (by exact gm) jT) O ?_);rintro _ w4 ⟨g,k2,rfl,hg,fa,aG⟩;obtain⟨q,rfl⟩:∃q:Nat,g=q:=⟨g.toNat,by omega⟩;have hq:q<8:=by omega
   have bH:cd w4 (rg [⟨L0,2,2⟩,⟨L1,2,2⟩,⟨L2,2,2⟩,⟨L3,2,2⟩,⟨L4,2,2⟩,⟨L5,2,2⟩,⟨L6,2,2⟩,⟨L7,2,2⟩] q).a (rg [⟨L0,2,2⟩,⟨L1,2,2⟩,⟨L2,2,2⟩,⟨L3,2,2⟩,⟨L4,2,2⟩,⟨L5,2,2⟩,⟨L6,2,2⟩,⟨L7,2,2⟩] q).n (gl [[3,3],[3,3],[4,3],[3,4],[2,3],[4,2],[5,2],[2,6]] q):=by
    rcases(by omega:q=0\/q=1\/q=2\/q=3\/q=4\/q=5\/q=6\/q=7)with rfl | rfl | rfl | rfl | rfl | rfl | rfl | rfl
    ·exact aG.bz 8 O
    ·exact aG.bz 7 O
    ·exact aG.bz 6 O
    ·exact aG.bz 5 O
    ·exact aG.bz 4 O
    ·exact aG.bz 3 O
    ·exact aG.bz 2 O
    exact aG.bz 1 O
   have hU:=aaD q hq;refine acU (aG.rd 0 O) O O O (by omega) (by show(q:Int)< (8:Int);omega) ?_;refine ac0 (i:=(q:Int)) (aG.eG 0 O) O (by show(q:Int).toNat<8;omega) O O ?_;have aR:St w0 w4 (Bx 37 1 A4 [.slice none 0 0]::(ks.set ix k1).set ix k2):=aG.tail.tail.tail.tail.tail.tail.tail.tail.tail;rw [iH]at aR;generalize yx (gl [[3,3],[3,3],[4,3],[3,4],[2,3],[4,2],[5,2],[2,6]] q)=T at hU;generalize gl [[3,3],[3,3],[4,3],[3,4],[2,3],[4,2],[5,2],[2,6]] q=L at hU bH;generalize rg [⟨L0,2,2⟩,⟨L1,2,2⟩,⟨L2,2,2⟩,⟨L3,2,2⟩,⟨L4,2,2⟩,⟨L5,2,2⟩,⟨L6,2,2⟩,⟨L7,2,2⟩] q=sl at bH;obtain⟨La,ln,lc⟩:=sl;refine ao O (aH (OL La ln lc L T w4 bH hU) O ?_);rintro _ w5 ⟨A,c,rs,rfl,bO,hT⟩;have vr:=hU.we;have aQ:St w0 w5 (Bx 37 1 A4 [.slice none 0 0]::(aK 24 2 A T.length c rs T++ks.set ix k2)):=(aR.call hT).perm eU;have gf:T.length<=c/\c<=9223372036854775807:=aQ.cap 1 O;refine ao O (eH aQ O ?_);intro A6 w6 a6;refine bR 1 0 a6 O O O O O O O ?_;intro w7 a7;have a7:St w0 w7 (Bx 37 1 A6 [.slice A T.length c]::Bx 37 1 A4 [.slice none 0 0]::(aK 24 2 A T.length c rs T++ks.set ix k2)):=a7;have FR:=vr.1;refine ao O (bX 39 O (fun h2=>?_) (fun h2=>?_))
   ·refine ar O (ac3 0 (a7.rd 0 O) O (ar O (aH (oY A T.length c rs T w7 (St.du a7.tail.tail O) (by omega)) O ?_)));rintro _ w8 ⟨rfl,ia⟩;have aW:=a7.aq ia.below;refine ar O (ao O (ar O (az O ?_)));refine aM _ O (fun h3=>?_) (fun h3=>?_)
    ·refine aD O (ac3 0 (aW.rd 0 O) O (bR 1 1 aW O O O O O O O ?_));intro w9 bV;refine bu O (de (cT ?_));exact fZ O (bV.rd 1 O) ⟨T.length,A,c,rs,T,_,k2,O,vr.bound.1,gf,vr.bound.2,fa,fun iq Y h=>St.du h O,bV.tail.tail⟩
    refine mC O (tQ ?_);exact⟨k2,(ac4 O),fa,aW.tail.sub (List.Sublist.cons_cons _ (dD _ _))⟩
   exact absurd O h2
  refine cH O (aM _ O (fun h2=>?_) (fun h2=>?_))
  ·refine aD O (ak.quo O O O (by omega) (I9 O O O (aH (XZ (ix+1) _ aw (by exact gm) jT (by omega)) O ?_)));rintro _ w3 ⟨Ar,nr,cr,ps,k2,rfl,qC,jY,fa,aI⟩;have aI:St w0 w3 (ax 2 Ar nr cr ps::Bx 37 1 A4 [.slice none 0 0]::(ks.set ix k1).set ix k2):=aI;rw [iH]at aI;refine ao O (aH (PO Ar nr cr ps w3 (aI.bz 0 O) (by omega)) O ?_);rintro _ w4 ⟨n,A,c,rs,xss,code,rfl,hn,bO,bP,hb,hT⟩;have aG:St w0 w4 (Bx 37 1 A4 [.slice none 0 0]::(aK 24 2 A n c rs xss++ks.set ix k2)):=((aI.tail).call hT).perm (eU (l₁:=aK 24 2 A n c rs xss));have gf:n<=c/\c<=9223372036854775807:=aG.cap 1 O;refine ao O (eH aG O ?_);intro A9 w5 aR;refine bR 1 0 aR O O O O O O O ?_;intro w6 aQ;have aQ:St w0 w6 (Bx 37 1 A9 [.slice A n c]::Bx 37 1 A4 [.slice none 0 0]::(aK 24 2 A n c rs xss++ks.set ix k2)):=aQ;refine az O (aM _ O (fun h3=>?_) (fun h3=>?_))
   ·refine aD O (ac3 0 (aQ.rd 0 O) O (bR 1 1 aQ O O O O O O O ?_));intro w7 a6;refine bu O (de (cT ?_));exact fZ O (a6.rd 1 O) ⟨n,A,c,rs,xss,_,k2,O,hn,gf,hb,fa,fun iq Y h=>St.du h bP,a6.tail.tail⟩
   refine mC O (tQ ?_);exact⟨k2,(ac4 O),fa,aQ.tail.sub (List.Sublist.cons_cons _ (dD _ _))⟩
  refine mC O (tQ ?_);exact⟨k1,(ac4 O),jT,aw⟩
 rintro k1 e w2 ⟨jT,aw⟩;refine cH O (Cd.loop (α:=Nat×Ck) (fun s=> [(0,.pointer As),(1,aj most),(4,.pointer A4),(11,aj (s.1:Int))]) (fun s w'=>fj w0 As s.2/\s.1<=20/\St w0 w' (Bx 37 1 A4 [.slice none 0 0]::ks.set ix s.2)) (fun s=>20 - s.1) (0,k1) (ac4 O) ⟨jT,bA _,aw⟩ ?_);rintro⟨i,k2⟩ e w3 ⟨fa,hi,aI⟩;dsimp only at fa hi aI|-;have lW:=kl (k':=k2) hk;refine b7 O (aM _ O (fun h1=>?_) (fun h1=>?_))
 ·refine aD O (aH (Hz (ix+1) most aI (by exact lW) fa hm) O ?_);rintro _ w4 ⟨n,N,A,c,rs,xss,k3,rfl,hn,hN,bO,bP,hG,lP,aG⟩;have aG:St w0 w4 (aK 24 2 A n c rs xss++ (Bx 37 1 A4 [.slice none 0 0]::(ks.set ix k2).set ix k3)):=aG;rw [iH]at aG;have aG:St w0 w4 (Bx 37 1 A4 [.slice none 0 0]::(aK 24 2 A n c rs xss++ks.set ix k3)):=aG.perm eU;have gf:n<=c/\c<=9223372036854775807:=aG.cap 1 O;refine eH aG O fun jj w5 aR=>bR 1 0 aR O O O O O O O ?_;intro w6 aQ;have aQ:St w0 w6 (Bx 37 1 jj [.slice A n c]::Bx 37 1 A4 [.slice none 0 0]::(aK 24 2 A n c rs xss++ks.set ix k3)):=aQ;refine ao O (ac3 0 (aQ.rd 0 O) O (aH (Nt A n c rs xss w6 (St.du aQ.tail.tail bP) (by omega)) O ?_));rintro _ w7 ⟨rfl,hT⟩;have a6:=aQ.aq hT.below;refine az O (aM _ O (fun h2=>?_) (fun h2=>?_))
  ·refine aD O (ac3 0 (a6.rd 0 O) O (bR 1 1 a6 O O O O O O O ?_));intro w8 a7;refine bu O (de (cT ?_));refine fZ O (a7.rd 1 O) ?_;exact⟨n,A,c,rs,xss,_,k3,O,by omega,gf,h2.1.bound.2,lP,fun iq Y h=>St.du h bP,a7.tail.tail⟩
  refine aD O (aL O (aU O (tQ ?_)));exact⟨(i+1,k3),by show 20 - (i+1)<20 - i;omega,(ac4 O),lP,by show i+1<=20;omega,a6.tail.sub (List.Sublist.cons_cons _ (dD _ _))⟩
 refine bo O (bp (cn O ?_));refine me [2,2] aI O O (by decide) (by decide) O O fun Ph w4 aG=>aH (OL Ph 2 2 [2,2] _ w4 (aG.bz 0 O) (sf OZ)) O ?_;rintro _ w5 ⟨A,c,rs,rfl,bO,hT⟩;have vr:=(sf OZ).we;generalize yx [2,2]=T at bO hT vr;have aR:St w0 w5 (Bx 37 1 A4 [.slice none 0 0]::(aK 24 2 A T.length c rs T++ks.set ix k2)):=(aG.tail.call hT).perm eU;have gf:T.length<=c/\c<=9223372036854775807:=aR.cap 1 O;refine ao O (eH aR O ?_);intro nG w6 aQ;refine bR 1 0 aQ O O O O O O O fun w7 a6=>ao O (ac3 0 (a6.rd 0 O) O (bR 1 1 a6 O O O O O O O ?_));intro w8 a7;refine bu O (fZ O (a7.rd 1 O) ?_);exact⟨T.length,A,c,rs,T,_,k2,O,vr.bound.1,gf,vr.bound.2,fa,fun iq Y h=>St.du h O,a7.tail.tail⟩
theorem XA(Ac:ai)(nc cc:Nat)(bs:ah)(w:aa)(hY:oB w Ac nc bs)(ku:nc<=1000000):
 aE prog 55 [.slice Ac nc cc] w (fun v w'=>∃(As:ai) (k:Ck),v= .pointer As/\(∀w0,oB w0 Ac nc bs->fj w0 As k)/\St w w' [k]):=by
 refine bm func55 O ntmps55 O (bU O) ?_;refine aY O (aZ O O ?_);refine sq O O (yy _ (by omega)) (BO O O O fun r1 _=>?_)
 refine PZ (by exact inferInstance) (by exact inferInstance) (by exact inferInstance) O O O O O O O O (P7 (St.refl w) O O ?_);intro As w2 hS;refine az O (Cd.loop (α:=Nat×Int) (fun s=> [(0,.slice Ac nc cc),(3,.pointer As),(4,aj (s.1:Int))]) (fun s w'=>St w w' [Bx 104 3 As [.slice Ac nc cc,aj 0,.int .u64 s.2]]/\s.1<=nc) (fun s=>nc - s.1) (0,_) (ac4 O) ⟨hS,bA _⟩ ?_);rintro⟨i,h⟩ e w3 ⟨aB,hi⟩;dsimp only at aB hi|-;refine aY O (aZ O O (ao O ?_));refine bX 16 O (fun h1=>?_) (fun h1=>?_)
 ·skip
  refine ar O (ao O (ar O (az O ?_)));refine aM _ O (fun h2=>?_) (fun h2=>?_)
  ·skip
   have Te:=hY.at_ (j:=(i:Int)) (by omega) (by omega);have sS:=hY.below aB.below;refine cH O ?_;refine jx [15] [yP (As),yP (As),yP (As),yP (aF (As) 2),.ex (.int .u64 h),.pr (fun v _=>∃r:Int,v= .int .u64 r),yS (Ac) (nc) (cc),yI ((i:Int)),yP (aF Ac (i:Int).toNat),.ex (.int .u8 (bs.getD (i:Int).toNat 0)),.ex (.int .u64 (bs.getD (i:Int).toNat 0)),.pr (fun v _=>∃r:Int,v= .int .u64 r),.pr (fun v _=>∃r:Int,v= .int .u64 r),yP (As),yP (aF (As) 2),.pr (fun _ w'=>∃r:Int,St w w' [Bx 104 3 As [.slice Ac nc cc,aj 0,.int .u64 r]])] (by kernel_rfl) (by kernel_rfl) (ly (ly (ly (ly (ly (cL.2 ⟨Ye.cQ (fun _ _ _ h _=>h),(ly (ly (ly (ly (ly (cL.2 ⟨Ye.cQ (fun _ _ _ h _=>h),(cL.2 ⟨Ye.cQ (fun _ _ _ h _=>h),(ly (ly (cL.2 ⟨Ye.cQ (fun v w w' h hb=>by obtain⟨r,h⟩:=h;exact⟨r,h.aq hb⟩),(fun _ h=>by cases h)⟩)))⟩)⟩))))))⟩)))))) ?_ ?_
   ·refine⟨cj O,cj O,cP fun _ _ hb _ _ _=>eV ((aB.rd 0 O).below hb) (Nat.succ_pos _) O O (bG O O),cP fun _ _ hb _ _ _=>aS ((aB.rd 0 O).below hb) O (bG O O),?_,?_,cj O,cj O,?_,?_,?_,?_,?_,cP fun _ _ hb _ _ _=>eV ((aB.rd 0 O).below hb) (Nat.succ_pos _) O O (bG O O),cP fun _ _ hb _ _ _=>aS ((aB.rd 0 O).below hb) O (bG O O),?_,au⟩
    ·refine cP fun e1 w1 hb hp aX hq=>?_
     refine iw (k:= .u64) ((aB.rd 0 O).below hb) O O O O O (ak.n (fO O (by exact O)))
    ·intro e1 w1 cc eY dQ eP hp aX hq;show ak _ _ _ _ _ _ _;refine Jb O O O fun r _=>?_
     exact ak.n (fB.dn O (Below.refl _ _) ⟨r,O⟩)
    ·refine cP fun e1 w1 hb hp aX hq=>?_
     refine ay (sS.below hb).2.2 O (ak.n (fO O (by exact O)))
    ·refine cP fun e1 w1 hb hp aX hq=>?_
     refine I7 (sS.below hb) O (by omega) O O (ak.n (fO O (by exact O)))
    ·intro e1 w1 cc eY dQ eP hp aX hq;show ak _ _ _ _ _ _ _;refine sq O O (yy _ (by omega)) (ak.n (fO O (by exact O)))
    ·refine cP fun e1 w1 hb hp aX hq=>?_
     obtain⟨r,hr⟩:=(hp 5 _ _ (by kernel_rfl) rfl rfl (by kernel_rfl));refine BO (by exact hr) O O fun r _=>?_
     exact ak.n (fB.dn O (Below.refl _ _) ⟨r,O⟩)
    ·refine cP fun e1 w1 hb hp aX hq=>?_
     obtain⟨r,hr⟩:=(hp 11 _ _ (by kernel_rfl) rfl rfl (by kernel_rfl));refine BO (by exact hr) O O fun r _=>?_
     exact ak.n (fB.dn O (Below.refl _ _) ⟨r,O⟩)
    refine jy fun e1 w1 hb hp aX hq=>?_
    obtain⟨r,hr⟩:=(hp 12 _ _ (by kernel_rfl) rfl rfl (by kernel_rfl));refine kD 0 (aB.aq hb) O O (by exact hr) O O ?_;intro w9 hT;exact ak.n (fv.st O ⟨r,hT⟩)
   intro u w5 _ hu _ _;obtain⟨r,hT⟩:=hu 15 _ rfl (by kernel_rfl);refine fK O (aL O (aU O (tQ ?_)));exact⟨(i+1,r),by show nc - (i+1)<nc - i;omega,(ac4 O),hT,by show i+1<=nc;omega⟩
  refine bo O (bp (e6 O ?_));refine D1 O ?_;exact⟨As,_,O,fun w0 h0=> ⟨Ac,nc,cc,0,h,bs,O,⟨Int.le_refl _,by omega⟩,ku,h0⟩,aB⟩
 skip
 refine av O (av O (az O ?_));refine Cd.dO O (bo O (bp (e6 O ?_)));refine D1 O ?_;exact⟨As,_,O,fun w0 h0=> ⟨Ac,nc,cc,0,h,bs,O,⟨Int.le_refl _,by omega⟩,ku,h0⟩,aB⟩
end
section
theorem Kz(p:ah)(ps:ag)(j:Nat):gl (p::ps) ((j+1:Nat):Int)=gl ps j:=by
 simp only [gl,gn,List.getD_cons_succ]
theorem Ky{φ:Int->Int}{l:ah}{k:Nat}(h:k<l.length):gi (l.map φ) k=φ (gi l k):=by
 rw [bN (by simpa using h),bN h,List.getElem_map]
structure iu(N:Nat)(xss bb:ag)(φ:Int->Int):Prop where
 len:bb.length=xss.length
 eS:∀x:Int,0<=x->x<N->0<=φ x/\φ x<N
 inj:∀x y:Int,0<=x->x<N->0<=y->y<N->φ x=φ y->x=y
 rp:∀(i:Nat) (x:Int),i<xss.length->0<=x->x<N->gi (gl bb i) (φ x)=φ (gi (gl xss i) x)
section
variable {N:Nat} {xss bb:ag} {φ:Int->Int}
theorem Zu(xQ:∀x y:Int,0<=x->x<N->0<=y->y<N->φ x=φ y->x=y){out:ah}(ho:∀x∈out,0<=x/\x< (N:Int)){y:Int}(h0:0<=y)(h1:y<N):fh (out.map φ) (φ y)=(fh out y).map φ:=by
 unfold fh
 by_cases h:y∈out
 ·rw [aJ h,aJ (List.mem_map_of_mem h)]
 rw [aC h,aC (fun hm=>by
  obtain⟨z,hz,e⟩:=fx.1 hm;exact h (xQ z y (ho z hz).1 (ho z hz).2 h0 h1 e▸hz)),lF]
 rfl
theorem fold_map(xQ:∀x y:Int,0<=x->x<N->0<=y->y<N->φ x=φ y->x=y){x:Int}:∀(ps qs:ag) (out:ah),qs.length=ps.length->(∀z∈out,0<=z/\z< (N:Int))->(∀j:Nat,j<ps.length->(0<=gi (gl ps j) x/\gi (gl ps j) x<N)/\gi (gl qs j) (φ x)=φ (gi (gl ps j) x))->qs.foldl (fun o p=>fh o (gi p (φ x))) (out.map φ)=(ps.foldl (fun o p=>fh o (gi p x)) out).map φ
 | [],[],_,_,_,_=>rfl
 | p::ps,q::qs,out,hl,ho,h=>by
  have h0:(0<=gi p x/\gi p x<N)/\gi q (φ x)=φ (gi p x):=h 0 (by simp);simp only [List.foldl_cons];rw [h0.2,Zu xQ ho h0.1.1 h0.1.2];exact fold_map xQ ps qs _ (by simpa using hl) (fun z hz=>by
   rcases DZ.1 hz with hz | rfl
   ·exact ho z hz
   ·exact h0.1) (fun j hj=>by
   have:=h (j+1) (by simpa using hj);rw [Kz,Kz]at this;exact this)
 | [],_::_,_,hl,_,_=>by simp at hl
 | _::_,[],_,hl,_,_=>by simp at hl
theorem Jt(h:iu N xss bb φ)(hs:Sys N xss){pt:Int}:∀(f i:Nat) (out:ah),Good N xss pt out->jk bb f i (out.map φ)=(jk xss f i out).map φ
 | 0,_,_,_=>rfl
 | f+1,i,out,hg=>by
  simp only [jk,fQ]
  by_cases hi:i<out.length
  ·rw [aJ hi,aJ hi,Ky hi];have hx:=gi_in hi;have hr:=hg.range _ hx;have e:expand bb (φ (gi out i)) (out.map φ)=(expand xss (gi out i) out).map φ:=fold_map h.inj xss bb out h.len hg.range (fun j hj=> ⟨(hs (gl xss j) (by rw [cM hj];exact dd _)).2 _ hr.1 hr.2,h.rp j _ hj hr.1 hr.2⟩);rw [e];exact Jt h hs f (i+1) _ (foldl_push hs xss out (fun p hp=>hp) hg hx).1
  ·rw [aC hi,aC hi]
theorem N6(h:iu N xss bb φ)(hs:Sys N xss){pt:Int}(h0:0<=pt)(h1:pt<N):da N bb (φ pt)=(da N xss pt).map φ:=Jt h hs (N+1) 0 [pt] (Cv h0 h1)
theorem Sx(h:iu N xss bb φ)(hM:bj xss)(hN:N=(gl xss 0).length){pt:Int}(h0:0<=pt)(h1:pt<N):cW N bb (φ pt)=cW N xss pt:=by
 have hs:=hM.2.2.1.sys;have hP:=hM.uR h0 (by rw [<-hN];exact h1);rw [<-hN]at hs hP;have ho:=N6 h hs h0 h1;have T4:mX N ((da N xss pt).map φ):=by
  refine⟨by rw [fQ];exact hP.len,?_,fun x hx=>?_⟩
  ·rw [List.nodup_iff_pairwise_ne,nJ];exact List.Pairwise.imp_of_mem (fun ha hb jn e=>jn (h.inj _ _ (hP.range _ ha).1 (hP.range _ ha).2 (hP.range _ hb).1 (hP.range _ hb).2 e)) (List.nodup_iff_pairwise_ne.1 hP.nodup)
  obtain⟨y,hy,rfl⟩:=fx.1 hx;exact h.eS y (hP.range y hy).1 (hP.range y hy).2
 have hb:∀z:Int,0<=z->z<N->gi (gJ N ((da N xss pt).map φ)) (φ z)=gi (gJ N (da N xss pt)) z:=fun z h0 h1=>by
  obtain⟨k,hk,e1,e2⟩:=hP.ql h0 h1;have:=T4.back hk;rw [Ky (by rw [hP.len];exact hk),e1]at this;rw [this,e2]
 unfold cW;rw [ho];apply gD
 ·simp [h.len]
 intro i h2 h3;simp only [fQ]at h2 h3;simp only [List.getElem_map];unfold kj;rw [List.map_map];apply pg;intro x hx;have hx:=hP.range x hx;have hr:=(hs (gl xss i) (by rw [cM h3];exact dd _)).2 x hx.1 hx.2;have hc:=h.rp i x h3 hx.1 hx.2;rw [cM h2,cM h3]at hc;rw [cM h3]at hr;show gi _ (gi bb[i] (φ x))=_;rw [hc,hb _ hr.1 hr.2]
variable {f:Int}
theorem Cp(hM:bj xss)(hN:N=(gl xss 0).length)(h0:0<=f)(h1:f<N):iu N xss (cW N xss f) (gi (gJ N (da N xss f))):=by
 have hs:=hM.2.2.1.sys;have hP:=hM.uR h0 (by rw [<-hN];exact h1);rw [<-hN]at hs hP;refine⟨mh _ _ _,fun x hx dG=>?_,fun x y hx dG hy tj e=>?_,fun i x hi hx dG=>?_⟩
 ·obtain⟨k,hk,_,e⟩:=hP.ql hx dG;omega
 ·obtain⟨k,hk,e1,e2⟩:=hP.ql hx dG;obtain⟨j,hj,e3,e4⟩:=hP.ql hy tj;have:(k:Int)=j:=by omega
  rw [<-e1,<-e3,this]
 obtain⟨k,hk,e1,e2⟩:=hP.ql hx dG;rw [e2,cM (by rw [mh];exact hi)];simp only [cW,List.getElem_map];rw [bN (by rw [D5,hP.len];exact hk)];simp only [kj,List.getElem_map];rw [<-bN (by rw [hP.len];exact hk),e1,cM hi]
theorem Sz(hM:bj xss)(hN:N=(gl xss 0).length)(h0:0<=f)(h1:f<N):gi (da N xss f) 0=f/\gi (gJ N (da N xss f)) f=0:=by
 have hs:=hM.2.2.1.sys;have hP:=hM.uR h0 (by rw [<-hN];exact h1);rw [<-hN]at hs hP;have e:=tV (qN hs h0 h1).2.1 (i:=0) (by simp);have e:gi (da N xss f) 0=f:=e;refine⟨e,?_⟩;have:=hP.back (k:=0) (by omega);have this:gi (gJ N (da N xss f)) (gi (da N xss f) 0)=0:=this
 rwa [e]at this
theorem Kn(hM:bj xss)(hN:N=(gl xss 0).length)(h0:0<=f)(h1:f<N):da N (cW N xss f) 0=dH N:=by
 have hs:=hM.2.2.1.sys;have hP:=hM.uR h0 (by rw [<-hN];exact h1);rw [<-hN]at hs hP;have h:=N6 (Cp hM hN h0 h1) hs h0 h1;rw [(Sz hM hN h0 h1).2]at h;rw [h];apply gD
 ·rw [fQ,hP.len,kS]
 intro i h2 h3;rw [kS]at h3;rw [List.getElem_map,<-bN (by rw [hP.len];exact h3),hP.back h3];simp [dH]
theorem Sv(hM:bj xss)(hN:N=(gl xss 0).length)(h0:0<=f)(h1:f<N){g:Int}(h2:0<=g)(h3:g<N):∃k:Nat,k<N/\(k:Int)=gi (da N xss f) g/\cW N (cW N xss f) g=cW N xss k:=by
 have hP:=hM.uR h0 (by rw [<-hN];exact h1);rw [<-hN]at hP;obtain⟨q,rfl⟩:∃q:Nat,g=q:=⟨g.toNat,by omega⟩;have hr:=hP.eS (k:=q) (by omega);have h:=Sx (Cp hM hN h0 h1) hM hN hr.1 hr.2;rw [hP.back (by omega)]at h;refine⟨(gi (da N xss f) q).toNat,by omega,by omega,?_⟩;rw [h,Int.toNat_of_nonneg hr.1]
end
section
variable {n F:Nat} {L:ag}
theorem Co(x:Int):∀(ps:ag) (out:ah),out<+:ps.foldl (fun o p=>fh o (gi p x)) out
 | [],_=>List.prefix_rfl
 | p::ps,out=> (D0 out (gi p x)).trans (Co x ps _)
theorem B5(xss:ag):∀(k i:Nat) (out:ah),out<+:jk xss k i out
 | 0,_,_=>List.prefix_rfl
 | k+1,i,out=>by
  simp only [jk]
  split
  ·exact(Co _ xss out).trans (B5 xss k (i+1) _)
  ·exact List.prefix_rfl
theorem Ip{m:Nat}{l:ah}(h:l<+:dH m):l=dH l.length/\l.length<=m:=by
 have hl:=h.length_le;rw [kS]at hl;refine⟨?_,hl⟩;apply gD
 ·rw [kS]
 intro i h1 h2;have:=tV h h1;rw [Bz (by omega)]at this;rw [<-bN h1,<-this];simp [dH]
theorem Zv{m:Nat}{v:Int}(h0:0<=v)(h:fh (dH m) v<+:dH F):v<=m/\fh (dH m) v=dH (max m (v.toNat+1)):=by
 have hv:v<=m:=by
  unfold fh at h
  by_cases hm:v∈dH m
  ·have:=(wA.1 hm).2;omega
  rw [aC hm]at h;have h1:=(Ip h).1;rw [e8,kS,List.length_singleton,OI]at h1;have:=List.append_cancel_left h1;simp at this;omega
 exact⟨hv,Ol h0 hv⟩
theorem R7(hl:L.length=n)(hn:0<n)(hs:Sys F L){f:Nat}(hf:f<F)(C5:f<fg L n (f*n))(hp:expand L f (dH (fg L n (f*n)))<+:dH F):
 expand L f (dH (fg L n (f*n)))=dH (fg L n ((f+1)*n))/\∀a,f*n<=a->a< (f+1)*n->RG L n a:=by
 have e1:(f+1)*n=f*n+n:=by rw [Nat.succ_mul]
 have key:∀j,j<=n->(L.take j).foldl (fun o p=>fh o (gi p f)) (dH (fg L n (f*n)))=dH (fg L n (f*n+j))/\f<fg L n (f*n+j)/\∀a,f*n<=a->a<f*n+j->RG L n a:=by
  intro j
  induction j with
  | zero=>intro _;exact⟨rfl,C5,fun a h1 h2=>by omega⟩
  | succ j ih=>
   intro hj;obtain⟨Wz,WA,WB⟩:=ih (by omega);have fI:j<L.length:=by omega
   have zC:(f*n+j)%n=j:=by rw [Nat.mul_comm,Nat.mul_add_mod];exact Nat.mod_eq_of_lt (by omega)
   have vD:(f*n+j) / n=f:=by rw [Nat.mul_comm,Nat.mul_add_div hn];rw [Nat.div_eq_of_lt (by omega)];omega
   have hc:cell L j f=gi (L[j]) f:=by
    unfold cell;rw [show gl L j=L[j] by simp [gl,df,dL fI]]
   have h0:=((hs L[j] (dd _)).2 f (by omega) (by omega)).1;have e2:(L.take (j+1)).foldl (fun o p=>fh o (gi p f)) (dH (fg L n (f*n)))=fh (dH (fg L n (f*n+j))) (gi L[j] f):=by
    rw [lG fI,List.foldl_append,Wz]
    rfl
   have fX:(L.take (j+1)).foldl (fun o p=>fh o (gi p f)) (dH (fg L n (f*n)))<+:dH F:=by
    refine List.IsPrefix.trans ?_ hp;have e3:expand L f (dH (fg L n (f*n)))=(L.drop (j+1)).foldl (fun o p=>fh o (gi p f)) ((L.take (j+1)).foldl (fun o p=>fh o (gi p f)) (dH (fg L n (f*n)))):=by
     rw [<-List.foldl_append,List.take_append_drop]
     rfl
    rw [e3];exact Co _ _ _
   rw [e2]at fX;have h3:=Zv h0 fX;have em:fg L n (f*n+ (j+1))=max (fg L n (f*n+j)) ((gi L[j] f).toNat+1):=by
    show max (fg L n (f*n+j)) ((cell L ((f*n+j)%n) ((f*n+j) / n:Nat)).toNat+1)=_;rw [zC,vD,hc]
   refine⟨by rw [e2,h3.2,em],by rw [em];omega,fun a h1 h2=>?_⟩
   by_cases e:a=f*n+j
   ·subst e;unfold RG;rw [zC,vD,hc];exact⟨h0,h3.1,WA⟩
   ·exact WB a h1 (by omega)
 have:=key n (dE _);rw [jc (by omega)]at this;rw [e1];exact⟨this.1,this.2.2⟩
theorem OJ(hl:L.length=n)(hn:0<n)(hs:Sys F L):∀(k i:Nat),jk L k i (dH (fg L n (i*n)))=dH F->i<=fg L n (i*n)->F<k+i->(∀a,a<i*n->RG L n a)->fg L n (F*n)=F/\∀a,a<F*n->RG L n a
 | 0,i,h,hi,hk,hR=>by
  have h1:=(Ip (m:=F) (l:=dH (fg L n (i*n))) (by have:=B5 L 0 i (dH (fg L n (i*n)));rwa [h]at this)).2;rw [kS]at h1;omega
 | k+1,i,h,hi,hk,hR=>by
  have h1:=(Ip (m:=F) (l:=dH (fg L n (i*n))) (by have:=B5 L (k+1) i (dH (fg L n (i*n)));rwa [h]at this)).2;rw [kS]at h1;simp only [jk]at h;rw [kS]at h
  by_cases cI:i<fg L n (i*n)
  ·rw [aJ cI,Bz cI]at h;have hp:=B5 L k (i+1) (expand L i (dH (fg L n (i*n))));rw [h]at hp;obtain⟨e,hE⟩:=R7 hl hn hs (by omega) cI hp;rw [e]at h hp;refine OJ hl hn hs k (i+1) h ?_ (by omega) (fun a ha=>?_)
   ·have h2:=(hE (i*n+ (n - 1)) (by omega) (by rw [Nat.succ_mul];omega));have h3:fg L n ((i+1)*n)>=fg L n (i*n):=by
     have:dH (fg L n (i*n))<+:dH (fg L n ((i+1)*n)):=by rw [<-e];exact Co _ L _
     have:=this.length_le
     rwa [kS,kS]at this
    omega
   ·by_cases h4:a<i*n
    ·exact hR a h4
    ·exact hE a (by omega) ha
  ·rw [aC cI]at h;have h2:=bw List.length h;rw [kS,kS]at h2;have:i=F:=by omega
   subst this;exact⟨h2,hR⟩
theorem Reach.rq(hI:kb n F L)(hs:Sys F L)(hF:0<F){x:Int}(h:Reach L 0 x):(0<=x/\x<F)/\qf n L x:=by
 induction h with
 | refl=>exact⟨⟨by omega,by omega⟩,.zero⟩
 | @step y p _ hp ih=>
  obtain⟨i,hi,rfl⟩:=gu.1 hp;have hr:=(hs _ hp).2 y ih.1.1 ih.1.2;have e:gi L[i] y=cell L i y:=by
   unfold cell;rw [cM hi]
  rw [e]at hr|-;exact⟨hr,.step ih.2 (by rw [<-hI.1];exact hi) ih.1.1 hr.1⟩
theorem Rl{M L:ag}(hM:kb n F M)(hL:kb n F L)(h:∀(i f:Nat),i<n->f<F->cell M i f=cell L i f):M=L:=by
 apply gD
 ·rw [hM.1,hL.1]
 intro i h1 h2;apply gD
 ·rw [hM.2 _ (dd _),hL.2 _ (dd _)]
 intro j h3 h4;have hj:=hM.2 _ (dd h1);have:=h i j (by rw [<-hM.1];exact h1) (by omega);unfold cell at this;rw [cM h1,cM h2,bN h3,bN h4]at this;exact this
theorem Fx(hL:Inv n F L F (F*n))(hm:fg L n (F*n)=F)(hR:∀a,a<F*n->RG L n a):∀(k at_ met:Nat) (M:ag),Inv n F M met at_->Ext n F M L->fg L n at_=met->F*n<k+at_->L∈grow n F (fun _ _ _=>true) (fun _=>true) k at_ met M
 | 0,at_,met,M,h,hE,uz,hk=>by
  have:=h.le;have:=Nat.mul_le_mul_right n h.kz;omega
 | k+1,at_,met,M,h,hE,uz,hk=>by
  have hle:=h.le;have xV:=h.kz;have Dg:=Nat.mul_le_mul_right n xV;have hn:=h.n0;simp only [grow]
  by_cases ha:at_=met*n
  ·have h1:at_=F*n:=by
    apply kV;intro b9;have:=(hR at_ (by omega)).2.2;rw [uz,ha,Nat.mul_div_cancel _ hn]at this;omega
   rw [h1,hm]at uz;subst uz;rw [aJ ha,aJ ⟨rfl,au⟩];have:M=L:=Rl h.dz hL.dz (fun i f hi hf=>by
    have cI:f*n+i<at_:=by
     have:(f+1)*n<=F*n:=Nat.mul_le_mul_right n (by omega);rw [Nat.succ_mul]at this;omega
    have eF:=h.known _ cI;rw [Nat.add_comm,Nat.add_mul_mod_self_right,Nat.mod_eq_of_lt hi,Nat.add_mul_div_right _ _ hn,Nat.div_eq_of_lt hi,Nat.zero_add]at eF;exact(hE i f hi (by omega) (by omega) eF).symm)
   rw [this];simp
  ·rw [aC ha];have hp:=h.pos ha;have lg:at_<F*n:=by omega
   have Lo:=hR at_ lg;rw [RG,uz]at Lo;have ig:fg L n (at_+1)=max met ((cell L (at_%n) (at_ / n:Nat)).toNat+1):=by rw [<-uz];rfl
   by_cases hc:0<=cell M (at_%n) (at_ / n:Nat)
   ·rw [aJ hc];have e:=hE (at_%n) (at_ / n:Nat) hp.1 (Int.natCast_nonneg _) (Int.ofNat_lt.2 (by omega)) hc;have pM:=h.cells (at_%n) (at_ / n:Nat) hp.1 (Int.natCast_nonneg _) (Int.ofNat_lt.2 (by omega));refine Fx hL hm hR k _ _ _ (h.next ha hc) hE ?_ (by omega);rw [ig,e];omega
   ·rw [aC hc,List.mem_flatMap];have xw:=hL.inv hp.1 (f:=((at_ / n:Nat):Int)) (Int.natCast_nonneg _) (Int.ofNat_lt.2 (by omega));generalize hg:(cell L (at_%n) (at_ / n:Nat)).toNat=g at*;have jD:cell L (at_%n) (at_ / n:Nat)=(g:Int):=by omega
    rw [jD]at xw Lo;have FV:¬0<=cell M (at_%n) (g:Nat):=fun h0=>by
     have e:=hE (at_%n) (g:Nat) hp.1 (Int.natCast_nonneg _) xw.2.1 h0;have zH:=h.cells (at_%n) (g:Nat) hp.1 (Int.natCast_nonneg _) xw.2.1;rw [<-e,xw.2.2.1]at zH;rcases zH with zH | zH
     ·omega
     ·rw [zH.2.2.2.1]at hc;omega
    have xN:at_ / n<g:=by
     apply kV;intro hng;have b9:g≠at_ / n:=fun e=>xw.2.2.2 (by omega)
     have cI:g*n+at_%n<at_:=by
      have h1:(g+1)*n<=(at_ / n)*n:=Nat.mul_le_mul_right n (by omega);rw [Nat.succ_mul]at h1;have h2:=Nat.div_add_mod at_ n;rw [Nat.mul_comm]at h2;have:=hp.1;omega
     have eF:=h.known _ cI;rw [Nat.add_comm,Nat.add_mul_mod_self_right,Nat.mod_mod,Nat.add_mul_div_right _ _ hn,Nat.div_eq_of_lt hp.1,Nat.zero_add]at eF;exact FV eF
    refine⟨g,List.mem_range'_1.2 ⟨by omega,by omega⟩,?_⟩;rw [aC FV,aJ au];have pN:g<=met:=by omega
    have xM:g<F:=by omega
    refine Fx hL hm hR k _ _ _ (h.put ha hc xN pN xM FV) (fun i x hi hx yc zK=>?_) (by rw [ig]) (by omega);rw [vb h.dz hp.1 (by omega) xM hx]at zK|-
    split
    ·rename_i e;obtain⟨rfl,rfl⟩:=e;exact xw.2.2.1
    ·rename_i e1;rw [aC e1]at zK
     split
     ·rename_i e;obtain⟨rfl,rfl⟩:=e;exact jD
     ·rename_i e2;rw [aC e2]at zK;exact hE i x hi hx yc zK
end
section
variable {N:Nat} {xss:ag} {f:Int}
theorem Sw(hM:bj xss)(hN:N=(gl xss 0).length)(h0:0<=f)(h1:f<N):Inv xss.length N (cW N xss f) N (N*xss.length)/\bj (cW N xss f):=by
 have hP:=hM.uR h0 (by rw [<-hN];exact h1);have hs:=hM.2.2.1.sys;rw [<-hN]at hP hs;have hI:=Cp hM hN h0 h1;have CA:=hM.2.1;have hn:=hM.1;have TX:2<=N/\N<=400:=by omega
 have G9:kb xss.length N (cW N xss f):=⟨mh _ _ _,fun p hp=>by
  obtain⟨mv,_,rfl⟩:=fx.1 hp;rw [D5,hP.len]⟩
 have hc:∀(i:Nat) (k:Nat),i<xss.length->k<N->cell (cW N xss f) i k=gi (gJ N (da N xss f)) (gi (gl xss i) (gi (da N xss f) k)):=fun i k hi hk=>by
  have hr:=hP.eS hk;have:=hI.rp i _ hi hr.1 hr.2;rw [hP.back hk]at this;exact this
 have cS:∀(i:Nat) (x:Int),i<xss.length->0<=x->x<N->0<=gi (gl xss i) x/\gi (gl xss i) x<N:=fun i x hi hx dG=> (hs (gl xss i) (by rw [cM hi];exact dd _)).2 x hx dG
 have U5:∀(i:Nat) (x:Int),i<xss.length->0<=x->x<N->gi (gl xss i) x≠x/\gi (gl xss i) (gi (gl xss i) x)=x:=fun i x hi hx dG=>by
  have h:=(hM.2.2.1.at_ hi);have:=h.2.2 x.toNat (by omega);rw [Int.toNat_of_nonneg hx]at this;exact this
 have pM:∀(i:Nat) (k:Nat),i<xss.length->k<N->∃j:Nat,j<N/\cell (cW N xss f) i k=j/\gi (da N xss f) j=gi (gl xss i) (gi (da N xss f) k):=fun i k hi hk=>by
  have hr:=hP.eS hk;have hq:=cS i _ hi hr.1 hr.2;obtain⟨j,hj,e1,e2⟩:=hP.ql hq.1 hq.2;exact⟨j,hj,by rw [hc i k hi hk,e2],e1⟩
 have xv:Inv xss.length N (cW N xss f) N (N*xss.length):=by
  refine⟨G9,by omega,by omega,dE _,fun i x hi hx dG=> .inr ?_,fun a ha=>?_,fun x hx=>?_,dE _⟩
  ·obtain⟨k,rfl⟩:∃k:Nat,x=k:=⟨x.toNat,by omega⟩;have hk:k<N:=by omega
   obtain⟨j,hj,e1,e2⟩:=pM i k hi hk;obtain⟨l,hl,e3,e4⟩:=pM i j hi hj;have hr:=hP.eS hk;have hf:=U5 i _ hi hr.1 hr.2;rw [e2,hf.2]at e4;have el:=hP.inj hl hk e4;rw [e1,e3,el];refine⟨by omega,by omega,dG,O,fun e=>?_⟩;have:j=k:=by omega
   rw [this]at e2;exact hf.1 e2.symm
  ·have vD:a / xss.length<N:=Nat.div_lt_of_lt_mul (by rw [Nat.mul_comm];exact ha);obtain⟨j,hj,e1,_⟩:=pM (a%xss.length) (a / xss.length) (Nat.mod_lt _ (by omega)) vD;rw [e1];omega
  have MJ:Sys N (cW N xss f):=fun p hp=>by
   refine⟨G9.2 p hp,fun x hx dG=>?_⟩;obtain⟨i,hi,rfl⟩:=gu.1 hp;rw [mh]at hi;obtain⟨k,rfl⟩:∃k:Nat,x=k:=⟨x.toNat,by omega⟩;obtain⟨j,hj,e1,_⟩:=pM i k hi (by omega);unfold cell at e1;rw [cM (by rw [mh];exact hi)]at e1;omega
  have ho:=Kn hM hN h0 h1;have:=(qN MJ (pt:=0) (by omega) (by omega)).2.2 (x:Int);rw [ho]at this;exact(Reach.rq G9 MJ (by omega) (this.1 (wA.2 ⟨by omega,by omega⟩))).2
 refine⟨xv,xv.we hn.2 TX (fun e he i hi k hk gy=>?_)⟩;rw [mh]at hi hk;have hr:=hP.eS he;obtain⟨j1,LY,a1,b1⟩:=pM i e hi he;obtain⟨j2,Gx,a2,b2⟩:=pM k e hk he;obtain⟨j3,Vi,a3,b3⟩:=pM k j1 hk LY;obtain⟨j4,Vj,a4,b4⟩:=pM i j2 hi Gx;obtain⟨q,hq⟩:∃q:Nat,gi (da N xss f) e=q:=⟨(gi (da N xss f) e).toNat,by omega⟩;have nV:=hM.2.2.2.1 i hi k hk gy q (by omega);unfold Comm at nV;rw [<-hq]at nV;refine⟨fun _ e1=>?_,fun _ _=>?_⟩
 ·rw [a1,a2]at e1;have:j1=j2:=by omega
  rw [this]at b1;exact nV.2 (by rw [<-b1,<-b2])
 unfold kn;rw [a1,a2,aC (by omega),aC (by omega),a3,a4];have:gi (da N xss f) j3=gi (da N xss f) j4:=by rw [b3,b4,b1,b2];exact nV.1
 rw [hP.inj Vi Vj this]
theorem Sy(hM:bj xss)(hN:N=(gl xss 0).length)(h0:0<=f)(h1:f<N):cW N xss f∈pv xss.length N:=by
 obtain⟨hI,hV⟩:=Sw hM hN h0 h1;have hn:=hI.n0;have TT:0<N:=by omega
 have hs:Sys N (cW N xss f):=by
  have:=hV.2.2.1.sys;have e:(gl (cW N xss f) 0).length=N:=hI.dz.row (i:=0) hn
  rwa [e]at this
 have ho:=Kn hM hN h0 h1;have hR:=OJ (L:=cW N xss f) (n:=xss.length) (F:=N) (mh _ _ _) hn hs (N+1) 0 (by rw [Nat.zero_mul];exact ho) (bA _) (by omega) (fun a ha=>by omega);refine jb.2 ⟨Fx hI hR.1 hR.2 _ _ _ _ (Inv.blank hn TT) (fun i x hi hx yc hc=>?_) O (by omega),fo hV⟩;exfalso;have:=EX (n:=xss.length) (F:=N) hi hx yc;omega
theorem NC(hM:bj xss)(hN:N=(gl xss 0).length):∃f:Nat,f<N/\gO N xss=cW N xss f:=HG (by have:=hM.2.1;omega) N (dE _)
theorem Yo(hM:bj xss)(hN:N=(gl xss 0).length):gO N xss∈od xss.length N:=by
 obtain⟨f,hf,e⟩:=NC hM hN;rw [DK];refine⟨by rw [e];exact Sy hM hN (by omega) (by omega),fun g hg=>?_⟩;obtain⟨k,hk,_,e2⟩:=Sv hM hN (f:=(f:Int)) (by omega) (by omega) (g:=(g:Int)) (by omega) (by omega);have:=(HH (N:=N) (xss:=xss) N).2 k hk;rw [e,e2,<-e];exact this
end
section
variable {N:Nat} {xss:ag} {p q:ah}
variable {ps:ag}
end
section
variable {N:Nat} {xss:ag} {b:Int} {i k:Nat} {L Q:ah}
end
end
section
open Go.RowKit
theorem St.isSome{w0 w:aa}{ks:List Ck}{i:Nat}{t:ad}{A:ai}{n c:Nat}{xs:ah}(h:St w0 w ks)(hk:ks[i]?=some (ax t A n c xs))(hn:0<n):∃a,A=some a:=by
 obtain⟨h1,h2,h3,h4⟩:=h.nO hk (oX _);rcases h4 with⟨hA,lj⟩ | ⟨g,o,cur,hA,_⟩
 ·have e1:c=0:=lj;have e2:n<=c:=h2;omega
 exact⟨_,hA⟩
end
section
structure qY(N N':Nat)(xss bb:ag)(q:Int->Int):Prop where
 eS:∀x:Int,0<=x->x<N->0<=q x/\q x<N'
 rp:∀(m:Nat) (x:Int),m<xss.length->0<=x->x<N->q (gi (gl xss m) x)=gi (gl bb m) (q x)
theorem iu.RR{N:Nat}{xss bb:ag}{φ:Int->Int}(h:iu N xss bb φ):qY N N xss bb φ:=⟨h.eS,fun m x hm h0 h1=> (h.rp m x hm h0 h1).symm⟩
structure CJ(N N':Nat)(xss bb:ag)(b:Int)(i k:Nat)(L Q:ah):Prop where
 len:L.length=N
 val:∀x:Int,0<=x->x<N->(gi L x= -1/\x∉Q)\/((0<=gi L x/\gi L x<N')/\x∈Q)
 Bi:Q.Nodup
 eS:∀x∈Q,0<=x/\x< (N:Int)
 q0:(0:Int)∈Q
 l0:gi L 0=b
 le:i<=Q.length
 done:∀j,j<i->∀m,m<xss.length->gi L (gi (gl xss m) (gi Q j))=gi (gl bb m) (gi L (gi Q j))
 part:∀m,m<k->gi L (gi (gl xss m) (gi Q i))=gi (gl bb m) (gi L (gi Q i))
 uniq:∀q,qY N N' xss bb q->q 0=b->∀x∈Q,gi L x=q x
section
variable {N N':Nat} {xss bb:ag} {b:Int} {i k:Nat} {L Q:ah}
theorem CJ.init(h0:0<N)(eP:0<=b)(fp:b<N'):CJ N N' xss bb b 0 0 ((List.replicate N (-1)).set 0 b) [0]:=by
 have hg:∀x:Int,0<=x->x<N->gi ((List.replicate N (-1)).set 0 b) x=if(0:Int)=x then b else -1:=fun x hx dG=>by
  have:=lL (S:=List.replicate N (-1)) (x:=0) (y:=x) (b:=b) (by omega) (by simp;omega) hx;rw [show Int.toNat 0=0 from rfl]at this;rw [this,sI hx dG]
 refine⟨by simp,fun x hx dG=>?_,by simp,fun x hx=>by simp at hx;omega,by simp,by rw [hg 0 (by omega) (by omega),aJ O],bA _,fun j hj=>by omega,fun m hm=>by omega,fun q _ e x hx=>?_⟩
 ·rw [hg x hx dG]
  by_cases e:(0:Int)=x
  ·rw [aJ e];exact .inr ⟨⟨eP,fp⟩,by simp [<-e]⟩
  rw [aC e];exact .inl ⟨rfl,by simp;omega⟩
 simp at hx;subst hx;rw [hg 0 (by omega) (by omega),aJ rfl,e]
theorem CJ.at_(h:CJ N N' xss bb b i k L Q)(hs:Sys N xss)(ky:Sys N' bb)(hl:bb.length=xss.length)(hi:i<Q.length)(hk:k<xss.length):(0<=gi Q i/\gi Q i<N)/\(0<=gi L (gi Q i)/\gi L (gi Q i)<N')/\(0<=gi (gl xss k) (gi Q i)/\gi (gl xss k) (gi Q i)<N)/\(0<=gi (gl bb k) (gi L (gi Q i))/\gi (gl bb k) (gi L (gi Q i))<N'):=by
 have hm:=gi_in hi;have hr:=h.eS _ hm;have hv:0<=gi L (gi Q i)/\gi L (gi Q i)<N':=by
  rcases h.val _ hr.1 hr.2 with h1 | h1
  ·exact absurd hm h1.2
  exact h1.1
 have cS:=(hs (gl xss k) (by rw [cM hk];exact dd _)).2;have zO:=(ky (gl bb k) (by rw [cM (by omega)];exact dd _)).2;exact⟨hr,hv,cS _ hr.1 hr.2,zO _ hv.1 hv.2⟩
theorem CJ.same(h:CJ N N' xss bb b i k L Q)(e:gi L (gi (gl xss k) (gi Q i))=gi (gl bb k) (gi L (gi Q i))):CJ N N' xss bb b i (k+1) L Q:=
 ⟨h.len,h.val,h.Bi,h.eS,h.q0,h.l0,h.le,h.done,fun m hm=>by
  by_cases e2:m=k
  ·subst e2;exact e
  exact h.part m (by omega),h.uniq⟩
theorem CJ.set(h:CJ N N' xss bb b i k L Q)(hs:Sys N xss)(ky:Sys N' bb)(hl:bb.length=xss.length)(hi:i<Q.length)(hk:k<xss.length)(Ml:gi L (gi (gl xss k) (gi Q i))<0):
 CJ N N' xss bb b i (k+1) (L.set (gi (gl xss k) (gi Q i)).toNat (gi (gl bb k) (gi L (gi Q i)))) (Q++ [gi (gl xss k) (gi Q i)]):=by
 obtain⟨hr,hv,hg,ht⟩:=h.at_ hs ky hl hi hk;have hlen:=h.len;generalize pP:gi (gl xss k) (gi Q i)=g at*;have uC:∀x:Int,0<=x->gi (L.set g.toNat (gi (gl bb k) (gi L (gi Q i)))) x=if g=x then gi (gl bb k) (gi L (gi Q i))else gi L x:=fun x hx=>lL hg.1 (by omega) hx
 have pO:g∉Q:=fun hm=>by
  rcases h.val g hg.1 hg.2 with h1 | h1
  ·exact h1.2 hm
  omega
 have vN:∀x∈Q,gi (L.set g.toNat (gi (gl bb k) (gi L (gi Q i)))) x=gi L x:=fun x hx=>by
  rw [uC x (h.eS x hx).1,aC (fun e=>pO (by rw [e];exact hx))]
 have GX:∀x:Int,0<=x->x<N->0<=gi L x->gi (L.set g.toNat (gi (gl bb k) (gi L (gi Q i)))) x=gi L x:=fun x hx dG h0=>by
  rcases h.val x hx dG with h1 | h1
  ·omega
  exact vN x h1.2
 have hQ:∀j:Nat,j<Q.length->gi (Q++ [g]) j=gi Q j:=fun j hj=>tV (List.prefix_append _ _) hj
 have cS:∀(m:Nat) (x:Int),m<xss.length->0<=x->x<N->0<=gi (gl xss m) x/\gi (gl xss m) x<N:=fun m x hm hx dG=> (hs (gl xss m) (by rw [cM hm];exact dd _)).2 x hx dG
 have zO:∀(m:Nat) (x:Int),m<xss.length->0<=x->x<N'->0<=gi (gl bb m) x/\gi (gl bb m) x<N':=fun m x hm hx dG=> (ky (gl bb m) (by rw [cM (by omega)];exact dd _)).2 x hx dG
 have mS:∀x∈Q,0<=gi L x/\gi L x<N':=fun x hx=>by
  have uE:=h.eS x hx;rcases h.val x uE.1 uE.2 with h1 | h1
  ·exact absurd hx h1.2
  exact h1.1
 have keep:∀(j m:Nat),j<Q.length->m<xss.length->gi L (gi (gl xss m) (gi Q j))=gi (gl bb m) (gi L (gi Q j))->gi (L.set g.toNat (gi (gl bb k) (gi L (gi Q i)))) (gi (gl xss m) (gi (Q++ [g]) j))=gi (gl bb m) (gi (L.set g.toNat (gi (gl bb k) (gi L (gi Q i)))) (gi (Q++ [g]) j)):=fun j m hj hm e=>by
  have rI:=gi_in hj;have L8:=h.eS _ rI;have Da:=mS _ rI;have h1:=cS m _ hm L8.1 L8.2;have h2:=zO m _ hm Da.1 Da.2;rw [hQ j hj,vN _ rI,GX _ h1.1 h1.2 (by omega),e]
 refine⟨by rw [gR];exact h.len,fun x hx dG=>?_,?_,fun x hx=>?_,List.mem_append_left _ h.q0,?_,by rw [e8];omega,fun j hj m hm=>keep j m (by omega) hm (h.done j hj m hm),fun m hm=>?_,fun q hq eq x hx=>?_⟩
 ·rw [uC x hx]
  by_cases e:g=x
  ·rw [aJ e];exact .inr ⟨ht,by simp [e]⟩
  rw [aC e];rcases h.val x hx dG with h1 | h1
  ·exact .inl ⟨h1.1,by simp [h1.2];omega⟩
  exact .inr ⟨h1.1,List.mem_append_left _ h1.2⟩
 ·rw [List.nodup_append];exact⟨h.Bi,by simp,fun a ha c hc e=>by simp at hc;subst hc;subst e;exact pO ha⟩
 ·rcases gE.1 hx with hx | hx
  ·exact h.eS x hx
  simp at hx;subst hx;exact hg
 ·rw [vN 0 h.q0];exact h.l0
 ·by_cases e:m=k
  ·subst e;rw [hQ i hi,vN _ (gi_in hi),pP,uC g hg.1,aJ rfl]
  by_cases rN:m<xss.length
  ·exact keep i m hi rN (h.part m (by omega))
  omega
 rcases gE.1 hx with hx | hx
 ·rw [vN x hx];exact h.uniq q hq eq x hx
 simp at hx;subst hx;have h1:=hq.rp k _ hk hr.1 hr.2;rw [uC _ hg.1,aJ rfl,h.uniq q hq eq _ (gi_in hi),<-h1,pP]
theorem CJ.none(h:CJ N N' xss bb b i k L Q)(hs:Sys N xss)(ky:Sys N' bb)(hl:bb.length=xss.length)(hi:i<Q.length)(hk:k<xss.length)(h0:¬gi L (gi (gl xss k) (gi Q i))<0)(b9:gi L (gi (gl xss k) (gi Q i))≠gi (gl bb k) (gi L (gi Q i))):∀q,qY N N' xss bb q->q 0=b->False:=fun q hq eq=>by
 obtain⟨hr,hv,hg,ht⟩:=h.at_ hs ky hl hi hk;rcases h.val _ hg.1 hg.2 with h1 | h1
 ·omega
 have e1:=h.uniq q hq eq _ h1.2;have e2:=h.uniq q hq eq _ (gi_in hi);have e3:=hq.rp k _ hk hr.1 hr.2;rw [<-e1,<-e2]at e3;exact b9 e3
theorem CJ.next(h:CJ N N' xss bb b i xss.length L Q)(hi:i<Q.length):CJ N N' xss bb b (i+1) 0 L Q:=
 ⟨h.len,h.val,h.Bi,h.eS,h.q0,h.l0,hi,fun j hj m hm=>by
  by_cases e:j=i
  ·subst e;exact h.part m hm
  exact h.done j (by omega) m hm,fun m hm=>by omega,h.uniq⟩
theorem CJ.end_(h:CJ N N' xss bb b i 0 L Q)(hM:bj xss)(hN:N=(gl xss 0).length)(ky:Sys N' bb)(hl:bb.length=xss.length)(hi:Q.length<=i):qY N N' xss bb (gi L)/\gi L 0=b:=by
 have hs:=hM.2.2.1.sys;have CA:=hM.2.1;rw [<-hN]at hs;have cS:∀(m:Nat) (x:Int),m<xss.length->0<=x->x<N->0<=gi (gl xss m) x/\gi (gl xss m) x<N:=fun m x hm hx dG=> (hs (gl xss m) (by rw [cM hm];exact dd _)).2 x hx dG
 have zO:∀(m:Nat) (x:Int),m<xss.length->0<=x->x<N'->0<=gi (gl bb m) x/\gi (gl bb m) x<N':=fun m x hm hx dG=> (ky (gl bb m) (by rw [cM (by omega)];exact dd _)).2 x hx dG
 have cz:∀x∈Q,∀m,m<xss.length->gi L (gi (gl xss m) x)=gi (gl bb m) (gi L x):=fun x hx m hm=>by
  obtain⟨j,hj,rfl⟩:=gu.1 hx;have:=h.done j (by omega) m hm
  rwa [bN hj]at this
 have mS:∀x∈Q,0<=gi L x/\gi L x<N':=fun x hx=>by
  have uE:=h.eS x hx;rcases h.val x uE.1 uE.2 with h1 | h1
  ·exact absurd hx h1.2
  ·exact h1.1
 have ct:∀y,Reach xss 0 y->y∈Q:=by
  intro y hy
  induction hy with
  | refl=>exact h.q0
  | step _ hm ih=>
   obtain⟨m,rN,rfl⟩:=gu.1 hm;have hr:=h.eS _ ih;have hv:=mS _ ih;have e:=cz _ ih m rN;have h1:=cS m _ rN hr.1 hr.2;have h2:=zO m _ rN hv.1 hv.2;rw [cM rN]at e h1;rcases h.val _ h1.1 h1.2 with h3 | h3
   ·omega
   ·exact h3.2
 have hQ:∀x:Int,0<=x->x<N->x∈Q:=fun x hx dG=>ct x (hM.all hx (by omega))
 exact⟨⟨fun x hx dG=>mS x (hQ x hx dG),fun m x hm hx dG=>cz x (hQ x hx dG) m hm⟩,h.l0⟩
end
end
section
open Go.RowKit
variable{w0 w:aa}
theorem RK(A:ai)(n c:Nat)(rs:List aO)(xss:ag)(D:ai)(cD:Nat)(rt:List aO)(bb:ag)(N:Nat)(b:Int)(w:aa)(hR:bl w A n rs xss)(hT:bl w D n rt bb)(hM:bj xss)(hY:bj bb)(hN:N=(gl xss 0).length)(qx:N=(gl bb 0).length)(h0:0<=b)(h1:b<N):
 aE prog 214 [.agg #[.slice A n c],.agg #[.slice D n cD],aj b] w (fun v w'=> (∃a c' L,v= .slice (some a) N c'/\qY N N xss bb (gi L)/\gi L 0=b/\St w w' [ax 2 (some a) N c' L])\/(v= .slice none 0 0/\(∀q,qY N N xss bb q->q 0=b->False)/\St w w' [])):=by
 have hn:=hM.1;have CA:=hM.2.1;have bP:=hR.len;have hs:=hM.2.2.1.sys;rw [<-hN]at hs;have ky:=hY.2.2.1.sys;rw [<-qx]at ky;have mw:=hT.len;have hl:bb.length=xss.length:=by omega
 have V4:∀k:Int,0<=k->k<n->(rg rt k).n=N:=fun k hk dp=>by
  have h1:=hT.jh hk dp;have h2:=(hY.2.2.1.at_ (k:=k.toNat) (by omega)).1;rw [Int.toNat_of_nonneg hk]at h2;omega
 have gI:∀k:Int,0<=k->k<n->(rg rs k).n=N:=fun k hk dp=>by
  have h1:=hR.jh hk dp;have h2:=(hM.2.2.1.at_ (k:=k.toNat) (by omega)).1;rw [Int.toNat_of_nonneg hk]at h2;omega
 have ie:=gI 0 (by omega) (by omega);refine bm func214 O ntmps214 O (bU O) (aY O (fD (St.refl w) O O ?_));intro Ab w1 aB;refine fD aB O O fun Ac w2 aw=>ao O (aH (uS Ab A n c _ _ (aw.rd 1 O) O) O ?_);rintro _ w2 ⟨rfl,rfl⟩;refine aH (uS Ac D n cD _ _ (aw.rd 0 O) O) O ?_;rintro _ w2 ⟨rfl,rfl⟩;refine az O (jw O (fun h=>h O) (aD O (fk aw O O O ?_)));intro A1 w3 aI;refine aH (nN Ab A n c rs xss _ _ (aI.rd 2 O) O (aI.bE hR) (by omega)) O ?_;rintro _ w3 ⟨rfl,rfl⟩;rw [ie];refine aH (yX A1 1 (-1) N _ (aI.bz 0 O) (by omega)) O ?_;rintro _ w4 ⟨A5,rfl,aA⟩;have aG:St w w4 [ax 2 A5 N N (List.replicate N (-1)),Bx 37 1 Ac [.slice D n cD],Bx 37 1 Ab [.slice A n c]]:=(aI.call aA).sub (List.Sublist.cons_cons _ (List.sublist_cons_self _ _));refine ao O (ay (aG.bz 0 O).2 O (ak.gQ 0 aG O O O (by omega) ?_));intro w5 aR;refine ao O (fk aR O O O ?_);intro A6 w6 aQ;have aQ:St w w6 [ax 2 A6 ([(0:Int)].length - 0) 1 ([(0:Int)].drop 0),ax 2 A5 N N ((List.replicate N (-1)).set 0 b),Bx 37 1 Ac [.slice D n cD],Bx 37 1 Ab [.slice A n c]]:=aQ;refine az O (Cd.loop (α:=Nat×ai×Nat×ah×ah) (fun z=> [(3,.pointer Ab),(4,.pointer Ac),(7,.slice A5 N N),(8,.slice z.2.1 (z.2.2.2.2.length - z.1) z.2.2.1)]) (fun z w'=>St w w' [ax 2 z.2.1 (z.2.2.2.2.length - z.1) z.2.2.1 (z.2.2.2.2.drop z.1),ax 2 A5 N N z.2.2.2.1,Bx 37 1 Ac [.slice D n cD],Bx 37 1 Ab [.slice A n c]]/\CJ N N xss bb b z.1 0 z.2.2.2.1 z.2.2.2.2) (fun z=>N+1 - z.1) (0,A6,1,(List.replicate N (-1)).set 0 b,[0]) (ac4 O) ⟨aQ,CJ.init (by omega) h0 h1⟩ ?_);rintro⟨i,bI,b8,L,Q⟩ e w7 ⟨a6,hC⟩;dsimp only at a6 hC|-;have tb:Q.length<=N:=tq hC.Bi hC.eS;have hle:=hC.le;refine aY O (aZ O O (az O ?_));refine aM _ O (fun h3=>?_) (fun h3=>?_)
 ·have di:i<Q.length:=by omega
  have hQ:=a6.bz 0 O;refine aD O (ay hQ.2 O (bc hQ O ?_));rw [Kx];refine ao O (aS (a6.rd 3 O) O (a8 (a6.rd 3 O) O ?_));refine aZ O O (az O ?_);refine Cd.loop (α:=Nat×ai×Nat×ah×ah) (fun z=> [(3,.pointer Ab),(4,.pointer Ac),(7,.slice A5 N N),(8,.slice z.2.1 (z.2.2.2.2.length - i) z.2.2.1),(9,aj (gi Q i)),(33,.slice A n c),(34,aj n),(35,aj (z.1:Int))]) (fun z w'=>St w w' [ax 2 z.2.1 (z.2.2.2.2.length - i) z.2.2.1 (z.2.2.2.2.drop i),ax 2 A5 N N z.2.2.2.1,Bx 37 1 Ac [.slice D n cD],Bx 37 1 Ab [.slice A n c]]/\CJ N N xss bb b i z.1 z.2.2.2.1 z.2.2.2.2/\z.1<=n/\Q<+:z.2.2.2.2) (fun z=>n - z.1) (0,bI,b8,L,Q) (ac4 O) ⟨a6,hC,bA _,List.prefix_rfl⟩ ?_;rintro⟨k,iE,iT,L',Q'⟩ e w8 ⟨a7,sL,hk,fX⟩;dsimp only at a7 sL hk fX|-;have qE:=fX.length_le;have hql8:Q'.length<=N:=tq sL.Bi sL.eS;have ya:gi Q' i=gi Q i:=tV fX di;have sR:=a7.bE hR;have fH:=a7.bE hT;refine b7 O (aM _ O (fun h4=>?_) (fun h4=>?_))
  ·have dp:k<xss.length:=by omega
   have Gt:i<Q'.length:=by omega
   obtain⟨a1,a2,a3,a4⟩:=sL.at_ hs ky hl Gt dp;rw [ya]at a1 a2 a3 a4;have bH:=sR.at_ (i:=(k:Int)) (by omega) (by omega);have ME:=fH.at_ (i:=(k:Int)) (by omega) (by omega);have hrtk:=V4 (k:Int) (by omega) (by omega);have iW:=gI (k:Int) (by omega) (by omega);have Lc:=a7.bz 1 O;refine aD O (acU sR.top.2 O O O (by omega) h4 (bB sR.top O (az O ?_)));refine dK [xS ((rg rs k).a) ((rg rs k).n) ((rg rs k).c),xI ((gi Q i)),xP (aF ((rg rs k).a) ((gi Q i)).toNat),xI (gi (gl xss k) ((gi Q i))),xP (aF (Ac) 0),xS (D) (n) (cD),xI ((k:Int)),xP (aF (D) ((k:Int)).toNat),xS ((rg (rt) ((k:Int))).a) ((rg (rt) ((k:Int))).n) ((rg (rt) ((k:Int))).c),xS (A5) (N) (N),xI ((gi Q i)),xP (aF (A5) ((gi Q i)).toNat),xI (gi (L') ((gi Q i))),xP (aF ((rg (rt) ((k:Int))).a) (gi (L') ((gi Q i))).toNat),xI (gi (gl bb k) (gi (L') ((gi Q i)))),xI (gi (gl xss k) ((gi Q i))),xI (gi (gl bb k) (gi (L') ((gi Q i))))] O (eo O) ?_ ?_
   ·exact⟨Dr O,Dr O,fun _ _ hb _ _=>ay (bH.aq hb).2 O Az,fun _ _ hb _ _=>bc (bH.aq hb) O Az,fun _ _ hb _ _=>aS ((a7.rd 2 O).below hb) O Az,fun _ _ hb _ _=>a8 ((a7.rd 2 O).below hb) O Az,Dr O,fun _ _ hb _ _=>ay (fH.top.aq hb).2 O Az,fun _ _ hb _ _=>bB (fH.top.aq hb) O Az,Dr O,Dr O,fun _ _ hb _ _=>ay (Lc.aq hb).2 O Az,fun _ _ hb _ _=>bc (Lc.aq hb) O Az,fun _ _ hb _ _=>ay (ME.aq hb).2 O Az,fun _ _ hb _ _=>bc (ME.aq hb) O Az,Dr O,Dr O,au⟩
   intro u w9 vH _;have aW:=a7.aq vH;have vo:=aW.bz 1 O;refine fK O (acU vo.2 O O O a3.1 a3.2 (bc vo O (az O ?_)));refine aM _ O (fun h5=>?_) (fun h5=>?_)
   ·have mO:=sL.set hs ky hl Gt dp (by rw [ya];exact h5);rw [ya]at mO;refine aD O (acU vo.2 O O O a3.1 a3.2 (ak.gQ 1 aW O O O (by omega) ?_));intro dt bV;refine ao O (fk bV O O O ?_);intro jj dB dW;refine fR 1 dW O (dW.bz 0 O) O O O fun nG tL iO fU=>ao O (aL O (aU O (tQ ?_)));have e2:(Q'++ [gi (gl xss k) (gi Q i)]).length - i=Q'.length - i+1:=by simp;omega
    have e3:(Q'++ [gi (gl xss k) (gi Q i)]).drop i=Q'.drop i++ [gi (gl xss k) (gi Q i)]:=List.drop_append_of_le_length (by omega);refine⟨(k+1,nG,tL,L'.set (gi (gl xss k) (gi Q i)).toNat (gi (gl bb k) (gi L' (gi Q i))),Q'++ [gi (gl xss k) (gi Q i)]),by show n - (k+1)<n - k;omega,⟨O,O,O,by show Value.slice _ _ _= .slice _ ((Q'++ [gi (gl xss k) (gi Q i)]).length - i) _;rw [e2],O,O,O,O,au⟩,?_,mO,by show k+1<=n;omega,fX.trans (List.prefix_append _ _)⟩;show St w iO [ax _ nG ((Q'++ [gi (gl xss k) (gi Q i)]).length - i) tL ((Q'++ [gi (gl xss k) (gi Q i)]).drop i),_,_,_];rw [e2,e3];exact fU.tail
   refine aD O (acU vo.2 O O O a3.1 a3.2 (bc vo O (az O ?_)));refine aM _ O (fun h6=>?_) (fun h6=>?_)
   ·refine cE O (de (cT (de (cT ?_))));refine fA O ?_;exact .inr ⟨O,sL.none hs ky hl Gt dp (by rw [ya];exact h5) (by rw [ya];exact h6),aW.none⟩
   refine aD O (aL O (aU O (tQ ?_)));exact⟨(k+1,iE,iT,L',Q'),by show n - (k+1)<n - k;omega,(ac4 O),aW,sL.same (by rw [ya];exact gC.1 h6),by show k+1<=n;omega,fX⟩
  refine bo O (bp (cn O ?_));have L9:k=xss.length:=by omega
  rw [L9]at sL;refine sr O O O (by omega) ?_;have aW:=a7.JR (i:=0) O (show 1<=Q'.length - i by omega);have e2:Q'.length - i - 1=Q'.length - (i+1):=by omega
  have e3:(Q'.drop i).drop 1=Q'.drop (i+1):=by rw [List.drop_drop]
  refine aU O (tQ ?_);refine⟨(i+1,cutAt iE iT 1,iT - 1,L',Q'),by show N+1 - (i+1)<N+1 - i;omega,⟨O,O,O,by show Value.slice _ _ _= .slice _ _ _;rw [<-e2];rfl,au⟩,?_,sL.next (by omega)⟩;show St w w8 [ax _ (cutAt iE iT 1) (Q'.length - (i+1)) (iT - 1) (Q'.drop (i+1)),_,_,_];rw [<-e2,<-e3];exact aW
 refine bo O (bp (e6 O ?_));refine fA O ?_;have hE:=hC.end_ hM hN ky hl (by omega);obtain⟨a,ha⟩:=a6.isSome (i:=1) rfl (by omega);subst ha;exact .inl ⟨a,N,L,O,hE.1,hE.2,a6.tail.sub (List.Sublist.cons_cons _ (List.nil_sublist _))⟩
theorem W0{A:ai}:(!A.isNone)=decide (A≠none):=by cases A<;>simp
theorem RL(A:ai)(n c:Nat)(rs:List aO)(xss:ag)(D:ai)(cD:Nat)(rt:List aO)(bb:ag)(N:Nat)(w:aa)(hR:bl w A n rs xss)(hT:bl w D n rt bb)(hM:bj xss)(hY:bj bb)(hN:N=(gl xss 0).length)(qx:N=(gl bb 0).length):
 aE prog 162 [.agg #[.slice A n c],.agg #[.slice D n cD]] w (fun v w'=>∃A' c',∃rs':List aO,∃ps:ag,v= .slice A' ps.length c'/\rs'.length=ps.length/\ps.length<=N/\(∀x∈rs',x.a≠none)/\(ps.length=0->∀q,qY N N xss bb q->False)/\St w w' (aK 24 2 A' ps.length c' rs' ps)):=by
 have hn:=hM.1;have CA:=hM.2.1;have bP:=hR.len;have mw:=hT.len;have ie:(rg rt 0).n=N:=by rw [qx];exact(hT.jh (by omega) (by omega)).symm
 refine bm func162 O ntmps162 O (bU O) (aY O (fD (St.refl w) O O ?_));intro Ab w1 aB;refine fD aB O O fun Ac w2 aw=>ao O (aH (nN Ac D n cD rt bb _ _ (aw.rd 0 O) O (aw.bE hT) (by omega)) O ?_);rintro _ w2 ⟨rfl,rfl⟩;rw [ie];have aI:=(aw.nil 24).perm (fb (l₁:=[_]) (l₂:=[_,_]));refine az O ?_;refine Cd.loop (α:=Nat×ai×Nat×List aO×ag) (fun z=> [(2,.pointer Ab),(3,.pointer Ac),(5,.slice z.2.1 z.2.2.2.2.length z.2.2.1),(8,aj N),(9,aj (z.1:Int))]) (fun z w'=>St w w' (Bx 37 1 Ac [.slice D n cD]::Bx 37 1 Ab [.slice A n c]::aK 24 2 z.2.1 z.2.2.2.2.length z.2.2.1 z.2.2.2.1 z.2.2.2.2)/\z.1<=N/\z.2.2.2.1.length=z.2.2.2.2.length/\z.2.2.2.2.length<=z.1/\(∀x∈z.2.2.2.1,x.a≠none)/\(z.2.2.2.2.length=0->∀q,qY N N xss bb q->¬q 0<z.1)) (fun z=>N - z.1) (0,none,0,[],[]) ⟨rfl,rfl,rfl,rfl,rfl,au⟩ ⟨aI,bA _,rfl,dE _,(by intro p hp;cases hp),(by intro _ q hq h;have:=(hq.eS 0 (by omega) (by omega)).1;have h:q 0< ((0:Nat):Int):=h;omega)⟩ ?_;rintro⟨f,A3,c3,rs',ps⟩ e w3 ⟨aI,hf,bO,qE,CY,ct⟩;dsimp only at aI hf bO qE CY ct|-;refine b7 O (aM _ O (fun h1=>?_) (fun h1=>?_))
 ·refine aD O (ac3 0 (aI.rd 1 O) O (ac3 0 (aI.rd 0 O) O (ao O (aH (RK A n c rs xss D cD rt bb N f _ (aI.bE hR) (aI.bE hT) hM hY hN qx (by omega) (by omega)) O ?_))));intro v w4 hv;obtain⟨A4,n4,c4,rfl,hw⟩:∃A4 n4 c4,v= .slice A4 n4 c4/\((A4≠none/\N=n4/\∃L,qY N N xss bb (gi L)/\gi L 0=f/\St w3 w4 [ax 2 A4 N c4 L])\/(¬A4≠none/\(∀q,qY N N xss bb q->q 0=f->False)/\St w3 w4 [])):=by
   rcases hv with⟨a,c',L,rfl,h1,h2,h3⟩ | ⟨rfl,h1,h2⟩
   ·exact⟨_,_,_,O,.inl ⟨by simp,O,L,h1,h2,h3⟩⟩
   exact⟨_,_,_,O,.inr ⟨by simp,h1,h2⟩⟩
  refine ao O (Jc O O O ?_);rw [W0];refine az O (aM _ O (fun h2=>?_) (fun h2=>?_))
  ·obtain⟨b9,rfl,L,hL,nm,aA⟩:=hw.resolve_right (fun h=>h.1 h2);have aG:=aI.call aA;refine aD O (mW aG O O O ?_);intro A7 w5 aR;refine km 4 aR O (aR.eG 0 O) O O O (by omega) (by omega) O ?_;intro A8 c8 w6 aQ;have aQ:St w w6 (ax 2 A4 N c4 L::Bx 37 1 Ac [.slice D n cD]::Bx 37 1 Ab [.slice A n c]::aV 24 A8 (ps.length+1) c8 (rs'++ [⟨A4,N,c4⟩])::bS 2 rs' ps):=aQ.tail;have C0:(ps++ [L]).length=ps.length+1:=by simp
   refine ao O (aL O (aU O (tQ ?_)));refine⟨(f+1,A8,c8,rs'++ [⟨A4,N,c4⟩],ps++ [L]),by show N - (f+1)<N - f;omega,⟨O,O,by show Value.slice _ _ _= .slice _ _ _;rw [C0],O,O,au⟩,?_,by show f+1<=N;omega,by simp [bO],by show(ps++ [L]).length<=f+1;omega,fun x hx=>?_,fun h0=>absurd (show(ps++ [L]).length=0 from h0) (by simp)⟩
   ·show St w w6 (_::_::aV 24 A8 (ps++ [L]).length c8 (rs'++ [⟨A4,N,c4⟩])::bS 2 (rs'++ [⟨A4,N,c4⟩]) (ps++ [L]));rw [C0,nD bO];exact aQ.perm (fb (l₁:=[_]) (l₂:=_::_::_::bS 2 rs' ps))
   rcases gE.1 hx with hx | hx
   ·exact CY x hx
   simp at hx;subst hx;exact b9
  obtain⟨_,eC,aA⟩:=hw.resolve_left (fun h=>h2 h.1);have aG:=aI.aq aA.below;refine aD O (aL O (aU O (tQ ?_)));exact⟨(f+1,A3,c3,rs',ps),by show N - (f+1)<N - f;omega,(ac4 O),aG,by show f+1<=N;omega,bO,by show ps.length<=f+1;omega,CY,fun h0 q hq cI=>by
   have cI:q 0< ((f+1:Nat):Int):=cI
   by_cases e:q 0=f
   ·exact(eC q hq e).elim
   exact ct h0 q hq (by omega)⟩
 refine bo O (bp (e6 O ?_));refine fA O ?_;exact⟨A3,c3,rs',ps,O,bO,by omega,CY,fun h0 q hq=>ct h0 q hq (by have:=(hq.eS 0 (by omega) (by omega)).2;omega),aI.tail.tail⟩
theorem W5(A:ai)(n c:Nat)(rs:List aO)(xss:ag)(D:ai)(cD:Nat)(rt:List aO)(bb:ag)(N:Nat)(φ:Int->Int)(w:aa)(hR:bl w A n rs xss)(hT:bl w D n rt bb)(hM:bj xss)(hY:bj bb)(hN:N=(gl xss 0).length)(qx:N=(gl bb 0).length)(hI:iu N xss bb φ):
 aE prog 173 [.agg #[.slice A n c],.agg #[.slice D n cD]] w (fun v w'=>∃a m c',v= .slice (some a) m c'/\St w w' []):=by
 have hn:=hM.1;have CA:=hM.2.1;have bP:=hR.len;have mw:=hT.len;have ie:(rg rs 0).n=N:=by rw [hN];exact(hR.jh (by omega) (by omega)).symm
 have lu:(rg rt 0).n=N:=by rw [qx];exact(hT.jh (by omega) (by omega)).symm
 refine bm func173 O ntmps173 O (bU O) (aY O (fD (St.refl w) O O ?_));intro Ab w1 aB;refine fD aB O O fun Ac w2 aw=>ao O (aH (nN Ab A n c rs xss _ _ (aw.rd 1 O) O (aw.bE hR) (by omega)) O ?_);rintro _ w2 ⟨rfl,rfl⟩;rw [ie];refine aH (nN Ac D n cD rt bb _ _ (aw.rd 0 O) O (aw.bE hT) (by omega)) O ?_;rintro _ w2 ⟨rfl,rfl⟩;rw [lu];refine az O (jw O (fun h=>h O) (aD O (ac3 0 (aw.rd 1 O) O (ac3 0 (aw.rd 0 O) O (aH (RL A n c rs xss D cD rt bb N _ (aw.bE hR) (aw.bE hT) hM hY hN qx) O ?_)))));rintro _ w3 ⟨A3,c3,rs',ps,rfl,bO,qE,b9,eC,aA⟩;have aI:=aw.call aA;have jY:¬ps.length=0:=fun h=>eC h φ hI.RR
 refine ao O (aZ O O (az O ?_));refine jw O (by omega) (aD O (ay (aI.eG 0 O).2 O (bB (aI.eG 0 O) O (bu O (fA O ?_)))));have hx:=b9 (rg rs' 0) (by unfold rg;rw [List.getD_eq_getElem?_getD,List.getElem?_eq_getElem (show(0:Int).toNat<rs'.length by simp;omega)];exact List.getElem_mem _);obtain⟨a,ha⟩:=Option.ne_none_iff_exists'.1 hx;rw [ha];exact⟨a,_,_,O,aI.none⟩
theorem Pq(A:ai)(n c:Nat)(rs:List aO)(xss:ag)(D:ai)(cD:Nat)(rt:List aO)(bb:ag)(N:Nat)(φ:Int->Int)(w:aa)(hR:bl w A n rs xss)(hT:bl w D n rt bb)(hM:bj xss)(hY:bj bb)(hN:N=(gl xss 0).length)(qx:N=(gl bb 0).length)(hI:iu N xss bb φ)(vJ:n<=c/\c<=9223372036854775807)(zG:n<=cD/\cD<=9223372036854775807):
 aE prog 100 [.agg #[.slice A n c],.agg #[.slice D n cD]] w (fun v w'=>v= .tuple #[.bool true,aj 0]/\St w w' []):=by
 refine bm func100 O ntmps100 O (my O) (aY O (fD (St.refl w) O O ?_));intro Ab w1 aB;refine fD aB O O fun Ac w2 aw=>ao O (ac3 0 (aw.rd 1 O) O (aH (AO A n c rs xss _ (aw.bE hR) vJ.1 vJ.2) O ?_));rintro _ w3 ⟨rfl,aA⟩;have aI:=aw.aq aA.below
 first | refine dM rfl rfl ?_ | refine eI rfl rfl ?_
 refine ao O (bX 9 O (fun h=>absurd hM h) (fun _=>?_));refine ar O (ac3 0 (aI.rd 0 O) O (ar O (aH (AO D n cD rt bb _ (aI.bE hT) zG.1 zG.2) O ?_)));rintro _ w4 ⟨rfl,aA⟩;have aG:=aI.aq aA.below;refine ar O ?_
 first | refine dM rfl rfl ?_ | refine eI rfl rfl ?_
 refine az O (jw O (fun h=>absurd hY h) (aD O (ac3 0 (aG.rd 1 O) O (ac3 0 (aG.rd 0 O) O (aH (W5 A n c rs xss D cD rt bb N φ _ (aG.bE hR) (aG.bE hT) hM hY hN qx hI) O ?_)))));rintro _ w5 ⟨a,m,c',rfl,aA⟩;have aR:=aG.aq aA.below;refine Jc O O O (bu O (wo O O ?_));exact⟨O,aR.none⟩
theorem X1{ks:List Ck}(ix:Nat){As:ai}{k:Ck}(hS:St w0 w ks)(hk:ks[ix]?=some k)(hK:fj w0 As k):
 aE prog 93 [.pointer As] w (Er w0 ks ix As):=by
 refine bm func93 O ntmps93 O (lB O O) (aY O (eH hS O ?_));intro A2 w1 aB;refine az O ?_;refine Cd.loop (α:=Nat×Ck) (fun s=> [(0,.pointer As),(2,.pointer A2),(3,aj (s.1:Int))]) (fun s w'=>fj w0 As s.2/\s.1<=20/\St w0 w' (Bx 37 1 A2 [.slice none 0 0]::ks.set ix s.2)) (fun s=>20 - s.1) (0,k) (ac4 O) ⟨hK,bA _,by rw [Ea hk];exact aB⟩ ?_;rintro⟨i,k2⟩ e w3 ⟨fa,hi,aI⟩;dsimp only at fa hi aI|-;have lW:=kl (k':=k2) hk;refine b7 O (aM _ O (fun h1=>?_) (fun h1=>?_))
 ·refine aD O ?_;refine aH (Hz (ix+1) 12 aI (by exact lW) fa (by decide)) O ?_;rintro _ w4 ⟨n,N,A,c,rs,xss,k3,rfl,hn,hN,bO,bP,hG,lP,aG⟩;have aG:St w0 w4 (aK 24 2 A n c rs xss++ (Bx 37 1 A2 [.slice none 0 0]::(ks.set ix k2).set ix k3)):=aG;rw [iH]at aG;have aG:St w0 w4 (Bx 37 1 A2 [.slice none 0 0]::(aK 24 2 A n c rs xss++ks.set ix k3)):=aG.perm eU;have gf:n<=c/\c<=9223372036854775807:=aG.cap 1 O;refine eH aG O fun A4 w5 aR=>bR 1 0 aR O O O O O O O ?_;intro w6 aQ;have aQ:St w0 w6 (Bx 37 1 A4 [.slice A n c]::Bx 37 1 A2 [.slice none 0 0]::(aK 24 2 A n c rs xss++ks.set ix k3)):=aQ;have mL:∀w',St w0 w' (Bx 37 1 A4 [.slice A n c]::Bx 37 1 A2 [.slice none 0 0]::(aK 24 2 A n c rs xss++ks.set ix k3))->St w0 w' (Bx 37 1 A2 [.slice none 0 0]::ks.set ix k3):=fun w' h=>h.tail.sub (List.Sublist.cons_cons _ (dD _ _))
  refine ao O (ac3 0 (aQ.rd 0 O) O (aH (DG A n c rs xss w6 (St.du aQ.tail.tail bP) (by omega)) O ?_));rintro _ w7 ⟨rfl,hT⟩;have a6:=aQ.aq hT.below;refine ao O (bX 13 O (fun h2=>?_) (fun h2=>?_))
  ·have h2:bj xss:=h2;refine ar O (aS (a6.rd 0 O) O (ar O (a8 (a6.rd 0 O) O ?_)));refine ar O (aZ O O (ar O (ao O (ar O (ao O ?_)))));refine bX 18 O (fun h3=>?_) (fun h3=>?_)
   ·refine av O (av O (av O (ar O (ao O (ar O ?_)))));refine ac3 0 (a6.rd 0 O) O (ar O (aH (oY A n c rs xss w7 (St.du a6.tail.tail bP) (by omega)) O ?_));rintro _ w8 ⟨rfl,ia⟩;have a7:=a6.aq ia.below;refine ar O (az O ?_);refine aM _ O (fun h4=>?_) (fun h4=>?_)
    ·refine aD O (ac3 0 (a7.rd 0 O) O (bR 1 1 a7 O O O O O O O ?_));intro w9 aW;refine bu O (de (cT ?_));refine fZ O (aW.rd 1 O) ?_;exact⟨n,A,c,rs,xss,_,k3,O,by omega,gf,h2.bound.2,lP,fun iq Y h=>St.du h bP,aW.tail.tail⟩
    refine aD O (aL O (aU O (tQ ?_)));exact⟨(i+1,k3),by show 20 - (i+1)<20 - i;omega,(ac4 O),lP,by show i+1<=20;omega,mL _ a7⟩
   refine ar O (ac3 0 (a6.rd 0 O) O (ar O (aH (oY A n c rs xss w7 (St.du a6.tail.tail bP) (by omega)) O ?_)));rintro _ w8 ⟨rfl,ia⟩;have a7:=a6.aq ia.below;refine ar O (ao O (ar O (ao O ?_)));refine bX 24 O (fun h5=>?_) (fun h5=>?_)
   ·refine ar O (ac3 0 (a7.rd 0 O) O (ar O (aH (oY A n c rs xss w8 (St.du a7.tail.tail bP) (by omega)) O ?_)));rintro _ w8 ⟨rfl,ia⟩;have a7:=a7.aq ia.below;refine ar O (az O ?_);refine aM _ O (fun h4=>?_) (fun h4=>?_)
    ·refine aD O (ac3 0 (a7.rd 0 O) O (bR 1 1 a7 O O O O O O O ?_));intro w9 aW;refine bu O (de (cT ?_));refine fZ O (aW.rd 1 O) ?_;exact⟨n,A,c,rs,xss,_,k3,O,by omega,gf,h2.bound.2,lP,fun iq Y h=>St.du h bP,aW.tail.tail⟩
    refine aD O (aL O (aU O (tQ ?_)));exact⟨(i+1,k3),by show 20 - (i+1)<20 - i;omega,(ac4 O),lP,by show i+1<=20;omega,mL _ a7⟩
   refine av O (av O (av O (az O ?_)));refine Cd.dO O (aD O (aL O (aU O (tQ ?_))));exact⟨(i+1,k3),by show 20 - (i+1)<20 - i;omega,(ac4 O),lP,by show i+1<=20;omega,mL _ a7⟩
  refine av O (av O (av O (av O (av O (bW O (bW O (bW O (av O (ao O (av O (av O ?_)))))))))));refine av O (az O ?_);refine Cd.dO O (aD O (aL O (aU O (tQ ?_))));exact⟨(i+1,k3),by show 20 - (i+1)<20 - i;omega,(ac4 O),lP,by show i+1<=20;omega,mL _ a6⟩
 refine bo O (bp (cn O ?_));refine aH (XN (ix+1) 16 aI (by exact lW) fa (by decide)) O ?_;rintro _ w4 ⟨n,A,c,rs,xss,X,k3,rfl,hn,gf,hb,lP,hX,aG⟩;have aG:St w0 w4 (X++ (Bx 37 1 A2 [.slice none 0 0]::(ks.set ix k2).set ix k3)):=aG;rw [iH]at aG;refine bR 1 0 (aG.perm eU) O O O O O O O ?_;intro w5 aR;refine bu O (fZ O (aR.rd 0 O) ?_);exact⟨n,A,c,rs,xss,X,k3,O,hn,gf,hb,lP,hX,aR.tail⟩
theorem Py{ks:List Ck}(Ac:ai)(nc cc:Nat)(bs:ah)(hS:St w0 w ks)(hY:oB w0 Ac nc bs)(ku:nc<=1000000):
 aE prog 45 [.slice Ac nc cc] w (fun v w'=>∃(n:Nat) (A:ai) (c:Nat) (rs:List aO) (xss:ag) (X:List Ck),v= .agg #[.slice A n c]/\n<=6/\(n<=c/\c<=9223372036854775807)/\(∀(iq:aa) (Y:List Ck),St w0 iq (X++Y)->bl iq A n rs xss)/\St w0 w' (X++ks)):=by
 refine bm func45 O ntmps45 O (lB O O) (aY O (eH hS O ?_));intro A2 w1 aB;refine ao O (aH (XA Ac nc cc bs w1 (hY.below aB.below) ku) O ?_);rintro _ w2 ⟨As,k0,rfl,zr,hT⟩;have zr:=zr w0 hY;have aw:St w0 w2 (k0::Bx 37 1 A2 [.slice none 0 0]::ks):=aB.call hT;refine ao O (aH (X1 0 aw O zr) O ?_);rintro _ w3 ⟨n,A,c,rs,xss,X,k1,rfl,hn,gf,hb,jT,hX,aI⟩;have aI:St w0 w3 (X++ (k1::Bx 37 1 A2 [.slice none 0 0]::ks)):=aI;have aI:St w0 w3 (k1::Bx 37 1 A2 [.slice none 0 0]::(X++ks)):=aI.perm (eU.trans (List.Perm.cons _ eU));refine eH aI O fun A4 w4 aG=>bR 1 0 aG O O O O O O O ?_;intro w5 aR;have aR:St w0 w5 (Bx 37 1 A4 [.slice A n c]::k1::Bx 37 1 A2 [.slice none 0 0]::(X++ks)):=aR;refine ao O (aH (o9 1 12 aR O jT) O ?_);rintro _ w6 ⟨r,k2,rfl,hr,fa,aQ⟩;have aQ:St w0 w6 (Bx 37 1 A4 [.slice A n c]::k2::Bx 37 1 A2 [.slice none 0 0]::(X++ks)):=aQ;refine az O (aM _ O (fun h1=>?_) (fun h1=>?_))
 ·refine aD O (aH (X0 1 32 aQ O fa (by decide)) O ?_);rintro _ w7 ⟨n',A',c',rs',xss',X',k3,rfl,pT,Gh,kr,lP,Uh,a6⟩;have a6:St w0 w7 (X'++ (Bx 37 1 A4 [.slice A n c]::k3::Bx 37 1 A2 [.slice none 0 0]::(X++ks))):=a6;have a6:St w0 w7 (Bx 37 1 A2 [.slice none 0 0]::(X'++ks)):=(a6.sub (List.Sublist.append_left (List.Sublist.cons _ (List.Sublist.cons _ (List.Sublist.cons_cons _ (dD X ks)))) X')).perm eU;refine bR 1 0 a6 O O O O O O O fun w8 a7=>bu O (fZ O (a7.rd 0 O) ?_);exact⟨n',A',c',rs',xss',X',O,pT,Gh,Uh,a7.tail⟩
 refine aD O (ac3 0 (aQ.rd 0 O) O (bR 1 2 aQ O O O O O O O ?_));intro w8 a7;refine bu O (fZ O (a7.rd 2 O) ?_);exact⟨n,A,c,rs,xss,X,O,hn,gf,hX,a7.tail.tail.tail⟩
theorem QG(A:ai)(n c:Nat)(rs:List aO)(xss:ag)(D:ai)(cD:Nat)(rt:List aO)(bb:ag)(N:Nat)(φ:Int->Int)(w:aa)(hR:bl w A n rs xss)(hT:bl w D n rt bb)(hM:bj xss)(hY:bj bb)(hN:N=(gl xss 0).length)(qx:N=(gl bb 0).length)(hI:iu N xss bb φ)(vJ:n<=c/\c<=9223372036854775807)(zG:n<=cD/\cD<=9223372036854775807):
 aE prog 52 [.agg #[.slice A n c],.agg #[.slice D n cD]] w (fun v w'=>v= .bool true/\St w w' []):=by
 refine bm func52 O ntmps52 O (bU O) (aY O (fD (St.refl w) O O ?_));intro A2 w1 aB;refine fD aB O O fun A3 w2 aw=>ao O (ac3 0 (aw.rd 1 O) O (ac3 0 (aw.rd 0 O) O (aH (Pq A n c rs xss D cD rt bb N φ _ (aw.bE hR) (aw.bE hT) hM hY hN qx hI vJ zG) O ?_)));rintro _ w3 ⟨rfl,aA⟩;refine ao O (bX 15 O (fun _=>?_) (fun h=>absurd O h));refine ar O (bu O ?_);exact bQ O ⟨O,(aw.call aA).none⟩
theorem Ro(A:ai)(n c:Nat)(rs:List aO)(xss:ag)(w:aa)(hR:bl w A n rs xss)(hn:n<=1000000000)(hr:∀i,i<n->(rs.getD i cJ).n<=1000000000):
 aE prog 250 [.agg #[.slice A n c]] w (fun v w'=>∃A' c' rs',v= .agg #[.slice A' n c']/\rs'.length=n/\St w w' (aK 24 2 A' n c' rs' xss)):=by
 refine bm func250 O ntmps250 O (lB O O) (aY O (fD (St.refl w) O O ?_));intro Ab w1 aB;refine eH aB O fun Ac w2 aw=>ao O (eH aw O ?_);intro Ad w3 aI;have aI:St w w3 (Bx 37 1 Ad [.slice none 0 0]::Bx 37 1 Ac [.slice none 0 0]::Bx 37 1 Ab [.slice A n c]::[]):=aI;refine ao O (aS (aI.rd 2 O) O (a8 (aI.rd 2 O) O ?_));refine aZ O O (az O ?_);have vy:St w w3 (Bx 37 1 Ad [.slice none 0 0]::Bx 37 1 Ac [.slice none 0 0]::Bx 37 1 Ab [.slice A n c]::aV 24 none 0 0 []::[]):=(aI.nil 24).perm (fb (l₁:=[_]) (l₂:=[_,_,_]));refine Cd.loop (α:=Nat×ai×Nat×List aO) (fun s=> [(2,.pointer Ac),(3,.pointer Ad),(7,.slice A n c),(8,aj n),(9,aj (s.1:Int))]) (fun s w'=>St w w' (Bx 37 1 Ad [.slice s.2.1 s.1 s.2.2.1]::Bx 37 1 Ac [.slice none 0 0]::Bx 37 1 Ab [.slice A n c]::aV 24 s.2.1 s.1 s.2.2.1 s.2.2.2::bS 2 s.2.2.2 (xss.take s.1))/\s.1<=n/\s.2.2.2.length=s.1) (fun s=>n - s.1) (0,none,0,[]) (ac4 O) ⟨vy,bA _,O⟩ ?_;rintro⟨k,A3,c3,cV⟩ e w4 ⟨aG,hk,hlen⟩;dsimp only at aG hk hlen|-;refine b7 O (aM _ O (fun h1=>?_) (fun h1=>?_))
 ·have dp:k<n:=by omega
  have hx:k<xss.length:=by rw [hR.len];exact dp
  have hM:=aG.bE hR;refine aD O (acU hM.top.2 O O O (by omega) h1 (bB hM.top O (az O ?_)));have hB:=aG.rd 0 O;have bH:=hM.at_ (i:=(k:Int)) (by omega) h1;refine jx [5,7] [yP (aF (Ad) 0),yS (A3) (k) (c3),yS ((rg rs k).a) ((rg rs k).n) ((rg rs k).c),.pr (fun v w'=>∃A4 c4,v= .slice A4 (rg rs k).n c4/\St w w' (ax 2 A4 (rg rs k).n c4 (gl xss k)::Bx 37 1 Ad [.slice A3 k c3]::Bx 37 1 Ac [.slice none 0 0]::Bx 37 1 Ab [.slice A n c]::aV 24 A3 k c3 cV::bS 2 cV (xss.take k))),.pr (fun v w'=>∃A4 c4 A9,v= .slice A9 1 1/\St w w' (aV 24 A9 1 1 [⟨A4,(rg rs k).n,c4⟩]::ax 2 A4 (rg rs k).n c4 (gl xss k)::Bx 37 1 Ad [.slice A3 k c3]::Bx 37 1 Ac [.slice none 0 0]::Bx 37 1 Ab [.slice A n c]::aV 24 A3 k c3 cV::bS 2 cV (xss.take k))),.pr (fun v w'=>∃A4 c4 bI b8,v= .slice bI (k+1) b8/\St w w' (ax 2 A4 (rg rs k).n c4 (gl xss k)::Bx 37 1 Ad [.slice A3 k c3]::Bx 37 1 Ac [.slice none 0 0]::Bx 37 1 Ab [.slice A n c]::aV 24 bI (k+1) b8 (cV++ [⟨A4,(rg rs k).n,c4⟩])::bS 2 cV (xss.take k))),yP (aF (Ad) 0),.pr (fun _ w'=>∃A4 c4 bI b8,St w w' (ax 2 A4 (rg rs k).n c4 (gl xss k)::Bx 37 1 Ad [.slice bI (k+1) b8]::Bx 37 1 Ac [.slice none 0 0]::Bx 37 1 Ab [.slice A n c]::aV 24 bI (k+1) b8 (cV++ [⟨A4,(rg rs k).n,c4⟩])::bS 2 cV (xss.take k)))] (by kernel_rfl) (by kernel_rfl) (ly (ly (ly (cL.2 ⟨Ye.cQ (fun v w w' h hb=>by obtain⟨A4,c4,hv,hT⟩:=h;exact⟨A4,c4,hv,hT.aq hb⟩),(cL.2 ⟨Ye.cQ (fun v w w' h hb=>by obtain⟨A4,c4,A9,hv,hT⟩:=h;exact⟨A4,c4,A9,hv,hT.aq hb⟩),(cL.2 ⟨Ye.cQ (fun v w w' h hb=>by obtain⟨A4,c4,bI,b8,hv,hT⟩:=h;exact⟨A4,c4,bI,b8,hv,hT.aq hb⟩),(ly (cL.2 ⟨Ye.cQ (fun v w w' h hb=>by obtain⟨A4,c4,bI,b8,hT⟩:=h;exact⟨A4,c4,bI,b8,hT.aq hb⟩),(fun _ h=>by cases h)⟩))⟩)⟩)⟩)))) ?_ ?_
  ·refine⟨cP fun _ _ hb _ _ _=>aS (hB.below hb) O (bG O O),cP fun _ _ hb _ _ _=>a8 (hB.below hb) O (bG O O),cj O,?_,?_,?_,?_,?_,au⟩
   ·refine cP fun e1 w1 hb hp aX hq=>?_
    refine aH (BJ _ _ _ _ _ (bH.aq hb) (hr k dp)) O ?_;rintro _ w2 ⟨A4,c4,rfl,aA⟩;exact ak.n (fB.dn O aA.below ⟨A4,c4,O,(aG.aq hb).call aA⟩)
   ·refine cP fun e1 w1 hb hp aX hq=>?_
    obtain⟨A4,c4,lf,hT⟩:=(hp 3 _ _ (by kernel_rfl) rfl rfl (by kernel_rfl));refine mW (St.refl _) (by exact lf) O O ?_;intro A9 w9 aA;exact ak.n (fB.dn O aA.below ⟨A4,c4,A9,O,hT.call aA⟩)
   ·refine jy fun e1 w1 hb hp aX hq=>?_
    obtain⟨A4,c4,A9,pA,hT⟩:=(hp 4 _ _ (by kernel_rfl) rfl rfl (by kernel_rfl));refine km 5 hT O (hT.eG 0 O) O (by exact pA) O (by omega) (by omega) O ?_;intro bI b8 dt lS;exact ak.n (fv.dn O ⟨A4,c4,bI,b8,O,lS.tail⟩)
   ·refine dP 1 fun e1 w1 hp aX hq=>?_
    have dT:=hp 5 _ _ (by kernel_rfl) O O (by kernel_rfl);obtain⟨A4,c4,bI,b8,KI,hT⟩:=dT;refine aS ((hT.rd 1 O)) O (ak.n (fO O (by exact O)))
   refine pn 1 fun e1 w1 hp aX hq=>?_
   have dT:=hp 5 _ _ (by kernel_rfl) O O (by kernel_rfl);obtain⟨A4,c4,bI,b8,KI,hT⟩:=dT;refine kD 1 hT O O (by exact KI) O O ?_;intro dB jm;exact ak.n (fv.st O ⟨A4,c4,bI,b8,jm⟩)
  intro u w5 _ hu _ _;obtain⟨A4,c4,bI,b8,hT⟩:=hu 7 _ rfl (by kernel_rfl);refine fK O (aL O (aU O (tQ ?_)));refine⟨(k+1,bI,b8,cV++ [⟨A4,(rg rs k).n,c4⟩]),by show n - (k+1)<n - k;omega,(ac4 O),?_,dp,by simp [hlen]⟩;have e2:gl xss k=xss[k]:=by simp [gl,df,dL hx]
  show St w w5 (_::_::_::aV _ bI (k+1) b8 (cV++ [_])::bS _ (cV++ [_]) (xss.take (k+1)));rw [lG hx,nD (by simp [hlen];omega),<-e2];refine hT.perm ?_;exact fb (l₁:=[_]) (l₂:=_::_::_::_::bS 2 cV (xss.take k))
 refine bo O (bp (cn O ?_));have eF:k=n:=by omega
 subst eF;rw [<-hR.len,List.take_length,hR.len]at aG;refine ac3 0 (aG.rd 0 O) O (bR 1 1 aG O O O O O O O ?_);intro w5 aR;refine bu O (fZ O (aR.rd 1 O) ?_);exact⟨A3,c3,cV,O,hlen,aR.sub (((List.sublist_cons_self _ _).trans (List.sublist_cons_self _ _)).trans (List.sublist_cons_self _ _))⟩
theorem Se(Ab A:ai)(n c F:Nat)(rs:List aO)(M:ag)(i f:Nat)(w:aa)(hB:Rd w Ab 1 (fun _=> .slice A n c))(hR:bl w A n rs M)(hs:kb n F M)(hg:EC n F M)(hn:n<=1000)(hi:i<n)(hf:f<F)(hc:0<=cell M i f):
 aE prog 251 [.pointer Ab,aj i,aj f] w (fun v w'=>v= .bool (jZ M i f)/\St w w' []):=by
 have hlen:=hs.1;have bH:=hR.at_ (i:=(i:Int)) (by omega) (by omega);have gI:=hR.dz hs (k:=(i:Int)) (by omega) (by omega);have s4:=hg i f hi (by omega) (by omega);refine bm func251 O ntmps251 O (bU O) (aY O ?_);refine eV hB (by decide) O O (aS hB O (a8 hB O (ao O (ay hR.top.2 O (bB hR.top O (ao O (ay bH.2 O (bc bH O (ao O ?_)))))))));refine eV hB (by decide) O O (aS hB O (a8 hB O (aH (wC _ _ _ _) O ?_)));rintro _ w ⟨rfl,rfl⟩;refine az O ?_;refine Cd.loop (α:=Nat) (fun k=> [(0,.pointer Ab),(1,aj i),(2,aj f),(7,aj (cell M i f)),(25,aj n),(26,aj k)]) (fun k w'=>St w w' []/\k<=n/\∀k',k'<k->¬(-1<=(k':Int) - i/\(k':Int) - i<=1)->¬uY M i k' f (cell M i f)) (fun k=>n - k) 0 (ac4 O) ⟨St.refl w,bA _,fun k' h=>by omega⟩ ?_;rintro k e w1 ⟨aB,hk,hK⟩;have xo:=hB.below aB.below;have fT:=aB.bE hR;have more:∀(hb:¬(-1<=(k:Int) - i/\(k:Int) - i<=1)->¬uY M i k f (cell M i f)),∀k',k'<k+1->¬(-1<=(k':Int) - i/\(k':Int) - i<=1)->¬uY M i k' f (cell M i f):=fun hb k' dp gy=>by
  by_cases ek:k'=k
  ·subst ek;exact hb gy
  exact hK k' (by omega) gy
 refine b7 O (aM _ O (fun h1=>?_) (fun h1=>?_))
 ·refine aD O (je O O O (by omega) ?_);refine aH (qU _ _ _ _) O ?_;rintro _ w1 ⟨rfl,rfl⟩;refine az O (aM _ O (fun h2=>?_) (fun h2=>?_))
  ·refine aD O (aL O (aU O (tQ ?_)));exact⟨k+1,by omega,(ac4 O),aB,by omega,more (fun h=>absurd h2 h)⟩
  have iW:=fT.at_ (i:=(k:Int)) (by omega) h1;have eF:=fT.dz hs (k:=(k:Int)) (by omega) h1;have fN:=fT.at_ (i:=(i:Int)) (by omega) (by omega);have bad:uY M i k f (cell M i f)->jZ M i f=false:=fun hb=>dq (fun h=>h k (by omega) h2 hb)
  have yc:gi (gl M (k:Nat)) (f:Nat)< (F:Int):=hg k f (by omega) (by omega) (by omega);have hyF:gi (gl M (k:Nat)) (cell M i f)< (F:Int):=hg k (cell M i f) (by omega) hc s4;refine cH O ?_;refine dK [xP (Ab),xP (Ab),xP (aF (Ab) 0),xS (A) (n) (c),xI ((k:Int)),xP (aF (A) ((k:Int)).toNat),xS ((rg (rs) ((k:Int))).a) ((rg (rs) ((k:Int))).n) ((rg (rs) ((k:Int))).c),xI ((f:Int)),xP (aF ((rg (rs) ((k:Int))).a) ((f:Int)).toNat),xI (gi (gl M k) ((f:Int))),xP (Ab),xP (Ab),xP (aF (Ab) 0),xS (A) (n) (c),xI ((k:Int)),xP (aF (A) ((k:Int)).toNat),xS ((rg (rs) ((k:Int))).a) ((rg (rs) ((k:Int))).n) ((rg (rs) ((k:Int))).c),xI (cell M i f),xP (aF ((rg (rs) ((k:Int))).a) (cell M i f).toNat),xI (gi (gl M k) (cell M i f)),xI (gi (gl M k) ((f:Int))),xI (gi (gl M k) (cell M i f))] O (eo O) ?_ ?_
  ·exact⟨Dr O,fun _ _ hb _ _=>eV (xo.below hb) (Nat.succ_pos _) O O Az,fun _ _ hb _ _=>aS (xo.below hb) O Az,fun _ _ hb _ _=>a8 (xo.below hb) O Az,Dr O,fun _ _ hb _ _=>ay (fT.top.aq hb).2 O Az,fun _ _ hb _ _=>bB (fT.top.aq hb) O Az,Dr O,fun _ _ hb _ _=>ay (iW.aq hb).2 O Az,fun _ _ hb _ _=>bc (iW.aq hb) O Az,Dr O,fun _ _ hb _ _=>eV (xo.below hb) (Nat.succ_pos _) O O Az,fun _ _ hb _ _=>aS (xo.below hb) O Az,fun _ _ hb _ _=>a8 (xo.below hb) O Az,Dr O,fun _ _ hb _ _=>ay (fT.top.aq hb).2 O Az,fun _ _ hb _ _=>bB (fT.top.aq hb) O Az,Dr O,fun _ _ hb _ _=>ay (iW.aq hb).2 O Az,fun _ _ hb _ _=>bc (iW.aq hb) O Az,Dr O,Dr O,au⟩
  intro u w2 gj _;have aw:=aB.aq gj;have jf:=aw.bE hR;have iz:=hB.below aw.below;have pU:=jf.at_ (i:=(i:Int)) (by omega) (by omega);refine fK O (bX 56 O (fun rX=>?_) (fun rX=>?_))
  ·refine av O (av O (av O (bW O (bW O (av O (av O (bW O (bW O (bW O (bW O (bW O ?_)))))))))));refine bW O (bW O (bW O (bW O (bW O (bW O (av O (av O (bW O (bW O (bW O (bW O ?_)))))))))));refine bW O (bW O (bW O (bW O (bW O (bW O (bW O (bW O (av O (ao O (av O (av O ?_)))))))))));refine av O (bW O (bW O (av O (av O (bW O (bW O (bW O (bW O (bW O (bW O (bW O ?_)))))))))));refine bW O (bW O (bW O (bW O (av O (av O (bW O (bW O (bW O (bW O (bW O (bW O ?_)))))))))));refine bW O (bW O (bW O (bW O (bW O (bW O (av O (az O ?_)))))));refine Cd.fW O (cE O (de (cT ?_)));refine bQ O ?_;exact⟨by rw [bad (.inl rX)],aw⟩
  refine ar O (ao O (ar O (ao O (ar O (ao O ?_)))));refine bX 59 O (fun hx=>?_) (fun hx=>?_)
  ·refine ar O (ao O (ar O (ao O (ar O (ao O (ar O (ao O ?_)))))));refine bX 63 O (fun hy=>?_) (fun hy=>?_)
   ·skip
    refine ar O (ao O (ar O ?_));refine eV iz (by decide) O O (ar O (aS iz O (ar O (a8 iz O ?_))));refine ar O (ao O (ar O ?_));refine ay jf.top.2 O (ar O (bB jf.top O ?_));refine ar O (ao O (ar O ?_));refine ay pU.2 O (ar O (bc pU O ?_));refine ar O (ao O (ar O (ao O (ar O (ao O ?_)))));refine bX 76 O (fun CQ=>?_) (fun CQ=>?_)
    ·skip
     refine ar O (ao O (ar O ?_));refine eV iz (by decide) O O (ar O (aS iz O (ar O (a8 iz O ?_))));refine ar O (ao O (ar O ?_));refine ay jf.top.2 O (ar O (bB jf.top O ?_));refine ar O (ao O (ar O ?_));refine ay pU.2 O (ar O (bc pU O ?_));refine ar O (ao O (ar O (ao O (ar O (ao O ?_)))));refine bX 91 O (fun CT=>?_) (fun CT=>?_)
     ·refine av O (av O (av O (bW O (bW O (av O (av O (bW O (bW O (bW O (bW O (bW O ?_)))))))))));refine bW O (bW O (bW O (bW O (bW O (bW O (av O (av O (bW O (bW O (bW O (bW O ?_)))))))))));refine bW O (bW O (bW O (bW O (bW O (bW O (bW O (bW O (av O (az O ?_)))))))));refine Cd.fW O (cE O (de (cT ?_)));refine bQ O ?_;exact⟨by rw [bad (.inr (.inl ⟨hx,hy,CQ,CT⟩))],aw⟩
     skip
     refine ar O (ao O (ar O (ao O (ar O (ao O ?_)))));refine bX 94 O (fun _=>?_) (fun h=>absurd hx h);refine ar O (ao O (ar O (ao O (ar O (ao O (ar O (ao O ?_)))))));refine bX 98 O (fun _=>?_) (fun h=>absurd hy h);refine ar O (ao O (ar O ?_));refine eV iz (by decide) O O (ar O (aS iz O (ar O (a8 iz O ?_))));refine ar O (ao O (ar O ?_));refine ay jf.top.2 O (ar O (bB jf.top O ?_));refine ar O (ao O (ar O ?_));refine ay pU.2 O (ar O (bc pU O ?_));refine ar O (ao O (ar O (ao O (ar O (ao O ?_)))));refine bX 111 O (fun eP=>?_) (fun eP=>?_)
     ·skip
      refine ar O (ao O (ar O ?_));refine eV iz (by decide) O O (ar O (aS iz O (ar O (a8 iz O ?_))));refine ar O (ao O (ar O ?_));refine ay jf.top.2 O (ar O (bB jf.top O ?_));refine ar O (ao O (ar O ?_));refine ay pU.2 O (ar O (bc pU O ?_));refine ar O (ao O (ar O (ao O (ar O (az O ?_)))));refine aM _ O (fun vI=>?_) (fun vI=>?_)
      ·refine cE O (de (cT ?_));refine bQ O ?_;exact⟨by rw [bad (.inr (.inr ⟨hx,hy,eP,vI⟩))],aw⟩
      refine aD O (aL O (aU O (tQ ?_)));exact⟨k+1,by omega,(ac4 O),aw,by omega,more (fun _ hb=>by
       rcases hb with hb | ⟨b1,b2,b3,b4⟩ | ⟨b1,b2,b3,b4⟩
       ·exact rX hb
       ·exact CT b4
       exact vI b4)⟩
     refine av O (av O (av O (av O (av O (av O (av O (av O (av O (av O (av O (av O ?_)))))))))));refine ar O (az O ?_);refine Cd.dO O (aD O (aL O (aU O (tQ ?_))));exact⟨k+1,by omega,(ac4 O),aw,by omega,more (fun _ hb=>by
      rcases hb with hb | ⟨b1,b2,b3,b4⟩ | ⟨b1,b2,b3,b4⟩
      ·exact rX hb
      ·exact CT b4
      exact eP b3)⟩
    skip
    refine av O (av O (av O (av O (av O (av O (av O (av O (av O (av O (av O (av O ?_)))))))))));refine ar O (ao O (ar O (ao O (ar O (ao O (ar O (ao O ?_)))))));refine bX 94 O (fun _=>?_) (fun h=>absurd hx h);refine ar O (ao O (ar O (ao O (ar O (ao O (ar O (ao O ?_)))))));refine bX 98 O (fun _=>?_) (fun h=>absurd hy h);refine ar O (ao O (ar O ?_));refine eV iz (by decide) O O (ar O (aS iz O (ar O (a8 iz O ?_))));refine ar O (ao O (ar O ?_));refine ay jf.top.2 O (ar O (bB jf.top O ?_));refine ar O (ao O (ar O ?_));refine ay pU.2 O (ar O (bc pU O ?_));refine ar O (ao O (ar O (ao O (ar O (ao O ?_)))));refine bX 111 O (fun eP=>?_) (fun eP=>?_)
    ·skip
     refine ar O (ao O (ar O ?_));refine eV iz (by decide) O O (ar O (aS iz O (ar O (a8 iz O ?_))));refine ar O (ao O (ar O ?_));refine ay jf.top.2 O (ar O (bB jf.top O ?_));refine ar O (ao O (ar O ?_));refine ay pU.2 O (ar O (bc pU O ?_));refine ar O (ao O (ar O (ao O (ar O (az O ?_)))));refine aM _ O (fun vI=>?_) (fun vI=>?_)
     ·refine cE O (de (cT ?_));refine bQ O ?_;exact⟨by rw [bad (.inr (.inr ⟨hx,hy,eP,vI⟩))],aw⟩
     refine aD O (aL O (aU O (tQ ?_)));exact⟨k+1,by omega,(ac4 O),aw,by omega,more (fun _ hb=>by
      rcases hb with hb | ⟨b1,b2,b3,b4⟩ | ⟨b1,b2,b3,b4⟩
      ·exact rX hb
      ·exact CQ b3
      exact vI b4)⟩
    refine av O (av O (av O (av O (av O (av O (av O (av O (av O (av O (av O (av O ?_)))))))))));refine ar O (az O ?_);refine Cd.dO O (aD O (aL O (aU O (tQ ?_))));exact⟨k+1,by omega,(ac4 O),aw,by omega,more (fun _ hb=>by
     rcases hb with hb | ⟨b1,b2,b3,b4⟩ | ⟨b1,b2,b3,b4⟩
     ·exact rX hb
     ·exact CQ b3
     exact eP b3)⟩
   refine av O (av O (av O (av O (av O (av O (av O (av O (av O (av O (av O (ar O ?_)))))))))));refine ao O (ar O (ao O (av O (av O (av O (av O (av O (av O (av O (av O (av O ?_)))))))))));refine av O (av O (av O (ar O (ao O (ar O (ao O (ar O (ao O (ar O (ao O ?_))))))))));refine bX 94 O (fun _=>?_) (fun h=>absurd hx h);refine ar O (ao O (ar O (ao O (ar O (ao O (ar O (ao O ?_)))))));refine bX 98 O (fun h=>absurd h hy) (fun _=>?_);refine av O (av O (av O (av O (av O (av O (av O (av O (av O (av O (av O (ar O ?_)))))))))));refine ao O (ar O (ao O (av O (av O (av O (av O (av O (av O (av O (av O (av O ?_)))))))))));refine av O (av O (av O (ar O (az O ?_))));refine Cd.dO O (aD O (aL O (aU O (tQ ?_))));exact⟨k+1,by omega,(ac4 O),aw,by omega,more (fun _ hb=>by
    rcases hb with hb | ⟨b1,b2,b3,b4⟩ | ⟨b1,b2,b3,b4⟩
    ·exact rX hb
    ·exact hy b2
    exact hy b2)⟩
  refine av O (av O (ar O (ao O (ar O (ao O (av O (av O (av O (av O (av O (av O ?_)))))))))));refine av O (av O (av O (av O (av O (ar O (ao O (ar O (ao O (av O (av O (av O ?_)))))))))));refine av O (av O (av O (av O (av O (av O (av O (av O (av O (ar O (ao O (ar O ?_)))))))))));refine ao O (ar O (ao O (ar O (ao O ?_))));refine bX 94 O (fun h=>absurd h hx) (fun _=>?_);refine av O (av O (ar O (ao O (ar O (ao O (av O (av O (av O (av O (av O (av O ?_)))))))))));refine av O (av O (av O (av O (av O (ar O (ao O (ar O (ao O (av O (av O (av O ?_)))))))))));refine av O (av O (av O (av O (av O (av O (av O (av O (av O (ar O (az O ?_))))))))));refine Cd.dO O (aD O (aL O (aU O (tQ ?_))));exact⟨k+1,by omega,(ac4 O),aw,by omega,more (fun _ hb=>by
   rcases hb with hb | ⟨b1,b2,b3,b4⟩ | ⟨b1,b2,b3,b4⟩
   ·exact rX hb
   ·exact hx b1
   exact hx b1)⟩
 refine bo O (bp (e6 O ?_));refine bQ O ⟨?_,aB⟩;rw [show jZ M i f=true from fo (fun k' dp gy=>hK k' (by omega) gy)]
theorem Rd.first{A:ai}{n:Nat}{f:Nat->ab}(h:Rd w A (n+1) f):Rd w A 1 (fun _=>f 0):=fun j hj=>by
 obtain rfl:j=0:=by omega
 exact h 0 (by omega)
theorem ZX{α:Type}{l:List α}{i:Nat}{x:α}(h:l[i]?=some x):l.set i x=l:=by
 apply List.ext_getElem?;intro j;rw [kX]
 split
 ·rename_i e;subst e;rw [aJ (ga.1 h).1,h]
 rfl
theorem Zz{n F:Nat}{M:ag}(h:kb n F M){r q g:Nat}(hr:r<n)(hq:q<F)(hg:g<F)(VS:q≠g)(h1:cell M r q= -1)(h2:cell M r g= -1):ik (ik (put M r q g) r q (-1)) r g (-1)=M:=by
 have hl:=h.1;have bH:=h.row hr;have e:∀(p:ah),gl (M.set r p) r=p:=fun p=>by rw [xl (by omega),aJ O]
 have g1:(gl M (r:Nat))[q]?=some (-1):=by rw [dL (by omega),<-bN (by omega)];exact bw some h1
 have g2:(gl M (r:Nat))[g]?=some (-1):=by rw [dL (by omega),<-bN (by omega)];exact bw some h2
 unfold put ik;simp only [e,iH];have e2:((((gl M (r:Nat)).set q (g:Int)).set g (q:Int)).set q (-1)).set g (-1)=gl M (r:Nat):=by
  apply List.ext_getElem?;intro j;simp only [kX,gR]
  by_cases ej:g=j
  ·subst ej;rw [aJ rfl,aJ (by omega),g2]
  rw [aC ej]
  by_cases E7:q=j
  ·subst E7;rw [aJ rfl,aJ (by omega),g1]
  rw [aC E7,aC ej,aC E7]
 rw [e2];exact ZX (by rw [dL (by omega),cM (by omega)])
theorem Y5{α:Type}(a b c:List α):(a++ (b++c)).Perm (b++ (a++c)):=by
 rw [<-fC,<-fC];exact List.Perm.append_right _ fb
def iI(Ab:ai)(A:ai)(n c F used:Nat)(Al:ai)(nl cl:Nat)(outs:List aO)(rs:List aO)(M:ag)(ks:List Ck):List Ck:=
 Bx 179 4 Ab [.slice A n c,aj F,aj used,.slice Al nl cl]::aV 37 Al nl cl outs::(aK 24 2 A n c rs M++ks)
theorem Rh(n F:Nat)(zU:n<=5)(hF:2<=F/\F<=400)(Ab A:ai)(c:Nat)(rs:List aO):∀(fuel at_ met:Nat) (M:ag),Inv n F M met at_->F*n+1<=fuel+at_->∀(w0 w:aa) (ks:List Ck) (Al:ai) (nl cl:Nat) (outs:List aO) (f i:Nat),at_=f*n+i->i<=n->
 St w0 w (iI Ab A n c F met Al nl cl outs rs M ks)->nl+ (grow n F jZ (fun L=>decide (bj L)) fuel at_ met M).length<=4000000000000->
 aE prog 200 [.pointer Ab,aj f,aj i] w (fun v w'=>∃A' c',∃new:List cq,v= .tuple #[]/\(∀m∈new,m.ok)/\new.map (·.xss)=grow n F jZ (fun L=>decide (bj L)) fuel at_ met M/\
  St w0 w' (iI Ab A n c F met A' (nl+new.length) c' (outs++new.map (·.top)) rs M (dv 24 2 new++ks))):=by
 intro fuel
 induction fuel using Nat.strongRecOn with
 | _ fuel ih=>
 intro at_ met M hI U6 w0 w ks Al nl cl outs f i lg hi hS hB;have lr:=hI.n0;have ux:=hI.kz;have hlen:=hI.dz.1;have hle:=hI.le;unfold iI at hS;refine bm func200 O ntmps200 O (Og O) ?_;refine pc (α:=Nat×Nat) (fun z=> [(0,.pointer Ab),(1,aj (z.1:Int)),(2,aj (z.2:Int))]) (fun z w'=>w'=w/\at_=z.1*n+z.2/\z.2<n) ?_ ?_
 ·refine aY O (eV (hS.rd 0 O) (Nat.succ_pos _) O O (aS (hS.rd 0 O) O (a8 (hS.rd 0 O) O (aH (wC _ _ _ _) O ?_))));rintro _ w ⟨rfl,rfl⟩;refine az O ?_;have oL:f*n<=2000:=by
   have h1:met*n<=F*n:=Nat.mul_le_mul_right n ux;have h2:F*n<=F*5:=Nat.mul_le_mul_left F zU;omega
  have jC:f<=f*n:=Nat.le_mul_of_pos_right f lr;refine aM _ O (fun h1=>?_) (fun h1=>?_)
  ·refine aD O (aL O (aU O (tQ ?_)));exact⟨(f+1,0),(ac4 O),O,by show at_=(f+1)*n+0;rw [Nat.succ_mul];omega,lr⟩
  ·refine mC O (tQ ?_);exact⟨(f,i),(ac4 O),O,lg,by show i<n;omega⟩
 rintro⟨q,r⟩ e w ⟨rfl,Ge,gI⟩;dsimp only at Ge gI|-;have hr:at_%n=r:=by rw [Ge,Nat.add_comm,Nat.add_mul_mod_self_right,Nat.mod_eq_of_lt gI]
 have hq:at_ / n=q:=by rw [Ge,Nat.add_comm,Nat.add_mul_div_right _ _ lr,Nat.div_eq_of_lt gI,Nat.zero_add]
 clear lg hi;refine aY O (eV (hS.rd 0 O) (Nat.succ_pos _) O O (aS (hS.rd 0 O) O (iw (hS.rd 0 O) O O O O O (ao O ?_))));refine bX 24 O (fun h1=>?_) (fun h1=>?_)
 ·have ie:r=0:=by
   have:q=met:=by omega
   subst this;omega
  have nZ:q=met:=by omega
  subst nZ;subst ie;obtain⟨f',rfl⟩:∃f',fuel=f'+1:=⟨fuel - 1,by have:q*n<=F*n:=Nat.mul_le_mul_right n ux;omega⟩;have ll:grow n F jZ (fun L=>decide (bj L)) (f'+1) at_ q M=if q=F/\(fun(L:ag)=>decide (bj L)) M=true then [M]else []:=by
   show(if _ then _ else _)=_;rw [aJ (by omega)]
  rw [ll]at hB|-;refine av O (av O (av O (av O (av O (av O (az O ?_))))));refine Cd.fW O (aD O (eV (hS.rd 0 O) (Nat.succ_pos _) O O (aS (hS.rd 0 O) O (a8 (hS.rd 0 O) O (wN (by exact inferInstance) (by exact O) O O O (eH hS O ?_))))));intro A6 w6 aQ;refine bR 1 0 aQ O O O O O O O ?_;intro w7 a6;have a6:St w0 w7 (Bx 37 1 A6 [.slice A n c]::Bx 179 4 Ab [.slice A n c,aj F,aj q,.slice Al nl cl]::aV 37 Al nl cl outs::(aK 24 2 A n c rs M++ks)):=a6;refine ao O (eV (a6.rd 1 O) (Nat.succ_pos _) O O (aS (a6.rd 1 O) O (iw (a6.rd 1 O) O O O O O (ao O ?_))));refine bX 43 O (fun h2=>?_) (fun h2=>?_)
  ·have gf:=a6.cap 3 O;have xy:∀ {w'},St w0 w' (Bx 37 1 A6 [.slice A n c]::Bx 179 4 Ab [.slice A n c,aj F,aj q,.slice Al nl cl]::aV 37 Al nl cl outs::(aK 24 2 A n c rs M++ks))->bl w' A n rs M:=fun h=>h.tail.tail.tail.du hlen
   refine ar O (ac3 0 (a6.rd 0 O) O (ar O (aH (AO A n c rs M _ (xy a6) gf.1 gf.2) O ?_)));rintro _ w8 ⟨rfl,aA⟩;have a7:=a6.aq aA.below;refine az O ?_;have G0:q=F:=by omega
   have pD:=a7.rd 0 O;have xp:=a7.rd 1 O;refine aM _ O (fun h3=>?_) (fun h3=>?_)
   ·rw [aJ ⟨G0,fo h3⟩]at hB|-;simp only [List.length_singleton]at hB;refine jx [8,11] [yP (Ab),yP (Ab),yP (Ab),yP (aF (Ab) 3),yS (Al) (nl) (cl),.ex (.agg #[.slice (A) (n) (c)]),.pr (fun v w'=>∃A7 c7 fq,v= .agg #[.slice A7 n c7]/\fq.length=n/\St w0 w' ((Bx 37 1 A6 [.slice A n c]::Bx 179 4 Ab [.slice A n c,aj F,aj q,.slice Al nl cl]::aV 37 Al nl cl outs::(aK 24 2 A n c rs M++ks))++aK 24 2 A7 n c7 fq M)),.pr (fun v w'=>∃A7 c7 fq A9,v= .slice A9 1 1/\fq.length=n/\St w0 w' (aV 37 A9 1 1 [⟨A7,n,c7⟩]::((Bx 37 1 A6 [.slice A n c]::Bx 179 4 Ab [.slice A n c,aj F,aj q,.slice Al nl cl]::aV 37 Al nl cl outs::(aK 24 2 A n c rs M++ks))++aK 24 2 A7 n c7 fq M))),.pr (fun v w'=>∃A7 c7 fq bI b8,v= .slice bI (nl+1) b8/\fq.length=n/\St w0 w' ((Bx 37 1 A6 [.slice A n c]::Bx 179 4 Ab [.slice A n c,aj F,aj q,.slice Al nl cl]::aV 37 bI (nl+1) b8 (outs++ [⟨A7,n,c7⟩])::(aK 24 2 A n c rs M++ks))++aK 24 2 A7 n c7 fq M)),yP (Ab),yP (aF (Ab) 3),.pr (fun _ w'=>∃A7 c7 fq bI b8,fq.length=n/\St w0 w' ((Bx 37 1 A6 [.slice A n c]::Bx 179 4 Ab [.slice A n c,aj F,aj q,.slice bI (nl+1) b8]::aV 37 bI (nl+1) b8 (outs++ [⟨A7,n,c7⟩])::(aK 24 2 A n c rs M++ks))++aK 24 2 A7 n c7 fq M))] (by kernel_rfl) (by kernel_rfl) (ly (ly (ly (ly (ly (ly (cL.2 ⟨Ye.cQ (fun v w w' h hb=>by obtain⟨A7,c7,fq,hv,hl,hT⟩:=h;exact⟨A7,c7,fq,hv,hl,hT.aq hb⟩),(cL.2 ⟨Ye.cQ (fun v w w' h hb=>by obtain⟨A7,c7,fq,A9,hv,hl,hT⟩:=h;exact⟨A7,c7,fq,A9,hv,hl,hT.aq hb⟩),(cL.2 ⟨Ye.cQ (fun v w w' h hb=>by obtain⟨A7,c7,fq,bI,b8,hv,hl,hT⟩:=h;exact⟨A7,c7,fq,bI,b8,hv,hl,hT.aq hb⟩),(ly (ly (cL.2 ⟨Ye.cQ (fun v w w' h hb=>by obtain⟨A7,c7,fq,bI,b8,hl,hT⟩:=h;exact⟨A7,c7,fq,bI,b8,hl,hT.aq hb⟩),(fun _ h=>by cases h)⟩)))⟩)⟩)⟩))))))) ?_ ?_
    ·refine⟨cj O,cj O,cP fun _ _ hb _ _ _=>eV (xp.below hb) (Nat.succ_pos _) O O (bG O O),cP fun _ _ hb _ _ _=>aS (xp.below hb) O (bG O O),cP fun _ _ hb _ _ _=>a8 (xp.below hb) O (bG O O),cP fun _ _ hb _ _ _=>ac3 0 (pD.below hb) O (bG O O),?_,?_,?_,?_,?_,?_,au⟩
     ·refine cP fun e1 w1 hb hp aX hq=>?_
      refine aH (Ro A n c rs M _ (xy (a7.aq hb)) (by omega) (fun i hi=>by have:=(xy (a7.aq hb)).dz hI.dz (k:=(i:Int)) (by omega) (by omega);simp only [rg,gn]at this;omega)) O ?_;rintro _ w2 ⟨A7,c7,fq,rfl,lp,aA⟩;exact ak.n (fB.dn O aA.below ⟨A7,c7,fq,O,lp,(a7.aq hb).call2 aA⟩)
     ·refine cP fun e1 w1 hb hp aX hq=>?_
      obtain⟨A7,c7,fq,xn,lp,hT⟩:=(hp 6 _ _ (by kernel_rfl) rfl rfl (by kernel_rfl));refine yK (St.refl _) (by exact xn) O O ?_;intro A9 w9 aA;exact ak.n (fB.dn O aA.below ⟨A7,c7,fq,A9,O,lp,hT.call aA⟩)
     ·refine jy fun e1 w1 hb hp aX hq=>?_
      obtain⟨A7,c7,fq,A9,Ti,lp,hT⟩:=(hp 7 _ _ (by kernel_rfl) rfl rfl (by kernel_rfl));refine km 3 hT O (hT.eG 0 O) O (by exact Ti) O (by omega) (by omega) O ?_;intro bI b8 dt lS;exact ak.n (fv.dn O ⟨A7,c7,fq,bI,b8,O,lp,lS.tail⟩)
     ·refine dP 1 fun e1 w1 hp aX hq=>?_
      have dT:=hp 8 _ _ (by kernel_rfl) O O (by kernel_rfl);obtain⟨A7,c7,fq,bI,b8,FG,lp,hT⟩:=dT;refine eV ((hT.rd 1 O)) (Nat.succ_pos _) O O (ak.n (fO O (by exact O)))
     ·refine dP 1 fun e1 w1 hp aX hq=>?_
      have dT:=hp 8 _ _ (by kernel_rfl) O O (by kernel_rfl);obtain⟨A7,c7,fq,bI,b8,FG,lp,hT⟩:=dT;refine aS ((hT.rd 1 O)) O (ak.n (fO O (by exact O)))
     ·refine pn 1 fun e1 w1 hp aX hq=>?_
      have dT:=hp 8 _ _ (by kernel_rfl) O O (by kernel_rfl);obtain⟨A7,c7,fq,bI,b8,FG,lp,hT⟩:=dT;refine kD 1 hT O O (by exact FG) O O ?_;intro dB jm;exact ak.n (fv.st O ⟨A7,c7,fq,bI,b8,lp,jm⟩)
    intro u w9 _ hu _ _;obtain⟨A7,c7,fq,bI,b8,lp,hT⟩:=hu 11 _ rfl (by kernel_rfl);refine tE O (Bp ?_);refine⟨bI,b8,[⟨⟨A7,n,c7⟩,fq,M⟩],rfl,(fun m hm=>by simp at hm;subst hm;exact hlen),rfl,?_⟩;have hT:=hT.tail;unfold iI;simp only [dv,cq.fc,List.flatMap_cons,List.flatMap_nil,iG,List.map_cons,List.map_nil,List.length_singleton];refine hT.perm ?_;refine List.Perm.cons _ (List.Perm.cons _ ?_);show((aK 24 2 A n c rs M++ks)++aK 24 2 A7 n c7 fq M).Perm _;rw [fC];exact List.Perm.append_left _ fb
   ·rw [aC (fun h=>h3 (mT h.2))];refine cE O (Bp ?_);exact⟨Al,cl,[],rfl,(fun m hm=>by cases hm),rfl,by simpa [dv,iI]using a7.tail⟩
  ·rw [aC (fun h=>h2 (by rw [h.1]))];refine av O (av O (az O ?_));refine Cd.dO O (cE O (Bp ?_));exact⟨Al,cl,[],rfl,(fun m hm=>by cases hm),rfl,by simpa [dv,iI]using a6.tail⟩
 ·have nZ:q<met:=by
   apply kV;intro h;have h3:(met+1)*n<=q*n:=Nat.mul_le_mul_right n (by omega);rw [Nat.succ_mul]at h3;omega
  have vE:at_≠met*n:=by
   have h3:(q+1)*n<=met*n:=Nat.mul_le_mul_right n (by omega);rw [Nat.succ_mul]at h3;omega
  have Vz:met*n<=F*n:=Nat.mul_le_mul_right n ux;obtain⟨f',rfl⟩:∃f',fuel=f'+1:=⟨fuel - 1,by omega⟩;refine ar O (ao O (ar O (ao O (ar O ?_))));refine eV (hS.rd 0 O) (Nat.succ_pos _) O O (ar O (aS (hS.rd 0 O) O (ar O (iw (hS.rd 0 O) O O O O O ?_))));refine ar O (az O ?_);refine jw O (by omega) ?_;have hR:=hS.tail.tail.du hlen;have bH:=hR.at_ (i:=(r:Int)) (by omega) (by omega);have G7:=hR.dz hI.dz (k:=(r:Int)) (by omega) (by omega);refine aD O (eV (hS.rd 0 O) (Nat.succ_pos _) O O (aS (hS.rd 0 O) O (a8 (hS.rd 0 O) O (ao O (ay hR.top.2 O (bB hR.top O (ao O (ay bH.2 O (bc bH O ?_)))))))));refine az O (aM _ O (fun h2=>?_) (fun h2=>?_))
  ·have hk:0<=cell M (at_%n) (at_ / n:Nat):=by rw [hr,hq];exact h2
   have ll:grow n F jZ (fun L=>decide (bj L)) (f'+1) at_ met M=grow n F jZ (fun L=>decide (bj L)) f' (at_+1) met M:=by
    show(if _ then _ else _)=_;rw [aC vE,aJ hk]
   rw [ll]at hB|-;refine aD O (aL O ?_);refine aH (ih f' (by omega) (at_+1) met M (hI.next vE hk) (by omega) w0 w ks Al nl cl outs q (r+1) (by omega) (by omega) hS hB) O ?_;rintro _ w2 ⟨A',c',new,rfl,bq,hx,hT⟩;refine bu O (Bp ?_);exact⟨A',c',new,O,bq,hx,hT⟩
  ·have aX:¬0<=cell M (at_%n) (at_ / n:Nat):=by rw [hr,hq];exact h2
   have ll:grow n F jZ (fun L=>decide (bj L)) (f'+1) at_ met M=(List.range' (q+1) (min met (F - 1) - q)).flatMap (body n F jZ (fun L=>decide (bj L)) f' at_ met M):=by
    rw [KE vE aX,hq]
   rw [ll]at hB|-;refine aD O (eV (hS.rd 0 O) (Nat.succ_pos _) O O (aS (hS.rd 0 O) O (iw (hS.rd 0 O) O O O O O ?_)));refine ao O (aL O (az O ?_));refine Cd.loop (α:=Nat×ai×Nat×List cq) (fun z=> [(0,.pointer Ab),(1,aj q),(2,aj r),(7,aj met),(8,aj (z.1:Int))])
    (fun z w'=>St w0 w' (iI Ab A n c F met z.2.1 (nl+z.2.2.2.length) z.2.2.1 (outs++z.2.2.2.map (·.top)) rs M (dv 24 2 z.2.2.2++ks))/\q+1<=z.1/\z.1<=q+1+ (min met (F - 1) - q)/\(∀m∈z.2.2.2,m.ok)/\z.2.2.2.map (·.xss)=(List.range' (q+1) (z.1 - (q+1))).flatMap (body n F jZ (fun L=>decide (bj L)) f' at_ met M))
    (fun z=>q+2+ (min met (F - 1) - q) - z.1) (q+1,Al,cl,[]) ⟨rfl,rfl,rfl,rfl,rfl,au⟩ ⟨by simpa [dv,iI]using hS,dE _,Nat.le_add_right _ _,(fun m hm=>by cases hm),by simp⟩ ?_
   rintro⟨g,Ag,cg,new⟩ e w4 ⟨aG,pN,xM,mO,oa⟩;dsimp only at aG pN xM mO oa|-;unfold iI at aG;have LM:∀ {w5:aa},St w0 w5 (iI Ab A n c F met Ag (nl+new.length) cg (outs++new.map (·.top)) rs M (dv 24 2 new++ks))->g=q+1+ (min met (F - 1) - q)->∃A' c',∃Bg:List cq,(Value.tuple #[]:ab)= .tuple #[]/\(∀m∈Bg,m.ok)/\Bg.map (·.xss)=(List.range' (q+1) (min met (F - 1) - q)).flatMap (body n F jZ (fun L=>decide (bj L)) f' at_ met M)/\St w0 w5 (iI Ab A n c F met A' (nl+Bg.length) c' (outs++Bg.map (·.top)) rs M (dv 24 2 Bg++ks)):=fun h pP=> ⟨Ag,cg,new,O,mO,by rw [oa];congr 2;omega,h⟩
   refine aY O (bX 83 O (fun h3=>?_) (fun h3=>?_))
   ·refine ar O (ao O (ar O (ao O (ar O ?_))));refine eV (aG.rd 0 O) (Nat.succ_pos _) O O (ar O (aS (aG.rd 0 O) O (ar O (iw (aG.rd 0 O) O O O O O ?_))));refine ar O (az O ?_);refine aM _ O (fun h4=>?_) (fun h4=>?_)
    ·have pQ:g<q+1+ (min met (F - 1) - q):=by omega
     have kJ:=aG.tail.tail.du hlen;have hrsl:rs.length=n:=kJ.top.1;have bH:=kJ.at_ (i:=(r:Int)) (by omega) (by omega);have hrnF:=kJ.dz hI.dz (k:=(r:Int)) (by omega) (by omega);have ig:=H5 (body n F jZ (fun L=>decide (bj L)) f' at_ met M) pN pQ;have G4:=Oq (body n F jZ (fun L=>decide (bj L)) f' at_ met M) pN pQ;have jr:new.length=((List.range' (q+1) (g - (q+1))).flatMap (body n F jZ (fun L=>decide (bj L)) f' at_ met M)).length:=by rw [<-oa];simp
     refine aD O (eV (aG.rd 0 O) (Nat.succ_pos _) O O (aS (aG.rd 0 O) O (a8 (aG.rd 0 O) O (ao O (ay kJ.top.2 O (bB kJ.top O (ao O (ay bH.2 O (bc bH O ?_)))))))));refine az O (aM _ O (fun h5=>?_) (fun h5=>?_))
     ·have gx:body n F jZ (fun L=>decide (bj L)) f' at_ met M g=[]:=by unfold body;rw [hr,if_pos (show 0<=cell M r g from h5)]
      refine aD O (aL O (aU O (tQ ?_)));refine⟨(g+1,Ag,cg,new),by show _ - (g+1)<_ - g;omega,(ac4 O),aG,by show q+1<=g+1;omega,by show g+1<=_;omega,mO,?_⟩;show new.map _=(List.range' (q+1) (g+1 - (q+1))).flatMap _;rw [ig,gx,iG,oa]
     ·have pG:=hI.put vE aX (g:=g) (by omega) (by omega) (by omega) (by rw [hr];exact h5);rw [hr,hq]at pG;have gx:body n F jZ (fun L=>decide (bj L)) f' at_ met M g=if jZ (put M r q g) r q=true then grow n F jZ (fun L=>decide (bj L)) f' (at_+1) (max met (g+1)) (put M r q g)else []:=by
       unfold body;rw [hr,hq,aC (show ¬0<=cell M r g from h5)]
      have vU:=hI.dz.ik gI q (g:Int);have Wj:ik (ik (put M r q g) r q (-1)) r g (-1)=M:=Zz hI.dz gI (by omega) (by omega) (by omega) ((hI.cells r q gI (by omega) (by omega)).resolve_right (fun h=>h2 h.1)) ((hI.cells r g gI (by omega) (by omega)).resolve_right (fun h=>h5 h.1));have UH:0<=cell (put M r q g) r q:=by
       rw [vb hI.dz gI (by omega) (by omega) (by omega),aC (by omega),aJ ⟨rfl,rfl⟩];omega
      refine cH O ?_;refine jx [19,21] [yP (Ab),yP (Ab),yP (aF (Ab) 0),yS (A) (n) (c),yI ((r:Int)),yP (aF (A) ((r:Int)).toNat),yS ((rg (rs) ((r:Int))).a) ((rg (rs) ((r:Int))).n) ((rg (rs) ((r:Int))).c),yI ((q:Int)),yP (Ab),yP (Ab),yP (aF (Ab) 0),yS (A) (n) (c),yI ((r:Int)),yP (aF (A) ((r:Int)).toNat),yS ((rg (rs) ((r:Int))).a) ((rg (rs) ((r:Int))).n) ((rg (rs) ((r:Int))).c),yI ((g:Int)),yI ((g:Int)),yI ((q:Int)),yP (aF ((rg (rs) ((r:Int))).a) ((q:Int)).toNat),.pr (fun _ w'=>St w0 w' (iI Ab A n c F met Ag (nl+new.length) cg (outs++new.map (·.top)) rs (ik M r q g) (dv 24 2 new++ks))),yP (aF ((rg (rs) ((r:Int))).a) ((g:Int)).toNat),.pr (fun _ w'=>St w0 w' (iI Ab A n c F met Ag (nl+new.length) cg (outs++new.map (·.top)) rs (put M r q g) (dv 24 2 new++ks)))] (by kernel_rfl) (by kernel_rfl) (ly (ly (ly (ly (ly (ly (ly (ly (ly (ly (ly (ly (ly (ly (ly (ly (ly (ly (ly (cL.2 ⟨Ye.cQ (fun v w w' h hb=>h.aq hb),(ly (cL.2 ⟨Ye.cQ (fun v w w' h hb=>h.aq hb),(fun _ h=>by cases h)⟩))⟩)))))))))))))))))))) ?_ ?_
      ·refine⟨cj O,cP fun _ _ hb _ _ _=>eV ((aG.rd 0 O).below hb) (Nat.succ_pos _) O O (bG O O),cP fun _ _ hb _ _ _=>aS ((aG.rd 0 O).below hb) O (bG O O),cP fun _ _ hb _ _ _=>a8 ((aG.rd 0 O).below hb) O (bG O O),cj O,cP fun _ _ hb _ _ _=>ay (kJ.top.aq hb).2 O (bG O O),cP fun _ _ hb _ _ _=>bB (kJ.top.aq hb) O (bG O O),cj O,cj O,cP fun _ _ hb _ _ _=>eV ((aG.rd 0 O).below hb) (Nat.succ_pos _) O O (bG O O),cP fun _ _ hb _ _ _=>aS ((aG.rd 0 O).below hb) O (bG O O),cP fun _ _ hb _ _ _=>a8 ((aG.rd 0 O).below hb) O (bG O O),cj O,cP fun _ _ hb _ _ _=>ay (kJ.top.aq hb).2 O (bG O O),cP fun _ _ hb _ _ _=>bB (kJ.top.aq hb) O (bG O O),cj O,cj O,cj O,cP fun _ _ hb _ _ _=>ay (bH.aq hb).2 O (bG O O),?_,?_,?_,au⟩
       ·refine jy fun e1 w1 hb hp aX hq=>?_
        exact qj (pre:=[Bx 179 4 Ab [.slice A n c,aj F,aj met,.slice Ag (nl+new.length) cg],aV 37 Ag (nl+new.length) cg (outs++new.map (·.top))]) r (f:=(q:Int)) (aG.aq hb) (by omega) (by omega) O O (by omega) fun w6 aQ=>ak.n (fv.st O aQ)
       ·refine dP 1 fun e1 w1 hp aX hq=>?_
        have dT:=hp 19 _ _ (by kernel_rfl) O O (by kernel_rfl);have ns:=((show St w0 _ (_::_::(aK 24 2 A n c rs (ik M r q g)++_)) from dT).tail.tail.du vU.1).at_ (i:=(r:Int)) (by omega) (by omega);have pS:=vU.1;refine ay (ns).2 O (ak.n (fO O (by exact O)))
       ·refine pn 1 fun e1 w1 hp aX hq=>?_
        have dT:=hp 19 _ _ (by kernel_rfl) O O (by kernel_rfl);have ns:=((show St w0 _ (_::_::(aK 24 2 A n c rs (ik M r q g)++_)) from dT).tail.tail.du vU.1).at_ (i:=(r:Int)) (by omega) (by omega);have pS:=vU.1;exact qj (pre:=[Bx 179 4 Ab [.slice A n c,aj F,aj met,.slice Ag (nl+new.length) cg],aV 37 Ag (nl+new.length) cg (outs++new.map (·.top))]) r (f:=(g:Int)) dT (by omega) (by omega) O O (by omega) fun w7 a6=>ak.n (fv.st O a6)
      intro u w5 _ hu _ _;have aR:=hu 21 _ O (by kernel_rfl);generalize zu:put M r q g=M' at*;have lp:=pG.dz.1;unfold iI at aR;have rN:max (met:Int) ((g:Int)+1)=((max met (g+1):Nat):Int):=by omega
      refine fK O (aL O ?_);refine Ex O O O ?_;rw [rN];refine eV (aR.rd 0 O) (Nat.succ_pos _) O O (aS (aR.rd 0 O) O (kD 0 aR O O O O O ?_));intro w6 aQ;have aQ:St w0 w6 (iI Ab A n c F (max met (g+1)) Ag (nl+new.length) cg (outs++new.map (·.top)) rs M' (dv 24 2 new++ks)):=aQ;refine wJ 0 O ?_;refine pc (α:=ai×Nat×List cq) (fun z=> [(0,.pointer Ab),(1,aj q),(2,aj r),(7,aj met),(8,aj g)])
       (fun z w'=>St w0 w' (iI Ab A n c F (max met (g+1)) z.1 (nl+new.length+z.2.2.length) z.2.1 (outs++new.map (·.top)++z.2.2.map (·.top)) rs M' (dv 24 2 z.2.2++ (dv 24 2 new++ks)))/\(∀m∈z.2.2,m.ok)/\z.2.2.map (·.xss)=body n F jZ (fun L=>decide (bj L)) f' at_ met M g) ?_ ?_
      ·refine aY O ?_;have F1:=aQ;unfold iI at F1;refine aH (Se Ab A n c F rs M' r q _ (Rd.first (F1.rd 0 O)) (F1.tail.tail.du lp) pG.dz pG.eS (by omega) gI (by omega) UH) O ?_;rintro _ w7 ⟨rfl,aA⟩;have a6:=aQ.aq aA.below;refine az O (Cd.cond O (fun h7=>?_) (fun h7=>?_))
       ·rw [aJ h7]at gx;rw [gx]at G4;refine aD O (aL O ?_);refine aH (ih f' (by omega) (at_+1) (max met (g+1)) M' pG (by omega) w0 w7 (dv 24 2 new++ks) Ag (nl+new.length) cg (outs++new.map (·.top)) q (r+1) (by omega) (by omega) a6 (by omega)) O ?_;rintro _ w8 ⟨A9,c9,gP,rfl,xY,yb,a7⟩;refine aU O (tQ ?_);exact⟨(A9,c9,gP),(ac4 O),a7,xY,by rw [gx];exact yb⟩
       ·rw [aC (by rw [h7];simp)]at gx;refine mC O (tQ ?_);exact⟨(Ag,cg,[]),⟨rfl,rfl,rfl,rfl,rfl,au⟩,by simpa [dv]using a6,(fun m hm=>by cases hm),by rw [gx];rfl⟩
      ·rintro⟨A9,c9,gP⟩ e w8 ⟨a7,xY,yb⟩;dsimp only at a7 xY yb|-;have Dt:=pG.dz.ik gI q (-1);unfold iI at a7;have sR:=a7.tail.tail.du lp;have V1:=sR.at_ (i:=(r:Int)) (by omega) (by omega);refine cH O ?_;refine jx [17,19] [yP (Ab),yP (Ab),yP (aF (Ab) 0),yS (A) (n) (c),yI ((r:Int)),yP (aF (A) ((r:Int)).toNat),yS ((rg (rs) ((r:Int))).a) ((rg (rs) ((r:Int))).n) ((rg (rs) ((r:Int))).c),yI ((q:Int)),yP (Ab),yP (Ab),yP (aF (Ab) 0),yS (A) (n) (c),yI ((r:Int)),yP (aF (A) ((r:Int)).toNat),yS ((rg (rs) ((r:Int))).a) ((rg (rs) ((r:Int))).n) ((rg (rs) ((r:Int))).c),yI ((g:Int)),yP (aF ((rg (rs) ((r:Int))).a) ((q:Int)).toNat),.pr (fun _ w'=>St w0 w' (iI Ab A n c F (max met (g+1)) A9 (nl+new.length+gP.length) c9 (outs++new.map (·.top)++gP.map (·.top)) rs (ik M' r q (-1)) (dv 24 2 gP++ (dv 24 2 new++ks)))),yP (aF ((rg (rs) ((r:Int))).a) ((g:Int)).toNat),.pr (fun _ w'=>St w0 w' (iI Ab A n c F (max met (g+1)) A9 (nl+new.length+gP.length) c9 (outs++new.map (·.top)++gP.map (·.top)) rs (ik (ik M' r q (-1)) r g (-1)) (dv 24 2 gP++ (dv 24 2 new++ks))))] (by kernel_rfl) (by kernel_rfl) (ly (ly (ly (ly (ly (ly (ly (ly (ly (ly (ly (ly (ly (ly (ly (ly (ly (cL.2 ⟨Ye.cQ (fun v w w' h hb=>h.aq hb),(ly (cL.2 ⟨Ye.cQ (fun v w w' h hb=>h.aq hb),(fun _ h=>by cases h)⟩))⟩)))))))))))))))))) ?_ ?_
       ·refine⟨cj O,cP fun _ _ hb _ _ _=>eV ((a7.rd 0 O).below hb) (Nat.succ_pos _) O O (bG O O),cP fun _ _ hb _ _ _=>aS ((a7.rd 0 O).below hb) O (bG O O),cP fun _ _ hb _ _ _=>a8 ((a7.rd 0 O).below hb) O (bG O O),cj O,cP fun _ _ hb _ _ _=>ay (sR.top.aq hb).2 O (bG O O),cP fun _ _ hb _ _ _=>bB (sR.top.aq hb) O (bG O O),cj O,cj O,cP fun _ _ hb _ _ _=>eV ((a7.rd 0 O).below hb) (Nat.succ_pos _) O O (bG O O),cP fun _ _ hb _ _ _=>aS ((a7.rd 0 O).below hb) O (bG O O),cP fun _ _ hb _ _ _=>a8 ((a7.rd 0 O).below hb) O (bG O O),cj O,cP fun _ _ hb _ _ _=>ay (sR.top.aq hb).2 O (bG O O),cP fun _ _ hb _ _ _=>bB (sR.top.aq hb) O (bG O O),cj O,cP fun _ _ hb _ _ _=>ay (V1.aq hb).2 O (bG O O),?_,?_,?_,au⟩
        ·refine jy fun e1 w1 hb hp aX hq=>?_
         exact qj (pre:=[Bx 179 4 Ab [.slice A n c,aj F,aj (((max met (g+1):Nat):Int)),.slice A9 (nl+new.length+gP.length) c9],aV 37 A9 (nl+new.length+gP.length) c9 (outs++new.map (·.top)++gP.map (·.top))]) r (f:=(q:Int)) (a7.aq hb) (by omega) (by omega) O O (by omega) fun w6 aQ=>ak.n (fv.st O aQ)
        ·refine dP 1 fun e1 w1 hp aX hq=>?_
         have dT:=hp 17 _ _ (by kernel_rfl) O O (by kernel_rfl);have ns:=((show St w0 _ (_::_::(aK 24 2 A n c rs (ik M' r q (-1))++_)) from dT).tail.tail.du Dt.1).at_ (i:=(r:Int)) (by omega) (by omega);have pS:=Dt.1;refine ay (ns).2 O (ak.n (fO O (by exact O)))
        ·refine pn 1 fun e1 w1 hp aX hq=>?_
         have dT:=hp 17 _ _ (by kernel_rfl) O O (by kernel_rfl);have ns:=((show St w0 _ (_::_::(aK 24 2 A n c rs (ik M' r q (-1))++_)) from dT).tail.tail.du Dt.1).at_ (i:=(r:Int)) (by omega) (by omega);have pS:=Dt.1;exact qj (pre:=[Bx 179 4 Ab [.slice A n c,aj F,aj (((max met (g+1):Nat):Int)),.slice A9 (nl+new.length+gP.length) c9],aV 37 A9 (nl+new.length+gP.length) c9 (outs++new.map (·.top)++gP.map (·.top))]) r (f:=(g:Int)) dT (by omega) (by omega) O O (by omega) fun w7 a6=>ak.n (fv.st O a6)
       intro u w9 _ hu _ _;have aW:St w0 w9 (iI Ab A n c F (max met (g+1)) A9 (nl+new.length+gP.length) c9 (outs++new.map (·.top)++gP.map (·.top)) rs (ik (ik M' r q (-1)) r g (-1)) (dv 24 2 gP++ (dv 24 2 new++ks))):=hu 19 _ O (by kernel_rfl);rw [Wj]at aW;unfold iI at aW;refine fK O (eV (aW.rd 0 O) (Nat.succ_pos _) O O (aS (aW.rd 0 O) O (kD 0 aW O O O O O ?_)));intro dt bV;have bV:St w0 dt (iI Ab A n c F met A9 (nl+new.length+gP.length) c9 (outs++new.map (·.top)++gP.map (·.top)) rs M (dv 24 2 gP++ (dv 24 2 new++ks))):=bV;refine ao O (aL O (aU O (tQ ?_)));refine⟨(g+1,A9,c9,new++gP),by show _ - (g+1)<_ - g;omega,(ac4 O),?_,by show q+1<=g+1;omega,by show g+1<=_;omega,fun m hm=>?_,?_⟩
       ·show St w0 dt (iI Ab A n c F met A9 (nl+ (new++gP).length) c9 (outs++ (new++gP).map (·.top)) rs M (dv _ _ (new++gP)++ks));rw [e8,lF,HQ,<-Nat.add_assoc,<-fC];refine bV.perm ?_;unfold iI;exact List.Perm.cons _ (List.Perm.cons _ (List.Perm.append_left _ (by rw [fC];exact Y5 _ _ _)))
       ·rcases gE.1 hm with hm | hm
        ·exact mO m hm
        ·exact xY m hm
       ·show(new++gP).map _=(List.range' (q+1) (g+1 - (q+1))).flatMap _;rw [ig,lF,oa,yb]
    ·refine bo O (bp (tF O ?_));refine H9 ?_;have pP:g=q+1+ (min met (F - 1) - q):=by omega
     exact LM aG pP
   ·refine av O (av O (av O (av O (av O (av O (az O ?_))))));refine Cd.dO O (bo O (bp (tF O ?_)));refine H9 ?_;have pP:g=q+1+ (min met (F - 1) - q):=by omega
    exact LM aG pP
section
variable {P:Program} {N:Nat} {ops:Array Oper} {K:Env->aa->Prop} {rest:List Oper} {e:Env} {w0 w w':aa} {ks:List Ck} {d:Nat} {ty:ad} {pos:String} {af:Array Edge}
theorem P4{t:ad}{f0 f1 f2 f3:Field}{z0 z1 z2 z3 y0 y1 y2 y3:ab}{b b0 b1 b2 b3:Nat}[bK P t (.struct #[f0,f1,f2,f3])][bF P t (.agg #[z0,z1,z2,z3]) 4 b](I0:bF P f0.type y0 1 b0)(I1:bF P f1.type y1 1 b1)(I2:bF P f2.type y2 1 b2)(I3:bF P f3.type y3 1 b3)(ho:f0.offset=0/\f1.offset=1/\f2.offset=2/\f3.offset=3){x1 x2:ae}{v1 v2:ab}(h1:ev e x1=v1)(h2:ev e x2=v2)(c1:v1.oneCell'=true)(c2:v2.oneCell'=true)(hb:Nat.blt d N=true)(hK:ak P N ops K rest (bt e d (.agg #[z0,v1,v2,z3])) w):ak P N ops K (⟨some d,.build t #[(1,x1),(2,x2)],ty,pos,af,none⟩::rest) e w:=by
 obtain⟨inf,hi,eM,hs,ib⟩:=bF.get P t;obtain⟨i0,g0,_,s0,_⟩:=I0.get P f0.type;obtain⟨i1,g1,_,s1,_⟩:=I1.get P f1.type;obtain⟨i2,g2,_,s2,_⟩:=I2.get P f2.type;obtain⟨i3,g3,_,s3,_⟩:=I3.get P f3.type;have e1:v1.cells= #[v1]:=by cases v1<;>simp [Value.oneCell']at c1<;>rfl
 have e2:v2.cells= #[v2]:=by cases v2<;>simp [Value.oneCell']at c2<;>rfl
 have ez:(Value.agg #[z0,z1,z2,z3]).cells= #[z0,z1,z2,z3]:=O;obtain⟨o0,o1,o2,o3⟩:=ho;refine .val (w':=w) ?_ hb hK;simp [execOp,Instr.build,run_underlying (bK.out (P:=P) (t:=t)),sizeOf,typeInfo,zeroValue,hi,eM,g0,g1,g2,g3,s0,s1,s2,s3,o0,o1,o2,o3,h1,h2,e1,e2,ez,Instr.fill]
theorem P8{el:ad}{x:ae}{v0 v1 v2 v3:ab}(hS:St w0 w ks)(hx:ev e x= .agg #[v0,v1,v2,v3])(hb:Nat.blt d N=true)(hK:∀A w',St w0 w' (Bx el 4 A [v0,v1,v2,v3]::ks)->ak P N ops K rest (bt e d (.pointer A)) w')(hM:dX [v0,v1,v2,v3]=false:=by rfl):ak P N ops K (⟨some d,.box el x,ty,pos,af,none⟩::rest) e w:= .xd hS hx hb rfl hK hM
end
def yq(Ab A:ai)(k c F:Nat)(rs:List aO):List Ck:=
 Bx 179 4 Ab [.slice A k c,aj F,aj (1:Int),.slice none 0 0]::aV 24 A k c rs::bS 2 rs (List.replicate k (List.replicate F (-1)))
theorem ZL(n F:Nat)(hn:1<=n/\n<=4)(hF:2<=F/\F<=12)(w:aa):
 aE prog 137 [aj n,aj F] w (fun v w'=>∃A' c',∃new:List cq,v= .slice A' new.length c'/\(∀m∈new,m.ok)/\new.map (·.xss)=pq n F (F*n+1) 0 1 (blank n F)/\
  St w w' (aV 37 A' new.length c' (new.map (·.top))::dv 24 2 new)):=by
 refine bm func137 O ntmps137 O (bU O) (aY O (P4 (by exact inferInstance) (by exact inferInstance) (by exact inferInstance) (by exact inferInstance) ⟨O,O,O,O⟩ O O O O O (P8 (St.refl w) O O ?_)));intro Ab w1 aB;refine az O ?_;have vy:St w w1 (yq Ab none 0 0 F []):=(aB.nil 24).perm (fb (l₁:=[_]) (l₂:=[_]));refine Cd.loop (α:=Nat×ai×Nat×List aO) (fun s=> [(1,aj F),(5,.pointer Ab),(9,aj n),(10,aj (s.1:Int))]) (fun s w'=>St w w' (yq Ab s.2.1 s.1 s.2.2.1 F s.2.2.2)/\s.1<=n/\s.2.2.2.length=s.1) (fun s=>n - s.1) (0,none,0,[]) (ac4 O) ⟨vy,bA _,O⟩ ?_;rintro⟨k,A3,c3,rs⟩ e w4 ⟨aG,hk,hlen⟩;dsimp only at aG hk hlen|-;refine b7 O (aM _ O (fun h1=>?_) (fun h1=>?_))
 ·have dp:k<n:=by omega
  refine cH O ?_;have hB:=(show St w w4 (_::_) from aG).rd 0 O;refine jx [9,12] [yP (Ab),yP (Ab),yP (Ab),yP (aF (Ab) 0),yS (A3) (k) (c3),.pr (fun v w'=>∃A9,v= .slice A9 1 1/\St w w' (ax 2 A9 1 1 [-1]::yq Ab A3 k c3 F rs)),yI ((F:Int)),.pr (fun v w'=>∃A4,v= .slice A4 F F/\St w w' (ax 2 A4 F F (List.replicate F (-1))::yq Ab A3 k c3 F rs)),.pr (fun v w'=>∃A4 A9,v= .slice A9 1 1/\St w w' (aV 24 A9 1 1 [⟨A4,F,F⟩]::ax 2 A4 F F (List.replicate F (-1))::yq Ab A3 k c3 F rs)),.pr (fun v w'=>∃A4 bI b8,v= .slice bI (k+1) b8/\St w w' (ax 2 A4 F F (List.replicate F (-1))::Bx 179 4 Ab [.slice A3 k c3,aj F,aj (1:Int),.slice none 0 0]::aV 24 bI (k+1) b8 (rs++ [⟨A4,F,F⟩])::bS 2 rs (List.replicate k (List.replicate F (-1))))),yP (Ab),yP (aF (Ab) 0),.pr (fun _ w'=>∃A4 bI b8,St w w' (ax 2 A4 F F (List.replicate F (-1))::Bx 179 4 Ab [.slice bI (k+1) b8,aj F,aj (1:Int),.slice none 0 0]::aV 24 bI (k+1) b8 (rs++ [⟨A4,F,F⟩])::bS 2 rs (List.replicate k (List.replicate F (-1)))))] (by kernel_rfl) (by kernel_rfl) (ly (ly (ly (ly (ly (cL.2 ⟨Ye.cQ (fun v w w' h hb=>by obtain⟨A9,hv,hT⟩:=h;exact⟨A9,hv,hT.aq hb⟩),(ly (cL.2 ⟨Ye.cQ (fun v w w' h hb=>by obtain⟨A4,hv,hT⟩:=h;exact⟨A4,hv,hT.aq hb⟩),(cL.2 ⟨Ye.cQ (fun v w w' h hb=>by obtain⟨A4,A9,hv,hT⟩:=h;exact⟨A4,A9,hv,hT.aq hb⟩),(cL.2 ⟨Ye.cQ (fun v w w' h hb=>by obtain⟨A4,bI,b8,hv,hT⟩:=h;exact⟨A4,bI,b8,hv,hT.aq hb⟩),(ly (ly (cL.2 ⟨Ye.cQ (fun v w w' h hb=>by obtain⟨A4,bI,b8,hT⟩:=h;exact⟨A4,bI,b8,hT.aq hb⟩),(fun _ h=>by cases h)⟩)))⟩)⟩)⟩))⟩)))))) ?_ ?_
  ·refine⟨cj O,cj O,cP fun _ _ hb _ _ _=>eV (hB.below hb) (Nat.succ_pos _) O O (bG O O),cP fun _ _ hb _ _ _=>aS (hB.below hb) O (bG O O),cP fun _ _ hb _ _ _=>a8 (hB.below hb) O (bG O O),?_,cj O,?_,?_,?_,?_,?_,?_,au⟩
   ·refine cP fun e1 w1 hb hp aX hq=>?_
    exact fk (St.refl _) O O O fun A9 w9 aA=>ak.n (fB.dn O aA.below ⟨A9,O,(aG.aq hb).call aA⟩)
   ·refine cP fun e1 w1 hb hp aX hq=>?_
    obtain⟨A9,pA,hT⟩:=(hp 5 _ _ (by kernel_rfl) rfl rfl (by kernel_rfl));refine acW (yX A9 1 (-1) F _ (hT.bz 0 O) (by omega)) O (by exact bw (fun v=> [v,Value.int .i64 (F:Int)]) pA) O ?_;rintro _ w2 ⟨A4,rfl,aA⟩;exact ak.n (fB.dn O aA.below ⟨A4,O,hT.tail.call aA⟩)
   ·refine cP fun e1 w1 hb hp aX hq=>?_
    obtain⟨A4,Tb,hT⟩:=(hp 7 _ _ (by kernel_rfl) rfl rfl (by kernel_rfl));refine mW (St.refl _) (by exact Tb) O O ?_;intro A9 w9 aA;exact ak.n (fB.dn O aA.below ⟨A4,A9,O,hT.call aA⟩)
   ·refine jy fun e1 w1 hb hp aX hq=>?_
    obtain⟨A4,A9,tW,hT⟩:=(hp 8 _ _ (by kernel_rfl) rfl rfl (by kernel_rfl));unfold yq at hT;refine km 3 hT O (hT.eG 0 O) O (by exact tW) O (by omega) (by omega) O ?_;intro bI b8 dt lS;exact ak.n (fv.dn O ⟨A4,bI,b8,O,lS.tail⟩)
   ·refine dP 1 fun e1 w1 hp aX hq=>?_
    have dT:=hp 9 _ _ (by kernel_rfl) O O (by kernel_rfl);obtain⟨A4,bI,b8,vm,hT⟩:=dT;refine eV ((hT.rd 1 O)) (Nat.succ_pos _) O O (ak.n (fO O (by exact O)))
   ·refine dP 1 fun e1 w1 hp aX hq=>?_
    have dT:=hp 9 _ _ (by kernel_rfl) O O (by kernel_rfl);obtain⟨A4,bI,b8,vm,hT⟩:=dT;refine aS ((hT.rd 1 O)) O (ak.n (fO O (by exact O)))
   refine pn 1 fun e1 w1 hp aX hq=>?_
   have dT:=hp 9 _ _ (by kernel_rfl) O O (by kernel_rfl);obtain⟨A4,bI,b8,vm,hT⟩:=dT;refine kD 1 hT O O (by exact vm) O O ?_;intro dB jm;exact ak.n (fv.st O ⟨A4,bI,b8,jm⟩)
  intro u w5 _ hu _ _;obtain⟨A4,bI,b8,hT⟩:=hu 12 _ rfl (by kernel_rfl);refine fK O (aL O (aU O (tQ ?_)));refine⟨(k+1,bI,b8,rs++ [⟨A4,F,F⟩]),by show n - (k+1)<n - k;omega,(ac4 O),?_,dp,by simp [hlen]⟩;show St w w5 (_::aV _ bI (k+1) b8 (rs++ [_])::bS _ (rs++ [_]) (List.replicate (k+1) (List.replicate F (-1))));rw [List.replicate_succ',nD (by simp [hlen])];refine hT.perm ?_;exact fb (l₁:=[_]) (l₂:=_::_::bS 2 rs (List.replicate k (List.replicate F (-1))))
 have eF:k=n:=by omega
 subst eF;have hI:=Inv.blank (n:=k) (F:=F) (by omega) (by omega);have xL:=S3 (F*k+1) hI;have aR:St w w4 (iI Ab A3 k c3 F 1 none 0 0 [] rs (blank k F) []):=by
  have:=(aG.nil 37).perm (List.Perm.swap _ _ _);unfold iI;rw [iG];exact this
 refine bo O (bp (cn O ?_));refine aH (Rh k F (by omega) ⟨by omega,by omega⟩ Ab A3 c3 rs (F*k+1) 0 1 (blank k F) hI (by omega) w w4 [] none 0 0 [] 0 0 (by omega) (by omega) aR (by rw [xL];have:=zj hn hF (F*k+1);omega)) O ?_;rintro _ w6 ⟨A',c',new,rfl,bq,hx,aQ⟩;rw [xL]at hx;rw [Nat.zero_add,List.nil_append]at aQ;unfold iI at aQ;refine ao O (eV (aQ.rd 0 O) (Nat.succ_pos _) O O (aS (aQ.rd 0 O) O (a8 (aQ.rd 0 O) O (bu O (fA O ?_)))));refine⟨A',c',new,O,bq,hx,?_⟩;refine aQ.sub ?_;rw [iG];exact(List.Sublist.cons_cons _ (dD _ _)).cons _
end
end Go.Proofs.YtagdamiiececaaaGreatDoor.Vc
