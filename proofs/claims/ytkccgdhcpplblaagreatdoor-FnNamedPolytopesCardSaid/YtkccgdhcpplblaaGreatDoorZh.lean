/-
 Lemmas. Conditions: as each states them.
-/
import Derived.Test.YtkccgdhcpplblaaGreatDoorZg
set_option maxHeartbeats 8000000
namespace Go.Proofs.YtkccgdhcpplblaaGreatDoor.Vc
open Tryz
open Go.RowKit
theorem akP{α:Type}(x y p r i q b:α):[x,y,p,r,i,q,b].Perm [p,x,i,q,b,y,r]:=by
 classical
 refine jT.2 fun z=>?_
 simp only [jS,ln];omega
theorem pZ{t:ae}{rs:List aO}{xss:ah}{a:aj}{n c:Nat}{x:ai}(h:rs.length=xss.length):da t (rs++ [⟨a,n,c⟩]) (xss++ [x])=da t rs xss++ [ax t a n c x]:=by
 rw [CY h];rfl
abbrev zo(A1 A2 A4 A5 A6:aj)(A:aj)(n c:Nat)(M:ah)(i j i':Nat)(AR:aj)(cR:Nat)(AD:aj)(cD:Nat)(dB:List aO)(c5 c6:Nat)(ie:List aO):List Ck:=
 bJ A4 n AR (aR M i+j) cR AD (aR M i+j) cD::ax 2 AR (aR M i+j) cR (bU M i++List.replicate j (i:Int))::ax 2 A5 i' c5 (ni M i')::bJ A2 0 none 0 0 none 0 0::Bx 24 1 A1 [.slice A n c]::cg 34 AD (aR M i+j) cD dB::cg 34 A6 i' c6 ie::(da 2 dB (List.replicate (aR M i+j) [])++da 2 ie (pQ M i'))
theorem WL{t1 t2:ae}{A:aj}{n c:Nat}{rs:List aO}{xss:ah}{pre ks:List Ck}{i:Nat}(s:aO)(xs:ai)(hr:rs.length=xss.length)(hi:i<rs.length):(pre++ (aS t1 t2 A n c rs xss++ks)).set (pre.length+1+i) (ax t2 s.a s.n s.c xs)=pre++ (cg t1 A n c rs::(da t2 (rs.set i s) (xss.set i xs)++ks)):=by
 rw [List.set_append_right _ _ (by omega),show pre.length+1+i - pre.length=i+1 by omega]
 congr 1
 show(cg t1 A n c rs::(da t2 rs xss++ks)).set (i+1) _=_;rw [List.set_cons_succ,List.set_append_left _ _ (by rw [CZ hr];exact hi),Qf hr]
abbrev qy(A1 A2 A5 A6:aj)(A:aj)(n c:Nat)(M:ah)(AR:aj)(N cR c5 c6:Nat)(ie:List aO):List Ck:=
 ax 2 AR N cR (bU M n)::ax 2 A5 n c5 (ni M n)::bJ A2 0 none 0 0 none 0 0::Bx 24 1 A1 [.slice A n c]::(aS 34 2 A6 n c6 ie (pQ M n)++ [])
theorem ail(A:aj)(n c:Nat)(rs:List aO)(M:ah)(w:aa)(hR:bF w A n rs M)(hM:wX M):
 aJ prog 101 [.agg #[.slice A n c]] w (fun v w'=>∃AR cR AD cD dB,v= .agg #[ak (M.length:Int),.slice AR (aR M M.length) cR,.slice AD (aR M M.length) cD]/\dB.length=aR M M.length/\St w w' (ax 2 AR (aR M M.length) cR (bU M M.length)::(aS 34 2 AD (aR M M.length) cD dB (bQ M)++ []))):=by
 have hl:=hR.len;have h1:=hM.1;have h2:=hM.2.1;have Av:∀i,i<=n->aR M i<=2000:=fun i hi=>by
  have h3:=Ku (M:=M) i;have h4:i* (gl M 0).length<=5*400:=Nat.mul_le_mul am am;omega
 refine bC func101 O ntmps101 O (re O O) (bh O (jH (St.refl w) O O ?_));intro A1 w1 aH;refine nP aH O fun A2 w2 aF=>ar O (aV (aF.rd 1 O) O (bj (aF.rd 1 O) O ?_));refine a8 O O (ar O ?_);refine HO (by exact inferInstance) (by exact inferInstance) (by exact inferInstance) O O O O O O (jr aF O ?_);intro A5 w3 aQ;refine jr aQ O fun A6 w4 aX=>nP aX O fun A4 w5 ba=>b5 3 0 ba O O O O O O O ?_;intro w6 bo;have bo:St w w6 (zo A1 A2 A4 A5 A6 A n c M 0 0 0 none 0 none 0 [] 0 0 []):=by
  have h7:=(bo.nil 34).nil 2;exact h7.perm (akP _ _ _ _ _ _ _)
 clear ba aX aQ aF aH;refine aC O ?_;refine Cd.loop (α:=Nat×(aj×Nat)×(aj×Nat×List aO)×(aj×Nat)×(aj×Nat×List aO)) (fun z=> [(1,.pointer A1),(2,.pointer A2),(3,ak n),(4,.pointer A4),(5,.slice z.2.2.2.1.1 z.1 z.2.2.2.1.2),(6,.slice z.2.2.2.2.1 z.1 z.2.2.2.2.2.1),(7,ak (z.1:Int))])
  (fun z w'=>z.1<=n/\z.2.2.1.2.2.length=aR M z.1/\z.2.2.2.2.2.2.length=z.1/\St w w' (zo A1 A2 A4 z.2.2.2.1.1 z.2.2.2.2.1 A n c M z.1 0 z.1 z.2.1.1 z.2.1.2 z.2.2.1.1 z.2.2.1.2.1 z.2.2.1.2.2 z.2.2.2.1.2 z.2.2.2.2.2.1 z.2.2.2.2.2.2)) (fun z=>n - z.1) (0,(none,0),(none,0,[]),(A5,0),(A6,0,[])) ⟨rfl,rfl,rfl,rfl,rfl,rfl,rfl,au⟩ ⟨bg _,rfl,rfl,bo⟩ ?_
 clear bo;rintro⟨i,⟨AR,cR⟩,⟨AD,cD,dB⟩,⟨A5,c5⟩,⟨A6,c6,ie⟩⟩ e w7 ⟨hi,mH,GI,hS⟩;dsimp only at hi mH GI hS|-;have xu:=Av i hi;refine bL O (aM _ O (fun h3=>?_) (fun h3=>?_))
 ·have cI:i<n:=by omega
  have l4:=DO M i;have qS:=Av (i+1) am;have Cq:aR M (i+1)=aR M i+ (jg M i).toNat:=O;obtain⟨N,hN⟩:∃N:Nat,jg M i=N:=⟨(jg M i).toNat,am⟩;rw [hN,jq]at Cq;have UT:=acF hM i;rw [hN]at UT l4;have o0:bU M (i+1)=bU M i++List.replicate N (i:Int):=by rw [bU,hN,jq]
  refine aA O (aV (hS.rd 0 O) O (bj (hS.rd 0 O) O (a8 O O (eL hS O O O ?_))));intro QJ w8 cj;refine fu 3 cj O (cj.bz 0 O) O O O ?_;intro xW x7 w9 bT;have bT:=bT.tail;have e5:ni M i++ [((aR M i+0:Nat):Int)]=ni M (i+1):=(akx M i).symm;rw [e5]at bT;clear cj hS;refine ar O (ao.cN 0 (bT.rd 4 O) O O O (ar O (aL (aic A n c rs M i _ (bT.b7 hR) hM cI) O ?_)));rintro _ dY ⟨sF,tN,rfl,av⟩;have bW:=bT.call av;clear av bT;refine lp bW O O O fun dQ eF eH=>lK 8 eH O (eH.fQ 0 O) O O O am am O ?_;intro wH x8 fH dT;have dT:St w fH (ax 2 sF (gl M 0).length tN (eT M i)::bJ A4 n AR (aR M i+0) cR AD (aR M i+0) cD::ax 2 AR (aR M i+0) cR (bU M i++List.replicate 0 (i:Int))::ax 2 xW (i+1) x7 (ni M (i+1))::bJ A2 0 none 0 0 none 0 0::Bx 24 1 A1 [.slice A n c]::cg 34 AD (aR M i+0) cD dB::cg 34 wH (i+1) x8 (ie++ [⟨sF,(gl M 0).length,tN⟩])::(da 2 dB (List.replicate (aR M i+0) [])++da 2 ie (pQ M i))):=dT.tail;have dT:St w fH (zo A1 A2 A4 xW wH A n c M i 0 (i+1) AR cR AD cD dB x7 x8 (ie++ [⟨sF,(gl M 0).length,tN⟩])):=by
   have h9:=dT.perm (akN _ _ _ _ _ _ _ _ _ _);rw [<-pZ (by rw [GI,OV]),<-aiv]at h9;exact h9
  have Vv:(ie++ [(⟨sF,(gl M 0).length,tN⟩:aO)]).length=i+1:=by simp [GI]
  have UO:rg (ie++ [(⟨sF,(gl M 0).length,tN⟩:aO)]) i=⟨sF,(gl M 0).length,tN⟩:=by
   unfold rg;rw [jq,dm,mc (by omega),GI,Nat.sub_self];rfl
  clear bW eH;generalize ie++ [(⟨sF,(gl M 0).length,tN⟩:aO)]=vz at*;have zZ:mT fH wH (i+1) vz:=dT.fQ 6 O;have TR:cL fH sF (gl M 0).length (eT M i):=by
   have hk6:da 2 vz (pQ M (i+1))≠[]\/True:= .inr au;have h7:=EU (t:=2) (rs:=vz) (xss:=pQ M (i+1)) (i:=i) (by rw [Vv,OV]) am;have h8:=dT.sub (show(da 2 vz (pQ M (i+1))).Sublist (zo A1 A2 A4 xW wH A n c M i 0 (i+1) AR cR AD cD dB x7 x8 vz) from(((((((kA _ _).cons _).cons _).cons _).cons _).cons _).cons _).cons _);have h9:=h8.bz i h7;have e8:vz.getD i eY=⟨sF,(gl M 0).length,tN⟩:=UO;have e9:(pQ M (i+1)).getD i []=eT M i:=Wr (show i<i+1 by omega);rw [e8,e9]at h9;exact h9
  refine ar O (aD zZ.2 O (b9 zZ O ?_));rw [UO];refine aqm (aid sF (gl M 0).length tN (eT M i) _ TR am (fun x hx=>by
   obtain⟨k,hk,rfl⟩:=gC.1 hx;rw [ID]at hk;have:=IF hM i k hk;rw [bV (by rw [ID];exact hk)]at this;omega)) rfl rfl rfl ?_
  rintro _ fH ⟨rfl,rfl⟩;rw [UT];refine aC O ?_;clear zZ TR;refine Cd.loop (α:=Nat×(aj×Nat)×(aj×Nat×List aO)) (fun z=> [(1,.pointer A1),(2,.pointer A2),(3,ak n),(4,.pointer A4),(5,.slice xW (i+1) x7),(6,.slice wH (i+1) x8),(7,ak i),(8,ak ((N:Int) - (z.1:Int)))])
   (fun z w'=>z.1<=N/\z.2.2.2.2.length=aR M i+z.1/\St w w' (zo A1 A2 A4 xW wH A n c M i z.1 (i+1) z.2.1.1 z.2.1.2 z.2.2.1 z.2.2.2.1 z.2.2.2.2 x7 x8 vz)) (fun z=>N - z.1) (0,(AR,cR),(AD,cD,dB)) ⟨rfl,rfl,rfl,rfl,rfl,rfl,rfl,aE (Value.int .i64) (by show(N:Int)=(N:Int) - ((0:Nat):Int);omega),au⟩ ⟨bg _,mH,dT⟩ ?_
  clear dT;rintro⟨j,⟨BR,dR⟩,⟨BD,dD,rh⟩⟩ e gG ⟨hj,yO,hS⟩;dsimp only at hj yO hS|-;refine bL O (aM _ O (fun h4=>?_) (fun h4=>?_))
  ·have Ak:j<N:=by omega
   refine aA O (aV (hS.rd 0 O) O (bj (hS.rd 0 O) O (ar O (eL hS O O O ?_))));intro A52 mO jK;refine fu 2 jK O (jK.bz 0 O) O O O ?_;intro HD Ia sC iC;have hB:=iC.rd 1 O;refine aV hB O (ki 1 iC O O O O O ?_);intro vD kD;have kD:=kD.tail;clear jK iC hB hS;refine ar O ?_;have hB:=kD.rd 0 O;refine aV hB O (bj hB O (jr kD O ?_));intro E6 qB gD;have gD:St w qB (ax 2 E6 0 0 []::_):=gD;refine lp gD O O O fun A58 zu kE=>lK 7 kE O (kE.fQ 0 O) O O O am am O ?_;intro HE Ib Hy py;have hB:=py.rd 2 O;refine aV hB O (ki 2 py O O O O O ?_);intro xR rQ;have rQ:St w xR (ax 2 E6 0 0 []::bJ A4 n HD (aR M i+j+1) Ia HE (aR M i+j+1) Ib::ax 2 HD (aR M i+j+1) Ia ((bU M i++List.replicate j (i:Int))++ [(i:Int)])::ax 2 xW (i+1) x7 (ni M (i+1))::bJ A2 0 none 0 0 none 0 0::Bx 24 1 A1 [.slice A n c]::cg 34 HE (aR M i+j+1) Ib (rh++ [⟨E6,0,0⟩])::cg 34 wH (i+1) x8 vz::(da 2 rh (List.replicate (aR M i+j) [])++da 2 vz (pQ M (i+1)))):=rQ.tail;have aeC:St w xR (zo A1 A2 A4 xW wH A n c M i (j+1) (i+1) HD Ia HE Ib (rh++ [⟨E6,0,0⟩]) x7 x8 vz):=by
    have h9:=rQ.perm (akM _ _ _ _ _ _ _ _ _ _);rw [<-pZ (by rw [yO,List.length_replicate]),gV,<-List.replicate_succ',<-List.replicate_succ']at h9;exact h9
   refine ar O (dZ O (aT O (tQ ?_)));exact⟨(j+1,(HD,Ia),(HE,Ib,rh++ [⟨E6,0,0⟩])),by show N - (j+1)<N - j;omega,⟨O,O,O,O,O,O,O,aE (Value.int .i64) (by show(N:Int) - (j:Int) - 1=(N:Int) - ((j+1:Nat):Int);omega),au⟩,by show j+1<=N;omega,by show(rh++ [_]).length=aR M i+ (j+1);rw [ck,yO];rfl,aeC⟩
  ·have Ak:j=N:=by omega
   subst Ak;refine bp O (bt (cS O (aI O (aT O (tQ ?_)))));refine⟨(i+1,(BR,dR),(BD,dD,rh),(xW,x7),(wH,x8,vz)),by show n - (i+1)<n - i;omega,(aqv O),by show i+1<=n;omega,by rw [Cq];exact yO,Vv,?_⟩;show St w gG (zo A1 A2 A4 xW wH A n c M (i+1) 0 (i+1) BR dR BD dD rh x7 x8 vz);unfold zo at hS|-;rw [<-Cq,<-o0]at hS;rw [Nat.add_zero,List.replicate_zero,fI];exact hS
 obtain rfl:i=n:=by omega
 have gX:M.length=i:=hl;obtain⟨N,hK⟩:∃N,aR M i=N:=⟨_,rfl⟩;have ny:aR M M.length=N:=by rw [gX,hK]
 have Cx:N*N<=4000000:=mS (Nat.mul_le_mul (show N<=2000 by omega) (show N<=2000 by omega)) an;have T5:St w w7 (bJ A4 i AR N cR AD N cD::(aS 34 2 AD N cD dB (gH M 1 0 0)++qy A1 A2 A5 A6 A i c M AR N cR c5 c6 ie)):=by
  rw [aaX hM,ny];unfold zo at hS;rw [Nat.add_zero,hK,List.replicate_zero,fI]at hS;exact hS.perm (akO _ _ _ _ _ _ _ _ _)
 clear hS;rw [hK]at mH;refine bp O (bt (sI O ?_));refine Cd.loop (α:=Nat×List aO) (fun z=> [(1,.pointer A1),(2,.pointer A2),(3,ak i),(4,.pointer A4),(5,.slice A5 i c5),(6,.slice A6 i c6),(9,ak (z.1:Int))])
  (fun z w'=> (1<=z.1/\z.1<=i)/\z.2.length=N/\St w w' (bJ A4 i AR N cR AD N cD::(aS 34 2 AD N cD z.2 (gH M z.1 0 0)++qy A1 A2 A5 A6 A i c M AR N cR c5 c6 ie))) (fun z=>i - z.1) (1,dB) ⟨rfl,rfl,rfl,rfl,rfl,rfl,rfl,au⟩ ⟨⟨br _,by show 1<=i;omega⟩,mH,T5⟩ ?_
 clear T5;rintro⟨k,rh⟩ e w8 ⟨⟨fO,fX⟩,yO,hS⟩;dsimp only at fO fX yO hS|-;refine bL O (aM _ O (fun h4=>?_) (fun h4=>?_))
 ·have jb:k<i:=by omega
  refine aA O (aV (hS.rd 0 O) O (bj (hS.rd 0 O) O ?_));refine a8 O O (ar O ?_);refine sN O O O (by have:((N*N:Nat):Int)=(N:Int)* (N:Int):=Int.natCast_mul N N;omega) ?_;rw [show(N:Int)* (N:Int)=((N*N:Nat):Int) from(Int.natCast_mul N N).symm];refine zD (v:=false) (N*N) hS O O am fun cG w9 bT=>aC O ?_;refine Cd.loop (α:=Nat×List Bool) (fun z=> [(1,.pointer A1),(2,.pointer A2),(3,ak i),(4,.pointer A4),(5,.slice A5 i c5),(6,.slice A6 i c6),(9,ak k),(10,ak N),(11,.slice cG (N*N) (N*N)),(12,ak (z.1:Int))])
   (fun z w'=>z.1<=(gl M 0).length/\tH M k z.1 0 z.2/\St w w' (gK 4 cG (N*N) (N*N) z.2::bJ A4 i AR N cR AD N cD::(aS 34 2 AD N cD rh (gH M k 0 0)++qy A1 A2 A5 A6 A i c M AR N cR c5 c6 ie))) (fun z=> (gl M 0).length - z.1) (0,List.replicate (N*N) false) ⟨rfl,rfl,rfl,rfl,rfl,rfl,rfl,rfl,rfl,rfl,au⟩ ⟨bg _,by have:=tH.zero M k;rwa [ny]at this,bT⟩ ?_
  clear bT hS;rintro⟨f,G⟩ e dY ⟨hf,hG,hS⟩;dsimp only at hf hG hS|-;have Oq:∀(G:List Bool) (q:List aO) (B:ah),(qy A1 A2 A5 A6 A i c M AR N cR c5 c6 ie).Sublist (gK 4 cG (N*N) (N*N) G::bJ A4 i AR N cR AD N cD::(aS 34 2 AD N cD q B++qy A1 A2 A5 A6 A i c M AR N cR c5 c6 ie)):=fun G q B=> ((kA _ _).cons _).cons _
  have agN:(aS 34 2 A6 i c6 ie (pQ M i)).Sublist (qy A1 A2 A5 A6 A i c M AR N cR c5 c6 ie):=by
   refine List.Sublist.cons _ (List.Sublist.cons _ (List.Sublist.cons _ (List.Sublist.cons _ ?_)));rw [fI];exact lJ _
  have I3:=(hS.sub (Oq _ _ _)).rd 3 O;refine bh O (ao.cN 0 I3 O O O (aL (Km A i c rs M _ (hS.b7 hR) am) O ?_));rintro _ eF ⟨rfl,av⟩;have hS:=hS.aq av.below;clear av I3;refine aC O (aM _ O (fun h5=>?_) (fun h5=>?_))
  ·have ub:f< (gl M 0).length:=by omega
   refine dA O ?_;refine Cd.loop (α:=Nat×List Bool) (fun z=> [(1,.pointer A1),(2,.pointer A2),(3,ak i),(4,.pointer A4),(5,.slice A5 i c5),(6,.slice A6 i c6),(9,ak k),(10,ak N),(11,.slice cG (N*N) (N*N)),(12,ak f),(13,ak (z.1:Int))])
    (fun z w'=>z.1<=k/\tH M k f z.1 z.2/\St w w' (gK 4 cG (N*N) (N*N) z.2::bJ A4 i AR N cR AD N cD::(aS 34 2 AD N cD rh (gH M k 0 0)++qy A1 A2 A5 A6 A i c M AR N cR c5 c6 ie))) (fun z=>k - z.1) (0,G) ⟨rfl,rfl,rfl,rfl,rfl,rfl,rfl,rfl,rfl,rfl,rfl,au⟩ ⟨bg _,hG,hS⟩ ?_
   clear hS hG;rintro⟨j,G⟩ e fH ⟨hj,hG,hS⟩;dsimp only at hj hG hS|-;refine bL O (aM _ O (fun h6=>?_) (fun h6=>?_))
   ·have vc:j<k:=by omega
    have I9:cL fH A5 i (ni M i):=(hS.sub (Oq _ _ _)).bz 1 O;have iJ:bF fH A6 i ie (pQ M i):=(hS.sub (agN.trans (Oq _ _ _))).nJ (OV M i);have jx:=iJ.at_ (i:=(k:Int)) am am;have JZ:=iJ.at_ (i:=(j:Int)) am am;rw [Wr (by omega)]at jx JZ;have hkn9:(rg ie k).n=(gl M 0).length:=by rw [<-jx.1,ID]
    have hjn9:(rg ie j).n=(gl M 0).length:=by rw [<-JZ.1,ID]
    have o1:=Xb (M:=M) (i:=i) (k:=k) am;have o2:=Xb (M:=M) (i:=i) (k:=j) am;have e1:=BO hM (i:=k) ub;have e2:=BO hM (i:=j) ub;have m1:=pa M (show k+1<=M.length by omega);have m2:=pa M (show j+1<=M.length by omega);rw [ny]at m1 m2;have f1:gi (ni M i) k+gi (eT M k) f=dd M k f:=by rw [o1];rfl
    have f2:gi (ni M i) j+gi (eT M j) f=dd M j f:=by rw [o2];rfl
    obtain⟨E,hE⟩:∃E:Nat,dd M k f=E:=⟨(dd M k f).toNat,am⟩;obtain⟨D,hD⟩:∃D:Nat,dd M j f=D:=⟨(dd M j f).toNat,am⟩;have iS:=hG.next hM ub am vc;rw [hE,hD,ny,jq,jq]at iS;rw [hE]at e1 f1;rw [hD]at e2 f2;have mq:=PC (N:=N) (e:=E) (d:=D) am am;have s6:((E*N:Nat):Int)=(E:Int)* (N:Int):=Int.natCast_mul E N;have hle:E*N<=N*N:=Nat.mul_le_mul_right N am;have fo:=IF hM k f ub;have hlo2:=IF hM j f ub;have Eg:(E:Int)* (N:Int)+gi (ni M i) j+gi (eT M j) f=((E*N+D:Nat):Int):=by omega
    refine dA O ?_;refine kK [29] [yS (cG) (N*N) (N*N),yS (A5) (i) (c5),yI ((k:Int)),yP (ay (A5) ((k:Int)).toNat),yI (gi (ni M i) ((k:Int))),yS (A6) (i) (c6),yI ((k:Int)),yP (ay (A6) ((k:Int)).toNat),yS ((rg (ie) ((k:Int))).a) ((rg (ie) ((k:Int))).n) ((rg (ie) ((k:Int))).c),yI ((f:Int)),yP (ay ((rg (ie) ((k:Int))).a) ((f:Int)).toNat),yI (gi (eT M k) ((f:Int))),yI ((gi (ni M i) ((k:Int)))+ (gi (eT M k) ((f:Int)))),yI ((N:Int)),yI ((E:Int)* (N:Int)),yS (A5) (i) (c5),yI ((j:Int)),yP (ay (A5) ((j:Int)).toNat),yI (gi (ni M i) ((j:Int))),yI (((E:Int)* (N:Int))+ (gi (ni M i) ((j:Int)))),yS (A6) (i) (c6),yI ((j:Int)),yP (ay (A6) ((j:Int)).toNat),yS ((rg (ie) ((j:Int))).a) ((rg (ie) ((j:Int))).n) ((rg (ie) ((j:Int))).c),yI ((f:Int)),yP (ay ((rg (ie) ((j:Int))).a) ((f:Int)).toNat),yI (gi (eT M j) ((f:Int))),yI ((((E:Int)* (N:Int))+ (gi (ni M i) ((j:Int))))+ (gi (eT M j) ((f:Int)))),yP (ay (cG) ((((E:Int)* (N:Int))+ (gi (ni M i) ((j:Int))))+ (gi (eT M j) ((f:Int)))).toNat),.pr (fun _ w'=>St w w' (gK 4 cG (N*N) (N*N) (G.set (E*N+D) true)::bJ A4 i AR N cR AD N cD::(aS 34 2 AD N cD rh (gH M k 0 0)++qy A1 A2 A5 A6 A i c M AR N cR c5 c6 ie)))] (ly (ly (ly (ly (ly (ly (ly (ly (ly (ly (ly (ly (ly (ly (ly (ly (ly (ly (ly (ly (ly (ly (ly (ly (ly (ly (ly (ly (ly (cH.2 ⟨Ye.cJ (fun v w w' h hb=>h.aq hb),(fun _ h=>by cases h)⟩)))))))))))))))))))))))))))))) ?_ ?_
    ·refine⟨bZ O,bZ O,bZ O,cP fun _ _ hb _ _ _=>aD (I9.aq hb).2 O (bG O O),cP fun _ _ hb _ _ _=>aY (I9.aq hb) O (bG O O),bZ O,bZ O,cP fun _ _ hb _ _ _=>aD (iJ.top.aq hb).2 O (bG O O),cP fun _ _ hb _ _ _=>b9 (iJ.top.aq hb) O (bG O O),bZ O,cP fun _ _ hb _ _ _=>aD (jx.aq hb).2 O (bG O O),cP fun _ _ hb _ _ _=>aY (jx.aq hb) O (bG O O),aP fun _ _=>aI O (bG O O),bZ O,aP fun _ _=>sN (i:=(E:Int)) (j:=(N:Int)) (by exact aE (Value.int .i64) f1) O O am (bG O O),bZ O,bZ O,cP fun _ _ hb _ _ _=>aD (I9.aq hb).2 O (bG O O),cP fun _ _ hb _ _ _=>aY (I9.aq hb) O (bG O O),aP fun _ _=>aI O (bG O O),bZ O,bZ O,cP fun _ _ hb _ _ _=>aD (iJ.top.aq hb).2 O (bG O O),cP fun _ _ hb _ _ _=>b9 (iJ.top.aq hb) O (bG O O),bZ O,cP fun _ _ hb _ _ _=>aD (JZ.aq hb).2 O (bG O O),cP fun _ _ hb _ _ _=>aY (JZ.aq hb) O (bG O O),aP fun _ _=>aI O (bG O O),cP fun _ _ hb _ _ _=>aD ((hS.jA 0 O).aq hb).2 O (bG O O),?_,au⟩
     ·refine kO fun e1 w1 hb hp aU hq=>?_
      refine uK 0 (hS.aq hb) O O O am fun w6 bo=>ao.n ?_;exact gn.st O (by rw [Eg,jq]at bo;exact bo)
    intro u gG _ hu _ _;have hT:=hu 29 _ O (by kernel_rfl);refine jD O (aI O (aT O (tQ ?_)));exact⟨(j+1,_),by show k - (j+1)<k - j;omega,(aqv O),by show j+1<=k;omega,iS,hT⟩
   ·have vc:j=k:=by omega
    subst vc;refine bp O (bt (cS O (aI O (aT O (tQ ?_)))));exact⟨(f+1,G),by show(gl M 0).length - (f+1)< (gl M 0).length - f;omega,(aqv O),by show f+1<=(gl M 0).length;omega,hG.row,hS⟩
  ·have ub:f=(gl M 0).length:=by omega
   subst ub;have oc:=fun e d he hd=>hG.done hM (show k<M.length by omega) (e:=e) (d:=d) he hd
   rw [ny]at oc;have hGl:G.length=N*N:=by have:=hG.1;rwa [ny]at this
   refine bp O (bt (sI O ?_));refine Cd.loop (α:=Nat×List aO) (fun z=> [(1,.pointer A1),(2,.pointer A2),(3,ak i),(4,.pointer A4),(5,.slice A5 i c5),(6,.slice A6 i c6),(9,ak k),(10,ak N),(11,.slice cG (N*N) (N*N)),(14,ak (z.1:Int))])
    (fun z w'=>z.1<=N/\z.2.length=N/\St w w' (gK 4 cG (N*N) (N*N) G::bJ A4 i AR N cR AD N cD::(aS 34 2 AD N cD z.2 (gH M k z.1 0)++qy A1 A2 A5 A6 A i c M AR N cR c5 c6 ie))) (fun z=>N - z.1) (0,rh) ⟨rfl,rfl,rfl,rfl,rfl,rfl,rfl,rfl,rfl,rfl,au⟩ ⟨bg _,yO,hS⟩ ?_
   clear hS yO hG h5;rintro⟨E,q3⟩ e fH ⟨hE,GH,hS⟩;dsimp only at hE GH hS|-;refine bL O (aM _ O (fun h5=>?_) (fun h5=>?_))
   ·have s6:E<N:=by omega
    have hEm:((E*N:Nat):Int)=(E:Int)* (N:Int):=Int.natCast_mul E N;have hEle:E*N<=N*N:=Nat.mul_le_mul_right N am;refine dA O ?_;refine Cd.loop (α:=Nat×List aO) (fun z=> [(1,.pointer A1),(2,.pointer A2),(3,ak i),(4,.pointer A4),(5,.slice A5 i c5),(6,.slice A6 i c6),(9,ak k),(10,ak N),(11,.slice cG (N*N) (N*N)),(14,ak E),(15,ak (z.1:Int))])
     (fun z w'=>z.1<=N/\z.2.length=N/\St w w' (gK 4 cG (N*N) (N*N) G::bJ A4 i AR N cR AD N cD::(aS 34 2 AD N cD z.2 (gH M k E z.1)++qy A1 A2 A5 A6 A i c M AR N cR c5 c6 ie))) (fun z=>N - z.1) (0,q3) ⟨rfl,rfl,rfl,rfl,rfl,rfl,rfl,rfl,rfl,rfl,rfl,au⟩ ⟨bg _,GH,hS⟩ ?_
    clear hS GH;rintro⟨D,q4⟩ e gG ⟨hD,JW,hS⟩;dsimp only at hD JW hS|-;refine bL O (aM _ O (fun h6=>?_) (fun h6=>?_))
    ·have I5:D<N:=by omega
     have mq:=PC (N:=N) (e:=E) (d:=D) s6 I5;have nA:=zH M k E D;rw [ny]at nA;have UK:=oc E D s6 I5;have TO:vI gG cG (N*N) G:=hS.jA 0 O;have Eg:(E:Int)* (N:Int)+ (D:Int)=((E*N+D:Nat):Int):=by omega
     refine aA O (sN O O O am ?_);refine ar O (aI O ?_);refine aD TO.2 O (sM TO O am O O ?_);rw [Eg];refine aC O ?_;generalize hgb:gb G ((E*N+D:Nat):Int)=b at*;cases b with
     | false => --dup 2
      have fY:=aa0 (M:=M) (i:=k) (e:=E) (d:=D) am am (fun h=>by have:=UK.2 h;cases this);refine Cd.fg O (aA O (aI O (aT O (tQ ?_))));exact⟨(D+1,q4),by show N - (D+1)<N - D;omega,(aqv O),by show D+1<=N;omega,JW,by rw [fY];exact hS⟩
     | true=>
      have vi:=aaY (M:=M) (i:=k) (e:=E) (d:=D) am (UK.1 O);have km:bF gG AD N q4 (gH M k E D):=by
       have h9:=hS.sub (show(aS 34 2 AD N cD q4 (gH M k E D)).Sublist _ from((oE _ _).cons _).cons _);exact h9.nJ nA
      have yQ:=(km.at_ (i:=(E:Int)) am am).1;have jk:(rg q4 E).n<=N:=by
       rw [<-yQ,RK (by omega)];have kc:(gl (bQ M) E).length<=N:=by
        refine q8 (Ti M _).nodup fun x hx=>?_
        rw [rI (by omega) (by omega)]at hx;omega
       unfold uM
       split
       ·exact kc
       ·split
        ·exact bg _
        ·split
         ·exact kc
         ·split
          ·exact mS (sL _ _) kc
          ·exact bg _
      have lV:Rd gG A4 3 (fun q=> [Value.int .i64 (i:Int),.slice AR N cR,.slice AD N cD].getD q undef):=hS.rd 1 O;have th:∀A9:aj,(ax 2 A9 1 1 [(D:Int)]::(gK 4 cG (N*N) (N*N) G::bJ A4 i AR N cR AD N cD::(aS 34 2 AD N cD q4 (gH M k E D)++qy A1 A2 A5 A6 A i c M AR N cR c5 c6 ie)))[3+1+E]?=some (ax 2 (rg q4 E).a (rg q4 E).n (rg q4 E).c (gl (gH M k E D) E)):=fun A9=>G4 (t1:=34) (t2:=2) (A:=AD) (n:=N) (c:=cD) (rs:=q4) (xss:=gH M k E D) (pre:=[ax 2 A9 1 1 [(D:Int)],gK 4 cG (N*N) (N*N) G,bJ A4 i AR N cR AD N cD]) (ks:=qy A1 A2 A5 A6 A i c M AR N cR c5 c6 ie) (i:=E) am am
      have rS:=fun(A9:aj) (s:aO) (xs:ai)=>WL (t1:=34) (t2:=2) (A:=AD) (n:=N) (c:=cD) (rs:=q4) (xss:=gH M k E D) (ks:=qy A1 A2 A5 A6 A i c M AR N cR c5 c6 ie) (pre:=[ax 2 A9 1 1 [(D:Int)],gK 4 cG (N*N) (N*N) G,bJ A4 i AR N cR AD N cD]) (i:=E) s xs am am
      refine Cd.gu O ?_;refine kK [10,12] [yP (ay A4 2),yS (AD) (N) (cD),yI ((E:Int)),yP (ay (A4) 2),yS (AD) (N) (cD),yI ((E:Int)),yP (ay (AD) ((E:Int)).toNat),yS ((rg (q4) ((E:Int))).a) ((rg (q4) ((E:Int))).n) ((rg (q4) ((E:Int))).c),yI ((D:Int)),.pr (fun v w'=>∃A9,v= .slice A9 1 1/\St w w' (ax 2 A9 1 1 [(D:Int)]::(gK 4 cG (N*N) (N*N) G::bJ A4 i AR N cR AD N cD::(aS 34 2 AD N cD q4 (gH M k E D)++qy A1 A2 A5 A6 A i c M AR N cR c5 c6 ie)))),.pr (fun v w'=>∃AZ cZ,v= .slice AZ ((rg q4 E).n+1) cZ/\St w w' (gK 4 cG (N*N) (N*N) G::bJ A4 i AR N cR AD N cD::(cg 34 AD N cD q4::(da 2 (q4.set E ⟨AZ,(rg q4 E).n+1,cZ⟩) ((gH M k E D).set E (gl (gH M k E D) E++ [(D:Int)]))++qy A1 A2 A5 A6 A i c M AR N cR c5 c6 ie)))),yP (ay AD ((E:Int)).toNat),.pr (fun _ w'=>∃AZ cZ,St w w' (gK 4 cG (N*N) (N*N) G::bJ A4 i AR N cR AD N cD::(aS 34 2 AD N cD (q4.set E ⟨AZ,(rg q4 E).n+1,cZ⟩) ((gH M k E D).set E (gl (gH M k E D) E++ [(D:Int)]))++qy A1 A2 A5 A6 A i c M AR N cR c5 c6 ie)))] (ly (ly (ly (ly (ly (ly (ly (ly (ly (cH.2 ⟨Ye.cJ (fun v w w' h hb=>by obtain⟨A9,hv,hT⟩:=h;exact⟨A9,hv,hT.aq hb⟩),(cH.2 ⟨Ye.cJ (fun v w w' h hb=>by obtain⟨AZ,cZ,hv,hT⟩:=h;exact⟨AZ,cZ,hv,hT.aq hb⟩),(ly (cH.2 ⟨Ye.cJ (fun v w w' h hb=>by obtain⟨AZ,cZ,hT⟩:=h;exact⟨AZ,cZ,hT.aq hb⟩),(fun _ h=>by cases h)⟩))⟩)⟩)))))))))) ?_ ?_
      ·refine⟨?_,?_,bZ O,cP fun _ _ hb _ _ _=>aV (lV.below hb) O (bG O O),cP fun _ _ hb _ _ _=>bj (lV.below hb) O (bG O O),bZ O,cP fun _ _ hb _ _ _=>aD (km.top.aq hb).2 O (bG O O),cP fun _ _ hb _ _ _=>b9 (km.top.aq hb) O (bG O O),bZ O,?_,?_,?_,?_,au⟩
       ·intro e1 w1 cc fo dv fL hp aU hq;show ao _ _ _ _ _ _ _;have hX:Rd w1 A4 3 (fun q=> [Value.int .i64 (i:Int),.slice AR N cR,.slice AD N cD].getD q undef):=by { have dv:=qZ dv (b:=1) (by kernel_rfl);rcases(show cc=0\/cc=1 by omega)with h | h; { exact Rd.below lV (fL h) }; { subst h;obtain⟨AZ,cZ,_,hT⟩:=hq 10 _ _ (by kernel_rfl) (by kernel_rfl) (by kernel_rfl) rfl rfl (by kernel_rfl);exact hT.rd 1 rfl } }
        refine aV hX O (ao.n (iz O (by exact O)))
       ·intro e1 w1 cc fo dv fL hp aU hq;show ao _ _ _ _ _ _ _;have hX:Rd w1 A4 3 (fun q=> [Value.int .i64 (i:Int),.slice AR N cR,.slice AD N cD].getD q undef):=by { have dv:=qZ dv (b:=1) (by kernel_rfl);rcases(show cc=0\/cc=1 by omega)with h | h; { exact Rd.below lV (fL h) }; { subst h;obtain⟨AZ,cZ,_,hT⟩:=hq 10 _ _ (by kernel_rfl) (by kernel_rfl) (by kernel_rfl) rfl rfl (by kernel_rfl);exact hT.rd 1 rfl } }
        refine bj hX O (ao.n (iz O (by exact O)))
       ·refine cP fun e1 w1 hb hp aU hq=>?_
        exact eL (St.refl _) O O O fun A9 w9 av=>ao.n (fM.dn O av.below ⟨A9,O,(hS.aq hb).call av⟩)
       ·refine kO fun e1 w1 hb hp aU hq=>?_
        obtain⟨A9,adM,hT⟩:=(hp 9 _ _ (by kernel_rfl) rfl rfl (by kernel_rfl));refine fu (3+1+E) hT (th A9) (hT.bz 0 O) O (by exact adM) O ?_;intro AZ cZ wZ hZ;have hZ:=(rS A9 ⟨AZ,(rg q4 E).n+1,cZ⟩ (gl (gH M k E D) E++ [(D:Int)]))▸hZ;exact ao.n (gn.dn O ⟨AZ,cZ,O,hZ.tail⟩)
       ·intro e1 w1 cc fo dv fL hp aU hq;show ao _ _ _ _ _ _ _;have hX:mT w1 AD N q4:=by { have dv:=qZ dv (b:=1) (by kernel_rfl);rcases(show cc=0\/cc=1 by omega)with h | h; { exact km.top.aq (fL h) }; { subst h;obtain⟨AZ,cZ,_,hT⟩:=hq 10 _ _ (by kernel_rfl) (by kernel_rfl) (by kernel_rfl) rfl rfl (by kernel_rfl);exact hT.fQ 2 rfl } }
        refine aD hX.2 O (ao.n (iz O (by exact O)))
       ·refine sS 1 fun e1 w1 hp aU hq=>?_
        have fh:=hp 10 _ _ (by kernel_rfl) O O (by kernel_rfl);obtain⟨AZ,cZ,MJ,hT⟩:=fh;refine Fu (te:=34) (n:=N) (c:=cD) (A:=AD) (xs:=q4) 2 hT O O (by exact MJ) am ?_;intro wY hY;exact ao.n (gn.st O ⟨AZ,cZ,hY⟩)
      intro u mO _ hu _ _;obtain⟨AZ,cZ,hT⟩:=hu 12 _ rfl (by kernel_rfl);rw [vi]at hT;refine jD O (aI O (aT O (tQ ?_)));exact⟨(D+1,_),by show N - (D+1)<N - D;omega,(aqv O),by show D+1<=N;omega,by simp [JW],hT⟩
    ·have I5:D=N:=by omega
     have bS:=aaZ (M:=M) (i:=k) (e:=E);rw [ny]at bS;rw [I5,bS]at hS;refine bp O (bt (cS O (aI O (aT O (tQ ?_)))));exact⟨(E+1,q4),by show N - (E+1)<N - E;omega,(aqv O),by show E+1<=N;omega,JW,hS⟩
   ·have s6:E=N:=by omega
    have iS:=aaW (M:=M) (i:=k);rw [ny]at iS;rw [s6,iS]at hS;refine bp O (bt (cS O (aI O (aT O (tQ ?_)))));exact⟨(k+1,q3),by show i - (k+1)<i - k;omega,(aqv O),⟨by show 1<=k+1;omega,by show k+1<=i;omega⟩,GH,hS.tail⟩
 ·have jb:k=M.length:=by omega
  have dt:=aaV (M:=M);rw [jb,dt]at hS;refine bp O (bt (cS O ?_));refine ao.cN 2 (hS.rd 0 O) O O O ?_;have aF:St w w8 (bJ A2 0 none 0 0 none 0 0::(ax 2 AR N cR (bU M i)::(aS 34 2 AD N cD rh (bQ M)++ []))):=by
   have hs:(aS 34 2 AD N cD rh (bQ M)++ [ax 2 AR N cR (bU M i),bJ A2 0 none 0 0 none 0 0]).Sublist (bJ A4 i AR N cR AD N cD::(aS 34 2 AD N cD rh (bQ M)++qy A1 A2 A5 A6 A i c M AR N cR c5 c6 ie)):=
    List.Sublist.cons _ (List.Sublist.append_left (List.Sublist.cons_cons _ (List.Sublist.cons _ (List.Sublist.cons_cons _ (List.nil_sublist _)))) _)
   refine(hS.sub hs).perm ?_;rw [fI];exact(nL).trans (List.Perm.swap _ _ _)
  refine b5 3 0 aF O O O O O O O fun fH dT=>bH O (iA O (dT.rd 0 O) ?_);refine⟨AR,cR,AD,cD,rh,?_,by rw [ny];exact yO,?_⟩
  ·rw [ny,gX];rfl
  ·rw [ny,gX];exact dT.tail
theorem aim(A:aj)(n c:Nat)(rs:List aO)(M:ah)(w:aa)(hR:bF w A n rs M)(hM:bI M):
 aJ prog 101 [.agg #[.slice A n c]] w (fun v w'=>∃AR cR AD cD dB,v= .agg #[ak (M.length:Int),.slice AR (aR M M.length) cR,.slice AD (aR M M.length) cD]/\dB.length=aR M M.length/\St w w' (ax 2 AR (aR M M.length) cR (bU M M.length)::(aS 34 2 AD (aR M M.length) cD dB (bQ M)++ []))):=ail A n c rs M w hR hM.am9
section
variable {P:Program} {N:Nat} {ops:Array Oper} {K:Env->aa->Prop} {rest:List Oper} {e:Env} {w:aa} {d:Nat} {ty:ae} {pos:String} {af:Array Edge}
theorem ZY{F:FuncId}{x y z u:ag}{v1 v2 v3 v4:ad}(hx:ev e x=v1)(hy:ev e y=v2)(hz:ev e z=v3)(hu:ev e u=v4)(hb:Nat.blt d N=true)(hK:ao P N ops K rest (bn e d (.func (.func F) #[] #[v1,v2,v3,v4])) w):
 ao P N ops K (⟨some d,.makeFunc (.func F) #[] #[x,y,z,u],ty,pos,af,none⟩::rest) e w:=
 .val (by simp [execOp,Instr.makeFunc,hx,hy,hz,hu]) hb hK
end
theorem BH{l:ah}(h:l.length<=401):cap l=l:=by
 unfold cap;exact iY h
def yd(U:ah):Nat->Int->ah
 | 0,_=> [[]]
 | k+1,e=> (gl U e).flatMap fun f=> (yd U k f).map (f:: ·)
def nX(U:ah)(k:Nat)(fl xs:ai):ah:=xs.flatMap fun e=> (yd U k e).map fun y=>fl++e::y
theorem adB{U:ah}{k:Nat}{fl xs:ai}{j:Nat}(h:j<xs.length):nX U k fl (xs.take (j+1))=nX U k fl (xs.take j)++ (yd U k (gi xs j)).map fun y=>fl++gi xs j::y:=by
 unfold nX;rw [nM h,List.flatMap_append,bV h];simp
theorem adA(U:ah)(k:Nat)(fl:ai)(e:Int):(yd U (k+1) e).map (fun y=>fl++e::y)=nX U k (fl++ [e]) (gl U e):=by
 unfold nX;rw [yd,List.map_flatMap];refine aE (fun g=>List.flatMap g (gl U e)) (funext fun f=>?_);rw [List.map_map];refine pj fun y _=>?_
 show fl++e::f::y=(fl++ [e])++f::y;rw [gV];rfl
abbrev pv(PF A:aj)(c:Nat)(rs:List aO)(F:ah)(PB:aj)(n:Int)(AR:aj)(nR cR:Nat)(AD:aj)(m d:Nat)(PG PU Au:aj)(N cU:Nat)(dV:List aO)(U:ah)(gh:List Ck):List Ck:=
 Bx 22 1 PF [.slice A F.length c]::(aS 34 2 A F.length c rs F++ (bJ PB n AR nR cR AD m d::Bx 161 1 PG [.func (.func 166) #[] #[.pointer PF,.pointer PB,.pointer PG,.pointer PU]]::Bx 22 1 PU [.slice Au N cU]::(aS 34 2 Au N cU dV U++gh)))
theorem akQ{α:Type}(x b c:α)(X Y:List α):(x::b::c::(X++Y)).Perm (b::c::((X++ [x])++Y)):=by
 classical
 refine jT.2 fun z=>?_
 simp only [l9,jS,ln];omega
theorem IZ(PF A:aj)(c:Nat)(rs:List aO)(F:ah)(PB:aj)(n:Int)(AR:aj)(nR cR:Nat)(AD:aj)(m d:Nat)(PG PU Au:aj)(N cU:Nat)(dV:List aO)(U:ah)(gh:List Ck):(bJ PB n AR nR cR AD m d::Bx 161 1 PG [.func (.func 166) #[] #[.pointer PF,.pointer PB,.pointer PG,.pointer PU]]::Bx 22 1 PU [.slice Au N cU]::(aS 34 2 Au N cU dV U++gh)).Sublist (pv PF A c rs F PB n AR nR cR AD m d PG PU Au N cU dV U gh):=(kA _ _).cons _
theorem TD(PF A:aj)(c:Nat)(rs:List aO)(F:ah)(PB:aj)(n:Int)(AR:aj)(nR cR:Nat)(AD:aj)(m d:Nat)(PG PU Au:aj)(N cU:Nat)(dV:List aO)(U:ah)(gh:List Ck)(x:Ck):(x::pv PF A c rs F PB n AR nR cR AD m d PG PU Au N cU dV U gh).Perm (pv PF A c rs F PB n AR nR cR AD m d PG PU Au N cU dV U (x::gh)):=by
 classical
 refine jT.2 fun z=>?_
 simp only [pv,l9,jS];omega
theorem WO{w0 w':aa}{PF A:aj}{c:Nat}{rs:List aO}{F:ah}{PB:aj}{n:Int}{AR:aj}{nR cR:Nat}{AD:aj}{m d:Nat}{PG PU Au:aj}{N cU:Nat}{dV:List aO}{U:ah}{gh:List Ck}{t:ae}{B:aj}{q r:Nat}{xs:ai}(h:St w0 w' (pv PF A c rs F PB n AR nR cR AD m d PG PU Au N cU dV U (ax t B q r xs::gh))):cL w' B q xs:=(h.perm (TD ..).symm).bz 0 rfl
theorem adL(PF A:aj)(c:Nat)(rs:List aO)(F:ah)(PB:aj)(n:Int)(AR:aj)(nR cR:Nat)(AD:aj)(m d:Nat)(PG PU Au:aj)(N cU:Nat)(dV:List aO)(U:ah)(gh:List Ck)(x:Ck):(pv PF A c rs F PB n AR nR cR AD m d PG PU Au N cU dV U gh).Sublist (pv PF A c rs F PB n AR nR cR AD m d PG PU Au N cU dV U (x::gh)):=(((((((lJ gh).cons x).append_left _).cons_cons _).cons_cons _).cons_cons _).append_left _).cons_cons _
theorem TE{w0 w':aa}{PF A:aj}{c:Nat}{rs:List aO}{F:ah}{PB:aj}{n:Int}{AR:aj}{nR cR:Nat}{AD:aj}{m d:Nat}{PG PU Au:aj}{N cU:Nat}{dV:List aO}{U:ah}{gh:List Ck}(Jj:U.length=N)(h:St w0 w' (pv PF A c rs F PB n AR nR cR AD m d PG PU Au N cU dV U gh)):bF w' Au N dV U:=
 St.jB (t1:=34) (t2:=2) (c:=cU) (h.sub (((((lJ (aS 34 2 Au N cU dV U++gh)).cons _).cons _).cons _).trans (IZ ..))) Jj
theorem adE(w0:aa)(n:Nat)(JQ:n<=5)(PF PB AR AD PG PU Au:aj)(nR cR m d N cU:Nat)(dV:List aO)(U:ah)(Jj:U.length=N)(hN:N<=500)(hUr:∀e:Nat,e<N->(gl U e).length<=500/\∀x∈gl U e,0<=x/\x< (N:Int)):
 ∀(k nf nx:Nat) (fl xs:ai) (Af Ax:aj) (cf cx:Nat) (gh:List Ck) (w:aa) (A:aj) (c:Nat) (rs:List aO) (F:ah),fl.length=nf->xs.length=nx->nf+ (k+1)=n->nx<=500->(∀x∈xs,0<=x/\x< (N:Int))->
  (∀w' A c rs F,St w0 w' (pv PF A c rs F PB n AR nR cR AD m d PG PU Au N cU dV U gh)->cL w' Af nf fl)->
  (∀w' A c rs F,St w0 w' (pv PF A c rs F PB n AR nR cR AD m d PG PU Au N cU dV U gh)->cL w' Ax nx xs)->
  rs.length=F.length->F.length<=401->St w0 w (pv PF A c rs F PB n AR nR cR AD m d PG PU Au N cU dV U gh)->
  aJ prog 166 [.slice Af nf cf,.slice Ax nx cx,.pointer PF,.pointer PB,.pointer PG,.pointer PU] w (fun v w'=>v= .tuple #[]/\∃A' c' rs',rs'.length=(cap (F++nX U k fl xs)).length/\St w0 w' (pv PF A' c' rs' (cap (F++nX U k fl xs)) PB n AR nR cR AD m d PG PU Au N cU dV U gh)):=by
 intro k
 induction k using Nat.strongRecOn with
 | _ k ih=>
  intro nf nx fl xs Af Ax cf cx gh w A c rs F yM iS kc OC ui hf hx dL hF hS;refine bC func166 O ntmps166 O (CQ O) ?_;refine bh O (a8 O O (aC O ?_));refine Cd.loop (α:=Nat×aj×Nat×List aO) (fun z=> [(0,.slice Af nf cf),(2,.pointer PF),(3,.pointer PB),(4,.pointer PG),(5,.pointer PU),(11,.slice Ax nx cx),(12,ak nx),(13,ak (z.1:Int))])
   (fun z w'=>z.1<=nx/\z.2.2.2.length=(cap (F++nX U k fl (xs.take z.1))).length/\St w0 w' (pv PF z.2.1 z.2.2.1 z.2.2.2 (cap (F++nX U k fl (xs.take z.1))) PB n AR nR cR AD m d PG PU Au N cU dV U gh)) (fun z=>nx - z.1) (0,A,c,rs) ⟨rfl,rfl,rfl,rfl,rfl,rfl,rfl,rfl,au⟩ ⟨bg _,by
     show rs.length=(cap (F++ [])).length;rw [fI,BH hF];exact dL,by
     show St w0 w (pv PF A c rs (cap (F++ [])) _ _ _ _ _ _ _ _ _ _ _ _ _ _ _ _);rw [fI,BH hF];exact hS⟩ ?_
  clear hS dL;rintro⟨j,A,c,rs⟩ e w1 ⟨hj,dL,hS⟩;dsimp only at hj dL hS|-;generalize hG:F++nX U k fl (xs.take j)=G at*;refine bL O (aM _ O (fun h1=>?_) (fun h1=>?_))
  ·have v8:j<xs.length:=by omega
   have hR:=hx _ _ _ _ _ hS;have GV:=ui _ (gi_in v8);have D0:F++nX U k fl (xs.take (j+1))=G++ (yd U k (gi xs j)).map fun y=>fl++gi xs j::y:=by
    rw [adB v8,<-gV,hG]
   have JM:F++nX U k fl xs=G++nX U k fl (xs.drop j):=by
    rw [<-hG,gV]
    congr 1
    unfold nX;rw [<-List.flatMap_append,List.take_append_drop]
   refine aA O (aD hR.2 O (aY hR O (ar O ?_)));obtain⟨E,hE⟩:∃E:Nat,gi xs j=E:=⟨(gi xs j).toNat,am⟩;rw [hE]at D0 GV|-;refine aL (HI Af nf cf fl _ (hf _ _ _ _ _ hS) am) O ?_;rintro _ w2 ⟨tF,BG,rfl,av⟩;have aF:=hS.call av;clear av hS;refine ar O (eL aF O O O ?_);intro jC w3 aQ;refine fu 1 aQ O (aQ.bz 0 O) O O O ?_;intro eu fK w4 aX;have aX:St w0 w4 (ax 2 eu (nf+1) fK (fl++ [(E:Int)])::pv PF A c rs (cap G) PB n AR nR cR AD m d PG PU Au N cU dV U gh):=aX.tail;clear aQ aF;have dE:Rd w4 PF 1 (fun _=> .slice A (cap G).length c):=Rd.one (aX.rd 1 O);refine ar O (aqp (j:=0) dE (by exact aE Value.pointer (jz _).symm) O O O O ?_);refine a8 O O (aC O ?_);refine aM _ O (fun h2=>?_) (fun h2=>?_)
   ·refine dM O (fB (fe ?_));refine PS ⟨O,A,c,rs,?_,?_⟩
    ·rw [JM,Ih _ (by omega)];exact dL
    ·rw [JM,Ih _ (by omega)];exact aX.tail
   have de:=LL (l:=G) am;have eB:=((aX.tail).sub (IZ ..)).rd 0 O
   by_cases tm:k=0
   ·--dup 2
    refine dA O (dU [xS (eu) (nf+1) (fK),xI ((nf+1:Nat):Int),xP (ay (PB) 0),xI ((n:Int)),xB (true),xB (true)] O (eG O) ?_ ?_)
    ·refine⟨Dr O,?_,fun _ _ hb _ _=>aV (eB.below hb) O Az,fun _ _ hb _ _=>gP (eB.below hb) O O O O O Az,fun _ _ _ _ _=>Dk O (by exact aE Value.bool (dz am)),Dr O,au⟩
     ·intro e1 w1 hb hp aU;refine aL (xO _ _ _ _) O ?_;rintro _ w2 ⟨rfl,av⟩;subst av;refine ao.n (d0 (by exact O))
    intro u w5 nz _;have ba:=aX.aq nz;clear aX eB dE;have dE:Rd w5 PF 1 (fun _=> .slice A (cap G).length c):=Rd.one (ba.rd 1 O);refine eS O (Cd.gu O (aA O (aqp (j:=0) dE (by exact aE Value.pointer (jz _).symm) O O O O (ar O (lp ba O O O ?_)))));intro A41 w6 bo;refine lK 3 bo O (bo.fQ 0 O) O O O am am O ?_;intro C7 DC w7 bK;refine ao.st (i:=2) (j:=0) bK O (by exact aE Value.pointer (jz _).symm) O O (Nat.succ_pos _) ?_;intro w8 cj;have bT:St w0 w8 (ax 2 eu (nf+1) fK (fl++ [(E:Int)])::Bx 22 1 PF [.slice C7 ((cap G).length+1) DC]::cg 34 C7 ((cap G).length+1) DC (rs++ [⟨eu,nf+1,fK⟩])::(da 2 rs (cap G)++_)):=cj.tail;have bT:=bT.perm (akQ _ _ _ _ _);rw [<-pZ dL]at bT;have hex:(yd U k (E:Int)).map (fun y=>fl++ (E:Int)::y)=[fl++ [(E:Int)]]:=by rw [tm];rfl
    rw [hex]at D0;have qP:=abl (l:=G) (fl++ [(E:Int)]) am;refine ar O (aI O (aT O (tQ ?_)));refine⟨(j+1,C7,DC,rs++ [⟨eu,nf+1,fK⟩]),by show nx - (j+1)<nx - j;omega,(aqv O),by show j+1<=nx;omega,?_,?_⟩
    ·show(rs++ [_]).length=(cap (F++nX U k fl (xs.take (j+1)))).length;rw [D0,qP,ck,ck,dL];rfl
    ·show St w0 w8 (pv PF C7 DC (rs++ [_]) (cap (F++nX U k fl (xs.take (j+1)))) PB n AR nR cR AD m d PG PU Au N cU dV U gh);rw [D0,qP];show St w0 w8 (Bx _ 1 PF [.slice C7 (cap G++ [fl++ [(E:Int)]]).length DC]::(cg _ C7 (cap G++ [fl++ [(E:Int)]]).length DC _::_));rw [show(cap G++ [fl++ [(E:Int)]]).length=(cap G).length+1 by simp];exact bT
   ·obtain⟨k',rfl⟩:∃k',k=k'+1:=⟨k - 1,am⟩;rw [adA]at D0;refine dA O (dU [xS (eu) (nf+1) (fK),xI ((nf+1:Nat):Int),xP (ay (PB) 0),xI ((n:Int)),xB (false),xB (false)] O (eG O) ?_ ?_)
    ·refine⟨Dr O,?_,fun _ _ hb _ _=>aV (eB.below hb) O Az,fun _ _ hb _ _=>gP (eB.below hb) O O O O O Az,fun _ _ _ _ _=>Dk O (by exact aE Value.bool (cT am)),Dr O,au⟩
     ·intro e1 w1 hb hp aU;refine aL (xO _ _ _ _) O ?_;rintro _ w2 ⟨rfl,av⟩;subst av;refine ao.n (d0 (by exact O))
    intro u w5 nz _;have ba:=(aX.aq nz).perm (TD ..);clear aX eB dE;have gI:Rd w5 PG 1 (fun _=> .func (.func 166) #[] #[.pointer PF,.pointer PB,.pointer PG,.pointer PU]):=Rd.one ((ba.sub (IZ ..)).rd 1 O);have oU:Rd w5 PU 1 (fun _=> .slice Au N cU):=Rd.one ((ba.sub (IZ ..)).rd 2 O);have hU:=TE Jj ba;have VF:=hU.at_ (i:=(E:Int)) am am;have xk:=hUr E am;refine eS O (Cd.fg O ?_);refine kK [6] [.ex (.func (.func 166) #[] #[.pointer PF,.pointer PB,.pointer PG,.pointer PU]),yS (eu) (nf+1) (fK),yS (Au) (N) (cU),yI ((E:Int)),yP (ay (Au) ((E:Int)).toNat),yS ((rg (dV) ((E:Int))).a) ((rg (dV) ((E:Int))).n) ((rg (dV) ((E:Int))).c),.pr (fun v w'=>∃A' c' rs',rs'.length=(cap (cap G++nX U k' (fl++ [(E:Int)]) (gl U E))).length/\St w0 w' (pv PF A' c' rs' (cap (cap G++nX U k' (fl++ [(E:Int)]) (gl U E))) PB n AR nR cR AD m d PG PU Au N cU dV U gh))] (ly (ly (ly (ly (ly (ly (cH.2 ⟨Ye.cJ (fun v w w' h hb=>by obtain⟨A',c',rs',fP,hT⟩:=h;exact⟨A',c',rs',fP,hT.aq hb⟩),(fun _ h=>by cases h)⟩))))))) ?_ ?_
    ·refine⟨?_,bZ O,cP fun _ _ hb _ _ _=>aqp (j:=0) (oU.below hb) (by exact aE Value.pointer (jz _).symm) O O O O (bG O O),bZ O,cP fun _ _ hb _ _ _=>aD (hU.top.aq hb).2 O (bG O O),cP fun _ _ hb _ _ _=>b9 (hU.top.aq hb) O (bG O O),?_,au⟩
     ·refine cP fun e1 w1 hb hp aU hq=>?_
      refine ao.ld (Rd.below gI hb) (by exact aE Value.pointer (jz _).symm) an O O O ?_;refine ao.n (iz O (by exact O))
     ·refine kO fun e1 w1 hb hp aU hq=>?_
      refine aL (ih k' (Nat.lt_succ_self _) (nf+1) (rg dV E).n (fl++ [(E:Int)]) (gl U E) eu (rg dV E).a fK (rg dV E).c (ax 2 eu (nf+1) fK (fl++ [(E:Int)])::gh) _ A c rs (cap G) (by rw [ck,yM];rfl) VF.1 am (by have:=VF.1;omega) xk.2 (fun w' A c rs F h=>WO h) (fun w' A c rs F h=> (TE Jj h).at_ (i:=(E:Int)) am am) dL (LM G) (ba.aq hb)) O ?_;rintro _ w9 ⟨rfl,A',c',rs',fP,bT⟩;exact ao.n (gn.dn O ⟨A',c',rs',fP,bT.sub (adL ..)⟩)
    intro u w6 _ hu _ _;obtain⟨A',c',rs',fP,hT⟩:=hu 6 _ rfl (by kernel_rfl);rw [de,<-D0]at fP hT;refine jD O (aI O (aT O (tQ ?_)));exact⟨(j+1,A',c',rs'),by show nx - (j+1)<nx - j;omega,(aqv O),by show j+1<=nx;omega,fP,hT⟩
  ·have v8:j=xs.length:=by omega
   rw [v8,List.take_length]at hG;rw [<-hG]at dL hS;refine bp O (bt (Da O ?_));exact zq ⟨O,A,c,rs,dL,hS⟩
def xQ(n:Nat)(R:ai)(B:ah)(E F x:Nat):ai:=
 if x<E then []else(kI R B x).filter fun g=>decide (eh n R B g/\(x=E->g< (F:Int)))
def gU(n:Nat)(R:ai)(B:ah)(E F:Nat):ah:=(List.range R.length).map (xQ n R B E F)
def xa(n:Nat)(R:ai)(B:ah)(E F x:Nat):Bool:=
 if x<E then false else if x=E then decide (gi R x=(n:Int) - 1\/∃g∈kI R B x,eh n R B g/\g< (F:Int))else decide (eh n R B x)
def gM(n:Nat)(R:ai)(B:ah)(E F:Nat):List Bool:=(List.range R.length).map (xa n R B E F)
section
variable {n:Nat} {R:ai} {B:ah} {E F x:Nat}
theorem Bl:(gU n R B E F).length=R.length:=by simp [gU]
theorem tL:(gM n R B E F).length=R.length:=by simp [gM]
theorem QE(h:x<R.length):gl (gU n R B E F) x=xQ n R B E F x:=by
 rw [bR (by rw [Bl];exact h)];simp [gU]
theorem Ru(h:x<R.length):gb (gM n R B E F) x=xa n R B E F x:=by
 unfold gb;rw [jq,dm,fq (by rw [tL];exact h),Option.getD_some];simp [gM]
theorem an9:gU n R B R.length F=List.replicate R.length []:=by
 refine List.eq_replicate_iff.2 ⟨Bl,fun y hy=>?_⟩;obtain⟨x,hx,rfl⟩:=dF.1 hy;unfold xQ;rw [aB (ig.1 hx)]
theorem aay:gM n R B R.length F=List.replicate R.length false:=by
 refine List.eq_replicate_iff.2 ⟨tL,fun y hy=>?_⟩;obtain⟨x,hx,rfl⟩:=dF.1 hy;unfold xa;rw [aB (ig.1 hx)]
theorem Bm(hP:gL n R B){e g:Int}(h:g∈kI R B e):e<g/\g<R.length:=by
 obtain⟨h1,_,h3⟩:=np.1 h;exact⟨((hP.at_ h1.1 h1.2).2.1 e h3).1.2,h1.2⟩
theorem aoc(hP:gL n R B)(hE:E<R.length):gU n R B E (E+1)=gU n R B (E+1) R.length:=by
 refine pj fun x hx=>?_
 have hx:=ig.1 hx;unfold xQ
 by_cases c1:x<E
 ·rw [aB c1,aB (by omega)]
 rw [az c1]
 by_cases c2:x=E
 ·subst c2;rw [aB (by omega),List.filter_eq_nil_iff];intro g hg h;have h3:=(uq h).2 O;have:=Bm hP hg;omega
 rw [az (by omega)];refine List.filter_congr fun g hg=>ju.2 ?_
 have:=Bm hP hg;exact⟨fun h=> ⟨h.1,fun _=>by omega⟩,fun h=> ⟨h.1,fun h=>absurd h c2⟩⟩
theorem aob(h:¬(eh n R B F/\(F:Int)∈kI R B E)):gU n R B E (F+1)=gU n R B E F:=by
 refine pj fun x hx=>?_
 unfold xQ
 by_cases c1:x<E
 ·rw [aB c1,aB c1]
 rw [az c1,az c1];refine List.filter_congr fun g hg=>ju.2 ⟨fun h2=> ⟨h2.1,fun e=>?_⟩,fun h2=> ⟨h2.1,fun e=>by have:=h2.2 e;omega⟩⟩
 have h3:=h2.2 e;subst e;have:g≠(F:Int):=fun e=>h ⟨e▸h2.1,e▸hg⟩
 omega
theorem aoa(hE:E<R.length)(h:eh n R B F/\(F:Int)∈kI R B E):(gU n R B E F).set E (gl (gU n R B E F) E++ [(F:Int)])=gU n R B E (F+1):=by
 apply jE (by rw [mA,Bl,Bl]);intro x h1 h2;rw [Bl]at h2;have e2:∀d' (hx:x< (gU n R B E d').length),(gU n R B E d')[x]=xQ n R B E d' x:=fun d' hx=>by simp [gU]
 rw [List.getElem_set,e2 (F+1) (by rw [Bl];exact h2),e2 F (by rw [Bl];exact h2)]
 by_cases c:E=x
 ·subst c;rw [aB rfl,QE hE];unfold xQ;rw [az (Nat.lt_irrefl _),az (Nat.lt_irrefl _)];have hs:=E4 R B E;refine SA.eq ?_ (qb _ hs) fun y=>?_
  ·rw [SA,List.pairwise_append];refine⟨qb _ hs,List.pairwise_singleton _ _,fun a ha b hb=>?_⟩;obtain rfl:=gj.1 hb;exact(uq (gy.1 ha).2).2 O
  rw [jd,gy,gy,gj];simp only [kB];constructor
  ·rintro(⟨h3,h4,h5⟩ | rfl)
   ·exact⟨h3,h4,fun e=>by have:=h5 e;omega⟩
   exact⟨h.2,h.1,fun _=>by omega⟩
  rintro⟨h3,h4,h5⟩
  by_cases e3:y=(F:Int)
  ·exact .inr e3
  exact .inl ⟨h3,h4,fun e=>by have:=h5 e;omega⟩
 rw [az c];unfold xQ
 by_cases c1:x<E
 ·rw [aB c1,aB c1]
 rw [az c1,az c1];exact List.filter_congr fun g hg=>ju.2 ⟨fun h2=> ⟨h2.1,fun e=>absurd e.symm c⟩,fun h2=> ⟨h2.1,fun e=>absurd e.symm c⟩⟩
theorem Rv{x:Nat}(hP:gL n R B)(hx:x<R.length)(h:(gi R x=(n:Int) - 1\/∃g∈kI R B x,eh n R B g/\g< (R.length:Int))):eh n R B x:=by
 rcases h with h | ⟨g,h1,h2,_⟩
 ·exact RB h
 have h3:=(np.1 h1);have:=hP.ri h3.1.1 h3.1.2;have:=hP.ri (e:=(x:Int)) am am;exact(H4 am am).2 ⟨g,h1,h2⟩
theorem Rw{x:Nat}(hP:gL n R B)(hx:x<R.length)(h:eh n R B x):(gi R x=(n:Int) - 1\/∃g∈kI R B x,eh n R B g/\g< (R.length:Int)):=by
 have:=hP.ri (e:=(x:Int)) am am
 by_cases c:gi R x=(n:Int) - 1
 ·exact .inl c
 obtain⟨g,h1,h2⟩:=(H4 am am).1 h;exact .inr ⟨g,h1,h2,(Bm hP h1).2⟩
theorem aaB(hP:gL n R B)(hE:E<R.length):(gM n R B (E+1) R.length).set E (decide (gi R E=(n:Int) - 1))=gM n R B E (E+1):=by
 apply jE (by rw [mA,tL,tL]);intro x h1 h2;rw [tL]at h2;have e2:∀e' d' (hx:x< (gM n R B e' d').length),(gM n R B e' d')[x]=xa n R B e' d' x:=fun e' d' hx=>by simp [gM]
 rw [List.getElem_set,e2 _ _ (by rw [tL];exact h2),e2 _ _ (by rw [tL];exact h2)];unfold xa
 by_cases c:E=x
 ·subst c;rw [aB rfl,az (Nat.lt_irrefl _),aB rfl];refine ju.2 ⟨fun h=> .inl h,fun h=>?_⟩;rcases h with h | ⟨g,h3,_,h4⟩
  ·exact h
  have:=Bm hP h3;omega
 rw [az c]
 by_cases c1:x<E
 ·rw [aB (by omega),aB c1]
 rw [az (by omega),az c1,az (show ¬x=E from fun e=>c e.symm)]
 split
 ·refine ju.2 ⟨fun h=>Rv hP h2 h,fun h=>Rw hP h2 h⟩
 rfl
theorem aaA(h:¬(eh n R B F/\(F:Int)∈kI R B E)):gM n R B E (F+1)=gM n R B E F:=by
 refine pj fun x hx=>?_
 unfold xa
 by_cases c1:x<E
 ·rw [aB c1,aB c1]
 rw [az c1,az c1]
 by_cases c2:x=E
 ·subst c2;rw [aB rfl,aB rfl];refine ju.2 (or_congr Iff.rfl ⟨?_,?_⟩)
  ·rintro⟨g,h1,h2,h3⟩;have:g≠(F:Int):=fun e=>h ⟨e▸h2,e▸h1⟩
   exact⟨g,h1,h2,am⟩
  rintro⟨g,h1,h2,h3⟩;exact⟨g,h1,h2,am⟩
 rw [az c2,az c2]
theorem aaz(hE:E<R.length)(h:eh n R B F/\(F:Int)∈kI R B E):(gM n R B E F).set E true=gM n R B E (F+1):=by
 apply jE (by rw [mA,tL,tL]);intro x h1 h2;rw [tL]at h2;have e2:∀e' d' (hx:x< (gM n R B e' d').length),(gM n R B e' d')[x]=xa n R B e' d' x:=fun e' d' hx=>by simp [gM]
 rw [List.getElem_set,e2 _ _ (by rw [tL];exact h2),e2 _ _ (by rw [tL];exact h2)];unfold xa
 by_cases c:E=x
 ·subst c;rw [aB rfl,az (Nat.lt_irrefl _),aB rfl];exact(dz (.inr ⟨_,h.2,h.1,am⟩)).symm
 rw [az c]
 by_cases c1:x<E
 ·rw [aB c1,aB c1]
 rw [az c1,az c1,az (fun e=>c e.symm),az (fun e=>c e.symm)]
theorem aax(hP:gL n R B)(BV:E<F)(hF:F<R.length):gb (gM n R B E F) F=decide (eh n R B F):=by
 rw [Ru hF];unfold xa;rw [az (by omega),az (by omega)]
theorem aaw(hP:gL n R B)(hx:x<R.length):gb (gM n R B 0 R.length) x=decide (eh n R B x):=by
 rw [Ru hx];unfold xa;rw [az (by omega)]
 split
 ·exact ju.2 ⟨fun h=>Rv hP hx h,fun h=>Rw hP hx h⟩
 rfl
theorem YS(hP:gL n R B)(hx:x<R.length):gl (gU n R B 0 R.length) x=(kI R B x).filter fun g=>decide (eh n R B g):=by
 rw [QE hx];unfold xQ;rw [az (by omega)];refine List.filter_congr fun g hg=>ju.2 ⟨fun h=>h.1,fun h=> ⟨h,fun _=> (Bm hP hg).2⟩⟩
theorem FP{α β:Type}{f g:α->List β}:∀ {l:List α},(∀x∈l,f x=g x)->l.flatMap f=l.flatMap g
 | [],_=>rfl
 | a::r,h=>by rw [List.flatMap_cons,List.flatMap_cons,h a (List.mem_cons_self ..),FP fun x hx=>h x (rB _ hx)]
theorem SK(hP:gL n R B):∀(k:Nat) (e:Int),0<=e->e<R.length->(gi R e).toNat+k=n - 1->yd (gU n R B 0 R.length) k e=nU R B k e
 | 0,_,_,_,_=>rfl
 | k+1,e,h0,h1,h2=>by
  have hr:=hP.ri h0 h1;obtain⟨x,rfl⟩:∃x:Nat,e=x:=⟨e.toNat,am⟩;rw [yd,YS hP (by omega),YW hr.1 (by omega)];refine FP fun f hf=>?_
  have hf:=(np.1 (gy.1 hf).1);rw [SK hP k f hf.1.1 hf.1.2 (by omega)]
theorem adz(hn:1<=n)(hP:gL n R B):nX (gU n R B 0 R.length) (n - 1) [] ((vM R).filter fun f=>decide (eh n R B f))=aG n R B:=by
 rw [RY];unfold nX;refine FP fun e he=>?_
 have he:=uN.1 (gy.1 he).1;rw [SK hP _ e he.1.1 he.1.2 (by omega)]
 rfl
theorem aba{m:Nat}(hm:m<R.length):((bY (m+1)).filter fun e=>decide (gi R e=0) && decide (eh n R B e))=((bY m).filter fun e=>decide (gi R e=0) && decide (eh n R B e))++ (if gi R m=0/\eh n R B m then [(m:Int)]else []):=by
 unfold bY;rw [jU,iI,sK]
 congr 1
 by_cases c:gi R m=0/\eh n R B m
 ·rw [aB c];simp [c.1,c.2]
 rw [az c];rw [List.filter_eq_nil_iff];intro a ha h;obtain rfl:=gj.1 ha;simp at h;exact c h
theorem aa9:((bY R.length).filter fun e=>decide (gi R e=0) && decide (eh n R B e))=(vM R).filter fun f=>decide (eh n R B f):=by
 unfold vM;rw [List.filter_filter];exact List.filter_congr fun x _=>Bool.and_comm _ _
end
def pc(H:List Bool)(vs:ai):List Bool:=vs.foldl (fun H v=>H.set v.toNat true) H
theorem ale(H:List Bool)(vs:ai)(v:Int):pc H (vs++ [v])=(pc H vs).set v.toNat true:=by simp [pc,List.foldl_append]
theorem ald(H:List Bool):∀vs,(pc H vs).length=H.length:=by
 intro vs;unfold pc
 induction vs generalizing H with
 | nil=>rfl
 | cons a r ih=>rw [List.foldl_cons,ih,mA]
theorem alc(H:List Bool)(vs:ai)(hv:∀v∈vs,0<=v/\v<H.length)(x:Int)(h0:0<=x):gb (pc H vs) x=(gb H x || decide (x∈vs)):=by
 unfold pc
 induction vs generalizing H with
 | nil=>simp
 | cons a r ih=>
  have ha:=hv a (by simp);rw [List.foldl_cons,ih _ (fun v h=>by rw [mA];exact hv v (by simp [h])),FV ha.1 ha.2 h0]
  by_cases e:a=x
  ·subst e;simp
  ·have e':¬x=a:=fun h=>e h.symm
   simp [e,e']
theorem Tm(n:Nat)(x:Int):gb (List.replicate n false) x=false:=by
 unfold gb;rw [dm,List.getElem?_replicate]
 split<;>rfl
theorem alb{m:Nat}{F:ah}(h:∀l∈F,∀x∈l,0<=x/\x< (m:Int))(x:Int)(h0:0<=x):gb (pc (List.replicate m false) F.flatten) x=decide (∃l∈F,x∈l):=by
 rw [alc _ _ (fun v hv=>by
  obtain⟨l,hl,hx⟩:=List.mem_flatten.1 hv;rw [List.length_replicate];exact h l hl v hx) x h0,Tm,Bool.false_or]
 exact ju.2 (by rw [List.mem_flatten])
def vr(m:Nat):List Bool:=List.replicate m false
theorem Xp(m:Nat)(vs:ai):(pc (vr m) vs).length=m:=by rw [ald];simp [vr]
theorem aks{m:Nat}{F:ah}(h:∀l∈F,∀x∈l,0<=x/\x< (m:Int)):¬(false∈pc (vr m) F.flatten)↔∀x:Int,0<=x->x< (m:Int)->∃l∈F,x∈l:=by
 have hl:=Xp m F.flatten;have hg:=fun(x:Int) (h0:0<=x)=>alb h x h0
 constructor
 ·intro hn x h0 h1;apply qD;intro hc;have h2:gb (pc (vr m) F.flatten) x=false:=(hg x h0).trans (cT hc);apply hn;have h3:x.toNat< (pc (vr m) F.flatten).length:=by omega
  rw [<-h2,gb,dm,fq h3];exact dK _
 intro ha hm;obtain⟨k,hk,e⟩:=gC.1 hm;have h2:=hg (k:Int) am;rw [dz (ha (k:Int) (by omega) (by omega))]at h2;have h3:gb (pc (vr m) F.flatten) k=(pc (vr m) F.flatten)[k]:=by simp [gb,dm,hk]
 have h4:gb (pc (vr m) F.flatten) k=true:=h2;rw [h3,e]at h4;cases h4
theorem Zv(A:aj)(n c:Nat)(xs:List Bool)(v:Bool)(w:aa)(hR:vI w A n xs)(hn:n<=9223372036854775807):
 aJ prog 281 [.slice A n c,.bool v] w (fun r w'=> (∃i:Int,r=ak i/\(0<=i↔v∈xs))/\w'=w):=by
 have iU:=hR.1;refine bC func281 O ntmps281 O (df O) ?_;refine bh O (a8 O O (aC O ?_));refine Cd.loop (α:=Nat) (fun k=> [(0,.slice A n c),(1,.bool v),(7,ak n),(8,ak k)]) (fun k w'=>w'=w/\k<=n/\∀j:Nat,j<k->gb xs j≠v) (fun k=>n - k) 0 (aqv O) ⟨O,bg _,fun j hj=>by omega⟩ ?_;rintro k e w ⟨rfl,hk,hK⟩;refine bL O (aM _ O (fun h3=>?_) (fun h3=>?_))
 ·have hg:gb xs k=xs[k]' am:=by simp [gb,dm,show k<xs.length by omega]
  refine aA O (aD hR.2 O (sM hR O am O O (ao.SG O O O (aC O ?_))));refine Cd.cond O (fun h4=>?_) (fun h4=>?_)
  ·refine dM O (fB (fe ?_));refine iH O ?_;have h4:v=gb xs k:=by simpa using h4
   exact⟨⟨(k:Int),O,⟨fun _=>by rw [h4,hg];exact dK _,fun _=>by omega⟩⟩,O⟩
  refine aA O (aI O (aT O (tQ ?_)));have h4:¬v=gb xs k:=by simpa using h4
  refine⟨k+1,by show n - (k+1)<n - k;omega,(aqv O),O,am,fun j hj=>?_⟩
  by_cases ej:j=k
  ·subst ej;exact fun h=>h4 h.symm
  exact hK j am
 refine bp O (bt (gw O ?_));refine iH O ⟨⟨-1,O,⟨fun h=>absurd h an,fun h=>?_⟩⟩,O⟩;obtain⟨j,hj,Eh⟩:=gC.1 h;exact absurd (by simpa [gb,dm,hj]using Eh) (hK j am)
theorem Zl(A:aj)(n c:Nat)(xs:List Bool)(v:Bool)(w:aa)(hR:vI w A n xs)(hn:n<=9223372036854775807):
 aJ prog 222 [.slice A n c,.bool v] w (fun r w'=>r= .bool (decide (v∈xs))/\w'=w):=by
 refine bC func222 O ntmps222 O (df O) (bh O (aL (Zv A n c xs v _ hR hn) O ?_));rintro _ w ⟨⟨i,rfl,hi⟩,rfl⟩;refine bH O (dq O ?_);exact⟨aE Value.bool (ju.2 hi),O⟩
theorem Fw{w:aa}{A:aj}{n:Nat}{f:Nat->ad}(h:Rd w A n f)(hn:0<n):A.isNone=false:=by
 obtain⟨p,hp,_⟩:=h 0 hn;cases A with
 | none=>simp [ay]at hp
 | some q=>rfl
def RF(l:List Oper):Bool:=l.zipIdx.all fun p=> (fU p.1).all fun ed=>Nat.blt ed.on p.2
theorem eo{o:Oper}{S:Nat->Bool}(h:∀ed∈fU o,S ed.on=true)(k:Nat)(hk:(fU o).any (fun ed=>Nat.beq ed.on k)=true):S k=true:=by
 obtain⟨ed,gq,hb⟩:=List.any_eq_true.1 hk;rw [<-pk hb];exact h ed gq
section
variable {P:Program} {N:Nat} {e:Env} {w:aa}
theorem C9{id:Nat}{l:List Oper}{Q:jX}(hm:P.follows .mixedOrders=true)(tZ:RF l=true)(I:(Nat->Bool)->Env->aa->Prop)(h0:∀w1,Below w.heap.size w w1->I (fun _=>false) e w1)
 (pK:∀(S:Nat->Bool) (i:Nat) (o:Oper) (e1:Env) (w1:aa),l[i]?=some o->S i=false->(∀ed∈fU o,S ed.on=true)->(∀(k:Nat) (o':Oper),S k=true->l[k]?=some o'->∀ed∈fU o',S ed.on=true)->I S e1 w1->ao P N l.toArray (fun e2 w2=>I (fun k=>Nat.beq k i || S k) e2 w2) [o] e1 w1)
 (Cg:∀(S:Nat->Bool) (e1:Env) (w1:aa),(∀i,i<l.length->S i=true)->I S e1 w1->Q .normal e1 w1):Cd P N (.region id l.toArray true) Q e w:= .mk' fun a ha=>by
 have yy:∀(i:Nat) (o:Oper),l[i]?=some o->∀ed∈fU o,ed.on<i:=by
  intro i o ho ed gq;simp only [RF,List.all_eq_true]at tZ;have:=tZ (o,i) (by
   obtain⟨hi,JH⟩:=gx.1 ho;rw [List.mem_iff_getElem?];exact⟨i,by simp [ho]⟩)
  simpa [Nat.blt_eq]using this ed gq
 refine wp_region_any hm ?_;have key:∀(fuel:Nat) (listed:Array Bool) (a1:Act) (e1:Env) (w1:aa),kj N a1 e1->listed.size=l.length->
  (∀(i:Nat) (o:Oper),listed.getD i false=true->l[i]?=some o->∀ed∈fU o,listed.getD ed.on false=true)->I (fun k=>listed.getD k false) e1 w1->(l.length - fuel<=(List.range l.length).countP fun i=>listed.getD i false)->
  wpAny P .any l.toArray (low N Q) fuel listed a1 w1:=by
  have oc:∀(listed:Array Bool) (a1:Act) (e1:Env) (w1:aa),kj N a1 e1->I (fun k=>listed.getD k false) e1 w1->(∀i,i<l.length->listed.getD i false=true)->low N Q .normal a1 w1:=
   fun listed a1 e1 w1 hr hI dt=> ⟨e1,hr,Cg _ e1 w1 dt hI⟩
  have GK:∀(listed:Array Bool),listed.size=l.length->Region.ready .any l.toArray listed=[]->∀i,i<l.length->listed.getD i false=true:=by
   intro listed mr wi i
   induction i using Nat.strongRecOn with
   | _ i ih=>
    intro hi;cases Al:listed.getD i false with
    | true=>rfl
    | false=>
     exfalso;have:i∈Region.ready .any l.toArray listed:=by
      rw [mem_ready];refine⟨?_,l[i],by simp [hi],fun ed gq qk=>ih ed.on (yy i _ (fq hi) ed (sb.2 ⟨gq,qk⟩)) (by have:=yy i _ (fq hi) ed (sb.2 ⟨gq,qk⟩);omega)⟩;rw [jn,sG (by omega)]at Al|-;exact Al
     rw [wi]at this;cases this
  intro fuel
  induction fuel with
  | zero=>
   intro listed a1 e1 w1 hr mr de hI oX;have dt:∀i,i<l.length->listed.getD i false=true:=by
    have h4:(List.range l.length).countP (fun i=>listed.getD i false)=(List.range l.length).length:=by
     have:=List.countP_le_length (p:=fun i=>listed.getD i false) (l:=List.range l.length);simp at this oX|-;omega
    rw [List.countP_eq_length]at h4;intro i hi;exact h4 i (by simpa using hi)
   refine⟨?_,oc listed a1 e1 w1 hr hI dt⟩;rw [List.eq_nil_iff_forall_not_mem];intro i hi;obtain⟨h5,o,ho,_⟩:=mem_ready.1 hi;have tj:i<l.length:=by
    rcases Nat.lt_or_ge i l.length with h | h
    ·exact h
    ·simp [me h]at ho
   have h6:=dt i tj;rw [jn,sG (by omega)]at h5 h6;simp at h5 h6;rw [h5]at h6;cases h6
  | succ fuel ih=>
   intro listed a1 e1 w1 hr mr de hI oX;refine⟨fun wi=>oc listed a1 e1 w1 hr hI (GK listed mr wi),fun i hi=>?_⟩;obtain⟨aU,o,ho,z8⟩:=mem_ready.1 hi;have iK:l[i]?=some o:=by simpa using ho
   have tj:i<l.length:=(gx.1 iK).1;have pJ:∀ed∈fU o,listed.getD ed.on false=true:=fun ed gq=>z8 ed (sb.1 gq).1 (sb.1 gq).2
   have vm:listed.getD i false=false:=by
    have h5:=aU;rw [jn,sG (by omega)]at h5|-;exact h5
   have qR:∀k,(listed.setIfInBounds i true).getD k false=if k=i then true else listed.getD k false:=by
    intro k;rw [jn,uE]
    by_cases fX:k=i
    ·subst fX;rw [aB rfl,aB (by omega),aB rfl];rfl
    ·rw [az (fun e=>fX e.symm),az fX,<-jn]
   have hS:(fun k=> (listed.setIfInBounds i true).getD k false)=fun k=>Nat.beq k i || listed.getD k false:=by
    funext k;rw [qR]
    by_cases fX:k=i
    ·subst fX;rw [aB rfl,Nat.beq_refl];rfl
    ·rw [az fX];have:Nat.beq k i=false:=by
      cases hb:Nat.beq k i with
      | false=>rfl
      | true=>exact absurd (pk hb) fX
     rw [this];rfl
   have av:=pK (fun k=>listed.getD k false) i o e1 w1 iK vm pJ (fun k o' hk dp=>de k o' hk dp) hI;have mJ:=av.run a1 hr;have xq:∀a2 w2,(∃e2,kj N a2 e2/\I (fun k=>Nat.beq k i || listed.getD k false) e2 w2)->wpAny P .any l.toArray (low N Q) fuel (listed.setIfInBounds i true) a2 w2:=by
    intro a2 w2 ⟨e2,qV,rN⟩;refine ih _ a2 e2 w2 qV (by simpa using mr) (fun k o' hk dp ed gq=>?_) (by rw [hS];exact rN) ?_
    ·rw [qR]
     by_cases Ah:ed.on=i
     ·rw [aB Ah]
     ·rw [az Ah]
      by_cases fX:k=i
      ·subst fX;rw [iK]at dp;cases dp;exact pJ ed gq
      ·rw [qR,az fX]at hk;exact de k o' hk dp ed gq
    ·have Gk:(List.range l.length).countP (fun k=> (listed.setIfInBounds i true).getD k false)=(List.range l.length).countP (fun k=>listed.getD k false)+1:=
      DJ (fun k=>listed.getD k false) (fun k=> (listed.setIfInBounds i true).getD k false) i vm qR _ List.nodup_range (by simpa using tj)
     rw [Gk];omega
   unfold wpOp;rw [ho];unfold wpList at mJ;show if _ then _ else _
   by_cases hw:Region.wanted o (yielded l.toArray a1.tmps)=true
   ·rw [aB hw]at mJ|-;rcases mJ with h5 | ⟨_,a0,w0,h5⟩
    ·refine .inl (Lb h5 (fun a2 w2 hx=>?_) (fun x a w hx hq=>hx hq.1));exact xq a2 w2 hx.2
    ·exact absurd h5.1 (by simp)
   ·rw [az hw]at mJ|-;exact xq _ _ mJ.2
 refine key l.length (Array.replicate l.length false) a e _ ha (by simp) (fun i o hi=>?_) (by
  have:(fun k=> (Array.replicate l.length false).getD k false)=fun _=>false:=by
   funext k;rw [jn,Array.getElem?_replicate]
   split<;>rfl
  rw [this];exact h0 _ ⟨⟨rfl,rfl,rfl,br _,fun _ _=>rfl⟩,fun _=>Nat.le_add_right _ _⟩) am
 exfalso;rw [jn,Array.getElem?_replicate]at hi
 split at hi<;>simp at hi
end
def Dx(n:Nat)(R:ai)(B:ah)(f:Nat)(x:Nat):Prop:=(f<=x/\gi R x=(n:Int) - 1)\/∃g:Nat,(g:Int)∈kI R B x/\eh n R B g/\f<=g
def x5(n:Nat)(R:ai)(B:ah)(f j:Nat)(x:Nat):Prop:=Dx n R B (f+1) x\/(x=f/\gi R x=(n:Int) - 1)\/(eh n R B f/\(x:Int)∈(gl B f).take j/\gi R f=gi R x+1)
section
variable{x j:Nat}
variable {n:Nat} {R:ai} {B:ah}
theorem Rz(hP:gL n R B){f:Nat}(hf:f<=x)(hx:x<R.length):Dx n R B f x↔eh n R B x:=by
 have hr:=hP.ri (e:=(x:Int)) am am;constructor
 ·rintro(h | ⟨g,h1,h2,_⟩)
  ·exact RB h.2
  have h3:=np.1 h1;have:=hP.ri h3.1.1 h3.1.2;exact(H4 am am).2 ⟨_,h1,h2⟩
 intro h
 by_cases c:gi R x=(n:Int) - 1
 ·exact .inl ⟨hf,c⟩
 obtain⟨g,h1,h2⟩:=(H4 am am).1 h;have h3:=Bm hP h1;obtain⟨g',rfl⟩:∃g':Nat,g=g':=⟨g.toNat,am⟩;exact .inr ⟨g',h1,h2,am⟩
theorem aaG(hP:gL n R B)(hx:x<R.length):¬Dx n R B R.length x:=by
 rintro(h | ⟨g,h1,_,h2⟩)
 ·omega
 have:=Bm hP h1;omega
theorem aaJ(hP:gL n R B){f:Nat}(hf:f<R.length):x5 n R B f j f↔eh n R B f:=by
 rw [<-Rz hP (br f) hf];constructor
 ·rintro(h | h | h)
  ·rcases h with h | ⟨g,h1,h2,h3⟩
   ·omega
   exact .inr ⟨g,h1,h2,am⟩
  ·exact .inl ⟨br _,h.2⟩
  have:=((hP.at_ (e:=(f:Int)) am am).2.1 _ (List.mem_of_mem_take h.2.1)).1;omega
 rintro(h | ⟨g,h1,h2,h3⟩)
 ·exact .inr (.inl ⟨O,h.2⟩)
 have:=Bm hP h1;exact .inl (.inr ⟨g,h1,h2,am⟩)
theorem aaH(hP:gL n R B){f:Nat}(hf:f<R.length)(hj:¬eh n R B f\/(gl B f).length<=j)(hx:x<R.length):x5 n R B f j x↔Dx n R B f x:=by
 constructor
 ·rintro(h | h | h)
  ·rcases h with h | ⟨g,h1,h2,h3⟩
   ·exact .inl ⟨am,h.2⟩
   exact .inr ⟨g,h1,h2,am⟩
  ·exact .inl ⟨am,h.2⟩
  exact .inr ⟨f,np.2 ⟨am,h.2.2,List.mem_of_mem_take h.2.1⟩,h.1,br _⟩
 rintro(h | ⟨g,h1,h2,h3⟩)
 ·by_cases e:x=f
  ·exact .inr (.inl ⟨e,h.2⟩)
  exact .inl (.inl ⟨am,h.2⟩)
 by_cases e:g=f
 ·subst e;have h4:=np.1 h1;rcases hj with hj | hj
  ·exact absurd h2 hj
  exact .inr (.inr ⟨h2,by rw [iY hj];exact h4.2.2,h4.2.1⟩)
 exact .inl (.inr ⟨g,h1,h2,am⟩)
theorem aaI{f:Nat}(hj:j< (gl B f).length):x5 n R B f (j+1) x↔x5 n R B f j x\/(eh n R B f/\(x:Int)=gi (gl B f) j/\gi R f=gi R x+1):=by
 have e9:(gl B f).take (j+1)=(gl B f).take j++ [gi (gl B f) j]:=by
  rw [nM hj,bV hj]
 unfold x5;rw [e9,jd,gj];constructor
 ·rintro(h | h | ⟨h1,h2 | h2,h3⟩)
  ·exact .inl (.inl h)
  ·exact .inl (.inr (.inl h))
  ·exact .inl (.inr (.inr ⟨h1,h2,h3⟩))
  exact .inr ⟨h1,h2,h3⟩
 rintro((h | h | ⟨h1,h2,h3⟩) | ⟨h1,h2,h3⟩)
 ·exact .inl h
 ·exact .inr (.inl h)
 ·exact .inr (.inr ⟨h1,.inl h2,h3⟩)
 exact .inr (.inr ⟨h1,.inr h2,h3⟩)
end
def tJ(N:Nat)(L:List Bool)(P:Nat->Prop):Prop:=L.length=N/\∀x:Nat,x<N->(gb L x=true↔P x)
theorem tJ.set{N:Nat}{L:List Bool}{P P':Nat->Prop}(h:tJ N L P){y:Nat}(hy:y<N)(hP:∀x,x<N->(P' x↔P x\/x=y)):tJ N (L.set y true) P':=by
 refine⟨by rw [mA];exact h.1,fun x hx=>?_⟩;have:=FV (S:=L) (x:=(y:Int)) (y:=(x:Int)) (b:=true) am (by rw [h.1];omega) am;rw [jq]at this;rw [this,hP x hx,<-h.2 x hx]
 by_cases e:x=y
 ·subst e;simp
 rw [az (by omega)];exact⟨fun h=> .inl h,fun h=>h.resolve_right e⟩
theorem tJ.congr{N:Nat}{L:List Bool}{P P':Nat->Prop}(h:tJ N L P)(hP:∀x,x<N->(P' x↔P x)):tJ N L P':=⟨h.1,fun x hx=> (h.2 x hx).trans (hP x hx).symm⟩
theorem aih(n:Nat)(A D:aj)(cA cD:Nat)(R:ai)(rs:List aO)(B:ah)(w:aa)(hR:cL w A R.length R)(hB:bF w D B.length rs B)(hP:gL n R B):
 aJ prog 301 [.agg #[ak n,.slice A R.length cA,.slice D B.length cD]] w (fun v w'=>∃A' L,v= .slice A' R.length R.length/\tJ R.length L (fun x=>eh n R B x)/\St w w' [gK 4 A' R.length R.length L]):=by
 have hn:=hP.n1;have tc:=hP.qd;have hle:=hP.len;have bS:=fun(f:Nat) (h:f<R.length)=>hP.at_ (e:=(f:Int)) am am
 have cn:∀f:Nat,f<R.length->(gl B f).length<=500:=fun f h=>by
  have:=q8 (N:=R.length) (bS f h).1.nodup fun x hx=>by have:=((bS f h).2.1 x hx).1;omega
  omega
 have J5:=fun f j (h:f<R.length)=>aaJ (n:=n) (j:=j) hP h
 have Gn:=fun f j x (h:f<R.length) hj (hx:x<R.length)=>aaH (n:=n) (j:=j) hP h hj hx
 have VN:=fun x (h:x<R.length)=>aaG (n:=n) hP h
 have u6:=fun x (h:x<R.length)=>Rz (n:=n) (f:=0) hP (bg _) h
 have gm:=fun(x:Nat) (h:x<R.length)=>hP.ri (e:=(x:Int)) am am
 obtain⟨N,hN⟩:∃N,R.length=N:=⟨_,rfl⟩;rw [hN]at hR tc hle bS cn J5 Gn VN u6 gm|-;rw [hle]at hB|-;refine bC func301 O ntmps301 O (df O) (bh O (oG (St.refl w) O O ?_));intro A1 w1 aH;have h1:Rd w1 A1 3 (fun j=> [Value.int .i64 (n:Int),.slice A N cA,.slice D N cD].getD j undef):=aH.rd 0 O;have hR:=aH.gA hR;have hB:=aH.b7 hB;refine ar O (aV h1 O (aqp (j:=1) h1 (by exact aE Value.pointer O) O O O O (a8 O O (zD (v:=false) N (St.refl w1) O O am ?_))));intro A3 w2 Nc;have MK:=Rd.below h1 Nc.below;refine ar O (aV MK O (aqp (j:=1) MK (by exact aE Value.pointer O) O O O O ?_));have TU:tJ N (List.replicate N false) (Dx n R B N):=⟨by simp,fun x hx=> ⟨fun h=> (by rw [Tm]at h;cases h),fun h=>absurd h (VN x hx)⟩⟩;clear MK;refine a8 O O (dZ O (aC O ?_));refine Cd.loop (α:=Nat×List Bool) (fun z=> [(1,.pointer A1),(3,.slice A3 N N),(4,ak ((z.1:Int) - 1))]) (fun z w'=>z.1<=N/\tJ N z.2 (Dx n R B z.1)/\St w1 w' [gK 4 A3 N N z.2]) (fun z=>z.1) (N,List.replicate N false) (aqv O) ⟨br _,TU,Nc⟩ ?_;clear Nc TU;rintro⟨E',L⟩ e w3 ⟨hE,hL,hT⟩;dsimp only at hE hL hT|-;refine bL O (aM _ O (fun h2=>?_) (fun h2=>?_))
 ·obtain⟨f,rfl⟩:∃f,E'=f+1:=⟨E' - 1,am⟩;have l4:f<N:=by omega
  rw [show((f+1:Nat):Int) - 1=(f:Int) by omega];have pw:=Rd.below h1 hT.below;have yo:=hR.aq hT.below;have tt:=gm f l4;refine Zt 3 O (uF (α:=List Bool) (fun _=> [(1,.pointer A1),(3,.slice A3 N N),(4,ak f)]) (fun L' w'=>tJ N L' (x5 n R B f 0)/\St w1 w' [gK 4 A3 N N L']) ?_ ?_)
  ·refine bL O (dU [xP (ay (A1) 1),xS (A) (N) (cA),xI ((f:Int)),xP (ay (A) ((f:Int)).toNat),xI (gi (R) ((f:Int))),xP (ay (A1) 0),xI ((n:Int)),xI (((n:Int)) - ((1:Int))),xB (decide ((gi (R) ((f:Int)))=(((n:Int)) - ((1:Int)))))] O (eG O) ?_ ?_)
   ·exact⟨fun _ _ hb _ _=>aV (pw.below hb) O Az,fun _ _ hb _ _=>bj (pw.below hb) O Az,Dr O,fun _ _ hb _ _=>aD (yo.aq hb).2 O Az,fun _ _ hb _ _=>aY (yo.aq hb) O Az,fun _ _ hb _ _=>aV (pw.below hb) O Az,fun _ _ hb _ _=>gP (pw.below hb) O O O O O Az,fun _ _ _ _ _=>dZ O Az,Dr O,au⟩
   intro u w4 oU _;have Nd:=hT.aq oU;clear hT pw yo;refine eS O (aM _ O (fun h3=>?_) (fun h3=>?_))
   ·refine aA O (aD (Nd.jA 0 O).2 O (uK 0 Nd O O O am ?_));intro w5 uY;rw [jq]at uY;refine aT O (tQ ?_);refine⟨L.set f true,(aqv O),hL.set l4 fun x hx=>?_,uY⟩;unfold x5;rw [List.take_zero];constructor
    ·rintro(h | h | h)
     ·exact .inl h
     ·exact .inr h.1
     cases h.2.1
    rintro(h | h)
    ·exact .inl h
    subst h;exact .inr (.inl ⟨rfl,h3⟩)
   refine oC O (tQ ?_);refine⟨L,(aqv O),hL.congr fun x hx=>?_,Nd⟩;unfold x5;rw [List.take_zero];constructor
   ·rintro(h | h | h)
    ·exact h
    ·exact absurd (h.1▸h.2) h3
    cases h.2.1
   exact fun h=> .inl h
  clear hT hL pw yo;rintro L e w5 ⟨hL,hT⟩;have agz:=bS f l4;have hrl5:=cn f l4;refine dA O (Cd.loop (α:=Nat×List Bool) (fun z=> [(1,.pointer A1),(3,.slice A3 N N),(4,ak f),(5,ak (z.1:Int))]) (fun z w'=>z.1<=(gl B f).length/\tJ N z.2 (x5 n R B f z.1)/\St w1 w' [gK 4 A3 N N z.2]) (fun z=> (gl B f).length - z.1) (0,L) (aqv O) ⟨bg _,hL,hT⟩ ?_);clear hT hL;rintro⟨j,L⟩ e w6 ⟨hj,hL,hT⟩;dsimp only at hj hL hT|-;have pw:=Rd.below h1 hT.below;have F1:=hB.aq hT.below;have iL:=F1.at_ (i:=(f:Int)) am am;have jk:=iL.1;have D2:=hL.1;have Ec:=(hL.2 f l4).trans (J5 f j l4);refine bh O (aV pw O (aqp (j:=2) pw (by exact aE Value.pointer O) O O O O (ar O (aD F1.top.2 O (b9 F1.top O ?_)))));refine a8 O O (ar O ?_);refine dI 39 O (fun h3=>?_) (fun h3=>?_)
  ·have mn:j< (gl B f).length:=by omega
   refine aw O (ar O (aw O (ar O (aw O ?_))));refine aD (hT.jA 0 O).2 O (aw O (sM (hT.jA 0 O) O am O O ?_));generalize hgb:gb L f=bb at*;rw [show bb=decide (bb=true) by cases bb<;>rfl];refine aC O (aM _ O (fun h4=>?_) (fun h4=>?_))
   ·have s9:=Ec.1 h4;have mU:=agz.2.1 _ (gi_in mn);have iS:=fun x=>aaI (n:=n) (R:=R) (B:=B) (f:=f) (x:=x) mn
    have yo:=hR.aq hT.below;obtain⟨d,hd⟩:∃d:Nat,gi (gl B f) j=d:=⟨(gi (gl B f) j).toNat,am⟩;rw [hd]at mU iS;have pJ:=gm d am;refine aA O (aV pw O (aqp (j:=2) pw (by exact aE Value.pointer O) O O O O (ar O (aD F1.top.2 O (b9 F1.top O (ar O (aD iL.2 O (aY iL O ?_))))))));rw [hd];refine aC O (dU [xP (ay (A1) 1),xS (A) (N) (cA),xI ((d:Int)),xP (ay (A) ((d:Int)).toNat),xI (gi (R) ((d:Int))),xP (ay (A1) 1),xS (A) (N) (cA),xI ((f:Int)),xP (ay (A) ((f:Int)).toNat),xI (gi (R) ((f:Int))),xI ((gi (R) ((f:Int))) - ((1:Int))),xB (decide ((gi (R) ((d:Int)))=((gi (R) ((f:Int))) - ((1:Int)))))] O (eG O) ?_ ?_)
    ·exact⟨fun _ _ hb _ _=>aV (pw.below hb) O Az,fun _ _ hb _ _=>bj (pw.below hb) O Az,Dr O,fun _ _ hb _ _=>aD (yo.aq hb).2 O Az,fun _ _ hb _ _=>aY (yo.aq hb) O Az,fun _ _ hb _ _=>aV (pw.below hb) O Az,fun _ _ hb _ _=>bj (pw.below hb) O Az,Dr O,fun _ _ hb _ _=>aD (yo.aq hb).2 O Az,fun _ _ hb _ _=>aY (yo.aq hb) O Az,fun _ _ _ _ _=>dZ O Az,Dr O,au⟩
    intro u w7 yx _;have oT:=hT.aq yx;refine eS O (aM _ O (fun h5=>?_) (fun h5=>?_))
    ·refine aA O (aD (oT.jA 0 O).2 O (uK 0 oT O O O am ?_));intro w8 oa;rw [jq]at oa;refine ar O (aI O (aT O (tQ ?_)));refine⟨(j+1,L.set d true),by show(gl B f).length - (j+1)< (gl B f).length - j;omega,(aqv O),by show j+1<=_;omega,hL.set am fun x hx=>?_,oa⟩;rw [iS x];constructor
     ·rintro(h | h)
      ·exact .inl h
      exact .inr am
     rintro(h | h)
     ·exact .inl h
     subst h;exact .inr ⟨s9,rfl,am⟩
    refine aA O (aI O (aT O (tQ ?_)));refine⟨(j+1,L),by show(gl B f).length - (j+1)< (gl B f).length - j;omega,(aqv O),by show j+1<=_;omega,hL.congr fun x hx=>?_,oT⟩;rw [iS x];constructor
    ·rintro(h | h)
     ·exact h
     have h9:=h.2.1;have fz:=h.2.2;rw [h9]at fz;omega
    exact fun h=> .inl h
   have s9:¬eh n R B f:=fun h=>h4 (Ec.2 h)
   refine bp O (bt (cS O (dZ O (aT O (tQ ?_)))));exact⟨(f,L),by show f<f+1;omega,(aqv O),by show f<=N;omega,hL.congr fun x hx=> (Gn f j x l4 (.inl s9) hx).symm,hT⟩
  refine aK O (aK O (aK O (aK O (aC O ?_))));refine Cd.fg O (bp O (bt (cS O (dZ O (aT O (tQ ?_))))));exact⟨(f,L),by show f<f+1;omega,(aqv O),by show f<=N;omega,hL.congr fun x hx=> (Gn f j x l4 (.inr am) hx).symm,hT⟩
 obtain rfl:E'=0:=by omega
 refine bp O (bt (gw O ?_));refine gJ O ?_;have h9:=aH.none.call hT;exact⟨A3,L,O,hL.congr fun x hx=> (u6 x hx).symm,h9⟩
def yg(n:Nat)(R:ai)(B:ah):ah:=if(aG n R B).length<=400 then aG n R B else []
def rH(n:Nat)(R:ai)(B:ah):Int:=if(aG n R B).length<=400 then 0 else 3
abbrev vQ(A1 PU Au fE:aj)(n:Nat)(A D:aj)(N cA cD:Nat)(al:List Bool)(dV:List aO)(U:ah):List Ck:=
 gK 4 fE N N al::Bx 22 1 PU [.slice Au N N]::bJ A1 n A N cA D N cD::(aS 34 2 Au N N dV U++ [])
theorem S4(n:Nat)(A D:aj)(cA cD:Nat)(R:ai)(rs:List aO)(B:ah)(w:aa)(hR:cL w A R.length R)(hB:bF w D B.length rs B)(hP:gL n R B):
 aJ prog 92 [.agg #[ak n,.slice A R.length cA,.slice D B.length cD]] w (HH (yg n R B) (rH n R B) w):=by
 have hn:=hP.n1;have tc:=hP.qd;have hle:=hP.len;have bS:=fun e (h:e<R.length)=>hP.row e h
 have cn:∀e:Nat,e<R.length->(gl B e).length<=500:=fun e h=>by
  have:=q8 (N:=R.length) (bS e h).1.nodup fun x hx=> ((bS e h).2 x hx).1
  omega
 have Ox:∀E F:Nat,(gU n R B E F).length=R.length:=fun E F=>Bl
 have s9:∀E F:Nat,(gM n R B E F).length=R.length:=fun E F=>tL
 have VL:=fun E (h:E<R.length)=>aoc (n:=n) hP h
 have VK:=fun E (h:E<R.length)=>aaB (n:=n) hP h
 have UY:=an9 (n:=n) (R:=R) (B:=B) (F:=R.length);have UZ:=aay (n:=n) (R:=R) (B:=B) (F:=R.length);have JG:=fun E F (h:E<F) (hF:F<R.length)=>aax (n:=n) hP h hF
 have GG:=fun E F (hE:E<R.length) h=>aoa (n:=n) (R:=R) (B:=B) (E:=E) (F:=F) hE h
 have Vo:=fun E F (hE:E<R.length) h=>aaz (n:=n) (R:=R) (B:=B) (E:=E) (F:=F) hE h
 have MS:bF w D R.length rs B:=hle▸hB;have afK:=Wa n A D cA cD R rs B w hR hB hP;have oc:=fun x (h:x<R.length)=>aaw (n:=n) hP h
 have VP:=fun x (h:x<R.length)=>YS (n:=n) hP h
 have UU:=adz (n:=n) am hP;have yC:=fun m (h:m<R.length)=>aba (n:=n) (B:=B) h
 have rU:=aa9 (n:=n) (R:=R) (B:=B);have VQ:=fun(e f:Int)=>np (R:=R) (B:=B) (e:=e) (f:=f)
 obtain⟨N,hN⟩:∃N,R.length=N:=⟨_,rfl⟩;rw [hN]at hR tc hle bS cn MS VL VK UY UZ JG GG Vo oc VP UU yC rU;simp only [hN]at Ox s9 VQ;rw [hN,hle]at afK|-;refine bC func92 O ntmps92 O (pV O) (bh O (oG (St.refl w) O O ?_));intro A1 w1 aH;have h1:Rd w1 A1 3 (fun j=> [Value.int .i64 (n:Int),.slice A N cA,.slice D N cD].getD j undef):=aH.rd 0 O;refine ar O (ao.cN 2 h1 O O O ?_);refine aqm (Wa n A D cA cD R rs B w1 (by rw [hN];exact aH.gA hR) (by rw [hle];exact aH.b7 MS) hP) O (by rw [hN,hle];rfl) O ?_;rintro _ w2 ⟨rfl,av⟩;have aF:=aH.aq av.below;have h1:=Rd.below h1 av.below;clear av aH
 first | refine fv rfl rfl ?_ | refine gz rfl rfl ?_
 refine aC O (Cd.fg O (aA O (aV h1 O (bj h1 O (aL (xO _ _ _ _) O ?_)))));rintro _ w2 ⟨rfl,rfl⟩;refine ar O (Lh N aF O O am ?_);intro Au w3 aQ;have aQ:St w w3 ([cg 34 Au N N (List.replicate N eY),bJ A1 n A N cA D N cD]):=aQ;refine ao.new (z:= .slice none 0 0) aQ O O ?_;intro PU w4 aX;refine ao.st (i:=0) (j:=0) aX O (by exact aE Value.pointer (jz _).symm) O O (Nat.succ_pos _) ?_;intro w5 ba;have ba:St w w5 (Bx 22 1 PU [.slice Au N N]::[cg 34 Au N N (List.replicate N eY),bJ A1 n A N cA D N cD]):=ba;refine ar O (zD (v:=false) N ba O O am ?_);intro fE w6 bo;have bo:=Kt (t:=2) N bo;have bK:St w w6 (vQ A1 PU Au fE n A D N cA cD (gM n R B N N) (List.replicate N eY) (gU n R B N N)):=by
  rw [UY,UZ];refine bo.perm ?_
  classical
  refine jT.2 fun z=>?_
  simp only [vQ,aS,l9,jS,ln];omega
 clear bo ba aX aQ aF h1;refine ar O (dZ O (aC O ?_));refine Cd.loop (α:=Nat×List aO) (fun z=> [(1,.pointer A1),(4,ak N),(5,.pointer PU),(6,.slice fE N N),(7,ak ((z.1:Int) - 1))]) (fun z w'=>z.1<=N/\z.2.length=N/\St w w' (vQ A1 PU Au fE n A D N cA cD (gM n R B z.1 N) z.2 (gU n R B z.1 N))) (fun z=>z.1) (N,List.replicate N eY) (aqv O) ⟨br _,by simp,bK⟩ ?_;clear bK;rintro⟨E',dV⟩ e w7 ⟨hE,xy,hS⟩;dsimp only at hE xy hS|-;refine bL O (aM _ O (fun h2=>?_) (fun h2=>?_))
 ·obtain⟨E,rfl⟩:∃E,E'=E+1:=⟨E' - 1,am⟩;have s6:E<N:=by omega
  rw [show((E+1:Nat):Int) - 1=(E:Int) by omega];have jh:=hS.gA hR;have hal7:=s9 (E+1) N;refine dA O ?_;refine kK [12] [yS (fE) (N) (N),yI ((E:Int)),yP (ay (A1) 1),yS (A) (N) (cA),yI ((E:Int)),yP (ay (A) ((E:Int)).toNat),yI (gi (R) ((E:Int))),yP (ay (A1) 0),yI ((n:Int)),yI (((n:Int)) - ((1:Int))),yB (decide ((gi (R) ((E:Int)))=(((n:Int)) - ((1:Int))))),yP (ay (fE) ((E:Int)).toNat),.pr (fun _ w'=>St w w' (vQ A1 PU Au fE n A D N cA cD ((gM n R B (E+1) N).set E (decide (gi R E=(n:Int) - 1))) dV (gU n R B (E+1) N)))] (ly (ly (ly (ly (ly (ly (ly (ly (ly (ly (ly (ly (cH.2 ⟨Ye.cJ (fun v w w' h hb=>h.aq hb),(fun _ h=>by cases h)⟩))))))))))))) ?_ ?_
  ·refine⟨bZ O,bZ O,cP fun _ _ hb _ _ _=>aV ((hS.rd 2 O).below hb) O (bG O O),cP fun _ _ hb _ _ _=>bj ((hS.rd 2 O).below hb) O (bG O O),bZ O,cP fun _ _ hb _ _ _=>aD (jh.aq hb).2 O (bG O O),cP fun _ _ hb _ _ _=>aY (jh.aq hb) O (bG O O),cP fun _ _ hb _ _ _=>aV ((hS.rd 2 O).below hb) O (bG O O),cP fun _ _ hb _ _ _=>gP ((hS.rd 2 O).below hb) O O O O O (bG O O),aP fun _ _=>dZ O (bG O O),bZ O,cP fun _ _ hb _ _ _=>aD ((hS.jA 0 O).aq hb).2 O (bG O O),?_,au⟩;refine kO fun e1 w1 hb hp aU hq=>?_
   exact uK 0 (hS.aq hb) O O O am fun w6 bo=>ao.n (gn.st O bo)
  intro u w8 _ hu lb hu3;have cj:=hu 12 _ O (by kernel_rfl);rw [VK E s6,<-VL E s6]at cj;clear hS hu lb hu3;refine jD O (aI O (aC O ?_));refine Cd.loop (α:=Nat×List aO) (fun z=> [(1,.pointer A1),(4,ak N),(5,.pointer PU),(6,.slice fE N N),(7,ak E),(8,ak (z.1:Int))]) (fun z w'=> (E<z.1/\z.1<=N)/\z.2.length=N/\St w w' (vQ A1 PU Au fE n A D N cA cD (gM n R B E z.1) z.2 (gU n R B E z.1))) (fun z=>N - z.1) (E+1,dV) (aqv O) ⟨⟨Nat.lt_succ_self _,by show E+1<=N;omega⟩,xy,cj⟩ ?_;clear cj xy dV;rintro⟨F,dV⟩ e w9 ⟨⟨BV,hFN⟩,xy,hS⟩;dsimp only at BV hFN xy hS|-;refine bL O (aM _ O (fun h3=>?_) (fun h3=>?_))
  ·have hF:F<N:=by omega
   have n3:=hS.gA hR;have DY:=hS.b7 MS;have hal9:=s9 E F;have NJ:=JG E F BV hF;have GJ:=bS F hF;have Oy:=VQ (E:Int) (F:Int);have gm:=hP.ri (e:=(E:Int)) am am;have h1:Rd w9 A1 3 (fun j=> [Value.int .i64 (n:Int),.slice A N cA,.slice D N cD].getD j undef):=hS.rd 2 O;have Gi:gb (gM n R B E F) F=false\/(gb (gM n R B E F) F=true/\¬gi R F=gi R E+1)\/(gb (gM n R B E F) F=true/\gi R F=gi R E+1):=by
    cases gb (gM n R B E F) F<;>simp [Decidable.em,Classical.em]
    exact(Classical.em _).symm
   have nD:¬(eh n R B F/\(F:Int)∈kI R B E)->St w w9 (vQ A1 PU Au fE n A D N cA cD (gM n R B E (F+1)) dV (gU n R B E (F+1))):=fun h=>by
    rw [aaA h,aob h];exact hS
   rcases Gi with hg | ⟨hg,hr⟩ | ⟨hg,hr⟩
   ·
    have gv:¬(eh n R B F/\(F:Int)∈kI R B E):=fun h=>by
     rw [hg]at NJ;have:=dz h.1;rw [<-NJ]at this;cases this
    refine dA O (dU [xS (fE) (N) (N),xI ((F:Int)),xP (ay (fE) ((F:Int)).toNat),xB (gb (gM n R B E F) ((F:Int))),xB (false),xU,xU,xU,xU,xU,xU,xU,xU,xU,xU,xU,xU,xB (false),xB (false),xU,xU,xU,xB (false)] O (eG O) ?_ ?_)
    ·exact⟨Dr O,Dr O,fun _ _ hb _ _=>aD ((hS.jA 0 O).aq hb).2 O Az,fun _ _ hb _ _=>sM ((hS.jA 0 O).aq hb) O am O O Az,fun _ _ _ _ _=>Dk O (by exact aE Value.bool (hg)),Dr O,Dr O,Dr O,Dr O,Dr O,Dr O,Dr O,Dr O,Dr O,Dr O,Dr O,Dr O,Dr O,fun _ _ _ _ _=>Dk O (by exact aE Value.bool (O)),Dr O,Dr O,Dr O,Dr O,au⟩
    intro u dY hb _;refine eS O (Cd.fg O ?_);refine aA O (aI O (aT O (tQ ?_)));exact⟨(F+1,dV),by show N - (F+1)<N - F;omega,(aqv O),⟨Nat.lt_succ_of_lt BV,hF⟩,xy,(nD gv).aq hb⟩
   ·have gv:¬(eh n R B F/\(F:Int)∈kI R B E):=fun h=>hr (Oy.1 h.2).2.1
    refine dA O ?_;refine dU [xS (fE) (N) (N),xI ((F:Int)),xP (ay (fE) ((F:Int)).toNat),xB (gb (gM n R B E F) ((F:Int))),xB (true),xP (ay (A1) 1),xS (A) (N) (cA),xI ((F:Int)),xP (ay (A) ((F:Int)).toNat),xI (gi (R) ((F:Int))),xP (ay (A1) 1),xS (A) (N) (cA),xI ((E:Int)),xP (ay (A) ((E:Int)).toNat),xI (gi (R) ((E:Int))),xI ((gi (R) ((E:Int)))+ ((1:Int))),xB (decide ((gi (R) ((F:Int)))=((gi (R) ((E:Int)))+ ((1:Int))))),xB (decide ((gi (R) ((F:Int)))=((gi (R) ((E:Int)))+ ((1:Int))))),xB (false),xU,xU,xU,xB (false)] O (eG O) ?_ ?_
    ·exact⟨Dr O,Dr O,fun _ _ hb _ _=>aD ((hS.jA 0 O).aq hb).2 O Az,fun _ _ hb _ _=>sM ((hS.jA 0 O).aq hb) O am O O Az,fun _ _ _ _ _=>Dk O (by exact aE Value.bool (hg)),fun _ _ hb _ _=>aw O (aV (h1.below hb) O Az),fun _ _ hb _ _=>aw O (bj (h1.below hb) O Az),Dr O,fun _ _ hb _ _=>aw O (aD (n3.aq hb).2 O Az),fun _ _ hb _ _=>aw O (aY (n3.aq hb) O Az),fun _ _ hb _ _=>aw O (aV (h1.below hb) O Az),fun _ _ hb _ _=>aw O (bj (h1.below hb) O Az),Dr O,fun _ _ hb _ _=>aw O (aD (n3.aq hb).2 O Az),fun _ _ hb _ _=>aw O (aY (n3.aq hb) O Az),fun _ _ _ _ _=>aw O (aI O Az),Dr O,Dr O,fun _ _ _ _ _=>Dk O (by exact aE Value.bool (cT hr)),Dr O,Dr O,Dr O,Dr O,au⟩
    intro u dY hb _;refine eS O (Cd.fg O ?_);refine aA O (aI O (aT O (tQ ?_)));exact⟨(F+1,dV),by show N - (F+1)<N - F;omega,(aqv O),⟨Nat.lt_succ_of_lt BV,hF⟩,xy,(nD gv).aq hb⟩
   have ha:eh n R B F:=uq (NJ▸hg);refine dA O ?_;refine dU [xS (fE) (N) (N),xI ((F:Int)),xP (ay (fE) ((F:Int)).toNat),xB (gb (gM n R B E F) ((F:Int))),xB (true),xP (ay (A1) 1),xS (A) (N) (cA),xI ((F:Int)),xP (ay (A) ((F:Int)).toNat),xI (gi (R) ((F:Int))),xP (ay (A1) 1),xS (A) (N) (cA),xI ((E:Int)),xP (ay (A) ((E:Int)).toNat),xI (gi (R) ((E:Int))),xI ((gi (R) ((E:Int)))+ ((1:Int))),xB (decide ((gi (R) ((F:Int)))=((gi (R) ((E:Int)))+ ((1:Int))))),xB (decide ((gi (R) ((F:Int)))=((gi (R) ((E:Int)))+ ((1:Int))))),xB (true),xI ((E:Int)),xI ((F:Int)),xB (decide ((E:Int)∈gl B F)),xB (decide ((E:Int)∈gl B F))] O (eG O) ?_ ?_
   ·refine⟨Dr O,Dr O,fun _ _ hb _ _=>aD ((hS.jA 0 O).aq hb).2 O Az,fun _ _ hb _ _=>sM ((hS.jA 0 O).aq hb) O am O O Az,fun _ _ _ _ _=>Dk O (by exact aE Value.bool (hg)),fun _ _ hb _ _=>aw O (aV (h1.below hb) O Az),fun _ _ hb _ _=>aw O (bj (h1.below hb) O Az),Dr O,fun _ _ hb _ _=>aw O (aD (n3.aq hb).2 O Az),fun _ _ hb _ _=>aw O (aY (n3.aq hb) O Az),fun _ _ hb _ _=>aw O (aV (h1.below hb) O Az),fun _ _ hb _ _=>aw O (bj (h1.below hb) O Az),Dr O,fun _ _ hb _ _=>aw O (aD (n3.aq hb).2 O Az),fun _ _ hb _ _=>aw O (aY (n3.aq hb) O Az),fun _ _ _ _ _=>aw O (aI O Az),Dr O,Dr O,fun _ _ _ _ _=>Dk O (by exact aE Value.bool (dz hr)),Dr O,Dr O,?_,Dr O,au⟩;intro e1 w1 hb hp aU;refine aw O ?_;refine aL (wq A1 A D cA cD n R rs B E F _ (by rw [hN,hle];exact Rd.below h1 hb) (by rw [hle];exact DY.aq hb) am GJ.1 (by have:=cn F hF;omega)) O ?_;rintro _ w2 ⟨rfl,av⟩;subst av;refine ao.n (d0 (by exact O))
   intro u dY hb _;have bW:=hS.aq hb;refine eS O (aM _ O (fun h4=>?_) (fun h4=>?_))
   ·have kr:eh n R B F/\(F:Int)∈kI R B E:=⟨ha,Oy.2 ⟨am,hr,h4⟩⟩;have agV:=Ox E F;have km:bF dY Au N dV (gU n R B E F):=by
     have h9:=bW.sub (show(aS 34 2 Au N N dV (gU n R B E F)).Sublist _ from(((oE _ _).cons _).cons _).cons _);exact h9.nJ agV
    have yQ:=(km.at_ (i:=(E:Int)) am am).1;have jk:(rg dV E).n<=500:=by
     rw [<-yQ,QE (by omega)];unfold xQ
     split
     ·exact bg _
     refine mS (sL _ _) ?_;have:=q8 (N:=R.length) (E4 R B E).nodup fun x hx=> (np.1 hx).1
     omega
    have Um:Rd dY PU 1 (fun _=> .slice Au N N):=Rd.one (bW.rd 1 O);have th:∀A9:aj,(ax 2 A9 1 1 [(F:Int)]::vQ A1 PU Au fE n A D N cA cD (gM n R B E F) dV (gU n R B E F))[4+1+E]?=some (ax 2 (rg dV E).a (rg dV E).n (rg dV E).c (gl (gU n R B E F) E)):=fun A9=>G4 (t1:=34) (t2:=2) (A:=Au) (n:=N) (c:=N) (rs:=dV) (xss:=gU n R B E F) (pre:=[ax 2 A9 1 1 [(F:Int)],gK 4 fE N N (gM n R B E F),Bx 22 1 PU [.slice Au N N],bJ A1 n A N cA D N cD]) (ks:=[]) (i:=E) am am
    have rS:=fun(A9:aj) (s:aO) (xs:ai)=>WL (t1:=34) (t2:=2) (A:=Au) (n:=N) (c:=N) (rs:=dV) (xss:=gU n R B E F) (ks:=[]) (pre:=[ax 2 A9 1 1 [(F:Int)],gK 4 fE N N (gM n R B E F),Bx 22 1 PU [.slice Au N N],bJ A1 n A N cA D N cD]) (i:=E) s xs am am
    clear hS;refine dA O ?_;refine kK [8,10] [yS Au N N,yI ((E:Int)),yS (Au) (N) (N),yI ((E:Int)),yP (ay (Au) ((E:Int)).toNat),yS ((rg (dV) ((E:Int))).a) ((rg (dV) ((E:Int))).n) ((rg (dV) ((E:Int))).c),yI ((F:Int)),.pr (fun v w'=>∃A9,v= .slice A9 1 1/\St w w' (ax 2 A9 1 1 [(F:Int)]::vQ A1 PU Au fE n A D N cA cD (gM n R B E F) dV (gU n R B E F))),.pr (fun v w'=>∃AZ cZ,v= .slice AZ ((rg dV E).n+1) cZ/\St w w' (gK 4 fE N N (gM n R B E F)::Bx 22 1 PU [.slice Au N N]::bJ A1 n A N cA D N cD::(cg 34 Au N N dV::(da 2 (dV.set E ⟨AZ,(rg dV E).n+1,cZ⟩) ((gU n R B E F).set E (gl (gU n R B E F) E++ [(F:Int)]))++ [])))),yP (ay Au ((E:Int)).toNat),.pr (fun _ w'=>∃AZ cZ,St w w' (vQ A1 PU Au fE n A D N cA cD (gM n R B E F) (dV.set E ⟨AZ,(rg dV E).n+1,cZ⟩) ((gU n R B E F).set E (gl (gU n R B E F) E++ [(F:Int)]))))] (ly (ly (ly (ly (ly (ly (ly (cH.2 ⟨Ye.cJ (fun v w w' h hb=>by obtain⟨A9,hv,hT⟩:=h;exact⟨A9,hv,hT.aq hb⟩),(cH.2 ⟨Ye.cJ (fun v w w' h hb=>by obtain⟨AZ,cZ,hv,hT⟩:=h;exact⟨AZ,cZ,hv,hT.aq hb⟩),(ly (cH.2 ⟨Ye.cJ (fun v w w' h hb=>by obtain⟨AZ,cZ,hT⟩:=h;exact⟨AZ,cZ,hT.aq hb⟩),(fun _ h=>by cases h)⟩))⟩)⟩)))))))) ?_ ?_
    ·refine⟨?_,bZ O,cP fun _ _ hb _ _ _=>aqp (j:=0) (Um.below hb) (by exact aE Value.pointer (jz _).symm) O O O O (bG O O),bZ O,cP fun _ _ hb _ _ _=>aD (km.top.aq hb).2 O (bG O O),cP fun _ _ hb _ _ _=>b9 (km.top.aq hb) O (bG O O),bZ O,?_,?_,?_,?_,au⟩
     ·intro e1 w1 cc fo dv fL hp aU hq;show ao _ _ _ _ _ _ _;have hX:Rd w1 PU 1 (fun _=> .slice Au N N):=by { have dv:=qZ dv (b:=1) (by kernel_rfl);rcases(show cc=0\/cc=1 by omega)with h | h; { exact Rd.below Um (fL h) }; { subst h;obtain⟨AZ,cZ,_,hT⟩:=hq 8 _ _ (by kernel_rfl) (by kernel_rfl) (by kernel_rfl) rfl rfl (by kernel_rfl);exact Rd.one (hT.rd 1 rfl) } }
      refine aqp (j:=0) hX (by exact aE Value.pointer (jz _).symm) O O O O (ao.n (iz O (by exact O)))
     ·refine cP fun e1 w1 hb hp aU hq=>?_
      exact eL (St.refl _) O O O fun A9 w9 av=>ao.n (fM.dn O av.below ⟨A9,O,(bW.aq hb).call av⟩)
     ·refine kO fun e1 w1 hb hp aU hq=>?_
      obtain⟨A9,h78,hT⟩:=(hp 7 _ _ (by kernel_rfl) rfl rfl (by kernel_rfl));refine fu (4+1+E) hT (th A9) (hT.bz 0 O) O (by exact h78) O ?_;intro AZ cZ wZ hZ;have hZ:=(rS A9 ⟨AZ,(rg dV E).n+1,cZ⟩ (gl (gU n R B E F) E++ [(F:Int)]))▸hZ;exact ao.n (gn.dn O ⟨AZ,cZ,O,hZ.tail⟩)
     ·intro e1 w1 cc fo dv fL hp aU hq;show ao _ _ _ _ _ _ _;have hX:mT w1 Au N dV:=by { have dv:=qZ dv (b:=1) (by kernel_rfl);rcases(show cc=0\/cc=1 by omega)with h | h; { exact km.top.aq (fL h) }; { subst h;obtain⟨AZ,cZ,_,hT⟩:=hq 8 _ _ (by kernel_rfl) (by kernel_rfl) (by kernel_rfl) rfl rfl (by kernel_rfl);exact hT.fQ 3 rfl } }
      refine aD hX.2 O (ao.n (iz O (by exact O)))
     refine sS 1 fun e1 w1 hp aU hq=>?_
     have fh:=hp 8 _ _ (by kernel_rfl) O O (by kernel_rfl);obtain⟨AZ,cZ,h79,hT⟩:=fh;refine Fu (te:=34) (n:=N) (c:=N) (A:=Au) (xs:=dV) 3 hT O O (by exact h79) am ?_;intro wY hY;exact ao.n (gn.st O ⟨AZ,cZ,hY⟩)
    intro u mO _ hu _ _;obtain⟨AZ,cZ,hT⟩:=hu 10 _ rfl (by kernel_rfl);rw [GG E F s6 kr]at hT;refine jD O (aD (hT.jA 0 O).2 O (uK 0 hT O O O am ?_));intro sC iC;rw [jq,Vo E F s6 kr]at iC;refine ar O (aI O (aT O (tQ ?_)));exact⟨(F+1,_),by show N - (F+1)<N - F;omega,(aqv O),⟨Nat.lt_succ_of_lt BV,hF⟩,by simp [xy],iC⟩
   have gv:¬(eh n R B F/\(F:Int)∈kI R B E):=fun h=>h4 (Oy.1 h.2).2.2
   refine aA O (aI O (aT O (tQ ?_)));exact⟨(F+1,dV),by show N - (F+1)<N - F;omega,(aqv O),⟨Nat.lt_succ_of_lt BV,hF⟩,xy,(nD gv).aq hb⟩
  have hF:F=N:=by omega
  subst hF;refine bp O (bt (cS O (dZ O (aT O (tQ ?_)))));exact⟨(E,dV),by show E<E+1;omega,(aqv O),by show E<=F;omega,xy,hS⟩
 obtain rfl:E'=0:=by omega
 refine bp O (bt (cS O ?_));refine ao.new (z:= .slice none 0 0) hS O O fun PF w8 cj=>ar O (ao.new (z:= .nilFunc) cj O O ?_);intro PG w9 bT;refine ar O (ZY O O O O O (ao.st (i:=0) (j:=0) bT O (by exact aE Value.pointer (jz _).symm) O O (Nat.succ_pos _) ?_));intro dY bW;have bW:=(bW.nil 2);clear bT cj hS;refine aC O (Cd.loop (α:=Nat×aj×Nat) (fun z=> [(1,.pointer A1),(4,ak N),(6,.slice fE N N),(9,.pointer PF),(10,.pointer PG),(11,.slice z.2.1 ((bY z.1).filter fun e=>decide (gi R e=0) && decide (eh n R B e)).length z.2.2),(85,ak N),(86,ak (z.1:Int))]) (fun z w'=>z.1<=N/\St w w' (ax 2 z.2.1 ((bY z.1).filter fun e=>decide (gi R e=0) && decide (eh n R B e)).length z.2.2 ((bY z.1).filter fun e=>decide (gi R e=0) && decide (eh n R B e))::Bx 161 1 PG [.func (.func 166) #[] #[.pointer PF,.pointer A1,.pointer PG,.pointer PU]]::Bx 22 1 PF [.slice none 0 0]::vQ A1 PU Au fE n A D N cA cD (gM n R B 0 N) dV (gU n R B 0 N))) (fun z=>N - z.1) (0,none,0) (aqv O) ⟨bg _,bW⟩ ?_);clear bW;rintro⟨j,AF,cF⟩ e eF ⟨hj,hS⟩;dsimp only at hj hS|-;have kc:((bY j).filter fun e=>decide (gi R e=0) && decide (eh n R B e)).length<=500:=by
  refine mS (sL _ _) ?_;rw [bY,fS,rA];omega
 refine bL O (aM _ O (fun h3=>?_) (fun h3=>?_))
 ·have Ak:j<N:=by omega
  have Js:=yC j Ak;have vV:=hS.gA hR;have h1:Rd eF A1 3 (fun j=> [Value.int .i64 (n:Int),.slice A N cA,.slice D N cD].getD j undef):=hS.rd 5 O;have TL:vI eF fE N (gM n R B 0 N):=hS.jA 3 O;have NI:=oc j Ak;have nD:¬(gi R j=0/\eh n R B j)->((bY (j+1)).filter fun e=>decide (gi R e=0) && decide (eh n R B e))=((bY j).filter fun e=>decide (gi R e=0) && decide (eh n R B e)):=fun h=>by
   rw [Js,az h,fI]
  refine aA O (aV h1 O (bj h1 O (ar O (aD vV.2 O (aY vV O (ar O ?_))))));refine dI 95 O (fun h4=>?_) (fun h4=>?_)
  ·refine aw O (ar O (aw O (ar O (aw O ?_))));refine aD TL.2 O (aw O (sM TL O am O O (aC O ?_)));rw [NI];refine aM _ O (fun h5=>?_) (fun h5=>?_)
   ·rw [aB ⟨h4,h5⟩]at Js;refine aA O (eL hS O O O ?_);intro A9 fH dT;refine fu 1 dT O (dT.bz 0 O) O O O ?_;intro AZ cZ gG ja;have ja:=ja.tail;refine ar O (aI O (aT O (tQ ?_)));refine⟨(j+1,AZ,cZ),by show N - (j+1)<N - j;omega,⟨O,O,O,O,O,?_,O,O,au⟩,by show j+1<=N;omega,?_⟩
    ·show Value.slice _ _ _=_;rw [Js,ck];rfl
    show St w gG (ax _ _ (((bY (j+1)).filter _).length) _ ((bY (j+1)).filter _)::_);rw [Js,ck];exact ja
   refine aA O (aI O (aT O (tQ ?_)));refine⟨(j+1,AF,cF),by show N - (j+1)<N - j;omega,⟨O,O,O,O,O,?_,O,O,au⟩,by show j+1<=N;omega,?_⟩
   ·show Value.slice _ _ _=_;rw [nD (fun h=>h5 h.2)]
   show St w eF (ax _ _ (((bY (j+1)).filter _).length) _ ((bY (j+1)).filter _)::_);rw [nD (fun h=>h5 h.2)];exact hS
  refine aK O (aK O (aK O (aK O (aC O ?_))));refine Cd.fg O (aA O (aI O (aT O (tQ ?_))));refine⟨(j+1,AF,cF),by show N - (j+1)<N - j;omega,⟨O,O,O,O,O,?_,O,O,au⟩,by show j+1<=N;omega,?_⟩
  ·show Value.slice _ _ _=_;rw [nD (fun h=>h4 h.1)]
  show St w eF (ax _ _ (((bY (j+1)).filter _).length) _ ((bY (j+1)).filter _)::_);rw [nD (fun h=>h4 h.1)];exact hS
 obtain rfl:j=N:=by omega
 rw [rU]at hS kc|-;generalize hfi:((vM R).filter fun f=>decide (eh n R B f))=fi at*;have afy:∀x∈fi,0<=x/\x< (j:Int):=fun x hx=>by
  rw [<-hfi]at hx;have:=(uN.1 (gy.1 hx).1).1;omega
 have nz:Rd eF PG 1 (fun _=> .func (.func 166) #[] #[.pointer PF,.pointer A1,.pointer PG,.pointer PU]):=Rd.one (hS.rd 1 O);have hSG:St w eF (pv PF none 0 [] [] A1 n A j cA D j cD PG PU Au j j dV (gU n R B 0 j) [ax 2 AF fi.length cF fi,gK 4 fE j j (gM n R B 0 j)]):=by
  have h9:=(hS.perm (show List.Perm _ (Bx 22 1 PF [.slice none 0 0]::(bJ A1 n A j cA D j cD::Bx 161 1 PG [.func (.func 166) #[] #[.pointer PF,.pointer A1,.pointer PG,.pointer PU]]::Bx 22 1 PU [.slice Au j j]::(aS 34 2 Au j j dV (gU n R B 0 j)++ [ax 2 AF fi.length cF fi,gK 4 fE j j (gM n R B 0 j)]))) from by
   classical
   refine jT.2 fun z=>?_
   simp only [vQ,l9,jS,ln];omega))
  exact(h9.nil 34).perm (List.Perm.swap _ _ _)
 clear hS;have xk:∀e:Nat,e<j->(gl (gU n R B 0 j) e).length<=500/\∀x∈gl (gU n R B 0 j) e,0<=x/\x< (j:Int):=fun e he=>by
  rw [VP e he];refine⟨mS (sL _ _) ?_,fun x hx=>?_⟩
  ·have:=q8 (N:=R.length) (E4 R B e).nodup fun x hx=> (np.1 hx).1
   omega
  have:=(np.1 (gy.1 hx).1).1;omega
 refine bp O (bt (cS O ?_));refine ao.ld nz (by exact aE Value.pointer (jz _).symm) an O O O ?_;refine ar O (aL (adE w n am PF A1 A D PG PU Au j cA j cD j j dV (gU n R B 0 j) (Ox 0 j) am xk (n - 1) 0 fi.length [] fi none AF 0 cF [ax 2 AF fi.length cF fi,gK 4 fE j j (gM n R B 0 j)] _ none 0 [] [] O O am kc afy (fun _ _ _ _ _ _=>cL.nil) (fun w' A c rs F h=>WO h) O (bg _) hSG) O ?_);rintro _ fH ⟨rfl,A',c',rs',fP,hS⟩;rw [List.nil_append,UU]at fP hS;have dE:Rd fH PF 1 (fun _=> .slice A' (cap (aG n R B)).length c'):=Rd.one (hS.rd 0 O);refine ar O (aqp (j:=0) dE (by exact aE Value.pointer (jz _).symm) O O O O ?_);refine a8 O O (aC O ?_);have de:=LM (aG n R B);have Nu:=Ig (l:=aG n R B);refine aM _ O (fun h4=>?_) (fun h4=>?_)
 ·have gv:¬(aG n R B).length<=400:=fun h=>by have:=Nu.2 h;omega
  refine dM O (CX O O ?_);unfold yg rH;rw [az gv,az gv];exact HH.none hS
 have kr:(aG n R B).length<=400:=Nu.1 am;rw [BH (by omega)]at fP hS dE|-;refine aA O (aqp (j:=0) dE (by exact aE Value.pointer (jz _).symm) O O O O (bH O (CX O O ?_)));unfold yg rH;rw [aB kr,aB kr];exact⟨A',c',rs',O,fP,aao (pre:=[]) (hS.sub ((oE _ _).cons _))⟩
theorem abk(G X:ah):cap (cap G++X)=cap (G++X):=by
 unfold cap
 by_cases h:G.length<=401
 ·rw [iY h]
 rw [wN (by rw [ns];omega),wN (by omega),List.take_take,Nat.min_self]
section
variable (n:Nat) (R:ai) (B:ah)
def nh(st:ai)(m:Nat):ai:=(bY m).filter fun e=>decide (gi R e=(st.length:Int)/\eh n R B e/\(st.length=0\/gi st ((st.length:Int) - 1)∈gl B e))
def gk:Nat->ai->ah
 | 0,st=> [st]
 | k+1,st=> (nh n R B st R.length).flatMap fun e=>gk k (st++ [e])
end
section
variable {n:Nat} {R:ai} {B:ah}
theorem akv(st:ai)(m:Nat):nh n R B st (m+1)=if gi R m=(st.length:Int)/\eh n R B m/\(st.length=0\/gi st ((st.length:Int) - 1)∈gl B m)then nh n R B st m++ [(m:Int)]else nh n R B st m:=by
 have e9:bY (m+1)=bY m++ [(m:Int)]:=by
  unfold bY;rw [jU,iI];rfl
 unfold nh;rw [e9,sK]
 by_cases c:gi R m=(st.length:Int)/\eh n R B m/\(st.length=0\/gi st ((st.length:Int) - 1)∈gl B m)
 ·rw [aB c,Bu (by simpa using c)];rfl
 rw [az c,xZ (by simpa using c)];simp
theorem SJ:∀(k:Nat) (st:ai) (e:Int),0<st.length->gi st ((st.length:Int) - 1)=e->(0<=e/\e<R.length)->gi R e=(st.length:Int) - 1->st.length+k=n->gk n R B k st=(nU R B k e).map (st++ ·)
 | 0,st,e,_,_,_,_,_=>by simp [gk,nU]
 | k+1,st,e,h0,hl,he,hr,hk=>by
  rw [gk,YW (n:=n) (by omega) (by omega),List.map_flatMap];have hn:nh n R B st R.length=(kI R B e).filter fun f=>decide (eh n R B f):=by
   refine SA.eq (qb _ (mM _)) (qb _ (E4 _ _ _)) fun y=>?_
   unfold nh;rw [gy,gy,ky,np,kB,kB,hl];constructor
   ·rintro⟨h1,h2,h3,h4⟩;exact⟨⟨h1,am,h4.resolve_left am⟩,h3⟩
   ·rintro⟨⟨h1,h2,h4⟩,h3⟩;exact⟨h1,am,h3,.inr h4⟩
  rw [hn];refine FP fun f hf=>?_
  have hf:=np.1 (gy.1 hf).1;have hlen:(st++ [f]).length=st.length+1:=by simp
  rw [SJ k (st++ [f]) f (by omega) (by
   rw [hlen,show((st.length+1:Nat):Int) - 1=(st.length:Int) by omega,bV (by omega)];simp) hf.1 (by rw [hlen];omega) (by omega),List.map_map]
  refine pj fun y _=>?_
  show(st++ [f])++y=st++ (f::y);rw [gV];rfl
theorem acC(hn:1<=n):gk n R B n []=aG n R B:=by
 obtain⟨k,rfl⟩:∃k,n=k+1:=⟨n - 1,am⟩;rw [RY,gk];have hb:nh (k+1) R B [] R.length=(vM R).filter fun f=>decide (eh (k+1) R B f):=by
  refine SA.eq (qb _ (mM _)) (qb _ (qb _ (mM _))) fun y=>?_
  unfold nh;rw [gy,gy,ky,uN,kB,kB];exact⟨fun h=> ⟨⟨h.1,h.2.1⟩,h.2.2.1⟩,fun h=> ⟨h.1.1,h.1.2,h.2,.inl O⟩⟩
 rw [hb];refine FP fun f hf=>?_
 have hf:=uN.1 (gy.1 hf).1;rw [List.nil_append,SJ k [f] f (by simp) (by simp [gi]) hf.1 (by rw [hf.2];rfl) (by simp;omega)]
 rfl
end
theorem Hi{Q:jX}{e:Env}{w:aa}{F:List (Nat×ad)}(hM:Mt e F)(h:Q .normal (ext e F) w):Q .normal e w:=by rwa [zM hM]at h
theorem ajh{w0 w:aa}{ks:List Ck}{t:ae}{A:aj}{n c:Nat}{xs:List Bool}(h:St w0 w ks)(hm:gK t A n c xs∈ks):vI w A n xs:=by
 obtain⟨i,hi,e⟩:=gC.1 hm;exact h.jA i (by rw [fq hi,e])
theorem akU{α:Type}(s m:α)(X K:List α):(s::m::(X++K)).Perm (m::((X++ [s])++K)):=by
 classical
 refine jT.2 fun z=>?_
 simp only [l9,jS,ln];omega
theorem akW{α:Type}(p s:α)(X K:List α):(p::s::(X++K)).Perm (X++ (p::s::K)):=by
 classical
 refine jT.2 fun z=>?_
 simp only [l9,jS];omega
theorem aii(w0:aa)(n:Nat)(AR AD:aj)(cR cD:Nat)(R:ai)(KM:List aO)(B:ah)(N:Nat)(hN:R.length=N)(hR:cL w0 AR N R)(hB:bF w0 AD N KM B)(hP:gL n R B)(Aa:aj)(La:List Bool)(Ja:tJ N La (fun x=>eh n R B x)):
 ∀(k r:Nat) (st:ai) (As:aj) (cs:Nat) (gh:List Ck) (w:aa) (A:aj) (c:Nat) (rs:List aO) (F:ah),r+k=n->st.length=r->(∀x∈st,0<=x/\x< (N:Int))->gK 4 Aa N N La∈gh->rs.length=F.length->F.length<=401->
  St w0 w (ax 2 As r cs st::(aS 34 2 A F.length c rs F++gh))->
  aJ prog 300 [.agg #[ak n,.slice AR N cR,.slice AD N cD],.slice Aa N N,.slice As r cs,.slice A F.length c] w (fun v w'=>∃A' c' rs',v= .slice A' (cap (F++gk n R B k st)).length c'/\rs'.length=(cap (F++gk n R B k st)).length/\St w0 w' (aS 34 2 A' (cap (F++gk n R B k st)).length c' rs' (cap (F++gk n R B k st))++gh)):=by
 have hn:=hP.n1;have tc:=hP.qd;have hle:=hP.len;have bS:=fun(f:Nat) (h:f<R.length)=>hP.at_ (e:=(f:Int)) am am
 have cn:∀f:Nat,f<R.length->(gl B f).length<=500:=fun f h=>by
  have:=q8 (N:=R.length) (bS f h).1.nodup fun x hx=>by have:=((bS f h).2.1 x hx).1;omega
  omega
 have gm:=fun(x:Nat) (h:x<R.length)=>hP.ri (e:=(x:Int)) am am
 rw [hN]at tc hle cn gm;have D2:=Ja.1;intro k
 induction k with
 | zero=>
  intro r st As cs gh w A c rs F hk av AH I2 dL hF hS;refine bC func300 O ntmps300 O (df O) (bh O (oG hS O O ?_));intro A4 w1 aH;refine ar O (a8 O O (aC O ?_));refine aM _ O (fun h1=>?_) (fun h1=>?_)
  ·have hc:cap (F++gk n R B 0 st)=F:=by
    have h9:cap F=F:=BH hF;rw [Ih (l:=F) _ (by rw [h9];omega),h9]
   refine dM O (gJ O ?_);rw [hc];exact⟨A,c,rs,O,dL,aH.tail.tail⟩
  refine aA O (a8 O O (ar O ?_));refine aV (aH.rd 0 O) O (gP (j:=0) (aH.rd 0 O) (by exact aE Value.pointer O) O O O O (aC O (E9 O am ?_)));have hc:cap (F++gk n R B 0 st)=F++ [st]:=BH (by rw [gk,ck];show F.length+1<=401;omega);have aH:=aH.tail;refine aA O (lp aH O O O ?_);intro A9 w2 aF;refine lK 2 aF O (aF.fQ 0 O) O O O am am O ?_;intro AZ cZ w3 aQ;have aQ:=aQ.tail;refine bH O (gJ O ?_);rw [hc];refine⟨AZ,cZ,rs++ [⟨As,r,cs⟩],by rw [ck];rfl,by simp [dL],?_⟩;have aX:St w0 w3 (ax 2 As r cs st::cg 34 AZ (F.length+1) cZ (rs++ [⟨As,r,cs⟩])::(da 2 rs F++gh)):=aQ;have aX:=aX.perm (akU _ _ _ _);rw [<-pZ dL]at aX;rw [ck];exact aX
 | succ k ih=>
  intro r st As cs gh w A c rs F hk av AH I2 dL hF hS;refine bC func300 O ntmps300 O (df O) (bh O (oG hS O O ?_));intro A4 w1 aH;refine ar O (a8 O O (aC O ?_));refine aM _ O (fun h1=>?_) (fun h1=>?_)
  ·have hc:cap (F++gk n R B (k+1) st)=F:=by
    have h9:cap F=F:=BH hF;rw [Ih (l:=F) _ (by rw [h9];omega),h9]
   refine dM O (gJ O ?_);rw [hc];exact⟨A,c,rs,O,dL,aH.tail.tail⟩
  refine aA O (a8 O O (ar O ?_));refine aV (aH.rd 0 O) O (gP (j:=0) (aH.rd 0 O) (by exact aE Value.pointer O) O O O O (aC O (qC O am ?_)));have aH:St w0 w1 (bJ A4 n AR N cR AD N cD::ax 2 As r cs st::(aS 34 2 A F.length c rs F++gh)):=aH;have aF:=aH.perm (akW _ _ _ _);have MU:cap (F++ (nh n R B st 0).flatMap fun e=>gk n R B k (st++ [e]))=F:=by
   show cap (F++ [])=F;rw [fI,BH hF]
  clear aH hS;refine dA O ?_;refine Cd.loop (α:=Nat×aj×Nat×List aO) (fun z=> [(1,.slice Aa N N),(2,.slice As r cs),(3,.slice z.2.1 (cap (F++ (nh n R B st z.1).flatMap fun e=>gk n R B k (st++ [e]))).length z.2.2.1),(4,.pointer A4),(9,ak r),(10,ak (z.1:Int))])
   (fun z w'=>z.1<=N/\z.2.2.2.length=(cap (F++ (nh n R B st z.1).flatMap fun e=>gk n R B k (st++ [e]))).length/\St w0 w' (aS 34 2 z.2.1 (cap (F++ (nh n R B st z.1).flatMap fun e=>gk n R B k (st++ [e]))).length z.2.2.1 z.2.2.2 (cap (F++ (nh n R B st z.1).flatMap fun e=>gk n R B k (st++ [e])))++ (bJ A4 n AR N cR AD N cD::ax 2 As r cs st::gh))) (fun z=>N - z.1) (0,A,c,rs) ⟨rfl,rfl,aE (fun m:ah=>Value.slice A m.length c) MU.symm,rfl,rfl,rfl,au⟩ ⟨bg _,by show rs.length=_;rw [MU];exact dL,by show St w0 w1 (aS _ _ A (cap _).length c rs (cap _)++_);rw [MU];exact aF⟩ ?_
  clear aF dL;rintro⟨q,A,c,rs⟩ e w2 ⟨hq,dL,hS⟩;dsimp only at hq dL hS|-;have iS:=akv (n:=n) (R:=R) (B:=B) st q;have de:=LM (F++ (nh n R B st q).flatMap fun e=>gk n R B k (st++ [e]));have Ce:=abk (F++ (nh n R B st q).flatMap fun e=>gk n R B k (st++ [e]));generalize hG:(F++ (nh n R B st q).flatMap fun e=>gk n R B k (st++ [e]))=G at*;have ql:∀ {w':aa} {A:aj} {c:Nat} {rs:List aO} {F:ah},St w0 w' (aS 34 2 A F.length c rs F++ (bJ A4 n AR N cR AD N cD::ax 2 As r cs st::gh))->Rd w' A4 3 (fun q=> [Value.int .i64 (n:Int),.slice AR N cR,.slice AD N cD].getD q undef):=fun h=> (h.sub (kA _ _)).rd 0 O
  have tf:∀ {w':aa} {A:aj} {c:Nat} {rs:List aO} {F:ah},St w0 w' (aS 34 2 A F.length c rs F++ (bJ A4 n AR N cR AD N cD::ax 2 As r cs st::gh))->cL w' As r st:=fun h=> (h.sub (kA _ _)).bz 1 O
  have rU:∀ {w':aa} {A:aj} {c:Nat} {rs:List aO} {F:ah},St w0 w' (aS 34 2 A F.length c rs F++ (bJ A4 n AR N cR AD N cD::ax 2 As r cs st::gh))->vI w' Aa N La:=fun h=>ajh h (List.mem_append_right _ (rB _ (rB _ I2)))
  have uW:=ql hS;refine bh O (aV uW O (aqp (j:=1) uW (by exact aE Value.pointer O) O O O O ?_));refine a8 O O (aC O ?_);refine aM _ O (fun h3=>?_) (fun h3=>?_)
  ·have Vs:q<N:=by omega
   have lZ:=hS.gA hR;have tW:=hS.b7 hB;have lE:=tf hS;have DX:=rU hS;have JF:=Ja.2 q Vs;have hriq:=gm q Vs;have hrlq:=cn q am;have VA:=tW.at_ (i:=(q:Int)) am am;have jk:=VA.1;have nD:¬(gi R q=(st.length:Int)/\eh n R B q/\(st.length=0\/gi st ((st.length:Int) - 1)∈gl B q))->F++ ((nh n R B st (q+1)).flatMap fun e=>gk n R B k (st++ [e]))=G:=fun h=>by
    rw [iS,az h];exact hG
   have Gi:¬gi R q=(r:Int)\/(gi R q=(r:Int)/\gb La q=false)\/(gi R q=(r:Int)/\gb La q=true/\(r:Int)=0)\/(gi R q=(r:Int)/\gb La q=true/\¬(r:Int)=0):=by
    by_cases a:gi R q=(r:Int)
    ·cases gb La q
     ·exact .inr (.inl ⟨a,O⟩)
     ·by_cases b:(r:Int)=0
      ·exact .inr (.inr (.inl ⟨a,O,b⟩))
      ·exact .inr (.inr (.inr ⟨a,O,b⟩))
    ·exact .inl a
   rcases Gi with a1 | ⟨a1,a2⟩ | ⟨a1,a2,a3⟩ | ⟨a1,a2,a3⟩
   ·--dup 4
    have fY:=nD (fun h=>a1 (by rw [h.1,av]));refine dA O (dU [xP (ay (A4) 1),xS (AR) (N) (cR),xI ((q:Int)),xP (ay (AR) ((q:Int)).toNat),xI (gi (R) ((q:Int))),xI ((r:Int)),xB (decide ((gi (R) ((q:Int)))=((r:Int)))),xB (false),xU,xU,xU,xU,xB (false),xB (false),xU,xU,xU,xU,xU,xU,xU,xU,xU,xU,xU,xU,xU,xU,xU,xB (false)] O (eG O) ?_ ?_)
    ·exact⟨fun _ _ hb _ _=>aV (uW.below hb) O Az,fun _ _ hb _ _=>bj (uW.below hb) O Az,Dr O,fun _ _ hb _ _=>aD (lZ.aq hb).2 O Az,fun _ _ hb _ _=>aY (lZ.aq hb) O Az,Dr O,Dr O,fun _ _ _ _ _=>Dk O (by exact aE Value.bool (cT a1)),Dr O,Dr O,Dr O,Dr O,Dr O,fun _ _ _ _ _=>Dk O (by exact aE Value.bool (O)),Dr O,Dr O,Dr O,Dr O,Dr O,Dr O,Dr O,Dr O,Dr O,Dr O,Dr O,Dr O,Dr O,Dr O,Dr O,Dr O,au⟩
    intro u w3 gI _;refine eS O (Cd.fg O ?_);refine aA O (aI O (aT O (tQ ?_)));exact⟨(q+1,A,c,rs),by show N - (q+1)<N - q;omega,⟨O,O,aE (fun m:ah=>Value.slice A (cap m).length c) fY.symm,O,O,O,au⟩,by show q+1<=N;omega,by show rs.length=(cap _).length;rw [fY];exact dL,by show St w0 w3 (aS _ _ A (cap _).length c rs (cap _)++_);rw [fY];exact hS.aq gI⟩
   ·have fY:=nD (fun h=>by have:=JF.2 h.2.1;rw [a2]at this;cases this);refine dA O (dU [xP (ay (A4) 1),xS (AR) (N) (cR),xI ((q:Int)),xP (ay (AR) ((q:Int)).toNat),xI (gi (R) ((q:Int))),xI ((r:Int)),xB (decide ((gi (R) ((q:Int)))=((r:Int)))),xB (true),xS (Aa) (N) (N),xI ((q:Int)),xP (ay (Aa) ((q:Int)).toNat),xB (gb (La) ((q:Int))),xB (gb (La) ((q:Int))),xB (false),xU,xU,xU,xU,xU,xU,xU,xU,xU,xU,xU,xU,xU,xU,xU,xB (false)] O (eG O) ?_ ?_)
    ·exact⟨fun _ _ hb _ _=>aV (uW.below hb) O Az,fun _ _ hb _ _=>bj (uW.below hb) O Az,Dr O,fun _ _ hb _ _=>aD (lZ.aq hb).2 O Az,fun _ _ hb _ _=>aY (lZ.aq hb) O Az,Dr O,Dr O,fun _ _ _ _ _=>Dk O (by exact aE Value.bool (dz a1)),Dr O,Dr O,fun _ _ hb _ _=>aw O (aD (DX.aq hb).2 O Az),fun _ _ hb _ _=>aw O (sM (DX.aq hb) O am O O Az),Dr O,fun _ _ _ _ _=>Dk O (by exact aE Value.bool (a2)),Dr O,Dr O,Dr O,Dr O,Dr O,Dr O,Dr O,Dr O,Dr O,Dr O,Dr O,Dr O,Dr O,Dr O,Dr O,Dr O,au⟩
    intro u w3 gI _;refine eS O (Cd.fg O ?_);refine aA O (aI O (aT O (tQ ?_)));exact⟨(q+1,A,c,rs),by show N - (q+1)<N - q;omega,⟨O,O,aE (fun m:ah=>Value.slice A (cap m).length c) fY.symm,O,O,O,au⟩,by show q+1<=N;omega,by show rs.length=(cap _).length;rw [fY];exact dL,by show St w0 w3 (aS _ _ A (cap _).length c rs (cap _)++_);rw [fY];exact hS.aq gI⟩
   ·have kr:gi R q=(st.length:Int)/\eh n R B q/\(st.length=0\/gi st ((st.length:Int) - 1)∈gl B q):=⟨am,JF.1 a2,.inl am⟩;refine dA O (dU [xP (ay (A4) 1),xS (AR) (N) (cR),xI ((q:Int)),xP (ay (AR) ((q:Int)).toNat),xI (gi (R) ((q:Int))),xI ((r:Int)),xB (decide ((gi (R) ((q:Int)))=((r:Int)))),xB (true),xS (Aa) (N) (N),xI ((q:Int)),xP (ay (Aa) ((q:Int)).toNat),xB (gb (La) ((q:Int))),xB (gb (La) ((q:Int))),xB (true),xI ((r:Int)),xB (decide (((r:Int))=((0:Int)))),xB (true),xU,xU,xU,xU,xU,xU,xU,xU,xU,xU,xU,xB (true),xB (true)] O (eG O) ?_ ?_)
    ·exact⟨fun _ _ hb _ _=>aV (uW.below hb) O Az,fun _ _ hb _ _=>bj (uW.below hb) O Az,Dr O,fun _ _ hb _ _=>aD (lZ.aq hb).2 O Az,fun _ _ hb _ _=>aY (lZ.aq hb) O Az,Dr O,Dr O,fun _ _ _ _ _=>Dk O (by exact aE Value.bool (dz a1)),Dr O,Dr O,fun _ _ hb _ _=>aw O (aD (DX.aq hb).2 O Az),fun _ _ hb _ _=>aw O (sM (DX.aq hb) O am O O Az),Dr O,fun _ _ _ _ _=>Dk O (by exact aE Value.bool (a2)),Dr O,Dr O,fun _ _ _ _ _=>Dk O (by exact aE Value.bool (dz a3)),Dr O,Dr O,Dr O,Dr O,Dr O,Dr O,Dr O,Dr O,Dr O,Dr O,Dr O,Dr O,Dr O,au⟩
    intro u w3 gI _;have hS:=hS.aq gI;refine eS O (Cd.gu O ?_);have GA:=iS;rw [aB kr]at GA;have MW:F++ ((nh n R B st (q+1)).flatMap fun e=>gk n R B k (st++ [e]))=G++gk n R B k (st++ [(q:Int)]):=by
     rw [GA,List.flatMap_append,<-gV,hG];simp
    have Nt:=Ce (gk n R B k (st++ [(q:Int)]));have Om:∀x∈st++ [(q:Int)],0<=x/\x< (N:Int):=fun x hx=>by
     rcases jd.1 hx with h | h
     ·exact AH x h
     ·obtain rfl:=gj.1 h;omega
    generalize hH:cap G=H at*;refine kK [6,8] [.ex (.agg #[ak n,.slice AR N cR,.slice AD N cD]),yS (Aa) (N) (N),yS (As) (r) (cs),.pr (fun v w'=>∃A9 c9,v= .slice A9 r c9/\St w0 w' (ax 2 A9 r c9 st::(aS 34 2 A H.length c rs H++ (bJ A4 n AR N cR AD N cD::ax 2 As r cs st::gh)))),yI ((q:Int)),.pr (fun v w'=>∃A9,v= .slice A9 1 1/\cL w' A9 1 [(q:Int)]),.pr (fun v w'=>∃AZ cZ,v= .slice AZ (r+1) cZ/\St w0 w' (ax 2 AZ (r+1) cZ (st++ [(q:Int)])::(aS 34 2 A H.length c rs H++ (bJ A4 n AR N cR AD N cD::ax 2 As r cs st::gh)))),yS (A) (H.length) (c),.pr (fun v w'=>∃A' c' rs',v= .slice A' (cap (G++gk n R B k (st++ [(q:Int)]))).length c'/\rs'.length=(cap (G++gk n R B k (st++ [(q:Int)]))).length/\St w0 w' (aS 34 2 A' (cap (G++gk n R B k (st++ [(q:Int)]))).length c' rs' (cap (G++gk n R B k (st++ [(q:Int)])))++ (bJ A4 n AR N cR AD N cD::ax 2 As r cs st::gh))),.pr (fun v w'=>∃A' c' rs',v= .slice A' (cap (G++gk n R B k (st++ [(q:Int)]))).length c'/\rs'.length=(cap (G++gk n R B k (st++ [(q:Int)]))).length/\St w0 w' (aS 34 2 A' (cap (G++gk n R B k (st++ [(q:Int)]))).length c' rs' (cap (G++gk n R B k (st++ [(q:Int)])))++ (bJ A4 n AR N cR AD N cD::ax 2 As r cs st::gh)))] (ly (ly (ly (cH.2 ⟨Ye.cJ (fun v w w' h hb=>by obtain⟨A9,c9,hv,hT⟩:=h;exact⟨A9,c9,hv,hT.aq hb⟩),(ly (cH.2 ⟨Ye.cJ (fun v w w' h hb=>by obtain⟨A9,hv,hT⟩:=h;exact⟨A9,hv,hT.aq hb⟩),(cH.2 ⟨Ye.cJ (fun v w w' h hb=>by obtain⟨AZ,cZ,hv,hT⟩:=h;exact⟨AZ,cZ,hv,hT.aq hb⟩),(ly (cH.2 ⟨Ye.cJ (fun v w w' h hb=>by obtain⟨A',c',rs',hv,fP,hT⟩:=h;exact⟨A',c',rs',hv,fP,hT.aq hb⟩),(cH.2 ⟨Ye.cJ (fun v w w' h hb=>by obtain⟨A',c',rs',hv,fP,hT⟩:=h;exact⟨A',c',rs',hv,fP,hT.aq hb⟩),(fun _ h=>by cases h)⟩)⟩))⟩)⟩))⟩)))) ?_ ?_
    ·refine⟨?_,bZ O,bZ O,?_,bZ O,?_,?_,?_,?_,?_,au⟩
     ·intro e1 w1 cc fo dv fL hp aU hq;show ao _ _ _ _ _ _ _;have hX:Rd w1 A4 3 (fun q=> [Value.int .i64 (n:Int),.slice AR N cR,.slice AD N cD].getD q undef):=by { have dv:=qZ dv (b:=1) (by kernel_rfl);rcases(show cc=0\/cc=1 by omega)with h | h; { exact Rd.below (ql hS) (fL h) }; { subst h;obtain⟨AZ,cZ,_,hT⟩:=hq 6 _ _ (by kernel_rfl) (by kernel_rfl) (by kernel_rfl) rfl rfl (by kernel_rfl);exact ql hT.tail } }
      refine ao.cN 2 hX O O O (ao.n (iz O (by exact O)))
     ·refine cP fun e1 w1 hb hp aU hq=>?_
      refine aL (Kl As r cs st _ (tf (hS.aq hb)) am) O ?_;rintro _ w9 ⟨A9,c9,rfl,jN⟩;exact ao.n (fM.dn O jN.below ⟨A9,c9,O,(hS.aq hb).call jN⟩)
     ·intro e1 w1 cc fo dv fL hp aU hq;show ao _ _ _ _ _ _ _;exact eL (St.refl _) O O O fun A9 w9 jN=>ao.n (fM.dn O jN.below ⟨A9,O,jN.bz 0 O⟩)
     ·refine kO fun e1 w1 hb hp aU hq=>?_
      obtain⟨A8,c8,MN,hT⟩:=(hp 3 _ _ (by kernel_rfl) rfl rfl (by kernel_rfl));obtain⟨A9,F0,qO⟩:=(hp 5 _ _ (by kernel_rfl) rfl rfl (by kernel_rfl));refine fu 0 hT O qO (by exact MN) (by exact F0) O ?_;intro AZ cZ wZ hZ;exact ao.n (gn.dn O ⟨AZ,cZ,O,hZ⟩)
     ·intro e1 w1 cc fo dv fL hp aU hq;show ao _ _ _ _ _ _ _;refine lM O (by exact aU 9 _ O (by kernel_rfl)) O (ao.n (iz O (by exact O)))
     ·refine sS 1 fun e1 w1 hp aU hq=>?_
      have fh:=hp 6 _ _ (by kernel_rfl) O O (by kernel_rfl);obtain⟨AZ,cZ,DV,hT⟩:=(hp 6 _ _ (by kernel_rfl) rfl rfl (by kernel_rfl));refine aqm (ih (r+1) (st++ [(q:Int)]) AZ cZ (bJ A4 n AR N cR AD N cD::ax 2 As r cs st::gh) _ A c rs H am (by rw [ck,av];rfl) Om (rB _ (rB _ I2)) dL am hT) O (by exact aE (fun v=> [Value.agg #[ak n,.slice AR N cR,.slice AD N cD],.slice Aa N N,v,.slice A H.length c]) DV) O ?_;rintro _ w9 ⟨A',c',rs',rfl,fP,rR⟩;rw [Nt]at fP rR|-;exact ao.n (gn.dn O ⟨A',c',rs',O,fP,rR⟩)
     ·refine dP 2 fun e1 w1 hp aU hq=>?_
      have fh:=hp 8 _ _ (by kernel_rfl) O O (by kernel_rfl);obtain⟨A',c',rs',MO,fP,hT⟩:=(hp 8 _ _ (by kernel_rfl) rfl rfl (by kernel_rfl));refine lM O (by exact MO) O (ao.n ?_);exact fM.dn O (Below.refl _ _) ⟨A',c',rs',O,fP,hT⟩
    intro u4 w4 _ Ov _ _;obtain⟨A',c',rs',xC,fP,hT⟩:=Ov 9 _ rfl (by kernel_rfl);rw [<-MW]at xC fP hT;refine Hi (F:=[(1,.slice Aa N N),(2,.slice As r cs),(3,.slice A' (cap (F++ ((nh n R B st (q+1)).flatMap fun e=>gk n R B k (st++ [e])))).length c'),(4,.pointer A4),(9,ak r),(10,ak q)]) ⟨O,O,xC,O,O,O,au⟩ (jD O (aI O (aT O (tQ ?_))));exact⟨(q+1,A',c',rs'),by show N - (q+1)<N - q;omega,(aqv O),by show q+1<=N;omega,fP,hT⟩
   ·refine dA O ?_;refine dU [xP (ay (A4) 1),xS (AR) (N) (cR),xI ((q:Int)),xP (ay (AR) ((q:Int)).toNat),xI (gi (R) ((q:Int))),xI ((r:Int)),xB (decide ((gi (R) ((q:Int)))=((r:Int)))),xB (true),xS (Aa) (N) (N),xI ((q:Int)),xP (ay (Aa) ((q:Int)).toNat),xB (gb (La) ((q:Int))),xB (gb (La) ((q:Int))),xB (true),xI ((r:Int)),xB (decide (((r:Int))=((0:Int)))),xB (false),xP (ay (A4) 2),xS (AD) (N) (cD),xI ((q:Int)),xP (ay (AD) ((q:Int)).toNat),xS ((rg (KM) ((q:Int))).a) ((rg (KM) ((q:Int))).n) ((rg (KM) ((q:Int))).c),xS (As) (r) (cs),xI ((r:Int)),xI (((r:Int)) - ((1:Int))),xP (ay (As) (((r:Int)) - ((1:Int))).toNat),xI (gi (st) (((r:Int)) - ((1:Int)))),xB (decide (gi st ((r:Int) - 1)∈gl B q)),xB (decide (gi st ((r:Int) - 1)∈gl B q)),xB (decide (gi st ((r:Int) - 1)∈gl B q))] O (eG O) ?_ ?_
    ·refine⟨fun _ _ hb _ _=>aV (uW.below hb) O Az,fun _ _ hb _ _=>bj (uW.below hb) O Az,Dr O,fun _ _ hb _ _=>aD (lZ.aq hb).2 O Az,fun _ _ hb _ _=>aY (lZ.aq hb) O Az,Dr O,Dr O,fun _ _ _ _ _=>Dk O (by exact aE Value.bool (dz a1)),Dr O,Dr O,fun _ _ hb _ _=>aw O (aD (DX.aq hb).2 O Az),fun _ _ hb _ _=>aw O (sM (DX.aq hb) O am O O Az),Dr O,fun _ _ _ _ _=>Dk O (by exact aE Value.bool (a2)),Dr O,Dr O,fun _ _ _ _ _=>Dk O (by exact aE Value.bool (cT a3)),fun _ _ hb _ _=>aw O (aV (uW.below hb) O Az),fun _ _ hb _ _=>aw O (bj (uW.below hb) O Az),Dr O,fun _ _ hb _ _=>aw O (aD (tW.top.aq hb).2 O Az),fun _ _ hb _ _=>aw O (b9 (tW.top.aq hb) O Az),Dr O,Dr O,fun _ _ _ _ _=>aw O (dZ O Az),fun _ _ hb _ _=>aw O (aD (lE.aq hb).2 O Az),fun _ _ hb _ _=>aw O (aY (lE.aq hb) O Az),?_,Dr O,Dr O,au⟩
     ·intro e1 w1 hb hp aU;refine aw O (aL (Kk _ _ _ _ _ _ (VA.aq hb) am) O ?_);rintro _ w2 ⟨rfl,av⟩;subst av;refine ao.n (d0 (by exact O))
    intro u w3 gI _;have hS:=hS.aq gI;refine eS O (aM _ O (fun h5=>?_) (fun h5=>?_))
    ·have kr:gi R q=(st.length:Int)/\eh n R B q/\(st.length=0\/gi st ((st.length:Int) - 1)∈gl B q):=⟨am,JF.1 a2,.inr (by rw [av];exact h5)⟩;have GA:=iS;rw [aB kr]at GA;have MW:F++ ((nh n R B st (q+1)).flatMap fun e=>gk n R B k (st++ [e]))=G++gk n R B k (st++ [(q:Int)]):=by
      rw [GA,List.flatMap_append,<-gV,hG];simp
     have Nt:=Ce (gk n R B k (st++ [(q:Int)]));have Om:∀x∈st++ [(q:Int)],0<=x/\x< (N:Int):=fun x hx=>by
      rcases jd.1 hx with h | h
      ·exact AH x h
      ·obtain rfl:=gj.1 h;omega
     generalize hH:cap G=H at*;refine kK [6,8] [.ex (.agg #[ak n,.slice AR N cR,.slice AD N cD]),yS (Aa) (N) (N),yS (As) (r) (cs),.pr (fun v w'=>∃A9 c9,v= .slice A9 r c9/\St w0 w' (ax 2 A9 r c9 st::(aS 34 2 A H.length c rs H++ (bJ A4 n AR N cR AD N cD::ax 2 As r cs st::gh)))),yI ((q:Int)),.pr (fun v w'=>∃A9,v= .slice A9 1 1/\cL w' A9 1 [(q:Int)]),.pr (fun v w'=>∃AZ cZ,v= .slice AZ (r+1) cZ/\St w0 w' (ax 2 AZ (r+1) cZ (st++ [(q:Int)])::(aS 34 2 A H.length c rs H++ (bJ A4 n AR N cR AD N cD::ax 2 As r cs st::gh)))),yS (A) (H.length) (c),.pr (fun v w'=>∃A' c' rs',v= .slice A' (cap (G++gk n R B k (st++ [(q:Int)]))).length c'/\rs'.length=(cap (G++gk n R B k (st++ [(q:Int)]))).length/\St w0 w' (aS 34 2 A' (cap (G++gk n R B k (st++ [(q:Int)]))).length c' rs' (cap (G++gk n R B k (st++ [(q:Int)])))++ (bJ A4 n AR N cR AD N cD::ax 2 As r cs st::gh))),.pr (fun v w'=>∃A' c' rs',v= .slice A' (cap (G++gk n R B k (st++ [(q:Int)]))).length c'/\rs'.length=(cap (G++gk n R B k (st++ [(q:Int)]))).length/\St w0 w' (aS 34 2 A' (cap (G++gk n R B k (st++ [(q:Int)]))).length c' rs' (cap (G++gk n R B k (st++ [(q:Int)])))++ (bJ A4 n AR N cR AD N cD::ax 2 As r cs st::gh)))] (ly (ly (ly (cH.2 ⟨Ye.cJ (fun v w w' h hb=>by obtain⟨A9,c9,hv,hT⟩:=h;exact⟨A9,c9,hv,hT.aq hb⟩),(ly (cH.2 ⟨Ye.cJ (fun v w w' h hb=>by obtain⟨A9,hv,hT⟩:=h;exact⟨A9,hv,hT.aq hb⟩),(cH.2 ⟨Ye.cJ (fun v w w' h hb=>by obtain⟨AZ,cZ,hv,hT⟩:=h;exact⟨AZ,cZ,hv,hT.aq hb⟩),(ly (cH.2 ⟨Ye.cJ (fun v w w' h hb=>by obtain⟨A',c',rs',hv,fP,hT⟩:=h;exact⟨A',c',rs',hv,fP,hT.aq hb⟩),(cH.2 ⟨Ye.cJ (fun v w w' h hb=>by obtain⟨A',c',rs',hv,fP,hT⟩:=h;exact⟨A',c',rs',hv,fP,hT.aq hb⟩),(fun _ h=>by cases h)⟩)⟩))⟩)⟩))⟩)))) ?_ ?_
     ·refine⟨?_,bZ O,bZ O,?_,bZ O,?_,?_,?_,?_,?_,au⟩
      ·intro e1 w1 cc fo dv fL hp aU hq;show ao _ _ _ _ _ _ _;have hX:Rd w1 A4 3 (fun q=> [Value.int .i64 (n:Int),.slice AR N cR,.slice AD N cD].getD q undef):=by { have dv:=qZ dv (b:=1) (by kernel_rfl);rcases(show cc=0\/cc=1 by omega)with h | h; { exact Rd.below (ql hS) (fL h) }; { subst h;obtain⟨AZ,cZ,_,hT⟩:=hq 6 _ _ (by kernel_rfl) (by kernel_rfl) (by kernel_rfl) rfl rfl (by kernel_rfl);exact ql hT.tail } }
       refine ao.cN 2 hX O O O (ao.n (iz O (by exact O)))
      ·refine cP fun e1 w1 hb hp aU hq=>?_
       refine aL (Kl As r cs st _ (tf (hS.aq hb)) am) O ?_;rintro _ w9 ⟨A9,c9,rfl,jN⟩;exact ao.n (fM.dn O jN.below ⟨A9,c9,O,(hS.aq hb).call jN⟩)
      ·intro e1 w1 cc fo dv fL hp aU hq;show ao _ _ _ _ _ _ _;exact eL (St.refl _) O O O fun A9 w9 jN=>ao.n (fM.dn O jN.below ⟨A9,O,jN.bz 0 O⟩)
      ·refine kO fun e1 w1 hb hp aU hq=>?_
       obtain⟨A8,c8,MN,hT⟩:=(hp 3 _ _ (by kernel_rfl) rfl rfl (by kernel_rfl));obtain⟨A9,F0,qO⟩:=(hp 5 _ _ (by kernel_rfl) rfl rfl (by kernel_rfl));refine fu 0 hT O qO (by exact MN) (by exact F0) O ?_;intro AZ cZ wZ hZ;exact ao.n (gn.dn O ⟨AZ,cZ,O,hZ⟩)
      ·intro e1 w1 cc fo dv fL hp aU hq;show ao _ _ _ _ _ _ _;refine lM O (by exact aU 9 _ O (by kernel_rfl)) O (ao.n (iz O (by exact O)))
      ·refine sS 1 fun e1 w1 hp aU hq=>?_
       have fh:=hp 6 _ _ (by kernel_rfl) O O (by kernel_rfl);obtain⟨AZ,cZ,DV,hT⟩:=(hp 6 _ _ (by kernel_rfl) rfl rfl (by kernel_rfl));refine aqm (ih (r+1) (st++ [(q:Int)]) AZ cZ (bJ A4 n AR N cR AD N cD::ax 2 As r cs st::gh) _ A c rs H am (by rw [ck,av];rfl) Om (rB _ (rB _ I2)) dL am hT) O (by exact aE (fun v=> [Value.agg #[ak n,.slice AR N cR,.slice AD N cD],.slice Aa N N,v,.slice A H.length c]) DV) O ?_;rintro _ w9 ⟨A',c',rs',rfl,fP,rR⟩;rw [Nt]at fP rR|-;exact ao.n (gn.dn O ⟨A',c',rs',O,fP,rR⟩)
      ·refine dP 2 fun e1 w1 hp aU hq=>?_
       have fh:=hp 8 _ _ (by kernel_rfl) O O (by kernel_rfl);obtain⟨A',c',rs',MO,fP,hT⟩:=(hp 8 _ _ (by kernel_rfl) rfl rfl (by kernel_rfl));refine lM O (by exact MO) O (ao.n ?_);exact fM.dn O (Below.refl _ _) ⟨A',c',rs',O,fP,hT⟩
     intro u4 w4 _ Ov _ _;obtain⟨A',c',rs',xC,fP,hT⟩:=Ov 9 _ rfl (by kernel_rfl);rw [<-MW]at xC fP hT;refine Hi (F:=[(1,.slice Aa N N),(2,.slice As r cs),(3,.slice A' (cap (F++ ((nh n R B st (q+1)).flatMap fun e=>gk n R B k (st++ [e])))).length c'),(4,.pointer A4),(9,ak r),(10,ak q)]) ⟨O,O,xC,O,O,O,au⟩ (jD O (aI O (aT O (tQ ?_))));exact⟨(q+1,A',c',rs'),by show N - (q+1)<N - q;omega,(aqv O),by show q+1<=N;omega,fP,hT⟩
    ·have fY:=nD (fun h=>by rcases h.2.2 with h6 | h6; { omega }; { rw [av]at h6;exact h5 h6 });refine aA O (aI O (aT O (tQ ?_)));exact⟨(q+1,A,c,rs),by show N - (q+1)<N - q;omega,⟨O,O,aE (fun m:ah=>Value.slice A (cap m).length c) fY.symm,O,O,O,au⟩,by show q+1<=N;omega,by show rs.length=(cap _).length;rw [fY];exact dL,by show St w0 w3 (aS _ _ A (cap _).length c rs (cap _)++_);rw [fY];exact hS⟩
  ·have AA:q=N:=by omega
   subst AA;have oc:F++gk n R B (k+1) st=G:=by rw [<-hG,gk,hN]
   refine bp O (bt (gw O ?_));refine gJ O ?_;rw [oc];exact⟨A,c,rs,O,dL,hS.sub ((lJ _).append (((lJ gh).cons _).cons _))⟩
theorem St.merge{w0 w:aa}{ks pP:List Ck}(h:St w0 w ks)(h':St w0 w pP)(hk:∀k∈ks,eU k.vs=false)(eI:∀k∈pP,eU k.vs=false)(he:∀k∈ks,∀k'∈pP,k.e≠k'.e):St w0 w (ks++pP):=by
 refine⟨h.below,fun k hm=>?_,?_⟩
 ·rcases jd.1 hm with hm | hm
  ·exact h.own k hm
  exact h'.own k hm
 rw [List.filterMap_append,List.nodup_append];refine⟨h.apart,h'.apart,fun a ha b hb=>?_⟩;rintro rfl;obtain⟨k,hm,NU⟩:=List.mem_filterMap.1 ha;obtain⟨k',jj,qp⟩:=List.mem_filterMap.1 hb;have one:∀ {q:Ck},Dj w0.heap.size w q->q.ij=some a->∃cur,w.heap[a]?=some (.cells cur q.e (0,0)):=fun {q} ho hq=>by
  obtain⟨_,_,_,⟨h1,_⟩ | ⟨g,o,cur,h1,_,h2,_⟩⟩:=ho
  ·unfold Ck.ij at hq;rw [h1]at hq;cases hq
  unfold Ck.ij at hq;rw [h1]at hq;obtain rfl:g=a:=dG hq;exact⟨cur,h2⟩
 obtain⟨c1,e1⟩:=one ((h.own k hm).QA (hk k hm)) NU;obtain⟨c2,e2⟩:=one ((h'.own k' jj).QA (eI k' jj)) qp;rw [e1]at e2;injection e2 with e2
 injection e2 with _ e2 _
 exact he k hm k' jj e2
theorem Qe{t:ae}:∀ {rs:List aO} {xss:ah},∀k∈da t rs xss,eU k.vs=false/\k.e=t
 | [],_,k,h=>by simp [da]at h
 | _::_,[],k,h=>by simp [da]at h
 | r::rs,x::xss,k,h=>by
  simp only [da,iX]at h;rcases h with rfl | h
  ·exact⟨uk _,O⟩
  ·exact Qe k h
theorem ajf{t1 t2:ae}{A:aj}{n c:Nat}{rs:List aO}{xss:ah}:∀k∈aS t1 t2 A n c rs xss++ [],eU k.vs=false/\(k.e=t1\/k.e=t2):=fun k h=>by
 rw [fI]at h;rcases iX.1 h with rfl | h
 ·exact⟨yX _,.inl O⟩
 exact⟨(Qe k h).1,.inr (Qe k h).2⟩
def E8(L:ai)(w:aa)(v:ad)(w':aa):Prop:=∃A' c',v= .slice A' L.length c'/\St w w' [ax 2 A' L.length c' L]
theorem E0{xs:ai}{j:Nat}(h:j<xs.length):xs.take (j+1)=xs.take j++ [gi xs j]:=by
 rw [nM h,bV h]
theorem ahz(n:Int)(A D:aj)(cA N m cD:Nat)(Af:aj)(nf cf:Nat)(rs:List aO)(fl:ah)(w:aa)(hF:bF w Af nf rs fl)(hN:N<=500)(hr:∀l∈fl,l.length<=1000/\∀x∈l,0<=x/\x< (N:Int))(yM:nf<=100000):
 aJ prog 167 [.agg #[ak n,.slice A N cA,.slice D m cD],.slice Af nf cf] w (fun v w'=>∃b:Bool,v= .bool b/\(b=true↔∀x:Int,0<=x->x< (N:Int)->∃l∈fl,x∈l)/\St w w' []):=by
 have kc:=hF.len;refine bC func167 O ntmps167 O (df O) (bh O (oG (St.refl w) O O ?_));intro A1 w1 aH;have h1:Rd w1 A1 3 (fun j=> [Value.int .i64 n,.slice A N cA,.slice D m cD].getD j undef):=aH.rd 0 O;refine ar O (aV h1 O (bj h1 O (a8 O O (zD (v:=false) N aH O O am ?_))));intro A5 w2 aF;have aF:St w w2 [gK 4 A5 N N (pc (vr N) (fl.take 0).flatten),bJ A1 n A N cA D m cD]:=aF;refine ar O (a8 O O (aC O ?_));refine Cd.loop (α:=Nat) (fun i=> [(2,.pointer A1),(5,.slice A5 N N),(14,.slice Af nf cf),(15,ak nf),(16,ak i)]) (fun i w'=>i<=nf/\St w w' [gK 4 A5 N N (pc (vr N) (fl.take i).flatten),bJ A1 n A N cA D m cD]) (fun i=>nf - i) 0 (aqv O) ⟨bg _,aF⟩ ?_;clear aF aH h1;rintro i e w3 ⟨hi,hS⟩;refine bL O (aM _ O (fun h2=>?_) (fun h2=>?_))
 ·have NO:i<fl.length:=by omega
  have hM:=hS.b7 hF;have iL:=hM.at_ (i:=(i:Int)) am am;have jk:=iL.1;have lC:gl fl i∈fl:=by rw [bR NO];exact dK _
  have gm:=hr _ lC;refine aA O (aD hM.top.2 O (b9 hM.top O ?_));refine ar O (a8 O O (aC O ?_));refine Cd.loop (α:=Nat) (fun j=> [(2,.pointer A1),(5,.slice A5 N N),(14,.slice Af nf cf),(15,ak nf),(16,ak i),(20,.slice (rg rs i).a (rg rs i).n (rg rs i).c),(21,ak ((rg rs i).n:Int)),(22,ak j)]) (fun j w'=>j<=(rg rs i).n/\St w w' [gK 4 A5 N N (pc (vr N) ((fl.take i).flatten++ (gl fl i).take j)),bJ A1 n A N cA D m cD]) (fun j=> (rg rs i).n - j) 0 (aqv O) ⟨bg _,by rw [List.take_zero,fI];exact hS⟩ ?_;clear iL hM hS;rintro j e w4 ⟨hj,hS⟩;refine bL O (aM _ O (fun h3=>?_) (fun h3=>?_))
  ·have mn:j< (gl fl i).length:=by omega
   have iL:=(hS.b7 hF).at_ (i:=(i:Int)) am am;have hx:=gm.2 _ (gi_in mn);have mq:=Xp N ((fl.take i).flatten++ (gl fl i).take j);refine aA O (aD iL.2 O (aY iL O (ar O (aD (hS.jA 0 O).2 O (uK 0 hS O O O am ?_)))));intro w5 ba;have ba:St w w5 [gK 4 A5 N N (pc (vr N) ((fl.take i).flatten++ (gl fl i).take (j+1))),bJ A1 n A N cA D m cD]:=by
    rw [E0 mn,<-gV,ale];exact ba
   refine ar O (aI O (aT O (tQ ?_)));exact⟨j+1,by show(rg rs i).n - (j+1)< (rg rs i).n - j;omega,(aqv O),am,ba⟩
  rw [show(gl fl i).take j=gl fl i from iY (by omega)]at hS;refine bp O (bt (cS O (aI O (aT O (tQ ?_)))));refine⟨i+1,by show nf - (i+1)<nf - i;omega,(aqv O),am,?_⟩;rw [nM NO,List.flatten_append,<-bR NO];simpa using hS
 have cI:i=fl.length:=by omega
 rw [cI,List.take_length]at hS;have af6:=aks (m:=N) (F:=fl) (fun l hl=> (hr l hl).2);refine bp O (bt (cS O ?_));refine aL (Zl A5 N N _ false _ (hS.jA 0 O) am) O ?_;rintro _ _ ⟨rfl,rfl⟩
 first | refine fv rfl rfl ?_ | refine gz rfl rfl ?_
 refine bH O (dq O ?_);refine⟨_,O,?_,hS.none⟩;rw [<-af6];simp
def uQ(a b:ai)(i:Nat):ai:=(List.range a.length).map fun k:Nat=>if i<=k\/gi a k=gi b k then gi a k else -1
theorem xe(a b:ai)(i:Nat):(uQ a b i).length=a.length:=by simp [uQ]
theorem zJ{a b:ai}{i k:Nat}(h:k<a.length):gi (uQ a b i) k=if i<=k\/gi a k=gi b k then gi a k else -1:=by
 rw [bV (by rw [xe];exact h)];simp [uQ]
theorem abr(a b:ai):uQ a b 0=a:=by
 apply jE (xe ..);intro k h1 h2;rw [<-bV h1,<-bV h2,zJ h2,aB (.inl (bg _))]
theorem abt(a b:ai):uQ a b a.length=oL a b:=by
 apply jE (by rw [xe,DG]);intro k h1 h2;have h3:k<a.length:=by rw [xe]at h1;exact h1
 rw [<-bV h1,<-bV h2,zJ h3,DF h3]
 by_cases c:gi a k=gi b k
 ·rw [aB (.inr c),aB c]
 rw [az (by omega),az c]
theorem abu{a b:ai}{i:Nat}:uQ a b (i+1)=if gi a i=gi b i then uQ a b i else(uQ a b i).set i (-1):=by
 by_cases c:gi a i=gi b i
 ·rw [aB c];apply jE (by simp [xe]);intro k h1 h4;have h3:k<a.length:=by rw [xe]at h1;exact h1
  rw [<-bV h1,zJ h3,<-bV h4,zJ h3]
  by_cases e:k=i
  ·subst e;rw [aB (.inr c),aB (.inr c)]
  by_cases e2:i+1<=k\/gi a k=gi b k
  ·rw [aB e2,aB (by omega)]
  rw [az e2,az (by omega)]
 rw [az c];apply jE (by simp [xe]);intro k h1 h2;have h3:k<a.length:=by rw [xe]at h1;exact h1
 have h4:k< (uQ a b i).length:=by rw [xe];exact h3
 rw [<-bV h1,zJ h3,List.getElem_set]
 split
 ·rename_i h;rw [az (fun e=>by subst e;rcases h with h | h<;>first | omega | exact c h),<-bV h4,zJ h3,aB (by omega)]
 rename_i h
 by_cases e:i=k
 ·rw [aB e]
 rw [az e,<-bV h4,zJ h3,az (fun h'=>h (by omega))]
theorem Si(A A2:aj)(n c m c2:Nat)(a b:ai)(w:aa)(hA:cL w A n a)(hB:cL w A2 m b)(hm:n=m)(hn:n<=1000):
 aJ prog 224 [.slice A n c,.slice A2 m c2] w (E8 (oL a b) w):=by
 subst hm;have ha:=hA.1;have hb:=hB.1;refine bC func224 O ntmps224 O (df O) (bh O (aL (HI A n c a w hA am) O ?_));rintro _ w1 ⟨A5,c5,rfl,hS⟩;have hS:St w w1 [ax 2 A5 n c5 (uQ a b 0)]:=by rw [abr];exact hS
 refine ar O (a8 O O (aC O ?_));refine Cd.loop (α:=Nat) (fun i=> [(5,.slice A5 n c5),(10,.slice A2 n c2),(11,ak n),(12,ak i)]) (fun i w'=>i<=n/\St w w' [ax 2 A5 n c5 (uQ a b i)]) (fun i=>n - i) 0 (aqv O) ⟨bg _,hS⟩ ?_;clear hS;rintro i e w2 ⟨hi,hS⟩;have hl:=xe a b i;refine bL O (aM _ O (fun h2=>?_) (fun h2=>?_))
 ·have cI:i<a.length:=by omega
  have iS:=abu (a:=a) (b:=b) (i:=i);have Gh:=zJ (b:=b) (i:=i) cI;rw [aB (.inl (br _))]at Gh;have tW:=hS.gA hB;have h5:=hS.bz 0 O;refine aA O (aD tW.2 O (aY tW O (ar O (aD h5.2 O (aY h5 O (aC O ?_))))));rw [Gh];refine aM _ O (fun h3=>?_) (fun h3=>?_)
  ·rw [az h3]at iS;refine aA O (aD h5.2 O (kN 0 hS O O O am ?_));intro w3 aQ;refine ar O (aI O (aT O (tQ ?_)));exact⟨i+1,by show n - (i+1)<n - i;omega,(aqv O),am,by rw [iS];exact aQ⟩
  rw [aB (jR.1 h3)]at iS;refine aA O (aI O (aT O (tQ ?_)));exact⟨i+1,by show n - (i+1)<n - i;omega,(aqv O),am,by rw [iS];exact hS⟩
 have cI:i=a.length:=by omega
 rw [cI,abt]at hS;have pI:=DG a b;refine bp O (bt (gw O ?_));refine gJ O ?_;exact⟨A5,c5,by rw [pI,ha],by rw [pI,ha];exact hS⟩
def Bd(xs:ai)(x:Int):ai:=(bY xs.length).filter fun e=>decide (gi xs e=x)
theorem ala{xs:ai}{x:Int}{m:Nat}:((bY (m+1)).filter fun e=>decide (gi xs e=x))=if x=gi xs m then((bY m).filter fun e=>decide (gi xs e=x))++ [(m:Int)]else((bY m).filter fun e=>decide (gi xs e=x)):=by
 have:bY (m+1)=bY m++ [(m:Int)]:=by
  unfold bY;rw [jU,iI];rfl
 rw [this,sK]
 by_cases c:gi xs m=x
 ·rw [aB c.symm];simp [c]
 rw [az (fun h=>c h.symm)];simp [c]
theorem ak9(A:aj)(n c:Nat)(xs:ai)(x:Int)(w:aa)(hA:cL w A n xs)(hn:n<=100000):
 aJ prog 219 [.slice A n c,ak x] w (E8 (Bd xs x) w):=by
 have ha:=hA.1;refine bC func219 O ntmps219 O (df O) ?_;refine bh O (a8 O O (aC O ?_));refine Cd.loop (α:=Nat×aj×Nat) (fun z=> [(1,ak x),(5,.slice z.2.1 ((bY z.1).filter fun e=>decide (gi xs e=x)).length z.2.2),(8,.slice A n c),(9,ak n),(10,ak (z.1:Int))]) (fun z w'=>z.1<=n/\St w w' [ax 2 z.2.1 ((bY z.1).filter fun e=>decide (gi xs e=x)).length z.2.2 ((bY z.1).filter fun e=>decide (gi xs e=x))]) (fun z=>n - z.1) (0,none,0) (aqv O) ⟨bg _,(St.refl w).nil _⟩ ?_;rintro⟨i,A5,c5⟩ e w1 ⟨hi,hS⟩;dsimp only at hi hS|-;have kc:((bY i).filter fun e=>decide (gi xs e=x)).length<=100000:=by
  refine mS (sL _ _) ?_;rw [bY,fS,rA];omega
 have iS:=ala (xs:=xs) (x:=x) (m:=i);refine bL O (aM _ O (fun h2=>?_) (fun h2=>?_))
 ·have DW:=hS.gA hA;refine aA O (aD DW.2 O (aY DW O (aC O ?_)));refine aM _ O (fun h3=>?_) (fun h3=>?_)
  ·rw [aB h3]at iS;refine aA O (eL hS O O O ?_);intro A9 w2 aF;refine fu 1 aF O (aF.bz 0 O) O O O ?_;intro AZ cZ w3 aQ;have aQ:=aQ.tail;refine ar O (aI O (aT O (tQ ?_)));refine⟨(i+1,AZ,cZ),by show n - (i+1)<n - i;omega,⟨O,?_,O,O,O,au⟩,by show i+1<=n;omega,?_⟩
   ·show Value.slice _ _ _=_;rw [iS,ck];rfl
   show St w w3 [ax _ _ (((bY (i+1)).filter _).length) _ ((bY (i+1)).filter _)];rw [iS,ck];exact aQ
  rw [az h3]at iS;refine aA O (aI O (aT O (tQ ?_)));refine⟨(i+1,A5,c5),by show n - (i+1)<n - i;omega,⟨O,?_,O,O,O,au⟩,by show i+1<=n;omega,?_⟩
  ·show Value.slice _ _ _=_;rw [iS]
  show St w w1 [ax _ _ (((bY (i+1)).filter _).length) _ ((bY (i+1)).filter _)];rw [iS];exact hS
 have cI:i=xs.length:=by omega
 rw [cI]at hS|-;refine bp O (bt (gw O ?_));exact gJ O ⟨A5,c5,O,hS⟩
def pY(n:Int)(R:ai)(i:Int):ai:=if 0<=i/\i<=n - 1 then Bd R i else [-1]
theorem Pv(P A D:aj)(n:Int)(N cA m cD:Nat)(R:ai)(i:Int)(w:aa)(hP:Rd w P 3 (fun j=> [Value.int .i64 n,.slice A N cA,.slice D m cD].getD j undef))(hR:cL w A N R)(hN:N<=1000)(hn:0<=n/\n<=100):
 aJ prog 223 [.pointer P,ak i] w (E8 (pY n R i) w):=by
 refine bC func223 O ntmps223 O (df O) (bh O ?_);refine lN hP an O O ?_;refine aV hP O (gP (j:=0) hP (by exact aE Value.pointer O) O O O O (dZ O (aL (zv _ _ _ _) O ?_)));rintro _ _ ⟨rfl,rfl⟩
 first | refine fv rfl rfl ?_ | refine gz rfl rfl ?_
 refine aC O (aM _ O (fun h2=>?_) (fun h2=>?_))
 ·refine aA O (eL (i:= -1) (St.refl _) O O O ?_);intro A9 w2 aF;refine bH O (gJ O ?_);unfold E8 pY;rw [az h2];exact⟨A9,1,O,aF⟩
 refine aA O (lN hP an O O (aV hP O (bj hP O (ar O (aL (ak9 A N cA R i _ hR am) O ?_)))));rintro _ w2 ⟨A9,c9,rfl,aF⟩;refine bH O (gJ O ?_);unfold E8 pY;rw [aB (jR.1 h2)];exact⟨A9,c9,O,aF⟩
theorem XO(PB A:aj)(N c n:Nat)(rs:List aO)(fl:ah)(f i:Nat)(w:aa)(hT:lO w)(hb:Rd w PB 1 (fun _=> .slice A N c))(hM:bF w A N rs fl)(hf:f<N)(hN:N<=1000)(hl:(gl fl f).length=n)(hi:i<n)(hn:n<=100)(hr:∀x∈gl fl f,0<=x/\x<=1000000):
 aJ prog 282 [ak f,ak i,.pointer PB] w (fun v w'=>v=y7 (iW (gl fl f) i)/\St w w' []):=by
 have kc:=hM.len;have iL:=hM.at_ (i:=(f:Int)) am am;have jk:=iL.1;refine bC func282 O ntmps282 O (df O) (bh O (aqp (j:=0) hb (by exact aE Value.pointer (jz _).symm) O O O O (ar O (aD hM.top.2 O (b9 hM.top O (aL (HI _ _ _ _ _ iL am) O ?_))))));rintro _ w1 ⟨A6,c6,rfl,hS⟩;refine ar O (aD (hS.bz 0 O).2 O (kN 0 hS O O O am ?_));intro w2 aF;have aF:St w w2 [ax 2 A6 (rg rs f).n c6 (iW (gl fl f) i)]:=aF;refine ar O ?_;refine aqm (CE A6 _ c6 (iW (gl fl f) i) _ (hT.aq aF.below) (aF.bz 0 O) (fun x hx=>by
  rcases List.mem_or_eq_of_mem_set hx with h | h
  ·have:=hr x h;omega
  omega) am) rfl rfl rfl ?_
 rintro _ w3 ⟨rfl,av⟩;refine bH O (PT O ?_);exact⟨O,aF.none.aq av.below⟩
abbrev uy(PB A:aj)(N c:Nat)(fE:aj)(L:ai)(Aa:aj)(ca:Nat)(al:ai)(g:Nat)(M:List nO)(ks:List Ck):List Ck:=
 ax 2 fE N N L::Bx 22 1 PB [.slice A N c]::ax 2 Aa al.length ca al::fN 214 g (eC y7 EJ M)::(qz 2 M++ks)
def pO(Q:List Nat):ai:=Q.map fun x:Nat=> (x:Int)
theorem aho{Q:List Nat}{k:Nat}(h:k<Q.length):gi (pO Q) k=(Q.getD k 0:Nat):=by
 rw [bV (by simp [pO,h])];simp [pO,dm,h]
theorem adp{Q:List Nat}{k y:Nat}(h:k<Q.length):(Q++ [y]).getD k 0=Q.getD k 0:=by
 rw [dm,ma h,<-dm]
theorem ahp{Q:List Nat}{k y:Nat}(h:k<=Q.length):pO ((Q++ [y]).drop k)=pO (Q.drop k)++ [(y:Int)]:=by
 rw [List.drop_append_of_le_length h];simp [pO]
theorem MA{L:ai}{y f:Nat}{z:Nat}(h:0<=gi L z):0<=gi (L.set y (f:Int)) z:=by
 simp only [gi,jq,dm,mR]at h|-
 split
 ·split
  ·simp
  exact Int.le_refl _
 exact h
theorem adr{L:ai}{y f:Nat}(h:y<L.length):gi (L.set y (f:Int)) y=f:=by
 rw [bV (by simpa using h)];simp
theorem akK(A:aj)(N c:Nat)(rs:List aO)(fl:ah)(n:Nat)(A2:aj)(c2:Nat)(cm:ai)(w:aa)(hT:lO w)(hM:bF w A N rs fl)(hC:cL w A2 n cm)(hN:N<=401)(hn:n<=5)(hl:∀x∈fl,x.length=n/\∀e∈x,0<=e/\e<=1000000)(xp:fl.Nodup):
 aJ prog 225 [.slice A N c,.slice A2 n c2] w (fun v w'=>∃A' L,v= .slice A' N N/\kM N (jV n fl cm) N L/\St w w' [ax 2 A' N N L]):=by
 have kc:=hM.len;have de:=hC.1;have Ed:∀f:Nat,f<N->gl fl f∈fl:=fun f hf=>by rw [bR (by omega)];exact dK _
 have wg:∀x∈fl,x.length=n/\∀e∈x,0<=e:=fun x hx=> ⟨(hl x hx).1,fun e he=> ((hl x hx).2 e he).1⟩
 have JN:∀x∈fl,x.length=n:=fun x hx=> (hl x hx).1
 refine bC func225 O ntmps225 O (df O) (bh O ?_);refine ao.box (v:= .slice A N c) (St.refl w) O O (by show(1:Nat)<=maxLen;simp [maxLen]) ?_;intro PB w1 aH;have dE:Rd w1 PB 1 (fun _=> .slice A N c):=Rd.one (aH.rd 0 O);refine ar O (eL (i:= -1) aH O O O ?_);intro HB w2 aF;have dE:Rd w2 PB 1 (fun _=> .slice A N c):=Rd.one (aF.rd 1 O);refine aqp (j:=0) dE (by exact aE Value.pointer (jz _).symm) O O O O (a8 O O (aL (Fx HB 1 (-1) N _ (aF.bz 0 O) am) O ?_));rintro _ w3 ⟨fE,rfl,av⟩;have aQ:=aF.call av;clear av;refine ar O (Dh aQ O ?_);intro g w4 aX;have dE:Rd w4 PB 1 (fun _=> .slice A N c):=Rd.one (aX.rd 3 O);refine ar O (ZW O O (ar O (aqp (j:=0) dE (by exact aE Value.pointer (jz _).symm) O O O O (aL (Hr _ _ _ _) O ?_))));rintro _ w4 ⟨rfl,rfl⟩;have ba:St w w4 [ax 2 none 0 0 [],fN 214 g [],ax 2 fE N N (List.replicate N (-1)),ax 2 HB 1 1 [-1],Bx 22 1 PB [.slice A N c]]:=aX.nil 2;have ba:St w w4 (uy PB A N c fE (List.replicate N (-1)) none 0 (iN n fl cm 0) g [] []):=by
  have h9:=ba.perm (show List.Perm _ (ax 2 HB 1 1 [-1]::uy PB A N c fE (List.replicate N (-1)) none 0 (iN n fl cm 0) g [] []) from by
   classical
   refine jT.2 fun z=>?_
   simp only [uy,qz,List.map_nil,l9,jS,ln,iN,bY,List.range_zero,List.filter_nil,List.length_nil];have:eC y7 EJ ([]:List nO)=[]:=O;rw [this];omega)
  exact h9.tail
 clear aX aQ aF aH dE;refine aC O (Cd.loop (α:=Nat×aj×Nat×List nO) (fun z=> [(1,.slice A2 n c2),(2,.pointer PB),(5,.slice fE N N),(6,.map (some g)),(7,.func (.func 282) #[] #[.pointer PB]),(8,.slice z.2.1 (iN n fl cm z.1).length z.2.2.1),(26,ak N),(27,ak (z.1:Int))]) (fun z w'=>z.1<=N/\jo n fl (zp n fl cm z.1 0) (fun _=>False) (5*z.1) z.2.2.2/\St w w' (uy PB A N c fE (List.replicate N (-1)) z.2.1 z.2.2.1 (iN n fl cm z.1) g z.2.2.2 [])) (fun z=>N - z.1) (0,none,0,[]) (aqv O) ⟨bg _,jo.zero,ba⟩ ?_);clear ba;rintro⟨f,Aa,ca,M⟩ e w5 ⟨hf,iQ,hS⟩;dsimp only at hf iQ hS|-;have dt:(iN n fl cm f).length<=500:=by
  refine mS (sL _ _) ?_;rw [bY,fS,rA];omega
 refine bL O (aM _ O (fun h1=>?_) (fun h1=>?_))
 ·have l4:f<N:=by omega
  have dE:Rd w5 PB 1 (fun _=> .slice A N c):=Rd.one (hS.rd 1 O);have zU:=hS.b7 hM;have iL:=zU.at_ (i:=(f:Int)) am am;have jk:=iL.1;have Cl:=hl _ (Ed f l4);have hnn:(rg rs f).n=n:=by omega
  have Gj:=abv (n:=n) (c:=cm) (x:=gl fl f) de;have D8:=aav (n:=n) (fl:=fl) (c:=cm) (f:=f);refine aA O (aqp (j:=0) dE (by exact aE Value.pointer (jz _).symm) O O O O (ar O (aD zU.top.2 O (b9 zU.top O (aL (Si A2 (rg rs f).a n c2 (rg rs f).n (rg rs f).c cm (gl fl f) _ (hS.gA hC) iL hnn.symm am) O ?_)))));rintro _ w6 ⟨Zd,c35,rfl,av⟩;have bo:=hS.aq av.below;have TM:=bo.gA hC;have TH:=av.bz 0 O;clear av hS dE zU iL;refine ar O ?_;refine aL (Zq Zd _ c35 (oL cm (gl fl f)) A2 n c2 cm _ TH TM (by rw [DG];omega)) O ?_;rintro _ w7 ⟨rfl,av⟩;have bK:=bo.aq av.below;clear av bo TH TM
  first | refine fv rfl rfl ?_ | refine gz rfl rfl ?_
  refine aC O (aM _ O (fun h2=>?_) (fun h2=>?_))
  ·have gv:¬kh n cm (gl fl f):=fun h=>h2 (Gj.2 h)
   rw [az gv]at D8;refine aA O (aI O (aT O (tQ ?_)));refine⟨(f+1,Aa,ca,M),by show N - (f+1)<N - f;omega,⟨O,O,O,O,O,?_,O,O,au⟩,by show f+1<=N;omega,(iQ.skip gv).more (by show 5*f<=5* (f+1);omega),?_⟩
   ·show Value.slice _ _ _=_;rw [D8]
   show St w w7 (uy _ _ _ _ _ _ _ _ (iN n fl cm (f+1)) _ _ _);rw [D8];exact bK
  have kr:kh n cm (gl fl f):=Gj.1 (jR.1 h2);rw [aB kr]at D8;refine aA O (eL bK O O O ?_);intro A9 w8 cj;refine fu 3 cj O (cj.bz 0 O) O O O ?_;intro AZ cZ w9 bT;have bT:St w w9 (uy PB A N c fE (List.replicate N (-1)) AZ cZ (iN n fl cm (f+1)) g M []):=by
   have h9:=bT.tail;rw [D8];show St w w9 (_::_::ax _ AZ ((iN n fl cm f++ [(f:Int)]).length) cZ _::_);rw [ck];exact h9
  have afA:(iN n fl cm f).length+1=(iN n fl cm (f+1)).length:=by rw [D8,ck];rfl
  clear cj bK;refine ar O (a8 O O (aC O ?_));refine Cd.loop (α:=Nat×List nO) (fun z=> [(1,.slice A2 n c2),(2,.pointer PB),(5,.slice fE N N),(6,.map (some g)),(7,.func (.func 282) #[] #[.pointer PB]),(8,.slice AZ (iN n fl cm (f+1)).length cZ),(26,ak N),(27,ak f),(9,ak f),(44,ak n),(45,ak (z.1:Int))]) (fun z w'=>z.1<=n/\jo n fl (zp n fl cm f z.1) (fun _=>False) (5*f+z.1) z.2/\St w w' (uy PB A N c fE (List.replicate N (-1)) AZ cZ (iN n fl cm (f+1)) g z.2 [])) (fun z=>n - z.1) (0,M) ⟨O,O,O,O,O,aE (fun m=>Value.slice AZ m cZ) afA,O,O,O,O,O,au⟩ ⟨bg _,iQ,bT⟩ ?_;clear bT iQ;rintro⟨i,M⟩ e dY ⟨hi,iQ,hS⟩;dsimp only at hi iQ hS|-;refine bL O (aM _ O (fun h3=>?_) (fun h3=>?_))
  ·have cI:i<n:=by omega
   refine aA O (aL (XO PB A N c n rs fl f i _ (hT.aq hS.below) (Rd.one (hS.rd 1 O)) (hS.b7 hM) l4 am Cl.1 cI am Cl.2) O ?_);rintro _ eF ⟨rfl,av⟩;have hS:=hS.aq av.below;have hlen:=iQ.len (iW (gl fl f) i);have vi:=iQ.put am cI kr;generalize pH:iW (gl fl f) i=kx at*;have hrx:=(Lo (pre:=[_,_,_,_]) (x:=kx) hS).1;clear av;refine ar O ?_;refine ao.look (v:= .slice (jv M kx).a (jv M kx).n (jv M kx).c) EE (hS.CU 3 rfl) rfl rfl (by unfold jv;cases dS M kx<;>rfl) rfl ?_;refine ar O (eL hS O O O ?_);intro A9 fH dT;have dT:=St.Yw (pre:=[_,_,_,_,_]) (x:=kx) dT;refine fu 0 dT O (dT.bz 1 O) O O O fun AY cY gG ja=>Di O EE 5 (a:=kx) (u:=(⟨AY,(jv M kx).n+1,cY⟩,ka M kx++ [(f:Int)])) ja O O O O ?_;intro mO jK;have iC:=(Rm (M:=M) (x:=kx) (u:=(⟨AY,(jv M kx).n+1,cY⟩,ka M kx++ [(f:Int)])) (pre:=[_,_,_,_,_]) jK).tail;refine ar O (aI O (aT O (tQ ?_)));exact⟨(i+1,fj M kx (⟨AY,(jv M kx).n+1,cY⟩,ka M kx++ [(f:Int)])),by show n - (i+1)<n - i;omega,(aqv O),by show i+1<=n;omega,vi _,iC⟩
  obtain rfl:i=n:=by omega
  refine bp O (bt (cS O (aI O (aT O (tQ ?_)))));exact⟨(f+1,AZ,cZ,M),by show N - (f+1)<N - f;omega,(aqv O),by show f+1<=N;omega,iQ.row.more (by show 5*f+i<=5* (f+1);omega),hS⟩
 obtain rfl:f=N:=by omega
 subst kc;have M5:=Fj n fl cm;have iQ:jo n fl (fun y _=>kh n cm (gl fl y)) (fun y=>0<=gi (List.replicate fl.length (-1:Int)) y) 2005 M:=((iQ.congr fun y i hy hi=> ⟨fun h=>h.1,fun h=> ⟨h,.inl hy⟩⟩).mono fun y _ h=>h.elim).more am;have uX:=aiE (n:=n) (fl:=fl) (c:=cm) (kM.zero fl.length (jV n fl cm));have iS:=fun(L:ai) (j f:Nat) (hj:j< (iN n fl cm fl.length).length) (hf:gi (iN n fl cm fl.length) j=f) h=>aiF (n:=n) (fl:=fl) (c:=cm) (L:=L) hj hf h
 have lC:=fun y:Int=>FB (n:=n) (fl:=fl) (c:=cm) (f:=fl.length) (y:=y)
 generalize iN n fl cm fl.length=al at*;refine bp O (bt (cS O (a8 O O (aC O ?_))));refine Cd.loop (α:=Nat×ai×List nO) (fun z=> [(1,.slice A2 n c2),(2,.pointer PB),(5,.slice fE fl.length fl.length),(6,.map (some g)),(7,.func (.func 282) #[] #[.pointer PB]),(62,.slice Aa al.length ca),(63,ak (al.length:Int)),(64,ak (z.1:Int))]) (fun z w'=>z.1<=al.length/\kM fl.length (jV n fl cm) (qe fl.length al z.1) z.2.1/\jo n fl (fun y _=>kh n cm (gl fl y)) (fun y=>0<=gi z.2.1 y) 2005 z.2.2/\St w w' (uy PB A fl.length c fE z.2.1 Aa ca al g z.2.2 [])) (fun z=>al.length - z.1) (0,List.replicate fl.length (-1),M) (aqv O) ⟨bg _,uX,iQ,hS⟩ ?_;clear hS iQ uX hf h1;rintro⟨j,L0,M⟩ e w6 ⟨hj,uX,iQ,hS⟩;dsimp only at hj uX iQ hS|-;refine bL O (aM _ O (fun h1=>?_) (fun h1=>?_))
 ·have JJ:j<al.length:=by omega
  have UM:=(lC _).1 (gi_in JJ);obtain⟨f,hf⟩:∃f:Nat,gi al j=f:=⟨(gi al j).toNat,am⟩;have qk:qe fl.length al j=f:=by unfold qe;rw [if_pos JJ,hf];rfl
  rw [hf]at UM;rw [qk]at uX;have D2:=uX.1;have hKf:jV n fl cm f f:=⟨UM.2,.refl am⟩;have zX:=hS.bz 0 O;refine aA O (aD (hS.bz 2 O).2 O (aY (hS.bz 2 O) O (ar O ?_)));rw [hf];refine aD zX.2 O (aY zX O (aC O ?_));refine aM _ O (fun h2=>?_) (fun h2=>?_)
  ·refine aA O (aI O (aT O (tQ ?_)));exact⟨(j+1,L0,M),by show al.length - (j+1)<al.length - j;omega,(aqv O),by show j+1<=al.length;omega,iS _ j f JJ hf (uX.skip M5 am (.inl h2)),iQ,hS⟩
  have h0:gi L0 f<0:=by omega
  refine aA O (aD zX.2 O (kN 0 hS O O O am ?_));intro w7 bK;have bK:St w w7 (uy PB A fl.length c fE (L0.set f (f:Int)) Aa ca al g M []):=bK;refine ar O (eL bK O O O ?_);intro Ao w8 cj;have mF:=qH.start (A:=zx n fl cm) D2 (show f<fl.length by omega) h0 hKf;have iQ:=iQ.mono (G':=fun y=>0<=gi (L0.set f (f:Int)) y) fun y _ h=>MA h
  refine aC O (Cd.loop (α:=Nat×ai×List Nat×aj×Nat×List nO) (fun z=> [(1,.slice A2 n c2),(2,.pointer PB),(5,.slice fE fl.length fl.length),(6,.map (some g)),(7,.func (.func 282) #[] #[.pointer PB]),(62,.slice Aa al.length ca),(63,ak (al.length:Int)),(64,ak j),(13,ak f),(14,.slice z.2.2.2.1 (z.2.2.1.length - z.1) z.2.2.2.2.1)]) (fun z w'=>qH fl.length (jV n fl cm) (zx n fl cm) f L0 z.2.1 z.2.2.1 z.1/\jo n fl (fun y _=>kh n cm (gl fl y)) (fun y=>0<=gi z.2.1 y) 2005 z.2.2.2.2.2/\St w w' (ax 2 z.2.2.2.1 (z.2.2.1.length - z.1) z.2.2.2.2.1 (pO (z.2.2.1.drop z.1))::uy PB A fl.length c fE z.2.1 Aa ca al g z.2.2.2.2.2 [])) (fun z=>fl.length+1 - z.1) (0,L0.set f (f:Int),[f],Ao,1,M) (aqv O) ⟨mF,iQ,cj⟩ ?_);clear cj bK hS zX mF iQ;rintro⟨k,L,Q,Ao,co,M⟩ e w9 ⟨mF,iQ,hS⟩;dsimp only at mF iQ hS|-;have JX:=mF.PM;have lB:=mF.OP;refine bh O (a8 O O (aC O ?_));refine aM _ O (fun h3=>?_) (fun h3=>?_)
  ·have qo:k<Q.length:=by omega
   obtain⟨x,hx⟩:∃x,Q.getD k 0=x:=⟨_,rfl⟩;have VV:x∈Q:=by rw [<-hx,dm,fq qo];exact dK _
   have gE:=mF.CB x VV;have hHx:kh n cm (gl fl x):=(gE.2.2.1.of gE.2.2.2);have tn:=hl _ (Ed x gE.1);refine aA O (a8 O O (aC O ?_));refine Cd.loop (α:=Nat×ai×List Nat×aj×Nat×List nO) (fun z=> [(1,.slice A2 n c2),(2,.pointer PB),(5,.slice fE fl.length fl.length),(6,.map (some g)),(7,.func (.func 282) #[] #[.pointer PB]),(62,.slice Aa al.length ca),(63,ak (al.length:Int)),(64,ak j),(13,ak f),(14,.slice z.2.2.2.1 (z.2.2.1.length - k) z.2.2.2.2.1),(85,ak n),(86,ak (z.1:Int))]) (fun z w'=>z.1<=n/\qH fl.length (jV n fl cm) (zx n fl cm) f L0 z.2.1 z.2.2.1 k/\(k<z.2.2.1.length/\z.2.2.1.getD k 0=x)/\jo n fl (fun y _=>kh n cm (gl fl y)) (fun y=>0<=gi z.2.1 y) 2005 z.2.2.2.2.2/\(∀i' y:Nat,i'<z.1->y<fl.length->kh n cm (gl fl y)->iW (gl fl y) i'=iW (gl fl x) i'->0<=gi z.2.1 y)/\St w w' (ax 2 z.2.2.2.1 (z.2.2.1.length - k) z.2.2.2.2.1 (pO (z.2.2.1.drop k))::uy PB A fl.length c fE z.2.1 Aa ca al g z.2.2.2.2.2 [])) (fun z=>n - z.1) (0,L,Q,Ao,co,M) (aqv O) ⟨bg _,mF,⟨qo,hx⟩,iQ,fun i' y h=>absurd h (oF _),hS⟩ ?_;clear hS iQ mF hx VV qo JX lB h3;rintro⟨i,Li,Qi,Ao,co,M⟩ e dY ⟨hi,mF,⟨qo,hx⟩,iQ,pC,hS⟩;dsimp only at hi mF qo hx iQ pC hS|-;refine bL O (aM _ O (fun h4=>?_) (fun h4=>?_))
   ·have cI:i<n:=by omega
    have UR:gi (pO (Qi.drop k)) 0=(x:Int):=by
     have h9:=aho qo;rw [hx]at h9;rw [<-h9];unfold pO;rw [List.map_drop,Tu]
    have xo:(pO (Qi.drop k)).length=Qi.length - k:=by simp [pO]
    have Na:=hS.bz 0 O;refine aA O (aqj (i:=0) Na.2 O O O am am ?_);refine aqk (i:=0) Na O (by show 0<_;omega) O O ?_;refine ar O ?_;rw [UR];refine aL (XO PB A fl.length c n rs fl x i _ (hT.aq hS.below) (Rd.one (hS.rd 2 O)) (hS.b7 hM) gE.1 am tn.1 cI am tn.2) O ?_;rintro _ eF ⟨rfl,av⟩;have hS:=hS.aq av.below;have Gg:=fun y hy=>iQ.adj wg gE.1 cI hHx (y:=y) hy
    have ae1:=iQ.len (iW (gl fl x) i);have Un:=fun(y:Nat) (hy:y<fl.length) (hH:kh n cm (gl fl y)) (he:iW (gl fl y) i=iW (gl fl x) i)=>he▸iQ.al y i hy cI hH
    generalize pH:iW (gl fl x) i=kx at*;clear av Na;obtain⟨sx,VM⟩:∃sx,jv M kx=sx:=⟨_,rfl⟩;obtain⟨ys,yW⟩:∃ys,ka M kx=ys:=⟨_,rfl⟩;have pJ:∀ {w':aa} {Ao:aj} {no co:Nat} {qs:ai} {L:ai},St w w' (ax 2 Ao no co qs::uy PB A fl.length c fE L Aa ca al g M [])->cL w' sx.a sx.n ys:=fun h=>by
     rw [<-VM,<-yW];exact Lo (pre:=[_,_,_,_,_]) (x:=kx) h
    rw [yW]at ae1 Gg Un;have Ey:=(pJ hS).1;refine ar O ?_;refine ao.look (v:= .slice sx.a sx.n sx.c) EE (hS.CU 4 rfl) rfl rfl (by rw [<-VM];unfold jv;cases dS M kx<;>rfl) rfl ?_;refine a8 O O (aC O ?_);refine Cd.loop (α:=Nat×ai×List Nat×aj×Nat) (fun z=> [(1,.slice A2 n c2),(2,.pointer PB),(5,.slice fE fl.length fl.length),(6,.map (some g)),(7,.func (.func 282) #[] #[.pointer PB]),(62,.slice Aa al.length ca),(63,ak (al.length:Int)),(64,ak j),(13,ak f),(14,.slice z.2.2.2.1 (z.2.2.1.length - k) z.2.2.2.2),(85,ak n),(86,ak i),(16,y7 kx),(97,.slice sx.a sx.n sx.c),(98,ak (sx.n:Int)),(99,ak (z.1:Int))]) (fun z w'=>z.1<=sx.n/\qH fl.length (jV n fl cm) (zx n fl cm) f L0 z.2.1 z.2.2.1 k/\(k<z.2.2.1.length/\z.2.2.1.getD k 0=x)/\(∀p:Nat,p<z.1->0<=gi z.2.1 (gi ys p))/\(∀y:Nat,0<=gi Li y->0<=gi z.2.1 y)/\St w w' (ax 2 z.2.2.2.1 (z.2.2.1.length - k) z.2.2.2.2 (pO (z.2.2.1.drop k))::uy PB A fl.length c fE z.2.1 Aa ca al g M [])) (fun z=>sx.n - z.1) (0,Li,Qi,Ao,co) (aqv O) ⟨bg _,mF,⟨qo,hx⟩,fun p h=>absurd h (oF _),fun y h=>h,hS⟩ ?_;clear hS mF qo hx UR xo;rintro⟨q,L,Q,Ao,co⟩ e fH ⟨hq,mF,⟨qo,hx⟩,JL,Aq,hS⟩;dsimp only at hq mF qo hx JL Aq hS|-;have JX:=mF.PM;have hLl2:=mF.len;refine bL O (aM _ O (fun h5=>?_) (fun h5=>?_))
    ·have hqy:q<ys.length:=by omega
     have VI:=pJ hS;obtain⟨y,hy,CA,OE⟩:=Gg _ (gi_in hqy);have zX:=hS.bz 1 O;refine aA O (aD VI.2 O (aY VI O (ar O ?_)));rw [hy];refine aD zX.2 O (aY zX O (aC O ?_));refine aM _ O (fun h6=>?_) (fun h6=>?_)
     ·have JP:=mF.meet CA h6 (M5.zt _ _ _ gE.2.2 (OE.link xp JN));refine aA O (aD zX.2 O (kN 1 hS O O O am ?_));intro gG ja;refine ar O (eL ja O O O ?_);intro A9 mO jK;refine fu 1 jK O (jK.bz 0 O) O O O ?_;intro AZ cZ sC iC;have iC:=iC.tail;have An:(Q++ [y]).length - k=(Q.length - k)+1:=by rw [ck];show Q.length+1 - k=_;omega
      refine ar O (aI O (aT O (tQ ?_)));refine⟨(q+1,L.set y (f:Int),Q++ [y],AZ,cZ),by show sx.n - (q+1)<sx.n - q;omega,⟨O,O,O,O,O,O,O,O,O,aE (fun m=>Value.slice AZ m cZ) An.symm,O,O,O,O,O,O,au⟩,by show q+1<=sx.n;omega,JP,⟨by show k< (Q++ [y]).length;rw [ck];omega,by show(Q++ [y]).getD k 0=x;rw [adp qo,hx]⟩,fun p hp=>?_,fun z hz=>MA (Aq z hz),?_⟩
      ·by_cases ep:p=q
       ·subst ep;rw [hy];have h9:=adr (L:=L) (y:=y) (f:=f) am;show 0<=gi (L.set y (f:Int)) y;omega
       have hp:p<q+1:=hp;obtain⟨y9,hy9,_,_⟩:=Gg _ (gi_in (show p<ys.length by omega));have h9:=JL p am;rw [hy9]at h9|-;exact MA h9
      show St w sC (ax _ AZ ((Q++ [y]).length - k) cZ (pO ((Q++ [y]).drop k))::_);rw [An,ahp (by omega)];exact iC
     refine aA O (aI O (aT O (tQ ?_)));refine⟨(q+1,L,Q,Ao,co),by show sx.n - (q+1)<sx.n - q;omega,(aqv O),by show q+1<=sx.n;omega,mF,⟨qo,hx⟩,fun p hp=>?_,Aq,hS⟩
     by_cases ep:p=q
     ·subst ep;rw [hy];show 0<=gi L y;omega
     have hp:p<q+1:=hp;exact JL p am
    have dt:∀y:Nat,(y:Int)∈ys->0<=gi L y:=fun y hy=>by
     obtain⟨p,hp,e9⟩:=gC.1 hy;rw [<-bV hp]at e9;have:=JL p am
     rwa [e9]at this
    have ad4:=(iQ.mono (G':=fun y=>0<=gi L y) fun y _ h=>Aq y h).del (x:=kx) fun y hy=>dt y (yW▸hy)
    refine bp O (bt (cS O ?_));refine ZU EE 4 (a:=kx) hS O O O ?_;intro gG ja;have ja:=aan (pre:=[_,_,_,_,_]) (x:=kx) ja;refine ar O (aI O (aT O (tQ ?_)));refine⟨(i+1,L,Q,Ao,co,jf M kx),by show n - (i+1)<n - i;omega,(aqv O),by show i+1<=n;omega,mF,⟨qo,hx⟩,ad4,fun i' y dw CA hH he=>?_,ja⟩
    by_cases ei:i'=i
    ·subst ei;rcases Un y CA hH (he.trans pH)with h9 | h9
     ·exact dt y h9
     exact Aq y h9
    exact Aq y (pC i' y (by have dw:i'<i+1:=dw;omega) CA hH he)
   obtain rfl:i=n:=by omega
   have JX:=mF.PM;have xq:=mF.next qo fun y hy=>by
    rw [hx]at hy;obtain⟨_,hHy,i',dw,ha⟩:=hy;exact pC i' y dw ha.2.1 hHy ((KN tn.1 (hl _ (Ed y ha.2.1)).1).2 fun k9 h9 fz=>ha.2.2 k9 h9 fz).symm
   have hkQ2:k<Qi.length:=qo;have uZ:=St.LY (i:=0) (l:=1) hS O (by show 1<=Qi.length - k;omega);refine bp O (bt (cS O ?_));refine Fo (l:=1) O O O am (aT O (tQ ?_));refine⟨(k+1,Li,Qi,cutAt Ao co 1,co - 1,M),by show fl.length+1 - (k+1)<fl.length+1 - k;omega,⟨O,O,O,O,O,O,O,O,O,aE (fun m=>Value.slice (cutAt Ao co 1) m (co - 1)) (Nat.sub_sub _ _ _),au⟩,xq,iQ,?_⟩;show St w dY (ax _ (cutAt Ao co 1) (Qi.length - (k+1)) (co - 1) (pO (Qi.drop (k+1)))::_);have e9:pO (Qi.drop (k+1))=(pO (Qi.drop k)).drop 1:=by simp [pO]
   rw [e9,<-Nat.sub_sub];exact uZ
  have qo:k=Q.length:=by omega
  subst qo;have Cg:=mF.end_ M5 uX am h0 (fun S aH aF=>ZD S aH aF) (fun x y h=>h.link xp JN);refine bp O (bt (cS O (aI O (aT O (tQ ?_)))));exact⟨(j+1,L,M),by show al.length - (j+1)<al.length - j;omega,(aqv O),by show j+1<=al.length;omega,iS _ j f JJ hf Cg,iQ,hS.tail⟩
 have u7:j=al.length:=by omega
 have qk:qe fl.length al j=fl.length:=by unfold qe;rw [if_neg (by omega)]
 rw [qk]at uX;refine bp O (bt (gw O ?_));exact gJ O ⟨fE,L0,O,uX,hS.sub ((List.nil_sublist _).cons_cons _)⟩
end Go.Proofs.YtkccgdhcpplblaaGreatDoor.Vc
