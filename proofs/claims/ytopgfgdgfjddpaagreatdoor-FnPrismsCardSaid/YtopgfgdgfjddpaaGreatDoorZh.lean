/-
 Lemmas. Conditions: as each states them.
-/
import Derived.Test.YtopgfgdgfjddpaaGreatDoorZg
set_option maxHeartbeats 8000000
namespace Go.Proofs.YtopgfgdgfjddpaaGreatDoor.Vc
open Tryz
open Go.RowKit
theorem ag3{α:Type}(x y p r i q b:α):[x,y,p,r,i,q,b].Perm [p,x,i,q,b,y,r]:=by
 classical
 refine nC.2 fun z=>?_
 simp only [mV,ql];omega
theorem wa{t:ae}{rs:List aQ}{xss:ah}{a:aj}{n c:Nat}{x:ai}(h:rs.length=xss.length):dq t (rs++ [⟨a,n,c⟩]) (xss++ [x])=dq t rs xss++ [az t a n c x]:=by
 rw [AH h];rfl
abbrev yH(A1 A2 A4 A5 A6:aj)(A:aj)(n c:Nat)(M:ah)(i j i':Nat)(AR:aj)(cR:Nat)(AD:aj)(cD:Nat)(bp:List aQ)(c5 c6:Nat)(iH:List aQ):List Ck:=
 bH A4 n AR (aH M i+j) cR AD (aH M i+j) cD::az 2 AR (aH M i+j) cR (bn M i++List.replicate j (i:Int))::az 2 A5 i' c5 (nu M i')::bH A2 0 none 0 0 none 0 0::Bx 24 1 A1 [.slice A n c]::b9 32 AD (aH M i+j) cD bp::b9 32 A6 i' c6 iH::(dq 2 bp (List.replicate (aH M i+j) [])++dq 2 iH (pT M i'))
theorem N7{t1 t2:ae}{A:aj}{n c:Nat}{rs:List aQ}{xss:ah}{pre ks:List Ck}{i:Nat}(s:aQ)(xs:ai)(hr:rs.length=xss.length)(hi:i<rs.length):(pre++ (aO t1 t2 A n c rs xss++ks)).set (pre.length+1+i) (az t2 s.a s.n s.c xs)=pre++ (b9 t1 A n c rs::(dq t2 (rs.set i s) (xss.set i xs)++ks)):=by
 rw [List.set_append_right _ _ (by omega),show pre.length+1+i - pre.length=i+1 by omega]
 congr 1
 show(b9 t1 A n c rs::(dq t2 rs xss++ks)).set (i+1) _=_;rw [List.set_cons_succ,List.set_append_left _ _ (by rw [Ek hr];exact hi),OH hr]
abbrev qB(A1 A2 A5 A6:aj)(A:aj)(n c:Nat)(M:ah)(AR:aj)(N cR c5 c6:Nat)(iH:List aQ):List Ck:=
 az 2 AR N cR (bn M n)::az 2 A5 n c5 (nu M n)::bH A2 0 none 0 0 none 0 0::Bx 24 1 A1 [.slice A n c]::(aO 32 2 A6 n c6 iH (pT M n)++ [])
theorem U8(A:aj)(n c:Nat)(rs:List aQ)(M:ah)(w:aa)(hR:bz w A n rs M)(hM:bg M):
 aN prog 133 [.agg #[.slice A n c]] w (fun v w'=>∃AR cR AD cD bp,v= .agg #[ak (M.length:Int),.slice AR (aH M M.length) cR,.slice AD (aH M M.length) cD]/\bp.length=aH M M.length/\St w w' (az 2 AR (aH M M.length) cR (bn M M.length)::(aO 32 2 AD (aH M M.length) cD bp (bE M)++ []))):=by
 have hl:=hR.len;have h1:=hM.1;have h2:=hM.2.1;have zU:∀i,i<=n->aH M i<=2000:=fun i hi=>by
  have h3:=JC (M:=M) i;have h4:i* (gl M 0).length<=5*400:=Nat.mul_le_mul (by omega) (by omega);omega
 refine bI func133 O ntmps133 O (pq O O) (bc O (ik (St.refl w) O O ?_));intro A1 w1 aE;refine kO aE O fun A2 w2 aD=>ar O (aW (aD.rd 1 O) O (a8 (aD.rd 1 O) O ?_));refine bk O O (ar O ?_);refine EH (by exact inferInstance) (by exact inferInstance) (by exact inferInstance) O O O O O O (jO aD O ?_);intro A5 w3 aM;refine jO aM O fun A6 w4 aU=>kO aU O fun A4 w5 aV=>bW 3 0 aV O O O O O O O ?_;intro w6 aZ;have aZ:St w w6 (yH A1 A2 A4 A5 A6 A n c M 0 0 0 none 0 none 0 [] 0 0 []):=by
  have h7:=(aZ.nil 32).nil 2;exact h7.perm (ag3 _ _ _ _ _ _ _)
 clear aV aU aM aD aE;refine aI O ?_;refine Cd.loop (α:=Nat×(aj×Nat)×(aj×Nat×List aQ)×(aj×Nat)×(aj×Nat×List aQ)) (fun z=> [(1,.pointer A1),(2,.pointer A2),(3,ak n),(4,.pointer A4),(5,.slice z.2.2.2.1.1 z.1 z.2.2.2.1.2),(6,.slice z.2.2.2.2.1 z.1 z.2.2.2.2.2.1),(7,ak (z.1:Int))])
  (fun z w'=>z.1<=n/\z.2.2.1.2.2.length=aH M z.1/\z.2.2.2.2.2.2.length=z.1/\St w w' (yH A1 A2 A4 z.2.2.2.1.1 z.2.2.2.2.1 A n c M z.1 0 z.1 z.2.1.1 z.2.1.2 z.2.2.1.1 z.2.2.1.2.1 z.2.2.1.2.2 z.2.2.2.1.2 z.2.2.2.2.2.1 z.2.2.2.2.2.2)) (fun z=>n - z.1) (0,(none,0),(none,0,[]),(A5,0),(A6,0,[])) ⟨rfl,rfl,rfl,rfl,rfl,rfl,rfl,av⟩ ⟨bm _,rfl,rfl,aZ⟩ ?_
 clear aZ;rintro⟨i,⟨AR,cR⟩,⟨AD,cD,bp⟩,⟨A5,c5⟩,⟨A6,c6,iH⟩⟩ e w7 ⟨hi,iK,Gg,hS⟩;dsimp only at hi iK Gg hS|-;have TT:=zU i hi;refine b8 O (aR _ O (fun h3=>?_) (fun h3=>?_))
 ·have db:i<n:=by omega
  have kE:=vo M i;have uW:=zU (i+1) (by omega);have B9:aH M (i+1)=aH M i+ (fA M i).toNat:=O;obtain⟨N,hN⟩:∃N:Nat,fA M i=N:=⟨(fA M i).toNat,by omega⟩;rw [hN,gI]at B9;have FY:=aax hM i;rw [hN]at FY kE;have pN:bn M (i+1)=bn M i++List.replicate N (i:Int):=by rw [bn,hN,gI]
  refine aG O (aW (hS.rd 0 O) O (a8 (hS.rd 0 O) O (bk O O (dV hS O O O ?_))));intro A32 w8 bL;refine fp 3 bL O (bL.bF 0 O) O O O ?_;intro wh xF w9 a7;have a7:=a7.tail;have e5:nu M i++ [((aH M i+0:Nat):Int)]=nu M (i+1):=(agU M i).symm;rw [e5]at a7;clear bL hS;refine ar O (alC 0 (a7.rd 4 O) O (ar O (aL (afj A n c rs M i _ (a7.bS hR) hM db) O ?_)));rintro _ dQ ⟨vb,xG,rfl,ax⟩;have bO:=a7.call ax;clear ax a7;refine mr bO O O O fun dE eI dB=>oe 8 dB O (dB.ie 0 O) O O O (by omega) (by omega) O ?_;intro ui vj gL fB;have fB:St w gL (az 2 vb (gl M 0).length xG (cH M i)::bH A4 n AR (aH M i+0) cR AD (aH M i+0) cD::az 2 AR (aH M i+0) cR (bn M i++List.replicate 0 (i:Int))::az 2 wh (i+1) xF (nu M (i+1))::bH A2 0 none 0 0 none 0 0::Bx 24 1 A1 [.slice A n c]::b9 32 AD (aH M i+0) cD bp::b9 32 ui (i+1) vj (iH++ [⟨vb,(gl M 0).length,xG⟩])::(dq 2 bp (List.replicate (aH M i+0) [])++dq 2 iH (pT M i))):=fB.tail;have fB:St w gL (yH A1 A2 A4 wh ui A n c M i 0 (i+1) AR cR AD cD bp xF vj (iH++ [⟨vb,(gl M 0).length,xG⟩])):=by
   have h9:=fB.perm (ag1 _ _ _ _ _ _ _ _ _ _);rw [<-wa (by rw [Gg,NR]),<-afE]at h9;exact h9
  have T5:(iH++ [(⟨vb,(gl M 0).length,xG⟩:aQ)]).length=i+1:=by simp [Gg]
  have Tq:rg (iH++ [(⟨vb,(gl M 0).length,xG⟩:aQ)]) i=⟨vb,(gl M 0).length,xG⟩:=by
   unfold rg;rw [gI,dd,kN (by omega),Gg,Nat.sub_self];rfl
  clear bO dB;generalize iH++ [(⟨vb,(gl M 0).length,xG⟩:aQ)]=va at*;have lC:jo gL ui (i+1) va:=fB.ie 6 O;have SB:di gL vb (gl M 0).length (cH M i):=by
   have hk6:dq 2 va (pT M (i+1))≠[]\/True:= .inr av;have h7:=JT (t:=2) (rs:=va) (xss:=pT M (i+1)) (i:=i) (by rw [T5,NR]) (by omega);have h8:=fB.sub (show(dq 2 va (pT M (i+1))).Sublist (yH A1 A2 A4 wh ui A n c M i 0 (i+1) AR cR AD cD bp xF vj va) from(((((((iL _ _).cons _).cons _).cons _).cons _).cons _).cons _).cons _);have h9:=h8.bF i h7;have e8:va.getD i eA=⟨vb,(gl M 0).length,xG⟩:=Tq;have e9:(pT M (i+1)).getD i []=cH M i:=Vb (show i<i+1 by omega);rw [e8,e9]at h9;exact h9
  refine ar O (aF lC.2 O (b6 lC O ?_));rw [Tq];refine als (afk vb (gl M 0).length xG (cH M i) _ SB (by omega) (fun x hx=>by
   obtain⟨k,hk,rfl⟩:=fV.1 hx;rw [HU]at hk;have:=zw hM i k hk;rw [cd (by rw [HU];exact hk)]at this;omega)) rfl rfl rfl ?_
  rintro _ gL ⟨rfl,rfl⟩;rw [FY];refine aI O ?_;clear lC SB;refine Cd.loop (α:=Nat×(aj×Nat)×(aj×Nat×List aQ)) (fun z=> [(1,.pointer A1),(2,.pointer A2),(3,ak n),(4,.pointer A4),(5,.slice wh (i+1) xF),(6,.slice ui (i+1) vj),(7,ak i),(8,ak ((N:Int) - (z.1:Int)))])
   (fun z w'=>z.1<=N/\z.2.2.2.2.length=aH M i+z.1/\St w w' (yH A1 A2 A4 wh ui A n c M i z.1 (i+1) z.2.1.1 z.2.1.2 z.2.2.1 z.2.2.2.1 z.2.2.2.2 xF vj va)) (fun z=>N - z.1) (0,(AR,cR),(AD,cD,bp)) ⟨rfl,rfl,rfl,rfl,rfl,rfl,rfl,aK (Value.int .i64) (by show(N:Int)=(N:Int) - ((0:Nat):Int);omega),av⟩ ⟨bm _,iK,fB⟩ ?_
  clear fB;rintro⟨j,⟨BR,dR⟩,⟨BD,dD,rv⟩⟩ e gC ⟨hj,ym,hS⟩;dsimp only at hj ym hS|-;refine b8 O (aR _ O (fun h4=>?_) (fun h4=>?_))
  ·have zP:j<N:=by omega
   refine aG O (aW (hS.rd 0 O) O (a8 (hS.rd 0 O) O (ar O (dV hS O O O ?_))));intro A52 lW jf;refine fp 2 jf O (jf.bF 0 O) O O O ?_;intro Hb HA nW ia;have hB:=ia.rd 1 O;refine aW hB O (ka 1 ia O O O O O ?_);intro sl lB;have lB:=lB.tail;clear jf ia hB hS;refine ar O ?_;have hB:=lB.rd 0 O;refine aW hB O (a8 hB O (jO lB O ?_));intro sn mm gJ;have gJ:St w mm (az 2 sn 0 0 []::_):=gJ;refine mr gJ O O O fun A58 xm kR=>oe 7 kR O (kR.ie 0 O) O O O (by omega) (by omega) O ?_;intro Hc HB AV pL;have hB:=pL.rd 2 O;refine aW hB O (ka 2 pL O O O O O ?_);intro kL gu;have gu:St w kL (az 2 sn 0 0 []::bH A4 n Hb (aH M i+j+1) HA Hc (aH M i+j+1) HB::az 2 Hb (aH M i+j+1) HA ((bn M i++List.replicate j (i:Int))++ [(i:Int)])::az 2 wh (i+1) xF (nu M (i+1))::bH A2 0 none 0 0 none 0 0::Bx 24 1 A1 [.slice A n c]::b9 32 Hc (aH M i+j+1) HB (rv++ [⟨sn,0,0⟩])::b9 32 ui (i+1) vj va::(dq 2 rv (List.replicate (aH M i+j) [])++dq 2 va (pT M (i+1)))):=gu.tail;have ab9:St w kL (yH A1 A2 A4 wh ui A n c M i (j+1) (i+1) Hb HA Hc HB (rv++ [⟨sn,0,0⟩]) xF vj va):=by
    have h9:=gu.perm (ag0 _ _ _ _ _ _ _ _ _ _);rw [<-wa (by rw [ym,List.length_replicate]),gN,<-List.replicate_succ',<-List.replicate_succ']at h9;exact h9
   refine ar O (dT O (aT O (tQ ?_)));exact⟨(j+1,(Hb,HA),(Hc,HB,rv++ [⟨sn,0,0⟩])),by show N - (j+1)<N - j;omega,⟨O,O,O,O,O,O,O,aK (Value.int .i64) (by show(N:Int) - (j:Int) - 1=(N:Int) - ((j+1:Nat):Int);omega),av⟩,by show j+1<=N;omega,by show(rv++ [_]).length=aH M i+ (j+1);rw [dI,ym];rfl,ab9⟩
  ·have zP:j=N:=by omega
   subst zP;refine bw O (bA (dh O (aJ O (aT O (tQ ?_)))));refine⟨(i+1,(BR,dR),(BD,dD,rv),(wh,xF),(ui,vj,va)),by show n - (i+1)<n - i;omega,(alH O),by show i+1<=n;omega,by rw [B9];exact ym,T5,?_⟩;show St w gC (yH A1 A2 A4 wh ui A n c M (i+1) 0 (i+1) BR dR BD dD rv xF vj va);unfold yH at hS|-;rw [<-B9,<-pN]at hS;rw [Nat.add_zero,List.replicate_zero,eu];exact hS
 obtain rfl:i=n:=by omega
 have iZ:M.length=i:=hl;obtain⟨N,hK⟩:∃N,aH M i=N:=⟨_,rfl⟩;have mC:aH M M.length=N:=by rw [iZ,hK]
 have DU:N*N<=4000000:=l5 (Nat.mul_le_mul (show N<=2000 by omega) (show N<=2000 by omega)) (by decide);have SU:St w w7 (bH A4 i AR N cR AD N cD::(aO 32 2 AD N cD bp (gQ M 1 0 0)++qB A1 A2 A5 A6 A i c M AR N cR c5 c6 iH)):=by
  rw [Y7 hM,mC];unfold yH at hS;rw [Nat.add_zero,hK,List.replicate_zero,eu]at hS;exact hS.perm (ag2 _ _ _ _ _ _ _ _ _)
 clear hS;rw [hK]at iK;refine bw O (bA (oO O ?_));refine Cd.loop (α:=Nat×List aQ) (fun z=> [(1,.pointer A1),(2,.pointer A2),(3,ak i),(4,.pointer A4),(5,.slice A5 i c5),(6,.slice A6 i c6),(9,ak (z.1:Int))])
  (fun z w'=> (1<=z.1/\z.1<=i)/\z.2.length=N/\St w w' (bH A4 i AR N cR AD N cD::(aO 32 2 AD N cD z.2 (gQ M z.1 0 0)++qB A1 A2 A5 A6 A i c M AR N cR c5 c6 iH))) (fun z=>i - z.1) (1,bp) ⟨rfl,rfl,rfl,rfl,rfl,rfl,rfl,av⟩ ⟨⟨bB _,by show 1<=i;omega⟩,iK,SU⟩ ?_
 clear SU;rintro⟨k,rv⟩ e w8 ⟨⟨fv,eN⟩,ym,hS⟩;dsimp only at fv eN ym hS|-;refine b8 O (aR _ O (fun h4=>?_) (fun h4=>?_))
 ·have mK:k<i:=by omega
  refine aG O (aW (hS.rd 0 O) O (a8 (hS.rd 0 O) O ?_));refine bk O O (ar O ?_);refine nD O O O (by have:((N*N:Nat):Int)=(N:Int)* (N:Int):=Int.natCast_mul N N;omega) ?_;rw [show(N:Int)* (N:Int)=((N*N:Nat):Int) from(Int.natCast_mul N N).symm];refine xA (v:=false) (N*N) hS O O (by omega) fun dL w9 a7=>aI O ?_;refine Cd.loop (α:=Nat×List Bool) (fun z=> [(1,.pointer A1),(2,.pointer A2),(3,ak i),(4,.pointer A4),(5,.slice A5 i c5),(6,.slice A6 i c6),(9,ak k),(10,ak N),(11,.slice dL (N*N) (N*N)),(12,ak (z.1:Int))])
   (fun z w'=>z.1<=(gl M 0).length/\tj M k z.1 0 z.2/\St w w' (gm 4 dL (N*N) (N*N) z.2::bH A4 i AR N cR AD N cD::(aO 32 2 AD N cD rv (gQ M k 0 0)++qB A1 A2 A5 A6 A i c M AR N cR c5 c6 iH))) (fun z=> (gl M 0).length - z.1) (0,List.replicate (N*N) false) ⟨rfl,rfl,rfl,rfl,rfl,rfl,rfl,rfl,rfl,rfl,av⟩ ⟨bm _,by have:=tj.zero M k;rwa [mC]at this,a7⟩ ?_
  clear a7 hS;rintro⟨f,G⟩ e dQ ⟨hf,hG,hS⟩;dsimp only at hf hG hS|-;have Nl:∀(G:List Bool) (q:List aQ) (B:ah),(qB A1 A2 A5 A6 A i c M AR N cR c5 c6 iH).Sublist (gm 4 dL (N*N) (N*N) G::bH A4 i AR N cR AD N cD::(aO 32 2 AD N cD q B++qB A1 A2 A5 A6 A i c M AR N cR c5 c6 iH)):=fun G q B=> ((iL _ _).cons _).cons _
  have adZ:(aO 32 2 A6 i c6 iH (pT M i)).Sublist (qB A1 A2 A5 A6 A i c M AR N cR c5 c6 iH):=by
   refine List.Sublist.cons _ (List.Sublist.cons _ (List.Sublist.cons _ (List.Sublist.cons _ ?_)));rw [eu];exact fE _
  have Ik:=(hS.sub (Nl _ _ _)).rd 3 O;refine bc O (alC 0 Ik O (aL (xd A i c rs M _ (hS.bS hR) (by omega)) O ?_));rintro _ eI ⟨rfl,ax⟩;have hS:=hS.aq ax.below;clear ax Ik;refine aI O (aR _ O (fun h5=>?_) (fun h5=>?_))
  ·have tJ:f< (gl M 0).length:=by omega
   refine cM O ?_;refine Cd.loop (α:=Nat×List Bool) (fun z=> [(1,.pointer A1),(2,.pointer A2),(3,ak i),(4,.pointer A4),(5,.slice A5 i c5),(6,.slice A6 i c6),(9,ak k),(10,ak N),(11,.slice dL (N*N) (N*N)),(12,ak f),(13,ak (z.1:Int))])
    (fun z w'=>z.1<=k/\tj M k f z.1 z.2/\St w w' (gm 4 dL (N*N) (N*N) z.2::bH A4 i AR N cR AD N cD::(aO 32 2 AD N cD rv (gQ M k 0 0)++qB A1 A2 A5 A6 A i c M AR N cR c5 c6 iH))) (fun z=>k - z.1) (0,G) ⟨rfl,rfl,rfl,rfl,rfl,rfl,rfl,rfl,rfl,rfl,rfl,av⟩ ⟨bm _,hG,hS⟩ ?_
   clear hS hG;rintro⟨j,G⟩ e gL ⟨hj,hG,hS⟩;dsimp only at hj hG hS|-;refine b8 O (aR _ O (fun h6=>?_) (fun h6=>?_))
   ·have uS:j<k:=by omega
    have It:di gL A5 i (nu M i):=(hS.sub (Nl _ _ _)).bF 1 O;have kD:bz gL A6 i iH (pT M i):=(hS.sub (adZ.trans (Nl _ _ _))).s7 (NR M i);have jG:=kD.at_ (i:=(k:Int)) (by omega) (by omega);have Jb:=kD.at_ (i:=(j:Int)) (by omega) (by omega);rw [Vb (by omega)]at jG Jb;have hkn9:(rg iH k).n=(gl M 0).length:=by rw [<-jG.1,HU]
    have hjn9:(rg iH j).n=(gl M 0).length:=by rw [<-Jb.1,HU]
    have o1:=VO (M:=M) (i:=i) (k:=k) (by omega);have o2:=VO (M:=M) (i:=i) (k:=j) (by omega);have e1:=qq hM (i:=k) tJ;have e2:=qq hM (i:=j) tJ;have m1:=oI M (show k+1<=M.length by omega);have m2:=oI M (show j+1<=M.length by omega);rw [mC]at m1 m2;have f1:gi (nu M i) k+gi (cH M k) f=bC M k f:=by rw [o1];rfl
    have f2:gi (nu M i) j+gi (cH M j) f=bC M j f:=by rw [o2];rfl
    obtain⟨E,hE⟩:∃E:Nat,bC M k f=E:=⟨(bC M k f).toNat,by omega⟩;obtain⟨D,hD⟩:∃D:Nat,bC M j f=D:=⟨(bC M j f).toNat,by omega⟩;have iG:=hG.next hM tJ (by omega) uS;rw [hE,hD,mC,gI,gI]at iG;rw [hE]at e1 f1;rw [hD]at e2 f2;have sR:=Oj (N:=N) (e:=E) (d:=D) (by omega) (by omega);have sG:((E*N:Nat):Int)=(E:Int)* (N:Int):=Int.natCast_mul E N;have hle:E*N<=N*N:=Nat.mul_le_mul_right N (by omega);have dS:=zw hM k f tJ;have hlo2:=zw hM j f tJ;have F3:(E:Int)* (N:Int)+gi (nu M i) j+gi (cH M j) f=((E*N+D:Nat):Int):=by omega
    refine cM O ?_;refine jA [29] [yS (dL) (N*N) (N*N),yS (A5) (i) (c5),yI ((k:Int)),yP (aB (A5) ((k:Int)).toNat),yI (gi (nu M i) ((k:Int))),yS (A6) (i) (c6),yI ((k:Int)),yP (aB (A6) ((k:Int)).toNat),yS ((rg (iH) ((k:Int))).a) ((rg (iH) ((k:Int))).n) ((rg (iH) ((k:Int))).c),yI ((f:Int)),yP (aB ((rg (iH) ((k:Int))).a) ((f:Int)).toNat),yI (gi (cH M k) ((f:Int))),yI ((gi (nu M i) ((k:Int)))+ (gi (cH M k) ((f:Int)))),yI ((N:Int)),yI ((E:Int)* (N:Int)),yS (A5) (i) (c5),yI ((j:Int)),yP (aB (A5) ((j:Int)).toNat),yI (gi (nu M i) ((j:Int))),yI (((E:Int)* (N:Int))+ (gi (nu M i) ((j:Int)))),yS (A6) (i) (c6),yI ((j:Int)),yP (aB (A6) ((j:Int)).toNat),yS ((rg (iH) ((j:Int))).a) ((rg (iH) ((j:Int))).n) ((rg (iH) ((j:Int))).c),yI ((f:Int)),yP (aB ((rg (iH) ((j:Int))).a) ((f:Int)).toNat),yI (gi (cH M j) ((f:Int))),yI ((((E:Int)* (N:Int))+ (gi (nu M i) ((j:Int))))+ (gi (cH M j) ((f:Int)))),yP (aB (dL) ((((E:Int)* (N:Int))+ (gi (nu M i) ((j:Int))))+ (gi (cH M j) ((f:Int)))).toNat),.pr (fun _ w'=>St w w' (gm 4 dL (N*N) (N*N) (G.set (E*N+D) true)::bH A4 i AR N cR AD N cD::(aO 32 2 AD N cD rv (gQ M k 0 0)++qB A1 A2 A5 A6 A i c M AR N cR c5 c6 iH)))] (ly (ly (ly (ly (ly (ly (ly (ly (ly (ly (ly (ly (ly (ly (ly (ly (ly (ly (ly (ly (ly (ly (ly (ly (ly (ly (ly (ly (ly (cj.2 ⟨Ye.cN (fun v w w' h hb=>h.aq hb),(fun _ h=>by cases h)⟩)))))))))))))))))))))))))))))) ?_ ?_
    ·refine⟨bQ O,bQ O,bQ O,cP fun _ _ hb _ _ _=>aF (It.aq hb).2 O (bq O O),cP fun _ _ hb _ _ _=>bh (It.aq hb) O (bq O O),bQ O,bQ O,cP fun _ _ hb _ _ _=>aF (kD.top.aq hb).2 O (bq O O),cP fun _ _ hb _ _ _=>b6 (kD.top.aq hb) O (bq O O),bQ O,cP fun _ _ hb _ _ _=>aF (jG.aq hb).2 O (bq O O),cP fun _ _ hb _ _ _=>bh (jG.aq hb) O (bq O O),aP fun _ _=>aJ O (bq O O),bQ O,aP fun _ _=>nD (i:=(E:Int)) (j:=(N:Int)) (by exact aK (Value.int .i64) f1) O O (by omega) (bq O O),bQ O,bQ O,cP fun _ _ hb _ _ _=>aF (It.aq hb).2 O (bq O O),cP fun _ _ hb _ _ _=>bh (It.aq hb) O (bq O O),aP fun _ _=>aJ O (bq O O),bQ O,bQ O,cP fun _ _ hb _ _ _=>aF (kD.top.aq hb).2 O (bq O O),cP fun _ _ hb _ _ _=>b6 (kD.top.aq hb) O (bq O O),bQ O,cP fun _ _ hb _ _ _=>aF (Jb.aq hb).2 O (bq O O),cP fun _ _ hb _ _ _=>bh (Jb.aq hb) O (bq O O),aP fun _ _=>aJ O (bq O O),cP fun _ _ hb _ _ _=>aF ((hS.ji 0 O).aq hb).2 O (bq O O),?_,av⟩
     ·refine jC fun e1 w1 hb hp aY hq=>?_
      refine tn 0 (hS.aq hb) O O O (by omega) fun w6 aZ=>ao.n ?_;exact fH.st O (by rw [F3,gI]at aZ;exact aZ)
    intro u gC _ hu _ _;have hT:=hu 29 _ O (by kernel_rfl);refine iV O (aJ O (aT O (tQ ?_)));exact⟨(j+1,_),by show k - (j+1)<k - j;omega,(alH O),by show j+1<=k;omega,iG,hT⟩
   ·have uS:j=k:=by omega
    subst uS;refine bw O (bA (dh O (aJ O (aT O (tQ ?_)))));exact⟨(f+1,G),by show(gl M 0).length - (f+1)< (gl M 0).length - f;omega,(alH O),by show f+1<=(gl M 0).length;omega,hG.row,hS⟩
  ·have tJ:f=(gl M 0).length:=by omega
   subst tJ;have oC:=fun e d he hd=>hG.done hM (show k<M.length by omega) (e:=e) (d:=d) he hd
   rw [mC]at oC;have hGl:G.length=N*N:=by have:=hG.1;rwa [mC]at this
   refine bw O (bA (oO O ?_));refine Cd.loop (α:=Nat×List aQ) (fun z=> [(1,.pointer A1),(2,.pointer A2),(3,ak i),(4,.pointer A4),(5,.slice A5 i c5),(6,.slice A6 i c6),(9,ak k),(10,ak N),(11,.slice dL (N*N) (N*N)),(14,ak (z.1:Int))])
    (fun z w'=>z.1<=N/\z.2.length=N/\St w w' (gm 4 dL (N*N) (N*N) G::bH A4 i AR N cR AD N cD::(aO 32 2 AD N cD z.2 (gQ M k z.1 0)++qB A1 A2 A5 A6 A i c M AR N cR c5 c6 iH))) (fun z=>N - z.1) (0,rv) ⟨rfl,rfl,rfl,rfl,rfl,rfl,rfl,rfl,rfl,rfl,av⟩ ⟨bm _,ym,hS⟩ ?_
   clear hS ym hG h5;rintro⟨E,q3⟩ e gL ⟨hE,DR,hS⟩;dsimp only at hE DR hS|-;refine b8 O (aR _ O (fun h5=>?_) (fun h5=>?_))
   ·have sG:E<N:=by omega
    have hEm:((E*N:Nat):Int)=(E:Int)* (N:Int):=Int.natCast_mul E N;have hEle:E*N<=N*N:=Nat.mul_le_mul_right N (by omega);refine cM O ?_;refine Cd.loop (α:=Nat×List aQ) (fun z=> [(1,.pointer A1),(2,.pointer A2),(3,ak i),(4,.pointer A4),(5,.slice A5 i c5),(6,.slice A6 i c6),(9,ak k),(10,ak N),(11,.slice dL (N*N) (N*N)),(14,ak E),(15,ak (z.1:Int))])
     (fun z w'=>z.1<=N/\z.2.length=N/\St w w' (gm 4 dL (N*N) (N*N) G::bH A4 i AR N cR AD N cD::(aO 32 2 AD N cD z.2 (gQ M k E z.1)++qB A1 A2 A5 A6 A i c M AR N cR c5 c6 iH))) (fun z=>N - z.1) (0,q3) ⟨rfl,rfl,rfl,rfl,rfl,rfl,rfl,rfl,rfl,rfl,rfl,av⟩ ⟨bm _,DR,hS⟩ ?_
    clear hS DR;rintro⟨D,q4⟩ e gC ⟨hD,I7,hS⟩;dsimp only at hD I7 hS|-;refine b8 O (aR _ O (fun h6=>?_) (fun h6=>?_))
    ·have Im:D<N:=by omega
     have sR:=Oj (N:=N) (e:=E) (d:=D) sG Im;have ki:=zp M k E D;rw [mC]at ki;have Tl:=oC E D sG Im;have Su:vf gC dL (N*N) G:=hS.ji 0 O;have F3:(E:Int)* (N:Int)+ (D:Int)=((E*N+D:Nat):Int):=by omega
     refine aG O (nD O O O (by omega) ?_);refine ar O (aJ O ?_);refine aF Su.2 O (rG Su O (by omega) O O ?_);rw [F3];refine aI O ?_;generalize DF:gb G ((E*N+D:Nat):Int)=b at*;cases b with
     | false => --dup 2
      have fK:=Zb (M:=M) (i:=k) (e:=E) (d:=D) (by omega) (by omega) (fun h=>by have:=Tl.2 h;cases this);refine Cd.gq O (aG O (aJ O (aT O (tQ ?_))));exact⟨(D+1,q4),by show N - (D+1)<N - D;omega,(alH O),by show D+1<=N;omega,I7,by rw [fK];exact hS⟩
     | true=>
      have rV:=Y9 (M:=M) (i:=k) (e:=E) (d:=D) (by omega) (Tl.1 O);have mD:bz gC AD N q4 (gQ M k E D):=by
       have h9:=hS.sub (show(aO 32 2 AD N cD q4 (gQ M k E D)).Sublist _ from((uw _ _).cons _).cons _);exact h9.s7 ki
      have yn:=(mD.at_ (i:=(E:Int)) (by omega) (by omega)).1;have iS:(rg q4 E).n<=N:=by
       rw [<-yn,Qh (by omega)];have iw:(gl (bE M) E).length<=N:=by
        refine qA (RF M _).nodup fun x hx=>?_
        rw [ot (by omega) (by omega)]at hx;omega
       unfold uy
       split
       ·exact iw
       ·split
        ·exact bm _
        ·split
         ·exact iw
         ·split
          ·exact l5 (rD _ _) iw
          ·exact bm _
      have gf:Rd gC A4 3 (fun q=> [Value.int .i64 (i:Int),.slice AR N cR,.slice AD N cD].getD q undef):=hS.rd 1 O;have qT:∀A9:aj,(az 2 A9 1 1 [(D:Int)]::(gm 4 dL (N*N) (N*N) G::bH A4 i AR N cR AD N cD::(aO 32 2 AD N cD q4 (gQ M k E D)++qB A1 A2 A5 A6 A i c M AR N cR c5 c6 iH)))[3+1+E]?=some (az 2 (rg q4 E).a (rg q4 E).n (rg q4 E).c (gl (gQ M k E D) E)):=fun A9=>D7 (t1:=32) (t2:=2) (A:=AD) (n:=N) (c:=cD) (rs:=q4) (xss:=gQ M k E D) (pre:=[az 2 A9 1 1 [(D:Int)],gm 4 dL (N*N) (N*N) G,bH A4 i AR N cR AD N cD]) (ks:=qB A1 A2 A5 A6 A i c M AR N cR c5 c6 iH) (i:=E) (by omega) (by omega)
      have oy:=fun(A9:aj) (s:aQ) (xs:ai)=>N7 (t1:=32) (t2:=2) (A:=AD) (n:=N) (c:=cD) (rs:=q4) (xss:=gQ M k E D) (ks:=qB A1 A2 A5 A6 A i c M AR N cR c5 c6 iH) (pre:=[az 2 A9 1 1 [(D:Int)],gm 4 dL (N*N) (N*N) G,bH A4 i AR N cR AD N cD]) (i:=E) s xs (by omega) (by omega)
      refine Cd.im O ?_;refine jA [10,12] [yP (aB A4 2),yS (AD) (N) (cD),yI ((E:Int)),yP (aB (A4) 2),yS (AD) (N) (cD),yI ((E:Int)),yP (aB (AD) ((E:Int)).toNat),yS ((rg (q4) ((E:Int))).a) ((rg (q4) ((E:Int))).n) ((rg (q4) ((E:Int))).c),yI ((D:Int)),.pr (fun v w'=>∃A9,v= .slice A9 1 1/\St w w' (az 2 A9 1 1 [(D:Int)]::(gm 4 dL (N*N) (N*N) G::bH A4 i AR N cR AD N cD::(aO 32 2 AD N cD q4 (gQ M k E D)++qB A1 A2 A5 A6 A i c M AR N cR c5 c6 iH)))),.pr (fun v w'=>∃AZ cZ,v= .slice AZ ((rg q4 E).n+1) cZ/\St w w' (gm 4 dL (N*N) (N*N) G::bH A4 i AR N cR AD N cD::(b9 32 AD N cD q4::(dq 2 (q4.set E ⟨AZ,(rg q4 E).n+1,cZ⟩) ((gQ M k E D).set E (gl (gQ M k E D) E++ [(D:Int)]))++qB A1 A2 A5 A6 A i c M AR N cR c5 c6 iH)))),yP (aB AD ((E:Int)).toNat),.pr (fun _ w'=>∃AZ cZ,St w w' (gm 4 dL (N*N) (N*N) G::bH A4 i AR N cR AD N cD::(aO 32 2 AD N cD (q4.set E ⟨AZ,(rg q4 E).n+1,cZ⟩) ((gQ M k E D).set E (gl (gQ M k E D) E++ [(D:Int)]))++qB A1 A2 A5 A6 A i c M AR N cR c5 c6 iH)))] (ly (ly (ly (ly (ly (ly (ly (ly (ly (cj.2 ⟨Ye.cN (fun v w w' h hb=>by obtain⟨A9,hv,hT⟩:=h;exact⟨A9,hv,hT.aq hb⟩),(cj.2 ⟨Ye.cN (fun v w w' h hb=>by obtain⟨AZ,cZ,hv,hT⟩:=h;exact⟨AZ,cZ,hv,hT.aq hb⟩),(ly (cj.2 ⟨Ye.cN (fun v w w' h hb=>by obtain⟨AZ,cZ,hT⟩:=h;exact⟨AZ,cZ,hT.aq hb⟩),(fun _ h=>by cases h)⟩))⟩)⟩)))))))))) ?_ ?_
      ·refine⟨?_,?_,bQ O,cP fun _ _ hb _ _ _=>aW (gf.below hb) O (bq O O),cP fun _ _ hb _ _ _=>a8 (gf.below hb) O (bq O O),bQ O,cP fun _ _ hb _ _ _=>aF (mD.top.aq hb).2 O (bq O O),cP fun _ _ hb _ _ _=>b6 (mD.top.aq hb) O (bq O O),bQ O,?_,?_,?_,?_,av⟩
       ·intro e1 w1 cc dS cI dX hp aY hq;show ao _ _ _ _ _ _ _;have hX:Rd w1 A4 3 (fun q=> [Value.int .i64 (i:Int),.slice AR N cR,.slice AD N cD].getD q undef):=by { have cI:=pj cI (b:=1) (by kernel_rfl);rcases(show cc=0\/cc=1 by omega)with h | h; { exact Rd.below gf (dX h) }; { subst h;obtain⟨AZ,cZ,_,hT⟩:=hq 10 _ _ (by kernel_rfl) (by kernel_rfl) (by kernel_rfl) rfl rfl (by kernel_rfl);exact hT.rd 1 rfl } }
        refine aW hX O (ao.n (fL O (by exact O)))
       ·intro e1 w1 cc dS cI dX hp aY hq;show ao _ _ _ _ _ _ _;have hX:Rd w1 A4 3 (fun q=> [Value.int .i64 (i:Int),.slice AR N cR,.slice AD N cD].getD q undef):=by { have cI:=pj cI (b:=1) (by kernel_rfl);rcases(show cc=0\/cc=1 by omega)with h | h; { exact Rd.below gf (dX h) }; { subst h;obtain⟨AZ,cZ,_,hT⟩:=hq 10 _ _ (by kernel_rfl) (by kernel_rfl) (by kernel_rfl) rfl rfl (by kernel_rfl);exact hT.rd 1 rfl } }
        refine a8 hX O (ao.n (fL O (by exact O)))
       ·refine cP fun e1 w1 hb hp aY hq=>?_
        exact dV (St.refl _) O O O fun A9 w9 ax=>ao.n (eO.dn O ax.below ⟨A9,O,(hS.aq hb).call ax⟩)
       ·refine jC fun e1 w1 hb hp aY hq=>?_
        obtain⟨A9,abl,hT⟩:=(hp 9 _ _ (by kernel_rfl) rfl rfl (by kernel_rfl));refine fp (3+1+E) hT (qT A9) (hT.bF 0 O) O (by exact abl) O ?_;intro AZ cZ wZ hZ;have hZ:=(oy A9 ⟨AZ,(rg q4 E).n+1,cZ⟩ (gl (gQ M k E D) E++ [(D:Int)]))▸hZ;exact ao.n (fH.dn O ⟨AZ,cZ,O,hZ.tail⟩)
       ·intro e1 w1 cc dS cI dX hp aY hq;show ao _ _ _ _ _ _ _;have hX:jo w1 AD N q4:=by { have cI:=pj cI (b:=1) (by kernel_rfl);rcases(show cc=0\/cc=1 by omega)with h | h; { exact mD.top.aq (dX h) }; { subst h;obtain⟨AZ,cZ,_,hT⟩:=hq 10 _ _ (by kernel_rfl) (by kernel_rfl) (by kernel_rfl) rfl rfl (by kernel_rfl);exact hT.ie 2 rfl } }
        refine aF hX.2 O (ao.n (fL O (by exact O)))
       ·refine rJ 1 fun e1 w1 hp aY hq=>?_
        have fe:=hp 10 _ _ (by kernel_rfl) O O (by kernel_rfl);obtain⟨AZ,cZ,LG,hT⟩:=fe;refine Bg (te:=32) (n:=N) (c:=cD) (A:=AD) (xs:=q4) 2 hT O O (by exact LG) (by omega) ?_;intro wY hY;exact ao.n (fH.st O ⟨AZ,cZ,hY⟩)
      intro u lW _ hu _ _;obtain⟨AZ,cZ,hT⟩:=hu 12 _ rfl (by kernel_rfl);rw [rV]at hT;refine iV O (aJ O (aT O (tQ ?_)));exact⟨(D+1,_),by show N - (D+1)<N - D;omega,(alH O),by show D+1<=N;omega,by simp [I7],hT⟩
    ·have Im:D=N:=by omega
     have cJ:=Za (M:=M) (i:=k) (e:=E);rw [mC]at cJ;rw [Im,cJ]at hS;refine bw O (bA (dh O (aJ O (aT O (tQ ?_)))));exact⟨(E+1,q4),by show N - (E+1)<N - E;omega,(alH O),by show E+1<=N;omega,I7,hS⟩
   ·have sG:E=N:=by omega
    have iG:=Y6 (M:=M) (i:=k);rw [mC]at iG;rw [sG,iG]at hS;refine bw O (bA (dh O (aJ O (aT O (tQ ?_)))));exact⟨(k+1,q3),by show i - (k+1)<i - k;omega,(alH O),⟨by show 1<=k+1;omega,by show k+1<=i;omega⟩,DR,hS.tail⟩
 ·have mK:k=M.length:=by omega
  have dO:=Y5 (M:=M);rw [mK,dO]at hS;refine bw O (bA (dh O ?_));refine alC 2 (hS.rd 0 O) O ?_;have aD:St w w8 (bH A2 0 none 0 0 none 0 0::(az 2 AR N cR (bn M i)::(aO 32 2 AD N cD rv (bE M)++ []))):=by
   have hs:(aO 32 2 AD N cD rv (bE M)++ [az 2 AR N cR (bn M i),bH A2 0 none 0 0 none 0 0]).Sublist (bH A4 i AR N cR AD N cD::(aO 32 2 AD N cD rv (bE M)++qB A1 A2 A5 A6 A i c M AR N cR c5 c6 iH)):=
    List.Sublist.cons _ (List.Sublist.append_left (List.Sublist.cons_cons _ (List.Sublist.cons _ (List.Sublist.cons_cons _ (List.nil_sublist _)))) _)
   refine(hS.sub hs).perm ?_;rw [eu];exact(ku).trans (List.Perm.swap _ _ _)
  refine bW 3 0 aD O O O O O O O fun gL fB=>bM O (ko O (fB.rd 0 O) ?_);refine⟨AR,cR,AD,cD,rv,?_,by rw [mC];exact ym,?_⟩
  ·rw [mC,iZ];rfl
  ·rw [mC,iZ];exact fB.tail
section
variable {P:Program} {N:Nat} {ops:Array Oper} {K:Env->aa->Prop} {rest:List Oper} {e:Env} {w:aa} {d:Nat} {ty:ae} {pos:String} {af:Array Edge}
theorem Yi{F:FuncId}{x y z u:ag}{v1 v2 v3 v4:ad}(hx:ev e x=v1)(hy:ev e y=v2)(hz:ev e z=v3)(hu:ev e u=v4)(hb:Nat.blt d N=true)(hK:ao P N ops K rest (bG e d (.func (.func F) #[] #[v1,v2,v3,v4])) w):
 ao P N ops K (⟨some d,.makeFunc (.func F) #[] #[x,y,z,u],ty,pos,af,none⟩::rest) e w:=
 .val (by simp [execOp,Instr.makeFunc,hx,hy,hz,hu]) hb hK
end
theorem zq{l:ah}(h:l.length<=401):cap l=l:=by
 unfold cap;exact lp h
def xJ(U:ah):Nat->Int->ah
 | 0,_=> [[]]
 | k+1,e=> (gl U e).flatMap fun f=> (xJ U k f).map (f:: ·)
def ou(U:ah)(k:Nat)(fl xs:ai):ah:=xs.flatMap fun e=> (xJ U k e).map fun y=>fl++e::y
theorem abc{U:ah}{k:Nat}{fl xs:ai}{j:Nat}(h:j<xs.length):ou U k fl (xs.take (j+1))=ou U k fl (xs.take j)++ (xJ U k (gi xs j)).map fun y=>fl++gi xs j::y:=by
 unfold ou;rw [su h,List.flatMap_append,cd h];simp
theorem abb(U:ah)(k:Nat)(fl:ai)(e:Int):(xJ U (k+1) e).map (fun y=>fl++e::y)=ou U k (fl++ [e]) (gl U e):=by
 unfold ou;rw [xJ,List.map_flatMap];refine aK (fun g=>List.flatMap g (gl U e)) (funext fun f=>?_);rw [List.map_map];refine pB fun y _=>?_
 show fl++e::f::y=(fl++ [e])++f::y;rw [gN];rfl
abbrev pJ(PF A:aj)(c:Nat)(rs:List aQ)(F:ah)(PB:aj)(n:Int)(AR:aj)(nR cR:Nat)(AD:aj)(m d:Nat)(PG PU Au:aj)(N cU:Nat)(dU:List aQ)(U:ah)(fX:List Ck):List Ck:=
 Bx 22 1 PF [.slice A F.length c]::(aO 32 2 A F.length c rs F++ (bH PB n AR nR cR AD m d::Bx 121 1 PG [.func (.func 140) #[] #[.pointer PF,.pointer PB,.pointer PG,.pointer PU]]::Bx 22 1 PU [.slice Au N cU]::(aO 32 2 Au N cU dU U++fX)))
theorem ag4{α:Type}(x b c:α)(X Y:List α):(x::b::c::(X++Y)).Perm (b::c::((X++ [x])++Y)):=by
 classical
 refine nC.2 fun z=>?_
 simp only [qk,mV,ql];omega
theorem Ic(PF A:aj)(c:Nat)(rs:List aQ)(F:ah)(PB:aj)(n:Int)(AR:aj)(nR cR:Nat)(AD:aj)(m d:Nat)(PG PU Au:aj)(N cU:Nat)(dU:List aQ)(U:ah)(fX:List Ck):(bH PB n AR nR cR AD m d::Bx 121 1 PG [.func (.func 140) #[] #[.pointer PF,.pointer PB,.pointer PG,.pointer PU]]::Bx 22 1 PU [.slice Au N cU]::(aO 32 2 Au N cU dU U++fX)).Sublist (pJ PF A c rs F PB n AR nR cR AD m d PG PU Au N cU dU U fX):=(iL _ _).cons _
theorem Sa(PF A:aj)(c:Nat)(rs:List aQ)(F:ah)(PB:aj)(n:Int)(AR:aj)(nR cR:Nat)(AD:aj)(m d:Nat)(PG PU Au:aj)(N cU:Nat)(dU:List aQ)(U:ah)(fX:List Ck)(x:Ck):(x::pJ PF A c rs F PB n AR nR cR AD m d PG PU Au N cU dU U fX).Perm (pJ PF A c rs F PB n AR nR cR AD m d PG PU Au N cU dU U (x::fX)):=by
 classical
 refine nC.2 fun z=>?_
 simp only [pJ,qk,mV];omega
theorem Vo{w0 w':aa}{PF A:aj}{c:Nat}{rs:List aQ}{F:ah}{PB:aj}{n:Int}{AR:aj}{nR cR:Nat}{AD:aj}{m d:Nat}{PG PU Au:aj}{N cU:Nat}{dU:List aQ}{U:ah}{fX:List Ck}{t:ae}{B:aj}{q r:Nat}{xs:ai}(h:St w0 w' (pJ PF A c rs F PB n AR nR cR AD m d PG PU Au N cU dU U (az t B q r xs::fX))):di w' B q xs:=(h.perm (Sa ..).symm).bF 0 rfl
theorem abk(PF A:aj)(c:Nat)(rs:List aQ)(F:ah)(PB:aj)(n:Int)(AR:aj)(nR cR:Nat)(AD:aj)(m d:Nat)(PG PU Au:aj)(N cU:Nat)(dU:List aQ)(U:ah)(fX:List Ck)(x:Ck):(pJ PF A c rs F PB n AR nR cR AD m d PG PU Au N cU dU U fX).Sublist (pJ PF A c rs F PB n AR nR cR AD m d PG PU Au N cU dU U (x::fX)):=(((((((fE fX).cons x).append_left _).cons_cons _).cons_cons _).cons_cons _).append_left _).cons_cons _
theorem Sb{w0 w':aa}{PF A:aj}{c:Nat}{rs:List aQ}{F:ah}{PB:aj}{n:Int}{AR:aj}{nR cR:Nat}{AD:aj}{m d:Nat}{PG PU Au:aj}{N cU:Nat}{dU:List aQ}{U:ah}{fX:List Ck}(IB:U.length=N)(h:St w0 w' (pJ PF A c rs F PB n AR nR cR AD m d PG PU Au N cU dU U fX)):bz w' Au N dU U:=
 St.gj (t1:=32) (t2:=2) (c:=cU) (h.sub (((((fE (aO 32 2 Au N cU dU U++fX)).cons _).cons _).cons _).trans (Ic ..))) IB
theorem abd(w0:aa)(n:Nat)(TL:n<=5)(PF PB AR AD PG PU Au:aj)(nR cR m d N cU:Nat)(dU:List aQ)(U:ah)(IB:U.length=N)(hN:N<=500)(hUr:∀e:Nat,e<N->(gl U e).length<=500/\∀x∈gl U e,0<=x/\x< (N:Int)):
 ∀(k nf nx:Nat) (fl xs:ai) (Af Ax:aj) (cf cx:Nat) (fX:List Ck) (w:aa) (A:aj) (c:Nat) (rs:List aQ) (F:ah),fl.length=nf->xs.length=nx->nf+ (k+1)=n->nx<=500->(∀x∈xs,0<=x/\x< (N:Int))->
  (∀w' A c rs F,St w0 w' (pJ PF A c rs F PB n AR nR cR AD m d PG PU Au N cU dU U fX)->di w' Af nf fl)->
  (∀w' A c rs F,St w0 w' (pJ PF A c rs F PB n AR nR cR AD m d PG PU Au N cU dU U fX)->di w' Ax nx xs)->
  rs.length=F.length->F.length<=401->St w0 w (pJ PF A c rs F PB n AR nR cR AD m d PG PU Au N cU dU U fX)->
  aN prog 140 [.slice Af nf cf,.slice Ax nx cx,.pointer PF,.pointer PB,.pointer PG,.pointer PU] w (fun v w'=>v= .tuple #[]/\∃A' c' rs',rs'.length=(cap (F++ou U k fl xs)).length/\St w0 w' (pJ PF A' c' rs' (cap (F++ou U k fl xs)) PB n AR nR cR AD m d PG PU Au N cU dU U fX)):=by
 intro k
 induction k using Nat.strongRecOn with
 | _ k ih=>
  intro nf nx fl xs Af Ax cf cx fX w A c rs F Ga iG iw hxs xb hf hx lG hF hS;refine bI func140 O ntmps140 O (Cu O) ?_;refine bc O (bk O O (aI O ?_));refine Cd.loop (α:=Nat×aj×Nat×List aQ) (fun z=> [(0,.slice Af nf cf),(2,.pointer PF),(3,.pointer PB),(4,.pointer PG),(5,.pointer PU),(11,.slice Ax nx cx),(12,ak nx),(13,ak (z.1:Int))])
   (fun z w'=>z.1<=nx/\z.2.2.2.length=(cap (F++ou U k fl (xs.take z.1))).length/\St w0 w' (pJ PF z.2.1 z.2.2.1 z.2.2.2 (cap (F++ou U k fl (xs.take z.1))) PB n AR nR cR AD m d PG PU Au N cU dU U fX)) (fun z=>nx - z.1) (0,A,c,rs) ⟨rfl,rfl,rfl,rfl,rfl,rfl,rfl,rfl,av⟩ ⟨bm _,by
     show rs.length=(cap (F++ [])).length;rw [eu,zq hF];exact lG,by
     show St w0 w (pJ PF A c rs (cap (F++ [])) _ _ _ _ _ _ _ _ _ _ _ _ _ _ _ _);rw [eu,zq hF];exact hS⟩ ?_
  clear hS lG;rintro⟨j,A,c,rs⟩ e w1 ⟨hj,lG,hS⟩;dsimp only at hj lG hS|-;generalize hG:F++ou U k fl (xs.take j)=G at*;refine b8 O (aR _ O (fun h1=>?_) (fun h1=>?_))
  ·have vJ:j<xs.length:=by omega
   have hR:=hx _ _ _ _ _ hS;have Gs:=xb _ (gi_in vJ);have Dq:F++ou U k fl (xs.take (j+1))=G++ (xJ U k (gi xs j)).map fun y=>fl++gi xs j::y:=by
    rw [abc vJ,<-gN,hG]
   have IX:F++ou U k fl xs=G++ou U k fl (xs.drop j):=by
    rw [<-hG,gN]
    congr 1
    unfold ou;rw [<-List.flatMap_append,List.take_append_drop]
   refine aG O (aF hR.2 O (bh hR O (ar O ?_)));obtain⟨E,hE⟩:∃E:Nat,gi xs j=E:=⟨(gi xs j).toNat,by omega⟩;rw [hE]at Dq Gs|-;refine aL (Hh Af nf cf fl _ (hf _ _ _ _ _ hS) (by omega)) O ?_;rintro _ w2 ⟨J5,c18,rfl,ax⟩;have aD:=hS.call ax;clear ax hS;refine ar O (dV aD O O O ?_);intro oL w3 aM;refine fp 1 aM O (aM.bF 0 O) O O O ?_;intro dZ fu w4 aU;have aU:St w0 w4 (az 2 dZ (nf+1) fu (fl++ [(E:Int)])::pJ PF A c rs (cap G) PB n AR nR cR AD m d PG PU Au N cU dU U fX):=aU.tail;clear aM aD;have df:Rd w4 PF 1 (fun _=> .slice A (cap G).length c):=Rd.one (aU.rd 1 O);refine ar O (alw (j:=0) df (by exact aK Value.pointer (pv _).symm) O O O O ?_);refine bk O O (aI O ?_);refine aR _ O (fun h2=>?_) (fun h2=>?_)
   ·refine eF O (fD (e6 ?_));refine OA ⟨O,A,c,rs,?_,?_⟩
    ·rw [IX,HF _ (by omega)];exact lG
    ·rw [IX,HF _ (by omega)];exact aU.tail
   have da:=KJ (l:=G) (by omega);have eC:=((aU.tail).sub (Ic ..)).rd 0 O
   by_cases sP:k=0
   ·--dup 2
    refine cM O (eB [xS (dZ) (nf+1) (fu),xI ((nf+1:Nat):Int),xP (aB (PB) 0),xI ((n:Int)),xB (true),xB (true)] O (eQ O) ?_ ?_)
    ·refine⟨Dr O,?_,fun _ _ hb _ _=>aW (eC.below hb) O Az,fun _ _ hb _ _=>iW (eC.below hb) O O O O O Az,fun _ _ _ _ _=>Dk O (by exact aK Value.bool (eP (by omega))),Dr O,av⟩
     ·intro e1 w1 hb hp aY;refine aL (CA _ _ _ _) O ?_;rintro _ w2 ⟨rfl,ax⟩;subst ax;refine ao.n (d0 (by exact O))
    intro u w5 nI _;have aV:=aU.aq nI;clear aU eC df;have df:Rd w5 PF 1 (fun _=> .slice A (cap G).length c):=Rd.one (aV.rd 1 O);refine fh O (Cd.im O (aG O (alw (j:=0) df (by exact aK Value.pointer (pv _).symm) O O O O (ar O (mr aV O O O ?_)))));intro A41 w6 aZ;refine oe 3 aZ O (aZ.ie 0 O) O O O (by omega) (by omega) O ?_;intro CG C3 w7 a6;refine ao.st (i:=2) (j:=0) a6 O (by exact aK Value.pointer (pv _).symm) O O (Nat.succ_pos _) ?_;intro w8 bL;have a7:St w0 w8 (az 2 dZ (nf+1) fu (fl++ [(E:Int)])::Bx 22 1 PF [.slice CG ((cap G).length+1) C3]::b9 32 CG ((cap G).length+1) C3 (rs++ [⟨dZ,nf+1,fu⟩])::(dq 2 rs (cap G)++_)):=bL.tail;have a7:=a7.perm (ag4 _ _ _ _ _);rw [<-wa lG]at a7;have hex:(xJ U k (E:Int)).map (fun y=>fl++ (E:Int)::y)=[fl++ [(E:Int)]]:=by rw [sP];rfl
    rw [hex]at Dq;have qR:=Zt (l:=G) (fl++ [(E:Int)]) (by omega);refine ar O (aJ O (aT O (tQ ?_)));refine⟨(j+1,CG,C3,rs++ [⟨dZ,nf+1,fu⟩]),by show nx - (j+1)<nx - j;omega,(alH O),by show j+1<=nx;omega,?_,?_⟩
    ·show(rs++ [_]).length=(cap (F++ou U k fl (xs.take (j+1)))).length;rw [Dq,qR,dI,dI,lG];rfl
    ·show St w0 w8 (pJ PF CG C3 (rs++ [_]) (cap (F++ou U k fl (xs.take (j+1)))) PB n AR nR cR AD m d PG PU Au N cU dU U fX);rw [Dq,qR];show St w0 w8 (Bx _ 1 PF [.slice CG (cap G++ [fl++ [(E:Int)]]).length C3]::(b9 _ CG (cap G++ [fl++ [(E:Int)]]).length C3 _::_));rw [show(cap G++ [fl++ [(E:Int)]]).length=(cap G).length+1 by simp];exact a7
   ·obtain⟨k',rfl⟩:∃k',k=k'+1:=⟨k - 1,by omega⟩;rw [abb]at Dq;refine cM O (eB [xS (dZ) (nf+1) (fu),xI ((nf+1:Nat):Int),xP (aB (PB) 0),xI ((n:Int)),xB (false),xB (false)] O (eQ O) ?_ ?_)
    ·refine⟨Dr O,?_,fun _ _ hb _ _=>aW (eC.below hb) O Az,fun _ _ hb _ _=>iW (eC.below hb) O O O O O Az,fun _ _ _ _ _=>Dk O (by exact aK Value.bool (dk (by omega))),Dr O,av⟩
     ·intro e1 w1 hb hp aY;refine aL (CA _ _ _ _) O ?_;rintro _ w2 ⟨rfl,ax⟩;subst ax;refine ao.n (d0 (by exact O))
    intro u w5 nI _;have aV:=(aU.aq nI).perm (Sa ..);clear aU eC df;have ib:Rd w5 PG 1 (fun _=> .func (.func 140) #[] #[.pointer PF,.pointer PB,.pointer PG,.pointer PU]):=Rd.one ((aV.sub (Ic ..)).rd 1 O);have lD:Rd w5 PU 1 (fun _=> .slice Au N cU):=Rd.one ((aV.sub (Ic ..)).rd 2 O);have hU:=Sb IB aV;have Uf:=hU.at_ (i:=(E:Int)) (by omega) (by omega);have nG:=hUr E (by omega);refine fh O (Cd.gq O ?_);refine jA [6] [.ex (.func (.func 140) #[] #[.pointer PF,.pointer PB,.pointer PG,.pointer PU]),yS (dZ) (nf+1) (fu),yS (Au) (N) (cU),yI ((E:Int)),yP (aB (Au) ((E:Int)).toNat),yS ((rg (dU) ((E:Int))).a) ((rg (dU) ((E:Int))).n) ((rg (dU) ((E:Int))).c),.pr (fun v w'=>∃A' c' rs',rs'.length=(cap (cap G++ou U k' (fl++ [(E:Int)]) (gl U E))).length/\St w0 w' (pJ PF A' c' rs' (cap (cap G++ou U k' (fl++ [(E:Int)]) (gl U E))) PB n AR nR cR AD m d PG PU Au N cU dU U fX))] (ly (ly (ly (ly (ly (ly (cj.2 ⟨Ye.cN (fun v w w' h hb=>by obtain⟨A',c',rs',gg,hT⟩:=h;exact⟨A',c',rs',gg,hT.aq hb⟩),(fun _ h=>by cases h)⟩))))))) ?_ ?_
    ·refine⟨?_,bQ O,cP fun _ _ hb _ _ _=>alw (j:=0) (lD.below hb) (by exact aK Value.pointer (pv _).symm) O O O O (bq O O),bQ O,cP fun _ _ hb _ _ _=>aF (hU.top.aq hb).2 O (bq O O),cP fun _ _ hb _ _ _=>b6 (hU.top.aq hb) O (bq O O),?_,av⟩
     ·refine cP fun e1 w1 hb hp aY hq=>?_
      refine ao.ld (Rd.below ib hb) (by exact aK Value.pointer (pv _).symm) (by decide) O O O ?_;refine ao.n (fL O (by exact O))
     ·refine jC fun e1 w1 hb hp aY hq=>?_
      refine aL (ih k' (Nat.lt_succ_self _) (nf+1) (rg dU E).n (fl++ [(E:Int)]) (gl U E) dZ (rg dU E).a fu (rg dU E).c (az 2 dZ (nf+1) fu (fl++ [(E:Int)])::fX) _ A c rs (cap G) (by rw [dI,Ga];rfl) Uf.1 (by omega) (by have:=Uf.1;omega) nG.2 (fun w' A c rs F h=>Vo h) (fun w' A c rs F h=> (Sb IB h).at_ (i:=(E:Int)) (by omega) (by omega)) lG (KL G) (aV.aq hb)) O ?_;rintro _ w9 ⟨rfl,A',c',rs',gg,a7⟩;exact ao.n (fH.dn O ⟨A',c',rs',gg,a7.sub (abk ..)⟩)
    intro u w6 _ hu _ _;obtain⟨A',c',rs',gg,hT⟩:=hu 6 _ rfl (by kernel_rfl);rw [da,<-Dq]at gg hT;refine iV O (aJ O (aT O (tQ ?_)));exact⟨(j+1,A',c',rs'),by show nx - (j+1)<nx - j;omega,(alH O),by show j+1<=nx;omega,gg,hT⟩
  ·have vJ:j=xs.length:=by omega
   rw [vJ,List.take_length]at hG;rw [<-hG]at lG hS;refine bw O (bA (EE O ?_));exact yK ⟨O,A,c,rs,lG,hS⟩
def xk(n:Nat)(R:ai)(B:ah)(E F x:Nat):ai:=
 if x<E then []else(lj R B x).filter fun g=>decide (ew n R B g/\(x=E->g< (F:Int)))
def ig(n:Nat)(R:ai)(B:ah)(E F:Nat):ah:=(List.range R.length).map (xk n R B E F)
def wu(n:Nat)(R:ai)(B:ah)(E F x:Nat):Bool:=
 if x<E then false else if x=E then decide (gi R x=(n:Int) - 1\/∃g∈lj R B x,ew n R B g/\g< (F:Int))else decide (ew n R B x)
def gU(n:Nat)(R:ai)(B:ah)(E F:Nat):List Bool:=(List.range R.length).map (wu n R B E F)
section
variable {n:Nat} {R:ai} {B:ah} {E F x:Nat}
theorem AO:(ig n R B E F).length=R.length:=by simp [ig]
theorem tq:(gU n R B E F).length=R.length:=by simp [gU]
theorem O4(h:x<R.length):gl (ig n R B E F) x=xk n R B E F x:=by
 rw [cK (by rw [AO];exact h)];simp [ig]
theorem P5(h:x<R.length):gb (gU n R B E F) x=wu n R B E F x:=by
 unfold gb;rw [gI,dd,gO (by rw [tq];exact h),Option.getD_some];simp [gU]
theorem ajl:ig n R B R.length F=List.replicate R.length []:=by
 refine List.eq_replicate_iff.2 ⟨AO,fun y hy=>?_⟩;obtain⟨x,hx,rfl⟩:=dv.1 hy;unfold xk;rw [ay (gP.1 hx)]
theorem YE:gU n R B R.length F=List.replicate R.length false:=by
 refine List.eq_replicate_iff.2 ⟨tq,fun y hy=>?_⟩;obtain⟨x,hx,rfl⟩:=dv.1 hy;unfold wu;rw [ay (gP.1 hx)]
theorem AU(hP:gE n R B){e g:Int}(h:g∈lj R B e):e<g/\g<R.length:=by
 obtain⟨h1,_,h3⟩:=nz.1 h;exact⟨((hP.at_ h1.1 h1.2).2.1 e h3).1.2,h1.2⟩
theorem ajo(hP:gE n R B)(hE:E<R.length):ig n R B E (E+1)=ig n R B (E+1) R.length:=by
 refine pB fun x hx=>?_
 have hx:=gP.1 hx;unfold xk
 by_cases c1:x<E
 ·rw [ay c1,ay (by omega)]
 rw [aw c1]
 by_cases c2:x=E
 ·subst c2;rw [ay (by omega),List.filter_eq_nil_iff];intro g hg h;have h3:=(tX h).2 O;have:=AU hP hg;omega
 rw [aw (by omega)];refine List.filter_congr fun g hg=>ke.2 ?_
 have:=AU hP hg;exact⟨fun h=> ⟨h.1,fun _=>by omega⟩,fun h=> ⟨h.1,fun h=>absurd h c2⟩⟩
theorem ajn(h:¬(ew n R B F/\(F:Int)∈lj R B E)):ig n R B E (F+1)=ig n R B E F:=by
 refine pB fun x hx=>?_
 unfold xk
 by_cases c1:x<E
 ·rw [ay c1,ay c1]
 rw [aw c1,aw c1];refine List.filter_congr fun g hg=>ke.2 ⟨fun h2=> ⟨h2.1,fun e=>?_⟩,fun h2=> ⟨h2.1,fun e=>by have:=h2.2 e;omega⟩⟩
 have h3:=h2.2 e;subst e;have:g≠(F:Int):=fun e=>h ⟨e▸h2.1,e▸hg⟩
 omega
theorem ajm(hE:E<R.length)(h:ew n R B F/\(F:Int)∈lj R B E):(ig n R B E F).set E (gl (ig n R B E F) E++ [(F:Int)])=ig n R B E (F+1):=by
 apply jX (by rw [jK,AO,AO]);intro x h1 h2;rw [AO]at h2;have e2:∀d' (hx:x< (ig n R B E d').length),(ig n R B E d')[x]=xk n R B E d' x:=fun d' hx=>by simp [ig]
 rw [List.getElem_set,e2 (F+1) (by rw [AO];exact h2),e2 F (by rw [AO];exact h2)]
 by_cases c:E=x
 ·subst c;rw [ay rfl,O4 hE];unfold xk;rw [aw (Nat.lt_irrefl _),aw (Nat.lt_irrefl _)];have hs:=Ew R B E;refine SA.eq ?_ (qj _ hs) fun y=>?_
  ·rw [SA,List.pairwise_append];refine⟨qj _ hs,List.pairwise_singleton _ _,fun a ha b hb=>?_⟩;obtain rfl:=fm.1 hb;exact(tX (fU.1 ha).2).2 O
  rw [iR,fU,fU,fm];simp only [kz];constructor
  ·rintro(⟨h3,h4,h5⟩ | rfl)
   ·exact⟨h3,h4,fun e=>by have:=h5 e;omega⟩
   exact⟨h.2,h.1,fun _=>by omega⟩
  rintro⟨h3,h4,h5⟩
  by_cases e3:y=(F:Int)
  ·exact .inr e3
  exact .inl ⟨h3,h4,fun e=>by have:=h5 e;omega⟩
 rw [aw c];unfold xk
 by_cases c1:x<E
 ·rw [ay c1,ay c1]
 rw [aw c1,aw c1];exact List.filter_congr fun g hg=>ke.2 ⟨fun h2=> ⟨h2.1,fun e=>absurd e.symm c⟩,fun h2=> ⟨h2.1,fun e=>absurd e.symm c⟩⟩
theorem P6{x:Nat}(hP:gE n R B)(hx:x<R.length)(h:(gi R x=(n:Int) - 1\/∃g∈lj R B x,ew n R B g/\g< (R.length:Int))):ew n R B x:=by
 rcases h with h | ⟨g,h1,h2,_⟩
 ·exact Qb h
 have h3:=(nz.1 h1);have:=hP.ri h3.1.1 h3.1.2;have:=hP.ri (e:=(x:Int)) (by omega) (by omega);exact(Hx (by omega) (by omega)).2 ⟨g,h1,h2⟩
theorem P7{x:Nat}(hP:gE n R B)(hx:x<R.length)(h:ew n R B x):(gi R x=(n:Int) - 1\/∃g∈lj R B x,ew n R B g/\g< (R.length:Int)):=by
 have:=hP.ri (e:=(x:Int)) (by omega) (by omega)
 by_cases c:gi R x=(n:Int) - 1
 ·exact .inl c
 obtain⟨g,h1,h2⟩:=(Hx (by omega) (by omega)).1 h;exact .inr ⟨g,h1,h2,(AU hP h1).2⟩
theorem YH(hP:gE n R B)(hE:E<R.length):(gU n R B (E+1) R.length).set E (decide (gi R E=(n:Int) - 1))=gU n R B E (E+1):=by
 apply jX (by rw [jK,tq,tq]);intro x h1 h2;rw [tq]at h2;have e2:∀e' d' (hx:x< (gU n R B e' d').length),(gU n R B e' d')[x]=wu n R B e' d' x:=fun e' d' hx=>by simp [gU]
 rw [List.getElem_set,e2 _ _ (by rw [tq];exact h2),e2 _ _ (by rw [tq];exact h2)];unfold wu
 by_cases c:E=x
 ·subst c;rw [ay rfl,aw (Nat.lt_irrefl _),ay rfl];refine ke.2 ⟨fun h=> .inl h,fun h=>?_⟩;rcases h with h | ⟨g,h3,_,h4⟩
  ·exact h
  have:=AU hP h3;omega
 rw [aw c]
 by_cases c1:x<E
 ·rw [ay (by omega),ay c1]
 rw [aw (by omega),aw c1,aw (show ¬x=E from fun e=>c e.symm)]
 split
 ·refine ke.2 ⟨fun h=>P6 hP h2 h,fun h=>P7 hP h2 h⟩
 rfl
theorem YG(h:¬(ew n R B F/\(F:Int)∈lj R B E)):gU n R B E (F+1)=gU n R B E F:=by
 refine pB fun x hx=>?_
 unfold wu
 by_cases c1:x<E
 ·rw [ay c1,ay c1]
 rw [aw c1,aw c1]
 by_cases c2:x=E
 ·subst c2;rw [ay rfl,ay rfl];refine ke.2 (or_congr Iff.rfl ⟨?_,?_⟩)
  ·rintro⟨g,h1,h2,h3⟩;have:g≠(F:Int):=fun e=>h ⟨e▸h2,e▸h1⟩
   exact⟨g,h1,h2,by omega⟩
  rintro⟨g,h1,h2,h3⟩;exact⟨g,h1,h2,by omega⟩
 rw [aw c2,aw c2]
theorem YF(hE:E<R.length)(h:ew n R B F/\(F:Int)∈lj R B E):(gU n R B E F).set E true=gU n R B E (F+1):=by
 apply jX (by rw [jK,tq,tq]);intro x h1 h2;rw [tq]at h2;have e2:∀e' d' (hx:x< (gU n R B e' d').length),(gU n R B e' d')[x]=wu n R B e' d' x:=fun e' d' hx=>by simp [gU]
 rw [List.getElem_set,e2 _ _ (by rw [tq];exact h2),e2 _ _ (by rw [tq];exact h2)];unfold wu
 by_cases c:E=x
 ·subst c;rw [ay rfl,aw (Nat.lt_irrefl _),ay rfl];exact(eP (.inr ⟨_,h.2,h.1,by omega⟩)).symm
 rw [aw c]
 by_cases c1:x<E
 ·rw [ay c1,ay c1]
 rw [aw c1,aw c1,aw (fun e=>c e.symm),aw (fun e=>c e.symm)]
theorem YD(hP:gE n R B)(Bu:E<F)(hF:F<R.length):gb (gU n R B E F) F=decide (ew n R B F):=by
 rw [P5 hF];unfold wu;rw [aw (by omega),aw (by omega)]
theorem YC(hP:gE n R B)(hx:x<R.length):gb (gU n R B 0 R.length) x=decide (ew n R B x):=by
 rw [P5 hx];unfold wu;rw [aw (by omega)]
 split
 ·exact ke.2 ⟨fun h=>P6 hP hx h,fun h=>P7 hP hx h⟩
 rfl
theorem Xc(hP:gE n R B)(hx:x<R.length):gl (ig n R B 0 R.length) x=(lj R B x).filter fun g=>decide (ew n R B g):=by
 rw [O4 hx];unfold xk;rw [aw (by omega)];refine List.filter_congr fun g hg=>ke.2 ⟨fun h=>h.1,fun h=> ⟨h,fun _=> (AU hP hg).2⟩⟩
theorem E8{α β:Type}{f g:α->List β}:∀ {l:List α},(∀x∈l,f x=g x)->l.flatMap f=l.flatMap g
 | [],_=>rfl
 | a::r,h=>by rw [List.flatMap_cons,List.flatMap_cons,h a (List.mem_cons_self ..),E8 fun x hx=>h x (pC _ hx)]
theorem Rb(hP:gE n R B):∀(k:Nat) (e:Int),0<=e->e<R.length->(gi R e).toNat+k=n - 1->xJ (ig n R B 0 R.length) k e=oo R B k e
 | 0,_,_,_,_=>rfl
 | k+1,e,h0,h1,h2=>by
  have hr:=hP.ri h0 h1;obtain⟨x,rfl⟩:∃x:Nat,e=x:=⟨e.toNat,by omega⟩;rw [xJ,Xc hP (by omega),Xh hr.1 (by omega)];refine E8 fun f hf=>?_
  have hf:=(nz.1 (fU.1 hf).1);rw [Rb hP k f hf.1.1 hf.1.2 (by omega)]
theorem aba(hn:1<=n)(hP:gE n R B):ou (ig n R B 0 R.length) (n - 1) [] ((vh R).filter fun f=>decide (ew n R B f))=aC n R B:=by
 rw [Qw];unfold ou;refine E8 fun e he=>?_
 have he:=uz.1 (fU.1 he).1;rw [Rb hP _ e he.1.1 he.1.2 (by omega)]
 rfl
theorem Zk{m:Nat}(hm:m<R.length):((bN (m+1)).filter fun e=>decide (gi R e=0) && decide (ew n R B e))=((bN m).filter fun e=>decide (gi R e=0) && decide (ew n R B e))++ (if gi R m=0/\ew n R B m then [(m:Int)]else []):=by
 unfold bN;rw [nZ,jm,oR]
 congr 1
 by_cases c:gi R m=0/\ew n R B m
 ·rw [ay c];simp [c.1,c.2]
 rw [aw c];rw [List.filter_eq_nil_iff];intro a ha h;obtain rfl:=fm.1 ha;simp at h;exact c h
theorem Zj:((bN R.length).filter fun e=>decide (gi R e=0) && decide (ew n R B e))=(vh R).filter fun f=>decide (ew n R B f):=by
 unfold vh;rw [List.filter_filter];exact List.filter_congr fun x _=>Bool.and_comm _ _
end
def xL(n:Nat)(R:ai)(B:ah):ah:=if(aC n R B).length<=400 then aC n R B else []
def rM(n:Nat)(R:ai)(B:ah):Int:=if(aC n R B).length<=400 then 0 else 3
abbrev vp(A1 PU Au fN:aj)(n:Nat)(A D:aj)(N cA cD:Nat)(al:List Bool)(dU:List aQ)(U:ah):List Ck:=
 gm 4 fN N N al::Bx 22 1 PU [.slice Au N N]::bH A1 n A N cA D N cD::(aO 32 2 Au N N dU U++ [])
theorem Rv(n:Nat)(A D:aj)(cA cD:Nat)(R:ai)(rs:List aQ)(B:ah)(w:aa)(hR:di w A R.length R)(hB:bz w D B.length rs B)(hP:gE n R B):
 aN prog 81 [.agg #[ak n,.slice A R.length cA,.slice D B.length cD]] w (Hg (xL n R B) (rM n R B) w):=by
 have hn:=hP.n1;have pb:=hP.oV;have hle:=hP.len;have cJ:=fun e (h:e<R.length)=>hP.row e h
 have b5:∀e:Nat,e<R.length->(gl B e).length<=500:=fun e h=>by
  have:=qA (N:=R.length) (cJ e h).1.nodup fun x hx=> ((cJ e h).2 x hx).1
  omega
 have Ns:∀E F:Nat,(ig n R B E F).length=R.length:=fun E F=>AO
 have nH:∀E F:Nat,(gU n R B E F).length=R.length:=fun E F=>tq
 have Un:=fun E (h:E<R.length)=>ajo (n:=n) hP h
 have Um:=fun E (h:E<R.length)=>YH (n:=n) hP h
 have Tv:=ajl (n:=n) (R:=R) (B:=B) (F:=R.length);have Tw:=YE (n:=n) (R:=R) (B:=B) (F:=R.length);have IP:=fun E F (h:E<F) (hF:F<R.length)=>YD (n:=n) hP h hF
 have zW:=fun E F (hE:E<R.length) h=>ajm (n:=n) (R:=R) (B:=B) (E:=E) (F:=F) hE h
 have TY:=fun E F (hE:E<R.length) h=>YF (n:=n) (R:=R) (B:=B) (E:=E) (F:=F) hE h
 have LR:bz w D R.length rs B:=hle▸hB;have ac1:=UL n A D cA cD R rs B w hR hB hP;have oC:=fun x (h:x<R.length)=>YC (n:=n) hP h
 have Uq:=fun x (h:x<R.length)=>Xc (n:=n) hP h
 have Tu:=aba (n:=n) (by omega) hP;have DB:=fun m (h:m<R.length)=>Zk (n:=n) (B:=B) h
 have vC:=Zj (n:=n) (R:=R) (B:=B);have Ur:=fun(e f:Int)=>nz (R:=R) (B:=B) (e:=e) (f:=f)
 obtain⟨N,hN⟩:∃N,R.length=N:=⟨_,rfl⟩;rw [hN]at hR pb hle cJ b5 LR Un Um Tv Tw IP zW TY oC Uq Tu DB vC;simp only [hN]at Ns nH Ur;rw [hN,hle]at ac1|-;refine bI func81 O ntmps81 O (vZ O) (bc O (mW (St.refl w) O O ?_));intro A1 w1 aE;have h1:Rd w1 A1 3 (fun j=> [Value.int .i64 (n:Int),.slice A N cA,.slice D N cD].getD j undef):=aE.rd 0 O;refine ar O (alC 2 h1 O ?_);refine als (UL n A D cA cD R rs B w1 (by rw [hN];exact aE.gH hR) (by rw [hle];exact aE.bS LR) hP) O (by rw [hN,hle];rfl) O ?_;rintro _ w2 ⟨rfl,ax⟩;have aD:=aE.aq ax.below;have h1:=Rd.below h1 ax.below;clear ax aE
 first | refine eZ rfl rfl ?_ | refine fY rfl rfl ?_
 refine aI O (Cd.gq O (aG O (aW h1 O (a8 h1 O (aL (CA _ _ _ _) O ?_)))));rintro _ w2 ⟨rfl,rfl⟩;refine ar O (Hn N aD O O (by omega) ?_);intro Au w3 aM;have aM:St w w3 ([b9 32 Au N N (List.replicate N eA),bH A1 n A N cA D N cD]):=aM;refine ao.new (z:= .slice none 0 0) aM O O ?_;intro PU w4 aU;refine ao.st (i:=0) (j:=0) aU O (by exact aK Value.pointer (pv _).symm) O O (Nat.succ_pos _) ?_;intro w5 aV;have aV:St w w5 (Bx 22 1 PU [.slice Au N N]::[b9 32 Au N N (List.replicate N eA),bH A1 n A N cA D N cD]):=aV;refine ar O (xA (v:=false) N aV O O (by omega) ?_);intro fN w6 aZ;have aZ:=GG (t:=2) N aZ;have a6:St w w6 (vp A1 PU Au fN n A D N cA cD (gU n R B N N) (List.replicate N eA) (ig n R B N N)):=by
  rw [Tv,Tw];refine aZ.perm ?_
  classical
  refine nC.2 fun z=>?_
  simp only [vp,aO,qk,mV,ql];omega
 clear aZ aV aU aM aD h1;refine ar O (dT O (aI O ?_));refine Cd.loop (α:=Nat×List aQ) (fun z=> [(1,.pointer A1),(4,ak N),(5,.pointer PU),(6,.slice fN N N),(7,ak ((z.1:Int) - 1))]) (fun z w'=>z.1<=N/\z.2.length=N/\St w w' (vp A1 PU Au fN n A D N cA cD (gU n R B z.1 N) z.2 (ig n R B z.1 N))) (fun z=>z.1) (N,List.replicate N eA) (alH O) ⟨bB _,by simp,a6⟩ ?_;clear a6;rintro⟨E',dU⟩ e w7 ⟨hE,wW,hS⟩;dsimp only at hE wW hS|-;refine b8 O (aR _ O (fun h2=>?_) (fun h2=>?_))
 ·obtain⟨E,rfl⟩:∃E,E'=E+1:=⟨E' - 1,by omega⟩;have sG:E<N:=by omega
  rw [show((E+1:Nat):Int) - 1=(E:Int) by omega];have SS:=hS.gH hR;have hal7:=nH (E+1) N;refine cM O ?_;refine jA [12] [yS (fN) (N) (N),yI ((E:Int)),yP (aB (A1) 1),yS (A) (N) (cA),yI ((E:Int)),yP (aB (A) ((E:Int)).toNat),yI (gi (R) ((E:Int))),yP (aB (A1) 0),yI ((n:Int)),yI (((n:Int)) - ((1:Int))),yB (decide ((gi (R) ((E:Int)))=(((n:Int)) - ((1:Int))))),yP (aB (fN) ((E:Int)).toNat),.pr (fun _ w'=>St w w' (vp A1 PU Au fN n A D N cA cD ((gU n R B (E+1) N).set E (decide (gi R E=(n:Int) - 1))) dU (ig n R B (E+1) N)))] (ly (ly (ly (ly (ly (ly (ly (ly (ly (ly (ly (ly (cj.2 ⟨Ye.cN (fun v w w' h hb=>h.aq hb),(fun _ h=>by cases h)⟩))))))))))))) ?_ ?_
  ·refine⟨bQ O,bQ O,cP fun _ _ hb _ _ _=>aW ((hS.rd 2 O).below hb) O (bq O O),cP fun _ _ hb _ _ _=>a8 ((hS.rd 2 O).below hb) O (bq O O),bQ O,cP fun _ _ hb _ _ _=>aF (SS.aq hb).2 O (bq O O),cP fun _ _ hb _ _ _=>bh (SS.aq hb) O (bq O O),cP fun _ _ hb _ _ _=>aW ((hS.rd 2 O).below hb) O (bq O O),cP fun _ _ hb _ _ _=>iW ((hS.rd 2 O).below hb) O O O O O (bq O O),aP fun _ _=>dT O (bq O O),bQ O,cP fun _ _ hb _ _ _=>aF ((hS.ji 0 O).aq hb).2 O (bq O O),?_,av⟩;refine jC fun e1 w1 hb hp aY hq=>?_
   exact tn 0 (hS.aq hb) O O O (by omega) fun w6 aZ=>ao.n (fH.st O aZ)
  intro u w8 _ hu jx hu3;have bL:=hu 12 _ O (by kernel_rfl);rw [Um E sG,<-Un E sG]at bL;clear hS hu jx hu3;refine iV O (aJ O (aI O ?_));refine Cd.loop (α:=Nat×List aQ) (fun z=> [(1,.pointer A1),(4,ak N),(5,.pointer PU),(6,.slice fN N N),(7,ak E),(8,ak (z.1:Int))]) (fun z w'=> (E<z.1/\z.1<=N)/\z.2.length=N/\St w w' (vp A1 PU Au fN n A D N cA cD (gU n R B E z.1) z.2 (ig n R B E z.1))) (fun z=>N - z.1) (E+1,dU) (alH O) ⟨⟨Nat.lt_succ_self _,by show E+1<=N;omega⟩,wW,bL⟩ ?_;clear bL wW dU;rintro⟨F,dU⟩ e w9 ⟨⟨Bu,hFN⟩,wW,hS⟩;dsimp only at Bu hFN wW hS|-;refine b8 O (aR _ O (fun h3=>?_) (fun h3=>?_))
  ·have hF:F<N:=by omega
   have zF:=hS.gH hR;have hB9:=hS.bS LR;have hal9:=nH E F;have ME:=IP E F Bu hF;have DS:=cJ F hF;have Nt:=Ur (E:Int) (F:Int);have fR:=hP.ri (e:=(E:Int)) (by omega) (by omega);have h1:Rd w9 A1 3 (fun j=> [Value.int .i64 (n:Int),.slice A N cA,.slice D N cD].getD j undef):=hS.rd 2 O;have FO:gb (gU n R B E F) F=false\/(gb (gU n R B E F) F=true/\¬gi R F=gi R E+1)\/(gb (gU n R B E F) F=true/\gi R F=gi R E+1):=by
    cases gb (gU n R B E F) F<;>simp [Decidable.em,Classical.em]
    exact(Classical.em _).symm
   have nM:¬(ew n R B F/\(F:Int)∈lj R B E)->St w w9 (vp A1 PU Au fN n A D N cA cD (gU n R B E (F+1)) dU (ig n R B E (F+1))):=fun h=>by
    rw [YG h,ajn h];exact hS
   rcases FO with hg | ⟨hg,hr⟩ | ⟨hg,hr⟩
   ·
    have iF:¬(ew n R B F/\(F:Int)∈lj R B E):=fun h=>by
     rw [hg]at ME;have:=eP h.1;rw [<-ME]at this;cases this
    refine cM O (eB [xS (fN) (N) (N),xI ((F:Int)),xP (aB (fN) ((F:Int)).toNat),xB (gb (gU n R B E F) ((F:Int))),xB (false),xU,xU,xU,xU,xU,xU,xU,xU,xU,xU,xU,xU,xB (false),xB (false),xU,xU,xU,xB (false)] O (eQ O) ?_ ?_)
    ·exact⟨Dr O,Dr O,fun _ _ hb _ _=>aF ((hS.ji 0 O).aq hb).2 O Az,fun _ _ hb _ _=>rG ((hS.ji 0 O).aq hb) O (by omega) O O Az,fun _ _ _ _ _=>Dk O (by exact aK Value.bool (hg)),Dr O,Dr O,Dr O,Dr O,Dr O,Dr O,Dr O,Dr O,Dr O,Dr O,Dr O,Dr O,Dr O,fun _ _ _ _ _=>Dk O (by exact aK Value.bool (O)),Dr O,Dr O,Dr O,Dr O,av⟩
    intro u dQ hb _;refine fh O (Cd.gq O ?_);refine aG O (aJ O (aT O (tQ ?_)));exact⟨(F+1,dU),by show N - (F+1)<N - F;omega,(alH O),⟨Nat.lt_succ_of_lt Bu,hF⟩,wW,(nM iF).aq hb⟩
   ·have iF:¬(ew n R B F/\(F:Int)∈lj R B E):=fun h=>hr (Nt.1 h.2).2.1
    refine cM O ?_;refine eB [xS (fN) (N) (N),xI ((F:Int)),xP (aB (fN) ((F:Int)).toNat),xB (gb (gU n R B E F) ((F:Int))),xB (true),xP (aB (A1) 1),xS (A) (N) (cA),xI ((F:Int)),xP (aB (A) ((F:Int)).toNat),xI (gi (R) ((F:Int))),xP (aB (A1) 1),xS (A) (N) (cA),xI ((E:Int)),xP (aB (A) ((E:Int)).toNat),xI (gi (R) ((E:Int))),xI ((gi (R) ((E:Int)))+ ((1:Int))),xB (decide ((gi (R) ((F:Int)))=((gi (R) ((E:Int)))+ ((1:Int))))),xB (decide ((gi (R) ((F:Int)))=((gi (R) ((E:Int)))+ ((1:Int))))),xB (false),xU,xU,xU,xB (false)] O (eQ O) ?_ ?_
    ·exact⟨Dr O,Dr O,fun _ _ hb _ _=>aF ((hS.ji 0 O).aq hb).2 O Az,fun _ _ hb _ _=>rG ((hS.ji 0 O).aq hb) O (by omega) O O Az,fun _ _ _ _ _=>Dk O (by exact aK Value.bool (hg)),fun _ _ hb _ _=>au O (aW (h1.below hb) O Az),fun _ _ hb _ _=>au O (a8 (h1.below hb) O Az),Dr O,fun _ _ hb _ _=>au O (aF (zF.aq hb).2 O Az),fun _ _ hb _ _=>au O (bh (zF.aq hb) O Az),fun _ _ hb _ _=>au O (aW (h1.below hb) O Az),fun _ _ hb _ _=>au O (a8 (h1.below hb) O Az),Dr O,fun _ _ hb _ _=>au O (aF (zF.aq hb).2 O Az),fun _ _ hb _ _=>au O (bh (zF.aq hb) O Az),fun _ _ _ _ _=>au O (aJ O Az),Dr O,Dr O,fun _ _ _ _ _=>Dk O (by exact aK Value.bool (dk hr)),Dr O,Dr O,Dr O,Dr O,av⟩
    intro u dQ hb _;refine fh O (Cd.gq O ?_);refine aG O (aJ O (aT O (tQ ?_)));exact⟨(F+1,dU),by show N - (F+1)<N - F;omega,(alH O),⟨Nat.lt_succ_of_lt Bu,hF⟩,wW,(nM iF).aq hb⟩
   have ha:ew n R B F:=tX (ME▸hg);refine cM O ?_;refine eB [xS (fN) (N) (N),xI ((F:Int)),xP (aB (fN) ((F:Int)).toNat),xB (gb (gU n R B E F) ((F:Int))),xB (true),xP (aB (A1) 1),xS (A) (N) (cA),xI ((F:Int)),xP (aB (A) ((F:Int)).toNat),xI (gi (R) ((F:Int))),xP (aB (A1) 1),xS (A) (N) (cA),xI ((E:Int)),xP (aB (A) ((E:Int)).toNat),xI (gi (R) ((E:Int))),xI ((gi (R) ((E:Int)))+ ((1:Int))),xB (decide ((gi (R) ((F:Int)))=((gi (R) ((E:Int)))+ ((1:Int))))),xB (decide ((gi (R) ((F:Int)))=((gi (R) ((E:Int)))+ ((1:Int))))),xB (true),xI ((E:Int)),xI ((F:Int)),xB (decide ((E:Int)∈gl B F)),xB (decide ((E:Int)∈gl B F))] O (eQ O) ?_ ?_
   ·refine⟨Dr O,Dr O,fun _ _ hb _ _=>aF ((hS.ji 0 O).aq hb).2 O Az,fun _ _ hb _ _=>rG ((hS.ji 0 O).aq hb) O (by omega) O O Az,fun _ _ _ _ _=>Dk O (by exact aK Value.bool (hg)),fun _ _ hb _ _=>au O (aW (h1.below hb) O Az),fun _ _ hb _ _=>au O (a8 (h1.below hb) O Az),Dr O,fun _ _ hb _ _=>au O (aF (zF.aq hb).2 O Az),fun _ _ hb _ _=>au O (bh (zF.aq hb) O Az),fun _ _ hb _ _=>au O (aW (h1.below hb) O Az),fun _ _ hb _ _=>au O (a8 (h1.below hb) O Az),Dr O,fun _ _ hb _ _=>au O (aF (zF.aq hb).2 O Az),fun _ _ hb _ _=>au O (bh (zF.aq hb) O Az),fun _ _ _ _ _=>au O (aJ O Az),Dr O,Dr O,fun _ _ _ _ _=>Dk O (by exact aK Value.bool (eP hr)),Dr O,Dr O,?_,Dr O,av⟩;intro e1 w1 hb hp aY;refine au O ?_;refine aL (vU A1 A D cA cD n R rs B E F _ (by rw [hN,hle];exact Rd.below h1 hb) (by rw [hle];exact hB9.aq hb) (by omega) DS.1 (by have:=b5 F hF;omega)) O ?_;rintro _ w2 ⟨rfl,ax⟩;subst ax;refine ao.n (d0 (by exact O))
   intro u dQ hb _;have bO:=hS.aq hb;refine fh O (aR _ O (fun h4=>?_) (fun h4=>?_))
   ·have kH:ew n R B F/\(F:Int)∈lj R B E:=⟨ha,Nt.2 ⟨by omega,hr,h4⟩⟩;have ad6:=Ns E F;have mD:bz dQ Au N dU (ig n R B E F):=by
     have h9:=bO.sub (show(aO 32 2 Au N N dU (ig n R B E F)).Sublist _ from(((uw _ _).cons _).cons _).cons _);exact h9.s7 ad6
    have yn:=(mD.at_ (i:=(E:Int)) (by omega) (by omega)).1;have iS:(rg dU E).n<=500:=by
     rw [<-yn,O4 (by omega)];unfold xk
     split
     ·exact bm _
     refine l5 (rD _ _) ?_;have:=qA (N:=R.length) (Ew R B E).nodup fun x hx=> (nz.1 hx).1
     omega
    have S6:Rd dQ PU 1 (fun _=> .slice Au N N):=Rd.one (bO.rd 1 O);have qT:∀A9:aj,(az 2 A9 1 1 [(F:Int)]::vp A1 PU Au fN n A D N cA cD (gU n R B E F) dU (ig n R B E F))[4+1+E]?=some (az 2 (rg dU E).a (rg dU E).n (rg dU E).c (gl (ig n R B E F) E)):=fun A9=>D7 (t1:=32) (t2:=2) (A:=Au) (n:=N) (c:=N) (rs:=dU) (xss:=ig n R B E F) (pre:=[az 2 A9 1 1 [(F:Int)],gm 4 fN N N (gU n R B E F),Bx 22 1 PU [.slice Au N N],bH A1 n A N cA D N cD]) (ks:=[]) (i:=E) (by omega) (by omega)
    have oy:=fun(A9:aj) (s:aQ) (xs:ai)=>N7 (t1:=32) (t2:=2) (A:=Au) (n:=N) (c:=N) (rs:=dU) (xss:=ig n R B E F) (ks:=[]) (pre:=[az 2 A9 1 1 [(F:Int)],gm 4 fN N N (gU n R B E F),Bx 22 1 PU [.slice Au N N],bH A1 n A N cA D N cD]) (i:=E) s xs (by omega) (by omega)
    clear hS;refine cM O ?_;refine jA [8,10] [yS Au N N,yI ((E:Int)),yS (Au) (N) (N),yI ((E:Int)),yP (aB (Au) ((E:Int)).toNat),yS ((rg (dU) ((E:Int))).a) ((rg (dU) ((E:Int))).n) ((rg (dU) ((E:Int))).c),yI ((F:Int)),.pr (fun v w'=>∃A9,v= .slice A9 1 1/\St w w' (az 2 A9 1 1 [(F:Int)]::vp A1 PU Au fN n A D N cA cD (gU n R B E F) dU (ig n R B E F))),.pr (fun v w'=>∃AZ cZ,v= .slice AZ ((rg dU E).n+1) cZ/\St w w' (gm 4 fN N N (gU n R B E F)::Bx 22 1 PU [.slice Au N N]::bH A1 n A N cA D N cD::(b9 32 Au N N dU::(dq 2 (dU.set E ⟨AZ,(rg dU E).n+1,cZ⟩) ((ig n R B E F).set E (gl (ig n R B E F) E++ [(F:Int)]))++ [])))),yP (aB Au ((E:Int)).toNat),.pr (fun _ w'=>∃AZ cZ,St w w' (vp A1 PU Au fN n A D N cA cD (gU n R B E F) (dU.set E ⟨AZ,(rg dU E).n+1,cZ⟩) ((ig n R B E F).set E (gl (ig n R B E F) E++ [(F:Int)]))))] (ly (ly (ly (ly (ly (ly (ly (cj.2 ⟨Ye.cN (fun v w w' h hb=>by obtain⟨A9,hv,hT⟩:=h;exact⟨A9,hv,hT.aq hb⟩),(cj.2 ⟨Ye.cN (fun v w w' h hb=>by obtain⟨AZ,cZ,hv,hT⟩:=h;exact⟨AZ,cZ,hv,hT.aq hb⟩),(ly (cj.2 ⟨Ye.cN (fun v w w' h hb=>by obtain⟨AZ,cZ,hT⟩:=h;exact⟨AZ,cZ,hT.aq hb⟩),(fun _ h=>by cases h)⟩))⟩)⟩)))))))) ?_ ?_
    ·refine⟨?_,bQ O,cP fun _ _ hb _ _ _=>alw (j:=0) (S6.below hb) (by exact aK Value.pointer (pv _).symm) O O O O (bq O O),bQ O,cP fun _ _ hb _ _ _=>aF (mD.top.aq hb).2 O (bq O O),cP fun _ _ hb _ _ _=>b6 (mD.top.aq hb) O (bq O O),bQ O,?_,?_,?_,?_,av⟩
     ·intro e1 w1 cc dS cI dX hp aY hq;show ao _ _ _ _ _ _ _;have hX:Rd w1 PU 1 (fun _=> .slice Au N N):=by { have cI:=pj cI (b:=1) (by kernel_rfl);rcases(show cc=0\/cc=1 by omega)with h | h; { exact Rd.below S6 (dX h) }; { subst h;obtain⟨AZ,cZ,_,hT⟩:=hq 8 _ _ (by kernel_rfl) (by kernel_rfl) (by kernel_rfl) rfl rfl (by kernel_rfl);exact Rd.one (hT.rd 1 rfl) } }
      refine alw (j:=0) hX (by exact aK Value.pointer (pv _).symm) O O O O (ao.n (fL O (by exact O)))
     ·refine cP fun e1 w1 hb hp aY hq=>?_
      exact dV (St.refl _) O O O fun A9 w9 ax=>ao.n (eO.dn O ax.below ⟨A9,O,(bO.aq hb).call ax⟩)
     ·refine jC fun e1 w1 hb hp aY hq=>?_
      obtain⟨A9,h78,hT⟩:=(hp 7 _ _ (by kernel_rfl) rfl rfl (by kernel_rfl));refine fp (4+1+E) hT (qT A9) (hT.bF 0 O) O (by exact h78) O ?_;intro AZ cZ wZ hZ;have hZ:=(oy A9 ⟨AZ,(rg dU E).n+1,cZ⟩ (gl (ig n R B E F) E++ [(F:Int)]))▸hZ;exact ao.n (fH.dn O ⟨AZ,cZ,O,hZ.tail⟩)
     ·intro e1 w1 cc dS cI dX hp aY hq;show ao _ _ _ _ _ _ _;have hX:jo w1 Au N dU:=by { have cI:=pj cI (b:=1) (by kernel_rfl);rcases(show cc=0\/cc=1 by omega)with h | h; { exact mD.top.aq (dX h) }; { subst h;obtain⟨AZ,cZ,_,hT⟩:=hq 8 _ _ (by kernel_rfl) (by kernel_rfl) (by kernel_rfl) rfl rfl (by kernel_rfl);exact hT.ie 3 rfl } }
      refine aF hX.2 O (ao.n (fL O (by exact O)))
     refine rJ 1 fun e1 w1 hp aY hq=>?_
     have fe:=hp 8 _ _ (by kernel_rfl) O O (by kernel_rfl);obtain⟨AZ,cZ,h79,hT⟩:=fe;refine Bg (te:=32) (n:=N) (c:=N) (A:=Au) (xs:=dU) 3 hT O O (by exact h79) (by omega) ?_;intro wY hY;exact ao.n (fH.st O ⟨AZ,cZ,hY⟩)
    intro u lW _ hu _ _;obtain⟨AZ,cZ,hT⟩:=hu 10 _ rfl (by kernel_rfl);rw [zW E F sG kH]at hT;refine iV O (aF (hT.ji 0 O).2 O (tn 0 hT O O O (by omega) ?_));intro nW ia;rw [gI,TY E F sG kH]at ia;refine ar O (aJ O (aT O (tQ ?_)));exact⟨(F+1,_),by show N - (F+1)<N - F;omega,(alH O),⟨Nat.lt_succ_of_lt Bu,hF⟩,by simp [wW],ia⟩
   have iF:¬(ew n R B F/\(F:Int)∈lj R B E):=fun h=>h4 (Nt.1 h.2).2.2
   refine aG O (aJ O (aT O (tQ ?_)));exact⟨(F+1,dU),by show N - (F+1)<N - F;omega,(alH O),⟨Nat.lt_succ_of_lt Bu,hF⟩,wW,(nM iF).aq hb⟩
  have hF:F=N:=by omega
  subst hF;refine bw O (bA (dh O (dT O (aT O (tQ ?_)))));exact⟨(E,dU),by show E<E+1;omega,(alH O),by show E<=F;omega,wW,hS⟩
 obtain rfl:E'=0:=by omega
 refine bw O (bA (dh O ?_));refine ao.new (z:= .slice none 0 0) hS O O fun PF w8 bL=>ar O (ao.new (z:= .nilFunc) bL O O ?_);intro PG w9 a7;refine ar O (Yi O O O O O (ao.st (i:=0) (j:=0) a7 O (by exact aK Value.pointer (pv _).symm) O O (Nat.succ_pos _) ?_));intro dQ bO;have bO:=(bO.nil 2);clear a7 bL hS;refine aI O (Cd.loop (α:=Nat×aj×Nat) (fun z=> [(1,.pointer A1),(4,ak N),(6,.slice fN N N),(9,.pointer PF),(10,.pointer PG),(11,.slice z.2.1 ((bN z.1).filter fun e=>decide (gi R e=0) && decide (ew n R B e)).length z.2.2),(85,ak N),(86,ak (z.1:Int))]) (fun z w'=>z.1<=N/\St w w' (az 2 z.2.1 ((bN z.1).filter fun e=>decide (gi R e=0) && decide (ew n R B e)).length z.2.2 ((bN z.1).filter fun e=>decide (gi R e=0) && decide (ew n R B e))::Bx 121 1 PG [.func (.func 140) #[] #[.pointer PF,.pointer A1,.pointer PG,.pointer PU]]::Bx 22 1 PF [.slice none 0 0]::vp A1 PU Au fN n A D N cA cD (gU n R B 0 N) dU (ig n R B 0 N))) (fun z=>N - z.1) (0,none,0) (alH O) ⟨bm _,bO⟩ ?_);clear bO;rintro⟨j,AF,cF⟩ e eI ⟨hj,hS⟩;dsimp only at hj hS|-;have iw:((bN j).filter fun e=>decide (gi R e=0) && decide (ew n R B e)).length<=500:=by
  refine l5 (rD _ _) ?_;rw [bN,fj,qE];omega
 refine b8 O (aR _ O (fun h3=>?_) (fun h3=>?_))
 ·have zP:j<N:=by omega
  have ID:=DB j zP;have BA:=hS.gH hR;have h1:Rd eI A1 3 (fun j=> [Value.int .i64 (n:Int),.slice A N cA,.slice D N cD].getD j undef):=hS.rd 5 O;have Sl:vf eI fN N (gU n R B 0 N):=hS.ji 3 O;have hfj:=oC j zP;have nM:¬(gi R j=0/\ew n R B j)->((bN (j+1)).filter fun e=>decide (gi R e=0) && decide (ew n R B e))=((bN j).filter fun e=>decide (gi R e=0) && decide (ew n R B e)):=fun h=>by
   rw [ID,aw h,eu]
  refine aG O (aW h1 O (a8 h1 O (ar O (aF BA.2 O (bh BA O (ar O ?_))))));refine cT 95 O (fun h4=>?_) (fun h4=>?_)
  ·refine au O (ar O (au O (ar O (au O ?_))));refine aF Sl.2 O (au O (rG Sl O (by omega) O O (aI O ?_)));rw [hfj];refine aR _ O (fun h5=>?_) (fun h5=>?_)
   ·rw [ay ⟨h4,h5⟩]at ID;refine aG O (dV hS O O O ?_);intro A9 gL fB;refine fp 1 fB O (fB.bF 0 O) O O O ?_;intro AZ cZ gC gA;have gA:=gA.tail;refine ar O (aJ O (aT O (tQ ?_)));refine⟨(j+1,AZ,cZ),by show N - (j+1)<N - j;omega,⟨O,O,O,O,O,?_,O,O,av⟩,by show j+1<=N;omega,?_⟩
    ·show Value.slice _ _ _=_;rw [ID,dI];rfl
    show St w gC (az _ _ (((bN (j+1)).filter _).length) _ ((bN (j+1)).filter _)::_);rw [ID,dI];exact gA
   refine aG O (aJ O (aT O (tQ ?_)));refine⟨(j+1,AF,cF),by show N - (j+1)<N - j;omega,⟨O,O,O,O,O,?_,O,O,av⟩,by show j+1<=N;omega,?_⟩
   ·show Value.slice _ _ _=_;rw [nM (fun h=>h5 h.2)]
   show St w eI (az _ _ (((bN (j+1)).filter _).length) _ ((bN (j+1)).filter _)::_);rw [nM (fun h=>h5 h.2)];exact hS
  refine aA O (aA O (aA O (aA O (aI O ?_))));refine Cd.gq O (aG O (aJ O (aT O (tQ ?_))));refine⟨(j+1,AF,cF),by show N - (j+1)<N - j;omega,⟨O,O,O,O,O,?_,O,O,av⟩,by show j+1<=N;omega,?_⟩
  ·show Value.slice _ _ _=_;rw [nM (fun h=>h4 h.1)]
  show St w eI (az _ _ (((bN (j+1)).filter _).length) _ ((bN (j+1)).filter _)::_);rw [nM (fun h=>h4 h.1)];exact hS
 obtain rfl:j=N:=by omega
 rw [vC]at hS iw|-;generalize hfi:((vh R).filter fun f=>decide (ew n R B f))=fi at*;have acP:∀x∈fi,0<=x/\x< (j:Int):=fun x hx=>by
  rw [<-hfi]at hx;have:=(uz.1 (fU.1 hx).1).1;omega
 have nI:Rd eI PG 1 (fun _=> .func (.func 140) #[] #[.pointer PF,.pointer A1,.pointer PG,.pointer PU]):=Rd.one (hS.rd 1 O);have hSG:St w eI (pJ PF none 0 [] [] A1 n A j cA D j cD PG PU Au j j dU (ig n R B 0 j) [az 2 AF fi.length cF fi,gm 4 fN j j (gU n R B 0 j)]):=by
  have h9:=(hS.perm (show List.Perm _ (Bx 22 1 PF [.slice none 0 0]::(bH A1 n A j cA D j cD::Bx 121 1 PG [.func (.func 140) #[] #[.pointer PF,.pointer A1,.pointer PG,.pointer PU]]::Bx 22 1 PU [.slice Au j j]::(aO 32 2 Au j j dU (ig n R B 0 j)++ [az 2 AF fi.length cF fi,gm 4 fN j j (gU n R B 0 j)]))) from by
   classical
   refine nC.2 fun z=>?_
   simp only [vp,qk,mV,ql];omega))
  exact(h9.nil 32).perm (List.Perm.swap _ _ _)
 clear hS;have nG:∀e:Nat,e<j->(gl (ig n R B 0 j) e).length<=500/\∀x∈gl (ig n R B 0 j) e,0<=x/\x< (j:Int):=fun e he=>by
  rw [Uq e he];refine⟨l5 (rD _ _) ?_,fun x hx=>?_⟩
  ·have:=qA (N:=R.length) (Ew R B e).nodup fun x hx=> (nz.1 hx).1
   omega
  have:=(nz.1 (fU.1 hx).1).1;omega
 refine bw O (bA (dh O ?_));refine ao.ld nI (by exact aK Value.pointer (pv _).symm) (by decide) O O O ?_;refine ar O (aL (abd w n (by omega) PF A1 A D PG PU Au j cA j cD j j dU (ig n R B 0 j) (Ns 0 j) (by omega) nG (n - 1) 0 fi.length [] fi none AF 0 cF [az 2 AF fi.length cF fi,gm 4 fN j j (gU n R B 0 j)] _ none 0 [] [] O O (by omega) iw acP (fun _ _ _ _ _ _=>di.nil) (fun w' A c rs F h=>Vo h) O (bm _) hSG) O ?_);rintro _ gL ⟨rfl,A',c',rs',gg,hS⟩;rw [List.nil_append,Tu]at gg hS;have df:Rd gL PF 1 (fun _=> .slice A' (cap (aC n R B)).length c'):=Rd.one (hS.rd 0 O);refine ar O (alw (j:=0) df (by exact aK Value.pointer (pv _).symm) O O O O ?_);refine bk O O (aI O ?_);have da:=KL (aC n R B);have Mr:=HE (l:=aC n R B);refine aR _ O (fun h4=>?_) (fun h4=>?_)
 ·have iF:¬(aC n R B).length<=400:=fun h=>by have:=Mr.2 h;omega
  refine eF O (GW O O ?_);unfold xL rM;rw [aw iF,aw iF];exact Hg.none hS
 have kH:(aC n R B).length<=400:=Mr.1 (by omega);rw [zq (by omega)]at gg hS df|-;refine aG O (alw (j:=0) df (by exact aK Value.pointer (pv _).symm) O O O O (bM O (GW O O ?_)));unfold xL rM;rw [ay kH,ay kH];exact⟨A',c',rs',O,gg,Yv (pre:=[]) (hS.sub ((uw _ _).cons _))⟩
def jH(H:List Bool)(vs:ai):List Bool:=vs.foldl (fun H v=>H.set v.toNat true) H
theorem VX(H:List Bool)(vs:ai)(v:Int):jH H (vs++ [v])=(jH H vs).set v.toNat true:=by simp [jH,List.foldl_append]
theorem ahl(H:List Bool):∀vs,(jH H vs).length=H.length:=by
 intro vs;unfold jH
 induction vs generalizing H with
 | nil=>rfl
 | cons a r ih=>rw [List.foldl_cons,ih,jK]
theorem ahk(H:List Bool)(vs:ai)(hv:∀v∈vs,0<=v/\v<H.length)(x:Int)(h0:0<=x):gb (jH H vs) x=(gb H x || decide (x∈vs)):=by
 unfold jH
 induction vs generalizing H with
 | nil=>simp
 | cons a r ih=>
  have ha:=hv a (by simp);rw [List.foldl_cons,ih _ (fun v h=>by rw [jK];exact hv v (by simp [h])),Fe ha.1 ha.2 h0]
  by_cases e:a=x
  ·subst e;simp
  ·have e':¬x=a:=fun h=>e h.symm
   simp [e,e']
theorem RN(n:Nat)(x:Int):gb (List.replicate n false) x=false:=by
 unfold gb;rw [dd,List.getElem?_replicate]
 split<;>rfl
theorem ahj{m:Nat}{F:ah}(h:∀l∈F,∀x∈l,0<=x/\x< (m:Int))(x:Int)(h0:0<=x):gb (jH (List.replicate m false) F.flatten) x=decide (∃l∈F,x∈l):=by
 rw [ahk _ _ (fun v hv=>by
  obtain⟨l,hl,hx⟩:=List.mem_flatten.1 hv;rw [List.length_replicate];exact h l hl v hx) x h0,RN,Bool.false_or]
 exact ke.2 (by rw [List.mem_flatten])
def mO(m:Nat):List Bool:=List.replicate m false
theorem Om(m:Nat)(vs:ai):(jH (mO m) vs).length=m:=by rw [ahl];simp [mO]
theorem VM{m:Nat}{F:ah}(h:∀l∈F,∀x∈l,0<=x/\x< (m:Int)):¬(false∈jH (mO m) F.flatten)↔∀x:Int,0<=x->x< (m:Int)->∃l∈F,x∈l:=by
 have hl:=Om m F.flatten;have hg:=fun(x:Int) (h0:0<=x)=>ahj h x h0
 constructor
 ·intro hn x h0 h1;apply nA;intro hc;have h2:gb (jH (mO m) F.flatten) x=false:=(hg x h0).trans (dk hc);apply hn;have h3:x.toNat< (jH (mO m) F.flatten).length:=by omega
  rw [<-h2,gb,dd,gO h3];exact dH _
 intro ha hm;obtain⟨k,hk,e⟩:=fV.1 hm;have h2:=hg (k:Int) (by omega);rw [eP (ha (k:Int) (by omega) (by omega))]at h2;have h3:gb (jH (mO m) F.flatten) k=(jH (mO m) F.flatten)[k]:=by simp [gb,dd,hk]
 have h4:gb (jH (mO m) F.flatten) k=true:=h2;rw [h3,e]at h4;cases h4
theorem XR(A:aj)(n c:Nat)(xs:List Bool)(v:Bool)(w:aa)(hR:vf w A n xs)(hn:n<=9223372036854775807):
 aN prog 210 [.slice A n c,.bool v] w (fun r w'=> (∃i:Int,r=ak i/\(0<=i↔v∈xs))/\w'=w):=by
 have dG:=hR.1;refine bI func210 O ntmps210 O (du O) ?_;refine bc O (bk O O (aI O ?_));refine Cd.loop (α:=Nat) (fun k=> [(0,.slice A n c),(1,.bool v),(7,ak n),(8,ak k)]) (fun k w'=>w'=w/\k<=n/\∀j:Nat,j<k->gb xs j≠v) (fun k=>n - k) 0 (alH O) ⟨O,bm _,fun j hj=>by omega⟩ ?_;rintro k e w ⟨rfl,hk,hK⟩;refine b8 O (aR _ O (fun h3=>?_) (fun h3=>?_))
 ·have hg:gb xs k=xs[k]'(by omega):=by simp [gb,dd,show k<xs.length by omega]
  refine aG O (aF hR.2 O (rG hR O (by omega) O O (Yf O O O (aI O ?_))));refine Cd.cond O (fun h4=>?_) (fun h4=>?_)
  ·refine eF O (fD (e6 ?_));refine jj O ?_;have h4:v=gb xs k:=by simpa using h4
   exact⟨⟨(k:Int),O,⟨fun _=>by rw [h4,hg];exact dH _,fun _=>by omega⟩⟩,O⟩
  refine aG O (aJ O (aT O (tQ ?_)));have h4:¬v=gb xs k:=by simpa using h4
  refine⟨k+1,by show n - (k+1)<n - k;omega,(alH O),O,by omega,fun j hj=>?_⟩
  by_cases ej:j=k
  ·subst ej;exact fun h=>h4 h.symm
  exact hK j (by omega)
 refine bw O (bA (ij O ?_));refine jj O ⟨⟨-1,O,⟨fun h=>absurd h (by decide),fun h=>?_⟩⟩,O⟩;obtain⟨j,hj,DJ⟩:=fV.1 h;exact absurd (by simpa [gb,dd,hj]using DJ) (hK j (by omega))
theorem XG(A:aj)(n c:Nat)(xs:List Bool)(v:Bool)(w:aa)(hR:vf w A n xs)(hn:n<=9223372036854775807):
 aN prog 150 [.slice A n c,.bool v] w (fun r w'=>r= .bool (decide (v∈xs))/\w'=w):=by
 refine bI func150 O ntmps150 O (du O) (bc O (aL (XR A n c xs v _ hR hn) O ?_));rintro _ w ⟨⟨i,rfl,hi⟩,rfl⟩;refine bM O (dz O ?_);exact⟨aK Value.bool (ke.2 hi),O⟩
theorem EN{w:aa}{A:aj}{n:Nat}{f:Nat->ad}(h:Rd w A n f)(hn:0<n):A.isNone=false:=by
 obtain⟨p,hp,_⟩:=h 0 hn;cases A with
 | none=>simp [aB]at hp
 | some q=>rfl
def EB(L:ai)(w:aa)(v:ad)(w':aa):Prop:=∃A' c',v= .slice A' L.length c'/\St w w' [az 2 A' L.length c' L]
theorem CC{xs:ai}{j:Nat}(h:j<xs.length):xs.take (j+1)=xs.take j++ [gi xs j]:=by
 rw [su h,cd h]
theorem aeE(n:Int)(A D:aj)(cA N m cD:Nat)(Af:aj)(nf cf:Nat)(rs:List aQ)(fl:ah)(w:aa)(hF:bz w Af nf rs fl)(hN:N<=500)(hr:∀l∈fl,l.length<=1000/\∀x∈l,0<=x/\x< (N:Int))(Ga:nf<=100000):
 aN prog 87 [.agg #[ak n,.slice A N cA,.slice D m cD],.slice Af nf cf] w (fun v w'=>∃b:Bool,v= .bool b/\(b=true↔∀x:Int,0<=x->x< (N:Int)->∃l∈fl,x∈l)/\St w w' []):=by
 have iw:=hF.len;refine bI func87 O ntmps87 O (du O) (bc O (mW (St.refl w) O O ?_));intro A1 w1 aE;have h1:Rd w1 A1 3 (fun j=> [Value.int .i64 n,.slice A N cA,.slice D m cD].getD j undef):=aE.rd 0 O;refine ar O (aW h1 O (a8 h1 O (bk O O (xA (v:=false) N aE O O (by omega) ?_))));intro A5 w2 aD;have aD:St w w2 [gm 4 A5 N N (jH (mO N) (fl.take 0).flatten),bH A1 n A N cA D m cD]:=aD;refine ar O (bk O O (aI O ?_));refine Cd.loop (α:=Nat) (fun i=> [(2,.pointer A1),(5,.slice A5 N N),(14,.slice Af nf cf),(15,ak nf),(16,ak i)]) (fun i w'=>i<=nf/\St w w' [gm 4 A5 N N (jH (mO N) (fl.take i).flatten),bH A1 n A N cA D m cD]) (fun i=>nf - i) 0 (alH O) ⟨bm _,aD⟩ ?_;clear aD aE h1;rintro i e w3 ⟨hi,hS⟩;refine b8 O (aR _ O (fun h2=>?_) (fun h2=>?_))
 ·have BP:i<fl.length:=by omega
  have hM:=hS.bS hF;have gS:=hM.at_ (i:=(i:Int)) (by omega) (by omega);have iS:=gS.1;have kV:gl fl i∈fl:=by rw [cK BP];exact dH _
  have fR:=hr _ kV;refine aG O (aF hM.top.2 O (b6 hM.top O ?_));refine ar O (bk O O (aI O ?_));refine Cd.loop (α:=Nat) (fun j=> [(2,.pointer A1),(5,.slice A5 N N),(14,.slice Af nf cf),(15,ak nf),(16,ak i),(20,.slice (rg rs i).a (rg rs i).n (rg rs i).c),(21,ak ((rg rs i).n:Int)),(22,ak j)]) (fun j w'=>j<=(rg rs i).n/\St w w' [gm 4 A5 N N (jH (mO N) ((fl.take i).flatten++ (gl fl i).take j)),bH A1 n A N cA D m cD]) (fun j=> (rg rs i).n - j) 0 (alH O) ⟨bm _,by rw [List.take_zero,eu];exact hS⟩ ?_;clear gS hM hS;rintro j e w4 ⟨hj,hS⟩;refine b8 O (aR _ O (fun h3=>?_) (fun h3=>?_))
  ·have lR:j< (gl fl i).length:=by omega
   have gS:=(hS.bS hF).at_ (i:=(i:Int)) (by omega) (by omega);have hx:=fR.2 _ (gi_in lR);have sR:=Om N ((fl.take i).flatten++ (gl fl i).take j);refine aG O (aF gS.2 O (bh gS O (ar O (aF (hS.ji 0 O).2 O (tn 0 hS O O O (by omega) ?_)))));intro w5 aV;have aV:St w w5 [gm 4 A5 N N (jH (mO N) ((fl.take i).flatten++ (gl fl i).take (j+1))),bH A1 n A N cA D m cD]:=by
    rw [CC lR,<-gN,VX];exact aV
   refine ar O (aJ O (aT O (tQ ?_)));exact⟨j+1,by show(rg rs i).n - (j+1)< (rg rs i).n - j;omega,(alH O),by omega,aV⟩
  rw [show(gl fl i).take j=gl fl i from lp (by omega)]at hS;refine bw O (bA (dh O (aJ O (aT O (tQ ?_)))));refine⟨i+1,by show nf - (i+1)<nf - i;omega,(alH O),by omega,?_⟩;rw [su BP,List.flatten_append,<-cK BP];simpa using hS
 have db:i=fl.length:=by omega
 rw [db,List.take_length]at hS;have M0:=VM (m:=N) (F:=fl) (fun l hl=> (hr l hl).2);refine bw O (bA (dh O ?_));refine aL (XG A5 N N _ false _ (hS.ji 0 O) (by omega)) O ?_;rintro _ _ ⟨rfl,rfl⟩
 first | refine eZ rfl rfl ?_ | refine fY rfl rfl ?_
 refine bM O (dz O ?_);refine⟨_,O,?_,hS.none⟩;rw [<-M0];simp
def uC(a b:ai)(i:Nat):ai:=(List.range a.length).map fun k:Nat=>if i<=k\/gi a k=gi b k then gi a k else -1
theorem wA(a b:ai)(i:Nat):(uC a b i).length=a.length:=by simp [uC]
theorem zr{a b:ai}{i k:Nat}(h:k<a.length):gi (uC a b i) k=if i<=k\/gi a k=gi b k then gi a k else -1:=by
 rw [cd (by rw [wA];exact h)];simp [uC]
theorem Zx(a b:ai):uC a b 0=a:=by
 apply jX (wA ..);intro k h1 h2;rw [<-cd h1,<-cd h2,zr h2,ay (.inl (bm _))]
theorem Zy(a b:ai):uC a b a.length=oY a b:=by
 apply jX (by rw [wA,C9]);intro k h1 h2;have h3:k<a.length:=by rw [wA]at h1;exact h1
 rw [<-cd h1,<-cd h2,zr h3,C8 h3]
 by_cases c:gi a k=gi b k
 ·rw [ay (.inr c),ay c]
 rw [aw (by omega),aw c]
theorem Zz{a b:ai}{i:Nat}:uC a b (i+1)=if gi a i=gi b i then uC a b i else(uC a b i).set i (-1):=by
 by_cases c:gi a i=gi b i
 ·rw [ay c];apply jX (by simp [wA]);intro k h1 h4;have h3:k<a.length:=by rw [wA]at h1;exact h1
  rw [<-cd h1,zr h3,<-cd h4,zr h3]
  by_cases e:k=i
  ·subst e;rw [ay (.inr c),ay (.inr c)]
  by_cases e2:i+1<=k\/gi a k=gi b k
  ·rw [ay e2,ay (by omega)]
  rw [aw e2,aw (by omega)]
 rw [aw c];apply jX (by simp [wA]);intro k h1 h2;have h3:k<a.length:=by rw [wA]at h1;exact h1
 have h4:k< (uC a b i).length:=by rw [wA];exact h3
 rw [<-cd h1,zr h3,List.getElem_set]
 split
 ·rename_i h;rw [aw (fun e=>by subst e;rcases h with h | h<;>first | omega | exact c h),<-cd h4,zr h3,ay (by omega)]
 rename_i h
 by_cases e:i=k
 ·rw [ay e]
 rw [aw e,<-cd h4,zr h3,aw (fun h'=>h (by omega))]
theorem QK(A A2:aj)(n c m c2:Nat)(a b:ai)(w:aa)(hA:di w A n a)(hB:di w A2 m b)(hm:n=m)(hn:n<=1000):
 aN prog 153 [.slice A n c,.slice A2 m c2] w (EB (oY a b) w):=by
 subst hm;have ha:=hA.1;have hb:=hB.1;refine bI func153 O ntmps153 O (du O) (bc O (aL (Hh A n c a w hA (by omega)) O ?_));rintro _ w1 ⟨A5,c5,rfl,hS⟩;have hS:St w w1 [az 2 A5 n c5 (uC a b 0)]:=by rw [Zx];exact hS
 refine ar O (bk O O (aI O ?_));refine Cd.loop (α:=Nat) (fun i=> [(5,.slice A5 n c5),(10,.slice A2 n c2),(11,ak n),(12,ak i)]) (fun i w'=>i<=n/\St w w' [az 2 A5 n c5 (uC a b i)]) (fun i=>n - i) 0 (alH O) ⟨bm _,hS⟩ ?_;clear hS;rintro i e w2 ⟨hi,hS⟩;have hl:=wA a b i;refine b8 O (aR _ O (fun h2=>?_) (fun h2=>?_))
 ·have db:i<a.length:=by omega
  have iG:=Zz (a:=a) (b:=b) (i:=i);have FM:=zr (b:=b) (i:=i) db;rw [ay (.inl (bB _))]at FM;have tA:=hS.gH hB;have h5:=hS.bF 0 O;refine aG O (aF tA.2 O (bh tA O (ar O (aF h5.2 O (bh h5 O (aI O ?_))))));rw [FM];refine aR _ O (fun h3=>?_) (fun h3=>?_)
  ·rw [aw h3]at iG;refine aG O (aF h5.2 O (lu 0 hS O O O (by omega) ?_));intro w3 aM;refine ar O (aJ O (aT O (tQ ?_)));exact⟨i+1,by show n - (i+1)<n - i;omega,(alH O),by omega,by rw [iG];exact aM⟩
  rw [ay (jl.1 h3)]at iG;refine aG O (aJ O (aT O (tQ ?_)));exact⟨i+1,by show n - (i+1)<n - i;omega,(alH O),by omega,by rw [iG];exact hS⟩
 have db:i=a.length:=by omega
 rw [db,Zy]at hS;have wP:=C9 a b;refine bw O (bA (ij O ?_));refine gK O ?_;exact⟨A5,c5,by rw [wP,ha],by rw [wP,ha];exact hS⟩
def AA(xs:ai)(x:Int):ai:=(bN xs.length).filter fun e=>decide (gi xs e=x)
theorem ahi{xs:ai}{x:Int}{m:Nat}:((bN (m+1)).filter fun e=>decide (gi xs e=x))=if x=gi xs m then((bN m).filter fun e=>decide (gi xs e=x))++ [(m:Int)]else((bN m).filter fun e=>decide (gi xs e=x)):=by
 have:bN (m+1)=bN m++ [(m:Int)]:=by
  unfold bN;rw [nZ,jm];rfl
 rw [this,oR]
 by_cases c:gi xs m=x
 ·rw [ay c.symm];simp [c]
 rw [aw (fun h=>c h.symm)];simp [c]
theorem ahh(A:aj)(n c:Nat)(xs:ai)(x:Int)(w:aa)(hA:di w A n xs)(hn:n<=100000):
 aN prog 211 [.slice A n c,ak x] w (EB (AA xs x) w):=by
 have ha:=hA.1;refine bI func211 O ntmps211 O (du O) ?_;refine bc O (bk O O (aI O ?_));refine Cd.loop (α:=Nat×aj×Nat) (fun z=> [(1,ak x),(5,.slice z.2.1 ((bN z.1).filter fun e=>decide (gi xs e=x)).length z.2.2),(8,.slice A n c),(9,ak n),(10,ak (z.1:Int))]) (fun z w'=>z.1<=n/\St w w' [az 2 z.2.1 ((bN z.1).filter fun e=>decide (gi xs e=x)).length z.2.2 ((bN z.1).filter fun e=>decide (gi xs e=x))]) (fun z=>n - z.1) (0,none,0) (alH O) ⟨bm _,(St.refl w).nil _⟩ ?_;rintro⟨i,A5,c5⟩ e w1 ⟨hi,hS⟩;dsimp only at hi hS|-;have iw:((bN i).filter fun e=>decide (gi xs e=x)).length<=100000:=by
  refine l5 (rD _ _) ?_;rw [bN,fj,qE];omega
 have iG:=ahi (xs:=xs) (x:=x) (m:=i);refine b8 O (aR _ O (fun h2=>?_) (fun h2=>?_))
 ·have Dl:=hS.gH hA;refine aG O (aF Dl.2 O (bh Dl O (aI O ?_)));refine aR _ O (fun h3=>?_) (fun h3=>?_)
  ·rw [ay h3]at iG;refine aG O (dV hS O O O ?_);intro A9 w2 aD;refine fp 1 aD O (aD.bF 0 O) O O O ?_;intro AZ cZ w3 aM;have aM:=aM.tail;refine ar O (aJ O (aT O (tQ ?_)));refine⟨(i+1,AZ,cZ),by show n - (i+1)<n - i;omega,⟨O,?_,O,O,O,av⟩,by show i+1<=n;omega,?_⟩
   ·show Value.slice _ _ _=_;rw [iG,dI];rfl
   show St w w3 [az _ _ (((bN (i+1)).filter _).length) _ ((bN (i+1)).filter _)];rw [iG,dI];exact aM
  rw [aw h3]at iG;refine aG O (aJ O (aT O (tQ ?_)));refine⟨(i+1,A5,c5),by show n - (i+1)<n - i;omega,⟨O,?_,O,O,O,av⟩,by show i+1<=n;omega,?_⟩
  ·show Value.slice _ _ _=_;rw [iG]
  show St w w1 [az _ _ (((bN (i+1)).filter _).length) _ ((bN (i+1)).filter _)];rw [iG];exact hS
 have db:i=xs.length:=by omega
 rw [db]at hS|-;refine bw O (bA (ij O ?_));exact gK O ⟨A5,c5,O,hS⟩
def pZ(n:Int)(R:ai)(i:Int):ai:=if 0<=i/\i<=n - 1 then AA R i else [-1]
theorem Oh(P A D:aj)(n:Int)(N cA m cD:Nat)(R:ai)(i:Int)(w:aa)(hP:Rd w P 3 (fun j=> [Value.int .i64 n,.slice A N cA,.slice D m cD].getD j undef))(hR:di w A N R)(hN:N<=1000)(hn:0<=n/\n<=100):
 aN prog 151 [.pointer P,ak i] w (EB (pZ n R i) w):=by
 refine bI func151 O ntmps151 O (du O) (bc O ?_);refine oh hP (by decide) O O ?_;refine aW hP O (iW (j:=0) hP (by exact aK Value.pointer O) O O O O (dT O (aL (yV _ _ _ _) O ?_)));rintro _ _ ⟨rfl,rfl⟩
 first | refine eZ rfl rfl ?_ | refine fY rfl rfl ?_
 refine aI O (aR _ O (fun h2=>?_) (fun h2=>?_))
 ·refine aG O (dV (i:= -1) (St.refl _) O O O ?_);intro A9 w2 aD;refine bM O (gK O ?_);unfold EB pZ;rw [aw h2];exact⟨A9,1,O,aD⟩
 refine aG O (oh hP (by decide) O O (aW hP O (a8 hP O (ar O (aL (ahh A N cA R i _ hR (by omega)) O ?_)))));rintro _ w2 ⟨A9,c9,rfl,aD⟩;refine bM O (gK O ?_);unfold EB pZ;rw [ay (jl.1 h2)];exact⟨A9,c9,O,aD⟩
theorem Ws(PB A:aj)(N c n:Nat)(rs:List aQ)(fl:ah)(f i:Nat)(w:aa)(hT:na w)(hb:Rd w PB 1 (fun _=> .slice A N c))(hM:bz w A N rs fl)(hf:f<N)(hN:N<=1000)(hl:(gl fl f).length=n)(hi:i<n)(hn:n<=100)(hr:∀x∈gl fl f,0<=x/\x<=1000000):
 aN prog 213 [ak f,ak i,.pointer PB] w (fun v w'=>v=yv (jk (gl fl f) i)/\St w w' []):=by
 have iw:=hM.len;have gS:=hM.at_ (i:=(f:Int)) (by omega) (by omega);have iS:=gS.1;refine bI func213 O ntmps213 O (du O) (bc O (alw (j:=0) hb (by exact aK Value.pointer (pv _).symm) O O O O (ar O (aF hM.top.2 O (b6 hM.top O (aL (Hh _ _ _ _ _ gS (by omega)) O ?_))))));rintro _ w1 ⟨A6,c6,rfl,hS⟩;refine ar O (aF (hS.bF 0 O).2 O (lu 0 hS O O O (by omega) ?_));intro w2 aD;have aD:St w w2 [az 2 A6 (rg rs f).n c6 (jk (gl fl f) i)]:=aD;refine ar O ?_;refine als (NI A6 _ c6 (jk (gl fl f) i) _ (hT.aq aD.below) (aD.bF 0 O) (fun x hx=>by
  rcases List.mem_or_eq_of_mem_set hx with h | h
  ·have:=hr x h;omega
  omega) (by omega)) rfl rfl rfl ?_
 rintro _ w3 ⟨rfl,ax⟩;refine bM O (JN O ?_);exact⟨O,aD.none.aq ax.below⟩
abbrev ua(PB A:aj)(N c:Nat)(fN:aj)(L:ai)(Aa:aj)(ca:Nat)(al:ai)(g:Nat)(M:List ob)(ks:List Ck):List Ck:=
 az 2 fN N N L::Bx 22 1 PB [.slice A N c]::az 2 Aa al.length ca al::lZ 132 g (kJ yv D8 M)::(qC 2 M++ks)
def kY(Q:List Nat):ai:=Q.map fun x:Nat=> (x:Int)
theorem UF{Q:List Nat}{k:Nat}(h:k<Q.length):gi (kY Q) k=(Q.getD k 0:Nat):=by
 rw [cd (by simp [kY,h])];simp [kY,dd,h]
theorem RS{Q:List Nat}{k y:Nat}(h:k<Q.length):(Q++ [y]).getD k 0=Q.getD k 0:=by
 rw [dd,mq h,<-dd]
theorem aev{Q:List Nat}{k y:Nat}(h:k<=Q.length):kY ((Q++ [y]).drop k)=kY (Q.drop k)++ [(y:Int)]:=by
 rw [List.drop_append_of_le_length h];simp [kY]
theorem Fg{L:ai}{y f:Nat}{z:Nat}(h:0<=gi L z):0<=gi (L.set y (f:Int)) z:=by
 simp only [gi,gI,dd,pA]at h|-
 split
 ·split
  ·simp
  exact Int.le_refl _
 exact h
theorem RX{L:ai}{y f:Nat}(h:y<L.length):gi (L.set y (f:Int)) y=f:=by
 rw [cd (by simpa using h)];simp
theorem agY(A:aj)(N c:Nat)(rs:List aQ)(fl:ah)(n:Nat)(A2:aj)(c2:Nat)(cm:ai)(w:aa)(hT:na w)(hM:bz w A N rs fl)(hC:di w A2 n cm)(hN:N<=401)(hn:n<=5)(hl:∀x∈fl,x.length=n/\∀e∈x,0<=e/\e<=1000000)(qX:fl.Nodup):
 aN prog 155 [.slice A N c,.slice A2 n c2] w (fun v w'=>∃A' L,v= .slice A' N N/\jB N (jY n fl cm) N L/\St w w' [az 2 A' N N L]):=by
 have iw:=hM.len;have da:=hC.1;have tK:∀f:Nat,f<N->gl fl f∈fl:=fun f hf=>by rw [cK (by omega)];exact dH _
 have vL:∀x∈fl,x.length=n/\∀e∈x,0<=e:=fun x hx=> ⟨(hl x hx).1,fun e he=> ((hl x hx).2 e he).1⟩
 have zS:∀x∈fl,x.length=n:=fun x hx=> (hl x hx).1
 refine bI func155 O ntmps155 O (du O) (bc O ?_);refine ao.box (v:= .slice A N c) (St.refl w) O O (by show(1:Nat)<=maxLen;simp [maxLen]) ?_;intro PB w1 aE;have df:Rd w1 PB 1 (fun _=> .slice A N c):=Rd.one (aE.rd 0 O);refine ar O (dV (i:= -1) aE O O O ?_);intro J6 w2 aD;have df:Rd w2 PB 1 (fun _=> .slice A N c):=Rd.one (aD.rd 1 O);refine alw (j:=0) df (by exact aK Value.pointer (pv _).symm) O O O O (bk O O (aL (Hq J6 1 (-1) N _ (aD.bF 0 O) (by omega)) O ?_));rintro _ w3 ⟨fN,rfl,ax⟩;have aM:=aD.call ax;clear ax;refine ar O (Kk aM O ?_);intro g w4 aU;have df:Rd w4 PB 1 (fun _=> .slice A N c):=Rd.one (aU.rd 3 O);refine ar O (Yg O O (ar O (alw (j:=0) df (by exact aK Value.pointer (pv _).symm) O O O O (aL (G2 _ _ _ _) O ?_))));rintro _ w4 ⟨rfl,rfl⟩;have aV:St w w4 [az 2 none 0 0 [],lZ 132 g [],az 2 fN N N (List.replicate N (-1)),az 2 J6 1 1 [-1],Bx 22 1 PB [.slice A N c]]:=aU.nil 2;have aV:St w w4 (ua PB A N c fN (List.replicate N (-1)) none 0 (jd n fl cm 0) g [] []):=by
  have h9:=aV.perm (show List.Perm _ (az 2 J6 1 1 [-1]::ua PB A N c fN (List.replicate N (-1)) none 0 (jd n fl cm 0) g [] []) from by
   classical
   refine nC.2 fun z=>?_
   simp only [ua,qC,List.map_nil,qk,mV,ql,jd,bN,List.range_zero,List.filter_nil,List.length_nil];have:kJ yv D8 ([]:List ob)=[]:=O;rw [this];omega)
  exact h9.tail
 clear aU aM aD aE df;refine aI O (Cd.loop (α:=Nat×aj×Nat×List ob) (fun z=> [(1,.slice A2 n c2),(2,.pointer PB),(5,.slice fN N N),(6,.map (some g)),(7,.func (.func 213) #[] #[.pointer PB]),(8,.slice z.2.1 (jd n fl cm z.1).length z.2.2.1),(26,ak N),(27,ak (z.1:Int))]) (fun z w'=>z.1<=N/\jz n fl (yJ n fl cm z.1 0) (fun _=>False) (5*z.1) z.2.2.2/\St w w' (ua PB A N c fN (List.replicate N (-1)) z.2.1 z.2.2.1 (jd n fl cm z.1) g z.2.2.2 [])) (fun z=>N - z.1) (0,none,0,[]) (alH O) ⟨bm _,jz.zero,aV⟩ ?_);clear aV;rintro⟨f,Aa,ca,M⟩ e w5 ⟨hf,jF,hS⟩;dsimp only at hf jF hS|-;have dO:(jd n fl cm f).length<=500:=by
  refine l5 (rD _ _) ?_;rw [bN,fj,qE];omega
 refine b8 O (aR _ O (fun h1=>?_) (fun h1=>?_))
 ·have kE:f<N:=by omega
  have df:Rd w5 PB 1 (fun _=> .slice A N c):=Rd.one (hS.rd 1 O);have Ds:=hS.bS hM;have gS:=Ds.at_ (i:=(f:Int)) (by omega) (by omega);have iS:=gS.1;have F7:=hl _ (tK f kE);have hnn:(rg rs f).n=n:=by omega
  have FQ:=ZA (n:=n) (c:=cm) (x:=gl fl f) da;have Dy:=YB (n:=n) (fl:=fl) (c:=cm) (f:=f);refine aG O (alw (j:=0) df (by exact aK Value.pointer (pv _).symm) O O O O (ar O (aF Ds.top.2 O (b6 Ds.top O (aL (QK A2 (rg rs f).a n c2 (rg rs f).n (rg rs f).c cm (gl fl f) _ (hS.gH hC) gS hnn.symm (by omega)) O ?_)))));rintro _ w6 ⟨nX,Zr,rfl,ax⟩;have aZ:=hS.aq ax.below;have Sm:=aZ.gH hC;have Fj:=ax.bF 0 O;clear ax hS df Ds gS;refine ar O ?_;refine aL (XM nX _ Zr (oY cm (gl fl f)) A2 n c2 cm _ Fj Sm (by rw [C9];omega)) O ?_;rintro _ w7 ⟨rfl,ax⟩;have a6:=aZ.aq ax.below;clear ax aZ Fj Sm
  first | refine eZ rfl rfl ?_ | refine fY rfl rfl ?_
  refine aI O (aR _ O (fun h2=>?_) (fun h2=>?_))
  ·have iF:¬kr n cm (gl fl f):=fun h=>h2 (FQ.2 h)
   rw [aw iF]at Dy;refine aG O (aJ O (aT O (tQ ?_)));refine⟨(f+1,Aa,ca,M),by show N - (f+1)<N - f;omega,⟨O,O,O,O,O,?_,O,O,av⟩,by show f+1<=N;omega,(jF.skip iF).more (by show 5*f<=5* (f+1);omega),?_⟩
   ·show Value.slice _ _ _=_;rw [Dy]
   show St w w7 (ua _ _ _ _ _ _ _ _ (jd n fl cm (f+1)) _ _ _);rw [Dy];exact a6
  have kH:kr n cm (gl fl f):=FQ.1 (jl.1 h2);rw [ay kH]at Dy;refine aG O (dV a6 O O O ?_);intro A9 w8 bL;refine fp 3 bL O (bL.bF 0 O) O O O ?_;intro AZ cZ w9 a7;have a7:St w w9 (ua PB A N c fN (List.replicate N (-1)) AZ cZ (jd n fl cm (f+1)) g M []):=by
   have h9:=a7.tail;rw [Dy];show St w w9 (_::_::az _ AZ ((jd n fl cm f++ [(f:Int)]).length) cZ _::_);rw [dI];exact h9
  have acS:(jd n fl cm f).length+1=(jd n fl cm (f+1)).length:=by rw [Dy,dI];rfl
  clear bL a6;refine ar O (bk O O (aI O ?_));refine Cd.loop (α:=Nat×List ob) (fun z=> [(1,.slice A2 n c2),(2,.pointer PB),(5,.slice fN N N),(6,.map (some g)),(7,.func (.func 213) #[] #[.pointer PB]),(8,.slice AZ (jd n fl cm (f+1)).length cZ),(26,ak N),(27,ak f),(9,ak f),(44,ak n),(45,ak (z.1:Int))]) (fun z w'=>z.1<=n/\jz n fl (yJ n fl cm f z.1) (fun _=>False) (5*f+z.1) z.2/\St w w' (ua PB A N c fN (List.replicate N (-1)) AZ cZ (jd n fl cm (f+1)) g z.2 [])) (fun z=>n - z.1) (0,M) ⟨O,O,O,O,O,aK (fun m=>Value.slice AZ m cZ) acS,O,O,O,O,O,av⟩ ⟨bm _,jF,a7⟩ ?_;clear a7 jF;rintro⟨i,M⟩ e dQ ⟨hi,jF,hS⟩;dsimp only at hi jF hS|-;refine b8 O (aR _ O (fun h3=>?_) (fun h3=>?_))
  ·have db:i<n:=by omega
   refine aG O (aL (Ws PB A N c n rs fl f i _ (hT.aq hS.below) (Rd.one (hS.rd 1 O)) (hS.bS hM) kE (by omega) F7.1 db (by omega) F7.2) O ?_);rintro _ eI ⟨rfl,ax⟩;have hS:=hS.aq ax.below;have hlen:=jF.len (jk (gl fl f) i);have rV:=jF.put (by omega) db kH;generalize pP:jk (gl fl f) i=kx at*;have hrx:=(Ko (pre:=[_,_,_,_]) (x:=kx) hS).1;clear ax;refine ar O ?_;refine PM (v:= .slice (jE M kx).a (jE M kx).n (jE M kx).c) D1 (hS.JM 3 rfl) rfl rfl (by unfold jE;cases gy M kx<;>rfl) rfl ?_;refine ar O (dV hS O O O ?_);intro A9 gL fB;have fB:=St.WZ (pre:=[_,_,_,_,_]) (x:=kx) fB;refine fp 0 fB O (fB.bF 1 O) O O O fun AY cY gC gA=>Kl O D1 5 (a:=kx) (u:=(⟨AY,(jE M kx).n+1,cY⟩,kg M kx++ [(f:Int)])) gA O O O O ?_;intro lW jf;have ia:=(PX (M:=M) (x:=kx) (u:=(⟨AY,(jE M kx).n+1,cY⟩,kg M kx++ [(f:Int)])) (pre:=[_,_,_,_,_]) jf).tail;refine ar O (aJ O (aT O (tQ ?_)));exact⟨(i+1,km M kx (⟨AY,(jE M kx).n+1,cY⟩,kg M kx++ [(f:Int)])),by show n - (i+1)<n - i;omega,(alH O),by show i+1<=n;omega,rV _,ia⟩
  obtain rfl:i=n:=by omega
  refine bw O (bA (dh O (aJ O (aT O (tQ ?_)))));exact⟨(f+1,AZ,cZ,M),by show N - (f+1)<N - f;omega,(alH O),by show f+1<=N;omega,jF.row.more (by show 5*f+i<=5* (f+1);omega),hS⟩
 obtain rfl:f=N:=by omega
 subst iw;have xZ:=jY.Ay n fl cm;have jF:jz n fl (fun y _=>kr n cm (gl fl y)) (fun y=>0<=gi (List.replicate fl.length (-1:Int)) y) 2005 M:=((jF.congr fun y i hy hi=> ⟨fun h=>h.1,fun h=> ⟨h,.inl hy⟩⟩).mono fun y _ h=>h.elim).more (by omega);have pK:=afK (n:=n) (fl:=fl) (c:=cm) (jB.zero fl.length (jY n fl cm));have iG:=fun(L:ai) (j f:Nat) (hj:j< (jd n fl cm fl.length).length) (hf:gi (jd n fl cm fl.length) j=f) h=>afL (n:=n) (fl:=fl) (c:=cm) (L:=L) hj hf h
 have kV:=fun y:Int=>ER (n:=n) (fl:=fl) (c:=cm) (f:=fl.length) (y:=y)
 generalize jd n fl cm fl.length=al at*;refine bw O (bA (dh O (bk O O (aI O ?_))));refine Cd.loop (α:=Nat×ai×List ob) (fun z=> [(1,.slice A2 n c2),(2,.pointer PB),(5,.slice fN fl.length fl.length),(6,.map (some g)),(7,.func (.func 213) #[] #[.pointer PB]),(62,.slice Aa al.length ca),(63,ak (al.length:Int)),(64,ak (z.1:Int))]) (fun z w'=>z.1<=al.length/\jB fl.length (jY n fl cm) (qp fl.length al z.1) z.2.1/\jz n fl (fun y _=>kr n cm (gl fl y)) (fun y=>0<=gi z.2.1 y) 2005 z.2.2/\St w w' (ua PB A fl.length c fN z.2.1 Aa ca al g z.2.2 [])) (fun z=>al.length - z.1) (0,List.replicate fl.length (-1),M) (alH O) ⟨bm _,pK,jF,hS⟩ ?_;clear hS jF pK hf h1;rintro⟨j,L0,M⟩ e w6 ⟨hj,pK,jF,hS⟩;dsimp only at hj pK jF hS|-;refine b8 O (aR _ O (fun h1=>?_) (fun h1=>?_))
 ·have IV:j<al.length:=by omega
  have Tn:=(kV _).1 (gi_in IV);obtain⟨f,hf⟩:∃f:Nat,gi al j=f:=⟨(gi al j).toNat,by omega⟩;have qQ:qp fl.length al j=f:=by unfold qp;rw [if_pos IV,hf];rfl
  rw [hf]at Tn;rw [qQ]at pK;have tG:=pK.1;have L1:jY n fl cm f f:=⟨Tn.2,.refl (by omega)⟩;have qu:=hS.bF 0 O;refine aG O (aF (hS.bF 2 O).2 O (bh (hS.bF 2 O) O (ar O ?_)));rw [hf];refine aF qu.2 O (bh qu O (aI O ?_));refine aR _ O (fun h2=>?_) (fun h2=>?_)
  ·refine aG O (aJ O (aT O (tQ ?_)));exact⟨(j+1,L0,M),by show al.length - (j+1)<al.length - j;omega,(alH O),by show j+1<=al.length;omega,iG _ j f IV hf (pK.skip xZ (by omega) (.inl h2)),jF,hS⟩
  have h0:gi L0 f<0:=by omega
  refine aG O (aF qu.2 O (lu 0 hS O O O (by omega) ?_));intro w7 a6;have a6:St w w7 (ua PB A fl.length c fN (L0.set f (f:Int)) Aa ca al g M []):=a6;refine ar O (dV a6 O O O ?_);intro Ao w8 bL;have fW:=oi.start (A:=yY n fl cm) tG (show f<fl.length by omega) h0 L1;have jF:=jF.mono (G':=fun y=>0<=gi (L0.set f (f:Int)) y) fun y _ h=>Fg h
  refine aI O (Cd.loop (α:=Nat×ai×List Nat×aj×Nat×List ob) (fun z=> [(1,.slice A2 n c2),(2,.pointer PB),(5,.slice fN fl.length fl.length),(6,.map (some g)),(7,.func (.func 213) #[] #[.pointer PB]),(62,.slice Aa al.length ca),(63,ak (al.length:Int)),(64,ak j),(13,ak f),(14,.slice z.2.2.2.1 (z.2.2.1.length - z.1) z.2.2.2.2.1)]) (fun z w'=>oi fl.length (jY n fl cm) (yY n fl cm) f L0 z.2.1 z.2.2.1 z.1/\jz n fl (fun y _=>kr n cm (gl fl y)) (fun y=>0<=gi z.2.1 y) 2005 z.2.2.2.2.2/\St w w' (az 2 z.2.2.2.1 (z.2.2.1.length - z.1) z.2.2.2.2.1 (kY (z.2.2.1.drop z.1))::ua PB A fl.length c fN z.2.1 Aa ca al g z.2.2.2.2.2 [])) (fun z=>fl.length+1 - z.1) (0,L0.set f (f:Int),[f],Ao,1,M) (alH O) ⟨fW,jF,bL⟩ ?_);clear bL a6 hS qu fW jF;rintro⟨k,L,Q,Ao,co,M⟩ e w9 ⟨fW,jF,hS⟩;dsimp only at fW jF hS|-;have wV:=fW.AG;have kF:=fW.Jo;refine bc O (bk O O (aI O ?_));refine aR _ O (fun h3=>?_) (fun h3=>?_)
  ·have jh:k<Q.length:=by omega
   obtain⟨x,hx⟩:∃x,Q.getD k 0=x:=⟨_,rfl⟩;have Gr:x∈Q:=by rw [<-hx,dd,gO jh];exact dH _
   have gw:=fW.xc x Gr;have hHx:kr n cm (gl fl x):=(gw.2.2.1.of gw.2.2.2);have DM:=hl _ (tK x gw.1);refine aG O (bk O O (aI O ?_));refine Cd.loop (α:=Nat×ai×List Nat×aj×Nat×List ob) (fun z=> [(1,.slice A2 n c2),(2,.pointer PB),(5,.slice fN fl.length fl.length),(6,.map (some g)),(7,.func (.func 213) #[] #[.pointer PB]),(62,.slice Aa al.length ca),(63,ak (al.length:Int)),(64,ak j),(13,ak f),(14,.slice z.2.2.2.1 (z.2.2.1.length - k) z.2.2.2.2.1),(85,ak n),(86,ak (z.1:Int))]) (fun z w'=>z.1<=n/\oi fl.length (jY n fl cm) (yY n fl cm) f L0 z.2.1 z.2.2.1 k/\(k<z.2.2.1.length/\z.2.2.1.getD k 0=x)/\jz n fl (fun y _=>kr n cm (gl fl y)) (fun y=>0<=gi z.2.1 y) 2005 z.2.2.2.2.2/\(∀i' y:Nat,i'<z.1->y<fl.length->kr n cm (gl fl y)->jk (gl fl y) i'=jk (gl fl x) i'->0<=gi z.2.1 y)/\St w w' (az 2 z.2.2.2.1 (z.2.2.1.length - k) z.2.2.2.2.1 (kY (z.2.2.1.drop k))::ua PB A fl.length c fN z.2.1 Aa ca al g z.2.2.2.2.2 [])) (fun z=>n - z.1) (0,L,Q,Ao,co,M) (alH O) ⟨bm _,fW,⟨jh,hx⟩,jF,fun i' y h=>absurd h (jM _),hS⟩ ?_;clear hS jF fW hx Gr jh wV kF h3;rintro⟨i,Li,Qi,Ao,co,M⟩ e dQ ⟨hi,fW,⟨jh,hx⟩,jF,oA,hS⟩;dsimp only at hi fW jh hx jF oA hS|-;refine b8 O (aR _ O (fun h4=>?_) (fun h4=>?_))
   ·have db:i<n:=by omega
    have FW:gi (kY (Qi.drop k)) 0=(x:Int):=by
     have h9:=UF jh;rw [hx]at h9;rw [<-h9];unfold kY;rw [List.map_drop,RW]
    have wM:(kY (Qi.drop k)).length=Qi.length - k:=by simp [kY]
    have BE:=hS.bF 0 O;refine aG O (alp (i:=0) BE.2 O O O (by omega) (by omega) ?_);refine alq (i:=0) BE O (by show 0<_;omega) O O ?_;refine ar O ?_;rw [FW];refine aL (Ws PB A fl.length c n rs fl x i _ (hT.aq hS.below) (Rd.one (hS.rd 2 O)) (hS.bS hM) gw.1 (by omega) DM.1 db (by omega) DM.2) O ?_;rintro _ eI ⟨rfl,ax⟩;have hS:=hS.aq ax.below;have zH:=fun y hy=>jF.Kq (N:=fl.length) vL gw.1 db hHx (y:=y) hy
    have acs:=jF.len (jk (gl fl x) i);have S7:=fun(y:Nat) (hy:y<fl.length) (hH:kr n cm (gl fl y)) (he:jk (gl fl y) i=jk (gl fl x) i)=>he▸jF.al y i hy db hH
    generalize pP:jk (gl fl x) i=kx at*;clear ax BE;obtain⟨sx,Gp⟩:∃sx,jE M kx=sx:=⟨_,rfl⟩;obtain⟨ys,sU⟩:∃ys,kg M kx=ys:=⟨_,rfl⟩;have lT:∀ {w':aa} {Ao:aj} {no co:Nat} {qs:ai} {L:ai},St w w' (az 2 Ao no co qs::ua PB A fl.length c fN L Aa ca al g M [])->di w' sx.a sx.n ys:=fun h=>by
     rw [<-Gp,<-sU];exact Ko (pre:=[_,_,_,_,_]) (x:=kx) h
    rw [sU]at acs zH S7;have rY:=(lT hS).1;refine ar O ?_;refine PM (v:= .slice sx.a sx.n sx.c) D1 (hS.JM 4 rfl) rfl rfl (by rw [<-Gp];unfold jE;cases gy M kx<;>rfl) rfl ?_;refine bk O O (aI O ?_);refine Cd.loop (α:=Nat×ai×List Nat×aj×Nat) (fun z=> [(1,.slice A2 n c2),(2,.pointer PB),(5,.slice fN fl.length fl.length),(6,.map (some g)),(7,.func (.func 213) #[] #[.pointer PB]),(62,.slice Aa al.length ca),(63,ak (al.length:Int)),(64,ak j),(13,ak f),(14,.slice z.2.2.2.1 (z.2.2.1.length - k) z.2.2.2.2),(85,ak n),(86,ak i),(16,yv kx),(97,.slice sx.a sx.n sx.c),(98,ak (sx.n:Int)),(99,ak (z.1:Int))]) (fun z w'=>z.1<=sx.n/\oi fl.length (jY n fl cm) (yY n fl cm) f L0 z.2.1 z.2.2.1 k/\(k<z.2.2.1.length/\z.2.2.1.getD k 0=x)/\(∀p:Nat,p<z.1->0<=gi z.2.1 (gi ys p))/\(∀y:Nat,0<=gi Li y->0<=gi z.2.1 y)/\St w w' (az 2 z.2.2.2.1 (z.2.2.1.length - k) z.2.2.2.2 (kY (z.2.2.1.drop k))::ua PB A fl.length c fN z.2.1 Aa ca al g M [])) (fun z=>sx.n - z.1) (0,Li,Qi,Ao,co) (alH O) ⟨bm _,fW,⟨jh,hx⟩,fun p h=>absurd h (jM _),fun y h=>h,hS⟩ ?_;clear hS fW jh hx FW wM;rintro⟨q,L,Q,Ao,co⟩ e gL ⟨hq,fW,⟨jh,hx⟩,yh,tM,hS⟩;dsimp only at hq fW jh hx yh tM hS|-;have wV:=fW.AG;have abX:=fW.len;refine b8 O (aR _ O (fun h5=>?_) (fun h5=>?_))
    ·have Na:q<ys.length:=by omega
     have wX:=lT hS;obtain⟨y,hy,yr,Gt⟩:=zH _ (gi_in Na);have qu:=hS.bF 1 O;refine aG O (aF wX.2 O (bh wX O (ar O ?_)));rw [hy];refine aF qu.2 O (bh qu O (aI O ?_));refine aR _ O (fun h6=>?_) (fun h6=>?_)
     ·have qw:=fW.meet yr h6 (xZ.xj _ _ _ gw.2.2 (Gt.link qX zS));refine aG O (aF qu.2 O (lu 1 hS O O O (by omega) ?_));intro gC gA;refine ar O (dV gA O O O ?_);intro A9 lW jf;refine fp 1 jf O (jf.bF 0 O) O O O ?_;intro AZ cZ nW ia;have ia:=ia.tail;have F8:(Q++ [y]).length - k=(Q.length - k)+1:=by rw [dI];show Q.length+1 - k=_;omega
      refine ar O (aJ O (aT O (tQ ?_)));refine⟨(q+1,L.set y (f:Int),Q++ [y],AZ,cZ),by show sx.n - (q+1)<sx.n - q;omega,⟨O,O,O,O,O,O,O,O,O,aK (fun m=>Value.slice AZ m cZ) F8.symm,O,O,O,O,O,O,av⟩,by show q+1<=sx.n;omega,qw,⟨by show k< (Q++ [y]).length;rw [dI];omega,by show(Q++ [y]).getD k 0=x;rw [RS jh,hx]⟩,fun p hp=>?_,fun z hz=>Fg (tM z hz),?_⟩
      ·by_cases ep:p=q
       ·subst ep;rw [hy];have h9:=RX (L:=L) (y:=y) (f:=f) (by omega);show 0<=gi (L.set y (f:Int)) y;omega
       have hp:p<q+1:=hp;obtain⟨y9,Nz,_,_⟩:=zH _ (gi_in (show p<ys.length by omega));have h9:=yh p (by omega);rw [Nz]at h9|-;exact Fg h9
      show St w nW (az _ AZ ((Q++ [y]).length - k) cZ (kY ((Q++ [y]).drop k))::_);rw [F8,aev (by omega)];exact ia
     refine aG O (aJ O (aT O (tQ ?_)));refine⟨(q+1,L,Q,Ao,co),by show sx.n - (q+1)<sx.n - q;omega,(alH O),by show q+1<=sx.n;omega,fW,⟨jh,hx⟩,fun p hp=>?_,tM,hS⟩
     by_cases ep:p=q
     ·subst ep;rw [hy];show 0<=gi L y;omega
     have hp:p<q+1:=hp;exact yh p (by omega)
    have dO:∀y:Nat,(y:Int)∈ys->0<=gi L y:=fun y hy=>by
     obtain⟨p,hp,e9⟩:=fV.1 hy;rw [<-cd hp]at e9;have:=yh p (by omega)
     rwa [e9]at this
    have abK:=(jF.mono (G':=fun y=>0<=gi L y) fun y _ h=>tM y h).del (x:=kx) fun y hy=>dO y (sU▸hy)
    refine bw O (bA (dh O ?_));refine Yc D1 4 (a:=kx) hS O O O ?_;intro gC gA;have gA:=Yu (pre:=[_,_,_,_,_]) (x:=kx) gA;refine ar O (aJ O (aT O (tQ ?_)));refine⟨(i+1,L,Q,Ao,co,kQ M kx),by show n - (i+1)<n - i;omega,(alH O),by show i+1<=n;omega,fW,⟨jh,hx⟩,abK,fun i' y dt yr hH he=>?_,gA⟩
    by_cases ei:i'=i
    ·subst ei;rcases S7 y yr hH (he.trans pP)with h9 | h9
     ·exact dO y h9
     exact tM y h9
    exact tM y (oA i' y (by have dt:i'<i+1:=dt;omega) yr hH he)
   obtain rfl:i=n:=by omega
   have wV:=fW.AG;have uV:=fW.next jh fun y hy=>by
    rw [hx]at hy;obtain⟨_,hHy,i',dt,ha⟩:=hy;exact oA i' y dt ha.2.1 hHy ((JV DM.1 (hl _ (tK y ha.2.1)).1).2 fun k9 h9 gZ=>ha.2.2 k9 h9 gZ).symm
   have hkQ2:k<Qi.length:=jh;have uR:=St.QN (i:=0) (l:=1) hS O (by show 1<=Qi.length - k;omega);refine bw O (bA (dh O ?_));refine EI (l:=1) O O O (by omega) (aT O (tQ ?_));refine⟨(k+1,Li,Qi,cutAt Ao co 1,co - 1,M),by show fl.length+1 - (k+1)<fl.length+1 - k;omega,⟨O,O,O,O,O,O,O,O,O,aK (fun m=>Value.slice (cutAt Ao co 1) m (co - 1)) (Nat.sub_sub _ _ _),av⟩,uV,jF,?_⟩;show St w dQ (az _ (cutAt Ao co 1) (Qi.length - (k+1)) (co - 1) (kY (Qi.drop (k+1)))::_);have e9:kY (Qi.drop (k+1))=(kY (Qi.drop k)).drop 1:=by simp [kY]
   rw [e9,<-Nat.sub_sub];exact uR
  have jh:k=Q.length:=by omega
  subst jh;have yc:=fW.end_ xZ pK (by omega) h0 (fun S aE aD=>jY.ind S aE aD) (fun x y h=>h.link qX zS);refine bw O (bA (dh O (aJ O (aT O (tQ ?_)))));exact⟨(j+1,L,M),by show al.length - (j+1)<al.length - j;omega,(alH O),by show j+1<=al.length;omega,iG _ j f IV hf yc,jF,hS.tail⟩
 have BS:j=al.length:=by omega
 have qQ:qp fl.length al j=fl.length:=by unfold qp;rw [if_neg (by omega)]
 rw [qQ]at pK;refine bw O (bA (ij O ?_));exact gK O ⟨fN,L0,O,pK,hS.sub ((List.nil_sublist _).cons_cons _)⟩
def uset(u:Nat->ad)(k:Nat)(v:ad):Nat->ad:=fun j=>cond (Nat.beq j k) v (u j)
theorem ajp{u:Nat->ad}{k:Nat}{v:ad}(h:u k=v):u=uset u k v:=by
 funext j;unfold uset;cases hb:Nat.beq j k with
 | true=>rw [pD hb,h];rfl
 | false=>rfl
theorem ZT(A:aj)(N c:Nat)(rs:List aQ)(fl:ah)(n:Nat)(w:aa)(hT:na w)(hM:bz w A N rs fl)(hN:N<=401)(hn:n<=5)(hl:∀x∈fl,x.length=n/\∀e∈x,0<=e/\e<=1000000)(qX:fl.Nodup):
 aN prog 89 [.slice A N c] w (fun v w'=>∃A' n' c',v= .slice A' n' c'/\(A'.isNone=true↔wi n fl)/\St w w' []):=by
 have iw:=hM.len;have tK:∀f:Nat,f<N->gl fl f∈fl:=fun f hf=>by rw [cK (by omega)];exact dH _
 have vL:∀x∈fl,x.length=n/\∀e∈x,0<=e:=fun x hx=> ⟨(hl x hx).1,fun e he=> ((hl x hx).2 e he).1⟩
 refine bI func89 O ntmps89 O (du O) (bc O (Kk (St.refl w) O ?_));intro g w1 aE;have aE:St w w1 (lZ 132 g (kJ yv D8 ([]:List ob))::(qC 2 ([]:List ob)++ [])):=aE;refine ar O (aL (G2 _ _ _ _) O ?_);rintro _ w1 ⟨rfl,rfl⟩;refine aI O ?_;refine Cd.loop (α:=Nat×List ob) (fun z=> [(0,.slice A N c),(3,.map (some g)),(12,ak N),(13,ak (z.1:Int))])
  (fun z w'=>z.1<=N/\(∀l u,gy z.2 l=some u->jB N (jY n fl l) N u.2)/\(∀a b:Nat,a<z.1->a<b->b<N->fo n fl (fun k=>gi (gl fl a) k=gi (gl fl b) k) a b)/\St w w' (lZ 132 g (kJ yv D8 z.2)::(qC 2 z.2++ []))) (fun z=>N - z.1) (0,[]) ⟨rfl,rfl,rfl,rfl,av⟩ ⟨bm _,fun l u h=>by simp [gy]at h,fun a b h=>absurd h (jM _),aE⟩ ?_
 clear aE;rintro⟨a,M⟩ e w2 ⟨ha,tF,oA,hS⟩;dsimp only at ha tF oA hS|-;refine b8 O (aR _ O (fun h1=>?_) (fun h1=>?_))
 ·have tH:a<N:=by omega
  refine aG O (aJ O (aI O ?_));refine Cd.loop (α:=Nat×List ob) (fun z=> [(0,.slice A N c),(3,.map (some g)),(12,ak N),(13,ak a),(4,ak a),(5,ak (z.1:Int))])
   (fun z w'=> (a<z.1/\z.1<=N)/\(∀l u,gy z.2 l=some u->jB N (jY n fl l) N u.2)/\(∀b:Nat,a<b->b<z.1->fo n fl (fun k=>gi (gl fl a) k=gi (gl fl b) k) a b)/\St w w' (lZ 132 g (kJ yv D8 z.2)::(qC 2 z.2++ []))) (fun z=>N - z.1) (a+1,M) ⟨rfl,rfl,rfl,rfl,rfl,rfl,av⟩ ⟨⟨Nat.lt_succ_self _,tH⟩,tF,fun b h h'=>by omega,hS⟩ ?_
  clear hS tF;rintro⟨b,M⟩ e w3 ⟨⟨eG,x9⟩,tF,vH,hS⟩;dsimp only at eG x9 tF vH hS|-;refine bc O (aL (G2 _ _ _ _) O ?_);rintro _ w3 ⟨rfl,rfl⟩;refine aI O (aR _ O (fun h2=>?_) (fun h2=>?_))
  ·have hb:b<N:=by omega
   have xW:=hS.bS hM;have nK:=xW.at_ (i:=(a:Int)) (by omega) (by omega);have mM:=xW.at_ (i:=(b:Int)) (by omega) (by omega);have MP:=hl _ (tK a tH);have hlB:=hl _ (tK b hb);have B5:(rg rs a).n=n:=by rw [<-nK.1];exact MP.1
   have DO:(rg rs b).n=n:=by rw [<-mM.1];exact hlB.1
   have lF:=ZB (n:=n) vL (show a<fl.length by omega) (show b<fl.length by omega);have da:(oY (gl fl a) (gl fl b)).length=n:=by rw [C9];exact MP.1
   have Ms:∀x∈oY (gl fl a) (gl fl b),-1<=x/\x<=1000000:=fun x hx=>by
    obtain⟨k,hk,rfl⟩:=dv.1 hx;have hk:=gP.1 hk
    split
    ·have:=MP.2 _ (gi_in hk);omega
    ·omega
   refine cM O ?_;refine eB [xS (A) (N) (c),xI ((a:Int)),xP (aB (A) ((a:Int)).toNat),xS ((rg (rs) ((a:Int))).a) ((rg (rs) ((a:Int))).n) ((rg (rs) ((a:Int))).c),xS (A) (N) (c),xI ((b:Int)),xP (aB (A) ((b:Int)).toNat),xS ((rg (rs) ((b:Int))).a) ((rg (rs) ((b:Int))).n) ((rg (rs) ((b:Int))).c),.pr (fun v w'=>∃A6 c6,v= .slice A6 n c6/\di w' A6 n (oY (gl fl a) (gl fl b))),.pr (fun v w'=>∃A6 c6,v= .slice A6 n c6/\di w' A6 n (oY (gl fl a) (gl fl b)))] rfl (lx (lx (lx (lx (lx (lx (lx (lx (cj.2 ⟨Yd.cN (fun v w w' h hb=>by obtain⟨A6,c6,hv,hT⟩:=h;exact⟨A6,c6,hv,hT.aq hb⟩),(cj.2 ⟨Yd.cN (fun v w w' h hb=>by obtain⟨A6,c6,hv,hT⟩:=h;exact⟨A6,c6,hv,hT.aq hb⟩),(fun _ h=>by cases h)⟩)⟩))))))))) ?_ ?_
   ·refine⟨Dr O,Dr O,fun _ _ hb _ _=>aF (xW.top.aq hb).2 O Az,fun _ _ hb _ _=>b6 (xW.top.aq hb) O Az,Dr O,Dr O,fun _ _ hb _ _=>aF (xW.top.aq hb).2 O Az,fun _ _ hb _ _=>b6 (xW.top.aq hb) O Az,?_,?_,av⟩
    ·intro e1 w1 hb hp aY;refine aL (QK (rg rs a).a (rg rs b).a (rg rs a).n (rg rs a).c (rg rs b).n (rg rs b).c (gl fl a) (gl fl b) _ (nK.aq hb) (mM.aq hb) (by omega) (by omega)) O ?_;rintro _ w9 ⟨A6,c6,rfl,ax⟩;refine ao.n ?_;exact iB.dn ax.below ⟨A6,c6,by rw [da],by have h9:=ax.bF 0 O;rw [da]at h9;exact h9⟩
    ·intro e1 w1 hb hp aY;obtain⟨A6,c6,h32,hT⟩:=(hp 8 (by decide) rfl _ _ rfl rfl);refine pF O (by exact h32) O (ao.n ?_);exact iB.dn (Below.refl _ _) ⟨A6,c6,O,hT⟩
   intro u w4 lD hu;obtain⟨A6,c6,h6,kD⟩:=hu 9 _ rfl;rw [ajp h6];have aU:=hS.aq lD;generalize oz:oY (gl fl a) (gl fl b)=cm at*;clear hu hS xW nK mM;refine iV O ?_;refine aL (NI A6 n c6 cm _ (hT.aq aU.below) kD (fun x hx=>by have:=Ms x hx;omega) (by omega)) O ?_;rintro _ w5 ⟨rfl,ax⟩;have aV:=aU.aq ax.below;have kD:=kD.aq ax.below;clear ax aU;refine ar O ?_;refine Yj (v:= .slice (jE M cm).a (jE M cm).n (jE M cm).c) D1 (x:=cm) (aV.JM 0 rfl) rfl rfl (by unfold jE;cases gy M cm<;>rfl) rfl ?_;refine ar O ?_
   first | refine eZ rfl rfl ?_ | refine fY rfl rfl ?_
   refine aI O ?_;cases MG:gy M cm with
   | none => --dup 2
    refine Cd.im O (aG O (aL (agY A N c rs fl n A6 c6 cm _ (hT.aq aV.below) (aV.bS hM) kD hN hn hl qX) O ?_));rintro _ w6 ⟨A8,L,rfl,hL,ax⟩;have aZ:=aV.call ax;refine ar O (Kl O D1 1 (a:=cm) (u:=(⟨A8,N,N⟩,L)) aZ O O O O ?_);intro w7 a6;have cJ:di w7 A8 N L:=a6.bF 0 O;have bL:St w w7 (lZ 132 g (kJ yv D8 (km M cm (⟨A8,N,N⟩,L)))::(qC 2 (km M cm (⟨A8,N,N⟩,L))++ [])):=PX (M:=M) (x:=cm) (u:=(⟨A8,N,N⟩,L)) (pre:=[_]) (by rw [Lv MG];exact a6);have abV:∀l u,gy (km M cm (⟨A8,N,N⟩,L)) l=some u->jB N (jY n fl l) N u.2:=fun l u h=>by
     rw [Lr]at h
     split at h
     ·rename_i e;subst e;injection h with h
      subst h;exact hL
     ·exact tF l u h
    clear a6 aZ aV ax kD;have tG:=hL.1;have b5:=cJ.1;have zK:=hL.done (jY.Ay n fl cm |>fun h=>iw▸h) lF.1 lF.2.1;refine aI O (eB [xS (A8) (N) (N),xI ((a:Int)),xP (aB (A8) ((a:Int)).toNat),xI (gi (L) ((a:Int))),xS (A8) (N) (N),xI ((b:Int)),xP (aB (A8) ((b:Int)).toNat),xI (gi (L) ((b:Int))),xB (decide (¬(gi (L) ((a:Int)))=(gi (L) ((b:Int)))))] O (eQ O) ?_ ?_)
    ·exact⟨Dr O,Dr O,fun _ _ hb _ _=>aF (cJ.aq hb).2 O Az,fun _ _ hb _ _=>bh (cJ.aq hb) O Az,Dr O,Dr O,fun _ _ hb _ _=>aF (cJ.aq hb).2 O Az,fun _ _ hb _ _=>bh (cJ.aq hb) O Az,Dr O,av⟩
    intro u w9 mG _;have a7:=bL.aq mG;refine fh O (aR _ O (fun h3=>?_) (fun h3=>?_))
    ·refine aG O (xz [(a:Int),(b:Int)] a7 O O (by decide) (by decide) O O fun A9 dQ bO=>bM O (fD (e6 (fD (e6 ?_)))));refine gK O ⟨A9,2,2,O,⟨fun h=>?_,fun h=>?_⟩,bO.none⟩
     ·rw [EN (bO.bF 0 rfl).2 (by decide)]at h;cases h
     ·exact absurd (zK.2 (lF.2.2.2 (h a b eG (by omega)))) h3
    ·have dK:=lF.2.2.1 (zK.1 (jl.1 h3));refine aG O (aJ O (aT O (tQ ?_)));exact⟨(b+1,km M cm (⟨A8,N,N⟩,L)),by show N - (b+1)<N - b;omega,(alH O),⟨Nat.lt_succ_of_lt eG,hb⟩,abV,fun b' h4 h5=>by
      by_cases e9:b'=b
      ·subst e9;exact dK
      ·exact vH b' h4 (by have h5:b'<b+1:=h5;omega),a7⟩
   | some u0=>
    have hL:jB N (jY n fl cm) N (kg M cm):=by
     rw [(Lz MG).2];exact tF cm u0 MG
    have cJ:di w5 (jE M cm).a (jE M cm).n (kg M cm):=Ko (pre:=[_]) (x:=cm) aV;refine Cd.gq O ?_;have tG:=hL.1;have b5:=cJ.1;have zK:=hL.done (jY.Ay n fl cm |>fun h=>iw▸h) lF.1 lF.2.1;refine cM O (eB [xS ((jE M cm).a) ((jE M cm).n) ((jE M cm).c),xI ((a:Int)),xP (aB ((jE M cm).a) ((a:Int)).toNat),xI (gi (kg M cm) ((a:Int))),xS ((jE M cm).a) ((jE M cm).n) ((jE M cm).c),xI ((b:Int)),xP (aB ((jE M cm).a) ((b:Int)).toNat),xI (gi (kg M cm) ((b:Int))),xB (decide (¬(gi (kg M cm) ((a:Int)))=(gi (kg M cm) ((b:Int)))))] O (eQ O) ?_ ?_)
    ·exact⟨Dr O,Dr O,fun _ _ hb _ _=>aF (cJ.aq hb).2 O Az,fun _ _ hb _ _=>bh (cJ.aq hb) O Az,Dr O,Dr O,fun _ _ hb _ _=>aF (cJ.aq hb).2 O Az,fun _ _ hb _ _=>bh (cJ.aq hb) O Az,Dr O,av⟩
    intro u w9 mG _;have a7:=aV.aq mG;refine fh O (aR _ O (fun h3=>?_) (fun h3=>?_))
    ·refine aG O (xz [(a:Int),(b:Int)] a7 O O (by decide) (by decide) O O fun A9 dQ bO=>bM O (fD (e6 (fD (e6 ?_)))));refine gK O ⟨A9,2,2,O,⟨fun h=>?_,fun h=>?_⟩,bO.none⟩
     ·rw [EN (bO.bF 0 rfl).2 (by decide)]at h;cases h
     ·exact absurd (zK.2 (lF.2.2.2 (h a b eG (by omega)))) h3
    ·have dK:=lF.2.2.1 (zK.1 (jl.1 h3));refine aG O (aJ O (aT O (tQ ?_)));exact⟨(b+1,M),by show N - (b+1)<N - b;omega,(alH O),⟨Nat.lt_succ_of_lt eG,hb⟩,tF,fun b' h4 h5=>by
      by_cases e9:b'=b
      ·subst e9;exact dK
      ·exact vH b' h4 (by have h5:b'<b+1:=h5;omega),a7⟩
  ·have qv:b=N:=by omega
   refine bw O (bA (dh O (aJ O (aT O (tQ ?_)))));exact⟨(a+1,M),by show N - (a+1)<N - a;omega,(alH O),tH,tF,fun a' b' h3 h4 h5=>by
    by_cases e9:a'=a
    ·subst e9;exact vH b' h4 (by omega)
    ·exact oA a' b' (by have h3:a'<a+1:=h3;omega) h4 h5,hS⟩
 ·have uO:a=N:=by omega
  refine bw O (bA (ij O ?_));exact gK O ⟨none,0,0,O,⟨fun _ a' b' h3 h4=>oA a' b' (by omega) h3 (by omega),fun _=>O⟩,hS.none⟩
theorem JF{xs:ai}{x e:Int}:e∈AA xs x↔(0<=e/\e<xs.length)/\gi xs e=x:=by
 unfold AA;rw [fU,fM,kz]
theorem JR{n:Int}{R:ai}{i e:Int}(h0:0<=i)(h1:i<n):e∈pZ n R (i - 1)↔rF R i e:=by
 unfold pZ rF
 split
 ·rw [JF];exact⟨fun h=> .inr ⟨h.1,by omega,h.2⟩,fun h=>h.elim (fun h=>by omega) fun h=> ⟨h.1,h.2.2⟩⟩
 rw [fm];exact⟨fun h=> .inl ⟨h,by omega⟩,fun h=>h.elim (fun h=>h.1) fun h=>by omega⟩
theorem JQ{n:Int}{R:ai}{i f:Int}(h0:0<=i)(h1:i<n):f∈pZ n R (i+1)↔oQ n R i f:=by
 unfold pZ oQ
 split
 ·rw [JF];exact⟨fun h=> .inr ⟨h.1,by omega,h.2⟩,fun h=>h.elim (fun h=>by omega) fun h=> ⟨h.1,h.2.2⟩⟩
 rw [fm];exact⟨fun h=> .inl ⟨h,by omega⟩,fun h=>h.elim (fun h=>h.1) fun h=>by omega⟩
theorem aie{n:Int}{R:ai}{i:Int}(h0:0<=i)(h1:i<n):pZ n R i=AA R i:=by
 unfold pZ;rw [ay (by omega)]
theorem OE{n:Int}{R:ai}{i:Int}(h:R.length<=500):(pZ n R i).length<=500:=by
 unfold pZ
 split
 ·refine l5 (rD _ _) ?_;rw [bN,fj,qE];exact h
 exact(by decide:1<=500)
theorem WA{n:Int}{R:ai}{i e:Int}(h:e∈pZ n R i):e= -1\/(0<=e/\e<R.length):=by
 unfold pZ at h
 split at h
 ·exact .inr (JF.1 h).1
 exact .inl (fm.1 h)
def tu(P:Int->Prop)[DecidablePred P](xs:ai)(q:Nat):Nat:=((xs.take q).filter fun x=>decide (P x)).length
section
variable {P:Int->Prop} [DecidablePred P] {xs:ai} {q:Nat}
theorem KQ:tu P xs q<=q:=by
 unfold tu;refine l5 (rD _ _) ?_;rw [qF];omega
theorem KU(h:q<xs.length)(hp:P (gi xs q)):tu P xs (q+1)=tu P xs q+1:=by
 unfold tu;rw [CC h,oR,dI];simp [hp]
theorem KR(h:q<xs.length)(hp:¬P (gi xs q)):tu P xs (q+1)=tu P xs q:=by
 unfold tu;rw [CC h,oR,dI];simp [hp]
end
def qH(B:ah)(e f x:Int):Prop:=(e<0\/e∈gl B x)/\(f<0\/x∈gl B f)
instance (B:ah)(e f:Int):DecidablePred (qH B e f):=fun x=>by unfold qH;infer_instance
theorem ZN{R:ai}{B:ah}{i e f:Int}:tu (qH B e f) (AA R i) (AA R i).length=(jZ R B i e f).length:=by
 unfold tu jZ AA;rw [List.take_length,List.filter_filter]
 congr 1
 refine List.filter_congr fun x _=>?_
 rw [<-Bool.decide_and];refine ke.2 ?_;unfold qH;exact⟨fun h=> ⟨h.2,h.1⟩,fun h=> ⟨h.2,h.1⟩⟩
theorem aah(n:Int)(A D:aj)(cA cD:Nat)(R:ai)(rs:List aQ)(B:ah)(w:aa)(hR:di w A R.length R)(hB:bz w D B.length rs B)(hP:gE n R B):
 aN prog 88 [.agg #[ak n,.slice A R.length cA,.slice D B.length cD]] w (fun v w'=>∃A' n' c',v= .slice A' n' c'/\(A'.isNone=true↔th n R B)/\St w w' []):=by
 have hn:=hP.n1;have pb:=hP.oV;have hle:=hP.len;have cJ:=fun(e:Int) (h0:0<=e) (h:e< (R.length:Int))=> (hP.at_ h0 h).1
 have b5:∀e:Int,0<=e->e<R.length->(gl B e).length<=500:=fun e h0 h=>by
  have:=qA (N:=R.length) (cJ e h0 h).nodup fun x hx=>by have:=((hP.at_ h0 h).2.1 x hx).1;omega
  omega
 refine bI func88 O ntmps88 O (du O) (bc O (mW (St.refl w) O O ?_));intro A1 w1 aE;have h1:Rd w1 A1 3 (fun j=> [Value.int .i64 n,.slice A R.length cA,.slice D B.length cD].getD j undef):=aE.rd 0 O;have hR:=aE.gH hR;have hB:=aE.bS hB;have aE:=aE.none;refine ar O (aW h1 O (iW (j:=0) h1 (by exact aK Value.pointer O) O O O O (aI O ?_)));refine Cd.loop (α:=Nat) (fun i=> [(1,.pointer A1),(14,ak n),(15,ak i)]) (fun i w'=> (i:Int)<=n/\(∀i' e f:Int,0<=i'->i'< (i:Int)->e∈pZ n R (i' - 1)->f∈pZ n R (i'+1)->(0<=e->0<=f->e∈gl B f)->(jZ R B i' e f).length=2)/\St w1 w' []) (fun i=>n.toNat - i) 0 (alH O) ⟨by show((0:Nat):Int)<=n;omega,fun i' e f h h'=>by have h':i'< ((0:Nat):Int):=h';omega,St.refl _⟩ ?_;rintro i e w2 ⟨hi,oA,ax⟩;have h1:=Rd.below h1 ax.below;have hR:=ax.gH hR;have hB:=ax.bS hB;have aD:=aE.aq ax.below;refine b8 O (aR _ O (fun h2=>?_) (fun h2=>?_))
 ·have MW:=aie (R:=R) (show 0<=(i:Int) by omega) h2;have ade:=OE (n:=n) (i:=(i:Int)) pb;have ac9:=OE (n:=n) (i:=(i:Int) - 1) pb;have acX:=OE (n:=n) (i:=(i:Int)+1) pb;have adf:=fun x=>JF (xs:=R) (x:=(i:Int)) (e:=x)
  refine aG O (aL (Oh A1 A D n R.length cA B.length cD R i _ h1 hR (by omega) (by omega)) O ?_);rintro _ w3 ⟨A4,c4,rfl,rW⟩;have h4:=rW.bF 0 O;refine ar O (aJ O ?_);refine aL (Oh A1 A D n R.length cA B.length cD R ((i:Int)+1) _ (Rd.below h1 rW.below) (rW.gH hR) (by omega) (by omega)) O ?_;rintro _ w4 ⟨A5,c5,rfl,z7⟩;have h5:=z7.bF 0 O;have h4:=h4.aq z7.below;refine ar O (dT O ?_);refine aL (Oh A1 A D n R.length cA B.length cD R ((i:Int) - 1) _ (Rd.below h1 (rW.below.trans (z7.below.mono rW.below.size))) (z7.gH (rW.gH hR)) (by omega) (by omega)) O ?_;rintro _ w5 ⟨A6,c6,rfl,tS⟩;have h6:=tS.bF 0 O;have h4:=h4.aq tS.below;have h5:=h5.aq tS.below;have nI:=(rW.below.trans (z7.below.mono rW.below.size));have nI:=nI.trans (tS.below.mono nI.size);have h1:=Rd.below h1 nI;have hB:=hB.aq nI;have aV:=aD.aq nI;have adW:=ax.aq nI;clear rW z7 tS ax aD;obtain⟨ms,I1⟩:∃ms,pZ n R i=ms:=⟨_,rfl⟩;obtain⟨nr,BW⟩:∃nr,pZ n R ((i:Int) - 1)=nr:=⟨_,rfl⟩;obtain⟨jg,BO⟩:∃jg,pZ n R ((i:Int)+1)=jg:=⟨_,rfl⟩;rw [I1]at h4 ade MW;rw [BO]at h5 acX;rw [BW]at h6 ac9;have wL:=fun e f=>ZN (R:=R) (B:=B) (i:=(i:Int)) (e:=e) (f:=f)
  rw [<-MW]at wL;have BX:∀x∈ms,(0<=x/\x<R.length):=fun x hx=> ((adf x).1 (MW▸hx)).1
  have IY:∀x∈nr,x= -1\/(0<=x/\x<R.length):=fun x hx=>WA (BW▸hx)
  have hhr:∀x∈jg,x= -1\/(0<=x/\x<R.length):=fun x hx=>WA (BO▸hx)
  rw [I1,BW,BO];refine bk O O (aI O ?_);refine Cd.loop (α:=Nat) (fun j=> [(1,.pointer A1),(14,ak n),(15,ak i),(3,ak i),(4,.slice A4 ms.length c4),(5,.slice A5 jg.length c5),(25,.slice A6 nr.length c6),(26,ak (nr.length:Int)),(27,ak j)]) (fun j w'=>j<=nr.length/\w'=w5/\∀p:Nat,p<j->∀f∈jg,(0<=gi nr p->0<=f->gi nr p∈gl B f)->(jZ R B i (gi nr p) f).length=2) (fun j=>nr.length - j) 0 (alH O) ⟨bm _,O,fun p h=>absurd h (jM _)⟩ ?_;rintro j e w6 ⟨hj,rfl,dS⟩;refine b8 O (aR _ O (fun h7=>?_) (fun h7=>?_))
  ·have lR:j<nr.length:=by omega
   refine aG O (aF h6.2 O (bh h6 O ?_));refine ar O (bk O O (aI O ?_));have MB:=IY _ (gi_in lR);generalize IJ:gi nr j=ee at*;refine Cd.loop (α:=Nat) (fun k=> [(1,.pointer A1),(14,ak n),(15,ak i),(3,ak i),(4,.slice A4 ms.length c4),(5,.slice A5 jg.length c5),(25,.slice A6 nr.length c6),(26,ak (nr.length:Int)),(27,ak j),(7,ak ee),(31,.slice A5 jg.length c5),(32,ak (jg.length:Int)),(33,ak k)]) (fun k w'=>k<=jg.length/\w'=w6/\∀p:Nat,p<k->(0<=ee->0<=gi jg p->ee∈gl B (gi jg p))->(jZ R B i ee (gi jg p)).length=2) (fun k=>jg.length - k) 0 (alH O) ⟨bm _,O,fun p h=>absurd h (jM _)⟩ ?_;rintro k e w7 ⟨hk,rfl,cI⟩;refine b8 O (aR _ O (fun h8=>?_) (fun h8=>?_))
   ·have kF:k<jg.length:=by omega
    refine aG O (aF h5.2 O (bh h5 O (ar O ?_)));have pN:=hhr _ (gi_in kF);generalize IK:gi jg k=ff at*;have qY:((0<=ee->0<=ff->ee∈gl B ff)->(jZ R B i ee ff).length=2)->∀p:Nat,p<k+1->(0<=ee->0<=gi jg p->ee∈gl B (gi jg p))->(jZ R B i ee (gi jg p)).length=2:=fun h p hp=>by
     by_cases ep:p=k
     ·subst ep;rw [IK];exact h
     exact cI p (by omega)
    refine cT 39 O (fun h9=>?_) (fun h9=>?_)
    ·refine au O (ar O (au O (ar O ?_)));refine cT 43 O (fun gZ=>?_) (fun gZ=>?_)
     ·refine au O (ar O (au O (ar O (au O ?_))));refine aL (vU A1 A D cA cD n R rs B ee ff _ h1 hB (by omega) (cJ ff gZ (by omega)) (by have:=b5 ff gZ (by omega);omega)) O ?_;rintro _ w8 ⟨rfl,rfl⟩;refine au O ?_
      first | refine eZ rfl rfl ?_ | refine fY rfl rfl ?_
      refine aI O (aR _ O (fun tz=>?_) (fun tz=>?_))
      ·refine aG O (aJ O (aT O (tQ ?_)));exact⟨k+1,by show jg.length - (k+1)<jg.length - k;omega,(alH O),by omega,O,qY fun h=>absurd (h h9 gZ) tz⟩
      have pf:0<=ee->0<=ff->ee∈gl B ff:=fun _ _=>jl.1 tz
      refine aG O (bk O O (aI O ?_));refine Cd.loop (α:=Nat) (fun q=> [(1,.pointer A1),(14,ak n),(15,ak i),(3,ak i),(4,.slice A4 ms.length c4),(5,.slice A5 jg.length c5),(25,.slice A6 nr.length c6),(26,ak (nr.length:Int)),(27,ak j),(7,ak ee),(31,.slice A5 jg.length c5),(32,ak (jg.length:Int)),(33,ak k),(9,ak ff),(10,ak ((tu (qH B ee ff) ms q:Nat):Int)),(49,.slice A4 ms.length c4),(50,ak (ms.length:Int)),(51,ak q)]) (fun q w'=>q<=ms.length/\w'=w8) (fun q=>ms.length - q) 0 (alH O) ⟨bm _,O⟩ ?_;rintro q e w9 ⟨hq,rfl⟩;have da:=KQ (P:=qH B ee ff) (xs:=ms) (q:=q);refine b8 O (aR _ O (fun Dj=>?_) (fun Dj=>?_))
      ·have vQ:q<ms.length:=by omega
       have hx:=BX _ (gi_in vQ);have kH:=KU (P:=qH B ee ff) vQ;have iF:=KR (P:=qH B ee ff) vQ;refine aG O (aF h4.2 O (bh h4 O (ar O ?_)));generalize Ce:gi ms q=xx at*;refine cT 57 O (fun ov=>?_) (fun ov=>?_)
       ·refine aA O (aA O (aA O (ar O (au O (ar O (au O (ar O (au O (ar O ?_)))))))));refine cT 65 O (fun mA=>?_) (fun mA=>?_)
        ·refine aA O (aA O (aA O (au O (aI O ?_))));refine Cd.im O (aG O (aJ O (ar O (aJ O (aT O (tQ ?_))))));exact⟨q+1,by show ms.length - (q+1)<ms.length - q;omega,⟨O,O,O,O,O,O,O,O,O,O,O,O,O,O,aK (fun m:Nat=>Value.int .i64 (m:Int)) (kH ⟨.inl ov,.inl mA⟩).symm,O,O,O,av⟩,by omega,O⟩
        refine au O (ar O (au O (ar O (au O ?_))));refine aL (vU A1 A D cA cD n R rs B xx ff _ h1 hB (by omega) (cJ ff (by omega) (by omega)) (by have:=b5 ff (by omega) (by omega);omega)) O ?_;rintro _ dQ ⟨rfl,rfl⟩;refine au O (aI O ?_);refine aR _ O (fun mB=>?_) (fun mB=>?_)
        ·refine aG O (aJ O (ar O (aJ O (aT O (tQ ?_)))));exact⟨q+1,by show ms.length - (q+1)<ms.length - q;omega,⟨O,O,O,O,O,O,O,O,O,O,O,O,O,O,aK (fun m:Nat=>Value.int .i64 (m:Int)) (kH ⟨.inl ov,.inr mB⟩).symm,O,O,O,av⟩,by omega,O⟩
        refine aG O (aJ O (aT O (tQ ?_)));exact⟨q+1,by show ms.length - (q+1)<ms.length - q;omega,⟨O,O,O,O,O,O,O,O,O,O,O,O,O,O,aK (fun m:Nat=>Value.int .i64 (m:Int)) (iF fun h=>h.2.elim mA mB).symm,O,O,O,av⟩,by omega,O⟩
       refine au O (ar O (au O (ar O (au O ?_))));refine aL (vU A1 A D cA cD n R rs B ee xx _ h1 hB (by omega) (cJ xx (by omega) (by omega)) (by have:=b5 xx (by omega) (by omega);omega)) O ?_;rintro _ dQ ⟨rfl,rfl⟩;refine ar O (cT 62 O (fun ow=>?_) (fun ow=>?_))
       ·refine au O (ar O (au O (ar O (au O (ar O ?_)))));refine cT 65 O (fun mA=>?_) (fun mA=>?_)
        ·refine aA O (aA O (aA O (au O (aI O ?_))));refine Cd.im O (aG O (aJ O (ar O (aJ O (aT O (tQ ?_))))));exact⟨q+1,by show ms.length - (q+1)<ms.length - q;omega,⟨O,O,O,O,O,O,O,O,O,O,O,O,O,O,aK (fun m:Nat=>Value.int .i64 (m:Int)) (kH ⟨.inr ow,.inl mA⟩).symm,O,O,O,av⟩,by omega,O⟩
        refine au O (ar O (au O (ar O (au O ?_))));refine aL (vU A1 A D cA cD n R rs B xx ff _ h1 hB (by omega) (cJ ff (by omega) (by omega)) (by have:=b5 ff (by omega) (by omega);omega)) O ?_;rintro _ eI ⟨rfl,rfl⟩;refine au O (aI O ?_);refine aR _ O (fun mB=>?_) (fun mB=>?_)
        ·refine aG O (aJ O (ar O (aJ O (aT O (tQ ?_)))));exact⟨q+1,by show ms.length - (q+1)<ms.length - q;omega,⟨O,O,O,O,O,O,O,O,O,O,O,O,O,O,aK (fun m:Nat=>Value.int .i64 (m:Int)) (kH ⟨.inr ow,.inr mB⟩).symm,O,O,O,av⟩,by omega,O⟩
        refine aG O (aJ O (aT O (tQ ?_)));exact⟨q+1,by show ms.length - (q+1)<ms.length - q;omega,⟨O,O,O,O,O,O,O,O,O,O,O,O,O,O,aK (fun m:Nat=>Value.int .i64 (m:Int)) (iF fun h=>h.2.elim mA mB).symm,O,O,O,av⟩,by omega,O⟩
       refine aA O (aA O (aA O (cn O (cn O (cn O (aA O (aI O ?_)))))));refine Cd.gq O (aG O (aJ O (aT O (tQ ?_))));exact⟨q+1,by show ms.length - (q+1)<ms.length - q;omega,⟨O,O,O,O,O,O,O,O,O,O,O,O,O,O,aK (fun m:Nat=>Value.int .i64 (m:Int)) (iF fun h=>h.1.elim ov ow).symm,O,O,O,av⟩,by omega,O⟩
      have zX:q=ms.length:=by omega
      subst zX;have zJ:=wL ee ff;refine bw O (bA (oO O ?_));refine aR _ O (fun ov=>?_) (fun ov=>?_)
      ·refine aG O (xz [(i:Int),ee,ff] aV O O (by decide) (by decide) O O fun A9 dQ bO=>bM O (fD (e6 (fD (e6 (fD (e6 ?_)))))));refine gK O ⟨A9,3,3,O,⟨fun h=>?_,fun h=>?_⟩,bO.none⟩
       ·rw [EN (bO.bF 0 rfl).2 (by decide)]at h;cases h
       have uQ:=h (i:Int) ee ff (by omega) h2 ((JR (by omega) h2).1 (by rw [BW,<-IJ];exact gi_in lR)) ((JQ (by omega) h2).1 (by rw [BO,<-IK];exact gi_in kF)) pf;omega
      refine aG O (aJ O (aT O (tQ ?_)));exact⟨k+1,by show jg.length - (k+1)<jg.length - k;omega,(alH O),by omega,O,qY fun _=>by omega⟩
     have pf:0<=ee->0<=ff->ee∈gl B ff:=fun _ h=>absurd h gZ
     refine aA O (aA O (aA O (aA O (aI O ?_))));refine Cd.gq O (aG O (bk O O (aI O ?_)));refine Cd.loop (α:=Nat) (fun q=> [(1,.pointer A1),(14,ak n),(15,ak i),(3,ak i),(4,.slice A4 ms.length c4),(5,.slice A5 jg.length c5),(25,.slice A6 nr.length c6),(26,ak (nr.length:Int)),(27,ak j),(7,ak ee),(31,.slice A5 jg.length c5),(32,ak (jg.length:Int)),(33,ak k),(9,ak ff),(10,ak ((tu (qH B ee ff) ms q:Nat):Int)),(49,.slice A4 ms.length c4),(50,ak (ms.length:Int)),(51,ak q)]) (fun q w'=>q<=ms.length/\w'=w7) (fun q=>ms.length - q) 0 (alH O) ⟨bm _,O⟩ ?_;rintro q e w9 ⟨hq,rfl⟩;have da:=KQ (P:=qH B ee ff) (xs:=ms) (q:=q);refine b8 O (aR _ O (fun Dj=>?_) (fun Dj=>?_))
     ·have vQ:q<ms.length:=by omega
      have hx:=BX _ (gi_in vQ);have kH:=KU (P:=qH B ee ff) vQ;have iF:=KR (P:=qH B ee ff) vQ;refine aG O (aF h4.2 O (bh h4 O (ar O ?_)));generalize Ce:gi ms q=xx at*;refine cT 57 O (fun ov=>?_) (fun ov=>?_)
      ·refine aA O (aA O (aA O (ar O (au O (ar O (au O (ar O (au O (ar O ?_)))))))));refine cT 65 O (fun mA=>?_) (fun mA=>?_)
       ·refine aA O (aA O (aA O (au O (aI O ?_))));refine Cd.im O (aG O (aJ O (ar O (aJ O (aT O (tQ ?_))))));exact⟨q+1,by show ms.length - (q+1)<ms.length - q;omega,⟨O,O,O,O,O,O,O,O,O,O,O,O,O,O,aK (fun m:Nat=>Value.int .i64 (m:Int)) (kH ⟨.inl ov,.inl mA⟩).symm,O,O,O,av⟩,by omega,O⟩
       refine au O (ar O (au O (ar O (au O ?_))));refine aL (vU A1 A D cA cD n R rs B xx ff _ h1 hB (by omega) (cJ ff (by omega) (by omega)) (by have:=b5 ff (by omega) (by omega);omega)) O ?_;rintro _ dQ ⟨rfl,rfl⟩;refine au O (aI O ?_);refine aR _ O (fun mB=>?_) (fun mB=>?_)
       ·refine aG O (aJ O (ar O (aJ O (aT O (tQ ?_)))));exact⟨q+1,by show ms.length - (q+1)<ms.length - q;omega,⟨O,O,O,O,O,O,O,O,O,O,O,O,O,O,aK (fun m:Nat=>Value.int .i64 (m:Int)) (kH ⟨.inl ov,.inr mB⟩).symm,O,O,O,av⟩,by omega,O⟩
       refine aG O (aJ O (aT O (tQ ?_)));exact⟨q+1,by show ms.length - (q+1)<ms.length - q;omega,⟨O,O,O,O,O,O,O,O,O,O,O,O,O,O,aK (fun m:Nat=>Value.int .i64 (m:Int)) (iF fun h=>h.2.elim mA mB).symm,O,O,O,av⟩,by omega,O⟩
      refine au O (ar O (au O (ar O (au O ?_))));refine aL (vU A1 A D cA cD n R rs B ee xx _ h1 hB (by omega) (cJ xx (by omega) (by omega)) (by have:=b5 xx (by omega) (by omega);omega)) O ?_;rintro _ dQ ⟨rfl,rfl⟩;refine ar O (cT 62 O (fun ow=>?_) (fun ow=>?_))
      ·refine au O (ar O (au O (ar O (au O (ar O ?_)))));refine cT 65 O (fun mA=>?_) (fun mA=>?_)
       ·refine aA O (aA O (aA O (au O (aI O ?_))));refine Cd.im O (aG O (aJ O (ar O (aJ O (aT O (tQ ?_))))));exact⟨q+1,by show ms.length - (q+1)<ms.length - q;omega,⟨O,O,O,O,O,O,O,O,O,O,O,O,O,O,aK (fun m:Nat=>Value.int .i64 (m:Int)) (kH ⟨.inr ow,.inl mA⟩).symm,O,O,O,av⟩,by omega,O⟩
       refine au O (ar O (au O (ar O (au O ?_))));refine aL (vU A1 A D cA cD n R rs B xx ff _ h1 hB (by omega) (cJ ff (by omega) (by omega)) (by have:=b5 ff (by omega) (by omega);omega)) O ?_;rintro _ eI ⟨rfl,rfl⟩;refine au O (aI O ?_);refine aR _ O (fun mB=>?_) (fun mB=>?_)
       ·refine aG O (aJ O (ar O (aJ O (aT O (tQ ?_)))));exact⟨q+1,by show ms.length - (q+1)<ms.length - q;omega,⟨O,O,O,O,O,O,O,O,O,O,O,O,O,O,aK (fun m:Nat=>Value.int .i64 (m:Int)) (kH ⟨.inr ow,.inr mB⟩).symm,O,O,O,av⟩,by omega,O⟩
       refine aG O (aJ O (aT O (tQ ?_)));exact⟨q+1,by show ms.length - (q+1)<ms.length - q;omega,⟨O,O,O,O,O,O,O,O,O,O,O,O,O,O,aK (fun m:Nat=>Value.int .i64 (m:Int)) (iF fun h=>h.2.elim mA mB).symm,O,O,O,av⟩,by omega,O⟩
      refine aA O (aA O (aA O (cn O (cn O (cn O (aA O (aI O ?_)))))));refine Cd.gq O (aG O (aJ O (aT O (tQ ?_))));exact⟨q+1,by show ms.length - (q+1)<ms.length - q;omega,⟨O,O,O,O,O,O,O,O,O,O,O,O,O,O,aK (fun m:Nat=>Value.int .i64 (m:Int)) (iF fun h=>h.1.elim ov ow).symm,O,O,O,av⟩,by omega,O⟩
     have zX:q=ms.length:=by omega
     subst zX;have zJ:=wL ee ff;refine bw O (bA (oO O ?_));refine aR _ O (fun ov=>?_) (fun ov=>?_)
     ·refine aG O (xz [(i:Int),ee,ff] aV O O (by decide) (by decide) O O fun A9 dQ bO=>bM O (fD (e6 (fD (e6 (fD (e6 ?_)))))));refine gK O ⟨A9,3,3,O,⟨fun h=>?_,fun h=>?_⟩,bO.none⟩
      ·rw [EN (bO.bF 0 rfl).2 (by decide)]at h;cases h
      have uQ:=h (i:Int) ee ff (by omega) h2 ((JR (by omega) h2).1 (by rw [BW,<-IJ];exact gi_in lR)) ((JQ (by omega) h2).1 (by rw [BO,<-IK];exact gi_in kF)) pf;omega
     refine aG O (aJ O (aT O (tQ ?_)));exact⟨k+1,by show jg.length - (k+1)<jg.length - k;omega,(alH O),by omega,O,qY fun _=>by omega⟩
    have pf:0<=ee->0<=ff->ee∈gl B ff:=fun h _=>absurd h h9
    refine aA O (aA O (ar O (aA O (aA O (aA O (aA O (aI O ?_)))))));refine Cd.gq O (aG O (bk O O (aI O ?_)));refine Cd.loop (α:=Nat) (fun q=> [(1,.pointer A1),(14,ak n),(15,ak i),(3,ak i),(4,.slice A4 ms.length c4),(5,.slice A5 jg.length c5),(25,.slice A6 nr.length c6),(26,ak (nr.length:Int)),(27,ak j),(7,ak ee),(31,.slice A5 jg.length c5),(32,ak (jg.length:Int)),(33,ak k),(9,ak ff),(10,ak ((tu (qH B ee ff) ms q:Nat):Int)),(49,.slice A4 ms.length c4),(50,ak (ms.length:Int)),(51,ak q)]) (fun q w'=>q<=ms.length/\w'=w7) (fun q=>ms.length - q) 0 (alH O) ⟨bm _,O⟩ ?_;rintro q e w9 ⟨hq,rfl⟩;have da:=KQ (P:=qH B ee ff) (xs:=ms) (q:=q);refine b8 O (aR _ O (fun Dj=>?_) (fun Dj=>?_))
    ·have vQ:q<ms.length:=by omega
     have hx:=BX _ (gi_in vQ);have kH:=KU (P:=qH B ee ff) vQ;have iF:=KR (P:=qH B ee ff) vQ;refine aG O (aF h4.2 O (bh h4 O (ar O ?_)));generalize Ce:gi ms q=xx at*;refine cT 57 O (fun ov=>?_) (fun ov=>?_)
     ·refine aA O (aA O (aA O (ar O (au O (ar O (au O (ar O (au O (ar O ?_)))))))));refine cT 65 O (fun mA=>?_) (fun mA=>?_)
      ·refine aA O (aA O (aA O (au O (aI O ?_))));refine Cd.im O (aG O (aJ O (ar O (aJ O (aT O (tQ ?_))))));exact⟨q+1,by show ms.length - (q+1)<ms.length - q;omega,⟨O,O,O,O,O,O,O,O,O,O,O,O,O,O,aK (fun m:Nat=>Value.int .i64 (m:Int)) (kH ⟨.inl ov,.inl mA⟩).symm,O,O,O,av⟩,by omega,O⟩
      refine au O (ar O (au O (ar O (au O ?_))));refine aL (vU A1 A D cA cD n R rs B xx ff _ h1 hB (by omega) (cJ ff (by omega) (by omega)) (by have:=b5 ff (by omega) (by omega);omega)) O ?_;rintro _ dQ ⟨rfl,rfl⟩;refine au O (aI O ?_);refine aR _ O (fun mB=>?_) (fun mB=>?_)
      ·refine aG O (aJ O (ar O (aJ O (aT O (tQ ?_)))));exact⟨q+1,by show ms.length - (q+1)<ms.length - q;omega,⟨O,O,O,O,O,O,O,O,O,O,O,O,O,O,aK (fun m:Nat=>Value.int .i64 (m:Int)) (kH ⟨.inl ov,.inr mB⟩).symm,O,O,O,av⟩,by omega,O⟩
      refine aG O (aJ O (aT O (tQ ?_)));exact⟨q+1,by show ms.length - (q+1)<ms.length - q;omega,⟨O,O,O,O,O,O,O,O,O,O,O,O,O,O,aK (fun m:Nat=>Value.int .i64 (m:Int)) (iF fun h=>h.2.elim mA mB).symm,O,O,O,av⟩,by omega,O⟩
     refine au O (ar O (au O (ar O (au O ?_))));refine aL (vU A1 A D cA cD n R rs B ee xx _ h1 hB (by omega) (cJ xx (by omega) (by omega)) (by have:=b5 xx (by omega) (by omega);omega)) O ?_;rintro _ dQ ⟨rfl,rfl⟩;refine ar O (cT 62 O (fun ow=>?_) (fun ow=>?_))
     ·refine au O (ar O (au O (ar O (au O (ar O ?_)))));refine cT 65 O (fun mA=>?_) (fun mA=>?_)
      ·refine aA O (aA O (aA O (au O (aI O ?_))));refine Cd.im O (aG O (aJ O (ar O (aJ O (aT O (tQ ?_))))));exact⟨q+1,by show ms.length - (q+1)<ms.length - q;omega,⟨O,O,O,O,O,O,O,O,O,O,O,O,O,O,aK (fun m:Nat=>Value.int .i64 (m:Int)) (kH ⟨.inr ow,.inl mA⟩).symm,O,O,O,av⟩,by omega,O⟩
      refine au O (ar O (au O (ar O (au O ?_))));refine aL (vU A1 A D cA cD n R rs B xx ff _ h1 hB (by omega) (cJ ff (by omega) (by omega)) (by have:=b5 ff (by omega) (by omega);omega)) O ?_;rintro _ eI ⟨rfl,rfl⟩;refine au O (aI O ?_);refine aR _ O (fun mB=>?_) (fun mB=>?_)
      ·refine aG O (aJ O (ar O (aJ O (aT O (tQ ?_)))));exact⟨q+1,by show ms.length - (q+1)<ms.length - q;omega,⟨O,O,O,O,O,O,O,O,O,O,O,O,O,O,aK (fun m:Nat=>Value.int .i64 (m:Int)) (kH ⟨.inr ow,.inr mB⟩).symm,O,O,O,av⟩,by omega,O⟩
      refine aG O (aJ O (aT O (tQ ?_)));exact⟨q+1,by show ms.length - (q+1)<ms.length - q;omega,⟨O,O,O,O,O,O,O,O,O,O,O,O,O,O,aK (fun m:Nat=>Value.int .i64 (m:Int)) (iF fun h=>h.2.elim mA mB).symm,O,O,O,av⟩,by omega,O⟩
     refine aA O (aA O (aA O (cn O (cn O (cn O (aA O (aI O ?_)))))));refine Cd.gq O (aG O (aJ O (aT O (tQ ?_))));exact⟨q+1,by show ms.length - (q+1)<ms.length - q;omega,⟨O,O,O,O,O,O,O,O,O,O,O,O,O,O,aK (fun m:Nat=>Value.int .i64 (m:Int)) (iF fun h=>h.1.elim ov ow).symm,O,O,O,av⟩,by omega,O⟩
    have zX:q=ms.length:=by omega
    subst zX;have zJ:=wL ee ff;refine bw O (bA (oO O ?_));refine aR _ O (fun ov=>?_) (fun ov=>?_)
    ·refine aG O (xz [(i:Int),ee,ff] aV O O (by decide) (by decide) O O fun A9 dQ bO=>bM O (fD (e6 (fD (e6 (fD (e6 ?_)))))));refine gK O ⟨A9,3,3,O,⟨fun h=>?_,fun h=>?_⟩,bO.none⟩
     ·rw [EN (bO.bF 0 rfl).2 (by decide)]at h;cases h
     have uQ:=h (i:Int) ee ff (by omega) h2 ((JR (by omega) h2).1 (by rw [BW,<-IJ];exact gi_in lR)) ((JQ (by omega) h2).1 (by rw [BO,<-IK];exact gi_in kF)) pf;omega
    refine aG O (aJ O (aT O (tQ ?_)));exact⟨k+1,by show jg.length - (k+1)<jg.length - k;omega,(alH O),by omega,O,qY fun _=>by omega⟩
   refine bw O (bA (dh O (aJ O (aT O (tQ ?_)))));exact⟨j+1,by show nr.length - (j+1)<nr.length - j;omega,(alH O),by omega,O,fun p hp f hf=>by
    by_cases ep:p=j
    ·subst ep;rw [IJ];obtain⟨q,hq,e9⟩:=fV.1 hf;rw [<-cd hq]at e9;have:=cI q (by omega)
     rwa [e9]at this
    exact dS p (by omega) f hf⟩
  refine bw O (bA (dh O (aJ O (aT O (tQ ?_)))));exact⟨i+1,by show n.toNat - (i+1)<n.toNat - i;omega,(alH O),by show((i+1:Nat):Int)<=n;omega,fun i' e f h0 h' he hf pf=>by
   by_cases ei:i'=(i:Int)
   ·subst ei;rw [BW]at he;rw [BO]at hf;obtain⟨q,hq,e9⟩:=fV.1 he;rw [<-cd hq]at e9;have:=dS q (by omega) f hf;rw [e9]at this;exact this pf
   exact oA i' e f h0 (by have h':i'< ((i+1:Nat):Int):=h';omega) he hf pf,adW⟩
 refine bw O (bA (ij O ?_));exact gK O ⟨none,0,0,O,⟨fun _ i' e f h0 h3 h4 h5 h6=>oA i' e f h0 (by omega) ((JR h0 h3).2 h4) ((JQ h0 h3).2 h5) h6,fun _=>O⟩,aD⟩
theorem RA{n:Nat}{R:ai}{B:ah}(hn:1<=n)(hb:R.length<=500):∀x∈aC n R B,x.length=n/\∀e∈x,0<=e/\e< (R.length:Int):=fun x hx=>by
 obtain⟨h1,h2,_⟩:=(nh hn).1 hx;refine⟨h1,fun e he=>?_⟩;obtain⟨k,hk,rfl⟩:=fV.1 he;rw [<-cd hk];exact(h2 k (by omega)).1
theorem EW(b:Bool):b=decide (b=true):=by cases b<;>rfl
theorem aeD(n:Nat)(A D:aj)(cA cD:Nat)(R:ai)(rs:List aQ)(B:ah)(Af:aj)(cf:Nat)(fk:List aQ)(w:aa)(hT:na w)(hR:di w A R.length R)(hB:bz w D B.length rs B)(hP:gE n R B)(hF:bz w Af (aC n R B).length fk (aC n R B))(Tk:(aC n R B).length<=400):
 aN prog 82 [.agg #[ak n,.slice A R.length cA,.slice D B.length cD],.slice Af (aC n R B).length cf] w (fun v w'=>∃b:Bool,v= .bool b/\(b=true↔zl n R B)/\St w w' []):=by
 have hn:=hP.n1;have pb:=hP.oV;have zN:=RA (n:=n) (R:=R) (B:=B) (by omega) pb;have acQ:∀x∈aC n R B,x.length=n/\∀e∈x,0<=e/\e<=1000000:=fun x hx=> ⟨(zN x hx).1,fun e he=>by have:=(zN x hx).2 e he;omega⟩
 have qX:(aC n R B).Nodup:=(xM n R B).nodup;refine bI func82 O ntmps82 O (du O) (bc O (mW (St.refl w) O O ?_));intro A1 w1 aE;have h1:Rd w1 A1 3 (fun j=> [Value.int .i64 n,.slice A R.length cA,.slice D B.length cD].getD j undef):=aE.rd 0 O;have hR:=aE.gH hR;have hB:=aE.bS hB;have hF:=aE.bS hF;have hT:=hT.aq aE.below;have aE:=aE.none;refine ar O (bk O O (ar O ?_));refine cT 8 O (fun h2=>?_) (fun h2=>?_)
 ·have bt:aC n R B≠[]:=fun h=>by rw [h]at h2;exact absurd h2 (by decide)
  refine au O (alC 2 h1 O ?_);refine au O (ar O (au O ?_));refine aL (aeE n A D cA R.length B.length cD Af (aC n R B).length cf fk (aC n R B) _ hF pb (fun l hl=> ⟨by have:=(zN l hl).1;omega,(zN l hl).2⟩) (by omega)) O ?_;rintro _ w2 ⟨b,rfl,hb,ax⟩;have h1:=Rd.below h1 ax.below;have hR:=ax.gH hR;have hB:=ax.bS hB;have hF:=ax.bS hF;have hT:=hT.aq ax.below;have aE:=aE.aq ax.below;have zW:b=true↔Hp n R B:=hb;clear ax hb;rw [EW b];refine ar O (cT 13 O (fun h3=>?_) (fun h3=>?_))
  ·refine au O (alC 2 h1 O (au O (aL (aah n A D cA cD R rs B _ hR hB hP) O ?_)));rintro _ w3 ⟨A9,n9,c9,rfl,hd,ax⟩;have hF:=ax.bS hF;have hT:=hT.aq ax.below;have aE:=aE.aq ax.below;clear ax;refine au O (EJ O O O ?_);rw [EW A9.isNone];refine ar O (cT 18 O (fun h4=>?_) (fun h4=>?_))
   ·refine au O (ar O (au O ?_));refine aL (ZT Af (aC n R B).length cf fk (aC n R B) n _ hT hF (by omega) (by omega) acQ qX) O ?_;rintro _ w4 ⟨A8,n8,c8,rfl,hc,ax⟩;have aE:=aE.aq ax.below;refine au O (EJ O O O (bM O (dz O ?_)));exact⟨A8.isNone,O,⟨fun h=> ⟨bt,zW.1 h3,hd.1 h4,hc.1 h⟩,fun h=>hc.2 h.2.2.2⟩,aE⟩
   refine aA O (aA O (aA O (bM O ?_)));refine dz O ?_;exact⟨false,rfl,⟨fun h=> (by cases h),fun h=>absurd (hd.2 h.2.2.1) h4⟩,aE⟩
  refine aA O (aA O (aA O (ar O (aA O (aA O (aA O (bM O ?_)))))));refine dz O ?_;exact⟨false,rfl,⟨fun h=> (by cases h),fun h=>absurd (zW.2 h.2.1) h3⟩,aE⟩
 refine aA O (aA O (aA O (ar O (aA O (aA O (aA O (ar O (aA O (aA O (aA O (bM O ?_)))))))))));refine dz O ?_;exact⟨false,rfl,⟨fun h=> (by cases h),fun h=>absurd (List.length_pos_iff.2 h.1) (by omega)⟩,aE⟩
noncomputable def fP(M:ah):ah:=aC M.length (bn M M.length) (bE M)
noncomputable def nU(M:ah):Int:=if 500<aH M M.length\/400< (fP M).length then 3 else 0
def oP(M:ah):Prop:=aH M M.length<=500/\(fP M).length=(gl M 0).length/\zl M.length (bn M M.length) (bE M)
theorem oP.code{M:ah}(hM:bg M)(h:oP M):nU M=0:=by
 have:=hM.2.1;unfold nU;rw [aw (by have:=h.1;have:=h.2.1;omega)]
theorem nQ{M:ah}(hM:bg M)(h:aH M M.length<=500):gE (M.length:Int) (bn M M.length) (bE M):=aa2 hM h
theorem aeC(A:aj)(n c:Nat)(rs:List aQ)(M:ah)(w:aa)(hT:na w)(hR:bz w A n rs M)(hM:bg M):
 aN prog 94 [.agg #[.slice A n c]] w (fun v w'=>∃b:Bool,v= .tuple #[.bool b,ak (nU M)]/\(b=true↔oP M)/\St w w' []):=by
 have hl:=hR.len;have h5:=hM.1;have h4:=hM.2.1;have o8:=je M M.length;have o4:=uG M;have mL:=hR.ny (k:=0) (by omega) (by omega);refine bI func94 O ntmps94 O (vZ O) (bc O (ik (St.refl w) O O ?_));intro A1 w1 aE;refine ar O (alC 0 (aE.rd 0 O) O (aL (Ri A n c rs M _ (aE.bS hR) hM) O ?_));rintro _ w2 (⟨sI,rfl,ax⟩ | ⟨sI,AR,cR,AD,cD,bp,rfl,iK,ax⟩)
 ·have aD:=aE.aq ax.below;refine ar O (kO aD O ?_);intro A4 w3 aM;refine bW 3 0 aM O O O O O O O fun w4 aU=>ar O ?_
  first | refine eZ rfl rfl ?_ | refine fY rfl rfl ?_
  refine aI O (Cd.im O (eF O (yL O O ?_)));unfold nU;rw [ay (.inl sI)];exact⟨false,rfl,⟨fun h=> (by cases h),fun h=>by have:=h.1;omega⟩,aU.none⟩
 have hP:=nQ hM sI;have aD:=aE.call ax;clear ax aE;refine ar O (kO aD O ?_);intro A4 w3 aM;refine bW 3 0 aM O O O O O O O ?_;intro w4 aU;have aU:St w w4 (bH A4 (M.length:Int) AR (aH M M.length) cR AD (aH M M.length) cD::(az 2 AR (aH M M.length) cR (bn M M.length)::((aO 32 2 AD (aH M M.length) cD bp (bE M)++ [])++ [Bx 24 1 A1 [.slice A n c]]))):=aU;have o7:di w4 AR (bn M M.length).length (bn M M.length):=by rw [o8];exact aU.bF 1 O
 have gf:bz w4 AD (bE M).length bp (bE M):=by
  rw [o4];have h9:=aU.sub (show(aO 32 2 AD (aH M M.length) cD bp (bE M)).Sublist _ from List.Sublist.cons _ (List.Sublist.cons _ (by rw [eu];exact uw _ _)));exact h9.s7 o4
 have lD:=aU.rd 0 O;have df:Rd w4 A1 1 (fun _=> .slice A n c):=by
  have h9:=aU.sub (show List.Sublist [Bx 24 1 A1 [.slice A n c]] _ from List.Sublist.cons _ (List.Sublist.cons _ (iL _ _)));exact Rd.one (h9.rd 0 O)
 refine ar O ?_
 first | refine eZ rfl rfl ?_ | refine fY rfl rfl ?_
 refine aI O (Cd.gq O (aG O (alC 2 lD O ?_)));refine als (Rv M.length AR AD cR cD (bn M M.length) bp (bE M) _ o7 gf hP) O (by rw [o8,o4];rfl) O ?_;rintro _ w5 ⟨Af,cf,GY,rfl,yo,ax⟩;have aV:=aU.aq ax.below;have FH:=o7.aq ax.below;have Fp:=gf.aq ax.below;have nI:=Rd.below lD ax.below;have df:=Rd.below df ax.below
 by_cases iw:(aC M.length (bn M M.length) (bE M)).length<=400
 ·
  have hL:xL M.length (bn M M.length) (bE M)=aC M.length (bn M M.length) (bE M):=by unfold xL;rw [if_pos iw]
  have hK:rM M.length (bn M M.length) (bE M)=0:=by unfold rM;rw [if_pos iw]
  have lS:nU M=0:=by unfold nU;rw [if_neg (by show ¬(500<aH M M.length\/400< (aC M.length (bn M M.length) (bE M)).length);omega)]
  rw [hL]at yo ax|-;rw [hK,lS];have LW:bz w5 Af (aC M.length (bn M M.length) (bE M)).length GY (aC M.length (bn M M.length) (bE M)):=by
   rw [eu]at ax;exact ax.s7 O
  refine ar O (cT 22 O (fun _=>?_) (fun h=>absurd O h));refine au O (ar O (au O ?_));refine aL (G2 _ _ _ _) O ?_;rintro _ w5 ⟨rfl,rfl⟩;refine au O (aL (vq A1 A n c rs M _ _ df O (aV.bS hR) (by omega)) O ?_);rintro _ w5 ⟨rfl,rfl⟩;refine au O (ar O ?_);refine cT 28 O (fun h6=>?_) (fun h6=>?_)
  ·refine au O (alC 2 nI O ?_);refine au O (ar O (au O ?_));refine als (aeD M.length AR AD cR cD (bn M M.length) bp (bE M) Af cf GY _ (hT.aq aV.below) FH Fp hP LW iw) O (by rw [o8,o4];rfl) O ?_;rintro _ w6 ⟨b,rfl,hb,np⟩;refine bM O (yL O O ?_);refine⟨b,O,hb.trans ⟨fun h=> ⟨sI,?_,h⟩,fun h=>h.2.2⟩,(aV.aq np.below).none⟩;show(aC M.length (bn M M.length) (bE M)).length=_;omega
  refine aA O (aA O (aA O (bM O ?_)));refine yL O O ?_;refine⟨false,rfl,⟨fun h=> (by cases h),fun h=>?_⟩,aV.none⟩;have h9:(aC M.length (bn M M.length) (bE M)).length=(gl M 0).length:=h.2.1;omega
 have hL:xL M.length (bn M M.length) (bE M)=[]:=by unfold xL;rw [if_neg iw]
 have hK:rM M.length (bn M M.length) (bE M)=3:=by unfold rM;rw [if_neg iw]
 have lS:nU M=3:=by unfold nU;rw [if_pos (.inr (by show 400< (aC M.length (bn M M.length) (bE M)).length;omega))]
 rw [hL]at yo ax|-;rw [hK,lS];refine ar O (cT 22 O (fun h=>absurd h (by decide)) (fun _=>?_));refine aA O (aA O (aA O (aA O (ar O (aA O (aA O (aA O (bM O ?_))))))));refine yL O O ?_;refine⟨false,rfl,⟨fun h=> (by cases h),fun h=>?_⟩,aV.none⟩;have h9:(aC M.length (bn M M.length) (bE M)).length=(gl M 0).length:=h.2.1;omega
end Go.Proofs.YtopgfgdgfjddpaaGreatDoor.Vc
