/-
 Lemmas. Conditions: as each states them.
-/
import Derived.Test.YtagdamiiececaaaGreatDoorLaye
import Derived.Shelf.SlicesE.Reverse
import Derived.Test.YtagdamiiececaaaGreatDoorZl
import Derived.Deep.Matrix
import Derived.ChangeSame
import Derived.ProofKit
import Derived.OpenShut
import Derived.Handed
import Derived.Lib.SmallJoins
set_option maxHeartbeats 8000000
namespace Go.Proofs.YtagdamiiececaaaGreatDoor.Vc
open Tryz
section
open Go.RowKit
theorem R9(N:Nat)(xss:ah):∀k,(ku N xss k).length=xss.length
 | 0=>by rw [ku,qP]
 | k+1=>by
  rw [ku]
  split
  ·rw [qP]
  ·exact R9 N xss k
theorem Ey(N:Nat)(xss:ah):(iP N xss).length=xss.length:=R9 N xss N
theorem MU(A:aj)(n c:Nat)(rs:List aN)(xss:ah)(w:aa)(hR:br w A n rs xss)(hM:aZ xss)(mZ:n<=c)(hc:c<=9223372036854775807):
 aG prog 89 [.agg #[.slice A n c]] w (gR (iP (gl xss 0).length xss) 0 w):=by
 have gP:=hR.len;refine bA func89 O ntmps89 O (pc O O) (a8 O (jd (St.refl w) O O ?_));intro Ab w1 aA;refine gf aA O fun Ac w2 aB=>ar O (ao.b7 0 (aB.rd 1 O) O O O (aL (wx A n c rs xss _ (aB.bY hR) mZ hc) O ?_));rintro _ w3 ⟨rfl,au⟩;have aH:=aB.aq au.below
 first | refine eA rfl rfl ?_ | refine eU rfl rfl ?_
 refine aI O (mD O (fun h=>h hM) (aE O (ao.b7 0 (aH.rd 1 O) O O O (aL (LA A n c rs xss (gl xss 0).length _ (aH.bY hR) hM O) O ?_))));rintro _ w4 ⟨A',c',rs',rfl,bU,nT⟩;have aV:St w w4 ([Bx 37 1 Ac [.slice none 0 0],Bx 37 1 Ab [.slice A n c]]++aT 24 2 A' n c' rs' (iP (gl xss 0).length xss)):=(aH.call nT).perm me;refine cG 1 0 aV O O O O O O O fun w5 aW=>bM O (iL O (aW.rd 0 O) O ?_);have pC:(iP (gl xss 0).length xss).length=n:=by rw [Ey,gP]
 exact⟨A',c',rs',by rw [pC];rfl,by rw [bU,pC],by rw [pC];exact(aW.sub ((jV _).cons _)).sub ((jV _).cons _)⟩
end
section
open Go.RowKit Go.Sort
variable{i:Nat}
theorem Vt{w0 w:aa}{ks:List Ck}(i:Nat){t:ae}{A:aj}{n c:Nat}{xs:List aN}(hS:St w0 w ks)(hk:ks[i]?=some (cd t A n c xs))(h0:0<n)(hn:n<=1000000000):
 aG prog 161 [.slice A n c] w (fun v w'=>v= .tuple #[]/\St w0 w' (ks.set i (cd t A n c xs.reverse))):=by
 obtain⟨h1,h2,h3,h4⟩:=hS.pY hk (xZ _);have hl:xs.length=n:=(hS.gQ i hk).1;have h2:n<=c:=h2;have h3:c<=maxLen:=h3;rcases h4 with⟨_,jP⟩ | ⟨g,o,cur,hA,hg,hh,hs,hc⟩
 ·have jP:c=0:=jP;omega
 have hA:A=some ⟨g,o,none⟩:=hA;have hs:o+c<=cur.size:=hs;have hc:∀j,j<n->cur[o+j]?=(xs.map aN.v)[j]?:=hc;subst hA;subst hl;have key:=AnyE.slices_Reverse adG aN.v (fun _=>O) g o c xs w (KU hh hc) (by omega);refine Calls.mono key fun x w' ⟨hx,q,hw⟩=> ⟨_,hx,O,?_⟩
 subst hw;have h:=hS.laid (q:=q) (m:=xs.length) (enc:=aN.v) (ds:=xs.reverse) hk O hg hh hs (by simp) (by simp;omega) h3;rw [jW (by simp)]at h;exact h
theorem JB{α:Type}{l:List α}{d:α}{n:Nat}(hl:l.length=n)(hi:i<n):l.reverse.getD i d=l.getD (n - 1 - i) d:=by
 subst hl;rw [cN,cN,List.getElem?_reverse hi]
theorem br.rev{w:aa}{A B:aj}{n:Nat}{rs:List aN}{xss:ah}(h:br w A n rs xss)(ht:lQ w B n rs.reverse):br w B n rs.reverse xss.reverse:=
 ⟨ht,by rw [List.length_reverse];exact h.len,fun i hi=>by rw [JB h.top.1 hi,JB h.len hi];exact h.row _ (by omega),fun i hi=>by rw [JB h.top.1 hi];exact h.cap _ (by omega)⟩
theorem N5(A:aj)(n c:Nat)(rs:List aN)(xss:ah)(N:Nat)(w:aa)(hR:br w A n rs xss)(hM:aZ xss)(hN:N=(gl xss 0).length):
 aG prog 88 [.agg #[.slice A n c]] w (fun v w'=>∃A' c' rs',v= .agg #[.slice A' n c']/\rs'.length=n/\St w w' (aT 24 2 A' n c' rs' (dV N xss.reverse 0))):=by
 have hn:=hM.1;have yR:=hM.2.1;have gP:=hR.len;refine bA func88 O ntmps88 O (rB O O) (a8 O (jd (St.refl w) O O ?_));intro Ab w1 aA;refine gf aA O fun Ac w2 aB=>ar O (aX (aB.rd 1 O) O (bn (aB.rd 1 O) O (aL (MK A n c rs _ (aB.bY hR).top (by omega) (by omega)) O ?_)));rintro _ w3 ⟨A6,c6,rfl,au⟩;have aH:=aB.call au;refine ar O (aL (Vt 0 aH O (by omega) (by omega)) O ?_);rintro _ w4 ⟨rfl,aV⟩;have aV:St w w4 [cd 24 A6 n c6 rs.reverse,Bx 37 1 Ac [.slice none 0 0],Bx 37 1 Ab [.slice A n c]]:=aV;have DI:=(aV.bY hR).rev (aV.gQ 0 O);refine ar O ?_;refine aL (Jv A6 n c6 rs.reverse xss.reverse N 0 _ DI (yh hM) (by rw [tw hM,hN]) (by omega) (by omega)) O ?_;rintro _ w5 ⟨A',c',rs',rfl,bU,xW⟩;have aW:St w w5 ([Bx 37 1 Ac [.slice none 0 0],Bx 37 1 Ab [.slice A n c]]++aT 24 2 A' n c' rs' (dV N xss.reverse 0)):=(aV.tail.call xW).perm me;refine cG 1 0 aW O O O O O O O fun w6 ba=>bM O (rF O (ba.rd 0 O) ?_);exact⟨A',c',rs',O,bU,(ba.sub ((jV _).cons _)).sub ((jV _).cons _)⟩
theorem UI(A:aj)(n c:Nat)(rs:List aN)(xss:ah)(w:aa)(hR:br w A n rs xss)(hM:aZ xss)(mZ:n<=c)(hc:c<=9223372036854775807):
 aG prog 39 [.agg #[.slice A n c]] w (gR (dV (gl xss 0).length xss.reverse 0) 0 w):=by
 have gP:=hR.len;refine bA func39 O ntmps39 O (pc O O) (a8 O (jd (St.refl w) O O ?_));intro Ab w1 aA;refine gf aA O fun Ac w2 aB=>ar O (ao.b7 0 (aB.rd 1 O) O O O (aL (wx A n c rs xss _ (aB.bY hR) mZ hc) O ?_));rintro _ w3 ⟨rfl,au⟩;have aH:=aB.aq au.below
 first | refine eA rfl rfl ?_ | refine eU rfl rfl ?_
 refine aI O (mD O (fun h=>h hM) (aE O (ao.b7 0 (aH.rd 1 O) O O O (aL (N5 A n c rs xss (gl xss 0).length _ (aH.bY hR) hM O) O ?_))));rintro _ w4 ⟨A',c',rs',rfl,bU,nT⟩;have aV:St w w4 ([Bx 37 1 Ac [.slice none 0 0],Bx 37 1 Ab [.slice A n c]]++aT 24 2 A' n c' rs' (dV (gl xss 0).length xss.reverse 0)):=(aH.call nT).perm me;refine cG 1 0 aV O O O O O O O fun w5 aW=>bM O (iL O (aW.rd 0 O) O ?_);have pC:(dV (gl xss 0).length xss.reverse 0).length=n:=by rw [qP,List.length_reverse,gP]
 exact⟨A',c',rs',by rw [pC];rfl,by rw [bU,pC],by rw [pC];exact(aW.sub ((jV _).cons _)).sub ((jV _).cons _)⟩
end
section
open Go.RowKit
theorem UR(A:aj)(n c:Nat)(rs:List aN)(xss:ah)(w:aa)(hR:br w A n rs xss)(hM:aZ xss)(mZ:n<=c)(hc:c<=9223372036854775807)(hD:aZ (dV (gl xss 0).length xss.reverse 0))(xo:(gl (dV (gl xss 0).length xss.reverse 0) 0).length=(gl xss 0).length):
 aG prog 38 [.agg #[.slice A n c]] w (fun v w'=>v= .tuple #[.bool (decide (iP (gl xss 0).length xss=iP (gl xss 0).length (dV (gl xss 0).length xss.reverse 0))),ak 0]/\St w w' []):=by
 have gP:=hR.len;have h5:=hM.1;generalize hN:(gl xss 0).length=N at hD xo|-;generalize hY:dV N xss.reverse 0=Y at hD xo|-;have PW:Y.length=n:=by rw [<-hY,qP,List.length_reverse,gP]
 refine bA func38 O ntmps38 O (rA O) (a8 O (jd (St.refl w) O O ?_));intro Ab w1 aA;refine ar O (ao.b7 0 (aA.rd 0 O) O O O (aL (wx A n c rs xss _ (aA.bY hR) mZ hc) O ?_));rintro _ w3 ⟨rfl,au⟩;have aH:=aA.aq au.below
 first | refine eA rfl rfl ?_ | refine eU rfl rfl ?_
 refine aI O (mD O (fun h=>h hM) ?_);have dF:=aH.bY hR;refine dA O ?_;refine eY [.ex (.agg #[.slice (A) (n) (c)]),.pr (fun v w'=>∃A9 c9 n3,v= .agg #[.slice A9 n c9]/\br w' A9 n n3 (iP N xss)),.ex (.agg #[.slice (A) (n) (c)]),.pr (fun v w'=>∃A9 c9 n3,v= .agg #[.slice A9 n c9]/\br w' A9 n n3 Y),.pr (fun v w'=>∃A9 c9 n3,v= .agg #[.slice A9 n c9]/\br w' A9 n n3 (iP N Y)),xB (decide (iP N xss=iP N Y)),xB (decide (iP N xss=iP N Y)),xI ((0:Int))] rfl (lx (cI.2 ⟨Yd.cV (fun v w w' h hb=>by obtain⟨A9,c9,n3,hv,hT⟩:=h;exact⟨A9,c9,n3,hv,hT.aq hb⟩),(lx (cI.2 ⟨Yd.cV (fun v w w' h hb=>by obtain⟨A9,c9,n3,hv,hT⟩:=h;exact⟨A9,c9,n3,hv,hT.aq hb⟩),(cI.2 ⟨Yd.cV (fun v w w' h hb=>by obtain⟨A9,c9,n3,hv,hT⟩:=h;exact⟨A9,c9,n3,hv,hT.aq hb⟩),(lx (lx (lx (fun _ h=>by cases h))))⟩)⟩))⟩)) ?_ ?_
 ·refine⟨fun _ _ hb _ _=>ao.b7 0 ((aH.rd 0 O).below hb) O O O Az,?_,fun _ _ hb _ _=>ao.b7 0 ((aH.rd 0 O).below hb) O O O Az,?_,?_,?_,Dr O,Dr O,av⟩
  ·intro e1 w1 hb hp a6;refine aL (LA A n c rs xss N _ (dF.aq hb) hM hN.symm) O ?_;rintro _ w9 ⟨A9,c9,n3,rfl,QH,gO⟩;refine ao.n ?_;exact gz.dn gO.below ⟨A9,c9,n3,O,(gO.sub (jV _)).kb (by rw [Ey];exact gP)⟩
  ·intro e1 w1 hb hp a6;refine aL (N5 A n c rs xss N _ (dF.aq hb) hM hN.symm) O ?_;rintro _ w9 ⟨A9,c9,n3,rfl,QH,gO⟩;rw [hY]at gO;exact ao.n (gz.dn gO.below ⟨A9,c9,n3,O,(gO.sub (jV _)).kb PW⟩)
  ·intro e1 w1 hb hp a6;obtain⟨bR,dT,af1,ia,hT⟩:=(hp 3 (by decide) rfl _ _ rfl rfl);refine ajj (LA bR n dT af1 Y N _ hT hD xo.symm) O (by exact aO (fun v=> [v]) ia) O ?_;rintro _ w9 ⟨A9,c9,n3,rfl,QH,gO⟩;refine ao.n ?_;exact gz.dn gO.below ⟨A9,c9,n3,O,(gO.sub (jV _)).kb (by rw [Ey];exact PW)⟩
  intro e1 w1 hb hp a6;obtain⟨A9,c9,n3,h8,hT⟩:=(hp 1 (by decide) rfl _ _ rfl rfl);obtain⟨cL,gq,af2,p5,hU⟩:=(hp 4 (by decide) rfl _ _ rfl rfl);refine ajj (agc A9 n c9 n3 _ cL n gq af2 _ _ hT hU (by omega)) O (by exact(aO (fun v=> [v,_]) h8).trans (aO (fun v=> [_,v]) p5)) O ?_;rintro _ w9 ⟨rfl,gO⟩;exact ao.n (gz.dn gO.below O)
 intro uu w7 xC _;refine CT O (Cx O O ?_);exact⟨O,(aH.aq xC).none⟩
def oH(L:ai)(F j:Nat):ai:=(List.range F).map fun l:Nat=> (((L.take j).count (l:Int):Nat):Int)
theorem agY(L:ai)(F:Nat):oH L F 0=List.replicate F 0:=by
 apply jo<;>simp [oH]
theorem agX{L:ai}{F j:Nat}(hj:j<L.length)(h0:0<=gi L j)(h1:gi L j<F):(oH L F j).set (gi L j).toNat (gi (oH L F j) (gi L j)+1)=oH L F (j+1):=by
 have hx:gi L j=L[j]:=bO hj;rw [hx]at h0 h1|-;have hg:gi (oH L F j) L[j]=(((L.take j).count L[j]:Nat):Int):=by
  have eO:L[j].toNat<F:=by omega
  simp only [gi,oH,cN,List.getElem?_map,List.getElem?_range eO,Option.map_some,Option.getD_some];rw [Int.toNat_of_nonneg h0]
 rw [hg];apply jo
 ·simp [oH]
 intro i kj qh;rw [List.getElem_set];simp only [oH,List.getElem_map,List.getElem_range];rw [rQ hj,mb,List.count_singleton]
 split
 ·rename_i e;have e2:(i:Int)=L[j]:=by omega
  rw [e2];simp
 rename_i e;have e2:¬L[j]=(i:Int):=by omega
 simp [e2]
theorem aev(A:aj)(n c:Nat)(rs:List aN)(xss:ah)(N:Nat)(w:aa)(hR:br w A n rs xss)(hn:n<=9223372036854775807)(hs:Sys N xss)(ug:pT N xss)(hN:N<=1048576):
 aG prog 163 [ak N,.slice A n c] w (fun v w'=>∃A',v= .slice A' (bg N xss N).2.toNat (bg N xss N).2.toNat/\St w w' [az 2 A' (bg N xss N).2.toNat (bg N xss N).2.toNat (oH (bg N xss N).1 (bg N xss N).2.toNat N)]):=by
 have mo:=wz N xss N;have pC:=nU N xss N;have D7:=Ew hs ug;refine bA func163 O ntmps163 O (cJ O) (a8 O (aL (HE A n c rs xss N w hR hn hs ug hN) O ?_));rintro _ w1 ⟨A5,rfl,aA⟩;obtain⟨F,hF⟩:∃F:Nat,(bg N xss N).2=F:=⟨(bg N xss N).2.toNat,by omega⟩;rw [hF]at mo D7|-;rw [gG];generalize (bg N xss N).1=L at pC D7 aA|-;refine ar O (wW F aA O O (by omega) ?_);intro A7 w2 aB;have aB:St w w2 [az 2 A7 F F (oH L F 0),az 2 A5 N N L]:=by rw [agY];exact aB
 refine ar O (bc O O (aI O ?_));refine Cd.loop (α:=Nat) (fun j=> [(7,.slice A7 F F),(18,.slice A5 N N),(19,ak N),(20,ak j)]) (fun j w'=>St w w' [az 2 A7 F F (oH L F j),az 2 A5 N N L]/\j<=N) (fun j=>N - j) 0 (ajs O) ⟨aB,a7 _⟩ ?_;rintro j e w3 ⟨aH,hj⟩;have DE:=aH.bI 1 O;have JZ:=aH.bI 0 O;refine bL O (aR _ O (fun h1=>?_) (fun h1=>?_))
 ·have hv:=D7 (j:Int) (by omega) (by omega);have au:=agX (L:=L) (F:=F) (j:=j) (by omega) hv.1 hv.2;have hcb:gi (oH L F j) (gi L j)<=1048576/\0<=gi (oH L F j) (gi L j):=by
   have eO:(gi L j).toNat<F:=by omega
   have e:gi (oH L F j) (gi L j)=(((L.take j).count (gi L j):Nat):Int):=by
    simp only [gi,oH,cN,List.getElem?_map,gG]at eO|-;rw [List.getElem?_range eO];simp only [Option.map_some,Option.getD_some]
    congr 2
    have:=hv.1;simp only [gi,cN,gG]at this;omega
   have h5:=List.count_le_length (a:=gi L j) (l:=L.take j);rw [oM]at h5;omega
  refine aE O (aM DE.2 O (bk DE O (ar O (ajh JZ.2 O O O hv.1 hv.2 (bk JZ O (aK O (ajh JZ.2 O O O hv.1 hv.2 (lu 0 aH O O O (by omega) ?_))))))));intro w4 aV;refine ar O (aK O (aU O (tQ ?_)));refine⟨j+1,by show N - (j+1)<N - j;omega,(ajs O),?_,by omega⟩;rw [<-au];exact aV
 obtain rfl:j=N:=by omega
 refine bw O (bz (gE O ?_));exact gD O ⟨A7,O,aH.sub (List.Sublist.cons_cons _ (List.nil_sublist _))⟩
theorem agZ{L:ai}{N:Nat}(hl:L.length=N)(h:∀x∈L,x=0):oH L 1 N=[(N:Int)]:=by
 unfold oH;rw [<-hl,List.take_length];show [((L.count ((0:Nat):Int):Nat):Int)]=_;rw [List.count_eq_length.2 (fun x hx=>by rw [h x hx];rfl)]
theorem agN(x:Int):l5 [x]=[x]:=by
 have h:=H3 [x];exact List.perm_singleton.1 h
theorem ag1(Ab A:aj)(c:Nat)(rs:List aN)(xss:ah)(w:aa)(lD:2<=c)(hB:Rd w Ab 1 (fun _=> .slice A 2 c))(hR:br w A 2 rs xss)(hM:aZ xss):
 aG prog 92 [.pointer Ab] w (fun v w'=>∃A' c' rs',v= .slice A' 1 c'/\rs'.length=1/\St w w' (aT 24 2 A' 1 c' rs' [[((gl xss 0).length:Int) / 2]])):=by
 have hl:=hR.len;have h2:=hM.2.1;have e0:(rg rs 0).n=(gl xss 0).length:=(hR.oG (by omega) (by omega)).symm;have abd:∀x:Int,0<=x->x< (gl xss 0).length->Reach xss 0 x:=(vo hM.2.2.1.sys (by omega)).1 hM.2.2.2.2;have aaV:=(R3 hM.2.2.1.sys (by omega)).2 abd;have aax:∀x∈(bg (gl xss 0).length xss (gl xss 0).length).1,x=0:=fun x hx=>by
  obtain⟨a,ha,rfl⟩:=List.getElem_of_mem hx;have h3:=nU (gl xss 0).length xss (gl xss 0).length;have h4:=Ew hM.2.2.1.sys hM.2.2.1.inj a (by omega) (by omega);rw [bO ha]at h4;omega
 have htl:=agZ (nU (gl xss 0).length xss (gl xss 0).length) aax;have abx:=hM.2.2.1.sys;have ug:=hM.2.2.1.inj;generalize hN:(gl xss 0).length=N at*;refine bA func92 O ntmps92 O (cJ O) (a8 O (aL (zM Ab A 2 c _ _ hB O) O ?_));rintro _ w ⟨rfl,rfl⟩;refine dQ O (aI O ?_);refine Cd.loop (α:=Nat×(aj×Nat)×List aN) (fun z=> [(0,.pointer Ab),(3,.slice z.2.1.1 z.1 z.2.1.2),(9,ak 1),(10,ak (z.1:Int))]) (fun z w'=>z.1<=1/\z.2.2.length=z.1/\St w w' (aT 24 2 z.2.1.1 z.1 z.2.1.2 z.2.2 (List.replicate z.1 [(N:Int) / 2]))) (fun z=>1 - z.1) (0,(none,0),[]) (ajs O) ⟨a7 _,O,(St.refl _).nil _⟩ ?_;rintro⟨i,⟨AX,cX⟩,rX⟩ e w1 ⟨hi,ru,hS⟩;dsimp only at hi ru hS|-;refine bL O (aR _ O (fun h1=>?_) (fun h1=>?_))
 ·obtain rfl:i=0:=by omega
  have eE:=Rd.below hB hS.below;have de:=hS.bY hR;have iY:∀ {w':aa},Below w1.heap.size w1 w'->aG prog 125 [.pointer Ab] w' (fun v Ia=>v=ak N/\Ia=w'):=fun {w'} hb=> (sY Ab A 2 c rs xss _ _ (Rd.below eE hb) O (de.aq hb) (by omega)).mono fun v Ia h=> ⟨by rw [h.1,e0],h.2⟩
  refine dA O ?_;refine kK [10] [yP (Ab),yI N,yP (Ab),yP (Ab),yP (aJ (Ab) 0),yS (A) (2) (c),yI (((0:Nat):Int)),yI (((0:Nat):Int)),yI ((((0:Nat):Int))+ ((2:Int))),yS A 2 c,.pr (fun v w'=>∃A5,v= .slice A5 1 1/\St w w' (az 2 A5 1 1 [(N:Int)]::aT 24 2 AX 0 cX rX [])),.pr (fun v w'=>∃A5,v= .slice A5 1 1/\St w w' (az 2 A5 1 1 [(N:Int)]::aT 24 2 AX 0 cX rX []))] (by kernel_rfl) (by kernel_rfl) (ly (ly (ly (ly (ly (ly (ly (ly (ly (ly (cI.2 ⟨Ye.cV (fun v w w' h hb=>by obtain⟨A5,hv,hT⟩:=h;exact⟨A5,hv,hT.aq hb⟩),(cI.2 ⟨Ye.cV (fun v w w' h hb=>by obtain⟨A5,hv,hT⟩:=h;exact⟨A5,hv,hT.aq hb⟩),(fun _ h=>by cases h)⟩)⟩))))))))))) ?_ ?_
  ·refine⟨bZ O,?_,bZ O,cP fun _ _ hb _ _ _=>lq (eE.below hb) (Nat.succ_pos _) O O (bK O O),cP fun _ _ hb _ _ _=>aX (eE.below hb) O (bK O O),cP fun _ _ hb _ _ _=>bn (eE.below hb) O (bK O O),bZ O,bZ O,aP fun _ _=>aK O (bK O O),?_,?_,?_,av⟩
   ·refine cP fun e1 w1 hb hp a6 hq=>?_
    refine aL (iY hb) O ?_;rintro _ w2 ⟨rfl,au⟩;subst au;refine ao.n (ig O (by exact O))
   ·intro e1 w1 cc eB cC fq hp a6 hq;show ao _ _ _ _ _ _ _;refine Vb O O O O (by omega) (ao.n ?_);exact ig O (by exact aO (fun a=>Value.slice a 2 c) (NS A c))
   ·refine kQ fun e1 w1 hb hp a6 hq=>?_
    refine aL (aev A 2 c rs xss N _ (de.aq hb) (by omega) abx ug (by omega)) O ?_;rintro _ w9 ⟨A5,rfl,au⟩;rw [aaV]at au|-;rw [show(1:Int).toNat=1 from rfl,htl]at au;exact ao.n (fQ.dn O ⟨A5,O,(hS.aq hb).call au⟩)
   refine dP 1 fun e1 w1 hp a6 hq=>?_
   have eP:=hp 10 _ _ (by kernel_rfl) O O (by kernel_rfl);obtain⟨A5,YD,hT⟩:=(hp 10 _ _ (by kernel_rfl) rfl rfl (by kernel_rfl));refine tJ O (by exact YD) O (ao.n ?_);exact gA.dn O (Below.refl _ _) ⟨A5,O,hT⟩
  intro u w2 _ hu _ _;obtain⟨A5,hv,aB⟩:=hu 11 _ rfl (by kernel_rfl);refine Fl (F:=[(5,.slice A5 1 1)]) ⟨hv,av⟩ (kc O (bc O O (aI O ?_)));refine Cd.loop (α:=Nat×ai) (fun z=> [(0,.pointer Ab),(3,.slice AX 0 cX),(5,.slice A5 1 1),(9,ak 1),(10,ak ((0:Nat):Int)),(25,ak 1),(26,ak (z.1:Int))]) (fun z w'=>z.1<=1/\z.2=(if z.1=0 then [(N:Int)]else [(N:Int) / 2])/\St w w' (az 2 A5 1 1 z.2::aT 24 2 AX 0 cX rX [])) (fun z=>1 - z.1) (0,[(N:Int)]) (ajs O) ⟨a7 _,O,aB⟩ ?_;rintro⟨k,l⟩ e w3 ⟨hk,KH,aH⟩;dsimp only at hk KH aH|-;refine bL O (aR _ O (fun h2=>?_) (fun h2=>?_))
  ·obtain rfl:k=0:=by omega
   obtain rfl:l=[(N:Int)]:=KH;refine aE O (ajh (aH.bI 0 O).2 O O O (by decide) (by decide) (aji (i:=((0:Nat):Int)) (aH.bI 0 O) O (by decide) O O (ao.quo (i:=(N:Int)) O O O (by omega) (ajh (aH.bI 0 O).2 O O O (by decide) (by decide) (lu 0 (i:=((0:Nat):Int)) aH O O O (by decide) fun w4 aV=>ar O (aK O (aU O (tQ ?_))))))));exact⟨(1,[(N:Int) / 2]),by show 1 - 1<1 - 0;omega,(ajs O),bj _,O,aV⟩
  obtain rfl:k=1:=by omega
  obtain rfl:l=[(N:Int) / 2]:=KH;refine bw O (bz (dh O ?_));refine aL (TH 0 aH O (by omega)) O ?_;rintro _ w4 ⟨rfl,aV⟩;have aV:St w w4 (az 2 A5 1 1 (l5 [(N:Int) / 2])::aT 24 2 AX 0 cX rX []):=aV;rw [agN]at aV;refine ar O (aL (NQ 0 aV O (by omega)) O ?_);rintro _ w5 ⟨rfl,aW⟩;have aW:St w w5 (az 2 A5 1 1 [(N:Int) / 2]::aT 24 2 AX 0 cX rX []):=aW;refine kO (n0:=1) aW O O O fun Ux w6 ba=>mJ 2 ba O (ba.gQ 0 O) O O O (by omega) (by omega) O fun wO xe w7 bG=>ar O (aK O (aU O (tQ ?_)));refine⟨(1,(wO,xe),rX++ [⟨A5,1,1⟩]),by show 1 - 1<1 - 0;omega,(ajs O),bj _,by show(rX++ [_]).length=1;rw [cS,ru];rfl,?_⟩;obtain rfl:rX=[]:=qH ru;exact bG.tail.perm (List.Perm.swap _ _ _)
 obtain rfl:i=1:=by omega
 refine bw O (bz (gE O ?_));exact gD O ⟨AX,cX,rX,O,ru,hS⟩
theorem Vx(A:aj)(c:Nat)(rs:List aN)(xss:ah)(w:aa)(hR:br w A 2 rs xss)(hM:aZ xss)(lD:2<=c)(hc:c<=9223372036854775807):
 aG prog 43 [.agg #[.slice A 2 c]] w (fun v w'=>∃A' c' rs',v= .tuple #[.slice A' 1 c',ak 0]/\rs'.length=1/\St w w' (aT 24 2 A' 1 c' rs' [[((gl xss 0).length:Int) / 2]])):=by
 refine bA func43 O ntmps43 O (rA O) (a8 O (jd (St.refl w) O O ?_));intro Ab w1 aA;refine ar O (ao.b7 0 (aA.rd 0 O) O O O (aL (wx A 2 c rs xss _ (aA.bY hR) lD hc) O ?_));rintro _ w3 ⟨rfl,au⟩;have aH:=aA.aq au.below
 first | refine eA rfl rfl ?_ | refine eU rfl rfl ?_
 refine aI O (mD O (fun h=>h hM) (aE O (aL (ag1 Ab A c rs xss _ lD (Rd.one (aH.rd 0 O)) (aH.bY hR) hM) O ?_)));rintro _ w4 ⟨A',c',rs',rfl,ic,nT⟩;refine bM O (zN O O ?_);exact⟨A',c',rs',O,ic,(aH.call nT).sub (qI _ _)⟩
section
variable {P:Program} {N:Nat} {ops:Array Oper} {K:Env->aa->Prop} {rest:List Oper} {e:Env} {w0 w w':aa} {ks:List Ck} {d:Nat} {ty:ae} {pos:String} {af:Array Edge}
end
theorem adm(A:aj)(n c:Nat)(rs:List aN)(xss:ah)(B:aj)(m d:Nat)(ts:List aN)(dZ:ah)(w:aa)(hX:br w A n rs xss)(hY:br w B m ts dZ)(Bt:aZ xss)(PE:aZ dZ)(hn:n<=c)(hc:c<=9223372036854775807)(hm:m<=d)(hd:d<=9223372036854775807):
 aG prog 40 [.agg #[.slice A n c],.agg #[.slice B m d]] w (fun v w'=>v= .bool (decide (iP (gl xss 0).length xss=iP (gl dZ 0).length dZ))/\St w w' []):=by
 have h1:=Bt.1;have h2:=PE.1;have xL:=Ey (gl xss 0).length xss;have GZ:=Ey (gl dZ 0).length dZ;have cT:∀x∈iP (gl xss 0).length xss,x.length<=9223372036854775806:=fun x hx=>by
  obtain⟨f,hf,e⟩:=LC Bt rfl;rw [e]at hx;have hI:=(OO Bt O (f:=(f:Int)) (by omega) (by omega)).2;have q:=(hI.2.2.1 x hx).1;have:=hI.2.1;omega
 refine bA func40 O ntmps40 O (cJ O) (a8 O (jd (St.refl w) O O ?_));intro A2 w1 aA;refine jd aA O O fun A3 w2 aB=>ar O (ao.b7 0 (aB.rd 1 O) O O O (aL (MU A n c rs xss _ (aB.bY hX) Bt hn hc) O ?_));rintro _ w3 ⟨Aa,ca,Ty,rfl,sn,au⟩;have Br:br w3 Aa (iP (gl xss 0).length xss).length Ty (iP (gl xss 0).length xss):=St.tx (ks:=[]) (by rw [fM];exact au) O;have aH:=aB.aq au.below;have YT:=aH.rd 0 O;refine ar O (gf (St.refl w3) O ?_);intro A5 w4 DK;refine cG 1 0 DK O O O O O O O fun w5 nJ=>ar O (ao.b7 0 (Rd.below YT nJ.below) O O O (aL (MU B m d ts dZ _ ((aH.bY hY).aq nJ.below) PE hm hd) O ?_));rintro _ w6 ⟨Ab,cb,HY,rfl,o7,jk⟩;have ua:br w6 Ab (iP (gl dZ 0).length dZ).length HY (iP (gl dZ 0).length dZ):=St.tx (ks:=[]) (by rw [fM];exact jk) O;have nK:=nJ.aq jk.below;have YU:=nK.rd 0 O;refine ar O (gf (St.refl w6) O ?_);intro A7 w7 Zw;refine cG 1 0 Zw O O O O O O O fun w8 DM=>ar O (dp 21 O (fun _=>?_) (fun h=>absurd O h));refine ax O (ar O (ax O (ar O ?_)));refine dp 25 O (fun _=>?_) (fun h=>absurd O h);refine ax O (ao.b7 0 (Rd.below YU DM.below) O O O (ax O (ao.b7 0 (DM.rd 0 O) O O O (ax O (aL (Sd Aa _ ca Ty (iP (gl xss 0).length xss) Ab _ cb HY (iP (gl dZ 0).length dZ) _ ((Br.aq nK.below).aq DM.below) (ua.aq DM.below) (by omega) cT) O ?_)))));rintro _ w9 ⟨rfl,gO⟩;refine bM O (dK O ?_);exact⟨O,(((aH.call nK).call DM).aq gO.below).none⟩
end
section
structure ln(N:Nat)(xss:ah)(p:ai):Prop where
 len:p.length=N
 cj:∀x:Int,0<=x->x<N->0<=gi p x/\gi p x<N
 oi:∀(m:Nat) (x:Int),m<xss.length->0<=x->x<N->gi p (gi (gl xss m) x)=gi (gl xss m) (gi p x)
section
variable {N:Nat} {xss:ah} {p q:ai}
theorem ln.zH(h:ln N xss p)(hM:aZ xss)(hN:N=(gl xss 0).length){z:Int}(h0:0<=z)(h1:z<N):∃x:Int,(0<=x/\x<N)/\gi p x=z:=by
 have hs:=hM.2.2.1.sys;have yR:=hM.2.1;rw [<-hN]at hs;have hb:=h.cj 0 (by omega) (by omega);have hr:=hM.any (f:=gi p 0) (g:=z) hb.1 (by omega) h0 (by omega);have key:∀y,Reach xss (gi p 0) y->∃x:Int,(0<=x/\x<N)/\gi p x=y:=by
  intro y hy
  induction hy with
  | refl=>exact⟨0,⟨by omega,by omega⟩,rfl⟩
  | step _ hm ih=>
   obtain⟨x,hx,rfl⟩:=ih;obtain⟨i,hi,rfl⟩:=fJ.1 hm;have hq:=(hs _ hm).2 x hx.1 hx.2;have hc:=h.oi i x hi hx.1 hx.2;rw [bP hi]at hc;exact⟨_,hq,hc⟩
 exact key z hr
theorem ln.inj(h:ln N xss p)(hM:aZ xss)(hN:N=(gl xss 0).length):∀x y:Int,0<=x->x<N->0<=y->y<N->gi p x=gi p y->x=y:=by
 intro x y hx dH hy kq e;apply ob;intro bt;obtain⟨i,rfl⟩:∃i:Nat,x=i:=⟨x.toNat,by omega⟩;obtain⟨j,rfl⟩:∃j:Nat,y=j:=⟨y.toNat,by omega⟩;have hl:=h.len;have Lc:=E2 (vq N) (p.eraseIdx j) (by
  unfold vq;rw [List.nodup_iff_pairwise_ne,kM];exact(List.nodup_iff_pairwise_ne.1 List.nodup_range).imp (fun h e=>h (by omega))) (fun z hz=>by
  have hz:=Mk.1 hz;obtain⟨u,hu,rfl⟩:=h.zH hM hN hz.1 hz.2;obtain⟨k,rfl⟩:∃k:Nat,u=k:=⟨u.toNat,by omega⟩;rw [List.mem_eraseIdx_iff_getElem]
  by_cases hk:k=j
  ·subst hk;exact⟨i,by omega,by omega,by rw [<-e,bO (by omega)]⟩
  exact⟨k,by omega,hk,by rw [bO (by omega)]⟩)
 rw [H2,List.length_eraseIdx,ay (by omega)]at Lc;omega
theorem ln.ism(h:ln N xss p)(hM:aZ xss)(hN:N=(gl xss 0).length):iz N xss xss (gi p):=⟨rfl,h.cj,h.inj hM hN,fun i x hi hx dH=> (h.oi i x hi hx dH).symm⟩
theorem ln.form(h:ln N xss p)(hM:aZ xss)(hN:N=(gl xss 0).length){x:Int}(h0:0<=x)(h1:x<N):dV N xss (gi p x)=dV N xss x:=F6 (h.ism hM hN) hM hN h0 h1
theorem ln.one(h:ln N xss p)(h':ln N xss q)(hM:aZ xss)(hN:N=(gl xss 0).length)(e:gi p 0=gi q 0):p=q:=by
 have hs:=hM.2.2.1.sys;have yR:=hM.2.1;rw [<-hN]at hs;have key:∀y,Reach xss 0 y->(0<=y/\y<N)/\gi p y=gi q y:=by
  intro y hy
  induction hy with
  | refl=>exact⟨⟨by omega,by omega⟩,e⟩
  | step _ hm ih=>
   obtain⟨hx,e⟩:=ih;obtain⟨i,hi,rfl⟩:=fJ.1 hm;have h1:=h.oi i _ hi hx.1 hx.2;have h2:=h'.oi i _ hi hx.1 hx.2;rw [bP hi]at h1 h2;exact⟨(hs _ hm).2 _ hx.1 hx.2,by rw [h1,h2,e]⟩
 apply jo
 ·rw [h.len,h'.len]
 ·intro i h1 h2;have:=(key i (hM.all (by omega) (by have:=h.len;omega))).2
  rwa [bO h1,bO h2]at this
theorem XN(hM:aZ xss)(hN:N=(gl xss 0).length){f g:Int}(h0:0<=f)(h1:f<N)(h2:0<=g)(h3:g<N)(e:dV N xss f=dV N xss g):∃p,ln N xss p/\gi p f=g:=by
 have hs:=hM.2.2.1.sys;have J6:=hM.yg h0 (by rw [<-hN];exact h1);have J7:=hM.yg h2 (by rw [<-hN];exact h3);rw [<-hN]at hs J6 J7;have Y9:=Bh hM hN h0 h1;have Pv:=Bh hM hN h2 h3;have GP:∀x:Int,0<=x->x<N->gi ((List.range N).map fun x:Nat=>gi (b8 N xss g) (gi (kB N (b8 N xss f)) x)) x=gi (b8 N xss g) (gi (kB N (b8 N xss f)) x):=fun x hx dH=>by
  obtain⟨k,rfl⟩:∃k:Nat,x=k:=⟨x.toNat,by omega⟩;rw [bO (by simp;omega)];simp
 have hr:∀x:Int,0<=x->x<N->0<=gi (b8 N xss g) (gi (kB N (b8 N xss f)) x)/\gi (b8 N xss g) (gi (kB N (b8 N xss f)) x)<N:=fun x hx dH=>by
  obtain⟨k,hk,_,e2⟩:=J6.vD hx dH;rw [e2];exact J7.cj hk
 have hb:∀x:Int,0<=x->x<N->gi (kB N (b8 N xss g)) (gi (b8 N xss g) (gi (kB N (b8 N xss f)) x))=gi (kB N (b8 N xss f)) x:=fun x hx dH=>by
  obtain⟨k,hk,_,e2⟩:=J6.vD hx dH;rw [e2,J7.back hk]
 refine⟨(List.range N).map fun x:Nat=>gi (b8 N xss g) (gi (kB N (b8 N xss f)) x),⟨by simp,fun x hx dH=>by rw [GP x hx dH];exact hr x hx dH,fun m x hm hx dH=>?_⟩,?_⟩
 ·have bW:∀x:Int,0<=x->x<N->0<=gi (gl xss m) x/\gi (gl xss m) x<N:=(hs (gl xss m) (by rw [bP hm];exact dB _)).2;have gI:=bW x hx dH;have hy:=hr x hx dH;have Eo:=bW _ hy.1 hy.2;have hz:=hr _ gI.1 gI.2;rw [GP x hx dH,GP _ gI.1 gI.2];apply Pv.inj _ _ hz.1 hz.2 Eo.1 Eo.2;rw [hb _ gI.1 gI.2,<-Y9.oi m x hm hx dH,<-Pv.oi m _ hm hy.1 hy.2,hb x hx dH,e]
 rw [GP f h0 h1,(Jw hM hN h0 h1).2];exact(Jw hM hN h2 h3).1
structure uI(N:Nat)(xss ps:ah):Prop where
 FN:∀p∈ps,ln N xss p
 all:∀p,ln N xss p->p∈ps
variable {ps:ah}
theorem uI.sys(h:uI N xss ps):Sys N ps:=fun p hp=> ⟨(h.FN p hp).len,(h.FN p hp).cj⟩
theorem uI.inj(h:uI N xss ps)(hM:aZ xss)(hN:N=(gl xss 0).length):pT N ps:=fun p hp=> (h.FN p hp).inj hM hN
theorem uI.reach(h:uI N xss ps)(hM:aZ xss)(hN:N=(gl xss 0).length){f g:Int}(h0:0<=f)(h1:f<N)(h2:0<=g)(h3:g<N):Reach ps f g↔dV N xss f=dV N xss g:=by
 constructor
 ·intro hr;have key:∀y,Reach ps f y->(0<=y/\y<N)/\dV N xss f=dV N xss y:=by
   intro y hy
   induction hy with
   | refl=>exact⟨⟨h0,h1⟩,rfl⟩
   | step _ hm ih=>
    obtain⟨hx,e⟩:=ih;have hc:=h.FN _ hm;exact⟨hc.cj _ hx.1 hx.2,by rw [e,hc.form hM hN hx.1 hx.2]⟩
  exact(key g hr).2
 ·intro e;obtain⟨p,hp,rfl⟩:=XN hM hN h0 h1 h2 h3 e;exact .step .refl (h.all p hp)
theorem OW{m:ah}:∀k,m∈mR N xss k↔∃j:Nat,j<k/\m=dV N xss j
 | 0=>by simp [mR]
 | k+1=>by
  have ih:=OW (m:=m) k;simp only [mR]
  split
  ·rename_i hk;rw [ih];constructor
   ·rintro⟨j,hj,e⟩;exact⟨j,by omega,e⟩
   ·rintro⟨j,hj,e⟩
    by_cases e2:j=k
    ·subst e2;rw [<-e]at hk;exact ih.1 hk
    ·exact⟨j,by omega,e⟩
  ·rw [jz,ih];constructor
   ·rintro(⟨j,hj,e⟩ | h)
    ·exact⟨j,by omega,e⟩
    ·exact⟨k,by omega,by simpa using h⟩
   ·rintro⟨j,hj,e⟩
    by_cases e2:j=k
    ·subst e2;exact .inr (by simp [e])
    ·exact .inl ⟨j,by omega,e⟩
theorem uI.SO(h:uI N xss ps)(hM:aZ xss)(hN:N=(gl xss 0).length):∀k,k<=N->(bg N ps k).2=((mR N xss k).length:Nat)
 | 0,_=>rfl
 | k+1,hk=>by
  have ih:=h.SO hM hN k (by omega);have hm:=x4 h.sys k (by omega) (k:Int) (by omega) (by omega);have D3:0<=gi (bg N ps k).1 k↔dV N xss k∈mR N xss k:=by
   rw [hm,OW];constructor
   ·rintro⟨j,hj,hr⟩;exact⟨j,hj,((h.reach hM hN (by omega) (by omega) (by omega) (by omega)).1 hr).symm⟩
   ·rintro⟨j,hj,e⟩;exact⟨j,hj,(h.reach hM hN (by omega) (by omega) (by omega) (by omega)).2 e.symm⟩
  by_cases hc:0<=gi (bg N ps k).1 k
  ·rw [wA hc,ih];simp only [mR];rw [ay (D3.1 hc)]
  ·rw [vk hc];simp only [mR];rw [aw (fun hm=>hc (D3.2 hm)),cS,List.length_singleton];omega
end
structure CI(N:Nat)(xss:ah)(b:Int)(i k:Nat)(L Q:ai):Prop where
 len:L.length=N
 val:∀x:Int,0<=x->x<N->(gi L x= -1/\x∉Q)\/((0<=gi L x/\gi L x<N)/\x∈Q)
 EF:Q.Nodup
 cj:∀x∈Q,0<=x/\x< (N:Int)
 q0:(0:Int)∈Q
 l0:gi L 0=b
 le:i<=Q.length
 done:∀j,j<i->∀m,m<xss.length->gi L (gi (gl xss m) (gi Q j))=gi (gl xss m) (gi L (gi Q j))
 part:∀m,m<k->gi L (gi (gl xss m) (gi Q i))=gi (gl xss m) (gi L (gi Q i))
 uniq:∀q,ln N xss q->gi q 0=b->∀x∈Q,gi L x=gi q x
section
variable {N:Nat} {xss:ah} {b:Int} {i k:Nat} {L Q:ai}
theorem CI.init(h0:0<N)(fq:0<=b)(dd:b<N):CI N xss b 0 0 ((List.replicate N (-1)).set 0 b) [0]:=by
 have hg:∀x:Int,0<=x->x<N->gi ((List.replicate N (-1)).set 0 b) x=if(0:Int)=x then b else -1:=fun x hx dH=>by
  have:=pw (S:=List.replicate N (-1)) (x:=0) (y:=x) (b:=b) (by omega) (by simp;omega) hx;rw [show Int.toNat 0=0 from rfl]at this;rw [this,xm hx dH]
 refine⟨by simp,fun x hx dH=>?_,by simp,fun x hx=>by simp at hx;omega,by simp,by rw [hg 0 (by omega) (by omega),ay O],a7 _,fun j hj=>by omega,fun m hm=>by omega,fun q _ e x hx=>?_⟩
 ·rw [hg x hx dH]
  by_cases e:(0:Int)=x
  ·rw [ay e];exact .inr ⟨⟨fq,dd⟩,by simp [<-e]⟩
  rw [aw e];exact .inl ⟨rfl,by simp;omega⟩
 simp at hx;subst hx;rw [hg 0 (by omega) (by omega),ay rfl,e]
theorem CI.at_(h:CI N xss b i k L Q)(hs:Sys N xss)(hi:i<Q.length)(hk:k<xss.length):(0<=gi Q i/\gi Q i<N)/\(0<=gi L (gi Q i)/\gi L (gi Q i)<N)/\(0<=gi (gl xss k) (gi Q i)/\gi (gl xss k) (gi Q i)<N)/\(0<=gi (gl xss k) (gi L (gi Q i))/\gi (gl xss k) (gi L (gi Q i))<N):=by
 have hm:=gi_in hi;have hr:=h.cj _ hm;have hv:0<=gi L (gi Q i)/\gi L (gi Q i)<N:=by
  rcases h.val _ hr.1 hr.2 with h1 | h1
  ·exact absurd hm h1.2
  exact h1.1
 have bW:=(hs (gl xss k) (by rw [bP hk];exact dB _)).2;exact⟨hr,hv,bW _ hr.1 hr.2,bW _ hv.1 hv.2⟩
theorem CI.same(h:CI N xss b i k L Q)(e:gi L (gi (gl xss k) (gi Q i))=gi (gl xss k) (gi L (gi Q i))):CI N xss b i (k+1) L Q:=
 ⟨h.len,h.val,h.EF,h.cj,h.q0,h.l0,h.le,h.done,fun m hm=>by
  by_cases e2:m=k
  ·subst e2;exact e
  exact h.part m (by omega),h.uniq⟩
theorem CI.set(h:CI N xss b i k L Q)(hs:Sys N xss)(hi:i<Q.length)(hk:k<xss.length)(wh:gi L (gi (gl xss k) (gi Q i))<0):
 CI N xss b i (k+1) (L.set (gi (gl xss k) (gi Q i)).toNat (gi (gl xss k) (gi L (gi Q i)))) (Q++ [gi (gl xss k) (gi Q i)]):=by
 obtain⟨hr,hv,hg,ht⟩:=h.at_ hs hi hk;have hlen:=h.len;generalize vd:gi (gl xss k) (gi Q i)=g at*;have xT:∀x:Int,0<=x->gi (L.set g.toNat (gi (gl xss k) (gi L (gi Q i)))) x=if g=x then gi (gl xss k) (gi L (gi Q i))else gi L x:=fun x hx=>pw hg.1 (by omega) hx
 have q9:g∉Q:=fun hm=>by
  rcases h.val g hg.1 hg.2 with h1 | h1
  ·exact h1.2 hm
  omega
 have zg:∀x∈Q,gi (L.set g.toNat (gi (gl xss k) (gi L (gi Q i)))) x=gi L x:=fun x hx=>by
  rw [xT x (h.cj x hx).1,aw (fun e=>q9 (by rw [e];exact hx))]
 have B7:∀x:Int,0<=x->x<N->0<=gi L x->gi (L.set g.toNat (gi (gl xss k) (gi L (gi Q i)))) x=gi L x:=fun x hx dH h0=>by
  rcases h.val x hx dH with h1 | h1
  ·omega
  exact zg x h1.2
 have hQ:∀j:Nat,j<Q.length->gi (Q++ [g]) j=gi Q j:=fun j hj=>yL (List.prefix_append _ _) hj
 have bW:∀(m:Nat) (x:Int),m<xss.length->0<=x->x<N->0<=gi (gl xss m) x/\gi (gl xss m) x<N:=fun m x hm hx dH=> (hs (gl xss m) (by rw [bP hm];exact dB _)).2 x hx dH
 have pI:∀x∈Q,0<=gi L x/\gi L x<N:=fun x hx=>by
  have su:=h.cj x hx;rcases h.val x su.1 su.2 with h1 | h1
  ·exact absurd hx h1.2
  exact h1.1
 have keep:∀(j m:Nat),j<Q.length->m<xss.length->gi L (gi (gl xss m) (gi Q j))=gi (gl xss m) (gi L (gi Q j))->gi (L.set g.toNat (gi (gl xss k) (gi L (gi Q i)))) (gi (gl xss m) (gi (Q++ [g]) j))=gi (gl xss m) (gi (L.set g.toNat (gi (gl xss k) (gi L (gi Q i)))) (gi (Q++ [g]) j)):=fun j m hj hm e=>by
  have ve:=gi_in hj;have QE:=h.cj _ ve;have BV:=pI _ ve;have h1:=bW m _ hm QE.1 QE.2;have h2:=bW m _ hm BV.1 BV.2;rw [hQ j hj,zg _ ve,B7 _ h1.1 h1.2 (by omega),e]
 refine⟨by rw [lp];exact h.len,fun x hx dH=>?_,?_,fun x hx=>?_,List.mem_append_left _ h.q0,?_,by rw [cS];omega,fun j hj m hm=>keep j m (by omega) hm (h.done j hj m hm),fun m hm=>?_,fun q hq eq x hx=>?_⟩
 ·rw [xT x hx]
  by_cases e:g=x
  ·rw [ay e];exact .inr ⟨ht,by simp [e]⟩
  rw [aw e];rcases h.val x hx dH with h1 | h1
  ·exact .inl ⟨h1.1,by simp [h1.2];omega⟩
  exact .inr ⟨h1.1,List.mem_append_left _ h1.2⟩
 ·rw [List.nodup_append];exact⟨h.EF,by simp,fun a ha c hc e=>by simp at hc;subst hc;subst e;exact q9 ha⟩
 ·rcases jz.1 hx with hx | hx
  ·exact h.cj x hx
  simp at hx;subst hx;exact hg
 ·rw [zg 0 h.q0];exact h.l0
 ·by_cases e:m=k
  ·subst e;rw [hQ i hi,zg _ (gi_in hi),vd,xT g hg.1,ay rfl]
  by_cases B3:m<xss.length
  ·exact keep i m hi B3 (h.part m (by omega))
  omega
 rcases jz.1 hx with hx | hx
 ·rw [zg x hx];exact h.uniq q hq eq x hx
 simp at hx;subst hx;have h1:=hq.oi k _ hk hr.1 hr.2;rw [xT _ hg.1,ay rfl,h.uniq q hq eq _ (gi_in hi),<-h1,vd]
theorem CI.none(h:CI N xss b i k L Q)(hs:Sys N xss)(hi:i<Q.length)(hk:k<xss.length)(h0:¬gi L (gi (gl xss k) (gi Q i))<0)(bt:gi L (gi (gl xss k) (gi Q i))≠gi (gl xss k) (gi L (gi Q i))):∀q,ln N xss q->gi q 0=b->False:=fun q hq eq=>by
 obtain⟨hr,hv,hg,ht⟩:=h.at_ hs hi hk;rcases h.val _ hg.1 hg.2 with h1 | h1
 ·omega
 have e1:=h.uniq q hq eq _ h1.2;have e2:=h.uniq q hq eq _ (gi_in hi);have e3:=hq.oi k _ hk hr.1 hr.2;rw [<-e1,<-e2]at e3;exact bt e3
theorem CI.next(h:CI N xss b i xss.length L Q)(hi:i<Q.length):CI N xss b (i+1) 0 L Q:=
 ⟨h.len,h.val,h.EF,h.cj,h.q0,h.l0,hi,fun j hj m hm=>by
  by_cases e:j=i
  ·subst e;exact h.part m hm
  exact h.done j (by omega) m hm,fun m hm=>by omega,h.uniq⟩
theorem CI.end_(h:CI N xss b i 0 L Q)(hM:aZ xss)(hN:N=(gl xss 0).length)(hi:Q.length<=i):ln N xss L/\gi L 0=b:=by
 have hs:=hM.2.2.1.sys;have yR:=hM.2.1;rw [<-hN]at hs;have bW:∀(m:Nat) (x:Int),m<xss.length->0<=x->x<N->0<=gi (gl xss m) x/\gi (gl xss m) x<N:=fun m x hm hx dH=> (hs (gl xss m) (by rw [bP hm];exact dB _)).2 x hx dH
 have dt:∀x∈Q,∀m,m<xss.length->gi L (gi (gl xss m) x)=gi (gl xss m) (gi L x):=fun x hx m hm=>by
  obtain⟨j,hj,rfl⟩:=fJ.1 hx;have:=h.done j (by omega) m hm
  rwa [bO hj]at this
 have pI:∀x∈Q,0<=gi L x/\gi L x<N:=fun x hx=>by
  have su:=h.cj x hx;rcases h.val x su.1 su.2 with h1 | h1
  ·exact absurd hx h1.2
  ·exact h1.1
 have eu:∀y,Reach xss 0 y->y∈Q:=by
  intro y hy
  induction hy with
  | refl=>exact h.q0
  | step _ hm ih=>
   obtain⟨m,B3,rfl⟩:=fJ.1 hm;have hr:=h.cj _ ih;have hv:=pI _ ih;have e:=dt _ ih m B3;have h1:=bW m _ B3 hr.1 hr.2;have h2:=bW m _ B3 hv.1 hv.2;rw [bP B3]at e h1 h2;rcases h.val _ h1.1 h1.2 with h3 | h3
   ·omega
   ·exact h3.2
 have hQ:∀x:Int,0<=x->x<N->x∈Q:=fun x hx dH=>eu x (hM.all hx (by omega))
 exact⟨⟨h.len,fun x hx dH=>pI x (hQ x hx dH),fun m x hm hx dH=>dt x (hQ x hx dH) m hm⟩,h.l0⟩
end
end
section
open Go.RowKit
theorem St.isSome{w0 w:aa}{ks:List Ck}{i:Nat}{t:ae}{A:aj}{n c:Nat}{xs:ai}(h:St w0 w ks)(hk:ks[i]?=some (az t A n c xs))(hn:0<n):∃a,A=some a:=by
 obtain⟨h1,h2,h3,h4⟩:=h.pY hk (sA _);rcases h4 with⟨hA,jP⟩ | ⟨g,o,cur,hA,_⟩
 ·have e1:c=0:=jP;have e2:n<=c:=h2;omega
 exact⟨_,hA⟩
theorem WW(A:aj)(n c:Nat)(rs:List aN)(xss:ah)(N:Nat)(b:Int)(w:aa)(hR:br w A n rs xss)(hM:aZ xss)(hN:N=(gl xss 0).length)(h0:0<=b)(h1:b<N):
 aG prog 214 [.agg #[.slice A n c],.agg #[.slice A n c],ak b] w (fun v w'=> (∃a c' L,v= .slice (some a) N c'/\ln N xss L/\gi L 0=b/\St w w' [az 2 (some a) N c' L])\/(v= .slice none 0 0/\(∀q,ln N xss q->gi q 0=b->False)/\St w w' [])):=by
 have hn:=hM.1;have yR:=hM.2.1;have gP:=hR.len;have hs:=hM.2.2.1.sys;rw [<-hN]at hs;have ni:∀k:Int,0<=k->k<n->(rg rs k).n=N:=fun k hk eN=>by
  have h1:=hR.oG hk eN;have h2:=(hM.2.2.1.at_ (k:=k.toNat) (by omega)).1;rw [Int.toNat_of_nonneg hk]at h2;omega
 have ql:=ni 0 (by omega) (by omega);refine bA func214 O ntmps214 O (cJ O) (a8 O (jd (St.refl w) O O ?_));intro Ab w1 aA;refine jd aA O O fun Ac w2 aB=>ar O (aL (zM Ab A n c _ _ (aB.rd 1 O) O) O ?_);rintro _ w2 ⟨rfl,rfl⟩;refine aL (zM Ac A n c _ _ (aB.rd 0 O) O) O ?_;rintro _ w2 ⟨rfl,rfl⟩;refine aI O (mD O (fun h=>h O) (aE O (eH aB O O O ?_)));intro A1 w3 aH;refine aL (sY Ab A n c rs xss _ _ (aH.rd 2 O) O (aH.bY hR) (by omega)) O ?_;rintro _ w3 ⟨rfl,rfl⟩;rw [ql];refine aL (Fm A1 1 (-1) N _ (aH.bI 0 O) (by omega)) O ?_;rintro _ w4 ⟨A5,rfl,au⟩;have aV:St w w4 [az 2 A5 N N (List.replicate N (-1)),Bx 37 1 Ac [.slice A n c],Bx 37 1 Ab [.slice A n c]]:=(aH.call au).sub (List.Sublist.cons_cons _ (List.sublist_cons_self _ _));refine ar O (aM (aV.bI 0 O).2 O (lu 0 aV O O O (by omega) ?_));intro w5 aW;refine ar O (eH aW O O O ?_);intro A6 w6 ba;have ba:St w w6 [az 2 A6 ([(0:Int)].length - 0) 1 ([(0:Int)].drop 0),az 2 A5 N N ((List.replicate N (-1)).set 0 b),Bx 37 1 Ac [.slice A n c],Bx 37 1 Ab [.slice A n c]]:=ba;refine aI O (Cd.loop (α:=Nat×aj×Nat×ai×ai) (fun z=> [(3,.pointer Ab),(4,.pointer Ac),(7,.slice A5 N N),(8,.slice z.2.1 (z.2.2.2.2.length - z.1) z.2.2.1)]) (fun z w'=>St w w' [az 2 z.2.1 (z.2.2.2.2.length - z.1) z.2.2.1 (z.2.2.2.2.drop z.1),az 2 A5 N N z.2.2.2.1,Bx 37 1 Ac [.slice A n c],Bx 37 1 Ab [.slice A n c]]/\CI N xss b z.1 0 z.2.2.2.1 z.2.2.2.2) (fun z=>N+1 - z.1) (0,A6,1,(List.replicate N (-1)).set 0 b,[0]) (ajs O) ⟨ba,CI.init (by omega) h0 h1⟩ ?_);rintro⟨i,bR,dT,L,Q⟩ e w7 ⟨bG,hC⟩;dsimp only at bG hC|-;have G7:Q.length<=N:=pL hC.EF hC.cj;have hle:=hC.le;refine a8 O (bc O O (aI O ?_));refine aR _ O (fun h3=>?_) (fun h3=>?_)
 ·have bX:i<Q.length:=by omega
  have hQ:=bG.bI 0 O;refine aE O (aM hQ.2 O (bk hQ O ?_));rw [O6];refine ar O (aX (bG.rd 3 O) O (bn (bG.rd 3 O) O ?_));refine bc O O (aI O ?_);refine Cd.loop (α:=Nat×aj×Nat×ai×ai) (fun z=> [(3,.pointer Ab),(4,.pointer Ac),(7,.slice A5 N N),(8,.slice z.2.1 (z.2.2.2.2.length - i) z.2.2.1),(9,ak (gi Q i)),(33,.slice A n c),(34,ak n),(35,ak (z.1:Int))]) (fun z w'=>St w w' [az 2 z.2.1 (z.2.2.2.2.length - i) z.2.2.1 (z.2.2.2.2.drop i),az 2 A5 N N z.2.2.2.1,Bx 37 1 Ac [.slice A n c],Bx 37 1 Ab [.slice A n c]]/\CI N xss b i z.1 z.2.2.2.1 z.2.2.2.2/\z.1<=n/\Q<+:z.2.2.2.2) (fun z=>n - z.1) (0,bR,dT,L,Q) (ajs O) ⟨bG,hC,a7 _,List.prefix_rfl⟩ ?_;rintro⟨k,cL,gq,L',Q'⟩ e w8 ⟨bS,vQ,hk,nQ⟩;dsimp only at bS vQ hk nQ|-;have ow:=nQ.length_le;have hql8:Q'.length<=N:=pL vQ.EF vQ.cj;have Cc:gi Q' i=gi Q i:=yL nQ bX;have DH:=bS.bY hR;refine bL O (aR _ O (fun h4=>?_) (fun h4=>?_))
  ·have eN:k<xss.length:=by omega
   have Kz:i<Q'.length:=by omega
   obtain⟨a1,a2,a3,a4⟩:=vQ.at_ hs Kz eN;rw [Cc]at a1 a2 a3 a4;have cT:=DH.at_ (i:=(k:Int)) (by omega) (by omega);have jw:=ni (k:Int) (by omega) (by omega);have Pz:=bS.bI 1 O;refine aE O (ajh DH.top.2 O O O (by omega) h4 (dI DH.top O (aI O ?_)));refine eY [xS ((rg rs k).a) ((rg rs k).n) ((rg rs k).c),xI ((gi Q i)),xP (aJ ((rg rs k).a) ((gi Q i)).toNat),xI (gi (gl xss k) ((gi Q i))),xP (aJ (Ac) 0),xS (A) (n) (c),xI ((k:Int)),xP (aJ (A) ((k:Int)).toNat),xS ((rg (rs) ((k:Int))).a) ((rg (rs) ((k:Int))).n) ((rg (rs) ((k:Int))).c),xS (A5) (N) (N),xI ((gi Q i)),xP (aJ (A5) ((gi Q i)).toNat),xI (gi (L') ((gi Q i))),xP (aJ ((rg (rs) ((k:Int))).a) (gi (L') ((gi Q i))).toNat),xI (gi (gl xss k) (gi (L') ((gi Q i)))),xI (gi (gl xss k) ((gi Q i))),xI (gi (gl xss k) (gi (L') ((gi Q i))))] O (fE O) ?_ ?_
   ·exact⟨Dr O,Dr O,fun _ _ hb _ _=>aM (cT.aq hb).2 O Az,fun _ _ hb _ _=>bk (cT.aq hb) O Az,fun _ _ hb _ _=>aX ((bS.rd 2 O).below hb) O Az,fun _ _ hb _ _=>bn ((bS.rd 2 O).below hb) O Az,Dr O,fun _ _ hb _ _=>aM (DH.top.aq hb).2 O Az,fun _ _ hb _ _=>dI (DH.top.aq hb) O Az,Dr O,Dr O,fun _ _ hb _ _=>aM (Pz.aq hb).2 O Az,fun _ _ hb _ _=>bk (Pz.aq hb) O Az,fun _ _ hb _ _=>aM (cT.aq hb).2 O Az,fun _ _ hb _ _=>bk (cT.aq hb) O Az,Dr O,Dr O,av⟩
   intro u w9 qY _;have bH:=bS.aq qY;have DF:=bH.bI 1 O;refine kc O (ajh DF.2 O O O a3.1 a3.2 (bk DF O (aI O ?_)));refine aR _ O (fun h5=>?_) (fun h5=>?_)
   ·have QU:=vQ.set hs Kz eN (by rw [Cc];exact h5);rw [Cc]at QU;refine aE O (ajh DF.2 O O O a3.1 a3.2 (lu 1 bH O O O (by omega) ?_));intro eL bQ;refine ar O (eH bQ O O O ?_);intro iM fI dX;refine fN 1 dX O (dX.bI 0 O) O O O fun wN NG fZ dM=>ar O (aK O (aU O (tQ ?_)));have e2:(Q'++ [gi (gl xss k) (gi Q i)]).length - i=Q'.length - i+1:=by simp;omega
    have e3:(Q'++ [gi (gl xss k) (gi Q i)]).drop i=Q'.drop i++ [gi (gl xss k) (gi Q i)]:=List.drop_append_of_le_length (by omega);refine⟨(k+1,wN,NG,L'.set (gi (gl xss k) (gi Q i)).toNat (gi (gl xss k) (gi L' (gi Q i))),Q'++ [gi (gl xss k) (gi Q i)]),by show n - (k+1)<n - k;omega,⟨O,O,O,by show Value.slice _ _ _= .slice _ ((Q'++ [gi (gl xss k) (gi Q i)]).length - i) _;rw [e2],O,O,O,O,av⟩,?_,QU,by show k+1<=n;omega,nQ.trans (List.prefix_append _ _)⟩;show St w fZ [az _ wN ((Q'++ [gi (gl xss k) (gi Q i)]).length - i) NG ((Q'++ [gi (gl xss k) (gi Q i)]).drop i),_,_,_];rw [e2,e3];exact dM.tail
   refine aE O (ajh DF.2 O O O a3.1 a3.2 (bk DF O (aI O ?_)));refine aR _ O (fun h6=>?_) (fun h6=>?_)
   ·refine eT O (gx (fV (gx (fV ?_))));refine gD O ?_;exact .inr ⟨O,vQ.none hs Kz eN (by rw [Cc];exact h5) (by rw [Cc];exact h6),bH.none⟩
   refine aE O (aK O (aU O (tQ ?_)));exact⟨(k+1,cL,gq,L',Q'),by show n - (k+1)<n - k;omega,(ajs O),bH,vQ.same (by rw [Cc];exact iy.1 h6),by show k+1<=n;omega,nQ⟩
  refine bw O (bz (dh O ?_));have BW:k=xss.length:=by omega
  rw [BW]at vQ;refine Fk O O O (by omega) ?_;have bH:=bS.NT (i:=0) O (show 1<=Q'.length - i by omega);have e2:Q'.length - i - 1=Q'.length - (i+1):=by omega
  have e3:(Q'.drop i).drop 1=Q'.drop (i+1):=by rw [List.drop_drop]
  refine aU O (tQ ?_);refine⟨(i+1,cutAt cL gq 1,gq - 1,L',Q'),by show N+1 - (i+1)<N+1 - i;omega,⟨O,O,O,by show Value.slice _ _ _= .slice _ _ _;rw [<-e2];rfl,av⟩,?_,vQ.next (by omega)⟩;show St w w8 [az _ (cutAt cL gq 1) (Q'.length - (i+1)) (gq - 1) (Q'.drop (i+1)),_,_,_];rw [<-e2,<-e3];exact bH
 refine bw O (bz (gE O ?_));refine gD O ?_;have hE:=hC.end_ hM hN (by omega);obtain⟨a,ha⟩:=bG.isSome (i:=1) rfl (by omega);subst ha;exact .inl ⟨a,N,L,O,hE.1,hE.2,bG.tail.sub (List.Sublist.cons_cons _ (List.nil_sublist _))⟩
theorem Vs{w:aa}{A:aj}{n:Nat}{f:Nat->ad}(h:Rd w A (n+1) f):Rd w A 1 (fun _=>f 0):=fun j hj=>by
 obtain rfl:j=0:=by omega
 exact h 0 (by omega)
theorem acb{A:aj}:(!A.isNone)=decide (A≠none):=by cases A<;>simp
theorem WX(A:aj)(n c:Nat)(rs:List aN)(xss:ah)(N:Nat)(w:aa)(hR:br w A n rs xss)(hM:aZ xss)(hN:N=(gl xss 0).length):
 aG prog 162 [.agg #[.slice A n c],.agg #[.slice A n c]] w (fun v w'=>∃A' c',∃rs':List aN,∃ps:ah,v= .slice A' ps.length c'/\rs'.length=ps.length/\ps.length<=N/\uI N xss ps/\St w w' (aT 24 2 A' ps.length c' rs' ps)):=by
 have hn:=hM.1;have yR:=hM.2.1;have gP:=hR.len;have ql:(rg rs 0).n=N:=by rw [hN];exact(hR.oG (by omega) (by omega)).symm
 refine bA func162 O ntmps162 O (cJ O) (a8 O (jd (St.refl w) O O ?_));intro Ab w1 aA;refine jd aA O O fun Ac w2 aB=>ar O (aL (sY Ac A n c rs xss _ _ (aB.rd 0 O) O (aB.bY hR) (by omega)) O ?_);rintro _ w2 ⟨rfl,rfl⟩;rw [ql];have aH:=(aB.nil 24).perm (me (l₁:=[_]) (l₂:=[_,_]));refine aI O ?_;refine Cd.loop (α:=Nat×aj×Nat×List aN×ah) (fun z=> [(2,.pointer Ab),(3,.pointer Ac),(5,.slice z.2.1 z.2.2.2.2.length z.2.2.1),(8,ak N),(9,ak (z.1:Int))]) (fun z w'=>St w w' (Bx 37 1 Ac [.slice A n c]::Bx 37 1 Ab [.slice A n c]::aT 24 2 z.2.1 z.2.2.2.2.length z.2.2.1 z.2.2.2.1 z.2.2.2.2)/\z.1<=N/\z.2.2.2.1.length=z.2.2.2.2.length/\z.2.2.2.2.length<=z.1/\(∀p∈z.2.2.2.2,ln N xss p)/\∀p,ln N xss p->gi p 0<z.1->p∈z.2.2.2.2) (fun z=>N - z.1) (0,none,0,[],[]) ⟨rfl,rfl,rfl,rfl,rfl,av⟩ ⟨aH,a7 _,rfl,bj _,(by intro p hp;cases hp),(by intro p hp h;have:=(hp.cj 0 (by omega) (by omega)).1;have h:gi p 0< ((0:Nat):Int):=h;omega)⟩ ?_;rintro⟨f,A3,c3,rs',ps⟩ e w3 ⟨aH,hf,bU,ow,GD,eu⟩;dsimp only at aH hf bU ow GD eu|-;refine bL O (aR _ O (fun h1=>?_) (fun h1=>?_))
 ·refine aE O (ao.b7 0 (aH.rd 1 O) O O O (ao.b7 0 (aH.rd 0 O) O O O (ar O (aL (WW A n c rs xss N f _ (aH.bY hR) hM hN (by omega) (by omega)) O ?_))));intro v w4 hv;obtain⟨A4,n4,c4,rfl,hw⟩:∃A4 n4 c4,v= .slice A4 n4 c4/\((A4≠none/\N=n4/\∃L,ln N xss L/\gi L 0=f/\St w3 w4 [az 2 A4 N c4 L])\/(¬A4≠none/\(∀q,ln N xss q->gi q 0=f->False)/\St w3 w4 [])):=by
   rcases hv with⟨a,c',L,rfl,h1,h2,h3⟩ | ⟨rfl,h1,h2⟩
   ·exact⟨_,_,_,O,.inl ⟨by simp,O,L,h1,h2,h3⟩⟩
   exact⟨_,_,_,O,.inr ⟨by simp,h1,h2⟩⟩
  refine ar O (Vo O O O ?_);rw [acb];refine aI O (aR _ O (fun h2=>?_) (fun h2=>?_))
  ·obtain⟨_,rfl,L,hL,s7,au⟩:=hw.resolve_right (fun h=>h.1 h2);have aV:=aH.call au;refine aE O (kO aV O O O ?_);intro A7 w5 aW;refine mJ 4 aW O (aW.gQ 0 O) O O O (by omega) (by omega) O ?_;intro A8 c8 w6 ba;have ba:St w w6 (az 2 A4 N c4 L::Bx 37 1 Ac [.slice A n c]::Bx 37 1 Ab [.slice A n c]::cd 24 A8 (ps.length+1) c8 (rs'++ [⟨A4,N,c4⟩])::du 2 rs' ps):=ba.tail;have xF:(ps++ [L]).length=ps.length+1:=by simp
   refine ar O (aK O (aU O (tQ ?_)));refine⟨(f+1,A8,c8,rs'++ [⟨A4,N,c4⟩],ps++ [L]),by show N - (f+1)<N - f;omega,⟨O,O,by show Value.slice _ _ _= .slice _ _ _;rw [xF],O,O,av⟩,?_,by show f+1<=N;omega,by simp [bU],by show(ps++ [L]).length<=f+1;omega,fun p hp=>?_,fun p hp eO=>?_⟩
   ·show St w w6 (_::_::cd 24 A8 (ps++ [L]).length c8 (rs'++ [⟨A4,N,c4⟩])::du 2 (rs'++ [⟨A4,N,c4⟩]) (ps++ [L]));rw [xF,HW bU];exact ba.perm (me (l₁:=[_]) (l₂:=_::_::_::du 2 rs' ps))
   ·rcases jz.1 hp with hp | hp
    ·exact GD p hp
    simp at hp;subst hp;exact hL
   by_cases e:gi p 0=f
   ·rw [hp.one hL hM hN (by rw [e,s7])];simp
   have eO:gi p 0< ((f+1:Nat):Int):=eO;exact List.mem_append_left _ (eu p hp (by omega))
  obtain⟨_,gV,au⟩:=hw.resolve_left (fun h=>h2 h.1);have aV:=aH.aq au.below;refine aE O (aK O (aU O (tQ ?_)));exact⟨(f+1,A3,c3,rs',ps),by show N - (f+1)<N - f;omega,(ajs O),aV,by show f+1<=N;omega,bU,by show ps.length<=f+1;omega,GD,fun p hp eO=>by
   have eO:gi p 0< ((f+1:Nat):Int):=eO
   by_cases e:gi p 0=f
   ·exact(gV p hp e).elim
   exact eu p hp (by omega)⟩
 refine bw O (bz (gE O ?_));refine gD O ?_;exact⟨A3,c3,rs',ps,O,bU,by omega,⟨GD,fun p hp=>eu p hp (by have:=(hp.cj 0 (by omega) (by omega)).2;omega)⟩,aH.tail.tail⟩
theorem XG(A0 A:aj)(n c:Nat)(rs:List aN)(xss:ah)(N:Nat)(w:aa)(hB:Rd w A0 1 (fun _=> .slice A n c))(hR:br w A n rs xss)(hM:aZ xss)(hN:N=(gl xss 0).length):
 aG prog 90 [.pointer A0] w (fun v w'=>∃A',v= .tuple #[.slice A' N N,ak (((mR N xss N).length:Nat):Int)]/\St w w' []):=by
 have hn:=hM.1;have yR:=hM.2.1;have gP:=hR.len;have ql:(rg rs 0).n=N:=by rw [hN];exact(hR.oG (by omega) (by omega)).symm
 refine bA func90 O ntmps90 O (rA O) (bL O ?_);refine eY [xP (A0),xI (((rg rs 0).n:Int)),xP (A0),xP (A0),.ex (.agg #[.slice (A) (n) (c)]),xP (A0),xP (A0),.ex (.agg #[.slice (A) (n) (c)]),.pr (fun v w'=>∃A' c',∃rs':List aN,∃ps:ah,v= .slice A' ps.length c'/\ps.length<=N/\uI N xss ps/\br w' A' ps.length rs' ps),.pr (fun v _=>∃A',v= .tuple #[.slice A' N N,ak (((mR N xss N).length:Nat):Int)]),.pr (fun v _=>∃A',v= .slice A' N N),xI (((mR N xss N).length:Nat):Int),.pr (fun v _=>∃A',v= .slice A' N N),xI (((mR N xss N).length:Nat):Int)] rfl (lx (lx (lx (lx (lx (lx (lx (lx (cI.2 ⟨Yd.cV (fun v w w' h hb=>by obtain⟨A',c',rs',ps,hv,ow,eu,hr⟩:=h;exact⟨A',c',rs',ps,hv,ow,eu,hr.aq hb⟩),(cI.2 ⟨Yd.cV (fun _ _ _ h _=>h),(cI.2 ⟨Yd.cV (fun _ _ _ h _=>h),(lx (cI.2 ⟨Yd.cV (fun _ _ _ h _=>h),(lx (fun _ h=>by cases h))⟩))⟩)⟩)⟩))))))))) ?_ ?_
 ·refine⟨Dr O,?_,Dr O,fun _ _ hb _ _=>lq (hB.below hb) (Nat.succ_pos _) O O Az,fun _ _ hb _ _=>ao.b7 0 (hB.below hb) O O O Az,Dr O,fun _ _ hb _ _=>lq (hB.below hb) (Nat.succ_pos _) O O Az,fun _ _ hb _ _=>ao.b7 0 (hB.below hb) O O O Az,?_,?_,?_,?_,?_,Dr O,av⟩
  ·intro e1 w1 hb hp a6;refine aL (sY _ _ _ _ _ _ _ _ (hB.below hb) O (hR.aq hb) (by omega)) O ?_;rintro _ w2 ⟨rfl,au⟩;subst au;refine ao.n (d0 (by exact O))
  ·intro e1 w1 hb hp a6;refine aL (WX A n c rs xss N _ (hR.aq hb) hM hN) O ?_;rintro _ w2 ⟨A',c',rs',ps,rfl,bU,ow,eu,au⟩;exact ao.n (gz.dn au.below ⟨A',c',rs',ps,O,ow,eu,au.kb O⟩)
  ·intro e1 w1 hb hp a6;obtain⟨A',c',rs',ps,xn,ow,eu,hr⟩:=(hp 8 (by decide) rfl _ _ rfl rfl);refine ajj (HE A' ps.length c' rs' ps N _ hr (by omega) eu.sys (eu.inj hM hN) (by omega)) O (by rw [ql];exact aO (fun v=> [Value.int .i64 (N:Int),v]) xn) O ?_;rintro _ w2 ⟨A2,rfl,au⟩;refine ao.n ?_;exact gz.dn au.below ⟨A2,by rw [eu.SO hM hN N (bj _)]⟩
  ·intro e1 w1 hb hp a6;obtain⟨A',kW⟩:=(hp 9 (by decide) rfl _ _ rfl rfl);refine ao.extract (by exact kW) O O (ao.n ?_);exact gz.dn (Below.refl _ _) ⟨A',O⟩
  ·intro e1 w1 hb hp a6;obtain⟨A',kW⟩:=(hp 9 (by decide) rfl _ _ rfl rfl);refine ao.extract (by exact kW) O O Az
  intro e1 w1 hb hp a6;obtain⟨A',kE⟩:=(hp 10 (by decide) rfl _ _ rfl rfl);refine tJ O (by exact kE) O (ao.n ?_);exact gz.dn (Below.refl _ _) ⟨A',O⟩
 intro u w6 vW hu;have ba:=(St.refl w).aq vW;obtain⟨A',h2⟩:=hu 12 _ rfl;rw [aeS u h2 h2];refine CT O (zN O O ?_);exact⟨A',O,ba⟩
theorem UQ(A:aj)(n c:Nat)(rs:List aN)(xss:ah)(w:aa)(hR:br w A n rs xss)(hM:aZ xss)(mZ:n<=c)(hc:c<=9223372036854775807):
 aG prog 41 [.agg #[.slice A n c]] w (fun v w'=>v= .tuple #[.bool (decide (((mR (gl xss 0).length xss (gl xss 0).length).length:Int)=1)),ak 0]/\St w w' []):=by
 refine bA func41 O ntmps41 O (rA O) (a8 O (jd (St.refl w) O O ?_));intro Ab w1 aA;refine ar O (ao.b7 0 (aA.rd 0 O) O O O (aL (wx A n c rs xss _ (aA.bY hR) mZ hc) O ?_));rintro _ w3 ⟨rfl,au⟩;have aH:=aA.aq au.below
 first | refine eA rfl rfl ?_ | refine eU rfl rfl ?_
 refine aI O (mD O (fun h=>h hM) (aE O (aL (XG Ab A n c rs xss _ _ (Vs (aH.rd 0 O)) (aH.bY hR) hM O) O ?_)));rintro _ w4 ⟨A',rfl,nT⟩;refine bM O (Cx O O ?_);exact⟨O,(aH.aq nT.below).none⟩
def wR(n:Nat)(L:ah)(w:aa)(v:ad)(w':aa):Prop:=∃A c,∃rs:List aN,v= .tuple #[.agg #[.slice A n c],ak 0]/\br w' A n rs L/\(n<=c/\c<=9223372036854775807)/\St w w' []
theorem gR.n{n:Nat}{L:ah}{w w':aa}{v:ad}(hl:L.length=n)(h:gR L 0 w v w'):wR n L w v w':=by
 subst hl;obtain⟨A,c,rs,hv,bU,au⟩:=h;have hc:=au.cap 0 O;exact⟨A,c,rs,hv,au.kb O,⟨hc.1,by have:=hc.2;simp only [maxLen]at this;omega⟩,au.none⟩
section
variable {n Na N:Nat} {a b c:ah} {p q r:ai}
theorem abW(w:aa)(hF:rT n Na N a b c p q r)(hn:1<=n/\n<=3)(hT:js w):aG prog 30 [ak n] w (wR n a w):=by
 have key:aG prog 30 [ak n] w (gR a 0 w):=by rw [<-hF.impl];exact ab2 n (Bi n) (di n) 100 w ⟨hn.1,by omega⟩ hT (ago hn.2)
 exact key.mono fun v w' h=>gR.n hF.one.len h
theorem abX(w:aa)(hF:rT n Na N a b c p q r)(hn:1<=n/\n<=3)(hT:js w):aG prog 31 [ak n] w (wR n b w):=by
 have key:aG prog 31 [ak n] w (gR b 0 w):=by have h:=ab0 n w hT;rw [ay (by omega),ay (by omega),show((n:Int) - 1).toNat=n - 1 by omega,hF.Dg]at h;exact h
 exact key.mono fun v w' h=>gR.n hF.two.len h
theorem abY(w:aa)(hF:rT n Na N a b c p q r)(hn:1<=n/\n<=3)(hT:js w):aG prog 32 [ak n] w (wR n c w):=by
 have key:aG prog 32 [ak n] w (gR c 0 w):=by have h:=abZ n w hT;rw [ay (by omega),ay (by omega),show((n:Int) - 1).toNat=n - 1 by omega,hF.De]at h;exact h
 exact key.mono fun v w' h=>gR.n hF.three.len h
theorem agD(w:aa)(hF:rT n Na N a b c p q r)(hn:1<=n/\n<=3)(hT:js w):aG prog 33 [ak n] w (wR n a w):=by
 have key:aG prog 33 [ak n] w (gR a 0 w):=by rw [<-hF.spec];exact agI n w ⟨hn.1,by omega⟩ (TJ n (by omega))
 exact key.mono fun v w' h=>gR.n hF.one.len h
theorem agE(w:aa)(hF:rT n Na N a b c p q r)(hn:1<=n/\n<=3)(hT:js w):aG prog 34 [ak n] w (wR n b w):=by
 have key:aG prog 34 [ak n] w (gR b 0 w):=by have h:=agH n w;rw [ay (by omega),ay (by omega),show((n:Int) - 1).toNat=n - 1 by omega,hF.Dg]at h;exact h
 exact key.mono fun v w' h=>gR.n hF.two.len h
theorem agF(w:aa)(hF:rT n Na N a b c p q r)(hn:1<=n/\n<=3)(hT:js w):aG prog 35 [ak n] w (wR n c w):=by
 have key:aG prog 35 [ak n] w (gR c 0 w):=by have h:=agG n w;rw [ay (by omega),ay (by omega),show((n:Int) - 1).toNat=n - 1 by omega,hF.De]at h;exact h
 exact key.mono fun v w' h=>gR.n hF.three.len h
theorem Jq(A:aj)(d:Nat)(rs:List aN)(X:ah)(cs:ai)(w:aa)(hX:pn n N X cs)(hR:br w A n rs X)(hd:n<=d/\d<=9223372036854775807):
 aG prog 37 [.agg #[.slice A n d]] w (fun v w'=>∃A' c',v= .tuple #[.slice A' n c',ak 0]/\cn w' A' n cs/\St w w' []):=
 (ab1 A n d rs X w hR hd.1 hd.2 hX.ll).mono fun v w' h=>by
   obtain⟨A',c',hv,au⟩:=h;rw [hX.oS]at au;exact⟨A',c',hv,au.bI 0 O,au.none⟩
theorem L6(A:aj)(d:Nat)(rs:List aN)(X:ah)(cs:ai)(w:aa)(hX:pn n N X cs)(hR:br w A n rs X)(hd:n<=d/\d<=9223372036854775807):
 aG prog 41 [.agg #[.slice A n d]] w (fun v w'=>v= .tuple #[.bool true,ak 0]/\St w w' []):=
 (UQ A n d rs X w hR hX.ll hd.1 hd.2).mono fun v w' h=>by
   have e:=hX.reg;rw [hX.num,e]at h;exact h
theorem agh(A:aj)(d:Nat)(rs:List aN)(w:aa)(hF:rT n Na N a b c p q r)(hR:br w A n rs a)(hd:n<=d/\d<=9223372036854775807):
 aG prog 38 [.agg #[.slice A n d]] w (fun v w'=>v= .tuple #[.bool true,ak 0]/\St w w' []):=
 (UR A n d rs a w hR hF.one.ll hd.1 hd.2 (Jg hF.one.ll) (Jh hF.one.ll)).mono fun v w' h=>by
   have e:=hF.self;unfold rZ at e;rw [hF.one.num]at h e;rw [eM e]at h;exact h
theorem Xl(A:aj)(d:Nat)(rs:List aN)(w:aa)(hF:rT n Na N a b c p q r)(hR:br w A n rs b)(hd:n<=d/\d<=9223372036854775807):
 aG prog 39 [.agg #[.slice A n d]] w (wR n (rZ b) w):=
 (UI A n d rs b w hR hF.two.ll hd.1 hd.2).mono fun v w' h=>gR.n ((Xj b).trans hF.two.len) h
theorem adn(A:aj)(d:Nat)(rs:List aN)(B:aj)(e:Nat)(ts:List aN)(w:aa)(hF:rT n Na N a b c p q r)(hR:br w A n rs (rZ b))(hd:n<=d/\d<=9223372036854775807)(p7:br w B n ts c)(he:n<=e/\e<=9223372036854775807):
 aG prog 40 [.agg #[.slice A n d],.agg #[.slice B n e]] w (fun v w'=>v= .bool true/\St w w' []):=
 (adm A n d rs (rZ b) B n e ts c w hR p7 (Jg hF.two.ll) hF.three.ll hd.1 hd.2 he.1 he.2).mono fun v w' h=>by
   have e9:=hF.oU;rw [Jh hF.two.ll,hF.two.num,hF.three.num,eM e9]at h;exact h
theorem Mi(A:aj)(d:Nat)(rs:List aN)(B:aj)(e:Nat)(ts:List aN)(X:ah)(cs:ai)(w:aa)(hX:pn n N X cs)(hR:br w A n rs X)(p7:br w B n ts X):
 aG prog 36 [.agg #[.slice A n d],.agg #[.slice B n e]] w (fun v w'=>v= .bool true/\St w w' []):=
 (Sd A n d rs X B n e ts X w hR p7 (by have:=hX.ll.1;have:=hX.len;omega) (fun x hx=>by
   have h1:=hX.ll.2.1;have h2:=(hX.ll.2.2.1 x hx).1;omega)).mono fun v w' h=>by
   rw [eM rfl]at h;exact h
end
end
section
section
variable {X Y:ah}
end
end
section
open Go.RowKit
end
section
variable{p:Nat}
theorem Ms{v:Nat->Int}{n:Nat}:jI v n n=(List.range n).map v:=by
 unfold jI;exact od fun g hg=>ay (fU.1 hg)
theorem H4{v:Nat->Int}{n g:Nat}(hg:g<n):gi (jI v n n) g=v g:=by
 rw [Ms];unfold gi;rw [gG,cN,List.getElem?_map,List.getElem?_range hg]
 rfl
theorem zU{v:Nat->Int}{n f:Nat}:(jI v n f).length=n:=by simp [jI]
theorem T1{v:Nat->Int}{n:Nat}(hn:n<=400)(h:∀g:Nat,g<n->∃g':Nat,v g=g'/\g'<n/\g'≠g/\v g'=g):ma (jI v n n)/\sO (jI v n n):=by
 refine⟨⟨by rw [zU];exact hn,fun x hx=>?_,?_⟩,fun a ha=>?_⟩
 ·rw [zU];rw [Ms]at hx;obtain⟨a,ha,rfl⟩:=db.1 hx;obtain⟨g',e,h1,_⟩:=h a (fU.1 ha);omega
 ·rw [Ms];refine kM.2 ((List.nodup_range).imp_of_mem fun {a b} ha hb bt e=>bt ?_);obtain⟨a',e1,_,_,e2⟩:=h a (fU.1 ha);obtain⟨b',e3,_,_,e4⟩:=h b (fU.1 hb);have:a'=b':=by omega
  subst this;omega
 rw [zU]at ha;obtain⟨a',e1,h1,h2,e2⟩:=h a ha;rw [H4 ha,e1,H4 h1,e2];exact⟨by omega,O⟩
theorem Mz{g:Nat}(h:g%2=0):qC g=((g+1:Nat):Int):=by
 have h:(g:Int)%2=0:=by omega
 unfold qC;rw [ay h];omega
theorem Ul{g:Nat}(h:g%2=1):qC g=((g - 1:Nat):Int):=by
 have h2:¬(g:Int)%2=0:=by omega
 unfold qC;rw [aw h2];omega
theorem Um{n:Nat}(hn:1<=n):lJ n 0=((n - 1:Nat):Int):=by
 unfold lJ;rw [ay (by decide),Int.emod_eq_of_lt (by omega) (by omega)];omega
theorem Un{n g:Nat}(h:g%2=0)(h0:0<g)(hg:g<n):lJ n g=((g - 1:Nat):Int):=by
 have h2:(g:Int)%2=0:=by omega
 unfold lJ;rw [ay h2,show(g:Int)+ (n:Int) - 1=((g:Int) - 1)+ (n:Int) by omega,Int.add_emod_right,Int.emod_eq_of_lt (by omega) (by omega)];omega
theorem MA{n g:Nat}(h:g%2=1)(hg:g+1<n):lJ n g=((g+1:Nat):Int):=by
 have h2:¬(g:Int)%2=0:=by omega
 unfold lJ;rw [aw h2,Int.emod_eq_of_lt (by omega) (by omega)];omega
theorem Uo{n g:Nat}(h:g%2=1)(hg:g+1=n):lJ n g=0:=by
 have h2:¬(g:Int)%2=0:=by omega
 unfold lJ;rw [aw h2,show(g:Int)+1=(n:Int) by omega,Int.emod_self]
theorem ae2(hp:1<=p)(hn:2*p<=400):aZ (rz p):=by
 have hA:∀g:Nat,g<2*p->∃g':Nat,qC g=g'/\g'<2*p/\g'≠g/\qC g'=g:=fun g hg=>by
  rcases(show g%2=0\/g%2=1 by omega)with c | c
  ·exact⟨g+1,Mz c,by omega,by omega,by rw [Ul (by omega)];rfl⟩
  ·exact⟨g - 1,Ul c,by omega,by omega,by rw [Mz (by omega)];omega⟩
 have hB:∀g:Nat,g<2*p->∃g':Nat,lJ (2*p) g=g'/\g'<2*p/\g'≠g/\lJ (2*p) g'=g:=fun g hg=>by
  rcases(show g%2=0\/g%2=1 by omega)with c | c
  ·by_cases c0:g=0
   ·subst c0;exact⟨2*p - 1,Um (by omega),by omega,by omega,Uo (by omega) (by omega)⟩
   ·exact⟨g - 1,Un c (by omega) hg,by omega,by omega,by rw [MA (by omega) (by omega)];omega⟩
  ·by_cases c0:g+1=2*p
   ·exact⟨0,Uo c c0,by omega,by omega,by rw [Um (by omega)];omega⟩
   ·exact⟨g+1,MA c (by omega),by omega,by omega,by rw [Un (by omega) (by omega) (by omega)];rfl⟩
 have nO:(gl (rz p) 0).length=2*p:=zU;have hs:Sys (2*p) (rz p):=fun q hq=> ⟨(S4 hp q hq).1,fun x h0 h1=> (S4 hp q hq).gi h0 h1⟩
 refine⟨by show 1<=2/\2<=5;omega,by rw [nO];omega,fun q hq=>?_,fun i hi k hk mr f hf=>?_,?_⟩
 ·rw [nO];rcases jq.1 hq with rfl | hq
  ·exact⟨zU,T1 hn hA⟩
  ·rw [gk]at hq;subst hq;exact⟨zU,T1 hn hB⟩
 ·have hk:k<2:=hk;omega
 ·rw [nO];have key:∀f:Nat,f<2*p->Reach (rz p) 0 (f:Int):=by
   intro f
   induction f with
   | zero=>intro _;exact .refl
   | succ f ih=>
    intro hf;have h1:=ih (by omega)
    by_cases c:f%2=0
    ·have h2:=h1.step (show jI qC (2*p) (2*p)∈rz p from List.mem_cons_self);rw [H4 (by omega)]at h2
     rwa [Mz c]at h2
    ·have h2:=h1.step (show jI (lJ (2*p)) (2*p) (2*p)∈rz p from pj _ List.mem_cons_self);rw [H4 (by omega)]at h2
     rwa [MA (by omega) (by omega)]at h2
  refine(vo hs (by omega)).2 fun x h0 h1=>?_
  obtain⟨f,rfl⟩:∃f:Nat,x=f:=⟨x.toNat,by omega⟩;exact key f (by omega)
end
section
open Go.RowKit
theorem ahD:∀n,n<4->∀k,k<4->k<=n->0<=wM n k* ((n:Int)+1 - ((k:Int)+1)+1)/\wM n k* ((n:Int)+1 - ((k:Int)+1)+1)<=1000:=by decide
theorem agv:∀n,n<4->∀k,k<4->k<=n->0<=tA n k* ((n:Int) - ((k:Int)+1)+1)/\tA n k* ((n:Int) - ((k:Int)+1)+1)<=1000:=by decide
theorem agw:∀n,n<4->∀k,k<n->0<=tA n k*uz (n - k)/\tA n k*uz (n - k)<=1000:=by decide
set_option maxRecDepth 100000 in
theorem UK(Ac:aj)(nc cc:Nat)(bs:ai)(w:aa)(hT:js w)(hY:tM w Ac nc bs):
 aG prog 5 [.slice Ac nc cc] w (fun v w'=>v= .bool true/\St w w' []):=by
 refine bA func5 O ntmps5 O (cJ O) (a8 O (aL (V8 Ac nc cc w) O ?_));rintro _ w1 ⟨rfl,yV⟩;refine aI O (aR _ O (fun h1=>?_) (fun h1=>?_))
 ·refine eT O (dK O ?_);exact⟨O,yV⟩
 refine aE O (aL (afW Ac nc cc bs 716 _ (hY.below yV.below) (by omega)) O ?_);rintro _ w2 ⟨As,kk,rfl,hK,hD⟩;refine ar O (aL (NZ 0 3 hD O hK) O ?_);rintro _ w3 ⟨x,kk,rfl,⟨qn,gI,_⟩,hK,hD⟩;have gI:=gI (by omega);obtain⟨n,hn⟩:∃n:Nat,1+x=n:=⟨(1+x).toNat,by omega⟩;have xN:1<=n/\n<=3:=by omega
 obtain⟨Na,N,a,b,c,p,q,r,hF⟩:=ags n xN.1 xN.2;have hT:=(hT.aq yV.below).aq hD.below;have hW:=(yV.call hD).none;refine aK O (ar O ?_);rw [hn];refine aL (abW _ hF xN hT) O ?_;rintro _ u0 ⟨A0,c0,r0,rfl,eJ,jP,au⟩;have aC:=au.below;have hD:=hD.aq aC;have hT:=hT.aq aC;have hW:=hW.aq aC;clear au;refine ar O (gf (St.refl u0) O ?_);intro X0 u0b hU;refine cG 1 0 hU O O O O O O O ?_;intro u0c hU;have fg:Rd u0c X0 1 (fun _=> .slice A0 n c0):=Rd.one (hU.rd 0 O);have aC:=hU.below;have hD:=hD.aq aC;have hT:=hT.aq aC;have hW:=hW.aq aC;have eJ:=eJ.aq aC;clear hU;refine ar O (aL (abX _ hF xN hT) O ?_);rintro _ u1 ⟨A1,c1,r1,rfl,de,u9,au⟩;have aC:=au.below;have hD:=hD.aq aC;have hT:=hT.aq aC;have hW:=hW.aq aC;have eJ:=eJ.aq aC;have fg:=Rd.below fg aC;clear au;refine ar O (gf (St.refl u1) O ?_);intro X1 u1b hU;refine cG 1 0 hU O O O O O O O ?_;intro u1c hU;have eE:Rd u1c X1 1 (fun _=> .slice A1 n c1):=Rd.one (hU.rd 0 O);have aC:=hU.below;have hD:=hD.aq aC;have hT:=hT.aq aC;have hW:=hW.aq aC;have eJ:=eJ.aq aC;have fg:=Rd.below fg aC;have de:=de.aq aC;clear hU;refine ar O (aL (abY _ hF xN hT) O ?_);rintro _ u2 ⟨A2,c2,r2,rfl,dW,lD,au⟩;have aC:=au.below;have hD:=hD.aq aC;have hT:=hT.aq aC;have hW:=hW.aq aC;have eJ:=eJ.aq aC;have fg:=Rd.below fg aC;have de:=de.aq aC;have eE:=Rd.below eE aC;clear au;refine ar O (gf (St.refl u2) O ?_);intro X2 u2b hU;refine cG 1 0 hU O O O O O O O ?_;intro u2c hU;have eF:Rd u2c X2 1 (fun _=> .slice A2 n c2):=Rd.one (hU.rd 0 O);have aC:=hU.below;have hD:=hD.aq aC;have hT:=hT.aq aC;have hW:=hW.aq aC;have eJ:=eJ.aq aC;have fg:=Rd.below fg aC;have de:=de.aq aC;have eE:=Rd.below eE aC;have dW:=dW.aq aC;clear hU;refine ar O (aL (agD _ hF xN hT) O ?_);rintro _ u3 ⟨A3,c3,r3,rfl,dF,hc3,au⟩;have aC:=au.below;have hD:=hD.aq aC;have hT:=hT.aq aC;have hW:=hW.aq aC;have eJ:=eJ.aq aC;have fg:=Rd.below fg aC;have de:=de.aq aC;have eE:=Rd.below eE aC;have dW:=dW.aq aC;have eF:=Rd.below eF aC;clear au;refine ar O (gf (St.refl u3) O ?_);intro X3 u3b hU;refine cG 1 0 hU O O O O O O O ?_;intro u3c hU;have iH:Rd u3c X3 1 (fun _=> .slice A3 n c3):=Rd.one (hU.rd 0 O);have aC:=hU.below;have hD:=hD.aq aC;have hT:=hT.aq aC;have hW:=hW.aq aC;have eJ:=eJ.aq aC;have fg:=Rd.below fg aC;have de:=de.aq aC;have eE:=Rd.below eE aC;have dW:=dW.aq aC;have eF:=Rd.below eF aC;have dF:=dF.aq aC;clear hU;refine ar O (aL (agE _ hF xN hT) O ?_);rintro _ u4 ⟨A4,c4,r4,rfl,gr,hc4,au⟩;have aC:=au.below;have hD:=hD.aq aC;have hT:=hT.aq aC;have hW:=hW.aq aC;have eJ:=eJ.aq aC;have fg:=Rd.below fg aC;have de:=de.aq aC;have eE:=Rd.below eE aC;have dW:=dW.aq aC;have eF:=Rd.below eF aC;have dF:=dF.aq aC;have iH:=Rd.below iH aC;clear au;refine ar O (gf (St.refl u4) O ?_);intro X4 u4b hU;refine cG 1 0 hU O O O O O O O ?_;intro u4c hU;have fh:Rd u4c X4 1 (fun _=> .slice A4 n c4):=Rd.one (hU.rd 0 O);have aC:=hU.below;have hD:=hD.aq aC;have hT:=hT.aq aC;have hW:=hW.aq aC;have eJ:=eJ.aq aC;have fg:=Rd.below fg aC;have de:=de.aq aC;have eE:=Rd.below eE aC;have dW:=dW.aq aC;have eF:=Rd.below eF aC;have dF:=dF.aq aC;have iH:=Rd.below iH aC;have gr:=gr.aq aC;clear hU;refine ar O (aL (agF _ hF xN hT) O ?_);rintro _ u5 ⟨A5,c5,r5,rfl,jM,hc5,au⟩;have aC:=au.below;have hD:=hD.aq aC;have hT:=hT.aq aC;have hW:=hW.aq aC;have eJ:=eJ.aq aC;have fg:=Rd.below fg aC;have de:=de.aq aC;have eE:=Rd.below eE aC;have dW:=dW.aq aC;have eF:=Rd.below eF aC;have dF:=dF.aq aC;have iH:=Rd.below iH aC;have gr:=gr.aq aC;have fh:=Rd.below fh aC;clear au;refine ar O (gf (St.refl u5) O ?_);intro X5 u5b hU;refine cG 1 0 hU O O O O O O O ?_;intro u5c hU;have kh:Rd u5c X5 1 (fun _=> .slice A5 n c5):=Rd.one (hU.rd 0 O);have aC:=hU.below;have hD:=hD.aq aC;have hT:=hT.aq aC;have hW:=hW.aq aC;have eJ:=eJ.aq aC;have fg:=Rd.below fg aC;have de:=de.aq aC;have eE:=Rd.below eE aC;have dW:=dW.aq aC;have eF:=Rd.below eF aC;have dF:=dF.aq aC;have iH:=Rd.below iH aC;have gr:=gr.aq aC;have fh:=Rd.below fh aC;have jM:=jM.aq aC;clear hU;refine ar O (dp 84 O (fun h=>absurd O h) (fun _=>?_));refine ax O (ar O (ax O (ar O ?_)));refine dp 88 O (fun h=>absurd O h) (fun _=>?_);refine ax O (ar O (ax O (ar O ?_)));refine dp 92 O (fun h=>absurd O h) (fun _=>?_);refine ax O (ar O (ax O (ar O ?_)));refine dp 96 O (fun h=>absurd O h) (fun _=>?_);refine ax O (ar O (ax O (ar O ?_)));refine dp 100 O (fun h=>absurd O h) (fun _=>?_);refine ax O (ar O (ax O (ar O ?_)));refine dp 104 O (fun h=>absurd O h) (fun _=>?_);refine ax O (ao.b7 0 fg O O O (ax O (ao.b7 0 iH O O O (ax O (aL (Mi A0 c0 r0 A3 c3 r3 _ _ _ hF.one eJ dF) O ?_)))));rintro _ v0 ⟨rfl,au⟩;have aC:=au.below;have hD:=hD.aq aC;have hT:=hT.aq aC;have hW:=hW.aq aC;have eJ:=eJ.aq aC;have fg:=Rd.below fg aC;have de:=de.aq aC;have eE:=Rd.below eE aC;have dW:=dW.aq aC;have eF:=Rd.below eF aC;have dF:=dF.aq aC;have iH:=Rd.below iH aC;have gr:=gr.aq aC;have fh:=Rd.below fh aC;have jM:=jM.aq aC;have kh:=Rd.below kh aC;clear au;refine ax O ?_
 first | refine eA rfl rfl ?_ | refine eU rfl rfl ?_
 refine ar O (ao.split 110 O (fun h=>absurd h (by decide)) (fun _=>?_));refine ax O (ao.b7 0 eE O O O (ax O (ao.b7 0 fh O O O (ax O (aL (Mi A1 c1 r1 A4 c4 r4 _ _ _ hF.two de gr) O ?_)))));rintro _ v1 ⟨rfl,au⟩;have aC:=au.below;have hD:=hD.aq aC;have hT:=hT.aq aC;have hW:=hW.aq aC;have eJ:=eJ.aq aC;have fg:=Rd.below fg aC;have de:=de.aq aC;have eE:=Rd.below eE aC;have dW:=dW.aq aC;have eF:=Rd.below eF aC;have dF:=dF.aq aC;have iH:=Rd.below iH aC;have gr:=gr.aq aC;have fh:=Rd.below fh aC;have jM:=jM.aq aC;have kh:=Rd.below kh aC;clear au;refine ax O ?_
 first | refine eA rfl rfl ?_ | refine eU rfl rfl ?_
 refine ar O (ao.split 116 O (fun h=>absurd h (by decide)) (fun _=>?_));refine ax O (ao.b7 0 eF O O O (ax O (ao.b7 0 kh O O O (ax O (aL (Mi A2 c2 r2 A5 c5 r5 _ _ _ hF.three dW jM) O ?_)))));rintro _ v2 ⟨rfl,au⟩;have aC:=au.below;have hD:=hD.aq aC;have hT:=hT.aq aC;have hW:=hW.aq aC;have eJ:=eJ.aq aC;have fg:=Rd.below fg aC;have de:=de.aq aC;have eE:=Rd.below eE aC;have dW:=dW.aq aC;have eF:=Rd.below eF aC;have dF:=dF.aq aC;have iH:=Rd.below iH aC;have gr:=gr.aq aC;have fh:=Rd.below fh aC;have jM:=jM.aq aC;have kh:=Rd.below kh aC;clear au;refine ax O ?_
 first | refine eA rfl rfl ?_ | refine eU rfl rfl ?_
 refine aI O (Cd.gh O (aE O (ao.b7 0 fg O O O (aL (Jq A0 c0 r0 _ _ _ hF.one eJ jP) O ?_))));rintro _ f0 ⟨P0,d0,rfl,kZ,au⟩;have aC:=au.below;have hD:=hD.aq aC;have hT:=hT.aq aC;have hW:=hW.aq aC;have eJ:=eJ.aq aC;have fg:=Rd.below fg aC;have de:=de.aq aC;have eE:=Rd.below eE aC;have dW:=dW.aq aC;have eF:=Rd.below eF aC;have dF:=dF.aq aC;have iH:=Rd.below iH aC;have gr:=gr.aq aC;have fh:=Rd.below fh aC;have jM:=jM.aq aC;have kh:=Rd.below kh aC;clear au;refine ar O (ao.b7 0 eE O O O (aL (Jq A1 c1 r1 _ _ _ hF.two de u9) O ?_));rintro _ f1 ⟨P1,d1,rfl,lg,au⟩;have aC:=au.below;have hD:=hD.aq aC;have hT:=hT.aq aC;have hW:=hW.aq aC;have eJ:=eJ.aq aC;have fg:=Rd.below fg aC;have de:=de.aq aC;have eE:=Rd.below eE aC;have dW:=dW.aq aC;have eF:=Rd.below eF aC;have dF:=dF.aq aC;have iH:=Rd.below iH aC;have gr:=gr.aq aC;have fh:=Rd.below fh aC;have jM:=jM.aq aC;have kh:=Rd.below kh aC;have kZ:=kZ.aq aC;clear au;refine ar O (ao.b7 0 eF O O O (aL (Jq A2 c2 r2 _ _ _ hF.three dW lD) O ?_));rintro _ f2 ⟨P2,d2,rfl,lB,au⟩;have aC:=au.below;have hD:=hD.aq aC;have hT:=hT.aq aC;have hW:=hW.aq aC;have eJ:=eJ.aq aC;have fg:=Rd.below fg aC;have de:=de.aq aC;have eE:=Rd.below eE aC;have dW:=dW.aq aC;have eF:=Rd.below eF aC;have dF:=dF.aq aC;have iH:=Rd.below iH aC;have gr:=gr.aq aC;have fh:=Rd.below fh aC;have jM:=jM.aq aC;have kh:=Rd.below kh aC;have kZ:=kZ.aq aC;have lg:=lg.aq aC;clear au;refine ar O (ao.b7 0 fg O O O (aL (agh A0 c0 r0 _ hF eJ jP) O ?_));rintro _ g0 ⟨rfl,au⟩;have aC:=au.below;have hD:=hD.aq aC;have hT:=hT.aq aC;have hW:=hW.aq aC;have eJ:=eJ.aq aC;have fg:=Rd.below fg aC;have de:=de.aq aC;have eE:=Rd.below eE aC;have dW:=dW.aq aC;have eF:=Rd.below eF aC;have dF:=dF.aq aC;have iH:=Rd.below iH aC;have gr:=gr.aq aC;have fh:=Rd.below fh aC;have jM:=jM.aq aC;have kh:=Rd.below kh aC;have kZ:=kZ.aq aC;have lg:=lg.aq aC;have lB:=lB.aq aC;clear au;refine ar O (ao.b7 0 eE O O O (aL (Xl A1 c1 r1 _ hF de u9) O ?_));rintro _ g1 ⟨A6,c6,r6,rfl,iI,ZT,au⟩;have aC:=au.below;have hD:=hD.aq aC;have hT:=hT.aq aC;have hW:=hW.aq aC;have eJ:=eJ.aq aC;have fg:=Rd.below fg aC;have de:=de.aq aC;have eE:=Rd.below eE aC;have dW:=dW.aq aC;have eF:=Rd.below eF aC;have dF:=dF.aq aC;have iH:=Rd.below iH aC;have gr:=gr.aq aC;have fh:=Rd.below fh aC;have jM:=jM.aq aC;have kh:=Rd.below kh aC;have kZ:=kZ.aq aC;have lg:=lg.aq aC;have lB:=lB.aq aC;clear au;refine ar O (gf (St.refl g1) O ?_);intro X6 g1b hU;refine cG 1 0 hU O O O O O O O ?_;intro X7 hU;have Bo:Rd X7 X6 1 (fun _=> .slice A6 n c6):=Rd.one (hU.rd 0 O);have aC:=hU.below;have hD:=hD.aq aC;have hT:=hT.aq aC;have hW:=hW.aq aC;have eJ:=eJ.aq aC;have fg:=Rd.below fg aC;have de:=de.aq aC;have eE:=Rd.below eE aC;have dW:=dW.aq aC;have eF:=Rd.below eF aC;have dF:=dF.aq aC;have iH:=Rd.below iH aC;have gr:=gr.aq aC;have fh:=Rd.below fh aC;have jM:=jM.aq aC;have kh:=Rd.below kh aC;have kZ:=kZ.aq aC;have lg:=lg.aq aC;have lB:=lB.aq aC;have iI:=iI.aq aC;clear hU;refine ar O (dp 149 O (fun h=>absurd O h) (fun _=>?_));refine ax O (ar O (ax O (ar O ?_)));refine dp 153 O (fun h=>absurd O h) (fun _=>?_);refine ax O (ar O (ax O (ar O ?_)));refine dp 157 O (fun h=>absurd O h) (fun _=>?_);refine ax O (ar O (ax O (ar O ?_)));refine dp 161 O (fun h=>absurd O h) (fun _=>?_);refine ax O (ar O (ax O (ar O ?_)));refine dp 165 O (fun h=>absurd O h) (fun _=>?_);refine ax O (ar O (ax O (bc O O (ax O (ar O (ax O (ar O ?_)))))));refine dp 171 O (fun h=>absurd O h) (fun _=>?_);refine ax O (ar O (ax O (bc O O (ax O (ar O (ax O (ar O ?_)))))));refine dp 177 O (fun h=>absurd O h) (fun _=>?_);refine ax O (ar O (ax O (bc O O (ax O (ar O (ax O (ar O ?_)))))));refine dp 183 O (fun h=>absurd O h) (fun _=>?_);refine ax O (ar O (ax O ?_))
 first | refine eA rfl rfl ?_ | refine eU rfl rfl ?_
 refine ar O (ao.split 187 O (fun h=>absurd h (by decide)) (fun _=>?_));refine ax O (ao.b7 0 Bo O O O (ax O (ao.b7 0 eF O O O (ax O (aL (adn A6 c6 r6 A2 c2 r2 _ hF iI ZT dW lD) O ?_)))));rintro _ wL ⟨rfl,au⟩;have aC:=au.below;have hD:=hD.aq aC;have hT:=hT.aq aC;have hW:=hW.aq aC;have eJ:=eJ.aq aC;have fg:=Rd.below fg aC;have de:=de.aq aC;have eE:=Rd.below eE aC;have dW:=dW.aq aC;have eF:=Rd.below eF aC;have dF:=dF.aq aC;have iH:=Rd.below iH aC;have gr:=gr.aq aC;have fh:=Rd.below fh aC;have jM:=jM.aq aC;have kh:=Rd.below kh aC;have kZ:=kZ.aq aC;have lg:=lg.aq aC;have lB:=lB.aq aC;have iI:=iI.aq aC;have Bo:=Rd.below Bo aC;clear au dF gr jM iH fh kh iI Bo;refine ax O ?_
 first | refine eA rfl rfl ?_ | refine eU rfl rfl ?_
 refine aI O (Cd.gh O (dA O ?_));refine Cd.loop (α:=Nat) (fun i=> [(3,.pointer As),(4,ak n),(5,.pointer X0),(7,.pointer X1),(9,.pointer X2),(17,.slice P0 n d0),(19,.slice P1 n d1),(21,.slice P2 n d2),(27,ak i)]) (fun i w'=>St wL w' []/\i<=n) (fun i=>n - i) 0 (ajs O) ⟨St.refl _,a7 _⟩ ?_;rintro i e w4 ⟨au,hi⟩;refine bL O (aR _ O (fun h2=>?_) (fun h2=>?_))
 ·have bX:i<n:=by omega
  refine dA O (Cd.loop (α:=Nat) (fun k=> [(3,.pointer As),(4,ak n),(5,.pointer X0),(7,.pointer X1),(9,.pointer X2),(17,.slice P0 n d0),(19,.slice P1 n d1),(21,.slice P2 n d2),(27,ak i),(28,ak (wM n k)),(29,ak 1),(30,ak 1),(31,ak ((k:Int)+1))]) (fun k w'=>St wL w' []/\k<=i+1) (fun k=>i+1 - k) 0 (ajs O) ⟨au,a7 _⟩ ?_);clear au;rintro k e w5 ⟨au,hk⟩;refine a8 O (aK O (aI O ?_));refine aR _ O (fun h3=>?_) (fun h3=>?_)
  ·have hm:=ahD n (by omega) k (by omega) (by omega);refine aE O (aK O (ar O (dQ O (aK O ?_))));refine po O O O (by have:=hm;omega) ?_;refine ar O ?_;refine ao.quo O O O (by have:=hm;omega) ?_;refine ar O (aK O (aU O (tQ ?_)));exact⟨k+1,by show i+1 - (k+1)<i+1 - k;omega,⟨O,O,O,O,O,O,O,O,O,O,O,O,by show Value.int .i64 _=Value.int .i64 (((k+1:Nat):Int)+1);rfl,av⟩,au,by omega⟩
  obtain rfl:k=i+1:=by omega
  refine bw O (bz (pS O ?_));refine Cd.loop (α:=Nat) (fun k=> [(3,.pointer As),(4,ak n),(5,.pointer X0),(7,.pointer X1),(9,.pointer X2),(17,.slice P0 n d0),(19,.slice P1 n d1),(21,.slice P2 n d2),(27,ak i),(28,ak (wM n (i+1))),(29,ak (tA n k)),(30,ak 1),(32,ak ((k:Int)+1))]) (fun k w'=>St wL w' []/\k<=i) (fun k=>i - k) 0 (ajs O) ⟨au,a7 _⟩ ?_;clear au;rintro k e w6 ⟨au,hk⟩;refine bL O (aR _ O (fun h4=>?_) (fun h4=>?_))
  ·have hm:=agv n (by omega) k (by omega) (by omega);refine aE O (dQ O (aK O ?_));refine po O O O (by have:=hm;omega) ?_;refine ar O ?_;refine ao.quo O O O (by have:=hm;omega) ?_;refine ar O (aK O (aU O (tQ ?_)));exact⟨k+1,by show i - (k+1)<i - k;omega,⟨O,O,O,O,O,O,O,O,O,O,O,O,by show Value.int .i64 _=Value.int .i64 (((k+1:Nat):Int)+1);rfl,av⟩,au,by omega⟩
  obtain rfl:k=i:=by omega
  refine bw O (bz (pS O ?_));refine Cd.loop (α:=Nat) (fun j=> [(3,.pointer As),(4,ak n),(5,.pointer X0),(7,.pointer X1),(9,.pointer X2),(17,.slice P0 n d0),(19,.slice P1 n d1),(21,.slice P2 n d2),(27,ak k),(28,ak (wM n (k+1))),(29,ak (tA n k)),(30,ak (uz j)),(33,ak ((k:Int)+ (j:Int)))]) (fun j w'=>St wL w' []/\k+j<=n) (fun j=>n - (k+j)) 0 ⟨O,O,O,O,O,O,O,O,O,O,O,O,by show Value.int .i64 _=Value.int .i64 ((k:Int)+ ((0:Nat):Int));rw [show(k:Int)+ ((0:Nat):Int)=k by omega],av⟩ ⟨au,by omega⟩ ?_;clear au;rintro j e w7 ⟨au,hj⟩;refine bL O (aR _ O (fun h5=>?_) (fun h5=>?_))
  ·have hm:=aeZ j (by omega);refine aE O (po O O O (by omega) (ar O (aK O (aU O (tQ ?_)))));exact⟨j+1,by show n - (k+ (j+1))<n - (k+j);omega,⟨O,O,O,O,O,O,O,O,O,O,O,O,by show Value.int .i64 _=Value.int .i64 ((k:Int)+ ((j+1:Nat):Int));rw [show(k:Int)+ ((j+1:Nat):Int)=(k:Int)+ (j:Int)+1 by omega],av⟩,au,by omega⟩
  obtain rfl:j=n - k:=by omega
  have hpb:=hF.pb k bX;have hqb:=hF.qb k bX;have o7:=hF.rb k bX;have hm:=agw n (by omega) k bX;have ow:=hF.pl;have aC:=au.below;have kZ:=kZ.aq aC;have lg:=lg.aq aC;have lB:=lB.aq aC;refine bw O (bz (pS O ?_));refine eY [xS (P0) (n) (d0),xI ((k:Int)),xP (aJ (P0) ((k:Int)).toNat),xI (gi (p) ((k:Int))),xI ((wM n (k+1))),xB (decide (¬(gi (p) ((k:Int)))=((wM n (k+1))))),xB (false),xS (P1) (n) (d1),xI ((k:Int)),xP (aJ (P1) ((k:Int)).toNat),xI (gi (q) ((k:Int))),xI ((tA n k)),xI ((uz (n - k))),xI (tA n k*uz (n - k)),xB (decide (¬(gi (q) ((k:Int)))=(tA n k*uz (n - k)))),xB (decide (¬(gi (q) ((k:Int)))=(tA n k*uz (n - k)))),xB (false),xS (P2) (n) (d2),xI ((n:Int)),xI (((n:Int)) - ((1:Int))),xI ((k:Int)),xI ((((n:Int)) - ((1:Int))) - ((k:Int))),xP (aJ (P2) ((((n:Int)) - ((1:Int))) - ((k:Int))).toNat),xI (gi (r) ((((n:Int)) - ((1:Int))) - ((k:Int)))),xS (P1) (n) (d1),xI ((k:Int)),xP (aJ (P1) ((k:Int)).toNat),xI (gi (q) ((k:Int))),xB (decide (¬(gi (r) ((((n:Int)) - ((1:Int))) - ((k:Int))))=(gi (q) ((k:Int))))),xB (decide (¬(gi (r) ((((n:Int)) - ((1:Int))) - ((k:Int))))=(gi (q) ((k:Int)))))] O (fE O) ?_ ?_
  ·refine⟨Dr O,Dr O,fun _ _ hb _ _=>aM (kZ.aq hb).2 O Az,fun _ _ hb _ _=>bk (kZ.aq hb) O Az,Dr O,Dr O,fun _ _ _ _ _=>Dk O (by exact aO Value.bool ((dE (fun h=>h hpb)))),Dr O,Dr O,fun _ _ hb _ _=>ax O (aM (lg.aq hb).2 O Az),fun _ _ hb _ _=>ax O (bk (lg.aq hb) O Az),Dr O,Dr O,?_,Dr O,Dr O,fun _ _ _ _ _=>Dk O (by exact aO Value.bool ((dE (fun h=>h hqb)))),Dr O,Dr O,fun _ _ _ _ _=>ax O (dQ O Az),Dr O,fun _ _ _ _ _=>ax O (dQ O Az),fun _ _ hb _ _=>ax O (aM (lB.aq hb).2 O Az),fun _ _ hb _ _=>ax O (bk (lB.aq hb) O Az),Dr O,Dr O,fun _ _ hb _ _=>ax O (aM (lg.aq hb).2 O Az),fun _ _ hb _ _=>ax O (bk (lg.aq hb) O Az),Dr O,Dr O,av⟩;intro e1 w1 hb hp a6;refine ax O (po O O O (by omega) Az)
  intro u w8 BH _;refine fR O (mD O (fun h=>h o7) (aE O (aK O (aU O (tQ ?_)))));exact⟨k+1,by show n - (k+1)<n - k;omega,(ajs O),au.aq BH,bX⟩
 obtain rfl:i=n:=by omega
 have aC:=au.below;have hD:=hD.aq aC;have hT:=hT.aq aC;have hW:=hW.aq aC;have eJ:=eJ.aq aC;have fg:=Rd.below fg aC;have de:=de.aq aC;have eE:=Rd.below eE aC;have dW:=dW.aq aC;have eF:=Rd.below eF aC;have kZ:=kZ.aq aC;have lg:=lg.aq aC;have lB:=lB.aq aC;refine bw O (bz (dh O ?_));refine ao.b7 0 fg O O O (aL (L6 A0 c0 r0 _ _ _ hF.one eJ jP) O ?_);rintro _ h0 ⟨rfl,au⟩;have aC:=au.below;have hD:=hD.aq aC;have hT:=hT.aq aC;have hW:=hW.aq aC;have eJ:=eJ.aq aC;have fg:=Rd.below fg aC;have de:=de.aq aC;have eE:=Rd.below eE aC;have dW:=dW.aq aC;have eF:=Rd.below eF aC;have kZ:=kZ.aq aC;have lg:=lg.aq aC;have lB:=lB.aq aC;clear au;refine ar O (ao.b7 0 eE O O O (aL (L6 A1 c1 r1 _ _ _ hF.two de u9) O ?_));rintro _ h1 ⟨rfl,au⟩;have aC:=au.below;have hD:=hD.aq aC;have hT:=hT.aq aC;have hW:=hW.aq aC;have eJ:=eJ.aq aC;have fg:=Rd.below fg aC;have de:=de.aq aC;have eE:=Rd.below eE aC;have dW:=dW.aq aC;have eF:=Rd.below eF aC;have kZ:=kZ.aq aC;have lg:=lg.aq aC;have lB:=lB.aq aC;clear au;refine ar O (ao.b7 0 eF O O O (aL (L6 A2 c2 r2 _ _ _ hF.three dW lD) O ?_));rintro _ h2 ⟨rfl,au⟩;have aC:=au.below;have hD:=hD.aq aC;have hT:=hT.aq aC;have hW:=hW.aq aC;have eJ:=eJ.aq aC;have fg:=Rd.below fg aC;have de:=de.aq aC;have eE:=Rd.below eE aC;have dW:=dW.aq aC;have eF:=Rd.below eF aC;have kZ:=kZ.aq aC;have lg:=lg.aq aC;have lB:=lB.aq aC;clear au;refine ar O (aL (NZ 0 60 hD O hK) O ?_);rintro _ m0 ⟨y,k2,rfl,⟨Hm,Eo,_⟩,Px,Y0⟩;have Eo:=Eo (by omega);obtain⟨m,hm⟩:∃m:Nat,1+y=m:=⟨(1+y).toNat,by omega⟩;have hW:=(yV.call Y0).none;refine aK O (ar O ?_);rw [hm];refine aL (Vr m _ (by omega)) O ?_;rintro _ m1 ⟨AP,cP,rP,rfl,Q9,au⟩;have P8:=au.cap 0 O;have Ka:br m1 AP 2 rP (rz m):=au.kb O;have hW:=hW.aq au.below;refine ar O (gf (St.refl m1) O ?_);intro XP m2 hU;refine cG 1 0 hU O O O O O O O ?_;intro m3 hU;have YY:Rd m3 XP 1 (fun _=> .slice AP 2 cP):=Rd.one (hU.rd 0 O);have Ka:=Ka.aq hU.below;have hW:=hW.aq hU.below;refine ar O (ao.b7 0 YY O O O ?_);refine aL (Vx AP cP rP (rz m) _ Ka (ae2 (by omega) (by omega)) P8.1 (by have:=P8.2;simp only [maxLen]at this;omega)) O ?_;rintro _ m4 ⟨AK,cK,rK,rfl,hrK,au⟩;have e9:((gl (rz m) 0).length:Int) / 2=(m:Int):=by rw [show(gl (rz m) 0).length=2*m from zU];omega
 rw [e9]at au;have Zo:br m4 AK 1 rK [[(m:Int)]]:=au.kb O;have hW:=hW.aq au.below;refine ar O (dp 294 O (fun _=>?_) (fun h=>absurd O h));refine ax O (ar O (ax O (ar O ?_)));refine dp 298 O (fun _=>?_) (fun h=>absurd O h);refine ax O (ar O (ax O (ar O ?_)));refine dp 302 O (fun _=>?_) (fun h=>absurd O h);refine ax O (ar O (ax O (ar O ?_)));refine dp 306 O (fun _=>?_) (fun h=>absurd O h);refine ax O (ar O (ax O (ar O ?_)));refine dp 310 O (fun _=>?_) (fun h=>absurd O h);refine ax O (ar O ?_);refine ao.split 313 O (fun _=>?_) (fun h=>absurd h (by decide));refine ax O (ar O ?_);refine ao.split 316 O (fun _=>?_) (fun h=>absurd h (by decide));refine ax O (ar O ?_);refine ao.split 319 O (fun _=>?_) (fun h=>absurd h (by decide));refine ax O (ar O (ax O (ar O (ax O ?_))));refine eH (St.refl _) O O O fun AA m5 hV=>ax O (kO (n0:=1) hV O O O ?_);intro AB m6 hV;have Zp:br m6 AB 1 [⟨AA,1,1⟩] [[(m:Int)]]:=(show St m4 m6 (aT 24 2 AB 1 1 [⟨AA,1,1⟩] [[(m:Int)]]) from hV).kb O;refine ax O ?_;refine aL (Se AK 1 cK rK _ AB 1 1 _ _ _ (Zo.aq hV.below) Zp (by omega) (fun x hx=>by rw [gk.1 hx];show 1<=9223372036854775806;omega)) O ?_;rintro _ m7 ⟨rfl,jk⟩;refine bM O (dK O ?_);exact⟨aO Value.bool (eM O),(hW.aq hV.below).aq jk.below⟩
end
section
open Go.RowKit Go.ChangeShapes Go.WideShapes
theorem laid:laidOutB prog=true:=by kernel_rfl
theorem own:ownKnob prog.godebug=none:=by kernel_rfl
section
variable {H:Type} {enc:ae×ad->H} {P:Program}
theorem Uc(hl:laidOutB P=true){W W':aa}(hb:Below W.heap.size W W'){sp:Nat->Bool}:∀ {ts:List ae} {vs:List ad} {ds:List (DataW H)} {ps:List MemPlace},(ts.all fun t=>P.readableRec t && Nat.blt t P.types.size)=true->(∀p∈ps,p.block<W.heap.size)->(∀p∈ps,sp p.block=true)->
 DataW.TrodAll enc P W 0 (fun _=>true) true ts vs ds ps->DataW.TrodAll enc P W' 0 sp true ts vs ds ps
 | [],[],[],_,_,_,_,h=>h
 | t::ts,v::vs,d::ds,ps,hr,eO,Hg,h=>by
  obtain⟨p,q,h1,h2,rfl⟩:=h;simp only [List.all_cons,Bool.and_eq_true]at hr;exact⟨p,q,WideElems.Trod_stays hl hr.1.1 (by simpa [Nat.blt_eq]using hr.1.2) h1 (fun x hx=>hb.same (eO x (by simp [hx]))) (fun x hx=>Hg x (by simp [hx])),Uc hl hb hr.2 (fun x hx=>eO x (by simp [hx])) (fun x hx=>Hg x (by simp [hx])) h2,O⟩
 | [],[],_::_,_,_,_,_,h=>h.elim
 | [],_::_,_,_,_,_,_,h=>by cases h
 | _::_,[],_,_,_,_,_,h=>by cases h
 | _::_,_::_,[],_,_,_,_,h=>by cases h
theorem ae8{f:Func}{s:ChangeSpec}{apart:Bool}{W W':aa}{args:Array ad}{ds gs:List (DataW H)}{before:List MemPlace}(hl:laidOutB P=true){b:ae}(hu:P.underlying b=some .bool)(Ra:f.resultTypes= #[b])(hv:s.vars=[])
 (hr:(f.params.toList.all fun t=>P.readableRec t && Nat.blt t P.types.size)=true) (mq:(s.fn H (ds++gs)).results=[.lit (.bool true)]/\(s.fn H (ds++gs)).args=ds/\(s.fn H (ds++gs)).vars=[])
 (hW:DataW.Whole enc P f.params.toList s.vars apart W args.toList ds gs before) (hb:Below W.heap.size W W'):s.post enc P f apart true false false W args (.bool true) W':=by
 have eO:∀x∈before,x.block<W.heap.size:=fun x hx=>hW.lt x hx
 have ZA:=hW;obtain⟨p,q,hA,hV,rfl,hz,hn⟩:=hW;rw [hv]at hV;obtain⟨rfl,rfl⟩:=trodVars_none hV;have QK:∀x∈p,x.block<W.heap.size:=fun x hx=>eO x (by simp [hx])
 have Gh:∀sp:Nat->Bool,(∀x∈p,sp x.block=true)->DataW.TrodAll enc P W' 0 sp true f.params.toList args.toList (s.fn H (ds++ [])).args p:=fun sp Hg=>by
  rw [mq.2.1];exact Uc hl hb hr QK Hg hA
 have p7:∀(b0:Nat) (sp:Nat->Bool) (hd:Bool),DataW.TrodAll enc P W' b0 sp hd f.resultTypes.toList ((Value.bool true).resultList f.resultTypes.size) (s.fn H (ds++ [])).results []:=fun b0 sp hd=>by
  rw [mq.1,Ra];exact trodAll_cons_mk (shut_bool hu _) trodAll_mk0
 have PS:∀sp:Nat->Bool,DataW.TrodVars enc P W' sp s.vars (s.fn H (ds++ [])).vars []:=fun sp=>by
  rw [mq.2.2,hv];rfl
 refine⟨ds,[],p++ [],[],p,[],ZA,p7 _ _ _,Gh _ (fun x hx=>by simpa using QK x hx),PS _,World.keptBut_mono (fun x hx=> ⟨hx,by simpa using hx⟩) (hb.frame (· ∈p++ [])),fun _=> ⟨fun j t r h1 h2=>?_,_,_,([]++p)++ [],⟨[]++p,[],trodAll_append (Gh _ fun _ _=>O) (p7 _ _ _),PS _,O,fun c off hc=>?_,fun ha=>by simpa using hn ha⟩,fun x hx _=>by simpa using hx⟩⟩
 ·rw [Ra]at h1 h2;cases j with
  | zero=>
   simp at h1;subst h1;simp [Value.resultList]at h2;subst h2;exact okWide_bool_mk hu _
  | succ j=>simp at h1
 ·have bW:MemPlace.cell c off∈p++ []:=by simpa using hc
  rw [hb.frozen (eO _ bW)];exact hz c off bW
end
section
variable {H:Type} {enc:ae×ad->H} {P:Program}
end
section
variable {H:Type} {enc:ae×ad->H} {P:Program}
theorem aeu{w:aa}{r:Go.Reach}{b0:Nat}{t e:ae}{v:ad}{d:DataW H}{p:List MemPlace}(ht:P.underlying t=some (.slice e))(he:P.underlying e=some (.int .u8))(ce:P.cellsOf e=1)(pI:Value.okWide P w r b0 t v)(h:DataW.Trod enc P w 0 (fun _=>true) true t v d p):∃A n c bs,v= .slice A n c/\tM w A n bs/\n<=c/\c<=9223372036854775807:=by
 obtain⟨a,len,cap,rfl⟩:=okWide_slice ht pI;obtain⟨fuel,hf⟩:=h;have vc:(Value.slice a len cap).cells.toList=[Value.slice a len cap]:=O;rw [vc]at hf;rcases open_ints ht he ce hf with⟨h1,_⟩ | ⟨b,n,c,zs,h1,_,hl,hm,hz,_,hc,hwz⟩
 ·simp only [List.cons.injEq,and_true]at h1;exact⟨none,0,0,[],h1,⟨O,fun x hx=> (nomatch hx),fun k hk=>absurd hk (sQ _)⟩,bj _,by omega⟩
 simp only [List.cons.injEq,and_true]at h1;rw [ay rfl]at hz;refine⟨some b,n,c,zs.take n,h1,⟨?_,fun x hx=>?_,fun k hk=>?_⟩,hl,by simpa [maxLen]using hm⟩
 ·simp;omega
 ·have:=hwz x (List.mem_of_mem_take hx);simpa [Lit.wf,IntKind.min,IntKind.max,IntKind.signed,IntKind.bits]using this
 refine⟨b.add k,O,?_⟩;rw [hc k (by omega)];simp [cN,rL,hk]
end
end
end Go.Proofs.YtagdamiiececaaaGreatDoor.Vc
