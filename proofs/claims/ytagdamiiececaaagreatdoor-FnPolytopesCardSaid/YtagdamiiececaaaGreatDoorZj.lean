/-
 Lemmas. Conditions: as each states them.
-/
import Derived.Test.YtagdamiiececaaaGreatDoorZi
import Derived.Deep.Matrix
import Derived.ChangeSame
import Derived.ProofKit
import Derived.OpenShut
import Derived.Handed
import Derived.Lib.SmallJoins
set_option maxHeartbeats 8000000
namespace Go.Proofs.YtagdamiiececaaaGreatDoor.Vc
open Tryz
section
open Go.RowKit
variable{R:ai}
theorem LB{w0 w:aa}{ks:List Ck}(Ac:aj)(nc cc:Nat)(bs:ai)(hS:St w0 w ks)(hY:nj w0 Ac nc bs)(oC:nc<=1000000):
 aJ prog 8 [.slice Ac nc cc] w (fun v w'=>∃(n:Int) (A D:aj) (cA cD m k:Nat) (R:ai) (rs:List aL) (B:ah) (X:List Ck),v= .agg #[ak n,.slice A m cA,.slice D k cD]/\(-1000<=n/\n<=1000)/\m<=100000/\k<=100000/\(∀(jY:aa) (Y:List Ck),St w0 jY (X++Y)->bu jY A m R/\bq jY D k rs B)/\St w0 w' (X++ks)):=by
 refine br func8 O ntmps8 O (pD O O) (a8 O (kV hS O ?_));intro A2 w1 ay;refine ar O (aI (R8 Ac nc cc bs w1 (hY.below ay.below) oC) O ?_);rintro _ w2 ⟨As,k0,rfl,wV,hT⟩;have wV:=wV w0 hY;have aM:St w0 w2 (k0::a7 A2 0 none 0 0 none 0 0::ks):=ay.call hT;refine aI (Sq 0 24 aM O wV (by decide)) O ?_;rintro _ w3 ⟨n,A,D,cA,cD,m,k,R,rs,B,X,k1,rfl,hn,hm,hk,mC,hX,aU⟩;have aU:St w0 w3 (X++ (k1::a7 A2 0 none 0 0 none 0 0::ks)):=aU;have aU:St w0 w3 (a7 A2 0 none 0 0 none 0 0::(X++ks)):=(aU.sub (List.Sublist.append_left (List.sublist_cons_self _ _) X)).perm iA;refine dG 3 0 aU O O O O O O O fun w4 bd=>bI O (jC O (bd.rd 0 O) ?_);exact⟨n,A,D,cA,cD,m,k,R,rs,B,X,O,hn,hm,hk,hX,bd.tail⟩
theorem MB{n:Int}{B:ah}{v:ad}(h:yL n R B v):∃(b:Bool) (k:Int),v= .tuple #[.bool b,ak k]/\(∀v',yL n R B v'->v'= .tuple #[.bool b,ak k])/\(k=0->dm n R B/\(aA n.toNat R B).length<=400/\(b=true↔ni n.toNat R B)):=by
 rcases h with⟨h1,rfl⟩ | ⟨h1,h2,rfl⟩ | ⟨h1,h2,b,rfl,h3⟩
 ·refine⟨_,_,O,fun v' h'=>?_,fun h=>absurd h (by decide)⟩;rcases h' with⟨g1,rfl⟩ | ⟨g1,g2,rfl⟩ | ⟨g1,g2,b',rfl,g3⟩
  ·rfl
  ·exact absurd g1 h1
  exact absurd g1 h1
 ·refine⟨_,_,O,fun v' h'=>?_,fun h=>absurd h (by decide)⟩;rcases h' with⟨g1,rfl⟩ | ⟨g1,g2,rfl⟩ | ⟨g1,g2,b',rfl,g3⟩
  ·exact absurd h1 g1
  ·rfl
  exact absurd g2 h2
 refine⟨b,0,O,fun v' h'=>?_,fun _=> ⟨h1,h2,h3⟩⟩;rcases h' with⟨g1,rfl⟩ | ⟨g1,g2,rfl⟩ | ⟨g1,g2,b',rfl,g3⟩
 ·exact absurd h1 g1
 ·exact absurd h2 g2
 rw [Bool.eq_iff_iff.2 (g3.trans h3.symm)]
theorem TZ{n:Nat}{B:ah}(h:dM n R B):nr (bA n (aA n R B)).length (bS (bA n (aA n R B)) (bA n (aA n R B)).length)=nr n R:=by
 rw [h.len];unfold nr;refine kS fun i hi=>?_
 have hi:=fP.1 hi;rw [Od _ hi,h.lH hi]
theorem T0{n:Nat}{B:ah}(h:dM n R B):rO (bA n (aA n R B))=0:=by
 have h1:=h.Da.1;have h2:=h.Da.2.1;have h3:=h.Hd;rw [h.nl]at h2;unfold rO;rw [aC (by omega)]
theorem LF(Ac:aj)(nc cc:Nat)(bs:ai)(w:aa)(hT:kW w)(hY:nj w Ac nc bs):
 aJ prog 3 [.slice Ac nc cc] w (fun v w'=>v= .bool true/\St w w' []):=by
 refine br func3 O ntmps3 O (cw O) (a8 O (aI (MP Ac nc cc w) O ?_));rintro _ w1 ⟨rfl,vb⟩;refine aE O (aN _ O (fun h1=>?_) (fun h1=>?_))
 ·refine du O (cH O ?_);exact⟨O,vb⟩
 refine aG O (aI (LB Ac nc cc bs (St.refl w1) (hY.below vb.below) (by omega)) O ?_);rintro _ w2 ⟨n,A,D,cA,cD,m,l,R,rs,B,X,rfl,hn,hm,hl,hX,aM⟩;obtain⟨hR,hB⟩:=hX w2 [] aM;have hT:=(hT.aq vb.below).aq aM.below;have hW:=(vb.call aM).none;clear hX aM;refine kV (St.refl w2) O fun A3 w3 hU=>dG 3 0 hU O O O O O O O ?_;intro w4 hU;have hU:St w2 w4 [a7 A3 n A m cA D l cD]:=hU;have eI:Rd w4 A3 3 _:=hU.rd 0 O;have bw:=hU.below;have hR:=hR.aq bw;have hB:=hB.aq bw;have hT:=hT.aq bw;have hW:=hW.aq bw;clear hU;refine ar O (bK 2 eI O O O (aI (Rp n A D cA cD m l R rs B _ hT hR hB hn (by omega) (by omega)) O ?_));rintro _ w5 ⟨sl,ax⟩;obtain⟨b,k,rfl,JA,qn⟩:=MB sl;have bw:=ax.below;have hR:=hR.aq bw;have hB:=hB.aq bw;have hT:=hT.aq bw;have hW:=hW.aq bw;have eI:=Rd.below eI bw;clear ax;refine ar O (bK 2 eI O O O (aI (UG n A D cA cD m l R rs B _ hR hB hn (by omega) (by omega)) O ?_));rintro _ w6 ⟨qe,ax⟩;obtain rfl:=JA _ qe;have bw:=ax.below;have hR:=hR.aq bw;have hB:=hB.aq bw;have hT:=hT.aq bw;have hW:=hW.aq bw;have eI:=Rd.below eI bw;clear ax;clear sl qe JA;obtain⟨q,hq⟩:∃q:Bool,q=true↔dm n R B:=by
  by_cases h:dm n R B
  ·exact⟨true,fun _=>h,fun _=>O⟩
  exact⟨false,fun h'=> (nomatch h'),fun h'=>absurd h' h⟩
 have HW:∀w',bu w' A m R->bq w' D l rs B->aJ prog 11 [.agg #[ak n,.slice A m cA,.slice D l cD]] w' (fun v jY=>v= .bool q/\St w' jY []):=fun w' g1 g2=> (Rr n A D cA cD m l R rs B w' g1 g2 hn (by omega) (by omega)).mono fun v jY ⟨b,e1,e2,e3⟩=> ⟨by rw [e1,Bool.eq_iff_iff.2 (e2.trans hq.symm)],e3⟩
 have HX:∀w',bu w' A m R->bq w' D l rs B->aJ prog 12 [.agg #[ak n,.slice A m cA,.slice D l cD]] w' (fun v jY=>v= .bool q/\St w' jY []):=fun w' g1 g2=> (UH n A D cA cD m l R rs B w' g1 g2 hn (by omega) (by omega)).mono fun v jY ⟨b,e1,e2,e3⟩=> ⟨by rw [e1,Bool.eq_iff_iff.2 (e2.trans hq.symm)],e3⟩
 refine aE O (dL [xI (k),xI (k),xB (false),xB (false),xB (b),xB (b),xB (false),xB (false),xB (false),.ex (.agg #[ak (n),.slice (A) (m) (cA),.slice (D) (l) (cD)]),xB (q),.ex (.agg #[ak (n),.slice (A) (m) (cA),.slice (D) (l) (cD)]),xB (q),xB (false),xB (false)] O (dV O) ?_ ?_)
 ·refine⟨Dr O,Dr O,fun _ _ _ _ _=>Dk O (by exact aH Value.bool (cS (fun h=>h O))),Dr O,Dr O,Dr O,fun _ _ _ _ _=>au O (qK O O O (Az (by exact aH Value.bool ((by simp))))),Dr O,Dr O,fun _ _ hb _ _=>au O (bK 2 (eI.below hb) O O O Az),?_,fun _ _ hb _ _=>au O (bK 2 (eI.below hb) O O O Az),?_,fun _ _ _ _ _=>au O (qK O O O (Az (by exact aH Value.bool ((by simp))))),Dr O,av⟩
  ·intro e1 w1 hb hp aX;refine au O (aI (HW _ (hR.aq hb) (hB.aq hb)) O ?_);rintro _ w2 ⟨rfl,ax⟩;refine ao.n ?_;exact gK.dn ax.below (by exact O)
  intro e1 w1 hb hp aX;refine au O (aI (HX _ (hR.aq hb) (hB.aq hb)) O ?_);rintro _ w2 ⟨rfl,ax⟩;refine ao.n ?_;exact gK.dn ax.below (by exact O)
 intro u w7 hb _;have hR:=hR.aq hb;have hB:=hB.aq hb;have hT:=hT.aq hb;have hW:=hW.aq hb;have eI:=Rd.below eI hb;clear HW HX;refine fq O (Cd.eM O (df O ?_));refine aN _ O (fun h2=>?_) (fun h2=>?_)
 ·refine du O (cH O ?_);exact⟨O,hW⟩
 have h2:=Decidable.not_not.1 h2;subst h2;obtain⟨hP,hf,D0⟩:=qn rfl;obtain⟨p,rfl⟩:∃p:Nat,n=p:=⟨n.toNat,by have:=hP.n1;omega⟩;rw [fW]at hf D0;obtain rfl:=hR.1;obtain rfl:=hB.len;obtain⟨k1,k2,k3⟩:=yv hf;have lM:=hP.n1;refine aG O (bK 2 eI O O O (aI (Rn p A D cA cD R rs B _ hR hB hP) O ?_));rintro _ w8 ⟨AF,cF,gI,rfl,nF,ax⟩;rw [k1,k2];have bw:=ax.below;have hR:=hR.aq bw;have hB:=hB.aq bw;have hT:=hT.aq bw;have hW:=hW.aq bw;have eI:=Rd.below eI bw;clear ax;refine ar O (bK 2 eI O O O (aI (Rs p A D cA cD R rs B _ hR hB hP hf) O ?_));rintro _ w9 ⟨bp,rfl,Ix,ax⟩;have bw:=ax.below;have hR:=hR.aq bw;have hB:=hB.aq bw;have hT:=hT.aq bw;have hW:=hW.aq bw;have eI:=Rd.below eI bw;clear ax;refine ar O (bK 2 eI O O O (aI (Rl p A D cA cD R rs B _ hR hB hP) O ?_));rintro _ dw ⟨⟨Ad,nd,cd,kd,rfl,IY,_⟩,ax⟩;have bw:=ax.below;have hR:=hR.aq bw;have hB:=hB.aq bw;have hT:=hT.aq bw;have hW:=hW.aq bw;have eI:=Rd.below eI bw;clear ax;refine ar O (bK 2 eI O O O (aI (Rk p A D cA cD R rs B _ hT hR hB hP hf) O ?_));rintro _ ew ⟨⟨Ae,ne,ce,ke,rfl,xG,_⟩,ax⟩;have bw:=ax.below;have hR:=hR.aq bw;have hB:=hB.aq bw;have hT:=hT.aq bw;have hW:=hW.aq bw;have eI:=Rd.below eI bw;clear ax
 by_cases hG:ni p R B
 ·
  obtain rfl:b=true:=D0.2 hG;obtain rfl:bp=true:=Ix.2 hG.2.1;obtain rfl:kd=4:=IY.2 hG.2.2.1;obtain rfl:ke=4:=xG.2 hG.2.2.2;have hlen:(0:Int)< ((aA p R B).length:Int):=by have:=List.length_pos_iff.2 hG.1;omega
  refine ar O (bY 79 O (fun h=>absurd O h) (fun _=>?_));refine au O (ar O (au O (ar O ?_)));refine bY 83 O (fun h=>absurd O h) (fun _=>?_);refine au O (ar O (au O (ar O (au O (ba O O (au O (ar O (au O (ar O ?_)))))))));refine bY 88 O (fun _=>?_) (fun h=>absurd hlen h);refine au O (ar O (au O (ar O (au O (ar O ?_)))));refine ao.split 91 O (fun _=>?_) (fun h=>absurd h (by decide));refine au O (ar O (au O (ar O (au O (ar O (au O (ar O ?_)))))));refine bY 95 O (fun _=>?_) (fun h=>absurd O h);refine au O (ar O (au O (ar O (au O (ar O (au O ?_))))));refine qK O O O (aE O (Cd.eM O (aG O (bK 2 eI O O O (aI (ym p A D cA cD R rs B _ hT hR hB hP hf) O ?_)))));rintro _ eh qi;have u9:dM p R B:=⟨hP,hG,by omega,hf⟩;have xa:=u9.uo;have Dx:=u9.Da;have Ej:=u9.len;have gU:=u9.nl;have sB:=TZ u9;have vC:=T0 u9;obtain⟨Am,cm,iL,rfl,pn,ax⟩:=(qi.resolve_right fun h=>h.1 hG).2;clear qi;generalize bA p (aA p R B)=M at*;have lk:=ax.cap 0 O;have lg:bq eh Am M.length iL M:=St.iX (ks:=[]) (by rw [fO];exact ax) O;have bw:=ax.below;have hR:=hR.aq bw;have hB:=hB.aq bw;have hT:=hT.aq bw;have hW:=hW.aq bw;have eI:=Rd.below eI bw;clear ax;have ny:=nu M M.length;have iH:=oj M;refine ar O (jH (St.refl eh) O ?_);intro ku gp hU;refine dG 1 0 hU O O O O O O O ?_;intro lT hU;have hK:Rd lT ku 1 _:=hU.rd 0 O;have bw:=hU.below;have hR:=hR.aq bw;have hB:=hB.aq bw;have hT:=hT.aq bw;have hW:=hW.aq bw;have eI:=Rd.below eI bw;have lg:=lg.aq bw;clear hU;refine ar O ?_
  first | refine dk rfl rfl ?_ | refine eF rfl rfl ?_
  refine aE O (Cd.eM O (aG O (bK 0 hK O O O ?_)));refine aI (Rm Am _ cm iL M _ lg lk.1 (by have:=lk.2;simp only [maxLen]at this;omega) xa Dx.1) O ?_;rintro _ lU ⟨AR,cR,AE,cE,KN,rfl,ud,ax⟩;have sq:bu lU AR (bS M M.length).length (bS M M.length):=by rw [ny];exact ax.bo 0 O
  have qd:bq lU AE (bP M).length KN (bP M):=by
   rw [iH];have h9:=ax.sub (List.sublist_cons_self _ _);rw [fO]at h9;exact h9.kq iH
  have bw:=ax.below;have hR:=hR.aq bw;have hB:=hB.aq bw;have hT:=hT.aq bw;have hW:=hW.aq bw;have eI:=Rd.below eI bw;have lg:=lg.aq bw;have hK:=Rd.below hK bw;clear ax;refine ar O (kV (St.refl lU) O ?_);intro BV uC hU;refine dG 3 0 hU O O O O O O O ?_;intro oS hU;have hU:St lU oS [a7 BV (M.length:Int) AR (aV M M.length) cR AE (aV M M.length) cE]:=hU;have DH:Rd oS BV 3 _:=hU.rd 0 O;have bw:=hU.below;have hR:=hR.aq bw;have hB:=hB.aq bw;have hT:=hT.aq bw;have hW:=hW.aq bw;have eI:=Rd.below eI bw;have lg:=lg.aq bw;have hK:=Rd.below hK bw;have sq:=sq.aq bw;have qd:=qd.aq bw;clear hU;refine ar O (bK 2 eI O O O (aI (JL p A D cA cD R rs B _ hR hB hP) O ?_));rintro _ Ld ⟨iZ,MZ,rfl,ax⟩;have wR:bu Ld iZ p (nr p R):=ax.bo 0 O;have bw:=ax.below;have hR:=hR.aq bw;have hB:=hB.aq bw;have hT:=hT.aq bw;have hW:=hW.aq bw;have eI:=Rd.below eI bw;have lg:=lg.aq bw;have hK:=Rd.below hK bw;have sq:=sq.aq bw;have qd:=qd.aq bw;have DH:=Rd.below DH bw;clear ax;refine ar O (bK 2 DH O O O ?_);refine WD (JL M.length AR AE cR cE (bS M M.length) KN (bP M) _ sq qd (KA xa Dx.1)) O (by rw [ny,iH];rfl) O ?_;rintro _ Le ⟨dJ,M0,rfl,ax⟩;have Du:bu Le dJ M.length (nr M.length (bS M M.length)):=ax.bo 0 O;have bw:=ax.below;have hR:=hR.aq bw;have hB:=hB.aq bw;have hT:=hT.aq bw;have hW:=hW.aq bw;have eI:=Rd.below eI bw;have lg:=lg.aq bw;have hK:=Rd.below hK bw;have wR:=wR.aq bw;clear ax;refine ar O (bK 0 hK O O O ?_);refine aI (Ro Am _ cm iL M _ hT lg lk.1 (by have:=lk.2;simp only [maxLen]at this;omega)) O ?_;rintro _ oT ⟨b4,rfl,mF,ax⟩;obtain rfl:b4=true:=mF.2 ⟨xa,Dx⟩;rw [aF xa,vC];have bw:=ax.below;have hR:=hR.aq bw;have hB:=hB.aq bw;have hT:=hT.aq bw;have hW:=hW.aq bw;have eI:=Rd.below eI bw;have lg:=lg.aq bw;have hK:=Rd.below hK bw;have wR:=wR.aq bw;have Du:=Du.aq bw;clear ax;refine ar O (bY 132 O (fun _=>?_) (fun h=>absurd O h));refine au O (ar O (au O (ar O ?_)));refine bY 136 O (fun _=>?_) (fun h=>absurd O h);refine au O (ar O (au O (ar O ?_)));refine bY 140 O (fun _=>?_) (fun h=>absurd O h);refine au O (ar O (au O (ar O ?_)));refine bY 144 O (fun _=>?_) (fun h=>absurd O h);refine au O (ar O (au O (ar O ?_)));refine bY 148 O (fun _=>?_) (fun h=>absurd O h);refine au O (ar O (au O (ar O (au O ?_))));refine aI (SQ iZ _ MZ (nr p R) dJ _ M0 (nr M.length (bS M M.length)) _ wR Du (by omega)) O ?_;rintro _ yH ⟨rfl,ax⟩;have bw:=ax.below;have hR:=hR.aq bw;have hB:=hB.aq bw;have hT:=hT.aq bw;have hW:=hW.aq bw;have eI:=Rd.below eI bw;have lg:=lg.aq bw;have hK:=Rd.below hK bw;clear ax;refine ar O (bY 153 O (fun _=>?_) (fun h=>absurd sB.symm h));refine au O (ar O ?_);refine ao.split 156 O (fun _=>?_) (fun h=>absurd h (by decide));refine au O (ar O (au O (ba O O (au O ?_))));refine bK 0 hK O O O (au O (aI (NX Am _ cm iL M _ lg xa) O ?_));rintro _ Lf ⟨rfl,ax⟩;refine au O (bI O ?_);refine cH O ?_;exact⟨aH Value.bool (eD (by rw [gU])),hW.aq ax.below⟩
 obtain rfl:b=false:=Bool.eq_false_iff.2 fun h=>hG (D0.1 h)
 refine ar O (bY 79 O (fun h=>absurd O h) (fun _=>?_));refine au O (ar O (au O (ar O ?_)));refine bY 83 O (fun h=>absurd O h) (fun _=>?_);refine au O (ar O (au O (ar O (au O (ba O O (au O (ar O (au O (ar O ?_)))))))));refine bY 88 O (fun q1=>?_) (fun q1=>?_)
 ·refine au O (ar O (au O (ar O (au O (ar O ?_)))));refine ao.split 91 O (fun q2=>?_) (fun q2=>?_)
  ·refine au O (ar O (au O (ar O (au O (ar O (au O (ar O ?_)))))));refine bY 95 O (fun q3=>?_) (fun q3=>?_)
   ·have bL:¬ke=4:=fun q4=>hG ⟨List.length_pos_iff.1 (by omega),Ix.1 q2,IY.1 q3,xG.1 q4⟩
    refine au O (ar O (au O (ar O (au O (ar O (au O ?_))))));refine qK O O O (aE O ?_);refine Cd.eM (by rw [cS bL];rfl) ?_;refine aG O (bK 2 eI O O O (aI (ym p A D cA cD R rs B _ hT hR hB hP hf) O ?_));rintro _ eh qi;obtain⟨Am,cm,iL,rfl,pn,ax⟩:=(qi.resolve_left fun h=>hG h.1).2;have hW:=hW.aq ax.below;refine ar O (jH (St.refl eh) O ?_);intro ku gp hU;refine dG 1 0 hU O O O O O O O fun lT hU=>ar O ?_
    first | refine dk rfl rfl ?_ | refine eF rfl rfl ?_
    refine aE O (Cd.fx O (du O (cH O ?_)));exact⟨O,hW.aq hU.below⟩
   refine az O (az O (au O (ar O (au O ?_))));refine qK O O O (aE O (Cd.eM O (aG O (bK 2 eI O O O (aI (ym p A D cA cD R rs B _ hT hR hB hP hf) O ?_)))));rintro _ eh qi;obtain⟨Am,cm,iL,rfl,pn,ax⟩:=(qi.resolve_left fun h=>hG h.1).2;have hW:=hW.aq ax.below;refine ar O (jH (St.refl eh) O ?_);intro ku gp hU;refine dG 1 0 hU O O O O O O O fun lT hU=>ar O ?_
   first | refine dk rfl rfl ?_ | refine eF rfl rfl ?_
   refine aE O (Cd.fx O (du O (cH O ?_)));exact⟨O,hW.aq hU.below⟩
  refine az O (az O (au O (ar O (au O (ar O (az O (az O (au O (ar O (au O ?_))))))))));refine ao.split 95 O (fun h=>absurd h (by decide)) (fun _=>?_);refine qK O O O (aE O (Cd.eM O (aG O (bK 2 eI O O O (aI (ym p A D cA cD R rs B _ hT hR hB hP hf) O ?_)))));rintro _ eh qi;obtain⟨Am,cm,iL,rfl,pn,ax⟩:=(qi.resolve_left fun h=>hG h.1).2;have hW:=hW.aq ax.below;refine ar O (jH (St.refl eh) O ?_);intro ku gp hU;refine dG 1 0 hU O O O O O O O fun lT hU=>ar O ?_
  first | refine dk rfl rfl ?_ | refine eF rfl rfl ?_
  refine aE O (Cd.fx O (du O (cH O ?_)));exact⟨O,hW.aq hU.below⟩
 refine az O (au O (ar O (au O (ar O (az O (az O (au O (ar O (au O (ar O (az O ?_)))))))))));refine az O (au O (ar O (au O ?_)));refine ao.split 91 O (fun h=>absurd h (by decide)) (fun _=>?_);refine ao.split 95 O (fun h=>absurd h (by decide)) (fun _=>?_);refine qK O O O (aE O (Cd.eM O (aG O (bK 2 eI O O O (aI (ym p A D cA cD R rs B _ hT hR hB hP hf) O ?_)))));rintro _ eh qi;obtain⟨Am,cm,iL,rfl,pn,ax⟩:=(qi.resolve_left fun h=>hG h.1).2;have hW:=hW.aq ax.below;refine ar O (jH (St.refl eh) O ?_);intro ku gp hU;refine dG 1 0 hU O O O O O O O fun lT hU=>ar O ?_
 first | refine dk rfl rfl ?_ | refine eF rfl rfl ?_
 refine aE O (Cd.fx O (du O (cH O ?_)));exact⟨O,hW.aq hU.below⟩
end
section
open Go.RowKit Go.ChangeShapes Go.WideShapes
theorem laid:laidOutB prog=true:=by kernel_rfl
theorem own:ownKnob prog.godebug=none:=by kernel_rfl
section
variable {H:Type} {enc:ae×ad->H} {P:Program}
theorem K4(hl:laidOutB P=true){W W':aa}(hb:Below W.heap.size W W'){sp:Nat->Bool}:∀ {ts:List ae} {vs:List ad} {ds:List (DataW H)} {ps:List MemPlace},(ts.all fun t=>P.readableRec t && Nat.blt t P.types.size)=true->(∀p∈ps,p.block<W.heap.size)->(∀p∈ps,sp p.block=true)->
 DataW.TrodAll enc P W 0 (fun _=>true) true ts vs ds ps->DataW.TrodAll enc P W' 0 sp true ts vs ds ps
 | [],[],[],_,_,_,_,h=>h
 | t::ts,v::vs,d::ds,ps,hr,eQ,AW,h=>by
  obtain⟨p,q,h1,h2,rfl⟩:=h;simp only [List.all_cons,Bool.and_eq_true]at hr;exact⟨p,q,WideElems.Trod_stays hl hr.1.1 (by simpa [Nat.blt_eq]using hr.1.2) h1 (fun x hx=>hb.same (eQ x (by simp [hx]))) (fun x hx=>AW x (by simp [hx])),K4 hl hb hr.2 (fun x hx=>eQ x (by simp [hx])) (fun x hx=>AW x (by simp [hx])) h2,O⟩
 | [],[],_::_,_,_,_,_,h=>h.elim
 | [],_::_,_,_,_,_,_,h=>by cases h
 | _::_,[],_,_,_,_,_,h=>by cases h
 | _::_,_::_,[],_,_,_,_,h=>by cases h
theorem T7{f:Func}{s:ChangeSpec}{apart:Bool}{W W':aa}{args:Array ad}{ds gs:List (DataW H)}{before:List MemPlace}(hl:laidOutB P=true){b:ae}(hu:P.underlying b=some .bool)(Js:f.resultTypes= #[b])(hv:s.vars=[])
 (hr:(f.params.toList.all fun t=>P.readableRec t && Nat.blt t P.types.size)=true) (iU:(s.fn H (ds++gs)).results=[.lit (.bool true)]/\(s.fn H (ds++gs)).args=ds/\(s.fn H (ds++gs)).vars=[])
 (hW:DataW.Whole enc P f.params.toList s.vars apart W args.toList ds gs before) (hb:Below W.heap.size W W'):s.post enc P f apart true false false W args (.bool true) W':=by
 have eQ:∀x∈before,x.block<W.heap.size:=fun x hx=>hW.lt x hx
 have Pt:=hW;obtain⟨p,q,hA,hV,rfl,hz,hn⟩:=hW;rw [hv]at hV;obtain⟨rfl,rfl⟩:=trodVars_none hV;have I2:∀x∈p,x.block<W.heap.size:=fun x hx=>eQ x (by simp [hx])
 have HH:∀sp:Nat->Bool,(∀x∈p,sp x.block=true)->DataW.TrodAll enc P W' 0 sp true f.params.toList args.toList (s.fn H (ds++ [])).args p:=fun sp AW=>by
  rw [iU.2.1];exact K4 hl hb hr I2 AW hA
 have sn:∀(b0:Nat) (sp:Nat->Bool) (hd:Bool),DataW.TrodAll enc P W' b0 sp hd f.resultTypes.toList ((Value.bool true).resultList f.resultTypes.size) (s.fn H (ds++ [])).results []:=fun b0 sp hd=>by
  rw [iU.1,Js];exact trodAll_cons_mk (shut_bool hu _) trodAll_mk0
 have Ij:∀sp:Nat->Bool,DataW.TrodVars enc P W' sp s.vars (s.fn H (ds++ [])).vars []:=fun sp=>by
  rw [iU.2.2,hv];rfl
 refine⟨ds,[],p++ [],[],p,[],Pt,sn _ _ _,HH _ (fun x hx=>by simpa using I2 x hx),Ij _,World.keptBut_mono (fun x hx=> ⟨hx,by simpa using hx⟩) (hb.frame (· ∈p++ [])),fun _=> ⟨fun j t r h1 h2=>?_,_,_,([]++p)++ [],⟨[]++p,[],trodAll_append (HH _ fun _ _=>O) (sn _ _ _),Ij _,O,fun c off hc=>?_,fun ha=>by simpa using hn ha⟩,fun x hx _=>by simpa using hx⟩⟩
 ·rw [Js]at h1 h2;cases j with
  | zero=>
   simp at h1;subst h1;simp [Value.resultList]at h2;subst h2;exact okWide_bool_mk hu _
  | succ j=>simp at h1
 ·have de:MemPlace.cell c off∈p++ []:=by simpa using hc
  rw [hb.frozen (eQ _ de)];exact hz c off de
end
section
variable {H:Type} {enc:ae×ad->H} {P:Program}
end
section
variable {H:Type} {enc:ae×ad->H} {P:Program}
theorem TG{w:aa}{r:Go.Reach}{b0:Nat}{t e:ae}{v:ad}{d:DataW H}{p:List MemPlace}(ht:P.underlying t=some (.slice e))(he:P.underlying e=some (.int .u8))(ce:P.cellsOf e=1)(pq:Value.okWide P w r b0 t v)(h:DataW.Trod enc P w 0 (fun _=>true) true t v d p):∃A n c bs,v= .slice A n c/\nj w A n bs/\n<=c/\c<=9223372036854775807:=by
 obtain⟨a,len,cap,rfl⟩:=okWide_slice ht pq;obtain⟨fuel,hf⟩:=h;have lJ:(Value.slice a len cap).cells.toList=[Value.slice a len cap]:=O;rw [lJ]at hf;rcases open_ints ht he ce hf with⟨h1,_⟩ | ⟨b,n,c,zs,h1,_,hl,hm,hz,_,hc,Q5⟩
 ·simp only [List.cons.injEq,and_true]at h1;exact⟨none,0,0,[],h1,⟨O,fun x hx=> (nomatch hx),fun k hk=>absurd hk (gM _)⟩,dh _,by omega⟩
 simp only [List.cons.injEq,and_true]at h1;rw [aF rfl]at hz;refine⟨some b,n,c,zs.take n,h1,⟨?_,fun x hx=>?_,fun k hk=>?_⟩,hl,by simpa [maxLen]using hm⟩
 ·simp;omega
 ·have:=Q5 x (List.mem_of_mem_take hx);simpa [Lit.wf,IntKind.min,IntKind.max,IntKind.signed,IntKind.bits]using this
 refine⟨b.add k,O,?_⟩;rw [hc k (by omega)];simp [cz,pN,hk]
end
end
end Go.Proofs.YtagdamiiececaaaGreatDoor.Vc
