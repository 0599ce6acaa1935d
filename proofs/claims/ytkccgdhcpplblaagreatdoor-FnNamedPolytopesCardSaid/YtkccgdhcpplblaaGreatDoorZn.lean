/-
 Lemmas. Conditions: as each states them.
-/
import Derived.Test.YtkccgdhcpplblaaGreatDoorZm
import Derived.Deep.Matrix
import Derived.ChangeSame
import Derived.ProofKit
import Derived.OpenShut
import Derived.Handed
import Derived.Lib.SmallJoins
import Derived.Lib.LaidTab
import Derived.ChangeVars
import Derived.LaidLaws
set_option maxHeartbeats 8000000
namespace Go.Proofs.YtkccgdhcpplblaaGreatDoor.Vc
open Tryz
section
open Go.RowKit
variable{M K:ah}
theorem air{kind:Int}(h1:pX M K kind=0):∀X Z Y W cx cz cy cw wG xV w',wK w' X (ik M.length (bU M M.length)) (aR M M.length) Y wG (bQ M)->wK w' Z (ik K.length (bU K K.length)) (aR K K.length) W xV (bQ K)->aJ prog 181 [.agg #[ak (M.length:Int),.slice X (aR M M.length+2) cx,.slice Y (aR M M.length+2) cy],.agg #[ak (K.length:Int),.slice Z (aR K K.length+2) cz,.slice W (aR K K.length+2) cw],ak kind] w' (oA (jy M K kind) (EM M K kind) w'):=by
 obtain⟨o3,vY,vX⟩:=Hj h1;obtain⟨ml,nZ⟩:=sX vY;obtain⟨nv,qi⟩:=sX vX;obtain⟨ok,N9,Vm,hPx⟩:=aln h1;have hP:ok=true->tA M K kind=((gF M K kind:Nat):Int)/\gL ((gF M K kind:Nat):Int) (ow M K kind) (ov M K kind):=fun h=>by
  have h0:=N9.1 h;have hd:=(Ky h0).1;unfold tA ow ov;rw [aB h0,aB h0,aB h0];exact⟨O,hd⟩
 have e1:(if ok=true then Bb (gF M K kind) (ow M K kind) (ov M K kind)else [])=jy M K kind:=by
  cases ok
  ·have h3:=Vm O;unfold jy;rw [az (by decide),az (by rw [h3];decide)]
  have h0:=N9.1 O;unfold jy ow ov;rw [aB rfl,aB h0,aB h0,aB h0]
 have e2:(if ok=true then Ba (gF M K kind) (ow M K kind) (ov M K kind)else 3)=EM M K kind:=by
  cases ok
  ·have h3:=Vm O;unfold EM;rw [az (by decide),az (by rw [h3];decide),h3]
  have h0:=N9.1 O;unfold EM ow ov;rw [aB rfl,aB h0,aB h0,aB h0]
 exact fun X Z Y W cx cz cy cw wG xV w' ji pF=>by
  have:=aiq X Z Y W cx cz cy cw _ _ _ _ M.length K.length kind ok (tA M K kind) (gF M K kind) (ow M K kind) (ov M K kind) w' (fun w2 hb=>hPx X Z Y W cx cz cy cw wG xV w2 (ji.aq hb) (pF.aq hb)) hP;rw [e1,e2]at this;exact this
theorem Qo(n kind:Int)(hn:1<=n/\n<=4)(hk:kind=1\/kind=2)(w:aa):
 aJ prog 103 [ak n,ak kind] w (ll (fV kind (n - 1).toNat) w):=by
 refine bC func103 O ntmps103 O (re O O) (bh O (ib (St.refl w) O ?_));intro A4 w1 aH;refine ar O (aL (Yj _) O ?_);rintro _ w2 ⟨E,r,rfl,av⟩;have aF:=aH.call2 av;refine ib aF O fun A5 w3 aQ=>b5 1 0 aQ O O O O O O O fun w4 aX=>aC O ?_;refine Cd.loop (α:=Nat×(aj×Nat)×List aO) (fun z=> [(0,ak n),(1,ak kind),(4,.pointer A4),(5,.pointer A5),(6,ak ((z.1:Int)+1))]) (fun z w'=> (z.1:Int)<=n - 1/\z.2.2.length=(fV kind z.1).length/\St w w' ([eO A5 z.2.1.1 (fV kind z.1).length z.2.1.2,eO A4 none 0 0]++aS 34 2 z.2.1.1 (fV kind z.1).length z.2.1.2 z.2.2 (fV kind z.1))) (fun z=> (n - 1).toNat - z.1) (0,(E,1),[r]) (aqv O) ⟨by show(0:Int)<=n - 1;omega,O,aX⟩ ?_;clear aX aQ aF aH av;rintro⟨j,⟨A,c⟩,rs⟩ e w5 ⟨hj,cn,ba⟩;dsimp only at hj cn ba|-;have nz:=ba.rd 0 O;have zU:bF w5 A (fV kind j).length rs (fV kind j):=St.nJ ba.tail.tail O;refine bL O (aM _ O (fun h1=>?_) (fun h1=>?_))
 ·have hg:=BI hk j am;have hp:=(KC hg.2).1;obtain⟨ml,nZ⟩:=sX hg.1;have hMx:=air hp;refine aA O (ao.cN 0 nz O O O (aL (Wn A (fV kind j).length c rs (fV kind j) _ zU ml nZ.1) O ?_));rintro _ w6 ⟨X,cx,Y,cy,ys,rfl,Ey,J7⟩;have ji:=SP ml nZ.1 J7;have bo:=ba.aq J7.below;refine aL (Yj _) O ?_;intro v7 w7 h7;obtain⟨E',r',rfl,hE,yx⟩:=h7.rows;have bK:=bo.aq yx;refine aL (Wn E' 1 1 [r'] fk _ hE Iy (by show aR fk 1<=500;rw [DL];omega)) O ?_;rintro _ w8 ⟨Z,cz,W,cw,zs,rfl,xD,lE⟩;have pF:=SP Iy (by show aR fk 1<=500;rw [DL];omega) lE;have cj:=bK.aq lE.below;refine ar O (aL (hMx X Z Y W cx cz cy cw ys zs _ ((ji.aq yx).aq lE.below) pF) O ?_);rintro _ w9 ⟨Am,cm,kH,rfl,o5,av⟩;have bT:=cj.call2 av;refine ar O (ib bT O ?_);intro A7 dY bW;refine b5 1 0 bW O O O O O O O fun eF eH=>ar O (ao.cN 0 (eH.rd 0 O) O O O (b5 1 1 eH O O O O O O O ?_));intro fH dT;refine ar O (aI O (aT O (tQ ?_)));exact⟨(j+1,(Am,cm),kH),by show(n - 1).toNat - (j+1)< (n - 1).toNat - j;omega,(aqv O),by show((j+1:Nat):Int)<=n - 1;omega,o5,dT.sub (List.Sublist.cons _ (List.Sublist.cons_cons _ (List.Sublist.cons_cons _ (kA _ _))))⟩
 have mV:(n - 1).toNat=j:=by omega
 rw [mV];refine bp O (bt (cS O ?_));refine ao.cN 0 nz O O O (b5 1 1 ba O O O O O O O ?_);intro w6 bo;refine bH O (iA O (bo.rd 1 O) ?_);exact⟨A,c,rs,O,cn,bo.tail.tail⟩
set_option maxRecDepth 100000
theorem NF:Fl pD:=⟨by decide+kernel,by decide+kernel,by decide+kernel,by decide+kernel,by decide+kernel,by decide+kernel⟩
theorem NG:Fl pE:=⟨by decide+kernel,by decide+kernel,by decide+kernel,by decide+kernel,by decide+kernel,by decide+kernel⟩
theorem OI:Fl pN:=⟨by decide+kernel,by decide+kernel,by decide+kernel,by decide+kernel,by decide+kernel,by decide+kernel⟩
theorem amD:Fl mN:=⟨by decide+kernel,by decide+kernel,by decide+kernel,by decide+kernel,by decide+kernel,by decide+kernel⟩
def uS(M:ah):ah:=ew (gl M 0).length M.reverse 0
theorem acm(M:ah):(uS M).length=M.length:=by unfold uS;rw [IK,List.length_reverse]
noncomputable def gr(s:ByteArray):ah:=if s=bO 0 then fV 1 ((3:Int) - 1).toNat else if s=bO 10 then fV 1 ((4:Int) - 1).toNat else if s=bO 7 then fV 2 ((3:Int) - 1).toNat else if s=bO 11 then nn 3 3 else if s=bO 8 then nn 4 4 else if s=bO 1 then uS (mapM pN)else if s=bO 3 then uS (mapM pE)else if s=bO 5 then uS (mapM pD)else if s=bO 2 then mapM pD else if s=bO 4 then mapM pE else if s=bO 6 then mapM pN else mapM mN
theorem Pm{s:ByteArray}(h:s=bO 0):gr s=fV 1 ((3:Int) - 1).toNat:=by subst h;unfold gr;rw [if_pos rfl]
theorem Po{s:ByteArray}(h:s=bO 10):gr s=fV 1 ((4:Int) - 1).toNat:=by subst h;unfold gr;rw [if_neg (by decide),if_pos rfl]
theorem Ps{s:ByteArray}(h:s=bO 7):gr s=fV 2 ((3:Int) - 1).toNat:=by subst h;unfold gr;rw [if_neg (by decide),if_neg (by decide),if_pos rfl]
theorem Pp{s:ByteArray}(h:s=bO 11):gr s=nn 3 3:=by subst h;unfold gr;rw [if_neg (by decide),if_neg (by decide),if_neg (by decide),if_pos rfl]
theorem Pt{s:ByteArray}(h:s=bO 8):gr s=nn 4 4:=by subst h;unfold gr;rw [if_neg (by decide),if_neg (by decide),if_neg (by decide),if_neg (by decide),if_pos rfl]
theorem Pn{s:ByteArray}(h:s=bO 1):gr s=uS (mapM pN):=by subst h;unfold gr;rw [if_neg (by decide),if_neg (by decide),if_neg (by decide),if_neg (by decide),if_neg (by decide),if_pos rfl]
theorem Pq{s:ByteArray}(h:s=bO 3):gr s=uS (mapM pE):=by subst h;unfold gr;rw [if_neg (by decide),if_neg (by decide),if_neg (by decide),if_neg (by decide),if_neg (by decide),if_neg (by decide),if_pos rfl]
theorem Pr{s:ByteArray}(h:s=bO 5):gr s=uS (mapM pD):=by subst h;unfold gr;rw [if_neg (by decide),if_neg (by decide),if_neg (by decide),if_neg (by decide),if_neg (by decide),if_neg (by decide),if_neg (by decide),if_pos rfl]
theorem Ha{s:ByteArray}(h:s=bO 2):gr s=mapM pD:=by subst h;unfold gr;rw [if_neg (by decide),if_neg (by decide),if_neg (by decide),if_neg (by decide),if_neg (by decide),if_neg (by decide),if_neg (by decide),if_neg (by decide),if_pos rfl]
theorem Hb{s:ByteArray}(h:s=bO 4):gr s=mapM pE:=by subst h;unfold gr;rw [if_neg (by decide),if_neg (by decide),if_neg (by decide),if_neg (by decide),if_neg (by decide),if_neg (by decide),if_neg (by decide),if_neg (by decide),if_neg (by decide),if_pos rfl]
theorem Hc{s:ByteArray}(h:s=bO 6):gr s=mapM pN:=by subst h;unfold gr;rw [if_neg (by decide),if_neg (by decide),if_neg (by decide),if_neg (by decide),if_neg (by decide),if_neg (by decide),if_neg (by decide),if_neg (by decide),if_neg (by decide),if_neg (by decide),if_pos rfl]
theorem Pu{s:ByteArray}(h:s=bO 9):gr s=mapM mN:=by subst h;unfold gr;rw [if_neg (by decide),if_neg (by decide),if_neg (by decide),if_neg (by decide),if_neg (by decide),if_neg (by decide),if_neg (by decide),if_neg (by decide),if_neg (by decide),if_neg (by decide),if_neg (by decide)]
theorem ll.oN{w w':aa}{v:ad}(h:∃(A':aj) (c':Nat) (rs':List aO),v= .agg #[.slice A' M.length c']/\rs'.length=M.length/\St w w' (aS 34 2 A' M.length c' rs' (ew (gl M 0).length M.reverse 0))):ll (uS M) w v w':=by
 obtain⟨A',c',rs',h1,h2,h3⟩:=h;unfold ll;rw [acm];exact⟨A',c',rs',h1,h2,h3⟩
theorem ll.jB{w0 w:aa}{ks:List Ck}{A:aj}{c:Nat}{rs:List aO}(h:St w0 w (ks++aS 34 2 A M.length c rs M)):bF w A M.length rs M:=St.jB (h.perm nL) rfl
theorem Ya:∀i:Nat,i<7->mN.take (2* (i+1))=mN.take (2*i)++ [[(i:Int),((i:Int)+1)%7,((i:Int)+3)%7],[(i:Int),((i:Int)+3)%7,((i:Int)+2)%7]]:=by decide
theorem Xn{α:Type}(a b c:α)(X Y:List α):(b::a::c::(X++Y)).Perm (c::((X++ [a,b])++Y)):=by
 classical
 refine jT.2 fun z=>?_
 simp only [l9,jS,ln];omega
theorem W1(s:ByteArray)(w:aa)(hT:lO w)(hs:s∈o9)(H:(s=bO 1\/s=bO 3\/s=bO 5)->(∀(s':ByteArray) (w':aa),s'=bO 6\/s'=bO 4\/s'=bO 2->lO w'->aJ prog 49 [.string s'] w' (ll (gr s') w'))):
 aJ prog 49 [.string s] w (ll (gr s) w):=by
 refine bC func49 O ntmps49 O (re O O) (bh O (ib (St.refl w) O ?_));intro A2 w1 hS;refine ar O (ib hS O ?_);clear hS;intro A3 w2 hS;refine ar O (lL O O O (aC O ?_));refine aM _ O (fun h0=>?_) (fun h0=>?_)
 ·replace h0:s=bO 0:=h0;rw [Pm h0];refine aA O (aL (OM 3 1 an an _ (hT.aq hS.below)) O ?_);rintro _ w4 ⟨A',c',rs',rfl,dL,av⟩;replace hS:=hS.call2 av;refine b5 1 1 hS O O O O O O O ?_;clear hS;intro wz hS;refine bH O (iA O (hS.rd 1 O) ?_);exact⟨A',c',rs',O,dL,hS.tail.tail⟩
 ·replace h0:¬s=bO 0:=h0;refine aA O (lL O O O (aC O ?_));refine aM _ O (fun fz=>?_) (fun fz=>?_)
  ·replace fz:s=bO 10:=fz;rw [Po fz];refine aA O (aL (OM 4 1 an an _ (hT.aq hS.below)) O ?_);rintro _ w4 ⟨A',c',rs',rfl,dL,av⟩;replace hS:=hS.call2 av;refine b5 1 1 hS O O O O O O O ?_;clear hS;intro wz hS;refine bH O (iA O (hS.rd 1 O) ?_);exact⟨A',c',rs',O,dL,hS.tail.tail⟩
  ·replace fz:¬s=bO 10:=fz;refine aA O (lL O O O (aC O ?_));refine aM _ O (fun h7=>?_) (fun h7=>?_)
   ·replace h7:s=bO 7:=h7;rw [Ps h7];refine aA O (aL (OM 3 2 an an _ (hT.aq hS.below)) O ?_);rintro _ w4 ⟨A',c',rs',rfl,dL,av⟩;replace hS:=hS.call2 av;refine b5 1 1 hS O O O O O O O ?_;clear hS;intro wz hS;refine bH O (iA O (hS.rd 1 O) ?_);exact⟨A',c',rs',O,dL,hS.tail.tail⟩
   ·replace h7:¬s=bO 7:=h7;refine aA O (lL O O O (aC O ?_));refine aM _ O (fun kl=>?_) (fun kl=>?_)
    ·replace kl:s=bO 11:=kl;rw [Pp kl];refine aA O (aL (Yf 3 (DQ 3) (du 3) 100 _ (hT.aq hS.below) (amI am)) O ?_);rw [amK];rintro _ w4 ⟨A',c',rs',rfl,dL,av⟩;replace hS:=hS.call2 av;refine b5 1 1 hS O O O O O O O ?_;clear hS;intro wz hS;refine bH O (iA O (hS.rd 1 O) ?_);exact⟨A',c',rs',O,dL,hS.tail.tail⟩
    ·replace kl:¬s=bO 11:=kl;refine aA O (lL O O O (aC O ?_));refine aM _ O (fun h8=>?_) (fun h8=>?_)
     ·replace h8:s=bO 8:=h8;rw [Pt h8];refine aA O (aL (Yf 4 DR (du 4) 500 _ (hT.aq hS.below) amJ) O ?_);rw [amL];rintro _ w4 ⟨A',c',rs',rfl,dL,av⟩;replace hS:=hS.call2 av;refine b5 1 1 hS O O O O O O O ?_;clear hS;intro wz hS;refine bH O (iA O (hS.rd 1 O) ?_);exact⟨A',c',rs',O,dL,hS.tail.tail⟩
     ·replace h8:¬s=bO 8:=h8;refine aA O (lL O O O (aC O ?_));refine aM _ O (fun h1=>?_) (fun h1=>?_)
      ·replace h1:s=bO 1:=h1;rw [Pn h1];refine aA O (aL (H (.inl h1) (bO 6) _ (.inl O) (hT.aq hS.below)) O ?_);rw [Hc rfl];rintro _ w4 ⟨A',c',rs',rfl,dL,av⟩;replace hS:=hS.call2 av;refine aL (L3 A' (mapM pN).length c' rs' (mapM pN) _ _ (ll.jB hS) OI.qv O) O ?_;intro v w5 hA;obtain⟨A5,c5,wA,rfl,wm,oh⟩:=ll.oN hA;replace hS:=(hS.sub (oE _ _)).call2 oh;refine b5 1 1 hS O O O O O O O ?_;clear hS;intro wz hS;refine bH O (iA O (hS.rd 1 O) ?_);exact⟨A5,c5,wA,O,wm,hS.tail.tail⟩
      ·replace h1:¬s=bO 1:=h1;refine aA O (lL O O O (aC O ?_));refine aM _ O (fun h3=>?_) (fun h3=>?_)
       ·replace h3:s=bO 3:=h3;rw [Pq h3];refine aA O (aL (H (.inr (.inl h3)) (bO 4) _ (.inr (.inl O)) (hT.aq hS.below)) O ?_);rw [Hb rfl];rintro _ w4 ⟨A',c',rs',rfl,dL,av⟩;replace hS:=hS.call2 av;refine aL (L3 A' (mapM pE).length c' rs' (mapM pE) _ _ (ll.jB hS) NG.qv O) O ?_;intro v w5 hA;obtain⟨A5,c5,wA,rfl,wm,oh⟩:=ll.oN hA;replace hS:=(hS.sub (oE _ _)).call2 oh;refine b5 1 1 hS O O O O O O O ?_;clear hS;intro wz hS;refine bH O (iA O (hS.rd 1 O) ?_);exact⟨A5,c5,wA,O,wm,hS.tail.tail⟩
       ·replace h3:¬s=bO 3:=h3;refine aA O (lL O O O (aC O ?_));refine aM _ O (fun h5=>?_) (fun h5=>?_)
        ·replace h5:s=bO 5:=h5;rw [Pr h5];refine aA O (aL (H (.inr (.inr h5)) (bO 2) _ (.inr (.inr O)) (hT.aq hS.below)) O ?_);rw [Ha rfl];rintro _ w4 ⟨A',c',rs',rfl,dL,av⟩;replace hS:=hS.call2 av;refine aL (L3 A' (mapM pD).length c' rs' (mapM pD) _ _ (ll.jB hS) NF.qv O) O ?_;intro v w5 hA;obtain⟨A5,c5,wA,rfl,wm,oh⟩:=ll.oN hA;replace hS:=(hS.sub (oE _ _)).call2 oh;refine b5 1 1 hS O O O O O O O ?_;clear hS;intro wz hS;refine bH O (iA O (hS.rd 1 O) ?_);exact⟨A5,c5,wA,O,wm,hS.tail.tail⟩
        ·replace h5:¬s=bO 5:=h5;refine aA O (lL O O O (aC O ?_));refine aM _ O (fun h2=>?_) (fun h2=>?_)
         ·replace h2:s=bO 2:=h2;rw [Ha h2];refine aA O (eZ [0,1,2,3] hS O O an an O O ?_);clear hS;intro P0 KW hS;refine eZ [0,1,3,2] hS O O an an O O ?_;clear hS;intro P1 KX hS;refine eZ [0,2,1,3] hS O O an an O O ?_;clear hS;intro P2 KY hS;refine Bw [⟨P0,4,4⟩,⟨P1,4,4⟩,⟨P2,4,4⟩] hS O O an an O O ?_;clear hS;intro PR wr hS;replace hS:St w wr (cg 34 PR 3 3 [⟨P0,4,4⟩,⟨P1,4,4⟩,⟨P2,4,4⟩]::((da 2 [⟨P0,4,4⟩,⟨P1,4,4⟩,⟨P2,4,4⟩] pD).reverse++ [Bx 24 1 A3 [.slice none 0 0],Bx 24 1 A2 [.slice none 0 0]])):=hS;have rP:bF wr PR 3 [⟨P0,4,4⟩,⟨P1,4,4⟩,⟨P2,4,4⟩] pD:=St.jB (t1:=34) (t2:=2) (c:=3) (hS.perm (List.Perm.cons _ ((List.reverse_perm _).append_right _))) O;replace hS:=hS.tail.sub (kA _ _);refine aL (Kp PR 3 3 _ pD _ rP UF NF) O ?_;rintro _ w4 ⟨A',rs',rfl,dL,av⟩;replace hS:=hS.call2 av;refine ar O (b5 1 0 hS O O O O O O O ?_);clear hS;intro wy hS;refine ar O (ao.cN 0 (hS.rd 0 O) O O O (b5 1 1 hS O O O O O O O ?_));clear hS;intro wz hS;refine bH O (iA O (hS.rd 1 O) ?_);exact⟨A',3,rs',O,dL,hS.tail.tail⟩
         ·replace h2:¬s=bO 2:=h2;refine aA O (lL O O O (aC O ?_));refine aM _ O (fun h4=>?_) (fun h4=>?_)
          ·replace h4:s=bO 4:=h4;rw [Hb h4];refine aA O (eZ [0,1,2] hS O O an an O O ?_);clear hS;intro P0 KW hS;refine eZ [0,2,3] hS O O an an O O ?_;clear hS;intro P1 KX hS;refine eZ [0,3,4] hS O O an an O O ?_;clear hS;intro P2 KY hS;refine eZ [0,4,5] hS O O an an O O ?_;clear hS;intro P3 YX hS;refine eZ [0,5,1] hS O O an an O O ?_;clear hS;intro P4 YY hS;refine eZ [1,2,4] hS O O an an O O ?_;clear hS;intro P5 YZ hS;refine eZ [2,3,5] hS O O an an O O ?_;clear hS;intro P6 Y0 hS;refine eZ [3,4,1] hS O O an an O O ?_;clear hS;intro P7 Y3 hS;refine eZ [4,5,2] hS O O an an O O ?_;clear hS;intro P8 Y4 hS;refine eZ [5,1,3] hS O O an an O O ?_;clear hS;intro P9 Y5 hS;refine Bw [⟨P0,3,3⟩,⟨P1,3,3⟩,⟨P2,3,3⟩,⟨P3,3,3⟩,⟨P4,3,3⟩,⟨P5,3,3⟩,⟨P6,3,3⟩,⟨P7,3,3⟩,⟨P8,3,3⟩,⟨P9,3,3⟩] hS O O an an O O ?_;clear hS;intro PR wr hS;replace hS:St w wr (cg 34 PR 10 10 [⟨P0,3,3⟩,⟨P1,3,3⟩,⟨P2,3,3⟩,⟨P3,3,3⟩,⟨P4,3,3⟩,⟨P5,3,3⟩,⟨P6,3,3⟩,⟨P7,3,3⟩,⟨P8,3,3⟩,⟨P9,3,3⟩]::((da 2 [⟨P0,3,3⟩,⟨P1,3,3⟩,⟨P2,3,3⟩,⟨P3,3,3⟩,⟨P4,3,3⟩,⟨P5,3,3⟩,⟨P6,3,3⟩,⟨P7,3,3⟩,⟨P8,3,3⟩,⟨P9,3,3⟩] pE).reverse++ [Bx 24 1 A3 [.slice none 0 0],Bx 24 1 A2 [.slice none 0 0]])):=hS;have rP:bF wr PR 10 [⟨P0,3,3⟩,⟨P1,3,3⟩,⟨P2,3,3⟩,⟨P3,3,3⟩,⟨P4,3,3⟩,⟨P5,3,3⟩,⟨P6,3,3⟩,⟨P7,3,3⟩,⟨P8,3,3⟩,⟨P9,3,3⟩] pE:=St.jB (t1:=34) (t2:=2) (c:=10) (hS.perm (List.Perm.cons _ ((List.reverse_perm _).append_right _))) O;replace hS:=hS.tail.sub (kA _ _);refine aL (Kp PR 10 10 _ pE _ rP UG NG) O ?_;rintro _ w4 ⟨A',rs',rfl,dL,av⟩;replace hS:=hS.call2 av;refine ar O (b5 1 0 hS O O O O O O O ?_);clear hS;intro wy hS;refine ar O (ao.cN 0 (hS.rd 0 O) O O O (b5 1 1 hS O O O O O O O ?_));clear hS;intro wz hS;refine bH O (iA O (hS.rd 1 O) ?_);exact⟨A',3,rs',O,dL,hS.tail.tail⟩
          ·replace h4:¬s=bO 4:=h4;refine aA O (lL O O O (aC O ?_));refine aM _ O (fun h6=>?_) (fun h6=>?_)
           ·replace h6:s=bO 6:=h6;rw [Hc h6];refine aA O (eZ [0,1,2] hS O O an an O O ?_);clear hS;intro P0 KW hS;refine eZ [0,2,3] hS O O an an O O ?_;clear hS;intro P1 KX hS;refine eZ [0,3,4] hS O O an an O O ?_;clear hS;intro P2 KY hS;refine eZ [0,4,5] hS O O an an O O ?_;clear hS;intro P3 YX hS;refine eZ [0,5,1] hS O O an an O O ?_;clear hS;intro P4 YY hS;refine eZ [1,2,6] hS O O an an O O ?_;clear hS;intro P5 YZ hS;refine eZ [2,3,7] hS O O an an O O ?_;clear hS;intro P6 Y0 hS;refine eZ [3,4,8] hS O O an an O O ?_;clear hS;intro P7 Y3 hS;refine eZ [4,5,9] hS O O an an O O ?_;clear hS;intro P8 Y4 hS;refine eZ [5,1,10] hS O O an an O O ?_;clear hS;intro P9 Y5 hS;refine eZ [2,6,7] hS O O an an O O ?_;clear hS;intro wT aok hS;refine eZ [3,7,8] hS O O an an O O ?_;clear hS;intro wU aol hS;refine eZ [4,8,9] hS O O an an O O ?_;clear hS;intro HQ wq12 hS;refine eZ [5,9,10] hS O O an an O O ?_;clear hS;intro HR wq13 hS;refine eZ [1,10,6] hS O O an an O O ?_;clear hS;intro HS wq14 hS;refine eZ [11,6,7] hS O O an an O O ?_;clear hS;intro HT wq15 hS;refine eZ [11,7,8] hS O O an an O O ?_;clear hS;intro HU wq16 hS;refine eZ [11,8,9] hS O O an an O O ?_;clear hS;intro HV wq17 hS;refine eZ [11,9,10] hS O O an an O O ?_;clear hS;intro HW wq18 hS;refine eZ [11,10,6] hS O O an an O O ?_;clear hS;intro HX wq19 hS;refine Bw [⟨P0,3,3⟩,⟨P1,3,3⟩,⟨P2,3,3⟩,⟨P3,3,3⟩,⟨P4,3,3⟩,⟨P5,3,3⟩,⟨P6,3,3⟩,⟨P7,3,3⟩,⟨P8,3,3⟩,⟨P9,3,3⟩,⟨wT,3,3⟩,⟨wU,3,3⟩,⟨HQ,3,3⟩,⟨HR,3,3⟩,⟨HS,3,3⟩,⟨HT,3,3⟩,⟨HU,3,3⟩,⟨HV,3,3⟩,⟨HW,3,3⟩,⟨HX,3,3⟩] hS O O an an O O ?_;clear hS;intro PR wr hS;replace hS:St w wr (cg 34 PR 20 20 [⟨P0,3,3⟩,⟨P1,3,3⟩,⟨P2,3,3⟩,⟨P3,3,3⟩,⟨P4,3,3⟩,⟨P5,3,3⟩,⟨P6,3,3⟩,⟨P7,3,3⟩,⟨P8,3,3⟩,⟨P9,3,3⟩,⟨wT,3,3⟩,⟨wU,3,3⟩,⟨HQ,3,3⟩,⟨HR,3,3⟩,⟨HS,3,3⟩,⟨HT,3,3⟩,⟨HU,3,3⟩,⟨HV,3,3⟩,⟨HW,3,3⟩,⟨HX,3,3⟩]::((da 2 [⟨P0,3,3⟩,⟨P1,3,3⟩,⟨P2,3,3⟩,⟨P3,3,3⟩,⟨P4,3,3⟩,⟨P5,3,3⟩,⟨P6,3,3⟩,⟨P7,3,3⟩,⟨P8,3,3⟩,⟨P9,3,3⟩,⟨wT,3,3⟩,⟨wU,3,3⟩,⟨HQ,3,3⟩,⟨HR,3,3⟩,⟨HS,3,3⟩,⟨HT,3,3⟩,⟨HU,3,3⟩,⟨HV,3,3⟩,⟨HW,3,3⟩,⟨HX,3,3⟩] pN).reverse++ [Bx 24 1 A3 [.slice none 0 0],Bx 24 1 A2 [.slice none 0 0]])):=hS;have rP:bF wr PR 20 [⟨P0,3,3⟩,⟨P1,3,3⟩,⟨P2,3,3⟩,⟨P3,3,3⟩,⟨P4,3,3⟩,⟨P5,3,3⟩,⟨P6,3,3⟩,⟨P7,3,3⟩,⟨P8,3,3⟩,⟨P9,3,3⟩,⟨wT,3,3⟩,⟨wU,3,3⟩,⟨HQ,3,3⟩,⟨HR,3,3⟩,⟨HS,3,3⟩,⟨HT,3,3⟩,⟨HU,3,3⟩,⟨HV,3,3⟩,⟨HW,3,3⟩,⟨HX,3,3⟩] pN:=St.jB (t1:=34) (t2:=2) (c:=20) (hS.perm (List.Perm.cons _ ((List.reverse_perm _).append_right _))) O;replace hS:=hS.tail.sub (kA _ _);refine aL (Kp PR 20 20 _ pN _ rP V3 OI) O ?_;rintro _ w4 ⟨A',rs',rfl,dL,av⟩;replace hS:=hS.call2 av;refine ar O (b5 1 0 hS O O O O O O O ?_);clear hS;intro wy hS;refine ar O (ao.cN 0 (hS.rd 0 O) O O O (b5 1 1 hS O O O O O O O ?_));clear hS;intro wz hS;refine bH O (iA O (hS.rd 1 O) ?_);exact⟨A',3,rs',O,dL,hS.tail.tail⟩
           ·replace h6:¬s=bO 6:=h6;have h9:s=bO 9:=by
             obtain⟨i,hi,rfl⟩:=zk.1 hs;rcases(show i=0\/i=1\/i=2\/i=3\/i=4\/i=5\/i=6\/i=7\/i=8\/i=9\/i=10\/i=11 by omega)with rfl | rfl | rfl | rfl | rfl | rfl | rfl | rfl | rfl | rfl | rfl | rfl<;>first | rfl | (exfalso;first | exact h0 rfl | exact h1 rfl | exact h2 rfl | exact h3 rfl | exact h4 rfl | exact h5 rfl | exact h6 rfl | exact h7 rfl | exact h8 rfl | exact fz rfl | exact kl rfl)
            rw [Pu h9];replace hS:St w w2 (aS 34 2 none 0 0 [] (mN.take (2*0))++ [Bx 24 1 A3 [.slice none 0 0],Bx 24 1 A2 [.slice none 0 0]]):=hS.nil 34;refine dA O (Cd.loop (α:=Nat×(aj×Nat)×List aO) (fun z=> [(2,.pointer A2),(3,.pointer A3),(4,.slice z.2.1.1 (2*z.1) z.2.1.2),(7,ak (z.1:Int))]) (fun z w'=>z.1<=7/\z.2.2.length=2*z.1/\St w w' (aS 34 2 z.2.1.1 (2*z.1) z.2.1.2 z.2.2 (mN.take (2*z.1))++ [Bx 24 1 A3 [.slice none 0 0],Bx 24 1 A2 [.slice none 0 0]])) (fun z=>7 - z.1) (0,(none,0),[]) (aqv O) ⟨bg _,O,hS⟩ ?_);clear hS;rintro⟨i,⟨A4,c4⟩,r4⟩ ev w5 ⟨hi,wk,hS⟩;dsimp only at hi wk hS|-;refine bL O (aM _ O (fun q1=>?_) (fun q1=>?_))
            ·have NL:i<7:=by omega
             have av:=Ya i NL;have J8:(mN.take (2*i)).length=2*i:=by rw [ns];exact Nat.min_eq_left (show 2*i<=14 by omega)
             refine aA O (aI O ?_);refine sO O O O am (ar O (aI O ?_));refine sO O O O am (eZ [(i:Int),((i:Int)+1)%7,((i:Int)+3)%7] hS O O an an O O ?_);clear hS;intro P0 w6 hS;refine ar O (aI O ?_);refine sO O O O am (ar O (aI O ?_));refine sO O O O am (eZ [(i:Int),((i:Int)+3)%7,((i:Int)+2)%7] hS O O an an O O ?_);clear hS;intro P1 w7 hS;refine Bw [⟨P0,3,3⟩,⟨P1,3,3⟩] hS O O an an O O ?_;clear hS;intro P2 w8 hS;refine lK 3 hS O (hS.fQ 0 O) O O O am am O ?_;clear hS;intro A5 c5 w9 hS;replace hS:St w w9 (ax 2 P1 3 3 [(i:Int),((i:Int)+3)%7,((i:Int)+2)%7]::ax 2 P0 3 3 [(i:Int),((i:Int)+1)%7,((i:Int)+3)%7]::cg 34 A5 (2* (i+1)) c5 (r4++ [⟨P0,3,3⟩,⟨P1,3,3⟩])::(da 2 r4 (mN.take (2*i))++ [Bx 24 1 A3 [.slice none 0 0],Bx 24 1 A2 [.slice none 0 0]])):=hS.tail;refine ar O (aI O (aT O (tQ ?_)));refine⟨(i+1,(A5,c5),r4++ [⟨P0,3,3⟩,⟨P1,3,3⟩]),by show 7 - (i+1)<7 - i;omega,⟨O,O,O,aE (Value.int .i64) am,au⟩,by show i+1<=7;omega,by show(r4++ [_,_]).length=2* (i+1);rw [ck,wk];rfl,?_⟩;show St w w9 (aS _ _ A5 (2* (i+1)) c5 (r4++ [_,_]) (mN.take (2* (i+1)))++_);rw [av];unfold aS;rw [CY (by rw [wk,J8])];exact hS.perm (Xn _ _ _ _ _)
            ·obtain rfl:i=7:=by omega
             replace hS:St w w5 (aS 34 2 A4 14 c4 r4 mN++ [Bx 24 1 A3 [.slice none 0 0],Bx 24 1 A2 [.slice none 0 0]]):=hS;have rP:bF w5 A4 14 r4 mN:=St.jB hS O;replace hS:=hS.sub (kA _ _);refine bp O (bt (cS O ?_));refine aL (Kp A4 14 c4 r4 mN _ rP Yb amD) O ?_;rintro _ w6 ⟨A',rs',rfl,dL,av⟩;replace hS:=hS.call2 av;refine ar O (b5 1 0 hS O O O O O O O ?_);clear hS;intro wy hS;refine ar O (ao.cN 0 (hS.rd 0 O) O O O (b5 1 1 hS O O O O O O O ?_));clear hS;intro wz hS;refine bH O (iA O (hS.rd 1 O) ?_);exact⟨A',3,rs',O,dL,hS.tail.tail⟩
theorem ajL(s:ByteArray)(w:aa)(hT:lO w)(hs:s∈o9):aJ prog 49 [.string s] w (ll (gr s) w):=
 W1 s w hT hs fun _ s' w' h' rR=>by
  rcases h' with rfl | rfl | rfl<;>exact W1 _ w' rR (zk.2 ⟨_,an,rfl⟩) (fun h=>absurd h an)
theorem Wo(s:ByteArray)(w:aa)(hs:s∈o9)(H:(s=bO 1\/s=bO 3\/s=bO 5)->(∀(s':ByteArray) (w':aa),s'=bO 6\/s'=bO 4\/s'=bO 2->aJ prog 47 [.string s'] w' (ll (gr s') w'))):
 aJ prog 47 [.string s] w (ll (gr s) w):=by
 refine bC func47 O ntmps47 O (re O O) (bh O (ib (St.refl w) O ?_));intro A2 w1 hS;refine ar O (wR (by exact inferInstance) O (ib hS O ?_));clear hS;intro A3 w2 hS;refine b5 1 0 hS O O O O O O O ?_;clear hS;intro w2 hS;refine ar O (lL O O O (aC O ?_));refine aM _ O (fun h0=>?_) (fun h0=>?_)
 ·replace h0:s=bO 0:=h0;rw [Pm h0];refine aA O (aL (Qo 3 1 an an _) O ?_);rintro _ w4 ⟨A',c',rs',rfl,dL,av⟩;replace hS:=hS.call2 av;refine b5 1 1 hS O O O O O O O ?_;clear hS;intro wz hS;refine bH O (iA O (hS.rd 1 O) ?_);exact⟨A',c',rs',O,dL,hS.tail.tail⟩
 replace h0:¬s=bO 0:=h0;refine aA O (lL O O O (aC O ?_));refine aM _ O (fun h7=>?_) (fun h7=>?_)
 ·replace h7:s=bO 7:=h7;rw [Ps h7];refine aA O (aL (Qo 3 2 an an _) O ?_);rintro _ w4 ⟨A',c',rs',rfl,dL,av⟩;replace hS:=hS.call2 av;refine b5 1 1 hS O O O O O O O ?_;clear hS;intro wz hS;refine bH O (iA O (hS.rd 1 O) ?_);exact⟨A',c',rs',O,dL,hS.tail.tail⟩
 replace h7:¬s=bO 7:=h7;refine aA O (lL O O O (aC O ?_));refine aM _ O (fun fz=>?_) (fun fz=>?_)
 ·replace fz:s=bO 10:=fz;rw [Po fz];refine aA O (aL (Qo 4 1 an an _) O ?_);rintro _ w4 ⟨A',c',rs',rfl,dL,av⟩;replace hS:=hS.call2 av;refine b5 1 1 hS O O O O O O O ?_;clear hS;intro wz hS;refine bH O (iA O (hS.rd 1 O) ?_);exact⟨A',c',rs',O,dL,hS.tail.tail⟩
 replace fz:¬s=bO 10:=fz;refine aA O (lL O O O (aC O ?_));refine aM _ O (fun h8=>?_) (fun h8=>?_)
 ·replace h8:s=bO 8:=h8;rw [Pt h8];refine aA O (aL (Wq 4 _ Yi) O ?_);rintro _ w4 ⟨A',c',rs',rfl,dL,av⟩;replace hS:=hS.call2 av;refine b5 1 1 hS O O O O O O O ?_;clear hS;intro wz hS;refine bH O (iA O (hS.rd 1 O) ?_);exact⟨A',c',rs',O,dL,hS.tail.tail⟩
 replace h8:¬s=bO 8:=h8;refine aA O (lL O O O (aC O ?_));refine aM _ O (fun kl=>?_) (fun kl=>?_)
 ·replace kl:s=bO 11:=kl;rw [Pp kl];refine aA O (aL (Wq 3 _ (Yh 3 am)) O ?_);rintro _ w4 ⟨A',c',rs',rfl,dL,av⟩;replace hS:=hS.call2 av;refine b5 1 1 hS O O O O O O O ?_;clear hS;intro wz hS;refine bH O (iA O (hS.rd 1 O) ?_);exact⟨A',c',rs',O,dL,hS.tail.tail⟩
 replace kl:¬s=bO 11:=kl;refine aA O (lL O O O (aC O ?_));refine aM _ O (fun h1=>?_) (fun h1=>?_)
 ·replace h1:s=bO 1:=h1;rw [Pn h1];refine aA O (aL (H (.inl h1) (bO 6) _ (.inl O)) O ?_);rw [Hc rfl];rintro _ w4 ⟨A',c',rs',rfl,dL,av⟩;replace hS:=hS.call2 av;refine aL (OT A' (mapM pN).length c' rs' (mapM pN) _ _ (ll.jB hS) OI.qv O) O ?_;intro v w5 hA;obtain⟨A5,c5,wA,rfl,wm,oh⟩:=ll.oN hA;replace hS:=(hS.sub (oE _ _)).call2 oh;refine b5 1 1 hS O O O O O O O ?_;clear hS;intro wz hS;refine bH O (iA O (hS.rd 1 O) ?_);exact⟨A5,c5,wA,O,wm,hS.tail.tail⟩
 replace h1:¬s=bO 1:=h1;refine aA O (lL O O O (aC O ?_));refine aM _ O (fun h3=>?_) (fun h3=>?_)
 ·replace h3:s=bO 3:=h3;rw [Pq h3];refine aA O (aL (H (.inr (.inl h3)) (bO 4) _ (.inr (.inl O))) O ?_);rw [Hb rfl];rintro _ w4 ⟨A',c',rs',rfl,dL,av⟩;replace hS:=hS.call2 av;refine aL (OT A' (mapM pE).length c' rs' (mapM pE) _ _ (ll.jB hS) NG.qv O) O ?_;intro v w5 hA;obtain⟨A5,c5,wA,rfl,wm,oh⟩:=ll.oN hA;replace hS:=(hS.sub (oE _ _)).call2 oh;refine b5 1 1 hS O O O O O O O ?_;clear hS;intro wz hS;refine bH O (iA O (hS.rd 1 O) ?_);exact⟨A5,c5,wA,O,wm,hS.tail.tail⟩
 replace h3:¬s=bO 3:=h3;refine aA O (lL O O O (aC O ?_));refine aM _ O (fun h5=>?_) (fun h5=>?_)
 ·replace h5:s=bO 5:=h5;rw [Pr h5];refine aA O (aL (H (.inr (.inr h5)) (bO 2) _ (.inr (.inr O))) O ?_);rw [Ha rfl];rintro _ w4 ⟨A',c',rs',rfl,dL,av⟩;replace hS:=hS.call2 av;refine aL (OT A' (mapM pD).length c' rs' (mapM pD) _ _ (ll.jB hS) NF.qv O) O ?_;intro v w5 hA;obtain⟨A5,c5,wA,rfl,wm,oh⟩:=ll.oN hA;replace hS:=(hS.sub (oE _ _)).call2 oh;refine b5 1 1 hS O O O O O O O ?_;clear hS;intro wz hS;refine bH O (iA O (hS.rd 1 O) ?_);exact⟨A5,c5,wA,O,wm,hS.tail.tail⟩
 replace h5:¬s=bO 5:=h5;refine aA O (lL O O O (aC O ?_));refine aM _ O (fun h2=>?_) (fun h2=>?_)
 ·replace h2:s=bO 2:=h2;rw [Ha h2];refine aA O (eZ [0,1,2,3] hS O O an an O O ?_);clear hS;intro P0 KW hS;refine eZ [0,1,3,2] hS O O an an O O ?_;clear hS;intro P1 KX hS;refine eZ [0,2,1,3] hS O O an an O O ?_;clear hS;intro P2 KY hS;refine Bw [⟨P0,4,4⟩,⟨P1,4,4⟩,⟨P2,4,4⟩] hS O O an an O O ?_;clear hS;intro PR wr hS;replace hS:St w wr (cg 34 PR 3 3 [⟨P0,4,4⟩,⟨P1,4,4⟩,⟨P2,4,4⟩]::((da 2 [⟨P0,4,4⟩,⟨P1,4,4⟩,⟨P2,4,4⟩] pD).reverse++ [Bx 24 1 A3 [.slice none 0 0],Bx 24 1 A2 [.slice none 0 0]])):=hS;have rP:bF wr PR 3 [⟨P0,4,4⟩,⟨P1,4,4⟩,⟨P2,4,4⟩] pD:=St.jB (t1:=34) (t2:=2) (c:=3) (hS.perm (List.Perm.cons _ ((List.reverse_perm _).append_right _))) O;replace hS:=hS.tail.sub (kA _ _);refine aL (Kn PR 3 3 _ pD _ rP UF) O ?_;rintro _ w4 ⟨A',c',rs',rfl,dL,av⟩;replace hS:=hS.call2 av;refine ar O (b5 1 0 hS O O O O O O O ?_);clear hS;intro wy hS;refine ar O (ao.cN 0 (hS.rd 0 O) O O O (b5 1 1 hS O O O O O O O ?_));clear hS;intro wz hS;refine bH O (iA O (hS.rd 1 O) ?_);exact⟨A',c',rs',O,dL,hS.tail.tail⟩
 replace h2:¬s=bO 2:=h2;refine aA O (lL O O O (aC O ?_));refine aM _ O (fun h4=>?_) (fun h4=>?_)
 ·replace h4:s=bO 4:=h4;rw [Hb h4];refine aA O (eZ [0,1,2,0,2,3,0,3,4,0,4,5,0,5,1,1,2,4,2,3,5,3,4,1,4,5,2,5,1,3] hS O O an an O O ?_);clear hS;intro P0 w3 hS;refine aL (Wp P0 30 30 10 [0,1,2,0,2,3,0,3,4,0,4,5,0,5,1,1,2,4,2,3,5,3,4,1,4,5,2,5,1,3] _ (hS.bz 0 O) O an) O ?_;rintro _ wr ⟨PR,cR,ss,rfl,hss,o7⟩;rw [show rq [0,1,2,0,2,3,0,3,4,0,4,5,0,5,1,1,2,4,2,3,5,3,4,1,4,5,2,5,1,3] 10=pE by decide]at o7;have rP:bF wr PR 10 ss pE:=St.jB (ks:=[]) (by rw [fI];exact o7) O;replace hS:=(hS.tail).aq o7.below;refine aL (Kn PR 10 cR _ pE _ rP UG) O ?_;rintro _ w4 ⟨A',c',rs',rfl,dL,av⟩;replace hS:=hS.call2 av;refine ar O (b5 1 0 hS O O O O O O O ?_);clear hS;intro wy hS;refine ar O (ao.cN 0 (hS.rd 0 O) O O O (b5 1 1 hS O O O O O O O ?_));clear hS;intro wz hS;refine bH O (iA O (hS.rd 1 O) ?_);exact⟨A',c',rs',O,dL,hS.tail.tail⟩
 replace h4:¬s=bO 4:=h4;refine aA O (lL O O O (aC O ?_));refine aM _ O (fun h6=>?_) (fun h6=>?_)
 ·replace h6:s=bO 6:=h6;rw [Hc h6];refine aA O (eZ [0,1,2,0,2,3,0,3,4,0,4,5,0,5,1,1,2,6,2,3,7,3,4,8,4,5,9,5,1,10,2,6,7,3,7,8,4,8,9,5,9,10,1,10,6,11,6,7,11,7,8,11,8,9,11,9,10,11,10,6] hS O O an an O O ?_);clear hS;intro P0 w3 hS;refine aL (Wp P0 60 60 20 [0,1,2,0,2,3,0,3,4,0,4,5,0,5,1,1,2,6,2,3,7,3,4,8,4,5,9,5,1,10,2,6,7,3,7,8,4,8,9,5,9,10,1,10,6,11,6,7,11,7,8,11,8,9,11,9,10,11,10,6] _ (hS.bz 0 O) O an) O ?_;rintro _ wr ⟨PR,cR,ss,rfl,hss,o7⟩;rw [show rq [0,1,2,0,2,3,0,3,4,0,4,5,0,5,1,1,2,6,2,3,7,3,4,8,4,5,9,5,1,10,2,6,7,3,7,8,4,8,9,5,9,10,1,10,6,11,6,7,11,7,8,11,8,9,11,9,10,11,10,6] 20=pN by decide]at o7;have rP:bF wr PR 20 ss pN:=St.jB (ks:=[]) (by rw [fI];exact o7) O;replace hS:=(hS.tail).aq o7.below;refine aL (Kn PR 20 cR _ pN _ rP V3) O ?_;rintro _ w4 ⟨A',c',rs',rfl,dL,av⟩;replace hS:=hS.call2 av;refine ar O (b5 1 0 hS O O O O O O O ?_);clear hS;intro wy hS;refine ar O (ao.cN 0 (hS.rd 0 O) O O O (b5 1 1 hS O O O O O O O ?_));clear hS;intro wz hS;refine bH O (iA O (hS.rd 1 O) ?_);exact⟨A',c',rs',O,dL,hS.tail.tail⟩
 replace h6:¬s=bO 6:=h6;refine aA O (lL O O O (aC O ?_));refine aM _ O (fun h9=>?_) (fun h9=>?_)
 ·replace h9:s=bO 9:=h9;rw [Pu h9];refine aA O (jr hS O ?_);clear hS;intro A4 w3 hS;replace hS:St w w3 (aS 34 2 A4 0 0 [] (mN.take (2*0))++ [Bx 24 1 A3 [.slice none 0 0],Bx 24 1 A2 [.slice none 0 0]]):=hS;refine aC O (Cd.loop (α:=Nat×(aj×Nat)×List aO) (fun z=> [(2,.pointer A2),(3,.pointer A3),(4,.slice z.2.1.1 (2*z.1) z.2.1.2),(5,ak (z.1:Int))]) (fun z w'=>z.1<=7/\z.2.2.length=2*z.1/\St w w' (aS 34 2 z.2.1.1 (2*z.1) z.2.1.2 z.2.2 (mN.take (2*z.1))++ [Bx 24 1 A3 [.slice none 0 0],Bx 24 1 A2 [.slice none 0 0]])) (fun z=>7 - z.1) (0,(A4,0),[]) (aqv O) ⟨bg _,O,hS⟩ ?_);clear hS;rintro⟨i,⟨A4,c4⟩,r4⟩ ev w5 ⟨hi,wk,hS⟩;dsimp only at hi wk hS|-;refine bL O (aM _ O (fun q1=>?_) (fun q1=>?_))
  ·have NL:i<7:=by omega
   have av:=Ya i NL;have J8:(mN.take (2*i)).length=2*i:=by rw [ns];exact Nat.min_eq_left (show 2*i<=14 by omega)
   refine aA O (aI O ?_);refine sO O O O am (ar O (aI O ?_));refine sO O O O am (eZ [(i:Int),((i:Int)+1)%7,((i:Int)+3)%7] hS O O an an O O ?_);clear hS;intro P0 w6 hS;refine ar O (aI O ?_);refine sO O O O am (ar O (aI O ?_));refine sO O O O am (eZ [(i:Int),((i:Int)+3)%7,((i:Int)+2)%7] hS O O an an O O ?_);clear hS;intro P1 w7 hS;refine Bw [⟨P0,3,3⟩,⟨P1,3,3⟩] hS O O an an O O ?_;clear hS;intro P2 w8 hS;refine lK 3 hS O (hS.fQ 0 O) O O O am am O ?_;clear hS;intro A5 c5 w9 hS;replace hS:St w w9 (ax 2 P1 3 3 [(i:Int),((i:Int)+3)%7,((i:Int)+2)%7]::ax 2 P0 3 3 [(i:Int),((i:Int)+1)%7,((i:Int)+3)%7]::cg 34 A5 (2* (i+1)) c5 (r4++ [⟨P0,3,3⟩,⟨P1,3,3⟩])::(da 2 r4 (mN.take (2*i))++ [Bx 24 1 A3 [.slice none 0 0],Bx 24 1 A2 [.slice none 0 0]])):=hS.tail;refine ar O (aI O (aT O (tQ ?_)));refine⟨(i+1,(A5,c5),r4++ [⟨P0,3,3⟩,⟨P1,3,3⟩]),by show 7 - (i+1)<7 - i;omega,⟨O,O,O,aE (Value.int .i64) am,au⟩,by show i+1<=7;omega,by show(r4++ [_,_]).length=2* (i+1);rw [ck,wk];rfl,?_⟩;show St w w9 (aS _ _ A5 (2* (i+1)) c5 (r4++ [_,_]) (mN.take (2* (i+1)))++_);rw [av];unfold aS;rw [CY (by rw [wk,J8])];exact hS.perm (Xn _ _ _ _ _)
  obtain rfl:i=7:=by omega
  replace hS:St w w5 (aS 34 2 A4 14 c4 r4 mN++ [Bx 24 1 A3 [.slice none 0 0],Bx 24 1 A2 [.slice none 0 0]]):=hS;have rP:bF w5 A4 14 r4 mN:=St.jB hS O;replace hS:=hS.sub (kA _ _);refine bp O (bt (cS O ?_));refine aL (Kn A4 14 c4 r4 mN _ rP Yb) O ?_;rintro _ w6 ⟨A',c',rs',rfl,dL,av⟩;replace hS:=hS.call2 av;refine ar O (b5 1 0 hS O O O O O O O ?_);clear hS;intro wy hS;refine ar O (ao.cN 0 (hS.rd 0 O) O O O (b5 1 1 hS O O O O O O O ?_));clear hS;intro wz hS;refine bH O (iA O (hS.rd 1 O) ?_);exact⟨A',c',rs',O,dL,hS.tail.tail⟩
 exfalso;obtain⟨i,hi,rfl⟩:=zk.1 hs;rcases(show i=0\/i=1\/i=2\/i=3\/i=4\/i=5\/i=6\/i=7\/i=8\/i=9\/i=10\/i=11 by omega)with rfl | rfl | rfl | rfl | rfl | rfl | rfl | rfl | rfl | rfl | rfl | rfl<;>first | exact h0 rfl | exact h1 rfl | exact h2 rfl | exact h3 rfl | exact h4 rfl | exact h5 rfl | exact h6 rfl | exact h7 rfl | exact h8 rfl | exact fz rfl | exact kl rfl | exact h9 rfl
theorem ait(s:ByteArray)(w:aa)(hs:s∈o9):aJ prog 47 [.string s] w (ll (gr s) w):=
 Wo s w hs fun _ s' w' h'=>by
  rcases h' with rfl | rfl | rfl<;>exact Wo _ w' (zk.2 ⟨_,an,rfl⟩) (fun h=>absurd h an)
end
section
variable{N:Nat}{M ts:ah}{S V mv:ai}
set_option maxRecDepth 100000
def Nr:ah:=[[3,6,5,0,7,2,1,4,11,14,13,8,15,10,9,12,19,22,21,16,23,18,17,20],[1,0,3,2,5,4,7,6,9,8,11,10,13,12,15,14,17,16,19,18,21,20,23,22],[8,17,21,11,15,18,22,12,0,16,20,3,7,23,19,4,9,1,5,14,10,2,6,13]]
def NQ:ah:=[[3,4,5,0,1,2,9,10,11,6,7,8,15,16,17,12,13,14,21,22,23,18,19,20,27,28,29,24,25,26,33,34,35,30,31,32,39,40,41,36,37,38,45,46,47,42,43,44,51,52,53,48,49,50,57,58,59,54,55,56],[1,0,3,2,5,4,7,6,9,8,11,10,13,12,15,14,17,16,19,18,21,20,23,22,25,24,27,26,29,28,31,30,33,32,35,34,37,36,39,38,41,40,43,42,45,44,47,46,49,48,51,50,53,52,55,54,57,56,59,58],[25,6,30,28,9,33,1,12,36,4,15,39,7,18,42,10,21,45,13,24,48,16,27,51,19,0,54,22,3,57,2,47,52,5,44,49,8,53,58,11,50,55,14,59,34,17,56,31,20,35,40,23,32,37,26,41,46,29,38,43]]
def OH:ah:=[[3,4,5,0,1,2,9,10,11,6,7,8,15,16,17,12,13,14,21,22,23,18,19,20,27,28,29,24,25,26,33,34,35,30,31,32,39,40,41,36,37,38,45,46,47,42,43,44,51,52,53,48,49,50,57,58,59,54,55,56,63,64,65,60,61,62,69,70,71,66,67,68,75,76,77,72,73,74,81,82,83,78,79,80,87,88,89,84,85,86,93,94,95,90,91,92,99,100,101,96,97,98,105,106,107,102,103,104,111,112,113,108,109,110,117,118,119,114,115,116],[1,0,3,2,5,4,7,6,9,8,11,10,13,12,15,14,17,16,19,18,21,20,23,22,25,24,27,26,29,28,31,30,33,32,35,34,37,36,39,38,41,40,43,42,45,44,47,46,49,48,51,50,53,52,55,54,57,56,59,58,61,60,63,62,65,64,67,66,69,68,71,70,73,72,75,74,77,76,79,78,81,80,83,82,85,84,87,86,89,88,91,90,93,92,95,94,97,96,99,98,101,100,103,102,105,104,107,106,109,108,111,110,113,112,115,114,117,116,119,118],[25,6,30,28,9,33,1,12,36,4,15,39,7,18,42,10,21,45,13,24,48,16,27,51,19,0,54,22,3,57,2,85,60,5,88,63,8,61,66,11,64,69,14,67,72,17,70,75,20,73,78,23,76,81,26,79,84,29,82,87,32,37,92,35,40,95,38,43,98,41,46,101,44,49,104,47,52,107,50,55,110,53,58,113,56,31,116,59,34,119,115,96,62,118,99,65,91,102,68,94,105,71,97,108,74,100,111,77,103,114,80,106,117,83,109,90,86,112,93,89]]
def Qu:ah:=[[3,4,5,0,1,2,9,10,11,6,7,8,15,16,17,12,13,14,21,22,23,18,19,20,27,28,29,24,25,26,33,34,35,30,31,32,39,40,41,36,37,38,45,46,47,42,43,44,51,52,53,48,49,50,57,58,59,54,55,56,63,64,65,60,61,62,69,70,71,66,67,68,75,76,77,72,73,74,81,82,83,78,79,80],[1,0,3,2,5,4,7,6,9,8,11,10,13,12,15,14,17,16,19,18,21,20,23,22,25,24,27,26,29,28,31,30,33,32,35,34,37,36,39,38,41,40,43,42,45,44,47,46,49,48,51,50,53,52,55,54,57,56,59,58,61,60,63,62,65,64,67,66,69,68,71,70,73,72,75,74,77,76,79,78,81,80,83,82],[71,6,19,68,9,22,1,74,27,4,77,24,83,18,31,80,21,34,13,2,39,16,5,36,11,30,43,8,33,46,25,14,51,28,17,48,23,42,55,20,45,58,37,26,63,40,29,60,35,54,67,32,57,70,49,38,75,52,41,72,47,66,79,44,69,82,61,50,3,64,53,0,59,78,7,56,81,10,73,62,15,76,65,12]]
def NA:ah:=[[1,0,6,5,9,3,2,13,15,4,17,19,20,7,23,8,25,10,28,11,12,30,32,14,34,16,36,38,18,40,21,43,22,45,24,47,26,49,27,51,29,53,54,31,56,33,58,35,59,37,57,39,55,41,42,52,44,50,46,48],[2,4,0,8,1,11,12,14,3,16,18,5,6,22,7,24,9,27,10,29,25,31,13,33,15,20,37,17,39,19,42,21,44,23,40,46,48,26,50,28,34,52,30,55,32,56,35,59,36,58,38,57,41,54,53,43,45,51,49,47],[3,5,7,0,10,1,13,2,14,17,4,18,21,6,8,23,26,9,11,28,30,12,31,15,35,36,16,37,19,41,20,22,43,46,47,24,25,27,49,52,53,29,48,32,57,58,33,34,42,38,56,55,39,40,59,51,50,44,45,54]]
def N8:ah:=[[1,0,6,5,9,3,2,12,14,4,16,18,7,21,8,23,10,22,11,20,19,13,17,15],[2,4,0,8,1,11,9,13,3,6,17,5,20,7,18,22,23,10,14,21,12,19,15,16],[3,5,7,0,10,1,12,2,15,16,4,19,6,22,23,8,9,21,20,11,18,17,13,14]]
def L2:ah:=[[1,0,6,5,9,3,2,13,15,4,17,19,20,7,23,8,25,10,28,11,12,30,32,14,34,16,36,38,18,40,21,43,22,45,24,47,26,49,27,51,29,53,54,31,56,33,58,35,60,37,62,39,64,41,42,67,44,69,46,71,48,73,50,75,52,77,78,55,80,57,82,59,84,61,86,63,88,65,66,90,68,92,70,93,72,95,74,97,76,98,79,101,81,83,103,85,105,87,89,107,108,91,109,94,111,96,112,99,100,102,115,104,106,117,116,110,114,113,119,118],[2,4,0,8,1,11,12,14,3,16,18,5,6,22,7,24,9,27,10,29,25,31,13,33,15,20,37,17,39,19,42,21,44,23,40,46,48,26,50,28,34,52,30,55,32,56,35,59,36,61,38,62,41,65,66,43,45,68,70,47,72,49,51,74,76,53,54,78,57,81,58,83,60,84,63,87,64,89,67,85,91,69,93,71,73,79,96,75,98,77,100,80,102,82,99,104,86,106,88,94,90,109,92,110,95,112,97,113,114,101,103,116,105,107,108,118,111,119,115,117],[3,5,7,0,10,1,13,2,14,17,4,18,21,6,8,23,26,9,11,28,30,12,31,15,35,36,16,37,19,41,20,22,43,46,47,24,25,27,49,52,53,29,48,32,57,58,33,34,42,38,63,64,39,40,60,68,69,44,45,65,54,74,75,50,51,59,79,80,55,56,81,77,85,86,61,62,87,71,90,66,67,70,92,94,95,72,73,76,97,99,78,100,82,103,83,84,104,88,107,89,91,108,110,93,96,111,113,98,101,115,102,105,117,106,118,109,119,112,114,116]]
def PI:ah:=[[24,25,26,27,28,29,48,49,50,51,52,53,72,73,74,75,76,77,96,97,98,99,100,101,0,1,2,3,4,5,54,55,56,57,58,59,78,79,80,81,82,83,102,103,104,105,106,107,6,7,8,9,10,11,30,31,32,33,34,35,84,85,86,87,88,89,108,109,110,111,112,113,12,13,14,15,16,17,36,37,38,39,40,41,60,61,62,63,64,65,114,115,116,117,118,119,18,19,20,21,22,23,42,43,44,45,46,47,66,67,68,69,70,71,90,91,92,93,94,95],[6,7,12,13,18,19,0,1,14,15,20,21,2,3,8,9,22,23,4,5,10,11,16,17,30,31,36,37,42,43,24,25,38,39,44,45,26,27,32,33,46,47,28,29,34,35,40,41,54,55,60,61,66,67,48,49,62,63,68,69,50,51,56,57,70,71,52,53,58,59,64,65,78,79,84,85,90,91,72,73,86,87,92,93,74,75,80,81,94,95,76,77,82,83,88,89,102,103,108,109,114,115,96,97,110,111,116,117,98,99,104,105,118,119,100,101,106,107,112,113],[2,4,0,5,1,3,8,10,6,11,7,9,14,16,12,17,13,15,20,22,18,23,19,21,26,28,24,29,25,27,32,34,30,35,31,33,38,40,36,41,37,39,44,46,42,47,43,45,50,52,48,53,49,51,56,58,54,59,55,57,62,64,60,65,61,63,68,70,66,71,67,69,74,76,72,77,73,75,80,82,78,83,79,81,86,88,84,89,85,87,92,94,90,95,91,93,98,100,96,101,97,99,104,106,102,107,103,105,110,112,108,113,109,111,116,118,114,119,115,117],[1,0,3,2,5,4,7,6,9,8,11,10,13,12,15,14,17,16,19,18,21,20,23,22,25,24,27,26,29,28,31,30,33,32,35,34,37,36,39,38,41,40,43,42,45,44,47,46,49,48,51,50,53,52,55,54,57,56,59,58,61,60,63,62,65,64,67,66,69,68,71,70,73,72,75,74,77,76,79,78,81,80,83,82,85,84,87,86,89,88,91,90,93,92,95,94,97,96,99,98,101,100,103,102,105,104,107,106,109,108,111,110,113,112,115,114,117,116,119,118]]
theorem Ut:mapM pD=Nr:=by decide+kernel
theorem UW:mapM pE=NQ:=by decide+kernel
theorem V2:mapM pN=OH:=by decide+kernel
theorem am7:mapM mN=Qu:=by decide+kernel
theorem afj:uS (mapM pE)=NA:=by rw [UW];decide+kernel
theorem aga:uS (mapM pD)=N8:=by rw [Ut];decide+kernel
theorem aco:uS (mapM pN)=L2:=by rw [V2];decide+kernel
theorem alD:nn 4 4=PI:=by decide+kernel
theorem amN:nn 3 3=Qn:=by decide+kernel
def ang:ah:=[[6,7,8,9,10,11,0,1,2,3,4,5,18,19,20,21,22,23,12,13,14,15,16,17,30,31,32,33,34,35,24,25,26,27,28,29,42,43,44,45,46,47,36,37,38,39,40,41],[2,3,0,1,5,4,14,15,12,13,17,16,8,9,6,7,11,10,20,21,18,19,23,22,29,28,27,26,25,24,41,40,39,38,37,36,35,34,33,32,31,30,47,46,45,44,43,42],[1,0,4,5,2,3,7,6,10,11,8,9,24,25,26,27,28,29,30,31,32,33,34,35,12,13,14,15,16,17,18,19,20,21,22,23,37,36,40,41,38,39,43,42,46,47,44,45]]
theorem aj9:rF tO 48 [8,12,6] true false true:=xL (ts:=ang) (by decide+kernel) rfl (by decide+kernel) (by decide+kernel) (by decide+kernel) 53 (by decide+kernel)
def ani:ah:=[[1,0,4,5,2,3,9,10,11,6,7,8,16,17,18,19,12,13,14,15,25,26,27,28,29,20,21,22,23,24,36,37,38,39,40,41,30,31,32,33,34,35,48,49,50,51,52,53,42,43,44,45,46,47,60,61,62,63,64,65,54,55,56,57,58,59,72,73,74,75,76,77,66,67,68,69,70,71,84,85,86,87,88,89,78,79,80,81,82,83,95,96,97,98,99,90,91,92,93,94,104,105,106,107,100,101,102,103,111,112,113,108,109,110,116,117,114,115,119,118],[2,6,0,7,12,13,1,3,14,20,21,22,4,5,8,23,25,30,31,32,9,10,11,15,33,16,36,42,43,44,17,18,19,24,45,46,26,48,54,55,56,57,27,28,29,34,35,58,37,60,66,67,68,69,38,39,40,41,47,70,49,72,78,79,80,81,50,51,52,53,59,82,61,84,85,90,91,92,62,63,64,65,71,93,73,74,95,100,101,102,75,76,77,83,103,86,104,108,109,110,87,88,89,94,96,111,114,115,97,98,99,105,116,118,106,107,112,119,113,117],[3,5,8,0,11,1,15,14,2,19,18,4,24,23,7,6,29,28,10,9,34,35,33,13,12,40,41,39,17,16,47,46,45,22,20,21,53,52,51,27,25,26,59,58,56,32,31,30,65,64,62,38,37,36,71,70,44,69,43,42,77,76,50,75,49,48,83,82,81,57,55,54,89,88,87,63,61,60,93,94,92,68,67,66,98,99,97,74,73,72,103,102,80,78,79,107,106,86,84,85,110,109,91,90,113,112,96,95,115,101,100,117,105,104,118,108,119,111,114,116]]
theorem akb:rF L2 120 [20,30,12] true false true:=xL (ts:=ani) (by decide+kernel) rfl (by decide+kernel) (by decide+kernel) (by decide+kernel) 125 (by decide+kernel)
def anj:ah:=[[3,2,1,0,7,6,5,4,11,10,9,8,15,14,13,12,20,21,22,23,16,17,18,19],[1,0,7,6,5,4,3,2,17,16,23,22,21,20,19,18,9,8,15,14,13,12,11,10],[8,9,10,11,12,13,14,15,0,1,2,3,4,5,6,7,17,16,23,22,21,20,19,18]]
theorem akd:rF Nr 24 [4,6,3] true false false:=xL (ts:=anj) (by decide+kernel) rfl (by decide+kernel) (by decide+kernel) (by decide+kernel) 29 (by decide+kernel)
def ank:ah:=[[1,0,4,5,2,3,9,10,11,6,7,8,16,17,18,19,12,13,14,15,25,26,27,28,29,20,21,22,23,24,36,37,38,39,40,41,30,31,32,33,34,35,48,49,50,51,52,53,42,43,44,45,46,47,59,58,57,56,55,54],[2,6,0,7,12,13,1,3,14,20,21,22,4,5,8,23,25,30,31,32,9,10,11,15,33,16,36,42,43,44,17,18,19,24,45,46,26,48,54,55,56,57,27,28,29,34,35,58,37,59,53,52,51,50,38,39,40,41,47,49],[3,5,8,0,11,1,15,14,2,19,18,4,24,23,7,6,29,28,10,9,34,35,33,13,12,40,41,39,17,16,47,46,45,22,20,21,53,52,51,27,25,26,59,58,56,32,31,30,54,55,57,38,37,36,48,49,44,50,43,42]]
theorem ake:rF NA 60 [10,15,6] true false false:=xL (ts:=ank) (by decide+kernel) rfl (by decide+kernel) (by decide+kernel) (by decide+kernel) 65 (by decide+kernel)
def anl:ah:=[[3,2,1,0,5,4,30,31,32,33,34,35,47,46,45,44,43,42,56,57,58,59,54,55,29,28,27,26,25,24,6,7,8,9,10,11,52,53,48,49,50,51,17,16,15,14,13,12,38,39,40,41,36,37,22,23,18,19,20,21],[1,0,5,4,3,2,25,24,29,28,27,26,19,18,23,22,21,20,13,12,17,16,15,14,7,6,11,10,9,8,33,32,31,30,35,34,57,56,55,54,59,58,51,50,49,48,53,52,45,44,43,42,47,46,39,38,37,36,41,40],[25,24,29,28,27,26,19,18,23,22,21,20,13,12,17,16,15,14,7,6,11,10,9,8,1,0,5,4,3,2,57,56,55,54,59,58,51,50,49,48,53,52,45,44,43,42,47,46,39,38,37,36,41,40,33,32,31,30,35,34]]
theorem akf:rF NQ 60 [6,15,10] true false false:=xL (ts:=anl) (by decide+kernel) rfl (by decide+kernel) (by decide+kernel) (by decide+kernel) 65 (by decide+kernel)
def anm:ah:=[[1,0,4,5,2,3,9,10,11,6,7,8,16,17,18,19,12,13,14,15,23,22,21,20],[2,6,0,7,9,12,1,3,13,4,16,20,5,8,21,22,10,23,19,18,11,14,15,17],[3,5,8,0,11,1,14,15,2,18,19,4,23,22,6,7,20,21,9,10,16,17,13,12]]
theorem akg:rF N8 24 [3,6,4] true false false:=xL (ts:=anm) (by decide+kernel) rfl (by decide+kernel) (by decide+kernel) (by decide+kernel) 29 (by decide+kernel)
def ann:ah:=[[3,2,1,0,5,4,30,31,32,33,34,35,85,84,89,88,87,86,56,57,58,59,54,55,29,28,27,26,25,24,6,7,8,9,10,11,60,61,62,63,64,65,119,118,117,116,115,114,82,83,78,79,80,81,22,23,18,19,20,21,36,37,38,39,40,41,92,93,94,95,90,91,112,113,108,109,110,111,50,51,52,53,48,49,13,12,17,16,15,14,70,71,66,67,68,69,101,100,99,98,97,96,105,104,103,102,107,106,74,75,76,77,72,73,47,46,45,44,43,42],[1,0,5,4,3,2,25,24,29,28,27,26,19,18,23,22,21,20,13,12,17,16,15,14,7,6,11,10,9,8,33,32,31,30,35,34,57,56,55,54,59,58,51,50,49,48,53,52,45,44,43,42,47,46,39,38,37,36,41,40,85,84,89,88,87,86,79,78,83,82,81,80,73,72,77,76,75,74,67,66,71,70,69,68,61,60,65,64,63,62,115,114,119,118,117,116,109,108,113,112,111,110,103,102,107,106,105,104,97,96,101,100,99,98,91,90,95,94,93,92],[25,24,29,28,27,26,19,18,23,22,21,20,13,12,17,16,15,14,7,6,11,10,9,8,1,0,5,4,3,2,57,56,55,54,59,58,51,50,49,48,53,52,45,44,43,42,47,46,39,38,37,36,41,40,33,32,31,30,35,34,79,78,83,82,81,80,73,72,77,76,75,74,67,66,71,70,69,68,61,60,65,64,63,62,85,84,89,88,87,86,109,108,113,112,111,110,103,102,107,106,105,104,97,96,101,100,99,98,91,90,95,94,93,92,115,114,119,118,117,116]]
theorem akh:rF OH 120 [12,30,20] true false true:=xL (ts:=ann) (by decide+kernel) rfl (by decide+kernel) (by decide+kernel) (by decide+kernel) 125 (by decide+kernel)
def anh:ah:=[[16,17,18,19,20,21,22,23,24,25,26,27,28,29,30,31,0,1,2,3,4,5,6,7,8,9,10,11,12,13,14,15,36,37,38,39,32,33,34,35,44,45,46,47,40,41,42,43],[4,5,6,7,0,1,2,3,12,13,14,15,8,9,10,11,32,33,34,35,36,37,38,39,40,41,42,43,44,45,46,47,16,17,18,19,20,21,22,23,24,25,26,27,28,29,30,31],[1,0,3,2,6,7,4,5,9,8,11,10,14,15,12,13,17,16,19,18,22,23,20,21,25,24,27,26,30,31,28,29,40,41,42,43,44,45,46,47,32,33,34,35,36,37,38,39]]
theorem aka:rF FD 48 [6,12,8] true false true:=xL (ts:=anh) (by decide+kernel) rfl (by decide+kernel) (by decide+kernel) (by decide+kernel) 53 (by decide+kernel)
def ano:ah:=[[24,25,26,27,28,29,30,31,32,33,34,35,36,37,38,39,40,41,42,43,44,45,46,47,0,1,2,3,4,5,6,7,8,9,10,11,12,13,14,15,16,17,18,19,20,21,22,23,54,55,56,57,58,59,48,49,50,51,52,53,62,63,60,61,65,64,68,69,66,67,71,70,78,79,80,81,82,83,72,73,74,75,76,77,86,87,84,85,89,88,92,93,90,91,95,94,102,103,104,105,106,107,96,97,98,99,100,101,110,111,108,109,113,112,116,117,114,115,119,118],[6,7,8,9,10,11,0,1,2,3,4,5,14,15,12,13,17,16,20,21,18,19,23,22,48,49,50,51,52,53,54,55,56,57,58,59,60,61,62,63,64,65,66,67,68,69,70,71,24,25,26,27,28,29,30,31,32,33,34,35,36,37,38,39,40,41,42,43,44,45,46,47,74,75,72,73,77,76,84,85,86,87,88,89,78,79,80,81,82,83,91,90,94,95,92,93,98,99,96,97,101,100,108,109,110,111,112,113,102,103,104,105,106,107,115,114,118,119,116,117],[2,3,0,1,5,4,12,13,14,15,16,17,6,7,8,9,10,11,19,18,22,23,20,21,26,27,24,25,29,28,36,37,38,39,40,41,30,31,32,33,34,35,43,42,46,47,44,45,72,73,74,75,76,77,78,79,80,81,82,83,84,85,86,87,88,89,90,91,92,93,94,95,48,49,50,51,52,53,54,55,56,57,58,59,60,61,62,63,64,65,66,67,68,69,70,71,97,96,100,101,98,99,103,102,106,107,104,105,114,115,116,117,118,119,108,109,110,111,112,113],[1,0,4,5,2,3,7,6,10,11,8,9,18,19,20,21,22,23,12,13,14,15,16,17,25,24,28,29,26,27,31,30,34,35,32,33,42,43,44,45,46,47,36,37,38,39,40,41,49,48,52,53,50,51,55,54,58,59,56,57,66,67,68,69,70,71,60,61,62,63,64,65,96,97,98,99,100,101,102,103,104,105,106,107,108,109,110,111,112,113,114,115,116,117,118,119,72,73,74,75,76,77,78,79,80,81,82,83,84,85,86,87,88,89,90,91,92,93,94,95]]
theorem aki:rF PI 120 [5,10,10,5] true false true:=xL (ts:=ano) (by decide+kernel) rfl (by decide+kernel) (by decide+kernel) (by decide+kernel) 125 (by decide+kernel)
def anq:ah:=[[2,3,4,5,0,1,68,69,70,71,66,67,26,27,28,29,24,25,8,9,10,11,6,7,50,51,52,53,48,49,32,33,34,35,30,31,74,75,76,77,72,73,56,57,58,59,54,55,14,15,16,17,12,13,80,81,82,83,78,79,38,39,40,41,36,37,20,21,22,23,18,19,62,63,64,65,60,61,44,45,46,47,42,43],[6,7,8,9,10,11,74,75,76,77,72,73,42,43,44,45,46,47,26,27,28,29,24,25,78,79,80,81,82,83,62,63,64,65,60,61,30,31,32,33,34,35,14,15,16,17,12,13,66,67,68,69,70,71,50,51,52,53,48,49,18,19,20,21,22,23,2,3,4,5,0,1,54,55,56,57,58,59,38,39,40,41,36,37]]
theorem akk:rF Qu 84 [7,21,14] false true true:=ajK (ts:=anq) 3 an (by decide+kernel) rfl (by decide+kernel) (by decide+kernel) (by decide+kernel) (by decide+kernel) (by decide+kernel) 89 (by decide+kernel)
def anp:ah:=[[6,7,8,9,10,11,0,1,2,3,4,5,14,15,12,13,17,16,20,21,18,19,23,22],[2,3,0,1,5,4,12,13,14,15,16,17,6,7,8,9,10,11,19,18,22,23,20,21],[1,0,4,5,2,3,7,6,10,11,8,9,18,19,20,21,22,23,12,13,14,15,16,17]]
theorem akj:rF Qn 24 [4,6,4] true false true:=xL (ts:=anp) (by decide+kernel) rfl (by decide+kernel) (by decide+kernel) (by decide+kernel) 29 (by decide+kernel)
theorem ada(hM:bI M)(hN:N=(gl M 0).length)(h:∀t∈ts,wI N M t)(dt:∀x:Int,0<=x->x<N->Reach ts 0 x):(iP N M N).length=1:=by
 have qj:=hM.2.1;rw [<-hN]at qj;have hf:∀f:Nat,f<N->ew N M f=ew N M 0:=fun f hf=> (Iq hM hN h am am (dt f am am)).2
 obtain⟨k,rfl⟩:∃k,N=k+1:=⟨N - 1,am⟩;rw [Ms hf k (by omega)]
 rfl
def Fv(ts:ah)(S:ai)(ps:List (Nat×Nat)):Prop:=gi S 0=0/\∀j,j<ps.length->(ps.getD j (0,0)).1<=j/\(ps.getD j (0,0)).2<ts.length/\gi S ((j+1:Nat):Int)=gi (gl ts (((ps.getD j (0,0)).2:Nat):Int)) (gi S (((ps.getD j (0,0)).1:Nat):Int))
instance (ts:ah)(S:ai)(ps:List (Nat×Nat)):Decidable (Fv ts S ps):=by unfold Fv;infer_instance
theorem XD{ts:ah}{S:ai}{ps:List (Nat×Nat)}(h:Fv ts S ps):∀k j:Nat,j<=k->j<=ps.length->Reach ts 0 (gi S j)
 | _,0,_,_=>by rw [show gi S ((0:Nat):Int)=0 from h.1];exact .refl
 | 0,j+1,hk,_=>absurd hk am
 | k+1,j+1,hk,hj=>by
  obtain⟨h1,h2,h3⟩:=h.2 j am;have ih:=XD h k _ (mS h1 am) (mS h1 am);rw [h3];exact .step ih (by rw [bR h2];exact dK h2)
def HK(N:Nat)(S V:ai):Prop:=∀f,f<N->(0<=gi V f/\gi V f< (N:Int))/\gi S (gi V f)=(f:Int)
instance (N:Nat)(S V:ai):Decidable (HK N S V):=by unfold HK;infer_instance
theorem alG{ps:List (Nat×Nat)}(h:Fv ts S ps)(hl:N=ps.length+1)(hv:HK N S V)(x:Int)(x0:0<=x)(x1:x<N):Reach ts 0 x:=by
 obtain⟨f,rfl⟩:∃f:Nat,x=f:=⟨x.toNat,am⟩;obtain⟨⟨h1,h2⟩,h3⟩:=hv f am;obtain⟨j,hj⟩:∃j:Nat,gi V f=j:=⟨(gi V f).toNat,am⟩;rw [hj]at h2 h3;rw [<-h3];exact XD h j j (br _) am
def mw:ai->Nat
 | []=>0
 | x::r=> (if x<0 then 1 else 0)+mw r
theorem QD:∀ {l:ai} {g:Nat} {v:Int} (h:g<l.length),l[g]<0->0<=v->mw (l.set g v)+1=mw l
 | x::r,0,v,_,hx,hv=>by
  have hx:x<0:=hx;show mw (v::r)+1=mw (x::r);unfold mw;rw [az (by omega),aB hx];omega
 | x::r,g+1,v,h,hx,hv=>by
  have:=QD (l:=r) (g:=g) (v:=v) (by simpa using h) hx hv;show mw (x::r.set g v)+1=mw (x::r);unfold mw;omega
def zy(N:Nat)(c:ai)(s:ai×ai×Bool):Prop:=(∀x:Int,0<=x->x<N->0<=gi s.1 x->gi s.1 x=gi c x)/\s.2.2=true
theorem zy.step{c:ai}{s:ai×ai×Bool}{f:Int}(hI:uG N s)(h:zy N c s)(hf:(0<=f/\f<N)/\0<=gi s.1 f)(hr:0<=gi mv f/\gi mv f<N)(hc:gi c (gi mv f)=1 - gi c f)(hb:gi c f=0\/gi c f=1):
 zy N c (iO f s mv)/\(iO f s mv).2.1.length+mw (iO f s mv).1=s.2.1.length+mw s.1:=by
 have hl:=hI.len;have e1:=h.1 f hf.1.1 hf.1.2 hf.2
 by_cases hn:gi s.1 (gi mv f)<0
 ·have e:iO f s mv=(s.1.set (gi mv f).toNat (1 - gi s.1 f),s.2.1++ [gi mv f],s.2.2):=by unfold iO;rw [if_pos hn]
  rw [e];refine⟨⟨fun x x0 x1 hx=>?_,h.2⟩,?_⟩
  ·have hx:0<=gi (s.1.set (gi mv f).toNat (1 - gi s.1 f)) x:=hx;show gi (s.1.set (gi mv f).toNat (1 - gi s.1 f)) x=_;rw [mD hr.1 (by omega) x0]at hx|-
   split
   ·rename_i q;rw [<-q,hc,e1]
   rename_i q;rw [az q]at hx;exact h.1 x x0 x1 hx
  have hg:(gi mv f).toNat<s.1.length:=by omega
  have:=QD (l:=s.1) (g:=(gi mv f).toNat) (v:=1 - gi s.1 f) hg (by
   have:=bV hg;rw [show(((gi mv f).toNat:Nat):Int)=gi mv f by omega]at this
   rwa [<-this]) am
  show(s.2.1++ [gi mv f]).length+mw (s.1.set (gi mv f).toNat (1 - gi s.1 f))=_;rw [ck];show s.2.1.length+1+_=_;omega
 have e2:gi s.1 (gi mv f)=1 - gi s.1 f:=by rw [h.1 _ hr.1 hr.2 (by omega),hc,e1]
 have e:iO f s mv=s:=by unfold iO;rw [if_neg hn,if_pos e2]
 rw [e];exact⟨h,O⟩
theorem zy.row{c:ai}{f:Int}(hb:gi c f=0\/gi c f=1):∀(ms:ah) {s:ai×ai×Bool},uG N s->zy N c s->((0<=f/\f<N)/\0<=gi s.1 f)->(∀m∈ms,0<=gi m f/\gi m f<N)->(∀m∈ms,gi c (gi m f)=1 - gi c f)->
 zy N c (kP f s ms)/\(kP f s ms).2.1.length+mw (kP f s ms).1=s.2.1.length+mw s.1
 | [],s,_,h,_,_,_=> ⟨h,rfl⟩
 | m::ms,s,hI,h,hf,hr,hc=>by
  have h1:=h.step hI hf (hr m (by simp)) (hc m (by simp)) hb;have h2:=hI.step hf (hr m (by simp));have h3:=zy.row hb ms h2.1 h1.1 ⟨hf.1,h2.2⟩ (fun m hm=>hr m (by simp [hm])) (fun m hm=>hc m (by simp [hm]));exact⟨h3.1,h3.2.trans h1.2⟩
def Fc(N:Nat)(M:ah)(c:ai):Prop:=c.length=N/\(∀x∈c,x=0\/x=1)/\gi c 0=0/\∀m∈M,m.map (gi c)=c.map fun x=>1 - x
instance (N:Nat)(M:ah)(c:ai):Decidable (Fc N M c):=by unfold Fc;infer_instance
theorem abN{c:ai}(hs:Sys N M)(hc:Fc N M c):∀(n:Nat) (s:ai×ai×Bool),uG N s->zy N c s->s.2.1.length+mw s.1=n->n<=1000->uR N M (n+1) s=some true:=by
 obtain⟨de,Ns,kV,oW⟩:=hc;have Ce:∀m∈M,∀f:Int,0<=f->f<N->gi c (gi m f)=1 - gi c f:=fun m hm f f0 f1=>by
  obtain⟨k,rfl⟩:∃k:Nat,f=k:=⟨f.toNat,am⟩;have kY:=(hs m hm).1;have h9:=aE (fun l:ai=>l[k]?) (oW m hm);simp only [List.getElem?_map]at h9;rw [fq (show k<m.length by omega),fq (show k<c.length by omega)]at h9;simp only [Option.map_some,mB]at h9;rw [bV (show k<m.length by omega),bV (show k<c.length by omega)];exact h9
 intro n
 induction n with
 | zero=>
  intro s hI hA hn _;have:s.2.1=[]:=qE am;obtain⟨C,Q,ok⟩:=s;dsimp only at this;subst this;exact aE some hA.2
 | succ n ih=>
  intro s hI hA hn hb;obtain⟨C,Q,ok⟩:=s;cases Q with
  | nil=>exact aE some hA.2
  | cons f r=>
   have hf:=hI.zK f (by simp);have Ar:∀m∈M,0<=gi m f/\gi m f<N:=fun m hm=> (hs m hm).2 f hf.1.1 hf.1.2
   have Uq:gi c f=0\/gi c f=1:=by
    have:=Ns _ (gi_in (out:=c) (i:=f.toNat) am)
    rwa [show((f.toNat:Nat):Int)=f by omega]at this
   have rN:=hI.row M hf Ar;have zP:=hA.row Uq M hI hf Ar (fun m hm=>Ce m hm f hf.1.1 hf.1.2);obtain⟨_,_,_,h4⟩:=Sg f (C,f::r,ok) M;obtain⟨r',fP⟩:=h4 f r rfl;have hlen:(f::r).length<=1000:=by
    have hn:(f::r).length+mw C=n+1:=hn;omega
   show(if 0<=f/\f<N/\(f::r).length<=1000 then uR N M (n+1) ((kP f (C,f::r,ok) M).1,(kP f (C,f::r,ok) M).2.1.drop 1,(kP f (C,f::r,ok) M).2.2)else none)=some true;rw [aB ⟨hf.1.1,hf.1.2,hlen⟩];refine ih _ ⟨rN.1.len,rN.1.bd,fun y hy=>rN.1.zK y (List.mem_of_mem_drop hy)⟩ zP.1 ?_ am;show((kP f (C,f::r,ok) M).2.1.drop 1).length+mw (kP f (C,f::r,ok) M).1=n;have h5:=zP.2;rw [fP]at h5|-;rw [List.drop_one,List.tail_cons];rw [List.length_cons]at h5;have hn:(f::r).length+mw C=n+1:=hn;have h5:r'.length+1+mw (kP f (C,f::r,ok) M).1=(f::r).length+mw C:=h5;omega
theorem YQ:∀n:Nat,mw (List.replicate n (-1))=n
 | 0=>rfl
 | n+1=>by
  rw [List.replicate_succ];unfold mw;rw [YQ n,aB (by decide)];omega
theorem abO{c:ai}(hM:bI M)(hN:N=(gl M 0).length)(hc:Fc N M c):∃fuel,uR N M fuel ((List.replicate N (-1)).set 0 0,[0],true)=some true:=by
 have qj:=hM.2.1;have hs:=hM.2.2.1.sys;rw [<-hN]at qj hs;have hu:mw ((List.replicate N (-1)).set 0 0)+1=N:=(QD (l:=List.replicate N (-1)) (g:=0) (v:=0) (by simp;omega) (by simp) (Int.le_refl _)).trans (YQ N);have JD:gi ((List.replicate N (-1)).set (0:Int).toNat 0) 0=0:=by rw [mD (by omega) (by simp;omega) (by omega),aB O]
 refine⟨N+1,abN hs hc N _ ⟨by simp,fun x hx=>?_,fun f hf=>?_⟩ ⟨fun x x0 x1 hx=>?_,O⟩ (by show 1+mw ((List.replicate N (-1)).set 0 0)=N;omega) am⟩
 ·rcases List.mem_or_eq_of_mem_set hx with hx | rfl
  ·rw [List.eq_of_mem_replicate hx];decide
  decide
 ·obtain rfl:=gj.1 hf;exact⟨⟨am,am⟩,by show 0<=gi ((List.replicate N (-1)).set (0:Int).toNat 0) 0;rw [JD];exact Int.le_refl _⟩
 have hx:0<=gi ((List.replicate N (-1)).set (0:Int).toNat 0) x:=hx;show gi ((List.replicate N (-1)).set (0:Int).toNat 0) x=gi c x;rw [mD (by omega) (by simp;omega) x0]at hx|-
 split
 ·rename_i q;rw [<-q,hc.2.2.1]
 rename_i q;rw [az q,vS x0 x1]at hx;omega
set_option maxRecDepth 100000
set_option maxHeartbeats 2000000
theorem YL:ye tO fk 1<=400:=by
 unfold ye;rw [az (by decide)];show 48*2*jZ 3 1<=400;rw [RV];decide
theorem YN:iV tO fk 1=0:=by
 have hp:=(BI (kind:=1) (.inl O) 2 am).2
 rwa [Ij]at hp
theorem YM:jy tO fk 1=wF:=by rw [<-YK];show jy tO fk 1=jy (fV 1 2) fk 1;rw [Ij]
theorem QB:bI wF:=by
 have h:=Xs YN YL;rw [YM]at h;exact(sX h.1).1
theorem anC:jt wF=[16,32,24,8]:=by
 have h:=alf YN YL;have hn:gF tO fk 1=4:=by kernel_rfl
 have e1:zm tO fk 1=YH:=by unfold zm;rw [hn];kernel_rfl
 have e2:iq tO fk 1=YI:=by unfold iq;rw [e1];kernel_rfl
 rw [YM,hn,e2]at h;rw [h];decide
def Yz:ah:=[[24,25,26,27,28,29,30,31,32,33,34,35,36,37,38,39,40,41,42,43,44,45,46,47,0,1,2,3,4,5,6,7,8,9,10,11,12,13,14,15,16,17,18,19,20,21,22,23,72,73,74,75,76,77,78,79,80,81,82,83,84,85,86,87,88,89,90,91,92,93,94,95,48,49,50,51,52,53,54,55,56,57,58,59,60,61,62,63,64,65,66,67,68,69,70,71,120,121,122,123,124,125,126,127,128,129,130,131,132,133,134,135,136,137,138,139,140,141,142,143,96,97,98,99,100,101,102,103,104,105,106,107,108,109,110,111,112,113,114,115,116,117,118,119,168,169,170,171,172,173,174,175,176,177,178,179,180,181,182,183,184,185,186,187,188,189,190,191,144,145,146,147,148,149,150,151,152,153,154,155,156,157,158,159,160,161,162,163,164,165,166,167,216,217,218,219,220,221,222,223,224,225,226,227,228,229,230,231,232,233,234,235,236,237,238,239,192,193,194,195,196,197,198,199,200,201,202,203,204,205,206,207,208,209,210,211,212,213,214,215,264,265,266,267,268,269,270,271,272,273,274,275,276,277,278,279,280,281,282,283,284,285,286,287,240,241,242,243,244,245,246,247,248,249,250,251,252,253,254,255,256,257,258,259,260,261,262,263,312,313,314,315,316,317,318,319,320,321,322,323,324,325,326,327,328,329,330,331,332,333,334,335,288,289,290,291,292,293,294,295,296,297,298,299,300,301,302,303,304,305,306,307,308,309,310,311,360,361,362,363,364,365,366,367,368,369,370,371,372,373,374,375,376,377,378,379,380,381,382,383,336,337,338,339,340,341,342,343,344,345,346,347,348,349,350,351,352,353,354,355,356,357,358,359],[6,7,8,9,10,11,0,1,2,3,4,5,14,15,12,13,17,16,20,21,18,19,23,22,54,55,56,57,58,59,48,49,50,51,52,53,62,63,60,61,65,64,68,69,66,67,71,70,30,31,32,33,34,35,24,25,26,27,28,29,38,39,36,37,41,40,44,45,42,43,47,46,78,79,80,81,82,83,72,73,74,75,76,77,86,87,84,85,89,88,92,93,90,91,95,94,110,111,108,109,113,112,104,105,102,103,107,106,98,99,96,97,101,100,119,118,117,116,115,114,158,159,156,157,161,160,152,153,150,151,155,154,146,147,144,145,149,148,167,166,165,164,163,162,134,135,132,133,137,136,128,129,126,127,131,130,122,123,120,121,125,124,143,142,141,140,139,138,182,183,180,181,185,184,176,177,174,175,179,178,170,171,168,169,173,172,191,190,189,188,187,186,206,207,204,205,209,208,200,201,198,199,203,202,194,195,192,193,197,196,215,214,213,212,211,210,254,255,252,253,257,256,248,249,246,247,251,250,242,243,240,241,245,244,263,262,261,260,259,258,230,231,228,229,233,232,224,225,222,223,227,226,218,219,216,217,221,220,239,238,237,236,235,234,278,279,276,277,281,280,272,273,270,271,275,274,266,267,264,265,269,268,287,286,285,284,283,282,309,308,311,310,306,307,299,298,297,296,295,294,305,304,303,302,301,300,292,293,289,288,291,290,357,356,359,358,354,355,347,346,345,344,343,342,353,352,351,350,349,348,340,341,337,336,339,338,333,332,335,334,330,331,323,322,321,320,319,318,329,328,327,326,325,324,316,317,313,312,315,314,381,380,383,382,378,379,371,370,369,368,367,366,377,376,375,374,373,372,364,365,361,360,363,362],[2,3,0,1,5,4,12,13,14,15,16,17,6,7,8,9,10,11,19,18,22,23,20,21,26,27,24,25,29,28,36,37,38,39,40,41,30,31,32,33,34,35,43,42,46,47,44,45,96,97,98,99,100,101,102,103,104,105,106,107,108,109,110,111,112,113,114,115,116,117,118,119,120,121,122,123,124,125,126,127,128,129,130,131,132,133,134,135,136,137,138,139,140,141,142,143,48,49,50,51,52,53,54,55,56,57,58,59,60,61,62,63,64,65,66,67,68,69,70,71,72,73,74,75,76,77,78,79,80,81,82,83,84,85,86,87,88,89,90,91,92,93,94,95,146,147,144,145,149,148,156,157,158,159,160,161,150,151,152,153,154,155,163,162,166,167,164,165,170,171,168,169,173,172,180,181,182,183,184,185,174,175,176,177,178,179,187,186,190,191,188,189,193,192,196,197,194,195,199,198,202,203,200,201,210,211,212,213,214,215,204,205,206,207,208,209,217,216,220,221,218,219,223,222,226,227,224,225,234,235,236,237,238,239,228,229,230,231,232,233,288,289,290,291,292,293,294,295,296,297,298,299,300,301,302,303,304,305,306,307,308,309,310,311,312,313,314,315,316,317,318,319,320,321,322,323,324,325,326,327,328,329,330,331,332,333,334,335,240,241,242,243,244,245,246,247,248,249,250,251,252,253,254,255,256,257,258,259,260,261,262,263,264,265,266,267,268,269,270,271,272,273,274,275,276,277,278,279,280,281,282,283,284,285,286,287,337,336,340,341,338,339,343,342,346,347,344,345,354,355,356,357,358,359,348,349,350,351,352,353,361,360,364,365,362,363,367,366,370,371,368,369,378,379,380,381,382,383,372,373,374,375,376,377],[1,0,4,5,2,3,7,6,10,11,8,9,18,19,20,21,22,23,12,13,14,15,16,17,25,24,28,29,26,27,31,30,34,35,32,33,42,43,44,45,46,47,36,37,38,39,40,41,49,48,52,53,50,51,55,54,58,59,56,57,66,67,68,69,70,71,60,61,62,63,64,65,73,72,76,77,74,75,79,78,82,83,80,81,90,91,92,93,94,95,84,85,86,87,88,89,192,193,194,195,196,197,198,199,200,201,202,203,204,205,206,207,208,209,210,211,212,213,214,215,216,217,218,219,220,221,222,223,224,225,226,227,228,229,230,231,232,233,234,235,236,237,238,239,240,241,242,243,244,245,246,247,248,249,250,251,252,253,254,255,256,257,258,259,260,261,262,263,264,265,266,267,268,269,270,271,272,273,274,275,276,277,278,279,280,281,282,283,284,285,286,287,96,97,98,99,100,101,102,103,104,105,106,107,108,109,110,111,112,113,114,115,116,117,118,119,120,121,122,123,124,125,126,127,128,129,130,131,132,133,134,135,136,137,138,139,140,141,142,143,144,145,146,147,148,149,150,151,152,153,154,155,156,157,158,159,160,161,162,163,164,165,166,167,168,169,170,171,172,173,174,175,176,177,178,179,180,181,182,183,184,185,186,187,188,189,190,191,290,291,288,289,293,292,300,301,302,303,304,305,294,295,296,297,298,299,307,306,310,311,308,309,314,315,312,313,317,316,324,325,326,327,328,329,318,319,320,321,322,323,331,330,334,335,332,333,338,339,336,337,341,340,348,349,350,351,352,353,342,343,344,345,346,347,355,354,358,359,356,357,362,363,360,361,365,364,372,373,374,375,376,377,366,367,368,369,370,371,379,378,382,383,380,381]]
theorem anE:∀t∈Yz,wI 384 wF t:=by decide+kernel
def YJ:ai:=[0,24,6,2,1,54,26,25,30,12,7,8,4,3,78,102,55,56,28,27,48,36,31,14,18,13,32,10,5,9,72,126,79,104,198,103,80,58,29,57,96,49,62,42,37,38,20,19,15,50,34,16,11,33,120,73,152,222,127,128,200,199,105,74,82,106,59,81,110,192,97,86,68,43,63,60,44,22,21,39,98,52,40,17,35,51,158,216,121,176,248,223,153,150,224,202,201,129,122,76,130,107,83,75,134,206,193,111,84,92,116,69,87,108,66,46,23,45,61,194,100,65,41,53,99,182,254,217,159,174,272,296,249,177,156,246,226,203,225,151,218,124,155,131,77,123,144,230,212,207,135,132,90,140,117,93,85,204,114,71,47,67,109,196,113,89,64,101,195,168,278,302,255,183,180,270,320,297,273,175,252,294,251,227,247,157,220,161,179,154,125,219,146,240,236,213,231,145,228,138,165,141,91,133,210,119,95,70,115,205,209,137,88,112,197,170,264,326,303,279,169,276,318,345,321,271,181,300,299,275,250,295,253,257,185,178,160,221,242,288,261,237,241,147,234,167,189,164,139,229,215,143,94,118,211,233,148,136,208,266,312,351,327,265,171,324,347,369,344,319,277,305,323,274,298,301,281,172,184,256,290,309,285,260,289,243,263,191,188,166,235,239,162,142,214,244,149,232,314,357,375,350,313,267,353,371,368,346,325,329,342,322,304,268,173,280,311,333,284,308,291,287,186,190,262,258,163,238,292,245,359,381,374,356,315,377,366,370,352,348,343,328,316,269,335,336,332,310,282,187,286,306,259,293,383,360,380,358,372,367,376,354,349,317,338,337,334,330,283,307,362,361,382,378,373,355,340,339,331,364,363,379,341,365]
def tsV:ai:=[0,4,3,13,12,28,2,10,11,29,27,52,9,25,23,48,51,83,24,47,46,78,77,116,1,7,6,19,18,38,8,22,26,53,50,84,21,44,45,79,82,122,43,73,76,117,115,160,20,41,49,85,81,123,5,16,17,39,37,66,75,118,42,74,166,121,114,161,72,111,207,159,30,55,63,103,99,144,14,32,36,67,64,102,108,156,71,112,212,165,152,202,109,155,252,206,40,70,80,124,120,167,15,35,33,62,65,101,113,162,68,107,213,164,158,208,110,154,253,205,54,88,98,145,141,190,31,58,59,97,100,143,151,203,104,150,257,211,199,248,153,201,293,251,146,197,192,243,256,296,93,139,56,92,189,142,134,185,86,128,236,187,292,326,247,200,289,245,169,220,215,264,277,314,129,179,89,133,235,188,174,226,125,173,278,234,322,349,288,246,323,287,69,106,119,168,163,214,34,61,60,96,95,137,157,209,105,149,258,210,204,254,148,195,294,250,87,127,140,191,186,237,57,91,94,138,136,183,198,249,147,196,297,255,244,290,194,241,327,291,193,242,238,285,295,329,135,184,90,132,230,182,180,232,126,172,279,233,325,352,283,240,324,286,216,263,259,303,313,343,175,225,130,178,273,229,221,270,170,219,315,276,348,368,318,282,350,321,239,284,280,320,328,353,181,231,131,177,274,228,227,275,171,218,312,271,351,369,319,281,347,316,260,302,298,334,342,363,222,269,176,224,311,272,265,308,217,262,341,309,367,378,346,317,366,344,345,365,364,377,376,382,310,340,268,223,307,266,339,362,301,261,338,304,361,375,333,299,357,330,355,371,370,380,379,383,336,359,306,267,337,305,358,374,332,300,360,335,373,381,356,331,372,354]
def tsP:List (Nat×Nat):=[(0,0),(0,1),(0,2),(0,3),(1,1),(1,2),(1,3),(2,0),(2,2),(2,3),(3,1),(3,3),(4,2),(5,0),(5,2),(5,3),(6,1),(6,3),(7,2),(8,1),(8,2),(8,3),(9,1),(9,3),(10,2),(11,0),(11,3),(12,2),(13,1),(14,1),(14,2),(14,3),(15,1),(15,3),(16,2),(17,0),(17,3),(18,2),(19,1),(20,2),(20,3),(21,1),(21,3),(22,2),(23,0),(23,3),(24,2),(25,1),(26,1),(26,3),(27,2),(28,1),(29,0),(30,2),(30,3),(31,1),(31,3),(32,2),(33,0),(33,3),(34,2),(35,1),(36,1),(36,3),(37,2),(38,1),(39,0),(40,1),(40,3),(41,2),(42,0),(42,3),(43,2),(44,1),(45,1),(45,3),(46,2),(47,1),(48,0),(49,2),(49,3),(50,2),(51,1),(52,0),(53,1),(54,1),(54,3),(55,2),(56,0),(56,3),(57,2),(58,1),(59,1),(59,3),(60,2),(61,1),(62,0),(63,2),(63,3),(64,2),(65,1),(66,0),(67,1),(68,0),(68,3),(69,2),(70,1),(71,1),(71,3),(72,2),(73,1),(74,0),(75,2),(75,3),(76,2),(77,1),(78,0),(79,1),(80,3),(81,2),(82,1),(83,0),(84,1),(85,2),(86,0),(86,3),(87,2),(88,1),(89,1),(89,3),(90,2),(91,1),(92,0),(93,2),(93,3),(94,2),(95,1),(96,0),(97,1),(98,3),(99,2),(100,1),(101,0),(102,1),(103,2),(104,1),(104,3),(105,2),(106,1),(107,0),(108,2),(108,3),(109,2),(110,1),(111,0),(112,1),(113,3),(114,2),(115,1),(116,0),(117,1),(118,2),(119,2),(120,1),(121,0),(122,1),(123,2),(124,3),(125,1),(125,3),(126,2),(127,1),(128,0),(129,2),(129,3),(130,2),(131,1),(132,0),(133,1),(134,3),(135,2),(136,1),(137,0),(138,1),(139,2),(140,2),(141,1),(142,0),(143,1),(144,2),(145,3),(146,2),(146,3),(147,2),(148,1),(149,0),(150,1),(151,3),(152,2),(153,1),(154,0),(155,1),(156,2),(157,2),(158,1),(159,0),(160,1),(161,2),(162,3),(163,1),(164,0),(165,1),(166,2),(167,3),(169,2),(169,3),(170,2),(171,1),(172,0),(173,1),(174,3),(175,2),(176,1),(177,0),(178,1),(179,2),(180,2),(181,1),(182,0),(183,1),(184,2),(185,3),(186,1),(187,0),(188,1),(189,2),(190,3),(192,3),(193,2),(194,1),(195,0),(196,1),(197,2),(198,2),(199,1),(200,0),(201,1),(202,2),(203,3),(204,1),(205,0),(206,1),(207,2),(208,3),(210,0),(211,1),(212,2),(213,3),(215,3),(216,2),(217,1),(218,0),(219,1),(220,2),(221,2),(222,1),(223,0),(224,1),(225,2),(226,3),(227,1),(228,0),(229,1),(230,2),(231,3),(233,0),(234,1),(235,2),(236,3),(238,2),(239,1),(240,0),(241,1),(242,2),(243,3),(244,1),(245,0),(246,1),(247,2),(248,3),(250,0),(251,1),(252,2),(253,3),(255,1),(256,2),(257,3),(259,2),(260,1),(261,0),(262,1),(263,2),(264,3),(265,1),(266,0),(267,1),(268,2),(269,3),(271,0),(272,1),(273,2),(274,3),(276,1),(277,2),(278,3),(280,1),(281,0),(282,1),(283,2),(284,3),(286,0),(287,1),(288,2),(289,3),(291,1),(292,2),(293,3),(295,2),(296,3),(298,1),(299,0),(300,1),(301,2),(302,3),(304,0),(305,1),(306,2),(307,3),(309,1),(310,2),(311,3),(313,2),(314,3),(316,0),(317,1),(318,2),(319,3),(321,1),(322,2),(323,3),(325,2),(326,3),(328,3),(330,0),(331,1),(332,2),(333,3),(335,1),(336,2),(337,3),(339,2),(340,3),(342,3),(344,1),(345,2),(346,3),(348,2),(349,3),(351,3),(354,1),(355,2),(356,3),(358,2),(359,3),(361,3),(364,2),(365,3),(367,3),(370,2),(371,3),(373,3),(376,3),(379,3)]
theorem anG:Fv Yz YJ tsP:=by decide+kernel
theorem anF:HK 384 YJ tsV:=by decide+kernel
def tsC:ai:=[0,1,1,0,0,1,1,0,0,1,1,0,0,1,1,0,0,1,1,0,0,1,1,0,1,0,0,1,1,0,0,1,1,0,0,1,1,0,0,1,1,0,0,1,1,0,0,1,1,0,0,1,1,0,0,1,1,0,0,1,1,0,0,1,1,0,0,1,1,0,0,1,0,1,1,0,0,1,1,0,0,1,1,0,0,1,1,0,0,1,1,0,0,1,1,0,0,1,1,0,0,1,1,0,0,1,1,0,0,1,1,0,0,1,1,0,0,1,1,0,1,0,0,1,1,0,0,1,1,0,0,1,1,0,0,1,1,0,0,1,1,0,0,1,1,0,0,1,1,0,0,1,1,0,0,1,1,0,0,1,1,0,0,1,1,0,0,1,0,1,1,0,0,1,1,0,0,1,1,0,0,1,1,0,0,1,1,0,0,1,1,0,1,0,0,1,1,0,0,1,1,0,0,1,1,0,0,1,1,0,0,1,1,0,0,1,0,1,1,0,0,1,1,0,0,1,1,0,0,1,1,0,0,1,1,0,0,1,1,0,0,1,1,0,0,1,1,0,0,1,1,0,0,1,1,0,0,1,1,0,0,1,1,0,1,0,0,1,1,0,0,1,1,0,0,1,1,0,0,1,1,0,0,1,1,0,0,1,1,0,0,1,1,0,0,1,1,0,0,1,1,0,0,1,1,0,0,1,1,0,0,1,0,1,1,0,0,1,1,0,0,1,1,0,0,1,1,0,0,1,1,0,0,1,1,0,0,1,1,0,0,1,1,0,0,1,1,0,0,1,1,0,0,1,1,0,0,1,1,0,1,0,0,1,1,0,0,1,1,0,0,1,1,0,0,1,1,0,0,1,1,0,0,1]
theorem anD:Fc 384 wF tsC:=by decide+kernel
theorem akl:rF wF 384 [16,32,24,8] true false true:=by
 have h1:(iP 384 wF 384).length=1:=ada (N:=384) QB O anE (alG anG O anF);exact⟨QB,rfl,anC,by rw [h1];rfl,⟨fun q=>by have:=q.2;omega,fun q=>by cases q⟩,abO QB rfl anD⟩
def CK:ah:=[[8,12,6],[20,30,12],[4,6,3],[10,15,6],[6,15,10],[3,6,4],[12,30,20],[6,12,8],[5,10,10,5],[7,21,14],[16,32,24,8],[4,6,4]]
def Ks:ai:=[2,2,1,1,1,1,2,2,0,0,0,2]
theorem ajV:gr (bO 0)=tO:=(Pm rfl).trans (show fV 1 2=tO from Ij)
theorem ajW:gr (bO 1)=L2:=(Pn rfl).trans aco
theorem ajZ:gr (bO 2)=Nr:=(Ha rfl).trans Ut
theorem aj0:gr (bO 3)=NA:=(Pq rfl).trans afj
theorem aj1:gr (bO 4)=NQ:=(Hb rfl).trans UW
theorem aj2:gr (bO 5)=N8:=(Pr rfl).trans aga
theorem aj3:gr (bO 6)=OH:=(Hc rfl).trans V2
theorem aj4:gr (bO 7)=FD:=(Ps rfl).trans (show fV 2 2=FD from abm)
theorem aj5:gr (bO 8)=PI:=(Pt rfl).trans alD
theorem aj6:gr (bO 9)=Qu:=(Pu rfl).trans am7
theorem ajX:gr (bO 10)=wF:=(Po rfl).trans (show fV 1 3=wF from YK)
theorem ajY:gr (bO 11)=Qn:=(Pp rfl).trans amN
theorem aj7(i:Nat)(hi:i<12):∃N,rF (gr (bO i)) N (gl CK i) (decide (i≠9)) (decide (i=9)) (decide (¬(2<=i/\i<=5))):=by
 rcases(show i=0\/i=1\/i=2\/i=3\/i=4\/i=5\/i=6\/i=7\/i=8\/i=9\/i=10\/i=11 by omega)with rfl | rfl | rfl | rfl | rfl | rfl | rfl | rfl | rfl | rfl | rfl | rfl
 ·rw [ajV];exact⟨_,aj9⟩
 ·rw [ajW];exact⟨_,akb⟩
 ·rw [ajZ];exact⟨_,akd⟩
 ·rw [aj0];exact⟨_,ake⟩
 ·rw [aj1];exact⟨_,akf⟩
 ·rw [aj2];exact⟨_,akg⟩
 ·rw [aj3];exact⟨_,akh⟩
 ·rw [aj4];exact⟨_,aka⟩
 ·rw [aj5];exact⟨_,aki⟩
 ·rw [aj6];exact⟨_,akk⟩
 ·rw [ajX];exact⟨_,akl⟩
 rw [ajY];exact⟨_,akj⟩
theorem akc:∀i:Nat,i<12->tS (gl CK i) (gl CK i).length=gi Ks i:=by decide
theorem aj8:∀i:Nat,i<12->∀x∈gl CK i,0<=x/\x<=30000:=by decide
end
section
open Go.RowKit
section
variable {P:Program} {N:Nat} {ops:Array Oper} {K:Env->aa->Prop} {rest:List Oper} {e:Env} {w:aa} {d:Nat} {ty:ae} {pos:String} {af:Array Edge}
end
noncomputable def CM(s:ByteArray):ah:=if xE s=true then gr s else []
def CL(s:ByteArray):Int:=if xE s=true then 0 else 4
theorem ahk(s:ByteArray)(w:aa)(hT:lO w)(hN:zC w):
 aJ prog 8 [.string s] w (oA (CM s) (CL s) w):=by
 unfold CM CL;refine bC func8 O ntmps8 O (ur O O) (bh O (ib (St.refl w) O ?_));intro A2 w1 hS;refine ar O (Rb O O an (ar O (aL (Zn _ 12 s _ (hN.aq hS.below)) O ?_)));rintro _ w2 ⟨rfl,rfl⟩;cases hb:xE s with
 | false=>
  rw [az (by decide), az (by decide)] --dup 2
  first | refine fv rfl rfl ?_ | refine gz rfl rfl ?_
  refine aC O (Cd.gu O (aA O (wR (by exact inferInstance) O (b5 1 0 hS O O O O O O O ?_))));intro w3 aQ;refine bH O (kG O (aQ.rd 0 O) O ?_);exact oA.none aQ
 | true=>
  rw [aB rfl,aB rfl]
  first | refine fv rfl rfl ?_ | refine gz rfl rfl ?_
  refine aC O (Cd.fg O (aA O (aL (ajL s _ (hT.aq hS.below) (EA.1 hb)) O ?_)));rintro _ w3 ⟨A,c,rs,rfl,cn,av⟩;have aQ:=hS.call2 av;refine b5 1 0 aQ O O O O O O O fun w4 aX=>bH O (kG O (aX.rd 0 O) O ?_);exact⟨A,c,rs,O,cn,aX.tail⟩
theorem W7(k:Nat)(h:k<12):(o9.map Value.string).getD k undef= .string (bO k):=by
 have:k<o9.length:=h;simp [bO,dm,List.getElem?_map,fq this]
theorem amV(s:ByteArray)(w:aa):
 aJ prog 7 [.string s] w (oA (CM s) (CL s) w):=by
 refine bC func7 O ntmps7 O (ur O O) (bh O (ib (St.refl w) O ?_));intro A2 w1 hS;refine ar O (aL (Yk _) O ?_);rintro _ w2 ⟨A4,rfl,av⟩;replace hS:=hS.call2 av;refine aC O (Cd.loop (α:=Nat) (fun k=> [(0,.string s),(2,.pointer A2),(4,.slice A4 12 12),(5,ak k)]) (fun k w'=>k<=12/\(∀j,j<k->¬bO j=s)/\St w w' ([Bx 24 1 A2 [.slice none 0 0]]++ [⟨A4,12,12,9,o9.map Value.string⟩])) (fun k=>12 - k) 0 (aqv O) ⟨bg _,fun j hj=>absurd hj (oF _),hS⟩ ?_);clear hS;rintro k e w3 ⟨hk,gv,hS⟩;refine bh O (a8 O O (aC O ?_));refine aM _ O (fun h1=>?_) (fun h1=>?_)
 ·refine aA O ?_;refine aqj (hS.rd 1 O) O O O am (by show(k:Int)<12;omega) ?_;refine ao.ld (v:= .string (bO k)) (hS.rd 1 O) O (by show k<12;omega) (W7 k am) O O ?_;refine ar O (lL O O O (aC O ?_));refine aM _ O (fun h2=>?_) (fun h2=>?_)
  ·have hm:s∈o9:=zk.2 ⟨k,am,h2⟩;have hi:xE s=true:=EA.2 hm;unfold CM CL;rw [aB hi,aB hi];refine aA O (aL (ait s _ hm) O ?_);rintro _ w4 ⟨A,c,rs,rfl,cn,av⟩;have aQ:=hS.call2 av;refine b5 1 0 aQ O O O O O O O fun w5 aX=>bH O (fB (fe ?_));exact kG O (aX.rd 0 O) O ⟨A,c,rs,O,cn,aX.tail.tail⟩
  refine aA O (aI O (aT O (tQ ?_)));exact⟨k+1,by show 12 - (k+1)<12 - k;omega,⟨O,O,O,aE (Value.int .i64) am,au⟩,am,fun j hj=>by
   rcases Nat.lt_succ_iff_lt_or_eq.1 hj with h | rfl
   ·exact gv j h
   exact h2,hS⟩
 have hi:¬xE s=true:=fun q=>by
  obtain⟨i,hi,he⟩:=zk.1 (EA.1 q);exact gv i am he
 unfold CM CL;rw [az hi,az hi];refine bp O (bt (cS O ?_));refine wR (by exact inferInstance) O (b5 1 0 hS O O O O O O O ?_);intro w4 aX;refine bH O (kG O (aX.rd 0 O) O ?_);exact oA.none aX
theorem ZA(A:aj)(n c:Nat)(rs:List aO)(xss:ah)(w:aa)(hR:bF w A n rs xss)(hM:bI xss)(mG:n<=c)(hc:c<=9223372036854775807):
 aJ prog 19 [.agg #[.slice A n c]] w (fun v w'=>v= .tuple #[.bool (decide (((iP (gl xss 0).length xss (gl xss 0).length).length:Int)=1)),ak 0]/\St w w' []):=by
 refine bC func19 O ntmps19 O (pV O) (bh O (jH (St.refl w) O O ?_));intro Ab w1 aH;refine ar O (ao.cN 0 (aH.rd 0 O) O O O (aL (yZ A n c rs xss _ (aH.b7 hR) mG hc) O ?_));rintro _ w3 ⟨rfl,av⟩;have aQ:=aH.aq av.below
 first | refine fv rfl rfl ?_ | refine gz rfl rfl ?_
 refine aC O (qC O (fun h=>h hM) (aA O (aL (acO Ab A n c rs xss _ _ (aal (aQ.rd 0 O)) (aQ.b7 hR) hM O) O ?_)));rintro _ w4 ⟨A',rfl,rW⟩;refine bH O (Bg O O ?_);exact⟨O,(aQ.aq rW.below).none⟩
section
variable {P:Program} {N:Nat} {ops:Array Oper} {K:Env->aa->Prop} {rest:List Oper} {e:Env} {w:aa} {d:Nat} {ty:ae} {pos:String} {af:Array Edge} {x y:ag} {xt yt:ae}
theorem Z6[bA P xt .string]{a b:ByteArray}(hx:ev e x= .string a)(hy:ev e y= .string b)(hb:Nat.blt d N=true)(hK:ao P N ops K rest (bn e d (.bool (!(decide (a=b))))) w):
 ao P N ops K (⟨some d,.binOp .neq xt x y yt,ty,pos,af,none⟩::rest) e w:=by
 have he:(a.toList==b.toList)=decide (a=b):=by
  by_cases h:a=b
  ·subst h;simp
  have:¬a.toList=b.toList:=fun q=>h (ByteArray.ext (by simpa [ByteArray.toList_eq]using q))
  simp [h,this]
 exact .val (by rw [<-he];simp [execOp,hx,hy,eqGuard,binOp,Op.stringOp]) hb hK
theorem HP[bA P xt .bool]{a b:Bool}(hx:ev e x= .bool a)(hy:ev e y= .bool b)(hb:Nat.blt d N=true)(hK:ao P N ops K rest (bn e d (.bool (decide (¬a=b)))) w):
 ao P N ops K (⟨some d,.binOp .neq xt x y yt,ty,pos,af,none⟩::rest) e w:=
 .ajP hx hy hb (by rw [show(!(a==b))=decide (¬a=b) by cases a<;>cases b<;>rfl];exact hK)
theorem Rc[bA P xt .bool]{a b:Bool}(hx:ev e x= .bool a)(hy:ev e y= .bool b)(hb:Nat.blt d N=true)(hK:ao P N ops K rest (bn e d (.bool (decide (a=b)))) w):
 ao P N ops K (⟨some d,.binOp .eql xt x y yt,ty,pos,af,none⟩::rest) e w:=
 .SG hx hy hb (by rw [show(a==b)=decide (a=b) by cases a<;>cases b<;>rfl];exact hK)
end
theorem ako(k:Nat)(h:k<12):((List.range 12).map vx).getD k undef=vx k:=by
 rw [dm,List.getElem?_map,List.getElem?_range h]
 rfl
theorem ajO:∀i:Nat,i<12->(2<=i/\i<=5->gi Ks i=1)/\(i=8\/i=9\/i=10->gi Ks i=0)/\(¬(2<=i/\i<=5)->¬(i=8\/i=9\/i=10)->gi Ks i=2):=by decide
theorem QR{X:ah}{w w':aa}{v:ad}(h:oA X 0 w v w'):∃A c,∃rs:List aO,v= .tuple #[.agg #[.slice A X.length c],ak 0]/\bF w' A X.length rs X/\(X.length<=c/\c<=9223372036854775807)/\St w w' []:=by
 obtain⟨A,c,rs,hv,cn,av⟩:=h;have hc:=av.cap 0 O;exact⟨A,c,rs,hv,av.nJ O,⟨hc.1,by have:=hc.2;simp only [maxLen]at this;omega⟩,av.none⟩
set_option maxRecDepth 10000 in
theorem Zs(Ac:aj)(nc cc:Nat)(bs:ai)(w:aa)(hT:lO w)(hN:zC w)(hY:vK w Ac nc bs):aJ prog 4 [.slice Ac nc cc] w (fun v w'=>v= .bool true/\St w w' []):=by
 refine bC func4 O ntmps4 O (df O) (bh O (aL (aa2 Ac nc cc _) O ?_));rintro _ w1 ⟨rfl,hs⟩;refine aC O (aM _ O (fun h0=>?_) (fun h0=>?_))
 ·refine dM O (dq O ?_);exact⟨O,hs⟩
 have mG:nc<=4096:=by omega
 refine aA O (aL (ahl _ (hN.aq hs.below)) O ?_);rintro _ w2 ⟨A3,c3,rfl,av⟩;have h3:Rd w2 A3 12 vx:=(av.rd 0 O).congr fun j hj=>ako j hj
 replace hs:=(hs.call av).none;refine ar O (aL (Yk _) O ?_);rintro _ w3 ⟨A4,rfl,av⟩;have h4:Rd w3 A4 12 vx:=(av.rd 0 O).congr fun j hj=>W7 j hj
 have dW:=av.below;replace h3:=Rd.below h3 dW;replace hs:=(hs.call av).none;refine ar O (a8 O O (ar O (a8 O O (ar O ?_))));refine dI 31 O (fun h=>absurd O h) (fun _=>?_);refine aw O (ar O (aw O (a8 O O (aw O (aC O ?_)))));refine qC O (fun h=>h O) ?_;have hS:=St.refl w3;refine aA O (eZ [8,12,6] hS O O an an O O ?_);clear hS;intro P0 KW hS;refine eZ [20,30,12] hS O O an an O O ?_;clear hS;intro P1 KX hS;refine eZ [4,6,3] hS O O an an O O ?_;clear hS;intro P2 KY hS;refine eZ [10,15,6] hS O O an an O O ?_;clear hS;intro P3 YX hS;refine eZ [6,15,10] hS O O an an O O ?_;clear hS;intro P4 YY hS;refine eZ [3,6,4] hS O O an an O O ?_;clear hS;intro P5 YZ hS;refine eZ [12,30,20] hS O O an an O O ?_;clear hS;intro P6 Y0 hS;refine eZ [6,12,8] hS O O an an O O ?_;clear hS;intro P7 Y3 hS;refine eZ [5,10,10,5] hS O O an an O O ?_;clear hS;intro P8 Y4 hS;refine eZ [7,21,14] hS O O an an O O ?_;clear hS;intro P9 Y5 hS;refine eZ [16,32,24,8] hS O O an an O O ?_;clear hS;intro wT aok hS;refine eZ [4,6,4] hS O O an an O O ?_;clear hS;intro wU aol hS;refine Bw [⟨P0,3,3⟩,⟨P1,3,3⟩,⟨P2,3,3⟩,⟨P3,3,3⟩,⟨P4,3,3⟩,⟨P5,3,3⟩,⟨P6,3,3⟩,⟨P7,3,3⟩,⟨P8,4,4⟩,⟨P9,3,3⟩,⟨wT,4,4⟩,⟨wU,3,3⟩] hS O O an an O O ?_;clear hS;intro AC w4 av;replace av:St w3 w4 (cg 34 AC 12 12 [⟨P0,3,3⟩,⟨P1,3,3⟩,⟨P2,3,3⟩,⟨P3,3,3⟩,⟨P4,3,3⟩,⟨P5,3,3⟩,⟨P6,3,3⟩,⟨P7,3,3⟩,⟨P8,4,4⟩,⟨P9,3,3⟩,⟨wT,4,4⟩,⟨wU,3,3⟩]::((da 2 [⟨P0,3,3⟩,⟨P1,3,3⟩,⟨P2,3,3⟩,⟨P3,3,3⟩,⟨P4,3,3⟩,⟨P5,3,3⟩,⟨P6,3,3⟩,⟨P7,3,3⟩,⟨P8,4,4⟩,⟨P9,3,3⟩,⟨wT,4,4⟩,⟨wU,3,3⟩] CK).reverse++ [])):=av;have hC:bF w4 AC 12 [⟨P0,3,3⟩,⟨P1,3,3⟩,⟨P2,3,3⟩,⟨P3,3,3⟩,⟨P4,3,3⟩,⟨P5,3,3⟩,⟨P6,3,3⟩,⟨P7,3,3⟩,⟨P8,4,4⟩,⟨P9,3,3⟩,⟨wT,4,4⟩,⟨wU,3,3⟩] CK:=St.jB (t1:=34) (t2:=2) (c:=12) (av.perm (List.Perm.cons _ ((List.reverse_perm _).append_right _))) O;generalize ([⟨P0,3,3⟩,⟨P1,3,3⟩,⟨P2,3,3⟩,⟨P3,3,3⟩,⟨P4,3,3⟩,⟨P5,3,3⟩,⟨P6,3,3⟩,⟨P7,3,3⟩,⟨P8,4,4⟩,⟨P9,3,3⟩,⟨wT,4,4⟩,⟨wU,3,3⟩]:List aO)=ss at hC;have dW:=av.below;replace h3:=Rd.below h3 dW;replace h4:=Rd.below h4 dW;replace hs:=(hs.call av).none;refine ar O (aL (amb Ac nc cc bs 715 _ (hY.below hs.below) am) O ?_);rintro _ w5 ⟨Ad,kd,rfl,hK,hD⟩;refine aL (ack 0 12 hD O hK) O ?_;rintro _ w6 ⟨r,kd,rfl,⟨og,kZ,_⟩,_,av⟩;have dW:=av.below;replace h3:=Rd.below h3 dW;replace h4:=Rd.below h4 dW;replace hC:=hC.aq dW;replace hs:=(hs.call av).none;have kZ:=kZ am;obtain⟨i,rfl⟩:∃i:Nat,r=i:=⟨r.toNat,am⟩;have hi:i<12:=by omega
 clear hD hK;have hm:bO i∈o9:=zk.2 ⟨i,hi,O⟩;have cI:xE (bO i)=true:=EA.2 hm;have eX:CM (bO i)=gr (bO i):=by unfold CM;rw [if_pos cI]
 have eK:CL (bO i)=0:=by unfold CL;rw [if_pos cI]
 refine aC O (dU [xS (A3) (12) (c3),xI ((i:Int)),xP (ay A3 i),.ex (.string (bO i)),xS (A4) (12) (12),xI ((i:Int)),xP (ay A4 i),.ex (.string (bO i)),xB (false)] O (eG O) ?_ ?_)
 ·refine⟨Dr O,Dr O,?_,?_,Dr O,Dr O,?_,?_,?_,au⟩
  ·intro e1 w1 hb hp aU;refine aD (Rd.below h3 hb) O (ao.n ?_);exact eP.dn (Below.refl _ _) O
  ·intro e1 w1 hb hp aU;refine ao.ld (v:= .string (bO i)) (Rd.below h3 hb) O hi O O O (ao.n ?_);exact eP.dn (Below.refl _ _) O
  ·intro e1 w1 hb hp aU;refine aD (Rd.below h4 hb) O (ao.n ?_);exact eP.dn (Below.refl _ _) O
  ·intro e1 w1 hb hp aU;refine ao.ld (v:= .string (bO i)) (Rd.below h4 hb) O hi O O O (ao.n ?_);exact eP.dn (Below.refl _ _) O
  intro e1 w1 hb hp aU;refine Z6 O O O (ao.n ?_);exact eP.dn (Below.refl _ _) (aE Value.bool (by rw [dz O];rfl))
 intro u w7 yx _;have dW:=yx;replace h3:=Rd.below h3 dW;replace h4:=Rd.below h4 dW;replace hC:=hC.aq dW;replace hs:=hs.aq yx;refine eS O (Cd.fg O (aA O (aD h3 O (ao.ld (v:= .string (bO i)) h3 O hi O O O (aL (ahk (bO i) _ (hT.aq hs.below) (hN.aq hs.below)) O ?_)))));rw [eX,eK];intro v wa hA;obtain⟨X7,c7,EW,rfl,jh,xm,av⟩:=QR hA;clear hA;have dW:=av.below;replace h3:=Rd.below h3 dW;replace h4:=Rd.below h4 dW;replace hC:=hC.aq dW;replace hs:=(hs.call av).none;refine ar O (ib (St.refl _) O ?_);intro B7 wb av;refine b5 1 0 av O O O O O O O ?_;clear av;intro wc av;have kb:Rd wc B7 1 (fun j=> [Value.slice X7 (gr (bO i)).length c7].getD j undef):=av.rd 0 O;have dW:=av.below;replace h3:=Rd.below h3 dW;replace h4:=Rd.below h4 dW;replace hC:=hC.aq dW;replace jh:=jh.aq dW;replace hs:=(hs.call av).none;refine ar O (aD h4 O (ao.ld (v:= .string (bO i)) h4 O hi O O O (aL (amV (bO i) _) O ?_)));rw [eX,eK];intro v wa hA;obtain⟨X9,c9,rs9,rfl,n3,Us,av⟩:=QR hA;clear hA;have dW:=av.below;replace h3:=Rd.below h3 dW;replace h4:=Rd.below h4 dW;replace hC:=hC.aq dW;replace jh:=jh.aq dW;replace kb:=Rd.below kb dW;replace hs:=(hs.call av).none;refine ar O (ib (St.refl _) O ?_);intro B9 wb av;refine b5 1 0 av O O O O O O O ?_;clear av;intro wc av;have DY:Rd wc B9 1 (fun j=> [Value.slice X9 (gr (bO i)).length c9].getD j undef):=av.rd 0 O;have dW:=av.below;replace h3:=Rd.below h3 dW;replace h4:=Rd.below h4 dW;replace hC:=hC.aq dW;replace jh:=jh.aq dW;replace kb:=Rd.below kb dW;replace n3:=n3.aq dW;replace hs:=(hs.call av).none;obtain⟨NN,hF⟩:=aj7 i hi;have afu:=akc i hi;have Ns:=aj8 i hi;have tY:=hF.qv;have ve:=tY.1;generalize hXX:gr (bO i)=X at*;generalize qP:gl CK i=cs at*;refine ar O (dI 79 O (fun h=>absurd O h) (fun _=>?_));refine aw O (ar O (aw O (ar O ?_)));refine dI 83 O (fun h=>absurd O h) (fun _=>?_);refine aw O (ao.cN 0 kb O O O (aw O (ao.cN 0 DY O O O (aw O ?_))));refine aL (aiS X7 _ c7 EW X X9 _ c9 rs9 X _ jh n3 am (fun x hx=>by have h1:=tY.2.1;have h2:=(tY.2.2.1 x hx).1;omega)) O ?_;rintro _ w8 ⟨rfl,av⟩;rw [dz rfl];have dW:=av.below;replace h3:=Rd.below h3 dW;replace h4:=Rd.below h4 dW;replace hC:=hC.aq dW;replace jh:=jh.aq dW;replace kb:=Rd.below kb dW;replace n3:=n3.aq dW;replace DY:=Rd.below DY dW;replace hs:=(hs.call av).none;refine aw O ?_
 first | refine fv rfl rfl ?_ | refine gz rfl rfl ?_
 refine aC O (Cd.fg O ?_);clear DY n3 h3 h4;refine aA O (ao.cN 0 kb O O O (aL (ahj X7 _ c7 EW X _ jh xm.1 xm.2 tY) O ?_));rintro _ wd ⟨cG,gO,rfl,av⟩;rw [hF.nT]at av;have u5:=av.bz 0 O;have dW:=av.below;replace hC:=hC.aq dW;replace jh:=jh.aq dW;replace kb:=Rd.below kb dW;replace hs:=(hs.call av).none;refine ar O (ao.cN 0 kb O O O (aL (ZA X7 _ c7 EW X _ jh tY xm.1 xm.2) O ?_));rintro _ wd ⟨rfl,av⟩;rw [<-hF.num,hF.reg];have dW:=av.below;replace hC:=hC.aq dW;replace jh:=jh.aq dW;replace kb:=Rd.below kb dW;replace u5:=u5.aq dW;replace hs:=(hs.call av).none;refine ar O (ao.cN 0 kb O O O (aL (Zy X7 _ c7 EW X NN _ jh tY xm.1 xm.2 hF.num) O ?_));rintro _ wd ⟨bc,rfl,yz,av⟩;have yz:bc=decide (i=9):=by have:=yz.trans hF.chi;cases bc<;>cases hd:decide (i=9)<;>simp_all
 subst yz;have dW:=av.below;replace hC:=hC.aq dW;replace jh:=jh.aq dW;replace kb:=Rd.below kb dW;replace u5:=u5.aq dW;replace hs:=(hs.call av).none;obtain⟨fuel,ko⟩:=hF.zK;refine ar O (ao.cN 0 kb O O O (aL (Zz X7 _ c7 EW X NN _ _ fuel jh tY xm.1 xm.2 hF.num ko) O ?_));rintro _ wd ⟨rfl,av⟩;have dW:=av.below;replace hC:=hC.aq dW;replace jh:=jh.aq dW;replace kb:=Rd.below kb dW;replace u5:=u5.aq dW;replace hs:=(hs.call av).none;refine ar O (ao.cN 0 kb O O O ?_);refine aL (Zr X7 _ c7 EW X _ jh tY xm.1 xm.2 (by rw [hF.nT];exact Ns)) O ?_;rintro _ wd ⟨rfl,av⟩;rw [hF.nT,afu];have dW:=av.below;replace hC:=hC.aq dW;replace jh:=jh.aq dW;replace kb:=Rd.below kb dW;replace u5:=u5.aq dW;replace hs:=(hs.call av).none;refine ar O (dI 116 O (fun h=>absurd O h) (fun _=>?_));refine aw O (ar O (aw O (ar O ?_)));refine dI 120 O (fun h=>absurd O h) (fun _=>?_);refine aw O (ar O (aw O (ar O ?_)));refine dI 124 O (fun h=>absurd O h) (fun _=>?_);refine aw O (ar O (aw O (ar O ?_)));refine dI 128 O (fun h=>absurd O h) (fun _=>?_);refine aw O (ar O (aw O (ar O ?_)));refine dI 132 O (fun h=>absurd O h) (fun _=>?_);have bS:=hC.at_ (i:=(i:Int)) am am;rw [qP]at bS;refine aw O (ar O (aw O (ar O (aw O (ar O (aw O ?_))))));refine aD hC.top.2 O (aw O (b9 hC.top O (aw O (aL (WD cG _ gO cs _ _ _ cs _ u5 bS am) O ?_))));rintro _ we ⟨rfl,av⟩;rw [dz rfl];replace hs:=(hs.call av).none;refine aw O ?_
 first | refine fv rfl rfl ?_ | refine gz rfl rfl ?_
 refine aC O (Cd.fg O ?_);have e9:decide (i≠9)=decide (¬(i:Int)=9):=ju.2 am;have f9:decide (i=9)=decide ((i:Int)=9):=ju.2 am;obtain⟨v1,v0,v2⟩:=ajO i hi;refine aA O (dI 143 O (fun k=>?_) (fun k=>?_))
 ·refine aw O (ar O (aw O (ar O ?_)));refine HP O O O (ar O ?_);refine dI 151 O (fun h=>absurd e9 h) (fun _=>?_);refine aw O (ar O (aw O (ar O (aw O (ar O (aw O ?_))))));refine HP O O O (ar O ?_);refine dI 157 O (fun h=>absurd f9 h) (fun _=>?_);refine aw O (ar O (aw O (ar O (aw O ?_))));refine Rc O O O (aC O ?_);refine qC O (fun h=>by have:=ju.1 h;omega) ?_;refine dA O (aM _ O (fun k0=>?_) (fun k0=>?_))
  ·refine dM O (dq O ?_);exact⟨aE Value.bool (dz (v1 am)),hs⟩
  refine aA O (dI 167 O (fun k1=>?_) (fun k1=>?_))
  ·refine aK O (aK O (ar O (aK O (aK O (aC O ?_)))));refine Cd.gu O (dM O (dq O ?_));exact⟨aE Value.bool (dz (v0 am)),hs⟩
  refine aw O (ar O (aw O (ar O ?_)));refine dI 171 O (fun k2=>?_) (fun k2=>?_)
  ·refine aK O (aK O (aC O ?_));refine Cd.gu O (dM O (dq O ?_));exact⟨aE Value.bool (dz (v0 am)),hs⟩
  refine aw O (ar O (aw O (aC O ?_)));refine aM _ O (fun k3=>?_) (fun k3=>?_)
  ·refine dM O (dq O ?_);exact⟨aE Value.bool (dz (v0 am)),hs⟩
  refine dM O (dq O ?_);exact⟨aE Value.bool (dz (v2 am am)),hs⟩
 refine aK O (aK O (ar O ?_));refine HP O O O (ar O ?_);refine dI 151 O (fun h=>absurd e9 h) (fun _=>?_);refine aw O (ar O (aw O (ar O (aw O (ar O (aw O ?_))))));refine HP O O O (ar O ?_);refine dI 157 O (fun h=>absurd f9 h) (fun _=>?_);refine aw O (ar O (aw O (ar O (aw O ?_))));refine Rc O O O (aC O ?_);refine qC O (fun h=>by have:=of_decide_eq_false h;omega) ?_;refine dA O (Cd.fg O (aA O ?_));refine dI 167 O (fun k1=>?_) (fun k1=>?_)
 ·refine aK O (aK O (ar O (aK O (aK O (aC O ?_)))));refine Cd.gu O (dM O (dq O ?_));exact⟨aE Value.bool (dz (v0 am)),hs⟩
 refine aw O (ar O (aw O (ar O ?_)));refine dI 171 O (fun k2=>?_) (fun k2=>?_)
 ·refine aK O (aK O (aC O ?_));refine Cd.gu O (dM O (dq O ?_));exact⟨aE Value.bool (dz (v0 am)),hs⟩
 refine aw O (ar O (aw O (aC O ?_)));refine aM _ O (fun k3=>?_) (fun k3=>?_)
 ·refine dM O (dq O ?_);exact⟨aE Value.bool (dz (v0 am)),hs⟩
 refine dM O (dq O ?_);exact⟨aE Value.bool (dz (v2 am am)),hs⟩
end
section
open Go.RowKit Go.ChangeShapes Go.WideShapes
theorem laid:laidOutB prog=true:=by kernel_rfl
theorem own:ownKnob prog.godebug=none:=by kernel_rfl
section
variable {H:Type} {enc:ae×ad->H} {P:Program}
theorem YG(hl:laidOutB P=true){W W':aa}(hb:Below W.heap.size W W'){sp:Nat->Bool}:∀ {ts:List ae} {vs:List ad} {ds:List (DataW H)} {ps:List MemPlace},(ts.all fun t=>P.readableRec t && Nat.blt t P.types.size)=true->(∀p∈ps,p.block<W.heap.size)->(∀p∈ps,sp p.block=true)->
 DataW.TrodAll enc P W 0 (fun _=>true) true ts vs ds ps->DataW.TrodAll enc P W' 0 sp true ts vs ds ps
 | [],[],[],_,_,_,_,h=>h
 | t::ts,v::vs,d::ds,ps,hr,fG,xz,h=>by
  obtain⟨p,q,h1,h2,rfl⟩:=h;simp only [List.all_cons,Bool.and_eq_true]at hr;exact⟨p,q,WideElems.Trod_stays hl hr.1.1 (by simpa [Nat.blt_eq]using hr.1.2) h1 (fun x hx=>hb.same (fG x (by simp [hx]))) (fun x hx=>xz x (by simp [hx])),YG hl hb hr.2 (fun x hx=>fG x (by simp [hx])) (fun x hx=>xz x (by simp [hx])) h2,O⟩
 | [],[],_::_,_,_,_,_,h=>h.elim
 | [],_::_,_,_,_,_,_,h=>by cases h
 | _::_,[],_,_,_,_,_,h=>by cases h
 | _::_,_::_,[],_,_,_,_,h=>by cases h
end
section
variable {H:Type} {enc:ae×ad->H} {P:Program}
end
section
variable{W W' w:aa}
variable {H:Type} {enc:ae×ad->H} {P:Program}
theorem aoh{B g:Nat}{n:String}{cs:Array ad}(h:Go.RowKit.Below B W W')(hg:P.globalNamed n=some g)(hgB:g<B)(hv:W.var? P n=some cs):W'.var? P n=some cs:=by
 unfold World.var? at hv|-;simp only [hg,Option.bind_some]at hv|-;rw [h.block g hgB];exact hv
theorem aoi{g:Nat}{n:String}{cs:Array ad}(hg:P.globalNamed n=some g)(hv:W.var? P n=some cs):g<W.heap.size:=by
 unfold World.var? at hv;simp only [hg,Option.bind_some]at hv;rcases Nat.lt_or_ge g W.heap.size with h | h
 ·exact h
 rw [Array.getElem?_eq_none h]at hv;simp at hv
theorem abo{base:Nat}{sp:Nat->Bool}{held:Bool}{fuel:Nat}{t e:ae}{n:Nat}{cs:List ad}{zs:List ByteArray}{p:List MemPlace}
 (ht:P.underlying t=some (.array n e)) (he:P.underlying e=some .string) (xn:P.cellsOf e=1) (hct:P.cellsOf t=n)
 (h:DataW.trod enc P w base sp held fuel t cs=some (.agg (zs.map fun z=> .lit (.string z.data.toList)),p)):cs=zs.map Value.string:=by
 cases fuel with
 | zero=>simp [DataW.trod]at h
 | succ fuel=>
  simp only [DataW.trod,ht,xn,hct,Nat.mul_one]at h
  split at h
  ·rename_i hl;obtain⟨xs,hm,hx⟩:=Option.map_eq_some_iff.1 h;have OC:xs.map (·.1)=zs.map fun z=> (DataW.lit (.string z.data.toList):DataW H):=by
    have:=aE Prod.fst hx;simpa using this
   have iU:xs.length=n:=by simpa using Lib.mapM_length hm
   have xD:zs.length=n:=by
    have:=aE List.length OC;simp at this;omega
   apply List.ext_getElem?;intro i
   by_cases hi:i<n
   ·obtain⟨b,hb,hf⟩:=Lib.mapM_at hm i i (by simp [hi]);obtain⟨z,hc,rfl,_⟩:=DataW.trod_string he hf;have h1:cs[i]?=some (.string z):=by
     have:=aE (·[0]?) hc;simpa [rz,List.getElem?_drop]using this
    have h2:(xs.map (·.1))[i]?=some (DataW.lit (.string z.data.toList):DataW H):=by simp [hb]
    rw [OC]at h2;simp only [List.getElem?_map,Option.map_eq_some_iff,DataW.lit.injEq,Lit.string.injEq]at h2;obtain⟨z',Ke,qQ⟩:=h2;have:z'=z:=ByteArray.ext (Array.ext' qQ);subst this;simp [h1,Ke]
   ·rw [me (by omega),me (by simp;omega)]
  ·cases h
theorem alm{f:Func}{s:ChangeSpec}{apart:Bool}{args:Array ad}{ds gs:List (DataW H)}{before:List MemPlace}{nm:String}{g0:Nat}{t0:ae}(hl:laidOutB P=true){b:ae}(hu:P.underlying b=some .bool)(Vx:f.resultTypes= #[b])(hv:s.vars=[nm])
 (hr:(f.params.toList.all fun t=>P.readableRec t && Nat.blt t P.types.size)=true) (JD:P.globalNamed nm=some g0) (ht0:(P.globals[g0]?).map (·.type)=some t0) (og:P.readableRec t0=true) (wh:t0<P.types.size)
 (kW:(s.fn H (ds++gs)).results=[.lit (.bool true)]/\(s.fn H (ds++gs)).args=ds/\(s.fn H (ds++gs)).vars=gs)
 (hW:DataW.Whole enc P f.params.toList s.vars apart W args.toList ds gs before) (hb:Below W.heap.size W W'):s.post enc P f apart true false false W args (.bool true) W':=by
 have fG:∀x∈before,x.block<W.heap.size:=fun x hx=>hW.lt x hx
 have hW0:=hW;obtain⟨p,q,hA,hV,rfl,hz,hn⟩:=hW;have Va:∀x∈p,x.block<W.heap.size:=fun x hx=>fG x (by simp [hx])
 have An:∀x∈q,x.block<W.heap.size:=fun x hx=>fG x (by simp [hx])
 have I1:∀sp:Nat->Bool,(∀x∈p,sp x.block=true)->DataW.TrodAll enc P W' 0 sp true f.params.toList args.toList (s.fn H (ds++gs)).args p:=fun sp xz=>by
  rw [kW.2.1];exact YG hl hb hr Va xz hA
 have zW:∀(b0:Nat) (sp:Nat->Bool) (hd:Bool),DataW.TrodAll enc P W' b0 sp hd f.resultTypes.toList ((Value.bool true).resultList f.resultTypes.size) (s.fn H (ds++gs)).results []:=fun b0 sp hd=>by
  rw [kW.1,Vx];exact trodAll_cons_mk (shut_bool hu _) trodAll_mk0
 have Ua:∀sp:Nat->Bool,(∀x∈q,sp x.block=true)->DataW.TrodVars enc P W' sp s.vars (s.fn H (ds++gs)).vars q:=fun sp xz=>by
  rw [kW.2.2];rw [hv]at hV|-;obtain⟨g,t,cs,fuel,d,p1,rfl,h1,h2,h3,h4,rfl⟩:=trodVars_one hV;obtain rfl:g0=g:=dG (JD.symm.trans h1);obtain rfl:t0=t:=dG (ht0.symm.trans h2);have h5:DataW.Trod enc P W 0 (fun _=>true) true t0 (.agg cs) d p1:=⟨fuel,h4⟩;obtain⟨fuel',h6⟩:=WideElems.Trod_stays hl og wh h5 (fun x hx=>hb.same (An x (by simp [hx]))) (sp':=sp) (fun x hx=>xz x (by simp [hx]));exact trodVars_mk1 h1 h2 (aoh hb.toBelow h1 (aoi h1 h3) h3) h6
 refine⟨ds,gs,p++q,[],p,q,hW0,zW _ _ _,I1 _ (fun x hx=>by simpa using Va x hx),Ua _ (fun x hx=>by simpa using An x hx),World.keptBut_mono (fun x hx=> ⟨hx,by simpa using hx⟩) (hb.frame (· ∈p++q)),fun _=> ⟨fun j t r h1 h2=>?_,_,_,([]++p)++q,⟨[]++p,q,trodAll_append (I1 _ fun _ _=>O) (zW _ _ _),Ua _ (fun _ _=>O),O,fun c off hc=>?_,fun ha=>by simpa using hn ha⟩,fun x hx _=>by simpa using hx⟩⟩
 ·rw [Vx]at h1 h2;cases j with
  | zero=>
   simp at h1;subst h1;simp [Value.resultList]at h2;subst h2;exact okWide_bool_mk hu _
  | succ j=>simp at h1
 ·have cI:MemPlace.cell c off∈p++q:=by simpa using hc
  rw [hb.frozen (fG _ cI)];exact hz c off cI
end
theorem gN : prog.globalNamed "loop.example/g01108/impl.polytopeNames" = some 0 := by kernel_rfl
theorem W6:(prog.globals[0]?).map (·.type)=some 68:=by kernel_rfl
theorem cnm:prog.cellsOf 68=12:=by kernel_rfl
theorem cst:prog.cellsOf 9=1:=by kernel_rfl
set_option maxRecDepth 10000 in
theorem akr{W : aa}{rest : List (String × DataW Unit)}(h : laidMet prog (("loop.example/g01108/impl.polytopeNames", .agg (o9.map fun z => .lit (.string z.data.toList))) :: rest) W): zC W := by
 obtain⟨ps,⟨g',t',cs,fuel,p,q,od,pL,agY,hd,_,_⟩,_⟩:=h;obtain rfl:=dG (gN.symm.trans od);obtain rfl:=dG (W6.symm.trans pL);have qP:=abo underlying68 underlying9 cst cnm hd;intro j hj;refine⟨⟨0,j,none⟩,by show some (Addr.add _ j)=_;simp [Addr.add];(try omega),?_⟩;have h1:=World.var?_cell gN agY j;rw [h1,<-Array.getElem?_toList,qP];have gW:j<o9.length:=hj;simp [vx,bO,dm,fq gW]
section
variable {H:Type} {enc:ae×ad->H} {P:Program}
theorem akB{w:aa}{r:Go.Reach}{b0:Nat}{t e:ae}{v:ad}{d:DataW H}{p:List MemPlace}(ht:P.underlying t=some (.slice e))(he:P.underlying e=some (.int .u8))(ce:P.cellsOf e=1)(qX:Value.okWide P w r b0 t v)(h:DataW.Trod enc P w 0 (fun _=>true) true t v d p):∃A n c bs,v= .slice A n c/\vK w A n bs/\n<=c/\c<=9223372036854775807:=by
 obtain⟨a,len,cap,rfl⟩:=okWide_slice ht qX;obtain⟨fuel,hf⟩:=h;have qP:(Value.slice a len cap).cells.toList=[Value.slice a len cap]:=O;rw [qP]at hf;rcases open_ints ht he ce hf with⟨h1,_⟩ | ⟨b,n,c,zs,h1,_,hl,hm,hz,_,hc,hwz⟩
 ·simp only [List.cons.injEq,and_true]at h1;exact⟨none,0,0,[],h1,⟨O,fun x hx=> (nomatch hx),fun k hk=>absurd hk (oF _)⟩,br _,am⟩
 simp only [List.cons.injEq,and_true]at h1;rw [aB rfl]at hz;refine⟨some b,n,c,zs.take n,h1,⟨?_,fun x hx=>?_,fun k hk=>?_⟩,hl,by simpa [maxLen]using hm⟩
 ·simp;omega
 ·have:=hwz x (List.mem_of_mem_take hx);simpa [Lit.wf,IntKind.min,IntKind.max,IntKind.signed,IntKind.bits]using this
 refine⟨b.add k,O,?_⟩;rw [hc k (by omega)];simp [dm,rz,hk]
end
end
end Go.Proofs.YtkccgdhcpplblaaGreatDoor.Vc
