/-
 Lemmas. Conditions: as each states them.
-/
import Derived.Test.YtkccgdhcpplblaaGreatDoorLaye
import Derived.Shelf.SlicesE.Reverse
import Derived.Test.YtkccgdhcpplblaaGreatDoorZl
import Derived.Maps.Keyed
import Derived.DeepKeys4
import Derived.Maps.RangeRun
set_option maxHeartbeats 8000000
namespace Go.Proofs.YtkccgdhcpplblaaGreatDoor.Vc
open Tryz
section
open Go.RowKit
end
section
open Go.RowKit Go.Sort
variable{i:Nat}
theorem aam{w0 w:aa}{ks:List Ck}(i:Nat){t:ae}{A:aj}{n c:Nat}{xs:List aO}(hS:St w0 w ks)(hk:ks[i]?=some (cg t A n c xs))(h0:0<n)(hn:n<=1000000000):
 aJ prog 155 [.slice A n c] w (fun v w'=>v= .tuple #[]/\St w0 w' (ks.set i (cg t A n c xs.reverse))):=by
 obtain⟨h1,h2,h3,h4⟩:=hS.qh hk (yX _);have hl:xs.length=n:=(hS.fQ i hk).1;have h2:n<=c:=h2;have h3:c<=maxLen:=h3;rcases h4 with⟨_,kV⟩ | ⟨g,o,cur,hA,hg,hh,hs,hc⟩
 ·have kV:c=0:=kV;omega
 have hA:A=some ⟨g,o,none⟩:=hA;have hs:o+c<=cur.size:=hs;have hc:∀j,j<n->cur[o+j]?=(xs.map aO.v)[j]?:=hc;subst hA;subst hl;have key:=AnyE.slices_Reverse ai2 aO.v (fun _=>O) g o c xs w (Oa hh hc) am;refine Calls.mono key fun x w' ⟨hx,q,hw⟩=> ⟨_,hx,O,?_⟩
 subst hw;have h:=hS.laid (q:=q) (m:=xs.length) (enc:=aO.v) (ds:=xs.reverse) hk O hg hh hs (by simp) (by simp;omega) h3;rw [iY (by simp)]at h;exact h
theorem My{α:Type}{l:List α}{d:α}{n:Nat}(hl:l.length=n)(hi:i<n):l.reverse.getD i d=l.getD (n - 1 - i) d:=by
 subst hl;rw [dm,dm,List.getElem?_reverse hi]
theorem bF.rev{w:aa}{A B:aj}{n:Nat}{rs:List aO}{xss:ah}(h:bF w A n rs xss)(ht:mT w B n rs.reverse):bF w B n rs.reverse xss.reverse:=
 ⟨ht,by rw [List.length_reverse];exact h.len,fun i hi=>by rw [My h.top.1 hi,My h.len hi];exact h.row _ am,fun i hi=>by rw [My h.top.1 hi];exact h.cap _ am⟩
theorem L3(A:aj)(n c:Nat)(rs:List aO)(xss:ah)(N:Nat)(w:aa)(hR:bF w A n rs xss)(hM:bI xss)(hN:N=(gl xss 0).length):
 aJ prog 85 [.agg #[.slice A n c]] w (fun v w'=>∃A' c' rs',v= .agg #[.slice A' n c']/\rs'.length=n/\St w w' (aS 34 2 A' n c' rs' (ew N xss.reverse 0))):=by
 have hn:=hM.1;have qj:=hM.2.1;have iU:=hR.len;refine bC func85 O ntmps85 O (re O O) (bh O (jH (St.refl w) O O ?_));intro Ab w1 aH;refine ib aH O fun Ac w2 aF=>ar O (aV (aF.rd 1 O) O (bj (aF.rd 1 O) O (aL (QV A n c rs _ (aF.b7 hR).top am am) O ?_)));rintro _ w3 ⟨A6,c6,rfl,av⟩;have aQ:=aF.call av;refine ar O (aL (aam 0 aQ O am am) O ?_);rintro _ w4 ⟨rfl,aX⟩;have aX:St w w4 [cg 34 A6 n c6 rs.reverse,Bx 24 1 Ac [.slice none 0 0],Bx 24 1 Ab [.slice A n c]]:=aX;have Gb:=(aX.b7 hR).rev (aX.fQ 0 O);refine ar O ?_;refine aL (acX A6 n c6 rs.reverse xss.reverse N 0 _ Gb (XR hM) (by rw [PY hM,hN]) am am) O ?_;rintro _ w5 ⟨A',c',rs',rfl,cn,oh⟩;have ba:St w w5 ([Bx 24 1 Ac [.slice none 0 0],Bx 24 1 Ab [.slice A n c]]++aS 34 2 A' n c' rs' (ew N xss.reverse 0)):=(aX.tail.call oh).perm nL;refine b5 1 0 ba O O O O O O O fun w6 bo=>bH O (iA O (bo.rd 0 O) ?_);exact⟨A',c',rs',O,cn,(bo.sub ((lJ _).cons _)).sub ((lJ _).cons _)⟩
end
section
open Go.RowKit
theorem amf{o b mv:ai}{f:Nat}(h:f<o.length):(kf o b mv).take (f+1)=(kf o b mv).take f++ [gi b (gi mv (gi o f))]:=by
 rw [nM (by simpa [kf]using h)];simp [kf,bV h]
theorem ain(A:aj)(n c:Nat)(rs:List aO)(Y:ah)(N:Nat)(w:aa)(hR:bF w A n rs Y)(hM:bI Y)(hN:(gl Y 0).length=N)(mG:n<=c):
 aJ prog 241 [.agg #[.slice A n c],ak 0,ak 0,ak ((n:Int) - 1)] w (fun v w'=>∃(A':aj) (c':Nat) (rs':List aO),v= .agg #[.slice A' n c']/\rs'.length=n/\St w w' (aS 34 2 A' n c' rs' (ew N Y 0))):=by
 subst hN;have F9:=hM.CT (f:=0) am (by have:=hM.2.1;omega);have hs:=hM.2.2.1.sys;have h5:=hM.1;have I0:=hM.2.1;have Jm:=hR.len;generalize TY:(gl Y 0).length=N at*;obtain⟨o,ho⟩:∃o,o=cC N Y 0:=⟨_,rfl⟩;rw [<-ho]at F9;have Es:o.length=N:=F9.len;have hX:ew N Y 0=Y.map (kf o (je N o)):=by unfold ew;rw [<-ho]
 obtain⟨X,Nj⟩:∃X,X=Y.map (kf o (je N o)):=⟨_,rfl⟩;rw [hX,<-Nj];have Ge:X.length=n:=by rw [Nj,fS,Jm]
 have Ud:∀i:Nat,i<n->X.take (i+1)=X.take i++ [kf o (je N o) (gl Y i)]:=fun i hi=>by
  rw [nM (by omega)]
  congr 2
  simp only [Nj,List.getElem_map];rw [bR (by omega)]
 have MV:∀w',bF w' A n rs Y->aJ prog 179 [.agg #[.slice A n c]] w' (fun v Hx=>v=ak N/\St w' Hx []):=fun w' h=>by
  have:=Km A n c rs Y w' h am
  rwa [TY]at this
 have e1:Value.slice (cutAt A c (0:Int).toNat) (((n:Int) - 1+1).toNat - (0:Int).toNat) (c - (0:Int).toNat)= .slice A n c:=by
  have:cutAt A c 0=A:=by unfold cutAt;split;rfl;exact jz _
  show Value.slice (cutAt A c 0) (((n:Int) - 1+1).toNat - 0) (c - 0)=_;rw [this,show((n:Int) - 1+1).toNat - 0=n by omega,Nat.sub_zero]
 refine bC func241 O ntmps241 O (re O O) (bh O (jH (St.refl w) O O ?_));intro A4 w1 hS;refine ib hS O ?_;clear hS;intro A8 w2 hS;refine ar O (aV (hS.rd 1 O) O (bj (hS.rd 1 O) O ?_));refine ar O (aI O ?_);refine ZT O O O O am ?_;rw [e1];refine ar O (aL (OR A n c rs Y N 0 _ (hS.b7 hR) am hs am am am) O ?_);rintro _ w3 ⟨bN,dC,rfl,av⟩;rw [<-ho]at av|-;rw [Es]at av|-;replace hS:=hS.call av;refine ar O (ao.cN 0 (hS.rd 2 O) O O O (aL (MV _ (hS.b7 hR)) O ?_));rintro _ w4 ⟨rfl,rW⟩;replace hS:=hS.aq rW.below;refine x4 N hS O O am ?_;clear hS;intro cG w5 hS;refine aC O (Cd.loop (α:=Nat) (fun k=> [(4,.pointer A4),(8,.pointer A8),(9,.slice A n c),(10,.slice bN N dC),(11,.slice cG N N),(12,ak k)]) (fun k w'=>k<=N/\St w w' [ax 2 cG N N (xN (List.replicate N 0) (fun k=>gi o k) (fun k=> (k:Int)) k),ax 2 bN N dC o,Bx 24 1 A8 [.slice none 0 0],Bx 24 1 A4 [.slice A n c]]) (fun k=>N - k) 0 (aqv O) ⟨bg _,hS⟩ ?_);clear hS;rintro k e w6 ⟨hk,hS⟩;refine bh O (a8 O O (aC O ?_));refine aM _ O (fun h1=>?_) (fun h1=>?_)
 ·have hpk:=F9.eE (k:=k) am;refine aA O (aD (hS.bz 1 O).2 O (aY (hS.bz 1 O) O (ar O (aD (hS.bz 0 O).2 O (kN 0 hS O O O am ?_)))));intro w7 bK;refine ar O (aI O (aT O (tQ ?_)));exact⟨k+1,by show N - (k+1)<N - k;omega,⟨O,O,O,O,O,aE (Value.int .i64) am,au⟩,am,bK⟩
 obtain rfl:k=N:=by omega
 have tZ:xN (List.replicate k 0) (fun k=>gi o k) (fun k=> (k:Int)) k=je k o:=by unfold je;rw [Es]
 rw [tZ]at hS;have Jt:∀x:Int,0<=x->x<k->0<=gi (je k o) x/\gi (je k o) x<k:=fun x h0 h1=>by
  obtain⟨y,hy,_,hb⟩:=F9.x6 h0 h1;omega
 have nA:(je k o).length=k:=RG _ _;obtain⟨b,dW⟩:∃b,b=je k o:=⟨_,rfl⟩;rw [<-dW]at hS Jt nA Ud;refine bp O (bt (cS O ?_));refine wR (by exact inferInstance) O (ib hS O ?_);clear hS;intro oy w7 hS;refine b5 1 0 hS O O O O O O O ?_;clear hS;intro w8 hS;replace hS:St w w8 ([Bx 24 1 oy [.slice none 0 0],ax 2 cG k k b,ax 2 bN k dC o,Bx 24 1 A8 [.slice none 0 0]]++aS 34 2 none 0 0 [] (X.take 0)):=by
  have kU:St w w8 [Bx 24 1 oy [.slice none 0 0],ax 2 cG k k b,ax 2 bN k dC o,Bx 24 1 A8 [.slice none 0 0]]:=hS.sub (((((List.nil_sublist [Bx 24 1 A4 [.slice A n c]]).cons_cons _).cons_cons _).cons_cons _).cons_cons _);exact(kU.nil 34).perm (nL (l₁:=[_]) (l₂:=[_,_,_,_]))
 refine aC O (Cd.loop (α:=Nat×(aj×Nat)×List aO) (fun z=> [(8,.pointer A8),(9,.slice A n c),(10,.slice bN k dC),(11,.slice cG k k),(13,.pointer oy),(14,ak (z.1:Int))]) (fun z w'=>z.1<=n/\z.2.2.length=z.1/\St w w' ([Bx 24 1 oy [.slice z.2.1.1 z.1 z.2.1.2],ax 2 cG k k b,ax 2 bN k dC o,Bx 24 1 A8 [.slice none 0 0]]++aS 34 2 z.2.1.1 z.1 z.2.1.2 z.2.2 (X.take z.1))) (fun z=>n - z.1) (0,(none,0),[]) (aqv O) ⟨bg _,O,hS⟩ ?_);clear hS;rintro⟨j,⟨AX,cX⟩,rX⟩ e w9 ⟨hj,qW,hS⟩;dsimp only at hj qW hS|-;refine bh O (a8 O O (aC O ?_));refine aM _ O (fun h2=>?_) (fun h2=>?_)
 ·have gW:j<n:=by omega
  have vg:=hs (gl Y j) (oQ am am);refine aA O (jr hS O ?_);clear hS;intro tE dY hS;refine aC O (Cd.loop (α:=Nat×(aj×Nat)) (fun z=> [(8,.pointer A8),(9,.slice A n c),(10,.slice bN k dC),(11,.slice cG k k),(13,.pointer oy),(14,ak j),(15,.slice z.2.1 z.1 z.2.2),(16,ak (z.1:Int))]) (fun z w'=>z.1<=k/\St w w' (ax 2 z.2.1 z.1 z.2.2 ((kf o b (gl Y j)).take z.1)::([Bx 24 1 oy [.slice AX j cX],ax 2 cG k k b,ax 2 bN k dC o,Bx 24 1 A8 [.slice none 0 0]]++aS 34 2 AX j cX rX (X.take j)))) (fun z=>k - z.1) (0,(tE,0)) (aqv O) ⟨bg _,hS⟩ ?_);clear hS;rintro⟨f,tE,zI⟩ e eF ⟨hf,hS⟩;dsimp only at hf hS|-;refine bh O (a8 O O (aC O ?_));refine aM _ O (fun h3=>?_) (fun h3=>?_)
  ·have iD:f<k:=by omega
   have vV:=hS.b7 hR;have bS:=vV.at_ (i:=(j:Int)) am am;have cn:=bS.1;have kY:=vg.1;have Vk:=F9.eE (k:=f) iD;have vf:=vg.2 _ Vk.1 Vk.2;have hbo:=Jt _ vf.1 vf.2;have hOr:cL eF bN k o:=hS.bz 3 O;have iQ:cL eF cG k b:=hS.bz 2 O;refine dA O ?_;refine kK [15] [yS (tE) (f) (zI),yS (cG) (k) (k),yS (A) (n) (c),yI ((j:Int)),yP (ay (A) ((j:Int)).toNat),yS ((rg (rs) ((j:Int))).a) ((rg (rs) ((j:Int))).n) ((rg (rs) ((j:Int))).c),yS (bN) (k) (dC),yI ((f:Int)),yP (ay (bN) ((f:Int)).toNat),yI (gi (o) ((f:Int))),yP (ay ((rg (rs) ((j:Int))).a) (gi (o) ((f:Int))).toNat),yI (gi (gl Y j) (gi (o) ((f:Int)))),yP (ay (cG) (gi (gl Y j) (gi (o) ((f:Int)))).toNat),yI (gi (b) (gi (gl Y j) (gi (o) ((f:Int))))),.pr (fun v w'=>∃A9,v= .slice A9 1 1/\St w w' (ax 2 A9 1 1 [gi b (gi (gl Y j) (gi o f))]::ax 2 tE f zI ((kf o b (gl Y j)).take f)::([Bx 24 1 oy [.slice AX j cX],ax 2 cG k k b,ax 2 bN k dC o,Bx 24 1 A8 [.slice none 0 0]]++aS 34 2 AX j cX rX (X.take j)))),.pr (fun v w'=>∃A9 c9,v= .slice A9 (f+1) c9/\St w w' (ax 2 A9 (f+1) c9 ((kf o b (gl Y j)).take (f+1))::([Bx 24 1 oy [.slice AX j cX],ax 2 cG k k b,ax 2 bN k dC o,Bx 24 1 A8 [.slice none 0 0]]++aS 34 2 AX j cX rX (X.take j)))),.pr (fun v w'=>∃A9 c9,v= .slice A9 (f+1) c9/\St w w' (ax 2 A9 (f+1) c9 ((kf o b (gl Y j)).take (f+1))::([Bx 24 1 oy [.slice AX j cX],ax 2 cG k k b,ax 2 bN k dC o,Bx 24 1 A8 [.slice none 0 0]]++aS 34 2 AX j cX rX (X.take j))))] (ly (ly (ly (ly (ly (ly (ly (ly (ly (ly (ly (ly (ly (ly (cH.2 ⟨Ye.cJ (fun v w w' h hb=>by obtain⟨A9,hv,h1⟩:=h;exact⟨A9,hv,h1.aq hb⟩),(cH.2 ⟨Ye.cJ (fun v w w' h hb=>by obtain⟨eu,fK,hv,h1⟩:=h;exact⟨eu,fK,hv,h1.aq hb⟩),(cH.2 ⟨Ye.cJ (fun v w w' h hb=>by obtain⟨eu,fK,hv,h1⟩:=h;exact⟨eu,fK,hv,h1.aq hb⟩),(fun _ h=>by cases h)⟩)⟩)⟩))))))))))))))) ?_ ?_
   ·refine⟨?_,bZ O,bZ O,bZ O,cP fun _ _ hb _ _ _=>aD (vV.top.aq hb).2 O (bG O O),cP fun _ _ hb _ _ _=>b9 (vV.top.aq hb) O (bG O O),bZ O,bZ O,cP fun _ _ hb _ _ _=>aD (hOr.aq hb).2 O (bG O O),cP fun _ _ hb _ _ _=>aY (hOr.aq hb) O (bG O O),cP fun _ _ hb _ _ _=>aD (bS.aq hb).2 O (bG O O),cP fun _ _ hb _ _ _=>aY (bS.aq hb) O (bG O O),cP fun _ _ hb _ _ _=>aD (iQ.aq hb).2 O (bG O O),cP fun _ _ hb _ _ _=>aY (iQ.aq hb) O (bG O O),?_,?_,?_,au⟩
    ·intro e1 w1 cc fo dv fL hp aU hq;show ao _ _ _ _ _ _ _;refine lM O (by exact aU 16 _ O (by kernel_rfl)) O (ao.n (iz O (by exact O)))
    ·refine cP fun e1 w1 hb hp aU hq=>?_
     exact eL (St.refl _) O O O fun A9 w9 jN=>ao.n (fM.dn O jN.below ⟨A9,O,(hS.aq hb).call jN⟩)
    ·refine kO fun e1 w1 hb hp aU hq=>?_
     obtain⟨A9,pM,h1⟩:=(hp 14 _ _ (by kernel_rfl) rfl rfl (by kernel_rfl));refine fu 1 h1 O (h1.bz 0 O) O (by exact pM) O ?_;intro eu fK QG Ca;refine ao.n ?_;exact gn.dn O ⟨eu,fK,O,by rw [amf (by omega)];exact Ca.tail⟩
    refine dP 1 fun e1 w1 hp aU hq=>?_
    have fh:=hp 15 _ _ (by kernel_rfl) O O (by kernel_rfl);obtain⟨eu,fK,pM,h1⟩:=(hp 15 _ _ (by kernel_rfl) rfl rfl (by kernel_rfl));refine lM O (by exact pM) O (ao.n ?_);exact fM.dn O (Below.refl _ _) ⟨eu,fK,O,h1⟩
   intro u fH _ hu _ _;obtain⟨B7,d7,Oz,hS⟩:=hu 16 _ rfl (by kernel_rfl);refine jD O (aI O (aT O (tQ ?_)));exact⟨(f+1,B7,d7),by show k - (f+1)<k - f;omega,⟨O,O,O,O,O,O,by exact Oz,aE (Value.int .i64) am,au⟩,by show f+1<=k;omega,hS⟩
  obtain rfl:f=k:=by omega
  rw [iY (by simp [kf];omega)]at hS;refine bp O (bt (cS O ?_));refine aV (hS.rd 1 O) O (bj (hS.rd 1 O) O (ar O (lp hS O O O ?_)));clear hS;intro A9 fH hS;refine lK 6 hS O (hS.fQ 0 O) O O O am am O ?_;clear hS;intro HA H8 gG hS;replace hS:=hS.tail;refine aV (hS.rd 1 O) O (ki 1 (j:=0) hS O O O O O ?_);clear hS;intro mO hS;replace hS:St w mO (ax 2 tE f zI (kf o b (gl Y j))::([Bx 24 1 oy [.slice HA (j+1) H8],ax 2 cG f f b,ax 2 bN f dC o,Bx 24 1 A8 [.slice none 0 0],cg 34 HA (j+1) H8 (rX++ [⟨tE,f,zI⟩])]++da 2 rX (X.take j))):=hS;refine ar O (aI O (aT O (tQ ?_)));refine⟨(j+1,(HA,H8),rX++ [⟨tE,f,zI⟩]),by show n - (j+1)<n - j;omega,⟨O,O,O,O,O,aE (Value.int .i64) am,au⟩,by show j+1<=n;omega,by show(rX++ [_]).length=j+1;rw [ck,qW];rfl,?_⟩;show St w mO (_++aS _ _ HA (j+1) H8 (rX++ [_]) (X.take (j+1)));rw [Ud j gW];unfold aS;rw [pZ (by rw [qW,ns];omega)];refine hS.perm ?_;exact nL (l₁:=[_]) (l₂:=_::_::_::_::_::da 2 rX (X.take j))
 obtain rfl:j=n:=by omega
 rw [iY (by omega)]at hS;refine bp O (bt (cS O ?_));refine ao.cN 0 (hS.rd 0 O) O O O (b5 1 3 hS O O O O O O O ?_);clear hS;intro dY hS;refine bH O (iA O (hS.rd 3 O) ?_);exact⟨AX,cX,rX,O,qW,hS.tail.tail.tail.tail⟩
end
section
end
section
open Go.RowKit
section
variable {P:Program} {N:Nat} {ops:Array Oper} {K:Env->aa->Prop} {rest:List Oper} {e:Env} {w0 w w':aa} {ks:List Ck} {d:Nat} {ty:ae} {pos:String} {af:Array Edge} {x y:ag} {xt yt:ae} {i j:Int}
theorem Q9{t el:ae}{b:Nat}[bA P t (.slice el)][bq P el (.slice none 0 0) 1 b]{x0 x1 x2:ag}{s0 s1 s2:aO}(hS:St w0 w ks)(h0:ev e x0=s0.v)(h1:ev e x1=s1.v)(h2:ev e x2=s2.v)(hb:Nat.blt d N=true)(hK:∀A w',St w0 w' (cg el A 3 3 [s0,s1,s2]::ks)->ao P N ops K rest (bn e d (.slice A 3 3)) w'):ao P N ops K (⟨some d,.buildSlice t 3 #[(0,x0),(1,x1),(2,x2)],ty,pos,af,none⟩::rest) e w:=by
 obtain⟨inf,hi,dX,hs,gR⟩:=bq.get P el;have e0:(s0.v).cells= #[s0.v]:=O;have e1:(s1.v).cells= #[s1.v]:=O;have e2:(s2.v).cells= #[s2.v]:=O;have hz:(Value.slice none 0 0).cells= #[Value.slice none 0 0]:=O;refine .val (w':=w.alloc (.cells #[s0.v,s1.v,s2.v] el)) ?_ hb (hK _ _ (hS.alloc [s0.v,s1.v,s2.v] el (by simp [maxLen]) O));simp [execOp,Instr.buildSlice,run_underlying (bA.out (P:=P) (t:=t)),sizeOf,typeInfo,zeroValue,hi,hs,dX,hz,Instr.fill,newRow,h0,e0,h1,e1,h2,e2,Dy,jU]
end
theorem Xv{Q:jX}{e:Env}{w:aa}{F:List (Nat×ad)}(hM:Mt e F)(h:Q .normal (ext e F) w):Q .normal e w:=by rwa [zM hM]at h
structure aak(w0:aa)(A4 A7 AX:aj)(n cX:Nat)(rX:List aO)(X:ah)(bX:Bool)(S:Nat->Bool)(e:Env)(w:aa):Prop where
 f7:e 7= .pointer A7
 f4:e 4= .pointer A4
 p0:S 0=true->e 17= .agg #[.slice AX n cX]
 p1:S 1=true->e 18= .agg #[.slice AX n cX]
 p2:S 2=true->e 19= .bool bX
 p4:S 4=true->e 5= .bool bX
 mem:∃B2:ad,(S 3=true->B2= .slice AX n cX)/\St w0 w (Bx 24 1 A7 [.slice AX n cX]::Bx 24 1 A4 [B2]::aS 34 2 AX n cX rX X)
theorem aio(A:aj)(n c:Nat)(rs:List aO)(xss:ah)(F:Nat)(Aw:aj)(nw cw:Nat)(C2:List aO)(ws Y:ah)(w:aa)(hR:bF w A n rs xss)(hW:bF w Aw nw C2 ws)(hs:Sys F xss)(hn:0<n)(hF:(gl xss 0).length=F)(nY:F<=1000000)(GU:nw<=1000)
 (yT:∀i:Nat,i<nw->∀k:Nat,k< (gl ws i).length->0<=gi (gl ws i) k/\gi (gl ws i) k<n) (mJ:∀i:Nat,i<nw->(gl ws i).length<=9223372036854775807) (hY:ws.map (qK xss F)=Y) (hMY:bI Y) (hNY:(gl Y 0).length=F):
 aJ prog 185 [.agg #[.slice A n c],.slice Aw nw cw] w (fun v w'=>∃(A':aj) (c':Nat) (rs':List aO) (b:Bool),v= .tuple #[.agg #[.slice A' nw c'],.bool b]/\rs'.length=nw/\St w w' (aS 34 2 A' nw c' rs' (ew F Y 0))):=by
 have OA:=hW.len;have Jm:Y.length=nw:=by rw [<-hY,fS,OA]
 refine bC func185 O ntmps185 O (ur O O) (bh O (jH (St.refl w) O O ?_));intro A2 w1 hS;refine ib hS O ?_;clear hS;intro A4 w2 hS;refine ar O (ao.cN 0 (hS.rd 1 O) O O O (ar O (aL (aip A n c rs xss F Aw nw cw C2 ws _ (hS.b7 hR) (hS.b7 hW) hs hn hF nY GU yT mJ) O ?_)));rintro _ w3 ⟨AY,cY,rY,rfl,hrY,av⟩;rw [hY]at av;have hcY:nw<=cY:=(av.get (k:=cg 34 AY nw cY rY) (i:=0) O).cap.1;replace hS:=(hS.call av).perm (nL);refine Fm (by exact inferInstance) O O O O (ib hS O ?_);clear hS;intro A6 w4 hS;refine b5 1 0 hS O O O O O O O ?_;clear hS;intro w5 hS;replace hS:St w w5 (Bx 24 1 A6 [.slice AY nw cY]::Bx 24 1 A4 [.slice none 0 0]::Bx 24 1 A2 [.slice A n c]::aS 34 2 AY nw cY rY Y):=hS;have hRY:bF w5 AY nw rY Y:=St.jB (ks:=[]) (by rw [fI];exact hS.tail.tail.tail) Jm;refine ar O (ao.cN 0 (hS.rd 0 O) O O O ?_);refine ar O (a8 O O (dZ O ?_));refine aL (ain AY nw cY rY Y F _ hRY hMY hNY hcY) O ?_;rintro _ w6 ⟨AX,cX,rX,rfl,qW,Cy⟩;have kc:=IK F Y 0;generalize ew F Y 0=X at*;replace hS:=(hS.tail.sub (((List.nil_sublist _).cons_cons (Bx 24 1 A4 [.slice none 0 0])))).call2 Cy;refine ib hS O ?_;clear hS;intro A7 w7 hS;refine b5 1 0 hS O O O O O O O ?_;clear hS;intro w8 hS;replace hS:St w w8 (Bx 24 1 A7 [.slice AX nw cX]::Bx 24 1 A4 [.slice none 0 0]::aS 34 2 AX nw cX rX X):=hS;obtain⟨bX,hbX⟩:∃bX:Bool,bX=decide (bI X):=⟨_,rfl⟩;have Ge:X.length=nw:=by rw [kc,Jm]
 refine aC O (C9 (by kernel_rfl) (by kernel_rfl) (fun S e1 w1=>aak w A4 A7 AX nw cX rX X bX S e1 w1) (fun w4 hb=> ⟨O,O,fun h=> (nomatch h),fun h=> (nomatch h),fun h=> (nomatch h),fun h=> (nomatch h),.slice none 0 0,fun h=> (nomatch h),hS.aq hb⟩) ?_ ?_)
 ·intro S q o e1 w4 hq cV hd de hI;obtain⟨f7,f4,p0,p1,p2,p4,B2,m3,hT⟩:=hI
  match q,hq,cV with
  | 0,hq,cV=>
   obtain rfl:=dG hq;refine ao.cN 0 (hT.rd 0 O) (by exact f7) O O (ao.n ?_);exact⟨f7,f4,fun _=>O,p1,p2,p4,B2,m3,hT⟩
  | 1,hq,cV=>
   obtain rfl:=dG hq;refine ao.cN 0 (hT.rd 0 O) (by exact f7) O O (ao.n ?_);exact⟨f7,f4,p0,fun _=>O,p2,p4,B2,m3,hT⟩
  | 2,hq,cV=>
   obtain rfl:=dG hq;have km:bF w4 AX nw rX X:=St.jB (ks:=[]) (by rw [fI];exact hT.sub (((lJ _).cons _).cons _)) Ge;refine aqm (Wl AX nw cX rX X _ km am) O (by exact aE (fun v=> [v]) (p1 (eo hd 1 O))) O ?_;rintro _ w9 ⟨rfl,av⟩;have hT:=hT.aq av.below;refine ao.n ?_;exact⟨f7,f4,p0,p1,fun _=>by rw [hbX];rfl,p4,B2,m3,hT⟩
  | 3,hq,cV=>
   obtain rfl:=dG hq;refine b5 1 1 hT O (by exact f4) (by exact p0 (eo hd 0 O)) O O O O ?_;intro w9 hT;exact ao.n ⟨f7,f4,p0,p1,p2,p4,.slice AX nw cX,fun _=>O,hT⟩
  | 4,hq,cV=>
   obtain rfl:=dG hq;refine Rh O (by exact p2 (eo hd 2 O)) O (ao.n ?_);exact⟨f7,f4,p0,p1,p2,fun _=>O,B2,m3,hT⟩
  | q+5,hq,_=>exact(nomatch hq)
 ·intro S e1 w4 dt hI;obtain⟨f7,f4,p0,p1,p2,p4,B2,m3,hT⟩:=hI;obtain rfl:=m3 (dt 3 an);refine Xv (F:=[(4,.pointer A4),(5,.bool bX)]) ⟨f4,p4 (dt 4 an),au⟩ (zz O (kG O (hT.rd 1 O) O ?_));exact⟨AX,cX,rX,bX,O,qW,hT.tail.tail⟩
def oO(n q:Nat):ah:=(List.range q).map fun t:Nat=> [(n:Int) - 1 - (t:Int)]
theorem acr(n q:Nat):oO n (q+1)=oO n q++ [[(n:Int) - 1 - (q:Int)]]:=by simp [oO,jU]
theorem It(n q:Nat):(oO n q).length=q:=by simp [oO]
theorem Sx{n q i:Nat}(h:i<q):gl (oO n q) i=[(n:Int) - 1 - (i:Int)]:=by rw [bR (by rw [It];exact h)];simp [oO]
theorem acq{M:ah}{F:Nat}(hs:∀i:Nat,i<M.length->(gl M i).length=F):(oO M.length M.length).map (qK M F)=M.reverse:=by
 apply jE
 ·simp [oO]
 intro i h1 h2;have hi:i<M.length:=by simpa using h2
 rw [List.getElem_map,List.getElem_reverse];have e:(oO M.length M.length)[i]'(by rw [It];exact hi)=[((M.length - 1 - i:Nat):Int)]:=by
  simp only [oO,List.getElem_map,List.getElem_range]
  congr 1
  omega
 rw [e];have h9:=hs (M.length - 1 - i) am;rw [<-bR (show M.length - 1 - i<M.length by omega)];apply jE
 ·rw [h9];simp [qK]
 intro j h3 h4;simp only [qK,List.getElem_map,List.getElem_range,uz,List.foldl_cons,List.foldl_nil];rw [bV h4]
theorem OT(A:aj)(n c:Nat)(rs:List aO)(xss:ah)(N:Nat)(w:aa)(hR:bF w A n rs xss)(hM:bI xss)(hN:N=(gl xss 0).length):
 aJ prog 105 [.agg #[.slice A n c]] w (fun v w'=>∃(A':aj) (c':Nat) (rs':List aO),v= .agg #[.slice A' n c']/\rs'.length=n/\St w w' (aS 34 2 A' n c' rs' (ew N xss.reverse 0))):=by
 have hn:=hM.1;have I0:=hM.2.1;have hs:=hM.2.2.1.sys;have iU:=hR.len;subst hN;have agw:=PY hM;have o5:=XR hM;have xo:(oO xss.length xss.length).map (qK xss (gl xss 0).length)=xss.reverse:=acq fun i hi=> (hs (gl xss i) (by rw [bR hi];exact dK hi)).1
 refine bC func105 O ntmps105 O (re O O) (bh O (jH (St.refl w) O O ?_));intro A1 w1 hS;refine ib hS O ?_;clear hS;intro A2 w2 hS;refine ar O (jr hS O ?_);clear hS;intro A3 w3 hS;replace hS:St w w3 (aS 34 2 A3 0 0 [] (oO n 0)++ [Bx 24 1 A2 [.slice none 0 0],Bx 24 1 A1 [.slice A n c]]):=hS;refine ar O (aV (hS.rd 2 O) O (bj (hS.rd 2 O) O ?_));refine a8 O O (dZ O (aC O ?_));refine Cd.loop (α:=Nat×(aj×Nat)×List aO) (fun z=> [(1,.pointer A1),(2,.pointer A2),(3,.slice z.2.1.1 z.1 z.2.1.2),(4,ak ((n:Int) - 1 - (z.1:Int)))]) (fun z w'=>z.1<=n/\z.2.2.length=z.1/\St w w' (aS 34 2 z.2.1.1 z.1 z.2.1.2 z.2.2 (oO n z.1)++ [Bx 24 1 A2 [.slice none 0 0],Bx 24 1 A1 [.slice A n c]])) (fun z=>n - z.1) (0,(A3,0),[]) ⟨O,O,O,aE (Value.int .i64) (by show(n:Int) - 1=(n:Int) - 1 - (0:Nat);omega),au⟩ ⟨bg _,O,hS⟩ ?_;clear hS;rintro⟨q,⟨A3,c3⟩,r3⟩ e w4 ⟨hq,xw,hS⟩;dsimp only at hq xw hS|-;refine bL O (aM _ O (fun h1=>?_) (fun h1=>?_))
 ·have Oe:q<n:=by omega
  refine aA O (eL hS O O O ?_);clear hS;intro tF w5 hS;refine lp hS O O O ?_;clear hS;intro HB w6 hS;refine lK 2 hS O (hS.fQ 0 O) O O O am am O ?_;clear hS;intro jC LJ w7 hS;replace hS:St w w7 (ax 2 tF 1 1 [(n:Int) - 1 - (q:Int)]::cg 34 jC (q+1) LJ (r3++ [⟨tF,1,1⟩])::(da 2 r3 (oO n q)++ [Bx 24 1 A2 [.slice none 0 0],Bx 24 1 A1 [.slice A n c]])):=hS.tail;refine ar O (dZ O (aT O (tQ ?_)));refine⟨(q+1,(jC,LJ),r3++ [⟨tF,1,1⟩]),by show n - (q+1)<n - q;omega,⟨O,O,O,aE (Value.int .i64) (by show(n:Int) - 1 - (q:Int) - 1=(n:Int) - 1 - (q+1:Nat);omega),au⟩,by show q+1<=n;omega,by show(r3++ [_]).length=q+1;rw [ck,xw];rfl,?_⟩;show St w w7 (aS _ _ jC (q+1) LJ (r3++ [_]) (oO n (q+1))++_);rw [acr];unfold aS;rw [pZ (by rw [xw,It])];refine hS.perm ?_;rw [List.cons_append,gV];exact(List.Perm.swap _ _ _).trans (List.Perm.cons _ (rC (l₁:=da 2 r3 (oO n q))).symm)
 obtain rfl:q=n:=by omega
 have ql:Rd w4 A1 1 (fun j=> [Value.slice A q c].getD j undef):=(hS.sub (kA _ _)).rd (k:=Bx 24 1 A1 [.slice A q c]) 1 O;have hWI:bF w4 A3 q r3 (oO q q):=St.jB hS (It _ _);refine bp O (bt (cS O ?_));refine ao.cN 0 ql O O O (ar O ?_);refine aL (aio A q c rs xss (gl xss 0).length A3 q c3 r3 (oO q q) xss.reverse _ (hS.b7 hR) hWI hs am O am am (fun i hi k hk=>?_) (fun i hi=>?_) ?_ o5 agw) O ?_
 ·rw [Sx hi]at hk|-;have:k=0:=by simpa using hk
  subst this;show 0<=(q:Int) - 1 - (i:Int)/\(q:Int) - 1 - (i:Int)<q;omega
 ·rw [Sx hi];simp
 ·rw [<-iU];exact xo
 rintro _ w5 ⟨A',c',rs',b,rfl,agA,av⟩;replace hS:=((hS.sub (((kA _ _)).trans (lJ _))).call2 av);refine ar O (ib hS O ?_);clear hS;intro A5 w6 hS;refine b5 1 0 hS O O O O O O O ?_;clear hS;intro w7 hS;refine ar O (ao.cN 0 (hS.rd 0 O) O O O (b5 1 1 hS O O O O O O O ?_));clear hS;intro w8 hS;refine bH O (iA O (hS.rd 1 O) ?_);exact⟨A',c',rs',O,agA,hS.tail.tail.tail⟩
set_option maxRecDepth 100000
theorem Yi:Fy 4:=by decide+kernel
def DR:ah:=(yi (kg 4 4) 500 0 [mK 5]).getD []
theorem adb:yi (kg 4 4) 500 0 [mK 5]=some DR:=by decide+kernel
theorem Tq:(∀x∈du 4,x∈DR)/\∀x∈DR,x∈du 4:=by decide+kernel
theorem ade:DR.Nodup:=by decide+kernel
theorem adf:(du 4).Pairwise LT:=by decide+kernel
theorem adg:∀x∈du 4,x.length=5/\∀y∈x,0<=y/\y< (5:Int):=by decide+kernel
theorem adh:∀i,i<4->∀f,f< (du 4).length->qA (tD 4 i) (gl (du 4) f)∈du 4:=by decide+kernel
theorem amJ:Ln 4 DR (du 4) 500:=⟨am,adb,adf,fun x=> ⟨Tq.1 x,Tq.2 x⟩,ade,Yi.2.1,adg,adh⟩
theorem amK:uA 3 (du 3) 3=nn 3 3:=by decide+kernel
theorem amL:uA 4 (du 4) 4=nn 4 4:=by decide+kernel
structure PV where
 s:Int
 v:Int
def il:List PV->List ad
 | []=> []
 | x::r=> .int .i64 x.s:: .int .i64 x.v::il r
theorem FN:∀l:List PV,(il l).length=2*l.length
 | []=>rfl
 | x::r=>by
  simp only [il,List.length_cons];rw [FN r];omega
theorem Mj:∀a b:List PV,il (a++b)=il a++il b
 | [],_=>rfl
 | x::r,b=>by
  simp only [List.cons_append,il];rw [Mj r b]
theorem S7:∀ {l:List PV} {i:Nat} (h:i<l.length),(il l)[2*i]?=some (ak l[i].s)/\(il l)[2*i+1]?=some (ak l[i].v)
 | x::r,0,_=> ⟨rfl,rfl⟩
 | x::r,i+1,h=>by
  have:=S7 (l:=r) (i:=i) (by simpa using h);simp only [il,List.getElem_cons_succ];rw [show 2* (i+1)=2*i+1+1 by omega];simpa using this
theorem EC(l:List PV):eU (il l)=false:=by cases l<;>rfl
def jQ(t:ae)(A:aj)(k q z:Nat)(cs:List PV):Ck:=⟨A,2*k,min (2* (q+z)) maxLen - 2*z,t,il cs⟩
def wV(w:aa)(A:aj)(k:Nat)(cs:List PV):Prop:=cs.length=k/\Rd w A (2*k) (fun j=> (il cs).getD j undef)
theorem wV.below{w w':aa}{A:aj}{k:Nat}{cs:List PV}(h:wV w A k cs)(hb:Below w.heap.size w w'):wV w' A k cs:=⟨h.1,Rd.below h.2 hb⟩
section
variable {w0 w:aa} {ks:List Ck} {i:Nat} {t:ae} {A:aj} {k q z:Nat} {cs:List PV}
theorem St.CW(h:St w0 w ks)(i:Nat)(hk:ks[i]?=some (jQ t A k q z cs)):wV w A k cs:=by
 have h1:(il cs).length=2*k:=(h.qh hk (EC _)).1;rw [FN]at h1;exact⟨am,h.rd i hk⟩
theorem St.abj(h:St w0 w ks)(i:Nat)(hk:ks[i]?=some (jQ t A k q z cs)):k<=q/\2*k<=maxLen:=by
 have h1:2*k<=min (2* (q+z)) maxLen - 2*z:=(h.get hk).cap.1;omega
theorem wV.at_(h:wV w A k cs){j:Nat}(hj:j<k):Rd w (ay A (j*2)) 2 (fun m=> [ak (cs[j]'(by rw [h.1];exact hj)).s,ak (cs[j]'(by rw [h.1];exact hj)).v].getD m undef):=by
 have hl:j<cs.length:=by rw [h.1];exact hj
 have:=(h.2.behind (o:=j*2) (m:=2) am);refine this.congr fun m hm=>?_
 have hg:=S7 hl;rcases(show m=0\/m=1 by omega)with rfl | rfl
 ·rw [show j*2+0=2*j by omega,dm,hg.1];rfl
 rw [show j*2+1=2*j+1 by omega,dm,hg.2];rfl
end
section
variable{t:ae}{z z0 z1:ad}{b q m c':Nat}{A':aj}
variable {P:Program} {N:Nat} {ops:Array Oper} {K:Env->aa->Prop} {rest:List Oper} {e:Env} {w0 w w':aa} {ks:List Ck} {d:Nat} {ty:ae} {pos:String} {af:Array Edge}
theorem Lg{el:ae}[bA P t (.slice el)][bq P el z 2 b]{x ix:ag}{A:aj}{n c:Nat}{k:IntKind}{i:Int}{cs:List PV}(hR:wV w A n cs)(hx:ev e x= .slice A n c)(hy:ev e ix= .int k i)(hb:Nat.blt d N=true)(h0:0<=i)(h1:i< (n:Int))(hK:ao P N ops K rest (bn e d (.pointer (ay A (i.toNat*2)))) w):
 ao P N ops K (⟨some d,.indexAddr t x ix,ty,pos,af,none⟩::rest) e w:=by
 obtain⟨p,hp,_⟩:=hR.2 i.toNat am;obtain⟨q,rfl⟩:∃q,A=some q:=by cases A with | none=>simp [ay]at hp | some q=>exact⟨q,rfl⟩
 obtain⟨inf,hi,_,hs,_⟩:=bq.get P el;refine .val (w':=w) ?_ hb hK;simp [execOp,Instr.indexAt,hx,hy,asIntOf,run_underlying (bA.out (P:=P) (t:=t)),h0,h1,sizeOf,typeInfo,hi,hs,ay]
theorem Q8{el:ae}[bA P t (.slice el)][bq P el z 2 b]{x0:ag}{u0 v0:Int}(hS:St w0 w ks)(h0:ev e x0= .agg #[ak u0,ak v0])(hz:z.cells= #[z0,z1])(hb:Nat.blt d N=true)(hK:∀A w',St w0 w' (jQ el A 1 1 0 [⟨u0,v0⟩]::ks)->ao P N ops K rest (bn e d (.slice A 1 1)) w'):ao P N ops K (⟨some d,.buildSlice t 1 #[(0,x0)],ty,pos,af,none⟩::rest) e w:=by
 obtain⟨inf,hi,dX,hs,gR⟩:=bq.get P el;refine .val (w':=w.alloc (.cells #[ak u0,ak v0] el)) ?_ hb (hK _ _ (hS.alloc [ak u0,ak v0] el (by simp [maxLen]) O));simp [execOp,Instr.buildSlice,run_underlying (bA.out (P:=P) (t:=t)),sizeOf,typeInfo,zeroValue,hi,hs,dX,hz,Instr.fill,newRow,h0,Dy,jU,Value.cells]
theorem aml{el:ae}[hU:bA P t (.slice el)][bq P el z 2 b](hz:z.cells= #[z0,z1]){A:aj}{n c:Nat}{cs:List PV}(i:Nat)(hS:St w0 w ks)(hk:ks[i]?=some (jQ el A n c q cs)){ds:List PV}(hR:wV w A' m ds)
 (rK:2* (n+m+q)<=maxLen) (pA:(n+m)*b<=140737488355328) (ty:ae):
 ∃A2 c2 q2 w',(Builtin.append_ #[t,t] ty #[.slice A n c,.slice A' m c']).run P w= .ok (.slice A2 (n+m) c2) w'/\q2<=q/\St w0 w' (ks.set i (jQ el A2 (n+m) c2 q2 (cs++ds))):=by
 obtain⟨inf,hi,dX,hs,gR⟩:=bq.get P el;have Cr:=hS.qh hk (EC _);have ua:=hS.abj i hk;have de:=(hS.CW i hk).1;obtain⟨hl,mG,oW,h4⟩:=Cr;have yG:=(gx.1 hk).1
 by_cases hm:m=0
 ·subst hm;have qn:ds=[]:=qE hR.1;subst qn;refine⟨A,c,q,w,?_,br _,?_⟩
  ·cases A' with
   | none=>cases A<;>simp [Builtin.append_,run_underlying hU.out,sizeOf,typeInfo,hi,Builtin.lenOf,Builtin.firstCells,ua.1,storeCells]
   | some a=>
    cases A<;>simp [Builtin.append_,run_underlying hU.out,sizeOf,typeInfo,hi,Builtin.lenOf,Builtin.firstCells,ua.1,storeCells,loadCells,loadCellsFrom]
  ·rw [fI,Nat.add_zero];have:ks.set i (jQ el A n c q cs)=ks:=by
    apply List.ext_getElem?;intro j;rw [mR]
    split
    ·rename_i e;subst e;rw [hk]
     try simp [yG]
    ·rfl
   rw [this];exact hS
 ·obtain⟨a,rfl⟩:∃a,A'=some a:=by
   obtain⟨p,hp,_⟩:=hR.2 0 am;cases A' with | none=>simp [ay]at hp | some q'=>exact⟨q',rfl⟩
  have gX:(il ds).length=m*2:=by rw [FN,hR.1];omega
  have ue:∀j v,(il ds)[j]?=some v->w.cell? (a.add j)=some v:=by
   intro j v hj;have vd:j<2*m:=by have:=(gx.1 hj).1;omega
   obtain⟨p,hp,hc⟩:=hR.2 j vd;simp only [ay,Option.map_some,mB]at hp;rw [hp,hc];show some ((il ds).getD j undef)=some v;rw [dm,hj]
   rfl
  have vT:∀u∈il ds,u.oneCell'=true:=by
   intro u hu;obtain⟨j,hj,rfl⟩:=gC.1 hu;have gen:∀(l:List PV),∀u∈il l,u.oneCell'=true:=by
    intro l
    induction l with
    | nil=>intro u h;cases h
    | cons x l ih=>
     intro u h;simp only [il,iX]at h;rcases h with rfl | rfl | h
     ·rfl
     ·rfl
     ·exact ih u h
   exact gen ds _ (dK hj)
  have Gl:(il cs).length=2*n:=by rw [FN,de]
  have fresh:∀(xs:List ad) (c2:Nat),n+m<=c2->xs.length=2*c2->xs.take (2* (n+m))=il cs++il ds->eU xs=false->
   St w0 (w.drew.alloc (.cells xs.toArray el)) (ks.set i (jQ el (some ⟨w.heap.size,0,none⟩) (n+m) c2 0 (cs++ds))):=by
   intro xs c2 h5 h7 h8 h9;have hA:=hS.drew.RA xs el (2* (n+m)) (min (2*c2) maxLen) am am am h9;rw [h8,<-Mj]at hA;exact(hA.perm (PD ks i _ _ hk)).tail
  have FZ:((n+m:Nat):Int)<=9223372036854775807:=by simp only [maxLen]at rK;omega
  have adW:n+m<=maxLen:=by omega
  rcases h4 with⟨hA,h0⟩ | ⟨g,o,cur,hA,hg,hh,mr,hc⟩
  ·have hA:A=none:=hA;subst hA;have h0:min (2* (c+q)) maxLen - 2*q=0:=h0;have kV:c=0:=by simp only [maxLen]at h0 rK;omega
   have oe:n=0:=by omega
   subst kV oe;have GS:cs=[]:=qE de;subst GS;have hr:=run_append_nil (P:=P) w t ty el inf z hU.out hi dX a m c' (il ds) (by rw [gX,hs]) ue am am (by rw [gR];rw [Nat.zero_add]at pA;omega);have u6:=grownCap_ge w m 0 el;have xD:=Y9 hz (grownCap w m 0 el - m);refine⟨some ⟨w.heap.size,0,none⟩,grownCap w m 0 el,0,_,?_,bg _,fresh (il ds++ (Builtin.zeroCells z.cells (grownCap w m 0 el - m)).toList) (grownCap w m 0 el) am (by rw [ck,xD,gX];omega) (by
    rw [wN (by omega),iY (by omega)]
    rfl) (CD (EC _) (by intro hn;rw [hn]at gX;simp at gX;omega))⟩
   rw [Nat.zero_add,hr]
   congr 3
   apply Array.ext';simp
  ·have hA:A=some ⟨g,o,none⟩:=hA;have hh:w.heap[g]?=some (.cells cur el (0,0)):=hh;have mr:o+ (min (2* (c+q)) maxLen - 2*q)<=cur.size:=mr;have hc:∀j,j<2*n->cur[o+j]?=(il cs)[j]?:=hc
   by_cases Cu:n+m<=c
   ·have hf:=run_firstCells_some (P:=P) w inf.size m a m c' (il ds) (by rw [gX,hs]) ue;have av:=run_storeCells_at P g (o+2*n) el (il ds) 0 cur w hh (by rw [gX];omega) vT;simp only [Nat.add_zero]at av;refine⟨some ⟨g,o,none⟩,c,q,w.setRow g (cur.toList.take (o+2*n)++il ds++cur.toList.drop (o+2*n+ (il ds).length)).toArray,?_,br _,hS.turn (k:=jQ el A n c q cs) (k':=jQ el (some ⟨g,o,none⟩) (n+m) c q (cs++ds)) (g:=g) hk (by simp [Ck.ij,jQ,hA]) (by simp [Ck.ij,jQ]) ?_ ?_⟩
    ·rw [hA];rw [hs]at hf;simp [Builtin.append_,run_underlying hU.out,sizeOf,typeInfo,hi,hs,Builtin.lenOf,Cu,Addr.add_lit,hf];rw [show n*2=2*n by omega];simp [av]
    ·exact⟨⟨O,O,O,by simp,fun x _ hx=>setRow_other w g x _ (fun e=>hx (by rw [e]))⟩,br _⟩
    ·refine .q9 (EC _) ⟨by show(il (cs++ds)).length=2* (n+m);rw [FN,ck,de,hR.1],by show 2* (n+m)<=min (2* (c+q)) maxLen - 2*q;omega,oW,.inr ⟨g,o,_,O,hg,setRow_heap w g cur _ el _ hh,?_,fun j hj=>?_⟩⟩
     ·show o+ (min (2* (c+q)) maxLen - 2*q)<=_;simp;omega
     ·have gW:j<2* (n+m):=hj;show((cur.toList.take (o+2*n)++il ds++cur.toList.drop (o+2*n+ (il ds).length)).toArray)[o+j]?=(il (cs++ds))[j]?;rw [Mj];have aff:cur.toList.length=cur.size:=by simp
      rw [List.getElem?_toArray]
      by_cases mV:j<2*n
      ·rw [gV,ma (by simp;omega),rz,aB (by omega),ma (by omega)];rw [Array.getElem?_toList];exact hc j mV
      ·rw [gV,mc (by simp;omega),ma (by simp;omega),mc (by omega)]
       congr 1
       simp;omega
   ·have holds:∀j v,(il cs)[j]?=some v->w.cell? ((⟨g,o,none⟩:Addr).add j)=some v:=by
     intro j v hj;have mV:j<2*n:=by have:=(gx.1 hj).1;omega
     rw [BA];simp only [World.cell?,hh];simpa [hc j mV]using hj
    have hr:=run_append_grow (P:=P) w t ty el inf z hU.out hi dX ⟨g,o,none⟩ n c (il cs) (by rw [Gl,hs];omega) holds a m c' (il ds) (by rw [gX,hs]) ue am FZ (growslice_fits am (by rw [gR];exact pA));have u6:=grownCap_ge w (n+m) c el;have xD:=Y9 hz (grownCap w (n+m) c el - (n+m));refine⟨some ⟨w.heap.size,0,none⟩,grownCap w (n+m) c el,0,_,?_,bg _,fresh (il cs++il ds++ (Builtin.zeroCells z.cells (grownCap w (n+m) c el - (n+m))).toList) (grownCap w (n+m) c el) am (by rw [ck,ck,xD,gX,Gl];omega) (by
     rw [wN (by rw [ck];omega),iY (by rw [ck];omega)]) (CD (OO (EC _) (EC _)) (by intro hn;have:=aE List.length hn;rw [ck,gX]at this;simp at this;omega))⟩
    rw [hA,hr]
    congr 3
    apply Array.ext';simp
theorem Q6{el:ae}[hU:bA P t (.slice el)][bq P el z 2 b]{x y:ag}(i:Nat){A:aj}{n c:Nat}{cs:List PV}{ds:List PV}(hS:St w0 w ks)(hk:ks[i]?=some (jQ el A n c q cs))(hR:wV w A' m ds)(hx:ev e x= .slice A n c)(hy:ev e y= .slice A' m c')(hz:z.cells= #[z0,z1])(rK:n+m+q<=4611686018427387903)(pA:(n+m)*b<=140737488355328)(hb:Nat.blt d N=true)(hK:∀A2 c2 q2 w',q2<=q->St w0 w' (ks.set i (jQ el A2 (n+m) c2 q2 (cs++ds)))->ao P N ops K rest (bn e d (.slice A2 (n+m) c2)) w'):
 ao P N ops K (⟨some d,.call ⟨.builtin .append, #[x,y], #[t,t]⟩,ty,pos,af,none⟩::rest) e w:=by
 obtain⟨A2,c2,q2,w',hr,Vr,kU⟩:=aml (P:=P) (t:=t) hz i hS hk hR (by simp only [maxLen];omega) pA ty (c':=c');refine .val (w':=w') ?_ hb (hK _ _ _ _ Vr kU);simp [execOp,resolve,invoke,builtin,hx,hy,hr]
end
section
variable {P:Program} {N:Nat} {ops:Array Oper} {K:Env->aa->Prop} {rest:List Oper} {e:Env} {w0 w w':aa} {ks:List Ck} {d:Nat} {ty:ae} {pos:String} {af:Array Edge}
theorem uJ{t el:ae}{l:Nat}{z:ad}{b:Nat}[bA P t (.array l el)][bq P el z 1 b]{x ix:ag}{A:aj}{n o:Nat}{k:IntKind}{i:Int}{f:Nat->ad}(hR:Rd w A n f)(ho:o<n)(hx:ev e x= .pointer (ay A o))(hy:ev e ix= .int k i)(hb:Nat.blt d N=true)(h0:0<=i)(h1:i< (l:Int))(hK:ao P N ops K rest (bn e d (.pointer (ay A (o+i.toNat)))) w):
 ao P N ops K (⟨some d,.indexAddr t x ix,ty,pos,af,none⟩::rest) e w:=by
 obtain⟨p,hp,_⟩:=hR o ho;obtain⟨inf,hi,_,hs,_⟩:=bq.get P el;have hq:ay A (o+i.toNat)=some (p.add i.toNat):=by
  rw [<-PJ,hp];rfl
 rw [hq]at hK;rw [hp]at hx;refine .val (w':=w) ?_ hb hK;simp [execOp,Instr.indexAt,hx,hy,asIntOf,Instr.sureAddr,run_underlying (bA.out (P:=P) (t:=t)),h0,h1,sizeOf,typeInfo,hi,hs]
theorem Ld{t el:ae}{z0 z1 y:ad}{b b':Nat}[bA P t (.array 2 el)][bq P t (.agg #[z0,z1]) 2 b](hI:bq P el y 1 b'){x0 x1:ag}{v0 v1:ad}(h0:ev e x0=v0)(h1:ev e x1=v1)(c0:v0.oneCell'=true)(c1:v1.oneCell'=true)(hb:Nat.blt d N=true)(hK:ao P N ops K rest (bn e d (.agg #[v0,v1])) w):ao P N ops K (⟨some d,.build t #[(0,x0),(1,x1)],ty,pos,af,none⟩::rest) e w:=by
 obtain⟨inf,hi,dX,hs,gR⟩:=bq.get P t;obtain⟨CC,fm,ahc,o6,ae8⟩:=hI.get P el;have e0:v0.cells= #[v0]:=by cases v0<;>simp [Value.oneCell']at c0<;>rfl
 have e1:v1.cells= #[v1]:=by cases v1<;>simp [Value.oneCell']at c1<;>rfl
 have ez:(Value.agg #[z0,z1]).cells= #[z0,z1]:=O;refine .val (w':=w) ?_ hb hK;simp [execOp,Instr.build,run_underlying (bA.out (P:=P) (t:=t)),sizeOf,typeInfo,zeroValue,hi,dX,fm,o6,h0,h1,e0,e1,ez,Instr.fill]
end
end
section
def tK{α:Type}(G:Nat->ai->List α):Nat->ah->List α
 | _,[]=> []
 | f,p::r=>G f p++tK G (f+p.length) r
theorem Dt{α:Type}(G:Nat->ai->List α):∀(ps:ah) (f j:Nat) (h:j<ps.length),tK G f (ps.take (j+1))=tK G f (ps.take j)++G (f+ (ps.take j).flatten.length) (ps[j])
 | [],_,_,h=>absurd h (oF _)
 | p::r,f,0,_=>by simp [tK]
 | p::r,f,j+1,h=>by
  have ih:=Dt G r (f+p.length) j (Nat.lt_of_succ_lt_succ h);simp only [List.take_succ_cons,tK,gV,List.flatten_cons,ck,List.getElem_cons_succ];rw [ih,Nat.add_assoc]
theorem Ds{α:Type}{G:Nat->ai->List α}{k:Nat}(hG:∀f p,(G f p).length=k*p.length):∀(ps:ah) (f:Nat),(tK G f ps).length=k*ps.flatten.length
 | [],_=>by simp [tK]
 | p::r,f=>by
  simp only [tK,ck,List.flatten_cons,Ds hG r,hG,Nat.mul_add]
theorem Tb(ps:ah)(j:Nat)(h:j<ps.length):(ps.take (j+1)).flatten=(ps.take j).flatten++ps[j]:=by
 rw [nM h,List.flatten_append];simp
def fp(a b:Nat->Int)(k:Nat):ai:=(List.range k).flatMap fun i=> [a i,b i]
theorem KQ(a b:Nat->Int)(k:Nat):(fp a b k).length=2*k:=by
 induction k with
 | zero=>rfl
 | succ k ih=>unfold fp at ih|-;rw [List.range_succ,List.flatMap_append,List.length_append,ih];simp;omega
theorem KR(a b:Nat->Int)(k:Nat):fp a b (k+1)=fp a b k++ [a k,b k]:=by
 unfold fp;rw [List.range_succ,List.flatMap_append];simp
def KP(f k i:Nat):PV:=⟨2* ((f:Int)+ (i:Int)),2* ((f:Int)+ ((i:Int)+1)% (k:Int))+1⟩
def X3(f:Nat)(p:ai):List PV:=(List.range p.length).map fun i=>KP f p.length i
def sA:Nat->ah->List PV:=tK X3
def Bh(V:ai)(s:PV):Int×Int:=if gi V (s.v / 2)<gi V (s.s / 2)then(gi V (s.v / 2),gi V (s.s / 2))else(gi V (s.s / 2),gi V (s.v / 2))
def Ho(V:ai)(s:PV):PV:=if gi V (s.v / 2)<gi V (s.s / 2)then⟨s.v,s.s⟩else s
def tM(V:ai):List PV->List ((Int×Int)×List PV)->List ((Int×Int)×List PV)
 | [],L=>L
 | s::r,L=>tM V r (fj L (Bh V s) ((dS L (Bh V s)).getD []++ [Ho V s]))
def tv:List PV->ai->ai
 | [],M=>M
 | s::r,M=>tv r ((M.set s.s.toNat s.v).set s.v.toNat s.s)
def ke(p:ai)(i:Nat):Int:=gi p i
def sg(p:ai)(i:Nat):Int:=gi p (((i:Int)+1)% (p.length:Int))
def si(p:ai)(i:Nat):Int:=gi p (((i:Int)+ (p.length:Int) - 1)% (p.length:Int))
def sD(f:Nat)(p:ai)(i:Nat):Int:=2* ((f:Int)+ ((i:Int)+1)% (p.length:Int))+1
def sE(f:Nat)(p:ai)(i:Nat):Int:=2* ((f:Int)+ ((i:Int)+ (p.length:Int) - 1)% (p.length:Int))
def se(f:Nat)(i:Nat):Int:=2* ((f:Int)+ (i:Int))+1
def sf(f:Nat)(i:Nat):Int:=2* ((f:Int)+ (i:Int))
def lj(ps:ah):ai:=tK (fun _ p=>fp (ke p) (ke p) p.length) 0 ps
def lh(ps:ah):ai:=tK (fun _ p=>fp (sg p) (si p) p.length) 0 ps
def kJ(ps:ah):ai:=tK (fun f p=>fp (sD f p) (sE f p) p.length) 0 ps
def lg(ps:ah):ai:=tK (fun f p=>fp (se f) (sf f) p.length) 0 ps
theorem akH(ps:ah):(lj ps).length=2*ps.flatten.length:=Ds (fun _ _=>KQ _ _ _) ps 0
theorem akF(ps:ah):(lh ps).length=2*ps.flatten.length:=Ds (fun _ _=>KQ _ _ _) ps 0
theorem aop(ps:ah):(kJ ps).length=2*ps.flatten.length:=Ds (fun _ _=>KQ _ _ _) ps 0
theorem aky(ps:ah):(lg ps).length=2*ps.flatten.length:=Ds (fun _ _=>KQ _ _ _) ps 0
def FT(own Kw:ai)(f:Nat):ai:=((List.range own.length).filter fun g=>decide (g≠f) && (decide (gi own g=gi own f) && decide (gi Kw g=gi Kw f))).map fun g:Nat=> (g:Int)
def pe(own Kw:ai):ai:=(List.range own.length).map fun f=>gi (FT own Kw f) 0
def mapM(ps:ah):ah:=[kJ ps,lg ps,pe (lj ps) (lh ps)]
structure Dc(ps:ah):Prop where
 small:ps.flatten.length<=10000
 BN:ps.length<=100/\∀p∈ps,1<=p.length/\p.length<=100
 bd:∀s∈sA 0 ps,((0<=s.s/\s.s<2*ps.flatten.length)/\(0<=s.v/\s.v<2*ps.flatten.length))
 zero:tv (sA 0 ps) (List.replicate (2*ps.flatten.length) 0)=kJ ps
 pair:∀p∈tM ps.flatten (sA 0 ps) [],p.2.length=2
 put:∀p∈tM ps.flatten (sA 0 ps) [],∀a∈p.2.head?,∀b∈p.2.tail.head?,(gi (pe (lj ps) (lh ps)) a.s=b.s/\gi (pe (lj ps) (lh ps)) b.s=a.s)/\gi (pe (lj ps) (lh ps)) a.v=b.v/\gi (pe (lj ps) (lh ps)) b.v=a.v
 all:∀f∈List.range (2*ps.flatten.length),∃p∈tM ps.flatten (sA 0 ps) [],∃a∈p.2,a.s=(f:Int)\/a.v=(f:Int)
 one:∀f∈List.range (2*ps.flatten.length),(FT (lj ps) (lh ps) f).length=1
 len:(pe (lj ps) (lh ps)).length=2*ps.flatten.length
def pD:ah:=[[0,1,2,3],[0,1,3,2],[0,2,1,3]]
def pE:ah:=[[0,1,2],[0,2,3],[0,3,4],[0,4,5],[0,5,1],[1,2,4],[2,3,5],[3,4,1],[4,5,2],[5,1,3]]
def pN:ah:=[[0,1,2],[0,2,3],[0,3,4],[0,4,5],[0,5,1],[1,2,6],[2,3,7],[3,4,8],[4,5,9],[5,1,10],[2,6,7],[3,7,8],[4,8,9],[5,9,10],[1,10,6],[11,6,7],[11,7,8],[11,8,9],[11,9,10],[11,10,6]]
def mN:ah:=(List.range 7).flatMap fun i:Nat=> [[(i:Int),(((i+1)%7:Nat):Int),(((i+3)%7:Nat):Int)],[(i:Int),(((i+3)%7:Nat):Int),(((i+2)%7:Nat):Int)]]
set_option maxRecDepth 100000
theorem UF:Dc pD:=⟨by decide+kernel,by decide+kernel,by decide+kernel,by decide+kernel,by decide+kernel,by decide+kernel,by decide+kernel,by decide+kernel,by decide+kernel⟩
theorem UG:Dc pE:=⟨by decide+kernel,by decide+kernel,by decide+kernel,by decide+kernel,by decide+kernel,by decide+kernel,by decide+kernel,by decide+kernel,by decide+kernel⟩
theorem Yb:Dc mN:=⟨by decide+kernel,by decide+kernel,by decide+kernel,by decide+kernel,by decide+kernel,by decide+kernel,by decide+kernel,by decide+kernel,by decide+kernel⟩
theorem V3:Dc pN:=⟨by decide+kernel,by decide+kernel,by decide+kernel,by decide+kernel,by decide+kernel,by decide+kernel,by decide+kernel,by decide+kernel,by decide+kernel⟩
end
section
open Go.RowKit
variable{ps:ah}{j:Nat}{Ow T:ai}
def bB(ps:ah)(j:Nat):Nat:=(ps.take j).flatten.length
theorem RR(h:j<ps.length):bB ps (j+1)=bB ps j+ (gl ps j).length:=by
 unfold bB;rw [Tb ps j h,ck,bR h]
theorem RQ(ps:ah)(j:Nat):bB ps j<=ps.flatten.length:=by
 unfold bB;have h:=aE (fun l:ah=>l.flatten.length) (List.take_append_drop j ps);simp only [List.flatten_append,ck]at h;omega
theorem akI(h:j<ps.length):lj (ps.take (j+1))=lj (ps.take j)++fp (ke (gl ps j)) (ke (gl ps j)) (gl ps j).length:=by
 rw [bR h];exact Dt _ ps 0 j h
theorem akG(h:j<ps.length):lh (ps.take (j+1))=lh (ps.take j)++fp (sg (gl ps j)) (si (gl ps j)) (gl ps j).length:=by
 rw [bR h];exact Dt _ ps 0 j h
theorem aoq(h:j<ps.length):kJ (ps.take (j+1))=kJ (ps.take j)++fp (sD (bB ps j) (gl ps j)) (sE (bB ps j) (gl ps j)) (gl ps j).length:=by
 rw [bR h];exact(Dt _ ps 0 j h).trans (by rw [Nat.zero_add];rfl)
theorem akz(h:j<ps.length):lg (ps.take (j+1))=lg (ps.take j)++fp (se (bB ps j)) (sf (bB ps j)) (gl ps j).length:=by
 rw [bR h];exact(Dt _ ps 0 j h).trans (by rw [Nat.zero_add];rfl)
def tU(Ow T:ai)(f g:Nat):ai:=((List.range g).filter fun g=>decide (g≠f) && (decide (gi Ow g=gi Ow f) && decide (gi T g=gi T f))).map fun g:Nat=> (g:Int)
theorem acV(Ow T:ai)(f g:Nat):(tU Ow T f g).length<=g:=by
 unfold tU;rw [fS];exact mS (sL _ _) (by rw [rA];exact br _)
theorem acW{f g:Nat}(h:g≠f/\gi Ow g=gi Ow f/\gi T g=gi T f):tU Ow T f (g+1)=tU Ow T f g++ [(g:Int)]:=by
 unfold tU;rw [jU,sK,iI]
 congr 1
 simp [h.1,h.2.1,h.2.2]
theorem Mq{f g:Nat}(h:¬(g≠f/\gi Ow g=gi Ow f/\gi T g=gi T f)):tU Ow T f (g+1)=tU Ow T f g:=by
 unfold tU;rw [jU,sK,iI];have e:List.filter (fun g=>decide (g≠f) && (decide (gi Ow g=gi Ow f) && decide (gi T g=gi T f))) [g]=[]:=by
  rw [List.filter_eq_nil_iff];intro a ha hc;rw [gj]at ha;subst ha;simp only [Bool.and_eq_true,kB]at hc;exact h hc
 rw [e,List.map_nil,fI]
structure PdE(w0:aa)(A2 jC rr:aj)(rM:List aO)(M:ah)(bM:Bool)(S:Nat->Bool)(e:Env)(w:aa):Prop where
 f20:e 20= .pointer jC
 f2:e 2= .pointer A2
 p0:S 0=true->e 158= .agg #[.slice rr 3 3]
 p1:S 1=true->e 159= .agg #[.slice rr 3 3]
 p2:S 2=true->e 160= .bool bM
 p4:S 4=true->e 3= .bool bM
 mem:∃B2:ad,(S 3=true->B2= .slice rr 3 3)/\St w0 w (Bx 24 1 jC [.slice rr 3 3]::Bx 24 1 A2 [B2]::aS 34 2 rr 3 3 rM M)
theorem anI{f:Nat}(h:f<Ow.length):(pe Ow T).take (f+1)=(pe Ow T).take f++ [gi (FT Ow T f) 0]:=by
 unfold pe;rw [nM (by simpa using h)];simp
theorem St.ak4{w0 w:aa}{b r HY a4 a5 a6 a7 b2:Ck}(h:St w0 w [b,r,HY,a4,a5,a6,a7,b2]):St w0 w [b,b2,r,a6,a7,HY]:=by
 have h1:[b,r,HY,a6,a7,b2].Sublist [b,r,HY,a4,a5,a6,a7,b2]:=((((lJ _).cons _).cons _).cons_cons _).cons_cons _ |>.cons_cons _
 refine(h.sub h1).perm ?_
 classical
 refine jT.2 fun z=>?_
 simp only [jS,ln];omega
structure M4 where
 a4:aj
 c4:Nat
 a5:aj
 c5:Nat
 a6:aj
 c6:Nat
 a7:aj
 c7:Nat
def M4.po(x:M4)(m4 m5 m6 m7:Nat)(L4 L5 L6 L7:ai)(A2:aj):List Ck:=ax 2 x.a4 m4 x.c4 L4::ax 2 x.a5 m5 x.c5 L5::ax 2 x.a6 m6 x.c6 L6::ax 2 x.a7 m7 x.c7 L7::[Bx 24 1 A2 [.slice none 0 0]]
theorem akY{α:Type}(a b c d e:α):[a,b,c,d,e].Perm [d,c,b,a,e]:=by
 classical
 refine jT.2 fun z=>?_
 simp only [jS,ln];omega
theorem Kn(A:aj)(n c:Nat)(rs:List aO)(ps:ah)(w:aa)(hR:bF w A n rs ps)(dp:Dc ps):
 aJ prog 106 [.slice A n c] w (fun v w'=>∃(A':aj) (c':Nat) (rs':List aO),v= .tuple #[.agg #[.slice A' 3 c'],.bool (decide (bI (mapM ps)))]/\rs'.length=3/\St w w' (aS 34 2 A' 3 c' rs' (mapM ps))):=by
 have mq:=hR.len;have JA:=dp.BN;have hF:ps.flatten.length<=10000:=dp.small;refine bC func106 O ntmps106 O (ur O O) (bh O (ib (St.refl w) O ?_));intro A2 w1 hS;refine ar O (jr hS O ?_);clear hS;intro eu w2 hS;refine jr hS O ?_;clear hS;intro fE w3 hS;refine jr hS O ?_;clear hS;intro QI w4 hS;refine jr hS O ?_;clear hS;intro C6 w5 hS;have hS:St w w5 (M4.po ⟨eu,0,fE,0,QI,0,C6,0⟩ 0 0 0 0 [] [] [] [] A2):=hS.perm (akY _ _ _ _ _);refine aC O (Cd.loop (α:=Nat×M4) (fun z=> [(0,.slice A n c),(2,.pointer A2),(3,.bool false),(4,.slice z.2.a4 (2*bB ps z.1) z.2.c4),(5,.slice z.2.a5 (2*bB ps z.1) z.2.c5),(6,.slice z.2.a6 (2*bB ps z.1) z.2.c6),(7,.slice z.2.a7 (2*bB ps z.1) z.2.c7),(8,ak (bB ps z.1:Int)),(9,ak (z.1:Int))]) (fun z w'=>z.1<=n/\St w w' (z.2.po (2*bB ps z.1) (2*bB ps z.1) (2*bB ps z.1) (2*bB ps z.1) (lj (ps.take z.1)) (lh (ps.take z.1)) (kJ (ps.take z.1)) (lg (ps.take z.1)) A2)) (fun z=>n - z.1) (0,⟨eu,0,fE,0,QI,0,C6,0⟩) (aqv O) ⟨bg _,hS⟩ ?_);clear hS;rintro⟨j,x⟩ ev w6 ⟨hj,hS⟩;dsimp only at hj hS|-;refine bh O (a8 O O (aC O ?_));refine aM _ O (fun h1=>?_) (fun h1=>?_)
 ·have mV:j<n:=by omega
  have iJ:=hS.b7 hR;have VE:=iJ.at_ (i:=(j:Int)) am am;have jb:=VE.1;have fO:(gl ps j).length<=100:=(JA.2 _ (by rw [bR (by omega)];exact dK _)).2;have tf:=RR (ps:=ps) (j:=j) am;have nA:=RQ ps (j+1);refine aA O (aD iJ.top.2 O (b9 iJ.top O ?_));refine ar O (a8 O O (aC O ?_));refine Cd.loop (α:=Nat×M4) (fun z=> [(0,.slice A n c),(2,.pointer A2),(3,.bool false),(4,.slice z.2.a4 (2* (bB ps j+z.1)) z.2.c4),(5,.slice z.2.a5 (2* (bB ps j+z.1)) z.2.c5),(6,.slice z.2.a6 (2* (bB ps j+z.1)) z.2.c6),(7,.slice z.2.a7 (2* (bB ps j+z.1)) z.2.c7),(8,ak (bB ps j:Int)),(9,ak j),(10,.slice (rg rs j).a (rg rs j).n (rg rs j).c),(11,ak ((rg rs j).n:Int)),(12,ak (z.1:Int))]) (fun z w'=>z.1<=(gl ps j).length/\St w w' (z.2.po (2* (bB ps j+z.1)) (2* (bB ps j+z.1)) (2* (bB ps j+z.1)) (2* (bB ps j+z.1)) (lj (ps.take j)++fp (ke (gl ps j)) (ke (gl ps j)) z.1) (lh (ps.take j)++fp (sg (gl ps j)) (si (gl ps j)) z.1) (kJ (ps.take j)++fp (sD (bB ps j) (gl ps j)) (sE (bB ps j) (gl ps j)) z.1) (lg (ps.take j)++fp (se (bB ps j)) (sf (bB ps j)) z.1) A2)) (fun z=> (gl ps j).length - z.1) (0,x) (aqv O) ⟨bg _,by
   show St w w6 (x.po (2*bB ps j) (2*bB ps j) (2*bB ps j) (2*bB ps j) (lj (ps.take j)++ []) (lh (ps.take j)++ []) (kJ (ps.take j)++ []) (lg (ps.take j)++ []) A2);simpa only [fI]using hS⟩ ?_
  clear hS iJ VE;rintro⟨i,x⟩ ev w7 ⟨hi,hS⟩;dsimp only at hi hS|-;have jh:=hS.b7 hR;have bS:=jh.at_ (i:=(j:Int)) am am;refine bL O (aM _ O (fun h2=>?_) (fun h2=>?_))
  ·have nB:i< (gl ps j).length:=by omega
   have Cn:0<=((i:Int)+1)% ((gl ps j).length:Int)/\((i:Int)+1)% ((gl ps j).length:Int)< ((gl ps j).length:Int):=⟨Int.emod_nonneg _ am,Int.emod_lt_of_pos _ am⟩;have ud:0<=((i:Int)+ ((gl ps j).length:Int) - 1)% ((gl ps j).length:Int)/\((i:Int)+ ((gl ps j).length:Int) - 1)% ((gl ps j).length:Int)< ((gl ps j).length:Int):=⟨Int.emod_nonneg _ am,Int.emod_lt_of_pos _ am⟩;refine dA O ?_;refine dU [xI ((bB ps j:Int)),xI ((i:Int)),xI (((bB ps j:Int))+ ((i:Int))),xI ((i:Int)),xI (((i:Int))+ ((1:Int))),xI (((rg rs j).n:Int)),xI (((i:Int)+1)% ((gl ps j).length:Int)),xI ((i:Int)),xI (((rg rs j).n:Int)),xI (((i:Int))+ (((rg rs j).n:Int))),xI ((((i:Int))+ (((rg rs j).n:Int))) - ((1:Int))),xI (((rg rs j).n:Int)),xI (((i:Int)+ ((gl ps j).length:Int) - 1)% ((gl ps j).length:Int)),xI (((bB ps j:Int))+ ((i:Int))),xI (((i:Int)+1)% ((gl ps j).length:Int)),xI (((i:Int)+ ((gl ps j).length:Int) - 1)% ((gl ps j).length:Int))] O (eG O) ?_ ?_
   ·refine⟨Dr O,Dr O,fun _ _ _ _ _=>aI O Az,Dr O,fun _ _ _ _ _=>aI O Az,Dr O,?_,Dr O,Dr O,fun _ _ _ _ _=>aI O Az,fun _ _ _ _ _=>dZ O Az,Dr O,?_,Dr O,Dr O,Dr O,au⟩
    ·intro e1 w1 hb hp aU;refine sO O O O am (ao.n ?_);exact d0 (by exact aE (fun k:Nat=>Value.int .i64 (((i:Int)+1)% (k:Int))) jb.symm)
    ·intro e1 w1 hb hp aU;refine sO O O O am (ao.n ?_);exact d0 (by exact aE (fun k:Nat=>Value.int .i64 (((i:Int)+ (k:Int) - 1)% (k:Int))) jb.symm)
   intro u w8 Cc _;have hS:=hS.aq Cc;have bS:=bS.aq Cc;refine eS O ?_;refine kK [10] [yS (x.a4) (2* (bB ps j+i)) (x.c4),yS ((rg rs j).a) ((rg rs j).n) ((rg rs j).c),yI ((i:Int)),yP (ay ((rg rs j).a) ((i:Int)).toNat),yI (gi (gl ps j) ((i:Int))),yS ((rg rs j).a) ((rg rs j).n) ((rg rs j).c),yI ((i:Int)),yP (ay ((rg rs j).a) ((i:Int)).toNat),yI (gi (gl ps j) ((i:Int))),.pr (fun v w'=>∃jC,v= .slice jC 2 2/\St w w' (ax 2 jC 2 2 [ke (gl ps j) i,ke (gl ps j) i]::M4.po ⟨x.a4,x.c4,x.a5,x.c5,x.a6,x.c6,x.a7,x.c7⟩ (2* (bB ps j+i)) (2* (bB ps j+i)) (2* (bB ps j+i)) (2* (bB ps j+i)) (lj (ps.take j)++fp (ke (gl ps j)) (ke (gl ps j)) i) (lh (ps.take j)++fp (sg (gl ps j)) (si (gl ps j)) i) (kJ (ps.take j)++fp (sD (bB ps j) (gl ps j)) (sE (bB ps j) (gl ps j)) i) (lg (ps.take j)++fp (se (bB ps j)) (sf (bB ps j)) i) A2)),.pr (fun v w'=>∃eu fK,v= .slice eu (2* (bB ps j+ (i+1))) fK/\St w w' (M4.po ⟨eu,fK,x.a5,x.c5,x.a6,x.c6,x.a7,x.c7⟩ (2* (bB ps j+ (i+1))) (2* (bB ps j+i)) (2* (bB ps j+i)) (2* (bB ps j+i)) (lj (ps.take j)++fp (ke (gl ps j)) (ke (gl ps j)) (i+1)) (lh (ps.take j)++fp (sg (gl ps j)) (si (gl ps j)) i) (kJ (ps.take j)++fp (sD (bB ps j) (gl ps j)) (sE (bB ps j) (gl ps j)) i) (lg (ps.take j)++fp (se (bB ps j)) (sf (bB ps j)) i) A2)),.pr (fun v w'=>∃eu fK,v= .slice eu (2* (bB ps j+ (i+1))) fK/\St w w' (M4.po ⟨eu,fK,x.a5,x.c5,x.a6,x.c6,x.a7,x.c7⟩ (2* (bB ps j+ (i+1))) (2* (bB ps j+i)) (2* (bB ps j+i)) (2* (bB ps j+i)) (lj (ps.take j)++fp (ke (gl ps j)) (ke (gl ps j)) (i+1)) (lh (ps.take j)++fp (sg (gl ps j)) (si (gl ps j)) i) (kJ (ps.take j)++fp (sD (bB ps j) (gl ps j)) (sE (bB ps j) (gl ps j)) i) (lg (ps.take j)++fp (se (bB ps j)) (sf (bB ps j)) i) A2))] (ly (ly (ly (ly (ly (ly (ly (ly (ly (cH.2 ⟨Ye.cJ (fun v w w' h hb=>by obtain⟨jC,hv,h1⟩:=h;exact⟨jC,hv,h1.aq hb⟩),(cH.2 ⟨Ye.cJ (fun v w w' h hb=>by obtain⟨eu,fK,hv,h1⟩:=h;exact⟨eu,fK,hv,h1.aq hb⟩),(cH.2 ⟨Ye.cJ (fun v w w' h hb=>by obtain⟨eu,fK,hv,h1⟩:=h;exact⟨eu,fK,hv,h1.aq hb⟩),(fun _ h=>by cases h)⟩)⟩)⟩)))))))))) ?_ ?_
   ·refine⟨?_,bZ O,bZ O,cP fun _ _ hb _ _ _=>aD (bS.aq hb).2 O (bG O O),cP fun _ _ hb _ _ _=>aY (bS.aq hb) O (bG O O),bZ O,bZ O,cP fun _ _ hb _ _ _=>aD (bS.aq hb).2 O (bG O O),cP fun _ _ hb _ _ _=>aY (bS.aq hb) O (bG O O),?_,?_,?_,au⟩
    ·intro e1 w1 cc fo dv fL hp aU hq;show ao _ _ _ _ _ _ _;refine lM O (by exact aU 11 _ O (by kernel_rfl)) O (ao.n (iz O (by exact O)))
    ·refine cP fun e1 w1 hb hp aU hq=>?_
     exact Df (St.refl _) O O O O O O fun jC xR GP=>ao.n (fM.dn O GP.below ⟨jC,O,(hS.aq hb).call GP⟩)
    ·refine kO fun e1 w1 hb hp aU hq=>?_
     obtain⟨jC,pM,h1⟩:=(hp 9 _ _ (by kernel_rfl) rfl rfl (by kernel_rfl));refine fu 1 h1 O (h1.bz 0 O) O (by exact pM) O ?_;intro eu fK QG Ca;refine ao.n ?_;exact gn.dn O ⟨eu,fK,O,by rw [KR (ke (gl ps j)) (ke (gl ps j)) i,<-gV];exact Ca.tail⟩
    ·refine dP 1 fun e1 w1 hp aU hq=>?_
     have fh:=hp 10 _ _ (by kernel_rfl) O O (by kernel_rfl);obtain⟨eu,fK,pM,h1⟩:=(hp 10 _ _ (by kernel_rfl) rfl rfl (by kernel_rfl));refine lM O (by exact pM) O (ao.n ?_);exact fM.dn O (Below.refl _ _) ⟨eu,fK,O,h1⟩
   intro u w9 _ hu _ _;obtain⟨B4,d4,Ka,hS⟩:=hu 11 _ rfl (by kernel_rfl);have bS:=(hS.b7 hR).at_ (i:=(j:Int)) am am;refine eS O ?_;refine kK [10] [yS (x.a5) (2* (bB ps j+i)) (x.c5),yS ((rg rs j).a) ((rg rs j).n) ((rg rs j).c),yI ((((i:Int)+1)% ((gl ps j).length:Int))),yP (ay ((rg rs j).a) ((((i:Int)+1)% ((gl ps j).length:Int))).toNat),yI (gi (gl ps j) ((((i:Int)+1)% ((gl ps j).length:Int)))),yS ((rg rs j).a) ((rg rs j).n) ((rg rs j).c),yI ((((i:Int)+ ((gl ps j).length:Int) - 1)% ((gl ps j).length:Int))),yP (ay ((rg rs j).a) ((((i:Int)+ ((gl ps j).length:Int) - 1)% ((gl ps j).length:Int))).toNat),yI (gi (gl ps j) ((((i:Int)+ ((gl ps j).length:Int) - 1)% ((gl ps j).length:Int)))),.pr (fun v w'=>∃jC,v= .slice jC 2 2/\St w w' (ax 2 jC 2 2 [sg (gl ps j) i,si (gl ps j) i]::M4.po ⟨B4,d4,x.a5,x.c5,x.a6,x.c6,x.a7,x.c7⟩ (2* (bB ps j+ (i+1))) (2* (bB ps j+i)) (2* (bB ps j+i)) (2* (bB ps j+i)) (lj (ps.take j)++fp (ke (gl ps j)) (ke (gl ps j)) (i+1)) (lh (ps.take j)++fp (sg (gl ps j)) (si (gl ps j)) i) (kJ (ps.take j)++fp (sD (bB ps j) (gl ps j)) (sE (bB ps j) (gl ps j)) i) (lg (ps.take j)++fp (se (bB ps j)) (sf (bB ps j)) i) A2)),.pr (fun v w'=>∃eu fK,v= .slice eu (2* (bB ps j+ (i+1))) fK/\St w w' (M4.po ⟨B4,d4,eu,fK,x.a6,x.c6,x.a7,x.c7⟩ (2* (bB ps j+ (i+1))) (2* (bB ps j+ (i+1))) (2* (bB ps j+i)) (2* (bB ps j+i)) (lj (ps.take j)++fp (ke (gl ps j)) (ke (gl ps j)) (i+1)) (lh (ps.take j)++fp (sg (gl ps j)) (si (gl ps j)) (i+1)) (kJ (ps.take j)++fp (sD (bB ps j) (gl ps j)) (sE (bB ps j) (gl ps j)) i) (lg (ps.take j)++fp (se (bB ps j)) (sf (bB ps j)) i) A2)),.pr (fun v w'=>∃eu fK,v= .slice eu (2* (bB ps j+ (i+1))) fK/\St w w' (M4.po ⟨B4,d4,eu,fK,x.a6,x.c6,x.a7,x.c7⟩ (2* (bB ps j+ (i+1))) (2* (bB ps j+ (i+1))) (2* (bB ps j+i)) (2* (bB ps j+i)) (lj (ps.take j)++fp (ke (gl ps j)) (ke (gl ps j)) (i+1)) (lh (ps.take j)++fp (sg (gl ps j)) (si (gl ps j)) (i+1)) (kJ (ps.take j)++fp (sD (bB ps j) (gl ps j)) (sE (bB ps j) (gl ps j)) i) (lg (ps.take j)++fp (se (bB ps j)) (sf (bB ps j)) i) A2))] (ly (ly (ly (ly (ly (ly (ly (ly (ly (cH.2 ⟨Ye.cJ (fun v w w' h hb=>by obtain⟨jC,hv,h1⟩:=h;exact⟨jC,hv,h1.aq hb⟩),(cH.2 ⟨Ye.cJ (fun v w w' h hb=>by obtain⟨eu,fK,hv,h1⟩:=h;exact⟨eu,fK,hv,h1.aq hb⟩),(cH.2 ⟨Ye.cJ (fun v w w' h hb=>by obtain⟨eu,fK,hv,h1⟩:=h;exact⟨eu,fK,hv,h1.aq hb⟩),(fun _ h=>by cases h)⟩)⟩)⟩)))))))))) ?_ ?_
   ·refine⟨?_,bZ O,bZ O,cP fun _ _ hb _ _ _=>aD (bS.aq hb).2 O (bG O O),cP fun _ _ hb _ _ _=>aY (bS.aq hb) O (bG O O),bZ O,bZ O,cP fun _ _ hb _ _ _=>aD (bS.aq hb).2 O (bG O O),cP fun _ _ hb _ _ _=>aY (bS.aq hb) O (bG O O),?_,?_,?_,au⟩
    ·intro e1 w1 cc fo dv fL hp aU hq;show ao _ _ _ _ _ _ _;refine lM O (by exact aU 11 _ O (by kernel_rfl)) O (ao.n (iz O (by exact O)))
    ·refine cP fun e1 w1 hb hp aU hq=>?_
     exact Df (St.refl _) O O O O O O fun jC xR GP=>ao.n (fM.dn O GP.below ⟨jC,O,(hS.aq hb).call GP⟩)
    ·refine kO fun e1 w1 hb hp aU hq=>?_
     obtain⟨jC,pM,h1⟩:=(hp 9 _ _ (by kernel_rfl) rfl rfl (by kernel_rfl));refine fu 2 h1 O (h1.bz 0 O) O (by exact pM) O ?_;intro eu fK QG Ca;refine ao.n ?_;exact gn.dn O ⟨eu,fK,O,by rw [KR (sg (gl ps j)) (si (gl ps j)) i,<-gV];exact Ca.tail⟩
    ·refine dP 1 fun e1 w1 hp aU hq=>?_
     have fh:=hp 10 _ _ (by kernel_rfl) O O (by kernel_rfl);obtain⟨eu,fK,pM,h1⟩:=(hp 10 _ _ (by kernel_rfl) rfl rfl (by kernel_rfl));refine lM O (by exact pM) O (ao.n ?_);exact fM.dn O (Below.refl _ _) ⟨eu,fK,O,h1⟩
   intro u dY _ hu _ _;obtain⟨B5,d5,hv5,hS⟩:=hu 11 _ rfl (by kernel_rfl);have bS:=(hS.b7 hR).at_ (i:=(j:Int)) am am;refine jD O (aI O (sN O O O am (aI O (ar O (aI O (sN O O O am ?_))))));refine Df hS O O O O O O ?_;intro jC eF aH;have aH:St w eF (ax 2 jC 2 2 [sD (bB ps j) (gl ps j) i,sE (bB ps j) (gl ps j) i]::M4.po ⟨B4,d4,B5,d5,x.a6,x.c6,x.a7,x.c7⟩ (2* (bB ps j+ (i+1))) (2* (bB ps j+ (i+1))) (2* (bB ps j+i)) (2* (bB ps j+i)) (lj (ps.take j)++fp (ke (gl ps j)) (ke (gl ps j)) (i+1)) (lh (ps.take j)++fp (sg (gl ps j)) (si (gl ps j)) (i+1)) (kJ (ps.take j)++fp (sD (bB ps j) (gl ps j)) (sE (bB ps j) (gl ps j)) i) (lg (ps.take j)++fp (se (bB ps j)) (sf (bB ps j)) i) A2):=aH;refine fu 3 aH O (aH.bz 0 O) O O O ?_;intro B6 d6 fH aF;have hS:St w fH (M4.po ⟨B4,d4,B5,d5,B6,d6,x.a7,x.c7⟩ (2* (bB ps j+ (i+1))) (2* (bB ps j+ (i+1))) (2* (bB ps j+ (i+1))) (2* (bB ps j+i)) (lj (ps.take j)++fp (ke (gl ps j)) (ke (gl ps j)) (i+1)) (lh (ps.take j)++fp (sg (gl ps j)) (si (gl ps j)) (i+1)) (kJ (ps.take j)++fp (sD (bB ps j) (gl ps j)) (sE (bB ps j) (gl ps j)) (i+1)) (lg (ps.take j)++fp (se (bB ps j)) (sf (bB ps j)) i) A2):=by
    rw [KR (sD (bB ps j) (gl ps j)) (sE (bB ps j) (gl ps j)) i,<-gV];exact aF.tail
   clear aH aF;refine ar O (sN O O O am (aI O (ar O (sN O O O am ?_))));refine Df hS O O O O O O ?_;intro jC gG aH;have aH:St w gG (ax 2 jC 2 2 [se (bB ps j) i,sf (bB ps j) i]::M4.po ⟨B4,d4,B5,d5,B6,d6,x.a7,x.c7⟩ (2* (bB ps j+ (i+1))) (2* (bB ps j+ (i+1))) (2* (bB ps j+ (i+1))) (2* (bB ps j+i)) (lj (ps.take j)++fp (ke (gl ps j)) (ke (gl ps j)) (i+1)) (lh (ps.take j)++fp (sg (gl ps j)) (si (gl ps j)) (i+1)) (kJ (ps.take j)++fp (sD (bB ps j) (gl ps j)) (sE (bB ps j) (gl ps j)) (i+1)) (lg (ps.take j)++fp (se (bB ps j)) (sf (bB ps j)) i) A2):=aH;refine fu 4 aH O (aH.bz 0 O) O O O ?_;intro B7 d7 mO aF;have hS:St w mO (M4.po ⟨B4,d4,B5,d5,B6,d6,B7,d7⟩ (2* (bB ps j+ (i+1))) (2* (bB ps j+ (i+1))) (2* (bB ps j+ (i+1))) (2* (bB ps j+ (i+1))) (lj (ps.take j)++fp (ke (gl ps j)) (ke (gl ps j)) (i+1)) (lh (ps.take j)++fp (sg (gl ps j)) (si (gl ps j)) (i+1)) (kJ (ps.take j)++fp (sD (bB ps j) (gl ps j)) (sE (bB ps j) (gl ps j)) (i+1)) (lg (ps.take j)++fp (se (bB ps j)) (sf (bB ps j)) (i+1)) A2):=by
    rw [KR (se (bB ps j)) (sf (bB ps j)) i,<-gV];exact aF.tail
   clear aH aF;refine ar O (aI O (aT O (tQ ?_)));exact⟨(i+1,⟨B4,d4,B5,d5,B6,d6,B7,d7⟩),by show(gl ps j).length - (i+1)< (gl ps j).length - i;omega,⟨O,O,O,Ka,hv5,O,O,O,O,O,O,aE (Value.int .i64) am,au⟩,by show i+1<=(gl ps j).length;omega,hS⟩
  ·obtain rfl:i=(gl ps j).length:=by omega
   rw [<-tf]at hS;refine bp O (bt (cS O (aI O (ar O (aI O (aT O (tQ ?_)))))));refine⟨(j+1,x),by show n - (j+1)<n - j;omega,⟨O,O,O,aE (fun m=>Value.slice x.a4 (2*m) x.c4) tf.symm,aE (fun m=>Value.slice x.a5 (2*m) x.c5) tf.symm,aE (fun m=>Value.slice x.a6 (2*m) x.c6) tf.symm,aE (fun m=>Value.slice x.a7 (2*m) x.c7) tf.symm,aE (Value.int .i64) (by show(bB ps j:Int)+ ((rg rs j).n:Int)=(bB ps (j+1):Int);omega),aE (Value.int .i64) am,au⟩,by show j+1<=n;omega,?_⟩;show St w w7 (x.po _ _ _ _ (lj (ps.take (j+1))) (lh (ps.take (j+1))) (kJ (ps.take (j+1))) (lg (ps.take (j+1))) A2);rw [akI (by omega),akG (by omega),aoq (by omega),akz (by omega)];exact hS
 obtain rfl:j=n:=by omega
 have td:bB ps j=ps.flatten.length:=by unfold bB;rw [List.take_of_length_le (by omega)]
 rw [td,iY (by omega:ps.length<=j)]at hS;have hOl:=akH ps;have T9:=akF ps;generalize hV:ps.flatten.length=V at*;generalize hO:lj ps=Ow at*;generalize hT:lh ps=T at*;have JT:=dp.one;rw [hV,hO,hT]at JT;refine bp O (bt (cS O ?_));refine jr hS O ?_;clear hS;intro gB w7 hS;refine aC O (Cd.loop (α:=Nat×aj×Nat) (fun z=> [(2,.pointer A2),(3,.bool false),(4,.slice x.a4 (2*V) x.c4),(5,.slice x.a5 (2*V) x.c5),(6,.slice x.a6 (2*V) x.c6),(7,.slice x.a7 (2*V) x.c7),(16,.slice z.2.1 z.1 z.2.2),(17,ak (z.1:Int))]) (fun z w'=>z.1<=2*V/\St w w' (ax 2 z.2.1 z.1 z.2.2 ((pe Ow T).take z.1)::x.po (2*V) (2*V) (2*V) (2*V) Ow T (kJ ps) (lg ps) A2)) (fun z=>2*V - z.1) (0,gB,0) ⟨O,O,aE (fun m=>Value.slice x.a4 (2*m) x.c4) td,aE (fun m=>Value.slice x.a5 (2*m) x.c5) td,aE (fun m=>Value.slice x.a6 (2*m) x.c6) td,aE (fun m=>Value.slice x.a7 (2*m) x.c7) td,O,O,au⟩ ⟨bg _,hS⟩ ?_);clear hS;rintro⟨f,gB,BF⟩ ev w8 ⟨hf,hS⟩;dsimp only at hf hS|-;refine bh O (a8 O O (aC O ?_));refine aM _ O (fun h3=>?_) (fun h3=>?_)
 ·have hfV:f<2*V:=by omega
  refine aA O (jr hS O ?_);clear hS;intro tF w9 hS;refine aC O (Cd.loop (α:=Nat×aj×Nat) (fun z=> [(2,.pointer A2),(3,.bool false),(4,.slice x.a4 (2*V) x.c4),(5,.slice x.a5 (2*V) x.c5),(6,.slice x.a6 (2*V) x.c6),(7,.slice x.a7 (2*V) x.c7),(16,.slice gB f BF),(17,ak f),(18,.slice z.2.1 (tU Ow T f z.1).length z.2.2),(19,ak (z.1:Int))]) (fun z w'=>z.1<=2*V/\St w w' (ax 2 z.2.1 (tU Ow T f z.1).length z.2.2 (tU Ow T f z.1)::ax 2 gB f BF ((pe Ow T).take f)::x.po (2*V) (2*V) (2*V) (2*V) Ow T (kJ ps) (lg ps) A2)) (fun z=>2*V - z.1) (0,tF,0) (aqv O) ⟨bg _,hS⟩ ?_);clear hS;rintro⟨g,tF,BG⟩ ev dY ⟨hg,hS⟩;dsimp only at hg hS|-;refine bh O (a8 O O (aC O ?_));refine aM _ O (fun h4=>?_) (fun h4=>?_)
  ·have hgV:g<2*V:=by omega
   have hOr:cL dY x.a4 (2*V) Ow:=hS.bz 2 O;have z6:cL dY x.a5 (2*V) T:=hS.bz 3 O;have kc:=acV Ow T f g;refine dA O ?_
   by_cases q1:(g:Int)=(f:Int)
   ·--dup 4
    have av:=Mq (Ow:=Ow) (T:=T) (f:=f) (g:=g) (fun h=>h.1 am);refine dU [xI ((g:Int)),xI ((f:Int)),xB (false),xB (false),xU,xU,xU,xU,xU,xU,xU,xU,xU,xB (false),xB (false),xU,xU,xU,xU,xU,xU,xU,xU,xU,xB (false)] O (eG O) ?_ ?_
    ·exact⟨Dr O,Dr O,fun _ _ _ _ _=>Dk O (by exact aE Value.bool (cT (fun h=>h q1))),Dr O,Dr O,Dr O,Dr O,Dr O,Dr O,Dr O,Dr O,Dr O,Dr O,Dr O,Dr O,Dr O,Dr O,Dr O,Dr O,Dr O,Dr O,Dr O,Dr O,Dr O,Dr O,au⟩
    intro u eF hb _;refine eS O (Cd.fg O ?_);refine aA O (aI O (aT O (tQ ?_)));exact⟨(g+1,tF,BG),by show 2*V - (g+1)<2*V - g;omega,⟨O,O,O,O,O,O,O,O,aE (fun l:ai=>Value.slice tF l.length BG) av.symm,aE (Value.int .i64) am,au⟩,by show g+1<=2*V;omega,by rw [av];exact hS.aq hb⟩
   by_cases q2:gi Ow g=gi Ow f
   ·by_cases q3:gi T g=gi T f
    ·have av:=acW (Ow:=Ow) (T:=T) (f:=f) (g:=g) ⟨am,q2,q3⟩;refine dU [xI ((g:Int)),xI ((f:Int)),xB (true),xB (true),xS (x.a4) (2*V) (x.c4),xI ((g:Int)),xP (ay (x.a4) ((g:Int)).toNat),xI (gi (Ow) ((g:Int))),xS (x.a4) (2*V) (x.c4),xI ((f:Int)),xP (ay (x.a4) ((f:Int)).toNat),xI (gi (Ow) ((f:Int))),xB (true),xB (true),xB (true),xS (x.a5) (2*V) (x.c5),xI ((g:Int)),xP (ay (x.a5) ((g:Int)).toNat),xI (gi (T) ((g:Int))),xS (x.a5) (2*V) (x.c5),xI ((f:Int)),xP (ay (x.a5) ((f:Int)).toNat),xI (gi (T) ((f:Int))),xB (true),xB (true)] O (eG O) ?_ ?_
     ·exact⟨Dr O,Dr O,fun _ _ _ _ _=>Dk O (by exact aE Value.bool (dz q1)),Dr O,Dr O,Dr O,fun _ _ hb _ _=>aw O (aD (hOr.aq hb).2 O Az),fun _ _ hb _ _=>aw O (aY (hOr.aq hb) O Az),Dr O,Dr O,fun _ _ hb _ _=>aw O (aD (hOr.aq hb).2 O Az),fun _ _ hb _ _=>aw O (aY (hOr.aq hb) O Az),fun _ _ _ _ _=>Dk O (by exact aE Value.bool (dz q2)),Dr O,Dr O,Dr O,Dr O,fun _ _ hb _ _=>aw O (aD (z6.aq hb).2 O Az),fun _ _ hb _ _=>aw O (aY (z6.aq hb) O Az),Dr O,Dr O,fun _ _ hb _ _=>aw O (aD (z6.aq hb).2 O Az),fun _ _ hb _ _=>aw O (aY (z6.aq hb) O Az),fun _ _ _ _ _=>Dk O (by exact aE Value.bool (dz q3)),Dr O,au⟩
     intro u eF hb _;have hS:=hS.aq hb;refine eS O (Cd.gu O (aA O (eL hS O O O ?_)));intro A140 fH dT;refine fu 1 dT O (dT.bz 0 O) O O O fun QT d18 gG ja=>ar O (aI O (aT O (tQ ?_)));exact⟨(g+1,QT,d18),by show 2*V - (g+1)<2*V - g;omega,⟨O,O,O,O,O,O,O,O,aE (fun m:Nat=>Value.slice QT m d18) (by rw [av,ck];rfl),aE (Value.int .i64) am,au⟩,by show g+1<=2*V;omega,by rw [av,ck];exact ja.tail⟩
    ·have av:=Mq (Ow:=Ow) (T:=T) (f:=f) (g:=g) (fun h=>q3 h.2.2);refine dU [xI ((g:Int)),xI ((f:Int)),xB (true),xB (true),xS (x.a4) (2*V) (x.c4),xI ((g:Int)),xP (ay (x.a4) ((g:Int)).toNat),xI (gi (Ow) ((g:Int))),xS (x.a4) (2*V) (x.c4),xI ((f:Int)),xP (ay (x.a4) ((f:Int)).toNat),xI (gi (Ow) ((f:Int))),xB (true),xB (true),xB (true),xS (x.a5) (2*V) (x.c5),xI ((g:Int)),xP (ay (x.a5) ((g:Int)).toNat),xI (gi (T) ((g:Int))),xS (x.a5) (2*V) (x.c5),xI ((f:Int)),xP (ay (x.a5) ((f:Int)).toNat),xI (gi (T) ((f:Int))),xB (false),xB (false)] O (eG O) ?_ ?_
     ·exact⟨Dr O,Dr O,fun _ _ _ _ _=>Dk O (by exact aE Value.bool (dz q1)),Dr O,Dr O,Dr O,fun _ _ hb _ _=>aw O (aD (hOr.aq hb).2 O Az),fun _ _ hb _ _=>aw O (aY (hOr.aq hb) O Az),Dr O,Dr O,fun _ _ hb _ _=>aw O (aD (hOr.aq hb).2 O Az),fun _ _ hb _ _=>aw O (aY (hOr.aq hb) O Az),fun _ _ _ _ _=>Dk O (by exact aE Value.bool (dz q2)),Dr O,Dr O,Dr O,Dr O,fun _ _ hb _ _=>aw O (aD (z6.aq hb).2 O Az),fun _ _ hb _ _=>aw O (aY (z6.aq hb) O Az),Dr O,Dr O,fun _ _ hb _ _=>aw O (aD (z6.aq hb).2 O Az),fun _ _ hb _ _=>aw O (aY (z6.aq hb) O Az),fun _ _ _ _ _=>Dk O (by exact aE Value.bool (cT q3)),Dr O,au⟩
     intro u eF hb _;refine eS O (Cd.fg O ?_);refine aA O (aI O (aT O (tQ ?_)));exact⟨(g+1,tF,BG),by show 2*V - (g+1)<2*V - g;omega,⟨O,O,O,O,O,O,O,O,aE (fun l:ai=>Value.slice tF l.length BG) av.symm,aE (Value.int .i64) am,au⟩,by show g+1<=2*V;omega,by rw [av];exact hS.aq hb⟩
   ·have av:=Mq (Ow:=Ow) (T:=T) (f:=f) (g:=g) (fun h=>q2 h.2.1);refine dU [xI ((g:Int)),xI ((f:Int)),xB (true),xB (true),xS (x.a4) (2*V) (x.c4),xI ((g:Int)),xP (ay (x.a4) ((g:Int)).toNat),xI (gi (Ow) ((g:Int))),xS (x.a4) (2*V) (x.c4),xI ((f:Int)),xP (ay (x.a4) ((f:Int)).toNat),xI (gi (Ow) ((f:Int))),xB (false),xB (false),xB (false),xU,xU,xU,xU,xU,xU,xU,xU,xU,xB (false)] O (eG O) ?_ ?_
    ·exact⟨Dr O,Dr O,fun _ _ _ _ _=>Dk O (by exact aE Value.bool (dz q1)),Dr O,Dr O,Dr O,fun _ _ hb _ _=>aw O (aD (hOr.aq hb).2 O Az),fun _ _ hb _ _=>aw O (aY (hOr.aq hb) O Az),Dr O,Dr O,fun _ _ hb _ _=>aw O (aD (hOr.aq hb).2 O Az),fun _ _ hb _ _=>aw O (aY (hOr.aq hb) O Az),fun _ _ _ _ _=>Dk O (by exact aE Value.bool (cT q2)),Dr O,Dr O,Dr O,Dr O,Dr O,Dr O,Dr O,Dr O,Dr O,Dr O,Dr O,Dr O,au⟩
    intro u eF hb _;refine eS O (Cd.fg O ?_);refine aA O (aI O (aT O (tQ ?_)));exact⟨(g+1,tF,BG),by show 2*V - (g+1)<2*V - g;omega,⟨O,O,O,O,O,O,O,O,aE (fun l:ai=>Value.slice tF l.length BG) av.symm,aE (Value.int .i64) am,au⟩,by show g+1<=2*V;omega,by rw [av];exact hS.aq hb⟩
  ·obtain rfl:g=2*V:=by omega
   have u5:tU Ow T f (2*V)=FT Ow T f:=by unfold FT tU;rw [hOl]
   have pw:=JT f (ig.2 hfV);rw [<-u5]at pw;refine bp O (bt (cS O (a8 O O (aC O ?_))));refine Cd.fg (by exact aE Value.bool (cT (fun h=>h (by rw [pw];rfl)))) ?_;refine aA O (aD (hS.bz 0 O).2 O (aY (hS.bz 0 O) O (eL hS O O O ?_)));intro A151 eF eH;refine fu 2 eH O (eH.bz 0 O) O O O fun QS d16 fH dT=>ar O (aI O (aT O (tQ ?_)));exact⟨(f+1,QS,d16),by show 2*V - (f+1)<2*V - f;omega,⟨O,O,O,O,O,O,O,aE (Value.int .i64) am,au⟩,by show f+1<=2*V;omega,by
    show St w fH (ax 2 QS (f+1) d16 ((pe Ow T).take (f+1))::_);rw [anI (by omega),<-u5];exact dT.tail.tail⟩
 ·obtain rfl:f=2*V:=by omega
  have Nl:=aop ps;have hNl:=aky ps;rw [hV]at Nl hNl;rw [List.take_of_length_le (by unfold pe;rw [List.length_map,List.length_range];omega)]at hS;refine bp O (bt (cS O ?_));refine Q9 (s0:=⟨x.a6,2*V,x.c6⟩) (s1:=⟨x.a7,2*V,x.c7⟩) (s2:=⟨gB,2*V,BF⟩) hS O O O O ?_;clear hS;intro rr w9 hS;refine Fm (by exact inferInstance) O O O O (ib hS O ?_);clear hS;intro jC dY hS;refine b5 1 0 hS O O O O O O O ?_;clear hS;intro eF hS;have hS:St w eF (Bx 24 1 jC [.slice rr 3 3]::Bx 24 1 A2 [.slice none 0 0]::aS 34 2 rr 3 3 [⟨x.a6,2*V,x.c6⟩,⟨x.a7,2*V,x.c7⟩,⟨gB,2*V,BF⟩] [kJ ps,lg ps,pe Ow T]):=(show St w eF (Bx 24 1 jC [.slice rr 3 3]::cg 34 rr 3 3 [⟨x.a6,2*V,x.c6⟩,⟨x.a7,2*V,x.c7⟩,⟨gB,2*V,BF⟩]::ax 2 gB (2*V) BF (pe Ow T)::ax 2 x.a4 (2*V) x.c4 Ow::ax 2 x.a5 (2*V) x.c5 T::ax 2 x.a6 (2*V) x.c6 (kJ ps)::ax 2 x.a7 (2*V) x.c7 (lg ps)::[Bx 24 1 A2 [.slice none 0 0]]) from hS).ak4;have N4:mapM ps=[kJ ps,lg ps,pe Ow T]:=by unfold mapM;rw [hO,hT]
  rw [N4];generalize hMe:[kJ ps,lg ps,pe Ow T]=M at*;generalize hre:[(⟨x.a6,2*V,x.c6⟩:aO),⟨x.a7,2*V,x.c7⟩,⟨gB,2*V,BF⟩]=rM at*;obtain⟨bM,Ul⟩:∃bM:Bool,bM=decide (bI M):=⟨_,rfl⟩;have hMl:M.length=3:=by rw [<-hMe];rfl
  have cn:rM.length=3:=by rw [<-hre];rfl
  refine aC O (C9 (by kernel_rfl) (by kernel_rfl) (fun S e1 w1=>PdE w A2 jC rr rM M bM S e1 w1) (fun w4 hb=> ⟨O,O,fun h=> (nomatch h),fun h=> (nomatch h),fun h=> (nomatch h),fun h=> (nomatch h),.slice none 0 0,fun h=> (nomatch h),hS.aq hb⟩) ?_ ?_)
  ·intro S q o e1 w4 hq cV hd de hI;obtain⟨f20,f2,p0,p1,p2,p4,B2,m3,hT⟩:=hI
   match q,hq,cV with
   | 0,hq,cV=>
    obtain rfl:=dG hq;refine ao.cN 0 (hT.rd 0 O) (by exact f20) O O (ao.n ?_);exact⟨f20,f2,fun _=>O,p1,p2,p4,B2,m3,hT⟩
   | 1,hq,cV=>
    obtain rfl:=dG hq;refine ao.cN 0 (hT.rd 0 O) (by exact f20) O O (ao.n ?_);exact⟨f20,f2,p0,fun _=>O,p2,p4,B2,m3,hT⟩
   | 2,hq,cV=>
    obtain rfl:=dG hq;have km:bF w4 rr 3 rM M:=St.jB (ks:=[]) (by rw [fI];exact hT.sub (((lJ _).cons _).cons _)) hMl;refine aqm (Wl rr 3 3 rM M _ km am) O (by exact aE (fun v=> [v]) (p1 (eo hd 1 O))) O ?_;rintro _ w9 ⟨rfl,av⟩;have hT:=hT.aq av.below;refine ao.n ?_;exact⟨f20,f2,p0,p1,fun _=>by rw [Ul];rfl,p4,B2,m3,hT⟩
   | 3,hq,cV=>
    obtain rfl:=dG hq;refine b5 1 1 hT O (by exact f2) (by exact p0 (eo hd 0 O)) O O O O ?_;intro w9 hT;exact ao.n ⟨f20,f2,p0,p1,p2,p4,.slice rr 3 3,fun _=>O,hT⟩
   | 4,hq,cV=>
    obtain rfl:=dG hq;refine Rh O (by exact p2 (eo hd 2 O)) O (ao.n ?_);exact⟨f20,f2,p0,p1,p2,fun _=>O,B2,m3,hT⟩
   | q+5,hq,_=>exact(nomatch hq)
  ·intro S e1 w4 dt hI;obtain⟨f20,f2,p0,p1,p2,p4,B2,m3,hT⟩:=hI;obtain rfl:=m3 (dt 3 an);refine Xv (F:=[(2,.pointer A2),(3,.bool bM)]) ⟨f2,p4 (dt 4 an),au⟩ (zz O (kG O (hT.rd 1 O) O ?_));exact⟨rr,3,rM,by rw [<-Ul];rfl,cn,hT.tail.tail⟩
end
section
open Go.RowKit Go.MapKept
structure Bt{κ:Type}(P:Program)(kt:ae)(kv:κ->ad)(ok:κ->Prop):Prop where
 law:Go.Maps.Keyed P kt
 isKey:∀a,ok a->∃l,keyOf P kt (kv a)=some l
 inj:∀a b,kv a=kv b->a=b
section
variable {κ ν:Type} [DecidableEq κ] {kt:ae} {kv:κ->ad} {vv:ν->ad} {ok:κ->Prop} {P:Program}
theorem Te:∀ {L:List (κ×ν)} {x:κ} {j:Nat} {v:ν},(L.map (·.1)).Nodup->L[j]?=some (x,v)->lz L x=some (j,v)
 | [],_,_,_,_,h=>by simp at h
 | (y,u)::r,x,0,v,_,h=>by
  simp only [List.getElem?_cons_zero,mB,Prod.mk.injEq]at h;obtain⟨rfl,rfl⟩:=h;simp [lz]
 | (y,u)::r,x,j+1,v,hn,h=>by
  rw [List.getElem?_cons_succ]at h;rw [List.map_cons,mf]at hn;have bP:¬y=x:=fun e=>hn.1 (by subst e;exact dF.2 ⟨(y,v),List.mem_of_getElem? h,rfl⟩)
  simp only [lz,az bP,Te hn.2 h,Option.map_some]
theorem Tf:∀ {L:List (κ×ν)} {x:κ},(∀p∈L,p.1≠x)->lz L x=none
 | [],_,_=>rfl
 | (y,u)::r,x,h=>by
  simp only [lz,az (h (y,u) (by simp)),Tf (L:=r) fun p hp=>h p (by simp [hp]),Option.map_none]
theorem Bt.find(KG:Bt P kt kv ok)(w:aa){x:κ}(hx:ok x){l:List MapEntry}{L:List (κ×ν)}(hl:l.map (fun e=> (e.key,e.val))=eC kv vv L)(dp:∀p∈L,ok p.1)(hn:(L.map (·.1)).Nodup):(Instr.findKey kt (kv x) l).run P w= .ok ((lz L x).map fun p=> (p.1,vv p.2)) w:=by
 obtain⟨lx,tn⟩:=KG.isKey x hx;have Aj:∀j:Nat,(l[j]?.map fun e=> (e.key,e.val))=L[j]?.map fun p=> (kv p.1,vv p.2):=fun j=>by
  have:=aE (fun q=>q[j]?) hl;simpa [eC]using this
 have afO:∀e∈l,∃p∈L,e.key=kv p.1:=fun e he=>by
  obtain⟨j,hj⟩:=List.mem_iff_getElem?.1 he;have h1:=Aj j;rw [hj,Option.map_some]at h1;obtain⟨p,hp,h2⟩:=Option.map_eq_some_iff.1 h1.symm;exact⟨p,List.mem_of_getElem? hp,(aE Prod.fst h2).symm⟩
 rcases KG.law.find w tn l (fun e he=>by obtain⟨p,hp,h⟩:=afO e he;rw [h];exact KG.isKey p.1 (dp p hp))with⟨h1,h2⟩ | ⟨j,e,h1,h2,h3⟩
 ·rw [h1,Tf fun p hp he=>?_,Option.map_none];obtain⟨j,hj⟩:=List.mem_iff_getElem?.1 hp;have h4:=Aj j;rw [hj,Option.map_some]at h4;obtain⟨e,qQ,h5⟩:=Option.map_eq_some_iff.1 h4;have h6:e.key=kv p.1:=aE Prod.fst h5;exact h2 e (List.mem_of_getElem? qQ) (by rw [h6,he])
 have h4:=Aj j;rw [h2,Option.map_some]at h4;obtain⟨p,hp,h5⟩:=Option.map_eq_some_iff.1 h4.symm;have h6:kv p.1=kv x:=((aE Prod.fst h5:kv p.1=e.key)).trans h3;have h7:=KG.inj _ _ h6;have h8:L[j]?=some (x,p.2):=by rw [hp,<-h7]
 have h9:vv p.2=e.val:=aE Prod.snd h5;rw [h1,Te hn h8,Option.map_some,<-h9]
theorem XG:∀ {L:List (κ×ν)} {x:κ} {u:ν},(L.map (·.1)).Nodup->((fj L x u).map (·.1)).Nodup/\∀y,y∈(fj L x u).map (·.1)↔y=x\/y∈L.map (·.1)
 | [],x,u,_=>by simp [fj]
 | (z,v)::r,x,u,h=>by
  rw [List.map_cons,mf]at h;simp only [fj]
  split
  ·rename_i e;subst e;exact⟨by rw [List.map_cons,mf];exact h,fun y=>by simp⟩
  ·rename_i e;have ih:=XG (x:=x) (u:=u) h.2;refine⟨by
    rw [List.map_cons,mf];refine⟨fun hm=>?_,ih.1⟩;rcases(ih.2 z).1 hm with h1 | h1
    ·exact e h1
    ·exact h.1 h1,fun y=>?_⟩
   rw [List.map_cons,iX,ih.2,List.map_cons,iX];exact⟨fun h=>by rcases h with h | h | h<;>simp [h],fun h=>by rcases h with h | h | h<;>simp [h]⟩
end
section
variable{t et T:ae}{b:Nat}
variable {P:Program} {N:Nat} {ops:Array Oper} {K:Env->aa->Prop} {rest:List Oper} {e:Env} {w0 w w':aa} {ks:List Ck} {d:Nat} {ty:ae} {pos:String} {af:Array Edge}
variable {κ ν:Type} [DecidableEq κ] {kt:ae} {kv:κ->ad} {vv:ν->ad} {ok:κ->Prop}
theorem amr{z:ad}{s:Nat}[hU:bA P t (.map kt et)][bq P et z s b](KG:Bt P kt kv ok){g:Nat}{L:List (κ×ν)}{x:κ}(hx:ok x)(dp:∀p∈L,ok p.1)(hn:(L.map (·.1)).Nodup)(hR:vJ w g (eC kv vv L))(okB:Bool):
 (Instr.lookup t (.map (some g)) (kv x) okB).run P w= .ok (if okB then .tuple #[((dS L x).map vv).getD z,.bool (dS L x).isSome]else((dS L x).map vv).getD z) w:=by
 obtain⟨es,cl,hh,hm⟩:=hR;obtain⟨inf,hi,dX,_,_⟩:=bq.get P et;obtain⟨lx,tn⟩:=KG.isKey x hx;have oZ:=KG.find (vv:=vv) w hx hm dp hn;rw [Mn];unfold Instr.lookup;simp only [Sem.run_bind,run_underlying hU.out,Result.andThen,MapKept.run_getObj_map hh,KG.law.check _ _ tn];cases kW:lz L x with
 | none=>
  rw [kW]at oZ;cases okB<;>simp [oZ,zeroValue,typeInfo,hi,dX]
 | some p=>
  rw [kW]at oZ;cases okB<;>simp [oZ]
theorem Z0{z v:ad}{s:Nat}[bA P t (.map kt et)][bq P et z s b](KG:Bt P kt kv ok){g:Nat}{L:List (κ×ν)}{m ix:ag}{x:κ}(hx:ok x)(dp:∀p∈L,ok p.1)(hn:(L.map (·.1)).Nodup)(hR:vJ w g (eC kv vv L))(hm:ev e m= .map (some g))(hy:ev e ix=kv x)(hv:((dS L x).map vv).getD z=v)(hb:Nat.blt d N=true)(hK:ao P N ops K rest (bn e d v) w):ao P N ops K (⟨some d,.lookup t m ix false,ty,pos,af,none⟩::rest) e w:=by
 subst hv;refine .val (w':=w) ?_ hb hK;have:=amr (P:=P) (t:=t) KG hx dp hn hR false;simp [execOp,hm,hy,this]
theorem amu[hU:bA P t (.map kt et)](KG:Bt P kt kv ok){g:Nat}{L:List (κ×ν)}(i:Nat)(x:κ)(u:ν)(hx:ok x)(dp:∀p∈L,ok p.1)(hn:(L.map (·.1)).Nodup)(hS:St w0 w ks)(hi:ks[i]?=some (fN T g (eC kv vv L))):
 ∃w',(Instr.mapUpdate t (.map (some g)) (kv x) (vv u)).run P w= .ok () w'/\St w0 w' (ks.set i (fN T g (eC kv vv (fj L x u)))):=by
 obtain⟨_,es,cl,hh,hm,o8⟩:=hS.Hd i hi;obtain⟨lx,tn⟩:=KG.isKey x hx;have oZ:=KG.find (vv:=vv) w hx hm dp hn;cases kW:lz L x with
 | none=>
  refine⟨{ w with heap:=w.heap.setIfInBounds g (.map (es.push ⟨kv x,vv u,cl⟩) (cl+1)) },?_,hS.E1 hi ?_ (WK o8 _ _)⟩
  ·simp [Instr.mapUpdate,run_underlying hU.out,MapKept.run_getObj_map hh,KG.law.check _ _ tn,oZ,kW,MapKept.run_setObj_map _ hh,Result.andThen]
  ·rw [Mo kW];simp only [Array.toList_push,iI,hm,eC]
   rfl
 | some p=>
  obtain⟨j,v⟩:=p;obtain⟨h1,h2⟩:=Mp kW;have mn:j<L.length:=(gx.1 h1).1;have jw:es.toList.length=L.length:=by have:=aE List.length hm;simpa [eC]using this
  have hes:es.size=L.length:=by simpa using jw
  have u7:j<es.size:=by omega
  have NV:es[j].key=kv x:=by
   have:=aE (fun l=>l[j]?) hm;simp [eC,h1,u7]at this;exact this.1
  have av:=KG.law.stays w tn;refine⟨{ w with heap:=w.heap.setIfInBounds g (.map (es.modify j fun e=> { e with key:=kv x,val:=vv u }) cl) },?_,hS.E1 hi ?_ (WJ o8 _ _ _)⟩
  ·simp [Instr.mapUpdate,run_underlying hU.out,MapKept.run_getObj_map hh,KG.law.check _ _ tn,oZ,kW,MapKept.run_setObj_map _ hh,Result.andThen,u7,NV,av]
  ·rw [h2 u];apply List.ext_getElem?;intro q;have hq:=aE (fun l=>l[q]?) hm;simp only [eC,List.getElem?_map,Array.getElem?_toList]at hq;simp only [eC,List.getElem?_map,mR,Array.getElem?_toList,Array.getElem?_modify]
   by_cases e1:j=q
   ·subst e1;simp [u7,mn]
   ·rw [az e1,az e1];exact hq
theorem aad{op:Op}{m k x:ag}[hU:bA P t (.map kt et)](o4:KU op=some (t,m,k,x))(KG:Bt P kt kv ok){g:Nat}{L:List (κ×ν)}(i:Nat){a:κ}{u:ν}(ha:ok a)(dp:∀p∈L,ok p.1)(hn:(L.map (·.1)).Nodup)(hS:St w0 w ks)(hi:ks[i]?=some (fN T g (eC kv vv L)))(hm:ev e m= .map (some g))(hk:ev e k=kv a)(hx:ev e x=vv u)(hK:∀w',St w0 w' (ks.set i (fN T g (eC kv vv (fj L a u))))->ao P N ops K rest e w'):ao P N ops K (⟨none,op,ty,pos,af,none⟩::rest) e w:=by
 obtain⟨w',ko,kU⟩:=amu (P:=P) (t:=t) KG i a u ha dp hn hS hi;refine .unit (w':=w') ?_ (hK _ kU);cases op<;>simp [KU]at o4<;>obtain⟨rfl,rfl,rfl,rfl⟩:=o4<;>simp [execOp,hm,hk,hx,ko]
end
theorem S6:∀ {a b:List MapEntry},sW a=sW b->a=b
 | [],[],_=>rfl
 | [],_::_,h=>by simp [sW]at h
 | _::_,[],h=>by simp [sW]at h
 | ⟨k,v,s⟩::a,⟨k',v',s'⟩::b,h=>by
  simp only [sW,List.cons.injEq,Value.int.injEq,true_and]at h;obtain⟨rfl,rfl,h1,h2⟩:=h;obtain rfl:s=s':=by omega
  rw [S6 h2]
theorem Yp:∀ {a b:List Nat},(a.map fun b:Nat=>Value.int .i64 (b:Int))=b.map (fun b:Nat=>Value.int .i64 (b:Int))->a=b
 | [],[],_=>rfl
 | [],_::_,h=>by simp at h
 | _::_,[],h=>by simp at h
 | x::a,y::b,h=>by
  simp only [List.map_cons,List.cons.injEq,Value.int.injEq,true_and]at h;obtain⟨h1,h2⟩:=h;obtain rfl:x=y:=by omega
  rw [Yp h2]
def sH(t:ae)(g:Nat)(es:List MapEntry)(cl:Nat):Ck:=⟨some ⟨g,0,none⟩,0,0,t,.tuple #[ak cl]::sW es⟩
def pf(t:ae)(r bm since:Nat)(seen:List Nat):Ck:=⟨some ⟨r,0,none⟩,0,0,t,.tuple #[.map (some bm),ak since]::seen.map fun b:Nat=>ak b⟩
def Kj(es:List MapEntry):List (ad×ad):=es.map fun e=> (e.key,e.val)
section
variable {w0 w w':aa} {ks:List Ck} {t:ae} {g bm since cl:Nat} {es:List MapEntry} {seen:List Nat} {mZ:List (ad×ad)}
theorem St.Py(h:St w0 w ks)(i:Nat)(hk:ks[i]?=some (sH t g es cl)):w0.heap.size<=g/\w.heap[g]?=some (.map es.toArray cl)/\vq es.toArray cl:=by
 rcases(h.get hk).cases with⟨_,_,_,g',o,hA,hg,hh,hv⟩ | ⟨hm,_⟩
 ·have hA:some (⟨g,0,Option.none⟩:Addr)=some ⟨g',0,Option.none⟩:=hA;simp only [mB,Addr.mk.injEq,and_true]at hA;subst hA
  match o,hh,hv with
  | .map sT xd,hh,⟨hw,.inl hv⟩=>
   have hv:(.tuple #[ak cl]::sW es:List ad)= .tuple #[]::sV (sT.toList.map fun e=> (e.key,e.val)):=hv;simp at hv
  | .map sT xd,hh,⟨hw,.inr hv⟩=>
   have hv:(.tuple #[ak cl]::sW es:List ad)= .tuple #[ak xd]::sW sT.toList:=hv;obtain⟨h1,h2⟩:=List.cons.inj hv;have h3:(cl:Int)=xd:=by simpa using h1
   obtain rfl:cl=xd:=by omega
   obtain rfl:=S6 h2;exact⟨hg,hh,hw⟩
  | .mapIter m since seen c0,hh,⟨_,bm,_,hv⟩=>
   have hv:(.tuple #[ak cl]::sW es:List ad)= .tuple #[.map (some bm),ak since]::_:=hv;simp at hv
 ·cases hm
theorem St.Xf{r:Nat}(h:St w0 w ks)(i:Nat)(hk:ks[i]?=some (pf t r bm since seen)):w0.heap.size<=r/\w.heap[r]?=some (.mapIter (some bm) since seen.toArray since):=by
 rcases(h.get hk).cases with⟨_,_,_,g',o,hA,hg,hh,hv⟩ | ⟨hm,_⟩
 ·have hA:some (⟨r,0,Option.none⟩:Addr)=some ⟨g',0,Option.none⟩:=hA;simp only [mB,Addr.mk.injEq,and_true]at hA;subst hA
  match o,hh,hv with
  | .map sT xd,hh,⟨hw,.inl hv⟩=>
   have hv:(.tuple #[.map (some bm),ak since]::seen.map (fun b:Nat=>ak b):List ad)= .tuple #[]::sV (sT.toList.map fun e=> (e.key,e.val)):=hv;simp at hv
  | .map sT xd,hh,⟨hw,.inr hv⟩=>
   have hv:(.tuple #[.map (some bm),ak since]::seen.map (fun b:Nat=>ak b):List ad)= .tuple #[ak xd]::sW sT.toList:=hv;simp at hv
  | .mapIter m Qm amA c0,hh,⟨hc,RU,hm,hv⟩=>
   have hv:(.tuple #[.map (some bm),ak since]::seen.map (fun b:Nat=>ak b):List ad)= .tuple #[.map (some RU),ak Qm]::amA.toList.map (fun b:Nat=>ak b):=hv;obtain⟨h1,h2⟩:=List.cons.inj hv;have h3:bm=RU/\(since:Int)=Qm:=by simpa using h1
   obtain rfl:=h3.1;obtain rfl:since=Qm:=by omega
   obtain rfl:=Yp h2;subst hm;subst hc;exact⟨hg,hh⟩
 ·cases hm
theorem ady(w:aa)(g:Nat):Db w w (some g):=⟨⟨rfl,rfl,rfl,br _,fun _ _ _=>rfl⟩,br _⟩
theorem St.toN(h:St w0 w ks)(i:Nat)(hk:ks[i]?=some (fN t g mZ)):∃es cl,Kj es=mZ/\vq es.toArray cl/\St w0 w (ks.set i (sH t g es cl)):=by
 obtain⟨hg,es,cl,hh,JK,o8⟩:=h.Hd i hk;refine⟨es.toList,cl,JK,o8,h.turn (k:=fN t g mZ) (k':=sH t g es.toList cl) (g:=g) hk O O (ady w g) ?_⟩;exact .ofM O ⟨O,O,g,_,O,hg,hh,o8,.inr O⟩
theorem St.aaM(h:St w0 w ks)(T:ae)(bm since:Nat):St w0 (w.alloc (.mapIter (some bm) since #[] since)) (pf T w.heap.size bm since []::ks):=by
 have hb:Below w.heap.size w (w.alloc (.mapIter (some bm) since #[] since)):=(Below.refl _ _).alloc (br _) _;have h1:=h.aq hb;refine⟨h1.below,fun k hk=>?_,?_⟩
 ·rcases iX.1 hk with rfl | hk
  ·exact .ofM O ⟨O,O,_,_,O,h.below.size,heap_alloc_new w _,O,bm,O,O⟩
  exact h1.own k hk
 simp only [List.filterMap_cons,pf,Ck.ij,Option.map_some,mf];refine⟨fun cI=>?_,h.apart⟩;obtain⟨k',eI,qp⟩:=List.mem_filterMap.1 cI;have:=((h.own k' eI).lt qp).2;omega
def r7(es:List MapEntry)(seen:List Nat):List MapEntry:=es.filter fun e=>!seen.contains e.born
theorem WB(es:List MapEntry)(seen:List Nat):(leftOf es.toArray seen.toArray).toList=r7 es seen:=by
 unfold leftOf r7;simp
theorem St.ajU{P:Program}{r:Nat}{T:ae}(h:St w0 w ks)(i j:Nat)(hi:ks[i]?=some (sH t g es cl))(hj:ks[j]?=some (pf T r g cl seen))(ty:ae):(r7 es seen=[]/\(Instr.next (.pointer (some ⟨r,0,Option.none⟩)) false ty).run P w= .ok (.tuple #[.bool false]) w)\/
 ∃x∈r7 es seen,∃w',(Instr.next (.pointer (some ⟨r,0,Option.none⟩)) false ty).run P w= .ok (.tuple #[.bool true,x.key,x.val]) w'/\St w0 w' (ks.set j (pf T r g cl (seen++ [x.born]))):=by
 obtain⟨hg,hh,o8⟩:=h.Py i hi;obtain⟨hr,GL⟩:=h.Xf j hj;rcases run_next_at (P:=P) w ty r g cl cl seen.toArray es.toArray cl GL hh o8.1 (br _)with⟨h0,h1⟩ | ⟨x,hx,w1,GU,ko⟩
 ·refine .inl ⟨?_,h1⟩;rw [<-WB];exact List.length_eq_zero_iff.1 (by simpa using h0)
 rw [WB]at hx;refine .inr ⟨x,hx,_,ko,?_⟩;have h1:St w0 w1 ks:=by
  rcases GU with rfl | rfl
  ·exact h
  exact h.drew
 have Vy:w1.heap[r]?=some (.mapIter (some g) cl seen.toArray cl):=by
  rcases GU with rfl | rfl
  ·exact GL
  exact GL
 refine h1.turn (k:=pf T r g cl seen) (k':=pf T r g cl (seen++ [x.born])) (g:=r) hj O O ⟨⟨O,O,O,by simp [ChangeMaps.setBlock],fun y _ hy=>?_⟩,br _⟩ ?_
 ·exact(heap_set Vy).2 y fun e=>hy (by rw [e])
 refine .ofM O ⟨O,O,r,_,O,hr,(heap_set Vy).1,O,g,O,?_⟩;simp [pf]
end
section
variable{t kt et T:ae}
variable {P:Program} {N:Nat} {ops:Array Oper} {K:Env->aa->Prop} {rest:List Oper} {e:Env} {w0 w w':aa} {ks:List Ck} {d:Nat} {ty:ae} {pos:String} {af:Array Edge}
theorem aaa[hU:bA P t (.map kt et)]{m:ag}{g:Nat}{mZ:List (ad×ad)}(i:Nat)(T2:ae)(hS:St w0 w ks)(hi:ks[i]?=some (fN T g mZ))(hm:ev e m= .map (some g))(hb:Nat.blt d N=true)(hK:∀r es cl w',Kj es=mZ->vq es.toArray cl->St w0 w' (pf T2 r g cl []::ks.set i (sH T g es cl))->ao P N ops K rest (bn e d (.pointer (some ⟨r,0,none⟩))) w'):
 ao P N ops K (⟨some d,.range t m,ty,pos,af,none⟩::rest) e w:=by
 obtain⟨es,cl,h1,h2,h3⟩:=hS.toN i hi;have fG:i<ks.length:=(gx.1 hi).1;obtain⟨_,hh,_⟩:=h3.Py i (t:=T) (g:=g) (es:=es) (cl:=cl) (by rw [List.getElem?_set_self fG]);obtain⟨k',e',hu⟩:∃k' e',P.underlying t=some (.map k' e'):=⟨kt,et,hU.out⟩;have hr:=run_range_map (P:=P) w t k' e' g es.toArray cl hu hh;refine .val (w':=w.alloc (.mapIter (some g) cl #[] cl)) ?_ hb (hK _ es cl _ h1 h2 (h3.aaM T2 g cl));simp [execOp,hm,hr]
theorem Z9{x:ag}{r g cl:Nat}{es:List MapEntry}{seen:List Nat}(i j:Nat)(hS:St w0 w ks)(hi:ks[i]?=some (sH t g es cl))(hj:ks[j]?=some (pf T r g cl seen))(hx:ev e x= .pointer (some ⟨r,0,none⟩))(hb:Nat.blt d N=true)(h0:r7 es seen=[]->ao P N ops K rest (bn e d (.tuple #[.bool false])) w)(h1:∀y w',y∈r7 es seen->St w0 w' (ks.set j (pf T r g cl (seen++ [y.born])))->ao P N ops K rest (bn e d (.tuple #[.bool true,y.key,y.val])) w'):
 ao P N ops K (⟨some d,.next x false,ty,pos,af,none⟩::rest) e w:=by
 rcases hS.ajU (P:=P) i j hi hj ty with⟨hl,hr⟩ | ⟨y,hy,w',hr,kU⟩
 ·refine .val (w':=w) ?_ hb (h0 hl);simp only [execOp,hx];simp [hr,Result.andThen]
 refine .val (w':=w') ?_ hb (h1 y w' hy kU);simp only [execOp,hx];simp [hr,Result.andThen]
theorem ZV{x:ag}{r g cl:Nat}{es:List MapEntry}{seen:List Nat}{y:MapEntry}(i j:Nat)(hS:St w0 w ks)(hi:ks[i]?=some (sH t g es cl))(hj:ks[j]?=some (pf T r g cl (seen++ [y.born])))(hy:y∈es)(hx:ev e x= .pointer (some ⟨r,0,none⟩))(hb:Nat.blt d N=true)(hK:ao P N ops K rest (bn e d (.tuple #[y.key,y.val])) w):
 ao P N ops K (⟨some d,.entry x,ty,pos,af,none⟩::rest) e w:=by
 obtain⟨hg,hh,o8⟩:=hS.Py i hi;obtain⟨hr,GL⟩:=hS.Xf j hj;have agv:w.heap[r]?=some (.mapIter (some g) cl (seen.toArray.push y.born) cl):=by rw [GL];simp
 have ko:=run_entry_at (P:=P) w r g cl seen.toArray es.toArray cl y agv hh (by simpa using hy) o8.2;refine .val (w':=w) ?_ hb hK;simp only [execOp,hx];simp [ko,Result.andThen]
end
end
section
open Go.RowKit
abbrev Dm:=aO×Nat×List PV
abbrev rD:=(Int×Int)×Dm
def vw(u:Dm):ad:=u.1.v
def qt(k:Int×Int):ad:= .agg #[ak k.1,ak k.2]
def lI(t:ae)(M:List rD):List Ck:=M.map fun p=>jQ t p.2.1.a p.2.1.n p.2.1.c p.2.2.1 p.2.2.2
def nW(M:List rD)(x:Int×Int):Dm:=(dS M x).getD (eY,0,[])
section
variable {w0 w w':aa} {ks pre:List Ck} {t:ae} {M:List rD} {x:Int×Int}
theorem St.anf(h:St w0 w (pre++ (lI t M++ks))):St w0 w (jQ t (nW M x).1.a (nW M x).1.n (nW M x).1.c (nW M x).2.1 (nW M x).2.2::(pre++ (lI t (jf M x)++ks))):=by
 unfold nW;cases hg:dS M x with
 | none=>
  rw [IV hg];exact h.nil t
 | some u=>
  refine h.perm ?_;have h1:(lI t M).Perm (jQ t u.1.a u.1.n u.1.c u.2.1 u.2.2::lI t (jf M x)):=(Mz hg).map _;exact((h1.append_right ks).append_left pre).trans rC
theorem St.alM{u:Dm}(h:St w0 w (jQ t u.1.a u.1.n u.1.c u.2.1 u.2.2::(pre++ (lI t (jf M x)++ks)))):St w0 w (pre++ (lI t (fj M x u)++ks)):=by
 refine h.perm ?_;have h1:(jQ t u.1.a u.1.n u.1.c u.2.1 u.2.2::lI t (jf M x)).Perm (lI t (fj M x u)):=((XJ M x u).map fun p:rD=>jQ t p.2.1.a p.2.1.n p.2.1.c p.2.2.1 p.2.2.2).symm;exact rC.symm.trans ((h1.append_right ks).append_left pre)
end
def wu(M:List rD):List ((Int×Int)×List PV):=M.map fun p=> (p.1,p.2.2.2)
theorem ak7(M:List rD)(x:Int×Int):dS (wu M) x=(dS M x).map fun u=>u.2.2:=by
 induction M with
 | nil=>rfl
 | cons p r ih=>
  obtain⟨y,u⟩:=p;show(if y=x then some u.2.2 else dS (wu r) x)=_;simp only [dS]
  split
  ·rfl
  ·exact ih
theorem ak8(M:List rD)(x:Int×Int)(u:Dm):wu (fj M x u)=fj (wu M) x u.2.2:=by
 induction M with
 | nil=>rfl
 | cons p r ih=>
  obtain⟨y,v⟩:=p;show wu (if y=x then(x,u)::r else(y,v)::fj r x u)=(if y=x then(x,u.2.2)::wu r else(y,v.2.2)::fj (wu r) x u.2.2)
  split
  ·rfl
  ·show(y,v.2.2)::wu (fj r x u)=_;rw [ih]
theorem adw(M:List rD)(x:Int×Int):(nW M x).2.2=(dS (wu M) x).getD []:=by
 rw [ak7];unfold nW;cases dS M x<;>rfl
def GY(k:Int×Int):Prop:=(-9223372036854775808<=k.1/\k.1<=9223372036854775807)/\(-9223372036854775808<=k.2/\k.2<=9223372036854775807)
theorem aiA:laidOutB prog=true:=by kernel_rfl
theorem ah0:prog.keyTypeAt 5 182=true:=by kernel_rfl
theorem ah2:prog.keyType 182=true:=by kernel_rfl
theorem Wi:182<prog.types.size:=uq (by kernel_rfl)
theorem ahZ:Go.Maps.Keyed prog 182:=Go.Maps.Keyed.of_law (deep_law_laid aiA (m:=5) an Wi ah0 (by kernel_rfl))
set_option maxRecDepth 100000 in
theorem ah1(a b:Int)(h:GY (a,b)):∃l,keyOf prog 182 (qt (a,b))=some l:=by
 have hv:prog.underlying 2=some (TypeDesc.int IntKind.i64):=underlying2;have hu:prog.underlying 182=some (.array 2 2):=underlying182;have pB:prog.cellsOf 182=2:=by kernel_rfl
 have Ae:prog.cellsOf 2=1:=by kernel_rfl
 obtain⟨d,hd⟩:∃d,prog.types.size=d+1:=⟨prog.types.size - 1,by have:=Wi;omega⟩;have h1:∀x:Int,(-9223372036854775808<=x/\x<=9223372036854775807)->prog.keyLits (d+1) 2 [ak x]=some [Lit.int IntKind.i64 x]:=fun x hx=>by
  unfold Program.keyLits;rw [hv];refine aB ⟨O,?_⟩;show(decide _ && decide _)=true;rw [Bool.and_eq_true];exact⟨dz hx.1,dz (by have:=hx.2;show x<=9223372036854775807;omega)⟩
 have h2:prog.keyLits (d+1+1) 182 (qt (a,b)).cells.toList=some [Lit.int IntKind.i64 a,Lit.int IntKind.i64 b]:=by
  unfold Program.keyLits;rw [hu];dsimp only;rw [pB,Ae,aB (by rfl)];have e:(List.range 2)=[0,1]:=O;rw [e];have ea:(((qt (a,b)).cells.toList.drop (0*1)).take 1)=[Value.int .i64 a]:=O;have eb:(((qt (a,b)).cells.toList.drop (1*1)).take 1)=[Value.int .i64 b]:=O;simp only [List.mapM_cons,List.mapM_nil,ea,eb,h1 a h.1,h1 b h.2]
  rfl
 unfold keyOf;simp only [hu,ah2,Bool.true_and];rw [if_pos (by unfold qt Value.formed;simp only [hu,pB];rfl),hd,h2];exact⟨_,O⟩
theorem Wf:Bt prog 182 qt GY:=⟨ahZ,fun a h=>ah1 a.1 a.2 h,fun a b h=>by
 simp only [qt,Value.agg.injEq,Array.mk.injEq,List.cons.injEq,Value.int.injEq,true_and,and_true]at h;exact Prod.ext h.1 h.2⟩
def Hz(m:Nat):Nat:=if m%2=0 then m+1 else m - 1
set_option maxRecDepth 100000 in
theorem aoo:∀m:Nat,m<201->bits .xor .i64 (m:Int) 1=(Hz m:Int):=by decide
section
variable {P:Program} {N:Nat} {ops:Array Oper} {K:Env->aa->Prop} {rest:List Oper} {e:Env} {w:aa} {d:Nat} {ty xt yt:ae} {pos:String} {af:Array Edge} {x y:ag}
theorem aae{m:Nat}(hx:ev e x=ak m)(hy:ev e y=ak 1)(hm:m<=200)(hb:Nat.blt d N=true)(hK:ao P N ops K rest (bn e d (ak (Hz m:Int))) w):
 ao P N ops K (⟨some d,.binOp .xor xt x y yt,ty,pos,af,none⟩::rest) e w:=
 .val (by simp only [execOp,hx,hy,eqGuard,binOp,intBits_xor,aoo m (by omega)];simp) hb hK
end
theorem aof(f:Nat):E5 f=(Hz f:Int):=by
 unfold E5 Hz
 split<;>split<;>omega
theorem WI:∀(a b:List PV) (M:ai),tv (a++b) M=tv b (tv a M)
 | [],_,_=>rfl
 | s::r,b,M=>WI r b _
theorem R3(V:ai):∀(a b:List PV) (L:List ((Int×Int)×List PV)),tM V (a++b) L=tM V b (tM V a L)
 | [],_,_=>rfl
 | s::r,b,L=>R3 V r b _
theorem Yy{α:Type}{l:List α}{q:Nat}(h:q<l.length):l.take (q+1)=l.take q++ [l[q]]:=by rw [nM h]
theorem ai7{SD:List PV}{q:Nat}(h:q<SD.length)(M:ai):tv (SD.take (q+1)) M=((tv (SD.take q) M).set SD[q].s.toNat SD[q].v).set SD[q].v.toNat SD[q].s:=by
 rw [Yy h,WI];rfl
theorem abf{V:ai}{SD:List PV}{q:Nat}(h:q<SD.length):tM V (SD.take (q+1)) []=fj (tM V (SD.take q) []) (Bh V SD[q]) ((dS (tM V (SD.take q) []) (Bh V SD[q])).getD []++ [Ho V SD[q]]):=by
 rw [Yy h,R3];rfl
theorem amv(ps:ah):(sA 0 ps).length=ps.flatten.length:=(Ds (k:=1) (fun f p=>by simp [X3]) ps 0).trans am
theorem amw{ps:ah}{j:Nat}(h:j<ps.length):sA 0 (ps.take (j+1))=sA 0 (ps.take j)++ (List.range (gl ps j).length).map (KP (bB ps j) (gl ps j).length):=by
 rw [bR h];exact(Dt _ ps 0 j h).trans (by rw [Nat.zero_add];rfl)
theorem gqV(M:List rD)(x:Int×Int):((dS M x).map vw).getD (.slice Option.none 0 0)=vw (nW M x):=by
 unfold nW;cases dS M x<;>rfl
theorem adu{M:List rD}{x:Int×Int}{k:Nat}(h:∀p∈M,GY p.1/\p.2.2.1=0/\p.2.1.n<=k):(nW M x).2.1=0/\(nW M x).1.n<=k:=by
 unfold nW
 induction M with
 | nil=>exact⟨rfl,bg _⟩
 | cons p r ih=>
  obtain⟨y,u⟩:=p;simp only [dS]
  split
  ·exact(h (y,u) (by simp)).2
  ·exact ih fun p hp=>h p (by simp [hp])
theorem XE{κ ν:Type}[DecidableEq κ]:∀ {L:List (κ×ν)} {x:κ} {u:ν} {p:κ×ν},p∈fj L x u->p=(x,u)\/p∈L
 | [],x,u,p,h=>by simp [fj]at h;exact .inl h
 | (y,v)::r,x,u,p,h=>by
  simp only [fj]at h
  split at h
  ·rcases iX.1 h with h | h
   ·exact .inl h
   ·exact .inr (by simp [h])
  ·rcases iX.1 h with h | h
   ·exact .inr (by simp [h])
   ·rcases XE h with h | h
    ·exact .inl h
    ·exact .inr (by simp [h])
theorem aiQ{es:List MapEntry}{seen:List Nat}{y:MapEntry}(h:y∈r7 es seen):(r7 es (seen++ [y.born])).length< (r7 es seen).length:=by
 have e:r7 es (seen++ [y.born])=(r7 es seen).filter fun e=>e.born !=y.born:=by
  unfold r7;rw [List.filter_filter]
  congr 1
  funext e
  by_cases h1:e.born=y.born<;>by_cases h2:e.born∈seen<;>simp [h1,h2,bne]
 rw [e];exact List.length_filter_lt_length_iff_exists.2 ⟨y,h,by simp⟩
theorem WC{es:List MapEntry}{seen:List Nat}{y:MapEntry}(h:y∈r7 es seen):y∈es:=(gy.1 h).1
theorem aiR{es:List MapEntry}{seen:List Nat}{y:MapEntry}(h:r7 es seen=[])(hy:y∈es):y.born∈seen:=by
 have:=List.filter_eq_nil_iff.1 h y hy;simpa using this
theorem akt{l:List Nat}(h:l.Nodup){i j a:Nat}(h1:l[i]?=some a)(h2:l[j]?=some a):i=j:=by
 obtain⟨a1,b1⟩:=gx.1 h1;obtain⟨a2,b2⟩:=gx.1 h2;exact(List.getElem_inj h).1 (b1.trans b2.symm)
theorem adq{a b:ai}(h:a.length=b.length)(h':∀f:Nat,f<a.length->gi a f=gi b f):a=b:=jE h fun i h1 h2=>by have:=h' i h1;rwa [bV h1,bV h2]at this
theorem Xj{α:Type}(b m:α)(R T Q:List α):(b::(R++ (T++ (m::Q)))).Perm ((b::m::(R++T))++ (Q++ [])):=by
 classical
 refine jT.2 fun z=>?_
 simp only [List.cons_append,l9,jS,ln];omega
theorem Xk{α:Type}(b m:α)(R T Q:List α):((b::m::(R++T))++ (Q++ [])).Perm (b::m::(R++ (T++Q))):=by
 classical
 refine jT.2 fun z=>?_
 simp only [List.cons_append,l9,jS,ln];omega
theorem aiL{α:Type}:∀ {l:List α},l.length=2->∃a b,l=[a,b]
 | [a,b],_=> ⟨a,b,rfl⟩
def nk(a:PV)(t:Nat):Int:=if t=0 then a.s else a.v
theorem XK(a:PV){t:Nat}(h:t<2):[Value.int .i64 a.s,Value.int .i64 a.v].getD t undef=ak (nk a t):=by
 rcases(show t=0\/t=1 by omega)with rfl | rfl<;>rfl
def Zo(M T:ai)(l:List PV):Prop:=∀a∈l,gi M a.s=gi T a.s/\gi M a.v=gi T a.v
theorem LV{M T:ai}{a v f:Int}(ha:0<=a/\a<M.length)(hv:gi T a=v)(hf:0<=f)(h:f=a\/gi M f=gi T f):gi (M.set a.toNat v) f=gi T f:=by
 rw [mD ha.1 ha.2 hf]
 split
 ·rename_i e;rw [<-e,hv]
 rename_i e;exact h.resolve_left fun q=>e q.symm
section
variable {P:Program} {N:Nat} {ops:Array Oper} {K:Env->aa->Prop} {rest:List Oper} {e:Env} {w0 w:aa} {ks:List Ck} {d:Nat} {ty:ae} {pos:String} {af:Array Edge}
theorem Re{t el:ae}{l:Nat}{z:ad}{b:Nat}(m:Nat)[bA P t (.array l el)][bq P t z (m+1) b]{x:ag}{A:aj}{f:Nat->ad}{cs:Array ad}(hR:Rd w A (m+1) f)(hx:ev e x= .pointer A)(qP:((List.range (m+1)).map f).toArray=cs)(hb:Nat.blt d N=true)(hK:ao P N ops K rest (bn e d (.agg cs)) w):ao P N ops K (⟨some d,.load t x,ty,pos,af,none⟩::rest) e w:=by
 obtain⟨p,hp,_⟩:=hR 0 am;obtain⟨q,rfl⟩:∃q,A=some q:=by cases A with | none=>simp [ay]at hp | some q=>exact⟨q,rfl⟩
 obtain⟨inf,hi,dX,hs,gR⟩:=bq.get P t;have hl:=run_loadCells (P:=P) w q (m+1) f (fun j hj=>by
  obtain⟨p,hp,hc⟩:=hR j hj;simp [ay]at hp;rw [hp];exact hc)
 subst qP;refine .val (w':=w) ?_ hb hK;simp [execOp,Instr.loadAt,hx,Instr.sureAddr,loadVar,isAgg,run_underlying (bA.out (P:=P) (t:=t)),sizeOf,typeInfo,hi,hs,hl]
end
abbrev qw(fR B0 B1 B2:aj)(F:Nat)(M0 M1 M2:ai):List Ck:=[cg 34 fR 3 3 [⟨B0,F,F⟩,⟨B1,F,F⟩,⟨B2,F,F⟩],ax 2 B0 F F M0,ax 2 B1 F F M1,ax 2 B2 F F M2]
abbrev qx(A2 A4 A5:aj)(L c4 c5:Nat)(V:ai)(SD:List PV):List Ck:=[ax 2 A4 L c4 V,jQ 182 A5 L c5 0 SD,Bx 24 1 A2 [.slice none 0 0]]
structure Fl(ps:ah):Prop where
 BN:ps.flatten.length<=100
 key:∀v∈ps.flatten,-9223372036854775808<=v/\v<=9223372036854775807
 one:wD E5 (2*ps.flatten.length) (2*ps.flatten.length)=lg ps
 vE:(kJ ps).length=2*ps.flatten.length
 qv:bI (mapM ps)
 bd2:∀p∈tM ps.flatten (sA 0 ps) [],∀a∈p.2,((0<=a.s/\a.s<2*ps.flatten.length)/\(0<=a.v/\a.v<2*ps.flatten.length))
structure PmA(w0:aa)(base:List Ck)(A2 A4 A5:aj)(L c4 c5 F:Nat)(S:Nat->Bool)(e:Env)(w:aa):Prop where
 f2:e 2= .pointer A2
 f4:e 4= .slice A4 L c4
 f5:e 5= .slice A5 L c5
 f11:e 11=ak F
 p0:S 0=true->e 63=ak F
 p2:S 2=true->e 65=ak F
 p4:S 4=true->e 67=ak F
 mem:∃(A1 A3 A6 A7:aj) (b1 b2 b3 b4:List Ck),(S 1=false->b1=[])/\(S 1=true->e 64= .slice A1 F F/\b1=[ax 2 A1 F F (List.replicate F 0)])/\(S 3=false->b2=[])/\(S 3=true->e 66= .slice A3 F F/\b2=[ax 2 A3 F F (List.replicate F 0)])/\(S 5=false->b3=[])/\(S 5=true->e 68= .slice A6 F F/\b3=[ax 2 A6 F F (List.replicate F 0)])/\(S 6=false->b4=[])/\(S 6=true->e 69= .slice A7 3 3/\b4=[cg 34 A7 3 3 [⟨A1,F,F⟩,⟨A3,F,F⟩,⟨A6,F,F⟩]])/\(S 7=true->e 12= .slice A7 3 3)/\St w0 w (b4++ (b1++ (b2++ (b3++base))))
structure PmB(w0:aa)(A2 A4 A5 fR gB B0 B1 B2:aj)(L c4 c5 F g q:Nat)(s:PV)(V Z M1 M2:ai)(SD:List PV)(tl:List Ck)(S:Nat->Bool)(e:Env)(w:aa):Prop where
 f2:e 2= .pointer A2
 f4:e 4= .slice A4 L c4
 f12:e 12= .slice fR 3 3
 f13:e 13= .map (some g)
 f16:e 16= .pointer gB
 f83:e 83= .slice A5 L c5
 f84:e 84=ak L
 f85:e 85=ak q
 p0:S 0=true->e 89= .slice fR 3 3
 p1:S 1=true->e 90= .pointer (ay fR 0)
 p2:S 2=true->e 91= .slice B0 F F
 p3:S 3=true->e 92= .pointer (ay gB 0)
 p4:S 4=true->e 93=ak s.s
 p5:S 5=true->e 94= .slice fR 3 3
 p6:S 6=true->e 95= .pointer (ay fR 0)
 p7:S 7=true->e 96= .slice B0 F F
 p8:S 8=true->e 97= .pointer (ay gB 1)
 p9:S 9=true->e 98=ak s.v
 iF:S 10=true->e 99= .pointer (ay gB 1)
 oo:S 11=true->e 100=ak s.v
 iG:S 12=true->e 101= .pointer (ay gB 0)
 oq:S 13=true->e 102=ak s.s
 ot:S 14=true->e 103= .pointer (ay B0 s.s.toNat)
 ou:S 16=true->e 104= .pointer (ay B0 s.v.toNat)
 mem:∃M0:ai,(S 15=false->M0=Z)/\(S 15=true->S 17=false->M0=Z.set s.s.toNat s.v)/\(S 17=true->M0=(Z.set s.s.toNat s.v).set s.v.toNat s.s)/\St w0 w (Bx 182 2 gB [ak s.s,ak s.v]::(qw fR B0 B1 B2 F M0 M1 M2++tl))
structure PmD(w0:aa)(A2 A4 A5 fR gB:aj)(L c4 c5 g q:Nat)(x:Int×Int)(s:PV)(M:List rD)(pre:List Ck)(S:Nat->Bool)(e:Env)(w:aa):Prop where
 f2:e 2= .pointer A2
 f4:e 4= .slice A4 L c4
 f12:e 12= .slice fR 3 3
 f13:e 13= .map (some g)
 f16:e 16= .pointer gB
 f83:e 83= .slice A5 L c5
 f84:e 84=ak L
 f85:e 85=ak q
 f17:e 17=ak x.1
 f18:e 18=ak x.2
 p0:S 0=true->e 128= .map (some g)
 p1:S 1=true->e 129=ak x.1
 p2:S 2=true->e 130=ak x.2
 p3:S 3=true->e 131=qt x
 p4:S 4=true->e 132= .map (some g)
 p5:S 5=true->e 133=ak x.1
 p6:S 6=true->e 134=ak x.2
 p7:S 7=true->e 135=qt x
 p8:S 8=true->e 136=vw (nW M x)
 p9:S 9=true->e 137= .agg #[ak s.s,ak s.v]
 mem:∃(b:List Ck) (u:Dm) (Mm:List rD),(S 10=false->b=[])/\(S 10=true->∃A9,e 138= .slice A9 1 1/\b=[jQ 182 A9 1 1 0 [s]])/\(S 11=false->u=nW M x)/\(S 11=true->e 139=vw u/\u.2.1=0/\u.1.n=(nW M x).1.n+1/\u.2.2=(nW M x).2.2++ [s])/\(S 12=false->Mm=M)/\(S 12=true->Mm=fj M x u)/\
  St w0 w (b++ (jQ 182 u.1.a u.1.n u.1.c u.2.1 u.2.2::(Bx 182 2 gB [ak s.s,ak s.v]::fN 183 g (eC qt vw Mm)::pre)))
structure PmF(w0:aa)(fR B0 B1 B2:aj)(F k:Nat)(a b:Int)(ls:aO)(r:Nat)(A2:aj)(M0 M1 Z:ai)(it:Ck)(tl:List Ck)(S:Nat->Bool)(e:Env)(w:aa):Prop where
 f2:e 2= .pointer A2
 f12:e 12= .slice fR 3 3
 f20:e 20=ls.v
 f22:e 22=ak a
 f23:e 23=ak b
 f142:e 142= .pointer (some ⟨r,0,Option.none⟩)
 f151:e 151=ak k
 p0:S 0=true->e 164= .slice fR 3 3
 p1:S 1=true->e 165= .pointer (ay fR 2)
 p2:S 2=true->e 166= .slice B2 F F
 p3:S 3=true->e 167=ak a
 p4:S 4=true->e 168= .slice fR 3 3
 p5:S 5=true->e 169= .pointer (ay fR 2)
 p6:S 6=true->e 170= .slice B2 F F
 p7:S 7=true->e 171=ak b
 p8:S 8=true->e 172=ak b
 p9:S 9=true->e 173=ak a
 iF:S 10=true->e 174= .pointer (ay B2 a.toNat)
 iG:S 12=true->e 175= .pointer (ay B2 b.toNat)
 mem:∃M2:ai,(S 11=false->M2=Z)/\(S 11=true->S 13=false->M2=Z.set a.toNat b)/\(S 13=true->M2=(Z.set a.toNat b).set b.toNat a)/\St w0 w (it::(qw fR B0 B1 B2 F M0 M1 M2++tl))
theorem Kp(A:aj)(n c:Nat)(rs:List aO)(ps:ah)(w:aa)(hR:bF w A n rs ps)(dp:Dc ps)(xu:Fl ps):
 aJ prog 111 [.slice A n c] w (fun v w'=>∃(A':aj) (rs':List aO),v= .tuple #[.agg #[.slice A' 3 3],.bool true]/\rs'.length=3/\St w w' (aS 34 2 A' 3 3 rs' (mapM ps))):=by
 have mq:=hR.len;have JA:=dp.BN;have hF:ps.flatten.length<=100:=xu.BN;refine bC func111 O ntmps111 O (ur O O) (bh O (ib (St.refl w) O ?_));intro A2 w1 hS;have hS:St w w1 [ax 2 none 0 0 [],jQ 182 none 0 0 0 [],Bx 24 1 A2 [.slice none 0 0]]:=(hS.nil 182).nil 2;refine ar O (a8 O O (aC O ?_));refine Cd.loop (α:=Nat×(aj×Nat)×(aj×Nat)) (fun z=> [(2,.pointer A2),(4,.slice z.2.1.1 (bB ps z.1) z.2.1.2),(5,.slice z.2.2.1 (bB ps z.1) z.2.2.2),(25,.slice A n c),(26,ak n),(27,ak (z.1:Int))]) (fun z w'=>z.1<=n/\St w w' [ax 2 z.2.1.1 (bB ps z.1) z.2.1.2 (ps.take z.1).flatten,jQ 182 z.2.2.1 (bB ps z.1) z.2.2.2 0 (sA 0 (ps.take z.1)),Bx 24 1 A2 [.slice none 0 0]]) (fun z=>n - z.1) (0,(none,0),(none,0)) (aqv O) ⟨bg _,hS⟩ ?_;clear hS;rintro⟨j,⟨A4,c4⟩,⟨A5,c5⟩⟩ ev w2 ⟨hj,hS⟩;dsimp only at hj hS|-;refine bL O (aM _ O (fun h1=>?_) (fun h1=>?_))
 ·have mV:j<n:=by omega
  have lZ:=hS.b7 hR;have bS:=lZ.at_ (i:=(j:Int)) am am;have jb:=bS.1;have fO:(gl ps j).length<=100:=(JA.2 _ (by rw [bR (by omega)];exact dK _)).2;have tf:=RR (ps:=ps) (j:=j) am;have nA:=RQ ps (j+1);have hsd:=amw (ps:=ps) (j:=j) am;have hvt:(ps.take (j+1)).flatten=(ps.take j).flatten++gl ps j:=by rw [Tb ps j (by omega),bR (by omega)]
  refine aA O (aD lZ.top.2 O (b9 lZ.top O (ar O (aL (xO _ _ _ _) O ?_))));rintro _ w3 ⟨rfl,rfl⟩;refine ar O (aL (xO _ _ _ _) O ?_);rintro _ w3 ⟨rfl,rfl⟩;refine ar O (fu 0 hS O bS O O O ?_);clear hS;intro HC H9 w4 hS;have hS:St w w4 [ax 2 HC (bB ps (j+1)) H9 (ps.take (j+1)).flatten,jQ 182 A5 (bB ps j) c5 0 (sA 0 (ps.take j)),Bx 24 1 A2 [.slice none 0 0]]:=by rw [hvt,tf,jb];exact hS
  refine aC O ?_;rw [<-jb];rw [<-tf];refine Cd.loop (α:=Nat×(aj×Nat)) (fun z=> [(2,.pointer A2),(4,.slice HC (bB ps (j+1)) H9),(5,.slice z.2.1 (bB ps j+z.1) z.2.2),(8,ak (bB ps j:Int)),(9,ak ((gl ps j).length:Int)),(25,.slice A n c),(26,ak n),(27,ak j),(38,ak ((gl ps j).length:Int)),(39,ak (z.1:Int))]) (fun z w'=>z.1<=(gl ps j).length/\St w w' [ax 2 HC (bB ps (j+1)) H9 (ps.take (j+1)).flatten,jQ 182 z.2.1 (bB ps j+z.1) z.2.2 0 (sA 0 (ps.take j)++ (List.range z.1).map (KP (bB ps j) (gl ps j).length)),Bx 24 1 A2 [.slice none 0 0]]) (fun z=> (gl ps j).length - z.1) (0,(A5,c5)) (aqv O) ⟨bg _,by
   show St w w4 [_,jQ 182 A5 (bB ps j) c5 0 (sA 0 (ps.take j)++ []),_];simpa only [fI]using hS⟩ ?_
  clear hS;rintro⟨i,⟨A5,c5⟩⟩ ev w5 ⟨hi,hS⟩;dsimp only at hi hS|-;refine bL O (aM _ O (fun h2=>?_) (fun h2=>?_))
  ·have nB:i< (gl ps j).length:=by omega
   have Cn:0<=((i:Int)+1)% ((gl ps j).length:Int)/\((i:Int)+1)% ((gl ps j).length:Int)< ((gl ps j).length:Int):=⟨Int.emod_nonneg _ am,Int.emod_lt_of_pos _ am⟩;refine aA O (aI O (sN O O O am (ar O (aI O (ar O ?_)))));refine sO O O O am (aI O (sN O O O am (aI O ?_)));refine Ld (by exact inferInstance) O O O O O (Q8 hS O O O ?_);intro A56 w6 bo;refine Q6 2 bo O (bo.CW 0 O) O O O am am O ?_;intro QK R5 q5 w7 hq5 bK;obtain rfl:q5=0:=by omega
   refine ar O (aI O (aT O (tQ ?_)));exact⟨(i+1,(QK,R5)),by show(gl ps j).length - (i+1)< (gl ps j).length - i;omega,⟨O,O,O,O,O,O,O,O,O,aE (Value.int .i64) am,au⟩,by show i+1<=_;omega,by
    show St w w7 [_,jQ 182 QK (bB ps j+ (i+1)) R5 0 (sA 0 (ps.take j)++ (List.range (i+1)).map (KP (bB ps j) (gl ps j).length)),_];rw [jU,iI,<-gV];exact bK.tail⟩
  ·obtain rfl:i=(gl ps j).length:=by omega
   refine bp O (bt (cS O (aI O (aT O (tQ ?_)))));rw [<-hsd,<-tf]at hS;rw [<-tf];exact⟨(j+1,(HC,H9),(A5,c5)),by show n - (j+1)<n - j;omega,⟨O,O,O,O,O,aE (Value.int .i64) am,au⟩,by show j+1<=n;omega,hS⟩
 ·obtain rfl:j=n:=by omega
  have yR:ps.take j=ps:=iY am;have td:bB ps j=ps.flatten.length:=by unfold bB;rw [yR]
  have hSDl:=amv ps;have aeZ:=dp.bd;have dX:=dp.zero;have agf:=dp.pair;have agm:=dp.put;have aeT:=dp.all;have T9:=dp.len;have JT:=xu.one;have afN:=xu.key;have TX:=xu.qv;have Uo:=xu.bd2;have N4:mapM ps=[kJ ps,lg ps,pe (lj ps) (lh ps)]:=O;have xD:=xu.vE;rw [N4]at TX|-;rw [yR,td]at hS;rw [td];clear dp xu;generalize kJ ps=vE at*;generalize lg ps=one at*;generalize pe (lj ps) (lh ps)=T at*;generalize ps.flatten=V at*;generalize sA 0 ps=SD at*;generalize hL:V.length=L at*;refine bp O (bt (cS O ?_));refine aL (xO _ _ _ _) O ?_;rintro _ w3 ⟨rfl,rfl⟩;refine sN O O O am (aC O ?_);have oR:(2:Int)* (L:Int)=((2*L:Nat):Int):=by omega
  rw [oR];generalize hFe:2*L=F at*;refine C9 (by kernel_rfl) (by kernel_rfl) (fun S e1 w1=>PmA w [ax 2 A4 L c4 V,jQ 182 A5 L c5 0 SD,Bx 24 1 A2 [.slice none 0 0]] A2 A4 A5 L c4 c5 F S e1 w1) (fun w4 hb=> ⟨O,O,O,O,fun h=> (nomatch h),fun h=> (nomatch h),fun h=> (nomatch h),none,none,none,none,[],[],[],[],fun _=>O,fun h=> (nomatch h),fun _=>O,fun h=> (nomatch h),fun _=>O,fun h=> (nomatch h),fun _=>O,fun h=> (nomatch h),fun h=> (nomatch h),hS.aq hb⟩) ?_ ?_
  ·intro S q o e1 w4 hq cV hd de hI;obtain⟨f2,f4,f5,f11,p0,p2,p4,A1,A3,A6,A7,b1,b2,b3,b4,m1,xH,m3,xJ,m5,xK,m6,CH,m7,hT⟩:=hI
   match q,hq,cV with
   | 0,hq,cV=>
    obtain rfl:=dG hq;refine qG O (by exact f11) O (ao.n ?_);exact⟨f2,f4,f5,f11,fun _=>O,p2,p4,A1,A3,A6,A7,b1,b2,b3,b4,m1,xH,m3,xJ,m5,xK,m6,CH,m7,hT⟩
   | 1,hq,cV=>
    obtain rfl:=dG hq;obtain rfl:=m1 cV;have n6:S 6=false:=by
     cases h:S 6 with
     | false=>rfl
     | true=>rw [<-cV];exact(eo (de 6 _ h rfl) 1 rfl).symm
    obtain rfl:=m6 n6;refine x4 F hT (by exact p0 (eo hd 0 O)) O am ?_;intro A' w5 uY;refine ao.n ?_;exact⟨f2,f4,f5,f11,p0,p2,p4,A',A3,A6,A7,[ax 2 A' F F (List.replicate F 0)],b2,b3,[],fun h=> (nomatch (show true=false from h)),fun _=> ⟨O,O⟩,m3,xJ,m5,xK,fun _=>O,fun h=> (nomatch n6.symm.trans h),m7,uY⟩
   | 2,hq,cV=>
    obtain rfl:=dG hq;refine qG O (by exact f11) O (ao.n ?_);exact⟨f2,f4,f5,f11,p0,fun _=>O,p4,A1,A3,A6,A7,b1,b2,b3,b4,m1,xH,m3,xJ,m5,xK,m6,CH,m7,hT⟩
   | 3,hq,cV=>
    obtain rfl:=dG hq;obtain rfl:=m3 cV;have n6:S 6=false:=by
     cases h:S 6 with
     | false=>rfl
     | true=>rw [<-cV];exact(eo (de 6 _ h rfl) 3 rfl).symm
    obtain rfl:=m6 n6;refine x4 F hT (by exact p2 (eo hd 2 O)) O am ?_;intro A' w5 uY;refine ao.n ?_;exact⟨f2,f4,f5,f11,p0,p2,p4,A1,A',A6,A7,b1,[ax 2 A' F F (List.replicate F 0)],b3,[],m1,xH,fun h=> (nomatch (show true=false from h)),fun _=> ⟨O,O⟩,m5,xK,fun _=>O,fun h=> (nomatch n6.symm.trans h),m7,uY.perm (rC (l₁:=b1)).symm⟩
   | 4,hq,cV=>
    obtain rfl:=dG hq;refine qG O (by exact f11) O (ao.n ?_);exact⟨f2,f4,f5,f11,p0,p2,fun _=>O,A1,A3,A6,A7,b1,b2,b3,b4,m1,xH,m3,xJ,m5,xK,m6,CH,m7,hT⟩
   | 5,hq,cV=>
    obtain rfl:=dG hq;obtain rfl:=m5 cV;have n6:S 6=false:=by
     cases h:S 6 with
     | false=>rfl
     | true=>rw [<-cV];exact(eo (de 6 _ h rfl) 5 rfl).symm
    obtain rfl:=m6 n6;refine x4 F hT (by exact p4 (eo hd 4 O)) O am ?_;intro A' w5 uY;refine ao.n ?_;exact⟨f2,f4,f5,f11,p0,p2,p4,A1,A3,A',A7,b1,b2,[ax 2 A' F F (List.replicate F 0)],[],m1,xH,m3,xJ,fun h=> (nomatch (show true=false from h)),fun _=> ⟨O,O⟩,fun _=>O,fun h=> (nomatch n6.symm.trans h),m7,uY.perm (by rw [<-gV,<-gV];exact(rC (l₁:=b1++b2)).symm.trans (by simp))⟩
   | 6,hq,cV=>
    obtain rfl:=dG hq;obtain rfl:=m6 cV;have n7:S 7=false:=by
     cases h:S 7 with
     | false=>rfl
     | true=>rw [<-cV];exact(eo (de 7 _ h rfl) 6 rfl).symm
    have q1:=xH (eo hd 1 O);have q3:=xJ (eo hd 3 O);have q5:=xK (eo hd 5 O);refine Q9 (s0:=⟨A1,F,F⟩) (s1:=⟨A3,F,F⟩) (s2:=⟨A6,F,F⟩) hT (by exact q1.1) (by exact q3.1) (by exact q5.1) O ?_;intro A' w5 uY;refine ao.n ?_;exact⟨f2,f4,f5,f11,p0,p2,p4,A1,A3,A6,A',b1,b2,b3,[cg 34 A' 3 3 [⟨A1,F,F⟩,⟨A3,F,F⟩,⟨A6,F,F⟩]],m1,xH,m3,xJ,m5,xK,fun h=> (nomatch (show true=false from h)),fun _=> ⟨O,O⟩,fun h=> (nomatch n7.symm.trans h),uY⟩
   | 7,hq,cV=>
    obtain rfl:=dG hq;refine lM O (by exact(CH (eo hd 6 O)).1) O (ao.n ?_);exact⟨f2,f4,f5,f11,p0,p2,p4,A1,A3,A6,A7,b1,b2,b3,b4,m1,xH,m3,xJ,m5,xK,m6,CH,fun _=>O,hT⟩
   | q+8,hq,_=>exact(nomatch hq)
  ·intro S e1 w4 dt hI;obtain⟨f2,f4,f5,f11,p0,p2,p4,A1,A3,A6,A7,b1,b2,b3,b4,m1,xH,m3,xJ,m5,xK,m6,CH,m7,hT⟩:=hI;obtain⟨TI,rfl⟩:=xH (dt 1 an);obtain⟨h66,rfl⟩:=xJ (dt 3 an);obtain⟨DV,rfl⟩:=xK (dt 5 an);obtain⟨TJ,rfl⟩:=CH (dt 6 an);refine Dn (F:=[(2,.pointer A2),(4,.slice A4 L c4),(5,.slice A5 L c5),(11,ak F),(12,.slice A7 3 3)]) ⟨f2,f4,f5,f11,m7 (dt 7 an),au⟩ ?_;clear hS;obtain⟨Z,hZ⟩:∃Z:ai,Z=List.replicate F 0:=⟨_,rfl⟩;have hS:St w w4 (qw A7 A1 A3 A6 F (List.replicate F 0) (wD E5 F 0) (List.replicate F 0)++qx A2 A4 A5 L c4 c5 V SD):=by rw [anb];exact hT
   rw [<-hZ]at hS dX;clear hT;refine jD O (Dh hS O ?_);clear hS;intro g w5 hS;refine aC O (Cd.loop (α:=Nat) (fun k=> [(2,.pointer A2),(4,.slice A4 L c4),(5,.slice A5 L c5),(12,.slice A7 3 3),(13,.map (some g)),(71,ak F),(72,ak k)]) (fun k w'=>k<=F/\St w w' (fN 183 g []::(qw A7 A1 A3 A6 F Z (wD E5 F k) Z++qx A2 A4 A5 L c4 c5 V SD))) (fun k=>F - k) 0 (aqv O) ⟨bg _,hS⟩ ?_);clear hS;rintro k ev w6 ⟨hk,hS⟩;refine bL O (aM _ O (fun h2=>?_) (fun h2=>?_))
   ·have hkF:k<F:=by omega
    refine aA O (aD (hS.fQ 1 O).2 O ?_);refine aqq (i:=1) (hS.fQ 1 O) O an O O (ar O (aae (m:=k) O O am O (aD (hS.bz 3 O).2 O (kN 3 (i:=(k:Int)) hS O O O am ?_))));intro w7 bK;have bK:St w w7 (fN 183 g []::(qw A7 A1 A3 A6 F Z ((wD E5 F k).set k (Hz k:Int)) Z++qx A2 A4 A5 L c4 c5 V SD)):=bK;rw [<-aof,anc]at bK;refine ar O (aI O (aT O (tQ ?_)));exact⟨k+1,by show F - (k+1)<F - k;omega,⟨O,O,O,O,O,O,aE (Value.int .i64) am,au⟩,by show k+1<=F;omega,bK⟩
   ·obtain rfl:k=F:=by omega
    rw [JT]at hS;have hS:St w w6 (qw A7 A1 A3 A6 k (tv (SD.take 0) Z) one Z++ (qx A2 A4 A5 L c4 c5 V SD++ (fN 183 g (eC qt vw [])::lI 182 []))):=by
     refine hS.perm ?_
     classical
     refine jT.2 fun z=>?_
     simp only [qw,qx,List.take_zero,tv,eC,lI,List.map_nil,l9,jS,ln];omega
    refine bp O (bt (cS O (a8 O O (aC O ?_))));refine Cd.loop (α:=Nat×List rD) (fun z=> [(2,.pointer A2),(4,.slice A4 L c4),(12,.slice A7 3 3),(13,.map (some g)),(83,.slice A5 L c5),(84,ak L),(85,ak (z.1:Int))]) (fun z w'=>z.1<=L/\wu z.2=tM V (SD.take z.1) []/\(∀p∈z.2,GY p.1/\p.2.2.1=0/\p.2.1.n<=z.1)/\(z.2.map (·.1)).Nodup/\St w w' (qw A7 A1 A3 A6 k (tv (SD.take z.1) Z) one Z++ (qx A2 A4 A5 L c4 c5 V SD++ (fN 183 g (eC qt vw z.2)::lI 182 z.2)))) (fun z=>L - z.1) (0,[]) (aqv O) ⟨bg _,O,by simp,by simp,hS⟩ ?_;clear hS;rintro⟨q,M⟩ ev w7 ⟨hq,GF,F7,tY,hS⟩;dsimp only at hq GF F7 tY hS|-;refine bL O (aM _ O (fun h3=>?_) (fun h3=>?_))
    ·have Og:q<SD.length:=by omega
     have qk:=aeZ _ (dK Og);have JP:=ai7 Og Z;have yC:=abf (V:=V) Og;have Ur:=(hS.CW 5 O).at_ (j:=q) am;generalize Cx:SD[q]=s at qk JP yC Ur;refine aA O (Lg (hS.CW 5 O) O O O am am (Re (cs:= #[ak s.s,ak s.v]) 1 Ur O O O (Z7 hS O ?_)));clear hS;intro gB w8 hS;refine b5 2 0 hS O O O O O O O ?_;clear hS;intro w9 hS;have hS:St w w9 (Bx 182 2 gB [ak s.s,ak s.v]::(qw A7 A1 A3 A6 k (tv (SD.take q) Z) one Z++ (qx A2 A4 A5 L c4 c5 V SD++ (fN 183 g (eC qt vw M)::lI 182 M)))):=hS;refine aC O (C9 (by kernel_rfl) (by kernel_rfl) (fun S e1 w1=>PmB w A2 A4 A5 A7 gB A1 A3 A6 L c4 c5 k g q s V (tv (SD.take q) Z) one Z SD (qx A2 A4 A5 L c4 c5 V SD++ (fN 183 g (eC qt vw M)::lI 182 M)) S e1 w1) (fun w4 hb=> ⟨O,O,O,O,O,O,O,O,fun h=> (nomatch h),fun h=> (nomatch h),fun h=> (nomatch h),fun h=> (nomatch h),fun h=> (nomatch h),fun h=> (nomatch h),fun h=> (nomatch h),fun h=> (nomatch h),fun h=> (nomatch h),fun h=> (nomatch h),fun h=> (nomatch h),fun h=> (nomatch h),fun h=> (nomatch h),fun h=> (nomatch h),fun h=> (nomatch h),fun h=> (nomatch h),tv (SD.take q) Z,fun _=>O,fun h=> (nomatch h),fun h=> (nomatch h),hS.aq hb⟩) ?_ ?_)
     ·intro S q o e1 w4 hq cV hd de hI;obtain⟨f2,f4,f12,f13,f16,f83,f84,f85,p0,p1,p2,p3,p4,p5,p6,p7,p8,p9,iF,oo,iG,oq,ot,ou,M0,m15,m16,m17,hT⟩:=hI
      match q,hq,cV with
      | 0,hq,cV=>
       obtain rfl:=dG hq;refine lM O (by exact f12) O (ao.n ?_);exact⟨f2,f4,f12,f13,f16,f83,f84,f85,fun _=>O,p1,p2,p3,p4,p5,p6,p7,p8,p9,iF,oo,iG,oq,ot,ou,M0,m15,m16,m17,hT⟩
      | 1,hq,cV=>
       obtain rfl:=dG hq;refine aqj (hT.fQ 1 O).2 (by exact p0 (eo hd 0 O)) O O am am (ao.n ?_);exact⟨f2,f4,f12,f13,f16,f83,f84,f85,p0,fun _=>O,p2,p3,p4,p5,p6,p7,p8,p9,iF,oo,iG,oq,ot,ou,M0,m15,m16,m17,hT⟩
      | 2,hq,cV=>
       obtain rfl:=dG hq;refine aqq (i:=0) (hT.fQ 1 O) (by exact p1 (eo hd 1 O)) an O O ?_;exact ao.n ⟨f2,f4,f12,f13,f16,f83,f84,f85,p0,p1,fun _=>O,p3,p4,p5,p6,p7,p8,p9,iF,oo,iG,oq,ot,ou,M0,m15,m16,m17,hT⟩
      | 3,hq,cV=>
       obtain rfl:=dG hq;refine uJ (n:=2) (o:=0) (hT.rd 0 O) am (by rw [jz gB];exact f16) O O am am ?_;exact ao.n ⟨f2,f4,f12,f13,f16,f83,f84,f85,p0,p1,p2,fun _=>O,p4,p5,p6,p7,p8,p9,iF,oo,iG,oq,ot,ou,M0,m15,m16,m17,hT⟩
      | 4,hq,cV=>
       obtain rfl:=dG hq;refine gP (j:=0) (hT.rd 0 O) (by exact p3 (eo hd 3 O)) O O O O (ao.n ?_);exact⟨f2,f4,f12,f13,f16,f83,f84,f85,p0,p1,p2,p3,fun _=>O,p5,p6,p7,p8,p9,iF,oo,iG,oq,ot,ou,M0,m15,m16,m17,hT⟩
      | 5,hq,cV=>
       obtain rfl:=dG hq;refine lM O (by exact f12) O (ao.n ?_);exact⟨f2,f4,f12,f13,f16,f83,f84,f85,p0,p1,p2,p3,p4,fun _=>O,p6,p7,p8,p9,iF,oo,iG,oq,ot,ou,M0,m15,m16,m17,hT⟩
      | 6,hq,cV=>
       obtain rfl:=dG hq;refine aqj (hT.fQ 1 O).2 (by exact p5 (eo hd 5 O)) O O am am (ao.n ?_);exact⟨f2,f4,f12,f13,f16,f83,f84,f85,p0,p1,p2,p3,p4,p5,fun _=>O,p7,p8,p9,iF,oo,iG,oq,ot,ou,M0,m15,m16,m17,hT⟩
      | 7,hq,cV=>
       obtain rfl:=dG hq;refine aqq (i:=0) (hT.fQ 1 O) (by exact p6 (eo hd 6 O)) an O O ?_;exact ao.n ⟨f2,f4,f12,f13,f16,f83,f84,f85,p0,p1,p2,p3,p4,p5,p6,fun _=>O,p8,p9,iF,oo,iG,oq,ot,ou,M0,m15,m16,m17,hT⟩
      | 8,hq,cV=>
       obtain rfl:=dG hq;refine uJ (n:=2) (o:=0) (hT.rd 0 O) am (by rw [jz gB];exact f16) O O am am ?_;exact ao.n ⟨f2,f4,f12,f13,f16,f83,f84,f85,p0,p1,p2,p3,p4,p5,p6,p7,fun _=>O,p9,iF,oo,iG,oq,ot,ou,M0,m15,m16,m17,hT⟩
      | 9,hq,cV=>
       obtain rfl:=dG hq;refine gP (j:=1) (hT.rd 0 O) (by exact p8 (eo hd 8 O)) O O O O (ao.n ?_);exact⟨f2,f4,f12,f13,f16,f83,f84,f85,p0,p1,p2,p3,p4,p5,p6,p7,p8,fun _=>O,iF,oo,iG,oq,ot,ou,M0,m15,m16,m17,hT⟩
      | 10,hq,cV=>
       obtain rfl:=dG hq;refine uJ (n:=2) (o:=0) (hT.rd 0 O) am (by rw [jz gB];exact f16) O O am am ?_;exact ao.n ⟨f2,f4,f12,f13,f16,f83,f84,f85,p0,p1,p2,p3,p4,p5,p6,p7,p8,p9,fun _=>O,oo,iG,oq,ot,ou,M0,m15,m16,m17,hT⟩
      | 11,hq,cV=>
       obtain rfl:=dG hq;refine gP (j:=1) (hT.rd 0 O) (by exact iF (eo hd 10 O)) O O O O (ao.n ?_);exact⟨f2,f4,f12,f13,f16,f83,f84,f85,p0,p1,p2,p3,p4,p5,p6,p7,p8,p9,iF,fun _=>O,iG,oq,ot,ou,M0,m15,m16,m17,hT⟩
      | 12,hq,cV=>
       obtain rfl:=dG hq;refine uJ (n:=2) (o:=0) (hT.rd 0 O) am (by rw [jz gB];exact f16) O O am am ?_;exact ao.n ⟨f2,f4,f12,f13,f16,f83,f84,f85,p0,p1,p2,p3,p4,p5,p6,p7,p8,p9,iF,oo,fun _=>O,oq,ot,ou,M0,m15,m16,m17,hT⟩
      | 13,hq,cV=>
       obtain rfl:=dG hq;refine gP (j:=0) (hT.rd 0 O) (by exact iG (eo hd 12 O)) O O O O (ao.n ?_);exact⟨f2,f4,f12,f13,f16,f83,f84,f85,p0,p1,p2,p3,p4,p5,p6,p7,p8,p9,iF,oo,iG,fun _=>O,ot,ou,M0,m15,m16,m17,hT⟩
      | 14,hq,cV=>
       obtain rfl:=dG hq;refine aqj (hT.bz 2 O).2 (by exact p2 (eo hd 2 O)) (by exact p4 (eo hd 4 O)) O am am (ao.n ?_);exact⟨f2,f4,f12,f13,f16,f83,f84,f85,p0,p1,p2,p3,p4,p5,p6,p7,p8,p9,iF,oo,iG,oq,fun _=>O,ou,M0,m15,m16,m17,hT⟩
      | 15,hq,cV=>
       obtain rfl:=dG hq;have n17:S 17=false:=by
        cases h:S 17 with
        | false=>rfl
        | true=>rw [<-cV];exact(eo (de 17 _ h rfl) 15 rfl).symm
       obtain rfl:=m15 cV;refine kN 2 (i:=s.s) hT O (by exact ot (eo hd 14 O)) (by exact oo (eo hd 11 O)) am ?_;intro w9 hT;refine ao.n ?_;exact⟨f2,f4,f12,f13,f16,f83,f84,f85,p0,p1,p2,p3,p4,p5,p6,p7,p8,p9,iF,oo,iG,oq,ot,ou,_,fun h=> (nomatch (show true=false from h)),fun _ _=>O,fun h=> (nomatch n17.symm.trans h),hT⟩
      | 16,hq,cV=>
       obtain rfl:=dG hq;refine aqj (hT.bz 2 O).2 (by exact p7 (eo hd 7 O)) (by exact p9 (eo hd 9 O)) O am am (ao.n ?_);exact⟨f2,f4,f12,f13,f16,f83,f84,f85,p0,p1,p2,p3,p4,p5,p6,p7,p8,p9,iF,oo,iG,oq,ot,fun _=>O,M0,m15,m16,m17,hT⟩
      | 17,hq,cV=>
       obtain rfl:=dG hq;obtain rfl:=m16 (eo hd 15 rfl) cV;refine kN 2 (i:=s.v) hT O (by exact ou (eo hd 16 O)) (by exact oq (eo hd 13 O)) am ?_;intro w9 hT;refine ao.n ?_;exact⟨f2,f4,f12,f13,f16,f83,f84,f85,p0,p1,p2,p3,p4,p5,p6,p7,p8,p9,iF,oo,iG,oq,ot,ou,_,fun h=> (nomatch (eo hd 15 O).symm.trans h),fun _ h=> (nomatch (show true=false from h)),fun _=>O,hT⟩
      | q+18,hq,_=>exact(nomatch hq)
     ·intro S e1 w4 dt hI;obtain⟨f2,f4,f12,f13,f16,f83,f84,f85,p0,p1,p2,p3,p4,p5,p6,p7,p8,p9,iF,oo,iG,oq,ot,ou,M0,m15,m16,m17,hT⟩:=hI;obtain rfl:=m17 (dt 17 an);refine Dn (F:=[(2,.pointer A2),(4,.slice A4 L c4),(12,.slice A7 3 3),(13,.map (some g)),(16,.pointer gB),(83,.slice A5 L c5),(84,ak L),(85,ak q)]) ⟨f2,f4,f12,f13,f16,f83,f84,f85,au⟩ ?_;clear hS;rw [<-JP]at hT;generalize aeh:tv (SD.take (q+1)) Z=Q4 at hT;have Jk:cL w4 A4 L V:=hT.bz 5 O;have ql:Rd w4 gB 2 _:=hT.rd 0 O;refine eS O (dU [xS (A4) (L) (c4),xP (ay gB 0),xI (s.s),xI (s.s / 2),xP (ay (A4) (s.s / 2).toNat),xI (gi (V) (s.s / 2)),xS (A4) (L) (c4),xP (ay gB 1),xI (s.v),xI (s.v / 2),xP (ay (A4) (s.v / 2).toNat),xI (gi (V) (s.v / 2)),xI (gi (V) (s.s / 2)),xI (gi (V) (s.v / 2))] O (eG O) ?_ ?_)
      ·refine⟨Dr O,?_,?_,?_,fun _ _ hb _ _=>aD (Jk.aq hb).2 O Az,fun _ _ hb _ _=>aY (Jk.aq hb) O Az,Dr O,?_,?_,?_,fun _ _ hb _ _=>aD (Jk.aq hb).2 O Az,fun _ _ hb _ _=>aY (Jk.aq hb) O Az,Dr O,Dr O,au⟩
       ·intro e1 w1 hb hp aU;refine uJ (o:=0) (ql.below hb) am (by rw [jz gB];rfl) O O am am ?_;exact ao.n (eP.dn (Below.refl _ _) O)
       ·intro e1 w1 hb hp aU;refine gP (j:=0) (ql.below hb) O O O O O (ao.n ?_);exact eP.dn (Below.refl _ _) O
       ·intro e1 w1 hb hp aU;refine ao.quo O O O am (ao.n ?_);exact eP.dn (Below.refl _ _) O
       ·intro e1 w1 hb hp aU;refine uJ (o:=0) (ql.below hb) am (by rw [jz gB];rfl) O O am am ?_;exact ao.n (eP.dn (Below.refl _ _) O)
       ·intro e1 w1 hb hp aU;refine gP (j:=1) (ql.below hb) O O O O O (ao.n ?_);exact eP.dn (Below.refl _ _) O
       ·intro e1 w1 hb hp aU;refine ao.quo O O O am (ao.n ?_);exact eP.dn (Below.refl _ _) O
      intro u w9 oV _;have hS:=hT.aq oV;clear hT;obtain⟨x,hx⟩:∃x,x=Bh V s:=⟨_,rfl⟩;obtain⟨s2,mI⟩:∃s2,s2=Ho V s:=⟨_,rfl⟩;refine QY 0 O (uF (α:=Unit) (fun _=> [(2,.pointer A2),(4,.slice A4 L c4),(12,.slice A7 3 3),(13,.map (some g)),(16,.pointer gB),(17,ak x.1),(18,ak x.2),(83,.slice A5 L c5),(84,ak L),(85,ak q)]) (fun _ w'=>St w w' (Bx 182 2 gB [ak s2.s,ak s2.v]::(qw A7 A1 A3 A6 k Q4 one Z++ (qx A2 A4 A5 L c4 c5 V SD++ (fN 183 g (eC qt vw M)::lI 182 M))))) ?_ ?_)
      ·refine bL O (aM _ O (fun h4=>?_) (fun h4=>?_))
       ·have ex:x=(gi V (s.v / 2),gi V (s.s / 2)):=by rw [hx];unfold Bh;rw [if_pos (by omega)]
        have es:s2=⟨s.v,s.s⟩:=by rw [mI];unfold Ho;rw [if_pos (by omega)]
        refine aA O ?_;refine uJ (n:=2) (o:=0) (hS.rd 0 O) am (by rw [jz gB];rfl) O O am am ?_;refine gP (j:=1) (hS.rd 0 O) O O O O O ?_;refine uJ (n:=2) (o:=0) (hS.rd 0 O) am (by rw [jz gB];rfl) O O am am ?_;refine gP (j:=0) (hS.rd 0 O) O O O O O ?_;refine uJ (n:=2) (o:=0) (hS.rd 0 O) am (by rw [jz gB];rfl) O O am am ?_;refine ki 0 (j:=0) hS O O O O O ?_;clear hS;intro dY hS;refine uJ (n:=2) (o:=0) (hS.rd 0 O) am (by rw [jz gB];rfl) O O am am ?_;refine ki 0 (j:=1) hS O O O O O ?_;clear hS;intro eF hS;refine aT O (tQ ?_);rw [ex,es];exact⟨(),(aqv O),hS⟩
       ·have ex:x=(gi V (s.s / 2),gi V (s.v / 2)):=by rw [hx];unfold Bh;rw [if_neg (by omega)]
        have es:s2=s:=by rw [mI];unfold Ho;rw [if_neg (by omega)]
        refine oC O (tQ ?_);rw [ex,es];exact⟨(),(aqv O),hS⟩
      ·rintro⟨⟩ ev dY hS;have Ek:∀y:Int,0<=y->y<L-> -9223372036854775808<=gi V y/\gi V y<=9223372036854775807:=fun y h0 h1=>by
        have:=afN _ (gi_in (out:=V) (i:=y.toNat) am)
        rwa [show((y.toNat:Nat):Int)=y by omega]at this
       have rZ:GY x:=by
        rw [hx];unfold Bh
        split
        ·exact⟨Ek _ am am,Ek _ am am⟩
        ·exact⟨Ek _ am am,Ek _ am am⟩
       have JF:=adu (x:=x) F7;have hS:=((hS.perm (Xj _ _ _ _ _)).anf (x:=x)).perm ((Xk _ _ _ _ _).cons _);refine C9 (by kernel_rfl) (by kernel_rfl) (fun S e1 w1=>PmD w A2 A4 A5 A7 gB L c4 c5 g q x s2 M (qw A7 A1 A3 A6 k Q4 one Z++ (qx A2 A4 A5 L c4 c5 V SD++lI 182 (jf M x))) S e1 w1) (fun w4 hb=> ⟨O,O,O,O,O,O,O,O,O,O,fun h=> (nomatch h),fun h=> (nomatch h),fun h=> (nomatch h),fun h=> (nomatch h),fun h=> (nomatch h),fun h=> (nomatch h),fun h=> (nomatch h),fun h=> (nomatch h),fun h=> (nomatch h),fun h=> (nomatch h),[],nW M x,M,fun _=>O,fun h=> (nomatch h),fun _=>O,fun h=> (nomatch h),fun _=>O,fun h=> (nomatch h),hS.aq hb⟩) ?_ ?_
       ·intro S q o e1 w4 hq cV hd de hI;obtain⟨f2,f4,f12,f13,f16,f83,f84,f85,f17,f18,p0,p1,p2,p3,p4,p5,p6,p7,p8,p9,b,u,Mm,m10,tw,m11,r8,m12,vp,hT⟩:=hI
        match q,hq,cV with
        | 0,hq,cV=>
         obtain rfl:=dG hq;refine Ri O (by exact f13) O (ao.n ?_);exact⟨f2,f4,f12,f13,f16,f83,f84,f85,f17,f18,fun _=>O,p1,p2,p3,p4,p5,p6,p7,p8,p9,b,u,Mm,m10,tw,m11,r8,m12,vp,hT⟩
        | 1,hq,cV=>
         obtain rfl:=dG hq;refine qG O (by exact f17) O (ao.n ?_);exact⟨f2,f4,f12,f13,f16,f83,f84,f85,f17,f18,p0,fun _=>O,p2,p3,p4,p5,p6,p7,p8,p9,b,u,Mm,m10,tw,m11,r8,m12,vp,hT⟩
        | 2,hq,cV=>
         obtain rfl:=dG hq;refine qG O (by exact f18) O (ao.n ?_);exact⟨f2,f4,f12,f13,f16,f83,f84,f85,f17,f18,p0,p1,fun _=>O,p3,p4,p5,p6,p7,p8,p9,b,u,Mm,m10,tw,m11,r8,m12,vp,hT⟩
        | 3,hq,cV=>
         obtain rfl:=dG hq;refine Ld (by exact inferInstance) (by exact p1 (eo hd 1 O)) (by exact p2 (eo hd 2 O)) O O O (ao.n ?_);exact⟨f2,f4,f12,f13,f16,f83,f84,f85,f17,f18,p0,p1,p2,fun _=>O,p4,p5,p6,p7,p8,p9,b,u,Mm,m10,tw,m11,r8,m12,vp,hT⟩
        | 4,hq,cV=>
         obtain rfl:=dG hq;refine Ri O (by exact f13) O (ao.n ?_);exact⟨f2,f4,f12,f13,f16,f83,f84,f85,f17,f18,p0,p1,p2,p3,fun _=>O,p5,p6,p7,p8,p9,b,u,Mm,m10,tw,m11,r8,m12,vp,hT⟩
        | 5,hq,cV=>
         obtain rfl:=dG hq;refine qG O (by exact f17) O (ao.n ?_);exact⟨f2,f4,f12,f13,f16,f83,f84,f85,f17,f18,p0,p1,p2,p3,p4,fun _=>O,p6,p7,p8,p9,b,u,Mm,m10,tw,m11,r8,m12,vp,hT⟩
        | 6,hq,cV=>
         obtain rfl:=dG hq;refine qG O (by exact f18) O (ao.n ?_);exact⟨f2,f4,f12,f13,f16,f83,f84,f85,f17,f18,p0,p1,p2,p3,p4,p5,fun _=>O,p7,p8,p9,b,u,Mm,m10,tw,m11,r8,m12,vp,hT⟩
        | 7,hq,cV=>
         obtain rfl:=dG hq;refine Ld (by exact inferInstance) (by exact p5 (eo hd 5 O)) (by exact p6 (eo hd 6 O)) O O O (ao.n ?_);exact⟨f2,f4,f12,f13,f16,f83,f84,f85,f17,f18,p0,p1,p2,p3,p4,p5,p6,fun _=>O,p8,p9,b,u,Mm,m10,tw,m11,r8,m12,vp,hT⟩
        | 8,hq,cV=>
         obtain rfl:=dG hq;have n12:S 12=false:=by
          cases h:S 12 with
          | false=>rfl
          | true=>rw [<-cV];exact(eo (de 12 _ h rfl) 8 rfl).symm
         obtain rfl:=m12 n12;have km:vJ w4 g (eC qt vw Mm):=(hT.sub (kA b _)).CU 2 O;refine Z0 Wf rZ (fun p hp=> (F7 p hp).1) tY km (by exact p4 (eo hd 4 O)) (by exact p7 (eo hd 7 O)) (by exact gqV _ x) O ?_;exact ao.n ⟨f2,f4,f12,f13,f16,f83,f84,f85,f17,f18,p0,p1,p2,p3,p4,p5,p6,p7,fun _=>O,p9,b,u,_,m10,tw,m11,r8,fun _=>O,fun h=> (nomatch n12.symm.trans h),hT⟩
        | 9,hq,cV=>
         obtain rfl:=dG hq;refine Re 1 ((hT.sub (kA b _)).rd 1 O) (by exact f16) O O (ao.n ?_);exact⟨f2,f4,f12,f13,f16,f83,f84,f85,f17,f18,p0,p1,p2,p3,p4,p5,p6,p7,p8,fun _=>O,b,u,Mm,m10,tw,m11,r8,m12,vp,hT⟩
        | 10,hq,cV=>
         obtain rfl:=dG hq;obtain rfl:=m10 cV;refine Q8 hT (by exact p9 (eo hd 9 O)) O O ?_;intro A9 w9 hT;refine ao.n ?_;exact⟨f2,f4,f12,f13,f16,f83,f84,f85,f17,f18,p0,p1,p2,p3,p4,p5,p6,p7,p8,p9,[jQ 182 A9 1 1 0 [s2]],u,Mm,fun h=> (nomatch (show true=false from h)),fun _=> ⟨A9,O,O⟩,m11,r8,m12,vp,hT⟩
        | 11,hq,cV=>
         obtain rfl:=dG hq;have n12:S 12=false:=by
          cases h:S 12 with
          | false=>rfl
          | true=>rw [<-cV];exact(eo (de 12 _ h rfl) 11 rfl).symm
         obtain⟨A9,FY,rfl⟩:=tw (eo hd 10 rfl);obtain rfl:=m11 cV;refine Q6 1 hT O (hT.CW 0 O) (by exact p8 (eo hd 8 O)) (by exact FY) O am am O ?_;intro A3 c3 q3 w9 GH hT;refine ao.n ?_;exact⟨f2,f4,f12,f13,f16,f83,f84,f85,f17,f18,p0,p1,p2,p3,p4,p5,p6,p7,p8,p9,_,(⟨A3,(nW M x).1.n+1,c3⟩,q3,(nW M x).2.2++ [s2]),Mm,m10,fun _=> ⟨A9,FY,O⟩,fun h=> (nomatch (show true=false from h)),fun _=> ⟨O,by show q3=0;omega,O,O⟩,m12,fun h=> (nomatch n12.symm.trans h),hT⟩
        | 12,hq,cV=>
         obtain rfl:=dG hq;obtain⟨A9,FY,rfl⟩:=tw (eo hd 10 rfl);have q11:=r8 (eo hd 11 O);obtain rfl:=m12 cV;refine aad O Wf 3 (a:=x) (u:=u) rZ (fun p hp=> (F7 p hp).1) tY hT O (by exact p0 (eo hd 0 O)) (by exact p3 (eo hd 3 O)) (by exact q11.1) ?_;intro w9 hT;refine ao.n ?_;exact⟨f2,f4,f12,f13,f16,f83,f84,f85,f17,f18,p0,p1,p2,p3,p4,p5,p6,p7,p8,p9,_,u,_,m10,fun _=> ⟨A9,FY,O⟩,m11,r8,fun h=> (nomatch (show true=false from h)),fun _=>O,hT⟩
        | q+13,hq,_=>exact(nomatch hq)
       ·intro S e1 w4 dt hI;obtain⟨f2,f4,f12,f13,f16,f83,f84,f85,f17,f18,p0,p1,p2,p3,p4,p5,p6,p7,p8,p9,b,u,Mm,m10,tw,m11,r8,m12,vp,hT⟩:=hI;obtain⟨A9,FY,rfl⟩:=tw (dt 10 an);obtain⟨h139,u1,u2,u3⟩:=r8 (dt 11 an);obtain rfl:=vp (dt 12 an);refine Dn (F:=[(2,.pointer A2),(4,.slice A4 L c4),(12,.slice A7 3 3),(13,.map (some g)),(83,.slice A5 L c5),(84,ak L),(85,ak q)]) ⟨f2,f4,f12,f13,f83,f84,f85,au⟩ ?_;have hT:=(((hT.tail.perm ((Xk _ _ _ _ _).symm.cons _)).alM).perm (Xj _ _ _ _ _).symm).tail;rw [<-aeh]at hT;clear hS;refine jD O (aI O (aT O (tQ ?_)));refine⟨(q+1,fj M x u),by show L - (q+1)<L - q;omega,⟨O,O,O,O,O,O,aE (Value.int .i64) am,au⟩,by show q+1<=L;omega,?_,fun p hp=>?_,(XG tY).1,hT⟩
        ·show wu (fj M x u)=_;rw [ak8,u3,adw,GF,yC,<-hx,<-mI]
        ·rcases XE hp with rfl | hp
         ·exact⟨rZ,u1,by show u.1.n<=q+1;omega⟩
         ·have h9:=F7 p hp;exact⟨h9.1,h9.2.1,by show p.2.1.n<=q+1;have:=h9.2.2;omega⟩
    ·obtain rfl:q=L:=by omega
     rw [iY (by omega)]at hS GF;rw [dX]at hS;have Nl:Z.length=k:=by rw [hZ];simp
     have Jq:∀(i:Nat) (p:rD),M[i]?=some p->(p.1,p.2.2.2)∈tM V SD []:=fun i p h=>by
      rw [<-GF];exact dF.2 ⟨p,List.mem_of_getElem? h,O⟩
     refine bp O (bt (cS O ?_));refine aaa 7 182 hS O O O ?_;clear hS;intro r es cl w8 JK o8 hS;have hSi:∀(i:Nat) (y:MapEntry),es[i]?=some y->∃p,M[i]?=some p/\y.key=qt p.1/\y.val=vw p.2:=fun i y h=>by
      have h1:=aE (fun l:List (ad×ad)=>l[i]?) JK;simp only [Kj,eC,List.getElem?_map,h,Option.map_some]at h1;obtain⟨p,hp,h2⟩:=Option.map_eq_some_iff.1 h1.symm;exact⟨p,hp,(aE Prod.fst h2).symm,(aE Prod.snd h2).symm⟩
     have hSl:es.length=M.length:=by have:=aE List.length JK;simpa [Kj,eC]using this
     have hS:St w w8 (pf 182 r g cl []::(qw A7 A1 A3 A6 k vE one Z++ (qx A2 A4 A5 q c4 c5 V SD++ (sH 183 g es cl::lI 182 M)))):=hS;refine aC O ?_;refine Cd.loop (α:=List Nat×ai) (fun z=> [(2,.pointer A2),(12,.slice A7 3 3),(142,.pointer (some ⟨r,0,Option.none⟩))]) (fun z w'=>z.2.length=k/\(∀(i:Nat) (p:rD) (y:MapEntry),es[i]?=some y->M[i]?=some p->y.born∈z.1->Zo z.2 T p.2.2.2)/\St w w' (pf 182 r g cl z.1::(qw A7 A1 A3 A6 k vE one z.2++ (qx A2 A4 A5 q c4 c5 V SD++ (sH 183 g es cl::lI 182 M))))) (fun z=> (r7 es z.1).length) ([],Z) ⟨rfl,rfl,rfl,au⟩ ⟨Nl,fun i p y _ _ h=> (by cases h),hS⟩ ?_;clear hS;rintro⟨seen,M2⟩ ev w9 ⟨F6,Nv,hS⟩;dsimp only at F6 Nv hS|-;refine bh O (Z9 8 0 hS O O O O (fun hl=>?_) (fun y dY hy bW=>?_))
     ·--dup 2
      have hMT:M2=T:=by
       refine adq (by rw [F6,T9]) fun f hf=>?_
       obtain⟨p,hp,a,ha,z8⟩:=aeT f (ig.2 am);rw [<-GF]at hp;obtain⟨p',lD,rfl⟩:=dF.1 hp;obtain⟨i,hi⟩:=List.mem_iff_getElem?.1 lD;obtain⟨y,hy⟩:∃y,es[i]?=some y:=⟨_,fq (by rw [hSl];exact(gx.1 hi).1)⟩;have h9:=Nv i p' y hy hi (aiR hl (List.mem_of_getElem? hy)) a ha;rcases z8 with e | e
       ·rw [<-e];exact h9.1
       ·rw [<-e];exact h9.2
      subst hMT;refine aC O (Cd.fg O ?_);refine bp O (bt (cS O ?_));refine Fm (by exact inferInstance) O O O O (ib hS O ?_);clear hS;intro C6 dY hS;refine b5 1 0 hS O O O O O O O ?_;clear hS;intro eF hS;have hS:St w eF (Bx 24 1 C6 [.slice A7 3 3]::pf 182 r g cl seen::(qw A7 A1 A3 A6 k vE one M2++ (qx A2 A4 A5 q c4 c5 V SD++ (sH 183 g es cl::lI 182 M)))):=hS;have km:bF eF A7 3 [⟨A1,k,k⟩,⟨A3,k,k⟩,⟨A6,k,k⟩] [vE,one,M2]:=St.jB (w0:=w) (t1:=34) (t2:=2) (c:=3) (rs:=[⟨A1,k,k⟩,⟨A3,k,k⟩,⟨A6,k,k⟩]) (xss:=[vE,one,M2]) (ks:=qx A2 A4 A5 q c4 c5 V SD++ (sH 183 g es cl::lI 182 M)) hS.tail.tail O;refine ar O (ao.cN 0 (hS.rd 0 O) O O O (aL (yZ A7 3 3 _ _ _ km am am) O ?_));rintro _ fH ⟨rfl,av⟩;have hS:=hS.aq av.below;have mU:decide (bI [vE,one,M2])=true:=dz TX;rw [mU]
      first | refine fv rfl rfl ?_ | refine gz rfl rfl ?_
      refine aC O (Cd.fg O (aA O (ao.cN 0 (hS.rd 0 O) O O O (b5 1 8 hS O O O O O O O ?_))));clear hS;intro gG hS;refine bH O (kG O (hS.rd 8 O) O ?_);exact⟨A7,[⟨A1,k,k⟩,⟨A3,k,k⟩,⟨A6,k,k⟩],O,O,hS.tail.tail.sub (oE (qw A7 A1 A3 A6 k vE one M2) _)⟩
     ·obtain⟨i,hi⟩:=List.mem_iff_getElem?.1 (WC hy);obtain⟨p,hp,fO,kX⟩:=hSi i y hi;have JU:=Jq i p hp;have kr:=WC hy;obtain⟨yk,yv,yb⟩:=y;obtain⟨px,⟨sa,sn,sc⟩,sz,sl⟩:=p;dsimp only at fO kX bW JU;subst fO;have kX:yv= .slice sa sn sc:=kX;subst kX;have pI:=agf _ JU;have xz:=agm _ JU;have J4:=Uo _ JU;dsimp only at pI xz J4;obtain⟨a,b,rfl⟩:=aiL pI;have mX:=xz a O b O;have rU:=J4 a (by simp);have Nq:=J4 b (by simp);clear xz J4 pI;have hS:St w dY (pf 182 r g cl (seen++ [yb])::(qw A7 A1 A3 A6 k vE one M2++ (qx A2 A4 A5 q c4 c5 V SD++ (sH 183 g es cl::lI 182 M)))):=bW;have J6:sn=2:=((hS.CW (i+9) (t:=182) (A:=sa) (k:=sn) (q:=sc) (z:=sz) (cs:=[a,b]) (by
       show(lI 182 M)[i]?=_;unfold lI;rw [List.getElem?_map,hp]
       rfl)).1).symm
      refine aC O (Cd.gu O (aA O (ZV 8 0 hS O O kr O O ?_)));refine ar O (a8 O O (aC O ?_));refine qC O am (dA O ?_);refine Cd.loop (α:=Nat×ai) (fun z=> [(2,.pointer A2),(12,.slice A7 3 3),(20,.slice sa sn sc),(142,.pointer (some ⟨r,0,Option.none⟩)),(151,ak (z.1:Int))]) (fun z w'=>z.1<=2/\z.2.length=k/\(∀f:Int,0<=f->gi M2 f=gi T f->gi z.2 f=gi T f)/\(1<=z.1->gi z.2 a.s=gi T a.s/\gi z.2 b.s=gi T b.s)/\(2<=z.1->gi z.2 a.v=gi T a.v/\gi z.2 b.v=gi T b.v)/\St w w' (pf 182 r g cl (seen++ [yb])::(qw A7 A1 A3 A6 k vE one z.2++ (qx A2 A4 A5 q c4 c5 V SD++ (sH 183 g es cl::lI 182 M))))) (fun z=>2 - z.1) (0,M2) (aqv O) ⟨bg _,F6,fun _ _ h=>h,fun h=>absurd (show 1<=0 from h) an,fun h=>absurd (show 2<=0 from h) an,hS⟩ ?_;clear hS bW;rintro⟨t,Mt⟩ ev eF ⟨ht,M3,vf,qS,xr,hS⟩;dsimp only at ht M3 vf qS xr hS|-;refine bL O (aM _ O (fun h5=>?_) (fun h5=>?_))
      ·have GQ:t<2:=by omega
       have hQ:wV eF sa sn [a,b]:=hS.CW (i+9) (t:=182) (q:=sc) (z:=sz) (by
        show(lI 182 M)[i]?=_;unfold lI;rw [List.getElem?_map,hp]
        rfl)
       have Uh:=hQ.at_ (j:=0) am;have Ui:=hQ.at_ (j:=1) am;refine dA O (dU [xS (sa) (sn) (sc),xI ((t:Int)),xP (ay sa (0*2)),xP (ay (ay sa (0*2)) (0+t)),xI (nk a t),xS (sa) (sn) (sc),xI ((t:Int)),xP (ay sa (1*2)),xP (ay (ay sa (1*2)) (0+t)),xI (nk b t),xI (nk a t),xI (nk b t)] O (eG O) ?_ ?_)
       ·refine⟨Dr O,Dr O,?_,?_,?_,Dr O,Dr O,?_,?_,?_,Dr O,Dr O,au⟩
        ·intro e1 w1 hb hp aU;refine Lg (hQ.below hb) O O O am am (ao.n ?_);exact eP.dn (Below.refl _ _) O
        ·intro e1 w1 hb hp aU;refine uJ (n:=2) (o:=0) (Uh.below hb) am (by rw [jz (ay sa (0*2))];rfl) O O am am ?_;exact ao.n (eP.dn (Below.refl _ _) O)
        ·intro e1 w1 hb hp aU;refine ao.ld (Uh.below hb) O am (show _=Value.int .i64 (nk a t) from by rw [Nat.zero_add];exact XK a GQ) O O ?_;exact ao.n (eP.dn (Below.refl _ _) O)
        ·intro e1 w1 hb hp aU;refine Lg (hQ.below hb) O O O am am (ao.n ?_);exact eP.dn (Below.refl _ _) O
        ·intro e1 w1 hb hp aU;refine uJ (n:=2) (o:=0) (Ui.below hb) am (by rw [jz (ay sa (1*2))];rfl) O O am am ?_;exact ao.n (eP.dn (Below.refl _ _) O)
        ·intro e1 w1 hb hp aU;refine ao.ld (Ui.below hb) O am (show _=Value.int .i64 (nk b t) from by rw [Nat.zero_add];exact XK b GQ) O O ?_;exact ao.n (eP.dn (Below.refl _ _) O)
       intro u fH aeU _;have hS:=hS.aq aeU;have Ex:(0<=nk a t/\nk a t<k)/\(0<=nk b t/\nk b t<k)/\gi T (nk a t)=nk b t/\gi T (nk b t)=nk a t:=by
        unfold nk
        split
        ·exact⟨am,am,mX.1.1,mX.1.2⟩
        ·exact⟨am,am,mX.2.1,mX.2.2⟩
       have GR:t=0->nk a t=a.s/\nk b t=b.s:=fun h=>by subst h;exact⟨rfl,rfl⟩
       have VS:t=1->nk a t=a.v/\nk b t=b.v:=fun h=>by subst h;exact⟨rfl,rfl⟩
       generalize nk a t=va at*;generalize nk b t=vb at*;have Ch:∀f:Int,0<=f->(f=va\/f=vb\/gi Mt f=gi T f)->gi ((Mt.set va.toNat vb).set vb.toNat va) f=gi T f:=fun f hf h=>by
        refine LV ⟨Ex.2.1.1,by rw [mA];omega⟩ Ex.2.2.2 hf ?_;rcases h with h | h | h
        ·exact .inr (LV ⟨Ex.1.1,am⟩ Ex.2.2.1 hf (.inl h))
        ·exact .inl h
        ·exact .inr (LV ⟨Ex.1.1,am⟩ Ex.2.2.1 hf (.inr h))
       refine eS O (C9 (by kernel_rfl) (by kernel_rfl) (fun S e1 w1=>PmF w A7 A1 A3 A6 k t va vb ⟨sa,sn,sc⟩ r A2 vE one Mt (pf 182 r g cl (seen++ [yb])) (qx A2 A4 A5 q c4 c5 V SD++ (sH 183 g es cl::lI 182 M)) S e1 w1) (fun w4 hb=> ⟨O,O,O,O,O,O,O,fun h=> (nomatch h),fun h=> (nomatch h),fun h=> (nomatch h),fun h=> (nomatch h),fun h=> (nomatch h),fun h=> (nomatch h),fun h=> (nomatch h),fun h=> (nomatch h),fun h=> (nomatch h),fun h=> (nomatch h),fun h=> (nomatch h),fun h=> (nomatch h),Mt,fun _=>O,fun h=> (nomatch h),fun h=> (nomatch h),hS.aq hb⟩) ?_ ?_)
       ·intro S q o e1 w4 hq cV hd de hI;obtain⟨f2,f12,f20,f22,f23,f142,f151,p0,p1,p2,p3,p4,p5,p6,p7,p8,p9,iF,iG,M2,m11,m12,m13,hT⟩:=hI
        match q,hq,cV with
        | 0,hq,cV=>
         obtain rfl:=dG hq;refine lM O (by exact f12) O (ao.n ?_);exact⟨f2,f12,f20,f22,f23,f142,f151,fun _=>O,p1,p2,p3,p4,p5,p6,p7,p8,p9,iF,iG,M2,m11,m12,m13,hT⟩
        | 1,hq,cV=>
         obtain rfl:=dG hq;refine aqj (hT.fQ 1 O).2 (by exact p0 (eo hd 0 O)) O O am am (ao.n ?_);exact⟨f2,f12,f20,f22,f23,f142,f151,p0,fun _=>O,p2,p3,p4,p5,p6,p7,p8,p9,iF,iG,M2,m11,m12,m13,hT⟩
        | 2,hq,cV=>
         obtain rfl:=dG hq;refine aqq (i:=2) (hT.fQ 1 O) (by exact p1 (eo hd 1 O)) an O O ?_;exact ao.n ⟨f2,f12,f20,f22,f23,f142,f151,p0,p1,fun _=>O,p3,p4,p5,p6,p7,p8,p9,iF,iG,M2,m11,m12,m13,hT⟩
        | 3,hq,cV=>
         obtain rfl:=dG hq;refine qG O (by exact f22) O (ao.n ?_);exact⟨f2,f12,f20,f22,f23,f142,f151,p0,p1,p2,fun _=>O,p4,p5,p6,p7,p8,p9,iF,iG,M2,m11,m12,m13,hT⟩
        | 4,hq,cV=>
         obtain rfl:=dG hq;refine lM O (by exact f12) O (ao.n ?_);exact⟨f2,f12,f20,f22,f23,f142,f151,p0,p1,p2,p3,fun _=>O,p5,p6,p7,p8,p9,iF,iG,M2,m11,m12,m13,hT⟩
        | 5,hq,cV=>
         obtain rfl:=dG hq;refine aqj (hT.fQ 1 O).2 (by exact p4 (eo hd 4 O)) O O am am (ao.n ?_);exact⟨f2,f12,f20,f22,f23,f142,f151,p0,p1,p2,p3,p4,fun _=>O,p6,p7,p8,p9,iF,iG,M2,m11,m12,m13,hT⟩
        | 6,hq,cV=>
         obtain rfl:=dG hq;refine aqq (i:=2) (hT.fQ 1 O) (by exact p5 (eo hd 5 O)) an O O ?_;exact ao.n ⟨f2,f12,f20,f22,f23,f142,f151,p0,p1,p2,p3,p4,p5,fun _=>O,p7,p8,p9,iF,iG,M2,m11,m12,m13,hT⟩
        | 7,hq,cV=>
         obtain rfl:=dG hq;refine qG O (by exact f23) O (ao.n ?_);exact⟨f2,f12,f20,f22,f23,f142,f151,p0,p1,p2,p3,p4,p5,p6,fun _=>O,p8,p9,iF,iG,M2,m11,m12,m13,hT⟩
        | 8,hq,cV=>
         obtain rfl:=dG hq;refine qG O (by exact f23) O (ao.n ?_);exact⟨f2,f12,f20,f22,f23,f142,f151,p0,p1,p2,p3,p4,p5,p6,p7,fun _=>O,p9,iF,iG,M2,m11,m12,m13,hT⟩
        | 9,hq,cV=>
         obtain rfl:=dG hq;refine qG O (by exact f22) O (ao.n ?_);exact⟨f2,f12,f20,f22,f23,f142,f151,p0,p1,p2,p3,p4,p5,p6,p7,p8,fun _=>O,iF,iG,M2,m11,m12,m13,hT⟩
        | 10,hq,cV=>
         obtain rfl:=dG hq;refine aqj (hT.bz 4 O).2 (by exact p2 (eo hd 2 O)) (by exact p3 (eo hd 3 O)) O am am (ao.n ?_);exact⟨f2,f12,f20,f22,f23,f142,f151,p0,p1,p2,p3,p4,p5,p6,p7,p8,p9,fun _=>O,iG,M2,m11,m12,m13,hT⟩
        | 11,hq,cV=>
         obtain rfl:=dG hq;have n13:S 13=false:=by
          cases h:S 13 with
          | false=>rfl
          | true=>rw [<-cV];exact(eo (de 13 _ h rfl) 11 rfl).symm
         obtain rfl:=m11 cV;refine kN 4 (i:=va) hT O (by exact iF (eo hd 10 O)) (by exact p8 (eo hd 8 O)) am ?_;intro w9 hT;refine ao.n ?_;exact⟨f2,f12,f20,f22,f23,f142,f151,p0,p1,p2,p3,p4,p5,p6,p7,p8,p9,iF,iG,_,fun h=> (nomatch (show true=false from h)),fun _ _=>O,fun h=> (nomatch n13.symm.trans h),hT⟩
        | 12,hq,cV=>
         obtain rfl:=dG hq;refine aqj (hT.bz 4 O).2 (by exact p6 (eo hd 6 O)) (by exact p7 (eo hd 7 O)) O am am (ao.n ?_);exact⟨f2,f12,f20,f22,f23,f142,f151,p0,p1,p2,p3,p4,p5,p6,p7,p8,p9,iF,fun _=>O,M2,m11,m12,m13,hT⟩
        | 13,hq,cV=>
         obtain rfl:=dG hq;obtain rfl:=m12 (eo hd 11 rfl) cV;refine kN 4 (i:=vb) hT O (by exact iG (eo hd 12 O)) (by exact p9 (eo hd 9 O)) am ?_;intro w9 hT;refine ao.n ?_;exact⟨f2,f12,f20,f22,f23,f142,f151,p0,p1,p2,p3,p4,p5,p6,p7,p8,p9,iF,iG,_,fun h=> (nomatch (eo hd 11 O).symm.trans h),fun _ h=> (nomatch (show true=false from h)),fun _=>O,hT⟩
        | q+14,hq,_=>exact(nomatch hq)
       ·intro S e1 w4 dt hI;obtain⟨f2,f12,f20,f22,f23,f142,f151,p0,p1,p2,p3,p4,p5,p6,p7,p8,p9,iF,iG,M2,m11,m12,m13,hT⟩:=hI;obtain rfl:=m13 (dt 13 an);refine Dn (F:=[(2,.pointer A2),(12,.slice A7 3 3),(20,.slice sa sn sc),(142,.pointer (some ⟨r,0,Option.none⟩)),(151,ak t)]) ⟨f2,f12,f20,f142,f151,au⟩ (jD O (aI O (aT O (tQ ?_))));refine⟨(t+1,(Mt.set va.toNat vb).set vb.toNat va),by show 2 - (t+1)<2 - t;omega,⟨O,O,O,O,aE (Value.int .i64) am,au⟩,by show t+1<=2;omega,by show((Mt.set va.toNat vb).set vb.toNat va).length=k;simp [M3],fun f hf h=>Ch f hf (.inr (.inr (vf f hf h))),fun _=>?_,fun h=>?_,hT⟩
        ·rcases Nat.eq_zero_or_pos t with e | e
         ·exact⟨Ch _ rU.1.1 (.inl (GR e).1.symm),Ch _ Nq.1.1 (.inr (.inl (GR e).2.symm))⟩
         ·have:=qS e;exact⟨Ch _ rU.1.1 (.inr (.inr this.1)),Ch _ Nq.1.1 (.inr (.inr this.2))⟩
        ·have e:t=1:=by have:2<=t+1:=h;omega
         exact⟨Ch _ rU.2.1 (.inl (VS e).1.symm),Ch _ Nq.2.1 (.inr (.inl (VS e).2.symm))⟩
      ·have GQ:t=2:=by omega
       have g1:=qS am;have g2:=xr am;refine bp O (bt (Da O (tQ ?_)));refine⟨(seen++ [yb],Mt),aiQ hy,(aqv O),M3,fun i' p' y' dw lD hm=>?_,hS⟩;rcases jd.1 hm with hm | hm
       ·intro z hz;have hc:=Nv i' p' y' dw lD hm z hz;have oV:=Uo _ (Jq i' p' lD) z hz;exact⟨vf _ oV.1.1 hc.1,vf _ oV.2.1 hc.2⟩
       ·have ei:i'=i:=akt o8.2 (a:=yb) (by simp [dw];simpa using hm) (by simp [hi]);subst ei;obtain rfl:=dG (hp.symm.trans lD);intro z hz;rcases iX.1 hz with rfl | hz
        ·exact⟨g1.1,g2.1⟩
        ·obtain rfl:=gj.1 hz;exact⟨g1.2,g2.2⟩
def zr(xs:ai)(i:Nat):ai:=[gi xs (3* (i:Int)),gi xs (3* (i:Int)+1),gi xs (3* (i:Int)+2)]
def rq(xs:ai)(k:Nat):ah:=(List.range k).map (zr xs)
theorem anu(xs:ai)(k:Nat):(rq xs k).length=k:=by simp [rq]
theorem anv(xs:ai)(k:Nat):rq xs (k+1)=rq xs k++ [zr xs k]:=by simp [rq,jU]
theorem Wp(A:aj)(n c k:Nat)(xs:ai)(w:aa)(hX:cL w A n xs)(hn:n=3*k)(hk:k<=1000):
 aJ prog 107 [.slice A n c] w (fun v w'=>∃(A':aj) (c':Nat) (rs':List aO),v= .slice A' k c'/\rs'.length=k/\St w w' (aS 34 2 A' k c' rs' (rq xs k))):=by
 refine bC func107 O ntmps107 O (df O) (bh O (jr (St.refl w) O ?_));intro A5 w1 hS;have hS:St w w1 (aS 34 2 A5 0 0 [] []):=hS;refine aC O (Cd.loop (α:=Nat×(aj×Nat)×List aO) (fun z=> [(0,.slice A n c),(3,.slice z.2.1.1 z.1 z.2.1.2),(4,ak (3* (z.1:Int)))]) (fun z w'=>z.1<=k/\z.2.2.length=z.1/\St w w' (aS 34 2 z.2.1.1 z.1 z.2.1.2 z.2.2 (rq xs z.1))) (fun z=>k - z.1) (0,(A5,0),[]) (aqv O) ⟨bg _,O,hS⟩ ?_);clear hS;rintro⟨q,⟨A3,c3⟩,rs⟩ ev w2 ⟨hq,cn,hS⟩;dsimp only at hq cn hS|-;refine bh O (aI O (ar O (a8 O O (aC O ?_))));refine aM _ O (fun h1=>?_) (fun h1=>?_)
 ·have hqk:q<k:=by omega
  have D5:=hS.gA hX;have J8:=anu xs q;refine dA O ?_;refine kK [17] [yS (A3) (q) (c3),yS (A) (n) (c),yI ((3* (q:Int))),yP (ay (A) ((3* (q:Int))).toNat),yI (gi (xs) ((3* (q:Int)))),yS (A) (n) (c),yI ((3* (q:Int))),yI (((3* (q:Int)))+ ((1:Int))),yP (ay (A) (((3* (q:Int)))+ ((1:Int))).toNat),yI (gi (xs) (((3* (q:Int)))+ ((1:Int)))),yS (A) (n) (c),yI ((3* (q:Int))),yI (((3* (q:Int)))+ ((2:Int))),yP (ay (A) (((3* (q:Int)))+ ((2:Int))).toNat),yI (gi (xs) (((3* (q:Int)))+ ((2:Int)))),.pr (fun v w'=>∃jm,v= .slice jm 3 3/\St w w' (ax 2 jm 3 3 (zr xs q)::aS 34 2 A3 q c3 rs (rq xs q))),.pr (fun v w'=>∃jm zw,v= .slice zw 1 1/\St w w' (cg 34 zw 1 1 [⟨jm,3,3⟩]::ax 2 jm 3 3 (zr xs q)::aS 34 2 A3 q c3 rs (rq xs q))),.pr (fun v w'=>∃jm nK nQ,v= .slice nK (q+1) nQ/\St w w' (ax 2 jm 3 3 (zr xs q)::cg 34 nK (q+1) nQ (rs++ [⟨jm,3,3⟩])::da 2 rs (rq xs q))),.pr (fun v w'=>∃jm nK nQ,v= .slice nK (q+1) nQ/\St w w' (ax 2 jm 3 3 (zr xs q)::cg 34 nK (q+1) nQ (rs++ [⟨jm,3,3⟩])::da 2 rs (rq xs q)))] (ly (ly (ly (ly (ly (ly (ly (ly (ly (ly (ly (ly (ly (ly (ly (cH.2 ⟨Ye.cJ (fun v w w' h hb=>by obtain⟨jm,hv,h1⟩:=h;exact⟨jm,hv,h1.aq hb⟩),(cH.2 ⟨Ye.cJ (fun v w w' h hb=>by obtain⟨jm,zw,hv,h1⟩:=h;exact⟨jm,zw,hv,h1.aq hb⟩),(cH.2 ⟨Ye.cJ (fun v w w' h hb=>by obtain⟨jm,nK,nQ,hv,h1⟩:=h;exact⟨jm,nK,nQ,hv,h1.aq hb⟩),(cH.2 ⟨Ye.cJ (fun v w w' h hb=>by obtain⟨jm,nK,nQ,hv,h1⟩:=h;exact⟨jm,nK,nQ,hv,h1.aq hb⟩),(fun _ h=>by cases h)⟩)⟩)⟩)⟩)))))))))))))))) ?_ ?_
  ·refine⟨?_,bZ O,bZ O,cP fun _ _ hb _ _ _=>aD (D5.aq hb).2 O (bG O O),cP fun _ _ hb _ _ _=>aY (D5.aq hb) O (bG O O),bZ O,bZ O,aP fun _ _=>aI O (bG O O),cP fun _ _ hb _ _ _=>aD (D5.aq hb).2 O (bG O O),cP fun _ _ hb _ _ _=>aY (D5.aq hb) O (bG O O),bZ O,bZ O,aP fun _ _=>aI O (bG O O),cP fun _ _ hb _ _ _=>aD (D5.aq hb).2 O (bG O O),cP fun _ _ hb _ _ _=>aY (D5.aq hb) O (bG O O),?_,?_,?_,?_,au⟩
   ·intro e1 w1 cc fo dv fL hp aU hq;show ao _ _ _ _ _ _ _;refine lM O (by exact aU 18 _ O (by kernel_rfl)) O (ao.n (iz O (by exact O)))
   ·refine cP fun e1 w1 hb hp aU hq=>?_
    exact eZ (zr xs q) (St.refl _) O O an an O O fun jm w9 av=>ao.n (fM.dn O av.below ⟨jm,O,(hS.aq hb).call av⟩)
   ·refine cP fun e1 w1 hb hp aU hq=>?_
    obtain⟨jm,hv,h1⟩:=(hp 15 _ _ (by kernel_rfl) rfl rfl (by kernel_rfl));refine lp (St.refl _) (by exact hv) O O ?_;intro zw w9 av;exact ao.n (fM.dn O av.below ⟨jm,zw,O,h1.call av⟩)
   ·refine kO fun e1 w1 hb hp aU hq=>?_
    obtain⟨jm,zw,hv,h1⟩:=(hp 16 _ _ (by kernel_rfl) rfl rfl (by kernel_rfl));refine lK 2 h1 O (h1.fQ 0 O) O (by exact hv) O am am O ?_;intro nK nQ w9 hT;exact ao.n (gn.dn O ⟨jm,nK,nQ,O,hT.tail⟩)
   refine dP 1 fun e1 w1 hp aU hq=>?_
   have fh:=hp 17 _ _ (by kernel_rfl) O O (by kernel_rfl);obtain⟨jm,nK,nQ,hv,h1⟩:=(hp 17 _ _ (by kernel_rfl) rfl rfl (by kernel_rfl));refine lM O (by exact hv) O (ao.n ?_);exact fM.dn O (Below.refl _ _) ⟨jm,nK,nQ,O,h1⟩
  intro u w3 _ hu _ _;obtain⟨jm,nK,nQ,xC,hT⟩:=hu 18 _ rfl (by kernel_rfl);refine jD O (aI O (aT O (tQ ?_)));exact⟨(q+1,(nK,nQ),rs++ [⟨jm,3,3⟩]),by show k - (q+1)<k - q;omega,⟨O,xC,aE (Value.int .i64) am,au⟩,by show q+1<=k;omega,by simp [cn],by
   show St w w3 (aS 34 2 nK (q+1) nQ (rs++ [⟨jm,3,3⟩]) (rq xs (q+1)));rw [anv];unfold aS;rw [show da 2 (rs++ [⟨jm,3,3⟩]) (rq xs q++ [zr xs q])=da 2 rs (rq xs q)++ [ax 2 jm 3 3 (zr xs q)] from by rw [CY (by omega)];rfl];refine hT.perm ?_;exact(List.Perm.swap _ _ _).trans (((List.perm_append_singleton _ _).symm).cons _)⟩
 obtain rfl:q=k:=by omega
 refine bp O (bt (gw O ?_));exact gJ O ⟨A3,c3,rs,O,cn,hS⟩
end
end Go.Proofs.YtkccgdhcpplblaaGreatDoor.Vc
