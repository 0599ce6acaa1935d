/-
 Lemmas. Conditions: as each states them.
-/
import Derived.Test.YtagdamiiececaaaGreatDoorZh
set_option maxHeartbeats 8000000
namespace Go.Proofs.YtagdamiiececaaaGreatDoor.Vc
open Tryz
section
open Go.RowKit
variable{w w':aa}{M K B:ah}{kind b:Int}
def yp(n:Int)(R:ai)(B:ah)(K:Int)(w:aa)(v:ad)(w':aa):Prop:=
 ∃AR c AD d rs,v= .tuple #[.agg #[ak n,.slice AR R.length c,.slice AD B.length d],ak K]/\rs.length=B.length/\St w w' (az 2 AR R.length c R::(aT 24 2 AD B.length d rs B++ []))
theorem yp.zero(h:St w w' [])(K:Int):yp 0 [] [] K w (.tuple #[.agg #[ak 0,.slice none 0 0,.slice none 0 0],ak K]) w':=
 ⟨none,0,none,0,[],rfl,rfl,(h.nil _).nil _⟩
noncomputable def oE(M K:ah)(kind:Int):Int:=if aZ M/\aZ K then(if 0<=kind/\kind<=2 then(if jL M=0 then jL K else jL M)else 2)else 1
abbrev mC(M:ah):Int->Int:=gi (fD M.length (bo M M.length))
noncomputable abbrev pQ(M:ah):Int->Int->Prop:=dC (aF M M.length) (bD M)
def gK(M K:ah)(kind:Int):Nat:=(iw M.length K.length kind).toNat
noncomputable def EI(M K:ah)(kind:Int):List (Int×Int):=b5 (aF M M.length+2) (aF K K.length+2) (mC M) (mC K) kind (gK M K kind)
noncomputable def iQ(M K:ah)(kind:Int):ai:=(EI M K kind).map (cg (mC M) (mC K) kind)
noncomputable def qu(M K:ah)(kind:Int):ah:=nX (pQ M) (pQ K) (EI M K kind)
noncomputable def ja(M K:ah)(kind:Int):Int:=if oE M K kind=0 then(if 5<gK M K kind\/500< (iQ M K kind).length then 3 else 0)else oE M K kind
noncomputable def rC(M K:ah)(kind:Int):Int:=if ja M K kind=0 then gK M K kind else 0
noncomputable def nq(M K:ah)(kind:Int):ai:=if ja M K kind=0 then iQ M K kind else []
noncomputable def np(M K:ah)(kind:Int):ah:=if ja M K kind=0 then qu M K kind else []
theorem S7{c:Int}(h:ja M K kind=c)(hc:c≠0)(hS:St w w' []):yp (rC M K kind) (nq M K kind) (np M K kind) (ja M K kind) w (.tuple #[.agg #[ak 0,.slice none 0 0,.slice none 0 0],ak c]) w':=by
 unfold rC nq np;rw [h,aw hc,aw hc,aw hc];exact yp.zero hS c
theorem EN(h:oE M K kind=0):(0<=kind/\kind<=2)/\jL M=0/\jL K=0:=by
 unfold oE at h
 split at h
 ·split at h
  ·split at h
   ·exact⟨by assumption,by assumption,h⟩
   contradiction
  contradiction
 contradiction
theorem x5(hM:aZ M)(h:aF M M.length<=500):fz (aF M M.length+2) M.length (mC M) (pQ M):=by
 have:=Ex (qv hM h)
 rwa [jg]at this
theorem HG(hM:aZ M)(hK:aZ K):((gK M K kind:Nat):Int)=iw M.length K.length kind:=by
 have:=hM.1;have:=hK.1;unfold gK iw
 split<;>omega
theorem afj(A D:aj)(n c m d:Nat)(rs ts:List aN)(M K:ah)(kind:Int)(w:aa)(hT:js w)(hM:br w A n rs M)(hK:br w D m ts K)(hn:n<=c)(hc:c<=9223372036854775807)(hm:m<=d)(hd:d<=9223372036854775807):
 aG prog 206 [.agg #[.slice A n c],.agg #[.slice D m d],ak kind] w (fun v w'=>v=ak (oE M K kind)/\St w w' []):=by
 refine bA func206 O ntmps206 O (cJ O) (a8 O (jd (St.refl w) O O ?_));intro A3 w1 aA;refine jd aA O O fun A4 w2 aB=>ar O (ao.b7 0 (aB.rd 1 O) O O O (aL (wx A n c rs M _ (aB.bY hM) hn hc) O ?_));rintro _ w3 ⟨rfl,au⟩;have aH:=aB.aq au.below;clear au aB aA
 first | refine eA rfl rfl ?_ | refine eU rfl rfl ?_
 refine ar O (dp 13 O (fun h1=>?_) (fun h1=>?_))
 ·refine aQ O (aQ O (aQ O (aI O ?_)));refine Cd.jE O (eT O (gY O ?_));unfold oE;rw [aw (fun h=>h1 h.1)];exact⟨O,aH.none⟩
 have h1:aZ M:=iy.1 h1;refine ax O (ao.b7 0 (aH.rd 0 O) O O O (ax O (aL (wx D m d ts K _ (aH.bY hK) hm hd) O ?_)));rintro _ w4 ⟨rfl,au⟩;have aV:=aH.aq au.below;clear au aH;refine ax O ?_
 first | refine eA rfl rfl ?_ | refine eU rfl rfl ?_
 refine aI O (aR _ O (fun h2=>?_) (fun h2=>?_))
 ·refine eT O (gY O ?_);unfold oE;rw [aw (fun h=>h2 h.2)];exact⟨O,aV.none⟩
 have h2:aZ K:=iy.1 h2;refine aE O (aL (sL _ _ _ _) O ?_);rintro _ w4 ⟨rfl,rfl⟩
 first | refine eA rfl rfl ?_ | refine eU rfl rfl ?_
 refine aI O (aR _ O (fun h3=>?_) (fun h3=>?_))
 ·refine eT O (gY O ?_);unfold oE;rw [ay ⟨h1,h2⟩,aw h3];exact⟨O,aV.none⟩
 have h3:0<=kind/\kind<=2:=iy.1 h3;refine aE O (ao.b7 0 (aV.rd 1 O) O O O (aL (F1 A n c rs M _ (hT.aq aV.below) (aV.bY hM) hn hc) O ?_));rintro _ w5 (⟨hg,rfl,au⟩ | ⟨hg,A8,c8,AR,cR,AD,cD,df,rfl,lE,au⟩)
 ·have aW:=aV.aq au.below;refine ar O (C2 aW O ?_);intro A7 w6 ba;refine cG 4 0 ba O O O O O O O fun w7 bG=>aI O (mD O (fun h=>hg h) (eT O (gY O ?_)));unfold oE;rw [ay ⟨h1,h2⟩,ay h3,aw hg];exact⟨O,bG.none⟩
 have aW:=aV.aq au.below;refine ar O (C2 aW O ?_);intro A7 w6 ba;refine cG 4 0 ba O O O O O O O fun w7 bG=>aI O (Cd.jE O (aE O (ao.b7 0 (bG.rd 1 O) O O O (aL (F1 D m d ts K _ (hT.aq bG.below) (bG.bY hK) hm hd) O ?_))));rintro _ w8 hA;have hp:oE M K kind=jL K:=by
  unfold oE;rw [ay ⟨h1,h2⟩,ay h3,ay hg]
 rw [hp];rcases hA with⟨GN,rfl,jk⟩ | ⟨GN,B8,e8,BR,eR,BD,eD,Tx,rfl,wm,jk⟩
 ·refine bM O (gY O ?_);exact⟨O,(bG.aq jk.below).none⟩
 rw [GN];refine bM O (gY O ?_);exact⟨O,(bG.aq jk.below).none⟩
theorem Oq{A8:aj}{c8:Nat}{AR:aj}{cR:Nat}{AD:aj}{cD:Nat}{rs:List aN}{ks:List Ck}(hM:aZ M)(hb:aF M M.length<=500)(h:St w w' (az 2 A8 (aF M M.length+2) c8 (fD M.length (bo M M.length))::az 2 AR (aF M M.length) cR (bo M M.length)::(aT 24 2 AD (aF M M.length) cD rs (bD M)++ks))):
 yv w' A8 (fD M.length (bo M M.length)) (aF M M.length) AD rs (bD M):=by
 have hP:=qv hM hb;have hl:=jg M M.length;refine⟨by rw [Oo,hl],hb,h.bI 0 O,?_,tV M,fun e h0 h1=>?_⟩
 ·exact(h.sub (show(aT 24 2 AD (aF M M.length) cD rs (bD M)).Sublist _ from((qI _ _).cons _).cons _)).kb (tV M)
 have h2:=hP.at_ (e:=e) h0 (by rw [hl];exact h1);refine⟨h2.1,?_⟩;have:=pL (N:=(bo M M.length).length) h2.1.nodup fun x hx=>by have:=(h2.2.1 x hx).1;omega
 omega
theorem afk(A D:aj)(n c m d:Nat)(rs ts:List aN)(M K:ah)(kind:Int)(w:aa)(hT:js w)(hM:br w A n rs M)(hK:br w D m ts K)(hn:n<=c)(hc:c<=9223372036854775807)(hm:m<=d)(hd:d<=9223372036854775807):
 aG prog 148 [.agg #[.slice A n c],.agg #[.slice D m d],ak kind] w (yp (rC M K kind) (nq M K kind) (np M K kind) (ja M K kind) w):=by
 refine bA func148 O ntmps148 O (pc O O) (a8 O (jd (St.refl w) O O ?_));intro A3 w1 aA;refine jd aA O O fun A4 w2 aB=>mK aB O fun A6 w3 aH=>ar O (ao.b7 0 (aH.rd 2 O) O O O (ao.b7 0 (aH.rd 1 O) O O O (ar O (aL (afj A D n c m d rs ts M K kind _ (hT.aq aH.below) (aH.bY hM) (aH.bY hK) hn hc hm hd) O ?_))));rintro _ w4 ⟨rfl,au⟩;have aV:=aH.aq au.below;clear au aH aB aA;refine aI O (aR _ O (fun h1=>?_) (fun h1=>?_))
 ·refine aE O (z8 (by exact inferInstance) (by exact inferInstance) (by exact inferInstance) O (ar O (cG 3 0 aV O O O O O O O ?_)));intro w5 aW;refine bM O (iL O (aW.rd 0 O) O ?_);exact S7 (by unfold ja;rw [if_neg h1]) h1 aW.none
 have h1:oE M K kind=0:=iy.1 h1;obtain⟨nN,uf,ue⟩:=EN h1;obtain⟨kY,mT⟩:=qQ uf;obtain⟨mh,oZ⟩:=qQ ue;refine aE O (ao.b7 0 (aV.rd 2 O) O O O (aL (F1 A n c rs M _ (hT.aq aV.below) (aV.bY hM) hn hc) O ?_));rintro _ w5 (⟨hg,_⟩ | ⟨_,A8,c8,AR,cR,AD,cD,df,rfl,lE,au⟩)
 ·exact absurd uf hg
 have iX:=Oq kY mT.1 au;have aW:=aV.aq au.below;clear au aV;refine ar O (C2 (St.refl w5) O ?_);intro A9 w6 nK;refine cG 4 0 nK O O O O O O O ?_;intro w7 kG;have nL:=Rd.below (aW.rd 1 O) kG.below;have Zv:=(hT.aq aW.below).aq kG.below;have Zb:=(aW.bY hK).aq kG.below;have iX:=iX.aq kG.below;have bG:=aW.aq kG.below;refine ar O (ao.b7 0 nL O O O (aL (F1 D m d ts K _ Zv Zb hm hd) O ?_));rintro _ w8 (⟨hg,_⟩ | ⟨_,B8,e8,BR,eR,BD,eD,Tx,rfl,wm,jk⟩)
 ·exact absurd ue hg
 have ou:=Oq mh oZ.1 jk;have iX:=iX.aq jk.below;have bS:=bG.aq jk.below;have h9:=Rd.below (kG.rd 0 O) jk.below;refine ar O (C2 (St.refl w8) O ?_);intro cL w9 Zx;refine cG 4 0 Zx O O O O O O O ?_;intro eL DL;have iX:=iX.aq DL.below;have ou:=ou.aq DL.below;have bQ:=bS.aq DL.below;have h9:=Rd.below h9 DL.below;refine ar O (ao.b7 3 h9 O O O (ao.b7 3 (DL.rd 0 O) O O O (ar O ?_)));have h5:=kY.1;have h6:=mh.1;refine aL (afl A8 B8 c8 e8 M.length K.length AR BR (aF M M.length) (aF K K.length) cR eR AD BD (aF M M.length) (aF K K.length) cD eD _ _ df Tx (bD M) (bD K) M.length K.length kind (gK M K kind) _ iX ou (x5 kY mT.1) (x5 mh oZ.1) nN (HG kY mh) (by omega) (by omega)) O ?_;rintro _ fI (⟨Gz,rfl,Ek⟩ | ⟨dO,AQ,cQ,AE,cE,rsP,rfl,Q9,o0,Ek⟩)
 ·have dX:=bQ.aq Ek.below;refine ar O (cG 3 0 dX O O O O O O O ?_);intro fZ dM;refine bM O (iL O (dM.rd 0 O) O ?_);refine S7 ?_ (by decide) dM.none;unfold ja;rw [ay h1];exact ay Gz
 have dX:=(bQ.call Ek).perm me;refine ar O (cG 3 0 dX O O O O O O O ?_);intro fZ dM;refine bM O (iL O (dM.rd 0 O) O ?_);have hpc:ja M K kind=0:=by
  unfold ja;rw [ay h1,aw];intro h;have h7:(iQ M K kind).length<=500:=dO.2;omega
 have e9:(qu M K kind).length=(iQ M K kind).length:=o0;unfold rC nq np;rw [hpc,ay rfl,ay rfl,ay rfl];refine⟨AQ,cQ,AE,cE,rsP,by rw [e9];rfl,by rw [e9];exact Q9,?_⟩;rw [e9];exact dM.sub (show List.Sublist _ (_::_::_::_) from((jV _).cons _ |>.cons _ |>.cons _))
theorem Lw(q:Int)(A8:aj)(m8 c8:Nat)(Ab:aj)(m cb:Nat)(HY:List aN)(BB:ah)(a b:Int)(w:aa)(hB:br w Ab m HY BB)(hl:BB.length=m)(hb:0<=b/\b< (m:Int))(hn:(gl BB b).length<=1000000):
 aG prog 265 [.agg #[ak q,.slice A8 m8 c8,.slice Ab m cb],ak a,ak b] w (fun v w'=>v= .bool (decide (a=b\/a∈gl BB b))/\St w w' []):=by
 refine bA func265 O ntmps265 O (cJ O) (a8 O (nw (St.refl w) O O ?_));intro A3 w1 aA;have h1:=aA.rd 0 O;have hB:=aA.bY hB;have ir:=hB.at_ (i:=b) (by omega) (by omega);have ni:=ir.1;refine ar O (dp 10 O (fun h2=>?_) (fun h2=>?_))
 ·refine aQ O (aQ O (aQ O (aQ O (aQ O (aQ O (aQ O (bM O ?_)))))));exact dK O ⟨aO Value.bool (eM (.inl h2)).symm,aA.none⟩
 refine ax O (aX h1 O (ax O (ajn (j:=2) h1 (by exact aO Value.pointer O) O O O O ?_)));refine ax O (ar O (ax O ?_));refine aM hB.top.2 O (ax O (dI hB.top O ?_));refine ax O (ar O (ax O ?_));refine aL (Ht _ _ _ (gl BB b) a _ ir (by omega)) O ?_;rintro _ w2 ⟨rfl,rfl⟩;refine bM O (dK O ?_);exact⟨aO Value.bool (jJ.2 ⟨fun h=> .inr h,fun h=>h.resolve_left h2⟩),aA.none⟩
def nz(B:ah)(i:Nat):ah:=[]::((bN i).map fun e=>0::(gl B e).map (· +1))
def kA(N:Nat)(B:ah):ah:=nz B N++ [bN (N+1)]
theorem Av(B:ah)(i:Nat):(nz B i).length=i+1:=by simp [nz,bN]
theorem Ar(N:Nat)(B:ah):(kA N B).length=N+2:=by simp [kA,Av]
theorem VB(B:ah)(i:Nat):nz B (i+1)=nz B i++ [0::(gl B i).map (· +1)]:=by
 unfold nz;rw [uC,jb,List.cons_append];rfl
theorem M7(N:Nat)(B:ah):gl (kA N B) 0=[]:=by simp [kA,nz,gl]
theorem M9(N:Nat)(B:ah)(h0:0<b)(h1:b< (N:Int)+1):gl (kA N B) b=0::(gl B (b - 1)).map (· +1):=by
 obtain⟨k,rfl⟩:∃k:Nat,b=((k+1:Nat):Int):=⟨(b - 1).toNat,by omega⟩;rw [bP (by rw [Ar];omega)];unfold kA;rw [List.getElem_append_left (by rw [Av];omega)];have e1:((k+1:Nat):Int) - 1=(k:Int):=by omega
 rw [e1];simp [nz,bN]
theorem Nb(N:Nat)(B:ah):gl (kA N B) ((N:Int)+1)=bN (N+1):=by
 have e1:((N:Int)+1)=((N+1:Nat):Int):=by omega
 rw [e1,bP (by rw [Ar];omega)];unfold kA;rw [List.getElem_append_right (by rw [Av];omega)];simp [Av]
theorem Nc{N:Nat}{a:Int}(ha:0<=a/\a< (N:Int)+2)(hb:0<=b/\b< (N:Int)+2)(hB:∀e:Int,0<=e->e<N->∀d∈gl B e,0<=d/\d< (N:Int)):(a=b\/a∈gl (kA N B) b)↔dC N B a b:=by
 unfold dC
 by_cases c0:b=0
 ·subst c0;rw [M7];constructor
  ·rintro(h | h)
   ·exact .inl h
   cases h
  rintro(h | h | h | h)
  ·exact .inl h
  ·exact .inl h
  ·omega
  omega
 by_cases c1:b=(N:Int)+1
 ·subst c1;rw [Nb,gL];constructor
  ·intro _;exact .inr (.inr (.inl rfl))
  intro _
  by_cases e:a=(N:Int)+1
  ·exact .inl e
  exact .inr (by omega)
 rw [M9 N B (by omega) (by omega),jq,db];constructor
 ·rintro(h | h | ⟨d,h,e⟩)
  ·exact .inl h
  ·exact .inr (.inl h)
  have:=hB (b - 1) (by omega) (by omega) d h;exact .inr (.inr (.inr ⟨by omega,by omega,by omega,by omega,by rw [<-e,Int.add_sub_cancel];exact h⟩))
 rintro(h | h | h | h)
 ·exact .inl h
 ·exact .inr (.inl h)
 ·exact absurd h c1
 exact .inr (.inr ⟨a - 1,h.2.2.2.2,by omega⟩)
theorem M8{N:Nat}(hl:∀e:Int,0<=e->e<N->(gl B e).length<=500)(hN:N<=500)(hb:0<=b/\b< (N:Int)+2):(gl (kA N B) b).length<=501:=by
 by_cases c0:b=0
 ·subst c0;rw [M7];exact a7 _
 by_cases c1:b=(N:Int)+1
 ·subst c1;rw [Nb,bN,fk,pU];omega
 rw [M9 N B (by omega) (by omega),List.length_cons,fk];have:=hl (b - 1) (by omega) (by omega);omega
theorem acR(n:Nat)(w:aa)(hn:n<=1000000):
 aG prog 211 [ak n] w (fun v w'=>∃A c,v= .slice A n c/\St w w' [az 2 A n c (bN n)]):=by
 refine bA func211 O ntmps211 O (cJ O) (a8 O (ny (St.refl w) O ?_));intro A1 w1 aA;refine aI O (Cd.loop (α:=Nat×aj×Nat) (fun s=> [(0,ak n),(3,.slice s.2.1 s.1 s.2.2),(4,ak (s.1:Int))]) (fun s w'=>s.1<=n/\St w w' [az 2 s.2.1 s.1 s.2.2 (bN s.1)]) (fun s=>n - s.1) (0,A1,0) (ajs O) ⟨a7 _,aA⟩ ?_);clear aA;rintro⟨i,A2,c2⟩ e w2 ⟨hi,aB⟩;dsimp only at aB hi|-;refine bL O (aR _ O (fun h1=>?_) (fun h1=>?_))
 ·refine aE O (eH aB O O O ?_);intro A3 w3 aH;refine fN 1 aH O (aH.bI 0 O) O O O ?_;intro A4 c4 w4 aV;have aV:=aV.tail;refine ar O (aK O (aU O (tQ ?_)));exact⟨(i+1,A4,c4),by show n - (i+1)<n - i;omega,(ajs O),by show i+1<=n;omega,by show St w w4 [az _ A4 (i+1) c4 (bN (i+1))];rw [uC];exact aV⟩
 have bW:i=n:=by omega
 subst bW;refine bw O (bz (gE O ?_));exact gD O ⟨A2,c2,O,aB⟩
abbrev qN(A:aj)(n:Int)(X:aj)(m cx:Nat)(Y:aj)(k cy:Nat):Ck:=Bx 143 3 A [ak n,.slice X m cx,.slice Y k cy]
section
variable {P:Program} {N:Nat} {ops:Array Oper} {K:Env->aa->Prop} {rest:List Oper} {e:Env} {w0 w w':aa} {ks:List Ck} {d:Nat} {ty:ae} {pos:String} {af:Array Edge}
theorem U4{t:ae}{f0 f1 f2:Field}{z0 z1 z2 y0 y1 y2:ad}{b b0 b1 b2:Nat}[bJ P t (.struct #[f0,f1,f2])][bF P t (.agg #[z0,z1,z2]) 3 b]{x0 x1 x2:ag}{v0 v1 v2:ad}(sb:bF P f0.type y0 1 b0)(sc:bF P f1.type y1 1 b1)(tZ:bF P f2.type y2 1 b2)(ho:f0.offset=0)(tk:f1.offset=1)(zo:f2.offset=2)(h0:ev e x0=v0)(h1:ev e x1=v1)(h2:ev e x2=v2)(c0:v0.oneCell'=true)(c1:v1.oneCell'=true)(c2:v2.oneCell'=true)(hb:Nat.blt d N=true)(hK:ao P N ops K rest (bq e d (.agg #[v0,v1,v2])) w):ao P N ops K (⟨some d,.build t #[(0,x0),(1,x1),(2,x2)],ty,pos,af,none⟩::rest) e w:=by
 obtain⟨inf,hi,fH,hs,iW⟩:=bF.get P t;obtain⟨Cf,eK,_,o9,_⟩:=sb.get P f0.type;obtain⟨Cg,kj,_,sq,_⟩:=sc.get P f1.type;obtain⟨Er,qh,_,nS,_⟩:=tZ.get P f2.type;have e0:v0.cells= #[v0]:=by cases v0<;>simp [Value.oneCell']at c0<;>rfl
 have e1:v1.cells= #[v1]:=by cases v1<;>simp [Value.oneCell']at c1<;>rfl
 have e2:v2.cells= #[v2]:=by cases v2<;>simp [Value.oneCell']at c2<;>rfl
 have ez:(Value.agg #[z0,z1,z2]).cells= #[z0,z1,z2]:=O;refine .val (w':=w) ?_ hb hK;simp [execOp,Instr.build,run_underlying (bJ.out (P:=P) (t:=t)),sizeOf,typeInfo,zeroValue,hi,fH,eK,o9,kj,sq,qh,nS,ho,tk,zo,h0,h1,h2,e0,e1,e2,ez,Instr.fill]
end
theorem aeK{α:Type}(a b c d:α):[a,b,c,d].Perm [a,d,b,c]:=by
 classical
 refine kN.2 fun z=>?_
 simp only [kL,mE];omega
theorem SX{α:Type}(s a b m:α)(X:List α):(s::a::b::m::(X++ [])).Perm (a::b::m::((X++ [s])++ [])):=by
 classical
 refine kN.2 fun z=>?_
 simp only [mb,kL,mE];omega
theorem R0(A:aj)(n c:Nat)(rs:List aN)(M:ah)(w:aa)(hR:br w A n rs M)(hM:aZ M)(vY:aF M M.length<=500):
 aG prog 155 [.agg #[.slice A n c]] w (fun v w'=>∃X cx Y cy ys,v= .agg #[ak (M.length:Int),.slice X (aF M M.length+2) cx,.slice Y (aF M M.length+2) cy]/\ys.length=aF M M.length+2/\St w w' (az 2 X (aF M M.length+2) cx (fD M.length (bo M M.length))::(aT 24 2 Y (aF M M.length+2) cy ys (kA (aF M M.length) (bD M))++ []))):=by
 have h5:=hM.1;have hP:=qv hM vY;have xy:=jg M M.length;have qT:=tV M;have bU:∀e:Int,0<=e->e< ((bo M M.length).length:Int)->(gl (bD M) e).length<=500/\∀d∈gl (bD M) e,0<=d/\d< ((bo M M.length).length:Int):=fun e h0 h=>by
  have h2:=hP.at_ (e:=e) h0 h;refine⟨?_,fun d hd=>by have:=(h2.2.1 d hd).1;omega⟩;have:=pL (N:=(bo M M.length).length) h2.1.nodup fun x hx=>by have:=(h2.2.1 x hx).1;omega
  omega
 have Rk:=fun(e:Int) (h0:0<=e) (h:e< ((bo M M.length).length:Int))=>hP.ri h0 h
 have hpo:=acZ A n c rs M;generalize bo M M.length=R at*;generalize bD M=B at*;generalize M.length=d at*;generalize aF M d=N at*;rw [xy]at bU Rk;refine bA func155 O ntmps155 O (rB O O) (a8 O (jd (St.refl w) O O ?_));intro A1 w1 aA;refine mK aA O fun A2 w2 aB=>ar O (ao.b7 0 (aB.rd 1 O) O O O (aL (hpo _ (aB.bY hR) hM) O ?_));rintro _ w3 ⟨AR,cR,AD,cD,df,rfl,lE,au⟩;have aH:=(aB.call au).perm me;refine mK aH O fun A3 w4 aV=>cG 3 0 aV O O O O O O O ?_;intro w5 aW;have iJ:Rd w5 A3 3 (fun q=> [Value.int .i64 (d:Int),.slice AR N cR,.slice AD N cD].getD q undef):=aW.rd 0 O;have aW:St w w5 (bE A3 d AR N cR AD N cD::qN A2 0 none 0 0 none 0 0::Bx 37 1 A1 [.slice A n c]::(az 2 AR N cR R::(aT 24 2 AD N cD df B++ []))):=aW;have jM:cn w5 AR N R:=aW.bI 3 O;have kh:br w5 AD N df B:=(aW.sub (show(aT 24 2 AD N cD df B).Sublist _ from(((((by rw [fM];exact jV _:(aT 24 2 AD N cD df B).Sublist (aT 24 2 AD N cD df B++ [])).cons _).cons _).cons _).cons _))).kb qT;clear aH aB aA;refine ar O (aX iJ O (iG (j:=0) iJ (by exact aO Value.pointer O) O O O O (eH (i:= -1) (St.refl w5) O O O ?_)));intro X w6 nK;refine ny nK O fun wN w7 kG=>kO kG O O O fun Y w8 mU=>U4 (by exact inferInstance) (by exact inferInstance) (by exact inferInstance) O O O O O O O O O O (mK mU O ?_);intro A4 w9 pz;refine cG 3 0 pz O O O O O O O ?_;intro eL BA;have BA:St w5 eL (qN A4 d X 1 1 Y 1 1::az 2 X 1 1 (-1::R.take 0)::(aT 24 2 Y 1 1 [⟨wN,0,0⟩] (nz B 0)++ [])):=BA.perm (aeK _ _ _ _);clear pz mU kG nK;refine aI O (Cd.loop (α:=Nat×(aj×Nat)×(aj×Nat)×List aN) (fun z=> [(2,.pointer A2),(3,.pointer A3),(4,.pointer A4),(5,ak (z.1:Int))]) (fun z w'=>z.1<=N/\z.2.2.2.length=z.1+1/\St w5 w' (qN A4 d z.2.1.1 (z.1+1) z.2.1.2 z.2.2.1.1 (z.1+1) z.2.2.1.2::az 2 z.2.1.1 (z.1+1) z.2.1.2 (-1::R.take z.1)::(aT 24 2 z.2.2.1.1 (z.1+1) z.2.2.1.2 z.2.2.2 (nz B z.1)++ []))) (fun z=>N - z.1) (0,(X,1),(Y,1),[⟨wN,0,0⟩]) (ajs O) ⟨a7 _,O,BA⟩ ?_);clear BA;rintro⟨i,⟨X,cX⟩,⟨Y,cY⟩,ys⟩ e fI ⟨hi,wq,hT⟩;dsimp only at hi wq hT|-;have P3:=Rd.below iJ hT.below;refine a8 O (aX P3 O (ajn (j:=1) P3 (by exact aO Value.pointer O) O O O O ?_));refine bc O O (aI O ?_);refine aR _ O (fun h1=>?_) (fun h1=>?_)
 ·have hiN:i<N:=by omega
  have Hb:=bU (i:Int) (by omega) (by omega);refine aE O (eH (i:=0) hT O O O ?_);intro A6 fZ PQ;refine aI O (Cd.loop (α:=Nat×aj×Nat) (fun z=> [(2,.pointer A2),(3,.pointer A3),(4,.pointer A4),(5,ak i),(6,.slice z.2.1 (z.1+1) z.2.2),(7,ak (z.1:Int))]) (fun z w'=>z.1<=(gl B i).length/\St w5 w' (az 2 z.2.1 (z.1+1) z.2.2 (0::((gl B i).take z.1).map (· +1))::qN A4 d X (i+1) cX Y (i+1) cY::az 2 X (i+1) cX (-1::R.take i)::(aT 24 2 Y (i+1) cY ys (nz B i)++ []))) (fun z=> (gl B i).length - z.1) (0,A6,1) (ajs O) ⟨a7 _,PQ⟩ ?_);clear PQ hT;rintro⟨j,A6,c6⟩ e gM ⟨hj,hT⟩;dsimp only at hj hT|-;have BG:=Rd.below iJ hT.below;have DC:=kh.aq hT.below;have ir:=DC.at_ (i:=(i:Int)) (by omega) (by omega);have ni:=ir.1;refine a8 O (aX BG O (ajn (j:=2) BG (by exact aO Value.pointer O) O O O O (ar O (aM DC.top.2 O (dI DC.top O ?_)))));refine bc O O (aI O ?_);refine aR _ O (fun h2=>?_) (fun h2=>?_)
  ·have lR:j< (gl B i).length:=by omega
   have q8:=Hb.2 _ (gi_in lR);refine aE O (aX BG O (ajn (j:=2) BG (by exact aO Value.pointer O) O O O O (ar O (aM DC.top.2 O (dI DC.top O (ar O (aM ir.2 O (bk ir O (aK O ?_)))))))));refine eH hT O O O fun A9 oI qW=>fN 1 qW O (qW.bI 0 O) O O O ?_;intro AZ cZ qD vS;have vS:=vS.tail;refine ar O (aK O (aU O (tQ ?_)));refine⟨(j+1,AZ,cZ),by show(gl B i).length - (j+1)< (gl B i).length - j;omega,(ajs O),by show j+1<=_;omega,?_⟩;show St w5 qD (az _ AZ (j+1+1) cZ (0::((gl B i).take (j+1)).map (· +1))::_);rw [CE lR,jb];exact vS
  have xJ:(gl B i).take j=gl B i:=jW (by omega);rw [xJ]at hT;have iI:=jM.aq hT.below;have tY:=hT.rd 1 O;have G8:=Rk (i:Int) (by omega) (by omega);have Cb:R.take (i+1)=R.take i++ [gi R i]:=CE (by omega);refine bw O (bz (pS O ?_));refine kK [8,10] [yP (aJ (A4) 1),yS (X) (i+1) (cX),yP (aJ (A3) 1),yS (AR) (N) (cR),yI ((i:Int)),yP (aJ (AR) ((i:Int)).toNat),yI (gi (R) ((i:Int))),.pr (fun v w'=>∃A9,v= .slice A9 1 1/\St w5 w' (az 2 A9 1 1 [gi R i]::az 2 A6 (j+1) c6 (0::(gl B i).map (· +1))::qN A4 d X (i+1) cX Y (i+1) cY::az 2 X (i+1) cX (-1::R.take i)::(aT 24 2 Y (i+1) cY ys (nz B i)++ []))),.pr (fun v w'=>∃AZ cZ,v= .slice AZ (i+1+1) cZ/\St w5 w' (az 2 A6 (j+1) c6 (0::(gl B i).map (· +1))::qN A4 d X (i+1) cX Y (i+1) cY::az 2 AZ (i+1+1) cZ ((-1::R.take i)++ [gi R i])::(aT 24 2 Y (i+1) cY ys (nz B i)++ []))),yP (aJ A4 1),.pr (fun _ w'=>∃AZ cZ,St w5 w' (az 2 A6 (j+1) c6 (0::(gl B i).map (· +1))::qN A4 d AZ (i+1+1) cZ Y (i+1) cY::az 2 AZ (i+1+1) cZ ((-1::R.take i)++ [gi R i])::(aT 24 2 Y (i+1) cY ys (nz B i)++ [])))] (by kernel_rfl) (by kernel_rfl) (ly (ly (ly (ly (ly (ly (ly (cI.2 ⟨Ye.cV (fun v w w' h hb=>by obtain⟨A9,hv,hT⟩:=h;exact⟨A9,hv,hT.aq hb⟩),(cI.2 ⟨Ye.cV (fun v w w' h hb=>by obtain⟨AZ,cZ,hv,hT⟩:=h;exact⟨AZ,cZ,hv,hT.aq hb⟩),(ly (cI.2 ⟨Ye.cV (fun v w w' h hb=>by obtain⟨AZ,cZ,hT⟩:=h;exact⟨AZ,cZ,hT.aq hb⟩),(fun _ h=>by cases h)⟩))⟩)⟩)))))))) ?_ ?_
  ·refine⟨cP fun _ _ hb _ _ _=>aX (tY.below hb) O (bK O O),cP fun _ _ hb _ _ _=>bn (tY.below hb) O (bK O O),cP fun _ _ hb _ _ _=>aX (BG.below hb) O (bK O O),cP fun _ _ hb _ _ _=>bn (BG.below hb) O (bK O O),bZ O,cP fun _ _ hb _ _ _=>aM (iI.aq hb).2 O (bK O O),cP fun _ _ hb _ _ _=>bk (iI.aq hb) O (bK O O),?_,?_,?_,?_,av⟩
   ·refine cP fun e1 w1 hb hp a6 hq=>?_
    exact eH (St.refl _) O O O fun A9 w9 au=>ao.n (gA.dn O au.below ⟨A9,O,(hT.aq hb).call au⟩)
   ·refine kQ fun e1 w1 hb hp a6 hq=>?_
    obtain⟨A9,YJ,pz⟩:=(hp 7 _ _ (by kernel_rfl) rfl rfl (by kernel_rfl));refine fN 3 pz O (pz.bI 0 O) O (by exact YJ) O ?_;intro AZ cZ wZ hZ;exact ao.n (fQ.dn O ⟨AZ,cZ,O,hZ.tail⟩)
   ·intro e1 w1 cc eB cC fq hp a6 hq;show ao _ _ _ _ _ _ _;have hX:Rd w1 A4 3 (fun q=> [Value.int .i64 (d:Int),.slice X (i+1) cX,.slice Y (i+1) cY].getD q undef):=by { have cC:=pK cC (b:=1) (by kernel_rfl);rcases(show cc=0\/cc=1 by omega)with h | h; { exact Rd.below tY (fq h) }; { subst h;obtain⟨AZ,cZ,_,yZ⟩:=hq 8 _ _ (by kernel_rfl) (by kernel_rfl) (by kernel_rfl) rfl rfl (by kernel_rfl);exact yZ.rd 1 rfl } }
    refine aX hX O (ao.n (ig O (by exact O)))
   refine qM 1 fun e1 w1 hp a6 hq=>?_
   have eP:=hp 8 _ _ (by kernel_rfl) O O (by kernel_rfl);obtain⟨AZ,cZ,YK,yZ⟩:=eP;refine kf 1 yZ O O (by exact YK) O O ?_;intro fI yW;exact ao.n (fQ.st O ⟨AZ,cZ,yW⟩)
  intro u oI _ hu _ _;obtain⟨AZ,cZ,qW⟩:=hu 10 _ rfl (by kernel_rfl);clear hT tY;refine EM (F:=[(2,.pointer A2),(3,.pointer A3),(4,.pointer A4),(5,ak i),(6,.slice A6 (j+1) c6)]) (ajs O) (kc O (aX (qW.rd 1 O) O (ajn (j:=2) (qW.rd 1 O) (by exact aO Value.pointer O) O O O O (ar O (kO qW O O O ?_)))));intro A9 qD vS;refine mJ 4 vS O (vS.gQ 0 O) O O O (by omega) (by omega) O fun AQ cQ tD DJ=>aX (DJ.rd 2 O) O (kf 2 (j:=2) DJ O O O O O ?_);intro pg yX;have yX:=yX.tail;have yY:St w5 pg (az 2 A6 (j+1) c6 (0::(gl B i).map (· +1))::qN A4 d AZ (i+1+1) cZ AQ (i+1+1) cQ::az 2 AZ (i+1+1) cZ ((-1::R.take i)++ [gi R i])::cd 24 AQ (i+1+1) cQ (ys++ [⟨A6,j+1,c6⟩])::(du 2 ys (nz B i)++ [])):=yX;have yY:=yY.perm (SX _ _ _ _ _);rw [<-qy (by rw [wq,Av]),<-VB]at yY;refine ar O (aK O (aU O (tQ ?_)));refine⟨(i+1,(AZ,cZ),(AQ,cQ),ys++ [⟨A6,j+1,c6⟩]),by show N - (i+1)<N - i;omega,(ajs O),by show i+1<=N;omega,by simp [wq],?_⟩;show St w5 pg (_::az _ AZ (i+1+1) cZ (-1::R.take (i+1))::_);rw [Cb];exact yY
 obtain rfl:i=N:=by omega
 have tY:=hT.rd 0 O;have Zq:R.take i=R:=jW (by omega);rw [Zq]at hT;refine bw O (bz (pS O ?_));refine kK [7,9] [yP (aJ (A4) 2),yS (Y) (i+1) (cY),yP (aJ (A4) 1),yS (X) (i+1) (cX),yI (((i+1:Nat):Int)),.pr (fun v w'=>∃A7 c7,v= .slice A7 (i+1) c7/\St w5 w' (az 2 A7 (i+1) c7 (bN (i+1))::qN A4 d X (i+1) cX Y (i+1) cY::az 2 X (i+1) cX (-1::R)::(aT 24 2 Y (i+1) cY ys (nz B i)++ []))),.pr (fun v w'=>∃A8 A7 c7,v= .slice A8 1 1/\St w5 w' (cd 24 A8 1 1 [⟨A7,i+1,c7⟩]::az 2 A7 (i+1) c7 (bN (i+1))::qN A4 d X (i+1) cX Y (i+1) cY::az 2 X (i+1) cX (-1::R)::(aT 24 2 Y (i+1) cY ys (nz B i)++ []))),.pr (fun v w'=>∃AQ cQ A7 c7,v= .slice AQ (i+1+1) cQ/\St w5 w' (az 2 A7 (i+1) c7 (bN (i+1))::qN A4 d X (i+1) cX Y (i+1) cY::az 2 X (i+1) cX (-1::R)::cd 24 AQ (i+1+1) cQ (ys++ [⟨A7,i+1,c7⟩])::(du 2 ys (nz B i)++ []))),yP (aJ A4 2),.pr (fun _ w'=>∃AQ cQ A7 c7,St w5 w' (az 2 A7 (i+1) c7 (bN (i+1))::qN A4 d X (i+1) cX AQ (i+1+1) cQ::az 2 X (i+1) cX (-1::R)::cd 24 AQ (i+1+1) cQ (ys++ [⟨A7,i+1,c7⟩])::(du 2 ys (nz B i)++ [])))] (by kernel_rfl) (by kernel_rfl) (ly (ly (ly (ly (ly (cI.2 ⟨Ye.cV (fun v w w' h hb=>by obtain⟨A9,c9,hv,hT⟩:=h;exact⟨A9,c9,hv,hT.aq hb⟩),(cI.2 ⟨Ye.cV (fun v w w' h hb=>by obtain⟨A8,A9,c9,hv,hT⟩:=h;exact⟨A8,A9,c9,hv,hT.aq hb⟩),(cI.2 ⟨Ye.cV (fun v w w' h hb=>by obtain⟨AQ,cQ,A7,c7,hv,hT⟩:=h;exact⟨AQ,cQ,A7,c7,hv,hT.aq hb⟩),(ly (cI.2 ⟨Ye.cV (fun v w w' h hb=>by obtain⟨AQ,cQ,A7,c7,hT⟩:=h;exact⟨AQ,cQ,A7,c7,hT.aq hb⟩),(fun _ h=>by cases h)⟩))⟩)⟩)⟩)))))) ?_ ?_
 ·refine⟨cP fun _ _ hb _ _ _=>aX (tY.below hb) O (bK O O),cP fun _ _ hb _ _ _=>bn (tY.below hb) O (bK O O),cP fun _ _ hb _ _ _=>aX (tY.below hb) O (bK O O),cP fun _ _ hb _ _ _=>bn (tY.below hb) O (bK O O),aP fun _ _=>bc O O (bK O O),?_,?_,?_,?_,?_,av⟩
  ·refine cP fun e1 w1 hb hp a6 hq=>?_
   refine aL (acR (i+1) _ (by omega)) O ?_;rintro _ w9 ⟨A7,c7,rfl,gO⟩;exact ao.n (gA.dn O gO.below ⟨A7,c7,O,(hT.aq hb).call gO⟩)
  ·refine cP fun e1 w1 hb hp a6 hq=>?_
   obtain⟨A7,c7,Dz,pz⟩:=(hp 5 _ _ (by kernel_rfl) rfl rfl (by kernel_rfl));refine kO (St.refl _) (by exact Dz) O O ?_;intro A8 w9 gO;exact ao.n (gA.dn O gO.below ⟨A8,A7,c7,O,pz.call gO⟩)
  ·refine kQ fun e1 w1 hb hp a6 hq=>?_
   obtain⟨A8,A7,c7,DA,pz⟩:=(hp 6 _ _ (by kernel_rfl) rfl rfl (by kernel_rfl));refine mJ 4 pz O (pz.gQ 0 O) O (by exact DA) O (by omega) (by omega) O ?_;intro AQ cQ wZ hZ;exact ao.n (fQ.dn O ⟨AQ,cQ,A7,c7,O,hZ.tail⟩)
  ·intro e1 w1 cc eB cC fq hp a6 hq;show ao _ _ _ _ _ _ _;have hX:Rd w1 A4 3 (fun q=> [Value.int .i64 (d:Int),.slice X (i+1) cX,.slice Y (i+1) cY].getD q undef):=by { have cC:=pK cC (b:=1) (by kernel_rfl);rcases(show cc=0\/cc=1 by omega)with h | h; { exact Rd.below tY (fq h) }; { subst h;obtain⟨AQ,cQ,A7,c7,_,yZ⟩:=hq 7 _ _ (by kernel_rfl) (by kernel_rfl) (by kernel_rfl) rfl rfl (by kernel_rfl);exact yZ.rd 1 rfl } }
   refine aX hX O (ao.n (ig O (by exact O)))
  refine qM 1 fun e1 w1 hp a6 hq=>?_
  have eP:=hp 7 _ _ (by kernel_rfl) O O (by kernel_rfl);obtain⟨AQ,cQ,A7,c7,YN,yZ⟩:=eP;refine kf 1 yZ O O (by exact YN) O O ?_;intro fI yW;exact ao.n (fQ.st O ⟨AQ,cQ,A7,c7,yW⟩)
 intro u oI _ hu _ _;obtain⟨AQ,cQ,A7,c7,qW⟩:=hu 9 _ rfl (by kernel_rfl);clear hT tY;have qW:=qW.perm (SX _ _ _ _ _);rw [<-qy (by rw [wq,Av])]at qW;have P4:=Rd.below iJ qW.below;refine EM (F:=[(2,.pointer A2),(3,.pointer A3),(4,.pointer A4)]) (ajs O) (kc O (aX (qW.rd 0 O) O (ajn (j:=1) (qW.rd 0 O) (by exact aO Value.pointer O) O O O O (aX P4 O (iG (j:=0) P4 (by exact aO Value.pointer O) O O O O (eH qW O O O ?_))))));intro A9 qD vS;refine fN 2 vS O (vS.bI 0 O) O O O fun AZ cZ tD DJ=>aX (DJ.rd 1 O) O (kf 1 (j:=1) DJ O O O O O ?_);intro pg yX;have yX:=yX.tail;have yY:St w5 pg (qN A4 d AZ (i+2) cZ AQ (i+2) cQ::az 2 AZ (i+2) cZ (fD d R)::(aT 24 2 AQ (i+2) cQ (ys++ [⟨A7,i+1,c7⟩]) (kA i B)++ [])):=yX;have jO:=(aW.call yY).perm me;refine ar O (ao.b7 2 (yY.rd 0 O) O O O (cG 3 1 jO O O O O O O O ?_));intro wK oo;refine bM O (rF O (oo.rd 1 O) ?_);refine⟨AZ,cZ,AQ,cQ,ys++ [⟨A7,i+1,c7⟩],O,by simp [wq],oo.sub (show List.Sublist _ (_::_::_::_::((aT 24 2 AD i cD df B++ [])++ (qN A4 d AZ (i+2) cZ AQ (i+2) cQ::_))) from((((((jV _).cons _).trans (mH _ _)).cons _).cons _).cons _).cons _)⟩
end
section
section
variable (m1 m2:Nat) (rk1 rk2:Int->Int) (kind:Int)
def rD(i:Int)(a:Int)(b:Nat):List (Int×Int):=((bN b).filter fun b=>decide (cg rk1 rk2 kind (a,b)=i/\¬pR m1 m2 kind (a,b))).map fun b=> (a,b)
def gC(i a b:Nat):List (Int×Int):=b5 m1 m2 rk1 rk2 kind i++ ((bN a).flatMap (fun a=>rD m1 m2 rk1 rk2 kind i a m2)++rD m1 m2 rk1 rk2 kind i (a:Int) b)
end
section
variable {m1 m2:Nat} {rk1 rk2:Int->Int} {kind:Int} {i a b:Nat}
theorem HM:gC m1 m2 rk1 rk2 kind i 0 0=b5 m1 m2 rk1 rk2 kind i:=by simp [gC,rD,bN]
theorem afx:gC m1 m2 rk1 rk2 kind i (a+1) 0=gC m1 m2 rk1 rk2 kind i a m2:=by
 unfold gC;rw [uC,List.flatMap_append];simp [rD,bN]
theorem afw:gC m1 m2 rk1 rk2 kind i m1 0=gC m1 m2 rk1 rk2 kind (i+1) 0 0:=by
 rw [HM];unfold gC;rw [b5]
 congr 1
 have:rD m1 m2 rk1 rk2 kind (i:Int) (m1:Int) 0=[]:=O;rw [this,fM]
 rfl
theorem afv(h:cg rk1 rk2 kind ((a:Int),(b:Int))=i/\¬pR m1 m2 kind ((a:Int),(b:Int))):gC m1 m2 rk1 rk2 kind i a (b+1)=gC m1 m2 rk1 rk2 kind i a b++ [((a:Int),(b:Int))]:=by
 unfold gC;have e:rD m1 m2 rk1 rk2 kind (i:Int) (a:Int) (b+1)=rD m1 m2 rk1 rk2 kind (i:Int) (a:Int) b++ [((a:Int),(b:Int))]:=by
  unfold rD;rw [uC,sP,jb,yw (by simpa using h)];rfl
 rw [e,<-jy,<-jy,<-jy]
theorem afy(h:¬(cg rk1 rk2 kind ((a:Int),(b:Int))=i/\¬pR m1 m2 kind ((a:Int),(b:Int)))):gC m1 m2 rk1 rk2 kind i a (b+1)=gC m1 m2 rk1 rk2 kind i a b:=by
 unfold gC;have e:rD m1 m2 rk1 rk2 kind (i:Int) (a:Int) (b+1)=rD m1 m2 rk1 rk2 kind (i:Int) (a:Int) b:=by
  unfold rD;rw [uC,sP,jb,vB (by simpa using h)];simp
 rw [e]
theorem Ta:∀ {k j:Nat},j<=k->(b5 m1 m2 rk1 rk2 kind j).length<=(b5 m1 m2 rk1 rk2 kind k).length
 | 0,j,h=>by
  obtain rfl:j=0:=by omega
  exact bj _
 | k+1,j,h=>by
  by_cases e:j=k+1
  ·subst e;exact bj _
  ·have:=Ta (k:=k) (j:=j) (by omega);rw [b5,cS];omega
theorem Tj(i a:Int)(b:Nat):(rD m1 m2 rk1 rk2 kind i a b).length<=b:=by
 unfold rD;rw [fk];refine nv (rM _ _) ?_;rw [bN,fk,pU];exact bj _
theorem Ti(i:Int):∀a:Nat,((bN a).flatMap (fun a=>rD m1 m2 rk1 rk2 kind i a m2)).length<=a*m2
 | 0=>by simp [bN]
 | a+1=>by
  have h1:=Ti i a;have h2:=Tj (m1:=m1) (m2:=m2) (rk1:=rk1) (rk2:=rk2) (kind:=kind) i (a:Int) m2;rw [uC,List.flatMap_append,cS,Nat.succ_mul];simp only [List.flatMap_cons,List.flatMap_nil,fM];omega
theorem afu(h:(b5 m1 m2 rk1 rk2 kind i).length<=500)(hb:b<=m2):(gC m1 m2 rk1 rk2 kind i a b).length<=500+ (a*m2+b):=by
 unfold gC;have h1:=Ti (m1:=m1) (m2:=m2) (rk1:=rk1) (rk2:=rk2) (kind:=kind) (i:Int) a;have h2:=Tj (m1:=m1) (m2:=m2) (rk1:=rk1) (rk2:=rk2) (kind:=kind) (i:Int) (a:Int) b;rw [cS,cS];omega
end
end
section
open Go.RowKit
variable{w w' w0:aa}{B BL M K:ah}
structure uJ(w:aa)(X8:aj)(X:ai)(N:Nat)(Y8:aj)(ys:List aN)(B:ah):Prop where
 len:X.length=N+2
 oQ:N<=500
 rk:cn w X8 (N+2) X
 bl:br w Y8 (N+2) ys (kA N B)
 bd:∀e:Int,0<=e->e< (N:Int)->(gl B e).length<=500/\∀d∈gl B e,0<=d/\d< (N:Int)
theorem uJ.aq{X8:aj}{X:ai}{N:Nat}{Y8:aj}{ys:List aN}(h:uJ w X8 X N Y8 ys B)(hb:Below w.heap.size w w'):uJ w' X8 X N Y8 ys B:=⟨h.len,h.oQ,h.rk.aq hb,h.bl.aq hb,h.bd⟩
def Ih(k:Nat)(RL:ai)(BL:ah)(w:aa)(v:ad)(w':aa):Prop:=((5<k\/500<RL.length)/\v= .tuple #[.agg #[ak 0,.slice none 0 0,.slice none 0 0],.bool false]/\St w w' [])\/((k<=5/\RL.length<=500)/\∃AR c AD d rs,v= .tuple #[.agg #[ak k,.slice AR RL.length c,.slice AD RL.length d],.bool true]/\rs.length=RL.length/\BL.length=RL.length/\St w w' (az 2 AR RL.length c RL::(aT 24 2 AD RL.length d rs BL++ [])))
abbrev qx(bR cL iM AR:aj)(dT gq cR:Nat)(L:List (Int×Int))(rk:Int×Int->Int)(k:Int)(KK:List Ck):List Ck:=
 az 2 bR L.length dT (L.map Prod.fst)::az 2 cL L.length gq (L.map Prod.snd)::bE iM k AR L.length cR none 0 0::az 2 AR L.length cR (L.map rk)::KK
abbrev EP(bR cL iM AR AD:aj)(dT gq cR cD e:Nat)(L:List (Int×Int))(rk:Int×Int->Int)(k:Int)(A6 A4 A3:aj)(v4 v3:List ad)(df:List aN)(B:ah):List Ck:=
 az 2 bR L.length dT (L.map Prod.fst)::az 2 cL L.length gq (L.map Prod.snd)::bE iM k AR L.length cR AD e cD::az 2 AR L.length cR (L.map rk)::bE A6 0 none 0 0 none 0 0::Bx 143 3 A4 v4::Bx 143 3 A3 v3::(aT 24 2 AD e cD df B++ [])
theorem aeI{α:Type}(b m q1 q2 q3 q4 q5 q6 q7:α)(X:List α):(b::q1::q2::q3::q4::q5::q6::q7::m::(X++ [])).Perm (q1::q2::q3::q4::q5::q6::q7::m::((X++ [b])++ [])):=by
 classical
 refine kN.2 fun z=>?_
 simp only [mb,kL,mE];omega
theorem aeM{α:Type}(a b c d:α)(X:List α):(a::b::c::d::X).Perm (d::c::b::a::X):=by
 classical
 refine kN.2 fun z=>?_
 simp only [kL];omega
theorem ac2(X8 Z8 Y8 W8:aj)(cx cz cy cw:Nat)(N1 N2:Nat)(X1 X2:ai)(uG vu:List aN)(B1 B2:ah)(n1 n2 kind:Int)(k:Nat)(w:aa)(oX:uJ w X8 X1 N1 Y8 uG B1)(oY:uJ w Z8 X2 N2 W8 vu B2)(xr:fz (N1+2) n1 (gi X1) (dC N1 B1))(xu:fz (N2+2) n2 (gi X2) (dC N2 B2))(hk:0<=kind/\kind<=2)(kl:(k:Int)=iw n1 n2 kind)(ti:n1<=5)(B5:n2<=5):
 aG prog 209 [.agg #[ak n1,.slice X8 (N1+2) cx,.slice Y8 (N1+2) cy],.agg #[ak n2,.slice Z8 (N2+2) cz,.slice W8 (N2+2) cw],ak kind] w (Ih k ((b5 (N1+2) (N2+2) (gi X1) (gi X2) kind k).map (cg (gi X1) (gi X2) kind)) (nX (dC N1 B1) (dC N2 B2) (b5 (N1+2) (N2+2) (gi X1) (gi X2) kind k)) w):=by
 have dd:=oX.oQ;have dS:=oY.oQ;have gI:=oX.len;have pJ:=oY.len;have aaK:=xr.n0;have aaM:=xu.n0;have D6:(k:Int)=n1+n2+ (if kind=0 then 1 else 0):=by rw [kl];unfold iw;split<;>omega
 refine bA func209 O ntmps209 O (pc O O) (a8 O (nw (St.refl w) O O ?_));intro A3 w1 aA;refine nw aA O O fun A4 w2 aB=>mK aB O ?_;intro A6 w3 aH;have B9:=aH.rd 2 O;have KZ:=aH.rd 1 O;refine ar O (aX B9 O (iG (j:=0) B9 (by exact aO Value.pointer O) O O O O (aX KZ O (iG (j:=0) KZ (by exact aO Value.pointer O) O O O O ?_))));refine aK O (CS 0 O ?_);refine tG (α:=Unit) (fun _=> [(2,ak kind),(3,.pointer A3),(4,.pointer A4),(6,.pointer A6),(8,ak k),(9,ak 1)]) (fun _ w'=>w'=w3) ?_ ?_
 ·refine bL O (aR _ O (fun h1=>?_) (fun h1=>?_))
  ·refine aE O (aK O (aU O (tQ ?_)));exact⟨(),⟨O,O,O,O,aO (Value.int .i64) (by rw [D6,ay h1]),O,av⟩,O⟩
  refine oc O (tQ ?_);exact⟨(),⟨O,O,O,O,aO (Value.int .i64) (by rw [D6,aw h1,Int.add_zero]),O,av⟩,O⟩
 rintro _ e w4 rfl;refine tG (α:=Unit) (fun _=> [(2,ak kind),(3,.pointer A3),(4,.pointer A4),(6,.pointer A6),(8,ak k),(9,ak (eS kind))]) (fun _ w'=>w'=w4) ?_ ?_
 ·refine bL O (aR _ O (fun h1=>?_) (fun h1=>?_))
  ·refine oc O (tQ ?_);exact⟨(),⟨O,O,O,O,O,congrArg (Value.int .i64) (by unfold eS;rw [if_pos h1]),trivial⟩,O⟩
  refine oc O (tQ ?_);exact⟨(),⟨O,O,O,O,O,congrArg (Value.int .i64) (by unfold eS;rw [if_neg h1]),trivial⟩,O⟩
 rintro _ e w5 rfl;refine dA O (aR _ O (fun h1=>?_) (fun h1=>?_))
 ·refine aE O (z8 (by exact inferInstance) (by exact inferInstance) (by exact inferInstance) O (cG 3 0 aH O O O O O O O ?_));intro w7 bG;refine bM O (iL O (bG.rd 0 O) O ?_);exact .inl ⟨.inl (by omega),O,bG.none⟩
 have KE:k<=5:=by omega
 obtain⟨KK,qV⟩:∃KK:List Ck,KK=[bE A6 0 none 0 0 none 0 0,Bx 143 3 A4 [ak n2,.slice Z8 (N2+2) cz,.slice W8 (N2+2) cw],Bx 143 3 A3 [ak n1,.slice X8 (N1+2) cx,.slice Y8 (N1+2) cy]]:=⟨_,rfl⟩;have aH:St w w5 KK:=by rw [qV];exact aH
 refine aE O (ny aH O ?_);intro bR w6 ba;refine ny ba O fun cL w7 bG=>ar O (Fj (by exact inferInstance) (by exact inferInstance) (by exact inferInstance) O O O O O O (mK bG O ?_));intro iM w8 bS;refine ar O (cG 3 0 bS O O O O O O O ?_);intro w9 bH;have bH:St w w9 (qx bR cL iM none 0 0 0 (gC (N1+2) (N2+2) (gi X1) (gi X2) kind 0 0 0) (cg (gi X1) (gi X2) kind) k KK):=by
  have h9:=bH.nil 2;rw [HM];exact h9.perm (aeM _ _ _ _ _)
 clear bS bG ba;have pD:∀ {w':aa} {ks:List Ck},St w w' (ks++KK)->Rd w' A3 3 (fun j=> [Value.int .i64 n1,.slice X8 (N1+2) cx,.slice Y8 (N1+2) cy].getD j undef):=fun h=>by
  have h9:=h.sub (mH _ _);rw [qV]at h9;exact h9.rd 2 O
 have sk:∀ {w':aa} {ks:List Ck},St w w' (ks++KK)->Rd w' A4 3 (fun j=> [Value.int .i64 n2,.slice Z8 (N2+2) cz,.slice W8 (N2+2) cw].getD j undef):=fun h=>by
  have h9:=h.sub (mH _ _);rw [qV]at h9;exact h9.rd 1 O
 have Ca:∀a:Nat,a<=N1+2->a* (N2+2)<=502*502:=fun a h=>Nat.mul_le_mul (by omega) (by omega)
 refine aI O (Cd.loop (α:=Nat×(aj×Nat)×(aj×Nat)×(aj×Nat)) (fun z=> [(2,ak kind),(3,.pointer A3),(4,.pointer A4),(6,.pointer A6),(8,ak k),(9,ak (eS kind)),(12,.pointer iM),(10,.slice z.2.1.1 (gC (N1+2) (N2+2) (gi X1) (gi X2) kind z.1 0 0).length z.2.1.2),(11,.slice z.2.2.1.1 (gC (N1+2) (N2+2) (gi X1) (gi X2) kind z.1 0 0).length z.2.2.1.2),(13,ak (z.1:Int))]) (fun z w'=>z.1<=k/\(b5 (N1+2) (N2+2) (gi X1) (gi X2) kind z.1).length<=500/\St w w' (qx z.2.1.1 z.2.2.1.1 iM z.2.2.2.1 z.2.1.2 z.2.2.1.2 z.2.2.2.2 (gC (N1+2) (N2+2) (gi X1) (gi X2) kind z.1 0 0) (cg (gi X1) (gi X2) kind) k KK)) (fun z=>k - z.1) (0,(bR,0),(cL,0),(none,0)) (ajs O) ⟨a7 _,a7 _,bH⟩ ?_);clear bH;rintro⟨i,⟨bR,dT⟩,⟨cL,gq⟩,⟨AR,cR⟩⟩ e eL ⟨hi,hlen,hS⟩;dsimp only at hi hlen hS|-;refine bL O (aR _ O (fun h2=>?_) (fun h2=>?_))
 ·have mr:i<k:=by omega
  refine dA O (Cd.loop (α:=Nat×(aj×Nat)×(aj×Nat)×(aj×Nat)) (fun z=> [(2,ak kind),(3,.pointer A3),(4,.pointer A4),(6,.pointer A6),(8,ak k),(9,ak (eS kind)),(12,.pointer iM),(10,.slice z.2.1.1 (gC (N1+2) (N2+2) (gi X1) (gi X2) kind i z.1 0).length z.2.1.2),(11,.slice z.2.2.1.1 (gC (N1+2) (N2+2) (gi X1) (gi X2) kind i z.1 0).length z.2.2.1.2),(13,ak i),(14,ak (z.1:Int))]) (fun z w'=>z.1<=N1+2/\St w w' (qx z.2.1.1 z.2.2.1.1 iM z.2.2.2.1 z.2.1.2 z.2.2.1.2 z.2.2.2.2 (gC (N1+2) (N2+2) (gi X1) (gi X2) kind i z.1 0) (cg (gi X1) (gi X2) kind) k KK)) (fun z=>N1+2 - z.1) (0,(bR,dT),(cL,gq),(AR,cR)) (ajs O) ⟨a7 _,hS⟩ ?_);clear hS;rintro⟨a,⟨bR,dT⟩,⟨cL,gq⟩,⟨AR,cR⟩⟩ e fI ⟨ha,hS⟩;dsimp only at ha hS|-;have JP:=pD (ks:=[_,_,_,_]) hS;refine a8 O (aX JP O (ajn (j:=1) JP (by exact aO Value.pointer O) O O O O ?_));refine bc O O (aI O ?_);refine aR _ O (fun h3=>?_) (fun h3=>?_)
  ·have BC:a<N1+2:=by omega
   have hsqa:=Ca a (by omega);refine dA O (Cd.loop (α:=Nat×(aj×Nat)×(aj×Nat)×(aj×Nat)) (fun z=> [(2,ak kind),(3,.pointer A3),(4,.pointer A4),(6,.pointer A6),(8,ak k),(9,ak (eS kind)),(12,.pointer iM),(10,.slice z.2.1.1 (gC (N1+2) (N2+2) (gi X1) (gi X2) kind i a z.1).length z.2.1.2),(11,.slice z.2.2.1.1 (gC (N1+2) (N2+2) (gi X1) (gi X2) kind i a z.1).length z.2.2.1.2),(13,ak i),(14,ak a),(15,ak (z.1:Int))]) (fun z w'=>z.1<=N2+2/\St w w' (qx z.2.1.1 z.2.2.1.1 iM z.2.2.2.1 z.2.1.2 z.2.2.1.2 z.2.2.2.2 (gC (N1+2) (N2+2) (gi X1) (gi X2) kind i a z.1) (cg (gi X1) (gi X2) kind) k KK)) (fun z=>N2+2 - z.1) (0,(bR,dT),(cL,gq),(AR,cR)) (ajs O) ⟨a7 _,hS⟩ ?_);clear hS JP;rintro⟨b,⟨bR,dT⟩,⟨cL,gq⟩,⟨AR,cR⟩⟩ e fZ ⟨hb,hS⟩;dsimp only at hb hS|-;have kF:=pD (ks:=[_,_,_,_]) hS;have kX:=sk (ks:=[_,_,_,_]) hS;have hlL:=afu (a:=a) hlen hb;refine a8 O (aX kX O (ajn (j:=1) kX (by exact aO Value.pointer O) O O O O ?_));refine bc O O (aI O ?_);refine aR _ O (fun h4=>?_) (fun h4=>?_)
   ·have Gy:b<N2+2:=by omega
    have ko:=(oX.aq hS.below).rk;have kJ:=(oY.aq hS.below).rk;have ga:=xr.cj (a:=(a:Int)) (by omega);have gb:=xu.cj (a:=(b:Int)) (by omega);have gs0:0<=eS kind/\eS kind<=1:=by unfold eS;split<;>omega
    have jw:cg (gi X1) (gi X2) kind ((a:Int),(b:Int))=gi X1 a+gi X2 b+eS kind:=O;have fu:=afy (m1:=N1+2) (m2:=N2+2) (rk1:=gi X1) (rk2:=gi X2) (kind:=kind) (i:=i) (a:=a) (b:=b);have o6:=afv (m1:=N1+2) (m2:=N2+2) (rk1:=gi X1) (rk2:=gi X2) (kind:=kind) (i:=i) (a:=a) (b:=b);have hex:pR (N1+2) (N2+2) kind ((a:Int),(b:Int))↔((kind=1/\((a:Int)=0\/(b:Int)=0))\/(kind=2/\((a:Int)=((N1+2:Nat):Int) - 1\/(b:Int)=((N2+2:Nat):Int) - 1))):=Iff.rfl;have DS:(gi X1 a+gi X2 b+eS kind≠(i:Int))\/(gi X1 a+gi X2 b+eS kind=(i:Int)/\((kind=1/\(a:Int)=0)\/(kind=1/\(a:Int)≠0/\(b:Int)=0)\/(kind=1/\(a:Int)≠0/\(b:Int)≠0)\/(kind=2/\(a:Int)=((N1+2:Nat):Int) - 1)\/(kind=2/\(a:Int)≠((N1+2:Nat):Int) - 1/\(b:Int)=((N2+2:Nat):Int) - 1)\/(kind=2/\(a:Int)≠((N1+2:Nat):Int) - 1/\(b:Int)≠((N2+2:Nat):Int) - 1)\/kind=0)):=by omega
    rcases DS with q1 | ⟨q1,⟨k1,p1⟩ | ⟨k1,p1,p2⟩ | ⟨k1,p1,p2⟩ | ⟨k1,p1⟩ | ⟨k1,p1,p2⟩ | ⟨k1,p1,p2⟩ | k1⟩
    ·
     refine dA O ?_;refine eY [xP (aJ (A3) 1),xS (X8) (N1+2) (cx),xI ((a:Int)),xP (aJ (X8) ((a:Int)).toNat),xI (gi (X1) ((a:Int))),xP (aJ (A4) 1),xS (Z8) (N2+2) (cz),xI ((b:Int)),xP (aJ (Z8) ((b:Int)).toNat),xI (gi (X2) ((b:Int))),xI ((gi (X1) ((a:Int)))+ (gi (X2) ((b:Int)))),xI ((eS kind)),xI (((gi (X1) ((a:Int)))+ (gi (X2) ((b:Int))))+ ((eS kind))),xI ((i:Int)),xB (decide (¬(((gi (X1) ((a:Int)))+ (gi (X2) ((b:Int))))+ ((eS kind)))=((i:Int)))),xB (true),xU,xU,xU,xU,xU,xU,xU,xU,xU,xU,xB (true),xB (true),xU,xU,xU,xU,xU,xU,xU,xU,xU,xU,xU,xU,xU,xU,xU,xU,xU,xU,xB (true)] O (fE O) ?_ ?_
     ·exact⟨fun _ _ hb _ _=>aX (kF.below hb) O Az,fun _ _ hb _ _=>bn (kF.below hb) O Az,Dr O,fun _ _ hb _ _=>aM (ko.aq hb).2 O Az,fun _ _ hb _ _=>bk (ko.aq hb) O Az,fun _ _ hb _ _=>aX (kX.below hb) O Az,fun _ _ hb _ _=>bn (kX.below hb) O Az,Dr O,fun _ _ hb _ _=>aM (kJ.aq hb).2 O Az,fun _ _ hb _ _=>bk (kJ.aq hb) O Az,fun _ _ _ _ _=>aK O Az,Dr O,fun _ _ _ _ _=>aK O Az,Dr O,Dr O,fun _ _ _ _ _=>Dk O (by exact aO Value.bool (eM q1)),Dr O,Dr O,Dr O,Dr O,Dr O,Dr O,Dr O,Dr O,Dr O,Dr O,Dr O,fun _ _ _ _ _=>Dk O (by exact aO Value.bool (O)),Dr O,Dr O,Dr O,Dr O,Dr O,Dr O,Dr O,Dr O,Dr O,Dr O,Dr O,Dr O,Dr O,Dr O,Dr O,Dr O,Dr O,Dr O,Dr O,av⟩
     intro u gM qc _;have hS:=hS.aq qc;refine fR O (Cd.jE O ?_);have fu:=fu (fun h=>q1 (by rw [jw]at h;exact h.1));refine aE O (aK O (aU O (tQ ?_)));exact⟨(b+1,(bR,dT),(cL,gq),(AR,cR)),by show N2+2 - (b+1)<N2+2 - b;omega,⟨O,O,O,O,O,O,O,aO (fun L:List (Int×Int)=>Value.slice bR L.length dT) fu.symm,aO (fun L:List (Int×Int)=>Value.slice cL L.length gq) fu.symm,O,O,O,av⟩,by show b+1<=N2+2;omega,by show St w gM (qx bR cL iM AR dT gq cR (gC _ _ _ _ kind i a (b+1)) _ k KK);rw [fu];exact hS⟩
    ·refine dA O ?_;refine eY [xP (aJ (A3) 1),xS (X8) (N1+2) (cx),xI ((a:Int)),xP (aJ (X8) ((a:Int)).toNat),xI (gi (X1) ((a:Int))),xP (aJ (A4) 1),xS (Z8) (N2+2) (cz),xI ((b:Int)),xP (aJ (Z8) ((b:Int)).toNat),xI (gi (X2) ((b:Int))),xI ((gi (X1) ((a:Int)))+ (gi (X2) ((b:Int)))),xI ((eS kind)),xI (((gi (X1) ((a:Int)))+ (gi (X2) ((b:Int))))+ ((eS kind))),xI ((i:Int)),xB (decide (¬(((gi (X1) ((a:Int)))+ (gi (X2) ((b:Int))))+ ((eS kind)))=((i:Int)))),xB (false),xI (kind),xB (decide ((kind)=((1:Int)))),xB (true),xI ((a:Int)),xB (decide (((a:Int))=((0:Int)))),xB (true),xU,xU,xB (true),xB (true),xB (true),xB (true),xU,xU,xU,xU,xU,xU,xU,xU,xU,xU,xU,xU,xU,xU,xU,xU,xU,xU,xB (true)] O (fE O) ?_ ?_
     ·exact⟨fun _ _ hb _ _=>aX (kF.below hb) O Az,fun _ _ hb _ _=>bn (kF.below hb) O Az,Dr O,fun _ _ hb _ _=>aM (ko.aq hb).2 O Az,fun _ _ hb _ _=>bk (ko.aq hb) O Az,fun _ _ hb _ _=>aX (kX.below hb) O Az,fun _ _ hb _ _=>bn (kX.below hb) O Az,Dr O,fun _ _ hb _ _=>aM (kJ.aq hb).2 O Az,fun _ _ hb _ _=>bk (kJ.aq hb) O Az,fun _ _ _ _ _=>aK O Az,Dr O,fun _ _ _ _ _=>aK O Az,Dr O,Dr O,fun _ _ _ _ _=>Dk O (by exact aO Value.bool (dE (fun h=>h q1))),Dr O,Dr O,fun _ _ _ _ _=>Dk O (by exact aO Value.bool (eM k1)),Dr O,Dr O,fun _ _ _ _ _=>Dk O (by exact aO Value.bool (eM p1)),Dr O,Dr O,Dr O,Dr O,Dr O,fun _ _ _ _ _=>Dk O (by exact aO Value.bool (O)),Dr O,Dr O,Dr O,Dr O,Dr O,Dr O,Dr O,Dr O,Dr O,Dr O,Dr O,Dr O,Dr O,Dr O,Dr O,Dr O,Dr O,Dr O,Dr O,av⟩
     intro u gM qc _;have hS:=hS.aq qc;refine fR O (Cd.jE O ?_);have fu:=fu (fun h=>h.2 (hex.2 (.inl ⟨k1,.inl p1⟩)));refine aE O (aK O (aU O (tQ ?_)));exact⟨(b+1,(bR,dT),(cL,gq),(AR,cR)),by show N2+2 - (b+1)<N2+2 - b;omega,⟨O,O,O,O,O,O,O,aO (fun L:List (Int×Int)=>Value.slice bR L.length dT) fu.symm,aO (fun L:List (Int×Int)=>Value.slice cL L.length gq) fu.symm,O,O,O,av⟩,by show b+1<=N2+2;omega,by show St w gM (qx bR cL iM AR dT gq cR (gC _ _ _ _ kind i a (b+1)) _ k KK);rw [fu];exact hS⟩
    ·refine dA O ?_;refine eY [xP (aJ (A3) 1),xS (X8) (N1+2) (cx),xI ((a:Int)),xP (aJ (X8) ((a:Int)).toNat),xI (gi (X1) ((a:Int))),xP (aJ (A4) 1),xS (Z8) (N2+2) (cz),xI ((b:Int)),xP (aJ (Z8) ((b:Int)).toNat),xI (gi (X2) ((b:Int))),xI ((gi (X1) ((a:Int)))+ (gi (X2) ((b:Int)))),xI ((eS kind)),xI (((gi (X1) ((a:Int)))+ (gi (X2) ((b:Int))))+ ((eS kind))),xI ((i:Int)),xB (decide (¬(((gi (X1) ((a:Int)))+ (gi (X2) ((b:Int))))+ ((eS kind)))=((i:Int)))),xB (false),xI (kind),xB (decide ((kind)=((1:Int)))),xB (true),xI ((a:Int)),xB (decide (((a:Int))=((0:Int)))),xB (false),xI ((b:Int)),xB (decide (((b:Int))=((0:Int)))),xB (decide (((b:Int))=((0:Int)))),xB (decide (((b:Int))=((0:Int)))),xB (decide (((b:Int))=((0:Int)))),xB (true),xU,xU,xU,xU,xU,xU,xU,xU,xU,xU,xU,xU,xU,xU,xU,xU,xU,xU,xB (true)] O (fE O) ?_ ?_
     ·exact⟨fun _ _ hb _ _=>aX (kF.below hb) O Az,fun _ _ hb _ _=>bn (kF.below hb) O Az,Dr O,fun _ _ hb _ _=>aM (ko.aq hb).2 O Az,fun _ _ hb _ _=>bk (ko.aq hb) O Az,fun _ _ hb _ _=>aX (kX.below hb) O Az,fun _ _ hb _ _=>bn (kX.below hb) O Az,Dr O,fun _ _ hb _ _=>aM (kJ.aq hb).2 O Az,fun _ _ hb _ _=>bk (kJ.aq hb) O Az,fun _ _ _ _ _=>aK O Az,Dr O,fun _ _ _ _ _=>aK O Az,Dr O,Dr O,fun _ _ _ _ _=>Dk O (by exact aO Value.bool (dE (fun h=>h q1))),Dr O,Dr O,fun _ _ _ _ _=>Dk O (by exact aO Value.bool (eM k1)),Dr O,Dr O,fun _ _ _ _ _=>Dk O (by exact aO Value.bool (dE p1)),Dr O,Dr O,Dr O,Dr O,Dr O,fun _ _ _ _ _=>Dk O (by exact aO Value.bool (eM p2)),Dr O,Dr O,Dr O,Dr O,Dr O,Dr O,Dr O,Dr O,Dr O,Dr O,Dr O,Dr O,Dr O,Dr O,Dr O,Dr O,Dr O,Dr O,Dr O,av⟩
     intro u gM qc _;have hS:=hS.aq qc;refine fR O (Cd.jE O ?_);have fu:=fu (fun h=>h.2 (hex.2 (.inl ⟨k1,.inr p2⟩)));refine aE O (aK O (aU O (tQ ?_)));exact⟨(b+1,(bR,dT),(cL,gq),(AR,cR)),by show N2+2 - (b+1)<N2+2 - b;omega,⟨O,O,O,O,O,O,O,aO (fun L:List (Int×Int)=>Value.slice bR L.length dT) fu.symm,aO (fun L:List (Int×Int)=>Value.slice cL L.length gq) fu.symm,O,O,O,av⟩,by show b+1<=N2+2;omega,by show St w gM (qx bR cL iM AR dT gq cR (gC _ _ _ _ kind i a (b+1)) _ k KK);rw [fu];exact hS⟩
    ·refine dA O ?_;refine eY [xP (aJ (A3) 1),xS (X8) (N1+2) (cx),xI ((a:Int)),xP (aJ (X8) ((a:Int)).toNat),xI (gi (X1) ((a:Int))),xP (aJ (A4) 1),xS (Z8) (N2+2) (cz),xI ((b:Int)),xP (aJ (Z8) ((b:Int)).toNat),xI (gi (X2) ((b:Int))),xI ((gi (X1) ((a:Int)))+ (gi (X2) ((b:Int)))),xI ((eS kind)),xI (((gi (X1) ((a:Int)))+ (gi (X2) ((b:Int))))+ ((eS kind))),xI ((i:Int)),xB (decide (¬(((gi (X1) ((a:Int)))+ (gi (X2) ((b:Int))))+ ((eS kind)))=((i:Int)))),xB (false),xI (kind),xB (decide ((kind)=((1:Int)))),xB (true),xI ((a:Int)),xB (decide (((a:Int))=((0:Int)))),xB (false),xI ((b:Int)),xB (decide (((b:Int))=((0:Int)))),xB (decide (((b:Int))=((0:Int)))),xB (decide (((b:Int))=((0:Int)))),xB (decide (((b:Int))=((0:Int)))),xB (false),xI (kind),xB (decide ((kind)=((2:Int)))),xB (false),xU,xU,xU,xU,xU,xU,xU,xU,xU,xU,xU,xU,xU,xU,xB (false),xB (false)] O (fE O) ?_ ?_
     ·exact⟨fun _ _ hb _ _=>aX (kF.below hb) O Az,fun _ _ hb _ _=>bn (kF.below hb) O Az,Dr O,fun _ _ hb _ _=>aM (ko.aq hb).2 O Az,fun _ _ hb _ _=>bk (ko.aq hb) O Az,fun _ _ hb _ _=>aX (kX.below hb) O Az,fun _ _ hb _ _=>bn (kX.below hb) O Az,Dr O,fun _ _ hb _ _=>aM (kJ.aq hb).2 O Az,fun _ _ hb _ _=>bk (kJ.aq hb) O Az,fun _ _ _ _ _=>aK O Az,Dr O,fun _ _ _ _ _=>aK O Az,Dr O,Dr O,fun _ _ _ _ _=>Dk O (by exact aO Value.bool (dE (fun h=>h q1))),Dr O,Dr O,fun _ _ _ _ _=>Dk O (by exact aO Value.bool (eM k1)),Dr O,Dr O,fun _ _ _ _ _=>Dk O (by exact aO Value.bool (dE p1)),Dr O,Dr O,Dr O,Dr O,Dr O,fun _ _ _ _ _=>Dk O (by exact aO Value.bool (dE p2)),Dr O,Dr O,fun _ _ _ _ _=>Dk O (by exact aO Value.bool (dE (by omega))),Dr O,Dr O,Dr O,Dr O,Dr O,Dr O,Dr O,Dr O,Dr O,Dr O,Dr O,Dr O,Dr O,Dr O,Dr O,Dr O,av⟩
     intro u gM qc _;have hS:=hS.aq qc;refine fR O (Cd.gh O ?_);have o6:=o6 ⟨by rw [jw];exact q1,fun h=>by have:=hex.1 h;omega⟩;have nP:(gC (N1+2) (N2+2) (gi X1) (gi X2) kind i a (b+1)).length=(gC (N1+2) (N2+2) (gi X1) (gi X2) kind i a b).length+1:=by rw [o6,cS];rfl
     refine aE O (eH hS O O O ?_);intro MF oI jh;refine fN 1 jh O (jh.bI 0 O) O O O ?_;intro AZ cZ qD ib;have ib:=ib.tail;refine ar O (eH ib O O O ?_);intro MG tD jN;refine fN 2 jN O (jN.bI 0 O) O O O ?_;intro AQ cQ pg fX;have fX:=fX.tail;refine ar O (aX (fX.rd 2 O) O (ajn (j:=1) (fX.rd 2 O) (by exact aO Value.pointer O) O O O O (ar O (eH fX O O O ?_))));intro MH wK jO;refine fN 4 jO O (jO.bI 0 O) O O O fun AW cW E6 oo=>aX (oo.rd 3 O) O (kf 3 (j:=1) oo O O O O O ?_);intro yn p8;have p8:=p8.tail;refine ar O (aK O (aU O (tQ ?_)));refine⟨(b+1,(AZ,cZ),(AQ,cQ),(AW,cW)),by show N2+2 - (b+1)<N2+2 - b;omega,⟨O,O,O,O,O,O,O,aO (fun m:Nat=>Value.slice AZ m cZ) nP.symm,aO (fun m:Nat=>Value.slice AQ m cQ) nP.symm,O,O,O,av⟩,by show b+1<=N2+2;omega,?_⟩;show St w yn (qx AZ AQ iM AW cZ cQ cW (gC _ _ _ _ kind i a (b+1)) _ k KK);unfold qx;rw [nP,o6,jb,jb,jb];rw [show [((a:Int),(b:Int))].map (cg (gi X1) (gi X2) kind)=[(i:Int)] from aO (fun x=> [x]) (jw.trans q1)];exact p8
    ·refine dA O ?_;refine eY [xP (aJ (A3) 1),xS (X8) (N1+2) (cx),xI ((a:Int)),xP (aJ (X8) ((a:Int)).toNat),xI (gi (X1) ((a:Int))),xP (aJ (A4) 1),xS (Z8) (N2+2) (cz),xI ((b:Int)),xP (aJ (Z8) ((b:Int)).toNat),xI (gi (X2) ((b:Int))),xI ((gi (X1) ((a:Int)))+ (gi (X2) ((b:Int)))),xI ((eS kind)),xI (((gi (X1) ((a:Int)))+ (gi (X2) ((b:Int))))+ ((eS kind))),xI ((i:Int)),xB (decide (¬(((gi (X1) ((a:Int)))+ (gi (X2) ((b:Int))))+ ((eS kind)))=((i:Int)))),xB (false),xI (kind),xB (decide ((kind)=((1:Int)))),xB (false),xU,xU,xU,xU,xU,xU,xB (false),xB (false),xB (false),xI (kind),xB (decide ((kind)=((2:Int)))),xB (true),xI ((a:Int)),xP (aJ (A3) 1),xS (X8) (N1+2) (cx),xI (((N1+2:Nat):Int)),xI ((((N1+2:Nat):Int)) - ((1:Int))),xB (decide (((a:Int))=((((N1+2:Nat):Int)) - ((1:Int))))),xB (true),xU,xU,xU,xU,xU,xU,xB (true),xB (true),xB (true)] O (fE O) ?_ ?_
     ·exact⟨fun _ _ hb _ _=>aX (kF.below hb) O Az,fun _ _ hb _ _=>bn (kF.below hb) O Az,Dr O,fun _ _ hb _ _=>aM (ko.aq hb).2 O Az,fun _ _ hb _ _=>bk (ko.aq hb) O Az,fun _ _ hb _ _=>aX (kX.below hb) O Az,fun _ _ hb _ _=>bn (kX.below hb) O Az,Dr O,fun _ _ hb _ _=>aM (kJ.aq hb).2 O Az,fun _ _ hb _ _=>bk (kJ.aq hb) O Az,fun _ _ _ _ _=>aK O Az,Dr O,fun _ _ _ _ _=>aK O Az,Dr O,Dr O,fun _ _ _ _ _=>Dk O (by exact aO Value.bool (dE (fun h=>h q1))),Dr O,Dr O,fun _ _ _ _ _=>Dk O (by exact aO Value.bool (dE (by omega))),Dr O,Dr O,Dr O,Dr O,Dr O,Dr O,Dr O,Dr O,fun _ _ _ _ _=>Dk O (by exact aO Value.bool (O)),Dr O,Dr O,fun _ _ _ _ _=>Dk O (by exact aO Value.bool (eM k1)),Dr O,fun _ _ hb _ _=>ax O (aX (kF.below hb) O Az),fun _ _ hb _ _=>ax O (bn (kF.below hb) O Az),fun _ _ _ _ _=>ax O (bc O O Az),fun _ _ _ _ _=>ax O (dQ O Az),Dr O,fun _ _ _ _ _=>Dk O (by exact aO Value.bool (eM p1)),Dr O,Dr O,Dr O,Dr O,Dr O,Dr O,Dr O,Dr O,Dr O,av⟩
     intro u gM qc _;have hS:=hS.aq qc;refine fR O (Cd.jE O ?_);have fu:=fu (fun h=>h.2 (hex.2 (.inr ⟨k1,.inl p1⟩)));refine aE O (aK O (aU O (tQ ?_)));exact⟨(b+1,(bR,dT),(cL,gq),(AR,cR)),by show N2+2 - (b+1)<N2+2 - b;omega,⟨O,O,O,O,O,O,O,aO (fun L:List (Int×Int)=>Value.slice bR L.length dT) fu.symm,aO (fun L:List (Int×Int)=>Value.slice cL L.length gq) fu.symm,O,O,O,av⟩,by show b+1<=N2+2;omega,by show St w gM (qx bR cL iM AR dT gq cR (gC _ _ _ _ kind i a (b+1)) _ k KK);rw [fu];exact hS⟩
    ·refine dA O ?_;refine eY [xP (aJ (A3) 1),xS (X8) (N1+2) (cx),xI ((a:Int)),xP (aJ (X8) ((a:Int)).toNat),xI (gi (X1) ((a:Int))),xP (aJ (A4) 1),xS (Z8) (N2+2) (cz),xI ((b:Int)),xP (aJ (Z8) ((b:Int)).toNat),xI (gi (X2) ((b:Int))),xI ((gi (X1) ((a:Int)))+ (gi (X2) ((b:Int)))),xI ((eS kind)),xI (((gi (X1) ((a:Int)))+ (gi (X2) ((b:Int))))+ ((eS kind))),xI ((i:Int)),xB (decide (¬(((gi (X1) ((a:Int)))+ (gi (X2) ((b:Int))))+ ((eS kind)))=((i:Int)))),xB (false),xI (kind),xB (decide ((kind)=((1:Int)))),xB (false),xU,xU,xU,xU,xU,xU,xB (false),xB (false),xB (false),xI (kind),xB (decide ((kind)=((2:Int)))),xB (true),xI ((a:Int)),xP (aJ (A3) 1),xS (X8) (N1+2) (cx),xI (((N1+2:Nat):Int)),xI ((((N1+2:Nat):Int)) - ((1:Int))),xB (decide (((a:Int))=((((N1+2:Nat):Int)) - ((1:Int))))),xB (false),xI ((b:Int)),xP (aJ (A4) 1),xS (Z8) (N2+2) (cz),xI (((N2+2:Nat):Int)),xI ((((N2+2:Nat):Int)) - ((1:Int))),xB (decide (((b:Int))=((((N2+2:Nat):Int)) - ((1:Int))))),xB (decide (((b:Int))=((((N2+2:Nat):Int)) - ((1:Int))))),xB (decide (((b:Int))=((((N2+2:Nat):Int)) - ((1:Int))))),xB (decide (((b:Int))=((((N2+2:Nat):Int)) - ((1:Int)))))] O (fE O) ?_ ?_
     ·exact⟨fun _ _ hb _ _=>aX (kF.below hb) O Az,fun _ _ hb _ _=>bn (kF.below hb) O Az,Dr O,fun _ _ hb _ _=>aM (ko.aq hb).2 O Az,fun _ _ hb _ _=>bk (ko.aq hb) O Az,fun _ _ hb _ _=>aX (kX.below hb) O Az,fun _ _ hb _ _=>bn (kX.below hb) O Az,Dr O,fun _ _ hb _ _=>aM (kJ.aq hb).2 O Az,fun _ _ hb _ _=>bk (kJ.aq hb) O Az,fun _ _ _ _ _=>aK O Az,Dr O,fun _ _ _ _ _=>aK O Az,Dr O,Dr O,fun _ _ _ _ _=>Dk O (by exact aO Value.bool (dE (fun h=>h q1))),Dr O,Dr O,fun _ _ _ _ _=>Dk O (by exact aO Value.bool (dE (by omega))),Dr O,Dr O,Dr O,Dr O,Dr O,Dr O,Dr O,Dr O,fun _ _ _ _ _=>Dk O (by exact aO Value.bool (O)),Dr O,Dr O,fun _ _ _ _ _=>Dk O (by exact aO Value.bool (eM k1)),Dr O,fun _ _ hb _ _=>ax O (aX (kF.below hb) O Az),fun _ _ hb _ _=>ax O (bn (kF.below hb) O Az),fun _ _ _ _ _=>ax O (bc O O Az),fun _ _ _ _ _=>ax O (dQ O Az),Dr O,fun _ _ _ _ _=>Dk O (by exact aO Value.bool (dE p1)),Dr O,fun _ _ hb _ _=>ax O (aX (kX.below hb) O Az),fun _ _ hb _ _=>ax O (bn (kX.below hb) O Az),fun _ _ _ _ _=>ax O (bc O O Az),fun _ _ _ _ _=>ax O (dQ O Az),Dr O,Dr O,Dr O,Dr O,av⟩
     intro u gM qc _;have hS:=hS.aq qc;refine fR O (CO O p2 ?_);have fu:=fu (fun h=>h.2 (hex.2 (.inr ⟨k1,.inr p2⟩)));refine aE O (aK O (aU O (tQ ?_)));exact⟨(b+1,(bR,dT),(cL,gq),(AR,cR)),by show N2+2 - (b+1)<N2+2 - b;omega,⟨O,O,O,O,O,O,O,aO (fun L:List (Int×Int)=>Value.slice bR L.length dT) fu.symm,aO (fun L:List (Int×Int)=>Value.slice cL L.length gq) fu.symm,O,O,O,av⟩,by show b+1<=N2+2;omega,by show St w gM (qx bR cL iM AR dT gq cR (gC _ _ _ _ kind i a (b+1)) _ k KK);rw [fu];exact hS⟩
    ·refine dA O ?_;refine eY [xP (aJ (A3) 1),xS (X8) (N1+2) (cx),xI ((a:Int)),xP (aJ (X8) ((a:Int)).toNat),xI (gi (X1) ((a:Int))),xP (aJ (A4) 1),xS (Z8) (N2+2) (cz),xI ((b:Int)),xP (aJ (Z8) ((b:Int)).toNat),xI (gi (X2) ((b:Int))),xI ((gi (X1) ((a:Int)))+ (gi (X2) ((b:Int)))),xI ((eS kind)),xI (((gi (X1) ((a:Int)))+ (gi (X2) ((b:Int))))+ ((eS kind))),xI ((i:Int)),xB (decide (¬(((gi (X1) ((a:Int)))+ (gi (X2) ((b:Int))))+ ((eS kind)))=((i:Int)))),xB (false),xI (kind),xB (decide ((kind)=((1:Int)))),xB (false),xU,xU,xU,xU,xU,xU,xB (false),xB (false),xB (false),xI (kind),xB (decide ((kind)=((2:Int)))),xB (true),xI ((a:Int)),xP (aJ (A3) 1),xS (X8) (N1+2) (cx),xI (((N1+2:Nat):Int)),xI ((((N1+2:Nat):Int)) - ((1:Int))),xB (decide (((a:Int))=((((N1+2:Nat):Int)) - ((1:Int))))),xB (false),xI ((b:Int)),xP (aJ (A4) 1),xS (Z8) (N2+2) (cz),xI (((N2+2:Nat):Int)),xI ((((N2+2:Nat):Int)) - ((1:Int))),xB (decide (((b:Int))=((((N2+2:Nat):Int)) - ((1:Int))))),xB (decide (((b:Int))=((((N2+2:Nat):Int)) - ((1:Int))))),xB (decide (((b:Int))=((((N2+2:Nat):Int)) - ((1:Int))))),xB (decide (((b:Int))=((((N2+2:Nat):Int)) - ((1:Int)))))] O (fE O) ?_ ?_
     ·exact⟨fun _ _ hb _ _=>aX (kF.below hb) O Az,fun _ _ hb _ _=>bn (kF.below hb) O Az,Dr O,fun _ _ hb _ _=>aM (ko.aq hb).2 O Az,fun _ _ hb _ _=>bk (ko.aq hb) O Az,fun _ _ hb _ _=>aX (kX.below hb) O Az,fun _ _ hb _ _=>bn (kX.below hb) O Az,Dr O,fun _ _ hb _ _=>aM (kJ.aq hb).2 O Az,fun _ _ hb _ _=>bk (kJ.aq hb) O Az,fun _ _ _ _ _=>aK O Az,Dr O,fun _ _ _ _ _=>aK O Az,Dr O,Dr O,fun _ _ _ _ _=>Dk O (by exact aO Value.bool (dE (fun h=>h q1))),Dr O,Dr O,fun _ _ _ _ _=>Dk O (by exact aO Value.bool (dE (by omega))),Dr O,Dr O,Dr O,Dr O,Dr O,Dr O,Dr O,Dr O,fun _ _ _ _ _=>Dk O (by exact aO Value.bool (O)),Dr O,Dr O,fun _ _ _ _ _=>Dk O (by exact aO Value.bool (eM k1)),Dr O,fun _ _ hb _ _=>ax O (aX (kF.below hb) O Az),fun _ _ hb _ _=>ax O (bn (kF.below hb) O Az),fun _ _ _ _ _=>ax O (bc O O Az),fun _ _ _ _ _=>ax O (dQ O Az),Dr O,fun _ _ _ _ _=>Dk O (by exact aO Value.bool (dE p1)),Dr O,fun _ _ hb _ _=>ax O (aX (kX.below hb) O Az),fun _ _ hb _ _=>ax O (bn (kX.below hb) O Az),fun _ _ _ _ _=>ax O (bc O O Az),fun _ _ _ _ _=>ax O (dQ O Az),Dr O,Dr O,Dr O,Dr O,av⟩
     intro u gM qc _;have hS:=hS.aq qc;refine fR O (mD O p2 ?_);have o6:=o6 ⟨by rw [jw];exact q1,fun h=>by have:=hex.1 h;omega⟩;have nP:(gC (N1+2) (N2+2) (gi X1) (gi X2) kind i a (b+1)).length=(gC (N1+2) (N2+2) (gi X1) (gi X2) kind i a b).length+1:=by rw [o6,cS];rfl
     refine aE O (eH hS O O O ?_);intro MF oI jh;refine fN 1 jh O (jh.bI 0 O) O O O ?_;intro AZ cZ qD ib;have ib:=ib.tail;refine ar O (eH ib O O O ?_);intro MG tD jN;refine fN 2 jN O (jN.bI 0 O) O O O ?_;intro AQ cQ pg fX;have fX:=fX.tail;refine ar O (aX (fX.rd 2 O) O (ajn (j:=1) (fX.rd 2 O) (by exact aO Value.pointer O) O O O O (ar O (eH fX O O O ?_))));intro MH wK jO;refine fN 4 jO O (jO.bI 0 O) O O O fun AW cW E6 oo=>aX (oo.rd 3 O) O (kf 3 (j:=1) oo O O O O O ?_);intro yn p8;have p8:=p8.tail;refine ar O (aK O (aU O (tQ ?_)));refine⟨(b+1,(AZ,cZ),(AQ,cQ),(AW,cW)),by show N2+2 - (b+1)<N2+2 - b;omega,⟨O,O,O,O,O,O,O,aO (fun m:Nat=>Value.slice AZ m cZ) nP.symm,aO (fun m:Nat=>Value.slice AQ m cQ) nP.symm,O,O,O,av⟩,by show b+1<=N2+2;omega,?_⟩;show St w yn (qx AZ AQ iM AW cZ cQ cW (gC _ _ _ _ kind i a (b+1)) _ k KK);unfold qx;rw [nP,o6,jb,jb,jb];rw [show [((a:Int),(b:Int))].map (cg (gi X1) (gi X2) kind)=[(i:Int)] from aO (fun x=> [x]) (jw.trans q1)];exact p8
    refine dA O ?_;refine eY [xP (aJ (A3) 1),xS (X8) (N1+2) (cx),xI ((a:Int)),xP (aJ (X8) ((a:Int)).toNat),xI (gi (X1) ((a:Int))),xP (aJ (A4) 1),xS (Z8) (N2+2) (cz),xI ((b:Int)),xP (aJ (Z8) ((b:Int)).toNat),xI (gi (X2) ((b:Int))),xI ((gi (X1) ((a:Int)))+ (gi (X2) ((b:Int)))),xI ((eS kind)),xI (((gi (X1) ((a:Int)))+ (gi (X2) ((b:Int))))+ ((eS kind))),xI ((i:Int)),xB (decide (¬(((gi (X1) ((a:Int)))+ (gi (X2) ((b:Int))))+ ((eS kind)))=((i:Int)))),xB (false),xI (kind),xB (decide ((kind)=((1:Int)))),xB (false),xU,xU,xU,xU,xU,xU,xB (false),xB (false),xB (false),xI (kind),xB (decide ((kind)=((2:Int)))),xB (false),xU,xU,xU,xU,xU,xU,xU,xU,xU,xU,xU,xU,xU,xU,xB (false),xB (false)] O (fE O) ?_ ?_
    ·exact⟨fun _ _ hb _ _=>aX (kF.below hb) O Az,fun _ _ hb _ _=>bn (kF.below hb) O Az,Dr O,fun _ _ hb _ _=>aM (ko.aq hb).2 O Az,fun _ _ hb _ _=>bk (ko.aq hb) O Az,fun _ _ hb _ _=>aX (kX.below hb) O Az,fun _ _ hb _ _=>bn (kX.below hb) O Az,Dr O,fun _ _ hb _ _=>aM (kJ.aq hb).2 O Az,fun _ _ hb _ _=>bk (kJ.aq hb) O Az,fun _ _ _ _ _=>aK O Az,Dr O,fun _ _ _ _ _=>aK O Az,Dr O,Dr O,fun _ _ _ _ _=>Dk O (by exact aO Value.bool (dE (fun h=>h q1))),Dr O,Dr O,fun _ _ _ _ _=>Dk O (by exact aO Value.bool (dE (by omega))),Dr O,Dr O,Dr O,Dr O,Dr O,Dr O,Dr O,Dr O,fun _ _ _ _ _=>Dk O (by exact aO Value.bool (O)),Dr O,Dr O,fun _ _ _ _ _=>Dk O (by exact aO Value.bool (dE (by omega))),Dr O,Dr O,Dr O,Dr O,Dr O,Dr O,Dr O,Dr O,Dr O,Dr O,Dr O,Dr O,Dr O,Dr O,Dr O,Dr O,av⟩
    intro u gM qc _;have hS:=hS.aq qc;refine fR O (Cd.gh O ?_);have o6:=o6 ⟨by rw [jw];exact q1,fun h=>by have:=hex.1 h;omega⟩;have nP:(gC (N1+2) (N2+2) (gi X1) (gi X2) kind i a (b+1)).length=(gC (N1+2) (N2+2) (gi X1) (gi X2) kind i a b).length+1:=by rw [o6,cS];rfl
    refine aE O (eH hS O O O ?_);intro MF oI jh;refine fN 1 jh O (jh.bI 0 O) O O O ?_;intro AZ cZ qD ib;have ib:=ib.tail;refine ar O (eH ib O O O ?_);intro MG tD jN;refine fN 2 jN O (jN.bI 0 O) O O O ?_;intro AQ cQ pg fX;have fX:=fX.tail;refine ar O (aX (fX.rd 2 O) O (ajn (j:=1) (fX.rd 2 O) (by exact aO Value.pointer O) O O O O (ar O (eH fX O O O ?_))));intro MH wK jO;refine fN 4 jO O (jO.bI 0 O) O O O fun AW cW E6 oo=>aX (oo.rd 3 O) O (kf 3 (j:=1) oo O O O O O ?_);intro yn p8;have p8:=p8.tail;refine ar O (aK O (aU O (tQ ?_)));refine⟨(b+1,(AZ,cZ),(AQ,cQ),(AW,cW)),by show N2+2 - (b+1)<N2+2 - b;omega,⟨O,O,O,O,O,O,O,aO (fun m:Nat=>Value.slice AZ m cZ) nP.symm,aO (fun m:Nat=>Value.slice AQ m cQ) nP.symm,O,O,O,av⟩,by show b+1<=N2+2;omega,?_⟩;show St w yn (qx AZ AQ iM AW cZ cQ cW (gC _ _ _ _ kind i a (b+1)) _ k KK);unfold qx;rw [nP,o6,jb,jb,jb];rw [show [((a:Int),(b:Int))].map (cg (gi X1) (gi X2) kind)=[(i:Int)] from aO (fun x=> [x]) (jw.trans q1)];exact p8
   have qd:b=N2+2:=by omega
   subst qd;rw [<-afx]at hS|-;refine bw O (bz (dh O (aK O (aU O (tQ ?_)))));exact⟨(a+1,(bR,dT),(cL,gq),(AR,cR)),by show N1+2 - (a+1)<N1+2 - a;omega,(ajs O),by show a+1<=N1+2;omega,hS⟩
  have s8:a=N1+2:=by omega
  subst s8;rw [afw]at hS|-;have G0:=Ta (m1:=N1+2) (m2:=N2+2) (rk1:=gi X1) (rk2:=gi X2) (kind:=kind) (show i+1<=k by omega);have ow:gC (N1+2) (N2+2) (gi X1) (gi X2) kind (i+1) 0 0=b5 (N1+2) (N2+2) (gi X1) (gi X2) kind (i+1):=HM;rw [ow];refine bw O (bz (dh O (bc O O (aI O ?_))));refine aR _ O (fun h4=>?_) (fun h4=>?_)
  ·have nI:=hS;rw [qV]at nI;refine aE O (z8 (by exact inferInstance) (by exact inferInstance) (by exact inferInstance) O (cG 3 4 nI O O O O O O O ?_));intro gM iV;refine bM O (gx (fV ?_));refine iL O (iV.rd 4 O) O ?_;exact .inl ⟨.inr (by rw [fk];omega),O,iV.none⟩
  refine aE O (aK O (aU O (tQ ?_)));rw [<-ow];exact⟨(i+1,(bR,dT),(cL,gq),(AR,cR)),by show k - (i+1)<k - i;omega,(ajs O),by show i+1<=k;omega,by show(b5 _ _ _ _ kind (i+1)).length<=500;omega,hS⟩
 obtain rfl:i=k:=by omega
 rw [HM]at hS|-;have jv:=fun(c:Int×Int)=> (sF (m1:=N1+2) (m2:=N2+2) (rk1:=gi X1) (rk2:=gi X2) (kind:=kind) (k:=i) (c:=c))
 have bH:=hS.nil 24;generalize b5 (N1+2) (N2+2) (gi X1) (gi X2) kind i=PL at*;clear hS;have hPL:PL.length<=500:=hlen;have bW:∀e:Nat,e<PL.length->(0<=(gp PL e).1/\(gp PL e).1< (N1:Int)+2)/\(0<=(gp PL e).2/\(gp PL e).2< (N2:Int)+2):=fun e he=>by
  have hm:gp PL e∈PL:=by rw [s5 he];exact dB _
  obtain⟨j,hj,hE⟩:=(jv _).1 hm;have q1:=hE.1;have q2:=hE.2.1;refine⟨⟨q1.1,?_⟩,q2.1,?_⟩
  ·have:=q1.2;omega
  have:=q2.2;omega
 have Qr:∀e:Nat,e<PL.length->gi (PL.map Prod.fst) e=(gp PL e).1/\gi (PL.map Prod.snd) e=(gp PL e).2:=fun e he=>by
  rw [bO (by rw [fk];exact he),bO (by rw [fk];exact he),List.getElem_map,List.getElem_map,s5 he];exact⟨O,O⟩
 have BI:=fun i=>S8 N1 N2 B1 B2 PL i
 have o0:=fun i=>Ct N1 N2 B1 B2 PL i
 have ub:=fun i (h:i<=PL.length)=>Nq N1 N2 B1 B2 PL h
 have DQ:=fun i e=>Ns N1 N2 B1 B2 PL i e
 have qd:=fun i e=>Nr N1 N2 B1 B2 PL i e
 have eE:∀e:Int,0<=e->e< (N1:Int)->∀d∈gl B1 e,0<=d/\d< (N1:Int):=fun e h0 h1=> (oX.bd e h0 h1).2
 have eF:∀e:Int,0<=e->e< (N2:Int)->∀d∈gl B2 e,0<=d/\d< (N2:Int):=fun e h0 h1=> (oY.bd e h0 h1).2
 have nP:=fun(b:Int) h=>M8 (B:=B1) (fun e h0 h1=> (oX.bd e h0 h1).1) dd (b:=b) h
 have th:=fun(b:Int) h=>M8 (B:=B2) (fun e h0 h1=> (oY.bd e h0 h1).1) dS (b:=b) h
 rw [qV]at bH;have bH:St w eL (EP bR cL iM AR none dT gq cR 0 0 PL (cg (gi X1) (gi X2) kind) i A6 A4 A3 [ak n2,.slice Z8 (N2+2) cz,.slice W8 (N2+2) cw] [ak n1,.slice X8 (N1+2) cx,.slice Y8 (N1+2) cy] [] (oD N1 N2 B1 B2 PL 0)):=bH.perm (List.perm_append_singleton _ _).symm;clear pD sk jv;refine bw O (bz (pS O ?_));refine Cd.loop (α:=Nat×(aj×Nat)×List aN) (fun z=> [(3,.pointer A3),(4,.pointer A4),(6,.pointer A6),(10,.slice bR PL.length dT),(11,.slice cL PL.length gq),(12,.pointer iM),(16,ak (z.1:Int))]) (fun z w'=>z.1<=PL.length/\z.2.2.length=z.1/\St w w' (EP bR cL iM AR z.2.1.1 dT gq cR z.2.1.2 z.1 PL (cg (gi X1) (gi X2) kind) i A6 A4 A3 [ak n2,.slice Z8 (N2+2) cz,.slice W8 (N2+2) cw] [ak n1,.slice X8 (N1+2) cx,.slice Y8 (N1+2) cy] z.2.2 (oD N1 N2 B1 B2 PL z.1))) (fun z=>PL.length - z.1) (0,(none,0),[]) (ajs O) ⟨a7 _,O,bH⟩ ?_;clear bH;rintro⟨e,⟨AD,cD⟩,df⟩ e0 fI ⟨he,lE,hS⟩;dsimp only at he lE hS|-;refine a8 O (bc O O (aI O ?_));refine aR _ O (fun h2=>?_) (fun h2=>?_)
 ·have Qj:e<PL.length:=by omega
  have hE:=bW e Qj;have Gk:=Qr e Qj;refine aE O (ny hS O ?_);intro Ut fZ dM;refine aI O (Cd.loop (α:=Nat×aj×Nat) (fun z=> [(3,.pointer A3),(4,.pointer A4),(6,.pointer A6),(10,.slice bR PL.length dT),(11,.slice cL PL.length gq),(12,.pointer iM),(16,ak e),(17,.slice z.2.1 (kC N1 N2 B1 B2 PL e z.1).length z.2.2),(18,ak (z.1:Int))]) (fun z w'=>z.1<=e/\St w w' (az 2 z.2.1 (kC N1 N2 B1 B2 PL e z.1).length z.2.2 (kC N1 N2 B1 B2 PL e z.1)::EP bR cL iM AR AD dT gq cR cD e PL (cg (gi X1) (gi X2) kind) i A6 A4 A3 [ak n2,.slice Z8 (N2+2) cz,.slice W8 (N2+2) cw] [ak n1,.slice X8 (N1+2) cx,.slice Y8 (N1+2) cy] df (oD N1 N2 B1 B2 PL e))) (fun z=>e - z.1) (0,Ut,0) (ajs O) ⟨a7 _,dM⟩ ?_);clear dM hS;rintro⟨q,Ab,cb⟩ e1 gM ⟨hq,hS⟩;dsimp only at hq hS|-;have ZO:=qd e q;refine bL O (aR _ O (fun h3=>?_) (fun h3=>?_))
  ·have xQ:q<e:=by omega
   have hQ:=bW q (by omega);have PM:=Qr q (by omega);have ud:=DQ e q;have kF:=hS.rd 7 O;have kX:=hS.rd 6 O;have iX:cn gM bR PL.length (PL.map Prod.fst):=hS.bI 1 O;have ou:cn gM cL PL.length (PL.map Prod.snd):=hS.bI 2 O;have ng:=(oX.aq hS.below).bl;have pF:=(oY.aq hS.below).bl;have kj:0<=gi (PL.map Prod.fst) e/\gi (PL.map Prod.fst) e< ((N1+2:Nat):Int):=by rw [Gk.1];omega
   have qh:0<=gi (PL.map Prod.snd) e/\gi (PL.map Prod.snd) e< ((N2+2:Nat):Int):=by rw [Gk.2];omega
   have QR:(gl (kA N1 B1) (gi (PL.map Prod.fst) e)).length<=1000000:=by have:=nP _ (show 0<=gi (PL.map Prod.fst) e/\gi (PL.map Prod.fst) e< (N1:Int)+2 by omega);omega
   have aaL:(gl (kA N2 B2) (gi (PL.map Prod.snd) e)).length<=1000000:=by have:=th _ (show 0<=gi (PL.map Prod.snd) e/\gi (PL.map Prod.snd) e< (N2:Int)+2 by omega);omega
   have vj:(gi (PL.map Prod.fst) q=gi (PL.map Prod.fst) e\/gi (PL.map Prod.fst) q∈gl (kA N1 B1) (gi (PL.map Prod.fst) e))↔dC N1 B1 (gp PL q).1 (gp PL e).1:=by rw [PM.1,Gk.1];exact Nc hQ.1 hE.1 eE
   have jZ:(gi (PL.map Prod.snd) q=gi (PL.map Prod.snd) e\/gi (PL.map Prod.snd) q∈gl (kA N2 B2) (gi (PL.map Prod.snd) e))↔dC N2 B2 (gp PL q).2 (gp PL e).2:=by rw [PM.2,Gk.2];exact Nc hQ.2 hE.2 eF
   have mu:¬(dC N1 B1 (gp PL q).1 (gp PL e).1/\dC N2 B2 (gp PL q).2 (gp PL e).2)->kC N1 N2 B1 B2 PL e (q+1)=kC N1 N2 B1 B2 PL e q:=fun h=>by rw [ud,aw h]
   by_cases h5:gi (PL.map Prod.fst) q=gi (PL.map Prod.fst) e\/gi (PL.map Prod.fst) q∈gl (kA N1 B1) (gi (PL.map Prod.fst) e)
   ·refine dA O ?_;refine eY [.ex (.agg #[ak (n1),.slice (X8) (N1+2) (cx),.slice (Y8) (N1+2) (cy)]),xS (bR) (PL.length) (dT),xI ((q:Int)),xP (aJ (bR) ((q:Int)).toNat),xI (gi (PL.map Prod.fst) ((q:Int))),xS (bR) (PL.length) (dT),xI ((e:Int)),xP (aJ (bR) ((e:Int)).toNat),xI (gi (PL.map Prod.fst) ((e:Int))),xB (true),xB (true),.ex (.agg #[ak (n2),.slice (Z8) (N2+2) (cz),.slice (W8) (N2+2) (cw)]),xS (cL) (PL.length) (gq),xI ((q:Int)),xP (aJ (cL) ((q:Int)).toNat),xI (gi (PL.map Prod.snd) ((q:Int))),xS (cL) (PL.length) (gq),xI ((e:Int)),xP (aJ (cL) ((e:Int)).toNat),xI (gi (PL.map Prod.snd) ((e:Int))),xB (decide (gi (PL.map Prod.snd) q=gi (PL.map Prod.snd) e\/gi (PL.map Prod.snd) q∈gl (kA N2 B2) (gi (PL.map Prod.snd) e))),xB (decide (gi (PL.map Prod.snd) q=gi (PL.map Prod.snd) e\/gi (PL.map Prod.snd) q∈gl (kA N2 B2) (gi (PL.map Prod.snd) e)))] O (fE O) ?_ ?_
    ·refine⟨fun _ _ hb _ _=>ao.b7 2 (kF.below hb) O O O Az,Dr O,Dr O,fun _ _ hb _ _=>aM (iX.aq hb).2 O Az,fun _ _ hb _ _=>bk (iX.aq hb) O Az,Dr O,Dr O,fun _ _ hb _ _=>aM (iX.aq hb).2 O Az,fun _ _ hb _ _=>bk (iX.aq hb) O Az,?_,Dr O,fun _ _ hb _ _=>ax O (ao.b7 2 (kX.below hb) O O O Az),Dr O,Dr O,fun _ _ hb _ _=>ax O (aM (ou.aq hb).2 O Az),fun _ _ hb _ _=>ax O (bk (ou.aq hb) O Az),Dr O,Dr O,fun _ _ hb _ _=>ax O (aM (ou.aq hb).2 O Az),fun _ _ hb _ _=>ax O (bk (ou.aq hb) O Az),?_,Dr O,av⟩
     ·intro e1 w1 hb hp a6;refine aL (Lw n1 X8 (N1+2) cx Y8 (N1+2) cy uG (kA N1 B1) (gi (PL.map Prod.fst) q) (gi (PL.map Prod.fst) e) _ (ng.aq hb) (Ar _ _) kj QR) O ?_;rintro _ w2 ⟨rfl,au⟩;refine ao.n ?_;exact gz.dn au.below (by exact aO Value.bool (eM h5))
     intro e1 w1 hb hp a6;refine ax O (aL (Lw n2 Z8 (N2+2) cz W8 (N2+2) cw vu (kA N2 B2) (gi (PL.map Prod.snd) q) (gi (PL.map Prod.snd) e) _ (pF.aq hb) (Ar _ _) qh aaL) O ?_);rintro _ w2 ⟨rfl,au⟩;refine ao.n ?_;exact gz.dn au.below (by exact O)
    intro u oI Kj _;have hS:=hS.aq Kj;refine fR O (aR _ O (fun h6=>?_) (fun h6=>?_))
    ·rw [ay ⟨vj.1 h5,jZ.1 h6⟩]at ud;refine aE O (eH hS O O O ?_);intro A9 qD ib;refine fN 1 ib O (ib.bI 0 O) O O O ?_;intro AZ cZ tD jN;have jN:=jN.tail;refine ar O (aK O (aU O (tQ ?_)));refine⟨(q+1,AZ,cZ),by show e - (q+1)<e - q;omega,⟨O,O,O,O,O,O,O,?_,O,av⟩,by show q+1<=e;omega,?_⟩
     ·show Value.slice _ _ _=Value.slice _ _ _;rw [ud,cS];rfl
     show St w tD (az _ AZ (kC N1 N2 B1 B2 PL e (q+1)).length cZ _::_);rw [ud,cS];exact jN
    have fu:=mu (fun h=>h6 (jZ.2 h.2));refine aE O (aK O (aU O (tQ ?_)));refine⟨(q+1,Ab,cb),by show e - (q+1)<e - q;omega,⟨O,O,O,O,O,O,O,?_,O,av⟩,by show q+1<=e;omega,?_⟩
    ·show Value.slice _ _ _=Value.slice _ _ _;rw [fu]
    show St w oI (az _ Ab (kC N1 N2 B1 B2 PL e (q+1)).length cb _::_);rw [fu];exact hS
   refine dA O (eY [.ex (.agg #[ak (n1),.slice (X8) (N1+2) (cx),.slice (Y8) (N1+2) (cy)]),xS (bR) (PL.length) (dT),xI ((q:Int)),xP (aJ (bR) ((q:Int)).toNat),xI (gi (PL.map Prod.fst) ((q:Int))),xS (bR) (PL.length) (dT),xI ((e:Int)),xP (aJ (bR) ((e:Int)).toNat),xI (gi (PL.map Prod.fst) ((e:Int))),xB (false),xB (false),xU,xU,xU,xU,xU,xU,xU,xU,xU,xU,xB (false)] O (fE O) ?_ ?_)
   ·refine⟨fun _ _ hb _ _=>ao.b7 2 (kF.below hb) O O O Az,Dr O,Dr O,fun _ _ hb _ _=>aM (iX.aq hb).2 O Az,fun _ _ hb _ _=>bk (iX.aq hb) O Az,Dr O,Dr O,fun _ _ hb _ _=>aM (iX.aq hb).2 O Az,fun _ _ hb _ _=>bk (iX.aq hb) O Az,?_,Dr O,Dr O,Dr O,Dr O,Dr O,Dr O,Dr O,Dr O,Dr O,Dr O,Dr O,Dr O,av⟩;intro e1 w1 hb hp a6;refine aL (Lw n1 X8 (N1+2) cx Y8 (N1+2) cy uG (kA N1 B1) (gi (PL.map Prod.fst) q) (gi (PL.map Prod.fst) e) _ (ng.aq hb) (Ar _ _) kj QR) O ?_;rintro _ w2 ⟨rfl,au⟩;refine ao.n ?_;exact gz.dn au.below (by exact aO Value.bool (dE h5))
   intro u oI Kj _;have hS:=hS.aq Kj;refine fR O (Cd.gh O ?_);have fu:=mu (fun h=>h5 (vj.2 h.1));refine aE O (aK O (aU O (tQ ?_)));refine⟨(q+1,Ab,cb),by show e - (q+1)<e - q;omega,⟨O,O,O,O,O,O,O,?_,O,av⟩,by show q+1<=e;omega,?_⟩
   ·show Value.slice _ _ _=Value.slice _ _ _;rw [fu]
   show St w oI (az _ Ab (kC N1 N2 B1 B2 PL e (q+1)).length cb _::_);rw [fu];exact hS
  obtain rfl:q=e:=by omega
  have ZI:=ub q he;have ZR:=BI q;rw [ZI]at hS|-;refine bw O (bz (dh O ?_));refine aX (hS.rd 3 O) O (ajn (j:=2) (hS.rd 3 O) (by exact aO Value.pointer O) O O O O (ar O (kO hS O O O ?_)));intro A9 tD jN;refine mJ 9 jN O (jN.gQ 0 O) O O O (by omega) (by omega) O fun AZ cZ pg fX=>aX (fX.rd 4 O) O (kf 4 (j:=2) fX O O O O O ?_);intro wK jO;have jO:=jO.tail;have jO:=jO.perm (aeI _ _ _ _ _ _ _ _ _ _);refine ar O (aK O (aU O (tQ ?_)));refine⟨(q+1,(AZ,cZ),df++ [⟨Ab,(sE (dC N1 B1) (dC N2 B2) PL q).length,cb⟩]),by show PL.length - (q+1)<PL.length - q;omega,(ajs O),by show q+1<=PL.length;omega,by show(df++ [_]).length=q+1;rw [cS,lE];rfl,?_⟩;show St w wK (EP bR cL iM AR AZ dT gq cR cZ (q+1) PL (cg (gi X1) (gi X2) kind) i A6 A4 A3 [ak n2,.slice Z8 (N2+2) cz,.slice W8 (N2+2) cw] [ak n1,.slice X8 (N1+2) cx,.slice Y8 (N1+2) cy] (df++ [_]) (oD N1 N2 B1 B2 PL (q+1)));rw [ZR];unfold EP aT;rw [qy (by rw [lE,Ct])];exact jO
 obtain rfl:e=PL.length:=by omega
 refine bw O (bz (dh O ?_));refine ao.b7 2 (hS.rd 2 O) O O O (cG 3 4 hS O O O O O O O ?_);intro fZ dM;refine bM O (iL O (dM.rd 4 O) O ?_);have lS:(PL.map (cg (gi X1) (gi X2) kind)).length=PL.length:=fk _;refine .inr ⟨⟨KE,by omega⟩,AR,cR,AD,cD,df,by rw [lS];rfl,by omega,by rw [lS];exact Ct N1 N2 B1 B2 PL PL.length,?_⟩;rw [lS];exact dM.sub (show List.Sublist (az 2 AR PL.length cR (PL.map (cg (gi X1) (gi X2) kind))::(aT 24 2 AD PL.length cD df (oD N1 N2 B1 B2 PL PL.length)++ [])) _ from((((((jV _).cons _).cons _).cons _).cons_cons _).cons _).cons _ |>.cons _)
def Ig(n:Int)(R:ai)(B:ah)(b:Bool)(w:aa)(v:ad)(w':aa):Prop:=
 ∃AR c AD d rs,v= .tuple #[.agg #[ak n,.slice AR R.length c,.slice AD B.length d],.bool b]/\rs.length=B.length/\St w w' (az 2 AR R.length c R::(aT 24 2 AD B.length d rs B++ []))
theorem Ih.b{k:Nat}{RL:ai}{v:ad}(h:Ih k RL BL w v w'):Ig (if k<=5/\RL.length<=500 then(k:Int)else 0) (if k<=5/\RL.length<=500 then RL else []) (if k<=5/\RL.length<=500 then BL else []) (decide (k<=5/\RL.length<=500)) w v w':=by
 rcases h with⟨hb,rfl,hS⟩ | ⟨hb,AR,c,AD,d,rs,rfl,h1,h2,hS⟩
 ·have hn:¬(k<=5/\RL.length<=500):=by omega
  rw [aw hn,aw hn,aw hn,dE hn];exact⟨none,0,none,0,[],O,O,(hS.nil _).nil _⟩
 rw [ay hb,ay hb,ay hb,eM hb];exact⟨AR,c,AD,d,rs,by rw [h2],by rw [h2];exact h1,by rw [h2];exact hS⟩
theorem Oj{X Y:aj}{cx cy:Nat}{ys:List aN}(hM:aZ M)(hb:aF M M.length<=500)(h:St w w' (az 2 X (aF M M.length+2) cx (fD M.length (bo M M.length))::(aT 24 2 Y (aF M M.length+2) cy ys (kA (aF M M.length) (bD M))++ []))):
 uJ w' X (fD M.length (bo M M.length)) (aF M M.length) Y ys (bD M):=by
 have hP:=qv hM hb;have hl:=jg M M.length;refine⟨by rw [Oo,hl],hb,h.bI 0 O,?_,fun e h0 h1=>?_⟩
 ·exact(h.sub (show(aT 24 2 Y (aF M M.length+2) cy ys (kA (aF M M.length) (bD M))).Sublist _ from(qI _ _).cons _)).kb (Ar _ _)
 have h2:=hP.at_ (e:=e) h0 (by rw [hl];exact h1);refine⟨?_,fun d hd=>?_⟩
 ·have:=pL (N:=(bo M M.length).length) h2.1.nodup fun x hx=>by have:=(h2.2.1 x hx).1;omega
  omega
 have:=(h2.2.1 d hd).1;omega
theorem S2{AR AD:aj}{a c b d:Nat}{R:ai}{rs:List aN}:∀k∈az 2 AR a c R::(aT 24 2 AD b d rs B++ []),eG k.vs=false/\(k.e=24\/k.e=2):=fun k h=>by
 rcases jq.1 h with rfl | h
 ·exact⟨sA _,.inr O⟩
 exact adR k h
theorem St.adT{Ab A D AR AD:aj}{n:Int}{q p a c b d e f:Nat}{R:ai}{rs:List aN}(h:St w0 w [bE Ab n A q p D e f])(h':St w0 w (az 2 AR a c R::(aT 24 2 AD b d rs B++ []))):St w0 w (bE Ab n A q p D e f::(az 2 AR a c R::(aT 24 2 AD b d rs B++ []))):=
 h.merge h' (fun k hk=>by obtain rfl:=gk.1 hk;rfl) (fun k hk=> (S2 k hk).1) (fun k hk k' eN=>by
  obtain rfl:=gk.1 hk;rcases(S2 k' eN).2 with e | e
  ·rw [e];exact(by decide:¬(27=24))
  rw [e];exact(by decide:¬(27=2)))
theorem afa{kind:Int}(h:oE M K kind=0):(gK M K kind<=5/\(iQ M K kind).length<=500->ja M K kind=0)/\(¬(gK M K kind<=5/\(iQ M K kind).length<=500)->ja M K kind=3):=by
 unfold ja;rw [ay h];exact⟨fun h=>aw (by omega),fun h=>ay (by omega)⟩
def gR(L:ah)(K:Int)(w:aa)(v:ad)(w':aa):Prop:=∃A c,∃rs:List aN,v= .tuple #[.agg #[.slice A L.length c],ak K]/\rs.length=L.length/\St w w' (aT 24 2 A L.length c rs L)
theorem gR.none{ks:List Ck}{K:Int}(h:St w w' ks):gR [] K w (.tuple #[.agg #[.slice Option.none 0 0],ak K]) w':=⟨Option.none,0,[],rfl,rfl,h.none.nil _⟩
open Classical in
noncomputable def wD(n:Nat)(fl:ah)(i a b:Nat):ai:=((List.range b).filter fun b=>decide (lL n fl i a b/\b≠a)).map fun b:Nat=> (b:Int)
noncomputable def lF(n:Nat)(fl:ah)(i a b:Nat):ai:=(List.range a).flatMap (yc n fl i)++wD n fl i a b
section
variable {n:Nat} {fl:ah} {i a b:Nat}
theorem SB:wD n fl i a fl.length=yc n fl i a:=rfl
theorem aed:lF n fl i (a+1) 0=lF n fl i a fl.length:=by
 unfold lF;rw [lN,List.flatMap_append,SB];simp [wD]
theorem XC{p:Nat->Bool}{b:Nat}:((List.range (b+1)).filter p)=(List.range b).filter p++ (if p b=true then [b]else []):=by
 rw [lN,sP]
 by_cases h:p b=true
 ·rw [ay h,yw h];rfl
 rw [aw h,vB h];rfl
open Classical in
theorem SD:wD n fl i a (b+1)=wD n fl i a b++ (if lL n fl i a b/\b≠a then [(b:Int)]else []):=by
 unfold wD;rw [XC,jb]
 by_cases h:lL n fl i a b/\b≠a
 ·rw [ay h,ay (eM h)];rfl
 rw [aw h,aw (fun h'=>h (uy h'))];rfl
theorem aec(h:lL n fl i a b/\b≠a):lF n fl i a (b+1)=lF n fl i a b++ [(b:Int)]:=by
 unfold lF;rw [SD,ay h,jy]
theorem aee(h:¬(lL n fl i a b/\b≠a)):lF n fl i a (b+1)=lF n fl i a b:=by
 unfold lF;rw [SD,aw h,fM]
theorem aeb:lF n fl i fl.length 0=tv n fl i:=by simp [lF,wD,tv]
theorem SC:(wD n fl i a b).length<=b:=by
 unfold wD;rw [fk];refine nv (rM _ _) ?_;rw [pU];exact bj _
theorem Su(hb:b<=fl.length):(lF n fl i a b).length<=a*fl.length+b:=by
 have key:∀a:Nat,((List.range a).flatMap (yc n fl i)).length<=a*fl.length:=by
  intro a
  induction a with
  | zero=>simp
  | succ a ih=>
   rw [lN,List.flatMap_append,cS,Nat.succ_mul];have h:=SC (n:=n) (fl:=fl) (i:=i) (a:=a) (b:=fl.length);rw [SB]at h;simp only [List.flatMap_cons,List.flatMap_nil,fM];omega
 unfold lF;have h1:=key a;have h2:=SC (n:=n) (fl:=fl) (i:=i) (a:=a) (b:=b);rw [cS];omega
theorem Xd(hn:fl.Nodup)(hl:∀x∈fl,x.length=n)(hi:i<n)(ha:a<fl.length)(hb:b<fl.length):(a≠b/\rY (gl fl a) (gl fl b) n=1/\gi (gl fl a) i≠gi (gl fl b) i)↔lL n fl i a b/\b≠a:=by
 have key:∀p:Nat->Bool,(∀c,c<n->(p c=true↔c=i))->((List.range n).filter p)=[i]:=fun p hp=>by
  refine List.Perm.eq_singleton ((rN (List.nodup_range.filter _) (by simp)).2 fun c=>?_);rw [fT,fU,gk];exact⟨fun h=> (hp c h.1).1 h.2,fun h=>by subst h;exact⟨hi,(hp c hi).2 rfl⟩⟩
 constructor
 ·rintro⟨bt,hd,hx⟩;refine⟨⟨ha,hb,fun k hk e6=>ob fun h=>?_⟩,fun e=>bt e.symm⟩;unfold rY at hd;obtain⟨x,gI⟩:=List.length_eq_one_iff.1 hd;have m1:i∈(List.range n).filter fun k:Nat=>decide (gi (gl fl a) k≠gi (gl fl b) k):=fT.2 ⟨fU.2 hi,eM hx⟩
  have m2:k∈(List.range n).filter fun k:Nat=>decide (gi (gl fl a) k≠gi (gl fl b) k):=fT.2 ⟨fU.2 hk,eM h⟩
  rw [gI,gk]at m1 m2;exact e6 (m2.trans m1.symm)
 rintro⟨hA,bt⟩;have hx:gi (gl fl a) i≠gi (gl fl b) i:=fun e=>bt (OK hn hl hb ha fun k hk=>by
  by_cases c:k=i
  ·subst c;exact e.symm
  exact(hA.2.2 k hk c).symm)
 refine⟨fun e=>bt e.symm,?_,hx⟩;unfold rY;rw [key _ fun c hc=>?_]
 ·rfl
 rw [kU];constructor
 ·intro h;exact ob fun h'=>h (hA.2.2 c hc h')
 rintro rfl;exact hx
end
noncomputable def nk(n:Nat)(fl:ah)(i:Nat):ah:=(List.range i).map (tv n fl)
theorem Sn(n:Nat)(fl:ah)(i:Nat):nk n fl (i+1)=nk n fl i++ [tv n fl i]:=by
 unfold nk;rw [lN,jb];rfl
theorem Sm(n:Nat)(fl:ah)(i:Nat):(nk n fl i).length=i:=by simp [nk]
abbrev dY(A:aj)(B:aj)(i c:Nat):Ck:=Bx 37 1 A [.slice B i c]
theorem aeL{α:Type}(b m q1 q2 q3:α)(X:List α):(b::q1::q2::q3::m::(X++ [])).Perm (q1::q2::q3::m::((X++ [b])++ [])):=by
 classical
 refine kN.2 fun z=>?_
 simp only [mb,kL,mE];omega
theorem acY(n:Nat)(A D F:aj)(a1 cA d1 cD N cF:Nat)(fv:List aN)(fl:ah)(w:aa)(hF:br w F N fv fl)(hl:∀x∈fl,x.length=n)(hn:fl.Nodup)(hN:N<=400)(QS:n<=1000):
 aG prog 210 [.agg #[ak n,.slice A a1 cA,.slice D d1 cD],.slice F N cF] w (fun v w'=>∃A' c' rs',v= .agg #[.slice A' n c']/\rs'.length=n/\St w w' (aT 24 2 A' n c' rs' (bT n fl)++ [])):=by
 have iY:fl.length=N:=hF.len;refine bA func210 O ntmps210 O (rB O O) (a8 O (nw (St.refl w) O O ?_));intro A2 w1 aA;refine gf aA O fun A4 w2 aB=>ar O (uO (by exact inferInstance) O (gf aB O ?_));intro A5 w3 aH;refine cG 1 0 aH O O O O O O O ?_;intro w4 aV;have aV:St w w4 (dY A5 none 0 0::dY A4 none 0 0::Bx 27 3 A2 [ak n,.slice A a1 cA,.slice D d1 cD]::(aT 24 2 none 0 0 [] (nk n fl 0)++ [])):=(aV.nil 24).perm (List.perm_append_singleton _ _).symm;clear aH aB aA;refine aI O (Cd.loop (α:=Nat×(aj×Nat)×List aN) (fun z=> [(1,.slice F N cF),(2,.pointer A2),(4,.pointer A4),(5,.pointer A5),(6,ak (z.1:Int))]) (fun z w'=>z.1<=n/\z.2.2.length=z.1/\St w w' (dY A5 z.2.1.1 z.1 z.2.1.2::dY A4 none 0 0::Bx 27 3 A2 [ak n,.slice A a1 cA,.slice D d1 cD]::(aT 24 2 z.2.1.1 z.1 z.2.1.2 z.2.2 (nk n fl z.1)++ []))) (fun z=>n - z.1) (0,(none,0),[]) (ajs O) ⟨a7 _,O,aV⟩ ?_);clear aV;rintro⟨i,⟨Am,cm⟩,jR⟩ e w5 ⟨hi,o8,hS⟩;dsimp only at hi o8 hS|-;refine a8 O (aX (hS.rd 2 O) O (iG (j:=0) (hS.rd 2 O) (by exact aO Value.pointer O) O O O O (aI O ?_)));refine aR _ O (fun h1=>?_) (fun h1=>?_)
 ·have bW:i<n:=by omega
  refine aE O (ny hS O ?_);intro A7 w6 ba;refine aI O (Cd.loop (α:=Nat×aj×Nat) (fun z=> [(1,.slice F N cF),(2,.pointer A2),(4,.pointer A4),(5,.pointer A5),(6,ak i),(7,.slice z.2.1 (lF n fl i z.1 0).length z.2.2),(8,ak (z.1:Int))]) (fun z w'=>z.1<=N/\St w w' (az 2 z.2.1 (lF n fl i z.1 0).length z.2.2 (lF n fl i z.1 0)::dY A5 Am i cm::dY A4 none 0 0::Bx 27 3 A2 [ak n,.slice A a1 cA,.slice D d1 cD]::(aT 24 2 Am i cm jR (nk n fl i)++ []))) (fun z=>N - z.1) (0,A7,0) (ajs O) ⟨a7 _,ba⟩ ?_);clear ba hS;rintro⟨a,Ab,cb⟩ e1 w7 ⟨ha,hS⟩;dsimp only at ha hS|-;refine a8 O (bc O O (aI O ?_));refine aR _ O (fun h2=>?_) (fun h2=>?_)
  ·have BC:a<N:=by omega
   refine dA O (Cd.loop (α:=Nat×aj×Nat) (fun z=> [(1,.slice F N cF),(2,.pointer A2),(4,.pointer A4),(5,.pointer A5),(6,ak i),(7,.slice z.2.1 (lF n fl i a z.1).length z.2.2),(8,ak a),(9,ak (z.1:Int))]) (fun z w'=>z.1<=N/\St w w' (az 2 z.2.1 (lF n fl i a z.1).length z.2.2 (lF n fl i a z.1)::dY A5 Am i cm::dY A4 none 0 0::Bx 27 3 A2 [ak n,.slice A a1 cA,.slice D d1 cD]::(aT 24 2 Am i cm jR (nk n fl i)++ []))) (fun z=>N - z.1) (0,Ab,cb) (ajs O) ⟨a7 _,hS⟩ ?_);clear hS;rintro⟨b,Ab,cb⟩ e2 w8 ⟨hb,hS⟩;dsimp only at hb hS|-;have lS:=Su (n:=n) (i:=i) (a:=a) (b:=b) (show b<=fl.length by omega);have Ca:a*fl.length<=400*400:=Nat.mul_le_mul (by omega) (by omega);refine a8 O (bc O O (aI O ?_));refine aR _ O (fun h3=>?_) (fun h3=>?_)
   ·have Gy:b<N:=by omega
    have xp:=hS.bY hF;have sn:=xp.at_ (i:=(a:Int)) (by omega) (by omega);have o7:=xp.at_ (i:=(b:Int)) (by omega) (by omega);have D7:(gl fl a).length=n:=hl _ (by rw [bP (by omega)];exact dB _);have GX:(gl fl b).length=n:=hl _ (by rw [bP (by omega)];exact dB _);have G1:(rg fv a).n=n:=by rw [<-sn.1];exact D7
    have G2:(rg fv b).n=n:=by rw [<-o7.1];exact GX
    have Z2:=Xd hn hl bW (show a<fl.length by omega) (show b<fl.length by omega);have tm:=aec (n:=n) (fl:=fl) (i:=i) (a:=a) (b:=b);have sr:=aee (n:=n) (fl:=fl) (i:=i) (a:=a) (b:=b);rw [<-Z2]at tm sr;have mU:=xp.top
    by_cases q1:a=b
    ·refine dA O (eY [xI ((a:Int)),xI ((b:Int)),xB (decide (¬((a:Int))=((b:Int)))),xB (false),xU,xU,xU,xU,xU,xU,xU,xU,xU,xU,xB (false),xB (false),xU,xU,xU,xU,xU,xU,xU,xU,xU,xU,xU,xU,xU,xU,xU,xB (false)] O (fE O) ?_ ?_)
     ·exact⟨Dr O,Dr O,Dr O,fun _ _ _ _ _=>Dk O (by exact aO Value.bool (dE (by omega))),Dr O,Dr O,Dr O,Dr O,Dr O,Dr O,Dr O,Dr O,Dr O,Dr O,Dr O,Dr O,Dr O,Dr O,Dr O,Dr O,Dr O,Dr O,Dr O,Dr O,Dr O,Dr O,Dr O,Dr O,Dr O,Dr O,Dr O,Dr O,av⟩
     intro u w9 qY _;have hS:=hS.aq qY;refine fR O (Cd.gh O ?_);have sr:=sr (fun h=>h.1 q1);refine aE O (aK O (aU O (tQ ?_)));exact⟨(b+1,Ab,cb),by show N - (b+1)<N - b;omega,⟨O,O,O,O,O,aO (fun L:ai=>Value.slice Ab L.length cb) sr.symm,O,O,av⟩,by show b+1<=N;omega,by show St w w9 (az _ Ab (lF n fl i a (b+1)).length cb _::_);rw [sr];exact hS⟩
    by_cases q2:rY (gl fl a) (gl fl b) n=1
    ·refine dA O ?_;refine eY [xI ((a:Int)),xI ((b:Int)),xB (decide (¬((a:Int))=((b:Int)))),xB (true),xS (F) (N) (cF),xI ((a:Int)),xP (aJ (F) ((a:Int)).toNat),xS ((rg (fv) ((a:Int))).a) ((rg (fv) ((a:Int))).n) ((rg (fv) ((a:Int))).c),xS (F) (N) (cF),xI ((b:Int)),xP (aJ (F) ((b:Int)).toNat),xS ((rg (fv) ((b:Int))).a) ((rg (fv) ((b:Int))).n) ((rg (fv) ((b:Int))).c),xI (((rY (gl fl a) (gl fl b) (rg fv a).n:Nat):Int)),xB (true),xB (true),xB (true),xS (F) (N) (cF),xI ((a:Int)),xP (aJ (F) ((a:Int)).toNat),xS ((rg (fv) ((a:Int))).a) ((rg (fv) ((a:Int))).n) ((rg (fv) ((a:Int))).c),xI ((i:Int)),xP (aJ ((rg (fv) ((a:Int))).a) ((i:Int)).toNat),xI (gi (gl fl a) ((i:Int))),xS (F) (N) (cF),xI ((b:Int)),xP (aJ (F) ((b:Int)).toNat),xS ((rg (fv) ((b:Int))).a) ((rg (fv) ((b:Int))).n) ((rg (fv) ((b:Int))).c),xI ((i:Int)),xP (aJ ((rg (fv) ((b:Int))).a) ((i:Int)).toNat),xI (gi (gl fl b) ((i:Int))),xB (decide (¬(gi (gl fl a) ((i:Int)))=(gi (gl fl b) ((i:Int))))),xB (decide (¬(gi (gl fl a) ((i:Int)))=(gi (gl fl b) ((i:Int)))))] O (fE O) ?_ ?_
     ·refine⟨Dr O,Dr O,Dr O,fun _ _ _ _ _=>Dk O (by exact aO Value.bool (eM (by omega))),Dr O,Dr O,fun _ _ hb _ _=>ax O (aM (mU.aq hb).2 O Az),fun _ _ hb _ _=>ax O (dI (mU.aq hb) O Az),Dr O,Dr O,fun _ _ hb _ _=>ax O (aM (mU.aq hb).2 O Az),fun _ _ hb _ _=>ax O (dI (mU.aq hb) O Az),?_,fun _ _ _ _ _=>Dk O (by exact aO Value.bool (eM (by rw [G1,q2];rfl))),Dr O,Dr O,Dr O,Dr O,fun _ _ hb _ _=>ax O (aM (mU.aq hb).2 O Az),fun _ _ hb _ _=>ax O (dI (mU.aq hb) O Az),Dr O,fun _ _ hb _ _=>ax O (aM (sn.aq hb).2 O Az),fun _ _ hb _ _=>ax O (bk (sn.aq hb) O Az),Dr O,Dr O,fun _ _ hb _ _=>ax O (aM (mU.aq hb).2 O Az),fun _ _ hb _ _=>ax O (dI (mU.aq hb) O Az),Dr O,fun _ _ hb _ _=>ax O (aM (o7.aq hb).2 O Az),fun _ _ hb _ _=>ax O (bk (o7.aq hb) O Az),Dr O,Dr O,av⟩;intro e1 w1 hb hp a6;refine ax O (aL (RZ (rg fv a).a (rg fv b).a (rg fv a).n (rg fv a).c (rg fv b).n (rg fv b).c (gl fl a) (gl fl b) _ (sn.aq hb) (o7.aq hb) (by omega) (by omega)) O ?_);rintro _ w2 ⟨rfl,au⟩;refine ao.n ?_;exact gz.dn au.below (by exact O)
     intro u w9 qY _;have hS:=hS.aq qY;refine fR O (aR _ O (fun h4=>?_) (fun h4=>?_))
     ·have tm:=tm ⟨q1,q2,h4⟩;refine aE O (eH hS O O O ?_);intro A9 eL bQ;refine fN 1 bQ O (bQ.bI 0 O) O O O ?_;intro AZ cZ fI dX;have dX:=dX.tail;refine ar O (aK O (aU O (tQ ?_)));refine⟨(b+1,AZ,cZ),by show N - (b+1)<N - b;omega,⟨O,O,O,O,O,?_,O,O,av⟩,by show b+1<=N;omega,?_⟩
      ·show Value.slice _ _ _=Value.slice _ _ _;rw [tm,cS];rfl
      show St w fI (az _ AZ (lF n fl i a (b+1)).length cZ _::_);rw [tm,cS];exact dX
     have sr:=sr (fun h=>h4 h.2.2);refine aE O (aK O (aU O (tQ ?_)));exact⟨(b+1,Ab,cb),by show N - (b+1)<N - b;omega,⟨O,O,O,O,O,aO (fun L:ai=>Value.slice Ab L.length cb) sr.symm,O,O,av⟩,by show b+1<=N;omega,by show St w w9 (az _ Ab (lF n fl i a (b+1)).length cb _::_);rw [sr];exact hS⟩
    refine dA O ?_;refine eY [xI ((a:Int)),xI ((b:Int)),xB (decide (¬((a:Int))=((b:Int)))),xB (true),xS (F) (N) (cF),xI ((a:Int)),xP (aJ (F) ((a:Int)).toNat),xS ((rg (fv) ((a:Int))).a) ((rg (fv) ((a:Int))).n) ((rg (fv) ((a:Int))).c),xS (F) (N) (cF),xI ((b:Int)),xP (aJ (F) ((b:Int)).toNat),xS ((rg (fv) ((b:Int))).a) ((rg (fv) ((b:Int))).n) ((rg (fv) ((b:Int))).c),xI (((rY (gl fl a) (gl fl b) (rg fv a).n:Nat):Int)),xB (false),xB (false),xB (false),xU,xU,xU,xU,xU,xU,xU,xU,xU,xU,xU,xU,xU,xU,xU,xB (false)] O (fE O) ?_ ?_
    ·refine⟨Dr O,Dr O,Dr O,fun _ _ _ _ _=>Dk O (by exact aO Value.bool (eM (by omega))),Dr O,Dr O,fun _ _ hb _ _=>ax O (aM (mU.aq hb).2 O Az),fun _ _ hb _ _=>ax O (dI (mU.aq hb) O Az),Dr O,Dr O,fun _ _ hb _ _=>ax O (aM (mU.aq hb).2 O Az),fun _ _ hb _ _=>ax O (dI (mU.aq hb) O Az),?_,fun _ _ _ _ _=>Dk O (by exact aO Value.bool (dE (by rw [G1];omega))),Dr O,Dr O,Dr O,Dr O,Dr O,Dr O,Dr O,Dr O,Dr O,Dr O,Dr O,Dr O,Dr O,Dr O,Dr O,Dr O,Dr O,Dr O,av⟩;intro e1 w1 hb hp a6;refine ax O (aL (RZ (rg fv a).a (rg fv b).a (rg fv a).n (rg fv a).c (rg fv b).n (rg fv b).c (gl fl a) (gl fl b) _ (sn.aq hb) (o7.aq hb) (by omega) (by omega)) O ?_);rintro _ w2 ⟨rfl,au⟩;refine ao.n ?_;exact gz.dn au.below (by exact O)
    intro u w9 qY _;have hS:=hS.aq qY;refine fR O (Cd.gh O ?_);have sr:=sr (fun h=>q2 h.2.1);refine aE O (aK O (aU O (tQ ?_)));exact⟨(b+1,Ab,cb),by show N - (b+1)<N - b;omega,⟨O,O,O,O,O,aO (fun L:ai=>Value.slice Ab L.length cb) sr.symm,O,O,av⟩,by show b+1<=N;omega,by show St w w9 (az _ Ab (lF n fl i a (b+1)).length cb _::_);rw [sr];exact hS⟩
   have qd:b=fl.length:=by omega
   subst qd;rw [<-aed]at hS|-;refine bw O (bz (dh O (aK O (aU O (tQ ?_)))));exact⟨(a+1,Ab,cb),by show N - (a+1)<N - a;omega,(ajs O),by show a+1<=N;omega,hS⟩
  have s8:a=fl.length:=by omega
  subst s8;have lS:=Su (n:=n) (i:=i) (a:=fl.length) (b:=0) (show 0<=fl.length by omega);have Ca:fl.length*fl.length<=400*400:=Nat.mul_le_mul (by omega) (by omega);rw [aeb]at hS lS|-;have B0:=Sn n fl i;refine bw O (bz (dh O ?_));refine aX (hS.rd 1 O) O (ajn (j:=0) (hS.rd 1 O) O O O O O (ar O (kO hS O O O ?_)));intro A9 w8 bS;refine mJ 5 bS O (bS.gQ 0 O) O O O (by omega) (by omega) O fun AZ cZ w9 bH=>aX (bH.rd 2 O) O (kf 2 (j:=0) bH O O O O O ?_);intro eL bQ;have bQ:=bQ.tail;have bQ:=bQ.perm (aeL _ _ _ _ _ _);refine ar O (aK O (aU O (tQ ?_)));refine⟨(i+1,(AZ,cZ),jR++ [⟨Ab,(tv n fl i).length,cb⟩]),by show n - (i+1)<n - i;omega,(ajs O),by show i+1<=n;omega,by show(jR++ [_]).length=i+1;rw [cS,o8];rfl,?_⟩;show St w eL (dY A5 AZ (i+1) cZ::dY A4 none 0 0::Bx 27 3 A2 [ak n,.slice A a1 cA,.slice D d1 cD]::(aT 24 2 AZ (i+1) cZ (jR++ [_]) (nk n fl (i+1))++ []));rw [B0];unfold aT;rw [qy (by rw [o8,Sm])];exact bQ
 obtain rfl:i=n:=by omega
 refine bw O (bz (dh O ?_));refine ao.b7 0 (hS.rd 0 O) O O O (cG 1 1 hS O O O O O O O ?_);intro w6 ba;refine bM O (rF O (ba.rd 1 O) ?_);exact⟨Am,cm,jR,O,o8,ba.sub (show List.Sublist _ (_::_::_::_) from((jV _).cons _ |>.cons _ |>.cons _))⟩
abbrev Co(A6:aj)(N:Nat)(mv:ai)(g:Nat)(L:List (ByteArray×Int))(A3 A2 Am:aj)(i cm:Nat)(jR:List aN)(T:ah):List Ck:=
 az 2 A6 N N mv::ij 124 g (gw Value.string (Value.int .i64) L)::dY A3 Am i cm::dY A2 none 0 0::(aT 24 2 Am i cm jR T++ [])
theorem aeN{α:Type}(b m q1 q2:α)(X:List α):(b::q1::q2::m::(X++ [])).Perm (q1::q2::m::((X++ [b])++ [])):=by
 classical
 refine kN.2 fun z=>?_
 simp only [mb,kL,mE];omega
theorem adN(n:Nat)(F:aj)(N cF:Nat)(fv:List aN)(fl:ah)(w:aa)(hT:js w)(hF:br w F N fv fl)(hl:∀x∈fl,x.length=n/\∀e∈x,0<=e/\e<=1000)(Bv:jA n fl)(hN:0<N/\N<=400)(QS:n<=1000):
 aG prog 65 [.slice F N cF] w (fun v w'=>∃A' c' rs',v= .agg #[.slice A' n c']/\rs'.length=n/\St w w' (aT 24 2 A' n c' rs' (bT n fl)++ [])):=by
 have iY:fl.length=N:=hF.len;have uj:∀x∈fl,x.length=n:=fun x hx=> (hl x hx).1
 refine bA func65 O ntmps65 O (rB O O) (a8 O (gf (St.refl w) O ?_));intro A2 w1 aA;refine ar O (gf aA O ?_);intro A3 w2 aB;have aB:St w w2 (dY A3 none 0 0::dY A2 none 0 0::(aT 24 2 none 0 0 [] (nk n fl 0)++ [])):=(aB.nil 24).perm (List.perm_append_singleton _ _).symm;clear aA;have oY:=aB.bY hF;have Pl:=oY.at_ (i:=(0:Int)) (by omega) (by omega);have qk:(rg fv (0:Int)).n=n:=by rw [<-Pl.1];exact uj _ (by rw [show(0:Int)=((0:Nat):Int) from O,bP (by omega)];exact dB _)
 refine ar O (aM oY.top.2 O ?_);refine ajo oY.top O (by show(0:Int).toNat<N;exact hN.1) O O ?_;refine bc O O (aI O ?_);refine Cd.loop (α:=Nat×(aj×Nat)×List aN) (fun z=> [(0,.slice F N cF),(2,.pointer A2),(3,.pointer A3),(16,ak n),(17,ak (z.1:Int))]) (fun z w'=>z.1<=n/\z.2.2.length=z.1/\St w w' (dY A3 z.2.1.1 z.1 z.2.1.2::dY A2 none 0 0::(aT 24 2 z.2.1.1 z.1 z.2.1.2 z.2.2 (nk n fl z.1)++ []))) (fun z=>n - z.1) (0,(none,0),[]) ⟨O,O,O,aO (fun m:Nat=>Value.int .i64 (m:Int)) qk,O,av⟩ ⟨a7 _,O,aB⟩ ?_;clear aB oY Pl;rintro⟨i,⟨Am,cm⟩,jR⟩ e w5 ⟨hi,o8,hS⟩;dsimp only at hi o8 hS|-;refine bL O (aR _ O (fun h1=>?_) (fun h1=>?_))
 ·have bW:i<n:=by omega
  refine aE O (C0 hS O ?_);intro g w6 ba;refine ar O (bc O O ?_);refine wW N ba O O ⟨by omega,by omega⟩ ?_;intro A6 w7 bG;have bG:St w w7 (Co A6 N (mB n fl i 0) g [] A3 A2 Am i cm jR (nk n fl i)):=by
   have e0:=aef (n:=n) (fl:=fl) (i:=i);rw [iY]at e0;rw [e0];exact bG
  clear ba hS;refine ar O (bc O O (aI O ?_));refine Cd.loop (α:=Nat×List (ByteArray×Int)) (fun z=> [(0,.slice F N cF),(2,.pointer A2),(3,.pointer A3),(4,ak i),(5,.map (some g)),(6,.slice A6 N N),(16,ak n),(17,ak i),(24,.slice F N cF),(25,ak N),(26,ak (z.1:Int))]) (fun z w'=>z.1<=N/\sM n fl i z.1 z.2/\St w w' (Co A6 N (mB n fl i z.1) g z.2 A3 A2 Am i cm jR (nk n fl i))) (fun z=>N - z.1) (0,[]) (ajs O) ⟨a7 _,sM.zero,bG⟩ ?_;clear bG;rintro⟨f,L⟩ e1 w8 ⟨hf,Gl,hS⟩;dsimp only at hf Gl hS|-;refine bL O (aR _ O (fun h2=>?_) (fun h2=>?_))
  ·have kI:f<fl.length:=by omega
   have xp:=hS.bY hF;have rv:=xp.at_ (i:=(f:Int)) (by omega) (by omega);have KO:gl fl f∈fl:=by rw [bP kI];exact dB _
   have zh:=hl _ KO;have B6:(rg fv f).n=n:=by rw [<-rv.1];exact zh.1
   have DO:=Gl.at_ kI;have ow:=Bv.lt kI bW;have hmvl:=aei (n:=n) (fl:=fl) (i:=i) (f:=f);refine aE O (aM xp.top.2 O (dI xp.top O (ar O (aL (Fe _ _ _ (gl fl f) _ rv (by omega)) O ?_))));rintro _ w9 ⟨A9,c9,rfl,au⟩;have bH:=hS.call au;clear hS au xp rv;rw [B6]at bH|-;have bH:St w w9 (az 2 A9 n c9 (gl fl f)::Co A6 N (mB n fl i f) g L A3 A2 Am i cm jR (nk n fl i)):=bH;refine ar O (aM (bH.rd 0 O) O (lu 0 (i:=(i:Int)) bH O O O (by omega) ?_));intro eL bQ;have bQ:St w eL (az 2 A9 n c9 (iE (gl fl f) i)::Co A6 N (mB n fl i f) g L A3 A2 Am i cm jR (nk n fl i)):=bQ;refine ar O ?_;refine ajj (zz A9 n c9 (iE (gl fl f) i) _ (hT.aq bQ.below) (bQ.bI 0 O) (fun x hx=>by
    rcases List.mem_or_eq_of_mem_set hx with hx | rfl
    ·have:=zh.2 x hx;omega
    omega) (by omega)) rfl rfl rfl ?_
   rintro _ fI ⟨rfl,au⟩;have dX:=bQ.tail.aq au.below;clear bH bQ au;refine ar O (Vm zA (jm (iE (gl fl f) i)) (dX.Cu 1 O) O O O ?_);rw [DO]
   by_cases hp:eQ n fl i f<f
   ·rw [ay hp];have aam:=aeh Bv bW kI hp;refine aI O (Cd.jE O (aE O (aM (dX.rd 0 O) O (lu 0 (i:=(f:Int)) dX O O O (by omega) ?_))));intro fZ dM;refine ajh (dM.rd 0 O) O O O (by show(0:Int)<=(eQ n fl i f:Int);omega) (by show(eQ n fl i f:Int)< (N:Int);omega) ?_;refine lu 0 (i:=(eQ n fl i f:Int)) dM O O O (by omega) fun gM iV=>ar O (aK O (aU O (tQ ?_)));refine⟨(f+1,L),by show N - (f+1)<N - f;omega,(ajs O),by show f+1<=N;omega,Gl.GS Bv bW kI hp,?_⟩;show St w gM (Co A6 N (mB n fl i (f+1)) g L A3 A2 Am i cm jR (nk n fl i));rw [aam];exact iV
   rw [aw hp];have aaH:=aej Bv bW kI hp;refine aI O (Cd.gh O (aE O (Ag O zA 1 (u:=(f:Int)) (a:=jm (iE (gl fl f) i)) (vv:=Value.int .i64) dX O O O O ?_)));intro fZ dM;refine ar O (aK O (aU O (tQ ?_)));refine⟨(f+1,gX L (jm (iE (gl fl f) i)) (f:Int)),by show N - (f+1)<N - f;omega,(ajs O),by show f+1<=N;omega,Gl.adV Bv uj bW kI hp,?_⟩;show St w fZ (Co A6 N (mB n fl i (f+1)) g _ A3 A2 Am i cm jR (nk n fl i));rw [aaH];exact dM
  have hfe:f=fl.length:=by omega
  subst hfe;rw [aeg Bv bW]at hS;have B0:=Sn n fl i;have hS:St w w8 (az 2 A6 N N (tv n fl i)::dY A3 Am i cm::dY A2 none 0 0::(aT 24 2 Am i cm jR (nk n fl i)++ [])):=hS.sub ((jV _).cons _ |>.cons_cons _);refine bw O (bz (dh O ?_));refine aX (hS.rd 1 O) O (ajn (j:=0) (hS.rd 1 O) O O O O O (ar O (kO hS O O O ?_)));intro A9 w9 bH;refine mJ 4 bH O (bH.gQ 0 O) O O O (by omega) (by omega) O fun AZ cZ eL bQ=>aX (bQ.rd 2 O) O (kf 2 (j:=0) bQ O O O O O ?_);intro fI dX;have dX:=dX.tail;have dX:=dX.perm (aeN _ _ _ _ _);refine ar O (aK O (aU O (tQ ?_)));refine⟨(i+1,(AZ,cZ),jR++ [⟨A6,N,N⟩]),by show n - (i+1)<n - i;omega,(ajs O),by show i+1<=n;omega,by show(jR++ [_]).length=i+1;rw [cS,o8];rfl,?_⟩;show St w fI (dY A3 AZ (i+1) cZ::dY A2 none 0 0::(aT 24 2 AZ (i+1) cZ (jR++ [_]) (nk n fl (i+1))++ []));rw [B0];unfold aT;rw [qy (by rw [o8,Sm])];exact dX
 obtain rfl:i=n:=by omega
 refine bw O (bz (dh O ?_));refine ao.b7 0 (hS.rd 0 O) O O O (cG 1 1 hS O O O O O O O ?_);intro w6 ba;refine bM O (rF O (ba.rd 1 O) ?_);exact⟨Am,cm,jR,O,o8,ba.sub (show List.Sublist _ (_::_::_) from((jV _).cons _ |>.cons _))⟩
noncomputable def ya(n:Nat)(R:ai)(B:ah):Int:=pW n R B
noncomputable def yb(n:Nat)(R:ai)(B:ah):ah:=if pW n R B=0 then bT n (aD n R B)else []
theorem HA{n:Nat}{R:ai}{B:ah}(h:(aD n R B).length<=400):pW n R B=0/\vK n R B=aD n R B/\yb n R B=bT n (aD n R B):=by
 have e:pW n R B=0:=by unfold pW;rw [if_pos h]
 refine⟨e,by unfold vK;rw [if_pos h],by unfold yb;rw [if_pos e]⟩
theorem Sy{n:Nat}{R:ai}{B:ah}(h:¬(aD n R B).length<=400):pW n R B=3/\yb n R B=[]:=by
 have e:pW n R B=3:=by unfold pW;rw [if_neg h]
 exact⟨e,by unfold yb;rw [if_neg (by rw [e];decide)]⟩
theorem OJ{n:Nat}{R:ai}{B:ah}(hP:gm n R B):∀x∈aD n R B,x.length=n/\∀e∈x,0<=e/\e<=1000:=fun x hx=>by
 have hn:=hP.n1;have hb:=hP.oQ;have h:=(nG (by omega)).1 hx;refine⟨h.1,fun e he=>?_⟩;obtain⟨k,hk,rfl⟩:=fJ.1 he;have:=(h.2.1 k (by omega)).1;rw [bO hk]at this;omega
theorem ae6(n:Nat)(A D:aj)(cA cD:Nat)(R:ai)(rs:List aN)(B:ah)(w:aa)(hT:js w)(hR:cn w A R.length R)(hB:br w D B.length rs B)(hP:gm n R B)(hD:tH n R B)(bt:aD n R B≠[]):
 aG prog 149 [.agg #[ak n,.slice A R.length cA,.slice D B.length cD],ak 0] w (gR (yb n R B) (ya n R B) w):=by
 have hn:=hP.n1;refine bA func149 O ntmps149 O (pc O O) (a8 O (nw (St.refl w) O O ?_));intro A2 w1 aA;refine gf aA O fun A4 w2 aB=>aI O (mD O (fun h=>h O) (aE O (ao.b7 2 (aB.rd 1 O) O O O (aL (OD n A D cA cD R rs B _ (aB.gW hR) (aB.bY hB) hP) O ?_))));rintro _ w3 ⟨AF,cF,fv,rfl,Eg,au⟩;have nL:=Rd.below (aB.rd 0 O) au.below
 by_cases hf:(aD n R B).length<=400
 ·obtain⟨e1,e2,e3⟩:=HA hf;have e4:ya n R B=0:=e1;rw [e2]at au|-;rw [e1,e3,e4];rw [e2]at Eg;have hF:br w3 AF (aD n R B).length fv (aD n R B):=au.tx O;have aH:=aB.aq au.below;refine aI O (Cd.gh O (aE O ?_));have Zu:=hT.aq aH.below;refine aL (adN n AF _ cF fv _ _ Zu hF (OJ hP) (F4 hP hD) ⟨List.length_pos_iff.2 bt,hf⟩ (by omega)) O ?_;rintro _ w4 ⟨Am,cm,jR,rfl,o8,nT⟩;have lS:=sC n (aD n R B);have aV:=(aH.call nT).perm me;refine cG 1 0 aV O O O O O O O fun w5 aW=>bM O (iL O (aW.rd 0 O) O ?_);refine⟨Am,cm,jR,by rw [lS];rfl,by rw [lS];exact o8,?_⟩;rw [lS];have h9:=aW.sub (show List.Sublist _ (_::_::_) from((jV _).cons _ |>.cons _))
  rwa [fM]at h9
 obtain⟨e1,e3⟩:=Sy hf;have e4:ya n R B=3:=e1;rw [e1,e3,e4];have aH:=aB.aq au.below;refine aI O (Cd.jE O (aE O (uO (by exact inferInstance) O (ar O (cG 1 0 aH O O O O O O O ?_)))));intro w5 aW;refine bM O (iL O (aW.rd 0 O) O ?_);exact gR.none aW
noncomputable def Cq(M K:ah)(kind:Int):Int:=if ja M K kind=0 then ya (gK M K kind) (iQ M K kind) (qu M K kind)else ja M K kind
noncomputable def lH(M K:ah)(kind:Int):ah:=if ja M K kind=0 then yb (gK M K kind) (iQ M K kind) (qu M K kind)else []
theorem HK{M K:ah}{kind:Int}(h:ja M K kind=0):oE M K kind=0/\gK M K kind<=5/\(iQ M K kind).length<=500:=by
 unfold ja at h
 split at h
 ·rename_i h1;refine⟨h1,?_⟩
  by_cases h2:5<gK M K kind\/500< (iQ M K kind).length
  ·rw [ay h2]at h;exact absurd h (by decide)
  omega
 contradiction
theorem L1{M K:ah}{kind:Int}(h:ja M K kind=0):gm (gK M K kind:Nat) (iQ M K kind) (qu M K kind)/\tH (gK M K kind:Nat) (iQ M K kind) (qu M K kind)/\aD (gK M K kind) (iQ M K kind) (qu M K kind)≠[]:=by
 obtain⟨hp,h5,JR⟩:=HK h;obtain⟨nN,uf,ue⟩:=EN hp;obtain⟨kY,mT⟩:=qQ uf;obtain⟨mh,oZ⟩:=qQ ue;have l1:=x5 kY mT.1;have l2:=x5 mh oZ.1;have d1:=FQ (qv kY mT.1) mT.2.2.2.2.1;have d2:=FQ (qv mh oZ.1) oZ.2.2.2.2.1;have c1:=FJ (qv kY mT.1) mT.2.2.1;have c2:=FJ (qv mh oZ.1) oZ.2.2.1;rw [jg]at d1 d2 c1 c2;have hk:=HG (kind:=kind) kY mh;have m1:=kY.1;have k1:=mh.1;have ni:2<=iw M.length K.length kind:=by unfold iw;split<;>omega
 have hl:(EI M K kind).length<=500:=by unfold iQ at JR;rwa [List.length_map]at JR
 exact⟨afg l1 l2 ⟨by omega,h5⟩ hl,Tc l1 l2 d1 d2 nN hk (by omega) ⟨by omega,.inl (by omega)⟩,Td l1 l2 c1 c2 nN hk (by omega) ⟨by omega,.inl (by omega)⟩⟩
theorem ae5(p:Int)(A D:aj)(a cA d cD:Nat)(K:Int)(hK:K≠0)(w:aa):
 aG prog 149 [.agg #[ak p,.slice A a cA,.slice D d cD],ak K] w (gR [] K w):=by
 refine bA func149 O ntmps149 O (pc O O) (a8 O (nw (St.refl w) O O ?_));intro A2 w1 aA;refine gf aA O fun A4 w2 aB=>aI O (CO O hK (aE O (uO (by exact inferInstance) O (ar O (cG 1 0 aB O O O O O O O ?_)))));intro w3 aH;refine bM O (iL O (aH.rd 0 O) O ?_);exact gR.none aH
theorem ae4(M K:ah)(kind:Int)(A D:aj)(cA cD:Nat)(rs:List aN)(w:aa)(hT:js w)(hR:cn w A (nq M K kind).length (nq M K kind))(hB:br w D (np M K kind).length rs (np M K kind)):
 aG prog 149 [.agg #[ak (rC M K kind),.slice A (nq M K kind).length cA,.slice D (np M K kind).length cD],ak (ja M K kind)] w (gR (lH M K kind) (Cq M K kind) w):=by
 unfold lH Cq
 by_cases h:ja M K kind=0
 ·rw [ay h,ay h];have dO:=L1 h;have e1:rC M K kind=(gK M K kind:Nat):=by unfold rC;rw [if_pos h]
  have e2:nq M K kind=iQ M K kind:=by unfold nq;rw [if_pos h]
  have e3:np M K kind=qu M K kind:=by unfold np;rw [if_pos h]
  rw [e1,h];rw [e2]at hR|-;rw [e3]at hB|-;exact ae6 (gK M K kind) A D cA cD _ rs _ w hT hR hB dO.1 dO.2.1 dO.2.2
 rw [aw h,aw h];exact ae5 _ A D _ cA _ cD _ h w
theorem ac0(X8 Z8 Y8 W8:aj)(cx cz cy cw:Nat)(a1 a2 a3 a4:Nat)(n1 n2 kind:Int)(ok:Bool)(N:Int)(k:Nat)(R:ai)(B:ah)(w:aa)(hpx:∀w',Below w.heap.size w w'->aG prog 209 [.agg #[ak n1,.slice X8 a1 cx,.slice Y8 a2 cy],.agg #[ak n2,.slice Z8 a3 cz,.slice W8 a4 cw],ak kind] w' (Ig N R B ok w'))(hQ:ok=true->N=(k:Int)/\gm k R B):
 aG prog 154 [.agg #[ak n1,.slice X8 a1 cx,.slice Y8 a2 cy],.agg #[ak n2,.slice Z8 a3 cz,.slice W8 a4 cw],ak kind] w (gR (if ok=true then yb k R B else []) (if ok=true then ya k R B else 3) w):=by
 refine bA func154 O ntmps154 O (pc O O) (a8 O (nw (St.refl w) O O ?_));intro A3 w1 aA;refine nw aA O O fun A4 w2 aB=>gf aB O fun A6 w3 aH=>ar O (ao.b7 2 (aH.rd 2 O) O O O (ao.b7 2 (aH.rd 1 O) O O O (ar O (aL (hpx _ aH.below) O ?_))));rintro _ w4 ⟨AR,cR,AD,cD,df,rfl,lE,au⟩;have DI:=au.bI 0 O;have JW:br w4 AD B.length df B:=St.tx au.tail O;have aV:=aH.aq au.below;clear au aH aB aA;refine ar O (mK (St.refl w4) O ?_);intro A8 w5 u6;refine cG 3 0 u6 O O O O O O O ?_;intro w6 Gu;have ba:=aV.aq Gu.below;have BH:=Gu.rd 0 O;have DI:=DI.aq Gu.below;have JW:=JW.aq Gu.below;cases ok
 ·refine ar O ?_
  first | refine eA rfl rfl ?_ | refine eU rfl rfl ?_
  refine aI O (Cd.jE O (aE O (uO (by exact inferInstance) O (cG 1 0 ba O O O O O O O ?_))));intro w7 bG;refine bM O (iL O (bG.rd 0 O) O ?_);exact gR.none bG
 obtain⟨rfl,hP⟩:=hQ rfl;rw [ay rfl,ay rfl];have hn:=hP.n1;refine ar O ?_
 first | refine eA rfl rfl ?_ | refine eU rfl rfl ?_
 refine aI O (Cd.gh O (aE O (ao.b7 2 BH O O O (aL (acX k AR AD cR cD R df B _ DI JW hP) O ?_))));rintro _ w7 ⟨AF,cF,fv,rfl,Eg,au⟩;have bG:=ba.aq au.below;have BH:=Rd.below BH au.below
 by_cases hf:(aD k R B).length<=400
 ·obtain⟨e1,e2,e3⟩:=HA hf;have e4:ya k R B=0:=e1;rw [I3 (FE.2 hf)]at au Eg|-;rw [e3,e4];have hF:br w7 AF (aD k R B).length fv (aD k R B):=au.tx O;refine ar O ?_
  first | refine eA rfl rfl ?_ | refine eU rfl rfl ?_
  refine aI O (mD O (fun h=>h hf) (aE O (ao.b7 2 BH O O O (ar O ?_))));refine aL (acY k AR AD AF _ cR _ cD _ cF fv _ _ hF (fun x hx=> (OJ hP x hx).1) (Bg k R B).nodup hf (by omega)) O ?_;rintro _ w8 ⟨Am,cm,jR,rfl,o8,abt⟩;have lS:=sC k (aD k R B);have bS:=bG.call2 abt;refine cG 1 0 bS O O O O O O O fun w9 bH=>bM O (iL O (bH.rd 0 O) O ?_);refine⟨Am,cm,jR,by rw [lS];rfl,by rw [lS];exact o8,?_⟩;rw [lS];have h9:=bH.sub (show List.Sublist _ (_::_::_::_) from((jV _).cons _ |>.cons _ |>.cons _))
  rwa [fM]at h9
 obtain⟨e1,e3⟩:=Sy hf;have e4:ya k R B=3:=e1;rw [e3,e4];refine ar O ?_
 first | refine eA rfl rfl ?_ | refine eU rfl rfl ?_
 refine aI O (CO O hf (aE O (uO (by exact inferInstance) O (cG 1 0 bG O O O O O O O ?_))));intro w8 bS;refine bM O (iL O (bS.rd 0 O) O ?_);exact gR.none bS
end
section
section
variable{i b p:Nat}
variable {n:Nat} {R:ai} {B:ah}
theorem eV.len(h:eV n R B):(bT n (aD n R B)).length=n:=sC n _
theorem eV.sX(h:eV n R B)(hi:i<n){a:Nat}(ha:a< (aD n R B).length)(hb:b< (aD n R B).length):bh (bT n (aD n R B)) i a=bh (bT n (aD n R B)) i b↔gi (gl (aD n R B) a) i=gi (gl (aD n R B) b) i:=by
 rw [<-h.R6 hi ha hb];unfold bh;omega
theorem eV.fin(h:eV n R B)(hi:i<n){a:Nat}(ha:a< (aD n R B).length):(0<=bh (bT n (aD n R B)) i a/\bh (bT n (aD n R B)) i a< ((bo (bT n (aD n R B)) n).length:Int))/\gi (bo (bT n (aD n R B)) n) (bh (bT n (aD n R B)) i a)=i:=by
 have h1:=oV h.ll (i:=i) (f:=a) (by rw [h.nl];exact ha);have h2:=nn (bT n (aD n R B)) (show i+1<=n by omega);rw [jg];exact⟨⟨by omega,by omega⟩,Dt hi h1.1 h1.2⟩
theorem eV.Dv(h:eV n R B){e:Int}(h0:0<=e)(h1:e< ((bo (bT n (aD n R B)) n).length:Int)):∃i:Nat,i<n/\∃a:Nat,a< (aD n R B).length/\e=bh (bT n (aD n R B)) i a:=by
 rw [jg]at h1;obtain⟨i,hi,h2,h3⟩:=Jy h0 h1;have h3:e< ((aF (bT n (aD n R B)) i+ (fA (bT n (aD n R B)) i).toNat:Nat):Int):=h3;obtain⟨a,ha,e1⟩:=yF h.ll i (e - (aF (bT n (aD n R B)) i:Int)) (by omega) (by omega);rw [h.nl]at ha;refine⟨i,hi,a,ha,?_⟩;unfold bh;rw [e1];omega
theorem eV.spl(h:eV n R B)(hi:i+1<n){a:Nat}(ha:a< (aD n R B).length)(hb:b< (aD n R B).length)(hm:gi (gl (aD n R B) a) i∈gl B (gi (gl (aD n R B) b) ((i+1:Nat):Int))):
 ∃c:Nat,c< (aD n R B).length/\∀k:Nat,k<n->gi (gl (aD n R B) c) k=if k<=i then gi (gl (aD n R B) a) k else gi (gl (aD n R B) b) k:=by
 have fa:=nH h.n1 ha;have fb:=nH h.n1 hb;obtain⟨x,hx⟩:∃x:ai,x=(List.range n).map fun k=>if k<=i then gi (gl (aD n R B) a) k else gi (gl (aD n R B) b) k:=⟨_,rfl⟩
 have fY:∀k:Nat,k<n->gi x k=if k<=i then gi (gl (aD n R B) a) k else gi (gl (aD n R B) b) k:=fun k hk=>by
  rw [hx,bO (by simpa using hk),List.getElem_map,List.getElem_range]
 have En:x∈aD n R B:=by
  refine(nG h.n1).2 ⟨by rw [hx];simp,fun k hk=>?_,fun k hk=>?_⟩
  ·rw [fY k hk]
   split
   ·exact fa.2.1 k hk
   exact fb.2.1 k hk
  rw [fY k (by omega),fY (k+1) hk]
  by_cases c1:k+1<=i
  ·rw [ay (show k<=i by omega),ay c1];exact fa.2.2 k hk
  rw [aw c1]
  by_cases c2:k<=i
  ·rw [ay c2];obtain rfl:k=i:=by omega
   exact hm
  rw [aw c2];exact fb.2.2 k hk
 obtain⟨c,hc,e⟩:=fJ.1 En;refine⟨c,hc,fun k hk=>?_⟩;rw [bP hc,e];exact fY k hk
theorem eV.inc(h:eV n R B)(hi:i+1<n){a:Nat}(ha:a< (aD n R B).length)(hb:b< (aD n R B).length):bh (bT n (aD n R B)) i a∈gl (bD (bT n (aD n R B))) (bh (bT n (aD n R B)) (i+1) b)↔gi (gl (aD n R B) a) i∈gl B (gi (gl (aD n R B) b) ((i+1:Nat):Int)):=by
 have g1:=h.fin (show i<n by omega) ha;have g2:=h.fin hi hb;have hl:=h.len;rw [jg]at g1 g2;rw [mQ g2.1.1 (by rw [hl];exact g2.1.2),hl];constructor
 ·rintro⟨_,f,hf,j,hj,k,hk,e1,e2⟩;rw [h.nl]at hf;rw [hl]at hj;have r1:=(h.fin hj hf).2;have r2:=(h.fin (show k<n by omega) hf).2;rw [<-e1,g2.2]at r1;rw [<-e2,g1.2]at r2;obtain rfl:j=i+1:=by omega
  obtain rfl:k=i:=by omega
  have q1:=(h.sX hi hb hf).1 e1;have q2:=(h.sX (show k<n by omega) ha hf).1 e2;rw [q1,q2];exact(nH h.n1 hf).2.2 k hi
 intro hm;obtain⟨c,hc,hk⟩:=h.spl hi ha hb hm;have q1:=hk i (by omega);have q2:=hk (i+1) hi;rw [ay (bj _)]at q1;rw [aw (by omega)]at q2;exact⟨g1.1,c,by rw [h.nl];exact hc,i+1,by rw [hl];exact hi,i,by omega,(h.sX hi hb hc).2 q2.symm,(h.sX (show i<n by omega) ha hc).2 q1.symm⟩
theorem eV.ab3(h:eV n R B)(hi:i+2<n){a:Nat}(ha:a< (aD n R B).length)(hb:b< (aD n R B).length)(hm:bh (bT n (aD n R B)) i a∈gl (bD (bT n (aD n R B))) (bh (bT n (aD n R B)) (i+2) b)):gi (gl (aD n R B) a) i∈gl B (gi (gl (aD n R B) b) ((i+2:Nat):Int)):=by
 have g1:=h.fin (show i<n by omega) ha;have g2:=h.fin hi hb;have hl:=h.len;rw [jg]at g1 g2;rw [mQ g2.1.1 (by rw [hl];exact g2.1.2),hl]at hm;obtain⟨_,f,hf,j,hj,k,hk,e1,e2⟩:=hm;rw [h.nl]at hf;rw [hl]at hj;have r1:=(h.fin hj hf).2;have r2:=(h.fin (show k<n by omega) hf).2;rw [<-e1,g2.2]at r1;rw [<-e2,g1.2]at r2;obtain rfl:j=i+2:=by omega
 obtain rfl:k=i:=by omega
 have q1:=(h.sX hi hb hf).1 e1;have q2:=(h.sX (show k<n by omega) ha hf).1 e2;rw [q1,q2];have f1:=(nH h.n1 hf).2.2 k (by omega);have f2:=(nH h.n1 hf).2.2 (k+1) hi;have f3:=((nH h.n1 hf).2.1 (k+2) hi).1;exact(h.pos.at_ (e:=gi (gl (aD n R B) f) ((k+2:Nat):Int)) f3.1 f3.2).2.2 _ f2 _ f1
def il(n:Nat)(M:ah)(a:Nat):ai:=(List.range n).map fun i=>bh M i a
theorem kD{M:ah}{a:Nat}(hi:i<n):gi (il n M a) i=bh M i a:=by
 unfold il;rw [bO (by simpa using hi),List.getElem_map,List.getElem_range]
theorem eV.F5(h:eV n R B){y:ai}:y∈aD n (bo (bT n (aD n R B)) n) (bD (bT n (aD n R B)))↔∃a:Nat,a< (aD n R B).length/\y=il n (bT n (aD n R B)) a:=by
 rw [nG h.n1];constructor
 ·rintro⟨hl,hr,hc⟩;have hex:∀i:Nat,∃a:Nat,i<n->a< (aD n R B).length/\gi y i=bh (bT n (aD n R B)) i a:=fun i=>by
   by_cases hi:i<n
   ·have h1:=hr i hi;obtain⟨j,hj,a,ha,e⟩:=h.Dv h1.1.1 h1.1.2;have r:=(h.fin hj ha).2;rw [<-e,h1.2]at r;obtain rfl:i=j:=by omega
    exact⟨a,fun _=> ⟨ha,e⟩⟩
   exact⟨0,fun h=>absurd h hi⟩
  obtain⟨A,hA⟩:=Classical.axiomOfChoice hex;have hA:∀i:Nat,i<n->A i< (aD n R B).length/\gi y i=bh (bT n (aD n R B)) i (A i):=hA;obtain⟨x,hx⟩:∃x:ai,x=(List.range n).map fun i=>gi (gl (aD n R B) (A i:Int)) i:=⟨_,rfl⟩
  have fY:∀i:Nat,i<n->gi x i=gi (gl (aD n R B) (A i:Int)) i:=fun i hi=>by
   rw [hx,bO (by simpa using hi),List.getElem_map,List.getElem_range]
  have En:x∈aD n R B:=by
   refine(nG h.n1).2 ⟨by rw [hx];simp,fun i hi=>?_,fun i hi=>?_⟩
   ·rw [fY i hi];exact h.at_ (hA i hi).1 hi
   rw [fY i (by omega),fY (i+1) hi];have q:=hc i hi;rw [(hA i (by omega)).2,(hA (i+1) hi).2]at q;exact(h.inc hi (hA i (by omega)).1 (hA (i+1) hi).1).1 q
  obtain⟨c,lD,e⟩:=fJ.1 En;refine⟨c,lD,ux (n:=n) hl (by simp [il]) fun i hi=>?_⟩;rw [kD hi,(hA i hi).2];refine(h.sX hi (hA i hi).1 lD).2 ?_;rw [bP lD,e];exact(fY i hi).symm
 rintro⟨a,ha,rfl⟩;refine⟨by simp [il],fun i hi=>?_,fun i hi=>?_⟩
 ·rw [kD hi];exact h.fin hi ha
 rw [kD (show i<n by omega),kD hi];exact(h.inc hi ha ha).2 ((nH h.n1 ha).2.2 i hi)
theorem eV.XD(h:eV n R B){a:Nat}(ha:a< (aD n R B).length)(hb:b< (aD n R B).length)(e:il n (bT n (aD n R B)) a=il n (bT n (aD n R B)) b):a=b:=
 vL ha hb (ux (n:=n) (nH h.n1 ha).1 (nH h.n1 hb).1 fun i hi=>by
  have:=aO (fun y=>gi y i) e;simp only [kD hi]at this;exact(h.sX hi ha hb).1 this)
theorem eV.yJ(h:eV n R B):(aD n (bo (bT n (aD n R B)) n) (bD (bT n (aD n R B)))).length=(aD n R B).length:=by
 have hp:((List.range (aD n R B).length).map (il n (bT n (aD n R B)))).Perm (aD n (bo (bT n (aD n R B)) n) (bD (bT n (aD n R B)))):=by
  refine(rN ?_ (Bg _ _ _).nodup).2 fun y=>?_
  ·exact kM.2 ((List.nodup_range (n:=(aD n R B).length)).imp_of_mem fun {a b} ha hb bt e=>bt (h.XD (fU.1 ha) (fU.1 hb) e))
  rw [h.F5,db];constructor
  ·rintro⟨a,ha,rfl⟩;exact⟨a,fU.1 ha,rfl⟩
  rintro⟨a,ha,rfl⟩;exact⟨a,fU.2 ha,rfl⟩
 have:=hp.length_eq;rw [fk,pU]at this;exact this.symm
theorem eV.Ow(h:eV n R B)(hp:p< (aD n R B).length):∃a:Nat,a< (aD n R B).length/\gl (aD n (bo (bT n (aD n R B)) n) (bD (bT n (aD n R B)))) p=il n (bT n (aD n R B)) a:=by
 have hl:=h.yJ;refine h.F5.1 ?_;rw [bP (by omega)];exact dB _
theorem eV.XA(h:eV n R B){a:Nat}(ha:a< (aD n R B).length):∃p:Nat,p< (aD n R B).length/\gl (aD n (bo (bT n (aD n R B)) n) (bD (bT n (aD n R B)))) p=il n (bT n (aD n R B)) a:=by
 have hl:=h.yJ;obtain⟨p,hp,e⟩:=fJ.1 (h.F5.2 ⟨a,ha,rfl⟩);exact⟨p,by omega,by rw [bP hp];exact e⟩
theorem eV.Xy(h:eV n R B):vz n (aD n (bo (bT n (aD n R B)) n) (bD (bT n (aD n R B)))):=by
 have hl:=h.yJ;have key:∀ {S:Nat->Prop} {a c:Nat},iF n (aD n R B) S a c->∀ {S':Nat->Prop},(∀k,k<n->(S' k->S k))->∀p:Nat,p< (aD n R B).length->gl (aD n (bo (bT n (aD n R B)) n) (bD (bT n (aD n R B)))) p=il n (bT n (aD n R B)) a->
  ∃q:Nat,q< (aD n R B).length/\gl (aD n (bo (bT n (aD n R B)) n) (bD (bT n (aD n R B)))) q=il n (bT n (aD n R B)) c/\iF n (aD n (bo (bT n (aD n R B)) n) (bD (bT n (aD n R B)))) S' p q:=by
  intro S a c hL S' hS p hp e
  induction hL with
  | refl ha=>exact⟨p,hp,e,.refl (by omega)⟩
  | step th hi hs hA ih=>
   rename_i b c i;obtain⟨q,hq,e1,l1⟩:=ih;obtain⟨r,hr,e2⟩:=h.XA hA.2.1;refine⟨r,hr,e2,.step l1 hi (fun hx=>hs (hS i hi hx)) ⟨by omega,by omega,fun k hk bt=>?_⟩⟩;rw [e1,e2,kD hk,kD hk];exact(h.sX hk hA.1 hA.2.1).2 (hA.2.2 k hk bt)
 intro p q sl hq;rw [hl]at hq;obtain⟨a,ha,ea⟩:=h.Ow (show p< (aD n R B).length by omega);obtain⟨b,hb,eb⟩:=h.Ow hq;have km:iF n (aD n R B) (fun k=>gi (gl (aD n R B) a) k=gi (gl (aD n R B) b) k) a b:=by
  rcases Nat.lt_trichotomy a b with dN | dN | dN
  ·exact h.ye.2.2.2 a b dN hb
  ·subst dN;exact .refl ha
  ·have:=(h.ye.2.2.2 b a dN ha).symm;have e:(fun k:Nat=>gi (gl (aD n R B) b) k=gi (gl (aD n R B) a) k)=fun k:Nat=>gi (gl (aD n R B) a) k=gi (gl (aD n R B) b) k:=funext fun k=>propext ⟨Eq.symm,Eq.symm⟩
   rwa [e]at this
 obtain⟨r,hr,er,lr⟩:=key km (S':=fun k=>gi (gl (aD n (bo (bT n (aD n R B)) n) (bD (bT n (aD n R B)))) p) k=gi (gl (aD n (bo (bT n (aD n R B)) n) (bD (bT n (aD n R B)))) q) k) (fun k hk e=>by
  rw [ea,eb,kD hk,kD hk]at e;exact(h.sX hk ha hb).1 e) p (by omega) ea
 obtain rfl:r=q:=vL (by omega) (by omega) (er.trans eb.symm);exact lr
theorem eV.Xz(h:eV n R B):tH n (bo (bT n (aD n R B)) n) (bD (bT n (aD n R B))):=by
 intro i e f eK kj he hf DZ;obtain⟨j,rfl⟩:∃j:Nat,i=j:=⟨i.toNat,by omega⟩;have hj:j<n:=by omega
 have eB:∃e0:Int,wU R j e0/\(e<0↔e0<0)/\(0<=e->1<=j/\∃a:Nat,a< (aD n R B).length/\e=bh (bT n (aD n R B)) (j - 1) a/\e0=gi (gl (aD n R B) a) ((j - 1:Nat):Int)):=by
  rcases he with⟨q1,q2⟩ | ⟨q1,q2,q3⟩
  ·exact⟨-1,.inl ⟨O,q2⟩,by omega,fun _=>by omega⟩
  obtain⟨k,hk,a,ha,ea⟩:=h.Dv q1.1 q1.2;have r:=(h.fin hk ha).2;rw [<-ea,q3]at r;obtain rfl:k=j - 1:=by omega
  have g:=h.at_ ha hk;exact⟨_,.inr ⟨g.1,q2,by rw [g.2];omega⟩,by omega,fun _=> ⟨by omega,a,ha,ea,O⟩⟩
 have cC:∃f0:Int,wS n R j f0/\(f<0↔f0<0)/\(0<=f->j+1<n/\∃b:Nat,b< (aD n R B).length/\f=bh (bT n (aD n R B)) (j+1) b/\f0=gi (gl (aD n R B) b) ((j+1:Nat):Int)):=by
  rcases hf with⟨q1,q2⟩ | ⟨q1,q2,q3⟩
  ·exact⟨-1,.inl ⟨O,q2⟩,by omega,fun _=>by omega⟩
  obtain⟨k,hk,b,hb,eb⟩:=h.Dv q1.1 q1.2;have r:=(h.fin hk hb).2;rw [<-eb,q3]at r;obtain rfl:k=j+1:=by omega
  have g:=h.at_ hb hk;exact⟨_,.inr ⟨g.1,q2,by rw [g.2];omega⟩,by omega,fun _=> ⟨by omega,b,hb,eb,O⟩⟩
 obtain⟨e0,hL,Kr,Ql⟩:=eB;obtain⟨f0,hH,Ku,Qp⟩:=cC;have hm:=h.ye.2.2.1 (j:Int) e0 f0 eK kj hL hH (fun k1 k2=>by
  obtain⟨j1,a,ha,ea,Di⟩:=Ql (by omega);obtain⟨j2,b,hb,eb,FR⟩:=Qp (by omega);have:=DZ (by omega) (by omega);obtain⟨i,rfl⟩:∃i,j=i+1:=⟨j - 1,by omega⟩;rw [ea,eb]at this;rw [Di,FR];have e1:i+1 - 1=i:=by omega
  rw [e1]at this|-;exact h.ab3 (by omega) ha hb this)
 have hex:∀d0:Int,∃c:Nat,d0∈lO R B j e0 f0->c< (aD n R B).length/\gi (gl (aD n R B) c) j=d0:=fun d0=>by
  by_cases hd:d0∈lO R B j e0 f0
  ·have DW:=wV.1 hd;obtain⟨c,hc,ec⟩:=h.Mu DW.1.1 DW.1.2;rw [DW.2.1]at ec;exact⟨c,fun _=> ⟨hc,ec⟩⟩
  exact⟨0,fun h=>absurd h hd⟩
 obtain⟨g,hg⟩:=Classical.axiomOfChoice hex;have hg:∀d0:Int,d0∈lO R B j e0 f0->g d0< (aD n R B).length/\gi (gl (aD n R B) (g d0:Int)) j=d0:=hg;have P7:∀c:Nat,c< (aD n R B).length->((e<0\/e∈gl (bD (bT n (aD n R B))) (bh (bT n (aD n R B)) j c))↔(e0<0\/e0∈gl B (gi (gl (aD n R B) c) j))):=fun c hc=>by
  by_cases c1:e<0
  ·exact⟨fun _=> .inl (Kr.1 c1),fun _=> .inl c1⟩
  obtain⟨j1,a,ha,ea,Di⟩:=Ql (by omega);obtain⟨i,rfl⟩:∃i,j=i+1:=⟨j - 1,by omega⟩;have e1:i+1 - 1=i:=by omega
  rw [e1]at ea Di;have:=h.inc hj ha hc;constructor
  ·rintro(q | q)
   ·exact absurd q c1
   rw [ea]at q;exact .inr (by rw [Di];exact this.1 q)
  rintro(q | q)
  ·exact absurd (Kr.2 q) c1
  rw [Di]at q;exact .inr (by rw [ea];exact this.2 q)
 have PX:∀c:Nat,c< (aD n R B).length->((f<0\/bh (bT n (aD n R B)) j c∈gl (bD (bT n (aD n R B))) f)↔(f0<0\/gi (gl (aD n R B) c) j∈gl B f0)):=fun c hc=>by
  by_cases c1:f<0
  ·exact⟨fun _=> .inl (Ku.1 c1),fun _=> .inl c1⟩
  obtain⟨j2,b,hb,eb,FR⟩:=Qp (by omega);have:=h.inc j2 hc hb;constructor
  ·rintro(q | q)
   ·exact absurd q c1
   rw [eb]at q;exact .inr (by rw [FR];exact this.1 q)
  rintro(q | q)
  ·exact absurd (Ku.2 q) c1
  rw [FR]at q;exact .inr (by rw [eb];exact this.2 q)
 have hp:((lO R B j e0 f0).map fun d0=>bh (bT n (aD n R B)) j (g d0)).Perm (lO (bo (bT n (aD n R B)) n) (bD (bT n (aD n R B))) j e f):=by
  refine(rN ?_ (z6 _ _ _ _ _)).2 fun d=>?_
  ·refine kM.2 ((z6 R B j e0 f0).imp_of_mem fun {d1 d2} h1 h2 bt q=>bt ?_);have a1:=hg d1 h1;have a2:=hg d2 h2;rw [<-a1.2,<-a2.2];exact(h.sX hj a1.1 a2.1).1 q
  rw [db,wV];constructor
  ·rintro⟨d0,qe,rfl⟩;have a1:=hg d0 qe;have a2:=wV.1 qe;have a3:=h.fin hj a1.1;rw [<-a1.2]at a2;exact⟨a3.1,a3.2,(P7 _ a1.1).2 a2.2.2.1,(PX _ a1.1).2 a2.2.2.2⟩
  rintro⟨q1,q2,q3,q4⟩;obtain⟨k,hk,c,hc,ec⟩:=h.Dv q1.1 q1.2;have r:=(h.fin hk hc).2;rw [<-ec,q2]at r;obtain rfl:k=j:=by omega
  have g1:=h.at_ hc hk;rw [ec]at q3 q4;have qe:gi (gl (aD n R B) c) k∈lO R B k e0 f0:=wV.2 ⟨g1.1,g1.2,(P7 _ hc).1 q3,(PX _ hc).1 q4⟩;refine⟨_,qe,?_⟩;have a1:=hg _ qe;rw [ec];exact(h.sX hk a1.1 hc).2 a1.2
 have:=hp.length_eq;rw [fk,hm]at this;exact this.symm
theorem eV.JI(h:eV n R B):ns (bT n (aD n R B)):=by
 have hl:=h.len;have hb:=h.pos.oQ;have B7:0< (aD n R B).length:=List.length_pos_iff.2 h.ye.1;refine⟨by rw [hl,h.SG];exact hb,?_,?_⟩
 ·unfold fe;rw [hl,h.yJ,h.nl]
 rw [hl];refine⟨fun e=>?_,fun e h0 h1=>?_,h.Xz,h.Xy⟩
 ·have:=h.yJ;rw [e]at this;simp at this;omega
 obtain⟨i,hi,a,ha,ea⟩:=h.Dv h0 h1;refine⟨_,h.F5.2 ⟨a,ha,O⟩,?_⟩;rw [ea];unfold il;exact db.2 ⟨i,fU.2 hi,O⟩
theorem eV.gd(h:eV n R B):jL (bT n (aD n R B))=0:=Ga h.ll h.JI
end
theorem Pb{M:ah}(h:jL M=0):tF (aF M M.length+2) (mC M) (pQ M)/\mg (jX (aF M M.length+2) (mC M)) (pQ M)/\∃U,l9 (jX (aF M M.length+2) (mC M)) (pQ M) U/\cU U M.length 0=(gl M 0).length:=by
 obtain⟨hM,hG⟩:=qQ h;have hP:=qv hM hG.1;have hb:=XY hM;have rp:=Tk hP hb;have hs:=agd hP hb hG.2.2.2.2.2;obtain⟨U,hU⟩:=rp.en fun e h0 h1=>by have:=(hP.ri h0 h1).2;omega
 have hl:=Ex hP;have hf:=rp.flags hU (o:=0) ⟨⟨by omega,by omega⟩,by rw [hl.r0];rfl⟩ fun i a _=>hl.bot a
 have e:(fe M).length=(gl M 0).length:=hG.2.1;unfold fe at e;rw [e]at hf;rw [jg]at hb hs hU;exact⟨hb,hs,U,hU,hf.symm⟩
def Bf(M K:ah)(kind:Int):Nat:=(gl M 0).length* (gl K 0).length* (if kind=0 then jD (M.length+1) (K.length+1)else jD M.length K.length)
theorem S3{M K:ah}{kind:Int}(h:ja M K kind=0):yy (gK M K kind) (iQ M K kind) (qu M K kind)/\(aD (gK M K kind) (iQ M K kind) (qu M K kind)).length=Bf M K kind:=by
 obtain⟨hp,h5,JR⟩:=HK h;obtain⟨nN,uf,ue⟩:=EN hp;obtain⟨kY,mT⟩:=qQ uf;obtain⟨mh,oZ⟩:=qQ ue;have l1:=x5 kY mT.1;have l2:=x5 mh oZ.1;have d1:=FQ (qv kY mT.1) mT.2.2.2.2.1;have d2:=FQ (qv mh oZ.1) oZ.2.2.2.2.1;have c1:=FJ (qv kY mT.1) mT.2.2.1;have c2:=FJ (qv mh oZ.1) oZ.2.2.1;rw [jg]at d1 d2 c1 c2;have hk:=HG (kind:=kind) kY mh;have m1:=kY.1;have k1:=mh.1;have ni:2<=iw M.length K.length kind:=by unfold iw;split<;>omega
 obtain⟨b1,s1,U1,e1,f1⟩:=Pb uf;obtain⟨b2,s2,U2,e2,f2⟩:=Pb ue;refine⟨aff l1 l2 b1 b2 s1 s2 d1 d2 c1 c2 nN hk (by omega) ⟨by omega,.inl (by omega)⟩,?_⟩;have:=afe l1 l2 b1 b2 e1 e2 nN hk (by omega);rw [f1,f2]at this;exact this
theorem ae0{M K:ah}{kind:Int}(h:ja M K kind=0)(hf:Bf M K kind<=400):eV (gK M K kind) (iQ M K kind) (qu M K kind):=by
 have hq:=S3 h;exact⟨(L1 h).1,hq.1,(HK h).2.1,by rw [hq.2];exact hf⟩
theorem ae1{M K:ah}{kind:Int}(h:ja M K kind=0)(hf:Bf M K kind<=400):jL (lH M K kind)=0/\(lH M K kind).length=gK M K kind/\(gl (lH M K kind) 0).length=Bf M K kind/\aF (lH M K kind) (lH M K kind).length=(iQ M K kind).length:=by
 have hY:=ae0 h hf;have hq:=S3 h;have e:lH M K kind=bT (gK M K kind) (aD (gK M K kind) (iQ M K kind) (qu M K kind)):=by
  unfold lH;rw [if_pos h];exact(HA (by rw [hq.2];exact hf)).2.2
 rw [e];refine⟨hY.gd,hY.len,by rw [hY.nl,hq.2],by rw [hY.len,hY.SG]⟩
theorem afb{m1 m2:Nat}{rk1 rk2:Int->Int}{kind:Int}(k:Nat):(b5 m1 m2 rk1 rk2 kind k).length<=m1*m2:=by
 have hm:∀c∈b5 m1 m2 rk1 rk2 kind k,(0<=c.1/\c.1< (m1:Int))/\(0<=c.2/\c.2< (m2:Int)):=fun c hc=>by
  obtain⟨i,_,h1,h2,_⟩:=sF.1 hc;exact⟨h1,h2⟩
 have hn:=EO (m1:=m1) (m2:=m2) (rk1:=rk1) (rk2:=rk2) (kind:=kind) k;generalize b5 m1 m2 rk1 rk2 kind k=L at hm hn;have h1:(L.map fun c=>c.1* (m2:Int)+c.2).Nodup:=zD hn fun x hx y hy e=>by
  have hx:=hm x hx;have hy:=hm y hy;have e:x.1* (m2:Int)+x.2=y.1* (m2:Int)+y.2:=e;have e3:x.1=y.1:=by
   have a:(x.1* (m2:Int)+x.2) / (m2:Int)=(y.1* (m2:Int)+y.2) / (m2:Int):=by rw [e]
   rwa [Int.add_comm,Int.add_mul_ediv_right _ _ (by omega),Int.add_comm (y.1*_),Int.add_mul_ediv_right _ _ (by omega),Int.ediv_eq_zero_of_lt hx.2.1 hx.2.2,Int.ediv_eq_zero_of_lt hy.2.1 hy.2.2,Int.zero_add,Int.zero_add]at a
  rw [e3]at e;exact Prod.ext e3 (by omega)
 have:=pL (N:=m1*m2) h1 fun v hv=>by
  obtain⟨c,hc,rfl⟩:=db.1 hv;have hc:=hm c hc;have h3:0<=c.1* (m2:Int):=Int.mul_nonneg hc.1.1 (by omega);have h4:c.1* (m2:Int)<=((m1:Int) - 1)* (m2:Int):=Int.mul_le_mul_of_nonneg_right (by omega) (by omega);rw [Int.sub_mul,Int.one_mul]at h4;have h5:((m1*m2:Nat):Int)=(m1:Int)* (m2:Int):=Int.natCast_mul m1 m2;exact⟨by omega,by omega⟩
 rwa [fk]at this
theorem aey(M K:ah)(kind:Int):(iQ M K kind).length<=(aF M M.length+2)* (aF K K.length+2):=by
 unfold iQ;rw [fk];exact afb _
end
section
open Go.RowKit
theorem ae9{M K:ah}{kind:Int}(h1:oE M K kind=0):∃ok:Bool,(ok=true↔ja M K kind=0)/\(ok=false->ja M K kind=3)/\
 ∀X Z Y W cx cz cy cw uG vu w',uJ w' X (fD M.length (bo M M.length)) (aF M M.length) Y uG (bD M)->uJ w' Z (fD K.length (bo K K.length)) (aF K K.length) W vu (bD K)->aG prog 209 [.agg #[ak (M.length:Int),.slice X (aF M M.length+2) cx,.slice Y (aF M M.length+2) cy],.agg #[ak (K.length:Int),.slice Z (aF K K.length+2) cz,.slice W (aF K K.length+2) cw],ak kind] w' (Ig (rC M K kind) (nq M K kind) (np M K kind) ok w'):=by
 obtain⟨nN,uf,ue⟩:=EN h1;obtain⟨kY,mT⟩:=qQ uf;obtain⟨mh,oZ⟩:=qQ ue;have h5:=kY.1;have h6:=mh.1;have dO:=afa h1;have hpN:(if gK M K kind<=5/\(iQ M K kind).length<=500 then((gK M K kind:Nat):Int)else 0)=rC M K kind:=by
  unfold rC
  by_cases h:gK M K kind<=5/\(iQ M K kind).length<=500
  ·rw [ay h,ay (dO.1 h)]
  rw [aw h,aw (by rw [dO.2 h];decide)]
 have hpR:(if gK M K kind<=5/\(iQ M K kind).length<=500 then iQ M K kind else [])=nq M K kind:=by
  unfold nq
  by_cases h:gK M K kind<=5/\(iQ M K kind).length<=500
  ·rw [ay h,ay (dO.1 h)]
  rw [aw h,aw (by rw [dO.2 h];decide)]
 have hpB:(if gK M K kind<=5/\(iQ M K kind).length<=500 then qu M K kind else [])=np M K kind:=by
  unfold np
  by_cases h:gK M K kind<=5/\(iQ M K kind).length<=500
  ·rw [ay h,ay (dO.1 h)]
  rw [aw h,aw (by rw [dO.2 h];decide)]
 refine⟨decide (gK M K kind<=5/\(iQ M K kind).length<=500),?_,fun h=>dO.2 (of_decide_eq_false h),fun X Z Y W cx cz cy cw uG vu w' iX ou=>?_⟩
 ·rw [kU];refine⟨dO.1,fun h=>ob fun h'=>?_⟩;rw [dO.2 h']at h;exact absurd h (by decide)
 have:=(ac2 X Z Y W cx cz cy cw (aF M M.length) (aF K K.length) _ _ uG vu (bD M) (bD K) M.length K.length kind (gK M K kind) w' iX ou (x5 kY mT.1) (x5 mh oZ.1) nN (HG kY mh) (by omega) (by omega)).mono fun _ _ h=>h.b
 rw [<-hpN,<-hpR,<-hpB];exact this
abbrev eZ:ah:=[[1,0]]
def Fb(w:aa)(v:ad)(w':aa):Prop:=∃A,∃r:aN,v= .agg #[.slice A 1 1]/\St w w' (aT 24 2 A 1 1 [r] eZ)
theorem Fb.rows{w w':aa}{v:ad}(h:Fb w v w'):∃A,∃r:aN,v= .agg #[.slice A 1 1]/\br w' A 1 [r] eZ/\Below w.heap.size w w':=by
 obtain⟨A,r,hv,au⟩:=h;exact⟨A,r,hv,St.tx (ks:=[]) (by rw [fM];exact au) O,au.below⟩
theorem RH(w:aa):aG prog 147 [] w (Fb w):=by
 refine bA func147 O ntmps147 O (rB O O) (a8 O (gf (St.refl w) O ?_));intro A0 w1 aA;refine ar O (Is aA O O O O O O ?_);intro A1 w2 aB;have aB:St w w2 (az 2 A1 2 2 [1,0]::[dY A0 none 0 0]):=aB;refine kO aB O O O fun A2 w3 aH=>Iq (by exact inferInstance) O O O O (cG 1 2 aH O O O O O O O ?_);intro w4 aV;refine bM O (rF O (aV.rd 2 O) ?_);exact⟨A2,⟨A1,2,2⟩,O,aV.sub (show List.Sublist [_,_] [_,_,_] from((List.nil_sublist _).cons_cons _).cons_cons _)⟩
theorem TK(w:aa):aG prog 153 [] w (Fb w):=by
 refine bA func153 O ntmps153 O (rB O O) (a8 O (gf (St.refl w) O ?_));intro A0 w1 aA;refine ar O (Is aA O O O O O O ?_);intro A1 w2 aB;have aB:St w w2 (az 2 A1 2 2 [1,0]::[dY A0 none 0 0]):=aB;refine kO aB O O O fun A2 w3 aH=>Iq (by exact inferInstance) O O O O (cG 1 2 aH O O O O O O O ?_);intro w4 aV;refine bM O (rF O (aV.rd 2 O) ?_);exact⟨A2,⟨A1,2,2⟩,O,aV.sub (show List.Sublist [_,_] [_,_,_] from((List.nil_sublist _).cons_cons _).cons_cons _)⟩
end
section
variable{kind:Int}
theorem FW:aZ eZ:=by decide
theorem Bd:aF eZ 1=2:=by kernel_rfl
theorem N6:bo eZ 1=[0,0]:=by kernel_rfl
theorem Xq(d e:Int):¬qG eZ d e:=fun⟨_,_,i,hi,k,hk,_⟩=>by
 have:i<1:=hi;omega
theorem xg:bD eZ=[[],[]]:=by
 have h:∀e:Int,(fun e=> (bN (aF eZ eZ.length)).filter fun d=> @decide (qG eZ d e) (Classical.propDecidable _)) e=[]:=fun e=>List.filter_eq_nil_iff.2 fun d _ hd=>Xq d e (@uy _ (Classical.propDecidable _) hd)
 unfold bD;rw [od (g:=fun _=> ([]:ai)) fun e _=>h e];show(bN (aF eZ 1)).map _=_;rw [Bd];rfl
theorem FV:aD 1 [0,0] [[],[]]=[[0],[1]]:=by decide
theorem Xp:ns eZ:=by
 refine⟨by show aF eZ 1<=500;rw [Bd];omega,?_,?_⟩
 ·unfold fe;show(aD 1 (bo eZ 1) (bD eZ)).length=_;rw [N6,xg,FV];rfl
 show yy 1 (bo eZ 1) (bD eZ);rw [N6,xg];refine⟨by rw [FV];simp,fun e h0 h1=>?_,?_,?_⟩
 ·rw [FV];have h1:e<2:=h1;rcases(show e=0\/e=1 by omega)with rfl | rfl
  ·exact⟨[0],by simp,by simp⟩
  exact⟨[1],by simp,by simp⟩
 ·intro i e f h0 h1 eB cC _;obtain rfl:i=0:=by omega
  have he:e= -1:=by rcases eB with h | h<;>omega
  have hf:f= -1:=by rcases cC with h | h<;>omega
  subst he;subst hf;decide
 rw [FV];intro a b dN hb;have hb:b<2:=hb;obtain rfl:a=0:=by omega
 obtain rfl:b=1:=by omega
 exact .step (.refl (by decide)) (i:=0) (by omega) (by decide) ⟨by decide,by decide,fun k hk bt=>by omega⟩
theorem Jj:jL eZ=0:=Ga FW Xp
noncomputable def fW(kind:Int):Nat->ah
 | 0=>eZ
 | j+1=>lH (fW kind j) eZ kind
theorem We(r:Nat):jD r 1=r+1:=by
 induction r with
 | zero=>exact Fy 1
 | succ r ih=>rw [Nz,ih,IW]
theorem Jc(hk:kind=1\/kind=2){M:ah}{j f e:Nat}(hg:jL M=0)(hl:M.length=j+1)(hf:(gl M 0).length=f)(ho:aF M M.length<=e)(h4:j<=2)(he:(e+2)*4<=500):
 ja M eZ kind=0/\(f*2* (j+2)<=400->jL (lH M eZ kind)=0/\(lH M eZ kind).length=j+2/\(gl (lH M eZ kind) 0).length=f*2* (j+2)/\aF (lH M eZ kind) (lH M eZ kind).length<=(e+2)*4):=by
 have hN:gK M eZ kind=j+2:=by
  unfold gK iw;rw [aw (by omega),hl];show((((j+1:Nat):Int))+ ((1:Nat):Int)).toNat=_;omega
 have hR:(iQ M eZ kind).length<=(e+2)*4:=by
  have:=aey M eZ kind;have e2:aF eZ eZ.length=2:=Bd;rw [e2]at this;exact nv this (Nat.mul_le_mul_right _ (by omega))
 have hp:ja M eZ kind=0:=by
  have:oE M eZ kind=0:=by
   unfold oE;rw [ay ⟨(qQ hg).1,FW⟩,ay (by omega),ay hg,Jj]
  unfold ja;rw [ay this,aw (by omega)]
 refine⟨hp,fun iY=>?_⟩;have hz:Bf M eZ kind=f*2* (j+2):=by
  unfold Bf;rw [aw (by omega),hf,hl];show f*2*jD (j+1) 1=_;rw [We]
 have h:=ae1 hp (by rw [hz];exact iY);exact⟨h.1,h.2.1.trans hN,h.2.2.1.trans hz,by rw [h.2.2.2];exact hR⟩
theorem Df(hk:kind=1\/kind=2):∀j:Nat,j<=2->jL (fW kind j)=0/\ja (fW kind j) eZ kind=0:=by
 have s0:=Jc hk (M:=fW kind 0) (j:=0) (f:=2) (e:=2) Jj O O (by show aF eZ 1<=2;rw [Bd];omega) (by omega) (by omega);have t0:=s0.2 (by omega);have s1:=Jc hk (M:=fW kind 1) (j:=1) (f:=8) (e:=16) t0.1 t0.2.1 t0.2.2.1 t0.2.2.2 (by omega) (by omega);have t1:=s1.2 (by omega);have s2:=Jc hk (M:=fW kind 2) (j:=2) (f:=48) (e:=72) t1.1 t1.2.1 t1.2.2.1 t1.2.2.2 (by omega) (by omega);intro j hj;rcases(show j=0\/j=1\/j=2 by omega)with rfl | rfl | rfl
 ·exact⟨Jj,s0.1⟩
 ·exact⟨t0.1,s1.1⟩
 exact⟨t1.1,s2.1⟩
instance ahF(n:Nat)(fl:ah)(i a b:Nat):Decidable (lL n fl i a b):=by unfold lL;infer_instance
instance ahG(M:ah)(d e:Int):Decidable (qG M d e):=by unfold qG;infer_instance
def SE(n:Nat)(fl:ah)(i a:Nat):ai:=((List.range fl.length).filter fun b=>decide (lL n fl i a b/\b≠a)).map fun b:Nat=> (b:Int)
def LQ(n:Nat)(fl:ah):ah:=(List.range n).map fun i=> (List.range fl.length).flatMap (SE n fl i)
theorem ad1(n:Nat)(fl:ah):bT n fl=LQ n fl:=by
 unfold bT LQ tv;refine od fun i _=>?_
 congr 1
 funext a;unfold yc SE
 congr 1
 exact List.filter_congr fun b _=>jJ.2 Iff.rfl
def OQ(M:ah):ah:=(bN (aF M M.length)).map fun e=> (bN (aF M M.length)).filter fun d=>decide (qG M d e)
theorem OS(M:ah):bD M=OQ M:=by
 unfold bD OQ;refine od fun e _=>?_
 exact List.filter_congr fun d _=>jJ.2 Iff.rfl
theorem HI{M K:ah}(BM BK:ah)(n:Nat)(L:List (Int×Int))(R:ai)(B fl X:ah)(hM:bD M=BM)(hK:bD K=BK)(hp:ja M K kind=0)(hn:gK M K kind=n)(hL:b5 (aF M M.length+2) (aF K K.length+2) (mC M) (mC K) kind n=L)(hR:L.map (cg (mC M) (mC K) kind)=R)(hB:nX (dC (aF M M.length) BM) (dC (aF K K.length) BK) L=B)(hf:aD n R B=fl)(h4:fl.length<=400)(hX:LQ n fl=X):lH M K kind=X:=by
 have e1:EI M K kind=L:=by unfold EI;rw [hn];exact hL
 have e2:iQ M K kind=R:=by unfold iQ;rw [e1];exact hR
 have e3:qu M K kind=B:=by
  unfold qu;rw [e1,<-hB];show nX (dC _ (bD M)) (dC _ (bD K)) L=_;rw [hM,hK]
 unfold lH;rw [ay hp,hn,e2,e3,(HA (by rw [hf];exact h4)).2.2,hf,ad1,hX]
end
section
open Go.RowKit
theorem HV(o b mv:ai):(pe o b mv).length=o.length:=by simp [pe]
theorem afZ{o b mv:ai}{k:Nat}(hk:k<o.length):(pe o b mv).take (k+1)=(pe o b mv).take k++ [gi b (gi mv (gi o k))]:=by
 rw [rQ (by rw [HV];exact hk),bO hk];simp [pe]
theorem Jv(A:aj)(n c:Nat)(rs:List aN)(xss:ah)(N:Nat)(f:Int)(w:aa)(hR:br w A n rs xss)(hM:aZ xss)(hN:N=(gl xss 0).length)(h0:0<=f)(hf:f<N):
 aG prog 159 [.slice A n c,ak f] w (fun v w'=>∃A' c' rs',v= .agg #[.slice A' n c']/\rs'.length=n/\St w w' (aT 24 2 A' n c' rs' (dV N xss f))):=by
 subst hN;have hP:=hM.yg h0 hf;have hs:=hM.2.2.1.sys;have h5:=hM.1;have JQ:=hM.2.1;have gP:=hR.len;have ql:(gl xss 0).length=(rg rs 0).n:=hR.oG (by omega) (by omega);have aah:dV (gl xss 0).length xss f=xss.map fun mv=>pe (b8 (gl xss 0).length xss f) (kB (gl xss 0).length (b8 (gl xss 0).length xss f)) mv:=O
 have uc:∀x:Int,0<=x->x< ((gl xss 0).length:Int)->0<=gi (kB (gl xss 0).length (b8 (gl xss 0).length xss f)) x/\gi (kB (gl xss 0).length (b8 (gl xss 0).length xss f)) x< ((gl xss 0).length:Int):=fun x h0 h1=>by
  obtain⟨k,hk,_,hb⟩:=hP.vD h0 h1;omega
 have o0:=V0 (gl xss 0).length (b8 (gl xss 0).length xss f);have qd:kB (gl xss 0).length (b8 (gl xss 0).length xss f)=yi (List.replicate (gl xss 0).length 0) (fun k=>gi (b8 (gl xss 0).length xss f) k) (fun k=> (k:Int)) (gl xss 0).length:=by
  unfold kB;rw [hP.len]
 have G3:=aer A n c rs xss (gl xss 0).length f;generalize hNe:(gl xss 0).length=N at*;generalize hoe:b8 N xss f=o at*;generalize fq:kB N o=b at*;have KS:=hP.len;have cT:∀k:Nat,k<N->0<=gi o k/\gi o k<N:=fun k hk=>hP.cj hk
 rw [aah];refine bA func159 O ntmps159 O (rB O O) (a8 O (gf (St.refl w) O ?_));intro Ac w1 aA;refine ar O (aL (G3 _ (aA.bY hR) (by omega) (by omega) hs (by omega) h0 hf) O ?_);rintro _ w2 ⟨Ao,co,rfl,au⟩;rw [KS]at au|-;have aB:=aA.call au;have dW:=aB.bY hR;refine ar O (aM dW.top.2 O (dI dW.top O (bc O O ?_)));refine wW N aB (by rw [<-ql];rfl) O (by omega) ?_;intro A6 w3 aH;refine ar O (bc O O (aI O ?_));refine Cd.loop (α:=Nat) (fun k=> [(0,.slice A n c),(4,.pointer Ac),(5,.slice Ao N co),(6,.slice A6 N N),(23,.slice Ao N co),(24,ak N),(25,ak k)]) (fun k w'=>St w w' [az 2 A6 N N (yi (List.replicate N 0) (fun k=>gi o k) (fun k=> (k:Int)) k),az 2 Ao N co o,Bx 37 1 Ac [.slice none 0 0]]/\k<=N) (fun k=>N - k) 0 ⟨O,O,O,by rw [<-ql];rfl,O,O,O,av⟩ ⟨aH,a7 _⟩ ?_;rintro k e w4 ⟨aV,hk⟩;have Gr:=aV.bI 1 O;refine bL O (aR _ O (fun h1=>?_) (fun h1=>?_))
 ·have dO:=cT k (by omega);refine aE O (aM Gr.2 O (bk Gr O (ar O (aM (aV.bI 0 O).2 O (lu 0 aV O O O (by omega) ?_)))));intro w5 aW;refine ar O (aK O (aU O (tQ ?_)));exact⟨k+1,by show N - (k+1)<N - k;omega,(ajs O),aW,by omega⟩
 have ui:k=N:=by omega
 subst ui;rw [<-qd]at aV;refine bw O (bz (dh O ?_));refine gf aV O ?_;intro Ad w5 aW;have Zr:St w w5 (Bx 37 1 Ad [.slice none 0 0]::az 2 A6 k k b::az 2 Ao k co o::Bx 37 1 Ac [.slice none 0 0]::cd 24 none 0 0 []::[]):=(aW.nil 24).perm (me (l₁:=[_]) (l₂:=[_,_,_,_]));refine ar O (bc O O (aI O ?_));refine Cd.loop (α:=Nat×aj×Nat×List aN) (fun s=> [(4,.pointer Ac),(5,.slice Ao k co),(6,.slice A6 k k),(9,.pointer Ad),(35,.slice A n c),(36,ak n),(37,ak (s.1:Int))]) (fun s w'=>St w w' (Bx 37 1 Ad [.slice s.2.1 s.1 s.2.2.1]::az 2 A6 k k b::az 2 Ao k co o::Bx 37 1 Ac [.slice none 0 0]::cd 24 s.2.1 s.1 s.2.2.1 s.2.2.2::du 2 s.2.2.2 ((xss.map fun mv=>pe o b mv).take s.1))/\s.1<=n/\s.2.2.2.length=s.1) (fun s=>n - s.1) (0,none,0,[]) (ajs O) ⟨Zr,a7 _,O⟩ ?_;rintro⟨i,A3,c3,qz⟩ e w6 ⟨ba,hi,hlen⟩;dsimp only at ba hi hlen|-;refine bL O (aR _ O (fun h1=>?_) (fun h1=>?_))
 ·have bX:i<n:=by omega
  have hx:i<xss.length:=by omega
  have J3:=ba.bY hR;have e2:gl xss i=xss[i]:=by simp [gl,cN,fS hx]
  have wg:=hs (gl xss i) (tW (by omega) (by omega));have QP:=J3.oG (k:=(i:Int)) (by omega) h1;refine aE O (aM J3.top.2 O (dI J3.top O ?_));refine ar O (bc O O (aI O ?_));refine Cd.loop (α:=Nat×aj×Nat) (fun s=> [(4,.pointer Ac),(5,.slice Ao k co),(6,.slice A6 k k),(9,.pointer Ad),(35,.slice A n c),(36,ak n),(37,ak i),(11,.slice (rg rs i).a (rg rs i).n (rg rs i).c),(12,.slice s.2.1 s.1 s.2.2),(41,.slice Ao k co),(42,ak k),(43,ak (s.1:Int))]) (fun s w'=>St w w' (az 2 s.2.1 s.1 s.2.2 ((pe o b (gl xss i)).take s.1)::Bx 37 1 Ad [.slice A3 i c3]::az 2 A6 k k b::az 2 Ao k co o::Bx 37 1 Ac [.slice none 0 0]::cd 24 A3 i c3 qz::du 2 qz ((xss.map fun mv=>pe o b mv).take i))/\s.1<=k) (fun s=>k - s.1) (0,none,0) (ajs O) ⟨ba.nil _,a7 _⟩ ?_;rintro⟨j,iM,I0⟩ e w7 ⟨bG,hj⟩;dsimp only at bG hj|-;have PJ:=bG.bI 3 O;have yM:=bG.bI 2 O;have PD:=(bG.bY hR).at_ (i:=(i:Int)) (by omega) h1;refine bL O (aR _ O (fun h2=>?_) (fun h2=>?_))
  ·have vh:=cT j (by omega);have hv:=wg.2 _ vh.1 vh.2;have hbv:=uc _ hv.1 hv.2;refine aE O (aM PJ.2 O (bk PJ O (ar O (aM PD.2 O (bk PD O (aM yM.2 O (bk yM O (eH bG O O O ?_))))))));intro A9 w9 bH;refine fN 1 bH O (bH.bI 0 O) O O O ?_;intro bR dT eL bQ;have bQ:=bQ.tail;refine ar O (aK O (aU O (tQ ?_)));refine⟨(j+1,bR,dT),by show k - (j+1)<k - j;omega,(ajs O),?_,by show j+1<=k;omega⟩;show St w eL (az _ bR (j+1) dT ((pe o b (gl xss i)).take (j+1))::_);rw [afZ (by omega)];exact bQ
  have tf:j=k:=by omega
  subst tf;rw [jW (by rw [HV];omega)]at bG;refine bw O (bz (dh O ?_));refine aX (bG.rd 1 O) O (bn (bG.rd 1 O) O (ar O (kO bG O O O ?_)));intro A9 w9 bH;refine mJ 6 bH O (bH.gQ 0 O) O O O (by omega) (by omega) O ?_;intro bR dT eL bQ;have bQ:=bQ.tail;refine aX (bQ.rd 1 O) O (kf 1 bQ O O O O O ?_);intro fI dX;have dX:St w fI (az 2 iM j I0 (pe o b (gl xss i))::Bx 37 1 Ad [.slice bR (i+1) dT]::az 2 A6 j j b::az 2 Ao j co o::Bx 37 1 Ac [.slice none 0 0]::cd 24 bR (i+1) dT (qz++ [⟨iM,j,I0⟩])::du 2 qz ((xss.map fun mv=>pe o b mv).take i)):=dX;refine ar O (aK O (aU O (tQ ?_)));refine⟨(i+1,bR,dT,qz++ [⟨iM,j,I0⟩]),by show n - (i+1)<n - i;omega,(ajs O),?_,bX,by simp [hlen]⟩;show St w fI (_::_::_::_::cd _ bR (i+1) dT (qz++ [_])::du _ (qz++ [_]) ((xss.map fun mv=>pe o b mv).take (i+1)));rw [rQ (by rw [fk];exact hx),HW (by simp [hlen];omega),List.getElem_map,<-e2];refine dX.perm ?_;exact me (l₁:=[_]) (l₂:=_::_::_::_::_::du 2 qz ((xss.map fun mv=>pe o b mv).take i))
 have bW:i=n:=by omega
 subst bW;rw [jW (by rw [fk];omega)]at ba;refine bw O (bz (dh O ?_));refine ao.b7 0 (ba.rd 0 O) O O O (cG 1 3 ba O O O O O O O ?_);intro w7 bG;refine bM O (rF O (bG.rd 3 O) ?_);exact⟨A3,c3,qz,O,hlen,bG.sub ((((List.sublist_cons_self _ _).trans (List.sublist_cons_self _ _)).trans (List.sublist_cons_self _ _)).trans (List.sublist_cons_self _ _))⟩
end
section
abbrev Mx:=ah
def Lz(a b:Mx):Prop:=¬iD b a<0
theorem adl{a b:Mx}(h:Lz a b)(h':Lz b a):a=b:=by
 unfold Lz at h h';rw [Sb]at h;exact Hv.1 (by omega)
def M4(N:Nat)(xss:Mx):Prop:=∀f,f<N->¬iD (dV N xss (f:Nat)) xss<0
instance (N:Nat)(xss:Mx):Decidable (M4 N xss):=by unfold M4;exact inferInstance
end
section
open Go.RowKit
section
variable {P:Program} {N:Nat} {ops:Array Oper} {K:Env->aa->Prop} {rest:List Oper} {e:Env} {w:aa} {d:Nat} {ty:ae} {pos:String} {af:Array Edge}
end
theorem St.Si{w0 w:aa}{t1 t2:ae}{A:aj}{n c:Nat}{rs:List aN}{xss:ah}{ks:List Ck}(h:St w0 w ks)(Lc:(aT t1 t2 A n c rs xss).Sublist ks)(hl:xss.length=n):br w A n rs xss:=(h.sub Lc).kb hl
theorem LA(A:aj)(n c:Nat)(rs:List aN)(xss:ah)(N:Nat)(w:aa)(hR:br w A n rs xss)(hM:aZ xss)(hN:N=(gl xss 0).length):
 aG prog 87 [.agg #[.slice A n c]] w (fun v w'=>∃A' c' rs',v= .agg #[.slice A' n c']/\rs'.length=n/\St w w' (aT 24 2 A' n c' rs' (iP N xss))):=by
 have h5:=hM.1;have JQ:=hM.2.1;have gP:=hR.len;have ql:(gl xss 0).length=(rg rs 0).n:=hR.oG (by omega) (by omega);have pC:∀k,(ku N xss k).length=n:=fun k=>by
  induction k with
  | zero=>rw [ku,qP,gP]
  | succ k ih=>
   rw [ku]
   split
   ·rw [qP,gP]
   ·exact ih
 have iY:∀f:Int,(dV N xss f).length=n:=fun f=>by rw [qP,gP]
 refine bA func87 O ntmps87 O (rB O O) (a8 O (jd (St.refl w) O O ?_));intro Ab w1 aA;refine gf aA O fun Ac w2 aB=>ar O (aX (aB.rd 1 O) O (bn (aB.rd 1 O) O (aL (Jv A n c rs xss N 0 _ (aB.bY hR) hM hN (by omega) (by omega)) O ?_)));rintro _ w3 ⟨A4,c4,da,rfl,hl4,au⟩;have aH:=(aB.call au).perm me;refine gf aH O fun Ad w4 aV=>cG 1 0 aV O O O O O O O ?_;intro w5 aW;have aW:St w w5 (Bx 37 1 Ad [.slice A4 n c4]::Bx 37 1 Ac [.slice none 0 0]::Bx 37 1 Ab [.slice A n c]::aT 24 2 A4 n c4 da (ku N xss 0)):=aW;refine ar O (aL (sY Ab A n c rs xss _ _ (aW.rd 2 O) O (aW.bY hR) (by omega)) O ?_);rintro _ w5 ⟨rfl,rfl⟩;refine aI O ?_;refine Cd.loop (α:=Nat×aj×Nat×List aN) (fun s=> [(1,.pointer Ab),(2,.pointer Ac),(3,.pointer Ad),(9,ak N),(10,ak (s.1:Int))]) (fun s w'=>St w w' (Bx 37 1 Ad [.slice s.2.1 n s.2.2.1]::Bx 37 1 Ac [.slice none 0 0]::Bx 37 1 Ab [.slice A n c]::aT 24 2 s.2.1 n s.2.2.1 s.2.2.2 (ku N xss s.1))/\s.1<=N/\s.2.2.2.length=n) (fun s=>N - s.1) (0,A4,c4,da) ⟨O,O,O,by rw [hN,ql];rfl,O,av⟩ ⟨aW,a7 _,hl4⟩ ?_;rintro⟨k,A6,c6,fL⟩ e w6 ⟨ba,hk,wc⟩;dsimp only at ba hk wc|-;refine bL O (aR _ O (fun h1=>?_) (fun h1=>?_))
 ·refine aE O (aX (ba.rd 2 O) O (bn (ba.rd 2 O) O (ar O (aL (Jv A n c rs xss N k _ (ba.bY hR) hM hN (by omega) (by omega)) O ?_))));rintro _ w7 ⟨A7,c7,ET,rfl,hl7,abr⟩;have bG:=(ba.call abr).perm me;refine gf bG O fun A8 w8 bS=>cG 1 0 bS O O O O O O O ?_;intro w9 bH;have bH:St w w9 (Bx 37 1 A8 [.slice A7 n c7]::Bx 37 1 Ad [.slice A6 n c6]::Bx 37 1 Ac [.slice none 0 0]::Bx 37 1 Ab [.slice A n c]::(aT 24 2 A6 n c6 fL (ku N xss k)++aT 24 2 A7 n c7 ET (dV N xss k))):=bH;have zt:br w9 A6 n fL (ku N xss k):=bH.Si ((qI _ _).trans (mH [_,_,_,_] _)) (pC k);have hr7:br w9 A7 n ET (dV N xss k):=bH.Si (((((mH _ _).cons _).cons _).cons _).cons _) (iY k);refine ar O (ao.b7 0 (bH.rd 0 O) O O O (ao.b7 0 (bH.rd 1 O) O O O (aL (WO A7 n c7 ET _ A6 n c6 fL _ _ hr7 zt (by omega)) O ?_)));rintro _ eL ⟨rfl,abp⟩;have bQ:=bH.aq abp.below;refine aI O (aR _ O (fun h2=>?_) (fun h2=>?_))
  ·have hle:ku N xss (k+1)=dV N xss k:=by rw [ku,ay h2]
   refine aE O (ao.b7 0 (bQ.rd 0 O) O O O (cG 1 1 bQ O O O O O O O ?_));intro fI dX;refine ar O (aK O (aU O (tQ ?_)));refine⟨(k+1,A7,c7,ET),by show N - (k+1)<N - k;omega,(ajs O),?_,by show k+1<=N;omega,hl7⟩;show St w fI (Bx _ 1 Ad [.slice A7 n c7]::_::_::aT _ _ A7 n c7 ET (ku N xss (k+1)));rw [hle];exact dX.sub (((List.Sublist.cons_cons _ (List.Sublist.cons_cons _ (List.Sublist.cons_cons _ (mH _ _)))).cons _))
  ·have hle:ku N xss (k+1)=ku N xss k:=by rw [ku,aw h2]
   refine aE O (aK O (aU O (tQ ?_)));refine⟨(k+1,A6,c6,fL),by show N - (k+1)<N - k;omega,(ajs O),?_,by show k+1<=N;omega,wc⟩;show St w eL (Bx _ 1 Ad [.slice A6 n c6]::_::_::aT _ _ A6 n c6 fL (ku N xss (k+1)));rw [hle];exact bQ.sub (((List.Sublist.cons_cons _ (List.Sublist.cons_cons _ (List.Sublist.cons_cons _ (qI _ _)))).cons _))
 ·have ui:k=N:=by omega
  rw [ui]at ba;refine bw O (bz (dh O ?_));refine ao.b7 0 (ba.rd 0 O) O O O (cG 1 1 ba O O O O O O O ?_);intro w7 bG;refine bM O (rF O (bG.rd 1 O) ?_);exact⟨A6,c6,fL,O,wc,bG.sub (((List.sublist_cons_self _ _).trans (List.sublist_cons_self _ _)).trans (List.sublist_cons_self _ _))⟩
def mR(N:Nat)(xss:ah):Nat->List (ah)
 | 0=> []
 | k+1=>if dV N xss k∈mR N xss k then mR N xss k else mR N xss k++ [dV N xss k]
end
section
def EZ:ah:=[[2,5,0,7,6,1,4,3],[1,0,3,2,5,4,7,6]]
def FH:ah:=[[6,7,14,15,26,27,0,1,20,21,32,33,18,19,2,3,38,39,12,13,8,9,44,45,30,31,4,5,40,41,24,25,10,11,46,47,42,43,16,17,28,29,36,37,22,23,34,35],[2,4,0,5,1,3,8,10,6,11,7,9,14,16,12,17,13,15,20,22,18,23,19,21,26,28,24,29,25,27,32,34,30,35,31,33,38,40,36,41,37,39,44,46,42,47,43,45],[1,0,3,2,5,4,7,6,9,8,11,10,13,12,15,14,17,16,19,18,21,20,23,22,25,24,27,26,29,28,31,30,33,32,35,34,37,36,39,38,41,40,43,42,45,44,47,46]]
def E0:ah:=[[4,6,5,7,0,2,1,3],[1,0,3,2,5,4,7,6]]
def FI:ah:=[[16,17,24,25,32,33,40,41,18,19,26,27,34,35,42,43,0,1,8,9,36,37,44,45,2,3,10,11,38,39,46,47,4,5,12,13,20,21,28,29,6,7,14,15,22,23,30,31],[4,6,5,7,0,2,1,3,12,14,13,15,8,10,9,11,20,22,21,23,16,18,17,19,28,30,29,31,24,26,25,27,36,38,37,39,32,34,33,35,44,46,45,47,40,42,41,43],[1,0,3,2,5,4,7,6,9,8,11,10,13,12,15,14,17,16,19,18,21,20,23,22,25,24,27,26,29,28,31,30,33,32,35,34,37,36,39,38,41,40,43,42,45,44,47,46]]
theorem TP:fW 1 1=EZ:=
 HI [[],[]] [[],[]] 2 [(1,1),(1,2),(2,1),(2,2),(1,3),(2,3),(3,1),(3,2)] [0,0,0,0,1,1,1,1] [[],[],[],[],[0,1],[2,3],[0,2],[1,3]] [[0,4],[0,6],[1,4],[1,7],[2,5],[2,6],[3,5],[3,7]] EZ xg xg (Df (.inl rfl) 0 (by omega)).2 (by kernel_rfl) (by kernel_rfl) (by kernel_rfl) (by kernel_rfl) (by kernel_rfl) (by decide) (by kernel_rfl)
theorem agK:bD EZ=[[],[],[],[],[0,1],[0,2],[1,3],[2,3]]:=(OS _).trans (by kernel_rfl)
theorem Wq:fW 1 2=FH:=by
 have h:=(Df (kind:=1) (.inl O) 1 (by omega)).2;show lH (fW 1 1) eZ 1=_;rw [TP]at h|-;exact HI [[],[],[],[],[0,1],[0,2],[1,3],[2,3]] [[],[]] 3 [(1,1),(1,2),(2,1),(2,2),(3,1),(3,2),(4,1),(4,2),(1,3),(2,3),(3,3),(4,3),(5,1),(5,2),(6,1),(6,2),(7,1),(7,2),(8,1),(8,2),(5,3),(6,3),(7,3),(8,3),(9,1),(9,2)] [0,0,0,0,0,0,0,0,1,1,1,1,1,1,1,1,1,1,1,1,2,2,2,2,2,2] [[],[],[],[],[],[],[],[],[0,1],[2,3],[4,5],[6,7],[0,2],[1,3],[0,4],[1,5],[2,6],[3,7],[4,6],[5,7],[0,1,2,3,8,9,12,13],[0,1,4,5,8,10,14,15],[2,3,6,7,9,11,16,17],[4,5,6,7,10,11,18,19],[0,2,4,6,12,14,16,18],[1,3,5,7,13,15,17,19]] [[0,8,20],[0,8,21],[0,12,20],[0,12,24],[0,14,21],[0,14,24],[1,8,20],[1,8,21],[1,13,20],[1,13,25],[1,15,21],[1,15,25],[2,9,20],[2,9,22],[2,12,20],[2,12,24],[2,16,22],[2,16,24],[3,9,20],[3,9,22],[3,13,20],[3,13,25],[3,17,22],[3,17,25],[4,10,21],[4,10,23],[4,14,21],[4,14,24],[4,18,23],[4,18,24],[5,10,21],[5,10,23],[5,15,21],[5,15,25],[5,19,23],[5,19,25],[6,11,22],[6,11,23],[6,16,22],[6,16,24],[6,18,23],[6,18,24],[7,11,22],[7,11,23],[7,17,22],[7,17,25],[7,19,23],[7,19,25]] FH agK xg h (by kernel_rfl) (by kernel_rfl) (by kernel_rfl) (by kernel_rfl) (by kernel_rfl) (by decide) (by kernel_rfl)
theorem TQ:fW 2 1=E0:=
 HI [[],[]] [[],[]] 2 [(0,1),(0,2),(1,0),(2,0),(1,1),(1,2),(2,1),(2,2)] [0,0,0,0,1,1,1,1] [[],[],[],[],[0,2],[1,2],[0,3],[1,3]] [[0,4],[0,6],[1,5],[1,7],[2,4],[2,5],[3,6],[3,7]] E0 xg xg (Df (.inr rfl) 0 (by omega)).2 (by kernel_rfl) (by kernel_rfl) (by kernel_rfl) (by kernel_rfl) (by kernel_rfl) (by decide) (by kernel_rfl)
theorem agL:bD E0=[[],[],[],[],[0,2],[0,3],[1,2],[1,3]]:=(OS _).trans (by kernel_rfl)
theorem Wr:fW 2 2=FI:=by
 have h:=(Df (kind:=2) (.inr O) 1 (by omega)).2;show lH (fW 2 1) eZ 2=_;rw [TQ]at h|-;exact HI [[],[],[],[],[0,2],[0,3],[1,2],[1,3]] [[],[]] 3 [(0,1),(0,2),(1,0),(2,0),(3,0),(4,0),(1,1),(1,2),(2,1),(2,2),(3,1),(3,2),(4,1),(4,2),(5,0),(6,0),(7,0),(8,0),(5,1),(5,2),(6,1),(6,2),(7,1),(7,2),(8,1),(8,2)] [0,0,0,0,0,0,1,1,1,1,1,1,1,1,1,1,1,1,2,2,2,2,2,2,2,2] [[],[],[],[],[],[],[0,2],[1,2],[0,3],[1,3],[0,4],[1,4],[0,5],[1,5],[2,4],[2,5],[3,4],[3,5],[0,2,4,6,10,14],[1,2,4,7,11,14],[0,2,5,6,12,15],[1,2,5,7,13,15],[0,3,4,8,10,16],[1,3,4,9,11,16],[0,3,5,8,12,17],[1,3,5,9,13,17]] [[0,6,18],[0,6,20],[0,8,22],[0,8,24],[0,10,18],[0,10,22],[0,12,20],[0,12,24],[1,7,19],[1,7,21],[1,9,23],[1,9,25],[1,11,19],[1,11,23],[1,13,21],[1,13,25],[2,6,18],[2,6,20],[2,7,19],[2,7,21],[2,14,18],[2,14,19],[2,15,20],[2,15,21],[3,8,22],[3,8,24],[3,9,23],[3,9,25],[3,16,22],[3,16,23],[3,17,24],[3,17,25],[4,10,18],[4,10,22],[4,11,19],[4,11,23],[4,14,18],[4,14,19],[4,16,22],[4,16,23],[5,12,20],[5,12,24],[5,13,21],[5,13,25],[5,15,20],[5,15,21],[5,17,24],[5,17,25]] FI agL xg h (by kernel_rfl) (by kernel_rfl) (by kernel_rfl) (by kernel_rfl) (by kernel_rfl) (by decide) (by kernel_rfl)
end
end Go.Proofs.YtagdamiiececaaaGreatDoor.Vc
