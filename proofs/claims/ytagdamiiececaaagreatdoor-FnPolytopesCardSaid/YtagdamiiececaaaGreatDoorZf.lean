/-
 Lemmas. Conditions: as each states them.
-/
import Derived.Test.YtagdamiiececaaaGreatDoorZe
set_option maxHeartbeats 8000000
namespace Go.Proofs.YtagdamiiececaaaGreatDoor.Vc
open Tryz
section
open Go.RowKit
variable{w w0:aa}{As:aj}{ix q:Nat}{rD:List aL}{B':ah}{Y ks:List Ck}{k' x:Ck}
def FU(w0:aa)(ks:List Ck)(ix:Nat)(As:aj)(v:ad)(w':aa):Prop:=
 ∃(n:Int) (A D:aj) (cA cD m k:Nat) (R:ai) (rs:List aL) (B:ah) (X:List Ck) (k':Ck),v= .agg #[ak n,.slice A m cA,.slice D k cD]/\(-1000<=n/\n<=1000)/\m<=100000/\k<=100000/\fu w0 As k'/\(∀(jY:aa) (Y:List Ck),St w0 jY (X++Y)->bu jY A m R/\bq jY D k rs B)/\St w0 w' (X++ks.set ix k')
abbrev mn(A5 A4:aj)(n:Int)(AR:aj)(e cR:Nat)(R:ai)(AD:aj)(cD:Nat)(rD rs:List aL)(B:ah)(ks:List Ck):List Ck:=
 a7 A5 n AR e cR AD e cD::a7 A4 0 none 0 0 none 0 0::aw 2 AR e cR R::bE 24 AD e cD rD::(b6 2 rs B++ks)
def nV(e:Nat)(rD rs:List aL)(B' B:ah):Prop:=rD.length=e/\B'.length=e/\rs.length=e/\B.length=e/\∀j,j<e->∃l:Nat,l<=(rs.getD j cL).n/\rD.getD j cL=⟨(rs.getD j cL).a,l,(rs.getD j cL).c⟩/\B'.getD j []=(B.getD j []).take l
theorem bu.tk{A:aj}{n l:Nat}{xs:ai}(h:bu w A n xs)(hl:l<=n):bu w A l (xs.take l):=by
 have:=h.cut (c:=n) (l:=0) (h:=l) (by omega) hl (dh _);rw [GU,List.drop_zero,Nat.sub_zero]at this;exact this
theorem nV.rows{e cD:Nat}{rs:List aL}{B:ah}{AD:aj}(h:nV e rD rs B' B)(hS:St w0 w (bE 24 AD e cD rD::(b6 2 rs B++Y))):bq w AD e rD B':=by
 obtain⟨h1,h2,h3,h4,h5⟩:=h;refine⟨hS.fz 0 O,h2,fun j hj=>?_,fun j hj=>?_⟩
 ·obtain⟨l,hl,e1,e2⟩:=h5 j hj;rw [e1,e2];have hg:=vV (t:=2) (rs:=rs) (xss:=B) (i:=j) (by omega) (by omega);have hr:=hS.bo (j+1) (by rw [List.getElem?_cons_succ,lY (by rw [s6 (by omega)];omega)];exact hg);exact hr.tk hl
 obtain⟨l,hl,e1,e2⟩:=h5 j hj;rw [e1];have hg:=vV (t:=2) (rs:=rs) (xss:=B) (i:=j) (by omega) (by omega);have hc:=hS.cap (j+1) (by rw [List.getElem?_cons_succ,lY (by rw [s6 (by omega)];omega)];exact hg);exact⟨jb hl hc.1,hc.2⟩
theorem FX{e:Nat}{rs:List aL}{B:ah}(h1:rs.length=e)(h2:B.length=e){AD:aj}(hR:bq w AD e rs B):nV e rs rs B B:=⟨h1,h2,h1,h2,fun j hj=> ⟨(rs.getD j cL).n,dh _,rfl,by
 rw [lD];rw [<-(hR.row j hj).1];exact dh _⟩⟩
theorem vR{AR AD:aj}{n:Int}{e cR cD:Nat}{R:ai}{rs:List aL}{B:ah}(hC:nV e rD rs B' B)(hn: -1000<=n/\n<=1000)(he:e<=100000)(hK:fu w0 As k')(hS:St w0 w (x::aw 2 AR e cR R::bE 24 AD e cD rD::(b6 2 rs B++ks.set ix k'))):
 FU w0 ks ix As (.agg #[ak n,.slice AR e cR,.slice AD e cD]) w:=by
 refine⟨n,AR,AD,cR,cD,e,e,R,rD,B',aw 2 AR e cR R::bE 24 AD e cD rD::b6 2 rs B,k',O,hn,he,he,hK,fun jY Y h=> ⟨h.bo 0 O,hC.rows (Y:=Y) h.tail⟩,hS.tail⟩
theorem Sf(X:List Ck)(ix:Nat){k:Ck}(most:Nat)(hS:St w0 w (X++ks))(hk:ks[ix]?=some k)(hK:fu w0 As k)(hm:8<=most/\most<=1000):
 aJ prog 103 [.pointer As,ak most] w (fun v w'=>∃(n N:Nat) (A:aj) (c:Nat) (rs:List aL) (xss:ah) (k':Ck),v= .agg #[.slice A n c]/\(1<=n/\n<=5)/\(1<=N/\N<=most)/\rs.length=n/\xss.length=n/\GM N xss/\fu w0 As k'/\St w0 w' (aQ 24 2 A n c rs xss++ (X++ks.set ix k'))):=by
 have e:(X++ks)[X.length+ix]?=some k:=by
  rw [lZ (by omega),Nat.add_sub_cancel_left];exact hk
 have es:∀k',(X++ks).set (X.length+ix) k'=X++ks.set ix k':=fun k'=>by rw [List.set_append,aC (by omega),Nat.add_sub_cancel_left]
 refine(J3 (X.length+ix) most hS e hK hm).mono ?_;rintro v w' ⟨n,N,A,c,rs,xss,k',h1,h2,h3,h4,h5,h6,h7,h8⟩;rw [es]at h8;exact⟨n,N,A,c,rs,xss,k',h1,h2,h3,h4,h5,h6,h7,h8⟩
theorem J1(X:List Ck)(ix:Nat){k:Ck}(A:aj)(n c:Nat)(xs:ai)(hS:St w0 w (X++ks))(hk:ks[ix]?=some k)(hK:fu w0 As k)(hR:∀w' Y,St w0 w' (X++Y)->bu w' A n xs)(hn:0<n/\n<=1000000):
 aJ prog 105 [.pointer As,.slice A n c] w (fun v w'=>∃(x:Int) (k':Ck),v=ak x/\x∈xs/\fu w0 As k'/\St w0 w' (X++ks.set ix k')):=by
 have e:(X++ks)[X.length+ix]?=some k:=by
  rw [lZ (by omega),Nat.add_sub_cancel_left];exact hk
 have es:∀k',(X++ks).set (X.length+ix) k'=X++ks.set ix k':=fun k'=>by rw [List.set_append,aC (by omega),Nat.add_sub_cancel_left]
 refine(Sc (X.length+ix) A n c xs hS e hK (fun k' w' h=>hR w' (ks.set ix k') (by rw [es]at h;exact h)) hn).mono ?_;rintro v w' ⟨r,k',h1,h2,h3,h4⟩;rw [es]at h4;exact⟨r,k',h1,h2,h3,h4⟩
theorem nV.cut{e:Nat}{rs:List aL}{B:ah}(h:nV e rs rs B B){l:Nat}(hq:q<e)(hl:l<=(rg rs q).n):nV e (rs.set (q:Int).toNat ⟨(rg rs q).a,l,(rg rs q).c⟩) rs (B.set q ((B.getD q []).take l)) B:=by
 obtain⟨h1,h2,h3,h4,h5⟩:=h;refine⟨by rw [ij];exact h1,by rw [ij];exact h4,h3,h4,fun j hj=>?_⟩;rw [fW]
 by_cases c:q=j
 ·subst c;refine⟨l,hl,?_,?_⟩
  ·rw [cz,List.getElem?_set_self (by omega)];rfl
  rw [cz,List.getElem?_set_self (by omega)];rfl
 obtain⟨l',e0,e1,e2⟩:=h5 j hj;refine⟨l',e0,?_,?_⟩
 ·rw [cz,List.getElem?_set_ne c,<-cz];exact e1
 rw [cz,List.getElem?_set_ne c,<-cz];exact e2
structure Mc(w0:aa)(ks:List Ck)(ix:Nat)(As A5 A4:aj)(n:Int)(AR:aj)(e0 cR:Nat)(AD:aj)(cD:Nat)(rs:List aL)(B:ah)(S:Nat->Bool)(e:Env)(w:aa):Prop where
 f0:e 0= .pointer As
 f4:e 4= .pointer A4
 f5:e 5= .pointer A5
 f6:e 6=ak e0
 p0:S 0=true->e 142= .pointer (aD A5 1)
 p1:S 1=true->e 143= .slice AR e0 cR
 p2:S 2=true->e 144= .pointer As
 p3:S 3=true->e 145=ak e0
 p4:S 4=true->∃y:Int,e 146=ak y/\0<=y/\y<e0
 p5:S 5=true->e 147= .pointer As
 p6:S 6=true->e 148= .pointer (aD A5 0)
 p7:S 7=true->e 149=ak n
 p9:S 9=true->∃z:Int,e 151=ak z
 fy:S 10=true->∃y:Int,e 152= .pointer (aD AR y.toNat)/\0<=y/\y<e0
 mem:∃(b:List Ck) (kk:Ck) (R1:ai),fu w0 As kk/\(S 8=false->b=[])/\(S 8=true->∃A9,e 150= .slice A9 3 3/\b=[aw 2 A9 3 3 [-1,n,0]])/\St w0 w (b++mn A5 A4 n AR e0 cR R1 AD cD rs rs B (ks.set ix kk))
structure Mb(w0:aa)(ks:List Ck)(ix:Nat)(As A5 A4:aj)(n:Int)(AR:aj)(e0 cR:Nat)(R:ai)(AD:aj)(cD:Nat)(rs:List aL)(B:ah)(q:Nat)(S:Nat->Bool)(e:Env)(w:aa):Prop where
 f0:e 0= .pointer As
 f4:e 4= .pointer A4
 f5:e 5= .pointer A5
 f13:e 13=ak q
 p0:S 0=true->e 96= .pointer (aD A5 2)
 p1:S 1=true->e 97= .slice AD e0 cD
 p2:S 2=true->e 98=ak q
 p3:S 3=true->e 99= .pointer (aD A5 2)
 p4:S 4=true->e 100= .slice AD e0 cD
 p5:S 5=true->e 101=ak q
 p6:S 6=true->e 102= .pointer (aD AD (q:Int).toNat)
 p7:S 7=true->e 103= .slice (rg rs q).a (rg rs q).n (rg rs q).c
 p8:S 8=true->e 104= .pointer As
 p9:S 9=true->e 105= .pointer (aD A5 2)
 fy:S 10=true->e 106= .slice AD e0 cD
 jm:S 11=true->e 107=ak q
 jn:S 12=true->e 108= .pointer (aD AD (q:Int).toNat)
 jo:S 13=true->e 109= .slice (rg rs q).a (rg rs q).n (rg rs q).c
 jq:S 14=true->e 110=ak ((rg rs q).n:Int)
 jr:S 15=true->e 111=ak ((rg rs q).n+1:Int)
 js:S 16=true->∃y:Int,e 112=ak y/\0<=y/\y<=(rg rs q).n
 jt:S 17=true->∃l:Nat,e 113= .slice (rg rs q).a l (rg rs q).c/\l<=(rg rs q).n
 ju:S 18=true->e 114= .pointer (aD AD (q:Int).toNat)
 mem:∃(kk:Ck) (rD:List aL) (B1:ah),fu w0 As kk/\(S 19=false->rs=rD/\B=B1)/\nV e0 rD rs B1 B/\St w0 w (mn A5 A4 n AR e0 cR R AD cD rD rs B (ks.set ix kk))
structure wi where
 m:Nat
 AR:aj
 cR:Nat
 Lr:ai
 AD:aj
 cD:Nat
 cq:List aL
 BL:ah
def wi.ma(x:wi)(A8:aj)(n:Int):List Ck:=a7 A8 n x.AR x.m x.cR x.AD x.m x.cD::aw 2 x.AR x.m x.cR x.Lr::bE 24 x.AD x.m x.cD x.cq::b6 2 x.cq x.BL
structure Ma(w0:aa)(As A5 A4 A8 b9:aj)(n:Int)(AR:aj)(e0 cR i g l10 en:Nat)(L:ai)(x:wi)(S:Nat->Bool)(e:Env)(w:aa):Prop where
 f4:e 4= .pointer A4
 f5:e 5= .pointer A5
 f6:e 6=ak e0
 f7:e 7=ak g
 f8:e 8= .pointer A8
 f9:e 9=ak i
 f10:e 10= .slice b9 l10 en
 p0:S 0=true->e 74= .pointer (aD A8 1)
 p1:S 1=true->e 75= .slice x.AR x.m x.cR
 p2:S 2=true->e 76= .pointer (aD A5 1)
 p3:S 3=true->e 77= .slice AR e0 cR
 p4:S 4=true->e 78=ak i
 p5:S 5=true->e 79= .pointer (aD AR (i:Int).toNat)
 p6:S 6=true->∃r:Int,e 80=ak r
 p9:S 9=true->e 83= .pointer (aD A8 1)
 mem:∃(b:List Ck) (A1:aj) (m1 c1:Nat) (L1:ai) (Ab:aj) (mb cb:Nat),(S 7=false->b=[])/\(S 7=true->∃A9 r,e 81= .slice A9 1 1/\b=[aw 2 A9 1 1 [r]])/\(S 8=false->x.AR=A1/\x.m=m1/\x.cR=c1)/\(S 8=true->e 82= .slice A1 m1 c1/\m1=x.m+1)/\(S 10=false->x.AR=Ab/\x.m=mb/\x.cR=cb)/\(S 10=true->A1=Ab/\m1=mb/\c1=cb)/\
  St w0 w (b++ (a7 A8 n Ab mb cb x.AD x.m x.cD::aw 2 A1 m1 c1 L1::bE 24 x.AD x.m x.cD x.cq::aw 2 b9 l10 en L::b6 2 x.cq x.BL))
theorem Sq(ix:Nat){k:Ck}(most:Nat)(hS:St w0 w ks)(hk:ks[ix]?=some k)(hK:fu w0 As k)(hm:8<=most/\most<=80):
 aJ prog 54 [.pointer As,ak most] w (FU w0 ks ix As):=by
 refine br func54 O ntmps54 O (pD O O) (a8 O (kV hS O ?_));intro A4 w1 ay;refine ar O (aI (J3 (ix+1) most ay (by exact hk) hK (by omega)) O ?_);rintro _ w2 ⟨r,N,A,c,KM,M,k1,rfl,hr,hN,bM,eu,hG,mC,aM⟩;have aM:St w0 w2 (aQ 24 2 A r c KM M++ (a7 A4 0 none 0 0 none 0 0::ks.set ix k1)):=aM;have O1:(gl M 0).length=N:=hG.first (by omega);have zK:n3 M:=⟨by omega,by omega,by rw [O1];exact hG.sys⟩;refine aI (J4 A r c KM M w2 ((aM.sub (kU _ _)).kq eu) zK) O ?_;rintro _ w3 ⟨AR,cR,AD,cD,rs,rfl,gV,ax⟩;have hof:=Fk M M.length;have hmul:M.length* (gl M 0).length<=5*80:=Nat.mul_le_mul (by omega) (by omega);have hP:=Ho zK (by omega);have vo:1<=aV M M.length:=by
  obtain⟨i,hi⟩:∃i,M.length=i+1:=⟨M.length - 1,by omega⟩;have h1:=wF zK i 0 (by omega);rw [hi,aV];omega
 have xj:∀x∈bP M,x.length<=aV M M.length:=fun x hx=>by
  unfold bP at hx;obtain⟨y,_,rfl⟩:=fh.1 hx;exact jb (mX _ _) (by rw [BI];exact dh _)
 have ny:=nu M M.length;have iH:=oj M;have bH:=fun(q:bq w3 AD (aV M M.length) rs (bP M))=>FX gV iH q
 have uZ:nV (aV M M.length) rs rs (bP M) (bP M):=bH ((ax.sub (show(aQ 24 2 AD (aV M M.length) cD rs (bP M)).Sublist _ from List.Sublist.cons _ (by rw [fO];exact gB _))).kq iH);have aU:=aM.call ax;clear bH ax aM ay;generalize hen:aV M M.length=e0 at*;generalize bS M M.length=R at*;generalize bP M=B at*;have aU:St w0 w3 (aw 2 AR e0 cR R::(aQ 24 2 AD e0 cD rs B++ (a7 A4 0 none 0 0 none 0 0::ks.set ix k1))):=aU.sub (by
  rw [List.cons_append,fO];exact(List.Sublist.append_left (gq _ _) _).cons_cons _)
 refine kV aU O fun A5 w4 bd=>dG 3 0 bd O O O O O O O ?_;intro w5 bh;have bh:St w0 w5 (mn A5 A4 (M.length:Int) AR e0 cR R AD cD rs rs B (ks.set ix k1)):=(show St w0 w5 (a7 A5 (M.length:Int) AR e0 cR AD e0 cD::aw 2 AR e0 cR R::(aQ 24 2 AD e0 cD rs B++ (a7 A4 0 none 0 0 none 0 0::ks.set ix k1))) from bh).perm (List.Perm.cons _ ((List.Perm.cons _ iA).trans (List.Perm.swap _ _ _)));clear aU bd;have fR:=kP (k':=k1) hk;refine ar O (aS (bh.rd 0 O) O (WI (j:=1) (bh.rd 0 O) O O O O O ?_));refine ba O O (ar O ?_);have lN:∀(kk:List Ck),mn A5 A4 (M.length:Int) AR e0 cR R AD cD rs rs B kk=(a7 A5 (M.length:Int) AR e0 cR AD e0 cD::a7 A4 0 none 0 0 none 0 0::aw 2 AR e0 cR R::aQ 24 2 AD e0 cD rs B)++kk:=fun kk=>O
 refine aI (uy (a7 A5 (M.length:Int) AR e0 cR AD e0 cD::a7 A4 0 none 0 0 none 0 0::aw 2 AR e0 cR R::aQ 24 2 AD e0 cD rs B) ix 14 bh fR mC) O ?_;rintro _ w6 ⟨x,k2,rfl,hx,ir,bD⟩;rw [jx]at bD;have bD:St w0 w6 (mn A5 A4 (M.length:Int) AR e0 cR R AD cD rs rs B (ks.set ix k2)):=bD;clear bh;have nC:=kP (k':=k2) hk;refine aE O (aN _ O (fun c0=>?_) (fun c0=>?_))
 ·have QU:∀e:Nat,e<e0->∀d∈gl B e,0<=d/\d<e0:=fun e he d hd=>by
   have h1:=((hP.row e (by omega)).2 d hd).1;omega
  have tI:St w0 w6 ((a7 A5 (M.length:Int) AR e0 cR AD e0 cD::a7 A4 0 none 0 0 none 0 0::aw 2 AR e0 cR R::aQ 24 2 AD e0 cD rs B)++ks.set ix k2):=bD;refine aG O (aI (uy _ ix e0 tI nC ir) O ?_);rintro _ w7 ⟨y,k3,rfl,hy,kE,bl⟩;rw [jx]at bl;have bl:St w0 w7 (mn A5 A4 (M.length:Int) AR e0 cR R AD cD rs rs B (ks.set ix k3)):=bl;have yi:=hy.2.1 (by omega);obtain⟨g,rfl⟩:∃g:Nat,y=g:=⟨y.toNat,by omega⟩;have hge0:g<e0:=by omega
  have tB:bq w7 AD e0 rs B:=(bl.sub (((kU (aQ 24 2 AD e0 cD rs B) (ks.set ix k3)).cons _).cons _ |>.cons _)).kq iH;have va:bu w7 AR e0 R:=bl.bo 2 O;have QA:maxLen=9223372036854775807:=O;have fm:Rd w7 A5 3 _:=bl.rd 0 O;have sH: -900<=(M.length:Int)/\(M.length:Int)<=900:=⟨by omega,by omega⟩;clear bD tI hP uZ zK;generalize (M.length:Int)=n at*;refine ar O (aS fm O (fJ (j:=0) fm O O O O O (yY (by exact inferInstance) (by exact inferInstance) (by exact inferInstance) O O O O O O (kV (St.refl w7) O ?_))));intro A8 w8 hS;refine dG 3 0 hS O O O O O O O ?_;clear hS;intro w9 hS;have qg:St w7 w9 (wi.ma ⟨0,none,0,[],none,0,[],[]⟩ A8 n):=((hS.nil 24).nil 2).perm (ka (l₁:=[_,_]) (l₂:=[_]));clear hS;refine aE O (Cd.loop (α:=Nat×wi) (fun z=> [(4,.pointer A4),(5,.pointer A5),(6,ak e0),(7,ak g),(8,.pointer A8),(9,ak (z.1:Int))]) (fun z w'=>z.1<=e0/\z.2.m<=z.1/\z.2.cq.length=z.2.m/\z.2.BL.length=z.2.m/\St w7 w' (z.2.ma A8 n)) (fun z=>e0 - z.1) (0,⟨0,none,0,[],none,0,[],[]⟩) (WM O) ⟨bn _,dh _,O,O,qg⟩ ?_);clear qg;rintro⟨i,x⟩ ev w8 ⟨hi,tX,hr,hb,hS⟩;dsimp only at hi tX hr hb hS|-;refine bX O (aN _ O (fun h1=>?_) (fun h1=>?_))
  ·have tT:i<e0:=by omega
   refine df O (aN _ O (fun h2=>?_) (fun h2=>?_))
   ·refine aG O (aK O (aR O (tQ ?_)));exact⟨(i+1,x),by show e0 - (i+1)<e0 - i;omega,⟨O,O,O,O,O,aH (Value.int .i64) (by omega),av⟩,by show i+1<=e0;omega,by show x.m<=i+1;omega,hr,hb,hS⟩
   refine aG O (iB hS O ?_);intro b9 w9 bg;have bg:St w7 w9 (aw 2 b9 0 0 []::x.ma A8 n):=bg;have fp:=(tB.at_ (i:=(i:Int)) (by omega) (by omega)).1;have PC:=xj (gl B i) (by show B.getD i []∈B;rw [cz,eS (by omega)];exact dU _);refine aE O (Cd.loop (α:=Nat×Nat×aj×Nat×ai) (fun z=> [(4,.pointer A4),(5,.pointer A5),(6,ak e0),(7,ak g),(8,.pointer A8),(9,ak i),(10,.slice z.2.2.1 z.2.1 z.2.2.2.1),(11,ak (z.1:Int))]) (fun z w'=>z.1<=(gl B i).length/\z.2.1<=z.1/\St w7 w' (aw 2 z.2.2.1 z.2.1 z.2.2.2.1 z.2.2.2.2::x.ma A8 n)) (fun z=> (gl B i).length - z.1) (0,0,b9,0,[]) (WM O) ⟨bn _,dh _,bg⟩ ?_);clear bg hS;rintro⟨q,l10,b9,en,L⟩ ev w9 ⟨hq,Ql,bg⟩;dsimp only at hq Ql bg|-;have xi:=bg.kM fm;have si:=bg.bO tB;have bW:=si.at_ (i:=(i:Int)) (by omega) (by omega);refine a8 O (aS xi O (WI (j:=2) xi O O O O O (ar O (aB si.top.2 O (ck si.top O ?_)))));refine ba O O (aE O ?_);refine aN _ O (fun h4=>?_) (fun h4=>?_)
   ·have kJ:q< (gl B i).length:=by omega
    have hd:=QU i tT _ (gi_in kJ);refine aG O (aS xi O (WI (j:=2) xi O O O O O (ar O (aB si.top.2 O (ck si.top O (ar O (aB bW.2 O (aW bW O (aE O ?_)))))))));refine aN _ O (fun h5=>?_) (fun h5=>?_)
    ·refine aG O (dA O ?_);refine eE bg O O O fun Lm dw bQ=>fj 1 bQ O (bQ.bo 0 O) O O O fun BZ CB ew dT=>aE O (aN _ O (fun h6=>?_) (fun h6=>?_))
     ·exfalso --x
      have h5:(g:Int)<gi (gl B i) q:=h5;have h6:gi (gl B i) q< (g:Int):=h6;omega
     refine aG O (aK O (aR O (tQ ?_)));exact⟨(q+1,l10+1,BZ,CB,_),by show(gl B i).length - (q+1)< (gl B i).length - q;omega,(WM O),by show q+1<=(gl B i).length;omega,by show l10+1<=q+1;omega,dT.tail⟩
    refine df O (aN _ O (fun h6=>?_) (fun h6=>?_))
    ·refine aG O (eE bg O O O ?_);intro Lm dw bQ;refine fj 1 bQ O (bQ.bo 0 O) O O O fun BZ CB ew dT=>ar O (aK O (aR O (tQ ?_)));exact⟨(q+1,l10+1,BZ,CB,_),by show(gl B i).length - (q+1)< (gl B i).length - q;omega,(WM O),by show q+1<=(gl B i).length;omega,by show l10+1<=q+1;omega,dT.tail⟩
    refine aG O (aK O (aR O (tQ ?_)));exact⟨(q+1,l10,b9,en,L),by show(gl B i).length - (q+1)< (gl B i).length - q;omega,(WM O),by show q+1<=(gl B i).length;omega,by show l10<=q+1;omega,bg⟩
   clear bW si xi;have bg:St w7 w9 (a7 A8 n x.AR x.m x.cR x.AD x.m x.cD::aw 2 x.AR x.m x.cR x.Lr::bE 24 x.AD x.m x.cD x.cq::aw 2 b9 l10 en L::b6 2 x.cq x.BL):=bg.perm ((List.Perm.swap _ _ _).trans (((List.Perm.swap _ _ _).trans ((List.Perm.swap _ _ _).cons _)).cons _));refine bk O (bm (mw O ?_));refine tg (by kernel_rfl) (by kernel_rfl) (fun S e1 w1=>Ma w7 As A5 A4 A8 b9 n AR e0 cR i g l10 en L x S e1 w1) (fun w4 hb=> ⟨O,O,O,O,O,O,O,fun h=> (nomatch h),fun h=> (nomatch h),fun h=> (nomatch h),fun h=> (nomatch h),fun h=> (nomatch h),fun h=> (nomatch h),fun h=> (nomatch h),fun h=> (nomatch h),[],x.AR,x.m,x.cR,x.Lr,x.AR,x.m,x.cR,fun _=>O,fun h=> (nomatch h),fun _=> ⟨O,O,O⟩,fun h=> (nomatch h),fun _=> ⟨O,O,O⟩,fun h=> (nomatch h),bg.aq hb⟩) ?_ ?_
   ·intro S q o e1 w4 hq bz hd cT hI;obtain⟨f4,f5,f6,f7,f8,f9,f10,p0,p1,p2,p3,p4,p5,p6,p9,b,A1,m1,c1,L1,Ab,mb,cb,m7,pB,m8,iv,m10,pA,hT⟩:=hI
    match q,hq,bz with
    | 0,hq,bz=>
     obtain rfl:=bV hq;have tL:Rd w4 A8 3 _:=(hT.sub (gq b _)).rd 0 O;refine WH tL (by exact f8) O O O inferInstance (ao.n ?_);exact⟨f4,f5,f6,f7,f8,f9,f10,fun _=>O,p1,p2,p3,p4,p5,p6,p9,b,A1,m1,c1,L1,Ab,mb,cb,m7,pB,m8,iv,m10,pA,hT⟩
    | 1,hq,bz=>
     obtain rfl:=bV hq;have tL:Rd w4 A8 3 _:=(hT.sub (gq b _)).rd 0 O;have n10:S 10=false:=by
      cases h:S 10 with
      | false=>rfl
      | true=>rw [<-bz];exact(b5 (cT 8 _ (b5 (cT 10 _ h rfl) 8 rfl) rfl) 1 rfl).symm
     obtain⟨rfl,rfl,rfl⟩:=m10 n10;refine WI (j:=1) tL (by exact p0 (b5 hd 0 O)) O O O O (ao.n ?_);exact⟨f4,f5,f6,f7,f8,f9,f10,p0,fun _=>O,p2,p3,p4,p5,p6,p9,b,A1,m1,c1,L1,_,_,_,m7,pB,m8,iv,fun _=> ⟨O,O,O⟩,pA,hT⟩
    | 2,hq,bz=>
     obtain rfl:=bV hq;refine WH (hT.kM fm) (by exact f5) O O O inferInstance (ao.n ?_);exact⟨f4,f5,f6,f7,f8,f9,f10,p0,p1,fun _=>O,p3,p4,p5,p6,p9,b,A1,m1,c1,L1,Ab,mb,cb,m7,pB,m8,iv,m10,pA,hT⟩
    | 3,hq,bz=>
     obtain rfl:=bV hq;refine WI (j:=1) (hT.kM fm) (by exact p2 (b5 hd 2 O)) O O O O (ao.n ?_);exact⟨f4,f5,f6,f7,f8,f9,f10,p0,p1,p2,fun _=>O,p4,p5,p6,p9,b,A1,m1,c1,L1,Ab,mb,cb,m7,pB,m8,iv,m10,pA,hT⟩
    | 4,hq,bz=>
     obtain rfl:=bV hq;refine lE O (by exact f9) O (ao.n ?_);exact⟨f4,f5,f6,f7,f8,f9,f10,p0,p1,p2,p3,fun _=>O,p5,p6,p9,b,A1,m1,c1,L1,Ab,mb,cb,m7,pB,m8,iv,m10,pA,hT⟩
    | 5,hq,bz=>
     obtain rfl:=bV hq;refine WB (hT.da va).2 (by exact p3 (b5 hd 3 O)) (by exact p4 (b5 hd 4 O)) O (by omega) (by omega) (ao.n ?_);exact⟨f4,f5,f6,f7,f8,f9,f10,p0,p1,p2,p3,p4,fun _=>O,p6,p9,b,A1,m1,c1,L1,Ab,mb,cb,m7,pB,m8,iv,m10,pA,hT⟩
    | 6,hq,bz=>
     obtain rfl:=bV hq;refine WC (i:=(i:Int)) (hT.da va) (by exact p5 (b5 hd 5 O)) (by omega) O O (ao.n ?_);exact⟨f4,f5,f6,f7,f8,f9,f10,p0,p1,p2,p3,p4,p5,fun _=> ⟨_,O⟩,p9,b,A1,m1,c1,L1,Ab,mb,cb,m7,pB,m8,iv,m10,pA,hT⟩
    | 7,hq,bz=>
     obtain rfl:=bV hq;obtain rfl:=m7 bz;obtain⟨r,OO⟩:=p6 (b5 hd 6 rfl);refine eE hT (by exact OO) O O ?_;intro A9 w9 hT;refine ao.n ?_;exact⟨f4,f5,f6,f7,f8,f9,f10,p0,p1,p2,p3,p4,p5,p6,p9,[aw 2 A9 1 1 [r]],A1,m1,c1,L1,Ab,mb,cb,fun h=> (nomatch (show true=false from h)),fun _=> ⟨A9,r,O,O⟩,m8,iv,m10,pA,hT⟩
    | 8,hq,bz=>
     obtain rfl:=bV hq;obtain⟨A9,r,zD,rfl⟩:=pB (b5 hd 7 rfl);obtain⟨rfl,rfl,rfl⟩:=m8 bz;have n10:S 10=false:=by
      cases h:S 10 with
      | false=>rfl
      | true=>rw [<-bz];exact(b5 (cT 10 _ h rfl) 8 rfl).symm
     refine fj 2 hT O (hT.bo 0 O) (by exact p1 (b5 hd 1 O)) (by exact zD) O ?_;intro A2 c2 w9 hT;refine ao.n ?_;exact⟨f4,f5,f6,f7,f8,f9,f10,p0,p1,p2,p3,p4,p5,p6,p9,[aw 2 A9 1 1 [r]],A2,x.m+1,c2,_,Ab,mb,cb,m7,fun _=> ⟨A9,r,zD,O⟩,fun h=> (nomatch (show true=false from h)),fun _=> ⟨O,O⟩,m10,fun h=> (nomatch n10.symm.trans h),hT⟩
    | 9,hq,bz=>
     obtain rfl:=bV hq;have tL:Rd w4 A8 3 _:=(hT.sub (gq b _)).rd 0 O;refine WH tL (by exact f8) O O O inferInstance (ao.n ?_);exact⟨f4,f5,f6,f7,f8,f9,f10,p0,p1,p2,p3,p4,p5,p6,fun _=>O,b,A1,m1,c1,L1,Ab,mb,cb,m7,pB,m8,iv,m10,pA,hT⟩
    | 10,hq,bz=>
     obtain rfl:=bV hq;obtain⟨A9,r,zD,rfl⟩:=pB (b5 (cT 8 _ (b5 hd 8 rfl) rfl) 7 rfl);obtain⟨qW,rfl⟩:=iv (b5 hd 8 rfl);refine kB 1 hT O (by exact p9 (b5 hd 9 O)) (by exact qW) O O ?_;intro w9 hT;refine ao.n ?_;exact⟨f4,f5,f6,f7,f8,f9,f10,p0,p1,p2,p3,p4,p5,p6,p9,[aw 2 A9 1 1 [r]],A1,x.m+1,c1,L1,A1,x.m+1,c1,m7,fun _=> ⟨A9,r,zD,O⟩,m8,fun _=> ⟨qW,O⟩,fun h=> (nomatch (show true=false from h)),fun _=> ⟨O,O,O⟩,hT⟩
    | q+11,hq,_=>exact(nomatch hq)
   ·intro S e1 w4 dv hI;obtain⟨f4,f5,f6,f7,f8,f9,f10,p0,p1,p2,p3,p4,p5,p6,p9,b,A1,m1,c1,L1,Ab,mb,cb,m7,pB,m8,iv,m10,pA,hT⟩:=hI;obtain⟨qW,rfl⟩:=iv (dv 8 (by decide));obtain⟨rfl,rfl,rfl⟩:=pA (dv 10 (by decide));have hT:=hT.sub (gq b _);refine Ci (F:=[(4,.pointer A4),(5,.pointer A5),(6,ak e0),(7,ak g),(8,.pointer A8),(9,ak i),(10,.slice b9 l10 en)]) ⟨f4,f5,f6,f7,f8,f9,f10,av⟩ (gZ O (aS (hT.rd 0 O) O (WI (j:=2) (hT.rd 0 O) O O O O O (ar O (l6 hT O O O ?_)))));intro A87 w5 gx;refine l5 3 gx O (gx.fz 0 O) O O O (by omega) (by omega) O ?_;intro Lq M3 w6 iu;have iu:=iu.tail;refine aS (iu.rd 0 O) O (kB 0 iu O O O O O ?_);intro oS xe;refine ar O (aK O (aR O (tQ ?_)));exact⟨(i+1,⟨x.m+1,A1,c1,L1,Lq,M3,x.cq++ [⟨b9,l10,en⟩],x.BL++ [L]⟩),by show e0 - (i+1)<e0 - i;omega,⟨O,O,O,O,O,aH (Value.int .i64) (by omega),av⟩,by show i+1<=e0;omega,by show x.m+1<=i+1;omega,by simp [hr],by simp [hb],by
     show St w7 _ (_::_::_::b6 2 (x.cq++ [_]) (x.BL++ [_]));rw [rQ (by omega)];exact xe.perm (((((List.perm_append_singleton _ _).symm).cons _).cons _).cons _)⟩
  refine bk O (bm (ct O ?_));have hS:=bl.call hS;have hS:St w0 w8 (a7 A4 0 none 0 0 none 0 0::(x.ma A8 n++ks.set ix k3)):=(hS.sub (List.Sublist.append_left (((((gq (b6 2 rs B) (ks.set ix k3)).cons _).cons _).cons_cons _).cons _) _)).perm iA;refine bK 2 (hS.rd 1 O) O O O (dG 3 0 hS O O O O O O O ?_);intro w9 bg;refine bI O (jC O (bg.rd 0 O) ?_);refine⟨n,x.AR,x.AD,x.cR,x.cD,x.m,x.m,x.Lr,x.cq,x.BL,aw 2 x.AR x.m x.cR x.Lr::bE 24 x.AD x.m x.cD x.cq::b6 2 x.cq x.BL,k3,O,⟨by omega,by omega⟩,by omega,by omega,kE,fun jY Y h=> ⟨h.bo 0 O,(h.tail.sub ((kU _ _).cons_cons _)).kq hb⟩,bg.tail.tail⟩
 refine df O (aN _ O (fun c1=>?_) (fun c1=>?_))
 ·refine aG O ?_;have tI:St w0 w6 ((a7 A5 (M.length:Int) AR e0 cR AD e0 cD::a7 A4 0 none 0 0 none 0 0::aw 2 AR e0 cR R::aQ 24 2 AD e0 cD rs B)++ks.set ix k2):=bD;refine aI (uy _ ix e0 tI nC ir) O ?_;rintro _ w7 ⟨y,k3,rfl,hy,kE,bl⟩;rw [jx]at bl;have bl:St w0 w7 (mn A5 A4 (M.length:Int) AR e0 cR R AD cD rs rs B (ks.set ix k3)):=bl;have yi:=hy.2.1 (by omega);obtain⟨qr,rfl⟩:∃q:Nat,y=q:=⟨y.toNat,by omega⟩;have oE:qr<e0:=by omega
  have tB:bq w7 AD e0 rs B:=(bl.sub (((kU (aQ 24 2 AD e0 cD rs B) (ks.set ix k3)).cons _).cons _ |>.cons _)).kq iH;have D3:=tB.cap qr oE;have fp:=(tB.row qr oE).1;have PC:=xj (B.getD qr []) (by rw [cz,eS (by omega)];exact dU _);have QA:maxLen=9223372036854775807:=O;have QV:rs.getD qr cL=rg rs qr:=O;rw [QV]at D3 fp;have sH: -900<=(M.length:Int)/\(M.length:Int)<=900:=⟨by omega,by omega⟩;generalize (M.length:Int)=n at*;refine aE O (tg (by kernel_rfl) (by kernel_rfl) (fun S e1 w1=>Mb w0 ks ix As A5 A4 n AR e0 cR R AD cD rs B qr S e1 w1) (fun w4 hb=> ⟨O,O,O,O,fun h=> (nomatch h),fun h=> (nomatch h),fun h=> (nomatch h),fun h=> (nomatch h),fun h=> (nomatch h),fun h=> (nomatch h),fun h=> (nomatch h),fun h=> (nomatch h),fun h=> (nomatch h),fun h=> (nomatch h),fun h=> (nomatch h),fun h=> (nomatch h),fun h=> (nomatch h),fun h=> (nomatch h),fun h=> (nomatch h),fun h=> (nomatch h),fun h=> (nomatch h),fun h=> (nomatch h),fun h=> (nomatch h),k3,rs,B,kE,fun _=> ⟨O,O⟩,uZ,bl.aq hb⟩) ?_ ?_)
  ·intro S q o e1 w4 hq bz hd cT hI;obtain⟨f0,f4,f5,f13,p0,p1,p2,p3,p4,p5,p6,p7,p8,p9,fy,jm,jn,jo,jq,jr,js,jt,ju,kk,rD,B1,cV,m19,hC,hT⟩:=hI
   match q,hq,bz with
   | 0,hq,bz=>
    obtain rfl:=bV hq;refine WH (hT.rd 0 O) (by exact f5) O O O inferInstance (ao.n ?_);exact⟨f0,f4,f5,f13,fun _=>O,p1,p2,p3,p4,p5,p6,p7,p8,p9,fy,jm,jn,jo,jq,jr,js,jt,ju,kk,rD,B1,cV,m19,hC,hT⟩
   | 1,hq,bz=>
    obtain rfl:=bV hq;refine WI (j:=2) (hT.rd 0 O) (by exact p0 (b5 hd 0 O)) O O O O (ao.n ?_);exact⟨f0,f4,f5,f13,p0,fun _=>O,p2,p3,p4,p5,p6,p7,p8,p9,fy,jm,jn,jo,jq,jr,js,jt,ju,kk,rD,B1,cV,m19,hC,hT⟩
   | 2,hq,bz=>
    obtain rfl:=bV hq;refine lE O (by exact f13) O (ao.n ?_);exact⟨f0,f4,f5,f13,p0,p1,fun _=>O,p3,p4,p5,p6,p7,p8,p9,fy,jm,jn,jo,jq,jr,js,jt,ju,kk,rD,B1,cV,m19,hC,hT⟩
   | 3,hq,bz=>
    obtain rfl:=bV hq;refine WH (hT.rd 0 O) (by exact f5) O O O inferInstance (ao.n ?_);exact⟨f0,f4,f5,f13,p0,p1,p2,fun _=>O,p4,p5,p6,p7,p8,p9,fy,jm,jn,jo,jq,jr,js,jt,ju,kk,rD,B1,cV,m19,hC,hT⟩
   | 4,hq,bz=>
    obtain rfl:=bV hq;refine WI (j:=2) (hT.rd 0 O) (by exact p3 (b5 hd 3 O)) O O O O (ao.n ?_);exact⟨f0,f4,f5,f13,p0,p1,p2,p3,fun _=>O,p5,p6,p7,p8,p9,fy,jm,jn,jo,jq,jr,js,jt,ju,kk,rD,B1,cV,m19,hC,hT⟩
   | 5,hq,bz=>
    obtain rfl:=bV hq;refine lE O (by exact f13) O (ao.n ?_);exact⟨f0,f4,f5,f13,p0,p1,p2,p3,p4,fun _=>O,p6,p7,p8,p9,fy,jm,jn,jo,jq,jr,js,jt,ju,kk,rD,B1,cV,m19,hC,hT⟩
   | 6,hq,bz=>
    obtain rfl:=bV hq;refine WB (hT.fz 3 O).2 (by exact p4 (b5 hd 4 O)) (by exact p5 (b5 hd 5 O)) O (by omega) (by omega) (ao.n ?_);exact⟨f0,f4,f5,f13,p0,p1,p2,p3,p4,p5,fun _=>O,p7,p8,p9,fy,jm,jn,jo,jq,jr,js,jt,ju,kk,rD,B1,cV,m19,hC,hT⟩
   | 7,hq,bz=>
    obtain rfl:=bV hq;have n19:S 19=false:=by
     cases h:S 19 with
     | false=>rfl
     | true=>rw [<-bz];exact(b5 (cT 19 _ h rfl) 7 rfl).symm
    obtain⟨rfl,rfl⟩:=m19 n19;refine WJ (i:=(qr:Int)) (hT.fz 3 O) (by exact p6 (b5 hd 6 O)) (by omega) O O (ao.n ?_);exact⟨f0,f4,f5,f13,p0,p1,p2,p3,p4,p5,p6,fun _=>O,p8,p9,fy,jm,jn,jo,jq,jr,js,jt,ju,kk,_,_,cV,fun _=> ⟨O,O⟩,hC,hT⟩
   | 8,hq,bz=>
    obtain rfl:=bV hq;refine uI O (by exact f0) O (ao.n ?_);exact⟨f0,f4,f5,f13,p0,p1,p2,p3,p4,p5,p6,p7,fun _=>O,p9,fy,jm,jn,jo,jq,jr,js,jt,ju,kk,rD,B1,cV,m19,hC,hT⟩
   | 9,hq,bz=>
    obtain rfl:=bV hq;refine WH (hT.rd 0 O) (by exact f5) O O O inferInstance (ao.n ?_);exact⟨f0,f4,f5,f13,p0,p1,p2,p3,p4,p5,p6,p7,p8,fun _=>O,fy,jm,jn,jo,jq,jr,js,jt,ju,kk,rD,B1,cV,m19,hC,hT⟩
   | 10,hq,bz=>
    obtain rfl:=bV hq;refine WI (j:=2) (hT.rd 0 O) (by exact p9 (b5 hd 9 O)) O O O O (ao.n ?_);exact⟨f0,f4,f5,f13,p0,p1,p2,p3,p4,p5,p6,p7,p8,p9,fun _=>O,jm,jn,jo,jq,jr,js,jt,ju,kk,rD,B1,cV,m19,hC,hT⟩
   | 11,hq,bz=>
    obtain rfl:=bV hq;refine lE O (by exact f13) O (ao.n ?_);exact⟨f0,f4,f5,f13,p0,p1,p2,p3,p4,p5,p6,p7,p8,p9,fy,fun _=>O,jn,jo,jq,jr,js,jt,ju,kk,rD,B1,cV,m19,hC,hT⟩
   | 12,hq,bz=>
    obtain rfl:=bV hq;refine WB (hT.fz 3 O).2 (by exact fy (b5 hd 10 O)) (by exact jm (b5 hd 11 O)) O (by omega) (by omega) (ao.n ?_);exact⟨f0,f4,f5,f13,p0,p1,p2,p3,p4,p5,p6,p7,p8,p9,fy,jm,fun _=>O,jo,jq,jr,js,jt,ju,kk,rD,B1,cV,m19,hC,hT⟩
   | 13,hq,bz=>
    obtain rfl:=bV hq;have n19:S 19=false:=by
     cases h:S 19 with
     | false=>rfl
     | true=>rw [<-bz];exact(b5 (cT 19 _ h rfl) 13 rfl).symm
    obtain⟨rfl,rfl⟩:=m19 n19;refine WJ (i:=(qr:Int)) (hT.fz 3 O) (by exact jn (b5 hd 12 O)) (by omega) O O (ao.n ?_);exact⟨f0,f4,f5,f13,p0,p1,p2,p3,p4,p5,p6,p7,p8,p9,fy,jm,jn,fun _=>O,jq,jr,js,jt,ju,kk,_,_,cV,fun _=> ⟨O,O⟩,hC,hT⟩
   | 14,hq,bz=>
    obtain rfl:=bV hq;refine ba (by exact jo (b5 hd 13 O)) O (ao.n ?_);exact⟨f0,f4,f5,f13,p0,p1,p2,p3,p4,p5,p6,p7,p8,p9,fy,jm,jn,jo,fun _=>O,jr,js,jt,ju,kk,rD,B1,cV,m19,hC,hT⟩
   | 15,hq,bz=>
    obtain rfl:=bV hq;refine WG (by exact jq (b5 hd 14 O)) O O (by omega) (ao.n ?_);exact⟨f0,f4,f5,f13,p0,p1,p2,p3,p4,p5,p6,p7,p8,p9,fy,jm,jn,jo,jq,fun _=>O,js,jt,ju,kk,rD,B1,cV,m19,hC,hT⟩
   | 16,hq,bz=>
    obtain rfl:=bV hq;have pc:=kP (k':=kk) hk;have hT:St w0 w4 ((a7 A5 n AR e0 cR AD e0 cD::a7 A4 0 none 0 0 none 0 0::aw 2 AR e0 cR R::bE 24 AD e0 cD rD::b6 2 rs B)++ks.set ix kk):=hT;refine WD (uy _ ix _ hT pc cV) O (by exact uB (p8 (b5 hd 8 O)) (jr (b5 hd 15 O))) O ?_;rintro _ w9 ⟨y,k3,rfl,hy,kE,hT⟩;rw [jx]at hT;refine ao.n ?_;exact⟨f0,f4,f5,f13,p0,p1,p2,p3,p4,p5,p6,p7,p8,p9,fy,jm,jn,jo,jq,jr,fun _=> ⟨y,O,hy.1,by have:=hy.2.1 (by omega);omega⟩,jt,ju,k3,rD,B1,kE,m19,hC,hT⟩
   | 17,hq,bz=>
    obtain rfl:=bV hq;obtain⟨y,Ox,yh,yi⟩:=js (b5 hd 16 rfl);refine yZ (by exact p7 (b5 hd 7 O)) (by exact Ox) O ⟨by omega,by omega⟩ ?_;refine ao.n ?_;exact⟨f0,f4,f5,f13,p0,p1,p2,p3,p4,p5,p6,p7,p8,p9,fy,jm,jn,jo,jq,jr,js,fun _=> ⟨y.toNat,O,by omega⟩,ju,kk,rD,B1,cV,m19,hC,hT⟩
   | 18,hq,bz=>
    obtain rfl:=bV hq;refine WB (hT.fz 3 O).2 (by exact p1 (b5 hd 1 O)) (by exact p2 (b5 hd 2 O)) O (by omega) (by omega) (ao.n ?_);exact⟨f0,f4,f5,f13,p0,p1,p2,p3,p4,p5,p6,p7,p8,p9,fy,jm,jn,jo,jq,jr,js,jt,fun _=>O,kk,rD,B1,cV,m19,hC,hT⟩
   | 19,hq,bz=>
    obtain rfl:=bV hq;obtain⟨l,Oy,hl⟩:=jt (b5 hd 17 rfl);obtain⟨rfl,rfl⟩:=m19 bz;refine tl 3 (i:=(qr:Int)) hT O (by exact ju (b5 hd 18 O)) (by exact Oy) (by omega) ?_;intro w9 hT;refine ao.n ?_;exact⟨f0,f4,f5,f13,p0,p1,p2,p3,p4,p5,p6,p7,p8,p9,fy,jm,jn,jo,jq,jr,js,jt,ju,kk,_,B.set qr ((B.getD qr []).take l),cV,fun h=> (nomatch (show true=false from h)),hC.cut oE hl,hT⟩
   | q+20,hq,_=>exact(nomatch hq)
  ·intro S e1 w4 dv hI;obtain⟨f0,f4,f5,f13,p0,p1,p2,p3,p4,p5,p6,p7,p8,p9,fy,jm,jn,jo,jq,jr,js,jt,ju,kk,rD,B1,cV,m19,hC,hT⟩:=hI;refine BA (F:=[(4,.pointer A4),(5,.pointer A5)]) ⟨f4,f5,av⟩ (gZ O (bK 2 (hT.rd 0 O) O O O (dG 3 1 hT O O O O O O O ?_)));intro w7 bl;refine bI O (jC O (bl.rd 1 O) ?_);exact vR hC ⟨by omega,by omega⟩ (by omega) cV bl.tail
 refine df O (aN _ O (fun c2=>?_) (fun c2=>?_))
 ·refine aG O ?_;have tI:St w0 w6 ((a7 A5 (M.length:Int) AR e0 cR AD e0 cD::a7 A4 0 none 0 0 none 0 0::aw 2 AR e0 cR R::aQ 24 2 AD e0 cD rs B)++ks.set ix k2):=bD;refine aI (Sf _ ix 8 tI nC ir (by decide)) O ?_;rintro _ w7 ⟨r',N',A',c',jW,M',k3,rfl,dZ,zL,oG,pw,oq,kE,bl⟩;rw [jx]at bl;have O2:(gl M' 0).length=N':=oq.first (by omega);have H5:n3 M':=⟨by omega,by omega,by rw [O2];exact oq.sys⟩;refine aI (J4 A' r' c' jW M' w7 ((bl.sub (kU _ _)).kq pw) H5) O ?_;rintro _ w8 ⟨we,ze,wc,tp,rs',rfl,hrs',AX⟩;have hof':=Fk M' M'.length;have hmul':M'.length* (gl M' 0).length<=5*8:=Nat.mul_le_mul (by omega) (by omega);have qf:=Ho H5 (by omega);have Ib:=nu M' M'.length;have Dt:=oj M';have b7:=bl.call AX;clear bl AX tI;generalize aV M' M'.length=e1 at*;generalize bS M' M'.length=R' at*;generalize bP M'=B' at*;have b7:St w0 w8 (aw 2 we e1 ze R'::(aQ 24 2 wc e1 tp rs' B'++mn A5 A4 (M.length:Int) AR e0 cR R AD cD rs rs B (ks.set ix k3))):=b7.sub (by
   rw [List.cons_append,fO];exact(List.Sublist.append_left (gq _ _) _).cons_cons _)
  refine kV b7 O fun gJ w9 bg=>dG 3 0 bg O O O O O O O ?_;intro dw bQ;have bQ:St w0 dw (a7 gJ (M'.length:Int) we e1 ze wc e1 tp::aw 2 we e1 ze R'::(aQ 24 2 wc e1 tp rs' B'++mn A5 A4 (M.length:Int) AR e0 cR R AD cD rs rs B (ks.set ix k3))):=bQ;have DZ:Rd dw gJ 3 _:=bQ.rd 0 O;have Pm:bu dw we e1 R':=bQ.bo 1 O;have OV:bq dw wc e1 rs' B':=(bQ.sub (((kU _ _).cons _).cons _)).kq Dt;have dT:St w0 dw (mn A5 A4 (M.length:Int) AR e0 cR R AD cD rs rs B (ks.set ix k3)):=bQ.sub (((gq _ _).cons _).cons _);have fm:Rd dw A5 3 _:=dT.rd 0 O;refine ar O (aS DZ O (fJ (j:=0) DZ O O O O O (aS fm O (fJ (j:=0) fm O O O O O (aE O ?_)))));refine aN _ O (fun c5=>?_) (fun c5=>?_)
  ·have c5:(M'.length:Int)=(M.length:Int):=c5;have va:bu dw AR e0 R:=dT.bo 2 O;have tB:bq dw AD e0 rs B:=(dT.sub (((kU (aQ 24 2 AD e0 cD rs B) (ks.set ix k3)).cons _).cons _ |>.cons _)).kq iH;refine aG O (bK 2 fm O O O (bK 2 DZ O O O ?_));rw [c5]at qf|-;refine WD (Sn (M.length:Int) AR AD cR cD R rs B we wc ze tp R' rs' B' dw (by rw [ny];exact va) (by rw [iH];exact tB) (by rw [Ib];exact Pm) (by rw [Dt];exact OV) hP qf) O (by rw [ny,iH,Ib,Dt];rfl) O ?_;rintro _ ew ⟨AQ,m,cQ,Lr,AE,cE,cq,BL,rfl,hm9,rA,HM,ax⟩;have dC:St w0 ew (a7 A4 0 none 0 0 none 0 0::aw 2 AQ m cQ Lr::bE 24 AE m cE cq::(b6 2 cq BL++ks.set ix k3)):=((dT.call ax).sub (show List.Sublist (aw 2 AQ m cQ Lr::bE 24 AE m cE cq::(b6 2 cq BL++ (a7 A4 0 none 0 0 none 0 0::ks.set ix k3))) _ from List.Sublist.cons_cons _ (List.Sublist.cons_cons _ (List.Sublist.append_left (List.Sublist.cons _ (List.Sublist.cons_cons _ (List.Sublist.cons _ (List.Sublist.cons _ (gq _ _))))) _)))).perm
    (((List.Perm.cons _ (List.Perm.cons _ iA)).trans (List.Perm.cons _ (List.Perm.swap _ _ _))).trans (List.Perm.swap _ _ _))
   refine dG 3 0 dC O O O O O O O fun eh eJ=>bI O (jC O (eJ.rd 0 O) ?_);have OU:bq eh AE m cq BL:=(eJ.sub (((kU (bE 24 AE m cE cq::b6 2 cq BL) (ks.set ix k3)).cons _).cons _)).kq HM;exact vR (FX rA HM OU) ⟨by omega,by omega⟩ (by omega) kE eJ
  ·refine aG O (bK 2 fm O O O (dG 3 1 dT O O O O O O O ?_));intro ew dC;refine bI O (jC O (dC.rd 1 O) ?_);exact vR uZ ⟨by omega,by omega⟩ (by omega) kE dC.tail
 refine df O (aN _ O (fun c3=>?_) (fun c3=>?_))
 ·refine aG O (aS (bD.rd 0 O) O (fJ (j:=0) (bD.rd 0 O) O O O O O (aK O (aS (bD.rd 0 O) O (fJ (j:=0) (bD.rd 0 O) O O O O O (dA O ?_))))));refine pP [(M.length:Int)+1,(M.length:Int) - 1,0,6] bD O O (by decide) (by decide) O O fun mT w7 bl=>aI (J1 (aw 2 mT 4 4 [(M.length:Int)+1,(M.length:Int) - 1,0,6]::a7 A5 (M.length:Int) AR e0 cR AD e0 cD::a7 A4 0 none 0 0 none 0 0::aw 2 AR e0 cR R::aQ 24 2 AD e0 cD rs B) ix mT 4 4 [(M.length:Int)+1,(M.length:Int) - 1,0,6] bl nC ir (fun w' Y h=>h.bo 0 O) (by decide)) O ?_;rintro _ w8 ⟨y,k3,rfl,hy,kE,b7⟩;rw [jx]at b7;have b7:St w0 w8 (mn A5 A4 (M.length:Int) AR e0 cR R AD cD rs rs B (ks.set ix k3)):=b7.tail;have yj: -1000<=y/\y<=1000:=by
   simp only [kT,List.not_mem_nil,or_false]at hy;omega
  refine aS (b7.rd 0 O) O (kB 0 (j:=0) b7 O O O O O ?_);intro w9 bg;have bg:St w0 w9 (mn A5 A4 y AR e0 cR R AD cD rs rs B (ks.set ix k3)):=bg;refine ar O (bK 2 (bg.rd 0 O) O O O (dG 3 1 bg O O O O O O O ?_));intro dw bQ;refine bI O (jC O (bQ.rd 1 O) ?_);exact vR uZ yj (by omega) kE bQ.tail
 refine df O (aN _ O (fun c4=>?_) (fun c4=>?_))
 ·have sH: -900<=(M.length:Int)/\(M.length:Int)<=900:=⟨by omega,by omega⟩;generalize (M.length:Int)=n at*;refine tg (by kernel_rfl) (by kernel_rfl) (fun S e1 w1=>Mc w0 ks ix As A5 A4 n AR e0 cR AD cD rs B S e1 w1) (fun w4 hb=> ⟨O,O,O,O,fun h=> (nomatch h),fun h=> (nomatch h),fun h=> (nomatch h),fun h=> (nomatch h),fun h=> (nomatch h),fun h=> (nomatch h),fun h=> (nomatch h),fun h=> (nomatch h),fun h=> (nomatch h),fun h=> (nomatch h),[],k2,R,ir,fun _=>O,fun h=> (nomatch h),bD.aq hb⟩) ?_ ?_
  ·intro S q o e1 w4 hq bz hd cT hI;obtain⟨f0,f4,f5,f6,p0,p1,p2,p3,p4,p5,p6,p7,p9,fy,b,kk,R1,cV,m8,iv,hT⟩:=hI
   match q,hq,bz with
   | 0,hq,bz=>
    obtain rfl:=bV hq;have fm:Rd w4 A5 3 _:=(hT.sub (gq b _)).rd 0 O;refine WH fm (by exact f5) O O O inferInstance (ao.n ?_);exact⟨f0,f4,f5,f6,fun _=>O,p1,p2,p3,p4,p5,p6,p7,p9,fy,b,kk,R1,cV,m8,iv,hT⟩
   | 1,hq,bz=>
    obtain rfl:=bV hq;have fm:Rd w4 A5 3 _:=(hT.sub (gq b _)).rd 0 O;refine WI (j:=1) fm (by exact p0 (b5 hd 0 O)) O O O O (ao.n ?_);exact⟨f0,f4,f5,f6,p0,fun _=>O,p2,p3,p4,p5,p6,p7,p9,fy,b,kk,R1,cV,m8,iv,hT⟩
   | 2,hq,bz=>
    obtain rfl:=bV hq;refine uI O (by exact f0) O (ao.n ?_);exact⟨f0,f4,f5,f6,p0,p1,fun _=>O,p3,p4,p5,p6,p7,p9,fy,b,kk,R1,cV,m8,iv,hT⟩
   | 3,hq,bz=>
    obtain rfl:=bV hq;refine lE O (by exact f6) O (ao.n ?_);exact⟨f0,f4,f5,f6,p0,p1,p2,fun _=>O,p4,p5,p6,p7,p9,fy,b,kk,R1,cV,m8,iv,hT⟩
   | 4,hq,bz=>
    obtain rfl:=bV hq;have pc:=kP (k':=kk) hk;have hT:St w0 w4 ((b++ (a7 A5 n AR e0 cR AD e0 cD::a7 A4 0 none 0 0 none 0 0::aw 2 AR e0 cR R1::aQ 24 2 AD e0 cD rs B))++ks.set ix kk):=by rw [ig];exact hT
    refine WD (uy _ ix e0 hT pc cV) O (by exact uB (p2 (b5 hd 2 O)) (p3 (b5 hd 3 O))) O ?_;rintro _ w9 ⟨y,k3,rfl,hy,kE,hT⟩;rw [jx]at hT;have hT:St w0 w9 (b++mn A5 A4 n AR e0 cR R1 AD cD rs rs B (ks.set ix k3)):=by rw [ig]at hT;exact hT
    exact ao.n ⟨f0,f4,f5,f6,p0,p1,p2,p3,fun _=> ⟨y,O,hy.1,hy.2.1 (by omega)⟩,p5,p6,p7,p9,fy,b,k3,R1,kE,m8,iv,hT⟩
   | 5,hq,bz=>
    obtain rfl:=bV hq;refine uI O (by exact f0) O (ao.n ?_);exact⟨f0,f4,f5,f6,p0,p1,p2,p3,p4,fun _=>O,p6,p7,p9,fy,b,kk,R1,cV,m8,iv,hT⟩
   | 6,hq,bz=>
    obtain rfl:=bV hq;have fm:Rd w4 A5 3 _:=(hT.sub (gq b _)).rd 0 O;refine WH fm (by exact f5) O O O inferInstance (ao.n ?_);exact⟨f0,f4,f5,f6,p0,p1,p2,p3,p4,p5,fun _=>O,p7,p9,fy,b,kk,R1,cV,m8,iv,hT⟩
   | 7,hq,bz=>
    obtain rfl:=bV hq;have fm:Rd w4 A5 3 _:=(hT.sub (gq b _)).rd 0 O;refine fJ (j:=0) fm (by exact p6 (b5 hd 6 O)) O O O O (ao.n ?_);exact⟨f0,f4,f5,f6,p0,p1,p2,p3,p4,p5,p6,fun _=>O,p9,fy,b,kk,R1,cV,m8,iv,hT⟩
   | 8,hq,bz=>
    obtain rfl:=bV hq;obtain rfl:=m8 bz;refine pP [-1,n,0] hT (by show [(0,Value.int .i64 (-1)),(1,e1 149),(2,Value.int .i64 0)]=_;rw [p7 (b5 hd 7 O)];rfl) O (by decide) (by decide) O O ?_;intro A9 w9 hT;refine ao.n ?_;exact⟨f0,f4,f5,f6,p0,p1,p2,p3,p4,p5,p6,p7,p9,fy,[aw 2 A9 3 3 [-1,n,0]],kk,R1,cV,fun h=> (nomatch (show true=false from h)),fun _=> ⟨A9,O,O⟩,hT⟩
   | 9,hq,bz=>
    obtain rfl:=bV hq;obtain⟨A9,wO,rfl⟩:=iv (b5 hd 8 rfl);have pc:=kP (k':=kk) hk;have hT:St w0 w4 ((aw 2 A9 3 3 [-1,n,0]::(a7 A5 n AR e0 cR AD e0 cD::a7 A4 0 none 0 0 none 0 0::aw 2 AR e0 cR R1::aQ 24 2 AD e0 cD rs B))++ks.set ix kk):=hT;refine WD (J1 _ ix A9 3 3 [-1,n,0] hT pc cV (fun w' Y h=>h.bo 0 O) (by decide)) O (by exact uB (p5 (b5 hd 5 O)) wO) O ?_;rintro _ w9 ⟨z,k3,rfl,hz,kE,hT⟩;rw [jx]at hT;exact ao.n ⟨f0,f4,f5,f6,p0,p1,p2,p3,p4,p5,p6,p7,fun _=> ⟨z,O⟩,fy,_,k3,R1,kE,m8,fun _=> ⟨A9,wO,O⟩,hT⟩
   | 10,hq,bz=>
    obtain rfl:=bV hq;obtain⟨y,OB,yh,yi⟩:=p4 (b5 hd 4 rfl);have va:bu w4 AR e0 R1:=(hT.sub (gq b _)).bo 2 O;refine WB va.2 (by exact p1 (b5 hd 1 O)) (by exact OB) O (by omega) (by omega) (ao.n ?_);exact⟨f0,f4,f5,f6,p0,p1,p2,p3,p4,p5,p6,p7,p9,fun _=> ⟨y,O,yh,yi⟩,b,kk,R1,cV,m8,iv,hT⟩
   | 11,hq,bz=>
    obtain rfl:=bV hq;obtain⟨A9,wO,rfl⟩:=iv (b5 hd 8 rfl);obtain⟨z,OC⟩:=p9 (b5 hd 9 rfl);obtain⟨y,OD,yh,yi⟩:=fy (b5 hd 10 rfl);have hT:St w0 w4 (aw 2 A9 3 3 [-1,n,0]::mn A5 A4 n AR e0 cR R1 AD cD rs rs B (ks.set ix kk)):=hT;refine il 3 (i:=y) hT O (by exact OD) (by exact OC) (by omega) ?_;intro w9 hT;exact ao.n ⟨f0,f4,f5,f6,p0,p1,p2,p3,p4,p5,p6,p7,p9,fy,[aw 2 A9 3 3 [-1,n,0]],kk,R1.set y.toNat z,cV,m8,fun _=> ⟨A9,wO,O⟩,hT⟩
   | q+12,hq,_=>exact(nomatch hq)
  ·intro S e1 w4 dv hI;obtain⟨f0,f4,f5,f6,p0,p1,p2,p3,p4,p5,p6,p7,p9,fy,b,kk,R1,cV,m8,iv,hT⟩:=hI;obtain⟨A9,wO,rfl⟩:=iv (dv 8 (by decide));have hT:St w0 w4 (mn A5 A4 n AR e0 cR R1 AD cD rs rs B (ks.set ix kk)):=hT.tail;refine BA (F:=[(4,.pointer A4),(5,.pointer A5)]) ⟨f4,f5,av⟩ (gZ O (bK 2 (hT.rd 0 O) O O O (dG 3 1 hT O O O O O O O ?_)));intro w7 bl;refine bI O (jC O (bl.rd 1 O) ?_);exact vR uZ ⟨by omega,by omega⟩ (by omega) cV bl.tail
 refine aG O (bK 2 (bD.rd 0 O) O O O (dG 3 1 bD O O O O O O O ?_));intro w7 bl;refine bI O (jC O (bl.rd 1 O) ?_);exact vR uZ ⟨by omega,by omega⟩ (by omega) ir bl.tail
structure Gi(n:Int)(R:ai)(B:ah)(e:Nat):Prop where
 jD:0<=gi R e/\gi R e<=n - 1
 nm:0<e->gi R ((e:Int) - 1)<=gi R e
 row:SA (gl B e)/\∀d∈gl B e,(0<=d/\d<R.length)/\gi R d<gi R e
 tr:∀d∈gl B e,∀c∈gl B d,c∈gl B e
theorem MF{R:ai}(h:∀e:Nat,e<R.length->0<e->gi R ((e:Int) - 1)<=gi R e):mu R:=by
 have key:∀j i:Nat,i<=j->j<R.length->gi R i<=gi R j:=by
  intro j
  induction j with
  | zero=>
   intro i hi _;have:i=0:=by omega
   rw [this];exact Int.le_refl _
  | succ j ih=>
   intro i hi hj
   by_cases e:i=j+1
   ·subst e;exact Int.le_refl _
   ·have h3:=ih i (by omega) (by omega);have h4:=h (j+1) hj (by omega);rw [show((j+1:Nat):Int) - 1=(j:Int) by omega]at h4;omega
 refine List.pairwise_iff_getElem.2 fun i j hi hj pa=>?_
 have:=key j i (by omega) (by omega)
 rwa [bF hi,bF hj]at this
theorem EZ(n:Int)(A D:aj)(cA cD N M:Nat)(R:ai)(rs:List aL)(B:ah)(w:aa)(hR:bu w A N R)(hB:bq w D M rs B)(hn: -1000<=n/\n<=1000)(hN:N<=1000000)(hM:M<=1000000):
 aJ prog 61 [.agg #[ak n,.slice A N cA,.slice D M cD]] w (fun v w'=>∃b:Bool,v= .bool b/\(b=true↔dm n R B)/\St w w' []):=by
 have ny:R.length=N:=hR.1;have iH:B.length=M:=hB.len;refine br func61 O ntmps61 O (cw O) (a8 O (ga (St.refl w) O O ?_));intro A1 w1 ay;have eN:=ay.below;have h1:Rd w1 A1 3 (fun j=> [Value.int .i64 n,.slice A N cA,.slice D M cD].getD j undef):=ay.rd 0 O;have hR:=hR.aq eN;have hB:=hB.aq eN;have ay:=ay.none;refine ar O (aS h1 O (fJ (j:=0) h1 (by exact aH Value.pointer O) O O O O (aI (qy _ _ _ _) O ?_)));rintro _ w1 ⟨rfl,rfl⟩
 first | refine dk rfl rfl ?_ | refine eF rfl rfl ?_
 refine ar O (bY 11 O (fun h=>?_) (fun g1=>?_))
 ·refine az O (az O (az O (az O (ar O (az O (az O (az O (az O (az O (az O (az O ?_)))))))))));refine aE O (Cd.fx O (du O (cH O ?_)));exact⟨false,O,⟨fun h'=>absurd h' (by decide),fun hP=>absurd hP.n1 (by omega)⟩,ay⟩
 refine au O (aS h1 O (au O (aZ h1 O ?_)));refine au O (ba O O (au O (ar O ?_)));refine bY 17 O (fun h=>?_) (fun g2=>?_)
 ·refine az O (az O (az O (az O (az O (az O (az O (aE O ?_)))))));refine Cd.fx O (du O (cH O ?_));exact⟨false,O,⟨fun h'=>absurd h' (by decide),fun hP=>by have:=hP.jK;omega⟩,ay⟩
 refine au O (aS h1 O (au O (aZ h1 O ?_)));refine au O (ba O O (au O ?_));refine aS h1 O (au O (aZ h1 O ?_));refine au O (ba O O (au O (aE O ?_)));refine aN _ O (fun h=>?_) (fun g3=>?_)
 ·refine du O (cH O ?_);exact⟨false,O,⟨fun h'=>absurd h' (by decide),fun hP=>by have:=hP.len;omega⟩,ay⟩
 obtain rfl:N=M:=by omega
 refine df O ?_;refine Cd.loop (α:=Nat) (fun e=> [(1,.pointer A1),(3,ak e)]) (fun e w'=>e<=N/\(∀j:Nat,j<e->Gi n R B j)/\St w1 w' []) (fun e=>N - e) 0 (WM O) ⟨bn _,fun j hj=>by omega,St.refl _⟩ ?_;rintro e ev4 w4 ⟨he,kj,ax⟩;have hb:=ax.below;have h1:=Rd.below h1 hb;have hR:=hR.aq hb;have hB:=hB.aq hb;clear hb;refine a8 O (aS h1 O (aZ h1 O ?_));refine ba O O (aE O ?_);refine aN _ O (fun h3=>?_) (fun h3=>?_)
 ·have o9:e<N:=by omega
  have Pn:gi R e∈R:=gi_in (by omega);have ln:dm n R B->0<e->gi R ((e:Int) - 1)<=gi R e:=fun hP h0=>by
   have:=hP.nm.le (show e - 1<=e by omega) (by omega)
   rwa [show((e - 1:Nat):Int)=(e:Int) - 1 by omega]at this
  obtain⟨bad,qj⟩:∃p:Prop,p=(¬(0<=gi R e/\gi R e<=n - 1)\/(0<e/\gi R e<gi R ((e:Int) - 1))):=⟨_,rfl⟩;have PL:Decidable bad:=by rw [qj];infer_instance
  refine wk 4 O (pK (α:=Unit) (fun _=> [(1,.pointer A1),(3,ak e),(60,.bool (decide bad))]) (fun _ w'=>St w4 w' []) ?_ ?_)
  ·have tO:(¬(0<=gi R e/\gi R e<=n - 1))\/((0<=gi R e/\gi R e<=n - 1)/\e=0)\/((0<=gi R e/\gi R e<=n - 1)/\0<e/\gi R e<gi R ((e:Int) - 1))\/((0<=gi R e/\gi R e<=n - 1)/\0<e/\gi R ((e:Int) - 1)<=gi R e):=by omega
   rcases tO with hc | ⟨hc,h0⟩ | ⟨hc,h0,hr⟩ | ⟨hc,h0,hr⟩
   ·--dup 4
    refine dL [xP (aD (A1) 1),xS (A) (N) (cA),xI ((e:Int)),xP (aD (A) ((e:Int)).toNat),xI (gi (R) ((e:Int))),xP (aD (A1) 0),xI (n),xI ((n) - ((1:Int))),xB (decide (0<=gi R e/\gi R e<=n - 1)),xB (decide (¬(0<=gi R e/\gi R e<=n - 1))),xB (true),xU,xU,xU,xU,xU,xU,xU,xU,xU,xU,xU,xU,xU,xU,xU,xU,xB (true)] O (dV O) ?_ ?_
    ·refine⟨fun _ _ hb _ _=>aS (h1.below hb) O Az,fun _ _ hb _ _=>aZ (h1.below hb) O Az,Dr O,fun _ _ hb _ _=>aB (hR.aq hb).2 O Az,fun _ _ hb _ _=>aW (hR.aq hb) O Az,fun _ _ hb _ _=>aS (h1.below hb) O Az,fun _ _ hb _ _=>fJ (h1.below hb) O O O O O Az,fun _ _ _ _ _=>dA O Az,?_,fun _ _ _ _ _=>dk O O Az,fun _ _ _ _ _=>Dk O (by exact aH Value.bool (eD (by omega))),Dr O,Dr O,Dr O,Dr O,Dr O,Dr O,Dr O,Dr O,Dr O,Dr O,Dr O,Dr O,Dr O,Dr O,Dr O,Dr O,Dr O,av⟩
     ·intro e1 w1 hb hp aX;refine aI (qy _ _ _ _) O ?_;rintro _ w2 ⟨rfl,ax⟩;subst ax;refine ao.n (d0 (by exact O))
    intro u w6 hb _;refine tQ ?_;exact⟨(),⟨O,O,aH Value.bool (eD (by rw [qj];omega)).symm,av⟩,(St.refl w4).aq hb⟩
   ·refine dL [.ex (.pointer (aD (A1) 1)),.ex (.slice (A) (N) (cA)),.ex (ak ((e:Int))),.ex (.pointer (aD (A) ((e:Int)).toNat)),.ex (ak (gi (R) ((e:Int)))),.ex (.pointer (aD (A1) 0)),.ex (ak (n)),.ex (ak ((n) - ((1:Int)))),.ex (.bool (decide (0<=gi R e/\gi R e<=n - 1))),.ex (.bool (decide (¬(0<=gi R e/\gi R e<=n - 1)))),.ex (.bool (false)),.ex (ak ((e:Int))),.ex (.bool (decide (((0:Int))< ((e:Int))))),.ex (.bool (false)),.ex (undef),.ex (undef),.ex (undef),.ex (undef),.ex (undef),.ex (undef),.ex (undef),.ex (undef),.ex (undef),.ex (undef),.ex (undef),.ex (undef),.ex (.bool (false)),.ex (.bool (false))] O (dV O) ?_ ?_
    ·refine⟨fun _ _ hb _ _=>aS (h1.below hb) O Az,fun _ _ hb _ _=>aZ (h1.below hb) O Az,Dr O,fun _ _ hb _ _=>aB (hR.aq hb).2 O Az,fun _ _ hb _ _=>aW (hR.aq hb) O Az,fun _ _ hb _ _=>aS (h1.below hb) O Az,fun _ _ hb _ _=>fJ (h1.below hb) O O O O O Az,fun _ _ _ _ _=>dA O Az,?_,fun _ _ _ _ _=>dk O O Az,fun _ _ _ _ _=>Dk O (by exact aH Value.bool (cS (fun h=>h (by omega)))),Dr O,Dr O,fun _ _ _ _ _=>Dk O (by exact aH Value.bool (cS (by omega))),Dr O,Dr O,Dr O,Dr O,Dr O,Dr O,Dr O,Dr O,Dr O,Dr O,Dr O,Dr O,Dr O,Dr O,av⟩
     ·intro e1 w1 hb hp aX;refine aI (qy _ _ _ _) O ?_;rintro _ w2 ⟨rfl,ax⟩;subst ax;refine ao.n (d0 (by exact O))
    intro u w6 hb _;refine tQ ?_;exact⟨(),⟨O,O,aH Value.bool (cS (by rw [qj];omega)).symm,av⟩,(St.refl w4).aq hb⟩
   ·refine dL [.ex (.pointer (aD (A1) 1)),.ex (.slice (A) (N) (cA)),.ex (ak ((e:Int))),.ex (.pointer (aD (A) ((e:Int)).toNat)),.ex (ak (gi (R) ((e:Int)))),.ex (.pointer (aD (A1) 0)),.ex (ak (n)),.ex (ak ((n) - ((1:Int)))),.ex (.bool (decide (0<=gi R e/\gi R e<=n - 1))),.ex (.bool (decide (¬(0<=gi R e/\gi R e<=n - 1)))),.ex (.bool (false)),.ex (ak ((e:Int))),.ex (.bool (decide (((0:Int))< ((e:Int))))),.ex (.bool (true)),.ex (.pointer (aD (A1) 1)),.ex (.slice (A) (N) (cA)),.ex (ak ((e:Int))),.ex (.pointer (aD (A) ((e:Int)).toNat)),.ex (ak (gi (R) ((e:Int)))),.ex (.pointer (aD (A1) 1)),.ex (.slice (A) (N) (cA)),.ex (ak ((e:Int))),.ex (ak (((e:Int)) - ((1:Int)))),.ex (.pointer (aD (A) (((e:Int)) - ((1:Int))).toNat)),.ex (ak (gi (R) (((e:Int)) - ((1:Int))))),.ex (.bool (true)),.ex (.bool (true)),.ex (.bool (true))] O (dV O) ?_ ?_
    ·refine⟨fun _ _ hb _ _=>aS (h1.below hb) O Az,fun _ _ hb _ _=>aZ (h1.below hb) O Az,Dr O,fun _ _ hb _ _=>aB (hR.aq hb).2 O Az,fun _ _ hb _ _=>aW (hR.aq hb) O Az,fun _ _ hb _ _=>aS (h1.below hb) O Az,fun _ _ hb _ _=>fJ (h1.below hb) O O O O O Az,fun _ _ _ _ _=>dA O Az,?_,fun _ _ _ _ _=>dk O O Az,fun _ _ _ _ _=>Dk O (by exact aH Value.bool (cS (fun h=>h (by omega)))),Dr O,Dr O,fun _ _ _ _ _=>Dk O (by exact aH Value.bool (eD (by omega))),fun _ _ hb _ _=>au O (aS (h1.below hb) O Az),fun _ _ hb _ _=>au O (aZ (h1.below hb) O Az),Dr O,fun _ _ hb _ _=>au O (aB (hR.aq hb).2 O Az),fun _ _ hb _ _=>au O (aW (hR.aq hb) O Az),fun _ _ hb _ _=>au O (aS (h1.below hb) O Az),fun _ _ hb _ _=>au O (aZ (h1.below hb) O Az),Dr O,fun _ _ _ _ _=>au O (dA O Az),fun _ _ hb _ _=>au O (aB (hR.aq hb).2 O Az),fun _ _ hb _ _=>au O (aW (hR.aq hb) O Az),fun _ _ _ _ _=>Dk O (by exact aH Value.bool (eD (by omega))),Dr O,Dr O,av⟩
     ·intro e1 w1 hb hp aX;refine aI (qy _ _ _ _) O ?_;rintro _ w2 ⟨rfl,ax⟩;subst ax;refine ao.n (d0 (by exact O))
    intro u w6 hb _;refine tQ ?_;exact⟨(),⟨O,O,aH Value.bool (eD (by rw [qj];omega)).symm,av⟩,(St.refl w4).aq hb⟩
   ·refine dL [.ex (.pointer (aD (A1) 1)),.ex (.slice (A) (N) (cA)),.ex (ak ((e:Int))),.ex (.pointer (aD (A) ((e:Int)).toNat)),.ex (ak (gi (R) ((e:Int)))),.ex (.pointer (aD (A1) 0)),.ex (ak (n)),.ex (ak ((n) - ((1:Int)))),.ex (.bool (decide (0<=gi R e/\gi R e<=n - 1))),.ex (.bool (decide (¬(0<=gi R e/\gi R e<=n - 1)))),.ex (.bool (false)),.ex (ak ((e:Int))),.ex (.bool (decide (((0:Int))< ((e:Int))))),.ex (.bool (true)),.ex (.pointer (aD (A1) 1)),.ex (.slice (A) (N) (cA)),.ex (ak ((e:Int))),.ex (.pointer (aD (A) ((e:Int)).toNat)),.ex (ak (gi (R) ((e:Int)))),.ex (.pointer (aD (A1) 1)),.ex (.slice (A) (N) (cA)),.ex (ak ((e:Int))),.ex (ak (((e:Int)) - ((1:Int)))),.ex (.pointer (aD (A) (((e:Int)) - ((1:Int))).toNat)),.ex (ak (gi (R) (((e:Int)) - ((1:Int))))),.ex (.bool (false)),.ex (.bool (false)),.ex (.bool (false))] O (dV O) ?_ ?_
    ·refine⟨fun _ _ hb _ _=>aS (h1.below hb) O Az,fun _ _ hb _ _=>aZ (h1.below hb) O Az,Dr O,fun _ _ hb _ _=>aB (hR.aq hb).2 O Az,fun _ _ hb _ _=>aW (hR.aq hb) O Az,fun _ _ hb _ _=>aS (h1.below hb) O Az,fun _ _ hb _ _=>fJ (h1.below hb) O O O O O Az,fun _ _ _ _ _=>dA O Az,?_,fun _ _ _ _ _=>dk O O Az,fun _ _ _ _ _=>Dk O (by exact aH Value.bool (cS (fun h=>h (by omega)))),Dr O,Dr O,fun _ _ _ _ _=>Dk O (by exact aH Value.bool (eD (by omega))),fun _ _ hb _ _=>au O (aS (h1.below hb) O Az),fun _ _ hb _ _=>au O (aZ (h1.below hb) O Az),Dr O,fun _ _ hb _ _=>au O (aB (hR.aq hb).2 O Az),fun _ _ hb _ _=>au O (aW (hR.aq hb) O Az),fun _ _ hb _ _=>au O (aS (h1.below hb) O Az),fun _ _ hb _ _=>au O (aZ (h1.below hb) O Az),Dr O,fun _ _ _ _ _=>au O (dA O Az),fun _ _ hb _ _=>au O (aB (hR.aq hb).2 O Az),fun _ _ hb _ _=>au O (aW (hR.aq hb) O Az),fun _ _ _ _ _=>Dk O (by exact aH Value.bool (cS (by omega))),Dr O,Dr O,av⟩
     ·intro e1 w1 hb hp aX;refine aI (qy _ _ _ _) O ?_;rintro _ w2 ⟨rfl,ax⟩;subst ax;refine ao.n (d0 (by exact O))
    intro u w6 hb _;refine tQ ?_;exact⟨(),⟨O,O,aH Value.bool (cS (by rw [qj];omega)).symm,av⟩,(St.refl w4).aq hb⟩
  rintro _ ev5 w5 nH;have hb:=nH.below;have h1:=Rd.below h1 hb;have hR:=hR.aq hb;have hB:=hB.aq hb;clear hb;refine aN _ O (fun h4=>?_) (fun h4=>?_)
  ·refine du O (dN (dE ?_));refine cH O ?_;rw [qj]at h4;exact⟨false,O,⟨fun h'=>absurd h' (by decide),fun hP=>by have:=hP.jD _ Pn;have:=ln hP;omega⟩,(ay.aq (ax.aq nH.below).below).none⟩
  rw [qj]at h4;have bW:=hB.at_ (i:=(e:Int)) (by omega) (by omega);have fp:=bW.1;have D3:=hB.cap_ (i:=(e:Int)) (by omega) (by omega);have hcap2:=hB.top.1;refine df O ?_;refine Cd.loop (α:=Nat) (fun q=> [(1,.pointer A1),(3,ak e),(4,ak q)]) (fun q w'=>q<=(rg rs e).n/\(∀p:Nat,p<q->(0<=gi (gl B e) p/\gi (gl B e) p< (e:Int))/\gi R (gi (gl B e) p)<gi R e)/\(∀p:Nat,p+1<q->gi (gl B e) p<gi (gl B e) ((p+1:Nat):Int))/\(∀p:Nat,p<q->∀c∈gl B (gi (gl B e) p),c∈gl B e)/\St w5 w' []) (fun q=> (rg rs e).n - q) 0 (WM O) ⟨bn _,fun p hp=>by omega,fun p hp=>by omega,fun p hp=>by omega,St.refl _⟩ ?_;rintro q ev6 w6 ⟨hq,de,has,ug,qw⟩;have hb:=qw.below;have h1:=Rd.below h1 hb;have hR:=hR.aq hb;have hB:=hB.aq hb;have bW:=bW.aq hb;clear hb;refine a8 O (aS h1 O (aZ h1 O (ar O (aB hB.top.2 O (ck hB.top O ?_)))));refine ba O O (aE O ?_);refine aN _ O (fun h5=>?_) (fun h5=>?_)
  ·have kJ:q< (gl B e).length:=by omega
   have gS:=gi_in kJ;refine aG O (aS h1 O (aZ h1 O (ar O (aB hB.top.2 O (ck hB.top O (ar O (aB bW.2 O (aW bW O ?_))))))));have eQ:dm n R B->0<q->gi (gl B e) ((q - 1:Nat):Int)<gi (gl B e) q:=fun hP h0=> (hP.row e (by omega)).1.qz (show q - 1<q by omega) kJ
   have x8:(0<q->gi (gl B e) ((q:Int) - 1)<gi (gl B e) q)->∀p:Nat,p+1<q+1->gi (gl B e) p<gi (gl B e) ((p+1:Nat):Int):=fun h p hp=>by
    by_cases ep:p+1=q
    ·have:=h (by omega);rw [<-ep]at this
     rwa [show((p+1:Nat):Int) - 1=(p:Int) by omega]at this
    ·exact has p (by omega)
   obtain⟨d,qk⟩:∃d,gi (gl B e) q=d:=⟨_,rfl⟩;rw [qk]at gS eQ|-;obtain⟨Gw,sy⟩:∃p:Prop,p=((¬(0<=d/\d<=(e:Int) - 1))\/((0<=d/\d<=(e:Int) - 1)/\gi R e<=gi R d)\/(0<q/\d<=gi (gl B e) ((q:Int) - 1))):=⟨_,rfl⟩;have hdec2:Decidable Gw:=by rw [sy];infer_instance
   refine yQ 1 O (pK (α:=Unit) (fun _=> [(1,.pointer A1),(3,ak e),(4,ak q),(5,ak d),(113,.bool (decide Gw))]) (fun _ w'=>St w6 w' []) ?_ ?_)
   ·have tO:(¬(0<=d/\d<=(e:Int) - 1))\/((0<=d/\d<=(e:Int) - 1)/\gi R e<=gi R d)\/((0<=d/\d<=(e:Int) - 1)/\gi R d<gi R e/\q=0)\/((0<=d/\d<=(e:Int) - 1)/\gi R d<gi R e/\0<q/\d<=gi (gl B e) ((q:Int) - 1))\/((0<=d/\d<=(e:Int) - 1)/\gi R d<gi R e/\0<q/\gi (gl B e) ((q:Int) - 1)<d):=by omega
    rcases tO with hc | ⟨hc,hr⟩ | ⟨hc,hr,h0⟩ | ⟨hc,hr,h0,hs⟩ | ⟨hc,hr,h0,hs⟩
    ·--dup 5
     refine dL [xI (d),xI ((e:Int)),xI (((e:Int)) - ((1:Int))),xB (decide (0<=d/\d<=(e:Int) - 1)),xB (decide (¬(0<=d/\d<=(e:Int) - 1))),xB (true),xU,xU,xU,xU,xU,xU,xU,xU,xU,xU,xU,xB (true),xB (true),xU,xU,xU,xU,xU,xU,xU,xU,xU,xU,xU,xU,xU,xU,xU,xB (true)] O (dV O) ?_ ?_
     ·refine⟨Dr O,Dr O,fun _ _ _ _ _=>dA O Az,?_,fun _ _ _ _ _=>dk O O Az,fun _ _ _ _ _=>Dk O (by exact aH Value.bool (eD (by omega))),Dr O,Dr O,Dr O,Dr O,Dr O,Dr O,Dr O,Dr O,Dr O,Dr O,Dr O,Dr O,Dr O,Dr O,Dr O,Dr O,Dr O,Dr O,Dr O,Dr O,Dr O,Dr O,Dr O,Dr O,Dr O,Dr O,Dr O,Dr O,Dr O,av⟩
      ·intro e1 w1 hb hp aX;refine aI (qy _ _ _ _) O ?_;rintro _ w2 ⟨rfl,ax⟩;subst ax;refine ao.n (d0 (by exact O))
     intro u w8 hb _;refine tQ ?_;exact⟨(),⟨O,O,O,O,aH Value.bool (eD (by rw [sy];omega)).symm,av⟩,(St.refl w6).aq hb⟩
    ·refine dL [.ex (ak (d)),.ex (ak ((e:Int))),.ex (ak (((e:Int)) - ((1:Int)))),.ex (.bool (decide (0<=d/\d<=(e:Int) - 1))),.ex (.bool (decide (¬(0<=d/\d<=(e:Int) - 1)))),.ex (.bool (false)),.ex (.pointer (aD (A1) 1)),.ex (.slice (A) (N) (cA)),.ex (ak (d)),.ex (.pointer (aD (A) (d).toNat)),.ex (ak (gi (R) (d))),.ex (.pointer (aD (A1) 1)),.ex (.slice (A) (N) (cA)),.ex (ak ((e:Int))),.ex (.pointer (aD (A) ((e:Int)).toNat)),.ex (ak (gi (R) ((e:Int)))),.ex (.bool (decide ((gi (R) ((e:Int)))<=(gi (R) (d))))),.ex (.bool (decide ((gi (R) ((e:Int)))<=(gi (R) (d))))),.ex (.bool (true)),.ex (undef),.ex (undef),.ex (undef),.ex (undef),.ex (undef),.ex (undef),.ex (undef),.ex (undef),.ex (undef),.ex (undef),.ex (undef),.ex (undef),.ex (undef),.ex (undef),.ex (undef),.ex (.bool (true))] O (dV O) ?_ ?_
     ·refine⟨Dr O,Dr O,fun _ _ _ _ _=>dA O Az,?_,fun _ _ _ _ _=>dk O O Az,fun _ _ _ _ _=>Dk O (by exact aH Value.bool (cS (fun h=>h (by omega)))),fun _ _ hb _ _=>au O (aS (h1.below hb) O Az),fun _ _ hb _ _=>au O (aZ (h1.below hb) O Az),Dr O,fun _ _ hb _ _=>au O (aB (hR.aq hb).2 O Az),fun _ _ hb _ _=>au O (aW (hR.aq hb) O Az),fun _ _ hb _ _=>au O (aS (h1.below hb) O Az),fun _ _ hb _ _=>au O (aZ (h1.below hb) O Az),Dr O,fun _ _ hb _ _=>au O (aB (hR.aq hb).2 O Az),fun _ _ hb _ _=>au O (aW (hR.aq hb) O Az),Dr O,Dr O,fun _ _ _ _ _=>Dk O (by exact aH Value.bool (eD (by omega))),Dr O,Dr O,Dr O,Dr O,Dr O,Dr O,Dr O,Dr O,Dr O,Dr O,Dr O,Dr O,Dr O,Dr O,Dr O,Dr O,av⟩
      ·intro e1 w1 hb hp aX;refine aI (qy _ _ _ _) O ?_;rintro _ w2 ⟨rfl,ax⟩;subst ax;refine ao.n (d0 (by exact O))
     intro u w8 hb _;refine tQ ?_;exact⟨(),⟨O,O,O,O,aH Value.bool (eD (by rw [sy];omega)).symm,av⟩,(St.refl w6).aq hb⟩
    ·refine dL [.ex (ak (d)),.ex (ak ((e:Int))),.ex (ak (((e:Int)) - ((1:Int)))),.ex (.bool (decide (0<=d/\d<=(e:Int) - 1))),.ex (.bool (decide (¬(0<=d/\d<=(e:Int) - 1)))),.ex (.bool (false)),.ex (.pointer (aD (A1) 1)),.ex (.slice (A) (N) (cA)),.ex (ak (d)),.ex (.pointer (aD (A) (d).toNat)),.ex (ak (gi (R) (d))),.ex (.pointer (aD (A1) 1)),.ex (.slice (A) (N) (cA)),.ex (ak ((e:Int))),.ex (.pointer (aD (A) ((e:Int)).toNat)),.ex (ak (gi (R) ((e:Int)))),.ex (.bool (decide ((gi (R) ((e:Int)))<=(gi (R) (d))))),.ex (.bool (decide ((gi (R) ((e:Int)))<=(gi (R) (d))))),.ex (.bool (false)),.ex (ak ((q:Int))),.ex (.bool (decide (((0:Int))< ((q:Int))))),.ex (.bool (false)),.ex (undef),.ex (undef),.ex (undef),.ex (undef),.ex (undef),.ex (undef),.ex (undef),.ex (undef),.ex (undef),.ex (undef),.ex (undef),.ex (.bool (false)),.ex (.bool (false))] O (dV O) ?_ ?_
     ·refine⟨Dr O,Dr O,fun _ _ _ _ _=>dA O Az,?_,fun _ _ _ _ _=>dk O O Az,fun _ _ _ _ _=>Dk O (by exact aH Value.bool (cS (fun h=>h (by omega)))),fun _ _ hb _ _=>au O (aS (h1.below hb) O Az),fun _ _ hb _ _=>au O (aZ (h1.below hb) O Az),Dr O,fun _ _ hb _ _=>au O (aB (hR.aq hb).2 O Az),fun _ _ hb _ _=>au O (aW (hR.aq hb) O Az),fun _ _ hb _ _=>au O (aS (h1.below hb) O Az),fun _ _ hb _ _=>au O (aZ (h1.below hb) O Az),Dr O,fun _ _ hb _ _=>au O (aB (hR.aq hb).2 O Az),fun _ _ hb _ _=>au O (aW (hR.aq hb) O Az),Dr O,Dr O,fun _ _ _ _ _=>Dk O (by exact aH Value.bool (cS (by omega))),Dr O,Dr O,fun _ _ _ _ _=>Dk O (by exact aH Value.bool (cS (by omega))),Dr O,Dr O,Dr O,Dr O,Dr O,Dr O,Dr O,Dr O,Dr O,Dr O,Dr O,Dr O,Dr O,av⟩
      ·intro e1 w1 hb hp aX;refine aI (qy _ _ _ _) O ?_;rintro _ w2 ⟨rfl,ax⟩;subst ax;refine ao.n (d0 (by exact O))
     intro u w8 hb _;refine tQ ?_;exact⟨(),⟨O,O,O,O,aH Value.bool (cS (by rw [sy];omega)).symm,av⟩,(St.refl w6).aq hb⟩
    ·refine dL [.ex (ak (d)),.ex (ak ((e:Int))),.ex (ak (((e:Int)) - ((1:Int)))),.ex (.bool (decide (0<=d/\d<=(e:Int) - 1))),.ex (.bool (decide (¬(0<=d/\d<=(e:Int) - 1)))),.ex (.bool (false)),.ex (.pointer (aD (A1) 1)),.ex (.slice (A) (N) (cA)),.ex (ak (d)),.ex (.pointer (aD (A) (d).toNat)),.ex (ak (gi (R) (d))),.ex (.pointer (aD (A1) 1)),.ex (.slice (A) (N) (cA)),.ex (ak ((e:Int))),.ex (.pointer (aD (A) ((e:Int)).toNat)),.ex (ak (gi (R) ((e:Int)))),.ex (.bool (decide ((gi (R) ((e:Int)))<=(gi (R) (d))))),.ex (.bool (decide ((gi (R) ((e:Int)))<=(gi (R) (d))))),.ex (.bool (false)),.ex (ak ((q:Int))),.ex (.bool (decide (((0:Int))< ((q:Int))))),.ex (.bool (true)),.ex (ak (d)),.ex (.pointer (aD (A1) 2)),.ex (.slice (D) (N) (cD)),.ex (ak ((e:Int))),.ex (.pointer (aD (D) ((e:Int)).toNat)),.ex (.slice ((rg (rs) ((e:Int))).a) ((rg (rs) ((e:Int))).n) ((rg (rs) ((e:Int))).c)),.ex (ak ((q:Int))),.ex (ak (((q:Int)) - ((1:Int)))),.ex (.pointer (aD ((rg (rs) ((e:Int))).a) (((q:Int)) - ((1:Int))).toNat)),.ex (ak (gi (gl B e) (((q:Int)) - ((1:Int))))),.ex (.bool (true)),.ex (.bool (true)),.ex (.bool (true))] O (dV O) ?_ ?_
     ·refine⟨Dr O,Dr O,fun _ _ _ _ _=>dA O Az,?_,fun _ _ _ _ _=>dk O O Az,fun _ _ _ _ _=>Dk O (by exact aH Value.bool (cS (fun h=>h (by omega)))),fun _ _ hb _ _=>au O (aS (h1.below hb) O Az),fun _ _ hb _ _=>au O (aZ (h1.below hb) O Az),Dr O,fun _ _ hb _ _=>au O (aB (hR.aq hb).2 O Az),fun _ _ hb _ _=>au O (aW (hR.aq hb) O Az),fun _ _ hb _ _=>au O (aS (h1.below hb) O Az),fun _ _ hb _ _=>au O (aZ (h1.below hb) O Az),Dr O,fun _ _ hb _ _=>au O (aB (hR.aq hb).2 O Az),fun _ _ hb _ _=>au O (aW (hR.aq hb) O Az),Dr O,Dr O,fun _ _ _ _ _=>Dk O (by exact aH Value.bool (cS (by omega))),Dr O,Dr O,fun _ _ _ _ _=>Dk O (by exact aH Value.bool (eD (by omega))),Dr O,fun _ _ hb _ _=>au O (aS (h1.below hb) O Az),fun _ _ hb _ _=>au O (aZ (h1.below hb) O Az),Dr O,fun _ _ hb _ _=>au O (aB (hB.top.aq hb).2 O Az),fun _ _ hb _ _=>au O (ck (hB.top.aq hb) O Az),Dr O,fun _ _ _ _ _=>au O (dA O Az),fun _ _ hb _ _=>au O (aB (bW.aq hb).2 O Az),fun _ _ hb _ _=>au O (aW (bW.aq hb) O Az),fun _ _ _ _ _=>Dk O (by exact aH Value.bool (eD (by omega))),Dr O,Dr O,av⟩
      ·intro e1 w1 hb hp aX;refine aI (qy _ _ _ _) O ?_;rintro _ w2 ⟨rfl,ax⟩;subst ax;refine ao.n (d0 (by exact O))
     intro u w8 hb _;refine tQ ?_;exact⟨(),⟨O,O,O,O,aH Value.bool (eD (by rw [sy];omega)).symm,av⟩,(St.refl w6).aq hb⟩
    ·refine dL [.ex (ak (d)),.ex (ak ((e:Int))),.ex (ak (((e:Int)) - ((1:Int)))),.ex (.bool (decide (0<=d/\d<=(e:Int) - 1))),.ex (.bool (decide (¬(0<=d/\d<=(e:Int) - 1)))),.ex (.bool (false)),.ex (.pointer (aD (A1) 1)),.ex (.slice (A) (N) (cA)),.ex (ak (d)),.ex (.pointer (aD (A) (d).toNat)),.ex (ak (gi (R) (d))),.ex (.pointer (aD (A1) 1)),.ex (.slice (A) (N) (cA)),.ex (ak ((e:Int))),.ex (.pointer (aD (A) ((e:Int)).toNat)),.ex (ak (gi (R) ((e:Int)))),.ex (.bool (decide ((gi (R) ((e:Int)))<=(gi (R) (d))))),.ex (.bool (decide ((gi (R) ((e:Int)))<=(gi (R) (d))))),.ex (.bool (false)),.ex (ak ((q:Int))),.ex (.bool (decide (((0:Int))< ((q:Int))))),.ex (.bool (true)),.ex (ak (d)),.ex (.pointer (aD (A1) 2)),.ex (.slice (D) (N) (cD)),.ex (ak ((e:Int))),.ex (.pointer (aD (D) ((e:Int)).toNat)),.ex (.slice ((rg (rs) ((e:Int))).a) ((rg (rs) ((e:Int))).n) ((rg (rs) ((e:Int))).c)),.ex (ak ((q:Int))),.ex (ak (((q:Int)) - ((1:Int)))),.ex (.pointer (aD ((rg (rs) ((e:Int))).a) (((q:Int)) - ((1:Int))).toNat)),.ex (ak (gi (gl B e) (((q:Int)) - ((1:Int))))),.ex (.bool (false)),.ex (.bool (false)),.ex (.bool (false))] O (dV O) ?_ ?_
     ·refine⟨Dr O,Dr O,fun _ _ _ _ _=>dA O Az,?_,fun _ _ _ _ _=>dk O O Az,fun _ _ _ _ _=>Dk O (by exact aH Value.bool (cS (fun h=>h (by omega)))),fun _ _ hb _ _=>au O (aS (h1.below hb) O Az),fun _ _ hb _ _=>au O (aZ (h1.below hb) O Az),Dr O,fun _ _ hb _ _=>au O (aB (hR.aq hb).2 O Az),fun _ _ hb _ _=>au O (aW (hR.aq hb) O Az),fun _ _ hb _ _=>au O (aS (h1.below hb) O Az),fun _ _ hb _ _=>au O (aZ (h1.below hb) O Az),Dr O,fun _ _ hb _ _=>au O (aB (hR.aq hb).2 O Az),fun _ _ hb _ _=>au O (aW (hR.aq hb) O Az),Dr O,Dr O,fun _ _ _ _ _=>Dk O (by exact aH Value.bool (cS (by omega))),Dr O,Dr O,fun _ _ _ _ _=>Dk O (by exact aH Value.bool (eD (by omega))),Dr O,fun _ _ hb _ _=>au O (aS (h1.below hb) O Az),fun _ _ hb _ _=>au O (aZ (h1.below hb) O Az),Dr O,fun _ _ hb _ _=>au O (aB (hB.top.aq hb).2 O Az),fun _ _ hb _ _=>au O (ck (hB.top.aq hb) O Az),Dr O,fun _ _ _ _ _=>au O (dA O Az),fun _ _ hb _ _=>au O (aB (bW.aq hb).2 O Az),fun _ _ hb _ _=>au O (aW (bW.aq hb) O Az),fun _ _ _ _ _=>Dk O (by exact aH Value.bool (cS (by omega))),Dr O,Dr O,av⟩
      ·intro e1 w1 hb hp aX;refine aI (qy _ _ _ _) O ?_;rintro _ w2 ⟨rfl,ax⟩;subst ax;refine ao.n (d0 (by exact O))
     intro u w8 hb _;refine tQ ?_;exact⟨(),⟨O,O,O,O,aH Value.bool (cS (by rw [sy];omega)).symm,av⟩,(St.refl w6).aq hb⟩
   rintro _ ev7 w7 x7;have hb:=x7.below;have h1:=Rd.below h1 hb;have hR:=hR.aq hb;have hB:=hB.aq hb;have bW:=bW.aq hb;clear hb;have bl:=((ay.aq ax.below).aq nH.below).aq (qw.aq x7.below).below;refine aN _ O (fun h6=>?_) (fun h6=>?_)
   ·refine du O (dN (dE (dN (dE ?_))));refine cH O ?_;rw [sy]at h6;exact⟨false,rfl,⟨fun h'=>absurd h' (by decide),fun hP=>by have h8:=hP.at_ (e:=(e:Int)) (by omega) (by omega);have h9:=h8.2.1 d gS;rcases Nat.eq_zero_or_pos q with h0 | h0<;>first | omega | (have:=eQ hP h0;rw [show((q - 1:Nat):Int)=(q:Int) - 1 by omega]at this;omega)⟩,bl.none⟩
   rw [sy]at h6;have vk:0<=d/\d< (e:Int):=by omega
   have fS:=hB.at_ (i:=d) (by omega) (by omega);have Jr:=fS.1;have hcapd:=hB.cap_ (i:=d) (by omega) (by omega);refine df O ?_;refine Cd.loop (α:=Nat) (fun t=> [(1,.pointer A1),(3,ak e),(4,ak q),(5,ak d),(6,ak t)]) (fun t w'=>t<=(rg rs d).n/\(∀p:Nat,p<t->gi (gl B d) p∈gl B e)/\St w7 w' []) (fun t=> (rg rs d).n - t) 0 (WM O) ⟨bn _,fun p hp=>by omega,St.refl _⟩ ?_;rintro t ev8 w8 ⟨ht,JG,Ba⟩;have hb:=Ba.below;have h1:=Rd.below h1 hb;have hR:=hR.aq hb;have hB:=hB.aq hb;have bW:=bW.aq hb;have fS:=fS.aq hb;clear hb;refine a8 O (aS h1 O (aZ h1 O (ar O (aB hB.top.2 O (ck hB.top O ?_)))));refine ba O O (aE O ?_);refine aN _ O (fun h7=>?_) (fun h7=>?_)
   ·have ya:t< (gl B d).length:=by omega
    have lk:=gi_in ya;refine df O ?_;refine dL [xP (aD (A1) 2),xS (D) (N) (cD),xI ((e:Int)),xP (aD (D) ((e:Int)).toNat),xS ((rg (rs) ((e:Int))).a) ((rg (rs) ((e:Int))).n) ((rg (rs) ((e:Int))).c),xP (aD (A1) 2),xS (D) (N) (cD),xI (d),xP (aD (D) (d).toNat),xS ((rg (rs) (d)).a) ((rg (rs) (d)).n) ((rg (rs) (d)).c),xI ((t:Int)),xP (aD ((rg (rs) (d)).a) ((t:Int)).toNat),xI (gi (gl B d) ((t:Int))),xB (decide (gi (gl B d) t∈gl B e)),xB (decide (¬(gi (gl B d) t∈gl B e)))] O (dV O) ?_ ?_
    ·refine⟨fun _ _ hb _ _=>aS (h1.below hb) O Az,fun _ _ hb _ _=>aZ (h1.below hb) O Az,Dr O,fun _ _ hb _ _=>aB (hB.top.aq hb).2 O Az,fun _ _ hb _ _=>ck (hB.top.aq hb) O Az,fun _ _ hb _ _=>aS (h1.below hb) O Az,fun _ _ hb _ _=>aZ (h1.below hb) O Az,Dr O,fun _ _ hb _ _=>aB (hB.top.aq hb).2 O Az,fun _ _ hb _ _=>ck (hB.top.aq hb) O Az,Dr O,fun _ _ hb _ _=>aB (fS.aq hb).2 O Az,fun _ _ hb _ _=>aW (fS.aq hb) O Az,?_,fun _ _ _ _ _=>dk O O Az,av⟩
     ·intro e1 w1 hb hp aX;refine aI (uk _ _ _ _ _ _ (bW.aq hb) (by omega)) O ?_;rintro _ w2 ⟨rfl,ax⟩;subst ax;refine ao.n (d0 (by exact O))
    intro u w9 tM _;refine fq O (aN _ O (fun h8=>?_) (fun h8=>?_))
    ·refine du O (dN (dE (dN (dE (dN (dE ?_))))));exact cH O ⟨false,O,⟨fun h'=>absurd h' (by decide),fun hP=>absurd (hP.tr e (by omega) d gS _ lk) h8⟩,((bl.aq Ba.below).aq tM).none⟩
    ·refine aG O (aK O (aR O (tQ ?_)));exact⟨t+1,by show(rg rs d).n - (t+1)< (rg rs d).n - t;omega,(WM O),by omega,fun p hp=>by
      by_cases ep:p=t
      ·subst ep;exact Decidable.not_not.1 h8
      ·exact JG p (by omega),Ba.aq tM⟩
   ·refine bk O (bm (ct O (aK O (aR O (tQ ?_)))));refine⟨q+1,by show(rg rs e).n - (q+1)< (rg rs e).n - q;omega,(WM O),by omega,fun p hp=>?_,x8 (by rw [qk];omega),fun p hp c hc=>?_,qw.aq (x7.aq Ba.below).below⟩
    ·by_cases ep:p=q
     ·subst ep;rw [qk];omega
     ·exact de p (by omega)
    ·by_cases ep:p=q
     ·subst ep;rw [qk]at hc;obtain⟨j,hj,rfl⟩:=eZ.1 hc;have:=JG j (by omega)
      rwa [bF hj]at this
     ·exact ug p (by omega) c hc
  ·refine bk O (bm (ct O (aK O (aR O (tQ ?_)))));refine⟨e+1,by show N - (e+1)<N - e;omega,(WM O),by omega,fun j hj=>?_,ax.aq (nH.aq qw.below).below⟩
   by_cases ee:j=e
   ·subst ee;refine⟨by omega,fun h0=>by omega,⟨KR fun p hp=>has p (by omega),fun d hd=>?_⟩,fun d hd c hc=>?_⟩
    ·obtain⟨p,hp,rfl⟩:=eZ.1 hd;have:=de p (by omega);rw [bF hp]at this;exact⟨⟨this.1.1,by omega⟩,this.2⟩
    ·obtain⟨p,hp,rfl⟩:=eZ.1 hd;exact ug p (by omega) c (by rw [bF hp];exact hc)
   ·exact kj j (by omega)
 ·refine bk O (bm (fA O ?_));refine cH O ?_;have dv:∀j:Nat,j<R.length->Gi n R B j:=fun j hj=>kj j (by omega)
  refine⟨true,O,⟨fun _=> ⟨by omega,by omega,by omega,fun x hx=>?_,MF fun j hj=> (dv j hj).nm,fun j hj=> (dv j hj).row,fun j hj=> (dv j hj).tr⟩,fun _=>O⟩,(ay.aq ax.below).none⟩;obtain⟨j,hj,rfl⟩:=eZ.1 hx;have:=(dv j hj).jD
  rwa [bF hj]at this
section
variable {P:Program} {N:Nat} {ops:Array Oper} {K:Env->aa->Prop} {rest:List Oper} {e:Env} {w:aa} {d:Nat} {ty:ae} {pos:String} {af:Array Edge}
theorem L2{F:FuncId}{x y z u:ag}{v1 v2 v3 v4:ad}(hx:ev e x=v1)(hy:ev e y=v2)(hz:ev e z=v3)(hu:ev e u=v4)(hb:Nat.blt d N=true)(hK:ao P N ops K rest (bj e d (.func (.func F) #[] #[v1,v2,v3,v4])) w):
 ao P N ops K (⟨some d,.makeFunc (.func F) #[] #[x,y,z,u],ty,pos,af,none⟩::rest) e w:=
 .val (by simp [execOp,Instr.makeFunc,hx,hy,hz,hu]) hb hK
end
theorem tq{l:ah}(h:l.length<=401):cap l=l:=by
 unfold cap;exact lD h
def qR(U:ah):Nat->Int->ah
 | 0,_=> [[]]
 | k+1,e=> (gl U e).flatMap fun f=> (qR U k f).map (f:: ·)
def jM(U:ah)(k:Nat)(fl xs:ai):ah:=xs.flatMap fun e=> (qR U k e).map fun y=>fl++e::y
theorem On{U:ah}{k:Nat}{fl xs:ai}{j:Nat}(h:j<xs.length):jM U k fl (xs.take (j+1))=jM U k fl (xs.take j)++ (qR U k (gi xs j)).map fun y=>fl++gi xs j::y:=by
 unfold jM;rw [oZ h,List.flatMap_append,bF h];simp
theorem Om(U:ah)(k:Nat)(fl:ai)(e:Int):(qR U (k+1) e).map (fun y=>fl++e::y)=jM U k (fl++ [e]) (gl U e):=by
 unfold jM;rw [qR,List.map_flatMap];refine aH (fun g=>List.flatMap g (gl U e)) (funext fun f=>?_);rw [List.map_map];refine kS fun y _=>?_
 show fl++e::f::y=(fl++ [e])++f::y;rw [ig];rfl
abbrev kD(PF A:aj)(c:Nat)(rs:List aL)(F:ah)(PB:aj)(n:Int)(AR:aj)(nR cR:Nat)(AD:aj)(m d:Nat)(PG PU Au:aj)(N cU:Nat)(cO:List aL)(U:ah)(dX:List Ck):List Ck:=
 Bx 25 1 PF [.slice A F.length c]::(aQ 24 2 A F.length c rs F++ (a7 PB n AR nR cR AD m d::Bx 107 1 PG [.func (.func 108) #[] #[.pointer PF,.pointer PB,.pointer PG,.pointer PU]]::Bx 25 1 PU [.slice Au N cU]::(aQ 24 2 Au N cU cO U++dX)))
theorem TO{α:Type}(x b c:α)(X Y:List α):(x::b::c::(X++Y)).Perm (b::c::((X++ [x])++Y)):=by
 classical
 refine l3.2 fun z=>?_
 simp only [mW,lB,nY];omega
theorem zC(PF A:aj)(c:Nat)(rs:List aL)(F:ah)(PB:aj)(n:Int)(AR:aj)(nR cR:Nat)(AD:aj)(m d:Nat)(PG PU Au:aj)(N cU:Nat)(cO:List aL)(U:ah)(dX:List Ck):(a7 PB n AR nR cR AD m d::Bx 107 1 PG [.func (.func 108) #[] #[.pointer PF,.pointer PB,.pointer PG,.pointer PU]]::Bx 25 1 PU [.slice Au N cU]::(aQ 24 2 Au N cU cO U++dX)).Sublist (kD PF A c rs F PB n AR nR cR AD m d PG PU Au N cU cO U dX):=(gq _ _).cons _
theorem Hz(PF A:aj)(c:Nat)(rs:List aL)(F:ah)(PB:aj)(n:Int)(AR:aj)(nR cR:Nat)(AD:aj)(m d:Nat)(PG PU Au:aj)(N cU:Nat)(cO:List aL)(U:ah)(dX:List Ck)(x:Ck):(x::kD PF A c rs F PB n AR nR cR AD m d PG PU Au N cU cO U dX).Perm (kD PF A c rs F PB n AR nR cR AD m d PG PU Au N cU cO U (x::dX)):=by
 classical
 refine l3.2 fun z=>?_
 simp only [kD,mW,lB];omega
theorem Kd{w0 w':aa}{PF A:aj}{c:Nat}{rs:List aL}{F:ah}{PB:aj}{n:Int}{AR:aj}{nR cR:Nat}{AD:aj}{m d:Nat}{PG PU Au:aj}{N cU:Nat}{cO:List aL}{U:ah}{dX:List Ck}{t:ae}{B:aj}{q r:Nat}{xs:ai}(h:St w0 w' (kD PF A c rs F PB n AR nR cR AD m d PG PU Au N cU cO U (aw t B q r xs::dX))):bu w' B q xs:=(h.perm (Hz ..).symm).bo 0 rfl
theorem Ow(PF A:aj)(c:Nat)(rs:List aL)(F:ah)(PB:aj)(n:Int)(AR:aj)(nR cR:Nat)(AD:aj)(m d:Nat)(PG PU Au:aj)(N cU:Nat)(cO:List aL)(U:ah)(dX:List Ck)(x:Ck):(kD PF A c rs F PB n AR nR cR AD m d PG PU Au N cU cO U dX).Sublist (kD PF A c rs F PB n AR nR cR AD m d PG PU Au N cU cO U (x::dX)):=(((((((gB dX).cons x).append_left _).cons_cons _).cons_cons _).cons_cons _).append_left _).cons_cons _
theorem HA{w0 w':aa}{PF A:aj}{c:Nat}{rs:List aL}{F:ah}{PB:aj}{n:Int}{AR:aj}{nR cR:Nat}{AD:aj}{m d:Nat}{PG PU Au:aj}{N cU:Nat}{cO:List aL}{U:ah}{dX:List Ck}(zT:U.length=N)(h:St w0 w' (kD PF A c rs F PB n AR nR cR AD m d PG PU Au N cU cO U dX)):bq w' Au N cO U:=
 St.iX (t1:=24) (t2:=2) (c:=cU) (h.sub (((((gB (aQ 24 2 Au N cU cO U++dX)).cons _).cons _).cons _).trans (zC ..))) zT
theorem Oo(w0:aa)(n:Nat)(QB:n<=5)(PF PB AR AD PG PU Au:aj)(nR cR m d N cU:Nat)(cO:List aL)(U:ah)(zT:U.length=N)(hN:N<=500)(Pr:∀e:Nat,e<N->(gl U e).length<=500/\∀x∈gl U e,0<=x/\x< (N:Int)):
 ∀(k nf nx:Nat) (fl xs:ai) (Af Ax:aj) (cf cx:Nat) (dX:List Ck) (w:aa) (A:aj) (c:Nat) (rs:List aL) (F:ah),fl.length=nf->xs.length=nx->nf+ (k+1)=n->nx<=500->(∀x∈xs,0<=x/\x< (N:Int))->
  (∀w' A c rs F,St w0 w' (kD PF A c rs F PB n AR nR cR AD m d PG PU Au N cU cO U dX)->bu w' Af nf fl)->
  (∀w' A c rs F,St w0 w' (kD PF A c rs F PB n AR nR cR AD m d PG PU Au N cU cO U dX)->bu w' Ax nx xs)->
  rs.length=F.length->F.length<=401->St w0 w (kD PF A c rs F PB n AR nR cR AD m d PG PU Au N cU cO U dX)->
  aJ prog 108 [.slice Af nf cf,.slice Ax nx cx,.pointer PF,.pointer PB,.pointer PG,.pointer PU] w (fun v w'=>v= .tuple #[]/\∃A' c' rs',rs'.length=(cap (F++jM U k fl xs)).length/\St w0 w' (kD PF A' c' rs' (cap (F++jM U k fl xs)) PB n AR nR cR AD m d PG PU Au N cU cO U dX)):=by
 intro k
 induction k using Nat.strongRecOn with
 | _ k ih=>
  intro nf nx fl xs Af Ax cf cx dX w A c rs F xO e6 fB hxs Bf hf hx gV hF hS;refine br func108 O ntmps108 O (T6 O) ?_;refine a8 O (ba O O (aE O ?_));refine Cd.loop (α:=Nat×aj×Nat×List aL) (fun z=> [(0,.slice Af nf cf),(2,.pointer PF),(3,.pointer PB),(4,.pointer PG),(5,.pointer PU),(11,.slice Ax nx cx),(12,ak nx),(13,ak (z.1:Int))])
   (fun z w'=>z.1<=nx/\z.2.2.2.length=(cap (F++jM U k fl (xs.take z.1))).length/\St w0 w' (kD PF z.2.1 z.2.2.1 z.2.2.2 (cap (F++jM U k fl (xs.take z.1))) PB n AR nR cR AD m d PG PU Au N cU cO U dX)) (fun z=>nx - z.1) (0,A,c,rs) ⟨rfl,rfl,rfl,rfl,rfl,rfl,rfl,rfl,av⟩ ⟨bn _,by
     show rs.length=(cap (F++ [])).length;rw [fO,tq hF];exact gV,by
     show St w0 w (kD PF A c rs (cap (F++ [])) _ _ _ _ _ _ _ _ _ _ _ _ _ _ _ _);rw [fO,tq hF];exact hS⟩ ?_
  clear hS gV;rintro⟨j,A,c,rs⟩ e w1 ⟨hj,gV,hS⟩;dsimp only at hj gV hS|-;generalize hG:F++jM U k fl (xs.take j)=G at*;refine bX O (aN _ O (fun h1=>?_) (fun h1=>?_))
  ·have pb:j<xs.length:=by omega
   have hR:=hx _ _ _ _ _ hS;have yg:=Bf _ (gi_in pb);have u6:F++jM U k fl (xs.take (j+1))=G++ (qR U k (gi xs j)).map fun y=>fl++gi xs j::y:=by
    rw [On pb,<-ig,hG]
   have An:F++jM U k fl xs=G++jM U k fl (xs.drop j):=by
    rw [<-hG,ig]
    congr 1
    unfold jM;rw [<-List.flatMap_append,List.take_append_drop]
   refine aG O (aB hR.2 O (aW hR O (ar O ?_)));obtain⟨E,hE⟩:∃E:Nat,gi xs j=E:=⟨(gi xs j).toNat,by omega⟩;rw [hE]at u6 yg|-;refine aI (yN Af nf cf fl _ (hf _ _ _ _ _ hS) (by omega)) O ?_;rintro _ w2 ⟨BV,c18,rfl,ax⟩;have aM:=hS.call ax;clear ax hS;refine ar O (eE aM O O O ?_);intro iZ w3 aU;refine fj 1 aU O (aU.bo 0 O) O O O ?_;intro di dB w4 bd;have bd:St w0 w4 (aw 2 di (nf+1) dB (fl++ [(E:Int)])::kD PF A c rs (cap G) PB n AR nR cR AD m d PG PU Au N cU cO U dX):=bd.tail;clear aU aM;have eN:Rd w4 PF 1 (fun _=> .slice A (cap G).length c):=jI (bd.rd 1 O);refine ar O (WI (j:=0) eN (by exact aH Value.pointer (ko _).symm) O O O O ?_);refine ba O O (aE O ?_);refine aN _ O (fun h2=>?_) (fun h2=>?_)
   ·refine du O (dN (dE ?_));refine Ui ⟨O,A,c,rs,?_,?_⟩
    ·rw [An,zh _ (by omega)];exact gV
    ·rw [An,zh _ (by omega)];exact bd.tail
   have cT:=CC (l:=G) (by omega);have iI:=((bd.tail).sub (zC ..)).rd 0 O
   by_cases qn:k=0
   ·--dup 2
    refine df O (dL [xS (di) (nf+1) (dB),xI ((nf+1:Nat):Int),xP (aD (PB) 0),xI ((n:Int)),xB (true),xB (true)] O (dV O) ?_ ?_)
    ·refine⟨Dr O,?_,fun _ _ hb _ _=>aS (iI.below hb) O Az,fun _ _ hb _ _=>fJ (iI.below hb) O O O O O Az,fun _ _ _ _ _=>Dk O (by exact aH Value.bool (eD (by omega))),Dr O,av⟩
     ·intro e1 w1 hb hp aX;refine aI (s8 _ _ _ _) O ?_;rintro _ w2 ⟨rfl,ax⟩;subst ax;refine ao.n (d0 (by exact O))
    intro u w5 fm _;have bh:=bd.aq fm;clear bd iI eN;have eN:Rd w5 PF 1 (fun _=> .slice A (cap G).length c):=jI (bh.rd 1 O);refine fq O (Cd.fx O (aG O (WI (j:=0) eN (by exact aH Value.pointer (ko _).symm) O O O O (ar O (l6 bh O O O ?_)))));intro A41 w6 bD;refine l5 3 bD O (bD.fz 0 O) O O O (by omega) (by omega) O ?_;intro uE uQ w7 bl;refine ao.st (i:=2) (j:=0) bl O (by exact aH Value.pointer (ko _).symm) O O (Nat.succ_pos _) ?_;intro w8 b7;have bg:St w0 w8 (aw 2 di (nf+1) dB (fl++ [(E:Int)])::Bx 25 1 PF [.slice uE ((cap G).length+1) uQ]::bE 24 uE ((cap G).length+1) uQ (rs++ [⟨di,nf+1,dB⟩])::(b6 2 rs (cap G)++_)):=b7.tail;have bg:=bg.perm (TO _ _ _ _ _);rw [<-rQ gV]at bg;have hex:(qR U k (E:Int)).map (fun y=>fl++ (E:Int)::y)=[fl++ [(E:Int)]]:=by rw [qn];rfl
    rw [hex]at u6;have lJ:=M5 (l:=G) (fl++ [(E:Int)]) (by omega);refine ar O (aK O (aR O (tQ ?_)));refine⟨(j+1,uE,uQ,rs++ [⟨di,nf+1,dB⟩]),by show nx - (j+1)<nx - j;omega,(WM O),by show j+1<=nx;omega,?_,?_⟩
    ·show(rs++ [_]).length=(cap (F++jM U k fl (xs.take (j+1)))).length;rw [u6,lJ,eY,eY,gV];rfl
    ·show St w0 w8 (kD PF uE uQ (rs++ [_]) (cap (F++jM U k fl (xs.take (j+1)))) PB n AR nR cR AD m d PG PU Au N cU cO U dX);rw [u6,lJ];show St w0 w8 (Bx _ 1 PF [.slice uE (cap G++ [fl++ [(E:Int)]]).length uQ]::(bE _ uE (cap G++ [fl++ [(E:Int)]]).length uQ _::_));rw [show(cap G++ [fl++ [(E:Int)]]).length=(cap G).length+1 by simp];exact bg
   ·obtain⟨k',rfl⟩:∃k',k=k'+1:=⟨k - 1,by omega⟩;rw [Om]at u6;refine df O (dL [xS (di) (nf+1) (dB),xI ((nf+1:Nat):Int),xP (aD (PB) 0),xI ((n:Int)),xB (false),xB (false)] O (dV O) ?_ ?_)
    ·refine⟨Dr O,?_,fun _ _ hb _ _=>aS (iI.below hb) O Az,fun _ _ hb _ _=>fJ (iI.below hb) O O O O O Az,fun _ _ _ _ _=>Dk O (by exact aH Value.bool (cS (by omega))),Dr O,av⟩
     ·intro e1 w1 hb hp aX;refine aI (s8 _ _ _ _) O ?_;rintro _ w2 ⟨rfl,ax⟩;subst ax;refine ao.n (d0 (by exact O))
    intro u w5 fm _;have bh:=(bd.aq fm).perm (Hz ..);clear bd iI eN;have jQ:Rd w5 PG 1 (fun _=> .func (.func 108) #[] #[.pointer PF,.pointer PB,.pointer PG,.pointer PU]):=jI ((bh.sub (zC ..)).rd 1 O);have mF:Rd w5 PU 1 (fun _=> .slice Au N cU):=jI ((bh.sub (zC ..)).rd 2 O);have hU:=HA zT bh;have Jx:=hU.at_ (i:=(E:Int)) (by omega) (by omega);have DS:=Pr E (by omega);refine fq O (Cd.eM O ?_);refine ja [6] [.ex (.func (.func 108) #[] #[.pointer PF,.pointer PB,.pointer PG,.pointer PU]),yS (di) (nf+1) (dB),yS (Au) (N) (cU),yI ((E:Int)),yP (aD (Au) ((E:Int)).toNat),yS ((rg (cO) ((E:Int))).a) ((rg (cO) ((E:Int))).n) ((rg (cO) ((E:Int))).c),.pr (fun v w'=>∃A' c' rs',rs'.length=(cap (cap G++jM U k' (fl++ [(E:Int)]) (gl U E))).length/\St w0 w' (kD PF A' c' rs' (cap (cap G++jM U k' (fl++ [(E:Int)]) (gl U E))) PB n AR nR cR AD m d PG PU Au N cU cO U dX))] (by kernel_rfl) (by kernel_rfl) (ly (ly (ly (ly (ly (ly (cM.2 ⟨Ye.cN (fun v w w' h hb=>by obtain⟨A',c',rs',dZ,hT⟩:=h;exact⟨A',c',rs',dZ,hT.aq hb⟩),(fun _ h=>by cases h)⟩))))))) ?_ ?_
    ·refine⟨?_,bT O,cP fun _ _ hb _ _ _=>WI (j:=0) (mF.below hb) (by exact aH Value.pointer (ko _).symm) O O O O (bB O O),bT O,cP fun _ _ hb _ _ _=>aB (hU.top.aq hb).2 O (bB O O),cP fun _ _ hb _ _ _=>ck (hU.top.aq hb) O (bB O O),?_,av⟩
     ·refine cP fun e1 w1 hb hp aX hq=>?_
      refine ao.ld (Rd.below jQ hb) (by exact aH Value.pointer (ko _).symm) (by decide) O O O ?_;refine ao.n (eO O (by exact O))
     ·refine jc fun e1 w1 hb hp aX hq=>?_
      refine aI (ih k' (Nat.lt_succ_self _) (nf+1) (rg cO E).n (fl++ [(E:Int)]) (gl U E) di (rg cO E).a dB (rg cO E).c (aw 2 di (nf+1) dB (fl++ [(E:Int)])::dX) _ A c rs (cap G) (by rw [eY,xO];rfl) Jx.1 (by omega) (by have:=Jx.1;omega) DS.2 (fun w' A c rs F h=>Kd h) (fun w' A c rs F h=> (HA zT h).at_ (i:=(E:Int)) (by omega) (by omega)) gV (CD G) (bh.aq hb)) O ?_;rintro _ w9 ⟨rfl,A',c',rs',dZ,bg⟩;exact ao.n (fg.dn O ⟨A',c',rs',dZ,bg.sub (Ow ..)⟩)
    intro u w6 _ hu _ _;obtain⟨A',c',rs',dZ,hT⟩:=hu 6 _ rfl (by kernel_rfl);rw [cT,<-u6]at dZ hT;refine gZ O (aK O (aR O (tQ ?_)));exact⟨(j+1,A',c',rs'),by show nx - (j+1)<nx - j;omega,(WM O),by show j+1<=nx;omega,dZ,hT⟩
  ·have pb:j=xs.length:=by omega
   rw [pb,List.take_length]at hG;rw [<-hG]at gV hS;refine bk O (bm (F3 O ?_));exact Uh ⟨O,A,c,rs,gV,hS⟩
def qG(n:Nat)(R:ai)(B:ah)(E F x:Nat):ai:=
 if x<E then []else(iy R B x).filter fun g=>decide (cW n R B g/\(x=E->g< (F:Int)))
def eR(n:Nat)(R:ai)(B:ah)(E F:Nat):ah:=(List.range R.length).map (qG n R B E F)
def pT(n:Nat)(R:ai)(B:ah)(E F x:Nat):Bool:=
 if x<E then false else if x=E then decide (gi R x=(n:Int) - 1\/∃g∈iy R B x,cW n R B g/\g< (F:Int))else decide (cW n R B x)
def eL(n:Nat)(R:ai)(B:ah)(E F:Nat):List Bool:=(List.range R.length).map (pT n R B E F)
section
variable {n:Nat} {R:ai} {B:ah} {E F x:Nat}
theorem ta:(eR n R B E F).length=R.length:=by simp [eR]
theorem nk:(eL n R B E F).length=R.length:=by simp [eL]
theorem FL(h:x<R.length):gl (eR n R B E F) x=qG n R B E F x:=by
 rw [cX (by rw [ta];exact h)];simp [eR]
theorem Gm(h:x<R.length):gb (eL n R B E F) x=pT n R B E F x:=by
 unfold gb;rw [fW,cz,eS (by rw [nk];exact h),Option.getD_some];simp [eL]
theorem Vd:eR n R B R.length F=List.replicate R.length []:=by
 refine List.eq_replicate_iff.2 ⟨ta,fun y hy=>?_⟩;obtain⟨x,hx,rfl⟩:=fh.1 hy;unfold qG;rw [aF (fP.1 hx)]
theorem Mo:eL n R B R.length F=List.replicate R.length false:=by
 refine List.eq_replicate_iff.2 ⟨nk,fun y hy=>?_⟩;obtain⟨x,hx,rfl⟩:=fh.1 hy;unfold pT;rw [aF (fP.1 hx)]
theorem tb(hP:dm n R B){e g:Int}(h:g∈iy R B e):e<g/\g<R.length:=by
 obtain⟨h1,_,h3⟩:=lA.1 h;exact⟨((hP.at_ h1.1 h1.2).2.1 e h3).1.2,h1.2⟩
theorem Vg(hP:dm n R B)(hE:E<R.length):eR n R B E (E+1)=eR n R B (E+1) R.length:=by
 refine kS fun x hx=>?_
 have hx:=fP.1 hx;unfold qG
 by_cases c1:x<E
 ·rw [aF c1,aF (by omega)]
 rw [aC c1]
 by_cases c2:x=E
 ·subst c2;rw [aF (by omega),List.filter_eq_nil_iff];intro g hg h;have h3:=(rK h).2 O;have:=tb hP hg;omega
 rw [aC (by omega)];refine List.filter_congr fun g hg=>kg.2 ?_
 have:=tb hP hg;exact⟨fun h=> ⟨h.1,fun _=>by omega⟩,fun h=> ⟨h.1,fun h=>absurd h c2⟩⟩
theorem Vf(h:¬(cW n R B F/\(F:Int)∈iy R B E)):eR n R B E (F+1)=eR n R B E F:=by
 refine kS fun x hx=>?_
 unfold qG
 by_cases c1:x<E
 ·rw [aF c1,aF c1]
 rw [aC c1,aC c1];refine List.filter_congr fun g hg=>kg.2 ⟨fun h2=> ⟨h2.1,fun e=>?_⟩,fun h2=> ⟨h2.1,fun e=>by have:=h2.2 e;omega⟩⟩
 have h3:=h2.2 e;subst e;have:g≠(F:Int):=fun e=>h ⟨e▸h2.1,e▸hg⟩
 omega
theorem Ve(hE:E<R.length)(h:cW n R B F/\(F:Int)∈iy R B E):(eR n R B E F).set E (gl (eR n R B E F) E++ [(F:Int)])=eR n R B E (F+1):=by
 apply ia (by rw [ij,ta,ta]);intro x h1 h2;rw [ta]at h2;have e2:∀d' (hx:x< (eR n R B E d').length),(eR n R B E d')[x]=qG n R B E d' x:=fun d' hx=>by simp [eR]
 rw [List.getElem_set,e2 (F+1) (by rw [ta];exact h2),e2 F (by rw [ta];exact h2)]
 by_cases c:E=x
 ·subst c;rw [aF rfl,FL hE];unfold qG;rw [aC (Nat.lt_irrefl _),aC (Nat.lt_irrefl _)];have hs:=yG R B E;refine SA.eq ?_ (lX _ hs) fun y=>?_
  ·rw [SA,List.pairwise_append];refine⟨lX _ hs,List.pairwise_singleton _ _,fun a ha b hb=>?_⟩;obtain rfl:=eP.1 hb;exact(rK (fZ.1 ha).2).2 O
  rw [gL,fZ,fZ,eP];simp only [jL];constructor
  ·rintro(⟨h3,h4,h5⟩ | rfl)
   ·exact⟨h3,h4,fun e=>by have:=h5 e;omega⟩
   exact⟨h.2,h.1,fun _=>by omega⟩
  rintro⟨h3,h4,h5⟩
  by_cases e3:y=(F:Int)
  ·exact .inr e3
  exact .inl ⟨h3,h4,fun e=>by have:=h5 e;omega⟩
 rw [aC c];unfold qG
 by_cases c1:x<E
 ·rw [aF c1,aF c1]
 rw [aC c1,aC c1];exact List.filter_congr fun g hg=>kg.2 ⟨fun h2=> ⟨h2.1,fun e=>absurd e.symm c⟩,fun h2=> ⟨h2.1,fun e=>absurd e.symm c⟩⟩
theorem Gn{x:Nat}(hP:dm n R B)(hx:x<R.length)(h:(gi R x=(n:Int) - 1\/∃g∈iy R B x,cW n R B g/\g< (R.length:Int))):cW n R B x:=by
 rcases h with h | ⟨g,h1,h2,_⟩
 ·exact Gs h
 have h3:=(lA.1 h1);have:=hP.ri h3.1.1 h3.1.2;have:=hP.ri (e:=(x:Int)) (by omega) (by omega);exact(y7 (by omega) (by omega)).2 ⟨g,h1,h2⟩
theorem Gp{x:Nat}(hP:dm n R B)(hx:x<R.length)(h:cW n R B x):(gi R x=(n:Int) - 1\/∃g∈iy R B x,cW n R B g/\g< (R.length:Int)):=by
 have:=hP.ri (e:=(x:Int)) (by omega) (by omega)
 by_cases c:gi R x=(n:Int) - 1
 ·exact .inl c
 obtain⟨g,h1,h2⟩:=(y7 (by omega) (by omega)).1 h;exact .inr ⟨g,h1,h2,(tb hP h1).2⟩
theorem Mr(hP:dm n R B)(hE:E<R.length):(eL n R B (E+1) R.length).set E (decide (gi R E=(n:Int) - 1))=eL n R B E (E+1):=by
 apply ia (by rw [ij,nk,nk]);intro x h1 h2;rw [nk]at h2;have e2:∀e' d' (hx:x< (eL n R B e' d').length),(eL n R B e' d')[x]=pT n R B e' d' x:=fun e' d' hx=>by simp [eL]
 rw [List.getElem_set,e2 _ _ (by rw [nk];exact h2),e2 _ _ (by rw [nk];exact h2)];unfold pT
 by_cases c:E=x
 ·subst c;rw [aF rfl,aC (Nat.lt_irrefl _),aF rfl];refine kg.2 ⟨fun h=> .inl h,fun h=>?_⟩;rcases h with h | ⟨g,h3,_,h4⟩
  ·exact h
  have:=tb hP h3;omega
 rw [aC c]
 by_cases c1:x<E
 ·rw [aF (by omega),aF c1]
 rw [aC (by omega),aC c1,aC (show ¬x=E from fun e=>c e.symm)]
 split
 ·refine kg.2 ⟨fun h=>Gn hP h2 h,fun h=>Gp hP h2 h⟩
 rfl
theorem Mq(h:¬(cW n R B F/\(F:Int)∈iy R B E)):eL n R B E (F+1)=eL n R B E F:=by
 refine kS fun x hx=>?_
 unfold pT
 by_cases c1:x<E
 ·rw [aF c1,aF c1]
 rw [aC c1,aC c1]
 by_cases c2:x=E
 ·subst c2;rw [aF rfl,aF rfl];refine kg.2 (or_congr Iff.rfl ⟨?_,?_⟩)
  ·rintro⟨g,h1,h2,h3⟩;have:g≠(F:Int):=fun e=>h ⟨e▸h2,e▸h1⟩
   exact⟨g,h1,h2,by omega⟩
  rintro⟨g,h1,h2,h3⟩;exact⟨g,h1,h2,by omega⟩
 rw [aC c2,aC c2]
theorem Mp(hE:E<R.length)(h:cW n R B F/\(F:Int)∈iy R B E):(eL n R B E F).set E true=eL n R B E (F+1):=by
 apply ia (by rw [ij,nk,nk]);intro x h1 h2;rw [nk]at h2;have e2:∀e' d' (hx:x< (eL n R B e' d').length),(eL n R B e' d')[x]=pT n R B e' d' x:=fun e' d' hx=>by simp [eL]
 rw [List.getElem_set,e2 _ _ (by rw [nk];exact h2),e2 _ _ (by rw [nk];exact h2)];unfold pT
 by_cases c:E=x
 ·subst c;rw [aF rfl,aC (Nat.lt_irrefl _),aF rfl];exact(eD (.inr ⟨_,h.2,h.1,by omega⟩)).symm
 rw [aC c]
 by_cases c1:x<E
 ·rw [aF c1,aF c1]
 rw [aC c1,aC c1,aC (fun e=>c e.symm),aC (fun e=>c e.symm)]
theorem Mn(hP:dm n R B)(tC:E<F)(hF:F<R.length):gb (eL n R B E F) F=decide (cW n R B F):=by
 rw [Gm hF];unfold pT;rw [aC (by omega),aC (by omega)]
theorem Mm(hP:dm n R B)(hx:x<R.length):gb (eL n R B 0 R.length) x=decide (cW n R B x):=by
 rw [Gm hx];unfold pT;rw [aC (by omega)]
 split
 ·exact kg.2 ⟨fun h=>Gn hP hx h,fun h=>Gp hP hx h⟩
 rfl
theorem K6(hP:dm n R B)(hx:x<R.length):gl (eR n R B 0 R.length) x=(iy R B x).filter fun g=>decide (cW n R B g):=by
 rw [FL hx];unfold qG;rw [aC (by omega)];refine List.filter_congr fun g hg=>kg.2 ⟨fun h=>h.1,fun h=> ⟨h,fun _=> (tb hP hg).2⟩⟩
theorem wH{α β:Type}{f g:α->List β}:∀ {l:List α},(∀x∈l,f x=g x)->l.flatMap f=l.flatMap g
 | [],_=>rfl
 | a::r,h=>by rw [List.flatMap_cons,List.flatMap_cons,h a (List.mem_cons_self ..),wH fun x hx=>h x (oY _ hx)]
theorem G6(hP:dm n R B):∀(k:Nat) (e:Int),0<=e->e<R.length->(gi R e).toNat+k=n - 1->qR (eR n R B 0 R.length) k e=kY R B k e
 | 0,_,_,_,_=>rfl
 | k+1,e,h0,h1,h2=>by
  have hr:=hP.ri h0 h1;obtain⟨x,rfl⟩:∃x:Nat,e=x:=⟨e.toNat,by omega⟩;rw [qR,K6 hP (by omega),Lc hr.1 (by omega)];refine wH fun f hf=>?_
  have hf:=(lA.1 (fZ.1 hf).1);rw [G6 hP k f hf.1.1 hf.1.2 (by omega)]
theorem Ol(hn:1<=n)(hP:dm n R B):jM (eR n R B 0 R.length) (n - 1) [] ((qN R).filter fun f=>decide (cW n R B f))=aA n R B:=by
 rw [GG];unfold jM;refine wH fun e he=>?_
 have he:=tn.1 (fZ.1 he).1;rw [G6 hP _ e he.1.1 he.1.2 (by omega)]
 rfl
theorem MV{m:Nat}(hm:m<R.length):((cI (m+1)).filter fun e=>decide (gi R e=0) && decide (cW n R B e))=((cI m).filter fun e=>decide (gi R e=0) && decide (cW n R B e))++ (if gi R m=0/\cW n R B m then [(m:Int)]else []):=by
 unfold cI;rw [l4,List.map_append,oW]
 congr 1
 by_cases c:gi R m=0/\cW n R B m
 ·rw [aF c];simp [c.1,c.2]
 rw [aC c];rw [List.filter_eq_nil_iff];intro a ha h;obtain rfl:=eP.1 ha;simp at h;exact c h
theorem MU:((cI R.length).filter fun e=>decide (gi R e=0) && decide (cW n R B e))=(qN R).filter fun f=>decide (cW n R B f):=by
 unfold qN;rw [List.filter_filter];exact List.filter_congr fun x _=>Bool.and_comm _ _
end
def qb(n:Nat)(R:ai)(B:ah):ah:=if(aA n R B).length<=400 then aA n R B else []
def me(n:Nat)(R:ai)(B:ah):Int:=if(aA n R B).length<=400 then 0 else 3
abbrev o6(A1 PU Au dJ:aj)(n:Nat)(A D:aj)(N cA cD:Nat)(al:List Bool)(cO:List aL)(U:ah):List Ck:=
 eC 4 dJ N N al::Bx 25 1 PU [.slice Au N N]::a7 A1 n A N cA D N cD::(aQ 24 2 Au N N cO U++ [])
theorem tw(n:Nat)(A D:aj)(cA cD:Nat)(R:ai)(rs:List aL)(B:ah)(w:aa)(hR:bu w A R.length R)(hB:bq w D B.length rs B)(hP:dm n R B):
 aJ prog 56 [.agg #[ak n,.slice A R.length cA,.slice D B.length cD]] w (td (qb n R B) (me n R B) w):=by
 have hn:=hP.n1;have gQ:=hP.jK;have hle:=hP.len;have bH:=fun e (h:e<R.length)=>hP.row e h
 have bM:∀e:Nat,e<R.length->(gl B e).length<=500:=fun e h=>by
  have:=nN (N:=R.length) (bH e h).1.nodup fun x hx=> ((bH e h).2 x hx).1
  omega
 have EH:∀E F:Nat,(eR n R B E F).length=R.length:=fun E F=>ta
 have kH:∀E F:Nat,(eL n R B E F).length=R.length:=fun E F=>nk
 have JD:=fun E (h:E<R.length)=>Vg (n:=n) hP h
 have JC:=fun E (h:E<R.length)=>Mr (n:=n) hP h
 have IU:=Vd (n:=n) (R:=R) (B:=B) (F:=R.length);have IV:=Mo (n:=n) (R:=R) (B:=B) (F:=R.length);have Ah:=fun E F (h:E<F) (hF:F<R.length)=>Mn (n:=n) hP h hF
 have sJ:=fun E F (hE:E<R.length) h=>Ve (n:=n) (R:=R) (B:=B) (E:=E) (F:=F) hE h
 have Jk:=fun E F (hE:E<R.length) h=>Mp (n:=n) (R:=R) (B:=B) (E:=E) (F:=F) hE h
 have Ds:bq w D R.length rs B:=hle▸hB;have Qa:=Bi n A D cA cD R rs B w hR hB hP;have lK:=fun x (h:x<R.length)=>Mm (n:=n) hP h
 have JI:=fun x (h:x<R.length)=>K6 (n:=n) hP h
 have IQ:=Ol (n:=n) (by omega) hP;have Iy:=fun m (h:m<R.length)=>MV (n:=n) (B:=B) h
 have tN:=MU (n:=n) (R:=R) (B:=B);have JJ:=fun(e f:Int)=>lA (R:=R) (B:=B) (e:=e) (f:=f)
 obtain⟨N,hN⟩:∃N,R.length=N:=⟨_,rfl⟩;rw [hN]at hR gQ hle bH bM Ds JD JC IU IV Ah sJ Jk lK JI IQ Iy tN;simp only [hN]at EH kH JJ;rw [hN,hle]at Qa|-;refine br func56 O ntmps56 O (jw O) (a8 O (ga (St.refl w) O O ?_));intro A1 w1 ay;have h1:Rd w1 A1 3 (fun j=> [Value.int .i64 (n:Int),.slice A N cA,.slice D N cD].getD j undef):=ay.rd 0 O;refine ar O (bK 2 h1 O O O ?_);refine WD (Bi n A D cA cD R rs B w1 (by rw [hN];exact ay.da hR) (by rw [hle];exact ay.bO Ds) hP) O (by rw [hN,hle];rfl) O ?_;rintro _ w2 ⟨rfl,ax⟩;have aM:=ay.aq ax.below;have h1:=Rd.below h1 ax.below;clear ax ay
 first | refine dk rfl rfl ?_ | refine eF rfl rfl ?_
 refine aE O (Cd.eM O (aG O (aS h1 O (aZ h1 O (aI (s8 _ _ _ _) O ?_)))));rintro _ w2 ⟨rfl,rfl⟩;refine ar O (y3 N aM O O (by omega) ?_);intro Au w3 aU;have aU:St w w3 ([bE 24 Au N N (List.replicate N cL),a7 A1 n A N cA D N cD]):=aU;refine ao.new (z:= .slice none 0 0) aU O O ?_;intro PU w4 bd;refine ao.st (i:=0) (j:=0) bd O (by exact aH Value.pointer (ko _).symm) O O (Nat.succ_pos _) ?_;intro w5 bh;have bh:St w w5 (Bx 25 1 PU [.slice Au N N]::[bE 24 Au N N (List.replicate N cL),a7 A1 n A N cA D N cD]):=bh;refine ar O (tj (v:=false) N bh O O (by omega) ?_);intro dJ w6 bD;have bD:=yw (t:=2) N bD;have bl:St w w6 (o6 A1 PU Au dJ n A D N cA cD (eL n R B N N) (List.replicate N cL) (eR n R B N N)):=by
  rw [IU,IV];refine bD.perm ?_
  classical
  refine l3.2 fun z=>?_
  simp only [o6,aQ,mW,lB,nY];omega
 clear bD bh bd aU aM h1;refine ar O (dA O (aE O ?_));refine Cd.loop (α:=Nat×List aL) (fun z=> [(1,.pointer A1),(4,ak N),(5,.pointer PU),(6,.slice dJ N N),(7,ak ((z.1:Int) - 1))]) (fun z w'=>z.1<=N/\z.2.length=N/\St w w' (o6 A1 PU Au dJ n A D N cA cD (eL n R B z.1 N) z.2 (eR n R B z.1 N))) (fun z=>z.1) (N,List.replicate N cL) (WM O) ⟨dh _,by simp,bl⟩ ?_;clear bl;rintro⟨E',cO⟩ e w7 ⟨hE,qt,hS⟩;dsimp only at hE qt hS|-;refine bX O (aN _ O (fun h2=>?_) (fun h2=>?_))
 ·obtain⟨E,rfl⟩:∃E,E'=E+1:=⟨E' - 1,by omega⟩;have mB:E<N:=by omega
  rw [show((E+1:Nat):Int) - 1=(E:Int) by omega];have sq:=hS.da hR;have hal7:=kH (E+1) N;refine df O ?_;refine ja [12] [yS (dJ) (N) (N),yI ((E:Int)),yP (aD (A1) 1),yS (A) (N) (cA),yI ((E:Int)),yP (aD (A) ((E:Int)).toNat),yI (gi (R) ((E:Int))),yP (aD (A1) 0),yI ((n:Int)),yI (((n:Int)) - ((1:Int))),yB (decide ((gi (R) ((E:Int)))=(((n:Int)) - ((1:Int))))),yP (aD (dJ) ((E:Int)).toNat),.pr (fun _ w'=>St w w' (o6 A1 PU Au dJ n A D N cA cD ((eL n R B (E+1) N).set E (decide (gi R E=(n:Int) - 1))) cO (eR n R B (E+1) N)))] (by kernel_rfl) (by kernel_rfl) (ly (ly (ly (ly (ly (ly (ly (ly (ly (ly (ly (ly (cM.2 ⟨Ye.cN (fun v w w' h hb=>h.aq hb),(fun _ h=>by cases h)⟩))))))))))))) ?_ ?_
  ·refine⟨bT O,bT O,cP fun _ _ hb _ _ _=>aS ((hS.rd 2 O).below hb) O (bB O O),cP fun _ _ hb _ _ _=>aZ ((hS.rd 2 O).below hb) O (bB O O),bT O,cP fun _ _ hb _ _ _=>aB (sq.aq hb).2 O (bB O O),cP fun _ _ hb _ _ _=>aW (sq.aq hb) O (bB O O),cP fun _ _ hb _ _ _=>aS ((hS.rd 2 O).below hb) O (bB O O),cP fun _ _ hb _ _ _=>fJ ((hS.rd 2 O).below hb) O O O O O (bB O O),aP fun _ _=>dA O (bB O O),bT O,cP fun _ _ hb _ _ _=>aB ((hS.gX 0 O).aq hb).2 O (bB O O),?_,av⟩;refine jc fun e1 w1 hb hp aX hq=>?_
   exact pQ 0 (hS.aq hb) O O O (by omega) fun w6 bD=>ao.n (fg.st O bD)
  intro u w8 _ hu mN Q0;have b7:=hu 12 _ O (by kernel_rfl);rw [JC E mB,<-JD E mB]at b7;clear hS hu mN Q0;refine gZ O (aK O (aE O ?_));refine Cd.loop (α:=Nat×List aL) (fun z=> [(1,.pointer A1),(4,ak N),(5,.pointer PU),(6,.slice dJ N N),(7,ak E),(8,ak (z.1:Int))]) (fun z w'=> (E<z.1/\z.1<=N)/\z.2.length=N/\St w w' (o6 A1 PU Au dJ n A D N cA cD (eL n R B E z.1) z.2 (eR n R B E z.1))) (fun z=>N - z.1) (E+1,cO) (WM O) ⟨⟨Nat.lt_succ_self _,by show E+1<=N;omega⟩,qt,b7⟩ ?_;clear b7 qt cO;rintro⟨F,cO⟩ e w9 ⟨⟨tC,OZ⟩,qt,hS⟩;dsimp only at tC OZ qt hS|-;refine bX O (aN _ O (fun h3=>?_) (fun h3=>?_))
  ·have hF:F<N:=by omega
   have sr:=hS.da hR;have si:=hS.bO Ds;have hal9:=kH E F;have Ea:=Ah E F tC hF;have nF:=bH F hF;have EI:=JJ (E:Int) (F:Int);have gj:=hP.ri (e:=(E:Int)) (by omega) (by omega);have h1:Rd w9 A1 3 (fun j=> [Value.int .i64 (n:Int),.slice A N cA,.slice D N cD].getD j undef):=hS.rd 2 O;have D4:gb (eL n R B E F) F=false\/(gb (eL n R B E F) F=true/\¬gi R F=gi R E+1)\/(gb (eL n R B E F) F=true/\gi R F=gi R E+1):=by
    cases gb (eL n R B E F) F<;>simp [Decidable.em,Classical.em]
    exact(Classical.em _).symm
   have oI:¬(cW n R B F/\(F:Int)∈iy R B E)->St w w9 (o6 A1 PU Au dJ n A D N cA cD (eL n R B E (F+1)) cO (eR n R B E (F+1))):=fun h=>by
    rw [Mq h,Vf h];exact hS
   rcases D4 with hg | ⟨hg,hr⟩ | ⟨hg,hr⟩
   ·
    have fC:¬(cW n R B F/\(F:Int)∈iy R B E):=fun h=>by
     rw [hg]at Ea;have:=eD h.1;rw [<-Ea]at this;cases this
    refine df O (dL [xS (dJ) (N) (N),xI ((F:Int)),xP (aD (dJ) ((F:Int)).toNat),xB (gb (eL n R B E F) ((F:Int))),xB (false),xU,xU,xU,xU,xU,xU,xU,xU,xU,xU,xU,xU,xB (false),xB (false),xU,xU,xU,xB (false)] O (dV O) ?_ ?_)
    ·exact⟨Dr O,Dr O,fun _ _ hb _ _=>aB ((hS.gX 0 O).aq hb).2 O Az,fun _ _ hb _ _=>nh ((hS.gX 0 O).aq hb) O (by omega) O O Az,fun _ _ _ _ _=>Dk O (by exact aH Value.bool (hg)),Dr O,Dr O,Dr O,Dr O,Dr O,Dr O,Dr O,Dr O,Dr O,Dr O,Dr O,Dr O,Dr O,fun _ _ _ _ _=>Dk O (by exact aH Value.bool (O)),Dr O,Dr O,Dr O,Dr O,av⟩
    intro u dw hb _;refine fq O (Cd.eM O ?_);refine aG O (aK O (aR O (tQ ?_)));exact⟨(F+1,cO),by show N - (F+1)<N - F;omega,(WM O),⟨Nat.lt_succ_of_lt tC,hF⟩,qt,(oI fC).aq hb⟩
   ·have fC:¬(cW n R B F/\(F:Int)∈iy R B E):=fun h=>hr (EI.1 h.2).2.1
    refine df O ?_;refine dL [xS (dJ) (N) (N),xI ((F:Int)),xP (aD (dJ) ((F:Int)).toNat),xB (gb (eL n R B E F) ((F:Int))),xB (true),xP (aD (A1) 1),xS (A) (N) (cA),xI ((F:Int)),xP (aD (A) ((F:Int)).toNat),xI (gi (R) ((F:Int))),xP (aD (A1) 1),xS (A) (N) (cA),xI ((E:Int)),xP (aD (A) ((E:Int)).toNat),xI (gi (R) ((E:Int))),xI ((gi (R) ((E:Int)))+ ((1:Int))),xB (decide ((gi (R) ((F:Int)))=((gi (R) ((E:Int)))+ ((1:Int))))),xB (decide ((gi (R) ((F:Int)))=((gi (R) ((E:Int)))+ ((1:Int))))),xB (false),xU,xU,xU,xB (false)] O (dV O) ?_ ?_
    ·exact⟨Dr O,Dr O,fun _ _ hb _ _=>aB ((hS.gX 0 O).aq hb).2 O Az,fun _ _ hb _ _=>nh ((hS.gX 0 O).aq hb) O (by omega) O O Az,fun _ _ _ _ _=>Dk O (by exact aH Value.bool (hg)),fun _ _ hb _ _=>au O (aS (h1.below hb) O Az),fun _ _ hb _ _=>au O (aZ (h1.below hb) O Az),Dr O,fun _ _ hb _ _=>au O (aB (sr.aq hb).2 O Az),fun _ _ hb _ _=>au O (aW (sr.aq hb) O Az),fun _ _ hb _ _=>au O (aS (h1.below hb) O Az),fun _ _ hb _ _=>au O (aZ (h1.below hb) O Az),Dr O,fun _ _ hb _ _=>au O (aB (sr.aq hb).2 O Az),fun _ _ hb _ _=>au O (aW (sr.aq hb) O Az),fun _ _ _ _ _=>au O (aK O Az),Dr O,Dr O,fun _ _ _ _ _=>Dk O (by exact aH Value.bool (cS hr)),Dr O,Dr O,Dr O,Dr O,av⟩
    intro u dw hb _;refine fq O (Cd.eM O ?_);refine aG O (aK O (aR O (tQ ?_)));exact⟨(F+1,cO),by show N - (F+1)<N - F;omega,(WM O),⟨Nat.lt_succ_of_lt tC,hF⟩,qt,(oI fC).aq hb⟩
   have ha:cW n R B F:=rK (Ea▸hg);refine df O ?_;refine dL [xS (dJ) (N) (N),xI ((F:Int)),xP (aD (dJ) ((F:Int)).toNat),xB (gb (eL n R B E F) ((F:Int))),xB (true),xP (aD (A1) 1),xS (A) (N) (cA),xI ((F:Int)),xP (aD (A) ((F:Int)).toNat),xI (gi (R) ((F:Int))),xP (aD (A1) 1),xS (A) (N) (cA),xI ((E:Int)),xP (aD (A) ((E:Int)).toNat),xI (gi (R) ((E:Int))),xI ((gi (R) ((E:Int)))+ ((1:Int))),xB (decide ((gi (R) ((F:Int)))=((gi (R) ((E:Int)))+ ((1:Int))))),xB (decide ((gi (R) ((F:Int)))=((gi (R) ((E:Int)))+ ((1:Int))))),xB (true),xI ((E:Int)),xI ((F:Int)),xB (decide ((E:Int)∈gl B F)),xB (decide ((E:Int)∈gl B F))] O (dV O) ?_ ?_
   ·refine⟨Dr O,Dr O,fun _ _ hb _ _=>aB ((hS.gX 0 O).aq hb).2 O Az,fun _ _ hb _ _=>nh ((hS.gX 0 O).aq hb) O (by omega) O O Az,fun _ _ _ _ _=>Dk O (by exact aH Value.bool (hg)),fun _ _ hb _ _=>au O (aS (h1.below hb) O Az),fun _ _ hb _ _=>au O (aZ (h1.below hb) O Az),Dr O,fun _ _ hb _ _=>au O (aB (sr.aq hb).2 O Az),fun _ _ hb _ _=>au O (aW (sr.aq hb) O Az),fun _ _ hb _ _=>au O (aS (h1.below hb) O Az),fun _ _ hb _ _=>au O (aZ (h1.below hb) O Az),Dr O,fun _ _ hb _ _=>au O (aB (sr.aq hb).2 O Az),fun _ _ hb _ _=>au O (aW (sr.aq hb) O Az),fun _ _ _ _ _=>au O (aK O Az),Dr O,Dr O,fun _ _ _ _ _=>Dk O (by exact aH Value.bool (eD hr)),Dr O,Dr O,?_,Dr O,av⟩;intro e1 w1 hb hp aX;refine au O ?_;refine aI (py A1 A D cA cD n R rs B E F _ (by rw [hN,hle];exact Rd.below h1 hb) (by rw [hle];exact si.aq hb) (by omega) nF.1 (by have:=bM F hF;omega)) O ?_;rintro _ w2 ⟨rfl,ax⟩;subst ax;refine ao.n (d0 (by exact O))
   intro u dw hb _;have bQ:=hS.aq hb;refine fq O (aN _ O (fun h4=>?_) (fun h4=>?_))
   ·have gG:cW n R B F/\(F:Int)∈iy R B E:=⟨ha,EI.2 ⟨by omega,hr,h4⟩⟩;have Q1:=EH E F;have iR:bq dw Au N cO (eR n R B E F):=by
     have h9:=bQ.sub (show(aQ 24 2 Au N N cO (eR n R B E F)).Sublist _ from(((kU _ _).cons _).cons _).cons _);exact h9.kq Q1
    have ud:=(iR.at_ (i:=(E:Int)) (by omega) (by omega)).1;have fp:(rg cO E).n<=500:=by
     rw [<-ud,FL (by omega)];unfold qG
     split
     ·exact bn _
     refine jb (mX _ _) ?_;have:=nN (N:=R.length) (yG R B E).nodup fun x hx=> (lA.1 hx).1
     omega
    have It:Rd dw PU 1 (fun _=> .slice Au N N):=jI (bQ.rd 1 O);have nB:∀A9:aj,(aw 2 A9 1 1 [(F:Int)]::o6 A1 PU Au dJ n A D N cA cD (eL n R B E F) cO (eR n R B E F))[4+1+E]?=some (aw 2 (rg cO E).a (rg cO E).n (rg cO E).c (gl (eR n R B E F) E)):=fun A9=>vN (t1:=24) (t2:=2) (A:=Au) (n:=N) (c:=N) (rs:=cO) (xss:=eR n R B E F) (pre:=[aw 2 A9 1 1 [(F:Int)],eC 4 dJ N N (eL n R B E F),Bx 25 1 PU [.slice Au N N],a7 A1 n A N cA D N cD]) (ks:=[]) (i:=E) (by omega) (by omega)
    have nz:=fun(A9:aj) (s:aL) (xs:ai)=>Fa (t1:=24) (t2:=2) (A:=Au) (n:=N) (c:=N) (rs:=cO) (xss:=eR n R B E F) (ks:=[]) (pre:=[aw 2 A9 1 1 [(F:Int)],eC 4 dJ N N (eL n R B E F),Bx 25 1 PU [.slice Au N N],a7 A1 n A N cA D N cD]) (i:=E) s xs (by omega) (by omega)
    clear hS;refine df O ?_;refine ja [8,10] [yS Au N N,yI ((E:Int)),yS (Au) (N) (N),yI ((E:Int)),yP (aD (Au) ((E:Int)).toNat),yS ((rg (cO) ((E:Int))).a) ((rg (cO) ((E:Int))).n) ((rg (cO) ((E:Int))).c),yI ((F:Int)),.pr (fun v w'=>∃A9,v= .slice A9 1 1/\St w w' (aw 2 A9 1 1 [(F:Int)]::o6 A1 PU Au dJ n A D N cA cD (eL n R B E F) cO (eR n R B E F))),.pr (fun v w'=>∃AZ cZ,v= .slice AZ ((rg cO E).n+1) cZ/\St w w' (eC 4 dJ N N (eL n R B E F)::Bx 25 1 PU [.slice Au N N]::a7 A1 n A N cA D N cD::(bE 24 Au N N cO::(b6 2 (cO.set E ⟨AZ,(rg cO E).n+1,cZ⟩) ((eR n R B E F).set E (gl (eR n R B E F) E++ [(F:Int)]))++ [])))),yP (aD Au ((E:Int)).toNat),.pr (fun _ w'=>∃AZ cZ,St w w' (o6 A1 PU Au dJ n A D N cA cD (eL n R B E F) (cO.set E ⟨AZ,(rg cO E).n+1,cZ⟩) ((eR n R B E F).set E (gl (eR n R B E F) E++ [(F:Int)]))))] (by kernel_rfl) (by kernel_rfl) (ly (ly (ly (ly (ly (ly (ly (cM.2 ⟨Ye.cN (fun v w w' h hb=>by obtain⟨A9,hv,hT⟩:=h;exact⟨A9,hv,hT.aq hb⟩),(cM.2 ⟨Ye.cN (fun v w w' h hb=>by obtain⟨AZ,cZ,hv,hT⟩:=h;exact⟨AZ,cZ,hv,hT.aq hb⟩),(ly (cM.2 ⟨Ye.cN (fun v w w' h hb=>by obtain⟨AZ,cZ,hT⟩:=h;exact⟨AZ,cZ,hT.aq hb⟩),(fun _ h=>by cases h)⟩))⟩)⟩)))))))) ?_ ?_
    ·refine⟨?_,bT O,cP fun _ _ hb _ _ _=>WI (j:=0) (It.below hb) (by exact aH Value.pointer (ko _).symm) O O O O (bB O O),bT O,cP fun _ _ hb _ _ _=>aB (iR.top.aq hb).2 O (bB O O),cP fun _ _ hb _ _ _=>ck (iR.top.aq hb) O (bB O O),bT O,?_,?_,?_,?_,av⟩
     ·intro e1 w1 cc dF bU dO hp aX hq;show ao _ _ _ _ _ _ _;have hX:Rd w1 PU 1 (fun _=> .slice Au N N):=by { have bU:=lQ bU (b:=1) (by kernel_rfl);rcases(show cc=0\/cc=1 by omega)with h | h; { exact Rd.below It (dO h) }; { subst h;obtain⟨AZ,cZ,_,hT⟩:=hq 8 _ _ (by kernel_rfl) (by kernel_rfl) (by kernel_rfl) rfl rfl (by kernel_rfl);exact jI (hT.rd 1 rfl) } }
      refine WI (j:=0) hX (by exact aH Value.pointer (ko _).symm) O O O O (ao.n (eO O (by exact O)))
     ·refine cP fun e1 w1 hb hp aX hq=>?_
      exact eE (St.refl _) O O O fun A9 w9 ax=>ao.n (eX.dn O ax.below ⟨A9,O,(bQ.aq hb).call ax⟩)
     ·refine jc fun e1 w1 hb hp aX hq=>?_
      obtain⟨A9,OM,hT⟩:=(hp 7 _ _ (by kernel_rfl) rfl rfl (by kernel_rfl));refine fj (4+1+E) hT (nB A9) (hT.bo 0 O) O (by exact OM) O ?_;intro AZ cZ wZ hZ;have hZ:=(nz A9 ⟨AZ,(rg cO E).n+1,cZ⟩ (gl (eR n R B E F) E++ [(F:Int)]))▸hZ;exact ao.n (fg.dn O ⟨AZ,cZ,O,hZ.tail⟩)
     ·intro e1 w1 cc dF bU dO hp aX hq;show ao _ _ _ _ _ _ _;have hX:im w1 Au N cO:=by { have bU:=lQ bU (b:=1) (by kernel_rfl);rcases(show cc=0\/cc=1 by omega)with h | h; { exact iR.top.aq (dO h) }; { subst h;obtain⟨AZ,cZ,_,hT⟩:=hq 8 _ _ (by kernel_rfl) (by kernel_rfl) (by kernel_rfl) rfl rfl (by kernel_rfl);exact hT.fz 3 rfl } }
      refine aB hX.2 O (ao.n (eO O (by exact O)))
     refine pY 1 fun e1 w1 hp aX hq=>?_
     have eT:=hp 8 _ _ (by kernel_rfl) O O (by kernel_rfl);obtain⟨AZ,cZ,ON,hT⟩:=eT;refine tl (te:=24) (n:=N) (c:=N) (A:=Au) (xs:=cO) 3 hT O O (by exact ON) (by omega) ?_;intro wY hY;exact ao.n (fg.st O ⟨AZ,cZ,hY⟩)
    intro u lT _ hu _ _;obtain⟨AZ,cZ,hT⟩:=hu 10 _ rfl (by kernel_rfl);rw [sJ E F mB gG]at hT;refine gZ O (aB (hT.gX 0 O).2 O (pQ 0 hT O O O (by omega) ?_));intro lU gP;rw [fW,Jk E F mB gG]at gP;refine ar O (aK O (aR O (tQ ?_)));exact⟨(F+1,_),by show N - (F+1)<N - F;omega,(WM O),⟨Nat.lt_succ_of_lt tC,hF⟩,by simp [qt],gP⟩
   have fC:¬(cW n R B F/\(F:Int)∈iy R B E):=fun h=>h4 (EI.1 h.2).2.2
   refine aG O (aK O (aR O (tQ ?_)));exact⟨(F+1,cO),by show N - (F+1)<N - F;omega,(WM O),⟨Nat.lt_succ_of_lt tC,hF⟩,qt,(oI fC).aq hb⟩
  have hF:F=N:=by omega
  subst hF;refine bk O (bm (ct O (dA O (aR O (tQ ?_)))));exact⟨(E,cO),by show E<E+1;omega,(WM O),by show E<=F;omega,qt,hS⟩
 obtain rfl:E'=0:=by omega
 refine bk O (bm (ct O ?_));refine ao.new (z:= .slice none 0 0) hS O O fun PF w8 b7=>ar O (ao.new (z:= .nilFunc) b7 O O ?_);intro PG w9 bg;refine ar O (L2 O O O O O (ao.st (i:=0) (j:=0) bg O (by exact aH Value.pointer (ko _).symm) O O (Nat.succ_pos _) ?_));intro dw bQ;have bQ:=(bQ.nil 2);clear bg b7 hS;refine aE O (Cd.loop (α:=Nat×aj×Nat) (fun z=> [(1,.pointer A1),(4,ak N),(6,.slice dJ N N),(9,.pointer PF),(10,.pointer PG),(11,.slice z.2.1 ((cI z.1).filter fun e=>decide (gi R e=0) && decide (cW n R B e)).length z.2.2),(85,ak N),(86,ak (z.1:Int))]) (fun z w'=>z.1<=N/\St w w' (aw 2 z.2.1 ((cI z.1).filter fun e=>decide (gi R e=0) && decide (cW n R B e)).length z.2.2 ((cI z.1).filter fun e=>decide (gi R e=0) && decide (cW n R B e))::Bx 107 1 PG [.func (.func 108) #[] #[.pointer PF,.pointer A1,.pointer PG,.pointer PU]]::Bx 25 1 PF [.slice none 0 0]::o6 A1 PU Au dJ n A D N cA cD (eL n R B 0 N) cO (eR n R B 0 N))) (fun z=>N - z.1) (0,none,0) (WM O) ⟨bn _,bQ⟩ ?_);clear bQ;rintro⟨j,AF,cF⟩ e ew ⟨hj,hS⟩;dsimp only at hj hS|-;have fB:((cI j).filter fun e=>decide (gi R e=0) && decide (cW n R B e)).length<=500:=by
  refine jb (mX _ _) ?_;rw [cI,lC,pO];omega
 refine bX O (aN _ O (fun h3=>?_) (fun h3=>?_))
 ·have xE:j<N:=by omega
  have zX:=Iy j xE;have tF:=hS.da hR;have h1:Rd ew A1 3 (fun j=> [Value.int .i64 (n:Int),.slice A N cA,.slice D N cD].getD j undef):=hS.rd 5 O;have HK:o0 ew dJ N (eL n R B 0 N):=hS.gX 3 O;have PZ:=lK j xE;have oI:¬(gi R j=0/\cW n R B j)->((cI (j+1)).filter fun e=>decide (gi R e=0) && decide (cW n R B e))=((cI j).filter fun e=>decide (gi R e=0) && decide (cW n R B e)):=fun h=>by
   rw [zX,aC h,fO]
  refine aG O (aS h1 O (aZ h1 O (ar O (aB tF.2 O (aW tF O (ar O ?_))))));refine bY 95 O (fun h4=>?_) (fun h4=>?_)
  ·refine au O (ar O (au O (ar O (au O ?_))));refine aB HK.2 O (au O (nh HK O (by omega) O O (aE O ?_)));rw [PZ];refine aN _ O (fun h5=>?_) (fun h5=>?_)
   ·rw [aF ⟨h4,h5⟩]at zX;refine aG O (eE hS O O O ?_);intro A9 eh dC;refine fj 1 dC O (dC.bo 0 O) O O O ?_;intro AZ cZ gp eJ;have eJ:=eJ.tail;refine ar O (aK O (aR O (tQ ?_)));refine⟨(j+1,AZ,cZ),by show N - (j+1)<N - j;omega,⟨O,O,O,O,O,?_,O,O,av⟩,by show j+1<=N;omega,?_⟩
    ·show Value.slice _ _ _=_;rw [zX,eY];rfl
    show St w gp (aw _ _ (((cI (j+1)).filter _).length) _ ((cI (j+1)).filter _)::_);rw [zX,eY];exact eJ
   refine aG O (aK O (aR O (tQ ?_)));refine⟨(j+1,AF,cF),by show N - (j+1)<N - j;omega,⟨O,O,O,O,O,?_,O,O,av⟩,by show j+1<=N;omega,?_⟩
   ·show Value.slice _ _ _=_;rw [oI (fun h=>h5 h.2)]
   show St w ew (aw _ _ (((cI (j+1)).filter _).length) _ ((cI (j+1)).filter _)::_);rw [oI (fun h=>h5 h.2)];exact hS
  refine az O (az O (az O (az O (aE O ?_))));refine Cd.eM O (aG O (aK O (aR O (tQ ?_))));refine⟨(j+1,AF,cF),by show N - (j+1)<N - j;omega,⟨O,O,O,O,O,?_,O,O,av⟩,by show j+1<=N;omega,?_⟩
  ·show Value.slice _ _ _=_;rw [oI (fun h=>h4 h.1)]
  show St w ew (aw _ _ (((cI (j+1)).filter _).length) _ ((cI (j+1)).filter _)::_);rw [oI (fun h=>h4 h.1)];exact hS
 obtain rfl:j=N:=by omega
 rw [tN]at hS fB|-;generalize PW:((qN R).filter fun f=>decide (cW n R B f))=fi at*;have PX:∀x∈fi,0<=x/\x< (j:Int):=fun x hx=>by
  rw [<-PW]at hx;have:=(tn.1 (fZ.1 hx).1).1;omega
 have fm:Rd ew PG 1 (fun _=> .func (.func 108) #[] #[.pointer PF,.pointer A1,.pointer PG,.pointer PU]):=jI (hS.rd 1 O);have Pp:St w ew (kD PF none 0 [] [] A1 n A j cA D j cD PG PU Au j j cO (eR n R B 0 j) [aw 2 AF fi.length cF fi,eC 4 dJ j j (eL n R B 0 j)]):=by
  have h9:=(hS.perm (show List.Perm _ (Bx 25 1 PF [.slice none 0 0]::(a7 A1 n A j cA D j cD::Bx 107 1 PG [.func (.func 108) #[] #[.pointer PF,.pointer A1,.pointer PG,.pointer PU]]::Bx 25 1 PU [.slice Au j j]::(aQ 24 2 Au j j cO (eR n R B 0 j)++ [aw 2 AF fi.length cF fi,eC 4 dJ j j (eL n R B 0 j)]))) from by
   classical
   refine l3.2 fun z=>?_
   simp only [o6,mW,lB,nY];omega))
  exact(h9.nil 24).perm (List.Perm.swap _ _ _)
 clear hS;have DS:∀e:Nat,e<j->(gl (eR n R B 0 j) e).length<=500/\∀x∈gl (eR n R B 0 j) e,0<=x/\x< (j:Int):=fun e he=>by
  rw [JI e he];refine⟨jb (mX _ _) ?_,fun x hx=>?_⟩
  ·have:=nN (N:=R.length) (yG R B e).nodup fun x hx=> (lA.1 hx).1
   omega
  have:=(lA.1 (fZ.1 hx).1).1;omega
 refine bk O (bm (ct O ?_));refine ao.ld fm (by exact aH Value.pointer (ko _).symm) (by decide) O O O ?_;refine ar O (aI (Oo w n (by omega) PF A1 A D PG PU Au j cA j cD j j cO (eR n R B 0 j) (EH 0 j) (by omega) DS (n - 1) 0 fi.length [] fi none AF 0 cF [aw 2 AF fi.length cF fi,eC 4 dJ j j (eL n R B 0 j)] _ none 0 [] [] O O (by omega) fB PX (fun _ _ _ _ _ _=>bu.nil) (fun w' A c rs F h=>Kd h) O (bn _) Pp) O ?_);rintro _ eh ⟨rfl,A',c',rs',dZ,hS⟩;rw [List.nil_append,IQ]at dZ hS;have eN:Rd eh PF 1 (fun _=> .slice A' (cap (aA n R B)).length c'):=jI (hS.rd 0 O);refine ar O (WI (j:=0) eN (by exact aH Value.pointer (ko _).symm) O O O O ?_);refine ba O O (aE O ?_);have cT:=CD (aA n R B);have D6:=zg (l:=aA n R B);refine aN _ O (fun h4=>?_) (fun h4=>?_)
 ·have fC:¬(aA n R B).length<=400:=fun h=>by have:=D6.2 h;omega
  refine du O (mQ O O ?_);unfold qb me;rw [aC fC,aC fC];exact td.none hS
 have gG:(aA n R B).length<=400:=D6.1 (by omega);rw [tq (by omega)]at dZ hS eN|-;refine aG O (WI (j:=0) eN (by exact aH Value.pointer (ko _).symm) O O O O (bI O (mQ O O ?_)));unfold qb me;rw [aF gG,aF gG];exact⟨A',c',rs',O,dZ,Mg (pre:=[]) (hS.sub ((kU _ _).cons _))⟩
end
section
variable{i y:Nat}{L L' L0:ai}{fl:ah}{S:Nat->Prop}{Q:List Nat}
structure qL(N:Nat)(K:Nat->Nat->Prop):Prop where
 sym:∀a b,K a b->K b a
 qF:∀a b c,K a b->K b c->K a c
 jD:∀a b,K a b->a<N/\b<N
def fX(N:Nat)(K:Nat->Nat->Prop)(f:Nat)(L:ai):Prop:=
 L.length=N/\∀x:Nat,x<N->(0<=gi L x->∃r:Nat,gi L x=r/\r<f/\K r x/\∀c,K c x->r<=c)/\(gi L x<0->gi L x= -1/\∀c,c<f->¬K c x)
theorem fX.zero(N:Nat)(K:Nat->Nat->Prop):fX N K 0 (List.replicate N (-1)):=
 ⟨by simp,fun x hx=>by
  rw [se (by omega) (by omega)];exact⟨fun h=>absurd h (by omega),fun _=> ⟨O,fun c hc=>absurd hc (by omega)⟩⟩⟩
theorem fX.skip{N:Nat}{K:Nat->Nat->Prop}(hK:qL N K){f:Nat}(h:fX N K f L)(hf:f<N)(h0:0<=gi L f\/¬K f f):fX N K (f+1) L:=by
 refine⟨h.1,fun x hx=> ⟨fun h1=>?_,fun h1=>?_⟩⟩
 ·obtain⟨r,h2,h3,h4⟩:=(h.2 x hx).1 h1;exact⟨r,h2,by omega,h4⟩
 obtain⟨h2,h3⟩:=(h.2 x hx).2 h1;refine⟨h2,fun c hc hk=>?_⟩
 by_cases e:c=f
 ·subst e;rcases h0 with h0 | h0
  ·obtain⟨r,h4,h5,h6,_⟩:=(h.2 c hf).1 h0;exact h3 r h5 (hK.qF _ _ _ h6 hk)
  exact h0 (hK.qF _ _ _ hk (hK.sym _ _ hk))
 exact h3 c (by omega) hk
theorem fX.lu{N:Nat}{K:Nat->Nat->Prop}(hK:qL N K){f:Nat}(h:fX N K f L)(hf:f<N)(h0:gi L f<0)(hl:L'.length=N)(hp:∀x:Nat,x<N->(K f x->gi L' x=f)/\(¬K f x->gi L' x=gi L x)):fX N K (f+1) L':=by
 refine⟨hl,fun x hx=>?_⟩;have h9:=(h.2 f hf).2 h0
 by_cases hk:K f x
 ·rw [(hp x hx).1 hk];refine⟨fun _=> ⟨f,O,by omega,hk,fun c hc=>?_⟩,fun h=>absurd h (by omega)⟩;refine Nat.le_of_not_lt fun eQ=>h9.2 c eQ (hK.qF _ _ _ hc (hK.sym _ _ hk))
 rw [(hp x hx).2 hk];refine⟨fun h1=>?_,fun h1=>?_⟩
 ·obtain⟨r,h2,h3,h4⟩:=(h.2 x hx).1 h1;exact⟨r,h2,by omega,h4⟩
 obtain⟨h2,h3⟩:=(h.2 x hx).2 h1;refine⟨h2,fun c hc nC=>?_⟩
 by_cases e:c=f
 ·subst e;exact hk nC
 exact h3 c (by omega) nC
theorem fX.done{N:Nat}{K:Nat->Nat->Prop}(hK:qL N K)(h:fX N K N L){a b:Nat}(ha:K a a)(hb:K b b):gi L a=gi L b↔K a b:=by
 have get:∀x,K x x->∃r:Nat,gi L x=r/\K r x/\∀c,K c x->r<=c:=fun x hx=>by
  have ye:=(hK.jD _ _ hx).1;rcases Int.lt_or_le (gi L x) 0 with h1 | h1
  ·exact absurd hx (((h.2 x ye).2 h1).2 x ye)
  obtain⟨r,h2,_,h4,h5⟩:=(h.2 x ye).1 h1;exact⟨r,h2,h4,h5⟩
 obtain⟨r,h1,h2,h3⟩:=get a ha;obtain⟨s,h4,h5,h6⟩:=get b hb;rw [h1,h4];constructor
 ·intro e;obtain rfl:r=s:=by omega
  exact hK.qF _ _ _ (hK.sym _ _ h2) h5
 intro hk;have h7:=h3 s (hK.qF _ _ _ h5 (hK.sym _ _ hk));have h8:=h6 r (hK.qF _ _ _ h2 hk);omega
def iM(n:Nat)(fl:ah)(i a b:Nat):Prop:=a<fl.length/\b<fl.length/\∀k:Nat,k<n->k≠i->gi (gl fl a) k=gi (gl fl b) k
theorem iM.symm{n:Nat}{a b:Nat}(h:iM n fl i a b):iM n fl i b a:=⟨h.2.1,h.1,fun k hk bL=> (h.2.2 k hk bL).symm⟩
inductive dQ(n:Nat)(fl:ah)(S:Nat->Prop)(a:Nat):Nat->Prop where
 | refl:a<fl.length->dQ n fl S a a
 | step {b c i:Nat}:dQ n fl S a b->i<n->¬S i->iM n fl i b c->dQ n fl S a c
theorem dQ.trans{n:Nat}{a b c:Nat}(h:dQ n fl S a b)(h':dQ n fl S b c):dQ n fl S a c:=by
 induction h' with
 | refl=>exact h
 | step _ hi hs ha ih=>exact .step ih hi hs ha
theorem dQ.jD{n:Nat}{a b:Nat}(h:dQ n fl S a b):a<fl.length/\b<fl.length:=by
 induction h with
 | refl h=>exact⟨h,h⟩
 | step _ _ _ ha ih=>exact⟨ih.1,ha.2.1⟩
theorem dQ.symm{n:Nat}{a b:Nat}(h:dQ n fl S a b):dQ n fl S b a:=by
 induction h with
 | refl h=>exact .refl h
 | step h hi hs ha ih=>exact(dQ.step (.refl ha.2.1) hi hs ha.symm).trans ih
theorem dQ.sZ(n:Nat)(fl:ah)(S:Nat->Prop):qL fl.length (dQ n fl S):=⟨fun _ _ h=>h.symm,fun _ _ _ h h'=>h.trans h',fun _ _ h=>h.jD⟩
theorem dQ.keep{n:Nat}{a b:Nat}(h:dQ n fl S a b):∀k:Nat,k<n->S k->gi (gl fl b) k=gi (gl fl a) k:=by
 induction h with
 | refl h=>exact fun _ _ _=>rfl
 | step h hi hs ha ih=>
  intro k hk hS;rw [<-ha.2.2 k hk (fun e=>hs (e▸hS)),ih k hk hS]
def uG(n:Nat)(fl:ah):Prop:=∀a b:Nat,a<b->b<fl.length->dQ n fl (fun k=>gi (gl fl a) k=gi (gl fl b) k) a b
structure jJ(N:Nat)(K A:Nat->Nat->Prop)(f:Nat)(L0 L:ai)(Q:List Nat)(k:Nat):Prop where
 len:L.length=N
 sP:∀x∈Q,x<N/\gi L0 x<0/\K f x
 bc:∀x:Nat,x<N->gi L x=if x∈Q then(f:Int)else gi L0 x
 root:f∈Q
 Bj:k<=Q.length
 done:∀p,p<k->∀y,A (Q.getD p 0) y->0<=gi L y
 nd:Q.Nodup
theorem jJ.meet{N:Nat}{K A:Nat->Nat->Prop}{f:Nat}{k:Nat}(h:jJ N K A f L0 L Q k)(hy:y<N)(hl:gi L y<0)(hk:K f y):jJ N K A f L0 (L.set y (f:Int)) (Q++ [y]) k:=by
 have JK:y∉Q:=fun hm=>by
  have:=h.bc y hy;rw [aF hm]at this;omega
 have e:∀x:Nat,x<N->gi (L.set y (f:Int)) x=if x=y then(f:Int)else gi L x:=fun x hx=>by
  have:=om (S:=L) (x:=(y:Int)) (y:=(x:Int)) (b:=(f:Int)) (by omega) (by rw [h.len];omega) (by omega);rw [fW]at this;rw [this]
  by_cases e:x=y
  ·subst e;simp
  rw [aC e,aC (by omega)]
 have rq:gi L0 y<0:=by
  have:=h.bc y hy;rw [aC JK]at this;omega
 refine⟨by rw [ij];exact h.len,fun x hx=>?_,fun x hx=>?_,List.mem_append_left _ h.root,by rw [eY];have:=h.Bj;omega,fun p hp z hz=>?_,List.nodup_append.2 ⟨h.nd,by simp,fun a ha b hb e=>JK (by rw [<-eP.1 hb,<-e];exact ha)⟩⟩
 ·rcases gL.1 hx with hx | hx
  ·exact h.sP x hx
  obtain rfl:=eP.1 hx;exact⟨hy,rq,hk⟩
 ·rw [e x hx]
  by_cases ex:x=y
  ·subst ex;simp
  rw [aC ex,h.bc x hx];simp [ex]
 have hk:=h.Bj;rw [cz,lY (by omega),<-cz]at hz;have h2:=h.done p hp z hz
 by_cases Rj:z<N
 ·rw [e z Rj]
  split<;>omega
 have:gi L z=gi (L.set y (f:Int)) z:=by
  simp [gi,cz,oX (show L.length<=z by rw [h.len];omega),oX (show(L.set y (f:Int)).length<=z by rw [ij,h.len];omega)]
 omega
theorem jJ.next{N:Nat}{K A:Nat->Nat->Prop}{f:Nat}{k:Nat}(h:jJ N K A f L0 L Q k)(hk:k<Q.length)(hd:∀y,A (Q.getD k 0) y->0<=gi L y):jJ N K A f L0 L Q (k+1):=
 ⟨h.len,h.sP,h.bc,h.root,hk,fun p hp y hy=>by
  by_cases e:p=k
  ·subst e;exact hd y hy
  exact h.done p (by omega) y hy,h.nd⟩
theorem jJ.s5{N:Nat}{K A:Nat->Nat->Prop}{f:Nat}{k:Nat}(h:jJ N K A f L0 L Q k):Q.length<=N:=Fg N Q h.nd fun x hx=> (h.sP x hx).1
theorem jJ.start{N:Nat}{K A:Nat->Nat->Prop}{f:Nat}(hl:L0.length=N)(hf:f<N)(h0:gi L0 f<0)(hk:K f f):jJ N K A f L0 (L0.set f (f:Int)) [f] 0:=by
 refine⟨by simp [hl],fun x hx=>?_,fun x hx=>?_,by simp,bn _,fun p hp=>absurd hp (by omega),by simp⟩
 ·obtain rfl:=eP.1 hx;exact⟨hf,h0,hk⟩
 have:=om (S:=L0) (x:=(f:Int)) (y:=(x:Int)) (b:=(f:Int)) (by omega) (by rw [hl];omega) (by omega);rw [fW]at this;rw [this]
 by_cases e:x=f
 ·subst e;simp
 rw [aC (by omega),aC (by simpa using e)]
theorem jJ.end_{N:Nat}{K A:Nat->Nat->Prop}(hK:qL N K){f:Nat}(h:jJ N K A f L0 L Q Q.length)(hL:fX N K f L0)(hf:f<N)(h0:gi L0 f<0)(hA:∀S:Nat->Prop,S f->(∀x y,S x->K f x->A x y->S y)->∀x,K f x->S x)(OS:∀x y,A x y->K x y):fX N K (f+1) L:=by
 have hQ:∀x,K f x->x∈Q:=hA (fun x=>x∈Q) h.root fun x y hx rp ha=>by
  obtain⟨p,hp,e⟩:=eZ.1 hx;have e2:Q.getD p 0=x:=by rw [cz,eS hp];exact e
  have h1:=h.done p hp y (by rw [e2];exact ha);have hk:=OS x y ha;have rC:=(hK.jD _ _ hk).2;refine pL fun hn=>?_
  have h2:=h.bc y rC;rw [aC hn]at h2;obtain⟨r,_,h3,h4,_⟩:=(hL.2 y rC).1 (by omega);exact((hL.2 f hf).2 h0).2 r h3 (hK.qF _ _ _ (hK.qF _ _ _ h4 (hK.sym _ _ hk)) (hK.sym _ _ rp))
 refine hL.lu hK hf h0 h.len fun x hx=> ⟨fun hk=>?_,fun hk=>?_⟩
 ·rw [h.bc x hx,aF (hQ x hk)]
 rw [h.bc x hx,aC fun hm=>hk (h.sP x hm).2.2]
section
variable {m1 m2:Nat} {n1 n2:Int} {qC qD:Int->Int} {rS pG:Int->Int->Prop}
def FZ(m1 m2:Nat)(kind:Int)(c:Int×Int):Prop:=(kind=1/\(c.1=0\/c.2=0))\/(kind=2/\(c.1=(m1:Int) - 1\/c.2=(m2:Int) - 1))
instance (m1 m2:Nat)(kind:Int)(c:Int×Int):Decidable (FZ m1 m2 kind c):=by unfold FZ;infer_instance
end
def Gl(N:Nat)(B:ah)(a b:Int):Prop:=a=b\/a=0\/b=(N:Int)+1\/(0<a/\a< (N:Int)+1/\0<b/\b< (N:Int)+1/\a - 1∈gl B (b - 1))
instance (N:Nat)(B:ah)(a b:Int):Decidable (Gl N B a b):=by unfold Gl;infer_instance
def mx(R:ai)(i e:Int):Prop:=(e= -1/\i=0)\/((0<=e/\e<R.length)/\0<i/\gi R e=i - 1)
def ky(n:Int)(R:ai)(i f:Int):Prop:=(f= -1/\i=n - 1)\/((0<=f/\f<R.length)/\i<n - 1/\gi R f=i+1)
def ik(R:ai)(B:ah)(i e f:Int):ai:=(cI R.length).filter fun d=>decide (gi R d=i/\(e<0\/e∈gl B d)/\(f<0\/d∈gl B f))
def rX(n:Int)(R:ai)(B:ah):Prop:=∀i e f:Int,0<=i->i<n->mx R i e->ky n R i f->(0<=e->0<=f->e∈gl B f)->(ik R B i e f).length=2
theorem wo{R:ai}{B:ah}{i e f d:Int}:d∈ik R B i e f↔(0<=d/\d<R.length)/\gi R d=i/\(e<0\/e∈gl B d)/\(f<0\/d∈gl B f):=by
 unfold ik;rw [fZ,oQ,jL]
theorem UR{l:ai}(hn:l.Nodup)(h:l.length=2):∃x y,x≠y/\∀c,c∈l↔(c=x\/c=y):=by
 match l,h with
 | [x,y],_=>exact⟨x,y,by simpa using hn,fun c=>by simp⟩
theorem B9(R:ai)(B:ah)(i e f:Int):(ik R B i e f).Nodup:=((nQ _).nodup).filter _
section
variable (m1 m2:Nat) (qC qD:Int->Int) (kind:Int)
end
section
variable {m1 m2:Nat} {qC qD:Int->Int} {kind:Int}
end
section
variable {m1 m2:Nat} {n1 n2:Int} {qC qD:Int->Int} {rS pG:Int->Int->Prop} [DecidableRel rS] [DecidableRel pG] {kind:Int}
end
theorem kZ{n:Nat}{R:ai}{B:ah}(hn:1<=n){a:Nat}(ha:a< (aA n R B).length):(gl (aA n R B) a).length=n/\(∀i:Nat,i<n->(0<=gi (gl (aA n R B) a) i/\gi (gl (aA n R B) a) i<R.length)/\gi R (gi (gl (aA n R B) a) i)=i)/\∀i:Nat,i+1<n->gi (gl (aA n R B) a) i∈gl B (gi (gl (aA n R B) a) ((i+1:Nat):Int)):=(qT hn).1 (by rw [cX ha];exact dU _)
theorem rH{n:Nat}{x y:ai}(hx:x.length=n)(hy:y.length=n)(h:∀i:Nat,i<n->gi x i=gi y i):x=y:=
 ia (by omega) fun i h1 h2=>by
  have:=h i (by omega)
  rwa [bF h1,bF h2]at this
theorem tz{n:Nat}{R:ai}{B:ah}{a b:Nat}(ha:a< (aA n R B).length)(hb:b< (aA n R B).length)(h:gl (aA n R B) a=gl (aA n R B) b):a=b:=by
 rw [cX ha,cX hb]at h;exact(List.getElem_inj (wJ n R B).nodup).1 h
theorem N3{n:Nat}{R:ai}{B:ah}(hP:dm n R B)(hD:rX n R B){a i:Nat}(ha:a< (aA n R B).length)(hi:i<n):∃b:Nat,b≠a/\∀c:Nat,(iM n (aA n R B) i a c/\c≠a)↔c=b:=by
 have hn:1<=n:=by have:=hP.n1;omega
 obtain⟨hl,hr,hc⟩:=kZ hn ha;generalize hx:gl (aA n R B) a=x at hl hr hc;have dF:mx R i (if i=0 then -1 else gi x ((i - 1:Nat):Int)):=by
  by_cases e:i=0
  ·rw [aF e];exact .inl ⟨rfl,by omega⟩
  rw [aC e];have:=hr (i - 1) (by omega);exact .inr ⟨this.1,by omega,by rw [this.2];omega⟩
 have bU:ky n R i (if i=n - 1 then -1 else gi x ((i+1:Nat):Int)):=by
  by_cases e:i=n - 1
  ·rw [aF e];exact .inl ⟨rfl,by omega⟩
  rw [aC e];have:=hr (i+1) (by omega);exact .inr ⟨this.1,by omega,by rw [this.2];omega⟩
 have Qp:0<=(if i=0 then -1 else gi x ((i - 1:Nat):Int))->0<=(if i=n - 1 then -1 else gi x ((i+1:Nat):Int))->(if i=0 then -1 else gi x ((i - 1:Nat):Int))∈gl B (if i=n - 1 then -1 else gi x ((i+1:Nat):Int)):=fun h1 h2=>by
  by_cases e:i=0
  ·rw [aF e]at h1;omega
  by_cases e2:i=n - 1
  ·rw [aF e2]at h2;omega
  rw [aC e,aC e2];have tX:=hc (i - 1) (by omega);have xM:=hc i (by omega);rw [show i - 1+1=i by omega]at tX;have qq:=hr (i+1) (by omega);exact(hP.at_ qq.1.1 qq.1.2).2.2 _ xM _ tX
 have h2:=hD (i:Int) _ _ (by omega) (by omega) dF bU Qp;have EB:∀d:Int,d∈ik R B i (if i=0 then -1 else gi x ((i - 1:Nat):Int)) (if i=n - 1 then -1 else gi x ((i+1:Nat):Int))↔x.set i d∈aA n R B:=fun d=>by
  rw [wo,qT hn];have gs:∀k:Nat,gi (x.set i d) k=if k=i then d else gi x k:=fun k=>by
   have:=om (S:=x) (x:=(i:Int)) (y:=(k:Int)) (b:=d) (by omega) (by omega) (by omega);rw [fW]at this;rw [this]
   by_cases e:k=i
   ·subst e;simp
   rw [aC e,aC (by omega)]
  constructor
  ·rintro⟨hd,rd,u,v⟩;refine⟨by rw [ij];exact hl,fun k hk=>?_,fun k hk=>?_⟩
   ·rw [gs k]
    by_cases e:k=i
    ·rw [aF e,e];exact⟨hd,rd⟩
    rw [aC e];exact hr k hk
   rw [gs k,gs (k+1)]
   by_cases e:k=i
   ·rw [aF e,aC (by omega)];rw [aC (by omega)]at v;have:=hr (i+1) (by omega);rw [e];exact v.resolve_left (by omega)
   rw [aC e]
   by_cases e2:k+1=i
   ·rw [aF e2];rw [aC (by omega),show i - 1=k by omega]at u;have:=hr k (by omega);exact u.resolve_left (by omega)
   rw [aC e2];exact hc k hk
  rintro⟨_,h3,h4⟩;have h5:=h3 i hi;rw [gs i,aF rfl]at h5;refine⟨h5.1,h5.2,?_,?_⟩
  ·by_cases e:i=0
   ·left;rw [aF e];omega
   right;rw [aC e];have h6:=h4 (i - 1) (by omega);rw [gs (i - 1),show i - 1+1=i by omega,gs i,aC (show ¬i - 1=i by omega),aF rfl]at h6;exact h6
  by_cases e:i=n - 1
  ·left;rw [aF e];omega
  right;rw [aC e];have h6:=h4 i (by omega);rw [gs i,gs (i+1),aF rfl,aC (by omega)]at h6;exact h6
 obtain⟨p,q,Ev,hm⟩:=UR (B9 _ _ _ _ _) h2;have AV:gi x i=p\/gi x i=q:=(hm _).1 ((EB _).2 (by
  have e:x.set i (gi x i)=x:=by
   rw [bF (by omega)];exact List.set_getElem_self _
  rw [e,<-hx,cX ha];exact dU _))
 obtain⟨d,hd,xp⟩:∃d,d≠gi x i/\∀c,(c=p\/c=q)↔(c=gi x i\/c=d):=by
  rcases AV with h | h
  ·exact⟨q,fun e=>Ev (by rw [<-h,e]),fun c=>by rw [h]⟩
  exact⟨p,fun e=>Ev (by rw [<-h,e]),fun c=>by rw [h];exact or_comm⟩
 have rh:x.set i d∈aA n R B:=(EB d).1 ((hm d).2 ((xp d).2 (.inr O)));obtain⟨b,hb,eb⟩:=eZ.1 rh;have zo:gl (aA n R B) b=x.set i d:=by rw [cX hb];exact eb
 have Dc:∀(d:Int) (k:Nat),gi (x.set i d) k=if k=i then d else gi x k:=fun d k=>by
  have:=om (S:=x) (x:=(i:Int)) (y:=(k:Int)) (b:=d) (by omega) (by omega) (by omega);rw [fW]at this;rw [this]
  by_cases e:k=i
  ·subst e;simp
  rw [aC e,aC (by omega)]
 have tN:b≠a:=fun e=>by
  subst e;rw [hx]at zo;have:=Dc d i;rw [<-zo,aF rfl]at this;exact hd this.symm
 refine⟨b,tN,fun c=> ⟨fun⟨⟨_,cT,kG⟩,PE⟩=>?_,?_⟩⟩
 ·
  rw [hx]at kG;obtain⟨vz,qq,zY⟩:=kZ hn cT;have ec:gl (aA n R B) c=x.set i (gi (gl (aA n R B) c) i):=rH vz (by rw [ij];exact hl) fun k hk=>by
   rw [Dc]
   by_cases e:k=i
   ·rw [aF e,e]
   rw [aC e];exact(kG k hk e).symm
  have lk:x.set i (gi (gl (aA n R B) c) i)∈aA n R B:=by rw [<-ec,cX cT];exact dU _
  rcases(xp _).1 ((hm _).1 ((EB _).2 lk))with h | h
  ·exfalso;refine PE (tz cT ha ?_);rw [ec,h,hx,bF (by omega)];exact List.set_getElem_self _
  rw [h]at ec;exact tz cT hb (ec.trans zo.symm)
 rintro rfl;exact⟨⟨ha,hb,fun k hk bL=>by rw [zo,hx,Dc,aC bL]⟩,tN⟩
open Classical in
noncomputable def pC(n:Nat)(fl:ah)(i:Nat)(a:Nat):ai:=((List.range fl.length).filter fun b=>decide (iM n fl i a b/\b≠a)).map fun b:Nat=> (b:Int)
noncomputable def sY(n:Nat)(fl:ah)(i:Nat):ai:=(List.range fl.length).flatMap (pC n fl i)
noncomputable def bA(n:Nat)(fl:ah):ah:=(List.range n).map (sY n fl)
def gN(n:Nat)(fl:ah):Prop:=∀a i:Nat,a<fl.length->i<n->∃b:Nat,b≠a/\∀c:Nat,(iM n fl i a c/\c≠a)↔c=b
open Classical in
theorem Tu{n:Nat}{fl:ah}{i a b:Nat}(h:∀c:Nat,(iM n fl i a c/\c≠a)↔c=b):pC n fl i a=[(b:Int)]:=by
 have hb:=((h b).2 O).1.2.1;have key:∀p:Nat->Bool,(∀c,p c=true↔c=b)->((List.range fl.length).filter p)=[b]:=fun p hp=>by
  refine List.Perm.eq_singleton ((List.perm_ext_iff_of_nodup (List.nodup_range.filter _) (by simp)).2 fun c=>?_);rw [fZ,fP,hp c,eP];exact⟨fun h=>h.2,fun h=> ⟨by rw [h];exact hb,h⟩⟩
 unfold pC;exact aH (List.map fun b:Nat=> (b:Int)) (key _ fun c=>decide_eq_true_iff.trans (h c))
open Classical in
noncomputable def dH(n:Nat)(fl:ah)(i a:Nat):Nat:=if h:∃b:Nat,b≠a/\∀c:Nat,(iM n fl i a c/\c≠a)↔c=b then h.choose else 0
theorem gN.pt{n:Nat}{fl:ah}(h:gN n fl){a i:Nat}(ha:a<fl.length)(hi:i<n):dH n fl i a≠a/\∀c:Nat,(iM n fl i a c/\c≠a)↔c=dH n fl i a:=by
 have he:=h a i ha hi;unfold dH;rw [dif_pos he];exact he.choose_spec
theorem gN.lt{n:Nat}{fl:ah}(h:gN n fl){a i:Nat}(ha:a<fl.length)(hi:i<n):dH n fl i a<fl.length:=(((h.pt ha hi).2 _).2 rfl).1.2.1
theorem gN.pp{n:Nat}{fl:ah}(h:gN n fl){a i:Nat}(ha:a<fl.length)(hi:i<n):dH n fl i (dH n fl i a)=a:=by
 have h1:=((h.pt ha hi).2 _).2 O;exact(((h.pt (h.lt ha hi) hi).2 a).1 ⟨h1.1.symm,fun e=> (h.pt ha hi).1 e.symm⟩).symm
theorem Ki{n:Nat}{fl:ah}(h:gN n fl){i:Nat}(hi:i<n):sY n fl i=(List.range fl.length).map fun a=> (dH n fl i a:Int):=by
 unfold sY;have e:∀l:List Nat,(∀a∈l,a<fl.length)->l.flatMap (pC n fl i)=l.map fun a=> (dH n fl i a:Int):=by
  intro l
  induction l with
  | nil=>intro _;rfl
  | cons a r ih=>
   intro hl;rw [List.flatMap_cons,List.map_cons,ih fun b hb=>hl b (oY _ hb),Tu (h.pt (hl a (by simp)) hi).2];rfl
 exact e _ fun a ha=>fP.1 ha
theorem zx{n:Nat}{R:ai}{B:ah}(hP:dm n R B)(hD:rX n R B):gN n (aA n R B):=fun _ _ ha hi=>N3 hP hD ha hi
def Ch(n:Nat)(R:ai)(B:ah):Prop:=∀e:Int,0<=e->e<R.length->∃x∈aA n R B,e∈x
def ni(n:Nat)(R:ai)(B:ah):Prop:=aA n R B≠[]/\Ch n R B/\rX n R B/\uG n (aA n R B)
def kf(a b:ai):ai:=(List.range a.length).map fun k:Nat=>if gi a k=gi b k then gi a k else -1
theorem uT(a b:ai):(kf a b).length=a.length:=by simp [kf]
theorem uS{a b:ai}{k:Nat}(h:k<a.length):gi (kf a b) k=if gi a k=gi b k then gi a k else -1:=by
 rw [bF (by rw [uT];exact h)];simp [kf]
def gA(n:Nat)(c x:ai):Prop:=∀k:Nat,k<n->gi c k≠ -1->gi c k=gi x k
instance (n:Nat)(c x:ai):Decidable (gA n c x):=by unfold gA;infer_instance
def gr(n:Nat)(fl:ah)(c:ai)(a b:Nat):Prop:=gA n c (gl fl a)/\dQ n fl (fun k=>gi c k≠ -1) a b
theorem gA.of{n:Nat}{fl:ah}{c:ai}{a b:Nat}(h:gA n c (gl fl a))(h':dQ n fl (fun k=>gi c k≠ -1) a b):gA n c (gl fl b):=fun k hk bL=>by
 rw [h'.keep k hk bL];exact h k hk bL
theorem gr.sZ(n:Nat)(fl:ah)(c:ai):qL fl.length (gr n fl c):=
 ⟨fun _ _ h=> ⟨h.1.of h.2,h.2.symm⟩,fun _ _ _ h h'=> ⟨h.1,h.2.trans h'.2⟩,fun _ _ h=>h.2.jD⟩
theorem Na{n:Nat}{fl:ah}(hl:∀x∈fl,x.length=n/\∀e∈x,0<=e){a b:Nat}(ha:a<fl.length)(hb:b<fl.length):
 gr n fl (kf (gl fl a) (gl fl b)) a a/\gr n fl (kf (gl fl a) (gl fl b)) b b/\(gr n fl (kf (gl fl a) (gl fl b)) a b↔dQ n fl (fun k=>gi (gl fl a) k=gi (gl fl b) k) a b):=by
 have Q9:=hl _ (by rw [cX ha];exact dU _:gl fl a∈fl);have bL:∀k:Nat,k<n->(gi (kf (gl fl a) (gl fl b)) k≠ -1↔gi (gl fl a) k=gi (gl fl b) k):=fun k hk=>by
  rw [uS (by omega)];have:=Q9.2 _ (gi_in (show k< (gl fl a).length by omega))
  split
  ·exact⟨fun _=>by assumption,fun _=>by omega⟩
  ·rename_i h;exact⟨fun h'=>absurd rfl h',fun h'=>absurd h' h⟩
 have h1:gA n (kf (gl fl a) (gl fl b)) (gl fl a):=fun k hk h=>by
  have:=(bL k hk).1 h;rw [uS (by omega),aF this]
 have h2:gA n (kf (gl fl a) (gl fl b)) (gl fl b):=fun k hk h=>by
  have:=(bL k hk).1 h;rw [uS (by omega),aF this,this]
 have cv:∀ {S S':Nat->Prop},(∀k,k<n->(S k↔S' k))->∀ {u v},dQ n fl S u v->dQ n fl S' u v:=fun {S S'} hS {u v} h=>by
  induction h with
  | refl h=>exact .refl h
  | step _ hi hs DX ih=>exact .step ih hi (fun h=>hs ((hS _ hi).2 h)) DX
 exact⟨⟨h1,.refl ha⟩,⟨h2,.refl hb⟩,fun h=>cv bL h.2,fun h=> ⟨h1,cv (fun k hk=> (bL k hk).symm) h⟩⟩
def rU(n:Nat)(fl:ah)(c:ai)(x y:Nat):Prop:=gA n c (gl fl x)/\gA n c (gl fl y)/\∃i,i<n/\iM n fl i x y
theorem Hi{n:Nat}{fl:ah}(hn:fl.Nodup)(hl:∀x∈fl,x.length=n){x y:Nat}(hx:x<fl.length)(hy:y<fl.length)(h:∀k:Nat,k<n->gi (gl fl x) k=gi (gl fl y) k):x=y:=by
 have e:gl fl x=gl fl y:=rH (hl _ (by rw [cX hx];exact dU _)) (hl _ (by rw [cX hy];exact dU _)) h;rw [cX hx,cX hy]at e;exact(List.getElem_inj hn).1 e
theorem rU.link{n:Nat}{fl:ah}(hn:fl.Nodup)(hl:∀x∈fl,x.length=n){c:ai}{x y:Nat}(h:rU n fl c x y):gr n fl c x y:=by
 obtain⟨h1,h2,i,hi,ha⟩:=h;refine⟨h1,?_⟩
 by_cases hc:gi c i≠ -1
 ·have:x=y:=Hi hn hl ha.1 ha.2.1 fun k hk=>by
   by_cases e:k=i
   ·subst e;rw [<-h1 k hk hc,h2 k hk hc]
   exact ha.2.2 k hk e
  subst this;exact .refl ha.1
 exact .step (.refl ha.1) hi hc ha
theorem gr.ind{n:Nat}{fl:ah}{c:ai}{f:Nat}(S:Nat->Prop)(hf:S f)(hs:∀x y,S x->gr n fl c f x->rU n fl c x y->S y):∀x,gr n fl c f x->S x:=fun x h=>by
 obtain⟨h1,h2⟩:=h
 induction h2 with
 | refl _=>exact hf
 | step h hi hS ha ih=>exact hs _ _ ih ⟨h1,h⟩ ⟨h1.of h,h1.of (.step h hi hS ha),_,hi,ha⟩
def rV(n:Nat)(fl:ah)(S:Nat->Prop)(x y:Nat):Prop:=∃i,i<n/\¬S i/\iM n fl i x y/\y≠x
theorem dQ.ind{n:Nat}{fl:ah}{S:Nat->Prop}{f:Nat}(T:Nat->Prop)(hf:T f)(hs:∀x y,T x->dQ n fl S f x->rV n fl S x y->T y):∀x,dQ n fl S f x->T x:=fun x h=>by
 induction h with
 | refl _=>exact hf
 | step h hi hS ha ih=>
  rename_i b c i
  by_cases e:c=b
  ·rw [e];exact ih
  ·exact hs _ _ ih h ⟨_,hi,hS,ha,e⟩
theorem rV.link{n:Nat}{fl:ah}{S:Nat->Prop}{x y:Nat}(h:rV n fl S x y):dQ n fl S x y:=by
 obtain⟨i,hi,hS,ha,_⟩:=h;exact .step (.refl ha.1) hi hS ha
end
section
open Go.RowKit
variable{j i:Nat}
def gk(H:List Bool)(vs:ai):List Bool:=vs.foldl (fun H v=>H.set v.toNat true) H
theorem Kz(H:List Bool)(vs:ai)(v:Int):gk H (vs++ [v])=(gk H vs).set v.toNat true:=by simp [gk,List.foldl_append]
theorem T3(H:List Bool):∀vs,(gk H vs).length=H.length:=by
 intro vs;unfold gk
 induction vs generalizing H with
 | nil=>rfl
 | cons a r ih=>rw [List.foldl_cons,ih,ij]
theorem T2(H:List Bool)(vs:ai)(hv:∀v∈vs,0<=v/\v<H.length)(x:Int)(h0:0<=x):gb (gk H vs) x=(gb H x || decide (x∈vs)):=by
 unfold gk
 induction vs generalizing H with
 | nil=>simp
 | cons a r ih=>
  have ha:=hv a (by simp);rw [List.foldl_cons,ih _ (fun v h=>by rw [ij];exact hv v (by simp [h])),wM ha.1 ha.2 h0]
  by_cases e:a=x
  ·subst e;simp
  ·have e':¬x=a:=fun h=>e h.symm
   simp [e,e']
theorem Hp(n:Nat)(x:Int):gb (List.replicate n false) x=false:=by
 unfold gb;rw [cz,List.getElem?_replicate]
 split<;>rfl
theorem T1{m:Nat}{F:ah}(h:∀l∈F,∀x∈l,0<=x/\x< (m:Int))(x:Int)(h0:0<=x):gb (gk (List.replicate m false) F.flatten) x=decide (∃l∈F,x∈l):=by
 rw [T2 _ _ (fun v hv=>by
  obtain⟨l,hl,hx⟩:=List.mem_flatten.1 hv;rw [List.length_replicate];exact h l hl v hx) x h0,Hp,Bool.false_or]
 exact kg.2 (by rw [List.mem_flatten])
def iW(m:Nat):List Bool:=List.replicate m false
theorem Fp(m:Nat)(vs:ai):(gk (iW m) vs).length=m:=by rw [T3];simp [iW]
theorem Kq{m:Nat}{F:ah}(h:∀l∈F,∀x∈l,0<=x/\x< (m:Int)):¬(false∈gk (iW m) F.flatten)↔∀x:Int,0<=x->x< (m:Int)->∃l∈F,x∈l:=by
 have hl:=Fp m F.flatten;have hg:=fun(x:Int) (h0:0<=x)=>T1 h x h0
 constructor
 ·intro hn x h0 h1;apply pL;intro hc;have h2:gb (gk (iW m) F.flatten) x=false:=(hg x h0).trans (cS hc);apply hn;have h3:x.toNat< (gk (iW m) F.flatten).length:=by omega
  rw [<-h2,gb,cz,eS h3];exact dU _
 intro ha hm;obtain⟨k,hk,e⟩:=eZ.1 hm;have h2:=hg (k:Int) (by omega);rw [eD (ha (k:Int) (by omega) (by omega))]at h2;have h3:gb (gk (iW m) F.flatten) k=(gk (iW m) F.flatten)[k]:=by simp [gb,cz,hk]
 have h4:gb (gk (iW m) F.flatten) k=true:=h2;rw [h3,e]at h4;cases h4
theorem LH(A:aj)(n c:Nat)(xs:List Bool)(v:Bool)(w:aa)(hR:o0 w A n xs)(hn:n<=9223372036854775807):
 aJ prog 189 [.slice A n c,.bool v] w (fun r w'=> (∃i:Int,r=ak i/\(0<=i↔v∈xs))/\w'=w):=by
 have eu:=hR.1;refine br func189 O ntmps189 O (cw O) ?_;refine a8 O (ba O O (aE O ?_));refine Cd.loop (α:=Nat) (fun k=> [(0,.slice A n c),(1,.bool v),(7,ak n),(8,ak k)]) (fun k w'=>w'=w/\k<=n/\∀j:Nat,j<k->gb xs j≠v) (fun k=>n - k) 0 (WM O) ⟨O,bn _,fun j hj=>by omega⟩ ?_;rintro k e w ⟨rfl,hk,hK⟩;refine bX O (aN _ O (fun h3=>?_) (fun h3=>?_))
 ·have hg:gb xs k=xs[k]'(by omega):=by simp [gb,cz,show k<xs.length by omega]
  refine aG O (aB hR.2 O (nh hR O (by omega) O O (LX O O O (aE O ?_))));refine Cd.cond O (fun h4=>?_) (fun h4=>?_)
  ·refine du O (dN (dE ?_));refine kN O ?_;have h4:v=gb xs k:=by simpa using h4
   exact⟨⟨(k:Int),O,⟨fun _=>by rw [h4,hg];exact dU _,fun _=>by omega⟩⟩,O⟩
  refine aG O (aK O (aR O (tQ ?_)));have h4:¬v=gb xs k:=by simpa using h4
  refine⟨k+1,by show n - (k+1)<n - k;omega,(WM O),O,by omega,fun j hj=>?_⟩
  by_cases ej:j=k
  ·subst ej;exact fun h=>h4 h.symm
  exact hK j (by omega)
 refine bk O (bm (fA O ?_));refine kN O ⟨⟨-1,O,⟨fun h=>absurd h (by decide),fun h=>?_⟩⟩,O⟩;obtain⟨j,hj,Ef⟩:=eZ.1 h;exact absurd (by simpa [gb,cz,hj]using Ef) (hK j (by omega))
theorem Ly(A:aj)(n c:Nat)(xs:List Bool)(v:Bool)(w:aa)(hR:o0 w A n xs)(hn:n<=9223372036854775807):
 aJ prog 118 [.slice A n c,.bool v] w (fun r w'=>r= .bool (decide (v∈xs))/\w'=w):=by
 refine br func118 O ntmps118 O (cw O) (a8 O (aI (LH A n c xs v _ hR hn) O ?_));rintro _ w ⟨⟨i,rfl,hi⟩,rfl⟩;refine bI O (cH O ?_);exact⟨aH Value.bool (kg.2 hi),O⟩
theorem wy{w:aa}{A:aj}{n:Nat}{f:Nat->ad}(h:Rd w A n f)(hn:0<n):A.isNone=false:=by
 obtain⟨p,hp,_⟩:=h 0 hn;cases A with
 | none=>simp [aD]at hp
 | some q=>rfl
def uF(L:ai)(w:aa)(v:ad)(w':aa):Prop:=∃A' c',v= .slice A' L.length c'/\St w w' [aw 2 A' L.length c' L]
theorem BQ{xs:ai}(h:j<xs.length):xs.take (j+1)=xs.take j++ [gi xs j]:=by
 rw [oZ h,bF h]
theorem JS(n:Int)(A D:aj)(cA N m cD:Nat)(Af:aj)(nf cf:Nat)(rs:List aL)(fl:ah)(w:aa)(hF:bq w Af nf rs fl)(hN:N<=500)(hr:∀l∈fl,l.length<=1000/\∀x∈l,0<=x/\x< (N:Int))(xO:nf<=100000):
 aJ prog 62 [.agg #[ak n,.slice A N cA,.slice D m cD],.slice Af nf cf] w (fun v w'=>∃b:Bool,v= .bool b/\(b=true↔∀x:Int,0<=x->x< (N:Int)->∃l∈fl,x∈l)/\St w w' []):=by
 have fB:=hF.len;refine br func62 O ntmps62 O (cw O) (a8 O (ga (St.refl w) O O ?_));intro A1 w1 ay;have h1:Rd w1 A1 3 (fun j=> [Value.int .i64 n,.slice A N cA,.slice D m cD].getD j undef):=ay.rd 0 O;refine ar O (aS h1 O (aZ h1 O (ba O O (tj (v:=false) N ay O O (by omega) ?_))));intro A5 w2 aM;have aM:St w w2 [eC 4 A5 N N (gk (iW N) (fl.take 0).flatten),a7 A1 n A N cA D m cD]:=aM;refine ar O (ba O O (aE O ?_));refine Cd.loop (α:=Nat) (fun i=> [(2,.pointer A1),(5,.slice A5 N N),(14,.slice Af nf cf),(15,ak nf),(16,ak i)]) (fun i w'=>i<=nf/\St w w' [eC 4 A5 N N (gk (iW N) (fl.take i).flatten),a7 A1 n A N cA D m cD]) (fun i=>nf - i) 0 (WM O) ⟨bn _,aM⟩ ?_;clear aM ay h1;rintro i e w3 ⟨hi,hS⟩;refine bX O (aN _ O (fun h2=>?_) (fun h2=>?_))
 ·have tS:i<fl.length:=by omega
  have hM:=hS.bO hF;have bW:=hM.at_ (i:=(i:Int)) (by omega) (by omega);have fp:=bW.1;have gS:gl fl i∈fl:=by rw [cX tS];exact dU _
  have gj:=hr _ gS;refine aG O (aB hM.top.2 O (ck hM.top O ?_));refine ar O (ba O O (aE O ?_));refine Cd.loop (α:=Nat) (fun j=> [(2,.pointer A1),(5,.slice A5 N N),(14,.slice Af nf cf),(15,ak nf),(16,ak i),(20,.slice (rg rs i).a (rg rs i).n (rg rs i).c),(21,ak ((rg rs i).n:Int)),(22,ak j)]) (fun j w'=>j<=(rg rs i).n/\St w w' [eC 4 A5 N N (gk (iW N) ((fl.take i).flatten++ (gl fl i).take j)),a7 A1 n A N cA D m cD]) (fun j=> (rg rs i).n - j) 0 (WM O) ⟨bn _,by rw [List.take_zero,fO];exact hS⟩ ?_;clear bW hM hS;rintro j e w4 ⟨hj,hS⟩;refine bX O (aN _ O (fun h3=>?_) (fun h3=>?_))
  ·have je:j< (gl fl i).length:=by omega
   have bW:=(hS.bO hF).at_ (i:=(i:Int)) (by omega) (by omega);have hx:=gj.2 _ (gi_in je);have xW:=Fp N ((fl.take i).flatten++ (gl fl i).take j);refine aG O (aB bW.2 O (aW bW O (ar O (aB (hS.gX 0 O).2 O (pQ 0 hS O O O (by omega) ?_)))));intro w5 bh;have bh:St w w5 [eC 4 A5 N N (gk (iW N) ((fl.take i).flatten++ (gl fl i).take (j+1))),a7 A1 n A N cA D m cD]:=by
    rw [BQ je,<-ig,Kz];exact bh
   refine ar O (aK O (aR O (tQ ?_)));exact⟨j+1,by show(rg rs i).n - (j+1)< (rg rs i).n - j;omega,(WM O),by omega,bh⟩
  rw [show(gl fl i).take j=gl fl i from lD (by omega)]at hS;refine bk O (bm (ct O (aK O (aR O (tQ ?_)))));refine⟨i+1,by show nf - (i+1)<nf - i;omega,(WM O),by omega,?_⟩;rw [oZ tS,List.flatten_append,<-cX tS];simpa using hS
 have de:i=fl.length:=by omega
 rw [de,List.take_length]at hS;have Ep:=Kq (m:=N) (F:=fl) (fun l hl=> (hr l hl).2);refine bk O (bm (ct O ?_));refine aI (Ly A5 N N _ false _ (hS.gX 0 O) (by omega)) O ?_;rintro _ _ ⟨rfl,rfl⟩
 first | refine dk rfl rfl ?_ | refine eF rfl rfl ?_
 refine bI O (cH O ?_);refine⟨_,O,?_,hS.none⟩;rw [<-Ep];simp
def oe(a b:ai)(i:Nat):ai:=(List.range a.length).map fun k:Nat=>if i<=k\/gi a k=gi b k then gi a k else -1
theorem pX(a b:ai)(i:Nat):(oe a b i).length=a.length:=by simp [oe]
theorem sa{a b:ai}{k:Nat}(h:k<a.length):gi (oe a b i) k=if i<=k\/gi a k=gi b k then gi a k else -1:=by
 rw [bF (by rw [pX];exact h)];simp [oe]
theorem M6(a b:ai):oe a b 0=a:=by
 apply ia (pX ..);intro k h1 h2;rw [<-bF h1,<-bF h2,sa h2,aF (.inl (bn _))]
theorem M7(a b:ai):oe a b a.length=kf a b:=by
 apply ia (by rw [pX,uT]);intro k h1 h2;have h3:k<a.length:=by rw [pX]at h1;exact h1
 rw [<-bF h1,<-bF h2,sa h3,uS h3]
 by_cases c:gi a k=gi b k
 ·rw [aF (.inr c),aF c]
 rw [aC (by omega),aC c]
theorem M8{a b:ai}:oe a b (i+1)=if gi a i=gi b i then oe a b i else(oe a b i).set i (-1):=by
 by_cases c:gi a i=gi b i
 ·rw [aF c];apply ia (by simp [pX]);intro k h1 h4;have h3:k<a.length:=by rw [pX]at h1;exact h1
  rw [<-bF h1,sa h3,<-bF h4,sa h3]
  by_cases e:k=i
  ·subst e;rw [aF (.inr c),aF (.inr c)]
  by_cases e2:i+1<=k\/gi a k=gi b k
  ·rw [aF e2,aF (by omega)]
  rw [aC e2,aC (by omega)]
 rw [aC c];apply ia (by simp [pX]);intro k h1 h2;have h3:k<a.length:=by rw [pX]at h1;exact h1
 have h4:k< (oe a b i).length:=by rw [pX];exact h3
 rw [<-bF h1,sa h3,List.getElem_set]
 split
 ·rename_i h;rw [aC (fun e=>by subst e;rcases h with h | h<;>first | omega | exact c h),<-bF h4,sa h3,aF (by omega)]
 rename_i h
 by_cases e:i=k
 ·rw [aF e]
 rw [aC e,<-bF h4,sa h3,aC (fun h'=>h (by omega))]
theorem GO(A A2:aj)(n c m c2:Nat)(a b:ai)(w:aa)(hA:bu w A n a)(hB:bu w A2 m b)(hm:n=m)(hn:n<=1000):
 aJ prog 121 [.slice A n c,.slice A2 m c2] w (uF (kf a b) w):=by
 subst hm;have ha:=hA.1;have hb:=hB.1;refine br func121 O ntmps121 O (cw O) (a8 O (aI (yN A n c a w hA (by omega)) O ?_));rintro _ w1 ⟨A5,c5,rfl,hS⟩;have hS:St w w1 [aw 2 A5 n c5 (oe a b 0)]:=by rw [M6];exact hS
 refine ar O (ba O O (aE O ?_));refine Cd.loop (α:=Nat) (fun i=> [(5,.slice A5 n c5),(10,.slice A2 n c2),(11,ak n),(12,ak i)]) (fun i w'=>i<=n/\St w w' [aw 2 A5 n c5 (oe a b i)]) (fun i=>n - i) 0 (WM O) ⟨bn _,hS⟩ ?_;clear hS;rintro i e w2 ⟨hi,hS⟩;have hl:=pX a b i;refine bX O (aN _ O (fun h2=>?_) (fun h2=>?_))
 ·have de:i<a.length:=by omega
  have e6:=M8 (a:=a) (b:=b) (i:=i);have zV:=sa (b:=b) (i:=i) de;rw [aF (.inl (dh _))]at zV;have qX:=hS.da hB;have h5:=hS.bo 0 O;refine aG O (aB qX.2 O (aW qX O (ar O (aB h5.2 O (aW h5 O (aE O ?_))))));rw [zV];refine aN _ O (fun h3=>?_) (fun h3=>?_)
  ·rw [aC h3]at e6;refine aG O (aB h5.2 O (il 0 hS O O O (by omega) ?_));intro w3 aU;refine ar O (aK O (aR O (tQ ?_)));exact⟨i+1,by show n - (i+1)<n - i;omega,(WM O),by omega,by rw [e6];exact aU⟩
  rw [aF (kR.1 h3)]at e6;refine aG O (aK O (aR O (tQ ?_)));exact⟨i+1,by show n - (i+1)<n - i;omega,(WM O),by omega,by rw [e6];exact hS⟩
 have de:i=a.length:=by omega
 rw [de,M7]at hS;have vz:=uT a b;refine bk O (bm (fA O ?_));refine eW O ?_;exact⟨A5,c5,by rw [vz,ha],by rw [vz,ha];exact hS⟩
def s3(xs:ai)(x:Int):ai:=(cI xs.length).filter fun e=>decide (gi xs e=x)
theorem TY{xs:ai}{x:Int}{m:Nat}:((cI (m+1)).filter fun e=>decide (gi xs e=x))=if x=gi xs m then((cI m).filter fun e=>decide (gi xs e=x))++ [(m:Int)]else((cI m).filter fun e=>decide (gi xs e=x)):=by
 have:cI (m+1)=cI m++ [(m:Int)]:=by
  unfold cI;rw [l4,List.map_append];rfl
 rw [this,oW]
 by_cases c:gi xs m=x
 ·rw [aF c.symm];simp [c]
 rw [aC (fun h=>c h.symm)];simp [c]
theorem TX(A:aj)(n c:Nat)(xs:ai)(x:Int)(w:aa)(hA:bu w A n xs)(hn:n<=100000):
 aJ prog 190 [.slice A n c,ak x] w (uF (s3 xs x) w):=by
 have ha:=hA.1;refine br func190 O ntmps190 O (cw O) ?_;refine a8 O (ba O O (aE O ?_));refine Cd.loop (α:=Nat×aj×Nat) (fun z=> [(1,ak x),(5,.slice z.2.1 ((cI z.1).filter fun e=>decide (gi xs e=x)).length z.2.2),(8,.slice A n c),(9,ak n),(10,ak (z.1:Int))]) (fun z w'=>z.1<=n/\St w w' [aw 2 z.2.1 ((cI z.1).filter fun e=>decide (gi xs e=x)).length z.2.2 ((cI z.1).filter fun e=>decide (gi xs e=x))]) (fun z=>n - z.1) (0,none,0) (WM O) ⟨bn _,(St.refl w).nil _⟩ ?_;rintro⟨i,A5,c5⟩ e w1 ⟨hi,hS⟩;dsimp only at hi hS|-;have fB:((cI i).filter fun e=>decide (gi xs e=x)).length<=100000:=by
  refine jb (mX _ _) ?_;rw [cI,lC,pO];omega
 have e6:=TY (xs:=xs) (x:=x) (m:=i);refine bX O (aN _ O (fun h2=>?_) (fun h2=>?_))
 ·have HJ:=hS.da hA;refine aG O (aB HJ.2 O (aW HJ O (aE O ?_)));refine aN _ O (fun h3=>?_) (fun h3=>?_)
  ·rw [aF h3]at e6;refine aG O (eE hS O O O ?_);intro A9 w2 aM;refine fj 1 aM O (aM.bo 0 O) O O O ?_;intro AZ cZ w3 aU;have aU:=aU.tail;refine ar O (aK O (aR O (tQ ?_)));refine⟨(i+1,AZ,cZ),by show n - (i+1)<n - i;omega,⟨O,?_,O,O,O,av⟩,by show i+1<=n;omega,?_⟩
   ·show Value.slice _ _ _=_;rw [e6,eY];rfl
   show St w w3 [aw _ _ (((cI (i+1)).filter _).length) _ ((cI (i+1)).filter _)];rw [e6,eY];exact aU
  rw [aC h3]at e6;refine aG O (aK O (aR O (tQ ?_)));refine⟨(i+1,A5,c5),by show n - (i+1)<n - i;omega,⟨O,?_,O,O,O,av⟩,by show i+1<=n;omega,?_⟩
  ·show Value.slice _ _ _=_;rw [e6]
  show St w w1 [aw _ _ (((cI (i+1)).filter _).length) _ ((cI (i+1)).filter _)];rw [e6];exact hS
 have de:i=xs.length:=by omega
 rw [de]at hS|-;refine bk O (bm (fA O ?_));exact eW O ⟨A5,c5,O,hS⟩
def kO(n:Int)(R:ai)(i:Int):ai:=if 0<=i/\i<=n - 1 then s3 R i else [-1]
theorem Fj(P A D:aj)(n:Int)(N cA m cD:Nat)(R:ai)(i:Int)(w:aa)(hP:Rd w P 3 (fun j=> [Value.int .i64 n,.slice A N cA,.slice D m cD].getD j undef))(hR:bu w A N R)(hN:N<=1000)(hn:0<=n/\n<=100):
 aJ prog 119 [.pointer P,ak i] w (uF (kO n R i) w):=by
 refine br func119 O ntmps119 O (cw O) (a8 O ?_);refine kb hP (by decide) O O ?_;refine aS hP O (fJ (j:=0) hP (by exact aH Value.pointer O) O O O O (dA O (aI (mS _ _ _ _) O ?_)));rintro _ _ ⟨rfl,rfl⟩
 first | refine dk rfl rfl ?_ | refine eF rfl rfl ?_
 refine aE O (aN _ O (fun h2=>?_) (fun h2=>?_))
 ·refine aG O (eE (i:= -1) (St.refl _) O O O ?_);intro A9 w2 aM;refine bI O (eW O ?_);unfold uF kO;rw [aC h2];exact⟨A9,1,O,aM⟩
 refine aG O (kb hP (by decide) O O (aS hP O (aZ hP O (ar O (aI (TX A N cA R i _ hR (by omega)) O ?_)))));rintro _ w2 ⟨A9,c9,rfl,aM⟩;refine bI O (eW O ?_);unfold uF kO;rw [aF (kR.1 h2)];exact⟨A9,c9,O,aM⟩
end
end Go.Proofs.YtagdamiiececaaaGreatDoor.Vc
