/-
  The texts Pt8, Pt9, Pt5, Pu1, Ts1, Ts2, Po9, Ts3, Ps1 in one. Conditions: as each part states them.
-/
import Derived.Test.YtopgfgdgfjddpaaGreatDoorZh
import Derived.Test.YtopgfgdgfjddpaaGreatDoorZf
import Derived.Test.YtopgfgdgfjddpaaGreatDoorZb
import Derived.Test.YtopgfgdgfjddpaaGreatDoorZg
import Derived.Test.YtopgfgdgfjddpaaGreatDoorZe
namespace Go.Proofs.YtopgfgdgfjddpaaGreatDoor.Vc
open Go.RowKit Tryz
structure C9(w:World)(N n:Nat)(A3:aiC)(os:List aG)(rss:List (List aG))(Xs:List (aiB)):Prop where
 top:jD w A3 n os
 on:∀i,i<n→(os.getD i dE).n=N
 row:∀i,i<n→br w (os.getD i dE).a N (rss.getD i []) (Xs.getD i [])
theorem C9.later{w w':World}{N n:Nat}{A3:aiC}{os:List aG}{rss:List (List aG)}{Xs:List (aiB)}(h:C9 w N n A3 os rss Xs)(hb:Below w.heap.size w w'):C9 w' N n A3 os rss Xs:=⟨h.top.later hb,h.on,fun i hi=> (h.row i hi).later hb⟩
theorem ni.rd{w w':World}{N n:Nat}{A3:aiC}{c3:Nat}{os:List aG}{rss:List (List aG)}{Xs:List (aiB)}(h:ni w w' N n A3 c3 os rss Xs):C9 w' N n A3 os rss Xs:=⟨h.st.il 0 rfl,h.on,fun _ hi=>h.aE hi⟩
open Classical in
theorem Tk{n:Nat}{fl:aiB}{i a:Nat}{y:Int}:y∈rE n fl i a↔∃y':Nat,y=y'∧y'<fl.length∧jz n fl i a y'∧y'≠a:=by
 unfold rE;rw [dh];constructor
 ·rintro⟨y',h,rfl⟩;rw [fA,gg,jT]at h;exact⟨y',O,h.1,h.2⟩
 rintro⟨y',rfl,h1,h2⟩;exact⟨y',by rw [fA,gg,jT];exact⟨h1,h2⟩,O⟩
def lT(mask:Nat)(i:Nat):Prop:=mask / 2^i%2=1
set_option maxHeartbeats 4000000 in
theorem acS(A3:aiC)(c3:Nat)(os:List aG)(rss:List (List aG))(fl:aiB)(n N mask:Nat)(w:World)(gy:fl.length=N)(hR:C9 w N n A3 os rss (jw n fl N 0 0))(hm:mask≤32)(hN:N≤400)(hn:n≤5):
 aA prog 204 [.slice A3 n c3,aiD N,aiD mask] w (fun v w'=>∃A' c' L,v= .slice A' N c'∧iV N (eO n fl (lT mask)) N L∧St w w' [ah 2 A' N c' L]):=by
 have wq:vU N (eO n fl (lT mask)):=gy▸eO.yK n fl (lT mask);have hX:∀i x:Nat,i<n→x<N→gl ((jw n fl N 0 0).getD i []) (x:Int)=rE n fl i x:=fun i x hi hx=>by
  rw [L9 hi,Ma (by omega)];unfold rG;rw [aj hx,Th]
 have dA:∀i,i<n→((jw n fl N 0 0).getD i []).length=N:=fun i hi=>by rw [L9 hi,xh,gy]
 have ig:∀i x,(rE n fl i x).length≤N:=fun i x=>by rw [←Th,←gy];exact Ti ..
 generalize jw n fl N 0 0=Xs at*;refine bk func204 O ntmps204 O (cK O) (aQ O (jl (St.refl w) O ?_));intro A7 w1 ao;refine ay O ?_;refine Cd.loop (α:=Nat×aiC×Nat) (fun z=> [(0,.slice A3 n c3),(1,aiD (N:Int)),(2,aiD (mask:Int)),(7,.slice z.2.1 z.1 z.2.2),(8,aiD (z.1:Int))]) (fun z w'=>z.1≤N∧St w w' [ah 2 z.2.1 z.1 z.2.2 (List.replicate z.1 (-1))]) (fun z=>N - z.1) (0,A7,0) ⟨O,O,O,O,O,ae⟩ ⟨aW _,ao⟩ ?_;clear ao;rintro⟨i,A7,c7⟩ e w2 ⟨hi,hS⟩;dsimp only at hi hS⊢;refine bK O ?_;refine aB _ O (fun h1=>?_) (fun h1=>?_)
 ·refine av O (dJ (i:= -1) hS O O O ?_);intro A9 w3 az;refine eK 1 az O (az.bc 0 O) O O O (by omega) (by omega) O ?_;intro AZ cZ w4 aJ;have aJ:=aJ.tail;refine ad O (aa.add O O O (by omega) (aF O (tQ ?_)));exact⟨(i+1,AZ,cZ),by show N - (i+1)<N - i;omega,⟨O,O,O,O,O,ae⟩,by show i+1≤N;omega,by show St w w4 [ah _ AZ (i+1) cZ (List.replicate (i+1) (-1))];rw [List.replicate_succ'];exact aJ⟩
 obtain rfl:i=N:=by omega
 refine aY O (aZ (nN O ?_));refine Cd.loop (α:=Nat×List Int) (fun z=> [(0,.slice A3 n c3),(1,aiD (i:Int)),(2,aiD (mask:Int)),(7,.slice A7 i c7),(9,aiD (z.1:Int))]) (fun z w'=>z.1≤i∧iV i (eO n fl (lT mask)) z.1 z.2∧St w w' [ah 2 A7 i c7 z.2]) (fun z=>i - z.1) (0,List.replicate i (-1)) ⟨O,O,O,O,O,ae⟩ ⟨aW _,iV.zero _ _,hS⟩ ?_;clear hS;rintro⟨f,L0⟩ e w3 ⟨hf,pv,hS⟩;dsimp only at hf pv hS⊢;have sq:=pv.1;refine bK O ?_;refine aB _ O (fun h1=>?_) (fun h1=>?_)
 ·have jY:f<i:=by omega
  have pw:=hS.bc 0 O;have JQ:eO n fl (lT mask) f f:= .refl (by omega);refine av O (aw pw.2 O O O (by omega) (by omega) (aT pw O (by omega) O O (ay O ?_)));refine aB _ O (fun h2=>?_) (fun h2=>?_)
  ·refine av O (aa.add O O O (by omega) (aF O (tQ ?_)));exact⟨(f+1,L0),by show i - (f+1)<i - f;omega,⟨O,O,O,O,O,ae⟩,by show f+1≤i;omega,pv.skip wq jY (.inl h2),hS⟩
  have h0:gi L0 (f:Int)<0:=by omega
  refine av O (aw pw.2 O O O (by omega) (by omega) (jR 0 hS O O O (by omega) ?_));intro w4 aJ;have aJ:St w w4 [ah 2 A7 i c7 (L0.set f (f:Int))]:=aJ;refine ad O (dJ aJ O O O ?_);intro a6 w5 aK;have fD:=nm.start (A:=xA n fl (lT mask)) sq jY h0 JQ;refine ay O ?_;refine Cd.loop (α:=Nat×List Int×List Nat×aiC×Nat) (fun z=> [(0,.slice A3 n c3),(1,aiD (i:Int)),(2,aiD (mask:Int)),(7,.slice A7 i c7),(9,aiD (f:Int)),(10,.slice z.2.2.2.1 z.2.2.1.length z.2.2.2.2),(11,aiD (z.1:Int))]) (fun z w'=>nm i (eO n fl (lT mask)) (xA n fl (lT mask)) f L0 z.2.1 z.2.2.1 z.1∧St w w' [ah 2 z.2.2.2.1 z.2.2.1.length z.2.2.2.2 (ky z.2.2.1),ah 2 A7 i c7 z.2.1]) (fun z=>i+1 - z.1) (0,L0.set f (f:Int),[f],a6,1) ⟨O,O,O,O,O,O,O,ae⟩ ⟨fD,aK⟩ ?_;clear aK aJ hS pw fD;rintro⟨k,L,Q,Ao,co⟩ e w6 ⟨fD,hS⟩;dsimp only at fD hS⊢;have wT:=fD.yO;have je:=fD.Hu;refine aQ O (aa.len O O (ay O ?_));refine aB _ O (fun h3=>?_) (fun h3=>?_)
  ·have iC:k<Q.length:=by omega
   obtain⟨x,hx⟩:∃x,Q.getD k 0=x:=⟨_,rfl⟩;have EF:x∈Q:=by rw [←hx,cJ,gf iC];exact dQ _
   have fW:=fD.vz x EF;refine bP O ?_;refine Cd.loop (α:=Nat×List Int×List Nat×aiC×Nat) (fun z=> [(0,.slice A3 n c3),(1,aiD (i:Int)),(2,aiD (mask:Int)),(7,.slice A7 i c7),(9,aiD (f:Int)),(10,.slice z.2.2.2.1 z.2.2.1.length z.2.2.2.2),(11,aiD (k:Int)),(12,aiD (z.1:Int))]) (fun z w'=>z.1≤n∧nm i (eO n fl (lT mask)) (xA n fl (lT mask)) f L0 z.2.1 z.2.2.1 k∧(k<z.2.2.1.length∧z.2.2.1.getD k 0=x)∧(∀q y:Nat,q<z.1→¬lT mask q→jz n fl q x y→y≠x→0≤gi z.2.1 (y:Int))∧St w w' [ah 2 z.2.2.2.1 z.2.2.1.length z.2.2.2.2 (ky z.2.2.1),ah 2 A7 i c7 z.2.1]) (fun z=>n - z.1) (0,L,Q,Ao,co) ⟨O,O,O,O,O,O,O,O,ae⟩ ⟨aW _,fD,⟨iC,hx⟩,fun q y h=>absurd h (jk _),hS⟩ ?_;clear hS fD hx EF iC wT je h3;rintro⟨r,Li,Qi,Ao,co⟩ e w7 ⟨hr,fD,⟨iC,hx⟩,nA,hS⟩;dsimp only at hr fD iC hx nA hS⊢;refine aQ O (aa.len O O (ay O ?_));refine aB _ O (fun h4=>?_) (fun h4=>?_)
   ·have iD:r<n:=by omega
    refine av O (nk O O (sU _ (by omega)) (VO O O (by omega) hm O (Vu O O (kJ (Nat.div_le_self _ _) hm) O (ay O ?_))));refine aB _ O (fun h5=>?_) (fun h5=>?_)
    ·have hb:lT mask r:=by unfold lT;omega
     refine av O (aa.add O O O (by omega) (aF O (tQ ?_)));exact⟨(r+1,Li,Qi,Ao,co),by show n - (r+1)<n - r;omega,⟨O,O,O,O,O,O,O,O,ae⟩,by show r+1≤n;omega,fD,⟨iC,hx⟩,fun q y hq hs ha bt=>by
      by_cases eq:q=r
      ·subst eq;exact absurd hb hs
      exact nA q y (by have hq:q<r+1:=hq;omega) hs ha bt,hS⟩
    have hb:¬lT mask r:=by unfold lT;omega
    have BU:=hR.later hS.below;have KV:=hR.on r iD;have py:=BU.row r iD;have Hq:=hX r x iD fW.1;have Qq:=dA r iD;have aaP:=ig r x;have lq:∀ {w':World} {ks:List Ck},St w w' ks→bS w' (rg (rss.getD r []) (x:Int)).a (rg (rss.getD r []) (x:Int)).n (rE n fl r x):=fun h=>by
     have h9:=((hR.later h.below).row r iD).at_ (i:=(x:Int)) (by omega) (by omega);rw [Hq]at h9;exact h9
    obtain⟨oa,oc,ho⟩:∃oa oc,os.getD r dE=⟨oa,i,oc⟩:=⟨(os.getD r dE).a,(os.getD r dE).c,by rw [←KV]⟩;have Ha:(os.getD r dE).v= .slice oa i oc:=by rw [ho];rfl
    rw [ho]at py;generalize q9:Xs.getD r []=Xr at*;generalize K7:rss.getD r []=rr at*;have fZ:=py.at_ (i:=(x:Int)) (by omega) (by omega);rw [Hq]at fZ;have tR:=fZ.1;have Eb:gi (ky Qi) (k:Int)=(x:Int):=by rw [Sf iC,hx]
    have wT:=fD.yO;have zt:=hS.bc 0 O;have zC:(ky Qi).length=Qi.length:=by simp [ky]
    refine bP O ?_;refine dI [xS (A3) (n) (c3),xI ((r:Int)),xP (aq A3 ((r:Int)).toNat),xS (oa) (i) (oc),xS (Ao) (Qi.length) (co),xI ((k:Int)),xP (aq (Ao) ((k:Int)).toNat),xI ((x:Int)),xP (aq (oa) ((x:Int)).toNat),xS ((rg (rr) ((x:Int))).a) ((rg (rr) ((x:Int))).n) ((rg (rr) ((x:Int))).c),xS ((rg (rr) ((x:Int))).a) ((rg (rr) ((x:Int))).n) ((rg (rr) ((x:Int))).c)] (by kernel_rfl) (by kernel_rfl) O (eg O) ?_ ?_
    ·exact⟨Dr O,Dr O,fun _ _ hb _ _=>aw (BU.top.later hb).2 O O O (by omega) (by omega) (Az O),fun _ _ hb _ _=>aa.ld (BU.top.later hb).2 (j:=r) O (by omega) Ha O O (Az O),Dr O,Dr O,fun _ _ hb _ _=>aw (zt.later hb).2 O O O (by omega) (by omega) (Az O),fun _ _ hb _ _=>aa.ld (zt.later hb).2 (j:=k) O (by omega) (by exact ax (Value.int .i64) Eb) O O (Az O),fun _ _ hb _ _=>aw (py.top.later hb).2 O O O (by omega) (by omega) (Az O),fun _ _ hb _ _=>bQ (py.top.later hb) O (by omega) O O (Az O),Dr O,ae⟩
    intro u w8 B5 _;have bA:=hS.later B5;clear py BU zt hS;obtain⟨sx,ED⟩:∃sx,rg rr (x:Int)=sx:=⟨_,rfl⟩;rw [ED]at tR⊢;simp only [ED]at lq;obtain⟨ys,rB⟩:∃ys,rE n fl r x=ys:=⟨_,rfl⟩;simp only [rB]at lq;rw [rB]at tR aaP;have BW:∀y∈ys,∃y':Nat,y=y'∧y'<i∧jz n fl r x y'∧y'≠x:=fun y hy=>by
     rw [←rB]at hy;rw [←gy];exact Tk.1 hy
    refine eo O ?_;refine Cd.loop (α:=Nat×List Int×List Nat×aiC×Nat) (fun z=> [(0,.slice A3 n c3),(1,aiD (i:Int)),(2,aiD (mask:Int)),(7,.slice A7 i c7),(9,aiD (f:Int)),(10,.slice z.2.2.2.1 z.2.2.1.length z.2.2.2.2),(11,aiD (k:Int)),(12,aiD (r:Int)),(13,.slice sx.a sx.n sx.c),(14,aiD (z.1:Int))]) (fun z w'=>z.1≤sx.n∧nm i (eO n fl (lT mask)) (xA n fl (lT mask)) f L0 z.2.1 z.2.2.1 k∧(k<z.2.2.1.length∧z.2.2.1.getD k 0=x)∧(∀p:Nat,p<z.1→0≤gi z.2.1 (gi ys (p:Int)))∧(∀y:Nat,0≤gi Li (y:Int)→0≤gi z.2.1 (y:Int))∧St w w' [ah 2 z.2.2.2.1 z.2.2.1.length z.2.2.2.2 (ky z.2.2.1),ah 2 A7 i c7 z.2.1]) (fun z=>sx.n - z.1) (0,Li,Qi,Ao,co) ⟨O,O,O,O,O,O,O,O,O,O,ae⟩ ⟨aW _,fD,⟨iC,hx⟩,fun p h=>absurd h (jk _),fun y h=>h,bA⟩ ?_;clear bA fD iC hx Eb zC wT;rintro⟨q,L,Q,Ao,co⟩ e gm ⟨hq,fD,⟨iC,hx⟩,wL,sF,hS⟩;dsimp only at hq fD iC hx wL sF hS⊢;have wT:=fD.yO;have Zv:=fD.len;refine aQ O (aa.len O O (ay O ?_));refine aB _ O (fun h6=>?_) (fun h6=>?_)
    ·have K5:q<ys.length:=by omega
     have vx:=lq hS;obtain⟨y,hy,xa,EH,abH⟩:=BW _ (gi_in K5);have pw:=hS.bc 1 O;refine av O (aw vx.2 O O O (by omega) (by omega) (aT vx O (by omega) O O ?_));rw [hy];refine aw pw.2 O O O (by omega) (by omega) (aT pw O (by omega) O O (ay O ?_));refine aB _ O (fun h7=>?_) (fun h7=>?_)
     ·have py:=fD.meet xa h7 (wq.vJ _ _ _ fW.2.2 (xA.link ⟨r,iD,hb,EH,abH⟩));refine av O (aw vx.2 O O O (by omega) (by omega) (aT vx O (by omega) O O ?_));rw [hy];refine ad O (aw pw.2 O O O (by omega) (by omega) (jR 1 hS O O O (by omega) ?_));intro dW fC;have vx:=lq fC;refine ad O (aw vx.2 O O O (by omega) (by omega) (aT vx O (by omega) O O ?_));rw [hy];refine dJ fC O O O ?_;intro A9 me ic;refine eK 1 ic O (ic.bc 0 O) O O O (by omega) (by omega) O ?_;intro AZ cZ mG gr;have gr:=gr.tail;have Ek:(Q++ [y]).length=Q.length+1:=by simp
      refine ad O (aa.add O O O (by omega) (aF O (tQ ?_)));refine⟨(q+1,L.set y (f:Int),Q++ [y],AZ,cZ),by show sx.n - (q+1)<sx.n - q;omega,⟨O,O,O,O,O,ax (fun m=>Value.slice AZ m cZ) Ek.symm,O,O,O,O,ae⟩,by show q+1≤sx.n;omega,py,⟨by show k< (Q++ [y]).length;omega,by show(Q++ [y]).getD k 0=x;rw [Pj iC,hx]⟩,fun p hp=>?_,fun z hz=>DC (sF z hz),?_⟩
      ·by_cases ep:p=q
       ·subst ep;rw [hy];have h9:=Pn (L:=L) (y:=y) (f:=f) (by omega);show 0≤gi (L.set y (f:Int)) (y:Int);omega
       have hp:p<q+1:=hp;obtain⟨y9,Lt,_,_⟩:=BW _ (gi_in (show p<ys.length by omega));have h9:=wL p (by omega);rw [Lt]at h9⊢;exact DC h9
      show St w mG [ah _ AZ (Q++ [y]).length cZ (ky (Q++ [y])),_];rw [Ek,show ky (Q++ [y])=ky Q++ [(y:Int)] by simp [ky]];exact gr
     refine av O (aa.add O O O (by omega) (aF O (tQ ?_)));refine⟨(q+1,L,Q,Ao,co),by show sx.n - (q+1)<sx.n - q;omega,⟨O,O,O,O,O,O,O,O,O,O,ae⟩,by show q+1≤sx.n;omega,fD,⟨iC,hx⟩,fun p hp=>?_,sF,hS⟩
     by_cases ep:p=q
     ·subst ep;rw [hy];show 0≤gi L (y:Int);omega
     have hp:p<q+1:=hp;exact wL p (by omega)
    have dL:∀y:Nat,(y:Int)∈ys→0≤gi L (y:Int):=fun y hy=>by
     obtain⟨p,hp,e9⟩:=gJ.1 hy;rw [←bX hp]at e9;have:=wL p (by omega)
     rwa [e9]at this
    refine aY O (aZ (cL O (aa.add O O O (by omega) (aF O (tQ ?_)))));refine⟨(r+1,L,Q,Ao,co),by show n - (r+1)<n - r;omega,⟨O,O,O,O,O,O,O,O,ae⟩,by show r+1≤n;omega,fD,⟨iC,hx⟩,fun q' y Es hs ha bt=>?_,hS⟩
    by_cases eq:q'=r
    ·subst eq;exact dL y (by rw [←rB];exact Tk.2 ⟨y,O,ha.2.1,ha,bt⟩)
    exact sF y (nA q' y (by have Es:q'<r+1:=Es;omega) hs ha bt)
   have Hh:r=n:=by omega
   have wT:=fD.yO;have tI:=fD.next iC fun y hy=>by
    rw [hx]at hy;obtain⟨q,hq,hs,ha,bt⟩:=hy;exact nA q y (by omega) hs ha bt
   refine aY O (aZ (cL O (aa.add O O O (by omega) (aF O (tQ ?_)))));exact⟨(k+1,Li,Qi,Ao,co),by show i+1 - (k+1)<i+1 - k;have:=fD.yO;omega,⟨O,O,O,O,O,O,O,ae⟩,tI,hS⟩
  have iC:k=Q.length:=by omega
  subst iC;have wG:=fD.end_ wq pv jY h0 (fun S ao ar=>eO.ind S ao ar) (fun x y h=>h.link);refine aY O (aZ (cL O (aa.add O O O (by omega) (aF O (tQ ?_)))));exact⟨(f+1,L),by show i - (f+1)<i - f;omega,⟨O,O,O,O,O,ae⟩,by show f+1≤i;omega,wG,hS.tail⟩
 have yg:f=i:=by omega
 rw [yg]at pv;refine aY O (aZ (gE O ?_));refine gB O ?_;exact⟨A7,c7,L0,O,pv,hS⟩
theorem eO.cv{n:Nat}{fl:aiB}{S S':Nat→Prop}(hS:∀k,k<n→(S k↔S' k)){u v:Nat}(h:eO n fl S u v):eO n fl S' u v:=by
 induction h with
 | refl h=>exact .refl h
 | step _ hi hs Kb ih=>exact .step ih hi (fun h=>hs ((hS _ hi).2 h)) Kb
def tU(a b:List Int):Nat→Nat
 | 0=>0
 | i+1=>if gi a (i:Int)=gi b (i:Int)then tU a b i+2^i else tU a b i
theorem L3(a b:List Int):∀i,tU a b i<2^i
 | 0=>Nat.one_pos
 | i+1=>by
  have:=L3 a b i;unfold tU;rw [Nat.pow_succ]
  split<;>omega
theorem NS{m i:Nat}:lT m i↔m.testBit i=true:=by
 unfold lT;rw [Nat.testBit_eq_decide_div_mod_eq,jT]
theorem S5(a b:List Int):∀ {m i:Nat},i<m→(lT (tU a b m) i↔gi a (i:Int)=gi b (i:Int))
 | 0,i,h=>absurd h (jk _)
 | m+1,i,h=>by
  have fY:=L3 a b m;rw [NS];unfold tU
  by_cases e:i=m
  ·subst e;have hf:=Nat.testBit_lt_two_pow fY
   split
   ·rename_i c;rw [Nat.add_comm,Nat.testBit_two_pow_add_eq,hf];exact⟨fun _=>c,fun _=>O⟩
   ·rename_i c;rw [hf];exact⟨fun h=> (by cases h),fun h=>absurd h c⟩
  ·have ih:=S5 a b (m:=m) (i:=i) (by omega);rw [NS]at ih
   split
   ·rw [Nat.add_comm,Nat.testBit_two_pow_add_gt (by omega)];exact ih
   ·exact ih
set_option maxHeartbeats 4000000 in
theorem acV(A:aiC)(N c:Nat)(rs:List aG)(fl:aiB)(n:Nat)(w:World)(hM:br w A N rs fl)(JU:0<N)(hN:N≤400)(hn:n≤5)(hl:∀x∈fl,x.length=n)(rv:fl.Nodup):
 aA prog 145 [.slice A N c] w (fun v w'=>∃A' n' c',v= .slice A' n' c'∧(n'=0↔vN n fl)∧St w w' []):=by
 have gy:=hM.len;have vr:∀f:Nat,f<N→gl fl (f:Int)∈fl:=fun f hf=>by rw [db (by omega)];exact dQ _
 have cj:∀f:Nat,f<N→(rg rs (f:Int)).n=n:=fun f hf=>by
  have:=(hM.at_ (i:=(f:Int)) (by omega) (by omega)).1;rw [←this];exact hl _ (vr f hf)
 have h2n:2^n≤32:=kJ (Nat.pow_le_pow_right (by decide) hn) (by decide);refine bk func145 O ntmps145 O (cK O) (aQ O (aa.call (acU A N c rs fl n w hM JU hN hn hl rv) O O O ?_));rintro _ w1 ⟨A3,c3,os,rss,rfl,GG⟩;have hR:=GG.rd;have GL:=GG.st.none;have hM:=GG.st.bF hM;clear GG;refine jl (St.refl w1) O ?_;intro A4 w2 ar;refine ay O ?_;refine Cd.loop (α:=Nat×(aiC×Nat)×List aG×aiB) (fun z=> [(0,.slice A N c),(3,.slice A3 n c3),(4,.slice z.2.1.1 z.1 z.2.1.2),(5,aiD (z.1:Int))]) (fun z w'=>z.1≤2^n∧z.2.2.1.length=z.1∧z.2.2.2.length=z.1∧(∀q:Nat,q<z.1→iV N (eO n fl (lT q)) N (gl z.2.2.2 (q:Int)))∧St w1 w' (aE 32 2 z.2.1.1 z.1 z.2.1.2 z.2.2.1 z.2.2.2++ [])) (fun z=>2^n - z.1) (0,(A4,0),[],[]) ⟨O,O,O,O,ae⟩ ⟨aW _,O,O,fun q h=>absurd h (jk _),ar⟩ ?_;clear ar;rintro⟨m,⟨A4,c4⟩,cG,Ls⟩ e w3 ⟨hm,bW,sq,sn,hS⟩;dsimp only at hm bW sq sn hS⊢;refine aQ O (aa.len O O ?_);refine nk O O (sU _ (by omega)) (Nn O O hn O (ay O ?_));refine aB _ O (fun h1=>?_) (fun h1=>?_)
 ·have pS:m<2^n:=by omega
  refine av O (aa.len O O (ad O ?_));refine aa.call (acS A3 c3 os rss fl n N m w3 gy (hR.later hS.below) (by omega) hN hn) O O O ?_;rintro _ w4 ⟨A9,c9,L,rfl,hL,ak⟩;have aJ:=hS.call ak;refine nj aJ O O O ?_;intro A8 w5 aK;refine oM 2 aK O (aK.il 0 O) O O O (by omega) (by omega) O ?_;intro AZ cZ w6 aR;have aR:=aR.tail;have aV:St w1 w6 (ah 2 A9 N c9 L::bU 32 AZ (m+1) cZ (cG++ [⟨A9,N,c9⟩])::(cS 2 cG Ls++ [])):=aR;have aV:=aV.perm (Tv _ _ _ _);rw [←uY (by omega)]at aV;refine ad O (aa.add O O O (by omega) (aF O (tQ ?_)));refine⟨(m+1,(AZ,cZ),cG++ [⟨A9,N,c9⟩],Ls++ [L]),by show 2^n - (m+1)<2^n - m;omega,⟨O,O,O,O,ae⟩,by show m+1≤2^n;omega,by simp [bW],by simp [sq],fun q hq=>?_,(by exact aV)⟩;have hq:q<m+1:=hq;have e9:gl (Ls++ [L]) (q:Int)=if q<m then gl Ls (q:Int)else L:=by
   rw [db (by simp;omega)]
   by_cases c:q<m
   ·rw [aj c,db (by omega),List.getElem_append_left (by omega)]
   obtain rfl:q=m:=by omega
   rw [ag c];simp [sq]
  show iV N _ N (gl (Ls++ [L]) (q:Int));rw [e9]
  split
  ·exact sn q (by assumption)
  obtain rfl:q=m:=by omega
  exact hL
 have G5:m=2^n:=by omega
 have fH:br w3 A4 m cG Ls:=by
  rw [fg]at hS;exact hS.rN sq
 have tv:=hM.later hS.below;have az:=GL.later hS.below;clear hS hR hM GL;refine aY O (aZ (nN O ?_));refine Cd.loop (α:=Nat) (fun a=> [(0,.slice A N c),(4,.slice A4 m c4),(6,aiD (a:Int))]) (fun a w'=>a≤N∧(∀a' b':Nat,a'<a→a'<b'→b'<N→eO n fl (fun k=>gi (gl fl (a':Int)) (k:Int)=gi (gl fl (b':Int)) (k:Int)) a' b')∧St w3 w' []) (fun a=>N - a) 0 ⟨O,O,O,ae⟩ ⟨aW _,fun a' b' h=>absurd h (jk _),St.refl _⟩ ?_;rintro a e w4 ⟨ha,Cb,hS⟩;refine aQ O (aa.len O O (ay O ?_));refine aB _ O (fun h2=>?_) (fun h2=>?_)
 ·have sw:a<N:=by omega
  refine av O (aa.add O O O (by omega) (ay O ?_));refine Cd.loop (α:=Nat) (fun b=> [(0,.slice A N c),(4,.slice A4 m c4),(6,aiD (a:Int)),(7,aiD (b:Int))]) (fun b w'=> (a<b∧b≤N)∧(∀b':Nat,a<b'→b'<b→eO n fl (fun k=>gi (gl fl (a:Int)) (k:Int)=gi (gl fl (b':Int)) (k:Int)) a b')∧St w3 w' []) (fun b=>N - b) (a+1) ⟨O,O,O,O,ae⟩ ⟨⟨Nat.lt_succ_self _,sw⟩,fun b' h h'=>by omega,hS⟩ ?_;clear hS;rintro b e w5 ⟨⟨dO,wD⟩,uE,hS⟩;refine aQ O (aa.len O O (ay O ?_));refine aB _ O (fun h3=>?_) (fun h3=>?_)
  ·have hb:b<N:=by omega
   have zM:=cj a sw;have KQ:=cj b hb;refine bP O ?_;refine Cd.loop (α:=Nat) (fun i=> [(0,.slice A N c),(4,.slice A4 m c4),(6,aiD (a:Int)),(7,aiD (b:Int)),(8,aiD ((tU (gl fl (a:Int)) (gl fl (b:Int)) i:Nat):Int)),(9,aiD (i:Int))]) (fun i w'=>i≤n∧St w3 w' []) (fun i=>n - i) 0 ⟨O,O,O,O,O,O,ae⟩ ⟨aW _,hS⟩ ?_;clear hS;rintro i e w6 ⟨hi,hS⟩;have ny:=tv.later hS.below;have mQ:=ny.at_ (i:=(a:Int)) (by omega) (by omega);have l6:=ny.at_ (i:=(b:Int)) (by omega) (by omega);have KI:=mQ.1;have Cj:=l6.1;have G7:=L3 (gl fl (a:Int)) (gl fl (b:Int)) i;have h2i:2^i≤32:=kJ (Nat.pow_le_pow_right (by decide) (show i≤5 by omega)) (by decide);refine aQ O (aw ny.top.2 O O O (by omega) (by omega) (bQ ny.top O (by omega) O O ?_));refine aa.len O O (ay O ?_);refine aB _ O (fun h4=>?_) (fun h4=>?_)
   ·have dq:i<n:=by omega
    refine bP O ?_;refine dI [xS (A) (N) (c),xI ((a:Int)),xP (aq (A) ((a:Int)).toNat),xS ((rg (rs) ((a:Int))).a) ((rg (rs) ((a:Int))).n) ((rg (rs) ((a:Int))).c),xI ((i:Int)),xP (aq ((rg (rs) ((a:Int))).a) ((i:Int)).toNat),xI (gi (gl fl (a:Int)) ((i:Int))),xS (A) (N) (c),xI ((b:Int)),xP (aq (A) ((b:Int)).toNat),xS ((rg (rs) ((b:Int))).a) ((rg (rs) ((b:Int))).n) ((rg (rs) ((b:Int))).c),xI ((i:Int)),xP (aq ((rg (rs) ((b:Int))).a) ((i:Int)).toNat),xI (gi (gl fl (b:Int)) ((i:Int))),xB (decide ((gi (gl fl (a:Int)) ((i:Int)))=(gi (gl fl (b:Int)) ((i:Int)))))] (by kernel_rfl) (by kernel_rfl) O (eg O) ?_ ?_
    ·exact⟨Dr O,Dr O,fun _ _ hb _ _=>aw (ny.top.later hb).2 O O O (by omega) (by omega) (Az O),fun _ _ hb _ _=>bQ (ny.top.later hb) O (by omega) O O (Az O),Dr O,fun _ _ hb _ _=>aw (mQ.later hb).2 O O O (by omega) (by omega) (Az O),fun _ _ hb _ _=>aT (mQ.later hb) O (by omega) O O (Az O),Dr O,Dr O,fun _ _ hb _ _=>aw (ny.top.later hb).2 O O O (by omega) (by omega) (Az O),fun _ _ hb _ _=>bQ (ny.top.later hb) O (by omega) O O (Az O),Dr O,fun _ _ hb _ _=>aw (l6.later hb).2 O O O (by omega) (by omega) (Az O),fun _ _ hb _ _=>aT (l6.later hb) O (by omega) O O (Az O),Dr O,ae⟩
    intro u w7 wC _;have aV:=hS.later wC;refine eo O ?_;refine aB _ O (fun h5=>?_) (fun h5=>?_)
    ·have qq:tU (gl fl (a:Int)) (gl fl (b:Int)) (i+1)=tU (gl fl (a:Int)) (gl fl (b:Int)) i+2^i:=by
      show(if _ then _ else _)=_;rw [aj h5]
     refine av O (nk O O (sU _ (by omega)) (Nn O O (by omega) O ?_));refine aa.add O O O (by omega) (ad O (aa.add O O O (by omega) (aF O (tQ ?_))));exact⟨i+1,by show n - (i+1)<n - i;omega,⟨O,O,O,O,ax (fun m:Nat=>Value.int .i64 (m:Int)) qq.symm,O,ae⟩,by omega,aV⟩
    have qq:tU (gl fl (a:Int)) (gl fl (b:Int)) (i+1)=tU (gl fl (a:Int)) (gl fl (b:Int)) i:=by
     show(if _ then _ else _)=_;rw [ag h5]
    refine av O (aa.add O O O (by omega) (aF O (tQ ?_)));exact⟨i+1,by show n - (i+1)<n - i;omega,⟨O,O,O,O,ax (fun m:Nat=>Value.int .i64 (m:Int)) qq.symm,O,ae⟩,by omega,aV⟩
   have qp:i=n:=by omega
   subst qp;obtain⟨K,hK⟩:∃K,tU (gl fl (a:Int)) (gl fl (b:Int)) i=K:=⟨_,rfl⟩;have Kg:=fun k (hk:k<i)=>S5 (gl fl (a:Int)) (gl fl (b:Int)) hk
   rw [hK]at G7⊢;simp only [hK]at Kg;have DV:=fH.later hS.below;have Ex:=DV.at_ (i:=(K:Int)) (by omega) (by omega);have P4:=sn K (by omega);have hLKl:=P4.1;have hrKn:=Ex.1;have wq:vU N (eO i fl (lT K)):=gy▸eO.yK i fl (lT K);have ye:=P4.done wq (a:=a) (b:=b) (.refl (by omega)) (.refl (by omega));refine aY O (aZ (nN O ?_));refine dI [xS (A4) (m) (c4),xI ((K:Int)),xP (aq (A4) ((K:Int)).toNat),xS ((rg (cG) ((K:Int))).a) ((rg (cG) ((K:Int))).n) ((rg (cG) ((K:Int))).c),xI ((a:Int)),xP (aq ((rg (cG) ((K:Int))).a) ((a:Int)).toNat),xI (gi (gl Ls (K:Int)) ((a:Int))),xS (A4) (m) (c4),xI ((K:Int)),xP (aq (A4) ((K:Int)).toNat),xS ((rg (cG) ((K:Int))).a) ((rg (cG) ((K:Int))).n) ((rg (cG) ((K:Int))).c),xI ((b:Int)),xP (aq ((rg (cG) ((K:Int))).a) ((b:Int)).toNat),xI (gi (gl Ls (K:Int)) ((b:Int))),xB (decide (¬(gi (gl Ls (K:Int)) ((a:Int)))=(gi (gl Ls (K:Int)) ((b:Int)))))] (by kernel_rfl) (by kernel_rfl) O (eg O) ?_ ?_
   ·exact⟨Dr O,Dr O,fun _ _ hb _ _=>aw (DV.top.later hb).2 O O O (by omega) (by omega) (Az O),fun _ _ hb _ _=>bQ (DV.top.later hb) O (by omega) O O (Az O),Dr O,fun _ _ hb _ _=>aw (Ex.later hb).2 O O O (by omega) (by omega) (Az O),fun _ _ hb _ _=>aT (Ex.later hb) O (by omega) O O (Az O),Dr O,Dr O,fun _ _ hb _ _=>aw (DV.top.later hb).2 O O O (by omega) (by omega) (Az O),fun _ _ hb _ _=>bQ (DV.top.later hb) O (by omega) O O (Az O),Dr O,fun _ _ hb _ _=>aw (Ex.later hb).2 O O O (by omega) (by omega) (Az O),fun _ _ hb _ _=>aT (Ex.later hb) O (by omega) O O (Az O),Dr O,ae⟩
   intro u w7 wC _;have aV:=hS.later wC;refine eo O ?_;refine aB _ O (fun h5=>?_) (fun h5=>?_)
   ·refine av O ?_;refine vc [(a:Int),(b:Int)] aV O O (by decide) (by decide) O O ?_;intro A9 w8 bA;refine bh O (eZ (eE (eZ (eE ?_))));refine gB O ?_;exact⟨A9,2,2,O,⟨fun h=>absurd h (by decide),fun h=>absurd (ye.2 ((h a b dO (by omega)).cv fun k hk=> (Kg k hk).symm)) h5⟩,az.call bA.none⟩
   have de:=(ye.1 (iP.1 h5)).cv Kg;refine av O (aa.add O O O (by omega) (aF O (tQ ?_)));exact⟨b+1,by show N - (b+1)<N - b;omega,⟨O,O,O,O,ae⟩,⟨by omega,by omega⟩,fun b' h6 h7=>by
    by_cases eb:b'=b
    ·subst eb;exact de
    exact uE b' h6 (by omega),aV⟩
  refine aY O (aZ (cL O (aa.add O O O (by omega) (aF O (tQ ?_)))));exact⟨a+1,by show N - (a+1)<N - a;omega,⟨O,O,O,ae⟩,by omega,fun a' b' h4 h5 h6=>by
   by_cases ea:a'=a
   ·subst ea;exact uE b' h5 (by omega)
   exact Cb a' b' (by omega) h5 h6,hS⟩
 refine aY O (aZ (cL O ?_));refine jl hS O ?_;intro A9 w8 bA;refine bh O (gB O ?_);exact⟨A9,0,0,O,⟨fun _ a' b' h3 h4=>Cb a' b' (by omega) h3 (by omega),fun _=>O⟩,az.call bA.none⟩
theorem IY{p:Prop}[Decidable p](h:¬p):true=decide (¬p):=by simp [h]
theorem F3{p:Prop}[Decidable p](h:p):false=decide (¬p):=by simp [h]
theorem Tl(p q:Prop)[Decidable p][Decidable q]:(!(decide p==decide q))=decide (¬(p↔q)):=by
 by_cases hp:p<;>by_cases hq:q<;>simp [hp,hq]
instance (R:List Int)(i e:Int):Decidable (qe R i e):=by unfold qe;infer_instance
instance (n:Int)(R:List Int)(i e:Int):Decidable (nO n R i e):=by unfold nO;infer_instance
def yF(R:List Int)(B:aiB)(i a b:Int)(m:Nat):Nat:=((bw m).filter fun d=>decide (gi R d=i∧(a<0∨a∈gl B d)∧(b<0∨d∈gl B b))).length
theorem adG(R:List Int)(B:aiB)(i a b:Int)(m:Nat):yF R B i a b (m+1)=if gi R (m:Int)=i∧(a<0∨a∈gl B (m:Int))∧(b<0∨(m:Int)∈gl B b)then yF R B i a b m+1 else yF R B i a b m:=by
 have e9:bw (m+1)=bw m++ [(m:Int)]:=by
  unfold bw;rw [ng,iQ];rfl
 unfold yF;rw [e9,nS,dm]
 by_cases c:gi R (m:Int)=i∧(a<0∨a∈gl B (m:Int))∧(b<0∨(m:Int)∈gl B b)
 ·rw [aj c,s8 (by simpa using c)];rfl
 rw [ag c,pG (by simpa using c)];rfl
theorem adF(R:List Int)(B:aiB)(i a b:Int)(m:Nat):yF R B i a b m≤m:=by
 refine kJ (oJ _ _) ?_;rw [bw,fN,pe];exact a8 _
set_option maxHeartbeats 4000000 in
theorem acR(n:Int)(A D:aiC)(cA cD:Nat)(R:List Int)(rs:List aG)(B:aiB)(w:World)(hR:bS w A R.length R)(hB:br w D B.length rs B)(hP:fO n R B):
 aA prog 144 [.agg #[aiD n,.slice A R.length cA,.slice D B.length cD]] w (fun v w'=>∃A' n' c',v= .slice A' n' c'∧(n'=0↔rT n R B)∧St w w' []):=by
 have hn:=hP.n1;have kR:=hP.nn;have hle:=hP.len;have bW:∀e:Int,0≤e→e<R.length→(gl B e).length≤500:=fun e h0 h=>by
  have:=rF (N:=R.length) (hP.at_ h0 h).1.nodup fun x hx=>by have:=((hP.at_ h0 h).2.1 x hx).1;omega
  omega
 have fu:=fun(e:Int) (h0:0≤e) (h:e< (R.length:Int))=>hP.ri h0 h
 have mq:∀i a b,yF R B i a b R.length=(jB R B i a b).length:=fun i a b=>O
 obtain⟨N,hN⟩:∃N,R.length=N:=⟨_,rfl⟩;have JR:∀i a,qe R i a↔((a= -1∧i=0)∨((0≤a∧a< (N:Int))∧0<i∧gi R a=i - 1)):=fun i a=>by rw [←hN];rfl
 have JO:∀i b,nO n R i b↔((b= -1∧i=n - 1)∨((0≤b∧b< (N:Int))∧i<n - 1∧gi R b=i+1)):=fun i b=>by rw [←hN];rfl
 rw [hN]at hR kR hle bW fu mq⊢;rw [hle]at hB⊢;refine bk func144 O ntmps144 O (cK O) (aQ O (kK (St.refl w) O O ?_));intro A1 w1 ao;have h1:Rd w1 A1 3 (fun j=> [Value.int .i64 n,.slice A N cA,.slice D N cD].getD j undef):=ao.rd 0 O;have hR:=ao.eY hR;have hB:=ao.bF hB;have ao:=ao.none;refine ad O (aH h1 O O O O inferInstance (aM (j:=1) h1 (by exact ax Value.pointer O) O O O O ?_));refine aa.len O O (ay O ?_);refine Cd.loop (α:=Nat) (fun i=> [(1,.pointer A1),(3,aiD (N:Int)),(4,aiD (i:Int))]) (fun i w'=>w'=w1∧(i:Int)≤n∧∀i' a b:Int,0≤i'→i'< (i:Int)→qe R i' a→nO n R i' b→(0≤a→0≤b→a∈gl B b)→(jB R B i' a b).length=2) (fun i=>n.toNat - i) 0 ⟨O,O,O,ae⟩ ⟨O,by show((0:Nat):Int)≤n;omega,fun i' a b h h'=>by have h':i'< ((0:Nat):Int):=h';omega⟩ ?_;rintro i e w2 ⟨rfl,hi,D7⟩;refine aQ O (aH h1 O O O O inferInstance (gK (j:=0) h1 (by exact ax Value.pointer O) O O O O (ay O ?_)));refine aB _ O (fun h2=>?_) (fun h2=>?_)
 ·refine bP O ?_;refine Cd.loop (α:=Nat) (fun z=> [(1,.pointer A1),(3,aiD (N:Int)),(4,aiD (i:Int)),(5,aiD ((z:Int) - 1))]) (fun z w'=>w'=w2∧z≤N+1∧∀a b:Int,a< (z:Int) - 1→qe R i a→nO n R i b→(0≤a→0≤b→a∈gl B b)→(jB R B i a b).length=2) (fun z=>N+1 - z) 0 ⟨O,O,O,O,ae⟩ ⟨O,aW _,fun a b h h'=>by
   have h:a< ((0:Nat):Int) - 1:=h;have:=(JR _ _).1 h';omega⟩ ?_
  rintro z e w3 ⟨rfl,hz,Cb⟩;obtain⟨a,ha⟩:∃a:Int,(z:Int) - 1=a:=⟨_,rfl⟩;rw [ha]at Cb⊢;refine bK O ?_;refine aB _ O (fun h3=>?_) (fun h3=>?_)
  ·have wm:=JR (i:Int) a;have Ro:∀a' b:Int,(a'=a→qe R i a→nO n R i b→(0≤a→0≤b→a∈gl B b)→(jB R B i a b).length=2)→a'< ((z+1:Nat):Int) - 1→qe R i a'→nO n R i b→(0≤a'→0≤b→a'∈gl B b)→(jB R B i a' b).length=2:=fun a' b h h' q1 q2 q3=>by
    by_cases ea:a'=a
    ·have h9:=h ea;rw [ea]at q1 q3⊢;exact h9 q1 q2 q3
    exact Cb a' b (by omega) q1 q2 q3
   refine C7 4 O ?_;refine lC (α:=Unit) (fun _=> [(1,.pointer A1),(3,aiD (N:Int)),(4,aiD (i:Int)),(5,aiD a),(41,.bool (decide (¬qe R i a)))]) (fun _ w'=>w'=w3) ?_ ?_
   ·refine aQ O (Ig O O O ?_);rw [Tl];refine ad O ?_;refine bY 28 O (fun p1=>?_) (fun p1=>?_)
    ·refine ai O O O O O (ai O O O O O (ai O O O O O (bM O O O O (bM O O O O (bM O O O O (bM O O O O (bM O O O O (bM O O O O (bM O O O O (bM O O O O (ai O O O O O ?_)))))))))));refine aF O (tQ ?_);exact⟨(),⟨O,O,O,O,ax Value.bool (IY (fun h=>p1 (by have:=wm.1 h;omega))),ae⟩,O⟩
    refine aa.g O O O (ad O (aa.g O O O (ad O (aa.g O O O (ad O ?_)))));refine bY 31 O (fun p2=>?_) (fun p2=>?_)
    ·refine aa.g O O O (aH h1 O O O O inferInstance (aa.g O O O (aM (j:=1) h1 (by exact ax Value.pointer O) O O O O ?_)));refine aa.g O O O (ad O (aa.g O O O ?_));refine aw hR.2 O O O (by omega) (by omega) (aa.g O O O (aT hR O (by omega) O O ?_));refine aa.g O O O (ad O (aa.g O O O (aa.sub O O O (by omega) (aa.g O O O (ad O (aa.g O O O (aF O (tQ ?_))))))));exact⟨(),⟨O,O,O,O,ax Value.bool (jo.2 ⟨fun h h'=>by have:=wm.1 h';omega,fun h h'=>h (wm.2 (.inr ⟨by omega,by omega,h'⟩))⟩),ae⟩,O⟩
    refine ai O O O O O (ai O O O O O (ai O O O O O (ai O O O O O (ai O O O O O (ai O O O O O (ai O O O O O (ai O O O O O (aa.g O O O (aF O (tQ ?_))))))))));exact⟨(),⟨O,O,O,O,ax Value.bool (F3 (wm.2 (.inl (by omega)))),ae⟩,O⟩
   rintro _ e w4 rfl;refine aB _ O (fun h4=>?_) (fun h4=>?_)
   ·refine av O (aa.add O O O (by omega) (aF O (tQ ?_)));exact⟨z+1,by show N+1 - (z+1)<N+1 - z;omega,⟨O,O,O,ax (Value.int .i64) (by show a+1=((z+1:Nat):Int) - 1;omega),ae⟩,O,by omega,fun a' b=>Ro a' b fun _ h=>absurd h h4⟩
   have Zw:qe R i a:=iP.1 h4;refine bP O ?_;refine Cd.loop (α:=Nat) (fun y=> [(1,.pointer A1),(3,aiD (N:Int)),(4,aiD (i:Int)),(5,aiD a),(6,aiD ((y:Int) - 1))]) (fun y w'=>w'=w4∧y≤N+1∧∀b:Int,b< (y:Int) - 1→nO n R i b→(0≤a→0≤b→a∈gl B b)→(jB R B i a b).length=2) (fun y=>N+1 - y) 0 ⟨O,O,O,O,O,ae⟩ ⟨O,aW _,fun b h h'=>by
    have h:b< ((0:Nat):Int) - 1:=h;have:=(JO _ _).1 h';omega⟩ ?_
   rintro y e w5 ⟨rfl,hy,uE⟩;obtain⟨b,hb⟩:∃b:Int,(y:Int) - 1=b:=⟨_,rfl⟩;rw [hb]at uE⊢;refine bK O ?_;refine aB _ O (fun h5=>?_) (fun h5=>?_)
   ·have DP:=JO (i:Int) b;have Rp:(nO n R i b→(0≤a→0≤b→a∈gl B b)→(jB R B i a b).length=2)→∀b':Int,b'< ((y+1:Nat):Int) - 1→nO n R i b'→(0≤a→0≤b'→a∈gl B b')→(jB R B i a b').length=2:=fun h b' h' q1 q2=>by
     by_cases eb:b'=b
     ·rw [eb]at q1 q2⊢;exact h q1 q2
     exact uE b' (by omega) q1 q2
    refine C7 4 O ?_;refine lC (α:=Unit) (fun _=> [(1,.pointer A1),(3,aiD (N:Int)),(4,aiD (i:Int)),(5,aiD a),(6,aiD b),(86,.bool (decide (¬(nO n R i b∧(0≤a→0≤b→a∈gl B b)))))]) (fun _ w'=>w'=w5) ?_ ?_
    ·refine aQ O (aH h1 O O O O inferInstance (gK (j:=0) h1 (by exact ax Value.pointer O) O O O O ?_));refine aa.sub O O O (by omega) (ad O ?_);refine Ig O O O ?_;rw [Tl];refine ad O ?_;refine bY 55 O (fun p1=>?_) (fun p1=>?_)
     ·refine ai O O O O O (ai O O O O O (ai O O O O O (bM O O O O (bM O O O O (bM O O O O (bM O O O O (bM O O O O (bM O O O O (bM O O O O (bM O O O O (ai O O O O O ?_)))))))))));refine ad O (ai O O O O O (ai O O O O O (ai O O O O O (bM O O O O (bM O O O O (ai O O O O O (ai O O O O O (bM O O O O (bM O O O O (bM O O O O (bM O O O O ?_)))))))))));refine bM O O O O (bM O O O O (bM O O O O (bM O O O O (ai O O O O O (aF O (tQ ?_))))));exact⟨(),⟨O,O,O,O,O,ax Value.bool (IY (fun h=>p1 (by have:=DP.1 h.1;omega))),ae⟩,O⟩
     refine aa.g O O O (ad O (aa.g O O O (ad O (aa.g O O O (ad O ?_)))));refine bY 58 O (fun p2=>?_) (fun p2=>?_)
     ·have yv:=hB.at_ (i:=b) (by omega) (by omega);have RO:=yv.1;have RM:=bW b (by omega) (by omega);refine aa.g O O O (aH h1 O O O O inferInstance (aa.g O O O (aM (j:=1) h1 (by exact ax Value.pointer O) O O O O ?_)));refine aa.g O O O (ad O (aa.g O O O ?_));refine aw hR.2 O O O (by omega) (by omega) (aa.g O O O (aT hR O (by omega) O O ?_));have hrib:=fu (b:Int) (by omega) (by omega);refine aa.g O O O (ad O (aa.g O O O (aa.add O O O (by omega) (aa.g O O O (ad O (aa.g O O O (ad O ?_)))))));refine bY 69 O (fun p3=>?_) (fun p3=>?_)
      ·refine ai O O O O O (ai O O O O O (ai O O O O O (bM O O O O (bM O O O O (ai O O O O O (ai O O O O O (bM O O O O (bM O O O O (bM O O O O (bM O O O O (bM O O O O ?_)))))))))));refine bM O O O O (bM O O O O (bM O O O O (ai O O O O O (aF O (tQ ?_)))));exact⟨(),⟨O,O,O,O,O,ax Value.bool (IY (fun h=>p3 (by have:=DP.1 h.1;omega))),ae⟩,O⟩
      have DQ:nO n R i b:=DP.2 (.inr ⟨by omega,by omega,by omega⟩);refine aa.g O O O (ad O (aa.g O O O (ad O (aa.g O O O (ad O ?_)))));refine bY 72 O (fun p4=>?_) (fun p4=>?_)
      ·refine aa.g O O O (ad O (aa.g O O O (ad O (aa.g O O O (ad O (aa.g O O O (ad O ?_)))))));refine bY 76 O (fun p5=>?_) (fun p5=>absurd p2 p5);refine aa.g O O O (aH h1 O O O O inferInstance (aa.g O O O (aM (j:=2) h1 (by exact ax Value.pointer O) O O O O ?_)));refine aa.g O O O (ad O (aa.g O O O ?_));refine aw hB.top.2 O O O (by omega) (by omega) (aa.g O O O (bQ hB.top O (by omega) O O ?_));refine aa.g O O O (ad O (aa.g O O O ?_));refine aa.call (zV _ _ _ (gl B b) a _ yv (by omega)) O O O ?_;rintro _ w6 ⟨rfl,rfl⟩;refine aa.g O O O ?_
       first | refine eC rfl rfl ?_ | refine aa.not rfl rfl ?_
       refine aa.g O O O (aF O (tQ ?_));exact⟨(),⟨O,O,O,O,O,ax Value.bool (jo.2 ⟨fun h h'=>h (h'.2 p4 p2),fun h h'=>h ⟨DQ,fun _ _=>h'⟩⟩),ae⟩,O⟩
      refine ai O O O O O (ai O O O O O (aa.g O O O (ad O (aa.g O O O (ad O (ai O O O O O (ai O O O O O (ai O O O O O (ai O O O O O (ai O O O O O (ai O O O O O ?_)))))))))));refine ai O O O O O (ai O O O O O (aa.g O O O (aF O (tQ ?_))));exact⟨(),⟨O,O,O,O,O,ax Value.bool (F3 ⟨DQ,fun h'=>absurd h' p4⟩),ae⟩,O⟩
     have DQ:nO n R i b:=DP.2 (.inl (by omega));refine ai O O O O O (ai O O O O O (ai O O O O O (ai O O O O O (ai O O O O O (ai O O O O O (ai O O O O O (ai O O O O O (aa.g O O O (ad O (aa.g O O O (ad O ?_)))))))))));refine aa.g O O O (ad O (aa.g O O O (ad O ?_)));refine bY 72 O (fun p4=>?_) (fun p4=>?_)
     ·refine aa.g O O O (ad O (aa.g O O O (ad O (aa.g O O O (ad O (aa.g O O O (ad O ?_)))))));refine bY 76 O (fun p5=>absurd p5 p2) (fun p5=>?_);refine ai O O O O O (ai O O O O O (ai O O O O O (ai O O O O O (ai O O O O O (ai O O O O O (ai O O O O O (ai O O O O O (aa.g O O O (aF O (tQ ?_))))))))));exact⟨(),⟨O,O,O,O,O,ax Value.bool (F3 ⟨DQ,fun _ h'=>absurd h' p2⟩),ae⟩,O⟩
     refine ai O O O O O (ai O O O O O (aa.g O O O (ad O (aa.g O O O (ad O (ai O O O O O (ai O O O O O (ai O O O O O (ai O O O O O (ai O O O O O (ai O O O O O ?_)))))))))));refine ai O O O O O (ai O O O O O (aa.g O O O (aF O (tQ ?_))));exact⟨(),⟨O,O,O,O,O,ax Value.bool (F3 ⟨DQ,fun h'=>absurd h' p4⟩),ae⟩,O⟩
    rintro _ e w6 rfl;refine aB _ O (fun h6=>?_) (fun h6=>?_)
    ·refine av O (aa.add O O O (by omega) (aF O (tQ ?_)));exact⟨y+1,by show N+1 - (y+1)<N+1 - y;omega,⟨O,O,O,O,ax (Value.int .i64) (by show b+1=((y+1:Nat):Int) - 1;omega),ae⟩,O,by omega,Rp fun q1 q2=>absurd ⟨q1,q2⟩ h6⟩
    have de:=iP.1 h6;have Qz:=DP.1 de.1;refine bP O ?_;refine Cd.loop (α:=Nat) (fun m=> [(1,.pointer A1),(3,aiD (N:Int)),(4,aiD (i:Int)),(5,aiD a),(6,aiD b),(7,aiD ((yF R B i a b m:Nat):Int)),(8,aiD (m:Int))]) (fun m w'=>w'=w6∧m≤N) (fun m=>N - m) 0 ⟨O,O,O,O,O,O,O,ae⟩ ⟨O,aW _⟩ ?_;rintro m e w7 ⟨rfl,hm⟩;have jK:=adF R B i a b m;have qq:=adG R B i a b m;refine bK O ?_;refine aB _ O (fun h7=>?_) (fun h7=>?_)
    ·have hmN:m<N:=by omega
     have RQ:=hB.at_ (i:=(m:Int)) (by omega) (by omega);have hrnm:=RQ.1;have hrlm:=bW (m:Int) (by omega) (by omega);refine C7 3 O ?_;refine lC (α:=Unit) (fun _=> [(1,.pointer A1),(3,aiD (N:Int)),(4,aiD (i:Int)),(5,aiD a),(6,aiD b),(7,aiD ((yF R B i a b m:Nat):Int)),(8,aiD (m:Int)),(124,.bool (decide (gi R (m:Int)=(i:Int)∧(a<0∨a∈gl B (m:Int))∧(b<0∨(m:Int)∈gl B b))))]) (fun _ w'=>w'=w7) ?_ ?_
     ·refine aQ O (aH h1 O O O O inferInstance (aM (j:=1) h1 (by exact ax Value.pointer O) O O O O (ad O (aw hR.2 O O O (by omega) (by omega) (aT hR O (by omega) O O (ad O ?_))))));refine bY 99 O (fun p1=>?_) (fun p1=>?_)
      ·refine aa.g O O O (ad O (aa.g O O O (ad O (aa.g O O O (ad O ?_)))));refine bY 102 O (fun p2=>?_) (fun p2=>?_)
       ·refine ai O O O O O (ai O O O O O (ai O O O O O (ai O O O O O (ai O O O O O (ai O O O O O (ai O O O O O (aa.g O O O (ad O (aa.g O O O (ad O (aa.g O O O ?_)))))))))));refine ad O (aa.g O O O (ad O ?_));refine bY 115 O (fun p4=>?_) (fun p4=>?_)
        ·refine ai O O O O O (ai O O O O O (ai O O O O O (ai O O O O O (ai O O O O O (ai O O O O O (ai O O O O O (aa.g O O O (aF O (tQ ?_)))))))));exact⟨(),⟨O,O,O,O,O,O,O,ax Value.bool (dX ⟨p1,.inl p2,.inl p4⟩).symm,ae⟩,O⟩
        have yv:=hB.at_ (i:=b) (by omega) (by omega);have RO:=yv.1;have RM:=bW b (by omega) (by omega);refine aa.g O O O (aH h1 O O O O inferInstance (aa.g O O O (aM (j:=2) h1 (by exact ax Value.pointer O) O O O O ?_)));refine aa.g O O O (ad O (aa.g O O O ?_));refine aw hB.top.2 O O O (by omega) (by omega) (aa.g O O O (bQ hB.top O (by omega) O O ?_));refine aa.g O O O (ad O (aa.g O O O ?_));refine aa.call (zV _ _ _ (gl B b) (m:Int) _ yv (by omega)) O O O ?_;rintro _ w9 ⟨rfl,rfl⟩;refine aa.g O O O (aF O (tQ ?_));exact⟨(),⟨O,O,O,O,O,O,O,ax Value.bool (jo.2 ⟨fun h=> ⟨p1,.inl p2,.inr h⟩,fun h=>h.2.2.resolve_left p4⟩),ae⟩,O⟩
       refine aa.g O O O (aH h1 O O O O inferInstance (aa.g O O O (aM (j:=2) h1 (by exact ax Value.pointer O) O O O O ?_)));refine aa.g O O O (ad O (aa.g O O O ?_));refine aw hB.top.2 O O O (by omega) (by omega) (aa.g O O O (bQ hB.top O (by omega) O O ?_));refine aa.g O O O (ad O (aa.g O O O ?_));refine aa.call (zV _ _ _ (gl B (m:Int)) a _ RQ (by omega)) O O O ?_;rintro _ w8 ⟨rfl,rfl⟩;refine aa.g O O O (ad O ?_);refine bY 112 O (fun p3=>?_) (fun p3=>?_)
       ·refine aa.g O O O (ad O (aa.g O O O (ad O (aa.g O O O (ad O ?_)))));refine bY 115 O (fun p4=>?_) (fun p4=>?_)
        ·refine ai O O O O O (ai O O O O O (ai O O O O O (ai O O O O O (ai O O O O O (ai O O O O O (ai O O O O O (aa.g O O O (aF O (tQ ?_)))))))));exact⟨(),⟨O,O,O,O,O,O,O,ax Value.bool (dX ⟨p1,.inr p3,.inl p4⟩).symm,ae⟩,O⟩
        have yv:=hB.at_ (i:=b) (by omega) (by omega);have RO:=yv.1;have RM:=bW b (by omega) (by omega);refine aa.g O O O (aH h1 O O O O inferInstance (aa.g O O O (aM (j:=2) h1 (by exact ax Value.pointer O) O O O O ?_)));refine aa.g O O O (ad O (aa.g O O O ?_));refine aw hB.top.2 O O O (by omega) (by omega) (aa.g O O O (bQ hB.top O (by omega) O O ?_));refine aa.g O O O (ad O (aa.g O O O ?_));refine aa.call (zV _ _ _ (gl B b) (m:Int) _ yv (by omega)) O O O ?_;rintro _ w9 ⟨rfl,rfl⟩;refine aa.g O O O (aF O (tQ ?_));exact⟨(),⟨O,O,O,O,O,O,O,ax Value.bool (jo.2 ⟨fun h=> ⟨p1,.inr p3,.inr h⟩,fun h=>h.2.2.resolve_left p4⟩),ae⟩,O⟩
       refine ai O O O O O (ai O O O O O (ai O O O O O (bM O O O O (bM O O O O (bM O O O O (bM O O O O (bM O O O O (bM O O O O (bM O O O O (ai O O O O O (aF O ?_)))))))))));refine tQ ?_;exact⟨(),⟨O,O,O,O,O,O,O,ax Value.bool (cd (fun h=>h.2.1.elim p2 p3)).symm,ae⟩,O⟩
      refine ai O O O O O (ai O O O O O (ai O O O O O (bM O O O O (bM O O O O (bM O O O O (bM O O O O (bM O O O O (bM O O O O (bM O O O O (ai O O O O O (ad O ?_)))))))))));refine ai O O O O O (ai O O O O O (ai O O O O O (bM O O O O (bM O O O O (bM O O O O (bM O O O O (bM O O O O (bM O O O O (bM O O O O (ai O O O O O (aF O ?_)))))))))));refine tQ ?_;exact⟨(),⟨O,O,O,O,O,O,O,ax Value.bool (cd (fun h=>p1 h.1)).symm,ae⟩,O⟩
     rintro _ e w8 rfl;refine aB _ O (fun h8=>?_) (fun h8=>?_)
     ·rw [aj h8]at qq;refine av O (aa.add O O O (by omega) (ad O (aa.add O O O (by omega) (aF O (tQ ?_)))));exact⟨m+1,by show N - (m+1)<N - m;omega,⟨O,O,O,O,O,ax (fun m:Nat=>Value.int .i64 (m:Int)) qq.symm,O,ae⟩,O,by omega⟩
     rw [ag h8]at qq;refine av O (aa.add O O O (by omega) (aF O (tQ ?_)));exact⟨m+1,by show N - (m+1)<N - m;omega,⟨O,O,O,O,O,ax (fun m:Nat=>Value.int .i64 (m:Int)) qq.symm,O,ae⟩,O,by omega⟩
    have G5:m=N:=by omega
    rw [G5]at jK⊢;rw [mq]at jK⊢;refine aY O (aZ (nN O ?_));refine aB _ O (fun h8=>?_) (fun h8=>?_)
    ·refine av O ?_;refine vc [(i:Int),a,b] ao O O (by decide) (by decide) O O ?_;intro A9 w9 aS;refine bh O (eZ (eE (eZ (eE (eZ (eE ?_))))));refine gB O ?_;exact⟨A9,3,3,O,⟨fun h=>absurd h (by decide),fun h=>absurd (h (i:Int) a b (by omega) h2 Zw de.1 de.2) (by omega)⟩,aS.none⟩
    refine av O (aa.add O O O (by omega) (aF O (tQ ?_)));exact⟨y+1,by show N+1 - (y+1)<N+1 - y;omega,⟨O,O,O,O,ax (Value.int .i64) (by show b+1=((y+1:Nat):Int) - 1;omega),ae⟩,O,by omega,Rp fun _ _=>by omega⟩
   refine aY O (aZ (cL O (aa.add O O O (by omega) (aF O (tQ ?_)))));exact⟨z+1,by show N+1 - (z+1)<N+1 - z;omega,⟨O,O,O,ax (Value.int .i64) (by show a+1=((z+1:Nat):Int) - 1;omega),ae⟩,O,by omega,fun a' b'=>Ro a' b' fun _ _ q2 q3=>uE b' (by have:=(JO _ _).1 q2;omega) q2 q3⟩
  refine aY O (aZ (cL O (aa.add O O O (by omega) (aF O (tQ ?_)))));exact⟨i+1,by show n.toNat - (i+1)<n.toNat - i;omega,⟨O,O,O,ae⟩,O,by show((i+1:Nat):Int)≤n;omega,fun i' a' b' h0 h' q1 q2 q3=>by
   by_cases ei:i'=(i:Int)
   ·subst ei;exact Cb a' b' (by have:=(JR _ _).1 q1;omega) q1 q2 q3
   exact D7 i' a' b' h0 (by have h':i'< ((i+1:Nat):Int):=h';omega) q1 q2 q3⟩
 refine aY O (aZ (cL O ?_));refine jl ao O ?_;intro A9 w9 aS;refine bh O (gB O ?_);exact⟨A9,0,0,O,⟨fun _ i' a b h0 h' q1 q2 q3=>D7 i' a b h0 (by omega) q1 q2 q3,fun _=>O⟩,aS.none⟩
theorem acX(n:Nat)(A D:aiC)(cA cD:Nat)(R:List Int)(rs:List aG)(B:aiB)(Af:aiC)(cf:Nat)(eS:List aG)(w:World)(hR:bS w A R.length R)(hB:br w D B.length rs B)(hP:fO n R B)(hF:br w Af (au n R B).length eS (au n R B))(QN:(au n R B).length≤400):
 aA prog 84 [.agg #[aiD n,.slice A R.length cA,.slice D B.length cD],.slice Af (au n R B).length cf] w (fun v w'=>∃b:Bool,v= .bool b∧(b=true↔xN n R B)∧St w w' []):=by
 have hn:=hP.n1;have kR:=hP.nn;have yh:=OW (n:=n) (R:=R) (B:=B) (by omega) kR;have rv:(au n R B).Nodup:=(BH n R B).nodup;refine bk func84 O ntmps84 O (cK O) (aQ O (kK (St.refl w) O O ?_));intro A1 w1 ao;have h1:Rd w1 A1 3 (fun j=> [Value.int .i64 n,.slice A R.length cA,.slice D B.length cD].getD j undef):=ao.rd 0 O;have hR:=ao.eY hR;have hB:=ao.bF hB;have hF:=ao.bF hF;have ao:=ao.none;refine ad O (aa.len O O (ad O ?_));refine bY 8 O (fun h2=>?_) (fun h2=>?_)
 ·have bt:au n R B≠[]:=fun h=>by rw [h]at h2;exact absurd h2 (by decide)
  refine aa.g O O O (aa.bq 2 h1 O O O ?_);refine aa.g O O O (ad O (aa.g O O O ?_));refine aa.call (acY n A D cA R.length B.length cD Af (au n R B).length cf eS (au n R B) _ hF kR (fun l hl=> ⟨by have:=(yh l hl).1;omega,(yh l hl).2⟩) (by omega)) O O O ?_;rintro _ w2 ⟨b,rfl,hb,ak⟩;have h1:=Rd.below h1 ak.below;have hR:=ak.eY hR;have hB:=ak.bF hB;have hF:=ak.bF hF;have ao:=ao.later ak.below;have yq:b=true↔FC n R B:=hb;clear ak hb;rw [Dl b];refine ad O ?_;refine bY 13 O (fun h3=>?_) (fun h3=>?_)
  ·refine aa.g O O O (aa.bq 2 h1 O O O (aa.g O O O (aa.call (acR n A D cA cD R rs B _ hR hB hP) O O O ?_)));rintro _ w3 ⟨A9,n9,c9,rfl,hd,ak⟩;have hF:=ak.bF hF;have ao:=ao.later ak.below;clear ak;refine aa.g O O O (aa.len O O (aa.g O O O (ad O ?_)));refine bY 19 O (fun h4=>?_) (fun h4=>?_)
   ·refine aa.g O O O (ad O (aa.g O O O ?_));refine aa.call (acV Af (au n R B).length cf eS (au n R B) n _ hF (by omega) QN (by omega) (fun x hx=> (yh x hx).1) rv) O O O ?_;rintro _ w4 ⟨A8,n8,c8,rfl,hc,ak⟩;have ao:=ao.later ak.below;refine aa.g O O O (aa.len O O (aa.g O O O (bh O ?_)));refine cM O ?_;exact⟨_,O,by rw [jT];exact⟨fun h=> ⟨bt,yq.1 h3,hd.1 (by omega),hc.1 (by omega)⟩,fun h=>by have:=hc.2 h.2.2.2;omega⟩,ao⟩
   refine ai O O O O O (ai O O O O O (ai O O O O O (ai O O O O O (bh O ?_))));refine cM O ?_;exact⟨false,rfl,⟨fun h=> (by cases h),fun h=>absurd (hd.2 h.2.2.1) (by omega)⟩,ao⟩
  refine ai O O O O O (ai O O O O O (ai O O O O O (ai O O O O O (ad O (ai O O O O O (ai O O O O O (ai O O O O O (ai O O O O O (bh O ?_)))))))));refine cM O ?_;exact⟨false,rfl,⟨fun h=> (by cases h),fun h=>absurd (yq.2 h.2.1) h3⟩,ao⟩
 refine ai O O O O O (ai O O O O O (ai O O O O O (ad O (ai O O O O O (ai O O O O O (ai O O O O O (ai O O O O O (ad O (ai O O O O O (ai O O O O O (ai O O O O O ?_)))))))))));refine ai O O O O O (bh O ?_);refine cM O ?_;exact⟨false,rfl,⟨fun h=> (by cases h),fun h=>absurd (List.length_pos_iff.2 h.1) (by omega)⟩,ao⟩
theorem acW(A:aiC)(n c:Nat)(rs:List aG)(M:aiB)(w:World)(hR:br w A n rs M)(KP:n≤9223372036854775807)(hM:bL M):
 aA prog 96 [.agg #[.slice A n c]] w (fun v w'=>∃b:Bool,v= .tuple #[.bool b,aiD (mX M)]∧(b=true↔s5 M)∧St w w' []):=by
 have hl:=hR.len;have h5:=hM.1;have h4:=hM.2.1;have tw:=iR M M.length;have ob:=tm M;have qw:=hR.pE (k:=0) (by omega) (by omega);refine bk func96 O ntmps96 O (sQ O) (aQ O (iI (St.refl w) O O ?_));intro A1 w1 ao;refine ad O (aa.bq 0 (ao.rd 0 O) O O O (aa.call (af8 A n c rs M _ (ao.bF hR) KP hM) O O O ?_));rintro _ w2 (⟨qn,rfl,ak⟩ | ⟨qn,AR,cR,AD,cD,cH,rfl,ju,ak⟩)
 ·have ar:=ao.later ak.below;refine ad O (jC ar O ?_);intro A4 w3 az;refine bG 3 0 az O O O O O O O ?_;intro w4 aJ;refine ay O (Cd.gj O (dN O (yQ O O ?_)));unfold mX;rw [aj (.inl qn)];exact⟨false,rfl,⟨fun h=> (by cases h),fun h=>by have:=h.1;omega⟩,aJ.none⟩
 have hP:=mE hM qn;have ar:=ao.call ak;clear ak ao;refine ad O (jC ar O ?_);intro A4 w3 az;refine bG 3 0 az O O O O O O O ?_;intro w4 aJ;have aJ:St w w4 (bj A4 (M.length:Int) AR (aD M M.length) cR AD (aD M M.length) cD::(ah 2 AR (aD M M.length) cR (aO M M.length)::((aE 32 2 AD (aD M M.length) cD cH (bn M)++ [])++ [Bx 24 1 A1 [.slice A n c]]))):=aJ;have oh:bS w4 AR (aO M M.length).length (aO M M.length):=by rw [tw];exact aJ.bc 1 O
 have fq:br w4 AD (bn M).length cH (bn M):=by
  rw [ob];have h9:=aJ.sub (show(aE 32 2 AD (aD M M.length) cD cH (bn M)).Sublist _ from List.Sublist.cons _ (List.Sublist.cons _ (by rw [fg];exact rX _ _)));exact h9.rN ob
 have kq:=aJ.rd 0 O;have cN:Rd w4 A1 1 (fun j=> [Value.slice A n c].getD j undef):=by
  have h9:=aJ.sub (show List.Sublist [Bx 24 1 A1 [.slice A n c]] _ from List.Sublist.cons _ (List.Sublist.cons _ (gR _ _)));exact h9.rd 0 O
 refine ay O (Cd.eV O (av O (aa.bq 2 kq O O O ?_)));refine aa.call (SG M.length AR AD cR cD (aO M M.length) cH (bn M) _ oh fq hP) O (by rw [tw,ob];rfl) O ?_;rintro _ w5 ⟨Af,cf,E5,rfl,wU,ak⟩;have aK:=aJ.later ak.below;have DU:=oh.later ak.below;have DJ:=fq.later ak.below;have lI:=Rd.below kq ak.below;have cN:=Rd.below cN ak.below;have zp:=aK.bF hR;refine ad O ?_
 first | refine eC rfl rfl ?_ | refine aa.not rfl rfl ?_
 refine ay O ?_;refine aB _ O (fun h6=>?_) (fun h6=>?_)
 ·have mP:mX M=3:=by unfold mX;rw [if_pos (.inr (by show 400< (au M.length (aO M M.length) (bn M)).length;omega))]
  refine dN O (yQ O O ?_);rw [mP];refine⟨false,rfl,⟨fun h=> (by cases h),fun h=>?_⟩,aK.none⟩;have h9:(au M.length (aO M M.length) (bn M)).length=(gl M 0).length:=h.2.1;omega
 have gy:(au M.length (aO M M.length) (bn M)).length≤400:=iP.1 h6;have mP:mX M=0:=by unfold mX;rw [if_neg (by show ¬(500<aD M M.length∨400< (au M.length (aO M M.length) (bn M)).length);omega)]
 have Ca:cap (au M.length (aO M M.length) (bn M))=au M.length (aO M M.length) (bn M):=xW (by omega);rw [Ca]at wU ak⊢;rw [mP];have JK:br w5 Af (au M.length (aO M M.length) (bn M)).length E5 (au M.length (aO M M.length) (bn M)):=by
  rw [fg]at ak;exact ak.rN O
 refine av O (aa.len O O ?_);refine aa.bq 0 cN O O O (aa.call (vA A n c rs M _ zp (by omega)) O O O ?_);rintro _ w6 ⟨rfl,pU⟩;have aR:=aK.later pU.below;have jX:=DU.later pU.below;have qj:=DJ.later pU.below;have oj:=Rd.below lI pU.below;have Zm:=JK.later pU.below;refine ad O ?_;refine bY 28 O (fun h7=>?_) (fun h7=>?_)
 ·refine aa.g O O O (aa.bq 2 oj O O O ?_);refine aa.g O O O (ad O (aa.g O O O ?_));refine aa.call (acX M.length AR AD cR cD (aO M M.length) cH (bn M) Af cf E5 _ jX qj hP Zm gy) O (by rw [tw,ob];rfl) O ?_;rintro _ w7 ⟨b,rfl,hb,lu⟩;refine bh O (yQ O O ?_);refine⟨b,O,hb.trans ⟨fun h=> ⟨qn,?_,h⟩,fun h=>h.2.2⟩,(aR.later lu.below).none⟩;show(au M.length (aO M M.length) (bn M)).length=_;omega
 refine ai O O O O O (ai O O O O O (ai O O O O O (bh O ?_)));refine yQ O O ?_;refine⟨false,rfl,⟨fun h=> (by cases h),fun h=>?_⟩,aR.none⟩;have h9:(au M.length (aO M M.length) (bn M)).length=(gl M 0).length:=h.2.1;omega
end Go.Proofs.YtopgfgdgfjddpaaGreatDoor.Vc
namespace Go.Proofs.YtopgfgdgfjddpaaGreatDoor.Vc.TS
open Go.RowKit Tryz
variable{i b j m:Nat}{w0 w:World}{t:TypeId}{ks:List Ck}
def gs(l:List TV)(i:Nat):TV:=l.getD i MN
theorem sg{l:List TV}(h:i<l.length):gs l i=l[i]:=by simp [gs,cJ,h]
def SR(κ:TV→Int)(l:List TV)(a b:Nat):Prop:=∀i j,a≤i→i<j→j<b→κ (gs l i)≤κ (gs l j)
theorem SR.one(κ:TV→Int)(l:List TV){a:Nat}(h:b≤a+1):SR κ l a b:=fun i j h1 h2 h3=>by omega
theorem SR.sub{κ:TV→Int}{l:List TV}{a a' b':Nat}(h:SR κ l a b)(h1:a≤a')(h2:b'≤b):SR κ l a' b':=fun i j hi gN hj=>h i j (by omega) gN (by omega)
theorem SR.le{κ:TV→Int}{l:List TV}{a:Nat}(h:SR κ l a b)(h1:a≤i)(h2:i≤j)(h3:j<b):κ (gs l i)≤κ (gs l j):=by
 rcases Nat.lt_or_eq_of_le h2 with h2 | rfl
 ·exact h i j h1 h2 h3
 exact Int.le_refl _
theorem SR.congr{κ:TV→Int}{l l':List TV}{a:Nat}(h:SR κ l a b)(he:∀i,a≤i→i<b→gs l' i=gs l i):SR κ l' a b:=fun i j hi gN hj=>by
 rw [he i hi (by omega),he j (by omega) hj];exact h i j hi gN hj
structure RP(l l':List TV)(a b:Nat):Prop where
 perm:l'.Perm l
 out:∀i,i<a∨b≤i→gs l' i=gs l i
theorem RP.refl(l:List TV)(a b:Nat):RP l l a b:=⟨List.Perm.refl _,fun _ _=>rfl⟩
theorem RP.len{l l':List TV}{a:Nat}(h:RP l l' a b):l'.length=l.length:=h.perm.length_eq
theorem RP.trans{l l' Sv:List TV}{a a' b':Nat}(h:RP l l' a b)(h':RP l' Sv a' b')(h1:a≤a')(h2:b'≤b):RP l Sv a b:=
 ⟨h'.perm.trans h.perm,fun i hi=>by rw [h'.out i (by omega),h.out i hi]⟩
theorem YT{l l':List TV}{a:Nat}(hl:l'.length=l.length)(h:∀i,i<a→gs l' i=gs l i):l'.take a=l.take a:=by
 refine ji (by simp [hl]) fun i h1 h2=>?_
 rw [pf]at h1 h2;rw [List.getElem_take,List.getElem_take,←sg (by omega),←sg (by omega)];exact h i (by omega)
theorem YS{l l':List TV}(hl:l'.length=l.length)(h:∀i,b≤i→gs l' i=gs l i):l'.drop b=l.drop b:=by
 refine ji (by simp [hl]) fun i h1 h2=>?_
 rw [List.length_drop]at h1 h2;rw [List.getElem_drop,List.getElem_drop,←sg (by omega),←sg (by omega)];exact h _ (by omega)
theorem Un{α:Type}(l:List α){a:Nat}(h:a≤b):l=l.take a++ ((l.drop a).take (b - a)++l.drop b):=by
 have h1:l.drop b=(l.drop a).drop (b - a):=by rw [List.drop_drop];congr 1;omega
 rw [h1,List.take_append_drop,List.take_append_drop]
theorem RP.mid{l l':List TV}{a:Nat}(h:RP l l' a b)(dO:a≤b):((l'.drop a).take (b - a)).Perm ((l.drop a).take (b - a)):=by
 have h1:=h.perm;rw [Un l' dO,Un l dO,YT h.len (fun i hi=>h.out i (.inl hi)),YS h.len (fun i hi=>h.out i (.inr hi))]at h1;exact(List.perm_append_right_iff _).1 ((List.perm_append_left_iff _).1 h1)
theorem RP.from{l l':List TV}{a:Nat}(h:RP l l' a b)(hb:b≤l.length)(h1:a≤i)(h2:i<b):∃j,a≤j∧j<b∧gs l' i=gs l j:=by
 have hl:=h.len;have hm:gs l' i∈(l'.drop a).take (b - a):=by
  rw [gJ];refine⟨i - a,by rw [pf,List.length_drop];omega,?_⟩;rw [List.getElem_take,List.getElem_drop,←sg (by omega)]
  congr 1;omega
 obtain⟨k,hk,e⟩:=gJ.1 ((h.mid (by omega)).mem_iff.1 hm);rw [pf,List.length_drop]at hk;refine⟨a+k,by omega,by omega,?_⟩;rw [←e,List.getElem_take,List.getElem_drop,←sg (by omega)]
def swp(l:List TV)(i j:Nat):List TV:=(l.set i (gs l j)).set j (gs l i)
theorem Uv(l:List TV)(i j:Nat):(swp l i j).length=l.length:=by simp [swp]
theorem Pu{l:List TV}(h:i<l.length)(v:TV)(x:Nat):gs (l.set i v) x=if x=i then v else gs l x:=by
 simp only [gs,cJ,oI]
 by_cases e:i=x
 ·subst e;simp [h]
 have:¬x=i:=fun h=>e h.symm
 simp [e,this]
theorem DD{l:List TV}(hi:i<l.length)(hj:j<l.length)(x:Nat):gs (swp l i j) x=if x=j then gs l i else if x=i then gs l j else gs l x:=by
 rw [swp,Pu (by simpa using hj),Pu hi]
theorem MI{l:List TV}{a:Nat}(hi:i<l.length)(hj:j<l.length)(h1:a≤i)(h2:i<b)(h3:a≤j)(h4:j<b):RP l (swp l i j) a b:=by
 refine⟨?_,fun x hx=>?_⟩
 ·unfold swp;rw [sg hi,sg hj];exact List.set_set_perm hi hj
 rw [DD hi hj,ag (by omega),ag (by omega)]
structure vP(κ:TV→Int)(l:List TV)(a i j:Nat):Prop where
 low:a≤j
 high:j≤i
 rest:∀x y,a≤x→x<y→y≤i→x≠j→y≠j→κ (gs l x)≤κ (gs l y)
 own:∀y,j<y→y≤i→κ (gs l j)≤κ (gs l y)
theorem vP.start{κ:TV→Int}{l:List TV}{a:Nat}(h:SR κ l a i)(hi:a≤i):vP κ l a i i:=
 ⟨hi,a8 _,fun x y h1 h2 h3 h4 h5=>h x y h1 h2 (by omega),fun y h1 h2=>by omega⟩
theorem vP.stop{κ:TV→Int}{l:List TV}{a:Nat}(h:vP κ l a i j)(hs:j=a∨κ (gs l (j - 1))≤κ (gs l j)):SR κ l a (i+1):=fun x y h1 h2 h3=>by
 by_cases e:x=j
 ·subst e;exact h.own y h2 (by omega)
 by_cases e2:y=j
 ·subst e2;rcases hs with hs | hs
  ·omega
  by_cases e3:x=y - 1
  ·subst e3;exact hs
  exact Int.le_trans (h.rest x (y - 1) h1 (by omega) (by have:=h.high;omega) e (by omega)) hs
 exact h.rest x y h1 h2 (by omega) e e2
theorem vP.next{κ:TV→Int}{l:List TV}{a:Nat}(h:vP κ l a i j)(hj:a<j)(hi:i<l.length)(hs:κ (gs l j)<κ (gs l (j - 1))):vP κ (swp l j (j - 1)) a i (j - 1):=by
 have hh:=h.high;have g:=DD (l:=l) (i:=j) (j:=j - 1) (by omega) (by omega);refine⟨by omega,by omega,fun x y h1 h2 h3 h4 h5=>?_,fun y h1 h2=>?_⟩
 ·rw [g x,g y,ag h4,ag h5]
  by_cases e:x=j
  ·subst e;rw [aj rfl,ag (by omega)];exact h.rest (x - 1) y (by omega) (by omega) h3 (by omega) (by omega)
  rw [ag e]
  by_cases e2:y=j
  ·subst e2;rw [aj rfl];exact h.rest x (y - 1) h1 (by omega) (by omega) e (by omega)
  rw [ag e2];exact h.rest x y h1 h2 h3 e e2
 rw [g (j - 1),g y,aj rfl,ag (by omega)]
 by_cases e2:y=j
 ·subst e2;rw [aj rfl];omega
 rw [ag e2];exact h.own y (by omega) h2
theorem X3{α:Type}(P X M Y S:List α)(k:Nat)(h:X.length=Y.length)(hk:k<X.length)(x y:α)(hx:X[k]?=some x)(hy:Y[k]?=some y):((P++ (Y.take k++X.drop k)++M++ (X.take k++Y.drop k)++S).set (P.length+k) y).set (P.length+X.length+M.length+k) x=P++ (Y.take (k+1)++X.drop (k+1))++M++ (X.take (k+1)++Y.drop (k+1))++S:=by
 obtain⟨fM,rfl⟩:=ia.1 hx;obtain⟨gk,rfl⟩:=ia.1 hy;rw [List.drop_eq_getElem_cons fM,List.drop_eq_getElem_cons gk,rY fM,rY gk];have e1:(P++ (Y.take k++X[k]::X.drop (k+1))++M++ (X.take k++Y[k]::Y.drop (k+1))++S)=(P++Y.take k)++X[k]::(X.drop (k+1)++M++ (X.take k++Y[k]::Y.drop (k+1))++S):=by simp only [fR,List.cons_append]
 have l1:P.length+k=(P++Y.take k).length:=by simp;omega
 rw [e1,l1,List.set_append_right _ _ (a8 _),Nat.sub_self,List.set_cons_zero];have e2:(P++Y.take k)++Y[k]::(X.drop (k+1)++M++ (X.take k++Y[k]::Y.drop (k+1))++S)=(P++Y.take k++Y[k]::(X.drop (k+1)++M++X.take k))++Y[k]::(Y.drop (k+1)++S):=by simp only [fR,List.cons_append]
 have l2:P.length+X.length+M.length+k=(P++Y.take k++Y[k]::(X.drop (k+1)++M++X.take k)).length:=by simp;omega
 rw [e2,l2,List.set_append_right _ _ (a8 _),Nat.sub_self,List.set_cons_zero];simp only [fR,List.cons_append,List.nil_append]
structure ve(l l1:List TV)(s m e:Nat):Prop where
 out:∀i,i<s∨e≤i→gs l1 i=gs l i
 left:∀i,s≤i→i<s+ (e - m)→gs l1 i=gs l (i+ (m - s))
 right:∀i,s+ (e - m)≤i→i<e→gs l1 i=gs l (i - (e - m))
theorem ve.same(l:List TV){s e:Nat}(h:s=m∨m=e)(h1:s≤m)(h2:m≤e):ve l l s m e:=
 ⟨fun _ _=>rfl,fun i h3 h4=>by congr 1;omega,fun i h3 h4=>by congr 1;omega⟩
theorem ve.of(P X Y S:List TV):ve (P++ (X++ (Y++S))) (P++ (Y++ (X++S))) P.length (P.length+X.length) (P.length+X.length+Y.length):=by
 have key:∀(P X Y S:List TV) (i:Nat),gs (P++ (X++ (Y++S))) i=if i<P.length then gs P i else if i<P.length+X.length then gs X (i - P.length)else if i<P.length+X.length+Y.length then gs Y (i - P.length - X.length)else gs S (i - P.length - X.length - Y.length):=fun P X Y S i=>by
  simp only [gs,cJ]
  by_cases h1:i<P.length
  ·rw [aj h1,lQ h1]
  rw [ag h1,jQ (by omega)]
  by_cases h2:i<P.length+X.length
  ·rw [aj h2,lQ (by omega)]
  rw [ag h2,jQ (by omega)]
  by_cases h3:i<P.length+X.length+Y.length
  ·rw [aj h3,lQ (by omega)]
  rw [ag h3,jQ (by omega)]
 refine⟨fun i h=>?_,fun i h1 h2=>?_,fun i h1 h2=>?_⟩
 ·rw [key,key];rcases h with h | h
  ·rw [aj h,aj h]
  rw [ag (by omega),ag (by omega),ag (by omega),ag (by omega),ag (by omega),ag (by omega)]
  congr 1;omega
 ·rw [key,key,ag (by omega),aj (by omega),ag (by omega),ag (by omega),aj (by omega)]
  congr 1;omega
 rw [key,key,ag (by omega),ag (by omega),aj (by omega),ag (by omega),aj (by omega)]
 congr 1;omega
theorem afK{α:Type}(P X Y S:List α):(P++ (Y++ (X++S))).Perm (P++ (X++ (Y++S))):=by
 refine(List.perm_append_left_iff _).2 ?_;rw [←fR,←fR];exact(List.perm_append_right_iff _).2 lh
def o6(a m b:Nat):Nat:=if(a+b) / 2<m then(a+b) / 2+m - b else a
def eP(a m b:Nat):Nat:=if(a+b) / 2<m then(a+b) / 2 else m
structure M5(κ:TV→Int)(l:List TV)(a m b s:Nat):Prop where
 lo:o6 a m b≤s
 hi:s≤eP a m b
 left:∀c,o6 a m b≤c→c<s→κ (gs l c)≤κ (gs l ((a+b) / 2+m - 1 - c))
 right:∀c,s≤c→c<eP a m b→κ (gs l ((a+b) / 2+m - 1 - c))<κ (gs l c)
theorem XD{κ:TV→Int}{l l1:List TV}{a s:Nat}(h1:a+1<m)(h2:m+1<b)(hA:SR κ l a m)(hB:SR κ l m b)(hc:M5 κ l a m b s)(hr:ve l l1 s m ((a+b) / 2+m - s)):(a≤s∧s≤(a+b) / 2∧s≤m∧(a+b) / 2≤(a+b) / 2+m - s∧m≤(a+b) / 2+m - s∧(a+b) / 2+m - s≤b)∧SR κ l1 a s∧SR κ l1 s ((a+b) / 2)∧SR κ l1 ((a+b) / 2) ((a+b) / 2+m - s)∧SR κ l1 ((a+b) / 2+m - s) b∧∀i j,a≤i→i< (a+b) / 2→(a+b) / 2≤j→j<b→κ (gs l1 i)≤κ (gs l1 j):=by
 obtain⟨c1,c2,c3,c4⟩:=hc;generalize mq:(a+b) / 2=mid at*;unfold o6 at c1 c3;unfold eP at c2 c4;rw [mq]at c1 c2 c3 c4;have pS:2*mid≤a+b∧a+b≤2*mid+1:=by omega
 have b1:a≤s:=by split at c1<;>omega
 have b2:s≤mid:=by split at c2<;>omega
 have b3:s≤m:=by split at c2<;>omega
 have b4:mid+m - s≤b:=by split at c1<;>omega
 generalize he:mid+m - s=e at*;obtain⟨r1,r2,r3⟩:=hr;have Mm:∀i,s≤i→i<mid→gs l1 i=gs l (i+ (m - s)):=fun i h h'=>r2 i h (by omega)
 have HJ:∀i,mid≤i→i<e→gs l1 i=gs l (i - (mid - s)):=fun i h h'=>by rw [r3 i (by omega) h'];congr 1;omega
 refine⟨⟨b1,b2,b3,by omega,by omega,b4⟩,?_,?_,?_,?_,?_⟩
 ·exact(hA.sub (a8 _) b3).congr fun i _ h=>r1 i (.inl h)
 ·intro i j hi gN hj;rw [Mm i hi (by omega),Mm j (by omega) hj];exact hB _ _ (by omega) (by omega) (by omega)
 ·intro i j hi gN hj;rw [HJ i hi (by omega),HJ j (by omega) hj];exact hA _ _ (by omega) (by omega) (by omega)
 ·exact(hB.sub (by omega) (a8 _)).congr fun i h _=>r1 i (.inr h)
 intro i j hi rm hj oX
 by_cases x1:i<s
 ·rw [r1 i (.inl x1)]
  by_cases x2:j<e
  ·rw [HJ j hj x2];exact hA.le hi (by omega) (by omega)
  rw [r1 j (.inr (by omega))];have k1:κ (gs l i)≤κ (gs l (s - 1)):=hA.le hi (by omega) (by omega);have k2:κ (gs l e)≤κ (gs l j):=hB.le (by omega) (by omega) oX;have k3:=c3 (s - 1) (by split<;>omega) (by omega);rw [show mid+m - 1 - (s - 1)=e by omega]at k3;omega
 rw [Mm i (by omega) rm]
 by_cases x2:j<e
 ·rw [HJ j hj x2];have k1:κ (gs l (i+ (m - s)))≤κ (gs l (e - 1)):=hB.le (by omega) (by omega) (by omega);have k2:κ (gs l s)≤κ (gs l (j - (mid - s))):=hA.le (by omega) (by omega) (by omega);have k3:=c4 s (a8 _) (by split<;>omega);rw [show mid+m - 1 - s=e - 1 by omega]at k3;omega
 rw [r1 j (.inr (by omega))];exact hB.le (by omega) (by omega) oX
theorem XF{κ:TV→Int}{l1 l2 l3:List TV}{a mid:Nat}(dO:a≤mid)(Em:mid≤b)(hb:b≤l1.length)(h:∀i j,a≤i→i<mid→mid≤j→j<b→κ (gs l1 i)≤κ (gs l1 j))(p2:RP l1 l2 a mid)(s2:SR κ l2 a mid)(p3:RP l2 l3 mid b)(s3:SR κ l3 mid b):SR κ l3 a b:=fun i j hi gN hj=>by
 have vt:=p2.len
 by_cases x1:j<mid
 ·rw [p3.out i (.inl (by omega)),p3.out j (.inl x1)];exact s2 i j hi gN x1
 by_cases x2:i<mid
 ·rw [p3.out i (.inl x2)];obtain⟨i',h1,h2,e1⟩:=p2.from (by omega) hi x2;obtain⟨j',h3,h4,e2⟩:=p3.from (by omega) (by omega) hj;rw [e1,e2,p2.out j' (.inr h3)];exact h i' j' h1 h2 h3 h4
 exact s3 i j (by omega) gN hj
structure vR(l c:List TV)(a k:Nat):Prop where
 len:c.length=l.length
 out:∀x,x<a∨k<x→gs c x=gs l x
 vE:∀x,a≤x→x<k→gs c x=gs l (x+1)
 own:gs c k=gs l a
theorem vR.start(l:List TV)(a:Nat):vR l l a a:=⟨rfl,fun _ _=>rfl,fun x h h'=>by omega,rfl⟩
theorem vR.next{l c:List TV}{a k:Nat}(h:vR l c a k)(ha:a≤k)(hk:k+1<l.length):vR l (swp c k (k+1)) a (k+1):=by
 have hl:=h.len;have g:=DD (l:=c) (i:=k) (j:=k+1) (by omega) (by omega);refine⟨by rw [Uv,hl],fun x hx=>?_,fun x h1 h2=>?_,?_⟩
 ·rw [g,ag (by omega),ag (by omega),h.out x (by omega)]
 ·rw [g,ag (by omega)]
  by_cases e:x=k
  ·subst e;rw [aj rfl,h.out _ (by omega)]
  rw [ag e,h.vE x h1 (by omega)]
 rw [g,aj rfl,h.own]
theorem vR.sorted{κ:TV→Int}{l c:List TV}{a:Nat}(h:vR l c a (i - 1))(hs:SR κ l (a+1) b)(h1:a+1≤i)(h2:i≤b)(hl:∀x,a+1≤x→x<i→κ (gs l x)≤κ (gs l a))(hr:∀x,i≤x→x<b→κ (gs l a)≤κ (gs l x)):SR κ c a b:=fun x y hx ka hy=>by
 by_cases e:x=i - 1
 ·rw [e,h.own,h.out y (.inr (by omega))];exact hr y (by omega) hy
 by_cases e2:y=i - 1
 ·rw [e2,h.own,h.vE x hx (by omega)];exact hl _ (by omega) (by omega)
 by_cases x1:y<i - 1
 ·rw [h.vE x hx (by omega),h.vE y (by omega) x1];exact hs _ _ (by omega) (by omega) (by omega)
 rw [h.out y (.inr (by omega))]
 by_cases x2:x<i - 1
 ·rw [h.vE x hx x2];exact hs _ _ (by omega) (by omega) hy
 rw [h.out x (.inr (by omega))];exact hs _ _ (by omega) ka hy
structure vQ(l c:List TV)(m k:Nat):Prop where
 len:c.length=l.length
 out:∀x,x<k∨m<x→gs c x=gs l x
 vE:∀x,k<x→x≤m→gs c x=gs l (x - 1)
 own:gs c k=gs l m
theorem vQ.start(l:List TV)(m:Nat):vQ l l m m:=⟨rfl,fun _ _=>rfl,fun x h h'=>by omega,rfl⟩
theorem vQ.next{l c:List TV}{k:Nat}(h:vQ l c m k)(hk:0<k)(Q9:k≤m)(hm:m<l.length):vQ l (swp c k (k - 1)) m (k - 1):=by
 have hl:=h.len;have g:=DD (l:=c) (i:=k) (j:=k - 1) (by omega) (by omega);refine⟨by rw [Uv,hl],fun x hx=>?_,fun x h1 h2=>?_,?_⟩
 ·rw [g,ag (by omega),ag (by omega),h.out x (by omega)]
 ·rw [g,ag (by omega)]
  by_cases e:x=k
  ·subst e;rw [aj rfl,h.out _ (by omega)]
  rw [ag e,h.vE x (by omega) h2]
 rw [g,aj rfl,h.own]
theorem vQ.sorted{κ:TV→Int}{l c:List TV}{a:Nat}(h:vQ l c m i)(hs:SR κ l a m)(h1:a≤i)(h2:i≤m)(hl:∀x,a≤x→x<i→κ (gs l x)≤κ (gs l m))(hr:∀x,i≤x→x<m→κ (gs l m)≤κ (gs l x)):SR κ c a (m+1):=fun x y hx ka hy=>by
 by_cases e:x=i
 ·rw [e,h.own,h.vE y (by omega) (by omega)];exact hr _ (by omega) (by omega)
 by_cases e2:y=i
 ·rw [e2,h.own,h.out x (.inl (by omega))];exact hl x hx (by omega)
 by_cases x1:y<i
 ·rw [h.out x (.inl (by omega)),h.out y (.inl x1)];exact hs _ _ hx ka (by omega)
 rw [h.vE y (by omega) (by omega)]
 by_cases x2:x<i
 ·rw [h.out x (.inl x2)];exact hs _ _ hx (by omega) (by omega)
 rw [h.vE x (by omega) (by omega)];exact hs _ _ (by omega) (by omega) (by omega)
def xD(κ:TV→Int)(l:List TV)(n s lo hi:Nat):Prop:=∀k,lo≤k*s→k*s<hi→SR κ l (k*s) (min (k*s+s) n)
theorem xD.done{κ:TV→Int}{l:List TV}{n s:Nat}(h:xD κ l n s 0 n)(hs:n≤s):SR κ l 0 n:=by
 by_cases h0:n=0
 ·subst h0;exact SR.one _ _ (by omega)
 have:=h 0 (by omega) (by omega);rw [Nat.zero_mul,Nat.zero_add,Nat.min_eq_right hs]at this;exact this
theorem S7{s k:Nat}(h:j*s<k*s):j*s+s≤k*s:=by
 have yj:j<k:=Nat.lt_of_mul_lt_mul_right h;have:=Nat.mul_le_mul_right s (Nat.succ_le_of_lt yj);rw [Nat.succ_mul]at this;exact this
def mu(x:TV):Int:=x.f*1000+x.g
def kT(x:TV):Int:=x.r*1000000+mu x
def pH(x:TV):Prop:=(0≤x.f∧x.f<1000)∧0≤x.g∧x.g<1000
def qT(x y:TV):Int:=if x.r<y.r then -1 else if y.r<x.r then 1 else 0
theorem pH.ix{x:TV}(h:pH x):0≤mu x∧mu x<1000000:=by unfold pH at h;unfold mu;omega
theorem Oc{x y:TV}(hx:pH x)(hy:pH y)(h:mu y<mu x):qT x y<0↔kT x<kT y:=by
 have h1:=hx.ix;have h2:=hy.ix;unfold qT kT
 by_cases e:x.r<y.r
 ·rw [aj e];omega
 rw [ag e]
 by_cases e2:y.r<x.r
 ·rw [aj e2];omega
 rw [ag e2];omega
theorem Sk(x:Int)(w:World):aA prog 221 [aiD x] w (fun v w'=>v= .bool false∧w'=w):=by
 refine bk func221 O ntmps221 O (cK O) (H8 O (cM O ?_));exact⟨by rw [cd (fun h=>h O)],O⟩
theorem W9(x y:Int)(w:World):aA prog 176 [aiD x,aiD y] w (fun v w'=>v=aiD (if x<y then -1 else if y<x then 1 else 0)∧w'=w):=by
 refine bk func176 O ntmps176 O (cK O) (aQ O (aa.call (Sk x w) O O O ?_));rintro _ w1 ⟨rfl,rfl⟩;refine ad O (aa.call (Sk y _) O O O ?_);rintro _ w1 ⟨rfl,rfl⟩;refine ay O (Cd.eV O (bP O (Cd.eV O (bP O ?_))));refine aB _ O (fun h=>?_) (fun h=>?_)
 ·refine dN O (gP O ?_);exact⟨by rw [aj h],O⟩
 refine bP O ?_;refine aB _ O (fun h2=>?_) (fun h2=>?_)
 ·refine dN O (gP O ?_);exact⟨by rw [ag h,aj h2],O⟩
 refine dN O (gP O ?_);exact⟨by rw [ag h,ag h2],O⟩
theorem FX(x y:TV)(w:World):
 aA prog 175 [x.v,y.v] w (fun v w'=>v=aiD (qT x y)∧St w w' []):=by
 refine bk func175 O ntmps175 O (cK O) (aQ O (kK (St.refl w) O O ?_));intro A2 w1 ao;refine kK ao O O ?_;intro A3 w2 ar;refine ad O (aH (ar.rd 1 O) O O O O inferInstance (gK (ar.rd 1 O) O O O O O (aH (ar.rd 0 O) O O O O inferInstance (gK (ar.rd 0 O) O O O O O (aa.call (W9 x.r y.r _) O O O ?_)))));rintro _ w3 ⟨rfl,rfl⟩;refine bh O (gP O ?_);exact⟨O,ar.none⟩
theorem Pt{ds:List TV}(h:∀s∈ds,pH s)(i:Nat):pH (gs ds i):=by
 by_cases hi:i<ds.length
 ·rw [sg hi];exact h _ (dQ _)
 have:gs ds i=MN:=by simp [gs,cJ,oH (Nat.le_of_not_lt hi)]
 rw [this];exact⟨⟨Int.le_refl _,by decide⟩,Int.le_refl _,by decide⟩
theorem RP.cap{ds lU:List TV}{a:Nat}(h:RP ds lU a b)(hc:∀s∈ds,pH s):∀s∈lU,pH s:=fun s hs=>hc s (h.perm.mem_iff.1 hs)
theorem yV{w':World}{A:aiC}{n c:Nat}{L:List TV}{x s:TV}{i:Int}(e:i.toNat=j)(g:s=x)(h:St w0 w' (dM t A n c (L.set i.toNat s)::ks)):St w0 w' (dM t A n c (L.set j x)::ks):=by
 subst g;rw [←e];exact h
theorem MH{A:aiC}{n c:Nat}{P X M Y S:List TV}{G:FuncId}(a b m:Nat)(ha:P.length=a)(hb:P.length+X.length+M.length=b)(hm:X.length=m)(ka:X.length=Y.length)(hn:n≤4000000000000)(hS:St w0 w (dM t A n c (P++X++M++Y++S)::ks)):
 aA prog 286 [.slice A n c,aiD (a:Int),aiD (b:Int),aiD (m:Int),.func (.func G) #[] #[]] w (fun v w'=>v= .tuple #[]∧St w0 w' (dM t A n c (P++Y++M++X++S)::ks)):=by
 have uI:(P++X++M++Y++S).length=n:=(hS.ke 0 O).1;simp only [dm]at uI;refine bk func286 O ntmps286 O (Al O) (bK O ?_);refine Cd.loop (α:=Nat) (fun k=> [(0,.slice A n c),(1,aiD (a:Int)),(2,aiD (b:Int)),(3,aiD (m:Int)),(4,.func (.func G) #[] #[]),(10,aiD (k:Int))]) (fun k w'=>k≤m∧St w0 w' (dM t A n c (P++ (Y.take k++X.drop k)++M++ (X.take k++Y.drop k)++S)::ks)) (fun k=>m - k) 0 ⟨O,O,O,O,O,O,ae⟩ ⟨aW _,by simpa using hS⟩ ?_;rintro k e w1 ⟨hk,ao⟩;refine bK O ?_;refine aB _ O (fun h1=>?_) (fun h1=>?_)
 ·have oZ:k<X.length:=by omega
  have KG:k<Y.length:=by omega
  have hR:=ao.ke 0 O;have ga:tg (P++ (Y.take k++X.drop k)++M++ (X.take k++Y.drop k)++S) ((a:Int)+ (k:Int))=X[k]:=by
   have e1:((a:Int)+ (k:Int)).toNat=P.length+k:=by omega
   unfold tg;rw [e1,cJ];simp only [fR];rw [jQ (by omega),jQ (by simp;omega),lQ (by simp;omega)];simp [Nat.min_eq_left (Nat.le_of_lt KG),oZ]
  have gb:tg (P++ (Y.take k++X.drop k)++M++ (X.take k++Y.drop k)++S) ((b:Int)+ (k:Int))=Y[k]:=by
   have e1:((b:Int)+ (k:Int)).toNat=P.length+X.length+M.length+k:=by omega
   unfold tg;rw [e1,cJ];simp only [fR];rw [jQ (by omega),jQ (by simp;omega),jQ (by simp;omega),jQ (by simp;omega),jQ (by simp;omega),lQ (by simp;omega)];have e2:P.length+X.length+M.length+k - P.length - (List.take k Y).length - (List.drop k X).length - M.length - (List.take k X).length=0:=by simp;omega
   rw [e2];simp [KG]
  have hx:=X3 P X M Y S k ka oZ X[k] Y[k] (by simp [oZ]) (by simp [KG]);have ea:((a:Int)+ (k:Int)).toNat=P.length+k:=by omega
  have eb:((b:Int)+ (k:Int)).toNat=P.length+X.length+M.length+k:=by omega
  generalize hL:P++ (Y.take k++X.drop k)++M++ (X.take k++Y.drop k)++S=L at*;have sq:L.length=n:=hR.1;refine bP O ?_;refine iU [21,23] [yS (A) (n) (c),yI ((a:Int)),yI ((k:Int)),yI (((a:Int))+ ((k:Int))),yS (A) (n) (c),yI ((b:Int)),yI ((k:Int)),yI (((b:Int))+ ((k:Int))),yS (A) (n) (c),yI ((b:Int)),yI ((k:Int)),yI (((b:Int))+ ((k:Int))),yP (aq (A) ((((b:Int))+ ((k:Int))).toNat*3)),.ex ((tg (L) (((b:Int))+ ((k:Int)))).v),yS (A) (n) (c),yI ((a:Int)),yI ((k:Int)),yI (((a:Int))+ ((k:Int))),yP (aq (A) ((((a:Int))+ ((k:Int))).toNat*3)),.ex ((tg (L) (((a:Int))+ ((k:Int)))).v),yP (aq (A) ((((a:Int))+ ((k:Int))).toNat*3)),.pr (fun _ w'=>St w0 w' (dM t A n c (L.set (P.length+k) Y[k])::ks)),yP (aq (A) ((((b:Int))+ ((k:Int))).toNat*3)),.pr (fun _ w'=>St w0 w' (dM t A n c ((L.set (P.length+k) Y[k]).set (P.length+X.length+M.length+k) X[k])::ks))] (by kernel_rfl) (by kernel_rfl) (ly (ly (ly (ly (ly (ly (ly (ly (ly (ly (ly (ly (ly (ly (ly (ly (ly (ly (ly (ly (ly (bV.2 ⟨Ye.b9 (fun v w w' h hb=>h.later hb),(ly (bV.2 ⟨Ye.b9 (fun v w w' h hb=>h.later hb),(fun _ h=>by cases h)⟩))⟩)))))))))))))))))))))) ?_ ?_
  ·refine⟨ba O,ba O,ba O,aP fun _ _=>aa.add O O O (by omega) (aX O O),ba O,ba O,ba O,aP fun _ _=>aa.add O O O (by omega) (aX O O),ba O,ba O,ba O,aP fun _ _=>aa.add O O O (by omega) (aX O O),cP fun _ _ hb _ _ _=>kL (hR.later hb) O O O (by omega) (by omega) (aX O O),cP fun _ _ hb _ _ _=>oN (hR.later hb) O (by omega) O (aX O O),ba O,ba O,ba O,aP fun _ _=>aa.add O O O (by omega) (aX O O),cP fun _ _ hb _ _ _=>kL (hR.later hb) O O O (by omega) (by omega) (aX O O),cP fun _ _ hb _ _ _=>oN (hR.later hb) O (by omega) O (aX O O),cP fun _ _ hb _ _ _=>kL (hR.later hb) O O O (by omega) (by omega) (aX O O),?_,?_,?_,ae⟩
   ·refine iY fun e1 w1 hb hp aL hq=>?_
    refine xM 0 (ao.later hb) O O O (by omega) ?_;intro w6 aR;refine aa.n ?_;exact eA.st O (yV ea gb aR)
   ·refine dP 1 fun e1 w1 hp aL hq=>?_
    have dH:=hp 21 _ _ (by kernel_rfl) O O (by kernel_rfl);have jX:=dH.ke 0 O;refine kL (jX) O O O (by omega) (by omega) (aa.n (fh O (by exact O)))
   refine oQ 1 fun e1 w1 hp aL hq=>?_
   have dH:=hp 21 _ _ (by kernel_rfl) O O (by kernel_rfl);have jX:=dH.ke 0 O;refine xM 0 dH O O O (by omega) ?_;intro w7 aV;refine aa.n ?_;exact eA.st O (yV eb ga aV)
  intro u w5 _ hu _ _;have aK:=hu 23 _ O (by kernel_rfl);rw [hx]at aK;refine iq O (aa.add O O O (by omega) (aF O (tQ ?_)));exact⟨k+1,by show m - (k+1)<m - k;omega,⟨O,O,O,O,O,O,ae⟩,by omega,aK⟩
 have Q9:k=m:=by omega
 subst Q9;rw [lS (by omega),lS (by omega),List.drop_eq_nil_of_le (by omega),List.drop_eq_nil_of_le (by omega),fg,fg]at ao;refine aY O (aZ (C8 O ?_));refine xo ?_;exact⟨O,ao⟩
theorem afL{A:aiC}{n c:Nat}{P X Y S:List TV}{G:FuncId}(a m b:Nat)(ha:P.length=a)(hm:P.length+X.length=m)(hb:P.length+X.length+Y.length=b)(sM:0<X.length)(Lr:0<Y.length)(hn:n≤4000000000000)(hS:St w0 w (dM t A n c (P++ (X++ (Y++S)))::ks)):
 aA prog 275 [.slice A n c,aiD (a:Int),aiD (m:Int),aiD (b:Int),.func (.func G) #[] #[]] w (fun v w'=>v= .tuple #[]∧St w0 w' (dM t A n c (P++ (Y++ (X++S)))::ks)):=by
 have uI:(P++ (X++ (Y++S))).length=n:=(hS.ke 0 O).1;simp only [dm]at uI;generalize hT:P++ (Y++ (X++S))=T;refine bk func275 O ntmps275 O (Al O) ?_;refine aQ O (aa.sub O O O (by omega) (ad O (aa.sub O O O (by omega) (ay O ?_))));refine Cd.loop (α:=List TV×List TV×List TV×List TV) (fun z=> [(0,.slice A n c),(2,aiD (m:Int)),(4,.func (.func G) #[] #[]),(10,aiD (z.2.1.length:Int)),(11,aiD (z.2.2.1.length:Int))]) (fun z w'=>z.1.length+z.2.1.length=m∧0<z.2.1.length∧0<z.2.2.1.length∧z.1++ (z.2.2.1++ (z.2.1++z.2.2.2))=T∧z.1.length+ (z.2.1.length+ (z.2.2.1.length+z.2.2.2.length))=n∧St w0 w' (dM t A n c (z.1++ (z.2.1++ (z.2.2.1++z.2.2.2)))::ks)) (fun z=>z.2.1.length+z.2.2.1.length) (P,X,Y,S)
  ⟨rfl,rfl,rfl,by show Value.int .i64 ((m:Int) - (a:Int))=aiD (X.length:Int);congr 1;omega,by show Value.int .i64 ((b:Int) - (m:Int))=aiD (Y.length:Int);congr 1;omega,ae⟩ ⟨hm,sM,Lr,hT,by show P.length+ (X.length+ (Y.length+S.length))=n;omega,hS⟩ ?_
 rintro⟨P',X',Y',S'⟩ e w1 ⟨ku,jf,l8,gV,uH,ao⟩;dsimp only at ku jf l8 gV uH ao⊢;refine bK O ?_;refine aB _ O (fun h1=>?_) (fun h1=>?_)
 ·refine bP O ?_;refine aB _ O (fun h2=>?_) (fun h2=>?_)
  ·have hj:Y'.length≤X'.length:=by omega
   obtain⟨X1,X2,rfl,tA⟩:∃X1 X2,X'=X1++X2∧X1.length=Y'.length:=⟨X'.take Y'.length,X'.drop Y'.length,(List.take_append_drop _ _).symm,by simp;omega⟩;have hlen:(X1++X2).length=X1.length+X2.length:=dm;simp only [dm]at ku jf uH h1 h2;refine av O (aa.sub O O O (by omega) (ad O ?_));refine aa.call (MH (P:=P') (X:=X1) (M:=X2) (Y:=Y') (S:=S') P'.length m Y'.length O (by omega) tA tA hn (by simpa using ao)) O (by show [Value.slice A n c,aiD ((m:Int) - ((X1++X2).length:Int)),aiD (m:Int),aiD (Y'.length:Int),.func (.func G) #[] #[]]=_;congr 3;simp;omega) O ?_;rintro _ w2 ⟨rfl,ar⟩;refine ad O (aa.sub O O O (by omega) (aF O (tQ ?_)));exact⟨(P'++Y',X2,X1,S'),by show X2.length+X1.length< (X1++X2).length+Y'.length;simp;omega,⟨O,O,O,by show Value.int .i64 _=aiD _;congr 1;simp;omega,ax (fun k:Nat=>Value.int .i64 (k:Int)) tA.symm,ae⟩,by simp;omega,by show 0<X2.length;omega,by show 0<X1.length;omega,by show(P'++Y')++ (X1++ (X2++S'))=T;rw [←gV];simp,by show(P'++Y').length+_=n;simp;omega,by simpa using ar⟩
  have hj:X'.length<Y'.length:=by omega
  obtain⟨Y1,Y2,rfl,DZ⟩:∃Y1 Y2,Y'=Y1++Y2∧Y2.length=X'.length:=⟨Y'.take (Y'.length - X'.length),Y'.drop (Y'.length - X'.length),(List.take_append_drop _ _).symm,by simp;omega⟩;have hlen:(Y1++Y2).length=Y1.length+Y2.length:=dm;simp only [dm]at l8 uH h1 h2 hj;refine av O (aa.sub O O O (by omega) (ad O (aa.add O O O (by omega) (ad O (aa.sub O O O (by omega) (ad O ?_))))));refine aa.call (MH (P:=P') (X:=X') (M:=Y1) (Y:=Y2) (S:=S') P'.length (m+Y1.length) X'.length O (by omega) O DZ.symm hn (by simpa using ao)) O (by show [Value.slice A n c,aiD ((m:Int) - (X'.length:Int)),aiD ((m:Int)+ ((Y1++Y2).length:Int) - (X'.length:Int)),aiD (X'.length:Int),.func (.func G) #[] #[]]=_;rw [show(m:Int)+ ((Y1++Y2).length:Int) - (X'.length:Int)=((m+Y1.length:Nat):Int) by omega,show(m:Int) - (X'.length:Int)=(P'.length:Int) by omega]) O ?_;rintro _ w2 ⟨rfl,ar⟩;refine ad O (aa.sub O O O (by omega) (aF O (tQ ?_)));exact⟨(P',Y2,Y1,X'++S'),by show Y2.length+Y1.length<X'.length+ (Y1++Y2).length;simp;omega,⟨O,O,O,ax (fun k:Nat=>Value.int .i64 (k:Int)) DZ.symm,by show Value.int .i64 _=aiD _;congr 1;simp;omega,ae⟩,by show P'.length+Y2.length=m;omega,by show 0<Y2.length;omega,by show 0<Y1.length;omega,by show P'++ (Y1++ (Y2++ (X'++S')))=T;rw [←gV];simp,by show P'.length+ (Y2.length+ (Y1.length+ (X'++S').length))=n;simp;omega,by simpa using ar⟩
 have ka:X'.length=Y'.length:=by omega
 refine aY O (aZ (cL O (aa.sub O O O (by omega) (ad O ?_))));refine aa.call (MH (P:=P') (X:=X') (M:=[]) (Y:=Y') (S:=S') P'.length m X'.length O (by simpa using ku) O ka hn (by simpa using ao)) O (by show [Value.slice A n c,aiD ((m:Int) - (X'.length:Int)),aiD (m:Int),aiD (X'.length:Int),.func (.func G) #[] #[]]=_;congr 3;omega) O ?_;rintro _ w2 ⟨rfl,ar⟩;refine aF O (xo ?_);exact⟨O,by rw [←gV];simpa using ar⟩
theorem Se{A:aiC}{n c:Nat}{ds:List TV}(a b:Nat)(hb:b≤n)(ha:a≤n)(hn:n≤4000000000000)(hc:∀s∈ds,pH s)(wP:∀x y,a≤x→x<y→y<b→mu (gs ds x)<mu (gs ds y))(hS:St w0 w (dM t A n c ds::ks)):
 aA prog 253 [.slice A n c,aiD (a:Int),aiD (b:Int),.func (.func 175) #[] #[]] w (fun v w'=>v= .tuple #[]∧∃lU,RP ds lU a b∧SR kT lU a b∧St w0 w' (dM t A n c lU::ks)):=by
 have uI:ds.length=n:=(hS.ke 0 O).1;refine bk func253 O ntmps253 O (Al O) ?_;refine aQ O (aa.add O O O (by omega) (ay O ?_));refine Cd.loop (α:=Nat×List TV) (fun z=> [(0,.slice A n c),(1,aiD (a:Int)),(2,aiD (b:Int)),(3,.func (.func 175) #[] #[]),(8,aiD (z.1:Int))]) (fun z w'=>a+1≤z.1∧RP ds z.2 a b∧SR kT z.2 a z.1∧(∀x,z.1≤x→gs z.2 x=gs ds x)∧(∀x y,a≤x→x<z.1→z.1≤y→y<b→mu (gs z.2 x)<mu (gs ds y))∧St w0 w' (dM t A n c z.2::ks)) (fun z=>b - z.1) (a+1,ds) ⟨O,O,O,O,O,ae⟩ ⟨a8 _,RP.refl _ _ _,SR.one _ _ (a8 _),fun _ _=>O,fun x y h1 h2 h3 h4=>wP x y h1 (Nat.lt_of_lt_of_le h2 h3) h4,hS⟩ ?_;rintro⟨i,cur⟩ e w1 ⟨hi,hp,hs,aL,Rf,ao⟩;dsimp only at hi hp hs aL Rf ao⊢;refine bK O ?_;refine aB _ O (fun h1=>?_) (fun h1=>?_)
 ·refine bP O ?_;refine Cd.loop (α:=Nat×List TV) (fun z=> [(0,.slice A n c),(1,aiD (a:Int)),(2,aiD (b:Int)),(3,.func (.func 175) #[] #[]),(8,aiD (i:Int)),(9,aiD (z.1:Int))]) (fun z w'=>RP ds z.2 a b∧vP kT z.2 a i z.1∧gs z.2 z.1=gs ds i∧(∀x,i<x→gs z.2 x=gs ds x)∧(∀x y,a≤x→x≤i→x≠z.1→i≤y→y<b→mu (gs z.2 x)<mu (gs ds y))∧St w0 w' (dM t A n c z.2::ks)) (fun z=>z.1) (i,cur) ⟨O,O,O,O,O,O,ae⟩ ⟨hp,vP.start hs (by omega),aL i (a8 _),fun x hx=>aL x (Nat.le_of_lt hx),fun x y h3 h4 h5 h6 h7=>Rf x y h3 (by have h5:x≠i:=h5;omega) h6 h7,ao⟩ ?_;rintro⟨j,cu⟩ e w2 ⟨gX,hI,jJ,Hn,Cl,ar⟩;dsimp only at gX hI jJ Hn Cl ar⊢;have cg:cu.length=n:=(ar.ke 0 O).1;have hR:=ar.ke 0 O;have Rb:=hI.low;have hhigh:=hI.high;have kr:=Pt (gX.cap hc);refine bK O ?_
  by_cases Qt:a<j
  ·
   have ej:((j:Int) - 1).toNat=j - 1:=by omega
   have g1:tg cu (j:Int)=gs cu j:=O;have g2:tg cu ((j:Int) - 1)=gs cu (j - 1):=by unfold tg gs;rw [ej]
   refine dI [xI ((j:Int)),xI ((a:Int)),xB (decide (((a:Int))< ((j:Int)))),xB (true),.ex (.func (.func 175) #[] #[]),xS (A) (n) (c),xI ((j:Int)),xP (aq (A) (((j:Int)).toNat*3)),.ex ((tg (cu) ((j:Int))).v),xS (A) (n) (c),xI ((j:Int)),xI (((j:Int)) - ((1:Int))),xP (aq (A) ((((j:Int)) - ((1:Int))).toNat*3)),.ex ((tg (cu) (((j:Int)) - ((1:Int)))).v),xI (qT (gs cu j) (gs cu (j - 1))),xB (decide ((qT (gs cu j) (gs cu (j - 1)))< ((0:Int)))),xB (decide ((qT (gs cu j) (gs cu (j - 1)))< ((0:Int))))] (by kernel_rfl) (by kernel_rfl) O (eg O) ?_ ?_
   ·refine⟨Dr O,Dr O,Dr O,fun _ _ _ _ _=>Dk O (by exact ax Value.bool (dX (by omega))),Dr O,Dr O,Dr O,fun _ _ hb _ _=>aa.g O O O (kL (hR.later hb) O O O (by omega) (by omega) (Az O)),fun _ _ hb _ _=>aa.g O O O (oN (hR.later hb) O (by omega) O (Az O)),Dr O,Dr O,fun _ _ _ _ _=>aa.g O O O (aa.sub O O O (by omega) (Az O)),fun _ _ hb _ _=>aa.g O O O (kL (hR.later hb) O O O (by omega) (by omega) (Az O)),fun _ _ hb _ _=>aa.g O O O (oN (hR.later hb) O (by omega) O (Az O)),?_,Dr O,Dr O,ae⟩;intro e1 w1 hb hp aL;refine aa.g O O O ?_;refine aa.call (FX (gs cu j) (gs cu (j - 1)) _) O (by rw [←g2];rfl) O ?_;rintro _ w9 ⟨rfl,kH⟩;refine aa.n ?_;exact gD.dn kH.below (by exact O)
   intro u w3 gu _;have az:=ar.later gu;have sB:=Oc (kr j) (kr (j - 1)) (by rw [jJ];exact Cl (j - 1) i (by omega) (by omega) (by omega) (a8 _) (by omega));refine eo O ?_;refine aB _ O (fun h2=>?_) (fun h2=>?_)
   ·have gG:=az.ke 0 O;have fY:kT (gs cu j)<kT (gs cu (j - 1)):=sB.1 h2;have Ju:=fun x=>DD (l:=cu) (i:=j) (j:=j - 1) (by omega) (by omega) x
    refine bP O ?_;refine iU [15,17] [yS (A) (n) (c),yI ((j:Int)),yS (A) (n) (c),yI ((j:Int)),yI (((j:Int)) - ((1:Int))),yS (A) (n) (c),yI ((j:Int)),yI (((j:Int)) - ((1:Int))),yP (aq (A) ((((j:Int)) - ((1:Int))).toNat*3)),.ex ((tg (cu) (((j:Int)) - ((1:Int)))).v),yS (A) (n) (c),yI ((j:Int)),yP (aq (A) (((j:Int)).toNat*3)),.ex ((tg (cu) ((j:Int))).v),yP (aq (A) (((j:Int)).toNat*3)),.pr (fun _ w'=>St w0 w' (dM t A n c (cu.set j (gs cu (j - 1)))::ks)),yP (aq (A) ((((j:Int)) - ((1:Int))).toNat*3)),.pr (fun _ w'=>St w0 w' (dM t A n c (swp cu j (j - 1))::ks))] (by kernel_rfl) (by kernel_rfl) (ly (ly (ly (ly (ly (ly (ly (ly (ly (ly (ly (ly (ly (ly (ly (bV.2 ⟨Ye.b9 (fun v w w' h hb=>h.later hb),(ly (bV.2 ⟨Ye.b9 (fun v w w' h hb=>h.later hb),(fun _ h=>by cases h)⟩))⟩)))))))))))))))) ?_ ?_
    ·refine⟨ba O,ba O,ba O,ba O,aP fun _ _=>aa.sub O O O (by omega) (aX O O),ba O,ba O,aP fun _ _=>aa.sub O O O (by omega) (aX O O),cP fun _ _ hb _ _ _=>kL (gG.later hb) O O O (by omega) (by omega) (aX O O),cP fun _ _ hb _ _ _=>oN (gG.later hb) O (by omega) O (aX O O),ba O,ba O,cP fun _ _ hb _ _ _=>kL (gG.later hb) O O O (by omega) (by omega) (aX O O),cP fun _ _ hb _ _ _=>oN (gG.later hb) O (by omega) O (aX O O),cP fun _ _ hb _ _ _=>kL (gG.later hb) O O O (by omega) (by omega) (aX O O),?_,?_,?_,ae⟩
     ·refine iY fun e1 w1 hb hp aL hq=>?_
      refine xM 0 (az.later hb) O O O (by omega) ?_;intro w6 aR;refine aa.n ?_;exact eA.st O (yV (i:=(j:Int)) O g2 aR)
     ·refine dP 1 fun e1 w1 hp aL hq=>?_
      have dH:=hp 15 _ _ (by kernel_rfl) O O (by kernel_rfl);have jX:=dH.ke 0 O;have Ei:(cu.set j (gs cu (j - 1))).length=n:=by rw [iw];exact cg
      refine kL (jX) O O O (by omega) (by omega) (aa.n (fh O (by exact O)))
     refine oQ 1 fun e1 w1 hp aL hq=>?_
     have dH:=hp 15 _ _ (by kernel_rfl) O O (by kernel_rfl);have jX:=dH.ke 0 O;have Ei:(cu.set j (gs cu (j - 1))).length=n:=by rw [iw];exact cg
     refine xM 0 dH O O O (by omega) ?_;intro w7 aV;refine aa.n ?_;exact eA.st O (yV ej g1 aV)
    intro u w5 _ hu _ _;have aK:=hu 17 _ O (by kernel_rfl);refine iq O (aa.sub O O O (by omega) (aF O (tQ ?_)));exact⟨(j - 1,swp cu j (j - 1)),by show j - 1<j;omega,⟨O,O,O,O,O,by show Value.int .i64 _=aiD _;congr 1;omega,ae⟩,gX.trans (MI (by omega) (by omega) (Nat.le_of_lt Qt) (by omega) (by omega) (by omega)) (a8 _) (a8 _),hI.next Qt (by omega) fY,by show gs (swp cu j (j - 1)) (j - 1)=_;rw [Ju,aj O];exact jJ,fun x hx=>by rw [Ju,ag (by omega),ag (by omega)];exact Hn x hx,fun x y h3 h4 h5 h6 h7=>by { have h5:x≠j - 1:=h5;rw [Ju,ag h5];by_cases e:x=j; { rw [aj e];exact Cl (j - 1) y (by omega) (by omega) (by omega) h6 h7 }; { rw [ag e];exact Cl x y h3 h4 e h6 h7 } },aK⟩
   refine aY O (aZ (cL O (aa.add O O O (by omega) (aF O (tQ ?_)))));exact⟨(i+1,cu),by show b - (i+1)<b - i;omega,⟨O,O,O,O,O,ae⟩,by show a+1≤i+1;omega,gX,hI.stop (.inr (Int.not_lt.1 fun h=>h2 (sB.2 h))),fun x hx=>Hn x (by have hx:i+1≤x:=hx;omega),fun x y h3 h4 h5 h6=>by { have h4:x<i+1:=h4;have h5:i+1≤y:=h5;by_cases e:x=j; { rw [e,jJ];exact wP i y (by omega) (by omega) h6 }; { exact Cl x y h3 (by omega) e (by omega) h6 } },az⟩
  refine dI [xI ((j:Int)),xI ((a:Int)),xB (decide (((a:Int))< ((j:Int)))),xB (false),xU,xU,xU,xU,xU,xU,xU,xU,xU,xU,xU,xU,xB (false)] (by kernel_rfl) (by kernel_rfl) O (eg O) ?_ ?_
  ·exact⟨Dr O,Dr O,Dr O,fun _ _ _ _ _=>Dk O (by exact ax Value.bool (cd (by omega))),Dr O,Dr O,Dr O,Dr O,Dr O,Dr O,Dr O,Dr O,Dr O,Dr O,Dr O,Dr O,Dr O,ae⟩
  intro u w3 gu _;have az:=ar.later gu;refine eo O (Cd.eV O ?_);refine aY O (aZ (cL O (aa.add O O O (by omega) (aF O (tQ ?_)))));exact⟨(i+1,cu),by show b - (i+1)<b - i;omega,⟨O,O,O,O,O,ae⟩,by show a+1≤i+1;omega,gX,hI.stop (.inl (by omega)),fun x hx=>Hn x (by have hx:i+1≤x:=hx;omega),fun x y h3 h4 h5 h6=>by { have h4:x<i+1:=h4;have h5:i+1≤y:=h5;by_cases e:x=j; { rw [e,jJ];exact wP i y (by omega) (by omega) h6 }; { exact Cl x y h3 (by omega) e (by omega) h6 } },az⟩
 refine aY O (aZ (C8 O ?_));refine xo ?_;exact⟨O,cur,hp,hs.sub (a8 _) (by omega),ao⟩
end Go.Proofs.YtopgfgdgfjddpaaGreatDoor.Vc.TS
namespace Go.Proofs.YtopgfgdgfjddpaaGreatDoor.Vc
open TS Tryz
def pc(m1 m2:Nat)(kind:Int)(a b:Int):Prop:=
 if kind=1 then(a=0∨b=0∨(a=(m1:Int) - 1∧b=(m2:Int) - 1))else if kind=2 then(a=(m1:Int) - 1∨b=(m2:Int) - 1∨(a=0∧b=0))else((a=0∧b=0)∨(a=(m1:Int) - 1∧b=(m2:Int) - 1))
instance (m1 m2:Nat)(kind a b:Int):Decidable (pc m1 m2 kind a b):=by unfold pc;infer_instance
def vh(m1 m2:Nat)(kind:Int)(a:Int)(b:Nat):List (Int×Int):=((bw b).filter fun b=>decide (¬pc m1 m2 kind a b)).map fun b=> (a,b)
def gn(m1 m2:Nat)(kind:Int)(a b:Nat):List (Int×Int):=(bw a).flatMap (fun a=>vh m1 m2 kind a m2)++vh m1 m2 kind (a:Int) b
def qJ(rk1 rk2:Int→Int)(kind:Int)(c:Int×Int):TV:=⟨c.1,c.2,b8 rk1 rk2 kind c⟩
section
variable {m1 m2:Nat} {kind:Int} {n1 n2:Int} {rk1 rk2:Int→Int} {cI ck:Int→Int→Prop}
theorem uX(n:Nat):bw (n+1)=bw n++ [(n:Int)]:=by
 unfold bw;rw [ng,iQ];rfl
theorem FH(a:Int):vh m1 m2 kind a 0=[]:=rfl
theorem It(a:Nat):gn m1 m2 kind (a+1) 0=gn m1 m2 kind a m2:=by
 unfold gn;rw [uX,List.flatMap_append,FH,fg];simp
theorem Wc{a b:Nat}(h:¬pc m1 m2 kind (a:Int) (b:Int)):gn m1 m2 kind a (b+1)=gn m1 m2 kind a b++ [((a:Int),(b:Int))]:=by
 unfold gn vh;rw [uX,nS,iQ,fR];simp [h]
theorem Wd{a b:Nat}(h:pc m1 m2 kind (a:Int) (b:Int)):gn m1 m2 kind a (b+1)=gn m1 m2 kind a b:=by
 unfold gn vh;rw [uX,nS,iQ];simp [h]
theorem NG(a:Int)(b:Nat):(vh m1 m2 kind a b).length≤b:=by
 unfold vh;rw [fN];refine kJ (oJ _ _) ?_;rw [bw,fN,pe];exact a8 _
theorem NF:∀a b:Nat,b≤m2→(gn m1 m2 kind a b).length≤a*m2+b:=by
 intro a
 induction a with
 | zero=>intro b hb;have:=NG (m1:=m1) (m2:=m2) (kind:=kind) ((0:Nat):Int) b;simpa [gn,bw]using this
 | succ a ih=>
  intro b hb;have h1:=ih m2 (a8 _);rw [←It]at h1;have h2:=NG (m1:=m1) (m2:=m2) (kind:=kind) ((a+1:Nat):Int) b;unfold gn at h1⊢;rw [FH,fg]at h1;rw [dm,Nat.succ_mul];omega
theorem Ir{c:Int×Int}:c∈gn m1 m2 kind m1 0↔(0≤c.1∧c.1<m1)∧(0≤c.2∧c.2<m2)∧¬pc m1 m2 kind c.1 c.2:=by
 unfold gn;rw [FH,fg,List.mem_flatMap];unfold vh;constructor
 ·rintro⟨a,ha,h⟩;obtain⟨b,hb,rfl⟩:=dh.1 h;rw [fA,im,jT]at hb;exact⟨(im _ _).1 ha,hb.1,hb.2⟩
 rintro⟨h1,h2,h3⟩;exact⟨c.1,(im _ _).2 h1,dh.2 ⟨c.2,fA.2 ⟨(im _ _).2 h2,dX h3⟩,O⟩⟩
theorem Is(h:m2≤1000):(gn m1 m2 kind m1 0).Pairwise fun c d=>c.1*1000+c.2<d.1*1000+d.2:=by
 unfold gn;rw [FH,fg];refine List.pairwise_flatMap.2 ⟨fun a _=>?_,(mb m1).imp_of_mem fun {a a'} ha Qr fY x hx y hy=>?_⟩
 ·unfold vh;refine qd.2 (((mb m2).filter _).imp fun h=>?_);show a*1000+_<a*1000+_;omega
 unfold vh at hx hy;obtain⟨b,hb,rfl⟩:=dh.1 hx;obtain⟨b',zz,rfl⟩:=dh.1 hy;have h1:=(im _ _).1 (fA.1 hb).1;have h2:=(im _ _).1 (fA.1 zz).1;show a*1000+b<a'*1000+b';omega
theorem SU(h1:fk m1 n1 rk1 cI)(h2:fk m2 n2 rk2 ck)(hk:0≤kind∧kind≤2){k:Nat}(hn:(k:Int)=gv n1 n2 kind){c:Int×Int}:((0≤c.1∧c.1<m1)∧(0≤c.2∧c.2<m2)∧¬pc m1 m2 kind c.1 c.2)↔∃i:Nat,i<k∧mI m1 m2 rk1 rk2 kind i c:=by
 have z1:=h1.r0;have z2:=h2.r0;have t1:=h1.rt;have t2:=h2.rt;have w1:=h1.two;have w2:=h2.two;have m1n:=h1.n0;have m2n:=h2.n0;obtain⟨a,b⟩:=c;show((0≤a∧a<m1)∧(0≤b∧b<m2)∧¬pc m1 m2 kind a b)↔∃i:Nat,i<k∧(0≤a∧a<m1)∧(0≤b∧b<m2)∧rk1 a+rk2 b+eM kind=i∧¬((kind=1∧(a=0∨b=0))∨(kind=2∧(a=(m1:Int) - 1∨b=(m2:Int) - 1)));unfold gv at hn;constructor
 ·rintro⟨ha,hb,hl⟩;have ra:=h1.fT ha;have rb:=h2.fT hb;have za:=fun h=>h1.zero ha h;have zb:=fun h=>h2.zero hb h
  have ta:=fun h=>h1.whole ha h;have tb:=fun h=>h2.whole hb h
  unfold pc at hl;unfold eM
  by_cases k1:kind=1
  ·rw [aj k1]at hl;rw [ag (by omega)]at hn;refine⟨(rk1 a+rk2 b).toNat,?_,ha,hb,?_,by omega⟩
   ·have:¬(rk1 a=n1∧rk2 b=n2):=fun h=>hl (.inr (.inr ⟨ta h.1,tb h.2⟩))
    omega
   rw [aj k1];have:rk1 a≠ -1:=fun h=>hl (.inl (za h))
   have:rk2 b≠ -1:=fun h=>hl (.inr (.inl (zb h)))
   omega
  rw [ag k1]at hl⊢
  by_cases k2:kind=2
  ·rw [aj k2]at hl;rw [ag (by omega)]at hn;have q1:rk1 a≠n1:=fun h=>hl (.inl (ta h))
   have q2:rk2 b≠n2:=fun h=>hl (.inr (.inl (tb h)))
   have q3:¬(rk1 a= -1∧rk2 b= -1):=fun h=>hl (.inr (.inr ⟨za h.1,zb h.2⟩))
   exact⟨(rk1 a+rk2 b+1).toNat,by omega,ha,hb,by omega,by omega⟩
  rw [ag k2]at hl;rw [aj (by omega)]at hn;have q3:¬(rk1 a= -1∧rk2 b= -1):=fun h=>hl (.inl ⟨za h.1,zb h.2⟩)
  have q4:¬(rk1 a=n1∧rk2 b=n2):=fun h=>hl (.inr ⟨ta h.1,tb h.2⟩)
  exact⟨(rk1 a+rk2 b+1).toNat,by omega,ha,hb,by omega,by omega⟩
 rintro⟨i,hi,ha,hb,hr,he⟩;refine⟨ha,hb,fun hl=>?_⟩;have ra:=h1.fT ha;have rb:=h2.fT hb;unfold eM at hr;unfold pc at hl
 by_cases k1:kind=1
 ·rw [aj k1]at hl hr;rw [ag (by omega)]at hn;rcases hl with h | h | ⟨h,h'⟩
  ·exact he (.inl ⟨k1,.inl h⟩)
  ·exact he (.inl ⟨k1,.inr h⟩)
  rw [h,h',t1,t2]at hr;omega
 rw [ag k1]at hl hr
 by_cases k2:kind=2
 ·rw [aj k2]at hl;rcases hl with h | h | ⟨h,h'⟩
  ·exact he (.inr ⟨k2,.inl h⟩)
  ·exact he (.inr ⟨k2,.inr h⟩)
  rw [h,h',z1,z2]at hr;omega
 rw [ag k2]at hl;rw [aj (by omega)]at hn;rcases hl with⟨h,h'⟩ | ⟨h,h'⟩
 ·rw [h,h',z1,z2]at hr;omega
 rw [h,h',t1,t2]at hr;omega
end
theorem Ty{α:Type}(k:α→Int):∀ {l' l:List α},l.Perm l'→l.Pairwise (fun x y=>k x≤k y)→l'.Pairwise (fun x y=>k x<k y)→l=l'
 | [],l,h,_,_=>h.eq_nil
 | b::r',l,h,h1,h2=>by
  cases l with
  | nil=>exact absurd h.symm.eq_nil (by simp)
  | cons a r=>
   have dO:a=b:=by
    have ha:a∈b::r':=h.subset (List.mem_cons_self ..);have hb:b∈a::r:=h.symm.subset (List.mem_cons_self ..);rcases iW.1 ha with e | e
    ·exact e
    ·have h3:=(List.pairwise_cons.1 h2).1 a e;rcases iW.1 hb with e' | e'
     ·exact e'.symm
     ·have h4:=(List.pairwise_cons.1 h1).1 b e';omega
   subst dO;rw [Ty k (h.cons_inv) (List.pairwise_cons.1 h1).2 (List.pairwise_cons.1 h2).2]
theorem ae7{m1 m2:Nat}{rk1 rk2:Int→Int}{kind:Int}{i:Int}(h:m2≤1000):(uV m1 m2 rk1 rk2 kind i).Pairwise fun c d=>c.1*1000+c.2<d.1*1000+d.2:=by
 unfold uV;refine List.pairwise_flatMap.2 ⟨fun a _=>?_,(mb m1).imp_of_mem fun {a a'} ha Qr fY x hx y hy=>?_⟩
 ·refine qd.2 (((mb m2).filter _).imp fun h=>?_);show a*1000+_<a*1000+_;omega
 obtain⟨b,hb,rfl⟩:=dh.1 hx;obtain⟨b',zz,rfl⟩:=dh.1 hy;have h1:=(im _ _).1 (fA.1 hb).1;have h2:=(im _ _).1 (fA.1 zz).1;show a*1000+b<a'*1000+b';omega
theorem TM{m1 m2:Nat}{rk1 rk2:Int→Int}{kind:Int}(h:m2≤1000)(h1:m1≤1000):∀k:Nat,((bT m1 m2 rk1 rk2 kind k).map (qJ rk1 rk2 kind)).Pairwise fun x y=>kT x<kT y
 | 0=>List.Pairwise.nil
 | k+1=>by
  rw [bT,iQ,List.pairwise_append];refine⟨TM h h1 k,qd.2 ((ae7 h).imp_of_mem fun {c d} hc hd fY=>?_),fun x hx y hy=>?_⟩
  ·have e1:=(vH.1 hc).2.2.1;have e2:=(vH.1 hd).2.2.1;show(b8 rk1 rk2 kind c)*1000000+ (c.1*1000+c.2)< (b8 rk1 rk2 kind d)*1000000+ (d.1*1000+d.2);omega
  ·obtain⟨c,hc,rfl⟩:=dh.1 hx;obtain⟨d,hd,rfl⟩:=dh.1 hy;obtain⟨i,hi,hc⟩:=rK.1 hc;have hd:=vH.1 hd;have e1:=hc.2.2.1;have e2:=hd.2.2.1;have:=hc.1;have:=hc.2.1;have:=hd.1;have:=hd.2.1;show(b8 rk1 rk2 kind c)*1000000+ (c.1*1000+c.2)< (b8 rk1 rk2 kind d)*1000000+ (d.1*1000+d.2);omega
theorem Wb{m1 m2:Nat}{kind:Int}{n1 n2:Int}{rk1 rk2:Int→Int}{cI ck:Int→Int→Prop}(h1:fk m1 n1 rk1 cI)(h2:fk m2 n2 rk2 ck)(hk:0≤kind∧kind≤2){k:Nat}(hn:(k:Int)=gv n1 n2 kind)(pS:m2≤1000):(gn m1 m2 kind m1 0).Perm (bT m1 m2 rk1 rk2 kind k):=by
 refine(s9 ?_ (E2 k)).2 fun c=>?_
 ·exact(Is pS).imp fun h e=>by rw [e]at h;omega
 rw [Ir,rK];exact SU h1 h2 hk hn
theorem agi(f:Int×Int→TV)(L:List (Int×Int)){i:Nat}(h:i<L.length):tg (L.map f) (i:Int)=f (gp L (i:Int)):=by
 rw [tq h];unfold tg;rw [ir,cJ,gf (by simpa using h),Option.getD_some,List.getElem_map]
theorem agj(L:List TV){i j:Nat}(h:j<i)(hi:i≤L.length):tg (L.take i) (j:Int)=tg L (j:Int):=by
 unfold tg;rw [ir,cJ,cJ,List.getElem?_take_of_lt h]
theorem af7{m1 m2:Nat}{kind:Int}{n1 n2:Int}{rk1 rk2:Int→Int}{cI ck:Int→Int→Prop}(h1:fk m1 n1 rk1 cI)(h2:fk m2 n2 rk2 ck)(hk:0≤kind∧kind≤2){k:Nat}(hn:(k:Int)=gv n1 n2 kind)(wM:m1≤1000)(pS:m2≤1000){ds:List TV}(hp:ds.Perm ((gn m1 m2 kind m1 0).map (qJ rk1 rk2 kind)))(hs:SR kT ds 0 ds.length):ds=(bT m1 m2 rk1 rk2 kind k).map (qJ rk1 rk2 kind):=by
 have hP:(gn m1 m2 kind m1 0).Perm (bT m1 m2 rk1 rk2 kind k):=by
  refine(s9 ?_ (E2 k)).2 fun c=>?_
  ·exact(Is pS).imp fun h e=>by rw [e]at h;omega
  rw [Ir,rK];exact SU h1 h2 hk hn
 refine Ty kT (hp.trans (hP.map _)) ?_ (TM pS wM k);refine List.pairwise_iff_getElem.2 fun i j hi hj gN=>?_
 have:=hs i j (aW _) gN hj
 rwa [sg hi,sg hj]at this
theorem Wa(m1 m2:Nat)(kind:Int)(rk1 rk2:Int→Int)(wM:m1≤1000)(pS:m2≤1000):(∀s∈(gn m1 m2 kind m1 0).map (qJ rk1 rk2 kind),pH s)∧∀x y,x<y→y< ((gn m1 m2 kind m1 0).map (qJ rk1 rk2 kind)).length→mu (gs ((gn m1 m2 kind m1 0).map (qJ rk1 rk2 kind)) x)<mu (gs ((gn m1 m2 kind m1 0).map (qJ rk1 rk2 kind)) y):=by
 constructor
 ·intro s hs;obtain⟨c,hc,rfl⟩:=dh.1 hs;have:=Ir.1 hc;show(0≤c.1∧c.1<1000)∧0≤c.2∧c.2<1000;omega
 intro x y ka hy;rw [sg (by omega),sg hy,List.getElem_map,List.getElem_map];rw [fN]at hy;exact List.pairwise_iff_getElem.1 (Is (m1:=m1) (kind:=kind) pS) x y (by omega) hy ka
end Go.Proofs.YtopgfgdgfjddpaaGreatDoor.Vc
namespace Go.Proofs.YtopgfgdgfjddpaaGreatDoor.Vc.TS
open Go.RowKit Tryz
variable{b p:Nat}{w0:World}{ks:List Ck}{t:TypeId}
theorem XG{a m:Nat}(h1:a<m)(h2:m<b){c:Nat}(hc:o6 a m b≤c)(px:c<eP a m b):a≤c∧c<m∧m≤(a+b) / 2+m - 1 - c∧(a+b) / 2+m - 1 - c<b:=by
 unfold o6 at hc;unfold eP at px
 by_cases h:(a+b) / 2<m
 ·rw [aj h]at hc px;omega
 rw [ag h]at hc px;omega
theorem ado{a m:Nat}(h1:a<m)(h2:m<b):o6 a m b≤eP a m b:=by
 unfold o6 eP
 split<;>omega
theorem Uw{A:aiC}{n c:Nat}(hn:n≤4000000000000):∀(f a m b:Nat),b - a≤f→a<m→m<b→b≤n→∀(ds:List TV) (w:World),(∀s∈ds,pH s)→(∀x y,a≤x→x<m→m≤y→y<b→mu (gs ds x)<mu (gs ds y))→SR kT ds a m→SR kT ds m b→St w0 w (dM t A n c ds::ks)→
 aA prog 254 [.slice A n c,aiD (a:Int),aiD (m:Int),aiD (b:Int),.func (.func 175) #[] #[]] w (fun v w'=>v= .tuple #[]∧∃lU,RP ds lU a b∧SR kT lU a b∧St w0 w' (dM t A n c lU::ks)):=by
 intro f
 induction f with
 | zero=>intro a m b h1 h2 h3;omega
 | succ f ih=>
  intro a m b hf GP Em D1 ds w hc K9 hA hB hS;have uI:ds.length=n:=(hS.ke 0 O).1;have kr:=Pt hc;have sB:=fun x y h1 h2 h3 h4=>Oc (kr y) (kr x) (K9 x y h1 h2 h3 h4)
  refine bk func254 O ntmps254 O (Al O) ?_;refine aQ O (aa.sub O O O (by omega) (ay O ?_));refine aB _ O (fun h1=>?_) (fun h1=>?_)
  ·have hm:m=a+1:=by omega
   refine bP O ?_;refine Cd.loop (α:=Nat×Nat) (fun z=> [(0,.slice A n c),(1,aiD (a:Int)),(2,aiD (m:Int)),(3,aiD (b:Int)),(4,.func (.func 175) #[] #[]),(10,aiD (z.1:Int)),(11,aiD (z.2:Int))])
    (fun z w'=> (m≤z.1∧z.1≤z.2∧z.2≤b)∧(∀x,m≤x→x<z.1→kT (gs ds x)<kT (gs ds a))∧(∀x,z.2≤x→x<b→kT (gs ds a)≤kT (gs ds x))∧St w0 w' (dM t A n c ds::ks)) (fun z=>z.2 - z.1) (m,b) ⟨rfl,rfl,rfl,rfl,rfl,rfl,rfl,ae⟩ ⟨⟨a8 _,by show m≤b;omega,a8 _⟩,fun x h h'=>by omega,fun x h h'=>by omega,hS⟩ ?_
   rintro⟨i,j⟩ e w1 ⟨⟨eP,gN,ru⟩,hL,hR,ao⟩;dsimp only at eP gN ru hL hR ao⊢;refine bK O ?_;refine aB _ O (fun h2=>?_) (fun h2=>?_)
   ·refine av O (aa.add O O O (by omega) ?_);refine nk O O (sU _ (by omega)) (Dc O O O (by omega) (nk O O (IntWalk.i64_in _ (by omega)) (ay O ?_)));obtain⟨h,hh⟩:∃h:Nat,h=(i+j) / 2:=⟨_,rfl⟩;rw [show((i:Int)+ (j:Int)) / 2=(h:Int) by omega];have jc:=ao.ke 0 O;have g1:tg ds (h:Int)=gs ds h:=O;have g2:tg ds (a:Int)=gs ds a:=O;refine dI [.ex (.func (.func 175) #[] #[]),xS (A) (n) (c),xI ((h:Int)),xP (aq (A) (((h:Int)).toNat*3)),.ex ((tg (ds) ((h:Int))).v),xS (A) (n) (c),xI ((a:Int)),xP (aq (A) (((a:Int)).toNat*3)),.ex ((tg (ds) ((a:Int))).v),xI (qT (gs ds h) (gs ds a)),xB (decide ((qT (gs ds h) (gs ds a))< ((0:Int))))] (by kernel_rfl) (by kernel_rfl) O (eg O) ?_ ?_
    ·refine⟨Dr O,Dr O,Dr O,fun _ _ hb _ _=>kL (jc.later hb) O O O (by omega) (by omega) (Az O),fun _ _ hb _ _=>oN (jc.later hb) O (by omega) O (Az O),Dr O,Dr O,fun _ _ hb _ _=>kL (jc.later hb) O O O (by omega) (by omega) (Az O),fun _ _ hb _ _=>oN (jc.later hb) O (by omega) O (Az O),?_,Dr O,ae⟩
     ·intro e1 w1 hb hp aL;refine aa.call (FX (gs ds h) (gs ds a) _) O O O ?_;rintro _ w9 ⟨rfl,kH⟩;refine aa.n ?_;exact gD.dn kH.below (by exact O)
    intro u w2 dG _;have ar:=ao.later dG;refine eo O ?_;refine aB _ O (fun h3=>?_) (fun h3=>?_)
    ·refine av O (aa.add O O O (by omega) (aF O (tQ ?_)));refine⟨(h+1,j),by show j - (h+1)<j - i;omega,⟨O,O,O,O,O,O,O,ae⟩,⟨by show m≤h+1;omega,by show h+1≤j;omega,ru⟩,fun x jg mS=>?_,hR,ar⟩;have mS:x<h+1:=mS;have k1:kT (gs ds x)≤kT (gs ds h):=hB.le jg (by omega) (by omega);have k2:kT (gs ds h)<kT (gs ds a):=(sB a h (a8 _) GP (by omega) (by omega)).1 h3;omega
    ·refine kD O (tQ ?_);refine⟨(i,h),by show h - i<j - i;omega,⟨O,O,O,O,O,O,O,ae⟩,⟨eP,by show i≤h;omega,by show h≤b;omega⟩,hL,fun x jg mS=>?_,ar⟩;have jg:h≤x:=jg;have k1:kT (gs ds h)≤kT (gs ds x):=hB.le (by omega) jg mS;have k2:kT (gs ds a)≤kT (gs ds h):=Int.not_lt.1 fun h'=>h3 ((sB a h (a8 _) GP (by omega) (by omega)).2 h')
     omega
   ·have Ef:i=j:=by omega
    subst Ef;refine aY O (aZ (nN O ?_));refine Cd.loop (α:=Nat×List TV) (fun z=> [(0,.slice A n c),(4,.func (.func 175) #[] #[]),(10,aiD (i:Int)),(13,aiD (z.1:Int))]) (fun z w'=> (a≤z.1∧z.1≤i - 1)∧RP ds z.2 a b∧vR ds z.2 a z.1∧St w0 w' (dM t A n c z.2::ks)) (fun z=>i - z.1) (a,ds) ⟨O,O,O,O,ae⟩ ⟨⟨a8 _,by show a≤i - 1;omega⟩,RP.refl _ _ _,vR.start _ _,ao⟩ ?_;rintro⟨k,cu⟩ e w2 ⟨⟨eh,gk⟩,hp,pT,ar⟩;dsimp only at eh gk hp pT ar⊢;have cg:cu.length=n:=(ar.ke 0 O).1;refine aQ O (aa.sub O O O (by omega) (ay O ?_));refine aB _ O (fun h3=>?_) (fun h3=>?_)
    ·have gG:=ar.ke 0 O;have ek:((k:Int)+1).toNat=k+1:=by omega
     have g1:tg cu (k:Int)=gs cu k:=O;have g2:tg cu ((k:Int)+1)=gs cu (k+1):=by unfold tg gs;rw [ek]
     refine bP O ?_;refine iU [15,17] [yS (A) (n) (c),yI ((k:Int)),yS (A) (n) (c),yI ((k:Int)),yI (((k:Int))+ ((1:Int))),yS (A) (n) (c),yI ((k:Int)),yI (((k:Int))+ ((1:Int))),yP (aq (A) ((((k:Int))+ ((1:Int))).toNat*3)),.ex ((tg (cu) (((k:Int))+ ((1:Int)))).v),yS (A) (n) (c),yI ((k:Int)),yP (aq (A) (((k:Int)).toNat*3)),.ex ((tg (cu) ((k:Int))).v),yP (aq (A) (((k:Int)).toNat*3)),.pr (fun _ w'=>St w0 w' (dM t A n c (cu.set k (gs cu (k+1)))::ks)),yP (aq (A) ((((k:Int))+ ((1:Int))).toNat*3)),.pr (fun _ w'=>St w0 w' (dM t A n c (swp cu k (k+1))::ks))] (by kernel_rfl) (by kernel_rfl) (ly (ly (ly (ly (ly (ly (ly (ly (ly (ly (ly (ly (ly (ly (ly (bV.2 ⟨Ye.b9 (fun v w w' h hb=>h.later hb),(ly (bV.2 ⟨Ye.b9 (fun v w w' h hb=>h.later hb),(fun _ h=>by cases h)⟩))⟩)))))))))))))))) ?_ ?_
     ·refine⟨ba O,ba O,ba O,ba O,aP fun _ _=>aa.add O O O (by omega) (aX O O),ba O,ba O,aP fun _ _=>aa.add O O O (by omega) (aX O O),cP fun _ _ hb _ _ _=>kL (gG.later hb) O O O (by omega) (by omega) (aX O O),cP fun _ _ hb _ _ _=>oN (gG.later hb) O (by omega) O (aX O O),ba O,ba O,cP fun _ _ hb _ _ _=>kL (gG.later hb) O O O (by omega) (by omega) (aX O O),cP fun _ _ hb _ _ _=>oN (gG.later hb) O (by omega) O (aX O O),cP fun _ _ hb _ _ _=>kL (gG.later hb) O O O (by omega) (by omega) (aX O O),?_,?_,?_,ae⟩
      ·refine iY fun e1 w1 hb hp aL hq=>?_
       refine xM 0 (ar.later hb) O O O (by omega) ?_;intro w6 aR;refine aa.n ?_;exact eA.st O (yV (i:=(k:Int)) O g2 aR)
      ·refine dP 1 fun e1 w1 hp aL hq=>?_
       have dH:=hp 15 _ _ (by kernel_rfl) O O (by kernel_rfl);have jX:=dH.ke 0 O;have Ei:(cu.set k (gs cu (k+1))).length=n:=by rw [iw];exact cg
       refine kL (jX) O O O (by omega) (by omega) (aa.n (fh O (by exact O)))
      ·refine oQ 1 fun e1 w1 hp aL hq=>?_
       have dH:=hp 15 _ _ (by kernel_rfl) O O (by kernel_rfl);have jX:=dH.ke 0 O;have Ei:(cu.set k (gs cu (k+1))).length=n:=by rw [iw];exact cg
       refine xM 0 dH O O O (by omega) ?_;intro w7 aV;refine aa.n ?_;exact eA.st O (yV ek g1 aV)
     intro u w5 _ hu _ _;have aK:=hu 17 _ O (by kernel_rfl);refine iq O (aa.add O O O (by omega) (aF O (tQ ?_)));exact⟨(k+1,swp cu k (k+1)),by show i - (k+1)<i - k;omega,⟨O,O,O,O,ae⟩,⟨by show a≤k+1;omega,by show k+1≤i - 1;omega⟩,hp.trans (MI (by omega) (by omega) eh (by omega) (by omega) (by omega)) (a8 _) (a8 _),pT.next eh (by omega),aK⟩
    ·have yk:k=i - 1:=by omega
     subst yk;refine aY O (aZ (gE O ?_));refine Mp ?_;exact⟨O,cu,hp,pT.sorted (hm▸hB) (by omega) ru (fun x h4 h5=>Int.le_of_lt (hL x (by omega) h5)) hR,ar⟩
  refine av O (aa.sub O O O (by omega) (ay O ?_));refine aB _ O (fun h2=>?_) (fun h2=>?_)
  ·have cN:b=m+1:=by omega
   refine bP O ?_;refine Cd.loop (α:=Nat×Nat) (fun z=> [(0,.slice A n c),(1,aiD (a:Int)),(2,aiD (m:Int)),(3,aiD (b:Int)),(4,.func (.func 175) #[] #[]),(14,aiD (z.1:Int)),(15,aiD (z.2:Int))])
    (fun z w'=> (a≤z.1∧z.1≤z.2∧z.2≤m)∧(∀x,a≤x→x<z.1→kT (gs ds x)≤kT (gs ds m))∧(∀x,z.2≤x→x<m→kT (gs ds m)≤kT (gs ds x))∧St w0 w' (dM t A n c ds::ks)) (fun z=>z.2 - z.1) (a,m) ⟨rfl,rfl,rfl,rfl,rfl,rfl,rfl,ae⟩ ⟨⟨a8 _,by show a≤m;omega,a8 _⟩,fun x h h'=>by omega,fun x h h'=>by omega,hS⟩ ?_
   rintro⟨i,j⟩ e w1 ⟨⟨eP,gN,ru⟩,hL,hR,ao⟩;dsimp only at eP gN ru hL hR ao⊢;refine bK O ?_;refine aB _ O (fun h3=>?_) (fun h3=>?_)
   ·refine av O (aa.add O O O (by omega) ?_);refine nk O O (sU _ (by omega)) (Dc O O O (by omega) (nk O O (IntWalk.i64_in _ (by omega)) (ay O ?_)));obtain⟨h,hh⟩:∃h:Nat,h=(i+j) / 2:=⟨_,rfl⟩;rw [show((i:Int)+ (j:Int)) / 2=(h:Int) by omega];have jc:=ao.ke 0 O;have g1:tg ds (h:Int)=gs ds h:=O;have g2:tg ds (m:Int)=gs ds m:=O;refine dI [.ex (.func (.func 175) #[] #[]),xS (A) (n) (c),xI ((m:Int)),xP (aq (A) (((m:Int)).toNat*3)),.ex ((tg (ds) ((m:Int))).v),xS (A) (n) (c),xI ((h:Int)),xP (aq (A) (((h:Int)).toNat*3)),.ex ((tg (ds) ((h:Int))).v),xI (qT (gs ds m) (gs ds h)),xB (decide ((qT (gs ds m) (gs ds h))< ((0:Int)))),xB (decide (¬((qT (gs ds m) (gs ds h))< ((0:Int)))))] (by kernel_rfl) (by kernel_rfl) O (eg O) ?_ ?_
    ·refine⟨Dr O,Dr O,Dr O,fun _ _ hb _ _=>kL (jc.later hb) O O O (by omega) (by omega) (Az O),fun _ _ hb _ _=>oN (jc.later hb) O (by omega) O (Az O),Dr O,Dr O,fun _ _ hb _ _=>kL (jc.later hb) O O O (by omega) (by omega) (Az O),fun _ _ hb _ _=>oN (jc.later hb) O (by omega) O (Az O),?_,Dr O,fun _ _ _ _ _=>eC O O (Az O),ae⟩
     ·intro e1 w1 hb hp aL;refine aa.call (FX (gs ds m) (gs ds h) _) O O O ?_;rintro _ w9 ⟨rfl,kH⟩;refine aa.n ?_;exact gD.dn kH.below (by exact O)
    intro u w2 dG _;have ar:=ao.later dG;refine eo O ?_;refine aB _ O (fun h4=>?_) (fun h4=>?_)
    ·refine av O (aa.add O O O (by omega) (aF O (tQ ?_)));refine⟨(h+1,j),by show j - (h+1)<j - i;omega,⟨O,O,O,O,O,O,O,ae⟩,⟨by show a≤h+1;omega,by show h+1≤j;omega,ru⟩,fun x jg mS=>?_,hR,ar⟩;have mS:x<h+1:=mS;have k1:kT (gs ds x)≤kT (gs ds h):=hA.le jg (by omega) (by omega);have k2:kT (gs ds h)≤kT (gs ds m):=Int.not_lt.1 fun h'=>h4 ((sB h m (by omega) (by omega) (a8 _) Em).2 h')
     omega
    ·refine kD O (tQ ?_);refine⟨(i,h),by show h - i<j - i;omega,⟨O,O,O,O,O,O,O,ae⟩,⟨eP,by show i≤h;omega,by show h≤m;omega⟩,hL,fun x jg mS=>?_,ar⟩;have jg:h≤x:=jg;have k1:kT (gs ds h)≤kT (gs ds x):=hA.le (by omega) jg mS;have k2:kT (gs ds m)≤kT (gs ds h):=Int.le_of_lt ((sB h m (by omega) (by omega) (a8 _) Em).1 (iP.1 h4));omega
   ·have Ef:i=j:=by omega
    subst Ef;refine aY O (aZ (nN O ?_));refine Cd.loop (α:=Nat×List TV) (fun z=> [(0,.slice A n c),(4,.func (.func 175) #[] #[]),(14,aiD (i:Int)),(17,aiD (z.1:Int))]) (fun z w'=> (i≤z.1∧z.1≤m)∧RP ds z.2 a b∧vQ ds z.2 m z.1∧St w0 w' (dM t A n c z.2::ks)) (fun z=>z.1) (m,ds) ⟨O,O,O,O,ae⟩ ⟨⟨ru,a8 _⟩,RP.refl _ _ _,vQ.start _ _,ao⟩ ?_;rintro⟨k,cu⟩ e w2 ⟨⟨eh,gk⟩,hp,pT,ar⟩;dsimp only at eh gk hp pT ar⊢;have cg:cu.length=n:=(ar.ke 0 O).1;refine bK O ?_;refine aB _ O (fun h4=>?_) (fun h4=>?_)
    ·have gG:=ar.ke 0 O;have ek:((k:Int) - 1).toNat=k - 1:=by omega
     have g1:tg cu (k:Int)=gs cu k:=O;have g2:tg cu ((k:Int) - 1)=gs cu (k - 1):=by unfold tg gs;rw [ek]
     refine bP O ?_;refine iU [15,17] [yS (A) (n) (c),yI ((k:Int)),yS (A) (n) (c),yI ((k:Int)),yI (((k:Int)) - ((1:Int))),yS (A) (n) (c),yI ((k:Int)),yI (((k:Int)) - ((1:Int))),yP (aq (A) ((((k:Int)) - ((1:Int))).toNat*3)),.ex ((tg (cu) (((k:Int)) - ((1:Int)))).v),yS (A) (n) (c),yI ((k:Int)),yP (aq (A) (((k:Int)).toNat*3)),.ex ((tg (cu) ((k:Int))).v),yP (aq (A) (((k:Int)).toNat*3)),.pr (fun _ w'=>St w0 w' (dM t A n c (cu.set k (gs cu (k - 1)))::ks)),yP (aq (A) ((((k:Int)) - ((1:Int))).toNat*3)),.pr (fun _ w'=>St w0 w' (dM t A n c (swp cu k (k - 1))::ks))] (by kernel_rfl) (by kernel_rfl) (ly (ly (ly (ly (ly (ly (ly (ly (ly (ly (ly (ly (ly (ly (ly (bV.2 ⟨Ye.b9 (fun v w w' h hb=>h.later hb),(ly (bV.2 ⟨Ye.b9 (fun v w w' h hb=>h.later hb),(fun _ h=>by cases h)⟩))⟩)))))))))))))))) ?_ ?_
     ·refine⟨ba O,ba O,ba O,ba O,aP fun _ _=>aa.sub O O O (by omega) (aX O O),ba O,ba O,aP fun _ _=>aa.sub O O O (by omega) (aX O O),cP fun _ _ hb _ _ _=>kL (gG.later hb) O O O (by omega) (by omega) (aX O O),cP fun _ _ hb _ _ _=>oN (gG.later hb) O (by omega) O (aX O O),ba O,ba O,cP fun _ _ hb _ _ _=>kL (gG.later hb) O O O (by omega) (by omega) (aX O O),cP fun _ _ hb _ _ _=>oN (gG.later hb) O (by omega) O (aX O O),cP fun _ _ hb _ _ _=>kL (gG.later hb) O O O (by omega) (by omega) (aX O O),?_,?_,?_,ae⟩
      ·refine iY fun e1 w1 hb hp aL hq=>?_
       refine xM 0 (ar.later hb) O O O (by omega) ?_;intro w6 aR;refine aa.n ?_;exact eA.st O (yV (i:=(k:Int)) O g2 aR)
      ·refine dP 1 fun e1 w1 hp aL hq=>?_
       have dH:=hp 15 _ _ (by kernel_rfl) O O (by kernel_rfl);have jX:=dH.ke 0 O;have Ei:(cu.set k (gs cu (k - 1))).length=n:=by rw [iw];exact cg
       refine kL (jX) O O O (by omega) (by omega) (aa.n (fh O (by exact O)))
      ·refine oQ 1 fun e1 w1 hp aL hq=>?_
       have dH:=hp 15 _ _ (by kernel_rfl) O O (by kernel_rfl);have jX:=dH.ke 0 O;have Ei:(cu.set k (gs cu (k - 1))).length=n:=by rw [iw];exact cg
       refine xM 0 dH O O O (by omega) ?_;intro w7 aV;refine aa.n ?_;exact eA.st O (yV ek g1 aV)
     intro u w5 _ hu _ _;have aK:=hu 17 _ O (by kernel_rfl);refine iq O (aa.sub O O O (by omega) (aF O (tQ ?_)));exact⟨(k - 1,swp cu k (k - 1)),by show k - 1<k;omega,⟨O,O,O,by show Value.int .i64 _=aiD _;congr 1;omega,ae⟩,⟨by show i≤k - 1;omega,by show k - 1≤m;omega⟩,hp.trans (MI (by omega) (by omega) (by omega) (by omega) (by omega) (by omega)) (a8 _) (a8 _),pT.next (by omega) gk (by omega),aK⟩
    ·have yk:k=i:=by omega
     subst yk;refine aY O (aZ (gE O ?_));refine Mp ?_;exact⟨O,cu,hp,cN▸pT.sorted hA eP ru hL hR,ar⟩
  have h1:a+1<m:=by omega
  have h2:m+1<b:=by omega
  refine av O (aa.add O O O (by omega) ?_);refine nk O O (sU _ (by omega)) (Dc O O O (by omega) (nk O O (IntWalk.i64_in _ (by omega)) ?_));obtain⟨mid,mq⟩:∃h:Nat,h=(a+b) / 2:=⟨_,rfl⟩;rw [show((a:Int)+ (b:Int)) / 2=(mid:Int) by omega];have pS:2*mid≤a+b∧a+b≤2*mid+1:=by omega
  have KL:=ado GP Em;have hh0:eP a m b≤m:=by unfold eP;split<;>omega
  have zR:=fun c=>XG GP Em (c:=c)
  rw [←mq]at zR;refine ad O (aa.add O O O (by omega) (vb 2 O ?_));refine lC (α:=Unit) (fun _=> [(0,.slice A n c),(1,aiD (a:Int)),(2,aiD (m:Int)),(3,aiD (b:Int)),(4,.func (.func 175) #[] #[]),(18,aiD (mid:Int)),(19,aiD ((mid:Int)+ (m:Int))),(20,aiD ((o6 a m b:Nat):Int)),(21,aiD ((eP a m b:Nat):Int))]) (fun _ w'=>w'=w) ?_ ?_
  ·refine bK O ?_;refine aB _ O (fun h3=>?_) (fun h3=>?_)
   ·have e1:o6 a m b=mid+m - b:=by unfold o6;rw [if_pos (by omega),←mq]
    have e2:eP a m b=mid:=by unfold eP;rw [if_pos (by omega),←mq]
    rw [e1,e2];refine av O (aa.sub O O O (by omega) (aF O (tQ ?_)));exact⟨(),⟨O,O,O,O,O,O,O,by show Value.int .i64 ((mid:Int)+ (m:Int) - (b:Int))=aiD ((mid+m - b:Nat):Int);congr 1;omega,O,ae⟩,O⟩
   ·have e1:o6 a m b=a:=by unfold o6;rw [if_neg (by omega)]
    have e2:eP a m b=m:=by unfold eP;rw [if_neg (by omega)]
    rw [e1,e2];refine kD O (tQ ?_);exact⟨(),⟨O,O,O,O,O,O,O,O,O,ae⟩,O⟩
  rintro _ e w1 rfl;refine av O (aa.sub O O O (by omega) (ay O ?_));refine Cd.loop (α:=Nat×Nat) (fun z=> [(0,.slice A n c),(1,aiD (a:Int)),(2,aiD (m:Int)),(3,aiD (b:Int)),(4,.func (.func 175) #[] #[]),(18,aiD (mid:Int)),(19,aiD ((mid:Int)+ (m:Int))),(20,aiD (z.1:Int)),(21,aiD (z.2:Int)),(22,aiD ((mid:Int)+ (m:Int) - 1))])
   (fun z w'=> (o6 a m b≤z.1∧z.1≤z.2∧z.2≤eP a m b)∧(∀x,o6 a m b≤x→x<z.1→kT (gs ds x)≤kT (gs ds (mid+m - 1 - x)))∧(∀x,z.2≤x→x<eP a m b→kT (gs ds (mid+m - 1 - x))<kT (gs ds x))∧St w0 w' (dM t A n c ds::ks)) (fun z=>z.2 - z.1) (o6 a m b,eP a m b) ⟨rfl,rfl,rfl,rfl,rfl,rfl,rfl,rfl,rfl,rfl,ae⟩ ⟨⟨a8 _,KL,a8 _⟩,fun x h h'=>by omega,fun x h h'=>by omega,hS⟩ ?_
  rintro⟨i,j⟩ e w2 ⟨⟨Ed,gN,ru⟩,hL,hR,ao⟩;dsimp only at Ed gN ru hL hR ao⊢;refine bK O ?_;refine aB _ O (fun h3=>?_) (fun h3=>?_)
  ·refine av O (aa.add O O O (by omega) ?_);refine nk O O (sU _ (by omega)) (Dc O O O (by omega) (nk O O (IntWalk.i64_in _ (by omega)) (ay O ?_)));obtain⟨h,hh⟩:∃h:Nat,h=(i+j) / 2:=⟨_,rfl⟩;rw [show((i:Int)+ (j:Int)) / 2=(h:Int) by omega];have kG:=zR h (by omega) (by omega);have jc:=ao.ke 0 O;have ep:((mid:Int)+ (m:Int) - 1 - (h:Int)).toNat=mid+m - 1 - h:=by omega
   have g1:tg ds (h:Int)=gs ds h:=O;have g2:tg ds ((mid:Int)+ (m:Int) - 1 - (h:Int))=gs ds (mid+m - 1 - h):=by unfold tg gs;rw [ep]
   refine dI [.ex (.func (.func 175) #[] #[]),xS (A) (n) (c),xI (((mid:Int)+ (m:Int) - 1)),xI ((h:Int)),xI ((((mid:Int)+ (m:Int) - 1)) - ((h:Int))),xP (aq (A) (((((mid:Int)+ (m:Int) - 1)) - ((h:Int))).toNat*3)),.ex ((tg (ds) ((((mid:Int)+ (m:Int) - 1)) - ((h:Int)))).v),xS (A) (n) (c),xI ((h:Int)),xP (aq (A) (((h:Int)).toNat*3)),.ex ((tg (ds) ((h:Int))).v),xI (qT (gs ds (mid+m - 1 - h)) (gs ds h)),xB (decide ((qT (gs ds (mid+m - 1 - h)) (gs ds h))< ((0:Int)))),xB (decide (¬((qT (gs ds (mid+m - 1 - h)) (gs ds h))< ((0:Int)))))] (by kernel_rfl) (by kernel_rfl) O (eg O) ?_ ?_
   ·refine⟨Dr O,Dr O,Dr O,Dr O,fun _ _ _ _ _=>aa.sub O O O (by omega) (Az O),fun _ _ hb _ _=>kL (jc.later hb) O O O (by omega) (by omega) (Az O),fun _ _ hb _ _=>oN (jc.later hb) O (by omega) O (Az O),Dr O,Dr O,fun _ _ hb _ _=>kL (jc.later hb) O O O (by omega) (by omega) (Az O),fun _ _ hb _ _=>oN (jc.later hb) O (by omega) O (Az O),?_,Dr O,fun _ _ _ _ _=>eC O O (Az O),ae⟩
    ·intro e1 w1 hb hp aL;refine aa.call (FX (gs ds (mid+m - 1 - h)) (gs ds h) _) O (by rw [←g2];rfl) O ?_;rintro _ w9 ⟨rfl,kH⟩;refine aa.n ?_;exact gD.dn kH.below (by exact O)
   intro u w3 gu _;have ar:=ao.later gu;refine eo O ?_;refine aB _ O (fun h4=>?_) (fun h4=>?_)
   ·refine av O (aa.add O O O (by omega) (aF O (tQ ?_)));refine⟨(h+1,j),by show j - (h+1)<j - i;omega,⟨O,O,O,O,O,O,O,O,O,O,ae⟩,⟨by show o6 a m b≤h+1;omega,by show h+1≤j;omega,ru⟩,fun x jg mS=>?_,hR,ar⟩;have mS:x<h+1:=mS;have rz:=zR x jg (by omega);have k1:kT (gs ds x)≤kT (gs ds h):=hA.le (by omega) (by omega) (by omega);have k2:kT (gs ds h)≤kT (gs ds (mid+m - 1 - h)):=Int.not_lt.1 fun h'=>h4 ((sB h (mid+m - 1 - h) kG.1 kG.2.1 kG.2.2.1 kG.2.2.2).2 h')
    have k3:kT (gs ds (mid+m - 1 - h))≤kT (gs ds (mid+m - 1 - x)):=hB.le (by omega) (by omega) (by omega);omega
   ·refine kD O (tQ ?_);refine⟨(i,h),by show h - i<j - i;omega,⟨O,O,O,O,O,O,O,O,O,O,ae⟩,⟨Ed,by show i≤h;omega,by show h≤eP a m b;omega⟩,hL,fun x jg mS=>?_,ar⟩;have jg:h≤x:=jg;have rz:=zR x (by omega) mS;have k1:kT (gs ds h)≤kT (gs ds x):=hA.le (by omega) (by omega) (by omega);have k2:kT (gs ds (mid+m - 1 - h))<kT (gs ds h):=(sB h (mid+m - 1 - h) kG.1 kG.2.1 kG.2.2.1 kG.2.2.2).1 (iP.1 h4);have k3:kT (gs ds (mid+m - 1 - x))≤kT (gs ds (mid+m - 1 - h)):=hB.le (by omega) (by omega) (by omega);omega
  have Ef:i=j:=by omega
  subst Ef;have tC:M5 kT ds a m b i:=⟨Ed,ru,by rw [←mq];exact hL,by rw [←mq];exact hR⟩;have RS:=fun l1=>XD (l1:=l1) h1 h2 hA hB tC
  rw [←mq]at RS;have b1:a≤i:=by have:=Ed;unfold o6 at this;split at this<;>omega
  have b2:i≤mid:=by have:=ru;unfold eP at this;split at this<;>omega
  have b3:i≤m:=by have:=ru;unfold eP at this;split at this<;>omega
  have b4:mid+m - i≤b:=by have:=Ed;unfold o6 at this;split at this<;>omega
  refine aY O (aZ (cL O (aa.sub O O O (by omega) (vb 0 O ?_))));refine lC (α:=List TV) (fun _=> [(0,.slice A n c),(1,aiD (a:Int)),(3,aiD (b:Int)),(4,.func (.func 175) #[] #[]),(18,aiD (mid:Int)),(20,aiD (i:Int)),(24,aiD ((mid+m - i:Nat):Int))]) (fun l1 w'=>ve ds l1 i m (mid+m - i)∧RP ds l1 a b∧St w0 w' (dM t A n c l1::ks)) ?_ ?_
  ·have XV:((mid:Int)+ (m:Int) - (i:Int))=((mid+m - i:Nat):Int):=by omega
   rw [XV];refine aQ O ?_;refine bY 181 O (fun h4=>?_) (fun h4=>?_)
   ·refine aa.g O O O (ad O (aa.g O O O (ad O (aa.g O O O (ay O ?_)))));refine aB _ O (fun h5=>?_) (fun h5=>?_)
    ·obtain⟨P,X,Y,S,zD,lP,lX,lY⟩:∃P X Y S:List TV,ds=P++ (X++ (Y++S))∧P.length=i∧X.length=m - i∧Y.length=mid - i:=by
      refine⟨ds.take i,(ds.drop i).take (m - i),(ds.drop m).take (mid - i),(ds.drop m).drop (mid - i),?_,by simp;omega,by simp;omega,by simp;omega⟩;rw [List.take_append_drop,show ds.drop m=(ds.drop i).drop (m - i) by rw [List.drop_drop];congr 1;omega,List.take_append_drop,List.take_append_drop]
     have RT:ve ds (P++ (Y++ (X++S))) i m (mid+m - i):=by
      have:=ve.of P X Y S;rw [←zD,lP,lX,lY]at this
      rwa [show i+ (m - i)=m by omega,show m+ (mid - i)=mid+m - i by omega]at this
     rw [zD]at ao;refine av O (aa.call (afL (P:=P) (X:=X) (Y:=Y) (S:=S) i m (mid+m - i) lP (by omega) (by omega) (by omega) (by omega) hn ao) O O O ?_);rintro _ w4 ⟨rfl,aJ⟩;refine aF O (tQ ?_);exact⟨P++ (Y++ (X++S)),⟨O,O,O,O,O,O,O,ae⟩,RT,⟨by rw [zD];exact afK P X Y S,fun x hx=>RT.out x (by omega)⟩,aJ⟩
    ·refine kD O (tQ ?_);exact⟨ds,⟨O,O,O,O,O,O,O,ae⟩,ve.same ds (by omega) (by omega) (by omega),RP.refl _ _ _,ao⟩
   ·refine ai O O O O O (ai O O O O O (ai O O O O O (ay O ?_)));refine Cd.eV O ?_;refine kD O (tQ ?_);exact⟨ds,⟨O,O,O,O,O,O,O,ae⟩,ve.same ds (by omega) (by omega) (by omega),RP.refl _ _ _,ao⟩
  rintro l1 e w4 ⟨hr,wR,aJ⟩;obtain⟨_,s1,s2,s3,s4,hx⟩:=RS l1 hr;have pR:=wR.len;refine lC (α:=List TV) (fun _=> [(0,.slice A n c),(3,aiD (b:Int)),(4,.func (.func 175) #[] #[]),(18,aiD (mid:Int)),(24,aiD ((mid+m - i:Nat):Int))]) (fun l2 w'=>RP l1 l2 a mid∧SR kT l2 a mid∧St w0 w' (dM t A n c l2::ks)) ?_ ?_
  ·refine aQ O ?_;refine bY 195 O (fun h4=>?_) (fun h4=>?_)
   ·refine aa.g O O O (ad O (aa.g O O O (ad O (aa.g O O O (ay O ?_)))));refine aB _ O (fun h5=>?_) (fun h5=>?_)
    ·refine av O ?_;refine aa.call (ih a i mid (by omega) (by omega) (by omega) (by omega) l1 _ (wR.cap hc) (fun x y q1 q2 q3 q4=>by { rw [hr.out x (.inl q2),hr.left y q3 (by omega)];exact K9 x (y+ (m - i)) q1 (by omega) (by omega) (by omega) }) s1 s2 aJ) O O O ?_;rintro _ w5 ⟨rfl,l2,gX,ox,aK⟩;refine aF O (tQ ?_);exact⟨l2,⟨O,O,O,O,O,ae⟩,gX,ox,aK⟩
    ·have qp:i=mid:=by omega
     refine kD O (tQ ?_);exact⟨l1,⟨O,O,O,O,O,ae⟩,RP.refl _ _ _,qp▸s1,aJ⟩
   ·have qp:a=i:=by omega
    refine ai O O O O O (ai O O O O O (ai O O O O O (ay O ?_)));refine Cd.eV O ?_;refine kD O (tQ ?_);exact⟨l1,⟨O,O,O,O,O,ae⟩,RP.refl _ _ _,qp▸s2,aJ⟩
  rintro l2 e w5 ⟨gX,ox,aK⟩;have vt:=gX.len;have t3:SR kT l2 mid (mid+m - i):=s3.congr fun x h h'=>gX.out x (.inr h)
  have t4:SR kT l2 (mid+m - i) b:=s4.congr fun x h h'=>gX.out x (.inr (by omega))
  have nC:∀l3,RP l2 l3 mid b→SR kT l3 mid b→RP ds l3 a b∧SR kT l3 a b:=fun l3 o0 K8=>
   ⟨(wR.trans gX (a8 _) (by omega)).trans o0 (by omega) (a8 _),XF (by omega) (by omega) (by omega) hx gX ox o0 K8⟩
  refine av O ?_;refine bY 209 O (fun h4=>?_) (fun h4=>?_)
  ·refine aa.g O O O (ad O (aa.g O O O (ad O (aa.g O O O (ay O ?_)))));refine aB _ O (fun h5=>?_) (fun h5=>?_)
   ·refine av O ?_;refine aa.call (ih mid (mid+m - i) b (by omega) (by omega) (by omega) D1 l2 _ (gX.cap (wR.cap hc)) (fun x y q1 q2 q3 q4=>by { rw [gX.out x (.inr q1),gX.out y (.inr (by omega)),hr.right x (by omega) q2,hr.out y (.inr q3)];exact K9 (x - (mid+m - i - m)) y (by omega) (by omega) (by omega) q4 }) t3 t4 aK) O O O ?_;rintro _ w6 ⟨rfl,l3,o0,K8,aR⟩;have:=nC l3 o0 K8;refine aF O (xo ?_);exact⟨O,l3,this.1,this.2,aR⟩
   ·have qp:mid+m - i=b:=by omega
    have:=nC l2 (RP.refl _ _ _) (qp▸t3);refine kD O (xo ?_);exact⟨O,l2,this.1,this.2,aK⟩
  ·have qp:mid=mid+m - i:=by omega
   have:=nC l2 (RP.refl _ _ _) (qp▸t4);refine ai O O O O O (ai O O O O O (ai O O O O O (ay O ?_)));refine Cd.eV O (kD O (xo ?_));exact⟨O,l2,this.1,this.2,aK⟩
def yZ(l:List TV)(n p:Nat):Prop:=∀x y,x<p→p≤y→y<n→mu (gs l x)<mu (gs l y)
theorem yZ.out{l l':List TV}{n a:Nat}(h:yZ l n p)(hp:RP l l' a b)(hb:b≤l.length)(hn:b≤n)(hs:p≤a∨b≤p):yZ l' n p:=fun x y hx hy hyn=>by
 have fx:∃x',gs l' x=gs l x'∧x'<p:=by
  by_cases e:a≤x∧x<b
  ·obtain⟨j,h1,h2,h3⟩:=hp.from hb e.1 e.2;exact⟨j,h3,by omega⟩
  exact⟨x,hp.out x (by omega),hx⟩
 have fy:∃y',gs l' y=gs l y'∧p≤y'∧y'<n:=by
  by_cases e:a≤y∧y<b
  ·obtain⟨j,h1,h2,h3⟩:=hp.from hb e.1 e.2;exact⟨j,h3,by omega,by omega⟩
  exact⟨y,hp.out y (by omega),hy,hyn⟩
 obtain⟨x',e1,h1⟩:=fx;obtain⟨y',e2,h2,h3⟩:=fy;rw [e1,e2];exact h x' y' h1 h2 h3
theorem S8{a k:Nat}(ha:a=k*p)(hq:(k+1)*p=a+p)(j:Nat):j*p≤a∨a+p≤j*p:=by
 rcases Nat.lt_or_ge k j with h | h
 ·right;rw [←hq];exact Nat.mul_le_mul_right p h
 left;rw [ha];exact Nat.mul_le_mul_right p h
theorem adW{a k n:Nat}(ha:a=k*p)(hq:(k+1)*p=a+p)(hn:n≤a+p)(j:Nat):j*p≤a∨n≤j*p:=by
 rcases S8 ha hq j with h | h
 ·exact .inl h
 exact .inr (by omega)
theorem agd{w:World}{A:aiC}{n c:Nat}{ds:List TV}(hn:n≤1000000000000)(hc:∀s∈ds,pH s)(wP:∀x y,x<y→y<n→mu (gs ds x)<mu (gs ds y))(hS:St w0 w (dM t A n c ds::ks)):
 aA prog 220 [.slice A n c,aiD (n:Int),.func (.func 175) #[] #[]] w (fun v w'=>v= .tuple #[]∧∃lU,lU.Perm ds∧SR kT lU 0 n∧St w0 w' (dM t A n c lU::ks)):=by
 have uI:ds.length=n:=(hS.ke 0 O).1;refine bk func220 O ntmps220 O (Al O) (bK O ?_);refine Cd.loop (α:=Nat×List TV) (fun z=> [(0,.slice A n c),(1,aiD (n:Int)),(2,.func (.func 175) #[] #[]),(6,aiD 20),(7,aiD ((z.1*20:Nat):Int)),(8,aiD ((z.1*20+20:Nat):Int))]) (fun z w'=>z.1*20≤n∧z.2.Perm ds∧(∀x,z.1*20≤x→gs z.2 x=gs ds x)∧(∀k,yZ z.2 n (k*20))∧xD kT z.2 n 20 0 (z.1*20)∧St w0 w' (dM t A n c z.2::ks)) (fun z=>n - z.1*20) (0,ds) ⟨O,O,O,O,O,O,ae⟩ ⟨by omega,List.Perm.refl _,fun _ _=>O,fun k x y h1 h2 h3=>wP x y (Nat.lt_of_lt_of_le h1 h2) h3,fun k h h'=>by omega,hS⟩ ?_;rintro⟨k,cu⟩ e w1 ⟨hk,hp,aL,tC,hB,ao⟩;dsimp only at hk hp aL tC hB ao⊢;have hcul:cu.length=n:=by rw [hp.length_eq];exact uI
 have D4:∀s∈cu,pH s:=fun s hs=>hc s (hp.mem_iff.1 hs)
 have sep:∀(j:Nat),j*20<k*20→min (j*20+20) n≤k*20:=fun j hj=>by omega
 refine bK O ?_;refine aB _ O (fun h1=>?_) (fun h1=>?_)
 ·refine av O ?_;refine aa.call (Se (k*20) (k*20+20) (by omega) hk (by omega) D4 (fun x y h2 h3 h4=>by rw [aL x h2,aL y (by omega)];exact wP x y h3 (by omega)) ao) O O O ?_;rintro _ w2 ⟨rfl,F1,gX,ox,ar⟩;refine ad O (aa.add O O O (by omega) (aF O (tQ ?_)));refine⟨(k+1,F1),by show n - (k+1)*20<n - k*20;omega,⟨O,O,O,O,by show Value.int .i64 ((k*20+20:Nat):Int)=aiD (((k+1)*20:Nat):Int);congr 1;omega,by show Value.int .i64 (((k*20+20:Nat):Int)+20)=aiD (((k+1)*20+20:Nat):Int);congr 1;omega,ae⟩,by show(k+1)*20≤n;omega,gX.perm.trans hp,fun x hx=>by { have hx:(k+1)*20≤x:=hx;rw [gX.out x (.inr (by omega)),aL x (by omega)] },fun j=> (tC j).out gX (by omega) (by omega) (by omega),fun j hj oX=>?_,ar⟩;have oX:j*20< (k+1)*20:=oX
  by_cases e:j=k
  ·subst e;rw [Nat.min_eq_left (by omega)];exact ox
  exact(hB j hj (by omega)).congr fun x h h'=>gX.out x (.inl (by omega))
 refine aY O (aZ (cL O ?_));refine aa.call (Se (k*20) n (a8 _) hk (by omega) D4 (fun x y h2 h3 h4=>by rw [aL x h2,aL y (by omega)];exact wP x y h3 h4) ao) O O O ?_;rintro _ w2 ⟨rfl,F1,gX,ox,ar⟩;have si:xD kT F1 n 20 0 n:=fun j hj oX=>by
  by_cases e:j=k
  ·subst e;rw [Nat.min_eq_right (by omega)];exact ox
  exact(hB j hj (by omega)).congr fun x h h'=>gX.out x (.inl (by omega))
 refine ay O ?_;refine Cd.loop (α:=Nat×List TV) (fun z=> [(0,.slice A n c),(1,aiD (n:Int)),(2,.func (.func 175) #[] #[]),(6,aiD (z.1:Int))]) (fun z w'=> (0<z.1∧z.1≤2*n+20)∧z.2.Perm ds∧(∀k,yZ z.2 n (k*z.1))∧xD kT z.2 n z.1 0 n∧St w0 w' (dM t A n c z.2::ks)) (fun z=>2*n+20 - z.1) (20,F1) ⟨O,O,O,O,ae⟩ ⟨⟨by show 0<20;omega,by show 20≤2*n+20;omega⟩,gX.perm.trans hp,fun j=> (tC j).out gX (by omega) (a8 _) (by show j*20≤k*20∨n≤j*20;omega),si,ar⟩ ?_;rintro⟨s,c3⟩ e w3 ⟨⟨pA,hsn⟩,o0,Kl,kO,az⟩;dsimp only at pA hsn o0 Kl kO az⊢;refine bK O ?_;refine aB _ O (fun h2=>?_) (fun h2=>?_)
 ·refine av O (aa.mul O O O (by omega) (ay O ?_));obtain⟨p,hp⟩:∃p:Nat,p=2*s:=⟨_,rfl⟩;have Ca:((2:Int)* (s:Int))=(p:Int):=by omega
  rw [Ca];refine Cd.loop (α:=Nat×Nat×List TV) (fun z=> [(0,.slice A n c),(1,aiD (n:Int)),(2,.func (.func 175) #[] #[]),(6,aiD (s:Int)),(7,aiD (z.2.1:Int)),(8,aiD ((z.2.1+p:Nat):Int))]) (fun z w'=>z.2.1=z.1*p∧z.2.1≤n∧z.2.2.Perm ds∧(∀k,yZ z.2.2 n (k*p))∧(∀k,z.2.1≤k*s→yZ z.2.2 n (k*s))∧xD kT z.2.2 n p 0 z.2.1∧xD kT z.2.2 n s z.2.1 n∧St w0 w' (dM t A n c z.2.2::ks)) (fun z=>n - z.2.1) (0,0,c3) ⟨O,O,O,O,O,by show Value.int .i64 (p:Int)=aiD ((0+p:Nat):Int);rw [Nat.zero_add],ae⟩ ⟨(Nat.zero_mul p).symm,aW _,o0,fun k=>by { have:=Kl (2*k);rwa [show 2*k*s=k*p by rw [hp,Nat.mul_comm 2 k,Nat.mul_assoc]]at this },fun k _=>Kl k,fun k h h'=>absurd h' (jk _),kO,az⟩ ?_;rintro⟨k,a,c4⟩ e w4 ⟨ha,wz,sG,GS,GU,JH,Gv,aJ⟩;dsimp only at ha wz sG GS GU JH Gv aJ⊢;have hc4l:c4.length=n:=by rw [sG.length_eq];exact uI
  have QC:∀s∈c4,pH s:=fun s hs=>hc s (sG.mem_iff.1 hs)
  have q1:2*k*s=a:=by rw [ha,hp,Nat.mul_comm 2 k,Nat.mul_assoc]
  have q2:(2*k+1)*s=a+s:=by rw [Nat.succ_mul,q1]
  have q3:(k+1)*p=a+p:=by rw [Nat.succ_mul,ha]
  have BM:a<n→SR kT c4 a (min (a+s) n):=fun h=>by
   have:=Gv (2*k) (by rw [q1];exact a8 _) (by rw [q1];exact h)
   rwa [q1]at this
  have DI:a+s<n→SR kT c4 (a+s) (min (a+s+s) n):=fun h=>by
   have:=Gv (2*k+1) (by rw [q2];omega) (by rw [q2];exact h)
   rwa [q2]at this
  refine bK O ?_;refine aB _ O (fun h3=>?_) (fun h3=>?_)
  ·have nz:a+p≤n:=by omega
   have m1:=BM (by omega);have m2:=DI (by omega);rw [Nat.min_eq_left (by omega)]at m1 m2;rw [show a+s+s=a+p by omega]at m2;refine av O (aa.add O O O (by omega) (ad O ?_));refine aa.call (Uw (by omega) p a (a+s) (a+p) (by omega) (by omega) (by omega) nz c4 _ QC (fun x y h4 h5 h6 h7=>by { have h8:=GU (2*k+1) (by rw [q2];omega);rw [q2]at h8;exact h8 x y h5 h6 (by omega) }) m1 m2 aJ) O O O ?_;rintro _ w5 ⟨rfl,c5,tL,EA,aK⟩;refine ad O (aa.mul O O O (by omega) (aa.add O O O (by omega) (aF O (tQ ?_))));refine⟨(k+1,a+p,c5),by show n - (a+p)<n - a;omega,⟨O,O,O,O,O,by show Value.int .i64 (((a+p:Nat):Int)+ (2:Int)* (s:Int))=aiD ((a+p+p:Nat):Int);congr 1;omega,ae⟩,q3.symm,nz,tL.perm.trans sG,fun j=> (GS j).out tL (by omega) nz (S8 ha q3 j),fun j hj=> (GU j (by have hj:a+p≤j*s:=hj;omega)).out tL (by omega) nz (.inr hj),fun j hj oX=>?_,fun j hj oX=>?_,aK⟩
   ·have oX:j*p<a+p:=oX
    by_cases e:j=k
    ·subst e;rw [←ha,Nat.min_eq_left nz];exact EA
    have yj:j<k+1:=by rw [←q3]at oX;exact Nat.lt_of_mul_lt_mul_right oX
    have h6:j*p<k*p:=Nat.mul_lt_mul_of_pos_right (by omega) (by omega);have h7:=S7 h6;exact(JH j (aW _) (by rw [ha];exact h6)).congr fun x h h'=>tL.out x (.inl (by omega))
   have hj:a+p≤j*s:=hj;exact(Gv j (by omega) oX).congr fun x h h'=>tL.out x (.inr (by omega))
  have nz:n<a+p:=by omega
  have key:∀c5:List TV,RP c4 c5 a n→SR kT c5 a n→xD kT c5 n p 0 n:=fun c5 tL EA j hj oX=>by
   by_cases e:j=k
   ·subst e;rw [←ha,Nat.min_eq_right (by omega)];exact EA
   have yj:j<k+1:=by
    have:j*p< (k+1)*p:=by rw [q3];omega
    exact Nat.lt_of_mul_lt_mul_right this
   have h6:j*p<k*p:=Nat.mul_lt_mul_of_pos_right (by omega) (by omega);have h7:=S7 h6;exact(JH j (aW _) (by rw [ha];exact h6)).congr fun x h h'=>tL.out x (.inl (by omega))
  refine aY O (aZ (cL O (aa.add O O O (by omega) (ay O ?_))));refine aB _ O (fun h4=>?_) (fun h4=>?_)
  ·have m1:=BM (by omega);have m2:=DI (by omega);rw [Nat.min_eq_left (by omega)]at m1;rw [Nat.min_eq_right (by omega)]at m2;refine av O ?_;refine aa.call (Uw (by omega) n a (a+s) n (by omega) (by omega) (by omega) (a8 _) c4 _ QC (fun x y h4 h5 h6 h7=>by { have h8:=GU (2*k+1) (by rw [q2];omega);rw [q2]at h8;exact h8 x y h5 h6 h7 }) m1 m2 aJ) O O O ?_;rintro _ w5 ⟨rfl,c5,tL,EA,aK⟩;refine ad O (aa.mul O O O (by omega) (aF O (tQ ?_)));exact⟨(p,c5),by show 2*n+20 - p<2*n+20 - s;omega,⟨O,O,O,by show Value.int .i64 ((s:Int)*2)=aiD (p:Int);congr 1;omega,ae⟩,⟨by show 0<p;omega,by show p≤2*n+20;omega⟩,tL.perm.trans sG,fun j=> (GS j).out tL (by omega) (a8 _) (adW ha q3 (by omega) j),key c5 tL EA,aK⟩
  have hs4:SR kT c4 a n:=by
   by_cases h5:a<n
   ·have:=BM h5
    rwa [Nat.min_eq_right (by omega)]at this
   exact SR.one _ _ (by omega)
  refine av O (aa.mul O O O (by omega) (aF O (tQ ?_)));exact⟨(p,c4),by show 2*n+20 - p<2*n+20 - s;omega,⟨O,O,O,by show Value.int .i64 ((s:Int)*2)=aiD (p:Int);congr 1;omega,ae⟩,⟨by show 0<p;omega,by show p≤2*n+20;omega⟩,sG,GS,key c4 (RP.refl _ _ _) hs4,aJ⟩
 refine aY O (aZ (C8 O ?_));refine xo ?_;exact⟨O,c3,o0,kO.done (by omega),az⟩
theorem af5{w:World}{A:aiC}{n c:Nat}{ds:List TV}(hn:n≤1000000000000)(hc:∀s∈ds,pH s)(wP:∀x y,x<y→y<n→mu (gs ds x)<mu (gs ds y))(hS:St w0 w (dM t A n c ds::ks)):
 aA prog 174 [.slice A n c,.func (.func 175) #[] #[]] w (fun v w'=>v= .tuple #[]∧∃lU,lU.Perm ds∧SR kT lU 0 n∧St w0 w' (dM t A n c lU::ks)):=by
 refine bk func174 O ntmps174 O (Al O) ?_;refine aQ O (aa.len O O (ad O ?_));refine aa.call (agd hn hc wP hS) O O O ?_;rintro _ w1 ⟨rfl,lU,h1,h2,h3⟩;refine aF O (xo ?_);exact⟨O,lU,h1,h2,h3⟩
end Go.Proofs.YtopgfgdgfjddpaaGreatDoor.Vc.TS
namespace Go.Proofs.YtopgfgdgfjddpaaGreatDoor.Vc
open Go.RowKit Tryz
structure y7(w:World)(A8:aiC)(X:List Int)(N:Nat)(AD:aiC)(rs:List aG)(B:aiB):Prop where
 len:X.length=N+2
 nn:N≤500
 rk:bS w A8 (N+2) X
 bl:br w AD N rs B
 NV:B.length=N
 sa:∀e:Int,0≤e→e< (N:Int)→SA (gl B e)∧(gl B e).length≤500
theorem y7.later{w w':World}{A8:aiC}{X:List Int}{N:Nat}{AD:aiC}{rs:List aG}{B:aiB}(h:y7 w A8 X N AD rs B)(hb:Below w.heap.size w w'):y7 w' A8 X N AD rs B:=⟨h.len,h.nn,h.rk.later hb,h.bl.later hb,h.NV,h.sa⟩
abbrev Dv(A8:aiC)(m c8:Nat)(q:Int)(AR:aiC)(r cR:Nat)(AD:aiC)(N cD:Nat):List Value:=[.slice A8 m c8,aiD q,.slice AR r cR,.slice AD N cD]
theorem Sl(P A8:aiC)(c8:Nat)(q:Int)(AR:aiC)(r cR:Nat)(AD:aiC)(N cD:Nat)(X:List Int)(rs:List aG)(B:aiB)(a b:Int)(w:World)(hP:Rd w P 4 (fun j=> (Dv A8 (N+2) c8 q AR r cR AD N cD).getD j undef))(hF:y7 w A8 X N AD rs B)(ha:0≤a∧a< (N:Int)+2)(hb:0≤b∧b< (N:Int)+2):
 aA prog 177 [.pointer P,aiD a,aiD b] w (fun v w'=>v= .bool (decide (dS N B a b))∧w'=w):=by
 have qn:=hF.nn;have Z1:=hF.NV;have Hl:=hF.sa (b - 1);have JV:Rd w (aq P 1) 3 (fun j=> [Value.int .i64 q,.slice AR r cR,.slice AD N cD].getD j undef):=(hP.behind (o:=1) (m:=3) (by omega)).congr fun j hj=>by
  rcases(show j=0∨j=1∨j=2 by omega)with rfl | rfl | rfl<;>rfl
 have yes:dS N B a b→Value.bool true= .bool (decide (dS N B a b)):=fun h=>ax Value.bool (dX h).symm
 have no:¬dS N B a b→Value.bool false= .bool (decide (dS N B a b)):=fun h=>ax Value.bool (cd h).symm
 refine bk func177 O ntmps177 O (cK O) (aQ O ?_);refine bY 10 O (fun h1=>?_) (fun h1=>?_)
 ·refine ai O O O O O (ai O O O O O (ad O (ai O O O O O (ai O O O O O (ai O O O O O (ai O O O O O (ai O O O O O (ai O O O O O (ai O O O O O (ai O O O O O (ad O ?_)))))))))));refine ai O O O O O (ai O O O O O (ai O O O O O (ai O O O O O (ai O O O O O (ai O O O O O (ai O O O O O (ai O O O O O (ai O O O O O (bM O O O O (bM O O O O (ai O O O O O ?_)))))))))));refine ai O O O O O (bM O O O O (bM O O O O (bM O O O O (bM O O O O (bM O O O O (bM O O O O (bM O O O O (bM O O O O (ai O O O O O (bh O ?_))))))))));refine cM O ?_;exact⟨yes (.inl h1),O⟩
 refine aa.g O O O (ad O (aa.g O O O (ad O ?_)));refine bY 14 O (fun h2=>?_) (fun h2=>?_)
 ·refine ai O O O O O (ai O O O O O (ai O O O O O (ai O O O O O (ai O O O O O (ai O O O O O (ai O O O O O (ai O O O O O (ad O (ai O O O O O (ai O O O O O (ai O O O O O ?_)))))))))));refine ai O O O O O (ai O O O O O (ai O O O O O (ai O O O O O (ai O O O O O (ai O O O O O (bM O O O O (bM O O O O (ai O O O O O (ai O O O O O (bM O O O O (bM O O O O ?_)))))))))));refine bM O O O O (bM O O O O (bM O O O O (bM O O O O (bM O O O O (bM O O O O (ai O O O O O (bh O ?_)))))));refine cM O ?_;exact⟨yes (.inr (.inl h2)),O⟩
 refine aa.g O O O (ad O (aa.g O O O (ad O (aa.g O O O ?_))));refine mh hP (by decide) O O ?_;refine aa.g O O O (aH hP O O O O inferInstance (aa.g O O O (aM (j:=0) hP (by exact ax Value.pointer O) O O O O ?_)));refine aa.g O O O (aa.len O O (aa.g O O O (aa.sub O O O (by omega) (aa.g O O O (ad O ?_)))));refine bY 24 O (fun h3=>?_) (fun h3=>?_)
 ·refine ai O O O O O (ai O O O O O (ai O O O O O (ai O O O O O (ai O O O O O (ai O O O O O (ai O O O O O (ai O O O O O (ai O O O O O (bM O O O O (bM O O O O (ai O O O O O ?_)))))))))));refine ai O O O O O (bM O O O O (bM O O O O (bM O O O O (bM O O O O (bM O O O O (bM O O O O (bM O O O O (bM O O O O (ai O O O O O (bh O ?_))))))))));refine cM O ?_;exact⟨yes (.inr (.inr (.inl (by omega)))),O⟩
 refine aa.g O O O (ad O (aa.g O O O (ad O (aa.g O O O ?_))));refine mh hP (by decide) O O ?_;refine aa.g O O O (aH hP O O O O inferInstance (aa.g O O O (aM (j:=0) hP (by exact ax Value.pointer O) O O O O ?_)));refine aa.g O O O (aa.len O O (aa.g O O O (aa.sub O O O (by omega) (aa.g O O O (ad O (aa.g O O O (ad O ?_)))))));refine bY 33 O (fun h4=>?_) (fun h4=>?_)
 ·refine aa.g O O O (ad O (aa.g O O O (ad O (aa.g O O O (ad O (aa.g O O O (ad O ?_)))))));refine bY 37 O (fun h5=>?_) (fun h5=>?_)
  ·refine aa.g O O O (ad O (aa.g O O O ?_));refine mh hP (by decide) O O ?_;refine aa.g O O O (aH hP O O O O inferInstance ?_);refine aa.g O O O (ad O (aa.g O O O (aa.sub O O O (by omega) (aa.g O O O (ad O (aa.g O O O (aa.sub O O O (by omega) (aa.g O O O ?_))))))));refine aa.call (Sg (aq P 1) AR AD cR r cD q N rs B (a - 1) (b - 1) _ JV hF.bl Z1 (by omega) (Hl (by omega) (by omega)).1 (by have:=(Hl (by omega) (by omega)).2;omega)) O O O ?_;rintro _ _ ⟨rfl,rfl⟩;refine aa.g O O O (bh O ?_);refine cM O ?_;refine⟨ax Value.bool (jo.2 ⟨fun h=> .inr (.inr (.inr ⟨by omega,by omega,by omega,by omega,h⟩)),fun h=>?_⟩),O⟩;rcases h with h | h | h | h
   ·exact absurd h h1
   ·exact absurd h h2
   ·omega
   exact h.2.2.2.2
  refine ai O O O O O (ai O O O O O (ai O O O O O (ai O O O O O (ai O O O O O (ai O O O O O (ai O O O O O (ai O O O O O (aa.g O O O (bh O ?_)))))))));refine cM O ?_;refine⟨no fun h=>?_,O⟩;rcases h with h | h | h | h
  ·exact h1 h
  ·exact h2 h
  ·omega
  omega
 refine ai O O O O O (ai O O O O O (aa.g O O O (ad O (aa.g O O O (ad O (ai O O O O O (ai O O O O O (ai O O O O O (ai O O O O O (ai O O O O O (ai O O O O O ?_)))))))))));refine ai O O O O O (ai O O O O O (aa.g O O O (bh O ?_)));refine cM O ?_;refine⟨no fun h=>?_,O⟩;rcases h with h | h | h | h
 ·exact h1 h
 ·exact h2 h
 ·omega
 omega
end Go.Proofs.YtopgfgdgfjddpaaGreatDoor.Vc
