/-
 Lemmas. Conditions: as each states them.
-/
import Derived.Test.YtkccgdhcpplblaaGreatDoorZh
set_option maxHeartbeats 8000000
namespace Go.Proofs.YtkccgdhcpplblaaGreatDoor.Vc
open Go.RowKit Tryz
variable{xs R:ai}{x i:Int}
def uset(u:Nat->ad)(k:Nat)(v:ad):Nat->ad:=fun j=>cond (Nat.beq j k) v (u j)
theorem aoe{u:Nat->ad}{k:Nat}{v:ad}(h:u k=v):u=uset u k v:=by
 funext j;unfold uset;cases hb:Nat.beq j k with
 | true=>rw [pk hb,h];rfl
 | false=>rfl
theorem abY(A:aj)(N c:Nat)(rs:List aO)(fl:ah)(n:Nat)(w:aa)(hT:lO w)(hM:bF w A N rs fl)(hN:N<=401)(hn:n<=5)(hl:∀x∈fl,x.length=n/\∀e∈x,0<=e/\e<=1000000)(xp:fl.Nodup):
 aJ prog 169 [.slice A N c] w (fun v w'=>∃A' n' c',v= .slice A' n' c'/\(A'.isNone=true↔Bq n fl)/\St w w' []):=by
 have kc:=hM.len;have Ed:∀f:Nat,f<N->gl fl f∈fl:=fun f hf=>by rw [bR (by omega)];exact dK _
 have wg:∀x∈fl,x.length=n/\∀e∈x,0<=e:=fun x hx=> ⟨(hl x hx).1,fun e he=> ((hl x hx).2 e he).1⟩
 refine bC func169 O ntmps169 O (df O) (bh O (Dh (St.refl w) O ?_));intro g w1 aH;have aH:St w w1 (fN 214 g (eC y7 EJ ([]:List nO))::(qz 2 ([]:List nO)++ [])):=aH;refine ar O (aL (Hr _ _ _ _) O ?_);rintro _ w1 ⟨rfl,rfl⟩;refine aC O ?_;refine Cd.loop (α:=Nat×List nO) (fun z=> [(0,.slice A N c),(3,.map (some g)),(12,ak N),(13,ak (z.1:Int))])
  (fun z w'=>z.1<=N/\(∀l u,dS z.2 l=some u->kM N (jV n fl l) N u.2)/\(∀a b:Nat,a<z.1->a<b->b<N->jG n fl (fun k=>gi (gl fl a) k=gi (gl fl b) k) a b)/\St w w' (fN 214 g (eC y7 EJ z.2)::(qz 2 z.2++ []))) (fun z=>N - z.1) (0,[]) ⟨rfl,rfl,rfl,rfl,au⟩ ⟨bg _,fun l u h=>by simp [dS]at h,fun a b h=>absurd h (oF _),aH⟩ ?_
 clear aH;rintro⟨a,M⟩ e w2 ⟨ha,yn,pC,hS⟩;dsimp only at ha yn pC hS|-;refine bL O (aM _ O (fun h1=>?_) (fun h1=>?_))
 ·have D6:a<N:=by omega
  refine aA O (aI O (aC O ?_));refine Cd.loop (α:=Nat×List nO) (fun z=> [(0,.slice A N c),(3,.map (some g)),(12,ak N),(13,ak a),(4,ak a),(5,ak (z.1:Int))])
   (fun z w'=> (a<z.1/\z.1<=N)/\(∀l u,dS z.2 l=some u->kM N (jV n fl l) N u.2)/\(∀b:Nat,a<b->b<z.1->jG n fl (fun k=>gi (gl fl a) k=gi (gl fl b) k) a b)/\St w w' (fN 214 g (eC y7 EJ z.2)::(qz 2 z.2++ []))) (fun z=>N - z.1) (a+1,M) ⟨rfl,rfl,rfl,rfl,rfl,rfl,au⟩ ⟨⟨Nat.lt_succ_self _,D6⟩,yn,fun b h h'=>by omega,hS⟩ ?_
  clear hS yn;rintro⟨b,M⟩ e w3 ⟨⟨eA,Jp⟩,yn,Jy,hS⟩;dsimp only at eA Jp yn Jy hS|-;refine bh O (aL (Hr _ _ _ _) O ?_);rintro _ w3 ⟨rfl,rfl⟩;refine aC O (aM _ O (fun h2=>?_) (fun h2=>?_))
  ·have hb:b<N:=by omega
   have BW:=hS.b7 hM;have vj:=BW.at_ (i:=(a:Int)) am am;have tq:=BW.at_ (i:=(b:Int)) am am;have NX:=hl _ (Ed a D6);have hlB:=hl _ (Ed b hb);have JR:(rg rs a).n=n:=by rw [<-vj.1];exact NX.1
   have hnb:(rg rs b).n=n:=by rw [<-tq.1];exact hlB.1
   have mo:=abw (n:=n) wg (show a<fl.length by omega) (show b<fl.length by omega);have de:(oL (gl fl a) (gl fl b)).length=n:=by rw [DG];exact NX.1
   have Nw:∀x∈oL (gl fl a) (gl fl b),-1<=x/\x<=1000000:=fun x hx=>by
    obtain⟨k,hk,rfl⟩:=dF.1 hx;have hk:=ig.1 hk
    split
    ·have:=NX.2 _ (gi_in hk);omega
    ·omega
   refine dA O ?_;refine dU [xS (A) (N) (c),xI ((a:Int)),xP (ay (A) ((a:Int)).toNat),xS ((rg (rs) ((a:Int))).a) ((rg (rs) ((a:Int))).n) ((rg (rs) ((a:Int))).c),xS (A) (N) (c),xI ((b:Int)),xP (ay (A) ((b:Int)).toNat),xS ((rg (rs) ((b:Int))).a) ((rg (rs) ((b:Int))).n) ((rg (rs) ((b:Int))).c),.pr (fun v w'=>∃A6 c6,v= .slice A6 n c6/\cL w' A6 n (oL (gl fl a) (gl fl b))),.pr (fun v w'=>∃A6 c6,v= .slice A6 n c6/\cL w' A6 n (oL (gl fl a) (gl fl b)))] rfl (lx (lx (lx (lx (lx (lx (lx (lx (cH.2 ⟨Yd.cJ (fun v w w' h hb=>by obtain⟨A6,c6,hv,hT⟩:=h;exact⟨A6,c6,hv,hT.aq hb⟩),(cH.2 ⟨Yd.cJ (fun v w w' h hb=>by obtain⟨A6,c6,hv,hT⟩:=h;exact⟨A6,c6,hv,hT.aq hb⟩),(fun _ h=>by cases h)⟩)⟩))))))))) ?_ ?_
   ·refine⟨Dr O,Dr O,fun _ _ hb _ _=>aD (BW.top.aq hb).2 O Az,fun _ _ hb _ _=>b9 (BW.top.aq hb) O Az,Dr O,Dr O,fun _ _ hb _ _=>aD (BW.top.aq hb).2 O Az,fun _ _ hb _ _=>b9 (BW.top.aq hb) O Az,?_,?_,au⟩
    ·intro e1 w1 hb hp aU;refine aL (Si (rg rs a).a (rg rs b).a (rg rs a).n (rg rs a).c (rg rs b).n (rg rs b).c (gl fl a) (gl fl b) _ (vj.aq hb) (tq.aq hb) am am) O ?_;rintro _ w9 ⟨A6,c6,rfl,av⟩;refine ao.n ?_;exact eP.dn av.below ⟨A6,c6,by rw [de],by have h9:=av.bz 0 O;rw [de]at h9;exact h9⟩
    ·intro e1 w1 hb hp aU;obtain⟨A6,c6,h32,hT⟩:=(hp 8 an rfl _ _ rfl rfl);refine lM O (by exact h32) O (ao.n ?_);exact eP.dn (Below.refl _ _) ⟨A6,c6,O,hT⟩
   intro u w4 oU hu;obtain⟨A6,c6,h6,iJ⟩:=hu 9 _ rfl;rw [aoe h6];have aX:=hS.aq oU;generalize oW:oL (gl fl a) (gl fl b)=cm at*;clear hu hS BW vj tq;refine jD O ?_;refine aL (CE A6 n c6 cm _ (hT.aq aX.below) iJ (fun x hx=>by have:=Nw x hx;omega) am) O ?_;rintro _ w5 ⟨rfl,av⟩;have ba:=aX.aq av.below;have iJ:=iJ.aq av.below;clear av aX;refine ar O ?_;refine Z1 (v:= .slice (jv M cm).a (jv M cm).n (jv M cm).c) EE (x:=cm) (ba.CU 0 rfl) rfl rfl (by unfold jv;cases dS M cm<;>rfl) rfl ?_;refine ar O ?_
   first | refine fv rfl rfl ?_ | refine gz rfl rfl ?_
   refine aC O ?_;cases NK:dS M cm with
   | none => --dup 2
    refine Cd.gu O (aA O (aL (akK A N c rs fl n A6 c6 cm _ (hT.aq ba.below) (ba.b7 hM) iJ hN hn hl xp) O ?_));rintro _ w6 ⟨A8,L,rfl,hL,av⟩;have bo:=ba.call av;refine ar O (Di O EE 1 (a:=cm) (u:=(⟨A8,N,N⟩,L)) bo O O O O ?_);intro w7 bK;have bS:cL w7 A8 N L:=bK.bz 0 O;have cj:St w w7 (fN 214 g (eC y7 EJ (fj M cm (⟨A8,N,N⟩,L)))::(qz 2 (fj M cm (⟨A8,N,N⟩,L))++ [])):=Rm (M:=M) (x:=cm) (u:=(⟨A8,N,N⟩,L)) (pre:=[_]) (by rw [IV NK];exact bK);have aef:∀l u,dS (fj M cm (⟨A8,N,N⟩,L)) l=some u->kM N (jV n fl l) N u.2:=fun l u h=>by
     rw [FW]at h
     split at h
     ·rename_i e;subst e;injection h with h
      subst h;exact hL
     ·exact yn l u h
    clear bK bo ba av iJ;have D2:=hL.1;have cn:=bS.1;have Gm:=hL.done (Fj n fl cm |>fun h=>kc▸h) mo.1 mo.2.1;refine aC O (dU [xS (A8) (N) (N),xI ((a:Int)),xP (ay (A8) ((a:Int)).toNat),xI (gi (L) ((a:Int))),xS (A8) (N) (N),xI ((b:Int)),xP (ay (A8) ((b:Int)).toNat),xI (gi (L) ((b:Int))),xB (decide (¬(gi (L) ((a:Int)))=(gi (L) ((b:Int)))))] O (eG O) ?_ ?_)
    ·exact⟨Dr O,Dr O,fun _ _ hb _ _=>aD (bS.aq hb).2 O Az,fun _ _ hb _ _=>aY (bS.aq hb) O Az,Dr O,Dr O,fun _ _ hb _ _=>aD (bS.aq hb).2 O Az,fun _ _ hb _ _=>aY (bS.aq hb) O Az,Dr O,au⟩
    intro u w9 oV _;have bT:=cj.aq oV;refine eS O (aM _ O (fun h3=>?_) (fun h3=>?_))
    ·refine aA O (eZ [(a:Int),(b:Int)] bT O O an an O O fun A9 dY bW=>bH O (fB (fe (fB (fe ?_)))));refine gJ O ⟨A9,2,2,O,⟨fun h=>?_,fun h=>?_⟩,bW.none⟩
     ·rw [Fw (bW.bz 0 rfl).2 (by decide)]at h;cases h
     ·exact absurd (Gm.2 (mo.2.2.2 (h a b eA am))) h3
    ·have dp:=mo.2.2.1 (Gm.1 (jR.1 h3));refine aA O (aI O (aT O (tQ ?_)));exact⟨(b+1,fj M cm (⟨A8,N,N⟩,L)),by show N - (b+1)<N - b;omega,(aqv O),⟨Nat.lt_succ_of_lt eA,hb⟩,aef,fun b' h4 h5=>by
      by_cases e9:b'=b
      ·subst e9;exact dp
      ·exact Jy b' h4 (by have h5:b'<b+1:=h5;omega),bT⟩
   | some u0=>
    have hL:kM N (jV n fl cm) N (ka M cm):=by
     rw [(ME NK).2];exact yn cm u0 NK
    have bS:cL w5 (jv M cm).a (jv M cm).n (ka M cm):=Lo (pre:=[_]) (x:=cm) ba;refine Cd.fg O ?_;have D2:=hL.1;have cn:=bS.1;have Gm:=hL.done (Fj n fl cm |>fun h=>kc▸h) mo.1 mo.2.1;refine dA O (dU [xS ((jv M cm).a) ((jv M cm).n) ((jv M cm).c),xI ((a:Int)),xP (ay ((jv M cm).a) ((a:Int)).toNat),xI (gi (ka M cm) ((a:Int))),xS ((jv M cm).a) ((jv M cm).n) ((jv M cm).c),xI ((b:Int)),xP (ay ((jv M cm).a) ((b:Int)).toNat),xI (gi (ka M cm) ((b:Int))),xB (decide (¬(gi (ka M cm) ((a:Int)))=(gi (ka M cm) ((b:Int)))))] O (eG O) ?_ ?_)
    ·exact⟨Dr O,Dr O,fun _ _ hb _ _=>aD (bS.aq hb).2 O Az,fun _ _ hb _ _=>aY (bS.aq hb) O Az,Dr O,Dr O,fun _ _ hb _ _=>aD (bS.aq hb).2 O Az,fun _ _ hb _ _=>aY (bS.aq hb) O Az,Dr O,au⟩
    intro u w9 oV _;have bT:=ba.aq oV;refine eS O (aM _ O (fun h3=>?_) (fun h3=>?_))
    ·refine aA O (eZ [(a:Int),(b:Int)] bT O O an an O O fun A9 dY bW=>bH O (fB (fe (fB (fe ?_)))));refine gJ O ⟨A9,2,2,O,⟨fun h=>?_,fun h=>?_⟩,bW.none⟩
     ·rw [Fw (bW.bz 0 rfl).2 (by decide)]at h;cases h
     ·exact absurd (Gm.2 (mo.2.2.2 (h a b eA am))) h3
    ·have dp:=mo.2.2.1 (Gm.1 (jR.1 h3));refine aA O (aI O (aT O (tQ ?_)));exact⟨(b+1,M),by show N - (b+1)<N - b;omega,(aqv O),⟨Nat.lt_succ_of_lt eA,hb⟩,yn,fun b' h4 h5=>by
      by_cases e9:b'=b
      ·subst e9;exact dp
      ·exact Jy b' h4 (by have h5:b'<b+1:=h5;omega),bT⟩
  ·have rV:b=N:=by omega
   refine bp O (bt (cS O (aI O (aT O (tQ ?_)))));exact⟨(a+1,M),by show N - (a+1)<N - a;omega,(aqv O),D6,yn,fun a' b' h3 h4 h5=>by
    by_cases e9:a'=a
    ·subst e9;exact Jy b' h4 am
    ·exact pC a' b' (by have h3:a'<a+1:=h3;omega) h4 h5,hS⟩
 ·have yr:a=N:=by omega
  refine bp O (bt (gw O ?_));exact gJ O ⟨none,0,0,O,⟨fun _ a' b' h3 h4=>pC a' b' am h3 am,fun _=>O⟩,hS.none⟩
theorem Kz{e:Int}:e∈Bd xs x↔(0<=e/\e<xs.length)/\gi xs e=x:=by
 unfold Bd;rw [gy,ky,kB]
theorem KL{n:Int}{e:Int}(h0:0<=i)(h1:i<n):e∈pY n R (i - 1)↔zB R i e:=by
 unfold pY zB
 split
 ·rw [Kz];exact⟨fun h=> .inr ⟨h.1,am,h.2⟩,fun h=>h.elim (fun h=>by omega) fun h=> ⟨h.1,h.2.2⟩⟩
 rw [gj];exact⟨fun h=> .inl ⟨h,am⟩,fun h=>h.elim (fun h=>h.1) fun h=>by omega⟩
theorem KJ{n:Int}{f:Int}(h0:0<=i)(h1:i<n):f∈pY n R (i+1)↔zA n R i f:=by
 unfold pY zA
 split
 ·rw [Kz];exact⟨fun h=> .inr ⟨h.1,am,h.2⟩,fun h=>h.elim (fun h=>by omega) fun h=> ⟨h.1,h.2.2⟩⟩
 rw [gj];exact⟨fun h=> .inl ⟨h,am⟩,fun h=>h.elim (fun h=>h.1) fun h=>by omega⟩
theorem al6{n:Int}(h0:0<=i)(h1:i<n):pY n R i=Bd R i:=by
 unfold pY;rw [aB (by omega)]
theorem Qb{n:Int}(h:R.length<=500):(pY n R i).length<=500:=by
 unfold pY
 split
 ·refine mS (sL _ _) ?_;rw [bY,fS,rA];exact h
 exact(by decide:1<=500)
theorem XS{n:Int}{e:Int}(h:e∈pY n R i):e= -1\/(0<=e/\e<R.length):=by
 unfold pY at h
 split at h
 ·exact .inr (Kz.1 h).1
 exact .inl (gj.1 h)
def tP(P:Int->Prop)[DecidablePred P](xs:ai)(q:Nat):Nat:=((xs.take q).filter fun x=>decide (P x)).length
section
variable {P:Int->Prop} [DecidablePred P] {xs:ai} {q:Nat}
theorem LR:tP P xs q<=q:=by
 unfold tP;refine mS (sL _ _) ?_;rw [ns];omega
theorem LU(h:q<xs.length)(hp:P (gi xs q)):tP P xs (q+1)=tP P xs q+1:=by
 unfold tP;rw [E0 h,sK,ck];simp [hp]
theorem LS(h:q<xs.length)(hp:¬P (gi xs q)):tP P xs (q+1)=tP P xs q:=by
 unfold tP;rw [E0 h,sK,ck];simp [hp]
end
def qI(B:ah)(e f x:Int):Prop:=(e<0\/e∈gl B x)/\(f<0\/x∈gl B f)
instance (B:ah)(e f:Int):DecidablePred (qI B e f):=fun x=>by unfold qI;infer_instance
theorem abJ{R:ai}{B:ah}{i e f:Int}:tP (qI B e f) (Bd R i) (Bd R i).length=(nN R B i e f).length:=by
 unfold tP nN Bd;rw [List.take_length,List.filter_filter]
 congr 1
 refine List.filter_congr fun x _=>?_
 rw [<-Bool.decide_and];refine ju.2 ?_;unfold qI;exact⟨fun h=> ⟨h.2,h.1⟩,fun h=> ⟨h.2,h.1⟩⟩
theorem acj(n:Int)(A D:aj)(cA cD:Nat)(R:ai)(rs:List aO)(B:ah)(w:aa)(hR:cL w A R.length R)(hB:bF w D B.length rs B)(hP:gL n R B):
 aJ prog 168 [.agg #[ak n,.slice A R.length cA,.slice D B.length cD]] w (fun v w'=>∃A' n' c',v= .slice A' n' c'/\(A'.isNone=true↔wJ n R B)/\St w w' []):=by
 have hn:=hP.n1;have tc:=hP.qd;have hle:=hP.len;have bS:=fun(e:Int) (h0:0<=e) (h:e< (R.length:Int))=> (hP.at_ h0 h).1
 have cn:∀e:Int,0<=e->e<R.length->(gl B e).length<=500:=fun e h0 h=>by
  have:=q8 (N:=R.length) (bS e h0 h).nodup fun x hx=>by have:=((hP.at_ h0 h).2.1 x hx).1;omega
  omega
 refine bC func168 O ntmps168 O (df O) (bh O (oG (St.refl w) O O ?_));intro A1 w1 aH;have h1:Rd w1 A1 3 (fun j=> [Value.int .i64 n,.slice A R.length cA,.slice D B.length cD].getD j undef):=aH.rd 0 O;have hR:=aH.gA hR;have hB:=aH.b7 hB;have aH:=aH.none;refine ar O (aV h1 O (gP (j:=0) h1 (by exact aE Value.pointer O) O O O O (aC O ?_)));refine Cd.loop (α:=Nat) (fun i=> [(1,.pointer A1),(14,ak n),(15,ak i)]) (fun i w'=> (i:Int)<=n/\(∀i' e f:Int,0<=i'->i'< (i:Int)->e∈pY n R (i' - 1)->f∈pY n R (i'+1)->(0<=e->0<=f->e∈gl B f)->(nN R B i' e f).length=2)/\St w1 w' []) (fun i=>n.toNat - i) 0 (aqv O) ⟨by show((0:Nat):Int)<=n;omega,fun i' e f h h'=>by have h':i'< ((0:Nat):Int):=h';omega,St.refl _⟩ ?_;rintro i e w2 ⟨hi,pC,av⟩;have h1:=Rd.below h1 av.below;have hR:=av.gA hR;have hB:=av.b7 hB;have aF:=aH.aq av.below;refine bL O (aM _ O (fun h2=>?_) (fun h2=>?_))
 ·have N5:=al6 (R:=R) (show 0<=(i:Int) by omega) h2;have afV:=Qb (n:=n) (i:=(i:Int)) tc;have afS:=Qb (n:=n) (i:=(i:Int) - 1) tc;have afG:=Qb (n:=n) (i:=(i:Int)+1) tc;have afW:=fun x=>Kz (xs:=R) (x:=(i:Int)) (e:=x)
  refine aA O (aL (Pv A1 A D n R.length cA B.length cD R i _ h1 hR am am) O ?_);rintro _ w3 ⟨A4,c4,rfl,rW⟩;have h4:=rW.bz 0 O;refine ar O (aI O ?_);refine aL (Pv A1 A D n R.length cA B.length cD R ((i:Int)+1) _ (Rd.below h1 rW.below) (rW.gA hR) am am) O ?_;rintro _ w4 ⟨A5,c5,rfl,oh⟩;have h5:=oh.bz 0 O;have h4:=h4.aq oh.below;refine ar O (dZ O ?_);refine aL (Pv A1 A D n R.length cA B.length cD R ((i:Int) - 1) _ (Rd.below h1 (rW.below.trans (oh.below.mono rW.below.size))) (oh.gA (rW.gA hR)) am am) O ?_;rintro _ w5 ⟨A6,c6,rfl,Cy⟩;have h6:=Cy.bz 0 O;have h4:=h4.aq Cy.below;have h5:=h5.aq Cy.below;have nz:=(rW.below.trans (oh.below.mono rW.below.size));have nz:=nz.trans (Cy.below.mono nz.size);have h1:=Rd.below h1 nz;have hB:=hB.aq nz;have ba:=aF.aq nz;have agK:=av.aq nz;clear rW oh Cy av aF;obtain⟨ms,Vf⟩:∃ms,pY n R i=ms:=⟨_,rfl⟩;obtain⟨na,Cm⟩:∃na,pY n R ((i:Int) - 1)=na:=⟨_,rfl⟩;obtain⟨iR,Ci⟩:∃iR,pY n R ((i:Int)+1)=iR:=⟨_,rfl⟩;rw [Vf]at h4 afV N5;rw [Ci]at h5 afG;rw [Cm]at h6 afS;have Ag:=fun e f=>abJ (R:=R) (B:=B) (i:=(i:Int)) (e:=e) (f:=f)
  rw [<-N5]at Ag;have Co:∀x∈ms,(0<=x/\x<R.length):=fun x hx=> ((afW x).1 (N5▸hx)).1
  have JO:∀x∈na,x= -1\/(0<=x/\x<R.length):=fun x hx=>XS (Cm▸hx)
  have hhr:∀x∈iR,x= -1\/(0<=x/\x<R.length):=fun x hx=>XS (Ci▸hx)
  rw [Vf,Cm,Ci];refine a8 O O (aC O ?_);refine Cd.loop (α:=Nat) (fun j=> [(1,.pointer A1),(14,ak n),(15,ak i),(3,ak i),(4,.slice A4 ms.length c4),(5,.slice A5 iR.length c5),(25,.slice A6 na.length c6),(26,ak (na.length:Int)),(27,ak j)]) (fun j w'=>j<=na.length/\w'=w5/\∀p:Nat,p<j->∀f∈iR,(0<=gi na p->0<=f->gi na p∈gl B f)->(nN R B i (gi na p) f).length=2) (fun j=>na.length - j) 0 (aqv O) ⟨bg _,O,fun p h=>absurd h (oF _)⟩ ?_;rintro j e w6 ⟨hj,rfl,fo⟩;refine bL O (aM _ O (fun h7=>?_) (fun h7=>?_))
  ·have mn:j<na.length:=by omega
   refine aA O (aD h6.2 O (aY h6 O ?_));refine ar O (a8 O O (aC O ?_));have NH:=JO _ (gi_in mn);generalize Jz:gi na j=ee at*;refine Cd.loop (α:=Nat) (fun k=> [(1,.pointer A1),(14,ak n),(15,ak i),(3,ak i),(4,.slice A4 ms.length c4),(5,.slice A5 iR.length c5),(25,.slice A6 na.length c6),(26,ak (na.length:Int)),(27,ak j),(7,ak ee),(31,.slice A5 iR.length c5),(32,ak (iR.length:Int)),(33,ak k)]) (fun k w'=>k<=iR.length/\w'=w6/\∀p:Nat,p<k->(0<=ee->0<=gi iR p->ee∈gl B (gi iR p))->(nN R B i ee (gi iR p)).length=2) (fun k=>iR.length - k) 0 (aqv O) ⟨bg _,O,fun p h=>absurd h (oF _)⟩ ?_;rintro k e w7 ⟨hk,rfl,dv⟩;refine bL O (aM _ O (fun h8=>?_) (fun h8=>?_))
   ·have lB:k<iR.length:=by omega
    refine aA O (aD h5.2 O (aY h5 O (ar O ?_)));have o0:=hhr _ (gi_in lB);generalize JB:gi iR k=ff at*;have pK:((0<=ee->0<=ff->ee∈gl B ff)->(nN R B i ee ff).length=2)->∀p:Nat,p<k+1->(0<=ee->0<=gi iR p->ee∈gl B (gi iR p))->(nN R B i ee (gi iR p)).length=2:=fun h p hp=>by
     by_cases ep:p=k
     ·subst ep;rw [JB];exact h
     exact dv p am
    refine dI 39 O (fun h9=>?_) (fun h9=>?_)
    ·refine aw O (ar O (aw O (ar O ?_)));refine dI 43 O (fun fz=>?_) (fun fz=>?_)
     ·refine aw O (ar O (aw O (ar O (aw O ?_))));refine aL (wq A1 A D cA cD n R rs B ee ff _ h1 hB am (bS ff fz am) (by have:=cn ff fz am;omega)) O ?_;rintro _ w8 ⟨rfl,rfl⟩;refine aw O ?_
      first | refine fv rfl rfl ?_ | refine gz rfl rfl ?_
      refine aC O (aM _ O (fun kl=>?_) (fun kl=>?_))
      ·refine aA O (aI O (aT O (tQ ?_)));exact⟨k+1,by show iR.length - (k+1)<iR.length - k;omega,(aqv O),am,O,pK fun h=>absurd (h h9 fz) kl⟩
      have mW:0<=ee->0<=ff->ee∈gl B ff:=fun _ _=>jR.1 kl
      refine aA O (a8 O O (aC O ?_));refine Cd.loop (α:=Nat) (fun q=> [(1,.pointer A1),(14,ak n),(15,ak i),(3,ak i),(4,.slice A4 ms.length c4),(5,.slice A5 iR.length c5),(25,.slice A6 na.length c6),(26,ak (na.length:Int)),(27,ak j),(7,ak ee),(31,.slice A5 iR.length c5),(32,ak (iR.length:Int)),(33,ak k),(9,ak ff),(10,ak ((tP (qI B ee ff) ms q:Nat):Int)),(49,.slice A4 ms.length c4),(50,ak (ms.length:Int)),(51,ak q)]) (fun q w'=>q<=ms.length/\w'=w8) (fun q=>ms.length - q) 0 (aqv O) ⟨bg _,O⟩ ?_;rintro q e w9 ⟨hq,rfl⟩;have de:=LR (P:=qI B ee ff) (xs:=ms) (q:=q);refine bL O (aM _ O (fun xi=>?_) (fun xi=>?_))
      ·have qU:q<ms.length:=by omega
       have hx:=Co _ (gi_in qU);have kr:=LU (P:=qI B ee ff) qU;have gv:=LS (P:=qI B ee ff) qU;refine aA O (aD h4.2 O (aY h4 O (ar O ?_)));generalize VY:gi ms q=xx at*;refine dI 57 O (fun kC=>?_) (fun kC=>?_)
       ·refine aK O (aK O (aK O (ar O (aw O (ar O (aw O (ar O (aw O (ar O ?_)))))))));refine dI 65 O (fun kS=>?_) (fun kS=>?_)
        ·refine aK O (aK O (aK O (aw O (aC O ?_))));refine Cd.gu O (aA O (aI O (ar O (aI O (aT O (tQ ?_))))));exact⟨q+1,by show ms.length - (q+1)<ms.length - q;omega,⟨O,O,O,O,O,O,O,O,O,O,O,O,O,O,aE (fun m:Nat=>Value.int .i64 (m:Int)) (kr ⟨.inl kC,.inl kS⟩).symm,O,O,O,au⟩,am,O⟩
        refine aw O (ar O (aw O (ar O (aw O ?_))));refine aL (wq A1 A D cA cD n R rs B xx ff _ h1 hB am (bS ff am am) (by have:=cn ff am am;omega)) O ?_;rintro _ dY ⟨rfl,rfl⟩;refine aw O (aC O ?_);refine aM _ O (fun mE=>?_) (fun mE=>?_)
        ·refine aA O (aI O (ar O (aI O (aT O (tQ ?_)))));exact⟨q+1,by show ms.length - (q+1)<ms.length - q;omega,⟨O,O,O,O,O,O,O,O,O,O,O,O,O,O,aE (fun m:Nat=>Value.int .i64 (m:Int)) (kr ⟨.inl kC,.inr mE⟩).symm,O,O,O,au⟩,am,O⟩
        refine aA O (aI O (aT O (tQ ?_)));exact⟨q+1,by show ms.length - (q+1)<ms.length - q;omega,⟨O,O,O,O,O,O,O,O,O,O,O,O,O,O,aE (fun m:Nat=>Value.int .i64 (m:Int)) (gv fun h=>h.2.elim kS mE).symm,O,O,O,au⟩,am,O⟩
       refine aw O (ar O (aw O (ar O (aw O ?_))));refine aL (wq A1 A D cA cD n R rs B ee xx _ h1 hB am (bS xx am am) (by have:=cn xx am am;omega)) O ?_;rintro _ dY ⟨rfl,rfl⟩;refine ar O (dI 62 O (fun sZ=>?_) (fun sZ=>?_))
       ·refine aw O (ar O (aw O (ar O (aw O (ar O ?_)))));refine dI 65 O (fun kS=>?_) (fun kS=>?_)
        ·refine aK O (aK O (aK O (aw O (aC O ?_))));refine Cd.gu O (aA O (aI O (ar O (aI O (aT O (tQ ?_))))));exact⟨q+1,by show ms.length - (q+1)<ms.length - q;omega,⟨O,O,O,O,O,O,O,O,O,O,O,O,O,O,aE (fun m:Nat=>Value.int .i64 (m:Int)) (kr ⟨.inr sZ,.inl kS⟩).symm,O,O,O,au⟩,am,O⟩
        refine aw O (ar O (aw O (ar O (aw O ?_))));refine aL (wq A1 A D cA cD n R rs B xx ff _ h1 hB am (bS ff am am) (by have:=cn ff am am;omega)) O ?_;rintro _ eF ⟨rfl,rfl⟩;refine aw O (aC O ?_);refine aM _ O (fun mE=>?_) (fun mE=>?_)
        ·refine aA O (aI O (ar O (aI O (aT O (tQ ?_)))));exact⟨q+1,by show ms.length - (q+1)<ms.length - q;omega,⟨O,O,O,O,O,O,O,O,O,O,O,O,O,O,aE (fun m:Nat=>Value.int .i64 (m:Int)) (kr ⟨.inr sZ,.inr mE⟩).symm,O,O,O,au⟩,am,O⟩
        refine aA O (aI O (aT O (tQ ?_)));exact⟨q+1,by show ms.length - (q+1)<ms.length - q;omega,⟨O,O,O,O,O,O,O,O,O,O,O,O,O,O,aE (fun m:Nat=>Value.int .i64 (m:Int)) (gv fun h=>h.2.elim kS mE).symm,O,O,O,au⟩,am,O⟩
       refine aK O (aK O (aK O (fT O O O O (fT O O O O (fT O O O O (aK O (aC O ?_)))))));refine Cd.fg O (aA O (aI O (aT O (tQ ?_))));exact⟨q+1,by show ms.length - (q+1)<ms.length - q;omega,⟨O,O,O,O,O,O,O,O,O,O,O,O,O,O,aE (fun m:Nat=>Value.int .i64 (m:Int)) (gv fun h=>h.1.elim kC sZ).symm,O,O,O,au⟩,am,O⟩
      have AA:q=ms.length:=by omega
      subst AA;have xn:=Ag ee ff;refine bp O (bt (sI O ?_));refine aM _ O (fun kC=>?_) (fun kC=>?_)
      ·refine aA O (eZ [(i:Int),ee,ff] ba O O an an O O fun A9 dY bW=>bH O (fB (fe (fB (fe (fB (fe ?_)))))));refine gJ O ⟨A9,3,3,O,⟨fun h=>?_,fun h=>?_⟩,bW.none⟩
       ·rw [Fw (bW.bz 0 rfl).2 (by decide)]at h;cases h
       have Jr:=h (i:Int) ee ff am h2 ((KL am h2).1 (by rw [Cm,<-Jz];exact gi_in mn)) ((KJ am h2).1 (by rw [Ci,<-JB];exact gi_in lB)) mW;omega
      refine aA O (aI O (aT O (tQ ?_)));exact⟨k+1,by show iR.length - (k+1)<iR.length - k;omega,(aqv O),am,O,pK fun _=>by omega⟩
     have mW:0<=ee->0<=ff->ee∈gl B ff:=fun _ h=>absurd h fz
     refine aK O (aK O (aK O (aK O (aC O ?_))));refine Cd.fg O (aA O (a8 O O (aC O ?_)));refine Cd.loop (α:=Nat) (fun q=> [(1,.pointer A1),(14,ak n),(15,ak i),(3,ak i),(4,.slice A4 ms.length c4),(5,.slice A5 iR.length c5),(25,.slice A6 na.length c6),(26,ak (na.length:Int)),(27,ak j),(7,ak ee),(31,.slice A5 iR.length c5),(32,ak (iR.length:Int)),(33,ak k),(9,ak ff),(10,ak ((tP (qI B ee ff) ms q:Nat):Int)),(49,.slice A4 ms.length c4),(50,ak (ms.length:Int)),(51,ak q)]) (fun q w'=>q<=ms.length/\w'=w7) (fun q=>ms.length - q) 0 (aqv O) ⟨bg _,O⟩ ?_;rintro q e w9 ⟨hq,rfl⟩;have de:=LR (P:=qI B ee ff) (xs:=ms) (q:=q);refine bL O (aM _ O (fun xi=>?_) (fun xi=>?_))
     ·have qU:q<ms.length:=by omega
      have hx:=Co _ (gi_in qU);have kr:=LU (P:=qI B ee ff) qU;have gv:=LS (P:=qI B ee ff) qU;refine aA O (aD h4.2 O (aY h4 O (ar O ?_)));generalize VY:gi ms q=xx at*;refine dI 57 O (fun kC=>?_) (fun kC=>?_)
      ·refine aK O (aK O (aK O (ar O (aw O (ar O (aw O (ar O (aw O (ar O ?_)))))))));refine dI 65 O (fun kS=>?_) (fun kS=>?_)
       ·refine aK O (aK O (aK O (aw O (aC O ?_))));refine Cd.gu O (aA O (aI O (ar O (aI O (aT O (tQ ?_))))));exact⟨q+1,by show ms.length - (q+1)<ms.length - q;omega,⟨O,O,O,O,O,O,O,O,O,O,O,O,O,O,aE (fun m:Nat=>Value.int .i64 (m:Int)) (kr ⟨.inl kC,.inl kS⟩).symm,O,O,O,au⟩,am,O⟩
       refine aw O (ar O (aw O (ar O (aw O ?_))));refine aL (wq A1 A D cA cD n R rs B xx ff _ h1 hB am (bS ff am am) (by have:=cn ff am am;omega)) O ?_;rintro _ dY ⟨rfl,rfl⟩;refine aw O (aC O ?_);refine aM _ O (fun mE=>?_) (fun mE=>?_)
       ·refine aA O (aI O (ar O (aI O (aT O (tQ ?_)))));exact⟨q+1,by show ms.length - (q+1)<ms.length - q;omega,⟨O,O,O,O,O,O,O,O,O,O,O,O,O,O,aE (fun m:Nat=>Value.int .i64 (m:Int)) (kr ⟨.inl kC,.inr mE⟩).symm,O,O,O,au⟩,am,O⟩
       refine aA O (aI O (aT O (tQ ?_)));exact⟨q+1,by show ms.length - (q+1)<ms.length - q;omega,⟨O,O,O,O,O,O,O,O,O,O,O,O,O,O,aE (fun m:Nat=>Value.int .i64 (m:Int)) (gv fun h=>h.2.elim kS mE).symm,O,O,O,au⟩,am,O⟩
      refine aw O (ar O (aw O (ar O (aw O ?_))));refine aL (wq A1 A D cA cD n R rs B ee xx _ h1 hB am (bS xx am am) (by have:=cn xx am am;omega)) O ?_;rintro _ dY ⟨rfl,rfl⟩;refine ar O (dI 62 O (fun sZ=>?_) (fun sZ=>?_))
      ·refine aw O (ar O (aw O (ar O (aw O (ar O ?_)))));refine dI 65 O (fun kS=>?_) (fun kS=>?_)
       ·refine aK O (aK O (aK O (aw O (aC O ?_))));refine Cd.gu O (aA O (aI O (ar O (aI O (aT O (tQ ?_))))));exact⟨q+1,by show ms.length - (q+1)<ms.length - q;omega,⟨O,O,O,O,O,O,O,O,O,O,O,O,O,O,aE (fun m:Nat=>Value.int .i64 (m:Int)) (kr ⟨.inr sZ,.inl kS⟩).symm,O,O,O,au⟩,am,O⟩
       refine aw O (ar O (aw O (ar O (aw O ?_))));refine aL (wq A1 A D cA cD n R rs B xx ff _ h1 hB am (bS ff am am) (by have:=cn ff am am;omega)) O ?_;rintro _ eF ⟨rfl,rfl⟩;refine aw O (aC O ?_);refine aM _ O (fun mE=>?_) (fun mE=>?_)
       ·refine aA O (aI O (ar O (aI O (aT O (tQ ?_)))));exact⟨q+1,by show ms.length - (q+1)<ms.length - q;omega,⟨O,O,O,O,O,O,O,O,O,O,O,O,O,O,aE (fun m:Nat=>Value.int .i64 (m:Int)) (kr ⟨.inr sZ,.inr mE⟩).symm,O,O,O,au⟩,am,O⟩
       refine aA O (aI O (aT O (tQ ?_)));exact⟨q+1,by show ms.length - (q+1)<ms.length - q;omega,⟨O,O,O,O,O,O,O,O,O,O,O,O,O,O,aE (fun m:Nat=>Value.int .i64 (m:Int)) (gv fun h=>h.2.elim kS mE).symm,O,O,O,au⟩,am,O⟩
      refine aK O (aK O (aK O (fT O O O O (fT O O O O (fT O O O O (aK O (aC O ?_)))))));refine Cd.fg O (aA O (aI O (aT O (tQ ?_))));exact⟨q+1,by show ms.length - (q+1)<ms.length - q;omega,⟨O,O,O,O,O,O,O,O,O,O,O,O,O,O,aE (fun m:Nat=>Value.int .i64 (m:Int)) (gv fun h=>h.1.elim kC sZ).symm,O,O,O,au⟩,am,O⟩
     have AA:q=ms.length:=by omega
     subst AA;have xn:=Ag ee ff;refine bp O (bt (sI O ?_));refine aM _ O (fun kC=>?_) (fun kC=>?_)
     ·refine aA O (eZ [(i:Int),ee,ff] ba O O an an O O fun A9 dY bW=>bH O (fB (fe (fB (fe (fB (fe ?_)))))));refine gJ O ⟨A9,3,3,O,⟨fun h=>?_,fun h=>?_⟩,bW.none⟩
      ·rw [Fw (bW.bz 0 rfl).2 (by decide)]at h;cases h
      have Jr:=h (i:Int) ee ff am h2 ((KL am h2).1 (by rw [Cm,<-Jz];exact gi_in mn)) ((KJ am h2).1 (by rw [Ci,<-JB];exact gi_in lB)) mW;omega
     refine aA O (aI O (aT O (tQ ?_)));exact⟨k+1,by show iR.length - (k+1)<iR.length - k;omega,(aqv O),am,O,pK fun _=>by omega⟩
    have mW:0<=ee->0<=ff->ee∈gl B ff:=fun h _=>absurd h h9
    refine aK O (aK O (ar O (aK O (aK O (aK O (aK O (aC O ?_)))))));refine Cd.fg O (aA O (a8 O O (aC O ?_)));refine Cd.loop (α:=Nat) (fun q=> [(1,.pointer A1),(14,ak n),(15,ak i),(3,ak i),(4,.slice A4 ms.length c4),(5,.slice A5 iR.length c5),(25,.slice A6 na.length c6),(26,ak (na.length:Int)),(27,ak j),(7,ak ee),(31,.slice A5 iR.length c5),(32,ak (iR.length:Int)),(33,ak k),(9,ak ff),(10,ak ((tP (qI B ee ff) ms q:Nat):Int)),(49,.slice A4 ms.length c4),(50,ak (ms.length:Int)),(51,ak q)]) (fun q w'=>q<=ms.length/\w'=w7) (fun q=>ms.length - q) 0 (aqv O) ⟨bg _,O⟩ ?_;rintro q e w9 ⟨hq,rfl⟩;have de:=LR (P:=qI B ee ff) (xs:=ms) (q:=q);refine bL O (aM _ O (fun xi=>?_) (fun xi=>?_))
    ·have qU:q<ms.length:=by omega
     have hx:=Co _ (gi_in qU);have kr:=LU (P:=qI B ee ff) qU;have gv:=LS (P:=qI B ee ff) qU;refine aA O (aD h4.2 O (aY h4 O (ar O ?_)));generalize VY:gi ms q=xx at*;refine dI 57 O (fun kC=>?_) (fun kC=>?_)
     ·refine aK O (aK O (aK O (ar O (aw O (ar O (aw O (ar O (aw O (ar O ?_)))))))));refine dI 65 O (fun kS=>?_) (fun kS=>?_)
      ·refine aK O (aK O (aK O (aw O (aC O ?_))));refine Cd.gu O (aA O (aI O (ar O (aI O (aT O (tQ ?_))))));exact⟨q+1,by show ms.length - (q+1)<ms.length - q;omega,⟨O,O,O,O,O,O,O,O,O,O,O,O,O,O,aE (fun m:Nat=>Value.int .i64 (m:Int)) (kr ⟨.inl kC,.inl kS⟩).symm,O,O,O,au⟩,am,O⟩
      refine aw O (ar O (aw O (ar O (aw O ?_))));refine aL (wq A1 A D cA cD n R rs B xx ff _ h1 hB am (bS ff am am) (by have:=cn ff am am;omega)) O ?_;rintro _ dY ⟨rfl,rfl⟩;refine aw O (aC O ?_);refine aM _ O (fun mE=>?_) (fun mE=>?_)
      ·refine aA O (aI O (ar O (aI O (aT O (tQ ?_)))));exact⟨q+1,by show ms.length - (q+1)<ms.length - q;omega,⟨O,O,O,O,O,O,O,O,O,O,O,O,O,O,aE (fun m:Nat=>Value.int .i64 (m:Int)) (kr ⟨.inl kC,.inr mE⟩).symm,O,O,O,au⟩,am,O⟩
      refine aA O (aI O (aT O (tQ ?_)));exact⟨q+1,by show ms.length - (q+1)<ms.length - q;omega,⟨O,O,O,O,O,O,O,O,O,O,O,O,O,O,aE (fun m:Nat=>Value.int .i64 (m:Int)) (gv fun h=>h.2.elim kS mE).symm,O,O,O,au⟩,am,O⟩
     refine aw O (ar O (aw O (ar O (aw O ?_))));refine aL (wq A1 A D cA cD n R rs B ee xx _ h1 hB am (bS xx am am) (by have:=cn xx am am;omega)) O ?_;rintro _ dY ⟨rfl,rfl⟩;refine ar O (dI 62 O (fun sZ=>?_) (fun sZ=>?_))
     ·refine aw O (ar O (aw O (ar O (aw O (ar O ?_)))));refine dI 65 O (fun kS=>?_) (fun kS=>?_)
      ·refine aK O (aK O (aK O (aw O (aC O ?_))));refine Cd.gu O (aA O (aI O (ar O (aI O (aT O (tQ ?_))))));exact⟨q+1,by show ms.length - (q+1)<ms.length - q;omega,⟨O,O,O,O,O,O,O,O,O,O,O,O,O,O,aE (fun m:Nat=>Value.int .i64 (m:Int)) (kr ⟨.inr sZ,.inl kS⟩).symm,O,O,O,au⟩,am,O⟩
      refine aw O (ar O (aw O (ar O (aw O ?_))));refine aL (wq A1 A D cA cD n R rs B xx ff _ h1 hB am (bS ff am am) (by have:=cn ff am am;omega)) O ?_;rintro _ eF ⟨rfl,rfl⟩;refine aw O (aC O ?_);refine aM _ O (fun mE=>?_) (fun mE=>?_)
      ·refine aA O (aI O (ar O (aI O (aT O (tQ ?_)))));exact⟨q+1,by show ms.length - (q+1)<ms.length - q;omega,⟨O,O,O,O,O,O,O,O,O,O,O,O,O,O,aE (fun m:Nat=>Value.int .i64 (m:Int)) (kr ⟨.inr sZ,.inr mE⟩).symm,O,O,O,au⟩,am,O⟩
      refine aA O (aI O (aT O (tQ ?_)));exact⟨q+1,by show ms.length - (q+1)<ms.length - q;omega,⟨O,O,O,O,O,O,O,O,O,O,O,O,O,O,aE (fun m:Nat=>Value.int .i64 (m:Int)) (gv fun h=>h.2.elim kS mE).symm,O,O,O,au⟩,am,O⟩
     refine aK O (aK O (aK O (fT O O O O (fT O O O O (fT O O O O (aK O (aC O ?_)))))));refine Cd.fg O (aA O (aI O (aT O (tQ ?_))));exact⟨q+1,by show ms.length - (q+1)<ms.length - q;omega,⟨O,O,O,O,O,O,O,O,O,O,O,O,O,O,aE (fun m:Nat=>Value.int .i64 (m:Int)) (gv fun h=>h.1.elim kC sZ).symm,O,O,O,au⟩,am,O⟩
    have AA:q=ms.length:=by omega
    subst AA;have xn:=Ag ee ff;refine bp O (bt (sI O ?_));refine aM _ O (fun kC=>?_) (fun kC=>?_)
    ·refine aA O (eZ [(i:Int),ee,ff] ba O O an an O O fun A9 dY bW=>bH O (fB (fe (fB (fe (fB (fe ?_)))))));refine gJ O ⟨A9,3,3,O,⟨fun h=>?_,fun h=>?_⟩,bW.none⟩
     ·rw [Fw (bW.bz 0 rfl).2 (by decide)]at h;cases h
     have Jr:=h (i:Int) ee ff am h2 ((KL am h2).1 (by rw [Cm,<-Jz];exact gi_in mn)) ((KJ am h2).1 (by rw [Ci,<-JB];exact gi_in lB)) mW;omega
    refine aA O (aI O (aT O (tQ ?_)));exact⟨k+1,by show iR.length - (k+1)<iR.length - k;omega,(aqv O),am,O,pK fun _=>by omega⟩
   refine bp O (bt (cS O (aI O (aT O (tQ ?_)))));exact⟨j+1,by show na.length - (j+1)<na.length - j;omega,(aqv O),am,O,fun p hp f hf=>by
    by_cases ep:p=j
    ·subst ep;rw [Jz];obtain⟨q,hq,e9⟩:=gC.1 hf;rw [<-bV hq]at e9;have:=dv q am
     rwa [e9]at this
    exact fo p am f hf⟩
  refine bp O (bt (cS O (aI O (aT O (tQ ?_)))));exact⟨i+1,by show n.toNat - (i+1)<n.toNat - i;omega,(aqv O),by show((i+1:Nat):Int)<=n;omega,fun i' e f h0 h' he hf mW=>by
   by_cases ei:i'=(i:Int)
   ·subst ei;rw [Cm]at he;rw [Ci]at hf;obtain⟨q,hq,e9⟩:=gC.1 he;rw [<-bV hq]at e9;have:=fo q am f hf;rw [e9]at this;exact this mW
   exact pC i' e f h0 (by have h':i'< ((i+1:Nat):Int):=h';omega) he hf mW,agK⟩
 refine bp O (bt (gw O ?_));exact gJ O ⟨none,0,0,O,⟨fun _ i' e f h0 h3 h4 h5 h6=>pC i' e f h0 am ((KL h0 h3).2 h4) ((KJ h0 h3).2 h5) h6,fun _=>O⟩,aF⟩
theorem acP{n:Nat}{R:ai}{B:ah}(hn:1<=n)(hb:R.length<=500):∀x∈aG n R B,x.length=n/\∀e∈x,0<=e/\e< (R.length:Int):=fun x hx=>by
 obtain⟨h1,h2,_⟩:=(qL hn).1 hx;refine⟨h1,fun e he=>?_⟩;obtain⟨k,hk,rfl⟩:=gC.1 he;rw [<-bV hk];exact(h2 k am).1
theorem LG(b:Bool):b=decide (b=true):=by cases b<;>rfl
theorem ahy(n:Nat)(A D:aj)(cA cD:Nat)(R:ai)(rs:List aO)(B:ah)(Af:aj)(cf:Nat)(fZ:List aO)(w:aa)(hT:lO w)(hR:cL w A R.length R)(hB:bF w D B.length rs B)(hP:gL n R B)(hF:bF w Af (aG n R B).length fZ (aG n R B))(UJ:(aG n R B).length<=400):
 aJ prog 93 [.agg #[ak n,.slice A R.length cA,.slice D B.length cD],.slice Af (aG n R B).length cf] w (fun v w'=>∃b:Bool,v= .bool b/\(b=true↔Bz n R B)/\St w w' []):=by
 have hn:=hP.n1;have tc:=hP.qd;have JC:=acP (n:=n) (R:=R) (B:=B) am tc;have afz:∀x∈aG n R B,x.length=n/\∀e∈x,0<=e/\e<=1000000:=fun x hx=> ⟨(JC x hx).1,fun e he=>by have:=(JC x hx).2 e he;omega⟩
 have xp:(aG n R B).Nodup:=(II n R B).nodup;refine bC func93 O ntmps93 O (df O) (bh O (oG (St.refl w) O O ?_));intro A1 w1 aH;have h1:Rd w1 A1 3 (fun j=> [Value.int .i64 n,.slice A R.length cA,.slice D B.length cD].getD j undef):=aH.rd 0 O;have hR:=aH.gA hR;have hB:=aH.b7 hB;have hF:=aH.b7 hF;have hT:=hT.aq aH.below;have aH:=aH.none;refine ar O (a8 O O (ar O ?_));refine dI 8 O (fun h2=>?_) (fun h2=>?_)
 ·have bP:aG n R B≠[]:=fun h=>by rw [h]at h2;exact absurd h2 an
  refine aw O (ao.cN 2 h1 O O O ?_);refine aw O (ar O (aw O ?_));refine aL (ahz n A D cA R.length B.length cD Af (aG n R B).length cf fZ (aG n R B) _ hF tc (fun l hl=> ⟨by have:=(JC l hl).1;omega,(JC l hl).2⟩) am) O ?_;rintro _ w2 ⟨b,rfl,hb,av⟩;have h1:=Rd.below h1 av.below;have hR:=av.gA hR;have hB:=av.b7 hB;have hF:=av.b7 hF;have hT:=hT.aq av.below;have aH:=aH.aq av.below;have GG:b=true↔Ll n R B:=hb;clear av hb;rw [LG b];refine ar O (dI 13 O (fun h3=>?_) (fun h3=>?_))
  ·refine aw O (ao.cN 2 h1 O O O (aw O (aL (acj n A D cA cD R rs B _ hR hB hP) O ?_)));rintro _ w3 ⟨A9,n9,c9,rfl,hd,av⟩;have hF:=av.b7 hF;have hT:=hT.aq av.below;have aH:=aH.aq av.below;clear av;refine aw O (Dg O O O ?_);rw [LG A9.isNone];refine ar O (dI 18 O (fun h4=>?_) (fun h4=>?_))
   ·refine aw O (ar O (aw O ?_));refine aL (abY Af (aG n R B).length cf fZ (aG n R B) n _ hT hF am am afz xp) O ?_;rintro _ w4 ⟨A8,n8,c8,rfl,hc,av⟩;have aH:=aH.aq av.below;refine aw O (Dg O O O (bH O (dq O ?_)));exact⟨A8.isNone,O,⟨fun h=> ⟨bP,GG.1 h3,hd.1 h4,hc.1 h⟩,fun h=>hc.2 h.2.2.2⟩,aH⟩
   refine aK O (aK O (aK O (bH O ?_)));refine dq O ?_;exact⟨false,rfl,⟨fun h=> (by cases h),fun h=>absurd (hd.2 h.2.2.1) h4⟩,aH⟩
  refine aK O (aK O (aK O (ar O (aK O (aK O (aK O (bH O ?_)))))));refine dq O ?_;exact⟨false,rfl,⟨fun h=> (by cases h),fun h=>absurd (GG.2 h.2.1) h3⟩,aH⟩
 refine aK O (aK O (aK O (ar O (aK O (aK O (aK O (ar O (aK O (aK O (aK O (bH O ?_)))))))))));refine dq O ?_;exact⟨false,rfl,⟨fun h=> (by cases h),fun h=>absurd (List.length_pos_iff.2 h.1) am⟩,aH⟩
noncomputable def DP(M:ah):ah:=aG M.length (bU M M.length) (bQ M)
noncomputable def sk(M:ah):Int:=if 500<aR M M.length\/400< (DP M).length then 3 else 0
def vG(M:ah):Prop:=aR M M.length<=500/\(DP M).length=(gl M 0).length/\Bz M.length (bU M M.length) (bQ M)
theorem vG.code{M:ah}(hM:bI M)(h:vG M):sk M=0:=by
 have:=hM.2.1;unfold sk;rw [az (by have:=h.1;have:=h.2.1;omega)]
theorem tz{M:ah}(hM:bI M)(h:aR M M.length<=500):gL (M.length:Int) (bU M M.length) (bQ M):=ac8 hM h
theorem ahx(A:aj)(n c:Nat)(rs:List aO)(M:ah)(w:aa)(hT:lO w)(hR:bF w A n rs M)(hM:bI M):
 aJ prog 102 [.agg #[.slice A n c]] w (fun v w'=>∃b:Bool,v= .tuple #[.bool b,ak (sk M)]/\(b=true↔vG M)/\St w w' []):=by
 have hl:=hR.len;have h5:=hM.1;have h4:=hM.2.1;have zY:=pq M M.length;have s5:=vR M;have og:=hR.nI (k:=0) am am;refine bC func102 O ntmps102 O (pV O) (bh O (jH (St.refl w) O O ?_));intro A1 w1 aH;refine ar O (ao.cN 0 (aH.rd 0 O) O O O (aL (SQ A n c rs M _ (aH.b7 hR) hM) O ?_));rintro _ w2 (⟨yA,rfl,av⟩ | ⟨yA,AR,cR,AD,cD,dB,rfl,mH,av⟩)
 ·have aF:=aH.aq av.below;refine ar O (nP aF O ?_);intro A4 w3 aQ;refine b5 3 0 aQ O O O O O O O fun w4 aX=>ar O ?_
  first | refine fv rfl rfl ?_ | refine gz rfl rfl ?_
  refine aC O (Cd.gu O (dM O (Bg O O ?_)));unfold sk;rw [aB (.inl yA)];exact⟨false,rfl,⟨fun h=> (by cases h),fun h=>by have:=h.1;omega⟩,aX.none⟩
 have hP:=tz hM yA;have aF:=aH.call av;clear av aH;refine ar O (nP aF O ?_);intro A4 w3 aQ;refine b5 3 0 aQ O O O O O O O ?_;intro w4 aX;have aX:St w w4 (bJ A4 (M.length:Int) AR (aR M M.length) cR AD (aR M M.length) cD::(ax 2 AR (aR M M.length) cR (bU M M.length)::((aS 34 2 AD (aR M M.length) cD dB (bQ M)++ [])++ [Bx 24 1 A1 [.slice A n c]]))):=aX;have oS:cL w4 AR (bU M M.length).length (bU M M.length):=by rw [zY];exact aX.bz 1 O
 have lV:bF w4 AD (bQ M).length dB (bQ M):=by
  rw [s5];have h9:=aX.sub (show(aS 34 2 AD (aR M M.length) cD dB (bQ M)).Sublist _ from List.Sublist.cons _ (List.Sublist.cons _ (by rw [fI];exact oE _ _)));exact h9.nJ s5
 have oU:=aX.rd 0 O;have dE:Rd w4 A1 1 (fun _=> .slice A n c):=by
  have h9:=aX.sub (show List.Sublist [Bx 24 1 A1 [.slice A n c]] _ from List.Sublist.cons _ (List.Sublist.cons _ (kA _ _)));exact Rd.one (h9.rd 0 O)
 refine ar O ?_
 first | refine fv rfl rfl ?_ | refine gz rfl rfl ?_
 refine aC O (Cd.fg O (aA O (ao.cN 2 oU O O O ?_)));refine aqm (S4 M.length AR AD cR cD (bU M M.length) dB (bQ M) _ oS lV hP) O (by rw [zY,s5];rfl) O ?_;rintro _ w5 ⟨Af,cf,XW,rfl,tt,av⟩;have ba:=aX.aq av.below;have Jh:=oS.aq av.below;have BU:=lV.aq av.below;have nz:=Rd.below oU av.below;have dE:=Rd.below dE av.below
 by_cases kc:(aG M.length (bU M M.length) (bQ M)).length<=400
 ·
  have hL:yg M.length (bU M M.length) (bQ M)=aG M.length (bU M M.length) (bQ M):=by unfold yg;rw [if_pos kc]
  have hK:rH M.length (bU M M.length) (bQ M)=0:=by unfold rH;rw [if_pos kc]
  have mX:sk M=0:=by unfold sk;rw [if_neg (by show ¬(500<aR M M.length\/400< (aG M.length (bU M M.length) (bQ M)).length);omega)]
  rw [hL]at tt av|-;rw [hK,mX];have hF5:bF w5 Af (aG M.length (bU M M.length) (bQ M)).length XW (aG M.length (bU M M.length) (bQ M)):=by
   rw [fI]at av;exact av.nJ O
  refine ar O (dI 22 O (fun _=>?_) (fun h=>absurd O h));refine aw O (ar O (aw O ?_));refine aL (Hr _ _ _ _) O ?_;rintro _ w5 ⟨rfl,rfl⟩;refine aw O (aL (uU A1 A n c rs M _ _ dE O (ba.b7 hR) am) O ?_);rintro _ w5 ⟨rfl,rfl⟩;refine aw O (ar O ?_);refine dI 28 O (fun h6=>?_) (fun h6=>?_)
  ·refine aw O (ao.cN 2 nz O O O ?_);refine aw O (ar O (aw O ?_));refine aqm (ahy M.length AR AD cR cD (bU M M.length) dB (bQ M) Af cf XW _ (hT.aq ba.below) Jh BU hP hF5 kc) O (by rw [zY,s5];rfl) O ?_;rintro _ w6 ⟨b,rfl,hb,lE⟩;refine bH O (Bg O O ?_);refine⟨b,O,hb.trans ⟨fun h=> ⟨yA,?_,h⟩,fun h=>h.2.2⟩,(ba.aq lE.below).none⟩;show(aG M.length (bU M M.length) (bQ M)).length=_;omega
  refine aK O (aK O (aK O (bH O ?_)));refine Bg O O ?_;refine⟨false,rfl,⟨fun h=> (by cases h),fun h=>?_⟩,ba.none⟩;have h9:(aG M.length (bU M M.length) (bQ M)).length=(gl M 0).length:=h.2.1;omega
 have hL:yg M.length (bU M M.length) (bQ M)=[]:=by unfold yg;rw [if_neg kc]
 have hK:rH M.length (bU M M.length) (bQ M)=3:=by unfold rH;rw [if_neg kc]
 have mX:sk M=3:=by unfold sk;rw [if_pos (.inr (by show 400< (aG M.length (bU M M.length) (bQ M)).length;omega))]
 rw [hL]at tt av|-;rw [hK,mX];refine ar O (dI 22 O (fun h=>absurd h an) (fun _=>?_));refine aK O (aK O (aK O (aK O (ar O (aK O (aK O (aK O (bH O ?_))))))));refine Bg O O ?_;refine⟨false,rfl,⟨fun h=> (by cases h),fun h=>?_⟩,ba.none⟩;have h9:(aG M.length (bU M M.length) (bQ M)).length=(gl M 0).length:=h.2.1;omega
section
variable{z0 z1 z2 z3 y0 y1 v0 u0 u1 u2 v1 v2 v3:ad}{b b0 b1:Nat}
variable {P:Program} {N:Nat} {ops:Array Oper} {K:Env->aa->Prop} {rest:List Oper} {e:Env} {w0 w w':aa} {ks:List Ck} {d:Nat} {ty:ae} {pos:String} {af:Array Edge}
theorem ZM{t:ae}{f0 f1:Field}[bA P t (.struct #[f0,f1])][bq P t (.agg #[z0,z1,z2,z3]) 4 b]{x0 x1:ag}(rL:bq P f0.type y0 1 b0)(tX:bq P f1.type y1 3 b1)(ho:f0.offset=0)(qS:f1.offset=1)(h0:ev e x0=v0)(h1:ev e x1= .agg #[u0,u1,u2])(c0:v0.oneCell'=true)(hb:Nat.blt d N=true)(hK:ao P N ops K rest (bn e d (.agg #[v0,u0,u1,u2])) w):ao P N ops K (⟨some d,.build t #[(0,x0),(1,x1)],ty,pos,af,none⟩::rest) e w:=by
 obtain⟨inf,hi,dX,hs,gR⟩:=bq.get P t;obtain⟨CC,fm,_,o6,_⟩:=rL.get P f0.type;obtain⟨EB,mm,_,ug,_⟩:=tX.get P f1.type;have e0:v0.cells= #[v0]:=by cases v0<;>simp [Value.oneCell']at c0<;>rfl
 have e1:(Value.agg #[u0,u1,u2]).cells= #[u0,u1,u2]:=O;have ez:(Value.agg #[z0,z1,z2,z3]).cells= #[z0,z1,z2,z3]:=O;refine .val (w':=w) ?_ hb hK;simp [execOp,Instr.build,run_underlying (bA.out (P:=P) (t:=t)),sizeOf,typeInfo,zeroValue,hi,dX,fm,o6,mm,ug,ho,qS,h0,h1,e0,e1,ez,Instr.fill]
theorem Le{t:ae}{f0 f1:Field}[bA P t (.struct #[f0,f1])][bq P t (.agg #[z0,z1,z2,z3]) 4 b](rL:bq P f0.type y0 1 b0)(tX:bq P f1.type y1 3 b1)(hb:Nat.blt d N=true)(hK:ao P N ops K rest (bn e d (.agg #[z0,z1,z2,z3])) w):ao P N ops K (⟨some d,.build t #[],ty,pos,af,none⟩::rest) e w:=by
 obtain⟨inf,hi,dX,hs,gR⟩:=bq.get P t;obtain⟨CC,fm,_,o6,_⟩:=rL.get P f0.type;obtain⟨EB,mm,_,ug,_⟩:=tX.get P f1.type;have ez:(Value.agg #[z0,z1,z2,z3]).cells= #[z0,z1,z2,z3]:=O;refine .val (w':=w) ?_ hb hK;simp [execOp,Instr.build,run_underlying (bA.out (P:=P) (t:=t)),sizeOf,typeInfo,zeroValue,hi,dX,fm,o6,mm,ug,ez,Instr.fill]
theorem Fq{el:ae}{s:Nat}[bq P el (.agg #[v0,v1,v2,v3]) s b](hS:St w0 w ks)(hb:Nat.blt d N=true)(hK:∀A w',St w0 w' (Bx el 4 A [v0,v1,v2,v3]::ks)->ao P N ops K rest (bn e d (.pointer A)) w')(hM:eU [v0,v1,v2,v3]=false:=by rfl):ao P N ops K (⟨some d,.alloc el,ty,pos,af,none⟩::rest) e w:= .new (el:=el) (z:= .agg #[v0,v1,v2,v3]) (s:=s) (b:=b) hS hb rfl hK hM
theorem Q7{el:ae}{x:ag}(hS:St w0 w ks)(hx:ev e x= .agg #[v0,v1,v2,v3])(hb:Nat.blt d N=true)(hK:∀A w',St w0 w' (Bx el 4 A [v0,v1,v2,v3]::ks)->ao P N ops K rest (bn e d (.pointer A)) w')(hM:eU [v0,v1,v2,v3]=false:=by rfl):ao P N ops K (⟨some d,.box el x,ty,pos,af,none⟩::rest) e w:=
 .H7 hS hx hb rfl hK hM
end
open Classical in
noncomputable def lA(M:ah):Int:=if bI M then(if sk M=0 then(if vG M then 0 else 5)else 3)else 1
theorem Tp{M:ah}(h:¬bI M):lA M=1:=by unfold lA;rw [if_neg h]
theorem To{M:ah}(h:bI M)(h2:sk M≠0):lA M=3:=by unfold lA;rw [if_pos h,if_neg h2]
theorem Tn{M:ah}(h:bI M)(h2:sk M=0)(h3:¬vG M):lA M=5:=by unfold lA;rw [if_pos h,if_pos h2,if_neg h3]
theorem Mu{M:ah}(h:bI M)(h3:vG M):lA M=0:=by unfold lA;rw [if_pos h,if_pos (h3.code h),if_pos h3]
theorem sX{M:ah}(h:lA M=0):bI M/\vG M:=by
 unfold lA at h
 split at h
 ·rename_i h1
  split at h
  ·split at h
   ·rename_i h3;exact⟨h1,h3⟩
   cases h
  cases h
 cases h
theorem alC{M:ah}(h:sk M≠0):sk M=3:=by
 unfold sk at h|-
 split
 ·rfl
 rename_i h2;rw [az h2]at h;exact absurd rfl h
def QQ(M:ah)(w:aa)(v:ad)(w':aa):Prop:=(lA M≠0/\v= .tuple #[.agg #[.slice none 0 0,ak 0,.slice none 0 0,.slice none 0 0],ak (lA M)]/\St w w' [])\/(lA M=0/\∃A8 c8 AR c AD d rs,v= .tuple #[.agg #[.slice A8 (aR M M.length+2) c8,ak (M.length:Int),.slice AR (aR M M.length) c,.slice AD (aR M M.length) d],ak 0]/\rs.length=aR M M.length/\St w w' (ax 2 A8 (aR M M.length+2) c8 (ik M.length (bU M M.length))::ax 2 AR (aR M M.length) c (bU M M.length)::(aS 34 2 AD (aR M M.length) d rs (bQ M)++ [])))
theorem IE(A:aj)(n c:Nat)(rs:List aO)(M:ah)(w:aa)(hT:lO w)(hR:bF w A n rs M)(hn:n<=c)(hc:c<=9223372036854775807):
 aJ prog 243 [.agg #[.slice A n c]] w (QQ M w):=by
 refine bC func243 O ntmps243 O (ur O O) (bh O (jH (St.refl w) O O ?_));intro A1 w1 aH;refine Fq aH O ?_;intro A2 w2 aF;have aF:St w w2 [Bx 233 4 A2 [.slice none 0 0,ak 0,.slice none 0 0,.slice none 0 0],Bx 24 1 A1 [.slice A n c]]:=aF;refine ar O (ao.cN 0 (aF.rd 1 O) O O O (aL (yZ A n c rs M _ (aF.b7 hR) hn hc) O ?_));rintro _ w3 ⟨rfl,av⟩;have aQ:=aF.aq av.below;clear av aF aH
 first | refine fv rfl rfl ?_ | refine gz rfl rfl ?_
 refine aC O (aM _ O (fun h1=>?_) (fun h1=>?_))
 ·refine aA O (Le (by exact inferInstance) (by exact inferInstance) O (b5 4 0 aQ O O O O O O O ?_));intro w4 aX;refine bH O (kG O (aX.rd 0 O) O ?_);exact .inl ⟨by rw [Tp h1];decide,by rw [Tp h1];rfl,aX.none⟩
 have hM:bI M:=jR.1 h1;have zY:=pq M M.length;have s5:=vR M;refine aA O (ao.cN 0 (aQ.rd 1 O) O O O (aL (ahx A n c rs M _ (hT.aq aQ.below) (aQ.b7 hR) hM) O ?_));rintro _ w4 ⟨b,rfl,hb,av⟩;have aX:=aQ.aq av.below;clear av aQ;refine aC O (aM _ O (fun h2=>?_) (fun h2=>?_))
 ·refine aA O (Le (by exact inferInstance) (by exact inferInstance) O (ar O (b5 4 0 aX O O O O O O O ?_)));intro w5 ba;refine bH O (kG O (ba.rd 0 O) O ?_);exact .inl ⟨by rw [To hM h2];decide,by rw [To hM h2,alC h2];rfl,ba.none⟩
 have h2:sk M=0:=jR.1 h2;rw [LG b];refine aA O ?_
 first | refine fv rfl rfl ?_ | refine gz rfl rfl ?_
 refine aC O (aM _ O (fun h3=>?_) (fun h3=>?_))
 ·have Vj:¬vG M:=fun h=>h3 (hb.2 h)
  refine aA O (Le (by exact inferInstance) (by exact inferInstance) O (b5 4 0 aX O O O O O O O ?_));intro w5 ba;refine bH O (kG O (ba.rd 0 O) O ?_);exact .inl ⟨by rw [Tn hM h2 Vj];decide,by rw [Tn hM h2 Vj];rfl,ba.none⟩
 have hg:vG M:=hb.1 (jR.1 h3);have yA:=hg.1;have h5:=hM.1;refine aA O (ao.cN 0 (aX.rd 1 O) O O O (aL (SQ A n c rs M _ (aX.b7 hR) hM) O ?_));rintro _ w5 (⟨h9,_⟩ | ⟨_,AR,cR,AD,cD,dB,rfl,mH,av⟩)
 ·omega
 have ba:=aX.call av;clear av aX;refine ar O (nP ba O ?_);intro A6 w6 bo;refine b5 3 0 bo O O O O O O O ?_;intro w7 bK;obtain⟨N,hN⟩:∃N,aR M M.length=N:=⟨_,rfl⟩;unfold QQ;rw [hN]at zY s5 mH bK yA|-;have bK:St w w7 (bJ A6 (M.length:Int) AR N cR AD N cD::(ax 2 AR N cR (bU M M.length)::((aS 34 2 AD N cD dB (bQ M)++ [])++ [Bx 233 4 A2 [.slice none 0 0,ak 0,.slice none 0 0,.slice none 0 0],Bx 24 1 A1 [.slice A n c]]))):=bK;refine ar O (eL (i:= -1) bK O O O ?_);intro A9 w8 cj;refine aV (cj.rd 1 O) O (bj (cj.rd 1 O) O (fu 0 cj O (cj.bz 2 O) O O O ?_));intro A8 c8 w9 bT;have bT:St w w9 (ax 2 A8 (1+N) c8 ([-1]++bU M M.length)::bJ A6 (M.length:Int) AR N cR AD N cD::(ax 2 AR N cR (bU M M.length)::((aS 34 2 AD N cD dB (bQ M)++ [])++ [Bx 233 4 A2 [.slice none 0 0,ak 0,.slice none 0 0,.slice none 0 0],Bx 24 1 A1 [.slice A n c]]))):=bT;obtain⟨KK,s7⟩:∃KK:List Ck,KK=ax 2 AR N cR (bU M M.length)::(aS 34 2 AD N cD dB (bQ M)++ []):=⟨_,rfl⟩;have bT:St w w9 (ax 2 A8 (1+N) c8 ([-1]++bU M M.length)::bJ A6 (M.length:Int) AR N cR AD N cD::Bx 233 4 A2 [.slice none 0 0,ak 0,.slice none 0 0,.slice none 0 0]::KK):=by
  have fz:=bT.perm (show List.Perm _ (Bx 24 1 A1 [.slice A n c]::(ax 2 A8 (1+N) c8 ([-1]++bU M M.length)::bJ A6 (M.length:Int) AR N cR AD N cD::Bx 233 4 A2 [.slice none 0 0,ak 0,.slice none 0 0,.slice none 0 0]::KK)) from by
   rw [s7]
   classical
   refine jT.2 fun z=>?_
   simp only [l9,jS,ln];omega)
  exact fz.tail
 clear cj bK bo ba;refine aC O ?_;refine kK [4,7] [yS (A8) (1+N) (c8),yP (ay (A6) 0),yI ((M.length:Int)),.pr (fun v w'=>∃A9,v= .slice A9 1 1/\St w w' (ax 2 A9 1 1 [(M.length:Int)]::ax 2 A8 (1+N) c8 ([-1]++bU M M.length)::bJ A6 (M.length:Int) AR N cR AD N cD::Bx 233 4 A2 [.slice none 0 0,ak 0,.slice none 0 0,.slice none 0 0]::KK)),.pr (fun v w'=>∃AZ cZ,v= .slice AZ (1+N+1) cZ/\St w w' (ax 2 AZ (1+N+1) cZ (([-1]++bU M M.length)++ [(M.length:Int)])::bJ A6 (M.length:Int) AR N cR AD N cD::Bx 233 4 A2 [.slice none 0 0,ak 0,.slice none 0 0,.slice none 0 0]::KK)),.ex (.agg #[ak (M.length:Int),.slice AR N cR,.slice AD N cD]),.pr (fun v w'=>∃AZ cZ,v= .agg #[.slice AZ (1+N+1) cZ,ak (M.length:Int),.slice AR N cR,.slice AD N cD]/\St w w' (ax 2 AZ (1+N+1) cZ (([-1]++bU M M.length)++ [(M.length:Int)])::bJ A6 (M.length:Int) AR N cR AD N cD::Bx 233 4 A2 [.slice none 0 0,ak 0,.slice none 0 0,.slice none 0 0]::KK)),.pr (fun _ w'=>∃AZ cZ,St w w' (ax 2 AZ (1+N+1) cZ (([-1]++bU M M.length)++ [(M.length:Int)])::bJ A6 (M.length:Int) AR N cR AD N cD::Bx 233 4 A2 [.slice AZ (1+N+1) cZ,ak (M.length:Int),.slice AR N cR,.slice AD N cD]::KK)),yI ((0:Int))] (ly (ly (ly (cH.2 ⟨Ye.cJ (fun v w w' h hb=>by obtain⟨A9,hv,hT⟩:=h;exact⟨A9,hv,hT.aq hb⟩),(cH.2 ⟨Ye.cJ (fun v w w' h hb=>by obtain⟨AZ,cZ,hv,hT⟩:=h;exact⟨AZ,cZ,hv,hT.aq hb⟩),(ly (cH.2 ⟨Ye.cJ (fun v w w' h hb=>by obtain⟨AZ,cZ,hv,hT⟩:=h;exact⟨AZ,cZ,hv,hT.aq hb⟩),(cH.2 ⟨Ye.cJ (fun v w w' h hb=>by obtain⟨AZ,cZ,hT⟩:=h;exact⟨AZ,cZ,hT.aq hb⟩),(ly (fun _ h=>by cases h))⟩)⟩))⟩)⟩)))) ?_ ?_
 ·refine⟨bZ O,cP fun _ _ hb _ _ _=>aV ((bT.rd 1 O).below hb) O (bG O O),cP fun _ _ hb _ _ _=>gP ((bT.rd 1 O).below hb) O O O O O (bG O O),?_,?_,?_,?_,?_,bZ O,au⟩
  ·refine cP fun e1 w1 hb hp aU hq=>?_
   exact eL (St.refl _) O O O fun A9 w9 av=>ao.n (fM.dn O av.below ⟨A9,O,(bT.aq hb).call av⟩)
  ·refine kO fun e1 w1 hb hp aU hq=>?_
   obtain⟨A9,h39,hT⟩:=(hp 3 _ _ (by kernel_rfl) rfl rfl (by kernel_rfl));refine fu 1 hT O (hT.bz 0 O) O (by exact h39) O ?_;intro AZ cZ wZ hZ;exact ao.n (gn.dn O ⟨AZ,cZ,O,hZ.tail⟩)
  ·intro e1 w1 cc fo dv fL hp aU hq;show ao _ _ _ _ _ _ _;have hX:Rd w1 A6 3 (fun q=> [Value.int .i64 (M.length:Int),.slice AR N cR,.slice AD N cD].getD q undef):=by { have dv:=qZ dv (b:=1) (by kernel_rfl);rcases(show cc=0\/cc=1 by omega)with h | h; { exact(bT.aq (fL h)).rd 1 rfl }; { subst h;obtain⟨AZ,cZ,_,hT⟩:=hq 4 _ _ (by kernel_rfl) (by kernel_rfl) (by kernel_rfl) rfl rfl (by kernel_rfl);exact hT.rd 1 rfl } }
   refine ao.cN 2 hX O O O (ao.n (iz O (by exact O)))
  ·refine dP 1 fun e1 w1 hp aU hq=>?_
   have fh:=hp 4 _ _ (by kernel_rfl) O O (by kernel_rfl);obtain⟨AZ,cZ,I0,hT⟩:=(hp 4 _ _ (by kernel_rfl) rfl rfl (by kernel_rfl));refine ZM (v0:= .slice AZ (1+N+1) cZ) (by exact inferInstance) (by exact inferInstance) O O (by exact I0) O O O (ao.n ?_);exact fM.dn O (Below.refl _ _) ⟨AZ,cZ,O,hT⟩
  refine sS 1 fun e1 w1 hp aU hq=>?_
  have fh:=hp 4 _ _ (by kernel_rfl) O O (by kernel_rfl);obtain⟨AY,cY,h42,hT⟩:=(hp 6 _ _ (by kernel_rfl) rfl rfl (by kernel_rfl));refine b5 4 2 hT O O (by exact h42) O O O O ?_;intro eF BX;exact ao.n (gn.st O ⟨AY,cY,BX⟩)
 intro u dY _ hu _ _;obtain⟨AZ,cZ,hT⟩:=hu 7 _ rfl (by kernel_rfl);refine zz O (kG O (hT.rd 2 O) O ?_);refine .inr ⟨Mu hM hg,AZ,cZ,AR,cR,AD,cD,dB,?_,mH,?_⟩
 ·rw [show N+2=1+N+1 by omega];rfl
 rw [show N+2=1+N+1 by omega,<-s7];exact hT.sub (((lJ _).cons _).cons _ |>.cons_cons _)
theorem eq_4{a b c d b' c' d':ad}(h1:b=b')(h2:c=c')(h3:d=d'):[a,b,c,d]=[a,b',c',d']:=by rw [h1,h2,h3]
theorem aij(n:Nat)(A D:aj)(cA cD:Nat)(R:ai)(rs:List aO)(B:ah)(w:aa)(hR:cL w A R.length R)(hB:bF w D B.length rs B)(hP:gL n R B):
 aJ prog 237 [.agg #[ak n,.slice A R.length cA,.slice D B.length cD]] w (fun v w'=>∃A' c' rs',v= .tuple #[.slice A' (cap (aG n R B)).length c',.bool (decide ((aG n R B).length<=400))]/\rs'.length=(cap (aG n R B)).length/\St w w' (aS 34 2 A' (cap (aG n R B)).length c' rs' (cap (aG n R B))++ [])):=by
 have hn:=hP.n1;have hle:=hP.len;have dt:=acC (n:=n) (R:=R) (B:=B) am;have Nu:=Ig (l:=aG n R B);obtain⟨N,hN⟩:∃N,R.length=N:=⟨_,rfl⟩;have s9:=fun(w:aa) hR hB=>aih n A D cA cD R rs B w hR hB hP
 have hex:=fun(w:aa) La hR hB Aa Ja=>aii w n A D cA cD R rs B N hN hR hB hP Aa La Ja
 rw [hle]at hB s9;rw [hN]at hR hB s9;rw [hle,hN];refine bC func237 O ntmps237 O (pV O) (bh O (oG (St.refl w) O O ?_));intro A1 wB aH;have h1:Rd wB A1 3 (fun j=> [Value.int .i64 (n:Int),.slice A N cA,.slice D N cD].getD j undef):=aH.rd 0 O;have hR:=aH.gA hR;have hB:=aH.b7 hB;have aH:=aH.none;refine aC O ?_;refine kK [5] [.ex (.agg #[ak n,.slice A N cA,.slice D N cD]),.ex (.agg #[ak n,.slice A N cA,.slice D N cD]),.pr (fun v w'=>∃A7 L,v= .slice A7 N N/\tJ N L (fun x=>eh n R B x)/\St wB w' [gK 4 A7 N N L]),.pr (fun v w'=>∃A8,v= .slice A8 0 0/\St wB w' [ax 2 A8 0 0 []]),.pr (fun v w'=>∃A9,v= .slice A9 0 0/\St wB w' [cg 34 A9 0 0 []]),.pr (fun v w'=>∃A' c' rs',v= .slice A' (cap (aG n R B)).length c'/\rs'.length=(cap (aG n R B)).length/\St wB w' (aS 34 2 A' (cap (aG n R B)).length c' rs' (cap (aG n R B))++ [])),.pr (fun v w'=>∃A' c' rs',v= .slice A' (cap (aG n R B)).length c'/\rs'.length=(cap (aG n R B)).length/\St wB w' (aS 34 2 A' (cap (aG n R B)).length c' rs' (cap (aG n R B))++ []))] (ly (ly (cH.2 ⟨Ye.cJ (fun v w w' h hb=>by obtain⟨A7,L,hv,hL,hT⟩:=h;exact⟨A7,L,hv,hL,hT.aq hb⟩),(cH.2 ⟨Ye.cJ (fun v w w' h hb=>by obtain⟨A8,hv,hT⟩:=h;exact⟨A8,hv,hT.aq hb⟩),(cH.2 ⟨Ye.cJ (fun v w w' h hb=>by obtain⟨A9,hv,hT⟩:=h;exact⟨A9,hv,hT.aq hb⟩),(cH.2 ⟨Ye.cJ (fun v w w' h hb=>by obtain⟨A',c',rs',hv,fP,hT⟩:=h;exact⟨A',c',rs',hv,fP,hT.aq hb⟩),(cH.2 ⟨Ye.cJ (fun v w w' h hb=>by obtain⟨A',c',rs',hv,fP,hT⟩:=h;exact⟨A',c',rs',hv,fP,hT.aq hb⟩),(fun _ h=>by cases h)⟩)⟩)⟩)⟩)⟩))) ?_ ?_
 ·refine⟨cP fun _ _ hb _ _ _=>ao.cN 2 (Rd.below h1 hb) O O O (bG O O),cP fun _ _ hb _ _ _=>ao.cN 2 (Rd.below h1 hb) O O O (bG O O),?_,?_,?_,?_,?_,au⟩
  ·refine cP fun e1 w1 hb hp aU hq=>?_
   refine aL (s9 _ (hR.aq hb) (hB.aq hb)) O ?_;rintro _ w9 ⟨A7,L,rfl,hL,av⟩;refine ao.n ?_;exact fM.dn O av.below ⟨A7,L,O,hL,by have:=((St.refl wB).aq hb).call av;rwa [fI]at this⟩
  ·refine cP fun e1 w1 hb hp aU hq=>?_
   refine jr (St.refl _) O fun A8 w9 av=>ao.n ?_;exact fM.dn O av.below ⟨A8,O,by have:=((St.refl wB).aq hb).call av;rwa [fI]at this⟩
  ·refine cP fun e1 w1 hb hp aU hq=>?_
   refine jr (St.refl _) O fun A9 w9 av=>ao.n ?_;exact fM.dn O av.below ⟨A9,O,by have:=((St.refl wB).aq hb).call av;rwa [fI]at this⟩
  ·refine kO fun e1 w1 hb hp aU hq=>?_
   obtain⟨A7,L,h7,hL,oT⟩:=(hp 2 _ _ (by kernel_rfl) rfl rfl (by kernel_rfl));obtain⟨A8,h8,oa⟩:=(hp 3 _ _ (by kernel_rfl) rfl rfl (by kernel_rfl));obtain⟨A9,h9,qO⟩:=(hp 4 _ _ (by kernel_rfl) rfl rfl (by kernel_rfl));have hM1:=qO.merge oT (fun k hk=>by obtain rfl:=gj.1 hk;rfl) (fun k hk=>by obtain rfl:=gj.1 hk;exact G0 _) (fun k hk k' eI=>by obtain rfl:=gj.1 hk;obtain rfl:=gj.1 eI;exact(by decide:¬(34=4)));have F6:=oa.merge hM1 (fun k hk=>by obtain rfl:=gj.1 hk;rfl) (fun k hk=>by rcases iX.1 hk with rfl | hk; { rfl }; { obtain rfl:=gj.1 hk;exact G0 _ }) (fun k hk k' eI=>by obtain rfl:=gj.1 hk;rcases iX.1 eI with rfl | eI; { exact(by decide:¬(2=34)) }; { obtain rfl:=gj.1 eI;exact(by decide:¬(2=4)) });refine aqm (hex wB L hR hB A7 hL n 0 [] A8 0 [gK 4 A7 N N L] _ A9 0 [] [] am rfl (fun x hx=>by cases hx) (gj.2 rfl) rfl (bg _) F6) rfl (by exact eq_4 h7 h8 h9) rfl ?_;rintro _ w9 ⟨A',c',rs',rfl,fP,rR⟩;rw [List.nil_append,dt]at fP rR|-;exact ao.n (gn.dn O ⟨A',c',rs',O,fP,rR.sub ((lJ _).append (List.nil_sublist _))⟩)
  refine dP 1 fun e1 w1 hp aU hq=>?_
  have fh:=hp 5 _ _ (by kernel_rfl) O O (by kernel_rfl);obtain⟨A',c',rs',fz,fP,hT⟩:=(hp 5 _ _ (by kernel_rfl) rfl rfl (by kernel_rfl));refine lM O (by exact fz) O (ao.n ?_);exact fM.dn O (Below.refl _ _) ⟨A',c',rs',O,fP,hT⟩
 intro u w2 _ hu _ _;obtain⟨A',c',rs',hv,fP,hT⟩:=hu 6 _ rfl (by kernel_rfl);refine Hi (F:=[(4,.slice A' (cap (aG n R B)).length c')]) ⟨hv,au⟩ (jD O (a8 O O (bH O ?_)));refine KI O O ?_;refine⟨A',c',rs',?_,fP,(by rw [fI]at hT;exact aH.none.call hT)⟩;show Value.tuple #[_,Value.bool (decide _)]=_;rw [show decide ((((cap (aG n R B)).length:Nat):Int)<=400)=decide ((aG n R B).length<=400) from ju.2 (by omega)]
def tR(a b:ai)(i:Nat):Nat:=((List.range i).filter fun k:Nat=>decide (gi a k≠gi b k)).length
theorem ach(a b:ai)(i:Nat):tR a b (i+1)=if gi a i≠gi b i then tR a b i+1 else tR a b i:=by
 unfold tR;rw [jU,sK,ck]
 by_cases c:gi a i≠gi b i
 ·rw [aB c];simp [c]
 rw [az c];simp [c]
theorem acg(a b:ai)(i:Nat):tR a b i<=i:=by
 refine mS (sL _ _) ?_;rw [rA];exact br _
theorem Wm(A A2:aj)(n c m c2:Nat)(a b:ai)(w:aa)(hA:cL w A n a)(hB:cL w A2 m b)(hm:m=n)(hn:n<=1000):
 aJ prog 302 [.slice A n c,.slice A2 m c2] w (fun v w'=>v=ak ((tR a b n:Nat):Int)/\St w w' []):=by
 have ha:=hA.1;have hb:=hB.1;refine bC func302 O ntmps302 O (df O) (bL O ?_);refine Cd.loop (α:=Nat) (fun i=> [(0,.slice A n c),(1,.slice A2 m c2),(5,ak ((tR a b i:Nat):Int)),(6,ak i)]) (fun i w'=>i<=n/\St w w' []) (fun i=>n - i) 0 (aqv O) ⟨bg _,St.refl w⟩ ?_;rintro i e w2 ⟨hi,hS⟩;have xo:=acg a b i;have pC:=ach a b i;have zP:=hS.gA hA;have tW:=hS.gA hB;refine bh O (a8 O O (aC O ?_));refine aM _ O (fun h2=>?_) (fun h2=>?_)
 ·refine dA O (dU [xS (A) (n) (c),xI ((i:Int)),xP (ay (A) ((i:Int)).toNat),xI (gi (a) ((i:Int))),xS (A2) (m) (c2),xI ((i:Int)),xP (ay (A2) ((i:Int)).toNat),xI (gi (b) ((i:Int))),xB (decide (¬(gi (a) ((i:Int)))=(gi (b) ((i:Int)))))] O (eG O) ?_ ?_)
  ·exact⟨Dr O,Dr O,fun _ _ hb _ _=>aD (zP.aq hb).2 O Az,fun _ _ hb _ _=>aY (zP.aq hb) O Az,Dr O,Dr O,fun _ _ hb _ _=>aD (tW.aq hb).2 O Az,fun _ _ hb _ _=>aY (tW.aq hb) O Az,Dr O,au⟩
  intro u w3 gI _;have aQ:=hS.aq gI;refine eS O (aM _ O (fun h3=>?_) (fun h3=>?_))
  ·rw [aB h3]at pC;refine aA O (aI O (ar O (aI O (aT O (tQ ?_)))));exact⟨i+1,by show n - (i+1)<n - i;omega,⟨O,O,aE (fun m:Nat=>Value.int .i64 (m:Int)) pC.symm,O,au⟩,am,aQ⟩
  rw [az h3]at pC;refine aA O (aI O (aT O (tQ ?_)));exact⟨i+1,by show n - (i+1)<n - i;omega,⟨O,O,aE (fun m:Nat=>Value.int .i64 (m:Int)) pC.symm,O,au⟩,am,aQ⟩
 obtain rfl:i=n:=by omega
 refine bp O (bt (gw O ?_));exact iH O ⟨O,hS⟩
section
variable {n:Nat} {fl:ah} {a b k i:Nat}
end
section
variable {P:Program} {N:Nat} {ops:Array Oper} {K:Env->aa->Prop} {rest:List Oper} {e:Env} {w:aa} {d:Nat} {ty:ae} {pos:String} {af:Array Edge} {x y:ag} {xt yt:ae}
end
instance (R:ai)(i e:Int):Decidable (zB R i e):=by unfold zB;infer_instance
instance (n:Int)(R:ai)(i e:Int):Decidable (zA n R i e):=by unfold zA;infer_instance
end Go.Proofs.YtkccgdhcpplblaaGreatDoor.Vc
namespace Go.Proofs.YtkccgdhcpplblaaGreatDoor.Vc.TS
open Go.RowKit Tryz
variable{m b p k:Nat}{w0 w:aa}{ks:List Ck}{t:ae}
theorem aca{a:Nat}(h1:a<m)(h2:m<b){c:Nat}(hc:nF a m b<=c)(pB:c<fm a m b):a<=c/\c<m/\m<=(a+b) / 2+m - 1 - c/\(a+b) / 2+m - 1 - c<b:=by
 unfold nF at hc;unfold fm at pB
 by_cases h:(a+b) / 2<m
 ·rw [aB h]at hc pB;omega
 rw [az h]at hc pB;omega
theorem aiU{a:Nat}(h1:a<m)(h2:m<b):nF a m b<=fm a m b:=by
 unfold nF fm
 split<;>omega
theorem Yv{A:aj}{n c:Nat}(hn:n<=4000000000000):∀(f a m b:Nat),b - a<=f->a<m->m<b->b<=n->∀(ds:List TV) (w:aa),(∀s∈ds,qF s)->(∀x y,a<=x->x<m->m<=y->y<b->mY (gs ds x)<mY (gs ds y))->SR kT ds a m->SR kT ds m b->St w0 w (eJ t A n c ds::ks)->
 aJ prog 345 [.slice A n c,ak a,ak m,ak b,.func (.func 305) #[] #[]] w (fun v w'=>v= .tuple #[]/\∃mC,RP ds mC a b/\SR kT mC a b/\St w0 w' (eJ t A n c mC::ks)):=by
 intro f
 induction f with
 | zero=>intro a m b h1 h2 h3;omega
 | succ f ih=>
  intro a m b hf Jo Gy td ds w hc Ol hA hB hS;have ve:ds.length=n:=(hS.ku 0 O).1;have ua:=TB hc;have yD:=fun x y h1 h2 h3 h4=>Se (ua y) (ua x) (Ol x y h1 h2 h3 h4)
  refine bC func345 O ntmps345 O (CQ O) ?_;refine bh O (dZ O (aC O ?_));refine aM _ O (fun h1=>?_) (fun h1=>?_)
  ·have hm:m=a+1:=by omega
   refine dA O ?_;refine Cd.loop (α:=Nat×Nat) (fun z=> [(0,.slice A n c),(1,ak a),(2,ak m),(3,ak b),(4,.func (.func 305) #[] #[]),(10,ak (z.1:Int)),(11,ak (z.2:Int))])
    (fun z w'=> (m<=z.1/\z.1<=z.2/\z.2<=b)/\(∀x,m<=x->x<z.1->kT (gs ds x)<kT (gs ds a))/\(∀x,z.2<=x->x<b->kT (gs ds a)<=kT (gs ds x))/\St w0 w' (eJ t A n c ds::ks)) (fun z=>z.2 - z.1) (m,b) ⟨rfl,rfl,rfl,rfl,rfl,rfl,rfl,au⟩ ⟨⟨br _,by show m<=b;omega,br _⟩,fun x h h'=>by omega,fun x h h'=>by omega,hS⟩ ?_
   rintro⟨i,j⟩ e w1 ⟨⟨fm,iy,tk⟩,hL,hR,aH⟩;dsimp only at fm iy tk hL hR aH|-;refine bL O (aM _ O (fun h2=>?_) (fun h2=>?_))
   ·refine aA O (aI O ?_);refine qc O O (xT _ am) (Fs O O O am (qc O O (IntWalk.i64_in _ am) (aC O ?_)));obtain⟨h,hh⟩:∃h:Nat,h=(i+j) / 2:=⟨_,rfl⟩;rw [show((i:Int)+ (j:Int)) / 2=(h:Int) by omega];have lW:=aH.ku 0 O;have g1:tg ds h=gs ds h:=O;have g2:tg ds a=gs ds a:=O;refine dU [.ex (.func (.func 305) #[] #[]),xS (A) (n) (c),xI ((h:Int)),xP (ay (A) (((h:Int)).toNat*3)),.ex ((tg (ds) ((h:Int))).v),xS (A) (n) (c),xI ((a:Int)),xP (ay (A) (((a:Int)).toNat*3)),.ex ((tg (ds) ((a:Int))).v),xI (sR (gs ds h) (gs ds a)),xB (decide ((sR (gs ds h) (gs ds a))< ((0:Int))))] O (eG O) ?_ ?_
    ·refine⟨Dr O,Dr O,Dr O,fun _ _ hb _ _=>lq (lW.aq hb) O Az,fun _ _ hb _ _=>pn (lW.aq hb) O am O Az,Dr O,Dr O,fun _ _ hb _ _=>lq (lW.aq hb) O Az,fun _ _ hb _ _=>pn (lW.aq hb) O am O Az,?_,Dr O,au⟩
     ·intro e1 w1 hb hp aU;refine aL (Il (gs ds h) (gs ds a) _) O ?_;rintro _ w9 ⟨rfl,jN⟩;refine ao.n ?_;exact eP.dn jN.below (by exact O)
    intro u w2 eB _;have aF:=aH.aq eB;refine eS O (aM _ O (fun h3=>?_) (fun h3=>?_))
    ·refine aA O (aI O (aT O (tQ ?_)));refine⟨(h+1,j),by show j - (h+1)<j - i;omega,(aqv O),⟨by show m<=h+1;omega,by show h+1<=j;omega,tk⟩,fun x iT qY=>?_,hR,aF⟩;have qY:x<h+1:=qY;have k1:kT (gs ds x)<=kT (gs ds h):=hB.le iT am am;have k2:kT (gs ds h)<kT (gs ds a):=(yD a h (br _) Jo am am).1 h3;omega
    ·refine oC O (tQ ?_);refine⟨(i,h),by show h - i<j - i;omega,(aqv O),⟨fm,by show i<=h;omega,by show h<=b;omega⟩,hL,fun x iT qY=>?_,aF⟩;have iT:h<=x:=iT;have k1:kT (gs ds h)<=kT (gs ds x):=hB.le am iT qY;have k2:kT (gs ds a)<=kT (gs ds h):=Int.not_lt.1 fun h'=>h3 ((yD a h (br _) Jo am am).2 h')
     omega
   ·have Gs:i=j:=by omega
    subst Gs;refine bp O (bt (sI O ?_));refine Cd.loop (α:=Nat×List TV) (fun z=> [(0,.slice A n c),(4,.func (.func 305) #[] #[]),(10,ak i),(13,ak (z.1:Int))]) (fun z w'=> (a<=z.1/\z.1<=i - 1)/\RP ds z.2 a b/\wP ds z.2 a z.1/\St w0 w' (eJ t A n c z.2::ks)) (fun z=>i - z.1) (a,ds) (aqv O) ⟨⟨br _,by show a<=i - 1;omega⟩,RP.refl _ _ _,wP.start _ _,aH⟩ ?_;rintro⟨k,cu⟩ e w2 ⟨⟨fO,kX⟩,hp,vg,aF⟩;dsimp only at fO kX hp vg aF|-;have de:cu.length=n:=(aF.ku 0 O).1;refine bh O (dZ O (aC O ?_));refine aM _ O (fun h3=>?_) (fun h3=>?_)
    ·have iZ:=aF.ku 0 O;have ek:((k:Int)+1).toNat=k+1:=by omega
     have g1:tg cu k=gs cu k:=O;have g2:tg cu ((k:Int)+1)=gs cu (k+1):=by unfold tg gs;rw [ek]
     refine dA O ?_;refine kK [15,17] [yS (A) (n) (c),yI ((k:Int)),yS (A) (n) (c),yI ((k:Int)),yI (((k:Int))+ ((1:Int))),yS (A) (n) (c),yI ((k:Int)),yI (((k:Int))+ ((1:Int))),yP (ay (A) ((((k:Int))+ ((1:Int))).toNat*3)),.ex ((tg (cu) (((k:Int))+ ((1:Int)))).v),yS (A) (n) (c),yI ((k:Int)),yP (ay (A) (((k:Int)).toNat*3)),.ex ((tg (cu) ((k:Int))).v),yP (ay (A) (((k:Int)).toNat*3)),.pr (fun _ w'=>St w0 w' (eJ t A n c (cu.set k (gs cu (k+1)))::ks)),yP (ay (A) ((((k:Int))+ ((1:Int))).toNat*3)),.pr (fun _ w'=>St w0 w' (eJ t A n c (swp cu k (k+1))::ks))] (ly (ly (ly (ly (ly (ly (ly (ly (ly (ly (ly (ly (ly (ly (ly (cH.2 ⟨Ye.cJ (fun v w w' h hb=>h.aq hb),(ly (cH.2 ⟨Ye.cJ (fun v w w' h hb=>h.aq hb),(fun _ h=>by cases h)⟩))⟩)))))))))))))))) ?_ ?_
     ·refine⟨bZ O,bZ O,bZ O,bZ O,aP fun _ _=>aI O (bG O O),bZ O,bZ O,aP fun _ _=>aI O (bG O O),cP fun _ _ hb _ _ _=>lq (iZ.aq hb) O (bG O O),cP fun _ _ hb _ _ _=>pn (iZ.aq hb) O am O (bG O O),bZ O,bZ O,cP fun _ _ hb _ _ _=>lq (iZ.aq hb) O (bG O O),cP fun _ _ hb _ _ _=>pn (iZ.aq hb) O am O (bG O O),cP fun _ _ hb _ _ _=>lq (iZ.aq hb) O (bG O O),?_,?_,?_,au⟩
      ·refine kO fun e1 w1 hb hp aU hq=>?_
       exact zE 0 (aF.aq hb) O O O am fun w6 bo=>ao.n (gn.st O (Bj (i:=(k:Int)) O g2 bo))
      ·refine dP 1 fun e1 w1 hp aU hq=>?_
       have fh:=hp 15 _ _ (by kernel_rfl) O O (by kernel_rfl);have iJ:=fh.ku 0 O;have Gw:(cu.set k (gs cu (k+1))).length=n:=by rw [mA];exact de
       refine lq (iJ) O (ao.n (iz O (by exact O)))
      ·refine sS 1 fun e1 w1 hp aU hq=>?_
       have fh:=hp 15 _ _ (by kernel_rfl) O O (by kernel_rfl);have iJ:=fh.ku 0 O;have Gw:(cu.set k (gs cu (k+1))).length=n:=by rw [mA];exact de
       exact zE 0 fh O O O am fun w7 bK=>ao.n (gn.st O (Bj ek g1 bK))
     intro u w5 _ hu _ _;have ba:=hu 17 _ O (by kernel_rfl);refine jD O (aI O (aT O (tQ ?_)));exact⟨(k+1,swp cu k (k+1)),by show i - (k+1)<i - k;omega,(aqv O),⟨by show a<=k+1;omega,by show k+1<=i - 1;omega⟩,hp.trans (Qx am am fO am am am) (br _) (br _),vg.next fO am,ba⟩
    ·have Ei:k=i - 1:=by omega
     subst Ei;refine bp O (bt (gw O ?_));exact PS ⟨O,cu,hp,vg.sorted (hm▸hB) am tk (fun x h4 h5=>Int.le_of_lt (hL x am h5)) hR,aF⟩
  refine aA O (dZ O (aC O ?_));refine aM _ O (fun h2=>?_) (fun h2=>?_)
  ·have dE:b=m+1:=by omega
   refine dA O ?_;refine Cd.loop (α:=Nat×Nat) (fun z=> [(0,.slice A n c),(1,ak a),(2,ak m),(3,ak b),(4,.func (.func 305) #[] #[]),(14,ak (z.1:Int)),(15,ak (z.2:Int))])
    (fun z w'=> (a<=z.1/\z.1<=z.2/\z.2<=m)/\(∀x,a<=x->x<z.1->kT (gs ds x)<=kT (gs ds m))/\(∀x,z.2<=x->x<m->kT (gs ds m)<=kT (gs ds x))/\St w0 w' (eJ t A n c ds::ks)) (fun z=>z.2 - z.1) (a,m) ⟨rfl,rfl,rfl,rfl,rfl,rfl,rfl,au⟩ ⟨⟨br _,by show a<=m;omega,br _⟩,fun x h h'=>by omega,fun x h h'=>by omega,hS⟩ ?_
   rintro⟨i,j⟩ e w1 ⟨⟨fm,iy,tk⟩,hL,hR,aH⟩;dsimp only at fm iy tk hL hR aH|-;refine bL O (aM _ O (fun h3=>?_) (fun h3=>?_))
   ·refine aA O (aI O ?_);refine qc O O (xT _ am) (Fs O O O am (qc O O (IntWalk.i64_in _ am) (aC O ?_)));obtain⟨h,hh⟩:∃h:Nat,h=(i+j) / 2:=⟨_,rfl⟩;rw [show((i:Int)+ (j:Int)) / 2=(h:Int) by omega];have lW:=aH.ku 0 O;have g1:tg ds h=gs ds h:=O;have g2:tg ds m=gs ds m:=O;refine dU [.ex (.func (.func 305) #[] #[]),xS (A) (n) (c),xI ((m:Int)),xP (ay (A) (((m:Int)).toNat*3)),.ex ((tg (ds) ((m:Int))).v),xS (A) (n) (c),xI ((h:Int)),xP (ay (A) (((h:Int)).toNat*3)),.ex ((tg (ds) ((h:Int))).v),xI (sR (gs ds m) (gs ds h)),xB (decide ((sR (gs ds m) (gs ds h))< ((0:Int)))),xB (decide (¬((sR (gs ds m) (gs ds h))< ((0:Int)))))] O (eG O) ?_ ?_
    ·refine⟨Dr O,Dr O,Dr O,fun _ _ hb _ _=>lq (lW.aq hb) O Az,fun _ _ hb _ _=>pn (lW.aq hb) O am O Az,Dr O,Dr O,fun _ _ hb _ _=>lq (lW.aq hb) O Az,fun _ _ hb _ _=>pn (lW.aq hb) O am O Az,?_,Dr O,fun _ _ _ _ _=>fv O O Az,au⟩
     ·intro e1 w1 hb hp aU;refine aL (Il (gs ds m) (gs ds h) _) O ?_;rintro _ w9 ⟨rfl,jN⟩;refine ao.n ?_;exact eP.dn jN.below (by exact O)
    intro u w2 eB _;have aF:=aH.aq eB;refine eS O (aM _ O (fun h4=>?_) (fun h4=>?_))
    ·refine aA O (aI O (aT O (tQ ?_)));refine⟨(h+1,j),by show j - (h+1)<j - i;omega,(aqv O),⟨by show a<=h+1;omega,by show h+1<=j;omega,tk⟩,fun x iT qY=>?_,hR,aF⟩;have qY:x<h+1:=qY;have k1:kT (gs ds x)<=kT (gs ds h):=hA.le iT am am;have k2:kT (gs ds h)<=kT (gs ds m):=Int.not_lt.1 fun h'=>h4 ((yD h m am am (br _) Gy).2 h')
     omega
    ·refine oC O (tQ ?_);refine⟨(i,h),by show h - i<j - i;omega,(aqv O),⟨fm,by show i<=h;omega,by show h<=m;omega⟩,hL,fun x iT qY=>?_,aF⟩;have iT:h<=x:=iT;have k1:kT (gs ds h)<=kT (gs ds x):=hA.le am iT qY;have k2:kT (gs ds m)<=kT (gs ds h):=Int.le_of_lt ((yD h m am am (br _) Gy).1 (jR.1 h4));omega
   ·have Gs:i=j:=by omega
    subst Gs;refine bp O (bt (sI O ?_));refine Cd.loop (α:=Nat×List TV) (fun z=> [(0,.slice A n c),(4,.func (.func 305) #[] #[]),(14,ak i),(17,ak (z.1:Int))]) (fun z w'=> (i<=z.1/\z.1<=m)/\RP ds z.2 a b/\wO ds z.2 m z.1/\St w0 w' (eJ t A n c z.2::ks)) (fun z=>z.1) (m,ds) (aqv O) ⟨⟨tk,br _⟩,RP.refl _ _ _,wO.start _ _,aH⟩ ?_;rintro⟨k,cu⟩ e w2 ⟨⟨fO,kX⟩,hp,vg,aF⟩;dsimp only at fO kX hp vg aF|-;have de:cu.length=n:=(aF.ku 0 O).1;refine bL O (aM _ O (fun h4=>?_) (fun h4=>?_))
    ·have iZ:=aF.ku 0 O;have ek:((k:Int) - 1).toNat=k - 1:=by omega
     have g1:tg cu k=gs cu k:=O;have g2:tg cu ((k:Int) - 1)=gs cu (k - 1):=by unfold tg gs;rw [ek]
     refine dA O ?_;refine kK [15,17] [yS (A) (n) (c),yI ((k:Int)),yS (A) (n) (c),yI ((k:Int)),yI (((k:Int)) - ((1:Int))),yS (A) (n) (c),yI ((k:Int)),yI (((k:Int)) - ((1:Int))),yP (ay (A) ((((k:Int)) - ((1:Int))).toNat*3)),.ex ((tg (cu) (((k:Int)) - ((1:Int)))).v),yS (A) (n) (c),yI ((k:Int)),yP (ay (A) (((k:Int)).toNat*3)),.ex ((tg (cu) ((k:Int))).v),yP (ay (A) (((k:Int)).toNat*3)),.pr (fun _ w'=>St w0 w' (eJ t A n c (cu.set k (gs cu (k - 1)))::ks)),yP (ay (A) ((((k:Int)) - ((1:Int))).toNat*3)),.pr (fun _ w'=>St w0 w' (eJ t A n c (swp cu k (k - 1))::ks))] (ly (ly (ly (ly (ly (ly (ly (ly (ly (ly (ly (ly (ly (ly (ly (cH.2 ⟨Ye.cJ (fun v w w' h hb=>h.aq hb),(ly (cH.2 ⟨Ye.cJ (fun v w w' h hb=>h.aq hb),(fun _ h=>by cases h)⟩))⟩)))))))))))))))) ?_ ?_
     ·refine⟨bZ O,bZ O,bZ O,bZ O,aP fun _ _=>dZ O (bG O O),bZ O,bZ O,aP fun _ _=>dZ O (bG O O),cP fun _ _ hb _ _ _=>lq (iZ.aq hb) O (bG O O),cP fun _ _ hb _ _ _=>pn (iZ.aq hb) O am O (bG O O),bZ O,bZ O,cP fun _ _ hb _ _ _=>lq (iZ.aq hb) O (bG O O),cP fun _ _ hb _ _ _=>pn (iZ.aq hb) O am O (bG O O),cP fun _ _ hb _ _ _=>lq (iZ.aq hb) O (bG O O),?_,?_,?_,au⟩
      ·refine kO fun e1 w1 hb hp aU hq=>?_
       exact zE 0 (aF.aq hb) O O O am fun w6 bo=>ao.n (gn.st O (Bj (i:=(k:Int)) O g2 bo))
      ·refine dP 1 fun e1 w1 hp aU hq=>?_
       have fh:=hp 15 _ _ (by kernel_rfl) O O (by kernel_rfl);have iJ:=fh.ku 0 O;have Gw:(cu.set k (gs cu (k - 1))).length=n:=by rw [mA];exact de
       refine lq (iJ) O (ao.n (iz O (by exact O)))
      ·refine sS 1 fun e1 w1 hp aU hq=>?_
       have fh:=hp 15 _ _ (by kernel_rfl) O O (by kernel_rfl);have iJ:=fh.ku 0 O;have Gw:(cu.set k (gs cu (k - 1))).length=n:=by rw [mA];exact de
       exact zE 0 fh O O O am fun w7 bK=>ao.n (gn.st O (Bj ek g1 bK))
     intro u w5 _ hu _ _;have ba:=hu 17 _ O (by kernel_rfl);refine jD O (dZ O (aT O (tQ ?_)));exact⟨(k - 1,swp cu k (k - 1)),by show k - 1<k;omega,⟨O,O,O,by show Value.int .i64 _=ak _;congr 1;omega,au⟩,⟨by show i<=k - 1;omega,by show k - 1<=m;omega⟩,hp.trans (Qx am am am am am am) (br _) (br _),vg.next am kX am,ba⟩
    ·have Ei:k=i:=by omega
     subst Ei;refine bp O (bt (gw O ?_));exact PS ⟨O,cu,hp,dE▸vg.sorted hA fm tk hL hR,aF⟩
  have h1:a+1<m:=by omega
  have h2:m+1<b:=by omega
  refine aA O (aI O ?_);refine qc O O (xT _ am) (Fs O O O am (qc O O (IntWalk.i64_in _ am) ?_));obtain⟨mid,qq⟩:∃h:Nat,h=(a+b) / 2:=⟨_,rfl⟩;rw [show((a:Int)+ (b:Int)) / 2=(mid:Int) by omega];have ud:2*mid<=a+b/\a+b<=2*mid+1:=by omega
  have N0:=aiU Jo Gy;have hh0:fm a m b<=m:=by unfold fm;split<;>omega
  have J2:=fun c=>aca Jo Gy (c:=c)
  rw [<-qq]at J2;refine ar O (aI O (Fg 2 O ?_));refine uF (α:=Unit) (fun _=> [(0,.slice A n c),(1,ak a),(2,ak m),(3,ak b),(4,.func (.func 305) #[] #[]),(18,ak mid),(19,ak ((mid:Int)+ (m:Int))),(20,ak ((nF a m b:Nat):Int)),(21,ak ((fm a m b:Nat):Int))]) (fun _ w'=>w'=w) ?_ ?_
  ·refine bL O (aM _ O (fun h3=>?_) (fun h3=>?_))
   ·have e1:nF a m b=mid+m - b:=by unfold nF;rw [if_pos (by omega),<-qq]
    have e2:fm a m b=mid:=by unfold fm;rw [if_pos (by omega),<-qq]
    rw [e1,e2];refine aA O (dZ O (aT O (tQ ?_)));exact⟨(),⟨O,O,O,O,O,O,O,by show Value.int .i64 ((mid:Int)+ (m:Int) - (b:Int))=ak ((mid+m - b:Nat):Int);congr 1;omega,O,au⟩,O⟩
   ·have e1:nF a m b=a:=by unfold nF;rw [if_neg (by omega)]
    have e2:fm a m b=m:=by unfold fm;rw [if_neg (by omega)]
    rw [e1,e2];refine oC O (tQ ?_);exact⟨(),(aqv O),O⟩
  rintro _ e w1 rfl;refine aA O (dZ O (aC O ?_));refine Cd.loop (α:=Nat×Nat) (fun z=> [(0,.slice A n c),(1,ak a),(2,ak m),(3,ak b),(4,.func (.func 305) #[] #[]),(18,ak mid),(19,ak ((mid:Int)+ (m:Int))),(20,ak (z.1:Int)),(21,ak (z.2:Int)),(22,ak ((mid:Int)+ (m:Int) - 1))])
   (fun z w'=> (nF a m b<=z.1/\z.1<=z.2/\z.2<=fm a m b)/\(∀x,nF a m b<=x->x<z.1->kT (gs ds x)<=kT (gs ds (mid+m - 1 - x)))/\(∀x,z.2<=x->x<fm a m b->kT (gs ds (mid+m - 1 - x))<kT (gs ds x))/\St w0 w' (eJ t A n c ds::ks)) (fun z=>z.2 - z.1) (nF a m b,fm a m b) ⟨rfl,rfl,rfl,rfl,rfl,rfl,rfl,rfl,rfl,rfl,au⟩ ⟨⟨br _,N0,br _⟩,fun x h h'=>by omega,fun x h h'=>by omega,hS⟩ ?_
  rintro⟨i,j⟩ e w2 ⟨⟨Gq,iy,tk⟩,hL,hR,aH⟩;dsimp only at Gq iy tk hL hR aH|-;refine bL O (aM _ O (fun h3=>?_) (fun h3=>?_))
  ·refine aA O (aI O ?_);refine qc O O (xT _ am) (Fs O O O am (qc O O (IntWalk.i64_in _ am) (aC O ?_)));obtain⟨h,hh⟩:∃h:Nat,h=(i+j) / 2:=⟨_,rfl⟩;rw [show((i:Int)+ (j:Int)) / 2=(h:Int) by omega];have kZ:=J2 h am am;have lW:=aH.ku 0 O;have ep:((mid:Int)+ (m:Int) - 1 - (h:Int)).toNat=mid+m - 1 - h:=by omega
   have g1:tg ds h=gs ds h:=O;have g2:tg ds ((mid:Int)+ (m:Int) - 1 - (h:Int))=gs ds (mid+m - 1 - h):=by unfold tg gs;rw [ep]
   refine dU [.ex (.func (.func 305) #[] #[]),xS (A) (n) (c),xI (((mid:Int)+ (m:Int) - 1)),xI ((h:Int)),xI ((((mid:Int)+ (m:Int) - 1)) - ((h:Int))),xP (ay (A) (((((mid:Int)+ (m:Int) - 1)) - ((h:Int))).toNat*3)),.ex ((tg (ds) ((((mid:Int)+ (m:Int) - 1)) - ((h:Int)))).v),xS (A) (n) (c),xI ((h:Int)),xP (ay (A) (((h:Int)).toNat*3)),.ex ((tg (ds) ((h:Int))).v),xI (sR (gs ds (mid+m - 1 - h)) (gs ds h)),xB (decide ((sR (gs ds (mid+m - 1 - h)) (gs ds h))< ((0:Int)))),xB (decide (¬((sR (gs ds (mid+m - 1 - h)) (gs ds h))< ((0:Int)))))] O (eG O) ?_ ?_
   ·refine⟨Dr O,Dr O,Dr O,Dr O,fun _ _ _ _ _=>dZ O Az,fun _ _ hb _ _=>lq (lW.aq hb) O Az,fun _ _ hb _ _=>pn (lW.aq hb) O am O Az,Dr O,Dr O,fun _ _ hb _ _=>lq (lW.aq hb) O Az,fun _ _ hb _ _=>pn (lW.aq hb) O am O Az,?_,Dr O,fun _ _ _ _ _=>fv O O Az,au⟩
    ·intro e1 w1 hb hp aU;refine aqm (Il (gs ds (mid+m - 1 - h)) (gs ds h) _) O (by rw [<-g2];rfl) O ?_;rintro _ w9 ⟨rfl,jN⟩;refine ao.n ?_;exact eP.dn jN.below (by exact O)
   intro u w3 gI _;have aF:=aH.aq gI;refine eS O (aM _ O (fun h4=>?_) (fun h4=>?_))
   ·refine aA O (aI O (aT O (tQ ?_)));refine⟨(h+1,j),by show j - (h+1)<j - i;omega,(aqv O),⟨by show nF a m b<=h+1;omega,by show h+1<=j;omega,tk⟩,fun x iT qY=>?_,hR,aF⟩;have qY:x<h+1:=qY;have qV:=J2 x iT am;have k1:kT (gs ds x)<=kT (gs ds h):=hA.le am am am;have k2:kT (gs ds h)<=kT (gs ds (mid+m - 1 - h)):=Int.not_lt.1 fun h'=>h4 ((yD h (mid+m - 1 - h) kZ.1 kZ.2.1 kZ.2.2.1 kZ.2.2.2).2 h')
    have k3:kT (gs ds (mid+m - 1 - h))<=kT (gs ds (mid+m - 1 - x)):=hB.le am am am;omega
   ·refine oC O (tQ ?_);refine⟨(i,h),by show h - i<j - i;omega,(aqv O),⟨Gq,by show i<=h;omega,by show h<=fm a m b;omega⟩,hL,fun x iT qY=>?_,aF⟩;have iT:h<=x:=iT;have qV:=J2 x am qY;have k1:kT (gs ds h)<=kT (gs ds x):=hA.le am am am;have k2:kT (gs ds (mid+m - 1 - h))<kT (gs ds h):=(yD h (mid+m - 1 - h) kZ.1 kZ.2.1 kZ.2.2.1 kZ.2.2.2).1 (jR.1 h4);have k3:kT (gs ds (mid+m - 1 - x))<=kT (gs ds (mid+m - 1 - h)):=hB.le am am am;omega
  have Gs:i=j:=by omega
  subst Gs;have uZ:K6 kT ds a m b i:=⟨Gq,tk,by rw [<-qq];exact hL,by rw [<-qq];exact hR⟩;have VB:=fun l1=>ab6 (l1:=l1) h1 h2 hA hB uZ
  rw [<-qq]at VB;have b1:a<=i:=by have:=Gq;unfold nF at this;split at this<;>omega
  have b2:i<=mid:=by have:=tk;unfold fm at this;split at this<;>omega
  have b3:i<=m:=by have:=tk;unfold fm at this;split at this<;>omega
  have b4:mid+m - i<=b:=by have:=Gq;unfold nF at this;split at this<;>omega
  refine bp O (bt (cS O (dZ O (Fg 0 O ?_))));refine uF (α:=List TV) (fun _=> [(0,.slice A n c),(1,ak a),(3,ak b),(4,.func (.func 305) #[] #[]),(18,ak mid),(20,ak i),(24,ak ((mid+m - i:Nat):Int))]) (fun l1 w'=>vL ds l1 i m (mid+m - i)/\RP ds l1 a b/\St w0 w' (eJ t A n c l1::ks)) ?_ ?_
  ·have e24:((mid:Int)+ (m:Int) - (i:Int))=((mid+m - i:Nat):Int):=by omega
   rw [e24];refine bh O (dI 181 O (fun h4=>?_) (fun h4=>?_))
   ·refine aw O (ar O (aw O (ar O (aw O (aC O ?_)))));refine aM _ O (fun h5=>?_) (fun h5=>?_)
    ·obtain⟨P,X,Y,S,Cf,lP,lX,lY⟩:∃P X Y S:List TV,ds=P++ (X++ (Y++S))/\P.length=i/\X.length=m - i/\Y.length=mid - i:=by
      refine⟨ds.take i,(ds.drop i).take (m - i),(ds.drop m).take (mid - i),(ds.drop m).drop (mid - i),?_,by simp;omega,by simp;omega,by simp;omega⟩;rw [List.take_append_drop,show ds.drop m=(ds.drop i).drop (m - i) by rw [List.drop_drop];congr 1;omega,List.take_append_drop,List.take_append_drop]
     have VC:vL ds (P++ (Y++ (X++S))) i m (mid+m - i):=by
      have:=vL.of P X Y S;rw [<-Cf,lP,lX,lY]at this
      rwa [show i+ (m - i)=m by omega,show m+ (mid - i)=mid+m - i by omega]at this
     rw [Cf]at aH;refine aA O (aL (amd (P:=P) (X:=X) (Y:=Y) (S:=S) i m (mid+m - i) lP am am am am hn aH) O ?_);rintro _ w4 ⟨rfl,aX⟩;refine aT O (tQ ?_);exact⟨P++ (Y++ (X++S)),(aqv O),VC,⟨by rw [Cf];exact amc P X Y S,fun x hx=>VC.out x am⟩,aX⟩
    ·refine oC O (tQ ?_);exact⟨ds,(aqv O),vL.same ds am am am,RP.refl _ _ _,aH⟩
   ·refine aK O (aK O (aK O (aC O ?_)));refine Cd.fg O (oC O (tQ ?_));exact⟨ds,(aqv O),vL.same ds am am am,RP.refl _ _ _,aH⟩
  rintro l1 e w4 ⟨hr,Et,aX⟩;obtain⟨_,s1,s2,s3,s4,hx⟩:=VB l1 hr;have nC:=Et.len;refine uF (α:=List TV) (fun _=> [(0,.slice A n c),(3,ak b),(4,.func (.func 305) #[] #[]),(18,ak mid),(24,ak ((mid+m - i:Nat):Int))]) (fun l2 w'=>RP l1 l2 a mid/\SR kT l2 a mid/\St w0 w' (eJ t A n c l2::ks)) ?_ ?_
  ·refine bh O (dI 195 O (fun h4=>?_) (fun h4=>?_))
   ·refine aw O (ar O (aw O (ar O (aw O (aC O ?_)))));refine aM _ O (fun h5=>?_) (fun h5=>?_)
    ·refine aA O ?_;refine aL (ih a i mid am am am am l1 _ (Et.cap hc) (fun x y q1 q2 q3 q4=>by { rw [hr.out x (.inl q2),hr.left y q3 (by omega)];exact Ol x (y+ (m - i)) q1 am am am }) s1 s2 aX) O ?_;rintro _ w5 ⟨rfl,l2,jL,mI,ba⟩;refine aT O (tQ ?_);exact⟨l2,(aqv O),jL,mI,ba⟩
    ·have Cj:i=mid:=by omega
     refine oC O (tQ ?_);exact⟨l1,(aqv O),RP.refl _ _ _,Cj▸s1,aX⟩
   ·have Cj:a=i:=by omega
    refine aK O (aK O (aK O (aC O ?_)));refine Cd.fg O (oC O (tQ ?_));exact⟨l1,(aqv O),RP.refl _ _ _,Cj▸s2,aX⟩
  rintro l2 e w5 ⟨jL,mI,ba⟩;have pI:=jL.len;have t3:SR kT l2 mid (mid+m - i):=s3.congr fun x h h'=>jL.out x (.inr h)
  have t4:SR kT l2 (mid+m - i) b:=s4.congr fun x h h'=>jL.out x (.inr am)
  have oc:∀l3,RP l2 l3 mid b->SR kT l3 mid b->RP ds l3 a b/\SR kT l3 a b:=fun l3 qT Oj=>
   ⟨(Et.trans jL (br _) am).trans qT am (br _),ab8 am am am hx jL mI qT Oj⟩
  refine aA O (dI 209 O (fun h4=>?_) (fun h4=>?_))
  ·refine aw O (ar O (aw O (ar O (aw O (aC O ?_)))));refine aM _ O (fun h5=>?_) (fun h5=>?_)
   ·refine aA O ?_;refine aL (ih mid (mid+m - i) b am am am td l2 _ (jL.cap (Et.cap hc)) (fun x y q1 q2 q3 q4=>by { rw [jL.out x (.inr q1),jL.out y (.inr (by omega)),hr.right x (by omega) q2,hr.out y (.inr q3)];exact Ol (x - (mid+m - i - m)) y am am am q4 }) t3 t4 ba) O ?_;rintro _ w6 ⟨rfl,l3,qT,Oj,bo⟩;have:=oc l3 qT Oj;refine aT O (zq ?_);exact⟨O,l3,this.1,this.2,bo⟩
   ·have Cj:mid+m - i=b:=by omega
    have:=oc l2 (RP.refl _ _ _) (Cj▸t3);refine oC O (zq ?_);exact⟨O,l2,this.1,this.2,ba⟩
  ·have Cj:mid=mid+m - i:=by omega
   have:=oc l2 (RP.refl _ _ _) (Cj▸t4);refine aK O (aK O (aK O (aC O ?_)));refine Cd.fg O (oC O (zq ?_));exact⟨O,l2,this.1,this.2,ba⟩
def Br(l:List TV)(n p:Nat):Prop:=∀x y,x<p->p<=y->y<n->mY (gs l x)<mY (gs l y)
theorem Br.out{l l':List TV}{n a:Nat}(h:Br l n p)(hp:RP l l' a b)(hb:b<=l.length)(hn:b<=n)(hs:p<=a\/b<=p):Br l' n p:=fun x y hx hy hyn=>by
 have fx:∃x',gs l' x=gs l x'/\x'<p:=by
  by_cases e:a<=x/\x<b
  ·obtain⟨j,h1,h2,h3⟩:=hp.from hb e.1 e.2;exact⟨j,h3,am⟩
  exact⟨x,hp.out x am,hx⟩
 have fy:∃y',gs l' y=gs l y'/\p<=y'/\y'<n:=by
  by_cases e:a<=y/\y<b
  ·obtain⟨j,h1,h2,h3⟩:=hp.from hb e.1 e.2;exact⟨j,h3,am,am⟩
  exact⟨y,hp.out y am,hy,hyn⟩
 obtain⟨x',e1,h1⟩:=fx;obtain⟨y',e2,h2,h3⟩:=fy;rw [e1,e2];exact h x' y' h1 h2 h3
theorem WV{a:Nat}(ha:a=k*p)(hq:(k+1)*p=a+p)(j:Nat):j*p<=a\/a+p<=j*p:=by
 rcases Nat.lt_or_ge k j with h | h
 ·right;rw [<-hq];exact Nat.mul_le_mul_right p h
 left;rw [ha];exact Nat.mul_le_mul_right p h
theorem ajz{a n:Nat}(ha:a=k*p)(hq:(k+1)*p=a+p)(hn:n<=a+p)(j:Nat):j*p<=a\/n<=j*p:=by
 rcases WV ha hq j with h | h
 ·exact .inl h
 exact .inr am
theorem am4{A:aj}{n c:Nat}{ds:List TV}(hn:n<=1000000000000)(hc:∀s∈ds,qF s)(yN:∀x y,x<y->y<n->mY (gs ds x)<mY (gs ds y))(hS:St w0 w (eJ t A n c ds::ks)):
 aJ prog 330 [.slice A n c,ak n,.func (.func 305) #[] #[]] w (fun v w'=>v= .tuple #[]/\∃mC,mC.Perm ds/\SR kT mC 0 n/\St w0 w' (eJ t A n c mC::ks)):=by
 have ve:ds.length=n:=(hS.ku 0 O).1;refine bC func330 O ntmps330 O (CQ O) (bL O ?_);refine Cd.loop (α:=Nat×List TV) (fun z=> [(0,.slice A n c),(1,ak n),(2,.func (.func 305) #[] #[]),(6,ak 20),(7,ak ((z.1*20:Nat):Int)),(8,ak ((z.1*20+20:Nat):Int))]) (fun z w'=>z.1*20<=n/\z.2.Perm ds/\(∀x,z.1*20<=x->gs z.2 x=gs ds x)/\(∀k,Br z.2 n (k*20))/\xX kT z.2 n 20 0 (z.1*20)/\St w0 w' (eJ t A n c z.2::ks)) (fun z=>n - z.1*20) (0,ds) (aqv O) ⟨am,List.Perm.refl _,fun _ _=>O,fun k x y h1 h2 h3=>yN x y (Nat.lt_of_lt_of_le h1 h2) h3,fun k h h'=>by omega,hS⟩ ?_;rintro⟨k,cu⟩ e w1 ⟨hk,hp,aU,uZ,hB,aH⟩;dsimp only at hk hp aU uZ hB aH|-;have hcul:cu.length=n:=by rw [hp.length_eq];exact ve
 have Ce:∀s∈cu,qF s:=fun s hs=>hc s (hp.mem_iff.1 hs)
 have sep:∀(j:Nat),j*20<k*20->min (j*20+20) n<=k*20:=fun j hj=>by omega
 refine bL O (aM _ O (fun h1=>?_) (fun h1=>?_))
 ·refine aA O ?_;refine aL (V6 (k*20) (k*20+20) am hk am Ce (fun x y h2 h3 h4=>by rw [aU x h2,aU y (by omega)];exact yN x y h3 am) aH) O ?_;rintro _ w2 ⟨rfl,Ir,jL,mI,aF⟩;refine ar O (aI O (aT O (tQ ?_)));refine⟨(k+1,Ir),by show n - (k+1)*20<n - k*20;omega,⟨O,O,O,O,by show Value.int .i64 ((k*20+20:Nat):Int)=ak (((k+1)*20:Nat):Int);congr 1;omega,by show Value.int .i64 (((k*20+20:Nat):Int)+20)=ak (((k+1)*20+20:Nat):Int);congr 1;omega,au⟩,by show(k+1)*20<=n;omega,jL.perm.trans hp,fun x hx=>by { have hx:(k+1)*20<=x:=hx;rw [jL.out x (.inr (by omega)),aU x (by omega)] },fun j=> (uZ j).out jL am am am,fun j hj pG=>?_,aF⟩;have pG:j*20< (k+1)*20:=pG
  by_cases e:j=k
  ·subst e;rw [Nat.min_eq_left (by omega)];exact mI
  exact(hB j hj am).congr fun x h h'=>jL.out x (.inl am)
 refine bp O (bt (cS O ?_));refine aL (V6 (k*20) n (br _) hk am Ce (fun x y h2 h3 h4=>by rw [aU x h2,aU y (by omega)];exact yN x y h3 h4) aH) O ?_;rintro _ w2 ⟨rfl,Ir,jL,mI,aF⟩;have tW:xX kT Ir n 20 0 n:=fun j hj pG=>by
  by_cases e:j=k
  ·subst e;rw [Nat.min_eq_right (by omega)];exact mI
  exact(hB j hj am).congr fun x h h'=>jL.out x (.inl am)
 refine aC O ?_;refine Cd.loop (α:=Nat×List TV) (fun z=> [(0,.slice A n c),(1,ak n),(2,.func (.func 305) #[] #[]),(6,ak (z.1:Int))]) (fun z w'=> (0<z.1/\z.1<=2*n+20)/\z.2.Perm ds/\(∀k,Br z.2 n (k*z.1))/\xX kT z.2 n z.1 0 n/\St w0 w' (eJ t A n c z.2::ks)) (fun z=>2*n+20 - z.1) (20,Ir) (aqv O) ⟨⟨by show 0<20;omega,by show 20<=2*n+20;omega⟩,jL.perm.trans hp,fun j=> (uZ j).out jL am (br _) (by show j*20<=k*20\/n<=j*20;omega),tW,aF⟩ ?_;rintro⟨s,c3⟩ e w3 ⟨⟨o6,J6⟩,qT,Nx,MQ,aQ⟩;dsimp only at o6 J6 qT Nx MQ aQ|-;refine bL O (aM _ O (fun h2=>?_) (fun h2=>?_))
 ·refine aA O (sN O O O am (aC O ?_));obtain⟨p,hp⟩:∃p:Nat,p=2*s:=⟨_,rfl⟩;have Jv:((2:Int)* (s:Int))=(p:Int):=by omega
  rw [Jv];refine Cd.loop (α:=Nat×Nat×List TV) (fun z=> [(0,.slice A n c),(1,ak n),(2,.func (.func 305) #[] #[]),(6,ak s),(7,ak (z.2.1:Int)),(8,ak ((z.2.1+p:Nat):Int))]) (fun z w'=>z.2.1=z.1*p/\z.2.1<=n/\z.2.2.Perm ds/\(∀k,Br z.2.2 n (k*p))/\(∀k,z.2.1<=k*s->Br z.2.2 n (k*s))/\xX kT z.2.2 n p 0 z.2.1/\xX kT z.2.2 n s z.2.1 n/\St w0 w' (eJ t A n c z.2.2::ks)) (fun z=>n - z.2.1) (0,0,c3) ⟨O,O,O,O,O,by show Value.int .i64 (p:Int)=ak ((0+p:Nat):Int);rw [Nat.zero_add],au⟩ ⟨(Nat.zero_mul p).symm,bg _,qT,fun k=>by { have:=Nx (2*k);rwa [show 2*k*s=k*p by rw [hp,Nat.mul_comm 2 k,Nat.mul_assoc]]at this },fun k _=>Nx k,fun k h h'=>absurd h' (oF _),MQ,aQ⟩ ?_;rintro⟨k,a,c4⟩ e w4 ⟨ha,yu,uf,Jw,Jx,MT,I4,aX⟩;dsimp only at ha yu uf Jw Jx MT I4 aX|-;have hc4l:c4.length=n:=by rw [uf.length_eq];exact ve
  have Uu:∀s∈c4,qF s:=fun s hs=>hc s (uf.mem_iff.1 hs)
  have q1:2*k*s=a:=by rw [ha,hp,Nat.mul_comm 2 k,Nat.mul_assoc]
  have q2:(2*k+1)*s=a+s:=by rw [Nat.succ_mul,q1]
  have q3:(k+1)*p=a+p:=by rw [Nat.succ_mul,ha]
  have DW:a<n->SR kT c4 a (min (a+s) n):=fun h=>by
   have:=I4 (2*k) (by rw [q1];exact br _) (by rw [q1];exact h)
   rwa [q1]at this
  have zP:a+s<n->SR kT c4 (a+s) (min (a+s+s) n):=fun h=>by
   have:=I4 (2*k+1) (by rw [q2];omega) (by rw [q2];exact h)
   rwa [q2]at this
  refine bL O (aM _ O (fun h3=>?_) (fun h3=>?_))
  ·have rS:a+p<=n:=by omega
   have m1:=DW am;have m2:=zP am;rw [Nat.min_eq_left (by omega)]at m1 m2;rw [show a+s+s=a+p by omega]at m2;refine aA O (aI O (ar O ?_));refine aL (Yv am p a (a+s) (a+p) am am am rS c4 _ Uu (fun x y h4 h5 h6 h7=>by { have h8:=Jx (2*k+1) (by rw [q2];omega);rw [q2]at h8;exact h8 x y h5 h6 am }) m1 m2 aX) O ?_;rintro _ w5 ⟨rfl,c5,wj,GN,ba⟩;refine ar O (sN O O O am (aI O (aT O (tQ ?_))));refine⟨(k+1,a+p,c5),by show n - (a+p)<n - a;omega,⟨O,O,O,O,O,by show Value.int .i64 (((a+p:Nat):Int)+ (2:Int)* (s:Int))=ak ((a+p+p:Nat):Int);congr 1;omega,au⟩,q3.symm,rS,wj.perm.trans uf,fun j=> (Jw j).out wj am rS (WV ha q3 j),fun j hj=> (Jx j (by have hj:a+p<=j*s:=hj;omega)).out wj am rS (.inr hj),fun j hj pG=>?_,fun j hj pG=>?_,ba⟩
   ·have pG:j*p<a+p:=pG
    by_cases e:j=k
    ·subst e;rw [<-ha,Nat.min_eq_left rS];exact GN
    have vc:j<k+1:=by rw [<-q3]at pG;exact Nat.lt_of_mul_lt_mul_right pG
    have h6:j*p<k*p:=Nat.mul_lt_mul_of_pos_right am am;have h7:=WU h6;exact(MT j (bg _) (by rw [ha];exact h6)).congr fun x h h'=>wj.out x (.inl am)
   have hj:a+p<=j*s:=hj;exact(I4 j am pG).congr fun x h h'=>wj.out x (.inr am)
  have rS:n<a+p:=by omega
  have key:∀c5:List TV,RP c4 c5 a n->SR kT c5 a n->xX kT c5 n p 0 n:=fun c5 wj GN j hj pG=>by
   by_cases e:j=k
   ·subst e;rw [<-ha,Nat.min_eq_right (by omega)];exact GN
   have vc:j<k+1:=by
    have:j*p< (k+1)*p:=by rw [q3];omega
    exact Nat.lt_of_mul_lt_mul_right this
   have h6:j*p<k*p:=Nat.mul_lt_mul_of_pos_right am am;have h7:=WU h6;exact(MT j (bg _) (by rw [ha];exact h6)).congr fun x h h'=>wj.out x (.inl am)
  refine bp O (bt (cS O (aI O (aC O ?_))));refine aM _ O (fun h4=>?_) (fun h4=>?_)
  ·have m1:=DW am;have m2:=zP am;rw [Nat.min_eq_left (by omega)]at m1;rw [Nat.min_eq_right (by omega)]at m2;refine aA O ?_;refine aL (Yv am n a (a+s) n am am am (br _) c4 _ Uu (fun x y h4 h5 h6 h7=>by { have h8:=Jx (2*k+1) (by rw [q2];omega);rw [q2]at h8;exact h8 x y h5 h6 h7 }) m1 m2 aX) O ?_;rintro _ w5 ⟨rfl,c5,wj,GN,ba⟩;refine ar O (sN O O O am (aT O (tQ ?_)));exact⟨(p,c5),by show 2*n+20 - p<2*n+20 - s;omega,⟨O,O,O,by show Value.int .i64 ((s:Int)*2)=ak p;congr 1;omega,au⟩,⟨by show 0<p;omega,by show p<=2*n+20;omega⟩,wj.perm.trans uf,fun j=> (Jw j).out wj am (br _) (ajz ha q3 am j),key c5 wj GN,ba⟩
  have hs4:SR kT c4 a n:=by
   by_cases h5:a<n
   ·have:=DW h5
    rwa [Nat.min_eq_right (by omega)]at this
   exact SR.one _ _ am
  refine aA O (sN O O O am (aT O (tQ ?_)));exact⟨(p,c4),by show 2*n+20 - p<2*n+20 - s;omega,⟨O,O,O,by show Value.int .i64 ((s:Int)*2)=ak p;congr 1;omega,au⟩,⟨by show 0<p;omega,by show p<=2*n+20;omega⟩,uf,Jw,key c4 (RP.refl _ _ _) hs4,aX⟩
 refine bp O (bt (Da O ?_));exact zq ⟨O,c3,qT,MQ.done am,aQ⟩
theorem amQ{A:aj}{n c:Nat}{ds:List TV}(hn:n<=1000000000000)(hc:∀s∈ds,qF s)(yN:∀x y,x<y->y<n->mY (gs ds x)<mY (gs ds y))(hS:St w0 w (eJ t A n c ds::ks)):
 aJ prog 304 [.slice A n c,.func (.func 305) #[] #[]] w (fun v w'=>v= .tuple #[]/\∃mC,mC.Perm ds/\SR kT mC 0 n/\St w0 w' (eJ t A n c mC::ks)):=by
 refine bC func304 O ntmps304 O (CQ O) ?_;refine bh O (a8 O O (ar O ?_));refine aL (am4 hn hc yN hS) O ?_;rintro _ w1 ⟨rfl,mC,h1,h2,h3⟩;refine aT O (zq ?_);exact⟨O,mC,h1,h2,h3⟩
end Go.Proofs.YtkccgdhcpplblaaGreatDoor.Vc.TS
namespace Go.Proofs.YtkccgdhcpplblaaGreatDoor.Vc
open Go.RowKit Tryz
structure Bs(w:aa)(A8:aj)(X:ai)(N:Nat)(AD:aj)(rs:List aO)(B:ah):Prop where
 len:X.length=N+2
 qd:N<=500
 rk:cL w A8 (N+2) X
 bl:bF w AD N rs B
 RT:B.length=N
 sa:∀e:Int,0<=e->e< (N:Int)->SA (gl B e)/\(gl B e).length<=500
theorem Bs.aq{w w':aa}{A8:aj}{X:ai}{N:Nat}{AD:aj}{rs:List aO}{B:ah}(h:Bs w A8 X N AD rs B)(hb:Below w.heap.size w w'):Bs w' A8 X N AD rs B:=⟨h.len,h.qd,h.rk.aq hb,h.bl.aq hb,h.RT,h.sa⟩
abbrev FL(A8:aj)(m c8:Nat)(q:Int)(AR:aj)(r cR:Nat)(AD:aj)(N cD:Nat):List ad:=[.slice A8 m c8,ak q,.slice AR r cR,.slice AD N cD]
theorem Wb(P A8:aj)(c8:Nat)(q:Int)(AR:aj)(r cR:Nat)(AD:aj)(N cD:Nat)(X:ai)(rs:List aO)(B:ah)(a b:Int)(w:aa)(hP:Rd w P 4 (fun j=> (FL A8 (N+2) c8 q AR r cR AD N cD).getD j undef))(hF:Bs w A8 X N AD rs B)(ha:0<=a/\a< (N:Int)+2)(hb:0<=b/\b< (N:Int)+2):
 aJ prog 306 [.pointer P,ak a,ak b] w (fun v w'=>v= .bool (decide (eM N B a b))/\w'=w):=by
 have yA:=hF.qd;have ae2:=hF.RT;have J3:=hF.sa (b - 1);have M8:Rd w (ay P 1) 3 (fun j=> [Value.int .i64 q,.slice AR r cR,.slice AD N cD].getD j undef):=(hP.behind (o:=1) (m:=3) am).congr fun j hj=>by
  rcases(show j=0\/j=1\/j=2 by omega)with rfl | rfl | rfl<;>rfl
 have yes:eM N B a b->Value.bool true= .bool (decide (eM N B a b)):=fun h=>aE Value.bool (dz h).symm
 have no:¬eM N B a b->Value.bool false= .bool (decide (eM N B a b)):=fun h=>aE Value.bool (cT h).symm
 refine bC func306 O ntmps306 O (df O) (bh O ?_);refine dI 10 O (fun h1=>?_) (fun h1=>?_)
 ·refine aK O (aK O (ar O (aK O (aK O (aK O (aK O (aK O (aK O (aK O (aK O (ar O ?_)))))))))));refine aK O (aK O (aK O (aK O (aK O (aK O (aK O (aK O (aK O (fT O O O O (fT O O O O (aK O ?_)))))))))));refine aK O (fT O O O O (fT O O O O (fT O O O O (fT O O O O (fT O O O O (fT O O O O (fT O O O O (fT O O O O (aK O (bH O ?_))))))))));exact dq O ⟨yes (.inl h1),O⟩
 refine aw O (ar O (aw O (ar O ?_)));refine dI 14 O (fun h2=>?_) (fun h2=>?_)
 ·refine aK O (aK O (aK O (aK O (aK O (aK O (aK O (aK O (ar O (aK O (aK O (aK O ?_)))))))))));refine aK O (aK O (aK O (aK O (aK O (aK O (fT O O O O (fT O O O O (aK O (aK O (fT O O O O (fT O O O O ?_)))))))))));refine fT O O O O (fT O O O O (fT O O O O (fT O O O O (fT O O O O (fT O O O O (aK O (bH O ?_)))))));exact dq O ⟨yes (.inr (.inl h2)),O⟩
 refine aw O (ar O (aw O (ar O (aw O ?_))));refine lN hP an O O ?_;refine aw O (aV hP O (aw O (aqp (j:=0) hP (by exact aE Value.pointer O) O O O O ?_)));refine aw O (a8 O O (aw O (dZ O (aw O (ar O ?_)))));refine dI 24 O (fun h3=>?_) (fun h3=>?_)
 ·refine aK O (aK O (aK O (aK O (aK O (aK O (aK O (aK O (aK O (fT O O O O (fT O O O O (aK O ?_)))))))))));refine aK O (fT O O O O (fT O O O O (fT O O O O (fT O O O O (fT O O O O (fT O O O O (fT O O O O (fT O O O O (aK O (bH O ?_))))))))));exact dq O ⟨yes (.inr (.inr (.inl am))),O⟩
 refine aw O (ar O (aw O (ar O (aw O ?_))));refine lN hP an O O ?_;refine aw O (aV hP O (aw O (aqp (j:=0) hP (by exact aE Value.pointer O) O O O O ?_)));refine aw O (a8 O O (aw O (dZ O (aw O (ar O (aw O (ar O ?_)))))));refine dI 33 O (fun h4=>?_) (fun h4=>?_)
 ·refine aw O (ar O (aw O (ar O (aw O (ar O (aw O (ar O ?_)))))));refine dI 37 O (fun h5=>?_) (fun h5=>?_)
  ·refine aw O (ar O (aw O ?_));refine lN hP an O O (aw O (aV hP O ?_));refine aw O (ar O (aw O (dZ O (aw O (ar O (aw O (dZ O (aw O ?_))))))));refine aL (V7 (ay P 1) AR AD cR r cD q N rs B (a - 1) (b - 1) _ M8 hF.bl ae2 am (J3 am am).1 (by have:=(J3 am am).2;omega)) O ?_;rintro _ _ ⟨rfl,rfl⟩;refine aw O (bH O ?_);refine dq O ?_;refine⟨aE Value.bool (ju.2 ⟨fun h=> .inr (.inr (.inr ⟨am,am,am,am,h⟩)),fun h=>?_⟩),O⟩;rcases h with h | h | h | h
   ·exact absurd h h1
   ·exact absurd h h2
   ·omega
   exact h.2.2.2.2
  refine aK O (aK O (aK O (aK O (aK O (aK O (aK O (aK O (aw O (bH O ?_)))))))));refine dq O ⟨no fun h=>?_,O⟩;rcases h with h | h | h | h
  ·exact h1 h
  ·exact h2 h
  ·omega
  omega
 refine aK O (aK O (aw O (ar O (aw O (ar O (aK O (aK O (aK O (aK O (aK O (aK O ?_)))))))))));refine aK O (aK O (aw O (bH O ?_)));refine dq O ⟨no fun h=>?_,O⟩;rcases h with h | h | h | h
 ·exact h1 h
 ·exact h2 h
 ·omega
 omega
def Zh(k:Nat)(RL:ai)(BL:ah)(w:aa)(v:ad)(w':aa):Prop:=((5<k\/500<RL.length)/\v= .tuple #[.agg #[ak 0,.slice none 0 0,.slice none 0 0],ak 3]/\St w w' [])\/((k<=5/\RL.length<=500)/\∃AR c AD d rs,v= .tuple #[.agg #[ak k,.slice AR RL.length c,.slice AD RL.length d],ak 0]/\rs.length=RL.length/\BL.length=RL.length/\St w w' (ax 2 AR RL.length c RL::(aS 34 2 AD RL.length d rs BL++ [])))
abbrev nV(A:aj)(vs:List ad):Ck:=Bx 233 4 A vs
theorem St.akm{w0 w:aa}{ks:List Ck}(t:ae)(h:St w0 w ks):St w0 w (eJ t Option.none 0 0 []::ks):=h.nil t
theorem filter_lt{P:Int->Prop}[DecidablePred P]{n i:Nat}(h:i<=n):((bY n).filter fun f=>decide (f< (i:Int)/\P f))=(bY i).filter fun f=>decide (P f):=by
 refine SA.eq (qb _ (mM _)) (qb _ (mM _)) fun y=>?_
 rw [gy,gy,ky,ky,kB,kB];exact⟨fun h=> ⟨am,h.2.2⟩,fun h=> ⟨am,am,h.2⟩⟩
section
variable (N1 N2:Nat) (B1 B2:ah) (L:List (Int×Int))
def lS(i e:Nat):ai:=(bY e).filter fun f=>decide (eM N1 B1 (gp L f).1 (gp L i).1/\eM N2 B2 (gp L f).2 (gp L i).2)
theorem RJ(i e:Nat):lS N1 N2 B1 B2 L i (e+1)=if eM N1 B1 (gp L e).1 (gp L i).1/\eM N2 B2 (gp L e).2 (gp L i).2 then lS N1 N2 B1 B2 L i e++ [(e:Int)]else lS N1 N2 B1 B2 L i e:=by
 unfold lS;rw [wx,sK]
 by_cases c:eM N1 B1 (gp L e).1 (gp L i).1/\eM N2 B2 (gp L e).2 (gp L i).2
 ·rw [aB c];simp [c.1,c.2]
 rw [az c];rw [xZ (by simpa using c),List.filter_nil,fI]
theorem RH{i:Nat}(h:i<=L.length):lS N1 N2 B1 B2 L i i=uw (eM N1 B1) (eM N2 B2) L i:=by
 unfold lS uw;exact(filter_lt (P:=fun f=>eM N1 B1 (gp L f).1 (gp L i).1/\eM N2 B2 (gp L f).2 (gp L i).2) h).symm
theorem RI(i e:Nat):(lS N1 N2 B1 B2 L i e).length<=e:=by
 refine mS (sL _ _) ?_;rw [bY,fS,rA];exact br _
def pW(i:Nat):ah:=(bY i).map (uw (eM N1 B1) (eM N2 B2) L)
theorem Xx(i:Nat):pW N1 N2 B1 B2 L (i+1)=pW N1 N2 B1 B2 L i++ [uw (eM N1 B1) (eM N2 B2) L i]:=by
 unfold pW;rw [wx,iI];rfl
theorem EP(i:Nat):(pW N1 N2 B1 B2 L i).length=i:=by simp [pW,bY]
end
abbrev CP(Ap:aj)(n cp:Nat)(ds:List TV)(bN A6 A4 A3:aj)(k:Int)(v4 v3:List ad):List Ck:=
 [eJ 282 Ap n cp ds,bJ bN k none 0 0 none 0 0,bJ A6 0 none 0 0 none 0 0,nV A4 v4,nV A3 v3]
abbrev He(AR:aj)(i cR:Nat)(rl:ai)(bN:aj)(k:Int)(AD:aj)(cD:Nat)(Ap:aj)(n cp:Nat)(ds:List TV)(A6 A4 A3:aj)(v4 v3:List ad)(dB:List aO)(B:ah):List Ck:=
 ax 2 AR i cR rl::bJ bN k AR i cR AD i cD::eJ 282 Ap n cp ds::bJ A6 0 none 0 0 none 0 0::nV A4 v4::nV A3 v3::(aS 34 2 AD i cD dB B++ [])
theorem akT{α:Type}(q1 q2 q3 q4 q5 q6 q7:α):[q1,q2,q3,q4,q5,q6,q7].Perm [q1,q4,q3,q5,q6,q7,q2]:=by
 classical
 refine jT.2 fun z=>?_
 simp only [jS,ln];omega
theorem akS{α:Type}(b d:α)(q1 q2 q3 q4 q5 q6 q7:α)(X:List α):(b::d::q1::q2::q3::q4::q5::q6::q7::(X++ [])).Perm (d::q1::q2::q3::q4::q5::q6::q7::((X++ [b])++ [])):=by
 classical
 refine jT.2 fun z=>?_
 simp only [l9,jS,ln];omega
theorem alA(A8 B8:aj)(c8 d8:Nat)(q1 q2:Int)(HF BR:aj)(r1 r2 Ie dR:Nat)(E7 BD:aj)(N1 N2 Ic dD:Nat)(X1 X2:ai)(sr XU:List aO)(B1 B2:ah)(n1 n2 kind:Int)(k:Nat)(w:aa)(nY:Bs w A8 X1 N1 E7 sr B1)(oR:Bs w B8 X2 N2 BD XU B2)(zS:gg (N1+2) n1 (gi X1) (eM N1 B1))(zT:gg (N2+2) n2 (gi X2) (eM N2 B2))(hk:0<=kind/\kind<=2)(jb:(k:Int)=iM n1 n2 kind)(tp:n1<=5)(Er:n2<=5):
 aJ prog 244 [.agg #[.slice A8 (N1+2) c8,ak q1,.slice HF r1 Ie,.slice E7 N1 Ic],.agg #[.slice B8 (N2+2) d8,ak q2,.slice BR r2 dR,.slice BD N2 dD],ak kind] w (Zh k ((cK (N1+2) (N2+2) (gi X1) (gi X2) kind k).map (dh (gi X1) (gi X2) kind)) (nH (eM N1 B1) (eM N2 B2) (cK (N1+2) (N2+2) (gi X1) (gi X2) kind k)) w):=by
 have dE:=nY.qd;have eB:=oR.qd;have iT:=nY.len;have qY:=oR.len;have hg1:=fun(a:Int) h=>zS.eE (a:=a) h
 have JE:=fun(a:Int) h=>zT.eE (a:=a) h
 have ht1:=zS.rt;have GQ:=zT.rt;have af0:=zS.n0;have af2:=zT.n0;have e1:(((N1+2:Nat):Int) - 1)=(N1:Int)+1:=by omega
 have e2:(((N2+2:Nat):Int) - 1)=(N2:Int)+1:=by omega
 have Gv:(k:Int)=n1+n2+ (if kind=0 then 1 else 0):=by rw [jb];unfold iM;split<;>omega
 refine bC func244 O ntmps244 O (ur O O) (bh O (Q7 (St.refl w) O O ?_));intro A3 w1 aH;refine Q7 aH O O fun A4 w2 aF=>nP aF O ?_;intro A6 w3 aQ;obtain⟨v3,xC⟩:∃v3,v3=FL A8 (N1+2) c8 q1 HF r1 Ie E7 N1 Ic:=⟨_,rfl⟩;obtain⟨v4,Ka⟩:∃v4,v4=FL B8 (N2+2) d8 q2 BR r2 dR BD N2 dD:=⟨_,rfl⟩;have aQ:St w w3 [bJ A6 0 none 0 0 none 0 0,nV A4 v4,nV A3 v3]:=by rw [xC,Ka];exact aQ
 clear aF aH;have qT:∀ {w':aa} {ks:List Ck} (i:Nat),St w w' ks->ks[i]?=some (nV A3 v3)->Rd w' A3 4 (fun j=> (FL A8 (N1+2) c8 q1 HF r1 Ie E7 N1 Ic).getD j undef):=fun i h hk=>by
  have:=h.rd i hk;rw [xC]at this;exact this
 have uf:∀ {w':aa} {ks:List Ck} (i:Nat),St w w' ks->ks[i]?=some (nV A4 v4)->Rd w' A4 4 (fun j=> (FL B8 (N2+2) d8 q2 BR r2 dR BD N2 dD).getD j undef):=fun i h hk=>by
  have:=h.rd i hk;rw [Ka]at this;exact this
 have iZ:=qT 2 aQ O;have oS:=uf 1 aQ O;have lF:=(nY.aq aQ.below).rk;have l5:=(oR.aq aQ.below).rk;refine aC O (dU [xP (ay (A3) 0),xS (A8) (N1+2) (c8),xI (((N1+2:Nat):Int)),xI ((((N1+2:Nat):Int)) - ((1:Int))),xP (ay (A4) 0),xS (B8) (N2+2) (d8),xI (((N2+2:Nat):Int)),xI ((((N2+2:Nat):Int)) - ((1:Int))),xI ((((N1+2:Nat):Int)) - ((1:Int))),xI ((((N2+2:Nat):Int)) - ((1:Int)))] O (eG O) ?_ ?_)
 ·exact⟨fun _ _ hb _ _=>aV (iZ.below hb) O Az,fun _ _ hb _ _=>bj (iZ.below hb) O Az,fun _ _ _ _ _=>a8 O O Az,fun _ _ _ _ _=>dZ O Az,fun _ _ hb _ _=>aV (oS.below hb) O Az,fun _ _ hb _ _=>bj (oS.below hb) O Az,fun _ _ _ _ _=>a8 O O Az,fun _ _ _ _ _=>dZ O Az,Dr O,Dr O,au⟩
 intro u w4 oU _;have aX:=aQ.aq oU;have iZ:=Rd.below iZ oU;have oS:=Rd.below oS oU;have lF:=lF.aq oU;have l5:=l5.aq oU;have g1:gi X1 (((N1+2:Nat):Int) - 1)=n1:=ht1;have g2:gi X2 (((N2+2:Nat):Int) - 1)=n2:=GQ;refine eS O ?_;refine kK [13] [yP (ay (A3) 0),yS (A8) (N1+2) (c8),yI (((((N1+2:Nat):Int) - 1))),yP (ay (A8) (((((N1+2:Nat):Int) - 1))).toNat),yI (gi (X1) (((((N1+2:Nat):Int) - 1)))),yP (ay (A4) 0),yS (B8) (N2+2) (d8),yI (((((N2+2:Nat):Int) - 1))),yP (ay (B8) (((((N2+2:Nat):Int) - 1))).toNat),yI (gi (X2) (((((N2+2:Nat):Int) - 1)))),yI ((gi (X1) (((((N1+2:Nat):Int) - 1))))+ (gi (X2) (((((N2+2:Nat):Int) - 1))))),.ex (.agg #[ak (gi X1 (((N1+2:Nat):Int) - 1)+gi X2 (((N2+2:Nat):Int) - 1)),.slice none 0 0,.slice none 0 0]),.pr (fun v w'=>∃bN,v= .pointer bN/\St w w' (bJ bN 0 none 0 0 none 0 0::[bJ A6 0 none 0 0 none 0 0,nV A4 v4,nV A3 v3])),.p2 12 (fun a v w'=>∃bN,a= .pointer bN/\St w w' (bJ bN (gi X1 (((N1+2:Nat):Int) - 1)+gi X2 (((N2+2:Nat):Int) - 1)) none 0 0 none 0 0::[bJ A6 0 none 0 0 none 0 0,nV A4 v4,nV A3 v3]))] (ly (ly (ly (ly (ly (ly (ly (ly (ly (ly (ly (ly (cH.2 ⟨Ye.cJ (fun v w w' h hb=>by obtain⟨A9,hv,hT⟩:=h;exact⟨A9,hv,hT.aq hb⟩),(cH.2 ⟨Rn (fun a v w w' h hb=>by obtain⟨bN,hv,hT⟩:=h;exact⟨bN,hv,hT.aq hb⟩),(fun _ h=>by cases h)⟩)⟩))))))))))))) ?_ ?_
 ·refine⟨cP fun _ _ hb _ _ _=>aV (iZ.below hb) O (bG O O),cP fun _ _ hb _ _ _=>bj (iZ.below hb) O (bG O O),bZ O,cP fun _ _ hb _ _ _=>aD (lF.aq hb).2 O (bG O O),cP fun _ _ hb _ _ _=>aY (lF.aq hb) O (bG O O),cP fun _ _ hb _ _ _=>aV (oS.below hb) O (bG O O),cP fun _ _ hb _ _ _=>bj (oS.below hb) O (bG O O),bZ O,cP fun _ _ hb _ _ _=>aD (l5.aq hb).2 O (bG O O),cP fun _ _ hb _ _ _=>aY (l5.aq hb) O (bG O O),aP fun _ _=>aI O (bG O O),aP fun _ _=>HO (by exact inferInstance) (by exact inferInstance) (by exact inferInstance) O O O O O O (bG O O),?_,?_,au⟩
  ·refine cP fun e1 w1 hb hp aU hq=>?_
   exact nP (St.refl _) O fun A9 w9 av=>ao.n (fM.dn O av.below ⟨A9,O,(aX.aq hb).call av⟩)
  refine kO fun e1 w1 hb hp aU hq=>?_
  obtain⟨bN,fz,hT⟩:=(hp 12 _ _ (by kernel_rfl) rfl rfl (by kernel_rfl));refine b5 3 0 hT O (by exact fz) O O O O O ?_;intro w9 bT;exact ao.n (gn.st O ⟨bN,fz,bT⟩)
 intro u2 w5 _ _ lb _;obtain⟨bN,fz,ba⟩:=lb 13 12 _ rfl (by kernel_rfl);rw [g1,g2]at ba;refine Dn (F:=[(2,ak kind),(3,.pointer A3),(4,.pointer A4),(6,.pointer A6),(8,ak (((N1+2:Nat):Int) - 1)),(9,ak (((N2+2:Nat):Int) - 1)),(10,.pointer bN)]) ⟨O,O,O,O,O,O,fz,au⟩ ?_;clear lF l5 iZ oS aX aQ;refine QY 0 O (uF (α:=Unit) (fun _=> [(2,ak kind),(3,.pointer A3),(4,.pointer A4),(6,.pointer A6),(8,ak (((N1+2:Nat):Int) - 1)),(9,ak (((N2+2:Nat):Int) - 1)),(10,.pointer bN)]) (fun _ w'=>St w w' (bJ bN k none 0 0 none 0 0::[bJ A6 0 none 0 0 none 0 0,nV A4 v4,nV A3 v3])) ?_ ?_)
 ·refine bL O (aM _ O (fun h1=>?_) (fun h1=>?_))
  ·refine aA O (aV (ba.rd 0 O) O (gP (j:=0) (ba.rd 0 O) (by exact aE Value.pointer O) O O O O (aI O (aV (ba.rd 0 O) O (ki 0 (j:=0) ba O O O O O ?_)))));intro w6 bo;refine aT O (tQ ?_);exact⟨(),(aqv O),by rw [Gv,aB h1];exact bo⟩
  refine oC O (tQ ?_);exact⟨(),(aqv O),by rw [Gv,az h1,Int.add_zero];exact ba⟩
 clear ba;rintro _ e w6 bo;refine aA O (aV (bo.rd 0 O) O (gP (j:=0) (bo.rd 0 O) (by exact aE Value.pointer O) O O O O (aC O ?_)));refine aM _ O (fun h1=>?_) (fun h1=>?_)
 ·refine aA O (De (by exact inferInstance) (by exact inferInstance) (by exact inferInstance) O (b5 3 1 bo O O O O O O O ?_));intro w7 bK;refine bH O (kG O (bK.rd 1 O) O ?_);exact .inl ⟨.inl am,O,bK.none⟩
 have NT:k<=5:=by omega
 have bK:=bo.akm 282;have iZ:=qT 3 bo O;refine aA O (aV iZ O (aqp (j:=0) iZ (by exact aE Value.pointer O) O O O O ?_));refine a8 O O (aC O ?_);refine Cd.loop (α:=Nat×aj×Nat) (fun z=> [(2,ak kind),(3,.pointer A3),(4,.pointer A4),(6,.pointer A6),(8,ak (((N1+2:Nat):Int) - 1)),(9,ak (((N2+2:Nat):Int) - 1)),(10,.pointer bN),(11,.slice z.2.1 (gQ (N1+2) (N2+2) kind z.1 0).length z.2.2),(56,.slice A8 (N1+2) c8),(57,ak ((N1+2:Nat):Int)),(58,ak (z.1:Int))]) (fun z w'=>z.1<=N1+2/\St w w' (CP z.2.1 (gQ (N1+2) (N2+2) kind z.1 0).length z.2.2 ((gQ (N1+2) (N2+2) kind z.1 0).map (sB (gi X1) (gi X2) kind)) bN A6 A4 A3 k v4 v3)) (fun z=>N1+2 - z.1) (0,none,0) (aqv O) ⟨bg _,bK⟩ ?_;clear bK bo iZ;rintro⟨a,Ap,cp⟩ e w7 ⟨ha,hS⟩;dsimp only at ha hS|-;refine bL O (aM _ O (fun h2=>?_) (fun h2=>?_))
 ·have D6:a<N1+2:=by omega
  have lF:=(nY.aq hS.below).rk;have oS:=uf 3 hS O;have ga:=hg1 (a:Int) am;refine aA O (aD lF.2 O (aY lF O (ar O (aV oS O (aqp (j:=0) oS (by exact aE Value.pointer O) O O O O ?_)))));refine a8 O O (aC O ?_);refine Cd.loop (α:=Nat×aj×Nat) (fun z=> [(2,ak kind),(3,.pointer A3),(4,.pointer A4),(6,.pointer A6),(8,ak (((N1+2:Nat):Int) - 1)),(9,ak (((N2+2:Nat):Int) - 1)),(10,.pointer bN),(11,.slice z.2.1 (gQ (N1+2) (N2+2) kind a z.1).length z.2.2),(56,.slice A8 (N1+2) c8),(57,ak ((N1+2:Nat):Int)),(58,ak a),(12,ak a),(13,ak (gi X1 a)),(64,.slice B8 (N2+2) d8),(65,ak ((N2+2:Nat):Int)),(66,ak (z.1:Int))]) (fun z w'=>z.1<=N2+2/\St w w' (CP z.2.1 (gQ (N1+2) (N2+2) kind a z.1).length z.2.2 ((gQ (N1+2) (N2+2) kind a z.1).map (sB (gi X1) (gi X2) kind)) bN A6 A4 A3 k v4 v3)) (fun z=>N2+2 - z.1) (0,Ap,cp) (aqv O) ⟨bg _,hS⟩ ?_;clear hS lF oS;rintro⟨b,Ap,cp⟩ e w8 ⟨hb,hS⟩;dsimp only at hb hS|-;refine bL O (aM _ O (fun h3=>?_) (fun h3=>?_))
  ·have Jp:b<N2+2:=by omega
   have l5:=(oR.aq hS.below).rk;have gb:=JE (b:Int) am;have s9:=Rx (m1:=N1+2) (m2:=N2+2) (kind:=kind) a b am;have Cx:a* (N2+2)<=502*502:=Nat.mul_le_mul am am;refine aA O (aD l5.2 O (aY l5 O ?_));refine ar O (aI O (aI O ?_));refine ZN (v:=⟨(a:Int),(b:Int),gi X1 a+gi X2 b+1⟩) (by exact inferInstance) (by exact inferInstance) (by exact inferInstance) O O O O O O O (nP hS O ?_);intro gB w9 bT;refine b5 3 0 bT O O O O O O O ?_;intro dY bW;have bW:St w dY (Bx 282 3 gB [ak a,ak b,ak (gi X1 a+gi X2 b+1)]::CP Ap (gQ (N1+2) (N2+2) kind a b).length cp ((gQ (N1+2) (N2+2) kind a b).map (sB (gi X1) (gi X2) kind)) bN A6 A4 A3 k v4 v3):=bW;refine Fg 0 O (uF (α:=Unit) (fun _=> [(2,ak kind),(3,.pointer A3),(4,.pointer A4),(6,.pointer A6),(8,ak (((N1+2:Nat):Int) - 1)),(9,ak (((N2+2:Nat):Int) - 1)),(10,.pointer bN),(11,.slice Ap (gQ (N1+2) (N2+2) kind a b).length cp),(56,.slice A8 (N1+2) c8),(57,ak ((N1+2:Nat):Int)),(58,ak a),(12,ak a),(13,ak (gi X1 a)),(64,.slice B8 (N2+2) d8),(65,ak ((N2+2:Nat):Int)),(66,ak b),(14,ak b),(16,.pointer gB),(17,.bool (decide ((a:Int)=0/\(b:Int)=0))),(18,.bool (decide ((a:Int)=((N1+2:Nat):Int) - 1/\(b:Int)=((N2+2:Nat):Int) - 1)))]) (fun _ w'=>w'=dY) ?_ ?_)
   ·refine bh O (dI 80 O (fun p1=>?_) (fun p1=>?_))
    ·refine aw O (ar O (aw O (ar O ?_)));refine dI 87 O (fun p2=>?_) (fun p2=>?_)
     ·refine aw O (ar O (aw O (ar O (aw O (aT O (tQ ?_))))));exact⟨(),⟨O,O,O,O,O,O,O,O,O,O,O,O,O,O,O,O,O,O,aE Value.bool (ju.2 ⟨fun h=> ⟨p1,h⟩,fun h=>h.2⟩),aE Value.bool (ju.2 ⟨fun h=> ⟨p2,h⟩,fun h=>h.2⟩),au⟩,O⟩
     refine aK O (aK O (aK O (aT O (tQ ?_))));exact⟨(),⟨O,O,O,O,O,O,O,O,O,O,O,O,O,O,O,O,O,O,aE Value.bool (ju.2 ⟨fun h=> ⟨p1,h⟩,fun h=>h.2⟩),aE Value.bool (cT fun h=>p2 h.1).symm,au⟩,O⟩
    refine aK O (aK O (ar O ?_));refine dI 87 O (fun p2=>?_) (fun p2=>?_)
    ·refine aw O (ar O (aw O (ar O (aw O (aT O (tQ ?_))))));exact⟨(),⟨O,O,O,O,O,O,O,O,O,O,O,O,O,O,O,O,O,O,aE Value.bool (cT fun h=>p1 h.1).symm,aE Value.bool (ju.2 ⟨fun h=> ⟨p2,h⟩,fun h=>h.2⟩),au⟩,O⟩
    refine aK O (aK O (aK O (aT O (tQ ?_))));exact⟨(),⟨O,O,O,O,O,O,O,O,O,O,O,O,O,O,O,O,O,O,aE Value.bool (cT fun h=>p1 h.1).symm,aE Value.bool (cT fun h=>p2 h.1).symm,au⟩,O⟩
   rintro _ e eF rfl;refine uF (α:=Unit) (fun _=> [(2,ak kind),(3,.pointer A3),(4,.pointer A4),(6,.pointer A6),(8,ak (((N1+2:Nat):Int) - 1)),(9,ak (((N2+2:Nat):Int) - 1)),(10,.pointer bN),(11,.slice Ap (gQ (N1+2) (N2+2) kind a b).length cp),(56,.slice A8 (N1+2) c8),(57,ak ((N1+2:Nat):Int)),(58,ak a),(12,ak a),(13,ak (gi X1 a)),(64,.slice B8 (N2+2) d8),(65,ak ((N2+2:Nat):Int)),(66,ak b),(14,ak b),(16,.pointer gB),(17,.bool (decide ((a:Int)=0/\(b:Int)=0))),(18,.bool (decide ((a:Int)=((N1+2:Nat):Int) - 1/\(b:Int)=((N2+2:Nat):Int) - 1))),(19,.bool (decide (((a:Int)=0/\(b:Int)=0)\/((a:Int)=((N1+2:Nat):Int) - 1/\(b:Int)=((N2+2:Nat):Int) - 1))))]) (fun _ w'=>w'=eF) ?_ ?_
   ·refine bh O (dI 93 O (fun p1=>?_) (fun p1=>?_))
    ·refine aK O (aT O (tQ ?_));exact⟨(),⟨O,O,O,O,O,O,O,O,O,O,O,O,O,O,O,O,O,O,O,O,aE Value.bool (dz (.inl p1)).symm,au⟩,O⟩
    refine aw O (aT O (tQ ?_));exact⟨(),⟨O,O,O,O,O,O,O,O,O,O,O,O,O,O,O,O,O,O,O,O,aE Value.bool (ju.2 ⟨fun h=> .inr h,fun h=>h.resolve_left p1⟩),au⟩,O⟩
   rintro _ e fH rfl;have Jb:kind=1->(qa (N1+2) (N2+2) kind a b↔((a:Int)=0\/(b:Int)=0\/((a:Int)=((N1+2:Nat):Int) - 1/\(b:Int)=((N2+2:Nat):Int) - 1))):=fun h=>by unfold qa;rw [if_pos h]
   have Jc:kind=2->(qa (N1+2) (N2+2) kind a b↔((a:Int)=((N1+2:Nat):Int) - 1\/(b:Int)=((N2+2:Nat):Int) - 1\/((a:Int)=0/\(b:Int)=0))):=fun h=>by unfold qa;rw [if_neg (by omega),if_pos h]
   have aeg:¬kind=1->¬kind=2->(qa (N1+2) (N2+2) kind a b↔(((a:Int)=0/\(b:Int)=0)\/((a:Int)=((N1+2:Nat):Int) - 1/\(b:Int)=((N2+2:Nat):Int) - 1))):=fun h h'=>by unfold qa;rw [if_neg h,if_neg h']
   have Me:kind=1->dh (gi X1) (gi X2) kind ((a:Int),(b:Int))=gi X1 a+gi X2 b+1 - 1:=fun h=>by unfold dh fD;rw [if_pos h];show gi X1 a+gi X2 b+0=_;omega
   have IB:¬kind=1->dh (gi X1) (gi X2) kind ((a:Int),(b:Int))=gi X1 a+gi X2 b+1:=fun h=>by unfold dh fD;rw [if_neg h]
   refine uF (α:=Unit) (fun _=> [(2,ak kind),(3,.pointer A3),(4,.pointer A4),(6,.pointer A6),(8,ak (((N1+2:Nat):Int) - 1)),(9,ak (((N2+2:Nat):Int) - 1)),(10,.pointer bN),(11,.slice Ap (gQ (N1+2) (N2+2) kind a b).length cp),(56,.slice A8 (N1+2) c8),(57,ak ((N1+2:Nat):Int)),(58,ak a),(12,ak a),(13,ak (gi X1 a)),(64,.slice B8 (N2+2) d8),(65,ak ((N2+2:Nat):Int)),(66,ak b),(14,ak b),(16,.pointer gB),(19,.bool (decide (qa (N1+2) (N2+2) kind a b)))]) (fun _ w'=>St w w' (Bx 282 3 gB [ak a,ak b,ak (dh (gi X1) (gi X2) kind ((a:Int),(b:Int)))]::CP Ap (gQ (N1+2) (N2+2) kind a b).length cp ((gQ (N1+2) (N2+2) kind a b).map (sB (gi X1) (gi X2) kind)) bN A6 A4 A3 k v4 v3)) ?_ ?_
   ·refine bL O (aM _ O (fun k1=>?_) (fun k1=>?_))
    ·refine aA O (dI 101 O (fun p1=>?_) (fun p1=>?_))
     ·refine aK O (aK O (ar O (aK O (ar O ?_))));refine aV (bW.rd 0 O) O (gP (j:=2) (bW.rd 0 O) (by exact aE Value.pointer O) O O O O (dZ O (aV (bW.rd 0 O) O (ki 0 (j:=2) bW O O O O O ?_))));intro gG ja;refine aT O (tQ ?_);exact⟨(),⟨O,O,O,O,O,O,O,O,O,O,O,O,O,O,O,O,O,O,aE Value.bool ((dz ((Jb k1).2 (.inl p1))).symm),au⟩,by rw [Me k1];exact ja⟩
     refine aw O (ar O (aw O (ar O ?_)));refine dI 105 O (fun p2=>?_) (fun p2=>?_)
     ·refine aK O (ar O ?_);refine aV (bW.rd 0 O) O (gP (j:=2) (bW.rd 0 O) (by exact aE Value.pointer O) O O O O (dZ O (aV (bW.rd 0 O) O (ki 0 (j:=2) bW O O O O O ?_))));intro gG ja;refine aT O (tQ ?_);exact⟨(),⟨O,O,O,O,O,O,O,O,O,O,O,O,O,O,O,O,O,O,aE Value.bool ((dz ((Jb k1).2 (.inr (.inl p2)))).symm),au⟩,by rw [Me k1];exact ja⟩
     refine aw O (ar O ?_);refine aV (bW.rd 0 O) O (gP (j:=2) (bW.rd 0 O) (by exact aE Value.pointer O) O O O O (dZ O (aV (bW.rd 0 O) O (ki 0 (j:=2) bW O O O O O ?_))));intro gG ja;refine aT O (tQ ?_);exact⟨(),⟨O,O,O,O,O,O,O,O,O,O,O,O,O,O,O,O,O,O,aE Value.bool (ju.2 ⟨fun h=> (Jb k1).2 (.inr (.inr h)),fun h=> (((Jb k1).1 h).resolve_left p1).resolve_left p2⟩),au⟩,by rw [Me k1];exact ja⟩
    refine dA O (aM _ O (fun k2=>?_) (fun k2=>?_))
    ·refine aA O (dI 117 O (fun p1=>?_) (fun p1=>?_))
     ·refine aK O (aK O (aK O (ar O (aK O (aT O (tQ ?_))))));exact⟨(),⟨O,O,O,O,O,O,O,O,O,O,O,O,O,O,O,O,O,O,aE Value.bool (dz ((Jc k2).2 (.inl p1))).symm,au⟩,by rw [IB k1];exact bW⟩
     refine aw O (ar O (aw O (ar O (aw O (ar O ?_)))));refine dI 122 O (fun p2=>?_) (fun p2=>?_)
     ·refine aK O (aT O (tQ ?_));exact⟨(),⟨O,O,O,O,O,O,O,O,O,O,O,O,O,O,O,O,O,O,aE Value.bool (dz ((Jc k2).2 (.inr (.inl p2)))).symm,au⟩,by rw [IB k1];exact bW⟩
     refine aw O (aT O (tQ ?_));exact⟨(),⟨O,O,O,O,O,O,O,O,O,O,O,O,O,O,O,O,O,O,aE Value.bool (ju.2 ⟨fun h=> (Jc k2).2 (.inr (.inr h)),fun h=> (((Jc k2).1 h).resolve_left p1).resolve_left p2⟩),au⟩,by rw [IB k1];exact bW⟩
    refine oC O (tQ ?_);exact⟨(),⟨O,O,O,O,O,O,O,O,O,O,O,O,O,O,O,O,O,O,aE Value.bool (ju.2 (aeg k1 k2).symm),au⟩,by rw [IB k1];exact bW⟩
   rintro _ e gG ja;refine aA O ?_
   first | refine fv rfl rfl ?_ | refine gz rfl rfl ?_
   refine aC O (aM _ O (fun h5=>?_) (fun h5=>?_))
   ·have vi:=aaE (m1:=N1+2) (m2:=N2+2) h5;refine aA O (ao.cN 2 (ja.rd 0 O) O O O (ZP (v:=sB (gi X1) (gi X2) kind ((a:Int),(b:Int))) ja O O O ?_));intro A9 mO jK;refine ZI 2 jK O (jK.ku 0 O) O O O am am O ?_;intro AZ cZ sC iC;have iC:=iC.tail.tail;refine ar O (aI O (aT O (tQ ?_)));refine⟨(b+1,AZ,cZ),by show N2+2 - (b+1)<N2+2 - b;omega,⟨O,O,O,O,O,O,O,?_,O,O,O,O,O,O,O,O,au⟩,by show b+1<=N2+2;omega,?_⟩
    ·show Value.slice _ _ _=Value.slice _ _ _;rw [vi,ck];rfl
    show St w sC (CP AZ (gQ _ _ kind a (b+1)).length cZ _ _ _ _ _ _ _ _);rw [vi,ck,iI];exact iC
   have nD:=aaF (m1:=N1+2) (m2:=N2+2) (jR.1 h5);refine aA O (aI O (aT O (tQ ?_)));refine⟨(b+1,Ap,cp),by show N2+2 - (b+1)<N2+2 - b;omega,⟨O,O,O,O,O,O,O,?_,O,O,O,O,O,O,O,O,au⟩,by show b+1<=N2+2;omega,?_⟩
   ·show Value.slice _ _ _=Value.slice _ _ _;rw [nD]
   show St w gG (CP Ap (gQ _ _ kind a (b+1)).length cp _ _ _ _ _ _ _ _);rw [nD];exact ja.tail
  have rV:b=N2+2:=by omega
  subst rV;refine bp O (bt (cS O (aI O (aT O (tQ ?_)))));refine⟨(a+1,Ap,cp),by show N1+2 - (a+1)<N1+2 - a;omega,⟨O,O,O,O,O,O,O,?_,O,O,O,au⟩,by show a+1<=N1+2;omega,?_⟩
  ·show Value.slice _ _ _=Value.slice _ _ _;rw [Lt]
  show St w w8 (CP Ap (gQ _ _ kind (a+1) 0).length cp _ _ _ _ _ _ _ _);rw [Lt];exact hS
 obtain rfl:a=N1+2:=by omega
 have GD:=aaD zS zT hk jb (show N2+2<=1000 by omega);have mq:=GD.length_eq;have dt:=aaC (N1+2) (N2+2) kind (gi X1) (gi X2) am am;have VJ:=fun(ds:List TV) hp hs=>amS zS zT hk jb (show N1+2<=1000 by omega) (show N2+2<=1000 by omega) (ds:=ds) hp hs
 have Nn:=dt.2;rw [fS]at Nn;have s9:=Rx (m1:=N1+2) (m2:=N2+2) (kind:=kind) (N1+2) 0 am;have Cx:(N1+2)* (N2+2)<=502*502:=Nat.mul_le_mul am am;have xo:((gQ (N1+2) (N2+2) kind (N1+2) 0).map (sB (gi X1) (gi X2) kind)).length=(gQ (N1+2) (N2+2) kind (N1+2) 0).length:=fS _;have jw:=fun(c:Int×Int)=> (ux (m1:=N1+2) (m2:=N2+2) (rk1:=gi X1) (rk2:=gi X2) (kind:=kind) (k:=k) (c:=c))
 generalize gQ (N1+2) (N2+2) kind (N1+2) 0=PA at*;generalize cK (N1+2) (N2+2) (gi X1) (gi X2) kind k=PL at*;refine bp O (bt (cS O (a8 O O (aC O ?_))));refine aM _ O (fun h3=>?_) (fun h3=>?_)
 ·refine aA O (De (by exact inferInstance) (by exact inferInstance) (by exact inferInstance) O (b5 3 2 hS O O O O O O O ?_));intro w8 cj;refine bH O (kG O (cj.rd 2 O) O ?_);exact .inl ⟨.inr (by rw [fS];omega),O,cj.none⟩
 have hP5:PL.length<=500:=by omega
 refine aA O (aL (TS.amQ am dt.1 Nn hS) O ?_);rintro _ w8 ⟨rfl,mC,Od,T6,cj⟩;have Uz:mC.length=PA.length:=by rw [Od.length_eq,xo]
 obtain rfl:=VJ mC Od (by rw [Uz];exact T6);clear hS;rw [mq]at cj|-;obtain⟨ds,Cf⟩:∃ds,PL.map (sB (gi X1) (gi X2) kind)=ds:=⟨_,rfl⟩;have hdsl:ds.length=PL.length:=by rw [<-Cf,fS]
 rw [Cf]at cj;have Ou:=fun i (h:i<PL.length)=>anr (sB (gi X1) (gi X2) kind) PL h
 rw [Cf]at Ou;have cI:∀i:Nat,i<PL.length->((0<=(gp PL i).1/\(gp PL i).1< (N1:Int)+2)/\(0<=(gp PL i).2/\(gp PL i).2< (N2:Int)+2))/\0<=dh (gi X1) (gi X2) kind (gp PL i)/\dh (gi X1) (gi X2) kind (gp PL i)<=5:=fun i h=>by
  have hm:gp PL i∈PL:=by rw [uV h];exact dK _
  obtain⟨j,hj,hE⟩:=(jw _).1 hm;have h9:=hE.2.2.1;refine⟨⟨⟨hE.1.1,?_⟩,hE.2.1.1,?_⟩,am,am⟩
  ·have:=hE.1.2;omega
  have:=hE.2.1.2;omega
 have cn:∀i:Nat,i<PL.length->(PL.map (dh (gi X1) (gi X2) kind)).take (i+1)=(PL.map (dh (gi X1) (gi X2) kind)).take i++ [dh (gi X1) (gi X2) kind (gp PL i)]:=fun i h=>by
  rw [E0 (by rw [fS];exact h)]
  congr 2
  rw [bV (by rw [fS];exact h),List.getElem_map,uV h]
 have yC:=fun i=>Xx N1 N2 B1 B2 PL i
 have nA:=fun i=>EP N1 N2 B1 B2 PL i
 have rU:=fun i (h:i<=PL.length)=>RH N1 N2 B1 B2 PL h
 have td:=fun i e=>RJ N1 N2 B1 B2 PL i e
 have rV:=fun i e=>RI N1 N2 B1 B2 PL i e
 have bT:St w w8 (He none 0 0 ((PL.map (dh (gi X1) (gi X2) kind)).take 0) bN k none 0 Ap PL.length cp ds A6 A4 A3 v4 v3 [] (pW N1 N2 B1 B2 PL 0)):=by
  have h9:=(cj.nil 34).nil 2;exact h9.perm (akT _ _ _ _ _ _ _)
 clear cj T6 Od Uz VJ dt Nn s9 xo GD h3;refine ar O (a8 O O (aC O ?_));refine Cd.loop (α:=Nat×(aj×Nat)×(aj×Nat)×List aO) (fun z=> [(3,.pointer A3),(4,.pointer A4),(6,.pointer A6),(10,.pointer bN),(11,.slice Ap PL.length cp),(139,.slice Ap PL.length cp),(140,ak (PL.length:Int)),(141,ak (z.1:Int))]) (fun z w'=>z.1<=PL.length/\z.2.2.2.length=z.1/\St w w' (He z.2.1.1 z.1 z.2.1.2 ((PL.map (dh (gi X1) (gi X2) kind)).take z.1) bN k z.2.2.1.1 z.2.2.1.2 Ap PL.length cp ds A6 A4 A3 v4 v3 z.2.2.2 (pW N1 N2 B1 B2 PL z.1))) (fun z=>PL.length - z.1) (0,(none,0),(none,0),[]) (aqv O) ⟨bg _,O,bT⟩ ?_;clear bT;rintro⟨i,⟨AR,cR⟩,⟨AD,cD⟩,dB⟩ e w9 ⟨hi,mH,hS⟩;dsimp only at hi mH hS|-;refine bL O (aM _ O (fun h3=>?_) (fun h3=>?_))
 ·have NP:i<PL.length:=by omega
  have hI:=cI i NP;have D3:=hS.ku 2 O;refine aA O (lq D3 O (pn D3 O am O ?_));rw [Ou i NP];refine nP hS O fun eu dY bW=>ar O (b5 3 0 bW O O O O O O O ?_);intro eF eH;obtain⟨ci,Uv⟩:∃ci,gp PL i=ci:=⟨_,rfl⟩;have J1:=cn i NP;have aeX:=rU i hi;have ae3:=td i;have ae5:=yC i;rw [Uv]at eH J1 hI;have eH:St w eF (Bx 282 3 eu [ak ci.1,ak ci.2,ak (dh (gi X1) (gi X2) kind ci)]::He AR i cR ((PL.map (dh (gi X1) (gi X2) kind)).take i) bN k AD cD Ap PL.length cp ds A6 A4 A3 v4 v3 dB (pW N1 N2 B1 B2 PL i)):=eH;clear bW hS D3;refine ar O (aV (eH.rd 2 O) O (aqp (j:=1) (eH.rd 2 O) (by exact aE Value.pointer O) O O O O (aV (eH.rd 0 O) O (gP (j:=2) (eH.rd 0 O) (by exact aE Value.pointer O) O O O O (eL eH O O O ?_)))));intro A9 fH dT;refine fu 2 dT O (dT.bz 0 O) O O O fun AQ cQ gG ja=>aV (ja.rd 3 O) O (ki 3 (j:=1) ja O O O O O ?_);intro mO jK;have jK:=jK.tail;have jK:St w mO (Bx 282 3 eu [ak ci.1,ak ci.2,ak (dh (gi X1) (gi X2) kind ci)]::ax 2 AQ (i+1) cQ ((PL.map (dh (gi X1) (gi X2) kind)).take (i+1))::bJ bN k AQ (i+1) cQ AD i cD::eJ 282 Ap PL.length cp ds::bJ A6 0 none 0 0 none 0 0::nV A4 v4::nV A3 v3::(aS 34 2 AD i cD dB (pW N1 N2 B1 B2 PL i)++ [])):=by rw [J1];exact jK
  have hcapT:=jK.R8 3 O;clear ja dT eH;refine ar O (ZS (h:=(i:Int)) O O O am ?_);refine a8 O O (aC O ?_);rw [jq];have iC:=jK.nil 2;refine Cd.loop (α:=Nat×aj×Nat) (fun z=> [(3,.pointer A3),(4,.pointer A4),(6,.pointer A6),(10,.pointer bN),(11,.slice Ap PL.length cp),(139,.slice Ap PL.length cp),(140,ak (PL.length:Int)),(141,ak i),(20,ak i),(21,.pointer eu),(22,.slice z.2.1 (lS N1 N2 B1 B2 PL i z.1).length z.2.2),(155,.slice Ap i cp),(156,ak i),(157,ak (z.1:Int))]) (fun z w'=>z.1<=i/\St w w' (ax 2 z.2.1 (lS N1 N2 B1 B2 PL i z.1).length z.2.2 (lS N1 N2 B1 B2 PL i z.1)::Bx 282 3 eu [ak ci.1,ak ci.2,ak (dh (gi X1) (gi X2) kind ci)]::ax 2 AQ (i+1) cQ ((PL.map (dh (gi X1) (gi X2) kind)).take (i+1))::bJ bN k AQ (i+1) cQ AD i cD::eJ 282 Ap PL.length cp ds::bJ A6 0 none 0 0 none 0 0::nV A4 v4::nV A3 v3::(aS 34 2 AD i cD dB (pW N1 N2 B1 B2 PL i)++ []))) (fun z=>i - z.1) (0,none,0) (aqv O) ⟨bg _,iC⟩ ?_;clear iC jK;rintro⟨q,Ab,cb⟩ e sC ⟨hq,hS⟩;dsimp only at hq hS|-;have hbq:=rV i q;refine bL O (aM _ O (fun h4=>?_) (fun h4=>?_))
  ·have hqi:q<i:=by omega
   have hJ:=(cI q am).1;have D3:=(hS.ku 4 O).take (l:=i) am;have vW:=ae3 q;have Ot:=Ou q am;rw [<-ans ds hqi (by omega)]at Ot;obtain⟨cq,hcq⟩:∃cq,gp PL q=cq:=⟨_,rfl⟩;rw [hcq]at hJ Ot vW;rw [Uv]at vW;refine aA O (lq D3 O (pn D3 O am O ?_));rw [Ot];refine nP hS O fun C6 vD kD=>ar O (b5 3 0 kD O O O O O O O ?_);intro qB gD;have gD:St w qB (Bx 282 3 C6 [ak cq.1,ak cq.2,ak (dh (gi X1) (gi X2) kind cq)]::ax 2 Ab (lS N1 N2 B1 B2 PL i q).length cb (lS N1 N2 B1 B2 PL i q)::Bx 282 3 eu [ak ci.1,ak ci.2,ak (dh (gi X1) (gi X2) kind ci)]::ax 2 AQ (i+1) cQ ((PL.map (dh (gi X1) (gi X2) kind)).take (i+1))::bJ bN k AQ (i+1) cQ AD i cD::eJ 282 Ap PL.length cp ds::bJ A6 0 none 0 0 none 0 0::nV A4 v4::nV A3 v3::(aS 34 2 AD i cD dB (pW N1 N2 B1 B2 PL i)++ [])):=gD;have nD:¬(eM N1 B1 cq.1 ci.1/\eM N2 B2 cq.2 ci.2)->lS N1 N2 B1 B2 PL i (q+1)=lS N1 N2 B1 B2 PL i q:=fun h=>by rw [vW,az h]
   clear kD hS;refine ar O (aV (gD.rd 0 O) O (gP (j:=0) (gD.rd 0 O) (by exact aE Value.pointer O) O O O O (aV (gD.rd 2 O) O (gP (j:=0) (gD.rd 2 O) (by exact aE Value.pointer O) O O O O (aL (Wb A3 A8 c8 q1 HF r1 Ie E7 N1 Ic X1 sr B1 cq.1 ci.1 _ (qT 8 gD O) (nY.aq gD.below) hJ.1 hI.1.1) O ?_)))));rintro _ qB ⟨rfl,rfl⟩;refine ar O (dI 167 O (fun h5=>?_) (fun h5=>?_))
   ·refine aw O (aV (gD.rd 0 O) O (aw O (gP (j:=1) (gD.rd 0 O) (by exact aE Value.pointer O) O O O O (aw O (aV (gD.rd 2 O) O (aw O (gP (j:=1) (gD.rd 2 O) (by exact aE Value.pointer O) O O O O (aw O (aL (Wb A4 B8 d8 q2 BR r2 dR BD N2 dD X2 XU B2 cq.2 ci.2 _ (uf 7 gD O) (oR.aq gD.below) hJ.2 hI.1.2) O ?_)))))))));rintro _ qB ⟨rfl,rfl⟩;refine aC O (aM _ O (fun h6=>?_) (fun h6=>?_))
    ·rw [aB ⟨h5,h6⟩]at vW;refine aA O (eL gD O O O ?_);intro A9 zu kE;refine fu 2 kE O (kE.bz 0 O) O O O ?_;intro AZ cZ Hy py;have py:=py.tail.tail;refine ar O (aI O (aT O (tQ ?_)));refine⟨(q+1,AZ,cZ),by show i - (q+1)<i - q;omega,⟨O,O,O,O,O,O,O,O,O,O,?_,O,O,O,au⟩,by show q+1<=i;omega,?_⟩
     ·show Value.slice _ _ _=Value.slice _ _ _;rw [vW,ck];rfl
     show St w Hy (ax _ AZ (lS N1 N2 B1 B2 PL i (q+1)).length cZ _::_);rw [vW,ck];exact py
    have fY:=nD (fun h=>h6 h.2);refine aA O (aI O (aT O (tQ ?_)));refine⟨(q+1,Ab,cb),by show i - (q+1)<i - q;omega,⟨O,O,O,O,O,O,O,O,O,O,?_,O,O,O,au⟩,by show q+1<=i;omega,?_⟩
    ·show Value.slice _ _ _=Value.slice _ _ _;rw [fY]
    show St w qB (ax _ Ab (lS N1 N2 B1 B2 PL i (q+1)).length cb _::_);rw [fY];exact gD.tail
   have fY:=nD (fun h=>h5 h.1);refine aK O (aK O (aK O (aK O (aK O (aC O ?_)))));refine Cd.fg O (aA O (aI O (aT O (tQ ?_))));refine⟨(q+1,Ab,cb),by show i - (q+1)<i - q;omega,⟨O,O,O,O,O,O,O,O,O,O,?_,O,O,O,au⟩,by show q+1<=i;omega,?_⟩
   ·show Value.slice _ _ _=Value.slice _ _ _;rw [fY]
   show St w qB (ax _ Ab (lS N1 N2 B1 B2 PL i (q+1)).length cb _::_);rw [fY];exact gD.tail
  obtain rfl:q=i:=by omega
  rw [aeX]at hS|-;refine bp O (bt (cS O ?_));refine aV (hS.rd 3 O) O (aqp (j:=2) (hS.rd 3 O) (by exact aE Value.pointer O) O O O O (ar O (lp hS O O O ?_)));intro A9 vD kD;refine lK 9 kD O (kD.fQ 0 O) O O O am am O fun AZ cZ qB gD=>aV (gD.rd 4 O) O (ki 4 (j:=2) gD O O O O O ?_);intro zu kE;have kE:=kE.tail;have kE:=(kE.perm (akS _ _ _ _ _ _ _ _ _ _)).tail;refine ar O (aI O (aT O (tQ ?_)));refine⟨(q+1,(AQ,cQ),(AZ,cZ),dB++ [⟨Ab,(uw (eM N1 B1) (eM N2 B2) PL q).length,cb⟩]),by show PL.length - (q+1)<PL.length - q;omega,(aqv O),by show q+1<=PL.length;omega,by show(dB++ [_]).length=q+1;rw [ck,mH];rfl,?_⟩;show St w zu (He AQ (q+1) cQ _ bN k AZ cZ Ap PL.length cp ds A6 A4 A3 v4 v3 (dB++ [_]) (pW N1 N2 B1 B2 PL (q+1)));rw [ae5];unfold He aS;rw [pZ (by rw [mH,EP])];exact kE
 obtain rfl:i=PL.length:=by omega
 refine bp O (bt (cS O ?_));refine ao.cN 2 (hS.rd 1 O) O O O (b5 3 3 hS O O O O O O O ?_);intro dY bW;refine bH O (kG O (bW.rd 3 O) O ?_);have kY:(PL.map (dh (gi X1) (gi X2) kind)).length=PL.length:=fS _;refine .inr ⟨⟨NT,am⟩,AR,cR,AD,cD,dB,by rw [kY];rfl,am,by rw [kY];exact EP N1 N2 B1 B2 PL PL.length,?_⟩;rw [kY];have h9:=bW.sub (show List.Sublist (ax 2 AR PL.length cR ((PL.map (dh (gi X1) (gi X2) kind)).take PL.length)::(aS 34 2 AD PL.length cD dB (pW N1 N2 B1 B2 PL PL.length)++ [])) _ from(((((lJ _).cons _).cons _).cons _).cons _).cons _ |>.cons_cons _);rw [iY (by omega)]at h9;exact h9
def Bo(n:Int)(R:ai)(B:ah)(K:Int)(w:aa)(v:ad)(w':aa):Prop:=
 ∃AR c AD d rs,v= .tuple #[.agg #[ak n,.slice AR R.length c,.slice AD B.length d],ak K]/\rs.length=B.length/\St w w' (ax 2 AR R.length c R::(aS 34 2 AD B.length d rs B++ []))
theorem Bo.zero{w w':aa}(h:St w w' [])(K:Int):Bo 0 [] [] K w (.tuple #[.agg #[ak 0,.slice none 0 0,.slice none 0 0],ak K]) w':=
 ⟨none,0,none,0,[],rfl,rfl,(h.nil _).nil _⟩
noncomputable def pX(M K:ah)(kind:Int):Int:=if bI M/\bI K then(if 0<=kind/\kind<=2 then(if lA M=0 then lA K else lA M)else 2)else 1
abbrev rm(M:ah):Int->Int:=gi (ik M.length (bU M M.length))
noncomputable abbrev E2(M:ah):Int->Int->Prop:=eM (aR M M.length) (bQ M)
def gF(M K:ah)(kind:Int):Nat:=(iM M.length K.length kind).toNat
noncomputable def zm(M K:ah)(kind:Int):List (Int×Int):=cK (aR M M.length+2) (aR K K.length+2) (rm M) (rm K) kind (gF M K kind)
noncomputable def iq(M K:ah)(kind:Int):ai:=(zm M K kind).map (dh (rm M) (rm K) kind)
noncomputable def pU(M K:ah)(kind:Int):ah:=nH (E2 M) (E2 K) (zm M K kind)
noncomputable def iV(M K:ah)(kind:Int):Int:=if pX M K kind=0 then(if 5<gF M K kind\/500< (iq M K kind).length then 3 else 0)else pX M K kind
noncomputable def tA(M K:ah)(kind:Int):Int:=if iV M K kind=0 then gF M K kind else 0
noncomputable def ow(M K:ah)(kind:Int):ai:=if iV M K kind=0 then iq M K kind else []
noncomputable def ov(M K:ah)(kind:Int):ah:=if iV M K kind=0 then pU M K kind else []
theorem Xw{M K:ah}{kind:Int}{w w':aa}{c:Int}(h:iV M K kind=c)(hc:c≠0)(hS:St w w' []):Bo (tA M K kind) (ow M K kind) (ov M K kind) (iV M K kind) w (.tuple #[.agg #[ak 0,.slice none 0 0,.slice none 0 0],ak c]) w':=by
 unfold tA ow ov;rw [h,az hc,az hc,az hc];exact Bo.zero hS c
theorem Hj{M K:ah}{kind:Int}(h:pX M K kind=0):(0<=kind/\kind<=2)/\lA M=0/\lA K=0:=by
 unfold pX at h
 split at h
 ·split at h
  ·split at h
   ·exact⟨by assumption,by assumption,h⟩
   contradiction
  contradiction
 contradiction
theorem AK{M:ah}(hM:bI M)(h:aR M M.length<=500):gg (aR M M.length+2) M.length (rm M) (E2 M):=by
 have:=G3 (tz hM h)
 rwa [pq]at this
theorem Kx{M K:ah}{kind:Int}(hM:bI M)(hK:bI K):((gF M K kind:Nat):Int)=iM M.length K.length kind:=by
 have:=hM.1;have:=hK.1;unfold gF iM
 split<;>omega
theorem aly(A D:aj)(n c m d:Nat)(rs ts:List aO)(M K:ah)(kind:Int)(w:aa)(hT:lO w)(hM:bF w A n rs M)(hK:bF w D m ts K)(hn:n<=c)(hc:c<=9223372036854775807)(hm:m<=d)(hd:d<=9223372036854775807):
 aJ prog 242 [.agg #[.slice A n c],.agg #[.slice D m d],ak kind] w (fun v w'=>v=ak (pX M K kind)/\St w w' []):=by
 refine bC func242 O ntmps242 O (df O) (bh O (jH (St.refl w) O O ?_));intro A3 w1 aH;refine jH aH O O fun A4 w2 aF=>ar O (ao.cN 0 (aF.rd 1 O) O O O (aL (yZ A n c rs M _ (aF.b7 hM) hn hc) O ?_));rintro _ w3 ⟨rfl,av⟩;have aQ:=aF.aq av.below;clear av aF aH
 first | refine fv rfl rfl ?_ | refine gz rfl rfl ?_
 refine ar O (dI 13 O (fun h1=>?_) (fun h1=>?_))
 ·refine aK O (aK O (aK O (aC O ?_)));refine Cd.gu O (dM O (iH O ?_));unfold pX;rw [az (fun h=>h1 h.1)];exact⟨O,aQ.none⟩
 have h1:bI M:=jR.1 h1;refine aw O (ao.cN 0 (aQ.rd 0 O) O O O (aw O (aL (yZ D m d ts K _ (aQ.b7 hK) hm hd) O ?_)));rintro _ w4 ⟨rfl,av⟩;have aX:=aQ.aq av.below;clear av aQ;refine aw O ?_
 first | refine fv rfl rfl ?_ | refine gz rfl rfl ?_
 refine aC O (aM _ O (fun h2=>?_) (fun h2=>?_))
 ·refine dM O (iH O ?_);unfold pX;rw [az (fun h=>h2 h.2)];exact⟨O,aX.none⟩
 have h2:bI K:=jR.1 h2;refine aA O (aL (zv _ _ _ _) O ?_);rintro _ w4 ⟨rfl,rfl⟩
 first | refine fv rfl rfl ?_ | refine gz rfl rfl ?_
 refine aC O (aM _ O (fun h3=>?_) (fun h3=>?_))
 ·refine dM O (iH O ?_);unfold pX;rw [aB ⟨h1,h2⟩,az h3];exact⟨O,aX.none⟩
 have h3:0<=kind/\kind<=2:=jR.1 h3;refine aA O (ao.cN 0 (aX.rd 1 O) O O O (aL (IE A n c rs M _ (hT.aq aX.below) (aX.b7 hM) hn hc) O ?_));rintro _ w5 (⟨hg,rfl,av⟩ | ⟨hg,A8,c8,AR,cR,AD,cD,dB,rfl,mH,av⟩)
 ·have ba:=aX.aq av.below;refine ar O (Fq ba O ?_);intro A7 w6 bo;refine b5 4 0 bo O O O O O O O fun w7 bK=>aC O (qC O (fun h=>hg h) (dM O (iH O ?_)));unfold pX;rw [aB ⟨h1,h2⟩,aB h3,az hg];exact⟨O,bK.none⟩
 have ba:=aX.aq av.below;refine ar O (Fq ba O ?_);intro A7 w6 bo;refine b5 4 0 bo O O O O O O O fun w7 bK=>aC O (Cd.gu O (aA O (ao.cN 0 (bK.rd 1 O) O O O (aL (IE D m d ts K _ (hT.aq bK.below) (bK.b7 hK) hm hd) O ?_))));rintro _ w8 hA;have hp:pX M K kind=lA K:=by
  unfold pX;rw [aB ⟨h1,h2⟩,aB h3,aB hg]
 rw [hp];rcases hA with⟨JE,rfl,lE⟩ | ⟨JE,B8,e8,BR,eR,BD,eD,XV,rfl,yQ,lE⟩
 ·refine bH O (iH O ?_);exact⟨O,(bK.aq lE.below).none⟩
 rw [JE];refine bH O (iH O ?_);exact⟨O,(bK.aq lE.below).none⟩
theorem SY{M:ah}{w w':aa}{A8:aj}{c8:Nat}{AR:aj}{cR:Nat}{AD:aj}{cD:Nat}{rs:List aO}{ks:List Ck}(hM:bI M)(hb:aR M M.length<=500)(h:St w w' (ax 2 A8 (aR M M.length+2) c8 (ik M.length (bU M M.length))::ax 2 AR (aR M M.length) cR (bU M M.length)::(aS 34 2 AD (aR M M.length) cD rs (bQ M)++ks))):
 Bs w' A8 (ik M.length (bU M M.length)) (aR M M.length) AD rs (bQ M):=by
 have hP:=tz hM hb;have hl:=pq M M.length;refine⟨by rw [SX,hl],hb,h.bz 0 O,?_,vR M,fun e h0 h1=>?_⟩
 ·exact(h.sub (show(aS 34 2 AD (aR M M.length) cD rs (bQ M)).Sublist _ from((oE _ _).cons _).cons _)).nJ (vR M)
 have h2:=hP.at_ (e:=e) h0 (by rw [hl];exact h1);refine⟨h2.1,?_⟩;have:=q8 (N:=(bU M M.length).length) h2.1.nodup fun x hx=>by have:=(h2.2.1 x hx).1;omega
 omega
theorem alz(A D:aj)(n c m d:Nat)(rs ts:List aO)(M K:ah)(kind:Int)(w:aa)(hT:lO w)(hM:bF w A n rs M)(hK:bF w D m ts K)(hn:n<=c)(hc:c<=9223372036854775807)(hm:m<=d)(hd:d<=9223372036854775807):
 aJ prog 187 [.agg #[.slice A n c],.agg #[.slice D m d],ak kind] w (Bo (tA M K kind) (ow M K kind) (ov M K kind) (iV M K kind) w):=by
 refine bC func187 O ntmps187 O (ur O O) (bh O (jH (St.refl w) O O ?_));intro A3 w1 aH;refine jH aH O O fun A4 w2 aF=>nP aF O fun A6 w3 aQ=>ar O (ao.cN 0 (aQ.rd 2 O) O O O (ao.cN 0 (aQ.rd 1 O) O O O (ar O (aL (aly A D n c m d rs ts M K kind _ (hT.aq aQ.below) (aQ.b7 hM) (aQ.b7 hK) hn hc hm hd) O ?_))));rintro _ w4 ⟨rfl,av⟩;have aX:=aQ.aq av.below;clear av aQ aF aH;refine aC O (aM _ O (fun h1=>?_) (fun h1=>?_))
 ·refine aA O (De (by exact inferInstance) (by exact inferInstance) (by exact inferInstance) O (ar O (b5 3 0 aX O O O O O O O ?_)));intro w5 ba;refine bH O (kG O (ba.rd 0 O) O ?_);exact Xw (by unfold iV;rw [if_neg h1]) h1 ba.none
 have h1:pX M K kind=0:=jR.1 h1;obtain⟨o3,vY,vX⟩:=Hj h1;obtain⟨ml,nZ⟩:=sX vY;obtain⟨nv,qi⟩:=sX vX;refine aA O (ao.cN 0 (aX.rd 2 O) O O O (aL (IE A n c rs M _ (hT.aq aX.below) (aX.b7 hM) hn hc) O ?_));rintro _ w5 (⟨hg,_⟩ | ⟨_,A8,c8,AR,cR,AD,cD,dB,rfl,mH,av⟩)
 ·exact absurd vY hg
 have ji:=SY ml nZ.1 av;have ba:=aX.aq av.below;clear av aX;refine ar O (Fq (St.refl w5) O ?_);intro A9 w6 zZ;refine b5 4 0 zZ O O O O O O O ?_;intro w7 oT;have oU:=Rd.below (ba.rd 1 O) oT.below;have hTb:=(hT.aq ba.below).aq oT.below;have hK7:=(ba.b7 hK).aq oT.below;have ji:=ji.aq oT.below;have bK:=ba.aq oT.below;refine ar O (ao.cN 0 oU O O O (aL (IE D m d ts K _ hTb hK7 hm hd) O ?_));rintro _ w8 (⟨hg,_⟩ | ⟨_,B8,e8,BR,eR,BD,eD,XV,rfl,yQ,lE⟩)
 ·exact absurd vX hg
 have pF:=SY nv qi.1 lE;have ji:=ji.aq lE.below;have cj:=bK.aq lE.below;have h9:=Rd.below (oT.rd 0 O) lE.below;refine ar O (Fq (St.refl w8) O ?_);intro cG w9 hU9;refine b5 4 0 hU9 O O O O O O O ?_;intro dY Gd;have ji:=ji.aq Gd.below;have pF:=pF.aq Gd.below;have bW:=cj.aq Gd.below;have h9:=Rd.below h9 Gd.below;refine ar O (ao.cN 3 h9 O O O (ao.cN 3 (Gd.rd 0 O) O O O (ar O ?_)));have h5:=ml.1;have h6:=nv.1;refine aL (alA A8 B8 c8 e8 M.length K.length AR BR (aR M M.length) (aR K K.length) cR eR AD BD (aR M M.length) (aR K K.length) cD eD _ _ dB XV (bQ M) (bQ K) M.length K.length kind (gF M K kind) _ ji pF (AK ml nZ.1) (AK nv qi.1) o3 (Kx ml nv) am am) O ?_;rintro _ eF (⟨Jr,rfl,o7⟩ | ⟨dp,AQ,cQ,AE,cE,rsP,rfl,hrP,nA,o7⟩)
 ·have eH:=bW.aq o7.below;refine ar O (b5 3 0 eH O O O O O O O ?_);intro fH dT;refine bH O (kG O (dT.rd 0 O) O ?_);refine Xw ?_ an dT.none;unfold iV;rw [aB h1];exact aB Jr
 have eH:=(bW.call o7).perm nL;refine ar O (b5 3 0 eH O O O O O O O ?_);intro fH dT;refine bH O (kG O (dT.rd 0 O) O ?_);have hpc:iV M K kind=0:=by
  unfold iV;rw [aB h1,az];intro h;have h7:(iq M K kind).length<=500:=dp.2;omega
 have e9:(pU M K kind).length=(iq M K kind).length:=nA;unfold tA ow ov;rw [hpc,aB rfl,aB rfl,aB rfl];refine⟨AQ,cQ,AE,cE,rsP,by rw [e9];rfl,by rw [e9];exact hrP,?_⟩;rw [e9];exact dT.sub (show List.Sublist _ (_::_::_::_) from((lJ _).cons _ |>.cons _ |>.cons _))
theorem OU(q:Int)(A8:aj)(m8 c8:Nat)(Ab:aj)(m cb:Nat)(rsb:List aO)(BB:ah)(a b:Int)(w:aa)(hB:bF w Ab m rsb BB)(hl:BB.length=m)(hb:0<=b/\b< (m:Int))(hn:(gl BB b).length<=1000000):
 aJ prog 299 [.agg #[ak q,.slice A8 m8 c8,.slice Ab m cb],ak a,ak b] w (fun v w'=>v= .bool (decide (a=b\/a∈gl BB b))/\St w w' []):=by
 refine bC func299 O ntmps299 O (df O) (bh O (oG (St.refl w) O O ?_));intro A3 w1 aH;have h1:=aH.rd 0 O;have hB:=aH.b7 hB;have iL:=hB.at_ (i:=b) am am;have jk:=iL.1;refine ar O (dI 10 O (fun h2=>?_) (fun h2=>?_))
 ·refine aK O (aK O (aK O (aK O (aK O (aK O (aK O (bH O ?_)))))));exact dq O ⟨aE Value.bool (dz (.inl h2)).symm,aH.none⟩
 refine aw O (aV h1 O (aw O (aqp (j:=2) h1 (by exact aE Value.pointer O) O O O O ?_)));refine aw O (ar O (aw O ?_));refine aD hB.top.2 O (aw O (b9 hB.top O ?_));refine aw O (ar O (aw O ?_));refine aL (Kk _ _ _ (gl BB b) a _ iL am) O ?_;rintro _ w2 ⟨rfl,rfl⟩;refine bH O (dq O ?_);exact⟨aE Value.bool (ju.2 ⟨fun h=> .inr h,fun h=>h.resolve_left h2⟩),aH.none⟩
def oH(B:ah)(i:Nat):ah:=[]::((bY i).map fun e=>0::(gl B e).map (· +1))
def lQ(N:Nat)(B:ah):ah:=oH B N++ [bY (N+1)]
theorem Dw(B:ah)(i:Nat):(oH B i).length=i+1:=by simp [oH,bY]
theorem Dv(N:Nat)(B:ah):(lQ N B).length=N+2:=by simp [lQ,Dw]
theorem aau(B:ah)(i:Nat):oH B (i+1)=oH B i++ [0::(gl B i).map (· +1)]:=by
 unfold oH;rw [wx,iI,List.cons_append];rfl
theorem Rp(N:Nat)(B:ah):gl (lQ N B) 0=[]:=by simp [lQ,oH,gl]
theorem Rr(N:Nat)(B:ah){b:Int}(h0:0<b)(h1:b< (N:Int)+1):gl (lQ N B) b=0::(gl B (b - 1)).map (· +1):=by
 obtain⟨k,rfl⟩:∃k:Nat,b=((k+1:Nat):Int):=⟨(b - 1).toNat,am⟩;rw [bR (by rw [Dv];omega)];unfold lQ;rw [List.getElem_append_left (by rw [Dw];omega)];have e1:((k+1:Nat):Int) - 1=(k:Int):=by omega
 rw [e1];simp [oH,bY]
theorem Rs(N:Nat)(B:ah):gl (lQ N B) ((N:Int)+1)=bY (N+1):=by
 have e1:((N:Int)+1)=((N+1:Nat):Int):=by omega
 rw [e1,bR (by rw [Dv];omega)];unfold lQ;rw [List.getElem_append_right (by rw [Dw];omega)];simp [Dw]
theorem Rt{N:Nat}{B:ah}{a b:Int}(ha:0<=a/\a< (N:Int)+2)(hb:0<=b/\b< (N:Int)+2)(hB:∀e:Int,0<=e->e<N->∀d∈gl B e,0<=d/\d< (N:Int)):(a=b\/a∈gl (lQ N B) b)↔eM N B a b:=by
 unfold eM
 by_cases c0:b=0
 ·subst c0;rw [Rp];constructor
  ·rintro(h | h)
   ·exact .inl h
   cases h
  rintro(h | h | h | h)
  ·exact .inl h
  ·exact .inl h
  ·omega
  omega
 by_cases c1:b=(N:Int)+1
 ·subst c1;rw [Rs,ky];constructor
  ·intro _;exact .inr (.inr (.inl rfl))
  intro _
  by_cases e:a=(N:Int)+1
  ·exact .inl e
  exact .inr am
 rw [Rr N B (by omega) (by omega),iX,dF];constructor
 ·rintro(h | h | ⟨d,h,e⟩)
  ·exact .inl h
  ·exact .inr (.inl h)
  have:=hB (b - 1) am am d h;exact .inr (.inr (.inr ⟨am,am,am,am,by rw [<-e,Int.add_sub_cancel];exact h⟩))
 rintro(h | h | h | h)
 ·exact .inl h
 ·exact .inr (.inl h)
 ·exact absurd h c1
 exact .inr (.inr ⟨a - 1,h.2.2.2.2,am⟩)
theorem Rq{N:Nat}{B:ah}(hl:∀e:Int,0<=e->e<N->(gl B e).length<=500)(hN:N<=500){b:Int}(hb:0<=b/\b< (N:Int)+2):(gl (lQ N B) b).length<=501:=by
 by_cases c0:b=0
 ·subst c0;rw [Rp];exact bg _
 by_cases c1:b=(N:Int)+1
 ·subst c1;rw [Rs,bY,fS,rA];omega
 rw [Rr N B (by omega) (by omega),List.length_cons,fS];have:=hl (b - 1) am am;omega
theorem aib(n:Nat)(w:aa)(hn:n<=1000000):
 aJ prog 239 [ak n] w (fun v w'=>∃A c,v= .slice A n c/\St w w' [ax 2 A n c (bY n)]):=by
 refine bC func239 O ntmps239 O (df O) (bh O (jr (St.refl w) O ?_));intro A1 w1 aH;refine aC O (Cd.loop (α:=Nat×aj×Nat) (fun s=> [(0,ak n),(3,.slice s.2.1 s.1 s.2.2),(4,ak (s.1:Int))]) (fun s w'=>s.1<=n/\St w w' [ax 2 s.2.1 s.1 s.2.2 (bY s.1)]) (fun s=>n - s.1) (0,A1,0) (aqv O) ⟨bg _,aH⟩ ?_);clear aH;rintro⟨i,A2,c2⟩ e w2 ⟨hi,aF⟩;dsimp only at aF hi|-;refine bL O (aM _ O (fun h1=>?_) (fun h1=>?_))
 ·refine aA O (eL aF O O O ?_);intro A3 w3 aQ;refine fu 1 aQ O (aQ.bz 0 O) O O O ?_;intro A4 c4 w4 aX;have aX:=aX.tail;refine ar O (aI O (aT O (tQ ?_)));exact⟨(i+1,A4,c4),by show n - (i+1)<n - i;omega,(aqv O),by show i+1<=n;omega,by show St w w4 [ax _ A4 (i+1) c4 (bY (i+1))];rw [wx];exact aX⟩
 have cI:i=n:=by omega
 subst cI;refine bp O (bt (gw O ?_));exact gJ O ⟨A2,c2,O,aF⟩
end Go.Proofs.YtkccgdhcpplblaaGreatDoor.Vc
