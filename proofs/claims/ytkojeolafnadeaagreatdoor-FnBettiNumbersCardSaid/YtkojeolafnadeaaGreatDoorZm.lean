/-
 Lemmas. Conditions: as each states them.
-/
import Derived.Test.YtkojeolafnadeaaGreatDoorZl
set_option maxHeartbeats 8000000
namespace Go.Proofs.YtkojeolafnadeaaGreatDoor.Vc
open Tryz
section
open Go.RowKit
variable{cd yj:Int}{R L L':ah}{M:ag}
def Mn(w0:aa)(ks:List Ck)(v:ab)(w':aa):Prop:=
 ∃(n:Nat) (A:ai) (c:Nat) (rs:List aX) (xss:ag) (X:List Ck),v= .agg #[.slice A n c]/\n<=6/\(n<=c/\c<=9223372036854775807)/\(∀(fX:aa) (Y:List Ck),St w0 fX (X++Y)->bL fX A n rs xss)/\St w0 w' (X++ks)
theorem Uu{w0 w:aa}{ks:List Ck}(Ac:ai)(nc cc:Nat)(bs:ah)(hS:St w0 w ks)(hY:nv w0 Ac nc bs)(ko:nc<=1000000):
 aG prog 79 [.slice Ac nc cc] w (Mn w0 ks):=by
 refine bw func79 O ntmps79 O (kX O O) (bb O (jN hS O ?_));intro A2 w1 aC;refine aq O (aF (RR Ac nc cc bs w1 (hY.below aC.below) ko) O ?_);rintro _ w2 ⟨As,k0,rfl,vm,hT⟩;have vm:=vm w0 hY;have aE:St w0 w2 (k0::Bx 31 1 A2 [.slice none 0 0]::ks):=aC.call hT;refine aF (ad0 0 48 aE O vm (by decide)) O ?_;rintro _ w3 ⟨n,A,c,rs,xss,X,k1,rfl,hn,hc,_,iO,hX,aH⟩;have aH:St w0 w3 (X++ (k1::Bx 31 1 A2 [.slice none 0 0]::ks)):=aH;have aH:St w0 w3 (Bx 31 1 A2 [.slice none 0 0]::(X++ks)):=(aH.sub (List.Sublist.append_left (List.sublist_cons_self _ _) X)).perm eK;refine bS 1 0 aH O O O O O O O fun w4 aQ=>bD O (fI O (aQ.rd 0 O) ?_);exact⟨n,A,c,rs,xss,X,O,hn,hc,hX,aQ.tail⟩
theorem Uv{w0 w:aa}{ks:List Ck}(Ac:ai)(nc cc:Nat)(bs:ah)(hS:St w0 w ks)(hY:nv w0 Ac nc bs)(ko:nc<=1000000):
 aG prog 32 [.slice Ac nc cc] w (Mn w0 ks):=by
 refine bw func32 O ntmps32 O (kX O O) (bb O (jN hS O ?_));intro A2 w1 aC;refine aq O (aF (Uu Ac nc cc bs aC hY ko) O ?_);rintro _ w3 ⟨n,A,c,rs,xss,X,rfl,hn,hc,hX,aH⟩;have aH:St w0 w3 (Bx 31 1 A2 [.slice none 0 0]::(X++ks)):=aH.perm eK;refine bS 1 0 aH O O O O O O O fun w4 aQ=>bD O (fI O (aQ.rd 0 O) ?_);exact⟨n,A,c,rs,xss,X,O,hn,hc,hX,aQ.tail⟩
def qu(n:Int)(R:ah)(B:ag)(L:ah)(cd:Int):Prop:=(¬eV n R B/\L=[]/\cd=1)\/(eV n R B/\¬qw R B/\L=[]/\cd=5)\/(eV n R B/\qw R B/\L=mm n.toNat R B/\cd=0)
theorem qu.eq{n:Int}{B:ag}(h:qu n R B L cd)(h':qu n R B L' yj):L'=L/\yj=cd:=by
 rcases h with⟨a,rfl,rfl⟩ | ⟨a,b,rfl,rfl⟩ | ⟨a,b,rfl,rfl⟩<;>rcases h' with⟨a',rfl,rfl⟩ | ⟨a',b',rfl,rfl⟩ | ⟨a',b',rfl,rfl⟩<;>first | exact⟨rfl,rfl⟩ | exact absurd a a' | exact absurd a' a | exact absurd b b' | exact absurd b' b
theorem qu.len{n:Int}{B:ag}(h:qu n R B L cd):L.length<=5:=by
 rcases h with⟨_,rfl,_⟩ | ⟨_,_,rfl,_⟩ | ⟨a,_,rfl,_⟩
 ·exact bu _
 ·exact bu _
 rw [E1];have:=a.n1;omega
theorem qu.zero{n:Int}{B:ag}(h:qu n R B L cd)(h0:cd=0):eV n R B/\qw R B/\L=mm n.toNat R B:=by
 rcases h with⟨_,_,rfl⟩ | ⟨_,_,_,rfl⟩ | ⟨a,b,c,_⟩
 ·exact absurd h0 (by decide)
 ·exact absurd h0 (by decide)
 exact⟨a,b,c⟩
theorem qu.nil{n:Int}{B:ag}(h:qu n R B L cd)(h0:¬cd=0):L=[]:=by
 rcases h with⟨_,h,_⟩ | ⟨_,_,h,_⟩ | ⟨_,_,_,h⟩
 ·exact h
 ·exact h
 exact absurd h h0
def EH(n:Int)(R:ah)(B:ag)(eu one:Int):Prop:=(¬eV n R B/\eu=0/\one=1)\/(eV n R B/\eu=gk (fQ n.toNat R) n.toNat/\one=0)
theorem EH.eq{n:Int}{B:ag}{L L':Int}(h:EH n R B L cd)(h':EH n R B L' yj):L'=L/\yj=cd:=by
 rcases h with⟨a,rfl,rfl⟩ | ⟨a,rfl,rfl⟩<;>rcases h' with⟨a',rfl,rfl⟩ | ⟨a',rfl,rfl⟩<;>first | exact⟨rfl,rfl⟩ | exact absurd a a' | exact absurd a' a
theorem Ob{n:Int}{B:ag}{v:ab}(h:(¬eV n R B/\v= .tuple #[aj 0,aj 1])\/(eV n R B/\v= .tuple #[aj (gk (fQ n.toNat R) n.toNat),aj 0])):∃eu one,v= .tuple #[aj eu,aj one]/\EH n R B eu one:=by
 rcases h with⟨h1,h2⟩ | ⟨h1,h2⟩
 ·exact⟨_,_,h2,.inl ⟨h1,O,O⟩⟩
 exact⟨_,_,h2,.inr ⟨h1,O,O⟩⟩
theorem XB(f:ah)(i:Nat):gi f i* (1 - 2* ((i:Int)%2))=lM f i:=by
 unfold lM;rcases Nat.mod_two_eq_zero_or_one i with e | e
 ·rw [aT e,show(i:Int)%2=0 by omega];omega
 rw [aR (by omega),show(i:Int)%2=1 by omega];omega
theorem WK{n:Nat}{B:ag}(hn:1<=n){i:Nat}(hi:i<n):gi (mm n R B) i<=R.length:=by
 rw [zS hn hi,wF hi];have h1:(uN R i).length<=R.length:=by
  unfold uN;exact iS (oa _ _) (by rw [LK];exact dC _)
 have h2:∀j,0<=mJ n R B j:=fun j=>by unfold mJ;split<;>omega
 have:=h2 i;have:=h2 (i+1);omega
theorem NJ(hM:dm M):∀x∈fy M,0<=x/\x<=30000:=fun x hx=>by
 unfold fy at hx;obtain⟨i,_,rfl⟩:=eh.1 hx;have:=rH M i;have:=hM.2.1;omega
theorem Uz(Ac:ai)(nc cc:Nat)(bs:ah)(w:aa)(hT:qD w)(hY:nv w Ac nc bs):
 aG prog 4 [.slice Ac nc cc] w (fun v w'=>v= .bool true/\St w w' []):=by
 refine bw func4 O ntmps4 O (b7 O) (bb O (aF (Wp Ac nc cc w) O ?_));rintro _ w1 ⟨rfl,xa⟩;refine az O (aM _ O (fun h1=>?_) (fun h1=>?_))
 ·refine dB O (ck O ?_);exact⟨O,xa⟩
 refine aD O (aF (Us Ac nc cc bs (St.refl w1) (hY.below xa.below) (by omega)) O ?_);rintro _ w2 ⟨n,A,D,cA,cD,m,l,R,rs,B,X,rfl,hn,hm,hl,hX,aE⟩;obtain⟨hR,hB⟩:=hX w2 [] aE;have hT:=(hT.ao xa.below).ao aE.below;have hY:=(hY.below xa.below).below aE.below;have hW:=(xa.call aE).none;clear hX aE xa;refine jc (St.refl w2) O fun A3 w3 hU=>bS 3 0 hU O O O O O O O ?_;intro w4 hU;have hU:St w2 w4 [bp A3 n A m cA D l cD]:=hU;have gm:Rd w4 A3 3 _:=hU.rd 0 O;have bH:=hU.below;have hR:=hR.ao bH;have hB:=hB.ao bH;have hT:=hT.ao bH;have hW:=hW.ao bH;have hY:=hY.below bH;clear hU;refine aq O (bI 2 gm O O O (aF (RB n A D cA cD m l R rs B _ hR hB hn (by omega) (by omega)) O ?_));rintro _ w5 ⟨A5,c5,L,cd,rfl,ax,oo⟩;have hL:=ax.bk 0 O;have bH:=ax.below;have hR:=hR.ao bH;have hB:=hB.ao bH;have hT:=hT.ao bH;have hW:=hW.ao bH;have gm:=Rd.below gm bH;have hY:=hY.below bH;clear ax;refine aq O (bI 2 gm O O O (aF (Tu n A D cA cD m l R rs B _ hR hB hn (by omega) (by omega)) O ?_));rintro _ w6 ⟨A6,c6,L',yj,rfl,ax,Ds⟩;have oo:qu n R B L cd:=oo;obtain⟨rfl,rfl⟩:=qu.eq oo Ds;have Pm:=ax.bk 0 O;have hL:=hL.ao ax.below;have bH:=ax.below;have hR:=hR.ao bH;have hB:=hB.ao bH;have hT:=hT.ao bH;have hW:=hW.ao bH;have gm:=Rd.below gm bH;have hY:=hY.below bH;clear ax;have nD:=oo.len;clear Ds;refine aq O (cz 48 O (fun h=>absurd O h) (fun _=>?_));refine au O (aq O (au O (aq O (au O ?_))));refine aF (Lb A5 L'.length c5 L' A6 L'.length c6 L' _ hL Pm (by omega)) O ?_;rintro _ w7 ⟨rfl,ax⟩;have hL:=hL.ao ax.below;have bH:=ax.below;have hR:=hR.ao bH;have hB:=hB.ao bH;have hT:=hT.ao bH;have hW:=hW.ao bH;have gm:=Rd.below gm bH;have hY:=hY.below bH;clear ax;clear Pm;refine au O ?_
 first | refine de rfl rfl ?_ | refine dV rfl rfl ?_
 refine az O (gV O (fun h=>h O) (aD O (bI 2 gm O O O (aF (RC n A D cA cD m l R rs B _ hR hB hn (by omega) (by omega)) O ?_))));rintro _ w8 ⟨hv,ax⟩;obtain⟨eu,one,rfl,Jf⟩:=Ob hv;clear hv;have hL:=hL.ao ax.below;have bH:=ax.below;have hR:=hR.ao bH;have hB:=hB.ao bH;have hT:=hT.ao bH;have hW:=hW.ao bH;have gm:=Rd.below gm bH;have hY:=hY.below bH;clear ax;refine aq O (bI 2 gm O O O (aF (agd n A D cA cD m l R rs B _ hR hB hn (by omega) (by omega)) O ?_));rintro _ w9 ⟨hv,ax⟩;obtain⟨Oa,Ef,rfl,O8⟩:=Ob hv;obtain⟨rfl,rfl⟩:=Jf.eq O8;clear hv O8;have hL:=hL.ao ax.below;have bH:=ax.below;have hR:=hR.ao bH;have hB:=hB.ao bH;have hT:=hT.ao bH;have hW:=hW.ao bH;have gm:=Rd.below gm bH;have hY:=hY.below bH;clear ax;refine aq O (cz 67 O (fun h=>absurd O h) (fun _=>?_));refine au O (aq O (au O (aq O (au O (az O ?_)))));refine gV O (fun h=>h O) (wm 1 O (nq (α:=Unit) (fun _=> [(0,.slice Ac nc cc)]) (fun _ w'=>qD w'/\nv w' Ac nc bs/\St w w' []) ?_ ?_))
 ·refine b8 O (aM _ O (fun h2=>?_) (fun h2=>?_))
  ·obtain⟨hP,Dd,tY⟩:=oo.zero h2;have vD:=hP.n1;obtain⟨p,rfl⟩:∃p:Nat,n=p:=⟨n.toNat,by omega⟩;rw [gB]at tY;have Pp:L'.length=p:=by rw [tY,E1]
   have JQ:Oa=gk L' p/\Ef=0:=by
    rcases Jf with⟨h,_⟩ | ⟨_,h,h'⟩
    ·exact absurd hP h
    rw [gB]at h;exact⟨by rw [h,tY,WM (by omega)],h'⟩
   have ue:=hP.od;have Qg:∀i:Nat,i<p->0<=gi L' i/\gi L' i<=30000:=fun i hi=>by
    rw [tY];have h1:=WL hP Dd hi;have h2:=WK (R:=R) (B:=B) (by omega) hi;omega
   have gQ:=Fg (f:=L') (fun x hx=>by
    obtain⟨i,hi,rfl⟩:=gj.1 hx;have:=Qg i (by omega)
    rwa [bX hi]at this)
   obtain⟨JQ,uq⟩:=JQ;subst uq;refine cW O (Cd.loop (α:=Nat) (fun i=> [(0,.slice Ac nc cc),(3,.pointer A3),(4,.slice A5 L'.length c5),(8,aj Oa),(9,aj 0),(12,aj (gk L' i)),(13,aj i)]) (fun i w'=>i<=p/\w'=w9) (fun i=>p - i) 0 (ajz O) ⟨bu _,O⟩ ?_);rintro i e dA ⟨hi,rfl⟩;refine bb O (ba O O (az O ?_));refine aM _ O (fun h3=>?_) (fun h3=>?_)
   ·have J0:i<p:=by omega
    have Qe:=Qg i J0;have fa:=gQ i (by omega);have gP:=gQ (i+1) (by omega);have km:gk L' (i+1)=gk L' i+lM L' i:=O;refine aD O (aA hL.2 O (aY hL O (az O (gV O (by omega) (aD O (aA hL.2 O (aY hL O (aq O (ob O O O (by omega) ?_)))))))));have Gb:=XB L' i;refine iL O O O (by omega) (dq O ?_);refine iL O O O (by rw [Gb];omega) ?_;rw [Gb];refine aK O (aq O (aK O (aS O (tQ ?_))));exact⟨i+1,by show p - (i+1)<p - i;omega,(ajz O),by show i+1<=p;omega,O⟩
   have J0:i=p:=by omega
   subst J0;refine bo O (bn (cJ O ?_));refine bI 2 gm O O O (aF (acx i A D cA cD m l R rs B _ hR hB hn (by omega) (by omega)) O ?_);rintro _ eA ⟨gU,oS,UG,cd14,rfl,ax,aae⟩;obtain⟨_,Zf,rfl⟩:=aae.resolve_left fun h=>h.1 hP
   have hl14:UG.length=i - 1:=by rw [Zf,CU,gB]
   have bH:=ax.below;have hR:=hR.ao bH;have hB:=hB.ao bH;have hT:=hT.ao bH;have hW:=hW.ao bH;have gm:=Rd.below gm bH;have hY:=hY.below bH;clear ax;refine aq O (cz 103 O (fun h=>absurd O h) (fun _=>?_));refine au O (aq O (au O (aq O ?_)));refine cz 107 O (fun h=>absurd O h) (fun _=>?_);refine au O (aq O (au O (aq O (au O (aq O ?_)))));refine cz 112 O (fun h=>absurd JQ.symm h) (fun _=>?_);refine au O (aq O (au O (ba O O (au O ?_))));refine aI gm O (au O (fL (j:=0) gm O O O O O ?_));refine au O (aq O ?_);refine cz 119 O (fun h=>absurd (aL Int.ofNat Pp) h) (fun _=>?_);refine au O (aq O (au O (ba O O (au O (aq O (au O (ba O O (au O (dq O (au O (az O ?_)))))))))));refine gV O (by omega) (mN O (tQ ?_));exact⟨(),(ajz O),hT,hY,hW⟩
  refine mN O (tQ ?_);exact⟨(),(ajz O),hT,hY,hW⟩
 clear hR hB gm hL hT hY hW oo Jf;rintro⟨⟩ e iH ⟨hT,hY,hW⟩;clear hm hl hn nD;refine aD O (aF (Uv Ac nc cc bs (St.refl iH) hY (by omega)) O ?_);rintro _ pj ⟨k,A,c,rs,M,X,rfl,hk6,gD,hX,aE⟩;have iB:=hX pj [] aE;have ji:=iB.len;have hT:=hT.ao aE.below;have hW:=(hW.call aE).none;clear hX aE hY;refine jN (St.refl pj) O fun jB Cf hU=>bS 1 0 hU O O O O O O O ?_;intro zy hU;have hU:St pj zy [Bx 31 1 jB [.slice A k c]]:=hU;have gO:Rd zy jB 1 _:=hU.rd 0 O;have bH:=hU.below;have iB:=iB.ao bH;have hT:=hT.ao bH;have hW:=hW.ao bH;clear hU;refine aq O (bI 0 gO O O O (aF (acy A k c rs M _ iB gD.1 gD.2) O ?_));rintro _ zz (⟨rU,rfl,ax⟩ | ⟨jx,Bq,AR,cR,AD,cD,bN,rfl,pT,ax⟩)
 ·have bH:=ax.below;have iB:=iB.ao bH;have hT:=hT.ao bH;have hW:=hW.ao bH;have gO:=Rd.below gO bH;clear ax;refine aq O (jc (St.refl _) O ?_);intro pk TZ hU;refine bS 3 0 hU O O O O O O O ?_;intro Cg hU;have bH:=hU.below;have iB:=iB.ao bH;have hT:=hT.ao bH;have hW:=hW.ao bH;have gO:=Rd.below gO bH;clear hU;refine aq O (bI 0 gO O O O (aF (Tv A k c rs M _ iB (by omega)) O ?_));rintro _ w27 AU;obtain⟨_,rfl,ax⟩:=AU.resolve_right fun h=>rU.elim (fun g=>g h.1) fun g=>absurd h.2.1 (by omega)
  have hW:=hW.ao ax.below;refine aq O (jc (St.refl _) O ?_);intro k8 w28 hU;refine bS 3 0 hU O O O O O O O ?_;intro w29 hU;have hW:=hW.ao hU.below;refine az O (gV O (fun h=>h O) (cW O ?_));refine ya O (by split<;>decide) ?_;refine dB O (ck O ?_);exact⟨O,hW⟩
 have hR:bt zz AR (a7 M M.length) (cq M M.length):=ax.bk 0 O;have hB:bL zz AD (a7 M M.length) bN (b6 M):=ax.tail.eU (pH M);have bH:=ax.below;have iB:=iB.ao bH;have hT:=hT.ao bH;have hW:=hW.ao bH;have gO:=Rd.below gO bH;clear ax;refine aq O (jc (St.refl _) O ?_);intro pk TZ hU;refine bS 3 0 hU O O O O O O O ?_;intro Cg hU;have hU:St zz Cg [bp pk (M.length:Int) AR (a7 M M.length) cR AD (a7 M M.length) cD]:=hU;have gm:Rd Cg pk 3 _:=hU.rd 0 O;have bH:=hU.below;have hR:=hR.ao bH;have hB:=hB.ao bH;have iB:=iB.ao bH;have hT:=hT.ao bH;have hW:=hW.ao bH;have gO:=Rd.below gO bH;clear hU;refine aq O (bI 0 gO O O O (aF (Tv A k c rs M _ iB (by omega)) O ?_));rintro _ w27 AU;obtain⟨_,_,pn,u7,jC,c20,rs20,rfl,_,ax⟩:=AU.resolve_left fun h=>h.1.elim (fun g=>g jx) fun g=>absurd Bq (by omega)
 have bH:=ax.below;have hR:=hR.ao bH;have hB:=hB.ao bH;have iB:=iB.ao bH;have hT:=hT.ao bH;have hW:=hW.ao bH;have gO:=Rd.below gO bH;have gm:=Rd.below gm bH;clear ax AU;refine aq O (jc (St.refl _) O ?_);intro k8 w28 hU;refine bS 3 0 hU O O O O O O O ?_;intro w29 hU;have bH:=hU.below;have hR:=hR.ao bH;have hB:=hB.ao bH;have iB:=iB.ao bH;have hT:=hT.ao bH;have hW:=hW.ao bH;have gO:=Rd.below gO bH;have gm:=Rd.below gm bH;clear hU;refine az O (gV O (fun h=>h O) (cW O (gV O (fun h=>h O) ?_)));have hP:=Fo jx Bq;have Pq:=jx.1;refine aD O (bI 2 gm O O O (aF (RB (M.length:Int) AR AD cR cD _ _ _ bN _ _ hR hB (by omega) (by omega) (by omega)) O ?_));rintro _ w30 ⟨dv,dG,L,cd,rfl,ax,oo⟩;have oo:qu (M.length:Int) (cq M M.length) (b6 M) L cd:=oo;have ki:=ax.bk 0 O;have bH:=ax.below;have hR:=hR.ao bH;have hB:=hB.ao bH;have iB:=iB.ao bH;have hT:=hT.ao bH;have hW:=hW.ao bH;have gO:=Rd.below gO bH;have gm:=Rd.below gm bH;clear ax bH;refine aq O (bI 2 gm O O O (aF (Tu (M.length:Int) AR AD cR cD _ _ _ bN _ _ hR hB (by omega) (by omega) (by omega)) O ?_));rintro _ w31 ⟨sE,E4,L',yj,rfl,ax,Ds⟩;obtain⟨rfl,rfl⟩:=qu.eq oo Ds;have bH:=ax.below;have hR:=hR.ao bH;have hB:=hB.ao bH;have iB:=iB.ao bH;have hT:=hT.ao bH;have hW:=hW.ao bH;have gO:=Rd.below gO bH;have gm:=Rd.below gm bH;have ki:=ki.ao bH;clear Ds;have nD:=oo.len;refine az O (gV O (fun h=>h O) (cW O (aM _ O (fun h2=>?_) (fun h2=>?_))))
 ·have oi:=oo.nil h2;refine aD O (ba O O (bD O ?_));refine ck O ?_;exact⟨aL Value.bool (eC (by rw [oi];rfl)),hW⟩
 obtain⟨_,Dd,tY⟩:=oo.zero (Decidable.not_not.1 h2);rw [gB]at tY;have Pp:L'.length=M.length:=by rw [tY,E1]
 refine aD O (bI 0 gO O O O (aF (Uy A k c rs M _ iB jx gD.1 gD.2 (NJ jx)) O ?_));rintro _ w32 ⟨rfl,ax⟩;have bH:=ax.below;have hR:=hR.ao bH;have hB:=hB.ao bH;have iB:=iB.ao bH;have hT:=hT.ao bH;have hW:=hW.ao bH;have gO:=Rd.below gO bH;have gm:=Rd.below gm bH;have ki:=ki.ao bH;clear ax;refine aq O (bI 2 gm O O O (aF (RC (M.length:Int) AR AD cR cD _ _ _ bN _ _ hR hB (by omega) (by omega) (by omega)) O ?_));rintro _ Hd ⟨hv,ax⟩;obtain⟨_,rfl⟩:=hv.resolve_left fun h=>h.1 hP
 have bH:=ax.below;have hR:=hR.ao bH;have hB:=hB.ao bH;have iB:=iB.ao bH;have hT:=hT.ao bH;have hW:=hW.ao bH;have gO:=Rd.below gO bH;have gm:=Rd.below gm bH;have ki:=ki.ao bH;clear ax hv;have mu:gk (fy M) (fy M).length=gk (fQ (M.length:Int).toNat (cq M M.length)) (M.length:Int).toNat:=by
  rw [gB,yl,show(fy M).length=M.length from by rw [<-yl,sN]]
 have KA:=Fg (f:=fy M) (NJ jx) _ (dC _);have bE:(fy M).length=M.length:=by rw [<-yl,sN]
 refine aq O (cz 174 O (fun h=>absurd O h) (fun _=>?_));refine au O (aq O (au O (aq O ?_)));refine cz 178 O (fun h=>absurd O h) (fun _=>?_);refine au O (aq O (au O (aq O (au O (aq O ?_)))));refine cz 183 O (fun h=>absurd mu h) (fun _=>?_);refine au O (aq O (au O (ba O O (au O ?_))));refine aI gO O (au O (aV gO O ?_));refine au O (ba O O (au O (aq O ?_)));refine cz 191 O (fun h=>absurd h (by omega)) (fun _=>?_);refine au O (aq O (au O (ba O O (au O (aq O (au O (aq O ?_)))))));refine cz 195 O (fun h3=>?_) (fun h3=>?_)
 ·have uq:=Nu jx (by omega) Bq Dd;rw [<-tY]at uq;refine au O (aq O (au O ?_));refine aA ki.2 O (au O ?_);refine ajo ki O (by show 0<L'.length;omega) O O ?_;refine au O (aq O (au O (az O ?_)));refine gV O (fun h=>h uq) ?_;obtain⟨L,rfl⟩:∃L,L=L':=⟨_,rfl⟩;refine aD O (bI 0 gO O O O (aF (RD A k c rs M _ hT iB gD.1 gD.2) O ?_));rintro _ He ⟨b,rfl,JJ,ax⟩;rw [aT jx];have bH:=ax.below;have hR:=hR.ao bH;have hB:=hB.ao bH;have iB:=iB.ao bH;have hT:=hT.ao bH;have hW:=hW.ao bH;have gO:=Rd.below gO bH;have gm:=Rd.below gm bH;have ki:=ki.ao bH;have se:re M=0\/re M=3:=by unfold re;split<;>simp
  refine aq O (cz 209 O (fun g1=>?_) (fun g1=>?_))
  ·refine ay O (ay O (aq O (ay O (ay O (ay O (ay O (az O ?_)))))));refine Cd.eH O (aD O ?_);refine cz 221 O (fun g2=>absurd g2 g1) (fun g2=>?_);refine au O (aq O (au O (bD O ?_)));exact ck O ⟨aL Value.bool (eC (se.resolve_left g1)),hW⟩
  have g0:=Decidable.not_not.1 g1;refine au O (aq O (au O ?_))
  first | refine de rfl rfl ?_ | refine dV rfl rfl ?_
  refine aq O ?_;refine cz 213 (p:=b=false) (aL Value.bool (by cases b<;>rfl)) (fun g2=>?_) (fun g2=>?_)
  ·refine ay O (ay O (ay O (ay O (az O ?_))));refine Cd.eH O (aD O ?_);refine cz 221 O (fun g2=>?_) (fun g2=>absurd g0 g2);refine ay O (ay O (bD O ?_));exact ck O ⟨O,hW⟩
  have JM:b=true:=by cases b<;>simp at g2|-
  refine au O (aI gO O (au O (aV gO O ?_)));refine au O (ba O O (au O (az O ?_)));refine aM _ O (fun g3=>?_) (fun g3=>?_)
  ·refine aD O (cz 221 O (fun g2=>?_) (fun g2=>absurd g0 g2));refine ay O (ay O (bD O ?_));exact ck O ⟨O,hW⟩
  have hG:=(JJ.1 JM).2;have DG:M.length=3:=by have:=Decidable.not_not.1 g3;omega
  have Ba:=Nv jx DG hG Dd;refine aD O (dq O ?_);refine lj [1,2 - gk (fy M) (fy M).length,1] (St.refl _) O O (by decide) (by decide) O O ?_;intro Hf w41 hU;have hW:=hW.ao hU.below;refine aF (Lb dv L.length dG L Hf 3 3 _ _ (ki.ao hU.below) (hU.bk 0 O) (by omega)) O ?_;rintro _ w42 ⟨rfl,ax⟩;refine bD O (ck O ?_);exact⟨aL Value.bool (eC (tY.trans Ba)),hW.ao ax.below⟩
 refine ay O (ay O (ay O (ay O (au O (az O ?_)))));refine Cd.dZ O ?_;obtain⟨L,rfl⟩:∃L,L=L':=⟨_,rfl⟩;refine aD O (bI 0 gO O O O (aF (RD A k c rs M _ hT iB gD.1 gD.2) O ?_));rintro _ He ⟨b,rfl,JJ,ax⟩;rw [aT jx];have bH:=ax.below;have hR:=hR.ao bH;have hB:=hB.ao bH;have iB:=iB.ao bH;have hT:=hT.ao bH;have hW:=hW.ao bH;have gO:=Rd.below gO bH;have gm:=Rd.below gm bH;have ki:=ki.ao bH;have se:re M=0\/re M=3:=by unfold re;split<;>simp
 refine aq O (cz 209 O (fun g1=>?_) (fun g1=>?_))
 ·refine ay O (ay O (aq O (ay O (ay O (ay O (ay O (az O ?_)))))));refine Cd.eH O (aD O ?_);refine cz 221 O (fun g2=>absurd g2 g1) (fun g2=>?_);refine au O (aq O (au O (bD O ?_)));exact ck O ⟨aL Value.bool (eC (se.resolve_left g1)),hW⟩
 have g0:=Decidable.not_not.1 g1;refine au O (aq O (au O ?_))
 first | refine de rfl rfl ?_ | refine dV rfl rfl ?_
 refine aq O ?_;refine cz 213 (p:=b=false) (aL Value.bool (by cases b<;>rfl)) (fun g2=>?_) (fun g2=>?_)
 ·refine ay O (ay O (ay O (ay O (az O ?_))));refine Cd.eH O (aD O ?_);refine cz 221 O (fun g2=>?_) (fun g2=>absurd g0 g2);refine ay O (ay O (bD O ?_));exact ck O ⟨O,hW⟩
 have JM:b=true:=by cases b<;>simp at g2|-
 refine au O (aI gO O (au O (aV gO O ?_)));refine au O (ba O O (au O (az O ?_)));refine aM _ O (fun g3=>?_) (fun g3=>?_)
 ·refine aD O (cz 221 O (fun g2=>?_) (fun g2=>absurd g0 g2));refine ay O (ay O (bD O ?_));exact ck O ⟨O,hW⟩
 have hG:=(JJ.1 JM).2;have DG:M.length=3:=by have:=Decidable.not_not.1 g3;omega
 have Ba:=Nv jx DG hG Dd;refine aD O (dq O ?_);refine lj [1,2 - gk (fy M) (fy M).length,1] (St.refl _) O O (by decide) (by decide) O O ?_;intro Hf w41 hU;have hW:=hW.ao hU.below;refine aF (Lb dv L.length dG L Hf 3 3 _ _ (ki.ao hU.below) (hU.bk 0 O) (by omega)) O ?_;rintro _ w42 ⟨rfl,ax⟩;refine bD O (ck O ?_);exact⟨aL Value.bool (eC (tY.trans Ba)),hW.ao ax.below⟩
end
section
open Go.RowKit Go.ChangeShapes Go.WideShapes
section
variable {H:Type} {enc:ad×ab->H} {P:Program}
theorem ae0{w:aa}{r:Go.Reach}{b0:Nat}{t e:ad}{v:ab}{d:DataW H}{p:List MemPlace}(ht:P.underlying t=some (.slice e))(he:P.underlying e=some (.int .u8))(ce:P.cellsOf e=1)(ta:Value.okWide P w r b0 t v)(h:DataW.Trod enc P w 0 (fun _=>true) true t v d p):∃A n c bs,v= .slice A n c/\nv w A n bs/\n<=c/\c<=9223372036854775807:=by
 obtain⟨a,len,cap,rfl⟩:=okWide_slice ht ta;obtain⟨fuel,hf⟩:=h;have uf:(Value.slice a len cap).cells.toList=[Value.slice a len cap]:=O;rw [uf]at hf;rcases open_ints ht he ce hf with⟨h1,_⟩ | ⟨b,n,c,zs,h1,_,hl,hm,hz,_,hc,hwz⟩
 ·simp only [List.cons.injEq,and_true]at h1;exact⟨none,0,0,[],h1,⟨O,fun x hx=> (nomatch hx),fun k hk=>absurd hk (mg _)⟩,dC _,by omega⟩
 simp only [List.cons.injEq,and_true]at h1;rw [aT rfl]at hz;refine⟨some b,n,c,zs.take n,h1,⟨?_,fun x hx=>?_,fun k hk=>?_⟩,hl,by simpa [maxLen]using hm⟩
 ·simp;omega
 ·have:=hwz x (List.mem_of_mem_take hx);simpa [Lit.wf,IntKind.min,IntKind.max,IntKind.signed,IntKind.bits]using this
 refine⟨b.add k,O,?_⟩;rw [hc k (by omega)];simp [dt,rB,hk]
end
end
end Go.Proofs.YtkojeolafnadeaaGreatDoor.Vc
