/-
 Lemmas. Conditions: as each states them.
-/
import Derived.Test.YtkccgdhcpplblaaGreatDoorZb
set_option maxHeartbeats 8000000
namespace Go.Proofs.YtkccgdhcpplblaaGreatDoor.Vc
open Tryz
section
open Go.RowKit
theorem aiw{rs:List aO}{l m:Nat}{j:Nat}(hj:j<m):rg ((rs.drop l).take m) j=rg rs ((l+j:Nat):Int):=by
 have e:(((l+j:Nat):Int)).toNat=l+j:=by omega
 rw [rg,rg,e];simp [da,rK,hj]
theorem IF(A:aj)(n c:Nat)(rs:List aO)(xss:ah)(w:aa)(hR:bF w A n rs xss)(hn:n<=c)(hc:c<=9223372036854775807):
 aK prog 55 [.agg #[.slice A n c]] w (fun v w'=>v= .bool (decide (cN xss))/\St w w' []):=by
 have jH:=hR.len;have r0:0<n->(gl xss 0).length=(rg rs 0).n:=fun h=>hR.qu (by omega) (by omega)
 refine bA func55 O ntmps55 O (df O) (bg O (lB (St.refl w) O O ?_));intro Ab w1 hS;refine ar O (aQ (I9 _ _ _ _ _ _ (hS.rd 0 O) O) O ?_);rintro _ _ ⟨rfl,rfl⟩;refine aQ (ye _ _ _ _) O ?_;rintro _ _ ⟨rfl,rfl⟩
 first | refine fv rfl rfl ?_ | refine gA rfl rfl ?_
 refine ar O (ew 15 O (fun h1=>?_) (fun h1=>?_))
 ·refine aJ O (aJ O (aJ O (aC O ?_)));refine Cd.gC O (dX O (dz O ?_));exact⟨by rw [cj (fun h:cN xss=>by have:=h.1;omega)],hS.none⟩
 have hM:=hS.cT hR;have r0:=r0 (by omega);refine av O (aQ (zX _ _ _ _ _ _ _ _ (hS.rd 0 O) O hM (by omega)) O ?_);rintro _ _ ⟨rfl,rfl⟩;refine av O (aQ (ye _ _ _ _) O ?_);rintro _ _ ⟨rfl,rfl⟩;refine av O ?_
 first | refine fv rfl rfl ?_ | refine gA rfl rfl ?_
 refine aC O (aM _ O (fun h3=>?_) (fun h3=>?_))
 ·refine dX O (dz O ?_);exact⟨by rw [cj (fun h:cN xss=>by have:=h.2.1;omega)],hS.none⟩
 refine aA O (aU (hS.rd 0 O) O (bh (hS.rd 0 O) O ?_));refine bc O O (aC O ?_);refine Cd.loop (α:=Nat) (fun k=> [(1,.pointer Ab),(21,.slice A n c),(22,ak n),(23,ak k)]) (fun k w'=>St w w' [Bx 24 1 Ab [.slice A n c]]/\k<=n/\Part xss k) (fun k=>n - k) 0 (amz O) ⟨hS,aZ _,fun p hp=>by simp at hp⟩ ?_;rintro k e w2 ⟨aE,hk,hP⟩;have hM:=aE.cT hR;refine bJ O (aM _ O (fun h5=>?_) (fun h5=>?_))
 ·have oS:k<xss.length:=by omega
  have rk:=hR.qu (k:=(k:Int)) (by omega) (by omega);have bP:=hM.at_ (i:=k) (by omega) h5;refine aA O (amn hM.top.2 O O O (by omega) h5 (bW hM.top O (ar O (aQ (aew _ _ _ _ _ bP) O ?_))));rintro _ w3 ⟨rfl,aw⟩;have aR:=aE.aq aw.below;have hM:=aR.cT hR
  first | refine fv rfl rfl ?_ | refine gA rfl rfl ?_
  refine ar O (ew 30 O (fun h6=>?_) (fun h6=>?_))
  ·refine aJ O (aJ O (aJ O (aJ O (aC O ?_))));refine Cd.gC O (dX O (fz (eW ?_)));refine dz O ?_;exact⟨by rw [cj (fun h:cN xss=>h6 ⟨(h.2.2.1.at_ oS).2.1,(h.2.2.1.at_ oS).2.2⟩)],aR.none⟩
  have h6:=jb.1 h6;refine av O (ar O (av O ?_));refine aQ (wH _ _ _ _) O ?_;rintro _ _ ⟨rfl,rfl⟩;refine av O (aQ (zX _ _ _ _ _ _ _ _ (aR.rd 0 O) O hM (by omega)) O ?_);rintro _ _ ⟨rfl,rfl⟩;refine av O (aC O ?_);refine aM _ O (fun h7=>?_) (fun h7=>?_)
  ·refine dX O (fz (eW ?_));refine dz O ?_;exact⟨by rw [cj (fun h:cN xss=>h7 (by have:=(h.2.2.1.at_ oS).1;omega))],aR.none⟩
  refine aA O (aH O (aT O (tQ ?_)));exact⟨k+1,by omega,(amz O),aR,by omega,hP.step oS (by omega) h6.1 h6.2⟩
 have l7:=hP.all (by omega);have hs:=l7.sys;have js:∀i:Int,0<=i->i<n->(rg rs i).n=(rg rs 0).n:=fun i h0 h1=>by
  have e1:=hR.qu h0 h1;have e2:=(l7 _ (pW h0 (by omega))).1;omega
 refine bn O (bo (cL O ?_));refine aU (aE.rd 0 O) O (bh (aE.rd 0 O) O ?_);refine bc O O (aC O ?_);refine Cd.loop (α:=Nat) (fun i=> [(1,.pointer Ab),(38,.slice A n c),(39,ak n),(40,ak i)]) (fun i w'=>St w w' [Bx 24 1 Ab [.slice A n c]]/\i<=n/\∀i',i'<i->∀k,k<n->i'+2<=k->∀f,f< (gl xss 0).length->Comm xss i' k f) (fun i=>n - i) 0 (amz O) ⟨aE,aZ _,fun i' di=>by omega⟩ ?_;rintro i e w3 ⟨aR,hi,hC⟩;have hM:=aR.cT hR;refine bJ O (aM _ O (fun h6=>?_) (fun h6=>?_))
 ·refine aA O (amn hM.top.2 O O O (by omega) h6 (bW hM.top O (ar O (aU (aR.rd 0 O) O (bh (aR.rd 0 O) O ?_)))));refine ar O (aH O ?_);refine aU (aR.rd 0 O) O (bh (aR.rd 0 O) O (bc O O (Xo O O O ?_)));obtain⟨l,hl,om,qg⟩:∃l:Nat,min ((i:Int)+2) (n:Int)=(l:Int)/\l<=n/\(l=i+2\/(l=n/\n<=i+2)):=⟨min (i+2) n,by omega,by omega,by omega⟩;rw [hl];refine JE O O O (by omega) ?_;rw [jc];refine bc O O (aC O ?_);refine Cd.loop (α:=Nat) (fun j=> [(1,.pointer Ab),(38,.slice A n c),(39,ak n),(40,ak i),(6,.slice (rg rs i).a (rg rs i).n (rg rs i).c),(53,.slice (cutAt A c l) (n - l) (c - l)),(54,ak ((n - l:Nat):Int)),(55,ak j)]) (fun j w'=>St w w' [Bx 24 1 Ab [.slice A n c]]/\j<=n - l/\∀k',k'<l+j->k'<n->i+2<=k'->∀f,f< (gl xss 0).length->Comm xss i k' f) (fun j=>n - l - j) 0 (amz O) ⟨aR,aZ _,fun k' h1 _ _=>by omega⟩ ?_;rintro j e w4 ⟨aX,hj,EB⟩;have hM:=aX.cT hR;have uf:=hM.top.cut (c:=c) om (bs n) hn;refine bJ O (aM _ O (fun h7=>?_) (fun h7=>?_))
  ·have lK:j<n - l:=by omega
   have hk:l+j<n:=by omega
   have mQ:i+2<=l+j:=by omega
   refine aA O (amn uf.2 O O O (by omega) h7 (bW uf O ?_));rw [aiw lK];generalize H3:l+j=k at hk mQ;have rki:=js i (by omega) h6;have rkk:=js k (by omega) (by omega);refine ar O (aQ (zX _ _ _ _ _ _ _ _ (aX.rd 0 O) O hM (by omega)) O ?_);rintro _ w4 ⟨rfl,rfl⟩;refine aC O ?_;refine Cd.loop (α:=Nat) (fun f=> [(1,.pointer Ab),(38,.slice A n c),(39,ak n),(40,ak i),(6,.slice (rg rs i).a (rg rs i).n (rg rs i).c),(53,.slice (cutAt A c l) (n - l) (c - l)),(54,ak ((n - l:Nat):Int)),(55,ak j),(8,.slice (rg rs k).a (rg rs k).n (rg rs k).c),(59,ak ((rg rs 0).n:Int)),(60,ak f)]) (fun f w'=>St w w' [Bx 24 1 Ab [.slice A n c]]/\f<=(gl xss 0).length/\∀f',f'<f->Comm xss i k f') (fun f=> (gl xss 0).length - f) 0 (amz O) ⟨aX,aZ _,fun f' iH=>by omega⟩ ?_;rintro f e w5 ⟨aY,hf,EC⟩;have hM:=aY.cT hR;have gf:=hM.at_ (i:=i) (by omega) h6;have jt:=hM.at_ (i:=k) (by omega) (by omega);refine bJ O (aM _ O (fun h8=>?_) (fun h8=>?_))
   ·have hii:=(hs _ (pW (k:=(i:Int)) (by omega) (by omega))).2 (f:Int) (by omega) (by omega);have Da:=(hs _ (pW (k:=(k:Int)) (by omega) (by omega))).2 (f:Int) (by omega) (by omega);refine dw O ?_
    by_cases eV:gi (gl xss i) f=gi (gl xss k) f
    ·
     refine eo [xS ((rg rs i).a) ((rg rs i).n) ((rg rs i).c),xI ((f:Int)),xP (ay ((rg rs i).a) ((f:Int)).toNat),xI (gi (gl xss i) ((f:Int))),xS ((rg rs k).a) ((rg rs k).n) ((rg rs k).c),xI ((f:Int)),xP (ay ((rg rs k).a) ((f:Int)).toNat),xI (gi (gl xss k) ((f:Int))),xB (true),xB (true),xU,xU,xU,xU,xU,xU,xU,xU,xU,xU,xU,xU,xU,xU,xU,xB (true)] O (eL O) ?_ ?_
     ·exact⟨Dr O,Dr O,fun _ _ hb _ _=>aD (gf.aq hb).2 O Az,fun _ _ hb _ _=>a8 (gf.aq hb) O Az,Dr O,Dr O,fun _ _ hb _ _=>aD (jt.aq hb).2 O Az,fun _ _ hb _ _=>a8 (jt.aq hb) O Az,fun _ _ _ _ _=>Dk O (by exact aF Value.bool (dM eV)),Dr O,Dr O,Dr O,Dr O,Dr O,Dr O,Dr O,Dr O,Dr O,Dr O,Dr O,Dr O,Dr O,Dr O,Dr O,Dr O,Dr O,au⟩
     intro u w6 qQ _;have bk:=aY.aq qQ;refine eP O (Cd.gC O ?_);refine dX O (fz (eW (fz (eW (fz (eW ?_))))));refine dz O ?_;exact⟨by rw [cj (fun h:cN xss=> (h.2.2.2.1 i (by omega) k (by omega) mQ f (by omega)).2 eV)],bk.none⟩
    by_cases h9:gi (gl xss k) (gi (gl xss i) f)=gi (gl xss i) (gi (gl xss k) f)
    ·refine eo [xS ((rg rs i).a) ((rg rs i).n) ((rg rs i).c),xI ((f:Int)),xP (ay ((rg rs i).a) ((f:Int)).toNat),xI (gi (gl xss i) ((f:Int))),xS ((rg rs k).a) ((rg rs k).n) ((rg rs k).c),xI ((f:Int)),xP (ay ((rg rs k).a) ((f:Int)).toNat),xI (gi (gl xss k) ((f:Int))),xB (false),xB (false),xS ((rg rs k).a) ((rg rs k).n) ((rg rs k).c),xS ((rg rs i).a) ((rg rs i).n) ((rg rs i).c),xI ((f:Int)),xP (ay ((rg rs i).a) ((f:Int)).toNat),xI (gi (gl xss i) ((f:Int))),xP (ay ((rg rs k).a) (gi (gl xss i) ((f:Int))).toNat),xI (gi (gl xss k) (gi (gl xss i) ((f:Int)))),xS ((rg rs i).a) ((rg rs i).n) ((rg rs i).c),xS ((rg rs k).a) ((rg rs k).n) ((rg rs k).c),xI ((f:Int)),xP (ay ((rg rs k).a) ((f:Int)).toNat),xI (gi (gl xss k) ((f:Int))),xP (ay ((rg rs i).a) (gi (gl xss k) ((f:Int))).toNat),xI (gi (gl xss i) (gi (gl xss k) ((f:Int)))),xB (false),xB (false)] O (eL O) ?_ ?_
     ·exact⟨Dr O,Dr O,fun _ _ hb _ _=>aD (gf.aq hb).2 O Az,fun _ _ hb _ _=>a8 (gf.aq hb) O Az,Dr O,Dr O,fun _ _ hb _ _=>aD (jt.aq hb).2 O Az,fun _ _ hb _ _=>a8 (jt.aq hb) O Az,fun _ _ _ _ _=>Dk O (by exact aF Value.bool (cj eV)),Dr O,Dr O,Dr O,Dr O,fun _ _ hb _ _=>av O (aD (gf.aq hb).2 O Az),fun _ _ hb _ _=>av O (a8 (gf.aq hb) O Az),fun _ _ hb _ _=>av O (aD (jt.aq hb).2 O Az),fun _ _ hb _ _=>av O (a8 (jt.aq hb) O Az),Dr O,Dr O,Dr O,fun _ _ hb _ _=>av O (aD (jt.aq hb).2 O Az),fun _ _ hb _ _=>av O (a8 (jt.aq hb) O Az),fun _ _ hb _ _=>av O (aD (gf.aq hb).2 O Az),fun _ _ hb _ _=>av O (a8 (gf.aq hb) O Az),fun _ _ _ _ _=>Dk O (by exact aF Value.bool (cj (fun h=>h h9))),Dr O,au⟩
     intro u w6 qQ _;have bk:=aY.aq qQ;refine eP O (Cd.fC O ?_);refine aA O (aH O (aT O (tQ ?_)));refine⟨f+1,by omega,(amz O),bk,by omega,fun f' iH=>?_⟩
     by_cases ef:f'=f
     ·subst ef;exact⟨h9,eV⟩
     exact EC f' (by omega)
    refine eo [xS ((rg rs i).a) ((rg rs i).n) ((rg rs i).c),xI ((f:Int)),xP (ay ((rg rs i).a) ((f:Int)).toNat),xI (gi (gl xss i) ((f:Int))),xS ((rg rs k).a) ((rg rs k).n) ((rg rs k).c),xI ((f:Int)),xP (ay ((rg rs k).a) ((f:Int)).toNat),xI (gi (gl xss k) ((f:Int))),xB (false),xB (false),xS ((rg rs k).a) ((rg rs k).n) ((rg rs k).c),xS ((rg rs i).a) ((rg rs i).n) ((rg rs i).c),xI ((f:Int)),xP (ay ((rg rs i).a) ((f:Int)).toNat),xI (gi (gl xss i) ((f:Int))),xP (ay ((rg rs k).a) (gi (gl xss i) ((f:Int))).toNat),xI (gi (gl xss k) (gi (gl xss i) ((f:Int)))),xS ((rg rs i).a) ((rg rs i).n) ((rg rs i).c),xS ((rg rs k).a) ((rg rs k).n) ((rg rs k).c),xI ((f:Int)),xP (ay ((rg rs k).a) ((f:Int)).toNat),xI (gi (gl xss k) ((f:Int))),xP (ay ((rg rs i).a) (gi (gl xss k) ((f:Int))).toNat),xI (gi (gl xss i) (gi (gl xss k) ((f:Int)))),xB (true),xB (true)] O (eL O) ?_ ?_
    ·exact⟨Dr O,Dr O,fun _ _ hb _ _=>aD (gf.aq hb).2 O Az,fun _ _ hb _ _=>a8 (gf.aq hb) O Az,Dr O,Dr O,fun _ _ hb _ _=>aD (jt.aq hb).2 O Az,fun _ _ hb _ _=>a8 (jt.aq hb) O Az,fun _ _ _ _ _=>Dk O (by exact aF Value.bool (cj eV)),Dr O,Dr O,Dr O,Dr O,fun _ _ hb _ _=>av O (aD (gf.aq hb).2 O Az),fun _ _ hb _ _=>av O (a8 (gf.aq hb) O Az),fun _ _ hb _ _=>av O (aD (jt.aq hb).2 O Az),fun _ _ hb _ _=>av O (a8 (jt.aq hb) O Az),Dr O,Dr O,Dr O,fun _ _ hb _ _=>av O (aD (jt.aq hb).2 O Az),fun _ _ hb _ _=>av O (a8 (jt.aq hb) O Az),fun _ _ hb _ _=>av O (aD (gf.aq hb).2 O Az),fun _ _ hb _ _=>av O (a8 (gf.aq hb) O Az),fun _ _ _ _ _=>Dk O (by exact aF Value.bool (dM h9)),Dr O,au⟩
    intro u w6 qQ _;have bk:=aY.aq qQ;refine eP O (Cd.gC O ?_);refine dX O (fz (eW (fz (eW (fz (eW ?_))))));refine dz O ?_;exact⟨by rw [cj (fun h:cN xss=>h9 (h.2.2.2.1 i (by omega) k (by omega) mQ f (by omega)).1)],bk.none⟩
   refine bn O (bo (cL O (aH O (aT O (tQ ?_)))));refine⟨j+1,by omega,(amz O),aY,by omega,fun k' eQ iM tq f' iH=>?_⟩
   by_cases ek:k'=k
   ·subst ek;exact EC f' (by omega)
   exact EB k' (by omega) iM tq f' iH
  refine bn O (bo (cL O (aH O (aT O (tQ ?_)))));refine⟨i+1,by omega,(amz O),aX,by omega,fun i' di k' eQ tq f' iH=>?_⟩
  by_cases ei:i'=i
  ·subst ei;exact EB k' (by omega) eQ tq f' iH
  exact hC i' (by omega) k' eQ tq f' iH
 have hB:=aR.rd 0 O;refine bn O (bo (rI O ?_));refine eo [xI (((rg rs 0).n:Int)),xP (ay (Ab) 0),xS (A) (n) (c),.pr (fun v _=>∃A',v= .tuple #[.slice A' (gl xss 0).length (gl xss 0).length,ak (bw (gl xss 0).length xss (gl xss 0).length).2]),.pr (fun v _=>∃A',v= .tuple #[.slice A' (gl xss 0).length (gl xss 0).length,ak (bw (gl xss 0).length xss (gl xss 0).length).2]),.pr (fun v _=>∃A',v= .slice A' (gl xss 0).length (gl xss 0).length),xI ((bw (gl xss 0).length xss (gl xss 0).length).2),.pr (fun v _=>∃A',v= .slice A' (gl xss 0).length (gl xss 0).length),xI ((bw (gl xss 0).length xss (gl xss 0).length).2)] rfl (lx (lx (lx (de.2 ⟨Yd.dp (fun _ _ _ h _=>h),(de.2 ⟨Yd.dp (fun _ _ _ h _=>h),(de.2 ⟨Yd.dp (fun _ _ _ h _=>h),(lx (de.2 ⟨Yd.dp (fun _ _ _ h _=>h),(lx (fun _ h=>by cases h))⟩))⟩)⟩)⟩)))) ?_ ?_
 ·refine⟨?_,fun _ _ hb _ _=>aU (hB.below hb) O Az,fun _ _ hb _ _=>bh (hB.below hb) O Az,?_,?_,?_,?_,?_,Dr O,au⟩
  ·intro e1 w1 hb hp aW;refine aQ (zX _ _ _ _ _ _ _ _ (hB.below hb) O (hM.aq hb) (by omega)) O ?_;rintro _ w2 ⟨rfl,aw⟩;subst aw;refine ao.n (d0 (by exact O))
  ·intro e1 w1 hb hp aW;refine amq (UT A n c rs xss (gl xss 0).length _ (hM.aq hb) (by omega) hs l7.inj (by omega)) O (by rw [r0];rfl) O ?_;rintro _ w2 ⟨A',rfl,aw⟩;exact ao.n (fM.dn aw.below ⟨A',O⟩)
  ·intro e1 w1 hb hp aW;obtain⟨A',h96⟩:=(hp 3 (by decide) rfl _ _ rfl rfl);refine O4 O (by exact h96) O (ao.n ?_);exact fM.dn (Below.refl _ _) ⟨A',O⟩
  ·intro e1 w1 hb hp aW;obtain⟨A',K6⟩:=(hp 4 (by decide) rfl _ _ rfl rfl);refine ao.extract (by exact K6) O O (ao.n ?_);exact fM.dn (Below.refl _ _) ⟨A',O⟩
  ·intro e1 w1 hb hp aW;obtain⟨A',K6⟩:=(hp 4 (by decide) rfl _ _ rfl rfl);refine ao.extract (by exact K6) O O Az
  intro e1 w1 hb hp aW;obtain⟨A',h97⟩:=(hp 5 (by decide) rfl _ _ rfl rfl);refine lW O (by exact h97) O (ao.n ?_);exact fM.dn (Below.refl _ _) ⟨A',O⟩
 intro u w6 qQ _;have bk:=aR.aq qQ;refine BO O (dz O ?_);refine⟨?_,bk.none⟩
 congr 1
 have ho:=FG hs (by omega);have hl:=afB hs (by omega);exact kk.2 ⟨fun h=> ⟨by omega,by omega,l7,fun i' di k' eQ tq f' iH=>hC i' (by omega) k' (by omega) tq f' iH,ho.2 (hl.1 h)⟩,fun h=>hl.2 (ho.1 h.2.2.2.2)⟩
section
variable {P:Program} {N:Nat} {ops:Array Oper} {K:Env->aa->Prop} {rest:List Oper} {e:Env} {w:aa} {d:Nat} {ty:ae} {pos:String} {af:Array Edge} {x y:ag} {xt yt:ae}
theorem run_equal_bool[bt P xt .bool](a b:Bool):(Op.equal xt (.bool a) (.bool b)).run P w= .ok (a==b) w:=
 run_equalIn_bool w 9999 xt a b bt.out
theorem Xe[bt P xt .bool]{a b:Bool}(hx:ev e x= .bool a)(hy:ev e y= .bool b)(hb:Nat.blt d N=true)(hK:ao P N ops K rest (br e d (.bool (a==b))) w):
 ao P N ops K (⟨some d,.binOp .eql xt x y yt,ty,pos,af,none⟩::rest) e w:=
 .val (by simp [execOp,hx,hy,eqGuard,binOp,run_equal_bool]) hb hK
end
section
variable {P:Program} {N:Nat} {ops:Array Oper} {K:Env->aa->Prop} {rest:List Oper} {e:Env} {w0 w w':aa} {ks:List Ck} {d:Nat} {ty:ae} {pos:String} {af:Array Edge}
theorem D1{t:ae}{f0:Field}{z0 zf:ad}{b bf:Nat}[bt P t (.struct #[f0])][bq P t (.agg #[z0]) 1 b]{x0:ag}{v0:ad}(hI:bq P f0.type zf 1 bf)(ho:f0.offset=0)(h0:ev e x0=v0)(c0:v0.oneCell'=true)(hb:Nat.blt d N=true)(hK:ao P N ops K rest (br e d (.agg #[v0])) w):ao P N ops K (⟨some d,.build t #[(0,x0)],ty,pos,af,none⟩::rest) e w:=by
 obtain⟨inf,hi,dU,hs,gI⟩:=bq.get P t;obtain⟨aet,di,aej,vp,ab4⟩:=hI.get P f0.type;have e0:v0.cells= #[v0]:=by cases v0<;>simp [Value.oneCell']at c0<;>rfl
 have ez:(Value.agg #[z0]).cells= #[z0]:=O;refine .val (w':=w) ?_ hb hK;simp [execOp,Instr.build,run_underlying (bt.out (P:=P) (t:=t)),sizeOf,typeInfo,zeroValue,hi,dU,di,vp,ho,h0,e0,ez,Instr.fill]
theorem D2{t t' el:ae}[bt P t (.slice el)]{x y:ag}{A:aj}{n c:Nat}(hx:ev e x= .slice A n c)(hy:ev e y= .slice none 0 0)(hb:Nat.blt d N=true)(hK:ao P N ops K rest (br e d (.bool A.isNone)) w):
 ao P N ops K (⟨some d,.binOp .eql t x y t',ty,pos,af,none⟩::rest) e w:=by
 have hr:(Op.equal t (.slice A n c) (.slice none 0 0)).run P w= .ok A.isNone w:=by
  show(Op.equalIn (9999+1) t (.slice A n c) (.slice none 0 0)).run P w=_;rw [Op.equalIn];cases A<;>simp [run_underlying (bt.out (P:=P) (t:=t))]
 exact .val (by simp [execOp,hx,hy,eqGuard,binOp,hr]) hb hK
end
theorem VH{t:ae}:∀ {rs:List aO} {xss:ah} {i:Nat} {xs:ai},rs.length=xss.length->i<rs.length->(cK t rs xss).set i (ax t (rs.getD i dO).a (rs.getD i dO).n (rs.getD i dO).c xs)=cK t rs (xss.set i xs)
 | [],_,_,_,_,h=>by simp at h
 | r::rs,[],_,_,h,_=>by simp at h
 | r::rs,x::xss,0,xs,_,_=>rfl
 | r::rs,x::xss,i+1,xs,h,hi=>by
  have:=VH (t:=t) (rs:=rs) (xss:=xss) (i:=i) (xs:=xs) (by simpa using h) (by simpa using hi);simpa [cK]using this
theorem Ds{t1 t2:ae}{A:aj}{n c:Nat}{rs:List aO}{xss:ah}{pre ks:List Ck}{i:Nat}(hr:rs.length=xss.length)(hi:i<rs.length):(pre++ (aL t1 t2 A n c rs xss++ks))[pre.length+1+i]?=some (ax t2 (rs.getD i dO).a (rs.getD i dO).n (rs.getD i dO).c (xss.getD i [])):=by
 rw [kD (by omega),show pre.length+1+i - pre.length=i+1 by omega,lz (by simp [aL,zx hr];omega)];simpa [aL]using DF (t:=t2) hr hi
theorem ago{t1 t2:ae}{A:aj}{n c:Nat}{rs:List aO}{xss:ah}{pre ks:List Ck}{i:Nat}{xs:ai}(hr:rs.length=xss.length)(hi:i<rs.length):(pre++ (aL t1 t2 A n c rs xss++ks)).set (pre.length+1+i) (ax t2 (rs.getD i dO).a (rs.getD i dO).n (rs.getD i dO).c xs)=pre++ (aL t1 t2 A n c rs (xss.set i xs)++ks):=by
 rw [List.set_append_right _ _ (by omega),show pre.length+1+i - pre.length=i+1 by omega,List.set_append_left _ _ (by simp [aL,zx hr];omega)]
 congr 2
 simp only [aL,List.set_cons_succ];rw [VH hr hi]
section
variable {P:Program} {N:Nat} {ops:Array Oper} {K:Env->aa->Prop} {rest:List Oper} {e:Env} {w0 w w':aa} {ks pre:List Ck} {ty:ae} {pos:String} {af:Array Edge}
end
structure Gh where
 top:aO
 rs:List aO
 xss:ah
def Gh.ok(m:Gh):Prop:=m.xss.length=m.top.n
def Gh.oG(t1 t2:ae)(m:Gh):List Ck:=aL t1 t2 m.top.a m.top.n m.top.c m.rs m.xss
theorem IK(A:aj)(n c:Nat)(xs:ai)(w:aa)(hR:cg w A n xs)(hn:n<=1000000000):aK prog 132 [.slice A n c] w (fun v w'=>∃A' c',v= .slice A' n c'/\St w w' [ax 2 A' n c' xs]):=by
 refine bA func132 O ntmps132 O (df O) (bg O (jn (St.refl w) O ?_));intro A1 w1 aI;have aI:St w w1 [ax 2 A1 0 0 []]:=aI;refine ar O (fk 0 aI O (aI.gh hR) O O O ?_);intro A2 c2 w2 aE;rw [Nat.zero_add]at aE|-;refine bI O (ia O ?_);exact⟨A2,c2,O,aE⟩
def body(n F:Nat)(ok:ah->Nat->Nat->Bool)(fin:ah->Bool)(k at_ met:Nat)(M:ah)(g:Nat):List (ah):=
 if 0<=cell M (at_%n) (g:Nat)then []else if ok (put M (at_%n) (at_ / n) g) (at_%n) (at_ / n)=true then grow n F ok fin k (at_+1) (max met (g+1)) (put M (at_%n) (at_ / n) g)else []
end
section
section
variable {n F:Nat} {M:ah} {met at_:Nat}
end
end
section
open Go.RowKit
def Small(I8 flags:Int):Prop:=(1<=I8/\I8<=4)/\(2<=flags/\flags<=12)
instance (I8 flags:Int):Decidable (Small I8 flags):=by unfold Small;exact inferInstance
theorem Ge(A:aj)(n c:Nat)(xs:ai)(w:aa)(hR:cg w A n xs)(hn:n<=1000000000):aK prog 83 [.slice A n c] w (fun v w'=>∃A' c',v= .slice A' n c'/\St w w' [ax 2 A' n c' xs]):=by
 cases hA:A with
 | none=>
  subst hA;have oo:n=0:=by
   apply qy;intro h;obtain⟨p,hp,_⟩:=hR.2 0 (by omega);simp [ay]at hp
  subst oo;have hx:xs=[]:=qA hR.1;subst hx;refine bA func83 O ntmps83 O (df O) (bg O (D2 O O O (aC O (Cd.gC O (dX O (ia O ?_))))));exact⟨none,0,O,(St.refl w).nil _⟩
 | some a=>
  subst hA;refine bA func83 O ntmps83 O (df O) (bg O (D2 O O O (aC O (Cd.fC O (aA O (jn (St.refl w) O ?_))))));intro A1 w1 aI;have aI:St w w1 [ax 2 A1 0 0 []]:=aI;refine ar O (fk 0 aI O (aI.gh hR) O O O ?_);intro A2 c2 w2 aE;rw [Nat.zero_add]at aE|-;refine bI O (ia O ?_);exact⟨A2,c2,O,aE⟩
section
variable {P:Program} {N:Nat} {ops:Array Oper} {K:Env->aa->Prop} {rest:List Oper} {e:Env} {w:aa} {d:Nat} {ty:ae} {pos:String} {af:Array Edge}
theorem vN{t:ae}{f0:Field}{z0 zf:ad}{b bf:Nat}[bt P t (.struct #[f0])][bq P t (.agg #[z0]) 1 b](hI:bq P f0.type zf 1 bf)(hb:Nat.blt d N=true)(hK:ao P N ops K rest (br e d (.agg #[z0])) w):ao P N ops K (⟨some d,.build t #[],ty,pos,af,none⟩::rest) e w:=by
 obtain⟨inf,hi,dU,hs,gI⟩:=bq.get P t;obtain⟨aet,di,aej,vp,ab4⟩:=hI.get P f0.type;have ez:(Value.agg #[z0]).cells= #[z0]:=O;refine .val (w':=w) ?_ hb hK;simp [execOp,Instr.build,run_underlying (bt.out (P:=P) (t:=t)),sizeOf,typeInfo,zeroValue,hi,dU,hs,di,vp,ez,Instr.fill]
end
theorem cN.NQ{xss:ah}(hM:cN xss){f:Int}(h0:0<=f)(hf:f< (gl xss 0).length):uQ (gl xss 0).length (eE (gl xss 0).length xss f):=by
 have hs:=hM.2.2.1.sys;have hi:=hM.2.2.1.inj;have h2:=hM.2.1;obtain⟨g,_,hm⟩:=wD hs h0 hf;have eJ:=(FG hs (by omega)).1 hM.2.2.2.2;refine⟨?_,g.nodup,g.range⟩;have h1:=Jl (DJ (gl xss 0).length) (eE (gl xss 0).length xss f) (by
  unfold DJ;rw [List.nodup_iff_pairwise_ne,pd];exact(List.nodup_iff_pairwise_ne.1 List.nodup_range).imp (fun h e=>h (by omega))) (fun z hz=>by
  have hz:=ai1.1 hz;exact(hm z).2 ((Reach.symm hs hi (by omega) (by omega) (eJ f h0 hf)).trans (eJ z hz.1 hz.2)))
 rw [ai0]at h1;have:=g.len;omega
theorem aha(A:aj)(n c:Nat)(rs:List aO)(xss:ah)(N:Nat)(pt:Int)(w:aa)(hR:bF w A n rs xss)(hn:n<=9223372036854775807)(oo:0<n)(hs:Sys N xss)(hN:N<=1000000000)(h0:0<=pt)(h1:pt<N):
 aK prog 213 [.slice A n c,ak pt] w (fun v w'=>∃A' c',v= .slice A' (eE N xss pt).length c'/\St w w' [ax 2 A' (eE N xss pt).length c' (eE N xss pt)]):=by
 have cI:∀k:Int,0<=k->k<n->(rg rs k).n=N:=fun k mR hk=>by
  rw [<-hR.qu mR hk];exact(hs _ (pW mR (by rw [hR.len];exact hk))).1
 have xE:=cI 0 (by omega) (by omega);refine bA func213 O ntmps213 O (df O) (bg O (aD hR.top.2 O (bW hR.top O (bc O O ?_))));refine yj N (St.refl w) (by rw [xE];rfl) O (by omega) ?_;intro A5 w1 aI;refine ar O ?_;refine amn (aI.ji 0 O).2 (by rw [xE];rfl) O O (by omega) (by omega) ?_;refine tT 0 aI O O O (by omega) fun w2 aE=>ar O (eS aE O O O ?_);intro A6 w3 aR;refine aC O ?_;refine Cd.loop (α:=Nat×ai×aj×Nat×List Bool) (fun q=> [(0,.slice A n c),(5,.slice A5 N N),(6,.slice q.2.2.1 q.2.1.length q.2.2.2.1),(7,ak (q.1:Int))]) (fun q w'=>St w w' [ax 2 q.2.2.1 q.2.1.length q.2.2.2.1 q.2.1,gw 4 A5 N N q.2.2.2.2]/\q.1<=q.2.1.length/\Good N xss pt q.2.1/\uP N q.2.2.2.2 q.2.1/\pO xss (N+1 - q.1) q.1 q.2.1=eE N xss pt) (fun q=>N+1 - q.1) (0,[pt],A6,1,(List.replicate N false).set pt.toNat true) ⟨O,by rw [xE];rfl,O,O,au⟩ ⟨aR,aZ _,KS h0 h1,uP.init h0 (by omega),O⟩ ?_;rintro⟨i,out,Ao,co,S⟩ e2 w5 ⟨aY,hi,hg,hm,hb⟩;dsimp only at aY hi hg hm hb|-;have hlen:=hg.len;refine bg O (bc O O (aC O ?_));refine aM _ O (fun h2=>?_) (fun h2=>?_)
 ·refine aA O (bc O O (aC O ?_));refine Cd.loop (α:=Nat×ai×aj×Nat×List Bool) (fun q=> [(0,.slice A n c),(5,.slice A5 N N),(6,.slice q.2.2.1 q.2.1.length q.2.2.2.1),(7,ak i),(27,.slice A n c),(28,ak n),(29,ak (q.1:Int))]) (fun q w'=>St w w' [ax 2 q.2.2.1 q.2.1.length q.2.2.2.1 q.2.1,gw 4 A5 N N q.2.2.2.2]/\q.1<=n/\Good N xss pt q.2.1/\uP N q.2.2.2.2 q.2.1/\out<+:q.2.1/\(xss.drop q.1).foldl (fun o p=>kQ o (gi p (gi out i))) q.2.1=expand xss (gi out i) out) (fun q=>n - q.1) (0,out,Ao,co,S) (amz O) ⟨aY,aZ _,hg,hm,List.prefix_rfl,O⟩ ?_;rintro⟨k,iq,zG,Cy,S'⟩ e3 w6 ⟨bk,hk,nB,iU,kM,hf⟩;dsimp only at bk hk nB iU kM hf|-;have xy:=nB.len;refine bJ O (aM _ O (fun h3=>?_) (fun h3=>?_))
  ·have HZ:i<iq.length:=by have:=kM.length_le;omega
   have EX:gi iq i=gi out i:=Hg kM (by omega);have gv:=hg.range _ (gi_in (i:=i) (by omega));have kL:gl xss k∈xss:=pW (by omega) (by rw [hR.len];omega);have hy:=(hs _ kL).2 (gi out i) gv.1 gv.2;have js:=cI k (by omega) (by omega);have hT:=(bk.cT hR);have hO:=bk.bz 0 O;have bP:=hT.at_ (i:=k) (by omega) (by omega);have xq:(xss.drop (k+1)).foldl (fun o p=>kQ o (gi p (gi out i))) (kQ iq (gi (gl xss k) (gi out i)))=expand xss (gi out i) out:=by
    rw [<-hf,List.drop_eq_getElem_cons (show k<xss.length by rw [hR.len];omega),List.foldl_cons,b7 (by rw [hR.len];omega)]
   refine aA O (aD hT.top.2 O (bW hT.top O (ar O (aD hO.2 O (a8 hO O ?_)))));rw [EX];refine aD bP.2 O (a8 bP O (ar O (aD (bk.ji 1 O).2 O (rP (bk.ji 1 O) O (by omega) O O ?_))))
   first | refine fv rfl rfl ?_ | refine gA rfl rfl ?_
   refine aC O (Cd.cond O (fun h4=>?_) (fun h4=>?_))
   ·have Mi:¬gi (gl xss k) (gi out i)∈iq:=fun du=>by
     have:=(iU.2 _ hy.1 (by omega)).2 du;rw [this]at h4;cases h4
    have Ba:kQ iq (gi (gl xss k) (gi out i))=iq++ [gi (gl xss k) (gi out i)]:=by unfold kQ;rw [if_neg Mi]
    have xr:=nB.push hs (kM.subset (gi_in (i:=i) (by omega))) kL;have E7:=kM.trans (NT iq (gi (gl xss k) (gi out i)));rw [Ba]at xq xr E7;have Mc:=xr.len;simp only [b8,List.length_singleton]at Mc;refine aA O (aD (bk.ji 1 O).2 O (tT 1 bk O O O (by omega) ?_));intro w8 b6;refine ar O (eS b6 O O O ?_);intro A3 w9 bL;refine fk 1 bL O (bL.bz 0 O) O O O fun A4 c4 dV bN=>ar O (aH O (aT O (tQ ?_)));refine⟨(k+1,iq++ [gi (gl xss k) (gi out i)],A4,c4,S'.set (gi (gl xss k) (gi out i)).toNat true),by show n - (k+1)<n - k;omega,⟨O,O,by rw [b8];rfl,O,O,O,O,au⟩,?_,by show k+1<=n;omega,xr,iU.push hy.1 (by omega),E7,xq⟩;have jO:=bN.tail;simp only [b8,List.length_singleton];exact jO
   have du:gi (gl xss k) (gi out i)∈iq:=(iU.2 _ hy.1 (by omega)).1 (by simpa using h4);have Ba:kQ iq (gi (gl xss k) (gi out i))=iq:=by unfold kQ;rw [if_pos du]
   rw [Ba]at xq;refine aA O (aH O (aT O (tQ ?_)));exact⟨(k+1,iq,zG,Cy,S'),by show n - (k+1)<n - k;omega,(amz O),bk,by show k+1<=n;omega,nB,iU,kM,xq⟩
  refine bn O (bo (cL O (aH O (aT O (tQ ?_)))));have iM:k=n:=by omega
  rw [iM,List.drop_of_length_le (by rw [hR.len];omega)]at hf;have hf:iq=expand xss (gi out i) out:=hf;refine⟨(i+1,iq,zG,Cy,S'),by show N+1 - (i+1)<N+1 - i;omega,(amz O),bk,by show i+1<=iq.length;have:=kM.length_le;omega,nB,iU,?_⟩;show pO xss (N+1 - (i+1)) (i+1) iq=_;rw [<-hb,show N+1 - i=(N+1 - (i+1))+1 by omega];simp only [pO];rw [aB (by omega),hf]
 refine bn O (bo (gq O ?_));refine ia O ?_;rw [Pz (by omega)]at hb;subst hb;exact⟨Ao,co,O,aY.sub (List.Sublist.cons_cons _ (List.nil_sublist _))⟩
theorem cg.take{w:aa}{A:aj}{n l:Nat}{xs:ai}(h:cg w A n xs)(hl:l<=n):cg w A l (xs.take l):=by
 have:=h.cut (l:=0) (h:=l) (c:=0) (aZ _) hl;refine⟨by rw [na,h.1];omega,fun k hk=>?_⟩;obtain⟨q,h1,h2⟩:=h.2 k (by omega);exact⟨q,h1,by rw [h2];simp [rK,hk,da]⟩
end
end Go.Proofs.YtkccgdhcpplblaaGreatDoor.Vc
