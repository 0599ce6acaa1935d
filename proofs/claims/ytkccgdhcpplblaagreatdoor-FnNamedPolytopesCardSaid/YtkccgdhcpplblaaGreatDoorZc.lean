/-
 Lemmas. Conditions: as each states them.
-/
import Derived.Test.YtkccgdhcpplblaaGreatDoorZb
set_option maxHeartbeats 8000000
namespace Go.Proofs.YtkccgdhcpplblaaGreatDoor.Vc
open Tryz
open Go.RowKit
theorem bI.CT{xss:ah}(hM:bI xss){f:Int}(h0:0<=f)(hf:f< (gl xss 0).length):uL (gl xss 0).length (cC (gl xss 0).length xss f):=by
 have hs:=hM.2.2.1.sys;have hi:=hM.2.2.1.inj;have h2:=hM.2.1;obtain⟨g,_,hm⟩:=tx hs h0 hf;have dt:=(CN hs am).1 hM.2.2.2.2;refine⟨?_,g.nodup,g.range⟩;have h1:=Hu (Bi (gl xss 0).length) (cC (gl xss 0).length xss f) (by
  unfold Bi;rw [List.nodup_iff_pairwise_ne,oD];exact(List.nodup_iff_pairwise_ne.1 List.nodup_range).imp (fun h e=>h am)) (fun z hz=>by
  have hz:=X5.1 hz;exact(hm z).2 ((Reach.symm hs hi am am (dt f h0 hf)).trans (dt z hz.1 hz.2)))
 rw [X4]at h1;have:=g.len;omega
theorem aku(A:aj)(n c:Nat)(rs:List aO)(xss:ah)(N:Nat)(pt:Int)(w:aa)(hR:bF w A n rs xss)(hn:n<=9223372036854775807)(oe:0<n)(hs:Sys N xss)(hN:N<=1000000000)(h0:0<=pt)(h1:pt<N):
 aJ prog 213 [.slice A n c,ak pt] w (fun v w'=>∃A' c',v= .slice A' (cC N xss pt).length c'/\St w w' [ax 2 A' (cC N xss pt).length c' (cC N xss pt)]):=by
 have cn:∀k:Int,0<=k->k<n->(rg rs k).n=N:=fun k tm hk=>by
  rw [<-hR.nI tm hk];exact(hs _ (oQ tm (by rw [hR.len];exact hk))).1
 have og:=cn 0 am am;refine bC func213 O ntmps213 O (df O) (bh O (aD hR.top.2 O (b9 hR.top O (a8 O O ?_))));refine zD N (St.refl w) (by rw [og];rfl) O am ?_;intro A5 w1 aH;refine ar O ?_;refine aqj (aH.jA 0 O).2 (by rw [og];rfl) O O am am ?_;refine uK 0 aH O O O am fun w2 aF=>ar O (eL aF O O O ?_);intro A6 w3 aQ;refine aC O ?_;refine Cd.loop (α:=Nat×ai×aj×Nat×List Bool) (fun q=> [(0,.slice A n c),(5,.slice A5 N N),(6,.slice q.2.2.1 q.2.1.length q.2.2.2.1),(7,ak (q.1:Int))]) (fun q w'=>St w w' [ax 2 q.2.2.1 q.2.1.length q.2.2.2.1 q.2.1,gK 4 A5 N N q.2.2.2.2]/\q.1<=q.2.1.length/\Good N xss pt q.2.1/\vH N q.2.2.2.2 q.2.1/\oI xss (N+1 - q.1) q.1 q.2.1=cC N xss pt) (fun q=>N+1 - q.1) (0,[pt],A6,1,(List.replicate N false).set pt.toNat true) ⟨O,by rw [og];rfl,O,O,au⟩ ⟨aQ,bg _,IW h0 h1,vH.init h0 am,O⟩ ?_;rintro⟨i,out,Ao,co,S⟩ e2 w5 ⟨ba,hi,hg,hm,hb⟩;dsimp only at ba hi hg hm hb|-;have hlen:=hg.len;refine bh O (a8 O O (aC O ?_));refine aM _ O (fun h2=>?_) (fun h2=>?_)
 ·refine aA O (a8 O O (aC O ?_));refine Cd.loop (α:=Nat×ai×aj×Nat×List Bool) (fun q=> [(0,.slice A n c),(5,.slice A5 N N),(6,.slice q.2.2.1 q.2.1.length q.2.2.2.1),(7,ak i),(27,.slice A n c),(28,ak n),(29,ak (q.1:Int))]) (fun q w'=>St w w' [ax 2 q.2.2.1 q.2.1.length q.2.2.2.1 q.2.1,gK 4 A5 N N q.2.2.2.2]/\q.1<=n/\Good N xss pt q.2.1/\vH N q.2.2.2.2 q.2.1/\out<+:q.2.1/\(xss.drop q.1).foldl (fun o p=>jP o (gi p (gi out i))) q.2.1=expand xss (gi out i) out) (fun q=>n - q.1) (0,out,Ao,co,S) (aqv O) ⟨ba,bg _,hg,hm,List.prefix_rfl,O⟩ ?_;rintro⟨k,iE,Bp,DI,S'⟩ e3 w6 ⟨bo,hk,od,jj,lD,hf⟩;dsimp only at bo hk od jj lD hf|-;have yJ:=od.len;refine bL O (aM _ O (fun h3=>?_) (fun h3=>?_))
  ·have JH:i<iE.length:=by have:=lD.length_le;omega
   have Gp:gi iE i=gi out i:=BQ lD am;have gE:=hg.range _ (gi_in (i:=i) am);have lC:gl xss k∈xss:=oQ am (by rw [hR.len];omega);have hy:=(hs _ lC).2 (gi out i) gE.1 gE.2;have jx:=cn k am am;have hT:=(bo.b7 hR);have hO:=bo.bz 0 O;have bS:=hT.at_ (i:=k) am am;have yE:(xss.drop (k+1)).foldl (fun o p=>jP o (gi p (gi out i))) (jP iE (gi (gl xss k) (gi out i)))=expand xss (gi out i) out:=by
    rw [<-hf,List.drop_eq_getElem_cons (show k<xss.length by rw [hR.len];omega),List.foldl_cons,bR (by rw [hR.len];omega)]
   refine aA O (aD hT.top.2 O (b9 hT.top O (ar O (aD hO.2 O (aY hO O ?_)))));rw [Gp];refine aD bS.2 O (aY bS O (ar O (aD (bo.jA 1 O).2 O (sM (bo.jA 1 O) O am O O ?_))))
   first | refine fv rfl rfl ?_ | refine gz rfl rfl ?_
   refine aC O (Cd.cond O (fun h4=>?_) (fun h4=>?_))
   ·have N7:¬gi (gl xss k) (gi out i)∈iE:=fun cI=>by
     have:=(jj.2 _ hy.1 am).2 cI;rw [this]at h4;cases h4
    have Cs:jP iE (gi (gl xss k) (gi out i))=iE++ [gi (gl xss k) (gi out i)]:=by unfold jP;rw [if_neg N7]
    have yF:=od.push hs (lD.subset (gi_in (i:=i) am)) lC;have GC:=lD.trans (PK iE (gi (gl xss k) (gi out i)));rw [Cs]at yE yF GC;have NZ:=yF.len;simp only [ck,List.length_singleton]at NZ;refine aA O (aD (bo.jA 1 O).2 O (uK 1 bo O O O am ?_));intro w8 cj;refine ar O (eL cj O O O ?_);intro A3 w9 bT;refine fu 1 bT O (bT.bz 0 O) O O O fun A4 c4 dY bW=>ar O (aI O (aT O (tQ ?_)));refine⟨(k+1,iE++ [gi (gl xss k) (gi out i)],A4,c4,S'.set (gi (gl xss k) (gi out i)).toNat true),by show n - (k+1)<n - k;omega,⟨O,O,by rw [ck];rfl,O,O,O,O,au⟩,?_,by show k+1<=n;omega,yF,jj.push hy.1 am,GC,yE⟩;have kl:=bW.tail;simp only [ck,List.length_singleton];exact kl
   have cI:gi (gl xss k) (gi out i)∈iE:=(jj.2 _ hy.1 am).1 (by simpa using h4);have Cs:jP iE (gi (gl xss k) (gi out i))=iE:=by unfold jP;rw [if_pos cI]
   rw [Cs]at yE;refine aA O (aI O (aT O (tQ ?_)));exact⟨(k+1,iE,Bp,DI,S'),by show n - (k+1)<n - k;omega,(aqv O),bo,by show k+1<=n;omega,od,jj,lD,yE⟩
  refine bp O (bt (cS O (aI O (aT O (tQ ?_)))));have jb:k=n:=by omega
  rw [jb,List.drop_of_length_le (by rw [hR.len];omega)]at hf;have hf:iE=expand xss (gi out i) out:=hf;refine⟨(i+1,iE,Bp,DI,S'),by show N+1 - (i+1)<N+1 - i;omega,(aqv O),bo,by show i+1<=iE.length;have:=lD.length_le;omega,od,jj,?_⟩;show oI xss (N+1 - (i+1)) (i+1) iE=_;rw [<-hb,show N+1 - i=(N+1 - (i+1))+1 by omega];simp only [oI];rw [aB (by omega),hf]
 refine bp O (bt (gw O ?_));refine gJ O ?_;rw [RN (by omega)]at hb;subst hb;exact⟨Ao,co,O,ba.sub (List.Sublist.cons_cons _ (List.nil_sublist _))⟩
def tG(l:ai):Prop:=l.Pairwise (· <= ·)
def ox(l:ai):ai:=l.mergeSort fun x y=>decide (x<=y)
theorem Qr(l:ai):(ox l).Perm l:=List.mergeSort_perm _ _
theorem am2(l:ai):tG (ox l):=by
 have:=List.pairwise_mergeSort (le:=fun x y:Int=>decide (x<=y)) (fun a b c h1 h2=>by simp at h1 h2|-;omega) (fun a b=>by simp;omega) l;exact this.imp fun h=>by simpa using h
theorem aaS{l l':ai}(h:l.Perm l')(h1:tG l)(h2:tG l'):l=l':=
 List.Perm.eq_of_pairwise (le:=(· <= ·)) (fun a b _ _ h1 h2=>by omega) h1 h2 h
def uz(xss:ah)(x:Int)(ws:ai):Int:=ws.foldl (fun x i=>gi (gl xss i) x) x
def qK(xss:ah)(F:Nat)(ws:ai):ai:=(List.range F).map fun x:Nat=>uz xss x ws
theorem amk{xss:ah}{x:Int}{ws:ai}{k:Nat}(hk:k<ws.length):uz xss x (ws.take (k+1))=gi (gl xss (gi ws k)) (uz xss x (ws.take k)):=by
 unfold uz;rw [nM hk,List.foldl_append];simp [gi,dm,fq hk]
theorem XX{F:Nat}{xss:ah}(hs:Sys F xss):∀(ws:ai) (x:Int),(∀i∈ws,0<=i/\i<xss.length)->0<=x->x<F->0<=uz xss x ws/\uz xss x ws<F
 | [],_,_,h0,h1=> ⟨h0,h1⟩
 | i::ws,x,hw,h0,h1=>by
  have hi:=hw i (by simp);have hg:=(hs _ (oQ hi.1 hi.2)).2 x h0 h1;exact XX hs ws _ (fun j hj=>hw j (by simp [hj])) hg.1 hg.2
theorem ajg{l:ai}{a b:Int}(h:∀k:Nat,k<l.length->a<=gi l k/\gi l k<b):∀i∈l,a<=i/\i<b:=fun i hi=>by
 obtain⟨k,hk,rfl⟩:=gC.1 hi;have:=h k hk;simpa [gi,dm,fq hk]using this
def QZ(xss:ah):Prop:=bI xss/\2<=xss.length
instance (xss:ah):Decidable (QZ xss):=by unfold QZ;exact inferInstance
theorem Km(A:aj)(n c:Nat)(rs:List aO)(xss:ah)(w:aa)(hR:bF w A n rs xss)(hn:0<n):
 aJ prog 179 [.agg #[.slice A n c]] w (fun v w'=>v=ak ((gl xss 0).length:Int)/\St w w' []):=by
 refine bC func179 O ntmps179 O (df O) (bh O (jH (St.refl w) O O ?_));intro Ab w1 hS;have lW:=hS.b7 hR;have e0:(gl xss 0).length=(rg rs 0).n:=hR.nI am am;refine ar O (aV (hS.rd 0 O) O (bj (hS.rd 0 O) O (aD lW.top.2 O (b9 lW.top O ?_))));refine a8 O O (bH O ?_);refine iH O ?_;exact⟨by rw [e0],hS.none⟩
theorem aif(A:aj)(n c:Nat)(rs:List aO)(xss:ah)(F:Nat)(x:Int)(Aw:aj)(nw cw:Nat)(ws:ai)(w:aa)(hR:bF w A n rs xss)(hs:Sys F xss)(hW:cL w Aw nw ws)(hnw:nw<=9223372036854775807)(hw:∀k:Nat,k<nw->0<=gi ws k/\gi ws k<n)(h0:0<=x)(hx:x<F):
 aJ prog 303 [.agg #[.slice A n c],ak x,.slice Aw nw cw] w (fun v w'=>v=ak (uz xss x ws)/\St w w' []):=by
 have hl:=hR.len;have mJ:=hW.1;refine bC func303 O ntmps303 O (df O) (bh O (jH (St.refl w) O O ?_));intro Ab w1 hS;refine aC O (Cd.loop (α:=Nat) (fun k=> [(1,ak (uz xss x (ws.take k))),(2,.slice Aw nw cw),(3,.pointer Ab),(7,ak k)]) (fun k w'=>St w w' [Bx 24 1 Ab [.slice A n c]]/\k<=nw) (fun k=>nw - k) 0 (aqv O) ⟨hS,bg _⟩ ?_);rintro k e w2 ⟨aF,hk⟩;refine bh O (a8 O O (aC O ?_));refine aM _ O (fun h1=>?_) (fun h1=>?_)
 ·have eI:k<nw:=by omega
  have lZ:=aF.b7 hR;have Ub:=aF.gA hW;have yT:=hw k eI;have bS:=lZ.at_ (i:=gi ws k) yT.1 yT.2;have fG:=XX hs (ws.take k) x (fun i hi=>by
   have:=ajg (l:=ws) (a:=0) (b:=(n:Int)) (fun j hj=>hw j am) i (List.mem_of_mem_take hi);omega) h0 hx
  have jk:(rg rs (gi ws k)).n=F:=by
   rw [<-lZ.nI yT.1 yT.2];exact(hs _ (oQ yT.1 am)).1
  have pK:=amk (xss:=xss) (x:=x) (ws:=ws) (k:=k) am;generalize hy:uz xss x (ws.take k)=y at*;refine dA O ?_;refine dU [xP (ay (Ab) 0),xS (A) (n) (c),xS (Aw) (nw) (cw),xI ((k:Int)),xP (ay (Aw) ((k:Int)).toNat),xI (gi (ws) ((k:Int))),xP (ay (A) (gi (ws) ((k:Int))).toNat),xS ((rg (rs) (gi (ws) ((k:Int)))).a) ((rg (rs) (gi (ws) ((k:Int)))).n) ((rg (rs) (gi (ws) ((k:Int)))).c),xI (y),xP (ay ((rg (rs) (gi (ws) ((k:Int)))).a) (y).toNat),xI (gi (gl xss (gi ws k)) (y)),xI (gi (gl xss (gi ws k)) (y))] O (eG O) ?_ ?_
  ·exact⟨fun _ _ hb _ _=>aV ((aF.rd 0 O).below hb) O Az,fun _ _ hb _ _=>bj ((aF.rd 0 O).below hb) O Az,Dr O,Dr O,fun _ _ hb _ _=>aD (Ub.aq hb).2 O Az,fun _ _ hb _ _=>aY (Ub.aq hb) O Az,fun _ _ hb _ _=>aD (lZ.top.aq hb).2 O Az,fun _ _ hb _ _=>b9 (lZ.top.aq hb) O Az,fun _ _ _ _ aU=>qG O (by exact aU 11 _ O (by kernel_rfl)) O Az,fun _ _ hb _ _=>aD (bS.aq hb).2 O Az,fun _ _ hb _ _=>aY (bS.aq hb) O Az,Dr O,au⟩
  intro u w3 gI _;have aQ:=aF.aq gI;refine jD O (aI O (aT O (tQ ?_)));exact⟨k+1,by show nw - (k+1)<nw - k;omega,⟨by show Value.int .i64 _=ak _;rw [pK],O,O,O,au⟩,aQ,eI⟩
 refine bp O (bt (gw O ?_));refine iH O ?_;have jb:k=nw:=by omega
 subst jb;exact⟨by rw [<-mJ,List.take_length],aF.none⟩
theorem cL.take{w:aa}{A:aj}{n l:Nat}{xs:ai}(h:cL w A n xs)(hl:l<=n):cL w A l (xs.take l):=by
 have:=h.cut (l:=0) (h:=l) (c:=0) (bg _) hl;refine⟨by rw [ns,h.1];omega,fun k hk=>?_⟩;obtain⟨q,h1,h2⟩:=h.2 k am;exact⟨q,h1,by rw [h2];simp [rz,hk,dm]⟩
end Go.Proofs.YtkccgdhcpplblaaGreatDoor.Vc
