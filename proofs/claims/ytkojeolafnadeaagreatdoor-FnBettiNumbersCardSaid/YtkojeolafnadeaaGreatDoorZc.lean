/-
 Lemmas. Conditions: as each states them.
-/
import Derived.Test.YtkojeolafnadeaaGreatDoorZb
set_option maxHeartbeats 8000000
namespace Go.Proofs.YtkojeolafnadeaaGreatDoor.Vc
open Tryz
open Go.RowKit
section
variable {P:Program} {N:Nat} {ops:Array Oper} {K:Env->aa->Prop} {rest:List Oper} {e:Env} {w:aa} {d:Nat} {ty:ad} {pos:String} {af:Array Edge}
theorem CB{t:ad}{f0:Field}{z0 zf:ab}{b bf:Nat}[bP P t (.struct #[f0])][bO P t (.agg #[z0]) 1 b](hI:bO P f0.type zf 1 bf)(hb:Nat.blt d N=true)(hK:ak P N ops K rest (bC e d (.agg #[z0])) w):ak P N ops K (⟨some d,.build t #[],ty,pos,af,none⟩::rest) e w:=by
 obtain⟨inf,hi,fp,hs,iq⟩:=bO.get P t;obtain⟨acB,dI,acs,BA,aad⟩:=hI.get P f0.type;have ez:(Value.agg #[z0]).cells= #[z0]:=O;refine .val (w':=w) ?_ hb hK;simp [execOp,Instr.build,run_underlying (bP.out (P:=P) (t:=t)),sizeOf,typeInfo,zeroValue,hi,fp,hs,dI,BA,ez,Instr.fill]
end
theorem adE(A:ai)(n c:Nat)(rs:List aX)(xss:ag)(N:Nat)(Ap:ai)(cp:Nat)(p:ah)(w:aa)(hR:bL w A n rs xss)(hn:n<=1000000)(hs:Sys N xss)(hN:N<=1000000)(hP:bt w Ap N p)(hp:∀x:Int,0<=x->x<N->0<=gi p x/\gi p x<N):
 aG prog 261 [.agg #[.slice A n c],.slice Ap N cp] w (fun v w'=>∃A' c' rs',v= .agg #[.slice A' n c']/\rs'.length=n/\St w w' (aU 24 2 A' n c' rs' (xss.map (pd N p)))):=by
 have ox:=hP.1;have di:=hR.len;refine bw func261 O ntmps261 O (kX O O) (bb O (mQ (St.refl w) O O ?_));intro Ab w1 aC;refine jN aC O fun Ac w2 aE=>aq O (CB (by exact inferInstance) O (jN aE O ?_));intro Ad w3 aH;refine bS 1 0 aH O O O O O O O ?_;intro w4 aQ;have aQ:St w w4 (Bx 31 1 Ad [.slice none 0 0]::Bx 31 1 Ac [.slice none 0 0]::Bx 31 1 Ab [.slice A n c]::[]):=aQ;have uc:St w w4 (Bx 31 1 Ad [.slice none 0 0]::Bx 31 1 Ac [.slice none 0 0]::Bx 31 1 Ab [.slice A n c]::br 24 none 0 0 []::[]):=(aQ.nil 24).perm (iK (l₁:=[_]) (l₂:=[_,_,_]));refine az O (Cd.loop (α:=Nat×ai×Nat×List aX) (fun s=> [(1,.slice Ap N cp),(2,.pointer Ab),(4,.pointer Ac),(5,.pointer Ad),(6,aj (s.1:Int))]) (fun s w'=>St w w' (Bx 31 1 Ad [.slice s.2.1 s.1 s.2.2.1]::Bx 31 1 Ac [.slice none 0 0]::Bx 31 1 Ab [.slice A n c]::br 24 s.2.1 s.1 s.2.2.1 s.2.2.2::bF 2 s.2.2.2 ((xss.map (pd N p)).take s.1))/\s.1<=n/\s.2.2.2.length=s.1) (fun s=>n - s.1) (0,none,0,[]) (ajz O) ⟨uc,bu _,O⟩ ?_);rintro⟨i,A3,c3,dX⟩ e w5 ⟨a8,hi,hlen⟩;dsimp only at a8 hi hlen|-;refine bb O (aI (a8.rd 2 O) O (aV (a8.rd 2 O) O ?_));refine ba O O (az O ?_);refine aM _ O (fun h1=>?_) (fun h1=>?_)
 ·have dI:i<n:=by omega
  have hx:i<xss.length:=by omega
  refine aD O (ba O O ?_);refine sJ N a8 O O (by omega) fun A7 w6 bg=>az O ?_;have e2:gl xss i=xss[i]:=by simp [gl,dt,fU hx]
  have xp:=hs (gl xss i) (sS (by omega) (by omega));refine Cd.loop (α:=Nat) (fun k=> [(1,.slice Ap N cp),(2,.pointer Ab),(4,.pointer Ac),(5,.pointer Ad),(6,aj i),(7,.slice A7 N N),(8,aj k)]) (fun k w'=>St w w' (ar 2 A7 N N (xV (List.replicate N 0) (fun f=>gi p f) (fun f=>gi p (gi (gl xss i) f)) k)::Bx 31 1 Ad [.slice A3 i c3]::Bx 31 1 Ac [.slice none 0 0]::Bx 31 1 Ab [.slice A n c]::br 24 A3 i c3 dX::bF 2 dX ((xss.map (pd N p)).take i))/\k<=N) (fun k=>N - k) 0 (ajz O) ⟨bg,bu _⟩ ?_;rintro k e w7 ⟨bl,hk⟩;have hM:=bl.cV hR;have FH:=bl.b9 hP;refine bb O (ba O O (az O ?_));refine aM _ O (fun h2=>?_) (fun h2=>?_)
  ·have bM:=hM.at_ (i:=(i:Int)) (by omega) h1;have jG:=hM.ql (k:=(i:Int)) (by omega) h1;have hv:=xp.2 (k:Int) (by omega) (by omega);have hpk:=hp (k:Int) (by omega) (by omega);have hpv:=hp _ hv.1 hv.2;have Kb:=xp.1;have hB:=bl.rd 3 O;have hO:=bl.bk 0 O;have eL:(gi p k).toNat<N:=by omega
   refine cW O ?_;refine jm [17] [yS (A7) (N) (N),yS (Ap) (N) (cp),yI ((k:Int)),yP (aB (Ap) ((k:Int)).toNat),yI (gi (p) ((k:Int))),yS (Ap) (N) (cp),yP (aB (Ab) 0),yS (A) (n) (c),yI ((i:Int)),yP (aB (A) ((i:Int)).toNat),yS ((rg (rs) ((i:Int))).a) ((rg (rs) ((i:Int))).n) ((rg (rs) ((i:Int))).c),yI ((k:Int)),yP (aB ((rg (rs) ((i:Int))).a) ((k:Int)).toNat),yI (gi (gl xss i) ((k:Int))),yP (aB (Ap) (gi (gl xss i) ((k:Int))).toNat),yI (gi (p) (gi (gl xss i) ((k:Int)))),yP (aB (A7) (gi (p) ((k:Int))).toNat),.pr (fun _ w'=>St w w' (ar 2 A7 N N (xV (List.replicate N 0) (fun f=>gi p f) (fun f=>gi p (gi (gl xss i) f)) (k+1))::Bx 31 1 Ad [.slice A3 i c3]::Bx 31 1 Ac [.slice none 0 0]::Bx 31 1 Ab [.slice A n c]::br 24 A3 i c3 dX::bF 2 dX ((xss.map (pd N p)).take i)))] (ly (ly (ly (ly (ly (ly (ly (ly (ly (ly (ly (ly (ly (ly (ly (ly (ly (cg.2 ⟨Ye.cH (fun v w w' h hb=>h.ao hb),(fun _ h=>by cases h)⟩)))))))))))))))))) ?_ ?_
   ·refine⟨bZ O,bZ O,bZ O,cP fun _ _ hb _ _ _=>aA (FH.ao hb).2 O (bq O O),cP fun _ _ hb _ _ _=>aY (FH.ao hb) O (bq O O),bZ O,cP fun _ _ hb _ _ _=>aI (hB.below hb) O (bq O O),cP fun _ _ hb _ _ _=>aV (hB.below hb) O (bq O O),bZ O,cP fun _ _ hb _ _ _=>aA (hM.top.ao hb).2 O (bq O O),cP fun _ _ hb _ _ _=>bQ (hM.top.ao hb) O (bq O O),bZ O,cP fun _ _ hb _ _ _=>aA (bM.ao hb).2 O (bq O O),cP fun _ _ hb _ _ _=>aY (bM.ao hb) O (bq O O),cP fun _ _ hb _ _ _=>aA (FH.ao hb).2 O (bq O O),cP fun _ _ hb _ _ _=>aY (FH.ao hb) O (bq O O),cP fun _ _ hb _ _ _=>aA (hO.ao hb).2 O (bq O O),?_,aw⟩;refine ju fun e1 w1 hb hp bc hq=>?_
    exact ak.iG 0 (bl.ao hb) O O O eL fun w9 ax=>ak.n (fF.st O ax)
   intro u w8 _ hu _ _;have bK:=hu 17 _ O (by kernel_rfl);refine fJ O (aK O (aS O (tQ ?_)));exact⟨k+1,by show N - (k+1)<N - k;omega,(ajz O),bK,by omega⟩
  have o3:k=N:=by omega
  subst o3;refine bo O (bn (cJ O ?_));refine aI (bl.rd 1 O) O (aV (bl.rd 1 O) O (aq O (lU bl O O O ?_)));intro A9 w9 bh;refine lS 5 bh O (bh.fq 0 O) O O O (by omega) (by omega) O ?_;intro du fx dA cj;have cj:=cj.tail;refine aI (cj.rd 1 O) O (ke 1 cj O O O O O ?_);intro eA eI;have eI:St w eA (ar 2 A7 k k (pd k p (gl xss i))::Bx 31 1 Ad [.slice du (i+1) fx]::Bx 31 1 Ac [.slice none 0 0]::Bx 31 1 Ab [.slice A n c]::br 24 du (i+1) fx (dX++ [⟨A7,k,k⟩])::bF 2 dX ((xss.map (pd k p)).take i)):=eI;refine aq O (aK O (aS O (tQ ?_)));refine⟨(i+1,du,fx,dX++ [⟨A7,k,k⟩]),by show n - (i+1)<n - i;omega,(ajz O),?_,dI,by simp [hlen]⟩;show St w eA (_::_::_::br _ du (i+1) fx (dX++ [_])::bF _ (dX++ [_]) ((xss.map (pd k p)).take (i+1)));rw [rC (by rw [mf];exact hx),tp (by simp [hlen];omega),List.getElem_map,<-e2];refine eI.perm ?_;exact (iK (l₁:=[_]) (l₂:=_::_::_::_::bF 2 dX ((xss.map (pd k p)).take i)))
 refine bo O (bn (cJ O ?_));have da:i=n:=by omega
 subst da;rw [kA (by rw [mf];omega)]at a8;refine bI 0 (a8.rd 0 O) O O O (bS 1 1 a8 O O O O O O O ?_);intro w6 bg;refine bD O (fI O (bg.rd 1 O) ?_);exact⟨A3,c3,dX,O,hlen,bg.sub (((List.sublist_cons_self _ _).trans (List.sublist_cons_self _ _)).trans (List.sublist_cons_self _ _))⟩
def lK(l:ah):Prop:=l.Pairwise (· <= ·)
def fT(l:ah):ah:=l.mergeSort fun x y=>decide (x<=y)
theorem vZ(l:ah):(fT l).Perm l:=List.mergeSort_perm _ _
theorem Ev(l:ah):lK (fT l):=by
 have:=List.pairwise_mergeSort (le:=fun x y:Int=>decide (x<=y)) (fun a b c h1 h2=>by simp at h1 h2|-;omega) (fun a b=>by simp;omega) l;exact this.imp fun h=>by simpa using h
theorem V6{l l':ah}(h:l.Perm l')(h1:lK l)(h2:lK l'):l=l':=
 List.Perm.eq_of_pairwise (le:=(· <= ·)) (fun a b _ _ h1 h2=>by omega) h1 h2 h
theorem V4{out:ah}{a:Nat}{v:Int}(h:lK out)(ha:a<=out.length)(hl:∀j:Nat,j<a->gi out j<v)(hg:a<out.length->v<=gi out a):lK (out.take a++ (v::out.drop a)):=by
 have key:∀j (hj:j<out.length),gi out j=out[j]:=fun j hj=>by simp [gi,dt,fU hj]
 have Qu:∀i j (hi:i<out.length) (hj:j<out.length),i<=j->out[i]<=out[j]:=fun i j hi hj pO=>by
  by_cases e:i=j
  ·subst e;exact Int.le_refl _
  exact(List.pairwise_iff_getElem.1 h) i j hi hj (by omega)
 unfold lK;rw [List.pairwise_append,List.pairwise_cons];refine⟨h.sublist (List.take_sublist _ _),⟨fun x hx=>?_,h.sublist (List.drop_sublist _ _)⟩,fun x hx y hy=>?_⟩
 ·obtain⟨j,hj,rfl⟩:=gj.1 hx;rw [List.length_drop]at hj;rw [List.getElem_drop];have h1:=hg (by omega);rw [key a (by omega)]at h1;exact Int.le_trans h1 (Qu _ _ (by omega) (by omega) (by omega))
 obtain⟨j,hj,rfl⟩:=gj.1 hx;rw [nt]at hj;rw [List.getElem_take];have hxv:out[j]<v:=by rw [<-key j (by omega)];exact hl j (by omega)
 rcases ij.1 hy with rfl | hy
 ·omega
 obtain⟨m,hm,rfl⟩:=gj.1 hy;rw [List.length_drop]at hm;rw [List.getElem_drop];exact Qu _ _ (by omega) (by omega) (by omega)
theorem afx{out:ah}{a:Nat}{v:Int}:(out.take a++ (v::out.drop a)).Perm (out++ [v]):=by
 have h1:(out.take a++ (v::out.drop a)).Perm (v::(out.take a++out.drop a)):=eK;rw [List.take_append_drop]at h1;exact h1.trans (iK (l₁:=[v]))
def MB(xss:ag):Prop:=dm xss/\2<=xss.length
instance (xss:ag):Decidable (MB xss):=by unfold MB;exact inferInstance
theorem xH(A:ai)(n c:Nat)(rs:List aX)(xss:ag)(w:aa)(hR:bL w A n rs xss)(hn:0<n):
 aG prog 144 [.agg #[.slice A n c]] w (fun v w'=>v=aj ((gl xss 0).length:Int)/\St w w' []):=by
 refine bw func144 O ntmps144 O (b7 O) (bb O (mQ (St.refl w) O O ?_));intro Ab w1 hS;have kj:=hS.cV hR;have e0:(gl xss 0).length=(rg rs 0).n:=hR.ql (by omega) (by omega);refine aq O (aI (hS.rd 0 O) O (aV (hS.rd 0 O) O (aA kj.top.2 O (bQ kj.top O ?_))));refine ba O O (bD O ?_);refine iY O ?_;exact⟨by rw [e0],hS.none⟩
theorem bt.drop{w:aa}{A:ai}{n c l:Nat}{xs:ah}(h:bt w A n xs)(hl:l<=n)(hc:n<=c):bt w (cutAt A c l) (n - l) (xs.drop l):=by
 have:=h.cut (l:=l) (h:=n) (c:=c) hl (dC _) hc
 rwa [kA (by rw [List.length_drop,h.1];omega)]at this
theorem bt.take{w:aa}{A:ai}{n l:Nat}{xs:ah}(h:bt w A n xs)(hl:l<=n):bt w A l (xs.take l):=by
 have:=h.cut (l:=0) (h:=l) (c:=0) (bu _) hl;refine⟨by rw [nt,h.1];omega,fun k hk=>?_⟩;obtain⟨q,h1,h2⟩:=h.2 k (by omega);exact⟨q,h1,by rw [h2];simp [rB,hk,dt]⟩
end Go.Proofs.YtkojeolafnadeaaGreatDoor.Vc
