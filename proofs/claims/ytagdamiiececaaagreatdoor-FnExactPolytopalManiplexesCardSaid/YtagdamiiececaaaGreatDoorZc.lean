/-
 Lemmas. Conditions: as each states them.
-/
import Derived.Test.YtagdamiiececaaaGreatDoorZb
set_option maxHeartbeats 8000000
namespace Go.Proofs.YtagdamiiececaaaGreatDoor.Vc
open Tryz
section
open Go.RowKit
def nT(init:ah)(ix v:Nat->Int):Nat->ah
 | 0=>init
 | k+1=> (nT init ix v k).set (ix k).toNat (v k)
theorem zp(init:ah)(ix v:Nat->Int):∀k,(nT init ix v k).length=init.length
 | 0=>rfl
 | k+1=>by simp [nT,zp init ix v k]
theorem Ei{init:ah}{ix v:Nat->Int}{N:Nat}(hN:init.length=N):∀k,(∀j,j<k->0<=ix j/\ix j<N)->(∀i j,i<k->j<k->ix i=ix j->i=j)->∀j,j<k->gi (nT init ix v k) (ix j)=v j
 | 0,_,_,j,hj=>by omega
 | k+1,hr,hi,j,hj=>by
  have h1:=hr k (by omega);have h2:=hr j hj;show gi ((nT init ix v k).set (ix k).toNat (v k)) (ix j)=v j;rw [mF h1.1 (by rw [zp,hN];exact h1.2) h2.1]
  by_cases e:ix k=ix j
  ·rw [aF e,hi k j (by omega) hj e]
  ·rw [aB e];have:j≠k:=fun rq=>e (by rw [rq])
   exact Ei hN k (fun j hj=>hr j (by omega)) (fun i j h h'=>hi i j (by omega) (by omega)) j (by omega)
def fH(m:Nat):ah:=(List.range m).map fun(k:Nat)=> (k:Int)
theorem rZ(m:Nat):(fH m).length=m:=by simp [fH]
theorem Ej{m k:Nat}(h:k<m):gi (fH m) k=k:=by rw [bQ (by rw [rZ];exact h)];simp [fH]
theorem xa{m:Nat}{x:Int}:x∈fH m↔0<=x/\x<m:=by
 simp only [fH,fq,iI];exact⟨fun⟨k,hk,e⟩=>by omega,fun h=> ⟨x.toNat,by omega,by omega⟩⟩
theorem TP(m:Nat):fH (m+1)=fH m++ [(m:Int)]:=by simp [fH,lg]
theorem Sb(l:ah):(fH l.length).map (gi l)=l:=by
 apply gj
 ·simp [fH]
 intro i h1 h2;simp only [List.getElem_map];rw [show(fH l.length)[i]'(by rw [rZ];exact h2)=(i:Int) by simp [fH]];exact bQ h2
def gV(N:Nat)(o:ah):ah:=nT (List.replicate N 0) (fun k=>gi o k) (fun k=> (k:Int)) o.length
theorem EY(N:Nat)(o:ah):(gV N o).length=N:=by simp [gV,zp]
structure lO(N:Nat)(o:ah):Prop where
 len:o.length=N
 nodup:o.Nodup
 range:∀x∈o,0<=x/\x< (N:Int)
section
variable {N:Nat} {o:ah}
theorem lO.jK(h:lO N o){k:Nat}(hk:k<N):0<=gi o k/\gi o k<N:=h.range _ (gi_in (by rw [h.len];exact hk))
theorem lO.inj(h:lO N o){i j:Nat}(hi:i<N)(hj:j<N)(e:gi o i=gi o j):i=j:=by
 rw [bQ (by rw [h.len];exact hi),bQ (by rw [h.len];exact hj)]at e;exact(List.getElem_inj h.nodup).1 e
theorem lO.back(h:lO N o){k:Nat}(hk:k<N):gi (gV N o) (gi o k)=k:=
 Ei (N:=N) (by simp) o.length (fun j hj=>h.jK (by rw [<-h.len];exact hj)) (fun i j hi hj e=>h.inj (by rw [<-h.len];exact hi) (by rw [<-h.len];exact hj) e) k (by rw [h.len];exact hk)
theorem lO.O8(h:lO N o){x:Int}(h0:0<=x)(h1:x<N):∃k:Nat,k<N/\gi o k=x:=by
 apply kK;intro cG;have hx:x∉o:=fun hm=>by
  obtain⟨k,hk,e⟩:=fP.1 hm;exact cG ⟨k,by rw [<-h.len];exact hk,by rw [bQ hk];exact e⟩
 have:=oH (N:=N) (l:=x::o) (lM.2 ⟨hx,h.nodup⟩) (fun y hy=>by
  rcases kj.1 hy with rfl | hy
  ·exact⟨h0,h1⟩
  exact h.range y hy)
 rw [List.length_cons,h.len]at this;omega
theorem lO.vn(h:lO N o){x:Int}(h0:0<=x)(h1:x<N):∃k:Nat,k<N/\gi o k=x/\gi (gV N o) x=k:=by
 obtain⟨k,hk,e⟩:=h.O8 h0 h1;exact⟨k,hk,e,by rw [<-e];exact h.back hk⟩
end
def ju(o b mv:ah):ah:=o.map fun x=>gi b (gi mv x)
def mX(N:Nat)(p mv:ah):ah:=nT (List.replicate N 0) (fun f=>gi p f) (fun f=>gi p (gi mv f)) N
theorem Tu{N:Nat}{o mv:ah}(h:lO N o):mX N (gV N o) mv=ju o (gV N o) mv:=by
 have hl:(mX N (gV N o) mv).length=N:=by simp [mX,zp]
 apply gj
 ·simp [hl,ju,h.len]
 ·intro j h1 h2;have hj:j<N:=by omega
  obtain⟨h3,h4⟩:=h.jK hj;have e:((gi o j).toNat:Int)=gi o j:=by omega
  have key:=Ei (init:=List.replicate N 0) (ix:=fun f=>gi (gV N o) f) (v:=fun f=>gi (gV N o) (gi mv f)) (N:=N) (by simp) N (fun j hj=>by
   obtain⟨k,hk,_,hb⟩:=h.vn (x:=(j:Int)) (by omega) (by omega);rw [hb];omega)
   (fun i j hi hj e=>by
     obtain⟨k,hk,e1,hb⟩:=h.vn (x:=(i:Int)) (by omega) (by omega);obtain⟨k',cE,xC,jU⟩:=h.vn (x:=(j:Int)) (by omega) (by omega);rw [hb,jU]at e;have:k=k':=by omega
     subst this;omega) (gi o j).toNat (by omega)
  rw [e,h.back hj]at key;rw [<-bQ h1];rw [show gi (mX N (gV N o) mv) j=_ from key];simp only [ju,List.getElem_map];rw [bQ (show j<o.length by rw [h.len];exact hj)]
def dm(N:Nat)(xss:ag)(f:Int):ag:=xss.map fun mv=>ju (cK N xss f) (gV N (cK N xss f)) mv
theorem sl(N:Nat)(xss:ag)(f:Int):(dm N xss f).length=xss.length:=by simp [dm]
def ji(a b:Int):Int:=if a<b then -1 else if b<a then 1 else 0
def eo:ah->ah->Int
 | [],[]=>0
 | [],_::_=> -1
 | _::_,[]=>1
 | a::l,b::r=>if ji a b=0 then eo l r else ji a b
def df:ag->ag->Int
 | [],[]=>0
 | [],_::_=> -1
 | _::_,[]=>1
 | a::l,b::r=>if eo a b=0 then df l r else eo a b
theorem qP{a b:Int}:ji a b=0↔a=b:=by unfold ji;by_cases h:a<b<;>by_cases h':b<a<;>simp [h,h']<;>omega
theorem vp{a b:Int}:ji a b<0↔a<b:=by unfold ji;by_cases h:a<b<;>by_cases h':b<a<;>simp [h,h']<;>omega
theorem L6(a b:Int):ji b a= - ji a b:=by unfold ji;split<;>split<;>omega
theorem rM:∀ {a b:ah},eo a b=0↔a=b
 | [],[]=>by simp [eo]
 | [],_::_=>by simp [eo]
 | _::_,[]=>by simp [eo]
 | a::l,b::r=>by
  simp only [eo]
  split
  ·rename_i h;rw [rM,qP.1 h];simp
  ·rename_i h;constructor
   ·intro h';exact absurd h' h
   ·intro h';exact absurd (qP.2 (List.cons.inj h').1) h
theorem tb:∀ {a b:ag},df a b=0↔a=b
 | [],[]=>by simp [df]
 | [],_::_=>by simp [df]
 | _::_,[]=>by simp [df]
 | a::l,b::r=>by
  simp only [df]
  split
  ·rename_i h;rw [tb,rM.1 h];simp
  ·rename_i h;constructor
   ·intro h';exact absurd h' h
   ·intro h';exact absurd (rM.2 (List.cons.inj h').1) h
theorem IK:∀(a b:ah),eo b a= - eo a b
 | [],[]=>rfl
 | [],_::_=>rfl
 | _::_,[]=>rfl
 | a::l,b::r=>by
  simp only [eo];rw [L6 a b,IK l r]
  by_cases h:ji a b=0
  ·rw [aF h,aF (by omega)]
  ·rw [aB h,aB (by omega)]
theorem wI:∀(a b:ag),df b a= - df a b
 | [],[]=>rfl
 | [],_::_=>rfl
 | _::_,[]=>rfl
 | a::l,b::r=>by
  simp only [df];rw [IK a b,wI l r]
  by_cases h:eo a b=0
  ·rw [aF h,aF (by omega)]
  ·rw [aB h,aB (by omega)]
theorem IL:∀ {a b c:ah},eo a b<0->eo b c<0->eo a c<0
 | [],[],_,h,_=>by simp [eo]at h
 | [],_::_,[],_,h=>by simp [eo]at h
 | [],_::_,_::_,_,_=>by simp [eo]
 | _::_,[],_,h,_=>by simp [eo]at h
 | _::_,_::_,[],_,h=>by simp [eo]at h
 | a::l,b::r,c::s,h,h'=>by
  simp only [eo]at h h'|-
  by_cases e1:ji a b=0
  ·have:=qP.1 e1;subst this;rw [aF e1]at h
   by_cases e2:ji a c=0
   ·rw [aF e2]at h'|-;exact IL h h'
   ·rw [aB e2]at h'|-;exact h'
  ·rw [aB e1]at h;have jD:=vp.1 h
   by_cases e2:ji b c=0
   ·have:=qP.1 e2;subst this;rw [aB e1];exact h
   ·rw [aB e2]at h';have Ot:=vp.1 h';have Cc:ji a c<0:=vp.2 (by omega);rw [aB (by omega)];exact Cc
theorem yZ:∀ {a b c:ag},df a b<0->df b c<0->df a c<0
 | [],[],_,h,_=>by simp [df]at h
 | [],_::_,[],_,h=>by simp [df]at h
 | [],_::_,_::_,_,_=>by simp [df]
 | _::_,[],_,h,_=>by simp [df]at h
 | _::_,_::_,[],_,h=>by simp [df]at h
 | a::l,b::r,c::s,h,h'=>by
  simp only [df]at h h'|-
  by_cases e1:eo a b=0
  ·have:=rM.1 e1;subst this;rw [aF e1]at h
   by_cases e2:eo a c=0
   ·rw [aF e2]at h'|-;exact yZ h h'
   ·rw [aB e2]at h'|-;exact h'
  ·rw [aB e1]at h
   by_cases e2:eo b c=0
   ·have:=rM.1 e2;subst this;rw [aB e1];exact h
   ·rw [aB e2]at h';have Cc:eo a c<0:=IL h h';rw [aB (by omega)];exact Cc
def gy(N:Nat)(xss:ag):Nat->ag
 | 0=>dm N xss 0
 | k+1=>if df (dm N xss k) (gy N xss k)<0 then dm N xss k else gy N xss k
def ta(N:Nat)(xss:ag):ag:=gy N xss N
theorem ID{N:Nat}{xss:ag}:∀k,(¬df (dm N xss 0) (gy N xss k)<0)/\∀f:Nat,f<k->¬df (dm N xss f) (gy N xss k)<0
 | 0=> ⟨by show ¬df (dm N xss 0) (dm N xss 0)<0;rw [tb.2 rfl];omega,fun f hf=>by omega⟩
 | k+1=>by
  obtain⟨h0,h1⟩:=ID (N:=N) (xss:=xss) k;simp only [gy]
  split
  ·rename_i h;have tr:∀x,¬df x (gy N xss k)<0->¬df x (dm N xss k)<0:=fun x hx hc=>hx (yZ hc h)
   refine⟨tr _ h0,fun f hf=>?_⟩
   by_cases e:f=k
   ·subst e;rw [tb.2 rfl];omega
   ·exact tr _ (h1 f (by omega))
  ·rename_i h;refine⟨h0,fun f hf=>?_⟩
   by_cases e:f=k
   ·subst e;exact h
   ·exact h1 f (by omega)
theorem IC{N:Nat}{xss:ag}(hN:0<N):∀k,k<=N->∃f:Nat,f<N/\gy N xss k=dm N xss f
 | 0,_=> ⟨0,hN,rfl⟩
 | k+1,hk=>by
  simp only [gy]
  split
  ·exact⟨k,by omega,O⟩
  ·exact IC hN k (by omega)
theorem RZ{N:Nat}{xss:ag}(hN:0<N)(h0:dm N xss 0=xss):ta N xss=xss↔∀f:Nat,f<N->¬df (dm N xss f) xss<0:=by
 have hle:=ID (N:=N) (xss:=xss) N;constructor
 ·intro h f hf;have:=hle.2 f hf
  rwa [show gy N xss N=xss from h]at this
 intro h;obtain⟨f,hf,e⟩:=IC (xss:=xss) hN N (cO _);have h1:=h f hf;rw [<-e]at h1;have h2:=hle.1;rw [h0,wI]at h2;exact tb.1 (by show df (gy N xss N) xss=0;omega)
section
variable {n F:Nat}
def l8(L:ag)(n:Nat):Nat->Nat
 | 0=>1
 | a+1=>max (l8 L n a) ((cell L (a%n) (a / n:Nat)).toNat+1)
def RG(L:ag)(n a:Nat):Prop:=0<=cell L (a%n) (a / n:Nat)/\cell L (a%n) (a / n:Nat)<=l8 L n a/\a / n<l8 L n a
theorem Bg{ok:ag->Nat->Nat->Bool}{fin:ag->Bool}:∀(k at_ met:Nat) (M:ag),Inv n F M met at_->∀L∈grow n F ok fin k at_ met M,(l8 L n at_=met/\∀a,a<at_->RG L n a)->l8 L n (F*n)=F/\∀a,a<F*n->RG L n a
 | 0,_,_,_,_,L,hL,_=>by simp [grow]at hL
 | k+1,at_,met,M,h,L,hL,hG=>by
  simp only [grow]at hL
  split at hL
  ·rename_i ha
   split at hL
   ·rename_i hm;have h1:=hm.1;subst h1;rw [<-ha];exact hG
   ·simp at hL
  ·rename_i ha;have hp:=h.pos ha
   split at hL
   ·rename_i hk;have Cr:=(qW k _ _ _ (h.next ha hk) L hL).1;have CN:=h.kb;have hc:=Cr (at_%n) (at_ / n:Nat) hp.1 (Int.natCast_nonneg _) (Int.ofNat_lt.2 (by omega)) hk;have G8:=h.cells (at_%n) (at_ / n:Nat) hp.1 (Int.natCast_nonneg _) (Int.ofNat_lt.2 (by omega));refine Bg k _ _ _ (h.next ha hk) L hL ⟨?_,fun a Oj=>?_⟩
    ·show max (l8 L n at_) ((cell L (at_%n) (at_ / n:Nat)).toNat+1)=met;rw [hc,hG.1];omega
    ·by_cases e:a=at_
     ·subst e;refine⟨by rw [hc];exact hk,by rw [hc,hG.1];omega,by rw [hG.1];exact hp.2⟩
     ·exact hG.2 a (by omega)
   ·rename_i hk;rw [List.mem_flatMap]at hL;obtain⟨g,hg,hL⟩:=hL;have hr:=wS h ha hg
    split at hL
    ·simp at hL
    ·rename_i nC
     split at hL
     ·have h1:=h.put ha hk hr.1 hr.2.1 hr.2.2 nC;have Cr:=(qW k _ _ _ h1 L hL).1;have CN:=h.kb;have yg:cell (put M (at_%n) (at_ / n) g) (at_%n) (at_ / n:Nat)=g:=by
       rw [vo h.cM hp.1 (by omega) hr.2.2 (Int.natCast_nonneg _),aB (fun hc=>by have:=Int.ofNat.inj hc.2;omega),aF ⟨rfl,rfl⟩]
      have hc:=Cr (at_%n) (at_ / n:Nat) hp.1 (Int.natCast_nonneg _) (Int.ofNat_lt.2 (by omega)) (by rw [yg];omega);rw [yg]at hc;refine Bg k _ _ _ h1 L hL ⟨?_,fun a Oj=>?_⟩
      ·show max (l8 L n at_) ((cell L (at_%n) (at_ / n:Nat)).toNat+1)=max met (g+1);rw [hc,hG.1];omega
      ·by_cases e:a=at_
       ·subst e;refine⟨by rw [hc];omega,by rw [hc,hG.1];omega,by rw [hG.1];exact hp.2⟩
       ·exact hG.2 a (by omega)
     ·simp at hL
theorem To{m:Nat}{v:Int}(h0:0<=v)(h1:v<=m):fW (fH m) v=fH (max m (v.toNat+1)):=by
 unfold fW
 by_cases h:v<m
 ·rw [aF (xa.2 ⟨h0,h⟩),show max m (v.toNat+1)=m by omega]
 rw [aB (fun hm=>h (xa.1 hm).2),show max m (v.toNat+1)=m+1 by omega,TP,show v=(m:Int) by omega]
theorem MN{L:ag}{f:Nat}(hl:L.length=n)(hn:0<n)(hR:∀a,f*n<=a->a< (f+1)*n->RG L n a):expand L f (fH (l8 L n (f*n)))=fH (l8 L n ((f+1)*n)):=by
 have e1:(f+1)*n=f*n+n:=by rw [Nat.succ_mul]
 have key:∀j,j<=n->(L.take j).foldl (fun o p=>fW o (gi p f)) (fH (l8 L n (f*n)))=fH (l8 L n (f*n+j)):=by
  intro j
  induction j with
  | zero=>intro _;rfl
  | succ j ih=>
   intro hj;have eV:j<L.length:=by omega
   rw [gk eV,List.foldl_append,ih (by omega)];have GX:(f*n+j)%n=j:=by rw [Nat.mul_comm,Nat.mul_add_mod];exact Nat.mod_eq_of_lt (by omega)
   have GY:(f*n+j) / n=f:=by rw [Nat.mul_comm,Nat.mul_add_div hn];rw [Nat.div_eq_of_lt (by omega)];omega
   have hr:=hR (f*n+j) (by omega) (by omega);unfold RG at hr;rw [GX,GY]at hr;have hc:cell L j f=gi (L[j]) f:=by
    unfold cell;rw [show gl L j=L[j] by simp [gl,bX,dE eV]]
   show fW _ (gi L[j] f)=fH (max (l8 L n (f*n+j)) ((cell L ((f*n+j)%n) ((f*n+j) / n:Nat)).toNat+1));rw [GX,GY,<-hc];exact To hr.1 hr.2.1
 have:=key n (cO _);rw [eI (by omega)]at this;rw [e1];exact this
theorem E1{L:ag}(hl:L.length=n)(hn:0<n)(hm:l8 L n (F*n)=F)(hR:∀a,a<F*n->RG L n a):∀k i,i<=F->F<k+i->jP L k i (fH (l8 L n (i*n)))=fH F
 | 0,i,h1,h2=>by omega
 | k+1,i,h1,h2=>by
  simp only [jP]
  by_cases e:i=F
  ·subst e;rw [hm,rZ,aB (by omega)]
  ·have cW:i*n<F*n:=(Nat.mul_lt_mul_right hn).2 (by omega);have h3:=(hR (i*n) cW).2.2;rw [Nat.mul_div_cancel _ hn]at h3;rw [rZ,aF h3,Ej h3,MN hl hn (fun a h1 h2=>hR a (Nat.lt_of_lt_of_le h2 (Nat.mul_le_mul_right n (by omega))))];exact E1 hl hn hm hR k (i+1) (by omega) (by omega)
theorem TQ(N:Nat):gV N (fH N)=fH N:=by
 have hP:lO N (fH N):=⟨rZ N,by
  unfold fH;rw [List.nodup_iff_pairwise_ne,List.pairwise_map];exact List.nodup_range.imp (fun h e=>h (by omega)),fun x hx=>xa.1 hx⟩
 apply gj
 ·rw [EY,rZ]
 intro i h1 h2;rw [rZ]at h2;have:=hP.back h2;rw [Ej h2]at this;rw [<-bQ h1,this];simp [fH]
theorem M3(hF:0<F){L:ag}(hL:L∈nt n F (F*n+1) 0 1 (blank n F))(hn:0<n):dm F L 0=L:=by
 have hI:=Inv.blank (n:=n) (F:=F) hn hF;have hg:=(eO.1 hL).1;obtain⟨hm,hR⟩:=Bg _ _ _ _ hI L hg ⟨rfl,fun a ha=>by omega⟩;have BM:=(qW _ _ _ _ hI L hg).2;have hl:=BM.cM.1;have ho:cK F L 0=fH F:=by
  have:=E1 hl hn hm hR (F+1) 0 (by omega) (by omega);rw [Nat.zero_mul]at this;exact this
 unfold dm;rw [ho,TQ]
 conv=>rhs;rw [<-List.map_id L]
 apply ki;intro mv sQ;have hlen:=BM.cM.2 mv sQ;obtain⟨i,hi,rfl⟩:=fP.1 sQ;show ju (fH F) (fH F) L[i]=L[i]
 conv=>rhs;rw [<-Sb L[i],hlen]
 unfold ju;apply ki;intro x hx;have hx:=xa.1 hx;have hc:cell L i x=gi L[i] x:=by
  unfold cell;rw [show gl L i=L[i] by simp [gl,bX,dE hi]]
 have hv:=BM.inv (i:=i) (by omega) hx.1 hx.2;rw [hc]at hv;have e:gi L[i] x=((gi L[i] x).toNat:Int):=by omega
 rw [e];exact Ej (by omega)
end
end
section
variable{k F:Nat}
abbrev Mx:=ag
def kE(a b:Mx):Prop:=¬df b a<0
theorem DG{a b:Mx}(h:df a b<0):kE a b:=fun h'=>by rw [wI]at h';omega
theorem RW{a b:Mx}(h:kE a b)(h':kE b a):a=b:=by
 unfold kE at h h';rw [wI]at h;exact tb.1 (by omega)
theorem IA{a b:Mx}(h:kE a b):df a b<0\/a=b:=by
 by_cases e:a=b
 ·exact .inr e
 left;unfold kE at h;rw [wI]at h;have:df a b≠0:=fun h0=>e (tb.1 h0)
 omega
theorem IB{a b c:Mx}(h:kE a b)(h':kE b c):kE a c:=by
 rcases IA h with h | rfl
 ·rcases IA h' with h' | rfl
  ·exact DG (yZ h h')
  exact DG h
 exact h'
def mz(x:Mx):List Mx->Nat
 | []=>0
 | y::l=>if df y x<0 then mz x l+1 else 0
theorem Lz{x:Mx}{l:List Mx}(hk:k<l.length):mz x (l.drop k)=if df l[k] x<0 then mz x (l.drop (k+1))+1 else 0:=by
 rw [List.drop_eq_getElem_cons hk,mz]
def mR(x:Mx)(l:List Mx):List Mx:=l.take (mz x l)++x::l.drop (mz x l)
theorem Ic{α:Type}(x:α)(l:List α)(k:Nat):(l.take k++x::l.drop k).Perm (x::l):=by
 have h:(l.take k++x::l.drop k).Perm (x::(l.take k++l.drop k)):=pB
 rwa [List.take_append_drop]at h
theorem H9(x:Mx)(l:List Mx):(mR x l).Perm (x::l):=Ic x l _
theorem Qv(x y:Mx)(l:List Mx):mR x (y::l)=if df y x<0 then y::mR x l else x::y::l:=by
 unfold mR;rw [mz]
 split<;>simp
theorem Ia(x:Mx):∀ {l:List Mx},l.Pairwise kE->(mR x l).Pairwise kE
 | [],_=>by simp [mR,mz]
 | y::l,h=>by
  have h1:=List.pairwise_cons.1 h;rw [Qv]
  split
  ·rename_i hy;refine List.pairwise_cons.2 ⟨fun z hz=>?_,Ia x h1.2⟩;rcases kj.1 ((H9 x l).mem_iff.1 hz)with rfl | hz
   ·exact DG hy
   ·exact h1.1 z hz
  ·rename_i hy;refine List.pairwise_cons.2 ⟨fun z hz=>?_,h⟩;rcases kj.1 hz with rfl | hz
   ·exact hy
   ·exact IB hy (h1.1 z hz)
def pn(l:List Mx):List Mx:=l.foldl (fun o x=>mR x o) []
theorem SR(l:List Mx)(x:Mx):pn (l++ [x])=mR x (pn l):=by simp [pn,List.foldl_append]
theorem AP:∀(l o:List Mx),o.Pairwise kE->(l.foldl (fun o x=>mR x o) o).Pairwise kE/\(l.foldl (fun o x=>mR x o) o).Perm (l++o)
 | [],o,h=> ⟨h,List.Perm.refl _⟩
 | x::l,o,h=>by
  obtain⟨h1,h2⟩:=AP l (mR x o) (Ia x h);refine⟨h1,h2.trans (((H9 x o).append_left l).trans ?_)⟩;exact pB
theorem SS(l:List Mx):(pn l).Pairwise kE:=(AP l [] List.Pairwise.nil).1
theorem DX(l:List Mx):(pn l).Perm l:=by have:=(AP l [] List.Pairwise.nil).2;rwa [eG]at this
theorem SQ{l l':List Mx}(hp:l'.Perm l)(hs:l'.Pairwise kE):l'=pn l:=
 List.Perm.eq_of_pairwise (le:=kE) (fun _ _ _ _ h h'=>RW h h') hs (SS l) (hp.trans (DX l).symm)
def oY(n F:Nat):List Mx:=nt n F (F*n+1) 0 1 (blank n F)
def jz(N:Nat)(xss:Mx):Prop:=∀f,f<N->¬df (dm N xss (f:Nat)) xss<0
instance (N:Nat)(xss:Mx):Decidable (jz N xss):=by unfold jz;exact inferInstance
def ti(n F:Nat):List Mx:=(oY n F).filter fun L=>decide (jz F L)
def nM(n F:Nat):List Mx:=pn (ti n F)
theorem SU(n F:Nat):(ti n F).length<=(oY n F).length:=jN _ _
theorem R2(n F:Nat):(nM n F).length=(ti n F).length:=(DX _).length_eq
theorem xH{n:Nat}{L:Mx}(hn:0<n)(hF:0<F)(h:L∈oY n F):bN L/\Inv n F L F (F*n):=by
 have h1:=eO.1 h;exact⟨kc h1.2,(qW _ _ _ _ (Inv.blank hn hF) L h1.1).2⟩
theorem IM{n:Nat}{L:Mx}:L∈nM n F↔L∈oY n F/\jz F L:=by
 rw [nM,(DX _).mem_iff,ti,eO,decide_eq_true_iff]
theorem SV{n:Nat}{L:Mx}(hn:0<n)(hF:0<F)(h:L∈oY n F):ta F L=L↔jz F L:=RZ hF (M3 hF h hn)
end
section
open Go.RowKit
theorem Tz{rs:List aH}{l m:Nat}{j:Nat}(hj:j<m):rg ((rs.drop l).take m) j=rg rs ((l+j:Nat):Int):=by
 have e:(((l+j:Nat):Int)).toNat=l+j:=by omega
 rw [rg,rg,e];simp [bX,oQ,hj]
theorem QE(A:ai)(n c:Nat)(rs:List aH)(xss:ag)(w:aa)(hR:bu w A n rs xss)(hn:n<=c)(hc:c<=9223372036854775807):
 aG prog 66 [.agg #[.slice A n c]] w (fun v w'=>v= .bool (decide (bN xss))/\St w w' []):=by
 have eW:=hR.len;have r0:0<n->(gl xss 0).length=(rg rs 0).n:=fun h=>hR.jv (by omega) (by omega)
 refine bs func66 O ntmps66 O (bF O) (aY O (gS (St.refl w) O O ?_));intro Ab w1 hS;refine aq O (aO (zi _ _ _ _ _ _ (hS.rd 0 O) O) O ?_);rintro _ _ ⟨rfl,rfl⟩;refine aO (oK _ _ _ _) O ?_;rintro _ _ ⟨rfl,rfl⟩
 first | refine dv rfl rfl ?_ | refine eJ rfl rfl ?_
 refine aq O (bR 15 O (fun h1=>?_) (fun h1=>?_))
 ·refine au O (au O (au O (aA O ?_)));refine Cd.eP O (bV O (bG O ?_));exact⟨by rw [cb (fun h:bN xss=>by have:=h.1;omega)],hS.none⟩
 have hM:=hS.bE hR;have r0:=r0 (by omega);refine ar O (aO (qS _ _ _ _ _ _ _ _ (hS.rd 0 O) O hM (by omega)) O ?_);rintro _ _ ⟨rfl,rfl⟩;refine ar O (aO (oK _ _ _ _) O ?_);rintro _ _ ⟨rfl,rfl⟩;refine ar O ?_
 first | refine dv rfl rfl ?_ | refine eJ rfl rfl ?_
 refine aA O (aJ _ O (fun h3=>?_) (fun h3=>?_))
 ·refine bV O (bG O ?_);exact⟨by rw [cb (fun h:bN xss=>by have:=h.2.1;omega)],hS.none⟩
 refine aC O (aT (hS.rd 0 O) O (a7 (hS.rd 0 O) O ?_));refine aR O O (aA O ?_);refine Cd.loop (α:=Nat) (fun k=> [(1,.pointer Ab),(21,.slice A n c),(22,aj n),(23,aj k)]) (fun k w'=>St w w' [Bx 37 1 Ab [.slice A n c]]/\k<=n/\Part xss k) (fun k=>n - k) 0 (Wn O) ⟨hS,bk _,fun p hp=>by simp at hp⟩ ?_;rintro k e w2 ⟨ay,hk,hP⟩;have hM:=ay.bE hR;refine bH O (aJ _ O (fun h5=>?_) (fun h5=>?_))
 ·have lX:k<xss.length:=by omega
  have rk:=hR.jv (k:=(k:Int)) (by omega) (by omega);have bw:=hM.at_ (i:=k) (by omega) h5;refine aC O (Wf hM.top.2 O O O (by omega) h5 (bn hM.top O (aq O (aO (Qz _ _ _ _ _ bw) O ?_))));rintro _ w3 ⟨rfl,ax⟩;have aL:=ay.ao ax.below;have hM:=aL.bE hR
  first | refine dv rfl rfl ?_ | refine eJ rfl rfl ?_
  refine aq O (bR 30 O (fun h6=>?_) (fun h6=>?_))
  ·refine au O (au O (au O (au O (aA O ?_))));refine Cd.eP O (bV O (cy (b9 ?_)));refine bG O ?_;exact⟨by rw [cb (fun h:bN xss=>h6 ⟨(h.2.2.1.at_ lX).2.1,(h.2.2.1.at_ lX).2.2⟩)],aL.none⟩
  have h6:=fp.1 h6;refine ar O (aq O (ar O ?_));refine aO (tt _ _ _ _) O ?_;rintro _ _ ⟨rfl,rfl⟩;refine ar O (aO (qS _ _ _ _ _ _ _ _ (aL.rd 0 O) O hM (by omega)) O ?_);rintro _ _ ⟨rfl,rfl⟩;refine ar O (aA O ?_);refine aJ _ O (fun h7=>?_) (fun h7=>?_)
  ·refine bV O (cy (b9 ?_));refine bG O ?_;exact⟨by rw [cb (fun h:bN xss=>h7 (by have:=(h.2.2.1.at_ lX).1;omega))],aL.none⟩
  refine aC O (aI O (aM O (tQ ?_)));exact⟨k+1,by omega,(Wn O),aL,by omega,hP.step lX (by omega) h6.1 h6.2⟩
 have rD:=hP.all (by omega);have hs:=rD.sys;have fF:∀i:Int,0<=i->i<n->(rg rs i).n=(rg rs 0).n:=fun i h0 h1=>by
  have e1:=hR.jv h0 h1;have e2:=(rD _ (kS h0 (by omega))).1;omega
 refine bj O (bl (cn O ?_));refine aT (ay.rd 0 O) O (a7 (ay.rd 0 O) O ?_);refine aR O O (aA O ?_);refine Cd.loop (α:=Nat) (fun i=> [(1,.pointer Ab),(38,.slice A n c),(39,aj n),(40,aj i)]) (fun i w'=>St w w' [Bx 37 1 Ab [.slice A n c]]/\i<=n/\∀i',i'<i->∀k,k<n->i'+2<=k->∀f,f< (gl xss 0).length->Comm xss i' k f) (fun i=>n - i) 0 (Wn O) ⟨ay,bk _,fun i' bP=>by omega⟩ ?_;rintro i e w3 ⟨aL,hi,hC⟩;have hM:=aL.bE hR;refine bH O (aJ _ O (fun h6=>?_) (fun h6=>?_))
 ·refine aC O (Wf hM.top.2 O O O (by omega) h6 (bn hM.top O (aq O (aT (aL.rd 0 O) O (a7 (aL.rd 0 O) O ?_)))));refine aq O (aI O ?_);refine aT (aL.rd 0 O) O (a7 (aL.rd 0 O) O (aR O O (KW O O O ?_)));obtain⟨l,hl,Hr,yo⟩:∃l:Nat,min ((i:Int)+2) (n:Int)=(l:Int)/\l<=n/\(l=i+2\/(l=n/\n<=i+2)):=⟨min (i+2) n,by omega,by omega,by omega⟩;rw [hl];refine tD O O O (by omega) ?_;rw [eH];refine aR O O (aA O ?_);refine Cd.loop (α:=Nat) (fun j=> [(1,.pointer Ab),(38,.slice A n c),(39,aj n),(40,aj i),(6,.slice (rg rs i).a (rg rs i).n (rg rs i).c),(53,.slice (cutAt A c l) (n - l) (c - l)),(54,aj ((n - l:Nat):Int)),(55,aj j)]) (fun j w'=>St w w' [Bx 37 1 Ab [.slice A n c]]/\j<=n - l/\∀k',k'<l+j->k'<n->i+2<=k'->∀f,f< (gl xss 0).length->Comm xss i k' f) (fun j=>n - l - j) 0 (Wn O) ⟨aL,bk _,fun k' h1 _ _=>by omega⟩ ?_;rintro j e w4 ⟨aN,hj,vD⟩;have hM:=aN.bE hR;have o5:=hM.top.cut (c:=c) Hr (cO n) hn;refine bH O (aJ _ O (fun h7=>?_) (fun h7=>?_))
  ·have iL:j<n - l:=by omega
   have hk:l+j<n:=by omega
   have fK:i+2<=l+j:=by omega
   refine aC O (Wf o5.2 O O O (by omega) h7 (bn o5 O ?_));rw [Tz iL];generalize Hp:l+j=k at hk fK;have TB:=fF i (by omega) h6;have TC:=fF k (by omega) (by omega);refine aq O (aO (qS _ _ _ _ _ _ _ _ (aN.rd 0 O) O hM (by omega)) O ?_);rintro _ w4 ⟨rfl,rfl⟩;refine aA O ?_;refine Cd.loop (α:=Nat) (fun f=> [(1,.pointer Ab),(38,.slice A n c),(39,aj n),(40,aj i),(6,.slice (rg rs i).a (rg rs i).n (rg rs i).c),(53,.slice (cutAt A c l) (n - l) (c - l)),(54,aj ((n - l:Nat):Int)),(55,aj j),(8,.slice (rg rs k).a (rg rs k).n (rg rs k).c),(59,aj ((rg rs 0).n:Int)),(60,aj f)]) (fun f w'=>St w w' [Bx 37 1 Ab [.slice A n c]]/\f<=(gl xss 0).length/\∀f',f'<f->Comm xss i k f') (fun f=> (gl xss 0).length - f) 0 (Wn O) ⟨aN,bk _,fun f' kA=>by omega⟩ ?_;rintro f e w5 ⟨aV,hf,vE⟩;have hM:=aV.bE hR;have dt:=hM.at_ (i:=i) (by omega) h6;have fL:=hM.at_ (i:=k) (by omega) (by omega);refine bH O (aJ _ O (fun h8=>?_) (fun h8=>?_))
   ·have O5:=(hs _ (kS (k:=(i:Int)) (by omega) (by omega))).2 (f:Int) (by omega) (by omega);have Pg:=(hs _ (kS (k:=(k:Int)) (by omega) (by omega))).2 (f:Int) (by omega) (by omega);refine cj O ?_
    by_cases fJ:gi (gl xss i) f=gi (gl xss k) f
    ·
     refine cN [xS ((rg rs i).a) ((rg rs i).n) ((rg rs i).c),xI ((f:Int)),xP (az ((rg rs i).a) ((f:Int)).toNat),xI (gi (gl xss i) ((f:Int))),xS ((rg rs k).a) ((rg rs k).n) ((rg rs k).c),xI ((f:Int)),xP (az ((rg rs k).a) ((f:Int)).toNat),xI (gi (gl xss k) ((f:Int))),xB (true),xB (true),xU,xU,xU,xU,xU,xU,xU,xU,xU,xU,xU,xU,xU,xU,xU,xB (true)] O (da O) ?_ ?_
     ·exact⟨Dr O,Dr O,fun _ _ hb _ _=>aw (dt.ao hb).2 O Az,fun _ _ hb _ _=>a6 (dt.ao hb) O Az,Dr O,Dr O,fun _ _ hb _ _=>aw (fL.ao hb).2 O Az,fun _ _ hb _ _=>a6 (fL.ao hb) O Az,fun _ _ _ _ _=>Dk O (by exact aS Value.bool (dF fJ)),Dr O,Dr O,Dr O,Dr O,Dr O,Dr O,Dr O,Dr O,Dr O,Dr O,Dr O,Dr O,Dr O,Dr O,Dr O,Dr O,Dr O,av⟩
     intro u w6 ku _;have bg:=aV.ao ku;refine dM O (Cd.eP O ?_);refine bV O (cy (b9 (cy (b9 (cy (b9 ?_))))));refine bG O ?_;exact⟨by rw [cb (fun h:bN xss=> (h.2.2.2.1 i (by omega) k (by omega) fK f (by omega)).2 fJ)],bg.none⟩
    by_cases h9:gi (gl xss k) (gi (gl xss i) f)=gi (gl xss i) (gi (gl xss k) f)
    ·refine cN [xS ((rg rs i).a) ((rg rs i).n) ((rg rs i).c),xI ((f:Int)),xP (az ((rg rs i).a) ((f:Int)).toNat),xI (gi (gl xss i) ((f:Int))),xS ((rg rs k).a) ((rg rs k).n) ((rg rs k).c),xI ((f:Int)),xP (az ((rg rs k).a) ((f:Int)).toNat),xI (gi (gl xss k) ((f:Int))),xB (false),xB (false),xS ((rg rs k).a) ((rg rs k).n) ((rg rs k).c),xS ((rg rs i).a) ((rg rs i).n) ((rg rs i).c),xI ((f:Int)),xP (az ((rg rs i).a) ((f:Int)).toNat),xI (gi (gl xss i) ((f:Int))),xP (az ((rg rs k).a) (gi (gl xss i) ((f:Int))).toNat),xI (gi (gl xss k) (gi (gl xss i) ((f:Int)))),xS ((rg rs i).a) ((rg rs i).n) ((rg rs i).c),xS ((rg rs k).a) ((rg rs k).n) ((rg rs k).c),xI ((f:Int)),xP (az ((rg rs k).a) ((f:Int)).toNat),xI (gi (gl xss k) ((f:Int))),xP (az ((rg rs i).a) (gi (gl xss k) ((f:Int))).toNat),xI (gi (gl xss i) (gi (gl xss k) ((f:Int)))),xB (false),xB (false)] O (da O) ?_ ?_
     ·exact⟨Dr O,Dr O,fun _ _ hb _ _=>aw (dt.ao hb).2 O Az,fun _ _ hb _ _=>a6 (dt.ao hb) O Az,Dr O,Dr O,fun _ _ hb _ _=>aw (fL.ao hb).2 O Az,fun _ _ hb _ _=>a6 (fL.ao hb) O Az,fun _ _ _ _ _=>Dk O (by exact aS Value.bool (cb fJ)),Dr O,Dr O,Dr O,Dr O,fun _ _ hb _ _=>ar O (aw (dt.ao hb).2 O Az),fun _ _ hb _ _=>ar O (a6 (dt.ao hb) O Az),fun _ _ hb _ _=>ar O (aw (fL.ao hb).2 O Az),fun _ _ hb _ _=>ar O (a6 (fL.ao hb) O Az),Dr O,Dr O,Dr O,fun _ _ hb _ _=>ar O (aw (fL.ao hb).2 O Az),fun _ _ hb _ _=>ar O (a6 (fL.ao hb) O Az),fun _ _ hb _ _=>ar O (aw (dt.ao hb).2 O Az),fun _ _ hb _ _=>ar O (a6 (dt.ao hb) O Az),fun _ _ _ _ _=>Dk O (by exact aS Value.bool (cb (fun h=>h h9))),Dr O,av⟩
     intro u w6 ku _;have bg:=aV.ao ku;refine dM O (Cd.dO O ?_);refine aC O (aI O (aM O (tQ ?_)));refine⟨f+1,by omega,(Wn O),bg,by omega,fun f' kA=>?_⟩
     by_cases ef:f'=f
     ·subst ef;exact⟨h9,fJ⟩
     exact vE f' (by omega)
    refine cN [xS ((rg rs i).a) ((rg rs i).n) ((rg rs i).c),xI ((f:Int)),xP (az ((rg rs i).a) ((f:Int)).toNat),xI (gi (gl xss i) ((f:Int))),xS ((rg rs k).a) ((rg rs k).n) ((rg rs k).c),xI ((f:Int)),xP (az ((rg rs k).a) ((f:Int)).toNat),xI (gi (gl xss k) ((f:Int))),xB (false),xB (false),xS ((rg rs k).a) ((rg rs k).n) ((rg rs k).c),xS ((rg rs i).a) ((rg rs i).n) ((rg rs i).c),xI ((f:Int)),xP (az ((rg rs i).a) ((f:Int)).toNat),xI (gi (gl xss i) ((f:Int))),xP (az ((rg rs k).a) (gi (gl xss i) ((f:Int))).toNat),xI (gi (gl xss k) (gi (gl xss i) ((f:Int)))),xS ((rg rs i).a) ((rg rs i).n) ((rg rs i).c),xS ((rg rs k).a) ((rg rs k).n) ((rg rs k).c),xI ((f:Int)),xP (az ((rg rs k).a) ((f:Int)).toNat),xI (gi (gl xss k) ((f:Int))),xP (az ((rg rs i).a) (gi (gl xss k) ((f:Int))).toNat),xI (gi (gl xss i) (gi (gl xss k) ((f:Int)))),xB (true),xB (true)] O (da O) ?_ ?_
    ·exact⟨Dr O,Dr O,fun _ _ hb _ _=>aw (dt.ao hb).2 O Az,fun _ _ hb _ _=>a6 (dt.ao hb) O Az,Dr O,Dr O,fun _ _ hb _ _=>aw (fL.ao hb).2 O Az,fun _ _ hb _ _=>a6 (fL.ao hb) O Az,fun _ _ _ _ _=>Dk O (by exact aS Value.bool (cb fJ)),Dr O,Dr O,Dr O,Dr O,fun _ _ hb _ _=>ar O (aw (dt.ao hb).2 O Az),fun _ _ hb _ _=>ar O (a6 (dt.ao hb) O Az),fun _ _ hb _ _=>ar O (aw (fL.ao hb).2 O Az),fun _ _ hb _ _=>ar O (a6 (fL.ao hb) O Az),Dr O,Dr O,Dr O,fun _ _ hb _ _=>ar O (aw (fL.ao hb).2 O Az),fun _ _ hb _ _=>ar O (a6 (fL.ao hb) O Az),fun _ _ hb _ _=>ar O (aw (dt.ao hb).2 O Az),fun _ _ hb _ _=>ar O (a6 (dt.ao hb) O Az),fun _ _ _ _ _=>Dk O (by exact aS Value.bool (dF h9)),Dr O,av⟩
    intro u w6 ku _;have bg:=aV.ao ku;refine dM O (Cd.eP O ?_);refine bV O (cy (b9 (cy (b9 (cy (b9 ?_))))));refine bG O ?_;exact⟨by rw [cb (fun h:bN xss=>h9 (h.2.2.2.1 i (by omega) k (by omega) fK f (by omega)).1)],bg.none⟩
   refine bj O (bl (cn O (aI O (aM O (tQ ?_)))));refine⟨j+1,by omega,(Wn O),aV,by omega,fun k' cE dQ jo f' kA=>?_⟩
   by_cases ek:k'=k
   ·subst ek;exact vE f' (by omega)
   exact vD k' (by omega) dQ jo f' kA
  refine bj O (bl (cn O (aI O (aM O (tQ ?_)))));refine⟨i+1,by omega,(Wn O),aN,by omega,fun i' bP k' cE jo f' kA=>?_⟩
  by_cases ei:i'=i
  ·subst ei;exact vD k' (by omega) cE jo f' kA
  exact hC i' (by omega) k' cE jo f' kA
 have hB:=aL.rd 0 O;refine bj O (bl (lK O ?_));refine cN [xI (((rg rs 0).n:Int)),xP (az (Ab) 0),xS (A) (n) (c),.pr (fun v _=>∃A',v= .tuple #[.slice A' (gl xss 0).length (gl xss 0).length,aj (bq (gl xss 0).length xss (gl xss 0).length).2]),.pr (fun v _=>∃A',v= .tuple #[.slice A' (gl xss 0).length (gl xss 0).length,aj (bq (gl xss 0).length xss (gl xss 0).length).2]),.pr (fun v _=>∃A',v= .slice A' (gl xss 0).length (gl xss 0).length),xI ((bq (gl xss 0).length xss (gl xss 0).length).2),.pr (fun v _=>∃A',v= .slice A' (gl xss 0).length (gl xss 0).length),xI ((bq (gl xss 0).length xss (gl xss 0).length).2)] rfl (lx (lx (lx (cq.2 ⟨Yd.ct (fun _ _ _ h _=>h),(cq.2 ⟨Yd.ct (fun _ _ _ h _=>h),(cq.2 ⟨Yd.ct (fun _ _ _ h _=>h),(lx (cq.2 ⟨Yd.ct (fun _ _ _ h _=>h),(lx (fun _ h=>by cases h))⟩))⟩)⟩)⟩)))) ?_ ?_
 ·refine⟨?_,fun _ _ hb _ _=>aT (hB.below hb) O Az,fun _ _ hb _ _=>a7 (hB.below hb) O Az,?_,?_,?_,?_,?_,Dr O,av⟩
  ·intro e1 w1 hb hp aZ;refine aO (qS _ _ _ _ _ _ _ _ (hB.below hb) O (hM.ao hb) (by omega)) O ?_;rintro _ w2 ⟨rfl,ax⟩;subst ax;refine ak.n (d0 (by exact O))
  ·intro e1 w1 hb hp aZ;refine Wh (Jp A n c rs xss (gl xss 0).length _ (hM.ao hb) (by omega) hs rD.inj (by omega)) O (by rw [r0];rfl) O ?_;rintro _ w2 ⟨A',rfl,ax⟩;exact ak.n (ew.dn ax.below ⟨A',O⟩)
  ·intro e1 w1 hb hp aZ;obtain⟨A',NM⟩:=(hp 3 (by decide) rfl _ _ rfl rfl);refine KX O (by exact NM) O (ak.n ?_);exact ew.dn (Below.refl _ _) ⟨A',O⟩
  ·intro e1 w1 hb hp aZ;obtain⟨A',Bz⟩:=(hp 4 (by decide) rfl _ _ rfl rfl);refine ak.extract (by exact Bz) O O (ak.n ?_);exact ew.dn (Below.refl _ _) ⟨A',O⟩
  ·intro e1 w1 hb hp aZ;obtain⟨A',Bz⟩:=(hp 4 (by decide) rfl _ _ rfl rfl);refine ak.extract (by exact Bz) O O Az
  intro e1 w1 hb hp aZ;obtain⟨A',NN⟩:=(hp 5 (by decide) rfl _ _ rfl rfl);refine pE O (by exact NN) O (ak.n ?_);exact ew.dn (Below.refl _ _) ⟨A',O⟩
 intro u w6 ku _;have bg:=aL.ao ku;refine sd O (bG O ?_);refine⟨?_,bg.none⟩
 congr 1
 have ho:=DW hs (by omega);have hl:=RL hs (by omega);exact gJ.2 ⟨fun h=> ⟨by omega,by omega,rD,fun i' bP k' cE jo f' kA=>hC i' (by omega) k' (by omega) jo f' kA,ho.2 (hl.1 h)⟩,fun h=>hl.2 (ho.1 h.2.2.2.2)⟩
section
variable {P:Program} {N:Nat} {ops:Array Oper} {K:Env->aa->Prop} {rest:List Oper} {e:Env} {w:aa} {d:Nat} {ty:ad} {pos:String} {af:Array Edge} {x y:ae} {xt yt:ad}
theorem run_equal_bool[bK P xt .bool](a b:Bool):(Op.equal xt (.bool a) (.bool b)).run P w= .ok (a==b) w:=
 run_equalIn_bool w 9999 xt a b bK.out
theorem EM[bK P xt .bool]{a b:Bool}(hx:ev e x= .bool a)(hy:ev e y= .bool b)(hb:Nat.blt d N=true)(hK:ak P N ops K rest (br e d (.bool (!(a==b)))) w):
 ak P N ops K (⟨some d,.binOp .neq xt x y yt,ty,pos,af,none⟩::rest) e w:=
 .val (by simp [execOp,hx,hy,eqGuard,binOp,run_equal_bool]) hb hK
theorem KP[bK P xt .bool]{a b:Bool}(hx:ev e x= .bool a)(hy:ev e y= .bool b)(hb:Nat.blt d N=true)(hK:ak P N ops K rest (br e d (.bool (a==b))) w):
 ak P N ops K (⟨some d,.binOp .eql xt x y yt,ty,pos,af,none⟩::rest) e w:=
 .val (by simp [execOp,hx,hy,eqGuard,binOp,run_equal_bool]) hb hK
end
section
variable{t t':ad}
variable {P:Program} {N:Nat} {ops:Array Oper} {K:Env->aa->Prop} {rest:List Oper} {e:Env} {w0 w w':aa} {ks:List Ck} {d:Nat} {ty:ad} {pos:String} {af:Array Edge}
theorem ED{f0:Field}{z0 zf:ab}{b bf:Nat}[bK P t (.struct #[f0])][bL P t (.agg #[z0]) 1 b]{x0:ae}{v0:ab}(hI:bL P f0.type zf 1 bf)(ho:f0.offset=0)(h0:ev e x0=v0)(c0:v0.oneCell'=true)(hb:Nat.blt d N=true)(hK:ak P N ops K rest (br e d (.agg #[v0])) w):ak P N ops K (⟨some d,.build t #[(0,x0)],ty,pos,af,none⟩::rest) e w:=by
 obtain⟨inf,hi,fk,hs,iE⟩:=bL.get P t;obtain⟨Qs,bP,Qn,uG,Ow⟩:=hI.get P f0.type;have e0:v0.cells= #[v0]:=by cases v0<;>simp [Value.oneCell']at c0<;>rfl
 have ez:(Value.agg #[z0]).cells= #[z0]:=O;refine .val (w':=w) ?_ hb hK;simp [execOp,Instr.build,run_underlying (bK.out (P:=P) (t:=t)),sizeOf,typeInfo,zeroValue,hi,fk,bP,uG,ho,h0,e0,ez,Instr.fill]
theorem tB{el:ad}{z z0:ab}{b:Nat}[bK P t (.slice el)][bL P el z 1 b]{x0:ae}{A0:ai}{n0 c0:Nat}(hS:St w0 w ks)(h0:ev e x0= .agg #[.slice A0 n0 c0])(hz:z.cells= #[z0])(hb:Nat.blt d N=true)(hK:∀A w',St w0 w' (aQ el A 1 1 [⟨A0,n0,c0⟩]::ks)->ak P N ops K rest (br e d (.slice A 1 1)) w'):ak P N ops K (⟨some d,.buildSlice t 1 #[(0,x0)],ty,pos,af,none⟩::rest) e w:=by
 obtain⟨inf,hi,fk,hs,iE⟩:=bL.get P el;refine .val (w':=w.alloc (.cells #[.slice A0 n0 c0] el)) ?_ hb (hK _ _ (hS.alloc [.slice A0 n0 c0] el (by simp [maxLen]) O));simp [execOp,Instr.buildSlice,run_underlying (bK.out (P:=P) (t:=t)),sizeOf,typeInfo,zeroValue,hi,hs,fk,hz,Instr.fill,newRow,h0,zU,lg,Value.cells]
theorem EJ{x y:ae}{i j:Int}(hx:ev e x=aj i)(hy:ev e y=aj j)(hb:Nat.blt d N=true)(hK:ak P N ops K rest (br e d (aj (max i j))) w):
 ak P N ops K (⟨some d,.call ⟨.builtin .max, #[x,y], #[t,t']⟩,ty,pos,af,none⟩::rest) e w:=by
 have hm:(if i<j then j else i)=max i j:=by split<;>omega
 refine .val (w':=w) ?_ hb hK;simp [execOp,resolve,invoke,builtin,hx,hy,Builtin.max_,Builtin.max2,hm]
theorem va{el:ad}[bK P t (.slice el)]{x y:ae}{A:ai}{n c:Nat}(hx:ev e x= .slice A n c)(hy:ev e y= .slice none 0 0)(hb:Nat.blt d N=true)(hK:ak P N ops K rest (br e d (.bool A.isNone)) w):
 ak P N ops K (⟨some d,.binOp .eql t x y t',ty,pos,af,none⟩::rest) e w:=by
 have hr:(Op.equal t (.slice A n c) (.slice none 0 0)).run P w= .ok A.isNone w:=by
  show(Op.equalIn (9999+1) t (.slice A n c) (.slice none 0 0)).run P w=_;rw [Op.equalIn];cases A<;>simp [run_underlying (bK.out (P:=P) (t:=t))]
 exact .val (by simp [execOp,hx,hy,eqGuard,binOp,hr]) hb hK
end
theorem JO{t:ad}:∀ {rs:List aH} {xss:ag} {i:Nat} {xs:ah},rs.length=xss.length->i<rs.length->(cw t rs xss).set i (aE t (rs.getD i bA).a (rs.getD i bA).n (rs.getD i bA).c xs)=cw t rs (xss.set i xs)
 | [],_,_,_,_,h=>by simp at h
 | r::rs,[],_,_,h,_=>by simp at h
 | r::rs,x::xss,0,xs,_,_=>rfl
 | r::rs,x::xss,i+1,xs,h,hi=>by
  have:=JO (t:=t) (rs:=rs) (xss:=xss) (i:=i) (xs:=xs) (by simpa using h) (by simpa using hi);simpa [cw]using this
theorem rO{t1 t2:ad}{A:ai}{n c:Nat}{rs:List aH}{xss:ag}{pre ks:List Ck}{i:Nat}(hr:rs.length=xss.length)(hi:i<rs.length):(pre++ (aW t1 t2 A n c rs xss++ks))[pre.length+1+i]?=some (aE t2 (rs.getD i bA).a (rs.getD i bA).n (rs.getD i bA).c (xss.getD i [])):=by
 rw [mq (by omega),show pre.length+1+i - pre.length=i+1 by omega,mo (by simp [aW,tl hr];omega)];simpa [aW]using zm (t:=t2) hr hi
theorem I4{t1 t2:ad}{A:ai}{n c:Nat}{rs:List aH}{xss:ag}{pre ks:List Ck}{i:Nat}{xs:ah}(hr:rs.length=xss.length)(hi:i<rs.length):(pre++ (aW t1 t2 A n c rs xss++ks)).set (pre.length+1+i) (aE t2 (rs.getD i bA).a (rs.getD i bA).n (rs.getD i bA).c xs)=pre++ (aW t1 t2 A n c rs (xss.set i xs)++ks):=by
 rw [List.set_append_right _ _ (by omega),show pre.length+1+i - pre.length=i+1 by omega,List.set_append_left _ _ (by simp [aW,tl hr];omega)]
 congr 2
 simp only [aW,List.set_cons_succ];rw [JO hr hi]
section
variable {P:Program} {N:Nat} {ops:Array Oper} {K:Env->aa->Prop} {rest:List Oper} {e:Env} {w0 w w':aa} {ks pre:List Ck} {ty:ad} {pos:String} {af:Array Edge}
theorem tE{t t1 t2:ad}{z:ab}{b:Nat}[bL P t z 1 b]{a x:ae}{A:ai}{n c:Nat}{rs:List aH}{xss:ag}(i:Nat){f u:Int}(hS:St w0 w (pre++ (aW t1 t2 A n c rs xss++ks)))(hr:rs.length=xss.length)(hi:i<rs.length)(ha:ev e a= .pointer (az (rg rs i).a f.toNat))(hx:ev e x=aj u)(hj:f.toNat< (rg rs i).n)(hK:∀w',St w0 w' (pre++ (aW t1 t2 A n c rs (xss.set i ((gl xss i).set f.toNat u))++ks))->ak P N ops K rest e w'):ak P N ops K (⟨none,.store t a x,ty,pos,af,none⟩::rest) e w:=
 .mg (pre.length+1+i) hS (rO hr hi) ha hx hj fun w' h=>hK w' (by
  have e1:gl xss i=xss.getD i []:=by simp [gl]
  rw [e1,<-I4 (pre:=pre) (ks:=ks) hr hi];exact h)
end
structure bC where
 top:aH
 rs:List aH
 xss:ag
def bC.ok(m:bC):Prop:=m.xss.length=m.top.n
def bC.qN(t1 t2:ad)(m:bC):List Ck:=aW t1 t2 m.top.a m.top.n m.top.c m.rs m.xss
def b7(t1 t2:ad)(ms:List bC):List Ck:=ms.flatMap (bC.qN t1 t2)
theorem wJ(t1 t2:ad)(ms oF:List bC):b7 t1 t2 (ms++oF)=b7 t1 t2 ms++b7 t1 t2 oF:=by simp [b7,List.flatMap_append]
theorem DC(A:ai)(n c:Nat)(xs:ah)(w:aa)(hR:bS w A n xs)(hn:n<=1000000000):aG prog 151 [.slice A n c] w (fun v w'=>∃A' c',v= .slice A' n c'/\St w w' [aE 2 A' n c' xs]):=by
 refine bs func151 O ntmps151 O (bF O) (aY O (ic (St.refl w) O ?_));intro A1 w1 aD;have aD:St w w1 [aE 2 A1 0 0 []]:=aD;refine aq O (fS 0 aD O (aD.dh hR) O O O (by omega) (by omega) O ?_);intro A2 c2 w2 ay;rw [Nat.zero_add]at ay|-;refine bW O (dH O ?_);exact⟨A2,c2,O,ay⟩
theorem It(A:ai)(n c:Nat)(rs:List aH)(xss:ag)(w:aa)(hR:bu w A n rs xss)(hn:n<=1000000000)(hr:∀i,i<n->(rs.getD i bA).n<=1000000000):
 aG prog 247 [.slice A n c] w (fun v w'=>∃A' c' rs',v= .slice A' n c'/\rs'.length=n/\St w w' (aW 24 2 A' n c' rs' xss)):=by
 refine bs func247 O ntmps247 O (bF O) (aY O (ic (St.refl w) O ?_));intro A1 w1 aD;have aD:St w w1 [aQ 24 A1 0 0 []]:=aD;refine aA O (Cd.loop (α:=Nat×ai×Nat×List aH) (fun s=> [(0,.slice A n c),(3,.slice s.2.1 s.1 s.2.2.1),(4,aj (s.1:Int))]) (fun s w'=>St w w' (aQ 24 s.2.1 s.1 s.2.2.1 s.2.2.2::cw 2 s.2.2.2 (xss.take s.1))/\s.1<=n/\s.2.2.2.length=s.1) (fun s=>n - s.1) (0,A1,0,[]) (Wn O) ⟨aD,bk _,O⟩ ?_);rintro⟨k,A3,c3,ec⟩ e w2 ⟨ay,hk,hlen⟩;dsimp only at ay hk hlen|-;refine aY O (aR O O (aA O ?_));refine aJ _ O (fun h1=>?_) (fun h1=>?_)
 ·have cE:k<n:=by omega
  have hx:k<xss.length:=by rw [hR.len];exact cE
  refine aC O (Wf (ay.wP hR.top).2 O O O (by omega) h1 (bn (ay.wP hR.top) O (aO (DC _ _ _ _ _ (ay.dh (hR.at_ (i:=k) (by omega) h1)) (hr k cE)) O ?_)));rintro _ w3 ⟨A4,c4,rfl,aL⟩;have aL:=ay.call aL;refine mu aL O O O fun A5 w4 aN=>iU 2 aN O (aN.dB 0 O) O O O (by omega) (by omega) O fun A6 c6 w5 aV=>aq O (aI O (aM O (tQ ?_)));refine⟨(k+1,A6,c6,ec++ [⟨A4,(rg rs k).n,c4⟩]),by show n - (k+1)<n - k;omega,(Wn O),?_,cE,by simp [hlen]⟩;have e2:gl xss k=xss[k]:=by simp [gl,bX,dE hx]
  show St w w5 (aQ _ A6 (k+1) c6 (ec++ [_])::cw _ (ec++ [_]) (xss.take (k+1)));rw [gk hx,rX (by simp [hlen];omega)];have h5:St w w5 (aE 2 A4 (rg rs k).n c4 (gl xss k)::aQ 24 A6 (k+1) c6 (ec++ [⟨A4,(rg rs k).n,c4⟩])::cw 2 ec (xss.take k)):=aV.tail;rw [e2]at h5;refine h5.perm ((List.Perm.swap _ _ _).trans (List.Perm.cons _ ?_));exact gB (l₁:=[_])
 refine bj O (bl (dd O ?_));refine dH O ?_;have:k=n:=by omega
 subst this;rw [<-hR.len,List.take_length]at ay;exact⟨A3,c3,ec,O,hlen,by rw [<-hR.len];exact ay⟩
theorem bu.cM{w:aa}{A:ai}{n F:Nat}{rs:List aH}{M:ag}(hR:bu w A n rs M)(hs:jO n F M){k:Int}(h0:0<=k)(h1:k<n):(rg rs k).n=F:=by
 rw [<-hR.jv h0 h1];exact hs.2 _ (kS h0 (by rw [hs.1];exact h1))
theorem Iv(A:ai)(n c F:Nat)(rs:List aH)(M:ag)(i:Nat)(f:Int)(w:aa)(hR:bu w A n rs M)(hs:jO n F M)(hi:i<n)(hf:f<F):
 aG prog 277 [.slice A n c,aj i,aj f] w (fun v w'=>v=aj (kn M i f)/\w'=w):=by
 have hn:=hR.cM hs (k:=(i:Int)) (by omega) (by omega);refine bs func277 O ntmps277 O (bF O) (bH O ?_);refine aJ _ O (fun h=>?_) (fun h=>?_)
 ·refine bV O (eF O ?_);exact⟨by unfold kn;rw [if_pos h],O⟩
 refine aC O (aw hR.top.2 O (bn hR.top O (aq O (aw (hR.at_ (i:=i) (by omega) (by omega)).2 O (a6 (hR.at_ (i:=i) (by omega) (by omega)) O (bW O (eF O ?_)))))));exact⟨by unfold kn;rw [if_neg h];rfl,O⟩
def zM(n F:Nat)(M:ag):Prop:=∀(i:Nat) (f:Int),i<n->0<=f->f<F->cell M i f<F
theorem Inv.jK{n F:Nat}{M:ag}{met at_:Nat}(h:Inv n F M met at_):zM n F M:=fun i f hi h0 hf=>by
 have:=h.kb;rcases h.cells i f hi h0 hf with h1 | h1
 ·omega
 omega
theorem RE(A:ai)(n c F:Nat)(rs:List aH)(M:ag)(f:Nat)(w:aa)(hR:bu w A n rs M)(hs:jO n F M)(hg:zM n F M)(hn:n<=1000)(hf:f<F):
 aG prog 248 [.slice A n c,aj f] w (fun v w'=>v= .bool (decide (lJ M f))/\St w w' []):=by
 have hlen:=hs.1;refine bs func248 O ntmps248 O (bF O) ?_;refine aY O (aR O O (aA O ?_));refine Cd.loop (α:=Nat) (fun i=> [(0,.slice A n c),(1,aj f),(5,aj n),(6,aj i)]) (fun i w'=>St w w' []/\i<=n/\∀i',i'<i->∀k,k<n->i'+2<=k->tz M i' k f) (fun i=>n - i) 0 (Wn O) ⟨St.refl w,bk _,fun i' h=>by omega⟩ ?_;rintro i e w1 ⟨aD,hi,hI⟩;refine bH O (aJ _ O (fun h1=>?_) (fun h1=>?_))
 ·refine aC O (aI O (aA O ?_));refine Cd.loop (α:=Nat) (fun k=> [(0,.slice A n c),(1,aj f),(5,aj n),(6,aj i),(7,aj k)]) (fun k w'=>St w w' []/\i+2<=k/\∀k',k'<k->k'<n->i+2<=k'->tz M i k' f) (fun k=>n+1 - k) (i+2) (Wn O) ⟨aD,cO _,fun k' _ _ _=>by omega⟩ ?_;rintro k e w2 ⟨ay,fK,hK⟩;refine bH O (aJ _ O (fun h2=>?_) (fun h2=>?_))
  ·have hM:=ay.bE hR;have dt:=hM.at_ (i:=i) (by omega) h1;have fF:=hM.at_ (i:=k) (by omega) h2;have ni:=hM.cM hs (k:=(i:Int)) (by omega) h1;have nk:=hM.cM hs (k:=(k:Int)) (by omega) h2;refine cj O ?_;refine cN [xS (A) (n) (c),xI ((i:Int)),xP (az (A) ((i:Int)).toNat),xS ((rg (rs) ((i:Int))).a) ((rg (rs) ((i:Int))).n) ((rg (rs) ((i:Int))).c),xI ((f:Int)),xP (az ((rg (rs) ((i:Int))).a) ((f:Int)).toNat),xI (gi (gl M i) ((f:Int))),xS (A) (n) (c),xI ((k:Int)),xP (az (A) ((k:Int)).toNat),xS ((rg (rs) ((k:Int))).a) ((rg (rs) ((k:Int))).n) ((rg (rs) ((k:Int))).c),xI ((f:Int)),xP (az ((rg (rs) ((k:Int))).a) ((f:Int)).toNat),xI (gi (gl M k) ((f:Int))),xI (gi (gl M i) ((f:Int))),xI (gi (gl M k) ((f:Int)))] O (da O) ?_ ?_
   ·exact⟨Dr O,Dr O,fun _ _ hb _ _=>aw (hM.top.ao hb).2 O Az,fun _ _ hb _ _=>bn (hM.top.ao hb) O Az,Dr O,fun _ _ hb _ _=>aw (dt.ao hb).2 O Az,fun _ _ hb _ _=>a6 (dt.ao hb) O Az,Dr O,Dr O,fun _ _ hb _ _=>aw (hM.top.ao hb).2 O Az,fun _ _ hb _ _=>bn (hM.top.ao hb) O Az,Dr O,fun _ _ hb _ _=>aw (fF.ao hb).2 O Az,fun _ _ hb _ _=>a6 (fF.ao hb) O Az,Dr O,Dr O,av⟩
   intro u w3 dZ _;have aL:=ay.ao dZ;have hM:=aL.bE hR;refine Ky 0 O (oN (α:=Unit) (fun _=> [(0,.slice A n c),(1,aj f),(5,aj n),(6,aj i),(7,aj k),(8,aj (cell M i f)),(9,aj (cell M k f))]) (fun _ w'=>w'=w3/\(0<=cell M i f->cell M i f≠cell M k f)) ?_ ?_)
   ·refine aY O (bR 42 O (fun h3=>?_) (fun h3=>?_))
    ·refine ar O (aq O (ar O (aq O (ar O (aA O ?_)))));refine aJ _ O (fun h4=>?_) (fun h4=>?_)
     ·refine bV O (cy (b9 (cy (b9 (cy (b9 ?_))))));refine bG O ?_;exact⟨by rw [cb (fun hF:lJ M f=> (hF i (by omega) k (by omega) fK).1 h3 h4)],aL⟩
     refine sc O (tQ ?_);exact⟨(),(Wn O),O,fun _=>h4⟩
    refine au O (au O (au O (aA O ?_)));refine Cd.dO O (sc O (tQ ?_));exact⟨(),(Wn O),O,fun h=>absurd h h3⟩
   rintro _ e w3 ⟨rfl,cG⟩;have Nf:=hg i f (by omega) (by omega) (by omega);have Nh:=hg k f (by omega) (by omega) (by omega);refine aC O (aO (Iv A n c F rs M k _ _ hM hs (by omega) Nf) O ?_);rintro _ w4 ⟨rfl,rfl⟩;refine aq O (aO (Iv A n c F rs M i _ _ hM hs (by omega) Nh) O ?_);rintro _ w5 ⟨rfl,rfl⟩;have tW:∀ {w':aa} {e':Env},(0<=kn M k (cell M i f)->0<=kn M i (cell M k f)->kn M k (cell M i f)=kn M i (cell M k f))->∀k',k'<k+1->k'<n->i+2<=k'->tz M i k' f:=fun hk k' cE dQ jo=>by
    by_cases ek:k'=k
    ·subst ek;exact⟨cG,hk⟩
    exact hK k' (by omega) dQ jo
   refine aq O (bR 57 O (fun h3=>?_) (fun h3=>?_))
   ·refine ar O (aq O (ar O (aq O ?_)));refine bR 61 O (fun h4=>?_) (fun h4=>?_)
    ·refine ar O (aq O (ar O (aq O (ar O (aA O ?_)))));refine aJ _ O (fun h5=>?_) (fun h5=>?_)
     ·refine bV O (cy (b9 (cy (b9 ?_))));refine bG O ?_;exact⟨by rw [cb (fun hF:lJ M f=>h5 ((hF i (by omega) k (by omega) fK).2 h3 h4))],aL⟩
     refine aC O (aI O (aM O (tQ ?_)));exact⟨k+1,by omega,(Wn O),aL,by omega,tW (w':=w) (e':=e) (fun _ _=>fp.1 h5)⟩
    refine au O (au O (au O (aA O ?_)));refine Cd.dO O (aC O (aI O (aM O (tQ ?_))));exact⟨k+1,by omega,(Wn O),aL,by omega,tW (w':=w) (e':=e) (fun _ h=>absurd h h4)⟩
   refine au O (au O (aq O (au O (au O (au O (aA O ?_))))));refine Cd.dO O (aC O (aI O (aM O (tQ ?_))));exact⟨k+1,by omega,(Wn O),aL,by omega,tW (w':=w) (e':=e) (fun h=>absurd h h3)⟩
  refine bj O (bl (cn O (aI O (aM O (tQ ?_)))));refine⟨i+1,by omega,(Wn O),ay,by omega,fun i' bP k' cE jo=>?_⟩
  by_cases ei:i'=i
  ·subst ei;exact hK k' (by omega) cE jo
  exact hI i' (by omega) k' cE jo
 refine bj O (bl (dd O ?_));refine bG O ?_;exact⟨by rw [dF (show lJ M f from fun i' bP k' cE jo=>hI i' (by omega) k' (by omega) jo)],aD⟩
theorem S9{α:Type}(a b c:List α)(x:α):(a++ (x::(b++c))).Perm (x::(b++ (a++c))):=
 pB.trans (List.Perm.cons _ (by rw [<-fB,<-fB];exact List.Perm.append_right c gB))
theorem S4{α:Type}(a b c d:List α):(a++ (b++ (c++d))).Perm (b++ ((c++a)++d)):=by
 have h1:=List.Perm.append_right (c++d) (gB (l₁:=a) (l₂:=b));rw [fB,fB]at h1;have h2:=List.Perm.append_right d (gB (l₁:=a) (l₂:=c));rw [fB]at h2;exact h1.trans (List.Perm.append_left _ h2)
theorem Bh{n F:Nat}{ok:ag->Nat->Nat->Bool}{fin:ag->Bool}{M:ag}{met:Nat}:∀(s fuel at_:Nat),at_+s<=met*n->(∀a,at_<=a->a<at_+s->0<=cell M (a%n) (a / n:Nat))->grow n F ok fin (fuel+s) at_ met M=grow n F ok fin fuel (at_+s) met M
 | 0,fuel,at_,_,_=>rfl
 | s+1,fuel,at_,hle,hk=>by
  rw [<-Nat.add_assoc];show(if _ then _ else _)=_;rw [aB (by omega),aF (hk at_ (cO _) (by omega)),Bh s fuel (at_+1) (by omega) (fun a h1 h2=>hk a (by omega) (by omega))]
  congr 1;omega
theorem Inv.upto{n F:Nat}{M:ag}{met at_:Nat}(h:Inv n F M met at_):∀(b:Nat),at_<=b->b<=met*n->(∀a,a<b->0<=cell M (a%n) (a / n:Nat))->Inv n F M met b:=fun b _ hb hk=>
 ⟨h.cM,h.n0,h.tc,h.kb,h.cells,hk,h.tR,hb⟩
def body(n F:Nat)(ok:ag->Nat->Nat->Bool)(fin:ag->Bool)(k at_ met:Nat)(M:ag)(g:Nat):List (ag):=
 if 0<=cell M (at_%n) (g:Nat)then []else if ok (put M (at_%n) (at_ / n) g) (at_%n) (at_ / n)=true then grow n F ok fin k (at_+1) (max met (g+1)) (put M (at_%n) (at_ / n) g)else []
theorem F5{n F:Nat}{ok:ag->Nat->Nat->Bool}{fin:ag->Bool}{k at_ met:Nat}{M:ag}(ha:at_≠met*n)(hk:¬0<=cell M (at_%n) (at_ / n:Nat)):
 grow n F ok fin (k+1) at_ met M=(List.range' (at_ / n+1) (min met (F - 1) - at_ / n)).flatMap (body n F ok fin k at_ met M):=by
 show(if _ then _ else _)=_;rw [aB ha,aB hk];rfl
theorem D6{α:Type}(f:Nat->List α){s c g:Nat}(h1:s<=g)(h2:g<s+c):(List.range' s (g+1 - s)).flatMap f=(List.range' s (g - s)).flatMap f++f g:=by
 rw [show g+1 - s=(g - s)+1 by omega,List.range'_concat,List.flatMap_append];simp [show s+ (g - s)=g by omega]
theorem JG{α:Type}(f:Nat->List α){s c g:Nat}(h1:s<=g)(h2:g<s+c):((List.range' s (g - s)).flatMap f).length+ (f g).length<=((List.range' s c).flatMap f).length:=by
 have e:List.range' s c=List.range' s (g+1 - s)++List.range' (g+1) (c - (g+1 - s)):=by
  rw [show c=(g+1 - s)+ (c - (g+1 - s)) by omega,<-List.range'_append_1]
  congr 2<;>omega
 rw [e,List.flatMap_append,D6 f h1 h2];simp only [dS];omega
theorem RF(n F:Nat)(wa:n<=5)(hF:2<=F/\F<=400):∀(fuel at_ met:Nat) (M:ag),Inv n F M met at_->F*n+1<=fuel+at_->∀(w0 w:aa) (ks:List Ck) (Ao:ai) (no co:Nat) (outs:List aH) (A:ai) (c:Nat) (rs:List aH),
 St w0 w (aQ 37 Ao no co outs::(aW 24 2 A n c rs M++ks))->no+ (grow n F (lG F) (fun _=>true) fuel at_ met M).length<=4000000000000->
 aG prog 197 [.slice A n c,aj F,aj met,.slice Ao no co] w (fun v w'=>∃A' c',∃new:List bC,v= .slice A' (no+new.length) c'/\(∀m∈new,m.ok)/\new.map (·.xss)=grow n F (lG F) (fun _=>true) fuel at_ met M/\
  St w0 w' (aQ 37 A' (no+new.length) c' (outs++new.map (·.top))::(aW 24 2 A n c rs M++ (b7 24 2 new++ks)))):=by
 intro fuel
 induction fuel using Nat.strongRecOn with
 | _ fuel ih=>
 intro at_ met M hI OZ w0 w ks Ao no co outs A c rs hS hB;have k5:=hI.n0;have ry:=hI.kb;have hlen:=hI.cM.1;have k4:met*n<=2000:=gm (Nat.mul_le_mul hI.kb wa) (by have:F*5<=400*5:=Nat.mul_le_mul_right 5 hF.2;omega);have sw:((met:Int)* (n:Int))=((met*n:Nat):Int):=O;have Er:∀ {w':aa} {o:Ck} {jt:List Ck},St w0 w' (o::(aW 24 2 A n c rs M++jt))->bu w' A n rs M:=fun h=>h.tail.jL hlen
 refine bs func197 O ntmps197 O (bF O) ?_;refine aY O (aR O O (aA O ?_));refine Cd.loop (α:=Nat) (fun a=> [(0,.slice A n c),(1,aj F),(2,aj met),(3,.slice Ao no co),(9,aj n),(10,aj a)]) (fun a w'=>Below w.heap.size w w'/\a<=met*n/\∀b,b<a->0<=cell M (b%n) (b / n:Nat)) (fun a=>met*n - a) 0 (Wn O) ⟨Below.refl _ _,bk _,fun b hb=>by omega⟩ ?_;rintro a e w1 ⟨dT,ha,hk⟩;have aD:=hS.ao dT;have hR:=Er aD;refine bH O ?_
 by_cases h1:(a:Int)< ((met*n:Nat):Int)
 ·have PD:a%n<n/\a / n<met:=⟨Nat.mod_lt _ k5,Nat.div_lt_of_lt_mul (by rw [Nat.mul_comm];omega)⟩;have bw:=hR.at_ (i:=((a%n:Nat):Int)) (Int.natCast_nonneg _) (by omega);have eM:=hR.cM hI.cM (k:=((a%n:Nat):Int)) (Int.natCast_nonneg _) (by omega);generalize hr:a%n=r at*;generalize hq:a / n=q at*;have CP:(a:Int)% (n:Int)=((r:Nat):Int):=by rw [<-hr];rfl
  have hdiv:(a:Int) / (n:Int)=((q:Nat):Int):=by rw [<-hq];rfl
  by_cases h2:0<=cell M r q
  ·--dup 3
   refine cN [xI ((a:Int)),xI ((met:Int)),xI ((n:Int)),xI (((met*n:Nat):Int)),xB (true),xB (true),xS (A) (n) (c),xI ((a:Int)),xI ((n:Int)),xI ((r:Int)),xP (az (A) ((r:Int)).toNat),xS ((rg (rs) ((r:Int))).a) ((rg (rs) ((r:Int))).n) ((rg (rs) ((r:Int))).c),xI ((a:Int)),xI ((n:Int)),xI ((q:Int)),xP (az ((rg (rs) ((r:Int))).a) ((q:Int)).toNat),xI (gi (gl M r) ((q:Int))),xB (true),xB (true)] O (da O) ?_ ?_
   ·refine⟨Dr O,Dr O,Dr O,fun _ _ _ _ _=>ak.mul O O O (by rw [sw];omega) Az,fun _ _ _ _ _=>Dk O (by exact aS Value.bool (dF h1)),Dr O,Dr O,Dr O,Dr O,?_,fun _ _ hb _ _=>ar O (aw (hR.top.ao hb).2 O Az),fun _ _ hb _ _=>ar O (bn (hR.top.ao hb) O Az),Dr O,Dr O,?_,fun _ _ hb _ _=>ar O (aw (bw.ao hb).2 O Az),fun _ _ hb _ _=>ar O (a6 (bw.ao hb) O Az),fun _ _ _ _ _=>Dk O (by exact aS Value.bool (dF h2)),Dr O,av⟩
    ·intro e1 w1 hb hp aZ;refine ar O (ak.rem O O O (by omega) ?_);rw [CP];refine ak.n (d0 (by exact O))
    ·intro e1 w1 hb hp aZ;refine ar O (ak.quo O O O (by omega) ?_);rw [hdiv];refine ak.n (d0 (by exact O))
   intro u w2 gK _;have gK:=dT.trans (gK.mono dT.size);refine dM O (Cd.eP O ?_);refine aC O (aI O (aM O (tQ ?_)));refine⟨a+1,by omega,(Wn O),gK,by omega,fun b hb=>?_⟩
   by_cases eb:b=a
   ·subst eb;rw [hr,hq];exact h2
   ·exact hk b (by omega)
  ·refine cN [.ex (aj ((a:Int))),.ex (aj ((met:Int))),.ex (aj ((n:Int))),.ex (aj (((met*n:Nat):Int))),.ex (.bool (true)),.ex (.bool (true)),.ex (.slice (A) (n) (c)),.ex (aj ((a:Int))),.ex (aj ((n:Int))),.ex (aj ((r:Int))),.ex (.pointer (az (A) ((r:Int)).toNat)),.ex (.slice ((rg (rs) ((r:Int))).a) ((rg (rs) ((r:Int))).n) ((rg (rs) ((r:Int))).c)),.ex (aj ((a:Int))),.ex (aj ((n:Int))),.ex (aj ((q:Int))),.ex (.pointer (az ((rg (rs) ((r:Int))).a) ((q:Int)).toNat)),.ex (aj (gi (gl M r) ((q:Int)))),.ex (.bool (false)),.ex (.bool (false))] O (da O) ?_ ?_
   ·refine⟨Dr O,Dr O,Dr O,fun _ _ _ _ _=>ak.mul O O O (by rw [sw];omega) Az,fun _ _ _ _ _=>Dk O (by exact aS Value.bool (dF h1)),Dr O,Dr O,Dr O,Dr O,?_,fun _ _ hb _ _=>ar O (aw (hR.top.ao hb).2 O Az),fun _ _ hb _ _=>ar O (bn (hR.top.ao hb) O Az),Dr O,Dr O,?_,fun _ _ hb _ _=>ar O (aw (bw.ao hb).2 O Az),fun _ _ hb _ _=>ar O (a6 (bw.ao hb) O Az),fun _ _ _ _ _=>Dk O (by exact aS Value.bool (cb h2)),Dr O,av⟩
    ·intro e1 w1 hb hp aZ;refine ar O (ak.rem O O O (by omega) ?_);rw [CP];refine ak.n (d0 (by exact O))
    ·intro e1 w1 hb hp aZ;refine ar O (ak.quo O O O (by omega) ?_);rw [hdiv];refine ak.n (d0 (by exact O))
   intro u w2 gK _;have ay:=aD.ao gK;refine dM O (Cd.dO O ?_);refine bj O (bl (cn O ?_));refine ak.mul O O O (by rw [sw];omega) ?_;refine aA O ?_;refine kJ O (by rw [sw];omega) ?_;refine cj O (cN [xI ((a:Int)),xI ((n:Int)),xI ((q:Int)),xI ((a:Int)),xI ((n:Int)),xI ((r:Int)),xI ((q:Int)),xI ((r:Int))] O (da O) ?_ ?_)
   ·refine⟨Dr O,Dr O,?_,Dr O,Dr O,?_,Dr O,Dr O,av⟩
    ·intro e1 w1 hb hp aZ;refine ak.quo O O O (by omega) ?_;rw [hdiv];refine ak.n (d0 (by exact O))
    ·intro e1 w1 hb hp aZ;refine ak.rem O O O (by omega) ?_;rw [CP];refine ak.n (d0 (by exact O))
   intro u w3 dZ _;have aL:=ay.ao dZ;refine ib O (aI O (aA O ?_));have Gr:=hI.upto a (by
    apply kK;intro cW;exact h2 (by rw [<-hr,<-hq];exact hI.known a (by omega))) (by omega) hk
   have sD:a≠met*n:=by omega
   have Ps:met*n<=F*n:=Nat.mul_le_mul_right n ry;have lq:at_<=a:=by
    apply kK;intro cW;exact h2 (by rw [<-hr,<-hq];exact hI.known a (by omega))
   obtain⟨f',rfl⟩:∃f',fuel=f'+1+ (a - at_):=⟨fuel - 1 - (a - at_),by omega⟩;have aZ:¬0<=cell M (a%n) (a / n:Nat):=by rw [hr,hq];exact h2
   have jF:grow n F (lG F) (fun _=>true) (f'+1+ (a - at_)) at_ met M=(List.range' (q+1) (min met (F - 1) - q)).flatMap (body n F (lG F) (fun _=>true) f' a met M):=by
    rw [Bh (a - at_) (f'+1) at_ (by omega) (fun b h1 h2=>hk b (by omega)),show at_+ (a - at_)=a by omega,F5 sD aZ,hq]
   rw [jF]at hB|-;refine Cd.loop (α:=Nat×ai×Nat×List bC) (fun z=> [(0,.slice A n c),(1,aj F),(2,aj met),(3,.slice z.2.1 (no+z.2.2.2.length) z.2.2.1),(9,aj n),(11,aj q),(12,aj r),(13,aj (z.1:Int))])
    (fun z w'=>St w0 w' (aQ 37 z.2.1 (no+z.2.2.2.length) z.2.2.1 (outs++z.2.2.2.map (·.top))::(aW 24 2 A n c rs M++ (b7 24 2 z.2.2.2++ks)))/\q+1<=z.1/\z.1<=q+1+ (min met (F - 1) - q)/\(∀m∈z.2.2.2,m.ok)/\z.2.2.2.map (·.xss)=(List.range' (q+1) (z.1 - (q+1))).flatMap (body n F (lG F) (fun _=>true) f' a met M))
    (fun z=>q+2+ (min met (F - 1) - q) - z.1) (q+1,Ao,co,[]) ⟨rfl,rfl,rfl,rfl,rfl,rfl,rfl,rfl,av⟩ ⟨by simpa [b7]using aL,cO _,Nat.le_add_right _ _,(fun m hm=>by cases hm),by simp⟩ ?_
   rintro⟨g,Ag,cg,new⟩ e w4 ⟨aN,sJ,Cu,mM,l7⟩;dsimp only at aN sJ Cu mM l7|-;refine aY O (bR 66 O (fun h3=>?_) (fun h3=>?_))
   ·refine ar O (aq O (ar O (aq O (ar O (aA O ?_)))));refine aJ _ O (fun h4=>?_) (fun h4=>?_)
    ·have kY:g<q+1+ (min met (F - 1) - q):=by omega
     have ik:=Er aN;have bw:=ik.at_ (i:=(r:Int)) (by omega) (by omega);have gY:=D6 (body n F (lG F) (fun _=>true) f' a met M) sJ kY;have Da:=JG (body n F (lG F) (fun _=>true) f' a met M) sJ kY;have gX:new.length=((List.range' (q+1) (g - (q+1))).flatMap (body n F (lG F) (fun _=>true) f' a met M)).length:=by rw [<-l7];simp
     refine aC O (aw ik.top.2 O (bn ik.top O (aq O (aw bw.2 O (a6 bw O (aA O ?_))))));refine aJ _ O (fun h5=>?_) (fun h5=>?_)
     ·have im:body n F (lG F) (fun _=>true) f' a met M g=[]:=by unfold body;rw [hr,if_pos (show 0<=cell M r g from h5)]
      refine aC O (aI O (aM O (tQ ?_)));refine⟨(g+1,Ag,cg,new),by show _ - (g+1)<_ - g;omega,(Wn O),aN,by show q+1<=g+1;omega,by show g+1<=_;omega,mM,?_⟩;show new.map _=(List.range' (q+1) (g+1 - (q+1))).flatMap _;rw [gY,im,eG,l7]
     ·refine aC O ?_;refine aO (It A n c rs M _ ik (by omega) (fun i hi=>by have:=ik.cM hI.cM (k:=(i:Int)) (by omega) (by omega);simp only [rg,eH]at this;omega)) O ?_;rintro _ w5 ⟨A5,c5,kf,rfl,CH,ax⟩;have aV:=aN.call ax;have oo:=aV.jL hlen;have PR:=oo.at_ (i:=(r:Int)) (by omega) (by omega);have wa:=oo.cM hI.cM (k:=(r:Int)) (by omega) (by omega);refine aq O (aw oo.top.2 O (bn oo.top O (aq O (aw PR.2 O (tE (pre:=[]) r (f:=(q:Int)) aV (by omega) (by omega) O O (by omega) ?_)))));intro w6 bg;have bg:St w0 w6 (aW 24 2 A5 n c5 kf (fX M r q g)++ (aQ 37 Ag (no+new.length) cg (outs++new.map (·.top))::(aW 24 2 A n c rs M++ (b7 24 2 new++ks)))):=bg;have sZ:=hI.cM.fX PD.1 q (g:Int);have jS:=bg.jL sZ.1;have sY:=jS.at_ (i:=(r:Int)) (by omega) (by omega);have rv:=sZ.1;refine aq O (aw jS.top.2 O (bn jS.top O (aq O (aw sY.2 O (tE (pre:=[]) r (f:=(g:Int)) bg (by omega) (by omega) O O (by omega) ?_)))));intro w7 bm;have bm:St w0 w7 (aW 24 2 A5 n c5 kf (put M r q g)++ (aQ 37 Ag (no+new.length) cg (outs++new.map (·.top))::(aW 24 2 A n c rs M++ (b7 24 2 new++ks)))):=bm;have nw:=Gr.put sD aZ (g:=g) (by omega) (by omega) (by omega) (by rw [hr];exact h5);rw [hr,hq]at nw;have im:body n F (lG F) (fun _=>true) f' a met M g=if lG F (put M r q g) r q=true then grow n F (lG F) (fun _=>true) f' (a+1) (max met (g+1)) (put M r q g)else []:=by
       unfold body;rw [hr,hq,aB (show ¬0<=cell M r g from h5)]
      generalize NZ:put M r q g=M' at*;have kB:=nw.cM.1;refine zG 2 O ?_;refine oN (α:=Bool) (fun z=> [(0,.slice A n c),(1,aj F),(2,aj met),(3,.slice Ag (no+new.length) cg),(9,aj n),(11,aj q),(12,aj r),(13,aj g),(14,.slice A5 n c5),(15,.bool z)])
       (fun z w'=>St w0 w' (aW 24 2 A5 n c5 kf M'++ (aQ 37 Ag (no+new.length) cg (outs++new.map (·.top))::(aW 24 2 A n c rs M++ (b7 24 2 new++ks))))/\z=lG F M' r q) ?_ ?_
      ·refine bH O ?_;refine Cd.loop (α:=Nat×Bool) (fun z=> [(0,.slice A n c),(1,aj F),(2,aj met),(3,.slice Ag (no+new.length) cg),(9,aj n),(11,aj q),(12,aj r),(13,aj g),(14,.slice A5 n c5),(15,.bool z.2),(16,aj (z.1:Int))])
        (fun z w'=>St w0 w' (aW 24 2 A5 n c5 kf M'++ (aQ 37 Ag (no+new.length) cg (outs++new.map (·.top))::(aW 24 2 A n c rs M++ (b7 24 2 new++ks))))/\z.1<=F/\z.2=decide (∀e',e'<z.1->lJ M' (e':Nat)))
        (fun z=>F - z.1) (0,true) ⟨rfl,rfl,rfl,rfl,rfl,rfl,rfl,rfl,rfl,rfl,rfl,av⟩ ⟨bm,bk _,(dF (fun e' he=>absurd he (by omega))).symm⟩ ?_
       rintro⟨ee,tW⟩ e w8 ⟨bI,uq,ot⟩;dsimp only at bI uq ot|-;refine aY O (bR 100 O (fun h6=>?_) (fun h6=>?_))
       ·refine ar O (aA O ?_);refine Cd.cond O (fun h7=>?_) (fun h7=>?_)
        ·refine aC O (aO (RE A5 n c5 F kf M' ee _ (bI.jL kB) nw.cM nw.jK (by omega) (by omega)) O ?_);rintro _ w9 ⟨rfl,ax⟩;refine aq O (aI O (aM O (tQ ?_)));refine⟨(ee+1,decide (lJ M' ee)),by show F - (ee+1)<F - ee;omega,(Wn O),bI.ao ax.below,by show ee+1<=F;omega,?_⟩;rw [h7]at ot;have dV:=kc ot.symm;refine gJ.2 ⟨fun hf e' lV=>?_,fun hf=>hf ee (by omega)⟩
         by_cases ME:e'=ee
         ·subst ME;exact hf
         ·exact dV e' (by omega)
        ·refine bj O (bl (qF O (tQ ?_)));refine⟨false,⟨O,O,O,O,O,O,O,O,O,by rw [<-h7];rfl,av⟩,bI,?_⟩;rw [h7]at ot;have CX:=of_decide_eq_false ot.symm;exact(cb (fun hf=>CX (fun e' lV=>hf e' (by omega)))).symm
       ·refine au O (aA O ?_);refine Cd.dO O (bj O (bl (qF O (tQ ?_))));have:ee=F:=by omega
        subst this;exact⟨tW,(Wn O),bI,ot⟩
      ·rintro tW e w8 ⟨bI,ot⟩;refine cj O (Cd.cond O (fun h7=>?_) (fun h7=>?_))
       ·rw [h7]at ot;rw [<-ot,aF rfl]at im;rw [im]at Da gY;have CQ:max (met:Int) ((g:Int)+1)=((max met (g+1):Nat):Int):=by omega
        refine aC O (aI O ?_);refine EJ O O O ?_;rw [CQ];refine aq O (aO (ih f' (by omega) (a+1) (max met (g+1)) M' nw (by omega) w0 w8 (aW 24 2 A n c rs M++ (b7 24 2 new++ks)) Ag (no+new.length) cg (outs++new.map (·.top)) A5 c5 kf (bI.perm pB) (by omega)) O ?_);rintro _ w9 ⟨A9,c9,fM,rfl,uC,uH,bO⟩;refine aq O (aI O (aM O (tQ ?_)));refine⟨(g+1,A9,c9,new++fM),by show _ - (g+1)<_ - g;omega,⟨O,O,O,by show Value.slice _ _ _=Value.slice _ _ _;rw [dS,Nat.add_assoc],O,O,O,O,av⟩,?_,by show q+1<=g+1;omega,by show g+1<=_;omega,fun m hm=>?_,?_⟩
        ·show St w0 w9 (aQ _ A9 (no+ (new++fM).length) c9 (outs++ (new++fM).map (·.top))::(aW _ _ A n c rs M++ (b7 _ _ (new++fM)++ks)));rw [dS,iT,wJ,<-Nat.add_assoc,<-fB];exact(bO.sub (List.Sublist.cons_cons _ (iw _ _))).perm (List.Perm.cons _ (S4 _ _ _ _))
        ·rcases gQ.1 hm with hm | hm
         ·exact mM m hm
         ·exact uC m hm
        ·show(new++fM).map _=(List.range' (q+1) (g+1 - (q+1))).flatMap _;rw [gY,iT,l7,uH]
       ·rw [h7]at ot;rw [<-ot,aB (by simp)]at im;refine aC O (aI O (aM O (tQ ?_)));refine⟨(g+1,Ag,cg,new),by show _ - (g+1)<_ - g;omega,(Wn O),bI.Uq,by show q+1<=g+1;omega,by show g+1<=_;omega,mM,?_⟩;show new.map _=(List.range' (q+1) (g+1 - (q+1))).flatMap _;rw [gY,im,eG,l7]
    ·refine bj O (bl (dd O ?_));refine dH O ?_;have nD:g=q+1+ (min met (F - 1) - q):=by omega
     refine⟨Ag,cg,new,O,mM,?_,aN⟩;rw [l7];congr 2;omega
   ·refine au O (au O (au O (aA O ?_)));refine Cd.dO O (bj O (bl (dd O ?_)));refine dH O ?_;have nD:g=q+1+ (min met (F - 1) - q):=by omega
    refine⟨Ag,cg,new,O,mM,?_,aN⟩;rw [l7];congr 2;omega
 ·refine cN [.ex (aj ((a:Int))),.ex (aj ((met:Int))),.ex (aj ((n:Int))),.ex (aj (((met*n:Nat):Int))),.ex (.bool (false)),.ex (.bool (false)),.ex (undef),.ex (undef),.ex (undef),.ex (undef),.ex (undef),.ex (undef),.ex (undef),.ex (undef),.ex (undef),.ex (undef),.ex (undef),.ex (undef),.ex (.bool (false))] O (da O) ?_ ?_
  ·exact⟨Dr O,Dr O,Dr O,fun _ _ _ _ _=>ak.mul O O O (by rw [sw];omega) Az,fun _ _ _ _ _=>Dk O (by exact aS Value.bool (cb h1)),Dr O,Dr O,Dr O,Dr O,Dr O,Dr O,Dr O,Dr O,Dr O,Dr O,Dr O,Dr O,Dr O,Dr O,av⟩
  intro u w2 gK _;have ay:=aD.ao gK;have haE:a=met*n:=by omega
  have Gr:=hI.upto a (by have:=hI.le;omega) (by omega) hk;obtain⟨f',rfl⟩:∃f',fuel=f'+1+ (a - at_):=⟨fuel - 1 - (a - at_),by have:=hI.le;have:met*n<=F*n:=Nat.mul_le_mul_right n ry;omega⟩;have jF:grow n F (lG F) (fun _=>true) (f'+1+ (a - at_)) at_ met M=if met=F/\(fun(_:ag)=>true) M=true then [M]else []:=by
   rw [Bh (a - at_) (f'+1) at_ (by have:=hI.le;omega) (fun b h1 h2=>hk b (by omega)),show at_+ (a - at_)=met*n by have:=hI.le;omega];show(if _ then _ else _)=_;rw [aF rfl]
  rw [jF]at hB|-;refine dM O (Cd.dO O ?_);refine bj O (bl (cn O ?_));refine ak.mul O O O (by rw [sw];omega) ?_;refine aA O ?_;refine zB O (by rw [sw];omega) ?_;refine cj O (aJ _ O (fun h2=>?_) (fun h2=>?_))
  ·have CN:met=F:=by omega
   rw [aF ⟨CN,rfl⟩]at hB|-;have fc:=Er ay;refine aC O ?_;refine aO (It A n c rs M _ fc (by omega) (fun i hi=>by have:=fc.cM hI.cM (k:=(i:Int)) (by omega) (by omega);simp only [rg,eH]at this;omega)) O ?_;rintro _ w3 ⟨A3,c3,rY,rfl,hl3,ax⟩;have aL:=(ay.call ax).perm (S9 _ _ _ _);refine ED (by exact inferInstance) (by exact O) O O O (tB aL O O O ?_);intro A4 w4 aN;refine iU 1 aN O (aN.dB 0 O) O O O (by simp at hB;omega) (by simp at hB;omega) O ?_;intro A5 c5 w5 aV;refine bW O (dH O ?_);refine⟨A5,c5,[⟨⟨A3,n,c3⟩,rY,M⟩],O,fun m hm=>?_,O,?_⟩
   ·simp at hm;subst hm;exact hlen
   ·have h6:=aV.tail;simpa [b7,bC.qN]using h6
  ·rw [aB (fun h=>h2 (by rw [h.1]))];refine bV O (dH O ?_);exact⟨Ao,co,[],rfl,(fun m hm=>by cases hm),rfl,by simpa [b7]using ay⟩
end
section
def nr:Nat->Nat
 | 0=>1
 | 1=>0
 | u+2=> (u+1)*nr u
def prod:List Nat->Nat
 | []=>1
 | x::l=>x*prod l
def rS(M:ag):Nat:=prod (M.map fun p=>nr (fY p))
theorem D3:∀(l:List Nat) (i k x:Nat) (h:i<l.length),l[i]=k*x->prod l=k*prod (l.set i x)
 | [],i,_,_,h,_=>by simp at h
 | y::l,0,k,x,_,e=>by
  simp at e;subst e;simp [prod,Nat.mul_assoc]
 | y::l,i+1,k,x,h,e=>by
  have:=D3 l i k x (by simpa using h) (by simpa using e);simp only [prod,List.set_cons_succ,this];rw [Nat.mul_left_comm]
theorem JB:∀(l:List Nat),(∀x∈l,x=1)->prod l=1
 | [],_=>rfl
 | x::l,h=>by simp [prod,h x (by simp),JB l (fun y hy=>h y (by simp [hy]))]
theorem J1{α:Type}(f:Nat->List α)(p:Nat->Bool)(X:Nat):∀(l:List Nat),(∀g∈l,(f g).length<=if p g=true then X else 0)->(l.flatMap f).length<=l.countP p*X
 | [],_=>by simp
 | g::l,h=>by
  have h1:=h g (by simp);have h2:=J1 f p X l (fun x hx=>h x (by simp [hx]));rw [List.flatMap_cons,dS,List.countP_cons]
  by_cases hp:p g=true
  ·rw [aF hp]at h1|-;rw [Nat.add_mul,Nat.one_mul];omega
  ·rw [aB hp]at h1|-;rw [Nat.add_zero];omega
theorem LA{p:ah}{q c:Nat}(hq:q<p.length)(hn:gi p q<0)(hc:q+1+c<=p.length):(List.range' (q+1) c).countP (fun g=>decide (gi p (g:Nat)<0))+1<=fY p:=by
 have e1:(List.range' (q+1) c).map (fun g=>gi p (g:Nat))=(p.drop (q+1)).take c:=by
  apply gj
  ·simp;omega
  intro i h1 h2;have hi:i<c:=by simpa using h1
  rw [List.getElem_map,List.getElem_range',bQ (by omega)];simp
 have e2:(List.range' (q+1) c).countP (fun g=>decide (gi p (g:Nat)<0))=((p.drop (q+1)).take c).countP (fun x=>decide (x<0)):=by
  rw [<-e1,List.countP_map];rfl
 have e3:((p.drop (q+1)).take c).countP (fun x=>decide (x<0))<=(p.drop (q+1)).countP (fun x=>decide (x<0)):=(List.take_sublist _ _).countP_le;have e4:fY p=(p.take (q+1)).countP (fun x=>decide (x<0))+ (p.drop (q+1)).countP (fun x=>decide (x<0)):=by
  unfold fY;rw [<-List.countP_append,List.take_append_drop]
 have e5:0< (p.take (q+1)).countP (fun x=>decide (x<0)):=List.countP_pos_iff.2 ⟨gi p q,by rw [mh hq];simp,by simpa using hn⟩;omega
section
variable {n F:Nat} {M:ag} {met at_:Nat}
theorem Ta(h:jO n F M){r q g:Nat}(hr:r<n)(hq:q<F)(hg:g<F)(PI:q≠g)(h1:cell M r q<0)(h2:cell M r g<0){u:Nat}(hu:fY (gl M r)=u+2):rS (put M r q g)=prod ((M.map fun p=>nr (fY p)).set r (nr u))/\rS M=(u+1)*prod ((M.map fun p=>nr (fY p)).set r (nr u)):=by
 have hl:=h.1;have bw:=h.row hr;have HJ:fY ((gl M r).set q (g:Int))+1=fY (gl M r):=by
  have:=zy (L:=gl M r) (x:=(q:Int)) (c:=(g:Int)) (by omega) (by omega) h1 (by omega)
  rwa [eH]at this
 have e2:gi ((gl M r).set q (g:Int)) g=gi (gl M r) g:=by
  have:=mF (S:=gl M r) (x:=(q:Int)) (y:=(g:Int)) (b:=(g:Int)) (by omega) (by omega) (by omega);rw [eH,aB (by omega)]at this;exact this
 have pa:fY (((gl M r).set q (g:Int)).set g (q:Int))+1=fY ((gl M r).set q (g:Int)):=by
  have:=zy (L:=(gl M r).set q (g:Int)) (x:=(g:Int)) (c:=(q:Int)) (by omega) (by simp;omega) (by rw [e2];exact h2) (by omega)
  rwa [eH]at this
 have l6:fY (((gl M r).set q (g:Int)).set g (q:Int))=u:=by omega
 have pc:put M r q g=M.set r (((gl M r).set q (g:Int)).set g (q:Int)):=by
  unfold put fX;rw [xN (by omega),aF rfl,List.set_set]
 have jF:M[r]'(by omega)=gl M r:=(cQ (by omega)).symm;unfold rS;rw [pc,List.map_set,l6];refine⟨O,?_⟩;refine D3 _ r (u+1) (nr u) (by simp;omega) ?_;rw [List.getElem_map,jF,hu];rfl
theorem Bf:∀(k at_ met:Nat) (M:ag),Inv n F M met at_->(grow n F (fun _ _ _=>true) (fun _=>true) k at_ met M).length<=rS M
 | 0,_,_,_,_=>by simp [grow]
 | k+1,at_,met,M,h=>by
  simp only [grow]
  split
  ·rename_i ha
   split
   ·rename_i hm;have Hv:=hm.1;subst Hv;have hI:Inv n met M met (met*n):=by rw [<-ha];exact h
    have:rS M=1:=JB _ (fun x hx=>by
     obtain⟨p,hp,rfl⟩:=fq.1 hx;obtain⟨i,hi,rfl⟩:=fP.1 hp;have cd:i<n:=by rw [<-h.cM.1];exact hi
     have e:M[i]=gl M i:=(cQ hi).symm;have:fY M[i]=0:=by
      rw [e];refine List.countP_eq_zero.2 fun x hx=>?_
      obtain⟨j,hj,rfl⟩:=fP.1 hx;have:=hI.full (i:=i) (f:=(j:Int)) cd (by omega) (by rw [h.cM.row cd]at hj;omega);rw [<-bQ hj];have h3:0<=gi (gl M i) j:=this;simp;omega
     rw [this];rfl)
    simp [this]
   ·simp
  ·rename_i ha
   split
   ·rename_i hk;exact Bf k _ _ _ (h.next ha hk)
   ·rename_i hk;have hp:=h.pos ha;have hF:=h.kb;have bw:=h.cM.row hp.1;have C6:at_ / n<F:=by omega
    have sX:=fun g hg=>wS h ha (g:=g) hg
    have pc:=fun g (h1:at_ / n<g) (h2:g<=met) (h3:g<F) h4=>h.put ha hk (g:=g) h1 h2 h3 h4
    generalize hr:at_%n=r at*;generalize hq:at_ / n=q at*;have dQ:gi (gl M (r:Nat)) (q:Nat)<0:=Int.not_le.1 hk;have Hv:=h.tc;have hbeh:=LA (p:=gl M (r:Nat)) (q:=q) (c:=min met (F - 1) - q) (by omega) dQ (by omega);obtain⟨u,hu⟩:∃u,fY (gl M (r:Nat))=u+1:=⟨fY (gl M (r:Nat)) - 1,by omega⟩;refine gm (J1 _ (fun g=>decide (gi (gl M (r:Nat)) (g:Nat)<0)) (prod ((M.map fun p=>nr (fY p)).set r (nr (u - 1)))) _ (fun g hg=>?_)) ?_
    ·have jF:=sX g hg
     by_cases nC:0<=cell M r (g:Nat)
     ·rw [aF nC];exact bk _
     ·have Hk:gi (gl M (r:Nat)) (g:Nat)<0:=Int.not_le.1 nC;rw [aB nC,aF av,aF (dF Hk)];have kz:0< (List.range' (q+1) (min met (F - 1) - q)).countP (fun g=>decide (gi (gl M (r:Nat)) (g:Nat)<0)):=List.countP_pos_iff.2 ⟨g,hg,dF Hk⟩;obtain⟨u',rfl⟩:∃u',u=u'+1:=⟨u - 1,by omega⟩;have PC:=Ta h.cM hp.1 C6 jF.2.2 (by omega) (by omega) (by omega) hu;rw [show u'+1 - 1=u' by omega,<-PC.1];exact Bf k _ _ _ (pc g jF.1 jF.2.1 jF.2.2 nC)
    ·by_cases hu0:u=0
     ·have:(List.range' (q+1) (min met (F - 1) - q)).countP (fun g=>decide (gi (gl M (r:Nat)) (g:Nat)<0))=0:=by omega
      rw [this,Nat.zero_mul];exact bk _
     ·obtain⟨u',rfl⟩:∃u',u=u'+1:=⟨u - 1,by omega⟩;rw [show u'+1 - 1=u' by omega];have OR:rS M=(u'+1)*prod ((M.map fun p=>nr (fY p)).set r (nr u')):=by
       unfold rS;have hl:=h.cM.1;refine D3 _ r (u'+1) (nr u') (by simp;omega) ?_;rw [List.getElem_map,show M[r]'(by omega)=gl M r from(cQ (by omega)).symm,hu];rfl
      rw [OR];exact Nat.mul_le_mul_right _ (by omega)
def zW(n:Nat)(M:ag):Bool:=(List.range n).any fun i=> (List.range n).any fun k=>decide (i+2<=k/\0<=cell M i 0/\cell M i 0=cell M k 0)
def wt(n F:Nat):Nat->Nat->Nat->ag->Nat
 | 0,_,_,M=>if zW n M=true then 0 else rS M
 | j+1,at_,met,M=>
  if at_=met*n then 1
  else if 0<=cell M (at_%n) (at_ / n:Nat)then wt n F j (at_+1) met M
  else((List.range' (at_ / n+1) (min met (F - 1) - at_ / n)).map fun g=>if 0<=cell M (at_%n) (g:Nat)then 0 else wt n F j (at_+1) (max met (g+1)) (put M (at_%n) (at_ / n) g)).sum
theorem M1(h:Inv n F M met at_)(hb:zW n M=true)(k:Nat):nt n F k at_ met M=[]:=by
 unfold nt;rw [List.filter_eq_nil_iff];intro L hL hV;have h1:=qW k _ _ _ h L hL;have hV:=kc hV;simp only [zW,List.any_eq_true,jj,iI]at hb;obtain⟨i,hi,k',cE,fK,h0,he⟩:=hb;have hF:0<F:=by have:=h.tc;have:=h.kb;omega
 have h2:=hV.cells h1.2 hi cE fK (f:=0) (by omega) (by omega);rw [h1.1 i 0 hi (by omega) (by omega) h0,h1.1 k' 0 cE (by omega) (by omega) (by rw [<-he];exact h0)]at h2;exact h2.2 he
theorem J2{α:Type}(f:Nat->List α)(c:Nat->Nat):∀(l:List Nat),(∀g∈l,(f g).length<=c g)->(l.flatMap f).length<=(l.map c).sum
 | [],_=>by simp
 | g::l,h=>by
  have h1:=h g (by simp);have h2:=J2 f c l (fun x hx=>h x (by simp [hx]));rw [List.flatMap_cons,dS,List.map_cons,List.sum_cons];omega
theorem AU:∀(j k at_ met:Nat) (M:ag),Inv n F M met at_->(nt n F k at_ met M).length<=wt n F j at_ met M
 | 0,k,at_,met,M,h=>by
  simp only [wt]
  split
  ·rename_i hb;rw [M1 h hb];simp
  ·exact gm (jN _ _) (Bf k _ _ _ h)
 | j+1,0,at_,met,M,h=>by simp [nt,grow]
 | j+1,k+1,at_,met,M,h=>by
  simp only [nt,grow,wt]
  split
  ·refine gm (jN _ _) ?_
   split<;>simp
  ·rename_i ha
   split
   ·rename_i hk;exact AU j k _ _ _ (h.next ha hk)
   ·rename_i hk;rw [AM];refine J2 _ _ _ (fun g hg=>?_);have hr:=wS h ha hg
    split
    ·simp
    ·rename_i nC;rw [aF av];exact AU j k _ _ _ (h.put ha hk hr.1 hr.2.1 hr.2.2 nC)
end
theorem Uz:((List.range' 1 4).all fun n=> (List.range' 2 11).all fun F=>Nat.ble (wt n F 4 0 1 (blank n F)) 4000000000000)=true:=by kernel_rfl
theorem vz{n F:Nat}(hn:1<=n/\n<=4)(hF:2<=F/\F<=12)(k:Nat):(nt n F k 0 1 (blank n F)).length<=4000000000000:=by
 have h:=Uz;rw [List.all_eq_true]at h;have h1:=h n (by rw [List.mem_range'_1];omega);rw [List.all_eq_true]at h1;have h2:=h1 F (by rw [List.mem_range'_1];omega);exact gm (AU 4 k 0 1 _ (Inv.blank (by omega) (by omega))) (Nat.le_of_ble_eq_true h2)
end
section
open Go.RowKit
theorem RJ(n F:Nat)(hn:1<=n/\n<=4)(hF:2<=F/\F<=12)(w:aa):
 aG prog 132 [aj n,aj F] w (fun v w'=>∃A' c',∃new:List bC,v= .slice A' new.length c'/\(∀m∈new,m.ok)/\new.map (·.xss)=nt n F (F*n+1) 0 1 (blank n F)/\
  St w w' (aQ 37 A' new.length c' (new.map (·.top))::b7 24 2 new)):=by
 refine bs func132 O ntmps132 O (bF O) (aY O (ic (St.refl w) O ?_));intro A1 w1 aD;have aD:St w w1 [aQ 24 A1 0 0 []]:=aD;refine aA O (Cd.loop (α:=Nat×ai×Nat×List aH) (fun s=> [(0,aj n),(1,aj F),(5,.slice s.2.1 s.1 s.2.2.1),(6,aj (s.1:Int))]) (fun s w'=>St w w' (aQ 24 s.2.1 s.1 s.2.2.1 s.2.2.2::cw 2 s.2.2.2 (List.replicate s.1 (List.replicate F (-1))))/\s.1<=n/\s.2.2.2.length=s.1) (fun s=>n - s.1) (0,A1,0,[]) (Wn O) ⟨aD,bk _,O⟩ ?_);rintro⟨i,A5,c5,rs⟩ e w2 ⟨ay,hi,hlen⟩;dsimp only at ay hi hlen|-;refine bH O (aJ _ O (fun h1=>?_) (fun h1=>?_))
 ·refine aC O (ic ay O ?_);intro A7 w3 aL;have aL:St w w3 (aE 2 A7 0 0 (List.replicate 0 (-1))::aQ 24 A5 i c5 rs::cw 2 rs (List.replicate i (List.replicate F (-1)))):=aL;refine aA O (Cd.loop (α:=Nat×ai×Nat) (fun s=> [(0,aj n),(1,aj F),(5,.slice A5 i c5),(6,aj i),(7,.slice s.2.1 s.1 s.2.2),(8,aj (s.1:Int))]) (fun s w'=>St w w' (aE 2 s.2.1 s.1 s.2.2 (List.replicate s.1 (-1))::aQ 24 A5 i c5 rs::cw 2 rs (List.replicate i (List.replicate F (-1))))/\s.1<=F) (fun s=>F - s.1) (0,A7,0) (Wn O) ⟨aL,bk _⟩ ?_);rintro⟨f,A8,c8⟩ e w4 ⟨aN,hf⟩;dsimp only at aN hf|-;refine bH O (aJ _ O (fun h2=>?_) (fun h2=>?_))
  ·refine aC O (e6 aN O O O ?_);intro A9 w5 aV;refine fS 1 aV O (aV.bU 0 O) O O O (by omega) (by omega) O fun bB bM w6 bg=>aq O (aI O (aM O (tQ ?_)));refine⟨(f+1,bB,bM),by show F - (f+1)<F - f;omega,(Wn O),?_,by show f+1<=F;omega⟩;have h7:=bg.tail;show St w w6 (aE _ bB (f+1) bM (List.replicate (f+1) (-1))::_);rw [List.replicate_succ'];exact h7
  refine bj O (bl (cn O ?_));have iZ:f=F:=by omega
  subst iZ;refine mu aN O O O fun A9 w5 aV=>iU 2 aV O (aV.dB 0 O) O O O (by omega) (by omega) O fun bB bM w6 bg=>aq O (aI O (aM O (tQ ?_)));refine⟨(i+1,bB,bM,rs++ [⟨A8,f,c8⟩]),by show n - (i+1)<n - i;omega,(Wn O),?_,by show i+1<=n;omega,by simp [hlen]⟩;have h7:St w w6 (aE 2 A8 f c8 (List.replicate f (-1))::aQ 24 bB (i+1) bM (rs++ [⟨A8,f,c8⟩])::cw 2 rs (List.replicate i (List.replicate f (-1)))):=bg.tail;show St w w6 (aQ _ bB (i+1) bM (rs++ [_])::cw _ (rs++ [_]) (List.replicate (i+1) (List.replicate f (-1))));rw [List.replicate_succ',rX (by simp [hlen])];refine h7.perm ((List.Perm.swap _ _ _).trans (List.Perm.cons _ ?_));exact gB (l₁:=[_])
 have cd:i=n:=by omega
 subst cd;have hI:=Inv.blank (n:=i) (F:=F) (by omega) (by omega);have pX:=Np (n:=i) (F:=F) (by omega) ⟨by omega,by omega⟩ (F*i+1) hI (fun e he=>LJ e he);have aL:St w w2 (aQ 37 none 0 0 []::(aW 24 2 A5 i c5 rs (blank i F)++ [])):=by rw [eG];exact ay.nil _
 refine bj O (bl (cn O ?_));refine aO (RF i F (by omega) ⟨by omega,by omega⟩ (F*i+1) 0 1 (blank i F) hI (by omega) w w2 [] none 0 0 [] A5 c5 rs aL (by rw [pX];have:=vz hn hF (F*i+1);omega)) O ?_;rintro _ w3 ⟨A',c',new,rfl,b6,hx,aN⟩;refine bW O (dH O ?_);rw [pX]at hx;rw [Nat.zero_add,List.nil_append]at aN;rw [Nat.zero_add];exact⟨A',c',new,O,b6,hx,by have:=aN.sub (List.Sublist.cons_cons _ (iw _ _));rwa [eG]at this⟩
def Small(rank flags:Int):Prop:=(1<=rank/\rank<=4)/\(2<=flags/\flags<=12)
instance (rank flags:Int):Decidable (Small rank flags):=by unfold Small;exact inferInstance
theorem RD(rank flags:Int)(w:aa):aG prog 70 [aj rank,aj flags] w (fun v w'=>v=aj (if Small rank flags then 0 else 2)/\w'=w):=by
 refine bs func70 O ntmps70 O (bF O) (aY O (aO (DA _ _ _ _) O ?_));rintro _ w ⟨rfl,rfl⟩
 first | refine dv rfl rfl ?_ | refine eJ rfl rfl ?_
 refine aq O (bR 8 O (fun h=>?_) (fun h=>?_))
 ·refine au O (au O (au O (aA O ?_)));refine Cd.eP O (bV O (eF O ?_));exact⟨by rw [aB (fun hs:Small rank flags=>h hs.1)],O⟩
 refine ar O (aq O (ar O ?_));refine aO (DA _ _ _ _) O ?_;rintro _ w ⟨rfl,rfl⟩;refine ar O ?_
 first | refine dv rfl rfl ?_ | refine eJ rfl rfl ?_
 refine aA O (aJ _ O (fun h2=>?_) (fun h2=>?_))
 ·refine bV O (eF O ?_);exact⟨by rw [aB (fun hs:Small rank flags=>h2 hs.2)],O⟩
 refine bV O (eF O ?_);exact⟨by rw [aF (show Small rank flags from⟨fp.1 h,fp.1 h2⟩)],O⟩
theorem xi(A:ai)(n c:Nat)(xs:ah)(w:aa)(hR:bS w A n xs)(hn:n<=1000000000):aG prog 109 [.slice A n c] w (fun v w'=>∃A' c',v= .slice A' n c'/\St w w' [aE 2 A' n c' xs]):=by
 cases hA:A with
 | none=>
  subst hA;have k5:n=0:=by
   apply kK;intro h;obtain⟨p,hp,_⟩:=hR.2 0 (by omega);simp [az]at hp
  subst k5;have hx:xs=[]:=nZ hR.1;subst hx;refine bs func109 O ntmps109 O (bF O) (aY O (va O O O (aA O (Cd.eP O (bV O (dH O ?_))))));exact⟨none,0,O,(St.refl w).nil _⟩
 | some a=>
  subst hA;refine bs func109 O ntmps109 O (bF O) (aY O (va O O O (aA O (Cd.dO O (aC O (ic (St.refl w) O ?_))))));intro A1 w1 aD;have aD:St w w1 [aE 2 A1 0 0 []]:=aD;refine aq O (fS 0 aD O (aD.dh hR) O O O (by omega) (by omega) O ?_);intro A2 c2 w2 ay;rw [Nat.zero_add]at ay|-;refine bW O (dH O ?_);exact⟨A2,c2,O,ay⟩
theorem QJ(rank flags:Int)(w:aa):aG prog 98 [aj rank,aj flags] w (fun v w'=>v= .bool (decide (Small rank flags))/\w'=w):=by
 refine bs func98 O ntmps98 O (bF O) (aY O (aO (oK _ _ _ _) O ?_));rintro _ w ⟨rfl,rfl⟩;refine aq O (bR 7 O (fun h=>?_) (fun h=>?_))
 ·refine ar O (aq O (ar O ?_));refine aO (oK _ _ _ _) O ?_;rintro _ w ⟨rfl,rfl⟩;refine bW O (bG O ?_);exact⟨by simp [Small,h],O⟩
 refine au O (au O (bW O ?_));refine bG O ?_;exact⟨by simp [Small,h],O⟩
section
variable {P:Program} {N:Nat} {ops:Array Oper} {K:Env->aa->Prop} {rest:List Oper} {e:Env} {w:aa} {d:Nat} {ty:ad} {pos:String} {af:Array Edge}
theorem KI{t:ad}{f0:Field}{z0 zf:ab}{b bf:Nat}[bK P t (.struct #[f0])][bL P t (.agg #[z0]) 1 b](hI:bL P f0.type zf 1 bf)(hb:Nat.blt d N=true)(hK:ak P N ops K rest (br e d (.agg #[z0])) w):ak P N ops K (⟨some d,.build t #[],ty,pos,af,none⟩::rest) e w:=by
 obtain⟨inf,hi,fk,hs,iE⟩:=bL.get P t;obtain⟨Qs,bP,Qn,uG,Ow⟩:=hI.get P f0.type;have ez:(Value.agg #[z0]).cells= #[z0]:=O;refine .val (w':=w) ?_ hb hK;simp [execOp,Instr.build,run_underlying (bK.out (P:=P) (t:=t)),sizeOf,typeInfo,zeroValue,hi,fk,hs,bP,uG,ez,Instr.fill]
end
theorem Re(A:ai)(n c:Nat)(p:ah)(w:aa)(hP:bS w A n p)(hn:n<=1000000000)(hp:∀k:Nat,k<n->0<=gi p k/\gi p k<n):
 aG prog 278 [.slice A n c] w (fun v w'=>∃A',v= .slice A' n n/\St w w' [aE 2 A' n n (gV n p)]):=by
 have qg:=hP.1;refine bs func278 O ntmps278 O (bF O) ?_;refine aY O (aR O O ?_);refine xm n (St.refl w) O O (by omega) fun A1 w1 aD=>aA O (Cd.loop (α:=Nat) (fun k=> [(0,.slice A n c),(3,.slice A1 n n),(4,aj k)]) (fun k w'=>St w w' [aE 2 A1 n n (nT (List.replicate n 0) (fun k=>gi p k) (fun k=> (k:Int)) k)]/\k<=n) (fun k=>n - k) 0 (Wn O) ⟨aD,bk _⟩ ?_);rintro k e w2 ⟨ay,hk⟩;have GD:=ay.dh hP;refine aY O (aR O O (aA O ?_));refine aJ _ O (fun h1=>?_) (fun h1=>?_)
 ·have yy:=hp k (by omega);refine aC O (aw GD.2 O (a6 GD O (aq O (aw (ay.bU 0 O).2 O (ak.mg 0 ay O O O (by omega) ?_)))));intro w3 aL;refine aq O (aI O (aM O (tQ ?_)));exact⟨k+1,by show n - (k+1)<n - k;omega,(Wn O),aL,by omega⟩
 refine bj O (bl (dd O ?_));refine dH O ?_;have dQ:k=n:=by omega
 subst dQ;refine⟨A1,O,?_⟩;unfold gV;rw [qg];exact ay
theorem Rn(A:ai)(n c:Nat)(rs:List aH)(xss:ag)(N:Nat)(pt:Int)(w:aa)(hR:bu w A n rs xss)(hn:n<=9223372036854775807)(hs:Sys N xss)(hN:N<=1000000)(h0:0<=pt)(h1:pt<N)(hP:lO N (cK N xss pt)):
 aG prog 249 [.agg #[.slice A n c],aj pt] w (fun v w'=>∃A',v= .slice A' N N/\St w w' [aE 2 A' N N (gV N (cK N xss pt))]):=by
 refine bs func249 O ntmps249 O (bF O) (aY O (gS (St.refl w) O O ?_));intro Ab w1 aD;refine aq O (aT (aD.rd 0 O) O (a7 (aD.rd 0 O) O (aq O (aO (DB A n c rs xss N pt _ (aD.bE hR) hn hs (by omega) h0 h1) O ?_))));rintro _ w2 ⟨A2,c2,rfl,ax⟩;rw [hP.len]at ax|-;have ay:=aD.none.call ax;refine aq O (aO (Re A2 N c2 _ _ (ay.bU 0 O) (by omega) (fun k hk=>hP.jK hk)) O ?_);rintro _ w3 ⟨A3,rfl,Dg⟩;refine bW O (dH O ?_);exact⟨A3,O,(ay.none).call Dg⟩
theorem Rp(A:ai)(n c:Nat)(rs:List aH)(xss:ag)(N:Nat)(Ap:ai)(cp:Nat)(p:ah)(w:aa)(hR:bu w A n rs xss)(hn:n<=1000000)(hs:Sys N xss)(hN:N<=1000000)(hP:bS w Ap N p)(hp:∀x:Int,0<=x->x<N->0<=gi p x/\gi p x<N):
 aG prog 177 [.agg #[.slice A n c],.slice Ap N cp] w (fun v w'=>∃A' c' rs',v= .agg #[.slice A' n c']/\rs'.length=n/\St w w' (aW 24 2 A' n c' rs' (xss.map (mX N p)))):=by
 have qg:=hP.1;have eW:=hR.len;refine bs func177 O ntmps177 O (uQ O O) (aY O (gS (St.refl w) O O ?_));intro Ab w1 aD;refine lN aD O fun Ac w2 ay=>aq O (KI (by exact inferInstance) O (lN ay O ?_));intro Ad w3 aL;refine gU 1 0 aL O O O O O O O ?_;intro w4 aN;have aN:St w w4 (Bx 37 1 Ad [.slice none 0 0]::Bx 37 1 Ac [.slice none 0 0]::Bx 37 1 Ab [.slice A n c]::[]):=aN;have nz:St w w4 (Bx 37 1 Ad [.slice none 0 0]::Bx 37 1 Ac [.slice none 0 0]::Bx 37 1 Ab [.slice A n c]::aQ 24 none 0 0 []::[]):=(aN.nil 24).perm (gB (l₁:=[_]) (l₂:=[_,_,_]));refine aA O (Cd.loop (α:=Nat×ai×Nat×List aH) (fun s=> [(1,.slice Ap N cp),(2,.pointer Ab),(4,.pointer Ac),(5,.pointer Ad),(6,aj (s.1:Int))]) (fun s w'=>St w w' (Bx 37 1 Ad [.slice s.2.1 s.1 s.2.2.1]::Bx 37 1 Ac [.slice none 0 0]::Bx 37 1 Ab [.slice A n c]::aQ 24 s.2.1 s.1 s.2.2.1 s.2.2.2::cw 2 s.2.2.2 ((xss.map (mX N p)).take s.1))/\s.1<=n/\s.2.2.2.length=s.1) (fun s=>n - s.1) (0,none,0,[]) (Wn O) ⟨nz,bk _,O⟩ ?_);rintro⟨i,A3,c3,ec⟩ e w5 ⟨aV,hi,hlen⟩;dsimp only at aV hi hlen|-;refine aY O (aT (aV.rd 2 O) O (a7 (aV.rd 2 O) O ?_));refine aR O O (aA O ?_);refine aJ _ O (fun h1=>?_) (fun h1=>?_)
 ·have bP:i<n:=by omega
  have hx:i<xss.length:=by omega
  refine aC O (aR O O ?_);refine xm N aV O O (by omega) fun A7 w6 bg=>aA O ?_;have e2:gl xss i=xss[i]:=by simp [gl,bX,dE hx]
  have sQ:=hs (gl xss i) (kS (by omega) (by omega));refine Cd.loop (α:=Nat) (fun k=> [(1,.slice Ap N cp),(2,.pointer Ab),(4,.pointer Ac),(5,.pointer Ad),(6,aj i),(7,.slice A7 N N),(8,aj k)]) (fun k w'=>St w w' (aE 2 A7 N N (nT (List.replicate N 0) (fun f=>gi p f) (fun f=>gi p (gi (gl xss i) f)) k)::Bx 37 1 Ad [.slice A3 i c3]::Bx 37 1 Ac [.slice none 0 0]::Bx 37 1 Ab [.slice A n c]::aQ 24 A3 i c3 ec::cw 2 ec ((xss.map (mX N p)).take i))/\k<=N) (fun k=>N - k) 0 (Wn O) ⟨bg,bk _⟩ ?_;rintro k e w7 ⟨bm,hk⟩;have hM:=bm.bE hR;have xX:=bm.dh hP;refine aY O (aR O O (aA O ?_));refine aJ _ O (fun h2=>?_) (fun h2=>?_)
  ·have bw:=hM.at_ (i:=(i:Int)) (by omega) h1;have eM:=hM.jv (k:=(i:Int)) (by omega) h1;have hv:=sQ.2 (k:Int) (by omega) (by omega);have yy:=hp (k:Int) (by omega) (by omega);have hpv:=hp _ hv.1 hv.2;have lA:=sQ.1;have hB:=bm.rd 3 O;have hO:=bm.bU 0 O;have cW:(gi p k).toNat<N:=by omega
   refine cj O ?_;refine jc [17] [yS (A7) (N) (N),yS (Ap) (N) (cp),yI ((k:Int)),yP (az (Ap) ((k:Int)).toNat),yI (gi (p) ((k:Int))),yS (Ap) (N) (cp),yP (az (Ab) 0),yS (A) (n) (c),yI ((i:Int)),yP (az (A) ((i:Int)).toNat),yS ((rg (rs) ((i:Int))).a) ((rg (rs) ((i:Int))).n) ((rg (rs) ((i:Int))).c),yI ((k:Int)),yP (az ((rg (rs) ((i:Int))).a) ((k:Int)).toNat),yI (gi (gl xss i) ((k:Int))),yP (az (Ap) (gi (gl xss i) ((k:Int))).toNat),yI (gi (p) (gi (gl xss i) ((k:Int)))),yP (az (A7) (gi (p) ((k:Int))).toNat),.pr (fun _ w'=>St w w' (aE 2 A7 N N (nT (List.replicate N 0) (fun f=>gi p f) (fun f=>gi p (gi (gl xss i) f)) (k+1))::Bx 37 1 Ad [.slice A3 i c3]::Bx 37 1 Ac [.slice none 0 0]::Bx 37 1 Ab [.slice A n c]::aQ 24 A3 i c3 ec::cw 2 ec ((xss.map (mX N p)).take i)))] (by kernel_rfl) (by kernel_rfl) (ly (ly (ly (ly (ly (ly (ly (ly (ly (ly (ly (ly (ly (ly (ly (ly (ly (cq.2 ⟨Ye.ct (fun v w w' h hb=>h.ao hb),(fun _ h=>by cases h)⟩)))))))))))))))))) ?_ ?_
   ·refine⟨b8 O,b8 O,b8 O,cP fun _ _ hb _ _ _=>aw (xX.ao hb).2 O (bJ O O),cP fun _ _ hb _ _ _=>a6 (xX.ao hb) O (bJ O O),b8 O,cP fun _ _ hb _ _ _=>aT (hB.below hb) O (bJ O O),cP fun _ _ hb _ _ _=>a7 (hB.below hb) O (bJ O O),b8 O,cP fun _ _ hb _ _ _=>aw (hM.top.ao hb).2 O (bJ O O),cP fun _ _ hb _ _ _=>bn (hM.top.ao hb) O (bJ O O),b8 O,cP fun _ _ hb _ _ _=>aw (bw.ao hb).2 O (bJ O O),cP fun _ _ hb _ _ _=>a6 (bw.ao hb) O (bJ O O),cP fun _ _ hb _ _ _=>aw (xX.ao hb).2 O (bJ O O),cP fun _ _ hb _ _ _=>a6 (xX.ao hb) O (bJ O O),cP fun _ _ hb _ _ _=>aw (hO.ao hb).2 O (bJ O O),?_,av⟩;refine jh fun e1 w1 hb hp aZ hq=>?_
    exact ak.mg 0 (bm.ao hb) O O O cW fun w9 ax=>ak.n (eA.st O ax)
   intro u w8 _ hu _ _;have bI:=hu 17 _ O (by kernel_rfl);refine ib O (aI O (aM O (tQ ?_)));exact⟨k+1,by show N - (k+1)<N - k;omega,(Wn O),bI,by omega⟩
  have lv:k=N:=by omega
  subst lv;refine bj O (bl (cn O ?_));refine aT (bm.rd 1 O) O (a7 (bm.rd 1 O) O (aq O (mu bm O O O ?_)));intro A9 w9 bO;refine iU 5 bO O (bO.dB 0 O) O O O (by omega) (by omega) O ?_;intro bB bM dW cJ;have cJ:=cJ.tail;refine aT (cJ.rd 1 O) O (od 1 cJ O O O O O ?_);intro eZ il;have il:St w eZ (aE 2 A7 k k (mX k p (gl xss i))::Bx 37 1 Ad [.slice bB (i+1) bM]::Bx 37 1 Ac [.slice none 0 0]::Bx 37 1 Ab [.slice A n c]::aQ 24 bB (i+1) bM (ec++ [⟨A7,k,k⟩])::cw 2 ec ((xss.map (mX k p)).take i)):=il;refine aq O (aI O (aM O (tQ ?_)));refine⟨(i+1,bB,bM,ec++ [⟨A7,k,k⟩]),by show n - (i+1)<n - i;omega,(Wn O),?_,bP,by simp [hlen]⟩;show St w eZ (_::_::_::aQ _ bB (i+1) bM (ec++ [_])::cw _ (ec++ [_]) ((xss.map (mX k p)).take (i+1)));rw [gk (by rw [fv];exact hx),rX (by simp [hlen];omega),List.getElem_map,<-e2];exact il.perm (gB (l₁:=[_]) (l₂:=_::_::_::_::cw 2 ec ((xss.map (mX k p)).take i)))
 refine bj O (bl (cn O ?_));have cd:i=n:=by omega
 subst cd;rw [eI (by rw [fv];omega)]at aV;refine ak.dz 0 (aV.rd 0 O) O O O (gU 1 1 aV O O O O O O O ?_);intro w6 bg;refine bW O (uR O (bg.rd 1 O) ?_);exact⟨A3,c3,ec,O,hlen,bg.sub (((List.sublist_cons_self _ _).trans (List.sublist_cons_self _ _)).trans (List.sublist_cons_self _ _))⟩
theorem bN.JA{xss:ag}(hM:bN xss){f:Int}(h0:0<=f)(hf:f< (gl xss 0).length):lO (gl xss 0).length (cK (gl xss 0).length xss f):=by
 have hs:=hM.2.2.1.sys;have hi:=hM.2.2.1.inj;have h2:=hM.2.1;obtain⟨g,_,hm⟩:=qv hs h0 hf;have dV:=(DW hs (by omega)).1 hM.2.2.2.2;refine⟨?_,g.nodup,g.range⟩;have h1:=zq (fH (gl xss 0).length) (cK (gl xss 0).length xss f) (by
  unfold fH;rw [List.nodup_iff_pairwise_ne,List.pairwise_map];exact(List.nodup_iff_pairwise_ne.1 List.nodup_range).imp (fun h e=>h (by omega))) (fun z hz=>by
  have hz:=xa.1 hz;exact(hm z).2 ((Reach.symm hs hi (by omega) (by omega) (dV f h0 hf)).trans (dV z hz.1 hz.2)))
 rw [rZ]at h1;have:=g.len;omega
theorem Rk(A:ai)(n c:Nat)(rs:List aH)(xss:ag)(N:Nat)(f:Int)(w:aa)(hR:bu w A n rs xss)(hM:bN xss)(hN:N=(gl xss 0).length)(h0:0<=f)(hf:f<N):
 aG prog 198 [.agg #[.slice A n c],aj f] w (fun v w'=>∃A' c' rs',v= .agg #[.slice A' n c']/\rs'.length=n/\St w w' (aW 24 2 A' n c' rs' (dm N xss f))):=by
 subst hN;have hP:=hM.JA h0 hf;have hs:=hM.2.2.1.sys;have h5:=hM.1;have Bp:=hM.2.1;have eW:=hR.len;have sI:xss.map (mX (gl xss 0).length (gV (gl xss 0).length (cK (gl xss 0).length xss f)))=dm (gl xss 0).length xss f:=ki (fun mv _=>Tu hP);have o4:∀x:Int,0<=x->x< ((gl xss 0).length:Int)->0<=gi (gV (gl xss 0).length (cK (gl xss 0).length xss f)) x/\gi (gV (gl xss 0).length (cK (gl xss 0).length xss f)) x< ((gl xss 0).length:Int):=fun x h0 h1=>by
  obtain⟨k,hk,_,hb⟩:=hP.vn h0 h1;omega
 generalize N1:(gl xss 0).length=N at*;refine bs func198 O ntmps198 O (uQ O O) (aY O (gS (St.refl w) O O ?_));intro Ab w1 aD;refine lN aD O fun Ac w2 ay=>aA O ?_;have hB:=ay.rd 1 O;refine jc [5] [.ex (.agg #[.slice (A) (n) (c)]),.ex (.agg #[.slice (A) (n) (c)]),yI (f),.pr (fun v w'=>∃A4,v= .slice A4 N N/\St w w' [aE 2 A4 N N (gV N (cK N xss f)),Bx 37 1 Ac [.slice none 0 0],Bx 37 1 Ab [.slice A n c]]),.pr (fun v w'=>∃A4 c4 bz,v= .agg #[.slice A4 n c4]/\bz.length=n/\St w w' (Bx 37 1 Ac [.slice none 0 0]::Bx 37 1 Ab [.slice A n c]::aW 24 2 A4 n c4 bz (dm N xss f))),.pr (fun _ w'=>∃A4 c4 bz,bz.length=n/\St w w' (Bx 37 1 Ac [.slice A4 n c4]::Bx 37 1 Ab [.slice A n c]::aW 24 2 A4 n c4 bz (dm N xss f)))] (by kernel_rfl) (by kernel_rfl) (ly (ly (ly (cq.2 ⟨Ye.ct (fun v w w' h hb=>by obtain⟨A4,hv,hT⟩:=h;exact⟨A4,hv,hT.ao hb⟩),(cq.2 ⟨Ye.ct (fun v w w' h hb=>by obtain⟨A4,c4,bz,hv,hl,hT⟩:=h;exact⟨A4,c4,bz,hv,hl,hT.ao hb⟩),(cq.2 ⟨Ye.ct (fun v w w' h hb=>by obtain⟨A4,c4,bz,hl,hT⟩:=h;exact⟨A4,c4,bz,hl,hT.ao hb⟩),(fun _ h=>by cases h)⟩)⟩)⟩)))) ?_ ?_
 ·refine⟨cP fun _ _ hb _ _ _=>ak.dz 0 (hB.below hb) O O O (bJ O O),cP fun _ _ hb _ _ _=>ak.dz 0 (hB.below hb) O O O (bJ O O),b8 O,?_,?_,?_,av⟩
  ·refine cP fun e1 w1 hb hp aZ hq=>?_
   refine aO (Rn A n c rs xss N f _ ((ay.ao hb).bE hR) (by omega) hs (by omega) h0 hf hP) O ?_;rintro _ w9 ⟨A4,rfl,ax⟩;exact ak.n (eS.dn O ax.below ⟨A4,O,(ay.ao hb).call ax⟩)
  ·refine cP fun e1 w1 hb hp aZ hq=>?_
   obtain⟨A4,h8,hT⟩:=(hp 3 _ _ (by kernel_rfl) rfl rfl (by kernel_rfl));refine Wh (Rp A n c rs xss N A4 N _ _ (hT.bE hR) (by omega) hs (by omega) (hT.bU 0 O) o4) O (by exact aS (fun v=> [Value.agg #[.slice A n c],v]) h8) O ?_;rintro _ w9 ⟨A5,c5,kf,rfl,CH,ax⟩;refine ak.n ?_;exact eS.dn O ax.below ⟨A5,c5,kf,O,CH,by rw [sI]at ax;exact(hT.tail.call ax).perm gB⟩
  refine jh fun e1 w1 hb hp aZ hq=>?_
  obtain⟨A4,c4,bz,h9,hl,hT⟩:=(hp 4 _ _ (by kernel_rfl) rfl rfl (by kernel_rfl));refine gU 1 0 hT O O (by exact h9) O O O O ?_;intro w9 ax;exact ak.n (eA.st O ⟨A4,c4,bz,hl,ax⟩)
 intro u w3 _ hu _ _;obtain⟨A4,c4,bz,CG,hT⟩:=hu 5 _ rfl (by kernel_rfl);refine sd O (uR O (hT.rd 0 O) ?_);exact⟨A4,c4,bz,O,CG,hT.sub ((List.sublist_cons_self _ _).trans (List.sublist_cons_self _ _))⟩
theorem SM(A:ai)(n c:Nat)(rs:List aH)(xss:ag)(N:Nat)(pt:Int)(w:aa)(hR:bu w A n rs xss)(hn:n<=9223372036854775807)(k5:0<n)(hs:Sys N xss)(hN:N<=1000000000)(h0:0<=pt)(h1:pt<N):
 aG prog 213 [.slice A n c,aj pt] w (fun v w'=>∃A' c',v= .slice A' (cK N xss pt).length c'/\St w w' [aE 2 A' (cK N xss pt).length c' (cK N xss pt)]):=by
 have cT:∀k:Int,0<=k->k<n->(rg rs k).n=N:=fun k jW hk=>by
  rw [<-hR.jv jW hk];exact(hs _ (kS jW (by rw [hR.len];exact hk))).1
 have l4:=cT 0 (by omega) (by omega);refine bs func213 O ntmps213 O (bF O) (aY O (aw hR.top.2 O (bn hR.top O (aR O O ?_))));refine pD N (St.refl w) (by rw [l4];rfl) O (by omega) ?_;intro A5 w1 aD;refine aq O ?_;refine Wf (aD.fm 0 O).2 (by rw [l4];rfl) O O (by omega) (by omega) ?_;refine mw 0 aD O O O (by omega) fun w2 ay=>aq O (e6 ay O O O ?_);intro A6 w3 aL;refine aA O ?_;refine Cd.loop (α:=Nat×ah×ai×Nat×List Bool) (fun q=> [(0,.slice A n c),(5,.slice A5 N N),(6,.slice q.2.2.1 q.2.1.length q.2.2.2.1),(7,aj (q.1:Int))]) (fun q w'=>St w w' [aE 2 q.2.2.1 q.2.1.length q.2.2.2.1 q.2.1,dC 4 A5 N N q.2.2.2.2]/\q.1<=q.2.1.length/\Good N xss pt q.2.1/\ob N q.2.2.2.2 q.2.1/\jP xss (N+1 - q.1) q.1 q.2.1=cK N xss pt) (fun q=>N+1 - q.1) (0,[pt],A6,1,(List.replicate N false).set pt.toNat true) ⟨O,by rw [l4];rfl,O,O,av⟩ ⟨aL,bk _,Be h0 h1,ob.init h0 (by omega),O⟩ ?_;rintro⟨i,out,Ao,co,S⟩ e2 w5 ⟨aV,hi,hg,hm,hb⟩;dsimp only at aV hi hg hm hb|-;have hlen:=hg.len;refine aY O (aR O O (aA O ?_));refine aJ _ O (fun h2=>?_) (fun h2=>?_)
 ·refine aC O (aR O O (aA O ?_));refine Cd.loop (α:=Nat×ah×ai×Nat×List Bool) (fun q=> [(0,.slice A n c),(5,.slice A5 N N),(6,.slice q.2.2.1 q.2.1.length q.2.2.2.1),(7,aj i),(27,.slice A n c),(28,aj n),(29,aj (q.1:Int))]) (fun q w'=>St w w' [aE 2 q.2.2.1 q.2.1.length q.2.2.2.1 q.2.1,dC 4 A5 N N q.2.2.2.2]/\q.1<=n/\Good N xss pt q.2.1/\ob N q.2.2.2.2 q.2.1/\out<+:q.2.1/\(xss.drop q.1).foldl (fun o p=>fW o (gi p (gi out i))) q.2.1=expand xss (gi out i) out) (fun q=>n - q.1) (0,out,Ao,co,S) (Wn O) ⟨aV,bk _,hg,hm,List.prefix_rfl,O⟩ ?_;rintro⟨k,eR,sa,tP,S'⟩ e3 w6 ⟨bg,hk,jV,fj,jH,hf⟩;dsimp only at bg hk jV fj jH hf|-;have p9:=jV.len;refine bH O (aJ _ O (fun h3=>?_) (fun h3=>?_))
  ·have CB:i<eR.length:=by have:=jH.length_le;omega
   have vS:gi eR i=gi out i:=xM jH (by omega);have js:=hg.range _ (gi_in (i:=i) (by omega));have gC:gl xss k∈xss:=kS (by omega) (by rw [hR.len];omega);have hy:=(hs _ gC).2 (gi out i) js.1 js.2;have fF:=cT k (by omega) (by omega);have hT:=(bg.bE hR);have hO:=bg.bU 0 O;have bw:=hT.at_ (i:=k) (by omega) (by omega);have pZ:(xss.drop (k+1)).foldl (fun o p=>fW o (gi p (gi out i))) (fW eR (gi (gl xss k) (gi out i)))=expand xss (gi out i) out:=by
    rw [<-hf,List.drop_eq_getElem_cons (show k<xss.length by rw [hR.len];omega),List.foldl_cons,cQ (by rw [hR.len];omega)]
   refine aC O (aw hT.top.2 O (bn hT.top O (aq O (aw hO.2 O (a6 hO O ?_)))));rw [vS];refine aw bw.2 O (a6 bw O (aq O (aw (bg.fm 1 O).2 O (lh (bg.fm 1 O) O (by omega) O O ?_))))
   first | refine dv rfl rfl ?_ | refine eJ rfl rfl ?_
   refine aA O (Cd.cond O (fun h4=>?_) (fun h4=>?_))
   ·have CU:¬gi (gl xss k) (gi out i)∈eR:=fun cd=>by
     have:=(fj.2 _ hy.1 (by omega)).2 cd;rw [this]at h4;cases h4
    have sU:fW eR (gi (gl xss k) (gi out i))=eR++ [gi (gl xss k) (gi out i)]:=by unfold fW;rw [if_neg CU]
    have p6:=jV.push hs (jH.subset (gi_in (i:=i) (by omega))) gC;have wg:=jH.trans (D5 eR (gi (gl xss k) (gi out i)));rw [sU]at pZ p6 wg;have CL:=p6.len;simp only [dS,List.length_singleton]at CL;refine aC O (aw (bg.fm 1 O).2 O (mw 1 bg O O O (by omega) ?_));intro w8 bI;refine aq O (e6 bI O O O ?_);intro A3 w9 bO;refine fS 1 bO O (bO.bU 0 O) O O O (by omega) (by omega) O fun A4 c4 dW cJ=>aq O (aI O (aM O (tQ ?_)));refine⟨(k+1,eR++ [gi (gl xss k) (gi out i)],A4,c4,S'.set (gi (gl xss k) (gi out i)).toNat true),by show n - (k+1)<n - k;omega,⟨O,O,by rw [dS];rfl,O,O,O,O,av⟩,?_,by show k+1<=n;omega,p6,fj.push hy.1 (by omega),wg,pZ⟩;have mH:=cJ.tail;simp only [dS,List.length_singleton];exact mH
   have cd:gi (gl xss k) (gi out i)∈eR:=(fj.2 _ hy.1 (by omega)).1 (by simpa using h4);have sU:fW eR (gi (gl xss k) (gi out i))=eR:=by unfold fW;rw [if_pos cd]
   rw [sU]at pZ;refine aC O (aI O (aM O (tQ ?_)));exact⟨(k+1,eR,sa,tP,S'),by show n - (k+1)<n - k;omega,(Wn O),bg,by show k+1<=n;omega,jV,fj,jH,pZ⟩
  refine bj O (bl (cn O (aI O (aM O (tQ ?_)))));have dQ:k=n:=by omega
  rw [dQ,List.drop_of_length_le (by rw [hR.len];omega)]at hf;have hf:eR=expand xss (gi out i) out:=hf;refine⟨(i+1,eR,sa,tP,S'),by show N+1 - (i+1)<N+1 - i;omega,(Wn O),bg,by show i+1<=eR.length;have:=jH.length_le;omega,jV,fj,?_⟩;show jP xss (N+1 - (i+1)) (i+1) eR=_;rw [<-hb,show N+1 - i=(N+1 - (i+1))+1 by omega];simp only [jP];rw [aF (by omega),hf]
 refine bj O (bl (dd O ?_));refine dH O ?_;rw [E0 (by omega)]at hb;subst hb;exact⟨Ao,co,O,aV.sub (List.Sublist.cons_cons _ (List.nil_sublist _))⟩
theorem JN(o b mv:ah):(ju o b mv).length=o.length:=by simp [ju]
theorem TF{o b mv:ah}{k:Nat}(hk:k<o.length):(ju o b mv).take (k+1)=(ju o b mv).take k++ [gi b (gi mv (gi o k))]:=by
 rw [gk (by rw [JN];exact hk),bQ hk];simp [ju]
theorem FQ(A:ai)(n c:Nat)(rs:List aH)(xss:ag)(N:Nat)(f:Int)(w:aa)(hR:bu w A n rs xss)(hM:bN xss)(hN:N=(gl xss 0).length)(h0:0<=f)(hf:f<N):
 aG prog 159 [.slice A n c,aj f] w (fun v w'=>∃A' c' rs',v= .agg #[.slice A' n c']/\rs'.length=n/\St w w' (aW 24 2 A' n c' rs' (dm N xss f))):=by
 subst hN;have hP:=hM.JA h0 hf;have hs:=hM.2.2.1.sys;have h5:=hM.1;have Bp:=hM.2.1;have eW:=hR.len;have l4:(gl xss 0).length=(rg rs 0).n:=hR.jv (by omega) (by omega);have OX:dm (gl xss 0).length xss f=xss.map fun mv=>ju (cK (gl xss 0).length xss f) (gV (gl xss 0).length (cK (gl xss 0).length xss f)) mv:=O
 have o4:∀x:Int,0<=x->x< ((gl xss 0).length:Int)->0<=gi (gV (gl xss 0).length (cK (gl xss 0).length xss f)) x/\gi (gV (gl xss 0).length (cK (gl xss 0).length xss f)) x< ((gl xss 0).length:Int):=fun x h0 h1=>by
  obtain⟨k,hk,_,hb⟩:=hP.vn h0 h1;omega
 have nA:=EY (gl xss 0).length (cK (gl xss 0).length xss f);have yc:gV (gl xss 0).length (cK (gl xss 0).length xss f)=nT (List.replicate (gl xss 0).length 0) (fun k=>gi (cK (gl xss 0).length xss f) k) (fun k=> (k:Int)) (gl xss 0).length:=by
  unfold gV;rw [hP.len]
 have yw:=SM A n c rs xss (gl xss 0).length f;generalize N1:(gl xss 0).length=N at*;generalize hoe:cK N xss f=o at*;generalize dq:gV N o=b at*;have C1:=hP.len;have bw:∀k:Nat,k<N->0<=gi o k/\gi o k<N:=fun k hk=>hP.jK hk
 rw [OX];refine bs func159 O ntmps159 O (uQ O O) (aY O (lN (St.refl w) O ?_));intro Ac w1 aD;refine aq O (aO (yw _ (aD.bE hR) (by omega) (by omega) hs (by omega) h0 hf) O ?_);rintro _ w2 ⟨Ao,co,rfl,ax⟩;rw [C1]at ax|-;have ay:=aD.call ax;have fc:=ay.bE hR;refine aq O (aw fc.top.2 O (bn fc.top O (aR O O ?_)));refine xm N ay (by rw [<-l4];rfl) O (by omega) ?_;intro A6 w3 aL;refine aq O (aR O O (aA O ?_));refine Cd.loop (α:=Nat) (fun k=> [(0,.slice A n c),(4,.pointer Ac),(5,.slice Ao N co),(6,.slice A6 N N),(23,.slice Ao N co),(24,aj N),(25,aj k)]) (fun k w'=>St w w' [aE 2 A6 N N (nT (List.replicate N 0) (fun k=>gi o k) (fun k=> (k:Int)) k),aE 2 Ao N co o,Bx 37 1 Ac [.slice none 0 0]]/\k<=N) (fun k=>N - k) 0 ⟨O,O,O,by rw [<-l4];rfl,O,O,O,av⟩ ⟨aL,bk _⟩ ?_;rintro k e w4 ⟨aN,hk⟩;have xW:=aN.bU 1 O;refine bH O (aJ _ O (fun h1=>?_) (fun h1=>?_))
 ·have b6:=bw k (by omega);refine aC O (aw xW.2 O (a6 xW O (aq O (aw (aN.bU 0 O).2 O (ak.mg 0 aN O O O (by omega) ?_)))));intro w5 aV;refine aq O (aI O (aM O (tQ ?_)));exact⟨k+1,by show N - (k+1)<N - k;omega,(Wn O),aV,by omega⟩
 have lv:k=N:=by omega
 subst lv;rw [<-yc]at aN;refine bj O (bl (cn O ?_));refine lN aN O ?_;intro Ad w5 aV;have nz:St w w5 (Bx 37 1 Ad [.slice none 0 0]::aE 2 A6 k k b::aE 2 Ao k co o::Bx 37 1 Ac [.slice none 0 0]::aQ 24 none 0 0 []::[]):=(aV.nil 24).perm (gB (l₁:=[_]) (l₂:=[_,_,_,_]));refine aq O (aR O O (aA O ?_));refine Cd.loop (α:=Nat×ai×Nat×List aH) (fun s=> [(4,.pointer Ac),(5,.slice Ao k co),(6,.slice A6 k k),(9,.pointer Ad),(35,.slice A n c),(36,aj n),(37,aj (s.1:Int))]) (fun s w'=>St w w' (Bx 37 1 Ad [.slice s.2.1 s.1 s.2.2.1]::aE 2 A6 k k b::aE 2 Ao k co o::Bx 37 1 Ac [.slice none 0 0]::aQ 24 s.2.1 s.1 s.2.2.1 s.2.2.2::cw 2 s.2.2.2 ((xss.map fun mv=>ju o b mv).take s.1))/\s.1<=n/\s.2.2.2.length=s.1) (fun s=>n - s.1) (0,none,0,[]) (Wn O) ⟨nz,bk _,O⟩ ?_;rintro⟨i,A3,c3,ec⟩ e w6 ⟨bg,hi,hlen⟩;dsimp only at bg hi hlen|-;refine bH O (aJ _ O (fun h1=>?_) (fun h1=>?_))
 ·have bP:i<n:=by omega
  have hx:i<xss.length:=by omega
  have iK:=bg.bE hR;have e2:gl xss i=xss[i]:=by simp [gl,bX,dE hx]
  have sQ:=hs (gl xss i) (kS (by omega) (by omega));have rz:=iK.jv (k:=(i:Int)) (by omega) h1;refine aC O (aw iK.top.2 O (bn iK.top O ?_));refine aq O (aR O O (aA O ?_));refine Cd.loop (α:=Nat×ai×Nat) (fun s=> [(4,.pointer Ac),(5,.slice Ao k co),(6,.slice A6 k k),(9,.pointer Ad),(35,.slice A n c),(36,aj n),(37,aj i),(11,.slice (rg rs i).a (rg rs i).n (rg rs i).c),(12,.slice s.2.1 s.1 s.2.2),(41,.slice Ao k co),(42,aj k),(43,aj (s.1:Int))]) (fun s w'=>St w w' (aE 2 s.2.1 s.1 s.2.2 ((ju o b (gl xss i)).take s.1)::Bx 37 1 Ad [.slice A3 i c3]::aE 2 A6 k k b::aE 2 Ao k co o::Bx 37 1 Ac [.slice none 0 0]::aQ 24 A3 i c3 ec::cw 2 ec ((xss.map fun mv=>ju o b mv).take i))/\s.1<=k) (fun s=>k - s.1) (0,none,0) (Wn O) ⟨bg.nil _,bk _⟩ ?_;rintro⟨j,nV,oh⟩ e w7 ⟨bm,hj⟩;dsimp only at bm hj|-;have GC:=bm.bU 3 O;have sq:=bm.bU 2 O;have uc:=(bm.bE hR).at_ (i:=(i:Int)) (by omega) h1;refine bH O (aJ _ O (fun h2=>?_) (fun h2=>?_))
  ·have o9:=bw j (by omega);have hv:=sQ.2 _ o9.1 o9.2;have hbv:=o4 _ hv.1 hv.2;refine aC O (aw GC.2 O (a6 GC O (aq O (aw uc.2 O (a6 uc O (aw sq.2 O (a6 sq O (e6 bm O O O ?_))))))));intro A9 w9 bO;refine fS 1 bO O (bO.bU 0 O) O O O (by omega) (by omega) O ?_;intro bB bM dW cJ;have cJ:=cJ.tail;refine aq O (aI O (aM O (tQ ?_)));refine⟨(j+1,bB,bM),by show k - (j+1)<k - j;omega,(Wn O),?_,by show j+1<=k;omega⟩;show St w dW (aE _ bB (j+1) bM ((ju o b (gl xss i)).take (j+1))::_);rw [TF (by omega)];exact cJ
  have rq:j=k:=by omega
  subst rq;rw [eI (by rw [JN];omega)]at bm;refine bj O (bl (cn O ?_));refine aT (bm.rd 1 O) O (a7 (bm.rd 1 O) O (aq O (mu bm O O O ?_)));intro A9 w9 bO;refine iU 6 bO O (bO.dB 0 O) O O O (by omega) (by omega) O ?_;intro bB bM dW cJ;have cJ:=cJ.tail;refine aT (cJ.rd 1 O) O (od 1 cJ O O O O O ?_);intro eZ il;have il:St w eZ (aE 2 nV j oh (ju o b (gl xss i))::Bx 37 1 Ad [.slice bB (i+1) bM]::aE 2 A6 j j b::aE 2 Ao j co o::Bx 37 1 Ac [.slice none 0 0]::aQ 24 bB (i+1) bM (ec++ [⟨nV,j,oh⟩])::cw 2 ec ((xss.map fun mv=>ju o b mv).take i)):=il;refine aq O (aI O (aM O (tQ ?_)));refine⟨(i+1,bB,bM,ec++ [⟨nV,j,oh⟩]),by show n - (i+1)<n - i;omega,(Wn O),?_,bP,by simp [hlen]⟩;show St w eZ (_::_::_::_::aQ _ bB (i+1) bM (ec++ [_])::cw _ (ec++ [_]) ((xss.map fun mv=>ju o b mv).take (i+1)));rw [gk (by rw [fv];exact hx),rX (by simp [hlen];omega),List.getElem_map,<-e2];exact il.perm (gB (l₁:=[_]) (l₂:=_::_::_::_::_::cw 2 ec ((xss.map fun mv=>ju o b mv).take i)))
 have cd:i=n:=by omega
 subst cd;rw [eI (by rw [fv];omega)]at bg;refine bj O (bl (cn O ?_));refine ak.dz 0 (bg.rd 0 O) O O O (gU 1 3 bg O O O O O O O ?_);intro w7 bm;refine bW O (uR O (bm.rd 3 O) ?_);exact⟨A3,c3,ec,O,hlen,bm.sub ((((List.sublist_cons_self _ _).trans (List.sublist_cons_self _ _)).trans (List.sublist_cons_self _ _)).trans (List.sublist_cons_self _ _))⟩
end
section
section
variable {N:Nat} {xss fZ:ag} {φ:Int->Int}
variable {f:Int}
end
section
variable {n F:Nat} {L:ag}
end
section
variable {N:Nat} {xss:ag} {f:Int}
end
end
section
open Go.RowKit
def nX(l:ah):Prop:=l.Pairwise (· <= ·)
def jw(l:ah):ah:=l.mergeSort fun x y=>decide (x<=y)
theorem Em(l:ah):(jw l).Perm l:=List.mergeSort_perm _ _
theorem T5(l:ah):nX (jw l):=by
 have:=List.pairwise_mergeSort (le:=fun x y:Int=>decide (x<=y)) (fun a b c h1 h2=>by simp at h1 h2|-;omega) (fun a b=>by simp;omega) l;exact this.imp fun h=>by simpa using h
theorem Ly{l l':ah}(h:l.Perm l')(h1:nX l)(h2:nX l'):l=l':=
 List.Perm.eq_of_pairwise (le:=(· <= ·)) (fun a b _ _ h1 h2=>by omega) h1 h2 h
def Ey(xss:ag):Prop:=bN xss/\2<=xss.length
instance (xss:ag):Decidable (Ey xss):=by unfold Ey;exact inferInstance
theorem yY(A:ai)(n c:Nat)(rs:List aH)(xss:ag)(w:aa)(hR:bu w A n rs xss)(hn:0<n):
 aG prog 136 [.agg #[.slice A n c]] w (fun v w'=>v=aj ((gl xss 0).length:Int)/\St w w' []):=by
 refine bs func136 O ntmps136 O (bF O) (aY O (gS (St.refl w) O O ?_));intro Ab w1 hS;have iC:=hS.bE hR;have e0:(gl xss 0).length=(rg rs 0).n:=hR.jv (by omega) (by omega);refine aq O (aT (hS.rd 0 O) O (a7 (hS.rd 0 O) O (aw iC.top.2 O (bn iC.top O ?_))));refine aR O O (bW O ?_);refine eF O ?_;exact⟨by rw [e0],hS.none⟩
theorem bS.drop{w:aa}{A:ai}{n c l:Nat}{xs:ah}(h:bS w A n xs)(hl:l<=n)(hc:n<=c):bS w (cutAt A c l) (n - l) (xs.drop l):=by
 have:=h.cut (l:=l) (h:=n) (c:=c) hl (cO _) hc
 rwa [eI (by rw [List.length_drop,h.1];omega)]at this
theorem bS.take{w:aa}{A:ai}{n l:Nat}{xs:ah}(h:bS w A n xs)(hl:l<=n):bS w A l (xs.take l):=by
 have:=h.cut (l:=0) (h:=l) (c:=0) (bk _) hl;refine⟨by rw [kM,h.1];omega,fun k hk=>?_⟩;obtain⟨q,h1,h2⟩:=h.2 k (by omega);exact⟨q,h1,by rw [h2];simp [oQ,hk,bX]⟩
end
end Go.Proofs.YtagdamiiececaaaGreatDoor.Vc
