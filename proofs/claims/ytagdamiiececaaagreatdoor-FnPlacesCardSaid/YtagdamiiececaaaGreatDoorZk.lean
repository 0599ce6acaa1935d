/-
 Lemmas. Conditions: as each states them.
-/
import Derived.Test.YtagdamiiececaaaGreatDoorZj
import Derived.Deep.Matrix
import Derived.ChangeSame
import Derived.ProofKit
import Derived.OpenShut
import Derived.Handed
import Derived.Lib.SmallJoins
set_option maxHeartbeats 8000000
namespace Go.Proofs.YtagdamiiececaaaGreatDoor.Vc
open Tryz
section
inductive mE(M:ag)(S:Nat->Prop)(a:Nat):Nat->Prop where
 | refl:mE M S a a
 | step {b c i:Nat}:mE M S a b->i<M.length->¬S i->gi (gl M i) b=(c:Int)->mE M S a c
def mY(M:ag):Prop:=∀a b:Nat,a< (gl M 0).length->b< (gl M 0).length->mE M (fun k=>gi (dI M k) a=gi (dI M k) b) a b
section
variable{b p q:Nat}{S:Nat->Prop}
variable {M:ag}
theorem NW(hM:bj M){i a:Nat}(hi:i<M.length)(ha:a< (gl M 0).length):∃c:Nat,c< (gl M 0).length/\gi (gl M i) a=(c:Int)/\gi (gl M i) c=(a:Int)/\c≠a:=by
 have h:=hM.tl hi (f:=(a:Int)) (by omega) (by omega);have h2:=hM.two hi (f:=(a:Int)) (by omega) (by omega);have h3:=((hM.2.2.1.at_ hi).2.2 a (by rw [(hM.2.2.1.at_ hi).1];exact ha)).1;refine⟨(gi (gl M i) a).toNat,by omega,by omega,by rw [Int.toNat_of_nonneg h.1];exact h2,fun e=>?_⟩;omega
theorem mE.lt(hM:bj M){a:Nat}(ha:a< (gl M 0).length)(h:mE M S a b):b< (gl M 0).length:=by
 induction h with
 | refl=>exact ha
 | step _ hi _ e ih=>
  have:=hM.tl hi (f:=((_:Nat):Int)) (by omega) (show((_:Nat):Int)<_ by exact Int.ofNat_lt.2 ih);rw [e]at this;omega
theorem mE.none{a:Nat}(h:mE M S a b)(hS:∀k,k<M.length->S k):b=a:=by
 induction h with
 | refl=>rfl
 | step _ hi hs _ _=>exact absurd (hS _ hi) hs
theorem mE.one(hM:bj M){i a:Nat}(ha:a< (gl M 0).length)(h:mE M S a b)(hS:∀k,k<M.length->k≠i->S k):b=a\/(b:Int)=gi (gl M i) a:=by
 induction h with
 | refl=>exact .inl rfl
 | step h hk hs e ih=>
  rename_i b c k;have eE:k=i:=kV fun b9=>hs (hS k hk b9)
  subst eE;rcases ih with rfl | e2
  ·exact .inr e.symm
  ·left;have:=hM.two hk (f:=(a:Int)) (by omega) (by omega);rw [<-e2,e]at this;omega
theorem KC(hM:bj M):∃g:Nat->Nat,∀a:Nat,a< (gl M 0).length->g a< (eJ M).length/\gl (eJ M) (g a:Int)=jl M.length M a:=by
 have hex:∀a:Nat,∃p:Nat,a< (gl M 0).length->p< (eJ M).length/\gl (eJ M) p=jl M.length M a:=fun a=>by
  by_cases ha:a< (gl M 0).length
  ·obtain⟨p,hp,e⟩:=gu.1 ((tR hM).2 ⟨a,ha,rfl⟩);exact⟨p,fun _=> ⟨hp,by rw [cM hp];exact e⟩⟩
  exact⟨0,fun h=>absurd h ha⟩
 exact Classical.axiomOfChoice hex
theorem Kb(hM:bj M)(hp:p< (eJ M).length):∃a:Nat,a< (gl M 0).length/\gl (eJ M) p=jl M.length M a:=(tR hM).1 (by rw [cM hp];exact dd _)
theorem Kc(hp:p< (eJ M).length)(hq:q< (eJ M).length)(h:gl (eJ M) p=gl (eJ M) q):p=q:=Fh (n:=M.length) (R:=dJ M M.length) (B:=eW M) hp hq h
theorem Kd(hM:bj M){i a c:Nat}(hi:i<M.length)(ha:a< (gl M 0).length)(e:gi (gl M i) a=(c:Int))(hp:p< (eJ M).length)(hq:q< (eJ M).length)(ep:gl (eJ M) p=jl M.length M a)(eq:gl (eJ M) q=jl M.length M c):qV M.length (eJ M) i p q:=
 ⟨hp,hq,fun k hk b9=>by
  rw [ep,eq,mI hk,mI hk];refine ry.2 ?_;rw [<-e];exact(ze hM hi (fun e=>b9 e.symm) (by omega) (by omega)).symm⟩
theorem SY(hM:bj M)(hG:ov M):mY M:=by
 have hl:(eJ M).length=(gl M 0).length:=hG.2.1;have hP:=SX hM hG;have GO:yH M.length (eJ M):=hP.nb;obtain⟨g,hg⟩:=KC hM;have key:∀ {S:Nat->Prop} {p q:Nat},jd M.length (eJ M) S p q->∀ {S':Nat->Prop},(∀k,k<M.length->(S' k->S k))->∀a:Nat,a< (gl M 0).length->gl (eJ M) p=jl M.length M a->
  ∃b:Nat,b< (gl M 0).length/\gl (eJ M) q=jl M.length M b/\mE M S' a b:=by
  intro S p q hL S' hS a ha e
  induction hL with
  | refl _=>exact⟨a,ha,e,.refl⟩
  | step hL hi hs hA ih=>
   rename_i q r i;obtain⟨b,hb,eb,lb⟩:=ih
   by_cases MG:r=q
   ·subst MG;exact⟨b,hb,eb,lb⟩
   obtain⟨c,hc,e1,e2,b9⟩:=NW hM hi hb;have jD:=hg c hc;have hq:=hA.1;have Ts:=Kd hM hi hb e1 hq jD.1 eb jD.2;have Va:g c≠q:=fun e=>b9 (Ke hM hl hc hb (by rw [<-jD.2,e,eb]))
   have u1:=((GO.pt hq hi).2 (g c)).1 ⟨Ts,Va⟩;have u2:=((GO.pt hq hi).2 r).1 ⟨hA,MG⟩;exact⟨c,hc,by rw [u2,<-u1];exact jD.2,.step lb hi (fun h=>hs (hS i hi h)) e1⟩
 intro a b ha hb;have Gp:=hg a ha;have C6:=hg b hb;have nq:jd M.length (eJ M) (fun k=>gi (gl (eJ M) (g a:Int)) k=gi (gl (eJ M) (g b:Int)) k) (g a) (g b):=by
  have hc:BK M.length (eJ M):=hG.2.2.2.2.2;rcases Nat.lt_trichotomy (g a) (g b)with h | h | h
  ·exact hc _ _ h C6.1
  ·rw [h];exact .refl C6.1
  ·have:=(hc _ _ h Gp.1).symm;have e:(fun k:Nat=>gi (gl (eJ M) (g b:Int)) k=gi (gl (eJ M) (g a:Int)) k)=fun k:Nat=>gi (gl (eJ M) (g a:Int)) k=gi (gl (eJ M) (g b:Int)) k:=funext fun k=>propext ⟨Eq.symm,Eq.symm⟩
   rwa [e]at this
 obtain⟨b',kr,e',l'⟩:=key nq (S':=fun k=>gi (dI M k) a=gi (dI M k) b) (fun k hk h=>by
  rw [Gp.2,C6.2,mI hk,mI hk];exact ry.2 h) a ha Gp.2
 obtain rfl:b'=b:=Ke hM hl kr hb (by rw [<-e',C6.2]);exact l'
theorem mY.inj(h:mY M){a:Nat}(ha:a< (gl M 0).length)(hb:b< (gl M 0).length)(e:∀k,k<M.length->gi (dI M k) a=gi (dI M k) b):b=a:=(h a b ha hb).none e
theorem mY.EG(hM:bj M)(h:mY M){i a:Nat}(ha:a< (gl M 0).length)(hb:b< (gl M 0).length)(e:∀k,k<M.length->k≠i->gi (dI M k) a=gi (dI M k) b):b=a\/(b:Int)=gi (gl M i) a:=(h a b ha hb).one hM ha e
theorem Sh{a:Nat}(e:jl M.length M a=jl M.length M b){k:Nat}(hk:k<M.length):gi (dI M k) a=gi (dI M k) b:=by
 have:=bw (fun y=>gi y k) e;simp only [mI hk]at this;exact ry.1 this
theorem mY.Sl(hM:bj M)(h:mY M):(eJ M).length=(gl M 0).length:=by
 have hp:((List.range (gl M 0).length).map (jl M.length M)).Perm (eJ M):=by
  refine(List.perm_ext_iff_of_nodup ?_ (zh _ _ _).nodup).2 fun y=>?_
  ·exact nJ.2 ((List.nodup_range (n:=(gl M 0).length)).imp_of_mem fun {a b} ha hb b9 e=>b9 (h.inj (jN.1 ha) (jN.1 hb) fun k hk=>Sh e hk).symm)
  show _↔y∈eJ M;rw [tR hM,fx];constructor
  ·rintro⟨a,ha,rfl⟩;exact⟨a,jN.1 ha,rfl⟩
  rintro⟨a,ha,rfl⟩;exact⟨a,jN.2 ha,rfl⟩
 have:=hp.length_eq;rw [fQ,pf]at this;exact this.symm
theorem Si(hM:bj M){i a:Nat}(hi:i<M.length)(ha:a< (gl M 0).length){d:Int}(hd:0<=d/\d< (cb M M.length:Int))(hr:gi (dJ M M.length) d=i)(eY:0<i->dm M (i - 1) a∈gl (eW M) d)(dQ:i+1<M.length->d∈gl (eW M) (dm M (i+1) a)):∃b:Nat,b< (gl M 0).length/\dm M i b=d/\∀k,k<M.length->k≠i->dm M k b=dm M k a:=by
 have hn:=hM.1;have hm:jl M.length M a∈eJ M:=(tR hM).2 ⟨a,ha,O⟩;have hf:=(vi hn.1).1 hm;have hs:∀k:Nat,gi ((jl M.length M a).set i d) k=if k=i then d else gi (jl M.length M a) k:=fun k=>by
  have:=lL (S:=jl M.length M a) (x:=(i:Int)) (y:=(k:Int)) (b:=d) (by omega) (by rw [hf.1];omega) (by omega);rw [gn]at this;rw [this]
  by_cases e:k=i
  ·subst e;simp
  rw [aC e,aC (by omega)]
 have hx:(jl M.length M a).set i d∈eJ M:=by
  refine(vi hn.1).2 ⟨by rw [gR];exact hf.1,fun k hk=>?_,fun k hk=>?_⟩
  ·rw [hs k]
   by_cases e:k=i
   ·subst e;rw [aJ rfl,nj];exact⟨hd,hr⟩
   rw [aC e];exact hf.2.1 k hk
  rw [hs k,hs (k+1)]
  by_cases e:k=i
  ·subst e;rw [aJ rfl,aC (by omega),mI hk];exact dQ hk
  rw [aC e]
  by_cases e2:k+1=i
  ·subst e2;rw [aJ rfl,mI (by omega)];exact eY (by omega)
  rw [aC e2];exact hf.2.2 k hk
 obtain⟨b,hb,eb⟩:=(tR hM).1 hx;refine⟨b,hb,?_,fun k hk b9=>?_⟩
 ·have:=hs i;rw [eb,mI hi,aJ rfl]at this;exact this
 have:=hs k;rw [eb,mI hk,aC b9,mI hk]at this;exact this
theorem Kq(hM:bj M){i k a:Nat}(hi:i<M.length)(hk:k<i)(ha:a< (gl M 0).length):dm M k a∈gl (eW M) (dm M i a):=by
 have h1:=pw hM hi ha;have h2:=pw hM (show k<M.length by omega) ha;rw [tS h1.1.1 h1.1.2];exact⟨h2.1,a,ha,i,hi,k,hk,O,O⟩
theorem Kp(hM:bj M){i k:Nat}{d e:Int}(hi:i<M.length)(he:0<=e/\e< (cb M M.length:Int))(G3:gi (dJ M M.length) e=i)(kf:gi (dJ M M.length) d=k)(h:d∈gl (eW M) e):∃a:Nat,a< (gl M 0).length/\e=dm M i a/\d=dm M k a:=by
 rw [tS he.1 he.2]at h;obtain⟨_,f,hf,j,hj,l,hl,e1,e2⟩:=h;have r1:=(pw hM hj hf).2;have r2:=(pw hM (show l<M.length by omega) hf).2;rw [<-e1,G3]at r1;rw [<-e2,kf]at r2;obtain rfl:j=i:=by omega
 obtain rfl:l=k:=by omega
 exact⟨f,hf,e1,e2⟩
theorem Fm(hM:bj M){i:Nat}{e:Int}(he:0<=e/\e< (cb M M.length:Int))(G3:gi (dJ M M.length) e=i):i<M.length/\∃a:Nat,a< (gl M 0).length/\e=dm M i a:=by
 obtain⟨j,a,hj,ha,e1⟩:=Fk hM he.1 he.2;have r1:=(pw hM hj ha).2;rw [<-e1,G3]at r1;obtain rfl:j=i:=by omega
 exact⟨hj,a,ha,e1⟩
theorem mY.RW(hM:bj M)(h:mY M):yD M.length (dJ M M.length) (eW M):=by
 intro i0 e f iB lV he hf UT;obtain⟨i,rfl⟩:∃i:Nat,i0=i:=⟨i0.toNat,by omega⟩;have hi:i<M.length:=by omega
 have hn:=hM.1;have hN:=hM.2.1;have jq:∃a:Nat,a< (gl M 0).length/\(0<i->e=dm M (i - 1) a)/\(i+1<M.length->f=dm M (i+1) a):=by
  rcases he with⟨q1,q2⟩ | ⟨q1,q2,q3⟩
  ·rcases hf with⟨p1,p2⟩ | ⟨p1,p2,p3⟩
   ·exact⟨0,by omega,fun h=>by omega,fun h=>by omega⟩
   rw [nj]at p1;obtain⟨_,a,ha,ea⟩:=Fm hM (i:=i+1) p1 (by omega);exact⟨a,ha,fun h=>by omega,fun _=>ea⟩
  rw [nj]at q1;rcases hf with⟨p1,p2⟩ | ⟨p1,p2,p3⟩
  ·obtain⟨_,a,ha,ea⟩:=Fm hM (i:=i - 1) q1 (by omega);exact⟨a,ha,fun _=>ea,fun h=>by omega⟩
  rw [nj]at p1;obtain⟨a,ha,e1,e2⟩:=Kp hM (i:=i+1) (k:=i - 1) (by omega) p1 (by omega) (by omega) (UT q1.1 p1.1);exact⟨a,ha,fun _=>e2,fun _=>e1⟩
 obtain⟨a,ha,Gd,sT⟩:=jq;have he0:e<0↔i=0:=by
  rcases he with⟨q1,q2⟩ | ⟨q1,q2,q3⟩<;>omega
 have C2:f<0↔i+1=M.length:=by
  rcases hf with⟨q1,q2⟩ | ⟨q1,q2,q3⟩<;>omega
 obtain⟨c,hc,e1,e2,b9⟩:=NW hM hi ha;have zD:dm M i a≠dm M i c:=fun q=>b9 (h.inj ha hc fun k hk=>by
  by_cases e:k=i
  ·subst e;exact ry.1 q
  rw [<-e1];exact(ze hM hi (fun e'=>e e'.symm) (by omega) (by omega)).symm)
 have vN:∀k,k≠i->dm M k c=dm M k a:=fun k hk=>by
  refine ry.2 ?_;rw [<-e1];exact ze hM hi (fun e'=>hk e'.symm) (by omega) (by omega)
 have jE:∀d:Int,d∈nK (dJ M M.length) (eW M) i e f↔d∈[dm M i a,dm M i c]:=fun d=>by
  rw [IW,nj];constructor
  ·rintro⟨hd,hr,u,v⟩;obtain⟨b,hb,eb,hk⟩:=Si hM hi ha hd hr (fun h0=>by
    rw [<-Gd h0];exact u.resolve_left (by omega)) (fun h0=>by
    rw [<-sT h0];exact v.resolve_left (by omega))
   rcases h.EG hM ha hb (i:=i) (fun k lW VB=> (ry.1 (hk k lW VB)).symm)with rfl | q
   ·rw [<-eb];simp
   obtain rfl:b=c:=by omega
   rw [<-eb];simp
  intro hd;have h3:∀b:Nat,b< (gl M 0).length->(∀k,k≠i->dm M k b=dm M k a)->((0<=dm M i b/\dm M i b< (cb M M.length:Int))/\gi (dJ M M.length) (dm M i b)=i/\(e<0\/e∈gl (eW M) (dm M i b))/\(f<0\/dm M i b∈gl (eW M) f)):=fun b hb hk=>by
   have g:=pw hM hi hb;refine⟨g.1,g.2,?_,?_⟩
   ·by_cases h0:0<i
    ·right;rw [Gd h0,<-hk (i - 1) (by omega)];exact Kq hM hi (by omega) hb
    left;omega
   by_cases h0:i+1<M.length
   ·right;rw [sT h0,<-hk (i+1) (by omega)];exact Kq hM h0 (by omega) hb
   left;omega
  rcases ja.1 hd with rfl | hd
  ·exact h3 a ha fun _ _=>O
  obtain rfl:=iv.1 hd;exact h3 c hc vN
 have hp:(nK (dJ M M.length) (eW M) i e f).Perm [dm M i a,dm M i c]:=(List.perm_ext_iff_of_nodup (IX _ _ _ _ _) (by simpa using zD)).2 jE;exact hp.length_eq
theorem mY.rq(hM:bj M)(h:mY M):BK M.length (eJ M):=by
 obtain⟨g,hg⟩:=KC hM;have key:∀ {S:Nat->Prop} {a b:Nat},a< (gl M 0).length->mE M S a b->∀ {S':Nat->Prop},(∀k,k<M.length->(S' k->S k))->b< (gl M 0).length/\jd M.length (eJ M) S' (g a) (g b):=by
  intro S a b ha hL S' hS
  induction hL with
  | refl=>exact⟨ha,.refl (hg a ha).1⟩
  | step hL hi hs e ih=>
   rename_i b c i;obtain⟨hb,lb⟩:=ih;have hc:=(mE.step hL hi hs e).lt hM ha;exact⟨hc,.step lb hi (fun h=>hs (hS i hi h)) (Kd hM hi hb e (hg b hb).1 (hg c hc).1 (hg b hb).2 (hg c hc).2)⟩
 intro p q GY hq;obtain⟨a,ha,ea⟩:=Kb hM (p:=p) (by omega);obtain⟨b,hb,eb⟩:=Kb hM hq;have h1:=(key ha (h a b ha hb) (S':=fun k=>gi (gl (eJ M) p) k=gi (gl (eJ M) q) k) fun k hk hx=>by
  rw [ea,eb,mI hk,mI hk]at hx;exact ry.1 hx).2
 rw [Kc (hg a ha).1 (by omega) ((hg a ha).2.trans ea.symm),Kc (hg b hb).1 hq ((hg b hb).2.trans eb.symm)]at h1;exact h1
theorem SV(hM:bj M)(hb:cb M M.length<=500)(h:mY M):ov M:=by
 have hN:=hM.2.1;refine⟨hb,h.Sl hM,?_,fun e h0 h1=>?_,h.RW hM,h.rq hM⟩
 ·exact List.ne_nil_of_mem ((tR hM).2 ⟨0,by omega,O⟩)
 rw [nj]at h1;obtain⟨i,a,hi,ha,ea⟩:=Fk hM h0 h1;refine⟨_,(tR hM).2 ⟨a,ha,O⟩,?_⟩;rw [ea];unfold jl;exact fx.2 ⟨i,jN.2 hi,O⟩
theorem KD(hM:bj M):ov M↔cb M M.length<=500/\mY M:=⟨fun h=> ⟨h.1,SY hM h⟩,fun h=>SV hM h.1 h.2⟩
end
section
variable {N:Nat} {X Y Z:ag} {φ ψ:Int->Int}
theorem iu.DR(h:iu N X Y φ){y:Int}(h0:0<=y)(h1:y<N):∃x:Int,(0<=x/\x<N)/\φ x=y:=by
 have hn:((dV N).map φ).Nodup:=nJ.2 ((tv N).nodup.imp_of_mem fun {a b} ha hb b9 e=>b9 (by
  have ha:=(mA _ _).1 ha;have hb:=(mA _ _).1 hb;exact h.inj a b ha.1 ha.2 hb.1 hb.2 e))
 have:=Iu (a:=(dV N).map φ) (b:=dV N) hn (fun z hz=>by
  obtain⟨x,hx,rfl⟩:=fx.1 hz;have hx:=(mA _ _).1 hx;exact(mA _ _).2 (h.eS x hx.1 hx.2)) (by simp) y ((mA _ _).2 ⟨h0,h1⟩)
 obtain⟨x,hx,e⟩:=fx.1 this;exact⟨x,(mA _ _).1 hx,e⟩
theorem iu.inv(h:iu N X Y φ)(hs:Sys N X):∃ψ:Int->Int,iu N Y X ψ/\(∀x:Int,0<=x->x<N->ψ (φ x)=x)/\∀y:Int,0<=y->y<N->φ (ψ y)=y:=by
 have hex:∀y:Int,∃x:Int,0<=y/\y<N->(0<=x/\x<N)/\φ x=y:=fun y=>by
  by_cases hy:0<=y/\y<N
  ·obtain⟨x,hx,e⟩:=h.DR hy.1 hy.2;exact⟨x,fun _=> ⟨hx,e⟩⟩
  exact⟨0,fun h=>absurd h hy⟩
 obtain⟨ψ,uF⟩:=Classical.axiomOfChoice hex;have uF:∀y:Int,0<=y/\y<N->(0<=ψ y/\ψ y<N)/\φ (ψ y)=y:=uF;have hl:∀x:Int,0<=x->x<N->ψ (φ x)=x:=fun x h0 h1=>by
  have hr:=h.eS x h0 h1;have:=uF _ hr;exact h.inj _ _ this.1.1 this.1.2 h0 h1 this.2
 refine⟨ψ,⟨h.len.symm,fun y h0 h1=> (uF y ⟨h0,h1⟩).1,fun a b a0 a1 b0 b1 e=>?_,fun i y hi h0 h1=>?_⟩,hl,fun y h0 h1=> (uF y ⟨h0,h1⟩).2⟩
 ·rw [<-(uF a ⟨a0,a1⟩).2,e,(uF b ⟨b0,b1⟩).2]
 have hy:=uF y ⟨h0,h1⟩;have di:i<X.length:=by rw [<-h.len];exact hi
 have cS:=(hs (gl X i) (by rw [cM di];exact dd _)).2 _ hy.1.1 hy.1.2;have:=h.rp i _ di hy.1.1 hy.1.2;rw [hy.2]at this;rw [this,hl _ cS.1 cS.2]
theorem iu.reach(h:iu N X Y φ)(hs:Sys N X){k:Nat}{x y:Int}(h0:0<=x)(h1:x<N)(hr:Reach (X.eraseIdx k) x y):(0<=y/\y<N)/\Reach (Y.eraseIdx k) (φ x) (φ y):=by
 induction hr with
 | refl=>exact⟨⟨h0,h1⟩,.refl⟩
 | step hr hp ih=>
  rename_i z p;obtain⟨hz,hR⟩:=ih;obtain⟨j,hj,b9,rfl⟩:=J3 hp;have cS:=(hs (gl X j) (by rw [cM hj];exact dd _)).2 _ hz.1 hz.2;refine⟨cS,?_⟩;rw [<-h.rp j z hj hz.1 hz.2];exact .step hR (J2 (by rw [h.len];exact hj) b9)
theorem iu.bM(h:iu N X Y φ)(hX:bj X)(hY:bj Y)(hN:N=(gl X 0).length)(mm:N=(gl Y 0).length){k:Nat}{f g:Int}(f0:0<=f)(f1:f<N)(g0:0<=g)(g1:g<N):gi (dI Y k) (φ f)=gi (dI Y k) (φ g)↔gi (dI X k) f=gi (dI X k) g:=by
 have hs:Sys N X:=by rw [hN];exact hX.2.2.1.sys
 have hf:=h.eS f f0 f1;have hg:=h.eS g g0 g1;constructor
 ·intro e;have hr:=Cl hY hf.1 (by omega) hg.1 (by omega) e;obtain⟨ψ,hi,hl,_⟩:=h.inv hs;have V6:Sys N Y:=by rw [mm];exact hY.2.2.1.sys
  have:=(hi.reach V6 hf.1 hf.2 hr).2;rw [hl f f0 f1,hl g g0 g1]at this;exact J7 hX f0 (by omega) this
 intro e;have hr:=Cl hX f0 (by omega) g0 (by omega) e;exact J7 hY hf.1 (by omega) (h.reach hs f0 f1 hr).2
theorem iu.gq(h:iu N X Y φ)(hX:bj X)(hY:bj Y)(hN:N=(gl X 0).length)(mm:N=(gl Y 0).length)(k:Nat):gq Y k=gq X k:=by
 have b1:=(tP X k).1;have b2:=(tP Y k).1;have hex:∀v:Int,∃u:Int,0<=v/\v<Vc.gq X k->(0<=u/\u<Vc.gq Y k)/\∀f:Nat,f<N->(gi (dI X k) f=v↔gi (dI Y k) (φ (f:Int))=u):=fun v=>by
  by_cases hv:0<=v/\v<Vc.gq X k
  ·obtain⟨g,hg,eg⟩:=Ci hX k v hv.1 hv.2;rw [<-hN]at hg;have hr:=h.eS (g:Int) (by omega) (by omega);obtain⟨g',kM⟩:∃g':Nat,φ (g:Int)=g':=⟨(φ (g:Int)).toNat,by omega⟩;refine⟨gi (dI Y k) (φ (g:Int)),fun _=> ⟨by rw [kM];exact Cj hY k g' (by omega),fun f hf=>?_⟩⟩;rw [<-eg,h.bM hX hY hN mm (by omega) (by omega) (by omega) (by omega)]
  exact⟨0,fun h=>absurd h hv⟩
 obtain⟨u,hu⟩:=Classical.axiomOfChoice hex;have hu:∀v:Int,0<=v/\v<Vc.gq X k->(0<=u v/\u v<Vc.gq Y k)/\∀f:Nat,f<N->(gi (dI X k) f=v↔gi (dI Y k) (φ (f:Int))=u v):=hu;have hp:((dV (Vc.gq X k).toNat).map u).Perm (dV (Vc.gq Y k).toNat):=by
  refine(List.perm_ext_iff_of_nodup ?_ (tv _).nodup).2 fun y=>?_
  ·refine nJ.2 ((tv _).nodup.imp_of_mem fun {a b} ha hb b9 e=>b9 ?_);have ha:=(mA _ _).1 ha;have hb:=(mA _ _).1 hb;obtain⟨g,hg,eg⟩:=Ci hX k a ha.1 (by omega);rw [<-hN]at hg;have e1:=((hu a ⟨ha.1,by omega⟩).2 g hg).1 eg;rw [e]at e1;rw [<-eg];exact((hu b ⟨hb.1,by omega⟩).2 g hg).2 e1
  rw [fx,mA];constructor
  ·rintro⟨v,hv,rfl⟩;have hv:=(mA _ _).1 hv;have:=(hu v ⟨hv.1,by omega⟩).1;omega
  intro hy;obtain⟨g,hg,eg⟩:=Ci hY k y hy.1 (by omega);rw [<-mm]at hg;obtain⟨x,hx,ex⟩:=h.DR (y:=(g:Int)) (by omega) (by omega);obtain⟨f,rfl⟩:∃f:Nat,x=f:=⟨x.toNat,by omega⟩;have cS:=Cj hX k f (by omega);refine⟨gi (dI X k) f,(mA _ _).2 (by omega),?_⟩;rw [<-((hu _ cS).2 f (by omega)).1 rfl,ex];exact eg
 have:=hp.length_eq;rw [fQ,Ig,Ig]at this;omega
theorem iu.off(h:iu N X Y φ)(hX:bj X)(hY:bj Y)(hN:N=(gl X 0).length)(mm:N=(gl Y 0).length):∀j:Nat,cb Y j=cb X j
 | 0=>rfl
 | j+1=>by
  show cb Y j+ (Vc.gq Y j).toNat=cb X j+ (Vc.gq X j).toNat;rw [h.off hX hY hN mm j,h.gq hX hY hN mm j]
theorem iu.Yv(h:iu N X Y φ)(hX:bj X)(hN:N=(gl X 0).length){S:Nat->Prop}{a b:Nat}(ha:a<N)(hl:mE X S a b):mE Y S (φ (a:Int)).toNat (φ (b:Int)).toNat:=by
 induction hl with
 | refl=>exact .refl
 | step hl hi hs e ih=>
  rename_i b c i;have hb:b<N:=by rw [hN]at ha|-;exact hl.lt hX ha
  have hc:c<N:=by rw [hN]at ha|-;exact(mE.step hl hi hs e).lt hX ha
  have r1:=h.eS (b:Int) (by omega) (by omega);have r2:=h.eS (c:Int) (by omega) (by omega);refine .step ih (by rw [h.len];exact hi) hs ?_;rw [Int.toNat_of_nonneg r1.1,Int.toNat_of_nonneg r2.1,h.rp i (b:Int) hi (by omega) (by omega),e]
theorem iu.Zs(h:iu N X Y φ)(hX:bj X)(hY:bj Y)(hN:N=(gl X 0).length)(mm:N=(gl Y 0).length)(hp:mY X):mY Y:=fun a b ha hb=>by
 rw [<-mm]at ha hb;obtain⟨x,hx,ex⟩:=h.DR (y:=(a:Int)) (by omega) (by omega);obtain⟨y,hy,ey⟩:=h.DR (y:=(b:Int)) (by omega) (by omega);obtain⟨u,rfl⟩:∃u:Nat,x=u:=⟨x.toNat,by omega⟩;obtain⟨v,rfl⟩:∃v:Nat,y=v:=⟨y.toNat,by omega⟩;have hl:=h.Yv hX hN (by omega) (hp u v (by omega) (by omega));rw [ex,ey,gn,gn]at hl;have e:(fun k:Nat=>gi (dI X k) u=gi (dI X k) v)=fun k:Nat=>gi (dI Y k) a=gi (dI Y k) b:=funext fun k=>propext (by
  rw [<-ex,<-ey];exact(h.bM hX hY hN mm (by omega) (by omega) (by omega) (by omega)).symm)
 rwa [e]at hl
theorem iu.px(h:iu N X Y φ)(hX:bj X)(hY:bj Y)(hN:N=(gl X 0).length)(mm:N=(gl Y 0).length)(hg:ov X):ov Y:=by
 have h1:=(KD hX).1 hg;exact(KD hY).2 ⟨by rw [h.len,h.off hX hY hN mm];exact h1.1,h.Zs hX hY hN mm h1.2⟩
end
theorem N3(M:ag):∀n:Nat,cb M n<=n* (gl M 0).length
 | 0=>bA _
 | n+1=>by
  have h1:=N3 M n;have h2:=tP M n;rw [cb,Nat.succ_mul];omega
def Fb(M:ag)(a b:Nat):ah:=(List.range M.length).map fun i=>dm M i (if i<2 then a else b)
theorem Sg{M:ag}(hM:bj M)(h4:M.length<=4):(eJ M).length<=(gl M 0).length* (gl M 0).length:=by
 have h1:=hM.1.1;have lQ:=nj M M.length;have hT:((List.range (gl M 0).length).flatMap fun a=> (List.range (gl M 0).length).map (Fb M a)).length=(gl M 0).length* (gl M 0).length:=by
  rw [List.length_flatMap];have:∀(l:List Nat) (k:Nat),(l.map fun a=> ((List.range k).map (Fb M a)).length).sum=l.length*k:=fun l k=>by
   induction l with
   | nil=>simp
   | cons x r ih=>rw [List.map_cons,List.sum_cons,ih,fQ,pf,List.length_cons,Nat.succ_mul,Nat.add_comm]
  rw [this,pf]
 rw [<-hT];refine BF _ _ (zh _ _ _).nodup fun x hx=>?_
 obtain⟨hl,he,hi⟩:=(vi (by omega)).1 hx;rw [lQ]at he;have Mq:∀i:Nat,i<M.length->∃a:Nat,a< (gl M 0).length/\gi x i=dm M i a:=fun i q=> (Fm hM (he i q).1 (he i q).2).2
 have MR:∀i:Nat,i+1<M.length->∃a:Nat,a< (gl M 0).length/\gi x ((i+1:Nat):Int)=dm M (i+1) a/\gi x i=dm M i a:=fun i q=>Kp hM q (he (i+1) q).1 (he (i+1) q).2 (he i (by omega)).2 (hi i q)
 have hA:∃a:Nat,a< (gl M 0).length/\∀i:Nat,i<M.length->i<2->gi x i=dm M i a:=by
  by_cases h:1<M.length
  ·obtain⟨a,ha,q1,q0⟩:=MR 0 h;refine⟨a,ha,fun i hi h2=>?_⟩;rcases(show i=0\/i=1 by omega)with rfl | rfl
   ·exact q0
   ·exact q1
  ·obtain⟨a,ha,q0⟩:=Mq 0 (by omega);refine⟨a,ha,fun i hi h2=>?_⟩;obtain rfl:i=0:=by omega
   exact q0
 obtain⟨a,ha,hA⟩:=hA;have hB:∃b:Nat,b< (gl M 0).length/\∀i:Nat,i<M.length->2<=i->gi x i=dm M i b:=by
  by_cases h:3<M.length
  ·obtain⟨b,hb,q1,q0⟩:=MR 2 h;refine⟨b,hb,fun i hi h2=>?_⟩;rcases(show i=2\/i=3 by omega)with rfl | rfl
   ·exact q0
   ·exact q1
  ·by_cases h2:2<M.length
   ·obtain⟨b,hb,q0⟩:=Mq 2 h2;refine⟨b,hb,fun i hi h2=>?_⟩;obtain rfl:i=2:=by omega
    exact q0
   ·exact⟨a,ha,fun i hi h2=>by omega⟩
 obtain⟨b,hb,hB⟩:=hB;refine List.mem_flatMap.2 ⟨a,jN.2 ha,fx.2 ⟨b,jN.2 hb,?_⟩⟩;unfold Fb;refine gD (by rw [fQ,pf];exact hl.symm) fun i q1 q2=>?_
 have di:i<M.length:=by simpa using q1
 have e:x[i]=gi x i:=(bN q2).symm;rw [List.getElem_map,List.getElem_range,e]
 split
 ·rename_i h;exact(hA i di h).symm
 ·rename_i h;exact(hB i di (by omega)).symm
theorem Zr{M:ag}(hM:bj M)(h4:M.length<=4)(pz:(gl M 0).length<=12):sc M=0:=by
 have h1:=Sg hM h4;have h2:=N3 M M.length;have h3:(gl M 0).length* (gl M 0).length<=12*12:=Nat.mul_le_mul pz pz;have h5:M.length* (gl M 0).length<=4*12:=Nat.mul_le_mul h4 pz;unfold sc;rw [aC (by omega)]
end
section
open Go.RowKit
theorem Ks{x:Mx}:∀ {l:List Mx},x∈l->l[sH x l]?=some x
 | y::l,h=>by
  simp only [sH]
  split
  ·rename_i e;rw [e]
   rfl
  ·rename_i b9;rw [List.getElem?_cons_succ];exact Ks ((ja.1 h).resolve_left (fun e=>b9 e.symm))
structure Es(M L:Mx):Prop where
 at_:(gz M)[eR M]?=some L
 lt:eR M< (gz M).length
 we:bj L
 len:L.length=M.length
 num:(gl L 0).length=(gl M 0).length
 W4:∃φ:Int->Int,iu (gl M 0).length L M φ
 px:ov L↔ov M
theorem QT{M:Mx}(hP:gv M):Es M (gO (gl M 0).length M):=by
 have hm:=hP.mem;have cI:=zk hm;have lg:=Ks hm;have GJ:eR M< (gz M).length:=cI;have Gf:(gz M)[eR M]?=some (gO (gl M 0).length M):=lg;have e2:=hP.eh;obtain⟨f,hf,e⟩:=NC hP.1 rfl;have h1:=Cp hP.1 O (f:=(f:Int)) (by omega) (by omega);have hs:Sys (gl M 0).length M:=hP.1.2.2.1.sys;obtain⟨ψ,h2,-,-⟩:=h1.inv hs;rw [<-e]at h1 h2;have hl:eR M< (eh (M.length:Nat) ((gl M 0).length:Nat)).length:=by rw [e2];exact GJ
 obtain⟨q1,q2,q3,q4⟩:=NM hP.small hl;have e3:(eh (M.length:Nat) ((gl M 0).length:Nat))[eR M]=gO (gl M 0).length M:=by
  rw [dL GJ]at Gf;have:=bC Gf;rw [<-this]
  congr 1
 rw [e3]at q1 q4;have zu:bj (gO (gl M 0).length M):=q1.1;have mm:(gl M 0).length=(gl (gO (gl M 0).length M) 0).length:=by rw [q4];rfl
 exact⟨Gf,GJ,zu,h2.len.symm,mm.symm,⟨ψ,h2⟩,fun g=>h2.px zu hP.1 mm O g,fun g=>h1.px hP.1 zu O mm g⟩
theorem Jm{M L:Mx}(hP:gv M)(h:Es M L):sA (M.length:Nat) ((gl M 0).length:Nat) (eR M:Nat)=L/\sy (M.length:Nat) ((gl M 0).length:Nat) (eR M:Nat)=0:=by
 have:=h.lt;unfold sA sy;rw [hP.eh,aC (by omega),aC (fun q=>q.elim (fun q=>q hP.small) (by omega)),aC (by omega),gn,df,h.at_];exact⟨O,O⟩
theorem N0{M:Mx}(hP:gv M)(h:eR M+1< (gz M).length):qM M=0/\eR (oi M)=eR M+1/\l6 (oi M)=0:=by
 have e2:=hP.eh;have hl:eR M+1< (eh (M.length:Nat) ((gl M 0).length:Nat)).length:=by rw [e2];exact h
 obtain⟨q1,q2,q3,q4⟩:=NM hP.small hl;have e:oi M=(eh (M.length:Nat) ((gl M 0).length:Nat))[eR M+1]:=by
  rw [oi,aC (fun q=>q hP.k0),df];have:(gz M)[eR M+1]?=(eh (M.length:Nat) ((gl M 0).length:Nat))[eR M+1]?:=by rw [e2]
  rw [this,dL hl]
  rfl
 rw [e];exact⟨by rw [qM,aC (fun q=>q hP.k0),aC (by omega)],q3,q1.k0⟩
theorem NZ{M:Mx}(hP:gv M)(h:¬eR M+1< (gz M).length):qM M=4:=by
 have:=zk hP.mem;have:eR M< (gz M).length:=this;rw [qM,aC (fun q=>q hP.k0),aJ (by omega)]
theorem SE{M L:Mx}(hP:gv M)(h:Es M L):L∈Bl (M.length:Nat) ((gl M 0).length:Nat)↔ov M:=by
 unfold Bl;rw [jb,hP.eh,KB];exact⟨fun q=>h.px.1 q.2,fun q=> ⟨List.mem_of_getElem? h.at_,h.px.2 q⟩⟩
def vj(L:Mx)(ls:List Mx):Bool:=decide (L∈ls)
theorem Su(L:Mx)(ls:List Mx)(x:Mx):vj L (ls++ [x])=(vj L ls || decide (x=L)):=by
 unfold vj
 by_cases h:L∈ls
 ·simp [h]
 by_cases e:x=L
 ·simp [e]
 have e':¬L=x:=fun q=>e q.symm
 simp [h,e,e']
theorem PC(Ac:ai)(nc cc:Nat)(bs:ah)(w:aa)(hT:nM w)(hY:oB w Ac nc bs):
 aE prog 6 [.slice Ac nc cc] w (fun v w'=>v= .bool true/\St w w' []):=by
 refine bm func6 O ntmps6 O (bU O) (aY O (aH (QW Ac nc cc w) O ?_));rintro _ w1 ⟨rfl,xz⟩;refine az O (aM _ O (fun h1=>?_) (fun h1=>?_))
 ·refine cE O (bQ O ?_);exact⟨O,xz⟩
 refine aD O (aH (Py Ac nc cc bs (St.refl w1) (hY.below xz.below) (by omega)) O ?_);rintro _ w2 ⟨n,A,c,rs,M,X,rfl,hn,gf,hX,aw⟩;have hR:=hX w2 [] aw;have hT:=(hT.aq xz.below).aq aw.below;have hW:=(xz.call aw).none;refine eH (St.refl w2) O fun A3 w3 aI=>bR 1 0 aI O O O O O O O ?_;intro w4 hS;have hS:St w2 w4 [Bx 37 1 A3 [.slice A n c]]:=hS;have hR:=hS.bE hR;have hT:=hT.aq hS.below;have hW:St w w4 []:=(hW.call hS).none;have hB:Rd w4 A3 1 (fun _=> .slice A n c):=Rd.one (hS.rd 0 O);clear aI aw hX hS;refine ao O (ac3 0 hB O (aH (MZ A n c rs M _ hR gf.1 gf.2) O ?_));rintro _ w5 ⟨rfl,aA⟩;have cO:=aA.below;have hR:=hR.aq cO;have hT:=hT.aq cO;have hW:=hW.aq cO;have hB:=Rd.below hB cO;clear aA;refine ao O (ac3 0 hB O (aH (Z6 A n c rs M _ hR (by omega)) O ?_));rintro _ w6 ⟨rfl,aA⟩;have cO:=aA.below;have hR:=hR.aq cO;have hT:=hT.aq cO;have hW:=hW.aq cO;have hB:=Rd.below hB cO;clear aA;refine ao O (bX 41 O (fun h=>absurd O h) (fun _=>?_));refine ar O (ao O (ar O (ao O (ar O (az O ?_)))));refine jw O (fun h=>h O) (cH O (aM _ O (fun h2=>?_) (fun h2=>?_)))
 ·have VA:¬gv M:=fun h=>h2 h.k0
  refine cE O (bQ O ?_);exact⟨by rw [wi VA];rfl,hW⟩
 have hP:gv M:=Od (gC.1 h2);have lN:=QT hP;generalize gO (gl M 0).length M=L at lN;have hM:=hP.1;have FR:=hM.1;have bP:=hR.len;have pX:=hP.small;have cI:=lN.lt;have hlen:=H0 M;refine cH O (dK [xP (aF (A3) 0),xS (A) (n) (c),xI (((n:Nat):Int)),.ex (.agg #[.slice (A) (n) (c)]),xI ((gl M 0).length:Int),xI (((n:Nat):Int)),xI ((gl M 0).length:Int)] O (eo O) ?_ ?_)
 ·refine⟨fun _ _ hb _ _=>aS (hB.below hb) O Az,fun _ _ hb _ _=>a8 (hB.below hb) O Az,fun _ _ _ _ _=>aZ O O Az,fun _ _ hb _ _=>ac3 0 (hB.below hb) O Az,?_,Dr O,Dr O,au⟩;intro e1 w1 hb hp aX;refine aH (Sj A n c rs M _ (hR.aq hb) (by omega)) O ?_;rintro _ w2 ⟨rfl,aA⟩;refine ak.n ?_;exact eA.dn aA.below (by exact O)
 intro u w7 cO _;have hR:=hR.aq cO;have hT:=hT.aq cO;have hW:=hW.aq cO;have hB:=Rd.below hB cO;subst bP;refine fK O (aH (WH (M.length:Nat) ((gl M 0).length:Nat) (eR M:Nat) _) O ?_);rintro _ w8 ⟨AK,cK,rk,rfl,iW,aA⟩;rw [(Jm hP lN).1]at iW aA|-;rw [(Jm hP lN).2];have Uz:=aA.cap 0 O;have kI:bl w8 AK L.length rk L:=St.du (ks:=[]) (by rw [iG];exact aA) O;have cO:=aA.below;have hR:=hR.aq cO;have hT:=hT.aq cO;have hW:=hW.aq cO;have hB:=Rd.below hB cO;clear aA;refine ao O (eH (St.refl w8) O ?_);intro bI w9 hU;refine bR 1 0 hU O O O O O O O ?_;intro dt hU;have lO:Rd dt bI 1 (fun _=> .slice AK L.length cK):=Rd.one (hU.rd 0 O);have cO:=hU.below;have hR:=hR.aq cO;have hT:=hT.aq cO;have hW:=hW.aq cO;have hB:=Rd.below hB cO;have kI:=kI.aq cO;clear hU;refine ao O (ac3 0 hB O (aH (WI A _ c rs M _ hR gf.1 gf.2) O ?_));rintro _ dB ⟨AX,cX,rx,rfl,G8,aA⟩;have LD:=aA.cap 0 O;have vB:bl dB AX (oi M).length rx (oi M):=St.du (ks:=[]) (by rw [iG];exact aA) O;have cO:=aA.below;have hR:=hR.aq cO;have hT:=hT.aq cO;have hW:=hW.aq cO;have hB:=Rd.below hB cO;have kI:=kI.aq cO;have lO:=Rd.below lO cO;clear aA;refine ao O (eH (St.refl dB) O ?_);intro jj iO hU;refine bR 1 0 hU O O O O O O O ?_;intro jK hU;have zn:Rd jK jj 1 (fun _=> .slice AX (oi M).length cX):=Rd.one (hU.rd 0 O);have cO:=hU.below;have hR:=hR.aq cO;have hT:=hT.aq cO;have hW:=hW.aq cO;have hB:=Rd.below hB cO;have kI:=kI.aq cO;have lO:=Rd.below lO cO;have vB:=vB.aq cO;clear hU;refine ao O (aH (WE (M.length:Nat) ((gl M 0).length:Nat) _) O ?_);rintro _ si ⟨rfl,aA⟩;have uk:Cb (M.length:Nat) ((gl M 0).length:Nat)=((gz M).length:Nat):=by rw [Cb,hP.eh]
 have LH:uH (M.length:Nat) ((gl M 0).length:Nat)=0:=by rw [uH,aJ pX]
 rw [uk,LH];have cO:=aA.below;have hR:=hR.aq cO;have hT:=hT.aq cO;have hW:=hW.aq cO;have hB:=Rd.below hB cO;have kI:=kI.aq cO;have lO:=Rd.below lO cO;have vB:=vB.aq cO;have zn:=Rd.below zn cO;clear aA;obtain⟨φ,hI⟩:=lN.W4;have vp:=lN.len;refine ao O (bX 75 O (fun h=>absurd O h) (fun _=>?_));refine ar O (ao O (ar O (ao O ?_)));refine bX 79 O (fun h=>absurd O h) (fun _=>?_);refine ar O (ac3 0 lO O (ar O (ac3 0 hB O (ar O ?_))));refine acW (QG AK L.length cK rk L A c rs M (gl M 0).length φ _ kI (by rw [vp];exact hR) lN.we hM lN.num.symm O hI Uz (by rw [vp];exact gf)) O (by rw [vp];rfl) O ?_;rintro _ qT ⟨rfl,aA⟩;have cO:=aA.below;have hR:=hR.aq cO;have hT:=hT.aq cO;have hW:=hW.aq cO;have hB:=Rd.below hB cO;have kI:=kI.aq cO;have lO:=Rd.below lO cO;have vB:=vB.aq cO;have zn:=Rd.below zn cO;clear aA;refine ar O ?_
 first | refine dM rfl rfl ?_ | refine eI rfl rfl ?_
 refine ao O (ak.split 85 O (fun h=>absurd h (by decide)) (fun _=>?_));refine ar O (ao O (ar O (ao O ?_)));refine bX 89 O (fun h=>absurd h (by omega)) (fun _=>?_);refine ar O (ao O (ar O (ao O (ar O (ao O ?_)))));refine bX 94 O (fun h=>absurd h (by omega)) (fun _=>?_);refine ar O (ao O (ar O (ao O (ar O (ao O (ar O (aL O (ar O (ao O (ar O (ao O ?_)))))))))));refine ar O (Qj O O O ?_);have Gz:decide (qM M=0)=decide (((eR M:Nat):Int)+1< ((gz M).length:Nat)):=by
  by_cases gH:eR M+1< (gz M).length
  ·rw [(N0 hP gH).1,fo rfl,fo (by omega)]
  rw [NZ hP gH,dq (by omega),dq (by omega)]
 refine az O ?_;refine Cd.dO (by rw [Gz,beq_self_eq_true];rfl) ?_;refine BM 1 O (pc (α:=Unit) (fun _=> [(3,.pointer A3),(8,aj (M.length:Nat)),(9,aj ((gl M 0).length:Nat)),(10,.pointer bI)]) (fun _ w'=>St qT w' []) ?_ ?_)
 ·refine b7 O (aM _ O (fun h3=>?_) (fun h3=>?_))
  ·have gH:eR M+1< (gz M).length:=kV fun q=>by rw [NZ hP q]at h3;omega
   obtain⟨z1,z2,z3⟩:=N0 hP gH;refine aD O (ac3 0 zn O ?_);refine aH (MZ AX _ cX rx (oi M) _ vB LD.1 (by have:=LD.2;simp only [maxLen]at this;omega)) O ?_;rintro _ IB ⟨rfl,aA⟩;rw [z2,z3];refine ao O (bX 112 O (fun h=>absurd O h) (fun _=>?_));refine ar O (ao O (ar O (ao O (ar O (aL O (ar O (az O ?_)))))));refine jw O (by omega) (mC O (tQ ?_));exact⟨(),(ac4 O),aA⟩
  refine mC O (tQ ?_);exact⟨(),(ac4 O),St.refl _⟩
 rintro⟨⟩ e IB aA;have cO:=aA.below;have hR:=hR.aq cO;have hT:=hT.aq cO;have hW:=hW.aq cO;have hB:=Rd.below hB cO;have kI:=kI.aq cO;have lO:=Rd.below lO cO;clear aA;refine aD O (aH (WJ (M.length:Nat) ((gl M 0).length:Nat) _ hT) O ?_);rintro _ Ej ⟨AP,cP,ms,rfl,hL,bq,aA⟩;rw [LH];have nQ:u6 Ej AP ms:=aA.HU bq (dA _);have mN:ms.length<=4000000000000:=by have:=Zf (M.length:Nat) ((gl M 0).length:Nat);rw [<-hL,fQ]at this;exact this
 have cO:=aA.below;have hR:=hR.aq cO;have hT:=hT.aq cO;have hW:=hW.aq cO;have hB:=Rd.below hB cO;have kI:=kI.aq cO;have lO:=Rd.below lO cO;clear aA;refine ao O (ac3 0 hB O (aH (WG A _ c rs M _ hT hR gf.1 gf.2) O ?_));rintro _ w18 ⟨b,rfl,hb,aA⟩;have x8:(if bj M then sc M else 1)=0:=by
  rw [aJ hM];exact Zr hM hP.2.1 hP.2.2
 rw [x8];have cO:=aA.below;have hW:=hW.aq cO;have kI:=kI.aq cO;have lO:=Rd.below lO cO;have nQ:=nQ.aq cO;clear aA;refine ao O (bX 131 O (fun h=>absurd O h) (fun _=>?_));refine ar O (ao O (ar O (az O ?_)));refine jw O (fun h=>h O) (cH O ?_);have V9:∀m∈ms,m.xss.length<=4/\∀x∈m.xss,x.length<=12:=fun m hm=> (HN (Zg (by rw [<-hL];exact List.mem_map_of_mem (f:=(·.xss)) hm))).2.2.2
 refine Cd.loop (α:=Nat×Bool) (fun z=> [(10,.pointer bI),(18,.slice AP ms.length cP),(20,.bool b),(22,.bool z.2),(23,aj (z.1:Int))]) (fun z w'=>St w18 w' []/\z.1<=ms.length/\z.2=vj L ((ms.take z.1).map (·.xss))) (fun z=>ms.length - z.1) (0,false) (ac4 O) ⟨St.refl _,bA _,O⟩ ?_;rintro⟨i,kn⟩ e w19 ⟨aA,hi,eF⟩;dsimp only at aA hi eF|-;have cO:=aA.below;have kI:=kI.aq cO;have lO:=Rd.below lO cO;have nQ:=nQ.aq cO;refine aY O (aZ O O (az O ?_));refine aM _ O (fun h4=>?_) (fun h4=>?_)
 ·have jW:i<ms.length:=by omega
  have hs:=Su L ((ms.take i).map (·.xss)) (ms[i]).xss;rw [show(ms.take i).map (·.xss)++ [(ms[i]).xss]=(ms.take (i+1)).map (·.xss) by rw [lG jW,lF];rfl]at hs;have ht:=wF jW;have Mj:=V9 _ (dd jW);have G7:=nQ.at_ jW;have Dd:(rg (ms.map (·.top)) i).n<=9223372036854775806:=by have:=G7.len;have:=Mj.1;omega
  have gH:∀x∈(ms[i]).xss,x.length<=9223372036854775806:=fun x hx=>by have:=Mj.2 x hx;omega
  rw [<-eF]at hs;cases kn
  ·refine cH O (dK [xB (false),xB (false),xS (AP) (ms.length) (cP),xI ((i:Int)),xP (aF (AP) ((i:Int)).toNat),.ex (.agg #[.slice (rg (ms.map (·.top)) ((i:Int))).a (rg (ms.map (·.top)) ((i:Int))).n (rg (ms.map (·.top)) ((i:Int))).c]),.ex (.agg #[.slice (AK) (L.length) (cK)]),xB (decide ((ms[i]).xss=L)),xB (decide ((ms[i]).xss=L)),xB (decide ((ms[i]).xss=L))] O (eo O) ?_ ?_)
   ·refine⟨fun _ _ _ _ aX=>BP O (by exact aX 9 _ O (by kernel_rfl)) O Az,Dr O,Dr O,Dr O,fun _ _ hb _ _=>ar O (ay (nQ.top.aq hb).2 O Az),fun _ _ hb _ _=>ar O (oz (nQ.top.aq hb) O (by omega) O Az),fun _ _ hb _ _=>ar O (ac3 0 (lO.below hb) O Az),?_,Dr O,Dr O,au⟩;intro e1 w1 hb hp aX;refine ar O (aH (R6 _ _ _ _ _ _ _ _ _ _ _ (G7.aq hb) (kI.aq hb) Dd gH) O ?_);rintro _ w2 ⟨rfl,aA⟩;refine ak.n ?_;exact eA.dn aA.below (by exact O)
   intro u ma jV _;refine fK O (aL O (aU O (tQ ?_)));exact⟨(i+1,vj L ((ms.take (i+1)).map (·.xss))),by show ms.length - (i+1)<ms.length - i;omega,⟨O,O,O,by rw [hs];rfl,O,au⟩,aA.aq jV,jW,O⟩
  refine cH O (dK [xB (true),xB (true),xU,xU,xU,xU,xU,xU,xB (true),xB (true)] O (eo O) ?_ ?_)
  ·exact⟨fun _ _ _ _ aX=>BP O (by exact aX 9 _ O (by kernel_rfl)) O Az,Dr O,Dr O,Dr O,Dr O,Dr O,Dr O,Dr O,Dr O,Dr O,au⟩
  intro u ma jV _;refine fK O (aL O (aU O (tQ ?_)));exact⟨(i+1,vj L ((ms.take (i+1)).map (·.xss))),by show ms.length - (i+1)<ms.length - i;omega,⟨O,O,O,by rw [hs];rfl,O,au⟩,aA.aq jV,jW,O⟩
 have Gv:i=ms.length:=by omega
 have jo:kn=b:=by
  rw [eF,Gv,jc (dE _),hL];refine Bool.eq_iff_iff.2 ?_;rw [hb];unfold vj;rw [decide_eq_true_iff,SE hP lN];exact⟨fun q=> ⟨hM,q⟩,fun q=>q.2⟩
 rw [jo];refine bo O (bp (cn O ?_));refine I5 O O O (bu O (bQ O ?_));exact⟨by rw [beq_self_eq_true],hW.aq aA.below⟩
end
section
open Go.RowKit Go.ChangeShapes Go.WideShapes
theorem laid:laidOutB prog=true:=by kernel_rfl
theorem own:ownKnob prog.godebug=none:=by kernel_rfl
section
variable {H:Type} {enc:ad×ab->H} {P:Program}
theorem OX(hl:laidOutB P=true){W W':aa}(hb:Below W.heap.size W W'){sp:Nat->Bool}:∀ {ts:List ad} {vs:List ab} {ds:List (DataW H)} {ps:List MemPlace},(ts.all fun t=>P.readableRec t && Nat.blt t P.types.size)=true->(∀p∈ps,p.block<W.heap.size)->(∀p∈ps,sp p.block=true)->
 DataW.TrodAll enc P W 0 (fun _=>true) true ts vs ds ps->DataW.TrodAll enc P W' 0 sp true ts vs ds ps
 | [],[],[],_,_,_,_,h=>h
 | t::ts,v::vs,d::ds,ps,hr,cI,pY,h=>by
  obtain⟨p,q,h1,h2,rfl⟩:=h;simp only [List.all_cons,Bool.and_eq_true]at hr;exact⟨p,q,WideElems.Trod_stays hl hr.1.1 (by simpa [Nat.blt_eq]using hr.1.2) h1 (fun x hx=>hb.same (cI x (by simp [hx]))) (fun x hx=>pY x (by simp [hx])),OX hl hb hr.2 (fun x hx=>cI x (by simp [hx])) (fun x hx=>pY x (by simp [hx])) h2,O⟩
 | [],[],_::_,_,_,_,_,h=>h.elim
 | [],_::_,_,_,_,_,_,h=>by cases h
 | _::_,[],_,_,_,_,_,h=>by cases h
 | _::_,_::_,[],_,_,_,_,h=>by cases h
theorem Zq{f:Func}{s:ChangeSpec}{apart:Bool}{W W':aa}{args:Array ab}{ds gs:List (DataW H)}{before:List MemPlace}(hl:laidOutB P=true){b:ad}(hu:P.underlying b=some .bool)(MA:f.resultTypes= #[b])(hv:s.vars=[])
 (hr:(f.params.toList.all fun t=>P.readableRec t && Nat.blt t P.types.size)=true) (jC:(s.fn H (ds++gs)).results=[.lit (.bool true)]/\(s.fn H (ds++gs)).args=ds/\(s.fn H (ds++gs)).vars=[])
 (hW:DataW.Whole enc P f.params.toList s.vars apart W args.toList ds gs before) (hb:Below W.heap.size W W'):s.post enc P f apart true false false W args (.bool true) W':=by
 have cI:∀x∈before,x.block<W.heap.size:=fun x hx=>hW.lt x hx
 have Ug:=hW;obtain⟨p,q,hA,hV,rfl,hz,hn⟩:=hW;rw [hv]at hV;obtain⟨rfl,rfl⟩:=trodVars_none hV;have Mf:∀x∈p,x.block<W.heap.size:=fun x hx=>cI x (by simp [hx])
 have KR:∀sp:Nat->Bool,(∀x∈p,sp x.block=true)->DataW.TrodAll enc P W' 0 sp true f.params.toList args.toList (s.fn H (ds++ [])).args p:=fun sp pY=>by
  rw [jC.2.1];exact OX hl hb hr Mf pY hA
 have nT:∀(b0:Nat) (sp:Nat->Bool) (hd:Bool),DataW.TrodAll enc P W' b0 sp hd f.resultTypes.toList ((Value.bool true).resultList f.resultTypes.size) (s.fn H (ds++ [])).results []:=fun b0 sp hd=>by
  rw [jC.1,MA];exact trodAll_cons_mk (shut_bool hu _) trodAll_mk0
 have Lu:∀sp:Nat->Bool,DataW.TrodVars enc P W' sp s.vars (s.fn H (ds++ [])).vars []:=fun sp=>by
  rw [jC.2.2,hv];rfl
 refine⟨ds,[],p++ [],[],p,[],Ug,nT _ _ _,KR _ (fun x hx=>by simpa using Mf x hx),Lu _,World.keptBut_mono (fun x hx=> ⟨hx,by simpa using hx⟩) (hb.frame (· ∈p++ [])),fun _=> ⟨fun j t r h1 h2=>?_,_,_,([]++p)++ [],⟨[]++p,[],trodAll_append (KR _ fun _ _=>O) (nT _ _ _),Lu _,O,fun c off hc=>?_,fun ha=>by simpa using hn ha⟩,fun x hx _=>by simpa using hx⟩⟩
 ·rw [MA]at h1 h2;cases j with
  | zero=>
   simp at h1;subst h1;simp [Value.resultList]at h2;subst h2;exact okWide_bool_mk hu _
  | succ j=>simp at h1
 ·have cS:MemPlace.cell c off∈p++ []:=by simpa using hc
  rw [hb.frozen (cI _ cS)];exact hz c off cS
end
section
variable {H:Type} {enc:ad×ab->H} {P:Program}
end
section
variable {H:Type} {enc:ad×ab->H} {P:Program}
theorem YW{w:aa}{r:Go.Reach}{b0:Nat}{t e:ad}{v:ab}{d:DataW H}{p:List MemPlace}(ht:P.underlying t=some (.slice e))(he:P.underlying e=some (.int .u8))(ce:P.cellsOf e=1)(mS:Value.okWide P w r b0 t v)(h:DataW.Trod enc P w 0 (fun _=>true) true t v d p):∃A n c bs,v= .slice A n c/\oB w A n bs/\n<=c/\c<=9223372036854775807:=by
 obtain⟨a,len,cap,rfl⟩:=okWide_slice ht mS;obtain⟨fuel,hf⟩:=h;have rE:(Value.slice a len cap).cells.toList=[Value.slice a len cap]:=O;rw [rE]at hf;rcases open_ints ht he ce hf with⟨h1,_⟩ | ⟨b,n,c,zs,h1,_,hl,hm,hz,_,hc,Wm⟩
 ·simp only [List.cons.injEq,and_true]at h1;exact⟨none,0,0,[],h1,⟨O,fun x hx=> (nomatch hx),fun k hk=>absurd hk (oy _)⟩,dE _,by omega⟩
 simp only [List.cons.injEq,and_true]at h1;rw [aJ rfl]at hz;refine⟨some b,n,c,zs.take n,h1,⟨?_,fun x hx=>?_,fun k hk=>?_⟩,hl,by simpa [maxLen]using hm⟩
 ·simp;omega
 ·have:=Wm x (List.mem_of_mem_take hx);simpa [Lit.wf,IntKind.min,IntKind.max,IntKind.signed,IntKind.bits]using this
 refine⟨b.add k,O,?_⟩;rw [hc k (by omega)];simp [df,qh,hk]
end
end
end Go.Proofs.YtagdamiiececaaaGreatDoor.Vc
