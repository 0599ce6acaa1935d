/-
 Lemmas. Conditions: as each states them.
-/
import Derived.Test.YtagdamiiececaaaGreatDoorZi
set_option maxHeartbeats 8000000
namespace Go.Proofs.YtagdamiiececaaaGreatDoor.Vc
open Tryz
section
theorem O9(p:ai)(ps:ah)(j:Nat):gl (p::ps) ((j+1:Nat):Int)=gl ps j:=by
 simp only [gl,gG,List.getD_cons_succ]
theorem O7{φ:Int->Int}{l:ai}{k:Nat}(h:k<l.length):gi (l.map φ) k=φ (gi l k):=by
 rw [bO (by simpa using h),bO h,List.getElem_map]
structure iz(N:Nat)(xss dZ:ah)(φ:Int->Int):Prop where
 len:dZ.length=xss.length
 cj:∀x:Int,0<=x->x<N->0<=φ x/\φ x<N
 inj:∀x y:Int,0<=x->x<N->0<=y->y<N->φ x=φ y->x=y
 oi:∀(i:Nat) (x:Int),i<xss.length->0<=x->x<N->gi (gl dZ i) (φ x)=φ (gi (gl xss i) x)
section
variable {N:Nat} {xss dZ:ah} {φ:Int->Int}
theorem afp(ug:∀x y:Int,0<=x->x<N->0<=y->y<N->φ x=φ y->x=y){out:ai}(ho:∀x∈out,0<=x/\x< (N:Int)){y:Int}(h0:0<=y)(h1:y<N):jn (out.map φ) (φ y)=(jn out y).map φ:=by
 unfold jn
 by_cases h:y∈out
 ·rw [ay h,ay (List.mem_map_of_mem h)]
 rw [aw h,aw (fun hm=>by
  obtain⟨z,hz,e⟩:=db.1 hm;exact h (ug z y (ho z hz).1 (ho z hz).2 h0 h1 e▸hz)),jb]
 rfl
theorem fold_map(ug:∀x y:Int,0<=x->x<N->0<=y->y<N->φ x=φ y->x=y){x:Int}:∀(ps qs:ah) (out:ai),qs.length=ps.length->(∀z∈out,0<=z/\z< (N:Int))->(∀j:Nat,j<ps.length->(0<=gi (gl ps j) x/\gi (gl ps j) x<N)/\gi (gl qs j) (φ x)=φ (gi (gl ps j) x))->qs.foldl (fun o p=>jn o (gi p (φ x))) (out.map φ)=(ps.foldl (fun o p=>jn o (gi p x)) out).map φ
 | [],[],_,_,_,_=>rfl
 | p::ps,q::qs,out,hl,ho,h=>by
  have h0:(0<=gi p x/\gi p x<N)/\gi q (φ x)=φ (gi p x):=h 0 (by simp);simp only [List.foldl_cons];rw [h0.2,afp ug ho h0.1.1 h0.1.2];exact fold_map ug ps qs _ (by simpa using hl) (fun z hz=>by
   rcases HL.1 hz with hz | rfl
   ·exact ho z hz
   ·exact h0.1) (fun j hj=>by
   have:=h (j+1) (by simpa using hj);rw [O9,O9]at this;exact this)
 | [],_::_,_,hl,_,_=>by simp at hl
 | _::_,[],_,hl,_,_=>by simp at hl
theorem Nu(h:iz N xss dZ φ)(hs:Sys N xss){pt:Int}:∀(f i:Nat) (out:ai),Good N xss pt out->nA dZ f i (out.map φ)=(nA xss f i out).map φ
 | 0,_,_,_=>rfl
 | f+1,i,out,hg=>by
  simp only [nA,fk]
  by_cases hi:i<out.length
  ·rw [ay hi,ay hi,O7 hi];have hx:=gi_in hi;have hr:=hg.range _ hx;have e:expand dZ (φ (gi out i)) (out.map φ)=(expand xss (gi out i) out).map φ:=fold_map h.inj xss dZ out h.len hg.range (fun j hj=> ⟨(hs (gl xss j) (by rw [bP hj];exact dB _)).2 _ hr.1 hr.2,h.oi j _ hj hr.1 hr.2⟩);rw [e];exact Nu h hs f (i+1) _ (foldl_push hs xss out (fun p hp=>hp) hg hx).1
  ·rw [aw hi,aw hi]
theorem SN(h:iz N xss dZ φ)(hs:Sys N xss){pt:Int}(h0:0<=pt)(h1:pt<N):b8 N dZ (φ pt)=(b8 N xss pt).map φ:=Nu h hs (N+1) 0 [pt] (Gd h0 h1)
theorem F6(h:iz N xss dZ φ)(hM:aZ xss)(hN:N=(gl xss 0).length){pt:Int}(h0:0<=pt)(h1:pt<N):dV N dZ (φ pt)=dV N xss pt:=by
 have hs:=hM.2.2.1.sys;have hP:=hM.yg h0 (by rw [<-hN];exact h1);rw [<-hN]at hs hP;have ho:=SN h hs h0 h1;have Zl:sR N ((b8 N xss pt).map φ):=by
  refine⟨by rw [fk];exact hP.len,?_,fun x hx=>?_⟩
  ·rw [List.nodup_iff_pairwise_ne,kM];exact List.Pairwise.imp_of_mem (fun ha hb dN e=>dN (h.inj _ _ (hP.range _ ha).1 (hP.range _ ha).2 (hP.range _ hb).1 (hP.range _ hb).2 e)) (List.nodup_iff_pairwise_ne.1 hP.nodup)
  obtain⟨y,hy,rfl⟩:=db.1 hx;exact h.cj y (hP.range y hy).1 (hP.range y hy).2
 have hb:∀z:Int,0<=z->z<N->gi (kB N ((b8 N xss pt).map φ)) (φ z)=gi (kB N (b8 N xss pt)) z:=fun z h0 h1=>by
  obtain⟨k,hk,e1,e2⟩:=hP.vD h0 h1;have:=Zl.back hk;rw [O7 (by rw [hP.len];exact hk),e1]at this;rw [this,e2]
 unfold dV;rw [ho];apply jo
 ·simp [h.len]
 intro i h2 h3;simp only [fk]at h2 h3;simp only [List.getElem_map];unfold pe;rw [List.map_map];apply od;intro x hx;have hx:=hP.range x hx;have hr:=(hs (gl xss i) (by rw [bP h3];exact dB _)).2 x hx.1 hx.2;have hc:=h.oi i x h3 hx.1 hx.2;rw [bP h2,bP h3]at hc;rw [bP h3]at hr;show gi _ (gi dZ[i] (φ x))=_;rw [hc,hb _ hr.1 hr.2]
variable {f:Int}
theorem Bh(hM:aZ xss)(hN:N=(gl xss 0).length)(h0:0<=f)(h1:f<N):iz N xss (dV N xss f) (gi (kB N (b8 N xss f))):=by
 have hs:=hM.2.2.1.sys;have hP:=hM.yg h0 (by rw [<-hN];exact h1);rw [<-hN]at hs hP;refine⟨qP _ _ _,fun x hx dH=>?_,fun x y hx dH hy kq e=>?_,fun i x hi hx dH=>?_⟩
 ·obtain⟨k,hk,_,e⟩:=hP.vD hx dH;omega
 ·obtain⟨k,hk,e1,e2⟩:=hP.vD hx dH;obtain⟨j,hj,e3,e4⟩:=hP.vD hy kq;have:(k:Int)=j:=by omega
  rw [<-e1,<-e3,this]
 obtain⟨k,hk,e1,e2⟩:=hP.vD hx dH;rw [e2,bP (by rw [qP];exact hi)];simp only [dV,List.getElem_map];rw [bO (by rw [HV,hP.len];exact hk)];simp only [pe,List.getElem_map];rw [<-bO (by rw [hP.len];exact hk),e1,bP hi]
theorem Jw(hM:aZ xss)(hN:N=(gl xss 0).length)(h0:0<=f)(h1:f<N):gi (b8 N xss f) 0=f/\gi (kB N (b8 N xss f)) f=0:=by
 have hs:=hM.2.2.1.sys;have hP:=hM.yg h0 (by rw [<-hN];exact h1);rw [<-hN]at hs hP;have e:=yL (sD hs h0 h1).2.1 (i:=0) (by simp);have e:gi (b8 N xss f) 0=f:=e;refine⟨e,?_⟩;have:=hP.back (k:=0) (by omega);have this:gi (kB N (b8 N xss f)) (gi (b8 N xss f) 0)=0:=this
 rwa [e]at this
theorem XO(hM:aZ xss)(hN:N=(gl xss 0).length)(h0:0<=f)(h1:f<N):b8 N (dV N xss f) 0=vq N:=by
 have hs:=hM.2.2.1.sys;have hP:=hM.yg h0 (by rw [<-hN];exact h1);rw [<-hN]at hs hP;have h:=SN (Bh hM hN h0 h1) hs h0 h1;rw [(Jw hM hN h0 h1).2]at h;rw [h];apply jo
 ·rw [fk,hP.len,H2]
 intro i h2 h3;rw [H2]at h3;rw [List.getElem_map,<-bO (by rw [hP.len];exact h3),hP.back h3];simp [vq]
end
section
variable {n F:Nat} {L:ah}
theorem Reach.yC(hI:C8 n F L)(hs:Sys F L)(hF:0<F){x:Int}(h:Reach L 0 x):(0<=x/\x<F)/\yr n L x:=by
 induction h with
 | refl=>exact⟨⟨by omega,by omega⟩,.zero⟩
 | @step y p _ hp ih=>
  obtain⟨i,hi,rfl⟩:=fJ.1 hp;have hr:=(hs _ hp).2 y ih.1.1 ih.1.2;have e:gi L[i] y=cell L i y:=by
   unfold cell;rw [bP hi]
  rw [e]at hr|-;exact⟨hr,.step ih.2 (by rw [<-hI.1];exact hi) ih.1.1 hr.1⟩
end
section
variable {N:Nat} {xss:ah} {f:Int}
theorem OO(hM:aZ xss)(hN:N=(gl xss 0).length)(h0:0<=f)(h1:f<N):Inv xss.length N (dV N xss f) N (N*xss.length)/\aZ (dV N xss f):=by
 have hP:=hM.yg h0 (by rw [<-hN];exact h1);have hs:=hM.2.2.1.sys;rw [<-hN]at hP hs;have hI:=Bh hM hN h0 h1;have yR:=hM.2.1;have hn:=hM.1;have Zh:2<=N/\N<=400:=by omega
 have K7:C8 xss.length N (dV N xss f):=⟨qP _ _ _,fun p hp=>by
  obtain⟨mv,_,rfl⟩:=db.1 hp;rw [HV,hP.len]⟩
 have hc:∀(i:Nat) (k:Nat),i<xss.length->k<N->cell (dV N xss f) i k=gi (kB N (b8 N xss f)) (gi (gl xss i) (gi (b8 N xss f) k)):=fun i k hi hk=>by
  have hr:=hP.cj hk;have:=hI.oi i _ hi hr.1 hr.2;rw [hP.back hk]at this;exact this
 have bW:∀(i:Nat) (x:Int),i<xss.length->0<=x->x<N->0<=gi (gl xss i) x/\gi (gl xss i) x<N:=fun i x hi hx dH=> (hs (gl xss i) (by rw [bP hi];exact dB _)).2 x hx dH
 have aaj:∀(i:Nat) (x:Int),i<xss.length->0<=x->x<N->gi (gl xss i) x≠x/\gi (gl xss i) (gi (gl xss i) x)=x:=fun i x hi hx dH=>by
  have h:=(hM.2.2.1.at_ hi);have:=h.2.2 x.toNat (by omega);rw [Int.toNat_of_nonneg hx]at this;exact this
 have vb:∀(i:Nat) (k:Nat),i<xss.length->k<N->∃j:Nat,j<N/\cell (dV N xss f) i k=j/\gi (b8 N xss f) j=gi (gl xss i) (gi (b8 N xss f) k):=fun i k hi hk=>by
  have hr:=hP.cj hk;have hq:=bW i _ hi hr.1 hr.2;obtain⟨j,hj,e1,e2⟩:=hP.vD hq.1 hq.2;exact⟨j,hj,by rw [hc i k hi hk,e2],e1⟩
 have Pw:Inv xss.length N (dV N xss f) N (N*xss.length):=by
  refine⟨K7,by omega,by omega,bj _,fun i x hi hx dH=> .inr ?_,fun a ha=>?_,fun x hx=>?_,bj _⟩
  ·obtain⟨k,rfl⟩:∃k:Nat,x=k:=⟨x.toNat,by omega⟩;have hk:k<N:=by omega
   obtain⟨j,hj,e1,e2⟩:=vb i k hi hk;obtain⟨l,hl,e3,e4⟩:=vb i j hi hj;have hr:=hP.cj hk;have hf:=aaj i _ hi hr.1 hr.2;rw [e2,hf.2]at e4;have el:=hP.inj hl hk e4;rw [e1,e3,el];refine⟨by omega,by omega,dH,O,fun e=>?_⟩;have:j=k:=by omega
   rw [this]at e2;exact hf.1 e2.symm
  ·have gH:a / xss.length<N:=Nat.div_lt_of_lt_mul (by rw [Nat.mul_comm];exact ha);obtain⟨j,hj,e1,_⟩:=vb (a%xss.length) (a / xss.length) (Nat.mod_lt _ (by omega)) gH;rw [e1];omega
  have Rm:Sys N (dV N xss f):=fun p hp=>by
   refine⟨K7.2 p hp,fun x hx dH=>?_⟩;obtain⟨i,hi,rfl⟩:=fJ.1 hp;rw [qP]at hi;obtain⟨k,rfl⟩:∃k:Nat,x=k:=⟨x.toNat,by omega⟩;obtain⟨j,hj,e1,_⟩:=vb i k hi (by omega);unfold cell at e1;rw [bP (by rw [qP];exact hi)]at e1;omega
  have ho:=XO hM hN h0 h1;have:=(sD Rm (pt:=0) (by omega) (by omega)).2.2 (x:Int);rw [ho]at this;exact(Reach.yC K7 Rm (by omega) (this.1 (Mk.2 ⟨by omega,by omega⟩))).2
 refine⟨Pw,Pw.ll hn.2 Zh (fun e he i hi k hk mr=>?_)⟩;rw [qP]at hi hk;have hr:=hP.cj he;obtain⟨j1,D5,a1,b1⟩:=vb i e hi he;obtain⟨j2,mY,a2,b2⟩:=vb k e hk he;obtain⟨j3,hj3,a3,b3⟩:=vb k j1 hk D5;obtain⟨j4,hj4,a4,b4⟩:=vb i j2 hi mY;obtain⟨q,hq⟩:∃q:Nat,gi (b8 N xss f) e=q:=⟨(gi (b8 N xss f) e).toNat,by omega⟩;have mV:=hM.2.2.2.1 i hi k hk mr q (by omega);unfold Comm at mV;rw [<-hq]at mV;refine⟨fun _ e1=>?_,fun _ _=>?_⟩
 ·rw [a1,a2]at e1;have:j1=j2:=by omega
  rw [this]at b1;exact mV.2 (by rw [<-b1,<-b2])
 unfold kn;rw [a1,a2,aw (by omega),aw (by omega),a3,a4];have:gi (b8 N xss f) j3=gi (b8 N xss f) j4:=by rw [b3,b4,b1,b2];exact mV.1
 rw [hP.inj hj3 hj4 this]
theorem LC(hM:aZ xss)(hN:N=(gl xss 0).length):∃f:Nat,f<N/\iP N xss=dV N xss f:=R8 (by have:=hM.2.1;omega) N (bj _)
end
theorem ado{N:Nat}{xss dZ:ah}{φ:Int->Int}(h:iz N xss dZ φ)(hs:∀y:Nat,y<N->∃x:Nat,x<N/\φ (x:Int)=(y:Int))(hM:aZ xss)(hN:N=(gl xss 0).length)(yO:aZ dZ)(ki:N=(gl dZ 0).length):iP N dZ=iP N xss:=by
 obtain⟨a,ha,ea⟩:=LC hM hN;obtain⟨b,hb,eb⟩:=LC yO ki;apply adl
 ·intro hc;rw [ea]at hc;have hr:=h.cj (a:Int) (by omega) (by omega);rw [<-F6 h hM hN (pt:=(a:Int)) (by omega) (by omega)]at hc;obtain⟨k,hk⟩:∃k:Nat,φ (a:Int)=k:=⟨(φ (a:Int)).toNat,by omega⟩;rw [hk]at hc hr;exact(LB (N:=N) (xss:=dZ) N).2 k (by omega) hc
 intro hc;rw [eb]at hc;obtain⟨x,hx,e⟩:=hs b hb;rw [<-e,F6 h hM hN (pt:=(x:Int)) (by omega) (by omega)]at hc;exact(LB (N:=N) (xss:=xss) N).2 x hx hc
section
variable{i b:Nat}
variable {M:ah}
theorem pX{a:Nat}:bh M i a=bh M i b↔gi (bV M i) a=gi (bV M i) b:=by
 unfold bh;omega
theorem sZ(hM:aZ M){a:Nat}(hi:i<M.length)(ha:a< (gl M 0).length):(0<=bh M i a/\bh M i a< (aF M M.length:Int))/\gi (bo M M.length) (bh M i a)=i:=by
 have h1:=oV hM (i:=i) ha;have h2:=nn M (show i+1<=M.length by omega);exact⟨by omega,Dt hi h1.1 h1.2⟩
theorem Jx(hM:aZ M){e:Int}(h0:0<=e)(h1:e< (aF M M.length:Int)):∃i a:Nat,i<M.length/\a< (gl M 0).length/\e=bh M i a:=by
 obtain⟨i,hi,h2,h3⟩:=Jy h0 h1;have h4:aF M (i+1)=aF M i+ (fA M i).toNat:=O;have h5:=vJ M i;obtain⟨a,ha,e1⟩:=yF hM i (e - aF M i) (by omega) (by omega);exact⟨i,a,hi,ha,by unfold bh;omega⟩
theorem xl(hM:aZ M){y:ai}:y∈fe M↔∃a:Nat,a< (gl M 0).length/\y=il M.length M a:=by
 have hn:=hM.1;unfold fe;rw [nG hn.1];constructor
 ·rintro⟨hl,hr,hc⟩;have key:∀i:Nat,i<M.length->∃a:Nat,a< (gl M 0).length/\∀k:Nat,k<=i->gi y k=bh M k a:=by
   intro i
   induction i with
   | zero=>
    intro hi;have h1:=hr 0 hi;rw [jg]at h1;obtain⟨j,a,hj,ha,e⟩:=Jx hM h1.1.1 h1.1.2;have h2:=(sZ hM hj ha).2;rw [<-e,h1.2]at h2;obtain rfl:j=0:=by omega
    exact⟨a,ha,fun k hk=>by obtain rfl:k=0:=(by omega);exact e⟩
   | succ i ih=>
    intro hi;obtain⟨a,ha,hk⟩:=ih (by omega);have h1:=hr (i+1) hi;have h0:=hr i (by omega);rw [jg]at h1 h0;have hm:=hc i hi;rw [mQ h1.1.1 h1.1.2]at hm;obtain⟨_,f,hf,j,hj,l,vf,e1,e2⟩:=hm;have r1:=(sZ hM hj hf).2;have r2:=(sZ hM (show l<M.length by omega) hf).2;rw [<-e1,h1.2]at r1;rw [<-e2,h0.2]at r2;obtain rfl:j=i+1:=by omega
    obtain rfl:l=i:=by omega
    have e3:gi (bV M l) a=gi (bV M l) f:=pX.1 (by rw [<-hk l (bj _),e2]);obtain⟨u,hu,eB,cC⟩:=TO hM (j:=l) (f:=(a:Int)) (by omega) (by omega) (Dm hM (by omega) (by omega) (by omega) (by omega) e3);obtain⟨b,rfl⟩:∃b:Nat,u=b:=⟨u.toNat,by omega⟩;refine⟨b,by omega,fun k jY=>?_⟩
    by_cases QF:k<=l
    ·rw [hk k QF];exact pX.2 (eB k QF).symm
    ·obtain rfl:k=l+1:=by omega
     rw [e1];exact pX.2 (cC (l+1) (by omega)).symm
  obtain⟨a,ha,h⟩:=key (M.length - 1) (by omega);refine⟨a,ha,ux (n:=M.length) hl (by simp [il]) fun i hi=>?_⟩;rw [kD hi];exact h i (by omega)
 ·rintro⟨a,ha,rfl⟩;refine⟨by simp [il],fun i hi=>?_,fun i hi=>?_⟩
  ·rw [kD hi,jg];exact sZ hM hi ha
  ·rw [kD (show i<M.length by omega),kD hi];have h1:=sZ hM hi ha;have h2:=sZ hM (show i<M.length by omega) ha;rw [mQ h1.1.1 h1.1.2];exact⟨h2.1,a,ha,i+1,hi,i,by omega,O,O⟩
theorem OC(hM:aZ M)(hl:(fe M).length=(gl M 0).length){a:Nat}(ha:a< (gl M 0).length)(hb:b< (gl M 0).length)(e:il M.length M a=il M.length M b):a=b:=by
 refine ob fun bt=>?_
 have hex:∀y:ai,∃c:Nat,y∈fe M->c< (gl M 0).length/\c≠a/\y=il M.length M c:=fun y=>by
  by_cases hy:y∈fe M
  ·obtain⟨c,hc,ec⟩:=(xl hM).1 hy
   by_cases h:c=a
   ·exact⟨b,fun _=> ⟨hb,fun q=>bt q.symm,by rw [ec,h,e]⟩⟩
   exact⟨c,fun _=> ⟨hc,h,ec⟩⟩
  exact⟨0,fun h=>absurd h hy⟩
 obtain⟨g,hg⟩:=Classical.axiomOfChoice hex;have hg:∀y:ai,y∈fe M->g y< (gl M 0).length/\g y≠a/\y=il M.length M (g y):=hg;have tj:(fe M).Nodup:=(Bg _ _ _).nodup;have hq:(a::(fe M).map g).Nodup:=by
  refine nt.2 ⟨fun hm=>?_,?_⟩
  ·obtain⟨y,hy,e1⟩:=db.1 hm;exact(hg y hy).2.1 e1
  exact kM.2 (tj.imp_of_mem fun {x y} hx hy jl q=>jl (by rw [(hg x hx).2.2,(hg y hy).2.2,q]))
 have:=HC (gl M 0).length _ hq fun x hx=>by
  rcases jq.1 hx with rfl | hx
  ·exact ha
  obtain⟨y,hy,rfl⟩:=db.1 hx;exact(hg y hy).1
 rw [List.length_cons,fk,hl]at this;omega
theorem Yl(hM:aZ M)(hG:ns M):eV M.length (bo M M.length) (bD M):=
 ⟨qv hM hG.1,hG.2.2,by have:=hM.1;omega,by
  have h1:=hG.2.1;have h2:=hM.2.1;unfold fe at h1;omega⟩
end
inductive nu(M:ah)(S:Nat->Prop)(a:Nat):Nat->Prop where
 | refl:nu M S a a
 | step {b c i:Nat}:nu M S a b->i<M.length->¬S i->gi (gl M i) b=(c:Int)->nu M S a c
def oP(M:ah):Prop:=∀a b:Nat,a< (gl M 0).length->b< (gl M 0).length->nu M (fun k=>gi (bV M k) a=gi (bV M k) b) a b
section
variable{i b p q k:Nat}{S:Nat->Prop}
variable {M:ah}
theorem Sv(hM:aZ M){a:Nat}(hi:i<M.length)(ha:a< (gl M 0).length):∃c:Nat,c< (gl M 0).length/\gi (gl M i) a=(c:Int)/\gi (gl M i) c=(a:Int)/\c≠a:=by
 have h:=hM.wu hi (f:=(a:Int)) (by omega) (by omega);have h2:=hM.two hi (f:=(a:Int)) (by omega) (by omega);have h3:=((hM.2.2.1.at_ hi).2.2 a (by rw [(hM.2.2.1.at_ hi).1];exact ha)).1;refine⟨(gi (gl M i) a).toNat,by omega,by omega,by rw [Int.toNat_of_nonneg h.1];exact h2,fun e=>?_⟩;omega
theorem nu.lt(hM:aZ M){a:Nat}(ha:a< (gl M 0).length)(h:nu M S a b):b< (gl M 0).length:=by
 induction h with
 | refl=>exact ha
 | step _ hi _ e ih=>
  have:=hM.wu hi (f:=((_:Nat):Int)) (by omega) (show((_:Nat):Int)<_ by exact Int.ofNat_lt.2 ih);rw [e]at this;omega
theorem nu.none{a:Nat}(h:nu M S a b)(hS:∀k,k<M.length->S k):b=a:=by
 induction h with
 | refl=>rfl
 | step _ hi hs _ _=>exact absurd (hS _ hi) hs
theorem nu.one(hM:aZ M){a:Nat}(ha:a< (gl M 0).length)(h:nu M S a b)(hS:∀k,k<M.length->k≠i->S k):b=a\/(b:Int)=gi (gl M i) a:=by
 induction h with
 | refl=>exact .inl rfl
 | step h hk hs e ih=>
  rename_i b c k;have e6:k=i:=ob fun bt=>hs (hS k hk bt)
  subst e6;rcases ih with rfl | e2
  ·exact .inr e.symm
  ·left;have:=hM.two hk (f:=(a:Int)) (by omega) (by omega);rw [<-e2,e]at this;omega
theorem Pc(hM:aZ M):∃g:Nat->Nat,∀a:Nat,a< (gl M 0).length->g a< (fe M).length/\gl (fe M) (g a:Int)=il M.length M a:=by
 have hex:∀a:Nat,∃p:Nat,a< (gl M 0).length->p< (fe M).length/\gl (fe M) p=il M.length M a:=fun a=>by
  by_cases ha:a< (gl M 0).length
  ·obtain⟨p,hp,e⟩:=fJ.1 ((xl hM).2 ⟨a,ha,rfl⟩);exact⟨p,fun _=> ⟨hp,by rw [bP hp];exact e⟩⟩
  exact⟨0,fun h=>absurd h ha⟩
 exact Classical.axiomOfChoice hex
theorem Oz(hM:aZ M)(hp:p< (fe M).length):∃a:Nat,a< (gl M 0).length/\gl (fe M) p=il M.length M a:=(xl hM).1 (by rw [bP hp];exact dB _)
theorem OA(hp:p< (fe M).length)(hq:q< (fe M).length)(h:gl (fe M) p=gl (fe M) q):p=q:=vL (n:=M.length) (R:=bo M M.length) (B:=bD M) hp hq h
theorem OB(hM:aZ M){a c:Nat}(hi:i<M.length)(ha:a< (gl M 0).length)(e:gi (gl M i) a=(c:Int))(hp:p< (fe M).length)(hq:q< (fe M).length)(ep:gl (fe M) p=il M.length M a)(eq:gl (fe M) q=il M.length M c):lL M.length (fe M) i p q:=
 ⟨hp,hq,fun k hk bt=>by
  rw [ep,eq,kD hk,kD hk];refine pX.2 ?_;rw [<-e];exact(Dl hM hi (fun e=>bt e.symm) (by omega) (by omega)).symm⟩
theorem Ym(hM:aZ M)(hG:ns M):oP M:=by
 have hl:(fe M).length=(gl M 0).length:=hG.2.1;have hP:=Yl hM hG;have G2:jA M.length (fe M):=hP.nb;obtain⟨g,hg⟩:=Pc hM;have key:∀ {S:Nat->Prop} {p q:Nat},iF M.length (fe M) S p q->∀ {S':Nat->Prop},(∀k,k<M.length->(S' k->S k))->∀a:Nat,a< (gl M 0).length->gl (fe M) p=il M.length M a->
  ∃b:Nat,b< (gl M 0).length/\gl (fe M) q=il M.length M b/\nu M S' a b:=by
  intro S p q hL S' hS a ha e
  induction hL with
  | refl _=>exact⟨a,ha,e,.refl⟩
  | step hL hi hs hA ih=>
   rename_i q r i;obtain⟨b,hb,eb,lb⟩:=ih
   by_cases Rj:r=q
   ·subst Rj;exact⟨b,hb,eb,lb⟩
   obtain⟨c,hc,e1,e2,bt⟩:=Sv hM hi hb;have GO:=hg c hc;have hq:=hA.1;have vP:=OB hM hi hb e1 hq GO.1 eb GO.2;have D1:g c≠q:=fun e=>bt (OC hM hl hc hb (by rw [<-GO.2,e,eb]))
   have u1:=((G2.pt hq hi).2 (g c)).1 ⟨vP,D1⟩;have u2:=((G2.pt hq hi).2 r).1 ⟨hA,Rj⟩;exact⟨c,hc,by rw [u2,<-u1];exact GO.2,.step lb hi (fun h=>hs (hS i hi h)) e1⟩
 intro a b ha hb;have Kw:=hg a ha;have BN:=hg b hb;have km:iF M.length (fe M) (fun k=>gi (gl (fe M) (g a:Int)) k=gi (gl (fe M) (g b:Int)) k) (g a) (g b):=by
  have hc:vz M.length (fe M):=hG.2.2.2.2.2;rcases Nat.lt_trichotomy (g a) (g b)with h | h | h
  ·exact hc _ _ h BN.1
  ·rw [h];exact .refl BN.1
  ·have:=(hc _ _ h Kw.1).symm;have e:(fun k:Nat=>gi (gl (fe M) (g b:Int)) k=gi (gl (fe M) (g a:Int)) k)=fun k:Nat=>gi (gl (fe M) (g a:Int)) k=gi (gl (fe M) (g b:Int)) k:=funext fun k=>propext ⟨Eq.symm,Eq.symm⟩
   rwa [e]at this
 obtain⟨b',sf,e',l'⟩:=key km (S':=fun k=>gi (bV M k) a=gi (bV M k) b) (fun k hk h=>by
  rw [Kw.2,BN.2,kD hk,kD hk];exact pX.2 h) a ha Kw.2
 obtain rfl:b'=b:=OC hM hl sf hb (by rw [<-e',BN.2]);exact l'
theorem oP.inj(h:oP M){a:Nat}(ha:a< (gl M 0).length)(hb:b< (gl M 0).length)(e:∀k,k<M.length->gi (bV M k) a=gi (bV M k) b):b=a:=(h a b ha hb).none e
theorem oP.IC(hM:aZ M)(h:oP M){a:Nat}(ha:a< (gl M 0).length)(hb:b< (gl M 0).length)(e:∀k,k<M.length->k≠i->gi (bV M k) a=gi (bV M k) b):b=a\/(b:Int)=gi (gl M i) a:=(h a b ha hb).one hM ha e
theorem XE{a:Nat}(e:il M.length M a=il M.length M b)(hk:k<M.length):gi (bV M k) a=gi (bV M k) b:=by
 have:=aO (fun y=>gi y k) e;simp only [kD hk]at this;exact pX.1 this
theorem oP.yJ(hM:aZ M)(h:oP M):(fe M).length=(gl M 0).length:=by
 have hp:((List.range (gl M 0).length).map (il M.length M)).Perm (fe M):=by
  refine(rN ?_ (Bg _ _ _).nodup).2 fun y=>?_
  ·exact kM.2 ((List.nodup_range (n:=(gl M 0).length)).imp_of_mem fun {a b} ha hb bt e=>bt (h.inj (fU.1 ha) (fU.1 hb) fun k hk=>XE e hk).symm)
  show _↔y∈fe M;rw [xl hM,db];constructor
  ·rintro⟨a,ha,rfl⟩;exact⟨a,fU.1 ha,rfl⟩
  rintro⟨a,ha,rfl⟩;exact⟨a,fU.2 ha,rfl⟩
 have:=hp.length_eq;rw [fk,pU]at this;exact this.symm
theorem XF(hM:aZ M){a:Nat}(hi:i<M.length)(ha:a< (gl M 0).length){d:Int}(hd:0<=d/\d< (aF M M.length:Int))(hr:gi (bo M M.length) d=i)(eB:0<i->bh M (i - 1) a∈gl (bD M) d)(cC:i+1<M.length->d∈gl (bD M) (bh M (i+1) a)):∃b:Nat,b< (gl M 0).length/\bh M i b=d/\∀k,k<M.length->k≠i->bh M k b=bh M k a:=by
 have hn:=hM.1;have hm:il M.length M a∈fe M:=(xl hM).2 ⟨a,ha,O⟩;have hf:=(nG hn.1).1 hm;have hs:∀k:Nat,gi ((il M.length M a).set i d) k=if k=i then d else gi (il M.length M a) k:=fun k=>by
  have:=pw (S:=il M.length M a) (x:=(i:Int)) (y:=(k:Int)) (b:=d) (by omega) (by rw [hf.1];omega) (by omega);rw [gG]at this;rw [this]
  by_cases e:k=i
  ·subst e;simp
  rw [aw e,aw (by omega)]
 have hx:(il M.length M a).set i d∈fe M:=by
  refine(nG hn.1).2 ⟨by rw [lp];exact hf.1,fun k hk=>?_,fun k hk=>?_⟩
  ·rw [hs k]
   by_cases e:k=i
   ·subst e;rw [ay rfl,jg];exact⟨hd,hr⟩
   rw [aw e];exact hf.2.1 k hk
  rw [hs k,hs (k+1)]
  by_cases e:k=i
  ·subst e;rw [ay rfl,aw (by omega),kD hk];exact cC hk
  rw [aw e]
  by_cases e2:k+1=i
  ·subst e2;rw [ay rfl,kD (by omega)];exact eB (by omega)
  rw [aw e2];exact hf.2.2 k hk
 obtain⟨b,hb,eb⟩:=(xl hM).1 hx;refine⟨b,hb,?_,fun k hk bt=>?_⟩
 ·have:=hs i;rw [eb,kD hi,ay rfl]at this;exact this
 have:=hs k;rw [eb,kD hk,aw bt,kD hk]at this;exact this
theorem OU(hM:aZ M){a:Nat}(hi:i<M.length)(hk:k<i)(ha:a< (gl M 0).length):bh M k a∈gl (bD M) (bh M i a):=by
 have h1:=sZ hM hi ha;have h2:=sZ hM (show k<M.length by omega) ha;rw [mQ h1.1.1 h1.1.2];exact⟨h2.1,a,ha,i,hi,k,hk,O,O⟩
theorem XX(hM:aZ M){d e:Int}(hi:i<M.length)(he:0<=e/\e< (aF M M.length:Int))(K0:gi (bo M M.length) e=i)(nh:gi (bo M M.length) d=k)(h:d∈gl (bD M) e):∃a:Nat,a< (gl M 0).length/\e=bh M i a/\d=bh M k a:=by
 rw [mQ he.1 he.2]at h;obtain⟨_,f,hf,j,hj,l,hl,e1,e2⟩:=h;have r1:=(sZ hM hj hf).2;have r2:=(sZ hM (show l<M.length by omega) hf).2;rw [<-e1,K0]at r1;rw [<-e2,nh]at r2;obtain rfl:j=i:=by omega
 obtain rfl:l=k:=by omega
 exact⟨f,hf,e1,e2⟩
theorem OV(hM:aZ M){e:Int}(he:0<=e/\e< (aF M M.length:Int))(K0:gi (bo M M.length) e=i):i<M.length/\∃a:Nat,a< (gl M 0).length/\e=bh M i a:=by
 obtain⟨j,a,hj,ha,e1⟩:=Jx hM he.1 he.2;have r1:=(sZ hM hj ha).2;rw [<-e1,K0]at r1;obtain rfl:j=i:=by omega
 exact⟨hj,a,ha,e1⟩
theorem oP.Xe(hM:aZ M)(h:oP M):tH M.length (bo M M.length) (bD M):=by
 intro i0 e f eK kj he hf DZ;obtain⟨i,rfl⟩:∃i:Nat,i0=i:=⟨i0.toNat,by omega⟩;have hi:i<M.length:=by omega
 have hn:=hM.1;have hN:=hM.2.1;have iY:∃a:Nat,a< (gl M 0).length/\(0<i->e=bh M (i - 1) a)/\(i+1<M.length->f=bh M (i+1) a):=by
  rcases he with⟨q1,q2⟩ | ⟨q1,q2,q3⟩
  ·rcases hf with⟨p1,p2⟩ | ⟨p1,p2,p3⟩
   ·exact⟨0,by omega,fun h=>by omega,fun h=>by omega⟩
   rw [jg]at p1;obtain⟨_,a,ha,ea⟩:=OV hM (i:=i+1) p1 (by omega);exact⟨a,ha,fun h=>by omega,fun _=>ea⟩
  rw [jg]at q1;rcases hf with⟨p1,p2⟩ | ⟨p1,p2,p3⟩
  ·obtain⟨_,a,ha,ea⟩:=OV hM (i:=i - 1) q1 (by omega);exact⟨a,ha,fun _=>ea,fun h=>by omega⟩
  rw [jg]at p1;obtain⟨a,ha,e1,e2⟩:=XX hM (i:=i+1) (k:=i - 1) (by omega) p1 (by omega) (by omega) (DZ q1.1 p1.1);exact⟨a,ha,fun _=>e2,fun _=>e1⟩
 obtain⟨a,ha,s8,vU⟩:=iY;have Kr:e<0↔i=0:=by
  rcases he with⟨q1,q2⟩ | ⟨q1,q2,q3⟩<;>omega
 have Ku:f<0↔i+1=M.length:=by
  rcases hf with⟨q1,q2⟩ | ⟨q1,q2,q3⟩<;>omega
 obtain⟨c,hc,e1,e2,bt⟩:=Sv hM hi ha;have xA:bh M i a≠bh M i c:=fun q=>bt (h.inj ha hc fun k hk=>by
  by_cases e:k=i
  ·subst e;exact pX.1 q
  rw [<-e1];exact(Dl hM hi (fun e'=>e e'.symm) (by omega) (by omega)).symm)
 have zg:∀k,k≠i->bh M k c=bh M k a:=fun k hk=>by
  refine pX.2 ?_;rw [<-e1];exact Dl hM hi (fun e'=>hk e'.symm) (by omega) (by omega)
 have jQ:∀d:Int,d∈lO (bo M M.length) (bD M) i e f↔d∈[bh M i a,bh M i c]:=fun d=>by
  rw [wV,jg];constructor
  ·rintro⟨hd,hr,u,v⟩;obtain⟨b,hb,eb,hk⟩:=XF hM hi ha hd hr (fun h0=>by
    rw [<-s8 h0];exact u.resolve_left (by omega)) (fun h0=>by
    rw [<-vU h0];exact v.resolve_left (by omega))
   rcases h.IC hM ha hb (i:=i) (fun k lh aaN=> (pX.1 (hk k lh aaN)).symm)with rfl | q
   ·rw [<-eb];simp
   obtain rfl:b=c:=by omega
   rw [<-eb];simp
  intro hd;have h3:∀b:Nat,b< (gl M 0).length->(∀k,k≠i->bh M k b=bh M k a)->((0<=bh M i b/\bh M i b< (aF M M.length:Int))/\gi (bo M M.length) (bh M i b)=i/\(e<0\/e∈gl (bD M) (bh M i b))/\(f<0\/bh M i b∈gl (bD M) f)):=fun b hb hk=>by
   have g:=sZ hM hi hb;refine⟨g.1,g.2,?_,?_⟩
   ·by_cases h0:0<i
    ·right;rw [s8 h0,<-hk (i - 1) (by omega)];exact OU hM hi (by omega) hb
    left;omega
   by_cases h0:i+1<M.length
   ·right;rw [vU h0,<-hk (i+1) (by omega)];exact OU hM h0 (by omega) hb
   left;omega
  rcases jq.1 hd with rfl | hd
  ·exact h3 a ha fun _ _=>O
  obtain rfl:=gk.1 hd;exact h3 c hc zg
 have hp:(lO (bo M M.length) (bD M) i e f).Perm [bh M i a,bh M i c]:=(rN (z6 _ _ _ _ _) (by simpa using xA)).2 jQ;exact hp.length_eq
theorem oP.yC(hM:aZ M)(h:oP M):vz M.length (fe M):=by
 obtain⟨g,hg⟩:=Pc hM;have key:∀ {S:Nat->Prop} {a b:Nat},a< (gl M 0).length->nu M S a b->∀ {S':Nat->Prop},(∀k,k<M.length->(S' k->S k))->b< (gl M 0).length/\iF M.length (fe M) S' (g a) (g b):=by
  intro S a b ha hL S' hS
  induction hL with
  | refl=>exact⟨ha,.refl (hg a ha).1⟩
  | step hL hi hs e ih=>
   rename_i b c i;obtain⟨hb,lb⟩:=ih;have hc:=(nu.step hL hi hs e).lt hM ha;exact⟨hc,.step lb hi (fun h=>hs (hS i hi h)) (OB hM hi hb e (hg b hb).1 (hg c hc).1 (hg b hb).2 (hg c hc).2)⟩
 intro p q sl hq;obtain⟨a,ha,ea⟩:=Oz hM (p:=p) (by omega);obtain⟨b,hb,eb⟩:=Oz hM hq;have h1:=(key ha (h a b ha hb) (S':=fun k=>gi (gl (fe M) p) k=gi (gl (fe M) q) k) fun k hk hx=>by
  rw [ea,eb,kD hk,kD hk]at hx;exact pX.1 hx).2
 rw [OA (hg a ha).1 (by omega) ((hg a ha).2.trans ea.symm),OA (hg b hb).1 hq ((hg b hb).2.trans eb.symm)]at h1;exact h1
theorem Yk(hM:aZ M)(hb:aF M M.length<=500)(h:oP M):ns M:=by
 have hN:=hM.2.1;refine⟨hb,h.yJ hM,?_,fun e h0 h1=>?_,h.Xe hM,h.yC hM⟩
 ·exact List.ne_nil_of_mem ((xl hM).2 ⟨0,by omega,O⟩)
 rw [jg]at h1;obtain⟨i,a,hi,ha,ea⟩:=Jx hM h0 h1;refine⟨_,(xl hM).2 ⟨a,ha,O⟩,?_⟩;rw [ea];unfold il;exact db.2 ⟨i,fU.2 hi,O⟩
theorem Gc(hM:aZ M):ns M↔aF M M.length<=500/\oP M:=⟨fun h=> ⟨h.1,Ym hM h⟩,fun h=>Yk hM h.1 h.2⟩
end
section
variable {N:Nat} {X Y Z:ah} {φ ψ:Int->Int}
theorem iz.zH(h:iz N X Y φ){y:Int}(h0:0<=y)(h1:y<N):∃x:Int,(0<=x/\x<N)/\φ x=y:=by
 have hn:((bN N).map φ).Nodup:=kM.2 ((ky N).nodup.imp_of_mem fun {a b} ha hb bt e=>bt (by
  have ha:=(gL _ _).1 ha;have hb:=(gL _ _).1 hb;exact h.inj a b ha.1 ha.2 hb.1 hb.2 e))
 have:=Mn (a:=(bN N).map φ) (b:=bN N) hn (fun z hz=>by
  obtain⟨x,hx,rfl⟩:=db.1 hz;have hx:=(gL _ _).1 hx;exact(gL _ _).2 (h.cj x hx.1 hx.2)) (by simp) y ((gL _ _).2 ⟨h0,h1⟩)
 obtain⟨x,hx,e⟩:=db.1 this;exact⟨x,(gL _ _).1 hx,e⟩
theorem iz.comp(h:iz N X Y φ)(h':iz N Y Z ψ):iz N X Z fun x=>ψ (φ x) where
 len:=h'.len.trans h.len
 cj:=fun x h0 h1=>by have:=h.cj x h0 h1;exact h'.cj _ this.1 this.2
 inj:=fun x y a b c d e=>h.inj x y a b c d (h'.inj _ _ (h.cj x a b).1 (h.cj x a b).2 (h.cj y c d).1 (h.cj y c d).2 e)
 oi:=fun i x hi h0 h1=>by
  have:=h.cj x h0 h1;rw [h'.oi i (φ x) (by rw [h.len];exact hi) this.1 this.2,h.oi i x hi h0 h1]
theorem iz.inv(h:iz N X Y φ)(hs:Sys N X):∃ψ:Int->Int,iz N Y X ψ/\(∀x:Int,0<=x->x<N->ψ (φ x)=x)/\∀y:Int,0<=y->y<N->φ (ψ y)=y:=by
 have hex:∀y:Int,∃x:Int,0<=y/\y<N->(0<=x/\x<N)/\φ x=y:=fun y=>by
  by_cases hy:0<=y/\y<N
  ·obtain⟨x,hx,e⟩:=h.zH hy.1 hy.2;exact⟨x,fun _=> ⟨hx,e⟩⟩
  exact⟨0,fun h=>absurd h hy⟩
 obtain⟨ψ,xY⟩:=Classical.axiomOfChoice hex;have xY:∀y:Int,0<=y/\y<N->(0<=ψ y/\ψ y<N)/\φ (ψ y)=y:=xY;have hl:∀x:Int,0<=x->x<N->ψ (φ x)=x:=fun x h0 h1=>by
  have hr:=h.cj x h0 h1;have:=xY _ hr;exact h.inj _ _ this.1.1 this.1.2 h0 h1 this.2
 refine⟨ψ,⟨h.len.symm,fun y h0 h1=> (xY y ⟨h0,h1⟩).1,fun a b a0 a1 b0 b1 e=>?_,fun i y hi h0 h1=>?_⟩,hl,fun y h0 h1=> (xY y ⟨h0,h1⟩).2⟩
 ·rw [<-(xY a ⟨a0,a1⟩).2,e,(xY b ⟨b0,b1⟩).2]
 have hy:=xY y ⟨h0,h1⟩;have bX:i<X.length:=by rw [<-h.len];exact hi
 have bW:=(hs (gl X i) (by rw [bP bX];exact dB _)).2 _ hy.1.1 hy.1.2;have:=h.oi i _ bX hy.1.1 hy.1.2;rw [hy.2]at this;rw [this,hl _ bW.1 bW.2]
theorem iz.reach(h:iz N X Y φ)(hs:Sys N X){k:Nat}{x y:Int}(h0:0<=x)(h1:x<N)(hr:Reach (X.eraseIdx k) x y):(0<=y/\y<N)/\Reach (Y.eraseIdx k) (φ x) (φ y):=by
 induction hr with
 | refl=>exact⟨⟨h0,h1⟩,.refl⟩
 | step hr hp ih=>
  rename_i z p;obtain⟨hz,hR⟩:=ih;obtain⟨j,hj,bt,rfl⟩:=Od hp;have bW:=(hs (gl X j) (by rw [bP hj];exact dB _)).2 _ hz.1 hz.2;refine⟨bW,?_⟩;rw [<-h.oi j z hj hz.1 hz.2];exact .step hR (Oc (by rw [h.len];exact hj) bt)
theorem iz.bg(h:iz N X Y φ)(hX:aZ X)(hY:aZ Y)(hN:N=(gl X 0).length)(ki:N=(gl Y 0).length){k:Nat}{f g:Int}(f0:0<=f)(f1:f<N)(g0:0<=g)(g1:g<N):gi (bV Y k) (φ f)=gi (bV Y k) (φ g)↔gi (bV X k) f=gi (bV X k) g:=by
 have hs:Sys N X:=by rw [hN];exact hX.2.2.1.sys
 have hf:=h.cj f f0 f1;have hg:=h.cj g g0 g1;constructor
 ·intro e;have hr:=Dm hY hf.1 (by omega) hg.1 (by omega) e;obtain⟨ψ,hi,hl,_⟩:=h.inv hs;have hsY:Sys N Y:=by rw [ki];exact hY.2.2.1.sys
  have:=(hi.reach hsY hf.1 hf.2 hr).2;rw [hl f f0 f1,hl g g0 g1]at this;exact Jr hX f0 (by omega) this
 intro e;have hr:=Dm hX f0 (by omega) g0 (by omega) e;exact Jr hY hf.1 (by omega) (h.reach hs f0 f1 hr).2
theorem iz.fA(h:iz N X Y φ)(hX:aZ X)(hY:aZ Y)(hN:N=(gl X 0).length)(ki:N=(gl Y 0).length)(k:Nat):fA Y k=fA X k:=by
 have b1:=(vJ X k).1;have b2:=(vJ Y k).1;have hex:∀v:Int,∃u:Int,0<=v/\v<Vc.fA X k->(0<=u/\u<Vc.fA Y k)/\∀f:Nat,f<N->(gi (bV X k) f=v↔gi (bV Y k) (φ (f:Int))=u):=fun v=>by
  by_cases hv:0<=v/\v<Vc.fA X k
  ·obtain⟨g,hg,eg⟩:=yF hX k v hv.1 hv.2;rw [<-hN]at hg;have hr:=h.cj (g:Int) (by omega) (by omega);obtain⟨g',mX⟩:∃g':Nat,φ (g:Int)=g':=⟨(φ (g:Int)).toNat,by omega⟩;refine⟨gi (bV Y k) (φ (g:Int)),fun _=> ⟨by rw [mX];exact xi hY k g' (by omega),fun f hf=>?_⟩⟩;rw [<-eg,h.bg hX hY hN ki (by omega) (by omega) (by omega) (by omega)]
  exact⟨0,fun h=>absurd h hv⟩
 obtain⟨u,hu⟩:=Classical.axiomOfChoice hex;have hu:∀v:Int,0<=v/\v<Vc.fA X k->(0<=u v/\u v<Vc.fA Y k)/\∀f:Nat,f<N->(gi (bV X k) f=v↔gi (bV Y k) (φ (f:Int))=u v):=hu;have hp:((bN (Vc.fA X k).toNat).map u).Perm (bN (Vc.fA Y k).toNat):=by
  refine(rN ?_ (ky _).nodup).2 fun y=>?_
  ·refine kM.2 ((ky _).nodup.imp_of_mem fun {a b} ha hb bt e=>bt ?_);have ha:=(gL _ _).1 ha;have hb:=(gL _ _).1 hb;obtain⟨g,hg,eg⟩:=yF hX k a ha.1 (by omega);rw [<-hN]at hg;have e1:=((hu a ⟨ha.1,by omega⟩).2 g hg).1 eg;rw [e]at e1;rw [<-eg];exact((hu b ⟨hb.1,by omega⟩).2 g hg).2 e1
  rw [db,gL];constructor
  ·rintro⟨v,hv,rfl⟩;have hv:=(gL _ _).1 hv;have:=(hu v ⟨hv.1,by omega⟩).1;omega
  intro hy;obtain⟨g,hg,eg⟩:=yF hY k y hy.1 (by omega);rw [<-ki]at hg;obtain⟨x,hx,ex⟩:=h.zH (y:=(g:Int)) (by omega) (by omega);obtain⟨f,rfl⟩:∃f:Nat,x=f:=⟨x.toNat,by omega⟩;have bW:=xi hX k f (by omega);refine⟨gi (bV X k) f,(gL _ _).2 (by omega),?_⟩;rw [<-((hu _ bW).2 f (by omega)).1 rfl,ex];exact eg
 have:=hp.length_eq;rw [fk,ES,ES]at this;omega
theorem iz.off(h:iz N X Y φ)(hX:aZ X)(hY:aZ Y)(hN:N=(gl X 0).length)(ki:N=(gl Y 0).length):∀j:Nat,aF Y j=aF X j
 | 0=>rfl
 | j+1=>by
  show aF Y j+ (Vc.fA Y j).toNat=aF X j+ (Vc.fA X j).toNat;rw [h.off hX hY hN ki j,h.fA hX hY hN ki j]
theorem iz.lnk(h:iz N X Y φ)(hX:aZ X)(hN:N=(gl X 0).length){S:Nat->Prop}{a b:Nat}(ha:a<N)(hl:nu X S a b):nu Y S (φ (a:Int)).toNat (φ (b:Int)).toNat:=by
 induction hl with
 | refl=>exact .refl
 | step hl hi hs e ih=>
  rename_i b c i;have hb:b<N:=by rw [hN]at ha|-;exact hl.lt hX ha
  have hc:c<N:=by rw [hN]at ha|-;exact(nu.step hl hi hs e).lt hX ha
  have r1:=h.cj (b:Int) (by omega) (by omega);have r2:=h.cj (c:Int) (by omega) (by omega);refine .step ih (by rw [h.len];exact hi) hs ?_;rw [Int.toNat_of_nonneg r1.1,Int.toNat_of_nonneg r2.1,h.oi i (b:Int) hi (by omega) (by omega),e]
theorem iz.pth(h:iz N X Y φ)(hX:aZ X)(hY:aZ Y)(hN:N=(gl X 0).length)(ki:N=(gl Y 0).length)(hp:oP X):oP Y:=fun a b ha hb=>by
 rw [<-ki]at ha hb;obtain⟨x,hx,ex⟩:=h.zH (y:=(a:Int)) (by omega) (by omega);obtain⟨y,hy,ey⟩:=h.zH (y:=(b:Int)) (by omega) (by omega);obtain⟨u,rfl⟩:∃u:Nat,x=u:=⟨x.toNat,by omega⟩;obtain⟨v,rfl⟩:∃v:Nat,y=v:=⟨y.toNat,by omega⟩;have hl:=h.lnk hX hN (by omega) (hp u v (by omega) (by omega));rw [ex,ey,gG,gG]at hl;have e:(fun k:Nat=>gi (bV X k) u=gi (bV X k) v)=fun k:Nat=>gi (bV Y k) a=gi (bV Y k) b:=funext fun k=>propext (by
  rw [<-ex,<-ey];exact(h.bg hX hY hN ki (by omega) (by omega) (by omega) (by omega)).symm)
 rwa [e]at hl
theorem iz.JI(h:iz N X Y φ)(hX:aZ X)(hY:aZ Y)(hN:N=(gl X 0).length)(ki:N=(gl Y 0).length)(hg:ns X):ns Y:=by
 have h1:=(Gc hX).1 hg;exact(Gc hY).2 ⟨by rw [h.len,h.off hX hY hN ki];exact h1.1,h.pth hX hY hN ki h1.2⟩
end
theorem R4{N:Nat}{ps qs:ah}(hs:Sys N ps)(hq:Sys N qs)(h:∀x y:Int,Reach ps x y↔Reach qs x y):∀i:Nat,i<=N->bg N ps i=bg N qs i
 | 0,_=>rfl
 | i+1,hi=>by
  have ih:=R4 hs hq h i (by omega)
  by_cases h1:0<=gi (bg N ps i).1 i
  ·rw [wA h1,wA (by rw [<-ih];exact h1),ih]
  ·have h2:¬0<=gi (bg N qs i).1 i:=by rw [<-ih];exact h1
   rw [vk h1,vk h2,ih];have o1:=sD hs (pt:=(i:Int)) (by omega) (by omega);have o2:=sD hq (pt:=(i:Int)) (by omega) (by omega);refine Prod.ext ?_ O;show oC _ _ _=oC _ _ _;have hl:=nU N qs i;apply jo (by rw [EG,EG]);intro k h3 h4;have g1:=uX (N:=N) (b8 N ps i) (bg N qs i).1 (bg N qs i).2 hl o1.1.range (k:Int) (by omega);have g2:=uX (N:=N) (b8 N qs i) (bg N qs i).1 (bg N qs i).2 hl o2.1.range (k:Int) (by omega);rw [bO h3]at g1;rw [bO h4]at g2;rw [g1,g2];have hm:(k:Int)∈b8 N ps i↔(k:Int)∈b8 N qs i:=by rw [o1.2.2,o2.2.2,h]
   by_cases hk:(k:Int)∈b8 N ps i
   ·rw [ay hk,ay (hm.1 hk)]
   ·rw [aw hk,aw fun q=>hk (hm.2 q)]
theorem Reach.sub{ps qs:ah}(h:∀p∈ps,p∈qs){x y:Int}(hr:Reach ps x y):Reach qs x y:=by
 induction hr with
 | refl=>exact .refl
 | step _ hp ih=>exact .step ih (h _ hp)
section
variable{i b:Nat}
variable {M:ah}
theorem HR(hi:i<M.length):gl M.reverse i=gl M ((M.length - 1 - i:Nat):Int):=by
 rw [bP (by rw [List.length_reverse];exact hi),bP (by omega),List.getElem_reverse]
theorem afQ(hi:i<M.length):gl M.reverse ((M.length - 1 - i:Nat):Int)=gl M i:=by
 rw [HR (by omega)]
 congr 2
 omega
theorem tw(hM:aZ M):(gl M.reverse 0).length=(gl M 0).length:=by
 have h1:=hM.1;have:=HR (M:=M) (i:=0) (by omega);rw [show((0:Nat):Int)=0 from rfl]at this;rw [this];exact(hM.2.2.1.at_ (by omega)).1
theorem Mb(hM:aZ M)(hi:i<M.length){p:ai}:p∈M.reverse.eraseIdx (M.length - 1 - i)↔p∈M.eraseIdx i:=by
 rw [List.mem_eraseIdx_iff_getElem,List.mem_eraseIdx_iff_getElem];constructor
 ·rintro⟨k,hk,bt,e⟩;rw [List.length_reverse]at hk;exact⟨M.length - 1 - k,by omega,by omega,by rw [<-e,List.getElem_reverse]⟩
 rintro⟨k,hk,bt,e⟩;refine⟨M.length - 1 - k,by rw [List.length_reverse];omega,by omega,?_⟩;rw [List.getElem_reverse];simp only [show M.length - 1 - (M.length - 1 - k)=k by omega];exact e
theorem yh(hM:aZ M):aZ M.reverse:=by
 have h0:=tw hM;have h1:=hM.1;refine⟨by rw [List.length_reverse];exact hM.1,by rw [h0];exact hM.2.1,fun p hp=>?_,fun i hi k hk mr f hf=>?_,?_⟩
 ·rw [h0];exact hM.2.2.1 p (List.mem_reverse.1 hp)
 ·rw [List.length_reverse]at hi hk;rw [h0]at hf;have h:=hM.2.2.2.1 (M.length - 1 - k) (by omega) (M.length - 1 - i) (by omega) (by omega) f hf;unfold Comm at h|-;rw [HR hi,HR hk];exact⟨h.1.symm,fun e=>h.2 e.symm⟩
 have hs:Sys (gl M 0).length M.reverse:=fun p hp=>hM.2.2.1.sys p (List.mem_reverse.1 hp)
 have hN:=hM.2.1;rw [h0];refine(vo hs (by omega)).2 fun x qn gI=>?_
 exact((vo hM.2.2.1.sys (by omega)).1 hM.2.2.2.2 x qn gI).sub fun p hp=>List.mem_reverse.2 hp
theorem Tq(hM:aZ M)(hi:i<M.length):bg (gl M.reverse 0).length (M.reverse.eraseIdx (M.length - 1 - i)) (gl M.reverse 0).length=bg (gl M 0).length (M.eraseIdx i) (gl M 0).length:=by
 rw [tw hM];have hs:Sys (gl M 0).length (M.reverse.eraseIdx (M.length - 1 - i)):=fun p hp=>hM.2.2.1.sys.erase i p ((Mb hM hi).1 hp)
 exact R4 hs (hM.2.2.1.sys.erase i) (fun x y=> ⟨fun h=>h.sub fun p hp=> (Mb hM hi).1 hp,fun h=>h.sub fun p hp=> (Mb hM hi).2 hp⟩) _ (bj _)
theorem HP(hM:aZ M)(hi:i<M.length):bV M.reverse (M.length - 1 - i)=bV M i:=by
 unfold bV;rw [Tq hM hi]
theorem afN(hM:aZ M)(hi:i<M.length):fA M.reverse (M.length - 1 - i)=fA M i:=by
 unfold fA;rw [Tq hM hi]
theorem Tr(hM:aZ M):∀j:Nat,j<=M.length->aF M.reverse j+aF M (M.length - j)=aF M M.length
 | 0,_=>by show 0+_=_;rw [Nat.zero_add];rfl
 | j+1,h=>by
  have ih:=Tr hM j (by omega);have e:=afN hM (i:=M.length - 1 - j) (by omega);rw [show M.length - 1 - (M.length - 1 - j)=j by omega]at e;have e1:aF M.reverse (j+1)=aF M.reverse j+ (fA M.reverse j).toNat:=O;have e2:aF M (M.length - 1 - j+1)=aF M (M.length - 1 - j)+ (fA M (M.length - 1 - j)).toNat:=O;rw [show M.length - 1 - j+1=M.length - j by omega]at e2;rw [show M.length - (j+1)=M.length - 1 - j by omega,e1,e];omega
theorem zO(hM:aZ M):aF M.reverse M.length=aF M M.length:=by
 have:=Tr hM M.length (bj _);rw [Nat.sub_self]at this;exact this
theorem nu.rev{S S':Nat->Prop}(hS:∀k,k<M.length->(S' (M.length - 1 - k)->S k)){a:Nat}(h:nu M S a b):nu M.reverse S' a b:=by
 induction h with
 | refl=>exact .refl
 | step _ hi hs e ih=>exact .step ih (i:=M.length - 1 - _) (by rw [List.length_reverse];omega) (fun h=>hs (hS _ hi h)) (by rw [afQ hi];exact e)
theorem afP(hM:aZ M)(h:oP M):oP M.reverse:=fun a b ha hb=>by
 rw [tw hM]at ha hb;refine(h a b ha hb).rev fun k hk e=>?_
 rw [HP hM hk]at e;exact e
theorem afO(hM:aZ M)(h:ns M):ns M.reverse:=by
 have yO:=yh hM;have h1:=(Gc hM).1 h;exact(Gc yO).2 ⟨by rw [List.length_reverse,zO hM];exact h1.1,afP hM h1.2⟩
end
section
variable {n:Nat} {R R':ai} {B B':ah} {δ l7:Int->Int}
end
structure zX(m:Nat)(n:Int)(rk HS:Int->Int)(fP H7:Int->Int->Prop)(δ l7:Int->Int):Prop where
 to:∀a:Int,0<=a->a<m->0<=δ a/\δ a<m
 Du:∀a:Int,0<=a->a<m->0<=l7 a/\l7 a<m
 l:∀a:Int,0<=a->a<m->l7 (δ a)=a
 r:∀a:Int,0<=a->a<m->δ (l7 a)=a
 rk:∀a:Int,0<=a->a<m->HS (δ a)=n - 1 - rk a
 Fw:∀a b:Int,0<=a->a<m->0<=b->b<m->(H7 (δ b) (δ a)↔fP a b)
section
variable {m m1 m2:Nat} {n n1 n2:Int} {rk HS rk1 rk2 rk1' rk2':Int->Int} {fP H7 b9 b6 und1' und2':Int->Int->Prop} {δ l7 δ1 δ2 δ1' δ2':Int->Int}
end
section
variable {m1 m2:Nat} {rk1 rk2:Int->Int} {kind:Int}
def cE(m:Nat)(k:Int->Nat)(ok:Int->Bool)(t:Nat):Nat:=((bN m).filter fun a=>decide (k a=t) && ok a).length
end
end
section
open Go.RowKit
end
section
section
variable{i j:Nat}
variable {M:ah}
def r7(M:ah)(a:Int):Int:=if a=0 then(aF M M.length:Int)+1 else if a=(aF M M.length:Int)+1 then 0 else(aF M.reverse (M.length - 1 - (gi (bo M M.length) (a - 1)).toNat):Int)+ (a - 1 - (aF M (gi (bo M M.length) (a - 1)).toNat:Int))+1
theorem xk(hM:aZ M){f:Nat}(hi:i<M.length)(hf:f< (gl M 0).length):r7 M (bh M i f+1)=bh M.reverse (M.length - 1 - i) f+1:=by
 have h:=kg hM hi hf;unfold r7;rw [aw (by omega),aw (by omega),Int.add_sub_cancel,h.2,gG];unfold bh;rw [HP hM hi];omega
theorem F7(hM:aZ M){f g:Nat}(hi:i<M.length)(hj:j<M.length)(hf:f< (gl M 0).length)(hg:g< (gl M 0).length):bh M j g=bh M i f↔j=i/\gi (bV M i) g=gi (bV M i) f:=by
 constructor
 ·intro e;have h1:=(kg hM hi hf).2;have h2:=(kg hM hj hg).2;rw [e,h1]at h2;obtain rfl:j=i:=by omega
  exact⟨O,pX.1 e⟩
 rintro⟨rfl,e⟩;exact pX.2 e
theorem XS(hM:aZ M){f g:Nat}(hi:i<M.length)(hj:j<M.length)(hf:f< (gl M 0).length)(hg:g< (gl M 0).length):bh M j g∈gl (bD M) (bh M i f)↔j<i/\∃h:Nat,h< (gl M 0).length/\gi (bV M i) h=gi (bV M i) f/\gi (bV M j) h=gi (bV M j) g:=by
 have h1:=kg hM hi hf;have h2:=kg hM hj hg;rw [mQ h1.1.1 h1.1.2];constructor
 ·rintro⟨_,h,hh,i',bX,k,hk,e1,e2⟩;obtain⟨rfl,e3⟩:=(F7 hM hi bX hf hh).1 e1.symm;obtain⟨rfl,e4⟩:=(F7 hM hj (by omega) hg hh).1 e2.symm;exact⟨hk,h,hh,e3,e4⟩
 rintro⟨rn,h,hh,e1,e2⟩;exact⟨h2.1,h,hh,i,hi,j,rn,(pX.2 e1).symm,(pX.2 e2).symm⟩
theorem H8(hM:aZ M){f g:Nat}(hi:i<M.length)(hj:j<M.length)(hf:f< (gl M 0).length)(hg:g< (gl M 0).length):dC (aF M M.length) (bD M) (bh M j g+1) (bh M i f+1)↔(j=i/\gi (bV M i) g=gi (bV M i) f)\/(j<i/\∃h:Nat,h< (gl M 0).length/\gi (bV M i) h=gi (bV M i) f/\gi (bV M j) h=gi (bV M j) g):=by
 rw [<-F7 hM hi hj hf hg,<-XS hM hi hj hf hg];have h1:=kg hM hi hf;have h2:=kg hM hj hg;unfold dC;rw [Int.add_sub_cancel,Int.add_sub_cancel];constructor
 ·rintro(e | e | e | ⟨_,_,_,_,h⟩)
  ·exact .inl (by omega)
  ·omega
  ·omega
  exact .inr h
 rintro(e | h)
 ·exact .inl (by omega)
 exact .inr (.inr (.inr ⟨by omega,by omega,by omega,by omega,h⟩))
theorem HQ(hM:aZ M){f:Nat}(hi:i<M.length)(hf:f< (gl M 0).length):(0<=bh M.reverse (M.length - 1 - i) f/\bh M.reverse (M.length - 1 - i) f< (aF M M.length:Int))/\gi (bo M.reverse M.length) (bh M.reverse (M.length - 1 - i) f)=((M.length - 1 - i:Nat):Int):=by
 have h:=kg (yh hM) (i:=M.length - 1 - i) (f:=f) (by rw [List.length_reverse];omega) (by rw [tw hM];exact hf);rw [List.length_reverse,zO hM]at h;exact h
theorem qO(hM:aZ M){a:Int}(h0:0<=a)(h9:a< ((aF M M.length+2:Nat):Int)):a=0\/a=(aF M M.length:Int)+1\/∃i:Nat,i<M.length/\∃f:Nat,f< (gl M 0).length/\a=bh M i f+1:=by
 by_cases e0:a=0
 ·exact .inl e0
 by_cases e9:a=(aF M M.length:Int)+1
 ·exact .inr (.inl e9)
 obtain⟨i,hi,f,hf,e⟩:=OT hM (e:=a - 1) (by omega) (by omega);exact .inr (.inr ⟨i,hi,f,hf,by omega⟩)
theorem yG(M:ah):r7 M 0=(aF M M.length:Int)+1:=rfl
theorem yH(M:ah):r7 M ((aF M M.length:Int)+1)=0:=by
 unfold r7;rw [aw (by omega),ay rfl]
theorem Ou(hM:aZ M){a:Int}(h0:0<=a)(h1:a< ((aF M M.length+2:Nat):Int)):r7 M.reverse (r7 M a)=a:=by
 have ho:aF M.reverse M.reverse.length=aF M M.length:=by rw [List.length_reverse,zO hM]
 rcases qO hM h0 h1 with rfl | rfl | ⟨i,hi,f,hf,rfl⟩
 ·rw [yG,<-ho,yH]
 ·rw [yH,yG,ho]
 rw [xk hM hi hf];have:=xk (yh hM) (i:=M.length - 1 - i) (f:=f) (by rw [List.length_reverse];omega) (by rw [tw hM];exact hf);rw [this,List.reverse_reverse,List.length_reverse,show M.length - 1 - (M.length - 1 - i)=i by omega]
theorem Ot(hM:aZ M){a:Int}(h0:0<=a)(h1:a< ((aF M M.length+2:Nat):Int)):0<=r7 M a/\r7 M a< ((aF M M.length+2:Nat):Int):=by
 rcases qO hM h0 h1 with rfl | rfl | ⟨i,hi,f,hf,rfl⟩
 ·rw [yG];omega
 ·rw [yH];omega
 rw [xk hM hi hf];have:=(HQ hM hi hf).1;omega
theorem afM(hM:aZ M):zX (aF M M.length+2) M.length (gi (fD M.length (bo M M.length))) (gi (fD M.length (bo M.reverse M.length))) (dC (aF M M.length) (bD M)) (dC (aF M M.length) (bD M.reverse)) (r7 M) (r7 M.reverse):=by
 have yO:=yh hM;have ho:aF M.reverse M.length=aF M M.length:=zO hM;have hl:=jg M M.length;have qj:=jg M.reverse M.length;have r0:gi (fD M.length (bo M M.length)) 0= -1:=O;have r9:gi (fD M.length (bo M M.length)) ((aF M M.length:Int)+1)=M.length:=by rw [<-hl];exact xj _ _
 have r0':gi (fD M.length (bo M.reverse M.length)) 0= -1:=O;have r9':gi (fD M.length (bo M.reverse M.length)) ((aF M M.length:Int)+1)=M.length:=by rw [<-ho,<-qj];exact xj _ _
 have rm:∀(i f:Nat),i<M.length->f< (gl M 0).length->gi (fD M.length (bo M M.length)) (bh M i f+1)=i:=fun i f hi hf=>by
  have h:=kg hM hi hf;rw [tT _ _ (by omega) (by omega),Int.add_sub_cancel];exact h.2
 have rm':∀(i f:Nat),i<M.length->f< (gl M 0).length->gi (fD M.length (bo M.reverse M.length)) (bh M.reverse (M.length - 1 - i) f+1)=((M.length - 1 - i:Nat):Int):=fun i f hi hf=>by
  have h:=HQ hM hi hf;rw [tT _ _ (by omega) (by omega),Int.add_sub_cancel];exact h.2
 refine⟨fun a h0 h1=>Ot hM h0 h1,fun a h0 h1=>?_,fun a h0 h1=>Ou hM h0 h1,fun a h0 h1=>?_,fun a h0 h1=>?_,fun a b h0 h1 h2 h3=>?_⟩
 ·have h:=Ot yO (a:=a) h0 (by rw [List.length_reverse,ho];exact h1);rw [List.length_reverse,ho]at h;exact h
 ·have h:=Ou yO (a:=a) h0 (by rw [List.length_reverse,ho];exact h1);rw [List.reverse_reverse]at h;exact h
 ·rcases qO hM h0 h1 with rfl | rfl | ⟨i,hi,f,hf,rfl⟩
  ·rw [yG,r9',r0];omega
  ·rw [yH,r0',r9];omega
  rw [xk hM hi hf,rm' i f hi hf,rm i f hi hf];omega
 rcases qO hM h0 h1 with rfl | rfl | ⟨i,hi,f,hf,rfl⟩
 ·rw [yG];exact⟨fun _=> .inr (.inl O),fun _=> .inr (.inr (.inl O))⟩
 ·rw [yH];rcases qO hM h2 h3 with rfl | rfl | ⟨j,hj,g,hg,rfl⟩
  ·rw [yG];unfold dC;omega
  ·rw [yH];exact⟨fun _=> .inl O,fun _=> .inl O⟩
  rw [xk hM hj hg];have q1:=(HQ hM hj hg).1;have q2:=(kg hM hj hg).1;unfold dC;omega
 rcases qO hM h2 h3 with rfl | rfl | ⟨j,hj,g,hg,rfl⟩
 ·rw [xk hM hi hf,yG];have q1:=(HQ hM hi hf).1;have q2:=(kg hM hi hf).1;unfold dC;omega
 ·rw [yH];exact⟨fun _=> .inr (.inr (.inl O)),fun _=> .inr (.inl O)⟩
 rw [xk hM hi hf,xk hM hj hg,H8 hM hj hi hg hf];have h:=H8 yO (i:=M.length - 1 - i) (j:=M.length - 1 - j) (f:=f) (g:=g) (by rw [List.length_reverse];omega) (by rw [List.length_reverse];omega) (by rw [tw hM];exact hf) (by rw [tw hM];exact hg);rw [List.length_reverse,ho,HP hM hi,HP hM hj,tw hM]at h;rw [h];constructor
 ·rintro(⟨e1,e2⟩ | ⟨e1,x,hx,e2,e3⟩)
  ·obtain rfl:j=i:=by omega
   exact .inl ⟨O,e2.symm⟩
  exact .inr ⟨by omega,x,hx,e3,e2⟩
 rintro(⟨e1,e2⟩ | ⟨e1,x,hx,e2,e3⟩)
 ·subst e1;exact .inl ⟨O,e2.symm⟩
 exact .inr ⟨by omega,x,hx,e3,e2⟩
end
structure MR(m:Nat)(rk HS:Int->Int)(fP H7:Int->Int->Prop)(δ l7:Int->Int):Prop where
 to:∀a:Int,0<=a->a<m->0<=δ a/\δ a<m
 Du:∀a:Int,0<=a->a<m->0<=l7 a/\l7 a<m
 l:∀a:Int,0<=a->a<m->l7 (δ a)=a
 r:∀a:Int,0<=a->a<m->δ (l7 a)=a
 rk:∀a:Int,0<=a->a<m->HS (δ a)=rk a
 Fw:∀a b:Int,0<=a->a<m->0<=b->b<m->(H7 (δ a) (δ b)↔fP a b)
theorem zX.iso{m:Nat}{n:Int}{rk rk1 rk2:Int->Int}{fP b9 b6:Int->Int->Prop}{δ l7 η E7:Int->Int}(h:zX m n rk rk1 fP b9 δ l7)(h2:MR m rk1 rk2 b9 b6 η E7):zX m n rk rk2 fP b6 (fun a=>η (δ a)) (fun a=>l7 (E7 a)) where
 to:=fun a h0 h1=>by have:=h.to a h0 h1;exact h2.to _ this.1 this.2
 Du:=fun a h0 h1=>by have:=h2.Du a h0 h1;exact h.Du _ this.1 this.2
 l:=fun a h0 h1=>by have:=h.to a h0 h1;show l7 (E7 (η (δ a)))=a;rw [h2.l _ this.1 this.2,h.l a h0 h1]
 r:=fun a h0 h1=>by have:=h2.Du a h0 h1;show η (δ (l7 (E7 a)))=a;rw [h.r _ this.1 this.2,h2.r a h0 h1]
 rk:=fun a h0 h1=>by have:=h.to a h0 h1;rw [h2.rk _ this.1 this.2,h.rk a h0 h1]
 Fw:=fun a b a0 a1 b0 b1=>by
  have ha:=h.to a a0 a1;have hb:=h.to b b0 b1;rw [h2.Fw _ _ hb.1 hb.2 ha.1 ha.2,h.Fw a b a0 a1 b0 b1]
section
variable {N:Nat} {X Y:ah} {φ:Int->Int}
theorem Tt(hX:aZ X){i f:Nat}(hi:i<X.length)(hf:f< (gl X 0).length):mC X (bh X i f+1)=i:=by
 have h:=kg hX hi hf;have hl:=jg X X.length;show gi (fD X.length (bo X X.length)) _=_;rw [tT _ _ (by omega) (by omega),Int.add_sub_cancel];exact h.2
theorem Tu(X:ah):mC X ((aF X X.length:Int)+1)=X.length:=by
 have hl:=jg X X.length;show gi (fD X.length (bo X X.length)) _=_;rw [<-hl];exact xj _ _
theorem iz.Xw(h:iz N X Y φ)(hX:aZ X)(hY:aZ Y)(hN:N=(gl X 0).length)(ki:N=(gl Y 0).length):∃δ l7:Int->Int,MR (aF X X.length+2) (mC X) (mC Y) (pQ X) (pQ Y) δ l7:=by
 have ho:aF Y Y.length=aF X X.length:=by rw [h.len];exact h.off hX hY hN ki _
 have key:∀ {X Y:ah} {φ:Int->Int},iz N X Y φ->aZ X->aZ Y->N=(gl X 0).length->N=(gl Y 0).length->aF Y Y.length=aF X X.length->
  ∃δ:Int->Int,(δ 0=0/\δ ((aF X X.length:Int)+1)=(aF X X.length:Int)+1)/\∀i f:Nat,i<X.length->f<N->δ (bh X i f+1)=bh Y i (φ (f:Int)).toNat+1:=by
  intro X Y φ h hX hY hN ki ho;have hex:∀a:Int,∃b:Int,(a=0->b=0)/\(a=(aF X X.length:Int)+1->b=(aF X X.length:Int)+1)/\∀i f:Nat,i<X.length->f<N->a=bh X i f+1->b=bh Y i (φ (f:Int)).toNat+1:=fun a=>by
   by_cases hm:∃i f:Nat,i<X.length/\f<N/\a=bh X i f+1
   ·obtain⟨i,f,hi,hf,rfl⟩:=hm;have hr:=(kg hX hi (show f< (gl X 0).length by omega)).1;refine⟨bh Y i (φ (f:Int)).toNat+1,fun e=>by omega,fun e=>by omega,fun j g hj hg e=>?_⟩;obtain⟨rfl,e2⟩:=(F7 hX hi hj (show f< (gl X 0).length by omega) (show g< (gl X 0).length by omega)).1 (show bh X j g=bh X i f by omega);have r1:=h.cj (f:Int) (by omega) (by omega);have r2:=h.cj (g:Int) (by omega) (by omega);have:=(h.bg hX hY hN ki (k:=j) (f:=(g:Int)) (g:=(f:Int)) (by omega) (by omega) (by omega) (by omega)).2 e2;have e3:bh Y j (φ (g:Int)).toNat=bh Y j (φ (f:Int)).toNat:=pX.2 (by rw [Int.toNat_of_nonneg r1.1,Int.toNat_of_nonneg r2.1];exact this);rw [e3]
   by_cases h0:a=0
   ·exact⟨0,fun _=>O,fun e=>by omega,fun i f hi hf e=>absurd ⟨i,f,hi,hf,e⟩ hm⟩
   exact⟨(aF X X.length:Int)+1,fun e=>absurd e h0,fun _=>O,fun i f hi hf e=>absurd ⟨i,f,hi,hf,e⟩ hm⟩
  obtain⟨δ,Lp⟩:=Classical.axiomOfChoice hex;exact⟨δ,⟨(Lp 0).1 O,(Lp _).2.1 O⟩,fun i f hi hf=> (Lp _).2.2 i f hi hf O⟩
 have hs:Sys N X:=by rw [hN];exact hX.2.2.1.sys
 obtain⟨ψ,hi,hl,hr⟩:=h.inv hs;obtain⟨δ,⟨d0,d9⟩,dm⟩:=key h hX hY hN ki ho;obtain⟨l7,⟨e0,e9⟩,em⟩:=key hi hY hX ki hN ho.symm;rw [ho]at e9;have hlen:=h.len;have fl:∀f:Nat,f<N->(φ (f:Int)).toNat<N/\((φ (f:Int)).toNat:Int)=φ (f:Int)/\(ψ ((φ (f:Int)).toNat:Int)).toNat=f:=fun f hf=>by
  have h1:=h.cj (f:Int) (by omega) (by omega);have h2:((φ (f:Int)).toNat:Int)=φ (f:Int):=Int.toNat_of_nonneg h1.1;exact⟨by omega,h2,by rw [h2,hl _ (by omega) (by omega)];rfl⟩
 have fr:∀f:Nat,f<N->(ψ (f:Int)).toNat<N/\(φ ((ψ (f:Int)).toNat:Int)).toNat=f:=fun f hf=>by
  have h1:=hi.cj (f:Int) (by omega) (by omega);have h2:((ψ (f:Int)).toNat:Int)=ψ (f:Int):=Int.toNat_of_nonneg h1.1;exact⟨by omega,by rw [h2,hr _ (by omega) (by omega)];rfl⟩
 refine⟨δ,l7,fun a h0 h1=>?_,fun a h0 h1=>?_,fun a h0 h1=>?_,fun a h0 h1=>?_,fun a h0 h1=>?_,fun a b a0 a1 b0 b1=>?_⟩
 ·rcases qO hX h0 h1 with rfl | rfl | ⟨i,bX,f,hf,rfl⟩
  ·rw [d0];omega
  ·rw [d9];omega
  rw [dm i f bX (by omega)];have:=(kg hY (i:=i) (f:=(φ (f:Int)).toNat) (by omega) (by have:=(fl f (by omega)).1;omega)).1;omega
 ·rcases qO hY h0 (by rw [ho];exact h1)with rfl | rfl | ⟨i,bX,f,hf,rfl⟩
  ·rw [e0];omega
  ·rw [ho,e9];omega
  rw [em i f bX (by omega)];have:=(kg hX (i:=i) (f:=(ψ (f:Int)).toNat) (by omega) (by have:=(fr f (by omega)).1;omega)).1;omega
 ·rcases qO hX h0 h1 with rfl | rfl | ⟨i,bX,f,hf,rfl⟩
  ·rw [d0,e0]
  ·rw [d9,e9]
  have q:=fl f (by omega);rw [dm i f bX (by omega),em i _ (by omega) q.1,q.2.2]
 ·rcases qO hY h0 (by rw [ho];exact h1)with rfl | rfl | ⟨i,bX,f,hf,rfl⟩
  ·rw [e0,d0]
  ·rw [ho,e9,d9]
  have q:=fr f (by omega);rw [em i f bX (by omega),dm i _ (by omega) q.1,q.2]
 ·rcases qO hX h0 h1 with rfl | rfl | ⟨i,bX,f,hf,rfl⟩
  ·rw [d0];rfl
  ·rw [d9,Tu X,<-ho,Tu Y,hlen]
  rw [dm i f bX (by omega),Tt hX bX hf,Tt hY (by omega) (by have:=(fl f (by omega)).1;omega)]
 rcases qO hX a0 a1 with rfl | rfl | ⟨i,bX,f,hf,rfl⟩
 ·rw [d0];exact⟨fun _=> .inr (.inl O),fun _=> .inr (.inl O)⟩
 ·rw [d9];rcases qO hX b0 b1 with rfl | rfl | ⟨j,hj,g,hg,rfl⟩
  ·rw [d0];unfold pQ dC;omega
  ·rw [d9];exact⟨fun _=> .inl O,fun _=> .inl O⟩
  rw [dm j g hj (by omega)];have q1:=(kg hX hj hg).1;have q2:=(kg hY (i:=j) (f:=(φ (g:Int)).toNat) (by omega) (by have:=(fl g (by omega)).1;omega)).1;unfold pQ dC;omega
 rcases qO hX b0 b1 with rfl | rfl | ⟨j,hj,g,hg,rfl⟩
 ·rw [dm i f bX (by omega),d0];have q1:=(kg hX bX hf).1;have q2:=(kg hY (i:=i) (f:=(φ (f:Int)).toNat) (by omega) (by have:=(fl f (by omega)).1;omega)).1;unfold pQ dC;omega
 ·rw [d9];exact⟨fun _=> .inr (.inr (.inl O)),fun _=> .inr (.inr (.inl (by rw [ho])))⟩
 rw [dm i f bX (by omega),dm j g hj (by omega)];have qf:=fl f (by omega);have qg:=fl g (by omega);have u1:=H8 hX hj bX hg hf;have u2:=H8 hY (i:=j) (j:=i) (f:=(φ (g:Int)).toNat) (g:=(φ (f:Int)).toNat) (by omega) (by omega) (by omega) (by omega);show dC (aF Y Y.length) (bD Y) _ _↔dC (aF X X.length) (bD X) _ _;rw [u1,u2,qf.2.1,qg.2.1,h.bg hX hY hN ki (by omega) (by omega) (by omega) (by omega)];refine or_congr Iff.rfl (and_congr Iff.rfl ?_);constructor
 ·rintro⟨x,hx,e1,e2⟩;have q:=fr x (by omega);have q2:φ ((ψ (x:Int)).toNat:Int)=(x:Int):=by
   have:=h.cj ((ψ (x:Int)).toNat:Int) (by omega) (by omega);omega
  rw [<-q2]at e1 e2;exact⟨(ψ (x:Int)).toNat,by omega,(h.bg hX hY hN ki (by omega) (by omega) (by omega) (by omega)).1 e1,(h.bg hX hY hN ki (by omega) (by omega) (by omega) (by omega)).1 e2⟩
 rintro⟨x,hx,e1,e2⟩;have q:=fl x (by omega);exact⟨(φ (x:Int)).toNat,by omega,by rw [q.2.1];exact(h.bg hX hY hN ki (by omega) (by omega) (by omega) (by omega)).2 e1,by rw [q.2.1];exact(h.bg hX hY hN ki (by omega) (by omega) (by omega) (by omega)).2 e2⟩
end
structure MN(M D:ah):Prop where
 m:aZ M
 d:aZ D
 len:D.length=M.length
 off:aF D D.length=aF M M.length
 num:(gl D 0).length=(gl M 0).length
 gd:jL M=0->jL D=0
 ant:∃δ l7:Int->Int,zX (aF M M.length+2) M.length (mC M) (mC D) (pQ M) (pQ D) δ l7
theorem Xk{M D:ah}{φ:Int->Int}(hM:aZ M)(hD:aZ D)(hN:(gl M 0).length=(gl D 0).length)(h:iz (gl M 0).length M.reverse D φ):MN M D:=by
 have hR:=yh hM;have Bu:=tw hM;have ho:=h.off hR hD Bu.symm hN;have hl:D.length=M.length:=by rw [h.len,List.length_reverse]
 obtain⟨η,E7,RF⟩:=h.Xw hR hD Bu.symm hN;rw [List.length_reverse,zO hM]at RF;have hA:=afM hM;have vP:zX (aF M M.length+2) M.length (mC M) (mC M.reverse) (pQ M) (pQ M.reverse) (r7 M) (r7 M.reverse):=by
  unfold mC pQ;rw [List.length_reverse,zO hM];exact hA
 refine⟨hM,hD,hl,by rw [hl,ho,zO hM],hN.symm,fun hg=>Ga hD (h.JI hR hD Bu.symm hN (afO hM (qQ hg).2)),_,_,vP.iso RF⟩
theorem N4{M:ah}(hM:aZ M):MN M (dV (gl M 0).length M.reverse 0):=by
 have hR:=yh hM;have Bu:=tw hM;have hN:=hM.2.1;have hi:=OO hR Bu.symm (f:=0) (Int.le_refl _) (by omega);have nO:(gl M 0).length=(gl (dV (gl M 0).length M.reverse 0) 0).length:=(hi.1.CC.row (i:=0) (by have:=hM.1;rw [List.length_reverse];omega)).symm;exact Xk hM hi.2 nO (Bh hR Bu.symm (Int.le_refl _) (by omega))
section
variable {M D K L:ah} {kind:Int}
end
end
section
open Go.RowKit
variable{ks:List Ck}{k k':Ck}
theorem agj{i:Nat}(h:ks[i]?=some k):ks.set i k=ks:=by
 apply List.ext_getElem?;intro j;rw [mG]
 split
 ·rename_i e;subst e;have hl:=(gS.1 h).1;rw [ay hl,h]
 rfl
theorem agi{i:Nat}(h:ks[i]?=some k):(ks.set i k')[i]?=some k':=by
 have hl:=(gS.1 h).1;rw [mG,ay rfl,ay hl]
def Jf(w0:aa)(As:aj)(k:Ck):Prop:=∃(Ac:aj) (nc cc:Nat) (a h:Int) (bs:ai),k=Bx 83 3 As [.slice Ac nc cc,ak a,.int .u64 h]/\(0<=a/\a<=nc)/\nc<=1000000/\tM w0 Ac nc bs
theorem NZ{w0 w:aa}(i:Nat){As:aj}(n:Int)(hS:St w0 w ks)(hk:ks[i]?=some k)(hK:Jf w0 As k):
 aG prog 29 [.pointer As,ak n] w (fun v w'=>∃(r:Int) (k':Ck),v=ak r/\(0<=r/\(1<=n->r<n)/\(n<1->r=0))/\Jf w0 As k'/\St w0 w' (ks.set i k')):=by
 have Za:=hK;obtain⟨Ac,nc,cc,a,h,bs,rfl,ha,mZ,hY⟩:=hK;refine bA func29 O ntmps29 O (cJ O) (bL O ?_);refine aR _ O (fun h1=>?_) (fun h1=>?_)
 ·refine eT O (gY O ?_);exact⟨0,_,O,⟨Int.le_refl _,fun h=>by omega,fun _=>O⟩,Za,by rw [agj hk];exact hS⟩
 refine aE O (lq (hS.rd i hk) (Nat.succ_pos 2) O O (aX (hS.rd i hk) O (iG (k:= .u64) (hS.rd i hk) O O O O O ?_)));refine Iv O O O fun r1 ng=>?_
 refine Fi O O O fun r2 pF=>?_
 refine lq (hS.rd i hk) (Nat.succ_pos 2) O O (aX (hS.rd i hk) O (kf i hS hk O O O O ?_));intro w1 aA;have fK:=agi (k':=(⟨As,3,3,83,[.slice Ac nc cc,ak a,.int .u64 r2]⟩:Ck)) hk;have aA:St w0 w1 (ks.set i (Bx 83 3 As [.slice Ac nc cc,ak a,.int .u64 r2])):=aA;refine ar O (lq (aA.rd i fK) (Nat.succ_pos 2) O O (aX (aA.rd i fK) O (iG (k:= .u64) (aA.rd i fK) O O O O O ?_)));refine Vp O O O fun r3=>?_
 refine UY O O O fun r4 KZ=>?_
 refine oN O O (IntWalk.i64_in _ (by omega)) (aI O ?_);refine eY [xP (As),xP (As),xP (aJ (As) 1),xI (a),xP (As),xP (As),xP (aJ (As) 0),xS (Ac) (nc) (cc),xI (((nc:Nat):Int)),xB (decide ((a)< (((nc:Nat):Int))))] O (fE O) ?_ ?_
 ·exact⟨Dr O,fun _ _ hb _ _=>lq ((aA.rd i fK).below hb) (Nat.succ_pos _) O O Az,fun _ _ hb _ _=>aX ((aA.rd i fK).below hb) O Az,fun _ _ hb _ _=>iG ((aA.rd i fK).below hb) O O O O O Az,Dr O,fun _ _ hb _ _=>lq ((aA.rd i fK).below hb) (Nat.succ_pos _) O O Az,fun _ _ hb _ _=>aX ((aA.rd i fK).below hb) O Az,fun _ _ hb _ _=>bn ((aA.rd i fK).below hb) O Az,fun _ _ _ _ _=>bc O O Az,Dr O,av⟩
 intro u w2 dS _;have aB:=aA.aq dS;have DN:tM w2 Ac nc bs:=hY.below aB.below;refine fR O (aR _ O (fun h2=>?_) (fun h2=>?_))
 ·have YE:=hY.at_ ha.1 h2;refine dA O (eY [xI (r4),xP (As),xP (As),xP (aJ (As) 0),xS (Ac) (nc) (cc),xP (As),xP (As),xP (aJ (As) 1),xI (a),xP (aJ Ac a.toNat),.ex (.int .u8 (bs.getD a.toNat 0)),xI (bs.getD a.toNat 0),xI ((r4)+ (bs.getD a.toNat 0)),xI ((r4)+ (bs.getD a.toNat 0))] O (fE O) ?_ ?_)
  ·refine⟨fun _ _ _ _ a6=>Ae O (by exact a6 13 _ O (by kernel_rfl)) O Az,Dr O,fun _ _ hb _ _=>lq ((aB.rd i fK).below hb) (Nat.succ_pos _) O O Az,fun _ _ hb _ _=>aX ((aB.rd i fK).below hb) O Az,fun _ _ hb _ _=>bn ((aB.rd i fK).below hb) O Az,Dr O,fun _ _ hb _ _=>lq ((aB.rd i fK).below hb) (Nat.succ_pos _) O O Az,fun _ _ hb _ _=>aX ((aB.rd i fK).below hb) O Az,fun _ _ hb _ _=>iG ((aB.rd i fK).below hb) O O O O O Az,?_,?_,?_,fun _ _ _ _ _=>aK O Az,Dr O,av⟩
   ·intro e1 w1 hb hp a6;refine aM (DN.below hb).2.2 O Az
   ·intro e1 w1 hb hp a6;refine M0 (DN.below hb) O (by omega) O O Az
   intro e1 w1 hb hp a6;refine oN O O (IntWalk.i64_in _ (by omega)) Az
  intro u3 w3 iJ _;have aH:=aB.aq iJ;refine kc O (lq (aH.rd i fK) (Nat.succ_pos 2) O O (aX (aH.rd i fK) O (iG (aH.rd i fK) O O O O O (aK O (lq (aH.rd i fK) (Nat.succ_pos 2) O O (aX (aH.rd i fK) O (kf i aH fK O O O O ?_)))))));intro w4 aV;rw [List.set_set]at aV;refine ar O (ao.rem O O O (by omega) (bM O (gY O ?_)));exact⟨(r4+bs.getD a.toNat 0)%n,_,O,⟨Int.emod_nonneg _ (by omega),fun h=>Int.emod_lt_of_pos _ (by omega),fun h=>by omega⟩,⟨Ac,nc,cc,a+1,r2,bs,O,by omega,mZ,hY⟩,aV⟩
 refine aE O (ao.rem O O O (by omega) (bM O (gY O ?_)));exact⟨r4%n,_,O,⟨Int.emod_nonneg _ (by omega),fun h=>Int.emod_lt_of_pos _ (by omega),fun h=>by omega⟩,⟨Ac,nc,cc,a,r2,bs,O,ha,mZ,hY⟩,aB⟩
theorem afW(Ac:aj)(nc cc:Nat)(bs:ai)(agf:Int)(w:aa)(hY:tM w Ac nc bs)(mZ:nc<=1000000):
 aG prog 28 [.slice Ac nc cc,.int .u64 agf] w (fun v w'=>∃(As:aj) (k:Ck),v= .pointer As/\Jf w As k/\St w w' [k]):=by
 refine bA func28 O ntmps28 O (cJ O) (a8 O ?_);refine Iv O O O fun r0 _=>?_
 refine ar O (bc O O ?_);refine oN O O (vt _ (by omega)) (Fi O O O fun r1 _=>?_)
 refine U3 (by exact inferInstance) (by exact inferInstance) (by exact inferInstance) O O O O O O O O (U7 (St.refl w) O O ?_);intro As w2 hS;refine aI O (Cd.loop (α:=Nat×Int) (fun s=> [(0,.slice Ac nc cc),(5,.pointer As),(6,ak (s.1:Int))]) (fun s w'=>St w w' [Bx 83 3 As [.slice Ac nc cc,ak 0,.int .u64 s.2]]/\s.1<=nc) (fun s=>nc - s.1) (0,_) (ajs O) ⟨hS,a7 _⟩ ?_);rintro⟨i,h⟩ e w3 ⟨aA,hi⟩;dsimp only at aA hi|-;refine a8 O (bc O O (aI O ?_));refine aR _ O (fun h1=>?_) (fun h1=>?_)
 ·skip
  have YE:=hY.at_ (j:=(i:Int)) (by omega) (by omega);have vT:=hY.below aA.below;refine dA O ?_;refine kK [15] [yP (As),yP (As),yP (As),yP (aJ (As) 2),.ex (.int .u64 h),.pr (fun v _=>∃r:Int,v= .int .u64 r),yS (Ac) (nc) (cc),yI ((i:Int)),yP (aJ Ac (i:Int).toNat),.ex (.int .u8 (bs.getD (i:Int).toNat 0)),.ex (.int .u64 (bs.getD (i:Int).toNat 0)),.pr (fun v _=>∃r:Int,v= .int .u64 r),.pr (fun v _=>∃r:Int,v= .int .u64 r),yP (As),yP (aJ (As) 2),.pr (fun _ w'=>∃r:Int,St w w' [Bx 83 3 As [.slice Ac nc cc,ak 0,.int .u64 r]])] (by kernel_rfl) (by kernel_rfl) (ly (ly (ly (ly (ly (cI.2 ⟨Ye.cV (fun _ _ _ h _=>h),(ly (ly (ly (ly (ly (cI.2 ⟨Ye.cV (fun _ _ _ h _=>h),(cI.2 ⟨Ye.cV (fun _ _ _ h _=>h),(ly (ly (cI.2 ⟨Ye.cV (fun v w w' h hb=>by obtain⟨r,h⟩:=h;exact⟨r,h.aq hb⟩),(fun _ h=>by cases h)⟩)))⟩)⟩))))))⟩)))))) ?_ ?_
  ·refine⟨bZ O,bZ O,cP fun _ _ hb _ _ _=>lq ((aA.rd 0 O).below hb) (Nat.succ_pos _) O O (bK O O),cP fun _ _ hb _ _ _=>aX ((aA.rd 0 O).below hb) O (bK O O),?_,?_,bZ O,bZ O,?_,?_,?_,?_,?_,cP fun _ _ hb _ _ _=>lq ((aA.rd 0 O).below hb) (Nat.succ_pos _) O O (bK O O),cP fun _ _ hb _ _ _=>aX ((aA.rd 0 O).below hb) O (bK O O),?_,av⟩
   ·refine cP fun e1 w1 hb hp a6 hq=>?_
    refine iG (k:= .u64) ((aA.rd 0 O).below hb) O O O O O (ao.n (ig O (by exact O)))
   ·intro e1 w1 cc eB cC fq hp a6 hq;show ao _ _ _ _ _ _ _;refine Iv O O O fun r _=>?_
    exact ao.n (gA.dn O (Below.refl _ _) ⟨r,O⟩)
   ·refine cP fun e1 w1 hb hp a6 hq=>?_
    refine aM (vT.below hb).2.2 O (ao.n (ig O (by exact O)))
   ·refine cP fun e1 w1 hb hp a6 hq=>?_
    refine M0 (vT.below hb) O (by omega) O O (ao.n (ig O (by exact O)))
   ·intro e1 w1 cc eB cC fq hp a6 hq;show ao _ _ _ _ _ _ _;refine oN O O (vt _ (by omega)) (ao.n (ig O (by exact O)))
   ·refine cP fun e1 w1 hb hp a6 hq=>?_
    obtain⟨r,hr⟩:=(hp 5 _ _ (by kernel_rfl) rfl rfl (by kernel_rfl));refine Fi (by exact hr) O O fun r _=>?_
    exact ao.n (gA.dn O (Below.refl _ _) ⟨r,O⟩)
   ·refine cP fun e1 w1 hb hp a6 hq=>?_
    obtain⟨r,hr⟩:=(hp 11 _ _ (by kernel_rfl) rfl rfl (by kernel_rfl));refine Fi (by exact hr) O O fun r _=>?_
    exact ao.n (gA.dn O (Below.refl _ _) ⟨r,O⟩)
   refine kQ fun e1 w1 hb hp a6 hq=>?_
   obtain⟨r,hr⟩:=(hp 12 _ _ (by kernel_rfl) rfl rfl (by kernel_rfl));refine kf 0 (aA.aq hb) O O (by exact hr) O O ?_;intro w9 hT;exact ao.n (fQ.st O ⟨r,hT⟩)
  intro u w5 _ hu _ _;obtain⟨r,hT⟩:=hu 15 _ rfl (by kernel_rfl);refine kc O (aK O (aU O (tQ ?_)));exact⟨(i+1,r),by show nc - (i+1)<nc - i;omega,(ajs O),hT,by show i+1<=nc;omega⟩
 refine bw O (bz (gE O ?_));refine L9 O ?_;exact⟨As,_,O,⟨Ac,nc,cc,0,h,bs,O,⟨Int.le_refl _,by omega⟩,mZ,hY⟩,aA⟩
theorem V8(Ac:aj)(nc cc:Nat)(w:aa):aG prog 7 [.slice Ac nc cc] w (fun v w'=>v= .bool (decide (4096< (nc:Int)))/\St w w' []):=by
 refine bA func7 O ntmps7 O (cJ O) ?_;refine a8 O (bc O O (bM O ?_));exact dK O ⟨O,St.refl w⟩
theorem adx(A:aj)(n c:Nat)(xs:ai)(B:aj)(m cB:Nat)(ys:ai)(w:aa)(hX:cn w A n xs)(hY:cn w B m ys)(hn:n<=9223372036854775806):
 aG prog 21 [.slice A n c,.slice B m cB] w (fun v w'=>v= .bool (decide (xs=ys))/\St w w' []):=by
 have gP:=hX.1;have zy:=hY.1;refine bA func21 O ntmps21 O (cJ O) ?_;refine a8 O (bc O O (ar O (bc O O (aI O ?_))));refine aR _ O (fun h1=>?_) (fun h1=>?_)
 ·have bt:xs≠ys:=fun e=>h1 (by rw [<-gP,<-zy,e])
  refine eT O (dK O ?_);exact⟨by rw [dE bt],St.refl w⟩
 have KQ:n=m:=by omega
 subst KQ;refine dA O (Cd.loop (α:=Nat) (fun i=> [(0,.slice A n c),(1,.slice B n cB),(5,ak i)]) (fun i w'=>St w w' []/\i<=n/\∀j,j<i->xs[j]?=ys[j]?) (fun i=>n - i) 0 (ajs O) ⟨St.refl w,a7 _,fun j hj=>absurd hj (sQ _)⟩ ?_);rintro i e w1 ⟨aA,hi,hj⟩;have u7:=aA.gW hX;have vT:=aA.gW hY;refine a8 O (bc O O (aI O ?_));refine aR _ O (fun h2=>?_) (fun h2=>?_)
 ·refine dA O (eY [xS (A) (n) (c),xI ((i:Int)),xP (aJ (A) ((i:Int)).toNat),xI (gi (xs) ((i:Int))),xS (B) (n) (cB),xI ((i:Int)),xP (aJ (B) ((i:Int)).toNat),xI (gi (ys) ((i:Int))),xB (decide (¬(gi (xs) ((i:Int)))=(gi (ys) ((i:Int)))))] O (fE O) ?_ ?_)
  ·exact⟨Dr O,Dr O,fun _ _ hb _ _=>aM (u7.aq hb).2 O Az,fun _ _ hb _ _=>bk (u7.aq hb) O Az,Dr O,Dr O,fun _ _ hb _ _=>aM (vT.aq hb).2 O Az,fun _ _ hb _ _=>bk (vT.aq hb) O Az,Dr O,av⟩
  intro u w2 dS _;have aB:=aA.aq dS;refine fR O (aR _ O (fun h3=>?_) (fun h3=>?_))
  ·have bt:xs≠ys:=fun e=>h3 (by rw [e])
   refine eT O (gx (fV ?_));refine dK O ?_;exact⟨by rw [dE bt],aB⟩
  have h3:=Decidable.not_not.1 h3;rw [bO (by omega),bO (by omega)]at h3;refine aE O (aK O (aU O (tQ ?_)));refine⟨i+1,by show n - (i+1)<n - i;omega,(ajs O),aB,by omega,fun j im=>?_⟩
  by_cases e:j=i
  ·subst e;rw [fS (by omega),fS (by omega),h3]
  exact hj j (by omega)
 have he:xs=ys:=List.ext_getElem? fun j=>by
  by_cases pB:j<n
  ·exact hj j (by omega)
  rw [mF (by omega),mF (by omega)]
 refine bw O (bz (gE O ?_));refine dK O ?_;exact⟨by rw [eM he],aA⟩
theorem Se(A:aj)(n c:Nat)(rs:List aN)(xss:ah)(B:aj)(m cB:Nat)(rs':List aN)(dZ:ah)(w:aa)(hX:br w A n rs xss)(hY:br w B m rs' dZ)(hn:n<=9223372036854775806)(hr:∀x∈xss,x.length<=9223372036854775806):
 aG prog 44 [.slice A n c,.slice B m cB] w (fun v w'=>v= .bool (decide (xss=dZ))/\St w w' []):=by
 have gP:=hX.len;have zy:=hY.len;refine bA func44 O ntmps44 O (cJ O) ?_;refine a8 O (bc O O (ar O (bc O O (aI O ?_))));refine aR _ O (fun h1=>?_) (fun h1=>?_)
 ·have bt:xss≠dZ:=fun e=>h1 (by rw [<-gP,<-zy,e])
  refine eT O (dK O ?_);exact⟨by rw [dE bt],St.refl w⟩
 have KQ:n=m:=by omega
 subst KQ;refine dA O (Cd.loop (α:=Nat) (fun i=> [(0,.slice A n c),(1,.slice B n cB),(5,ak i)]) (fun i w'=>St w w' []/\i<=n/\∀j,j<i->xss[j]?=dZ[j]?) (fun i=>n - i) 0 (ajs O) ⟨St.refl w,a7 _,fun j hj=>absurd hj (sQ _)⟩ ?_);rintro i e w1 ⟨aA,hi,hj⟩;have u7:=aA.bY hX;have vT:=aA.bY hY;refine a8 O (bc O O (aI O ?_));refine aR _ O (fun h2=>?_) (fun h2=>?_)
 ·have fY:=u7.at_ (i:=(i:Int)) (by omega) (by omega);have hyi:=vT.at_ (i:=(i:Int)) (by omega) (by omega);have iZ:(rg rs i).n<=9223372036854775806:=by
   rw [<-fY.1,bP (by omega)];exact hr _ (dB _)
  refine dA O (eY [xS (A) (n) (c),xI ((i:Int)),xP (aJ (A) ((i:Int)).toNat),xS ((rg (rs) ((i:Int))).a) ((rg (rs) ((i:Int))).n) ((rg (rs) ((i:Int))).c),xS (B) (n) (cB),xI ((i:Int)),xP (aJ (B) ((i:Int)).toNat),xS ((rg (rs') ((i:Int))).a) ((rg (rs') ((i:Int))).n) ((rg (rs') ((i:Int))).c),xB (decide (gl xss i=gl dZ i)),xB (decide (¬(gl xss i=gl dZ i)))] O (fE O) ?_ ?_)
  ·refine⟨Dr O,Dr O,fun _ _ hb _ _=>aM (u7.top.aq hb).2 O Az,fun _ _ hb _ _=>dI (u7.top.aq hb) O Az,Dr O,Dr O,fun _ _ hb _ _=>aM (vT.top.aq hb).2 O Az,fun _ _ hb _ _=>dI (vT.top.aq hb) O Az,?_,fun _ _ _ _ _=>eA O O Az,av⟩;intro e1 w1 hb hp a6;refine aL (adx _ _ _ _ _ _ _ _ _ (fY.aq hb) (hyi.aq hb) iZ) O ?_;rintro _ w2 ⟨rfl,au⟩;refine ao.n ?_;exact gz.dn au.below (by exact O)
  intro u w2 dS _;have aB:=aA.aq dS;refine fR O (aR _ O (fun h3=>?_) (fun h3=>?_))
  ·have bt:xss≠dZ:=fun e=>h3 (by rw [e])
   refine eT O (gx (fV ?_));refine dK O ?_;exact⟨by rw [dE bt],aB⟩
  have h3:=Decidable.not_not.1 h3;rw [bP (by omega),bP (by omega)]at h3;refine aE O (aK O (aU O (tQ ?_)));refine⟨i+1,by show n - (i+1)<n - i;omega,(ajs O),aB,by omega,fun j im=>?_⟩
  by_cases e:j=i
  ·subst e;rw [fS (by omega),fS (by omega),h3]
  exact hj j (by omega)
 have he:xss=dZ:=List.ext_getElem? fun j=>by
  by_cases pB:j<n
  ·exact hj j (by omega)
  rw [mF (by omega),mF (by omega)]
 refine bw O (bz (gE O ?_));refine dK O ?_;exact⟨by rw [eM he],aA⟩
theorem Sd(A:aj)(n c:Nat)(rs:List aN)(xss:ah)(B:aj)(m cB:Nat)(rs':List aN)(dZ:ah)(w:aa)(hX:br w A n rs xss)(hY:br w B m rs' dZ)(hn:n<=9223372036854775806)(hr:∀x∈xss,x.length<=9223372036854775806):
 aG prog 36 [.agg #[.slice A n c],.agg #[.slice B m cB]] w (fun v w'=>v= .bool (decide (xss=dZ))/\St w w' []):=by
 refine bA func36 O ntmps36 O (cJ O) (a8 O (jd (St.refl w) O O ?_));intro A1 w1 aA;refine jd aA O O fun A2 w2 aB=>ar O (aX (aB.rd 1 O) O (bn (aB.rd 1 O) O (aX (aB.rd 0 O) O (bn (aB.rd 0 O) O (aL (Se A n c rs xss B m cB rs' dZ _ (aB.bY hX) (aB.bY hY) hn hr) O ?_)))));rintro _ w3 ⟨rfl,au⟩;refine bM O (dK O ?_);exact⟨O,(aB.aq au.below).none⟩
theorem ab1(A:aj)(n c:Nat)(rs:List aN)(M:ah)(w:aa)(hR:br w A n rs M)(hn:n<=c)(hc:c<=9223372036854775807)(hM:aZ M):
 aG prog 37 [.agg #[.slice A n c]] w (fun v w'=>∃A' c',v= .tuple #[.slice A' n c',ak 0]/\St w w' [az 2 A' n c' (kS M)]):=by
 refine bA func37 O ntmps37 O (rA O) (a8 O (jd (St.refl w) O O ?_));intro A1 w1 aA;refine ar O (ao.b7 0 (aA.rd 0 O) O O O (aL (wx A n c rs M _ (aA.bY hR) hn hc) O ?_));rintro _ w2 ⟨rfl,au⟩;have aB:=aA.aq au.below
 first | refine eA rfl rfl ?_ | refine eU rfl rfl ?_
 refine aI O (mD O (fun h=>h hM) (aE O (aL (Ol A1 A n c rs M _ (Rd.one (aB.rd 0 O)) (aB.bY hR) hM) O ?_)));rintro _ w3 ⟨A',c',rfl,Ek⟩;refine bM O (zN O O ?_);exact⟨A',c',O,(aB.call Ek).sub (qI _ _)⟩
end
section
variable{M:ah}
def rZ(M:ah):ah:=dV (gl M 0).length M.reverse 0
theorem Xj(M:ah):(rZ M).length=M.length:=by unfold rZ;rw [qP,List.length_reverse]
theorem Xi(hM:aZ M):∃φ:Int->Int,iz (gl M 0).length M.reverse (rZ M) φ:=
 ⟨_,Bh (yh hM) (by rw [tw hM]) (by omega) (by have:=hM.2.1;omega)⟩
theorem Jg(hM:aZ M):aZ (rZ M):=(N4 hM).d
theorem Jh(hM:aZ M):(gl (rZ M) 0).length=(gl M 0).length:=(N4 hM).num
end
section
open Go.RowKit
variable{k j p:Nat}
def oB(n:Nat):Nat->ai->ah
 | 0,s=> [s]
 | d+1,s=> (List.range n).flatMap fun i:Nat=>if(i:Int)∈s then []else oB n d (s++ [(i:Int)])
def nV(n d:Nat)(s:ai)(k:Nat):ah:=(List.range k).flatMap fun i:Nat=>if(i:Int)∈s then []else oB n d (s++ [(i:Int)])
theorem SS(n d:Nat)(s:ai)(k:Nat):nV n d s (k+1)=nV n d s k++if(k:Int)∈s then []else oB n d (s++ [(k:Int)]):=by
 unfold nV;rw [lN,List.flatMap_append];simp
theorem SQ(n d:Nat)(s:ai){m:Nat}(h:k<=m):(nV n d s k).length<=(nV n d s m).length:=by
 induction h with
 | refl=>exact bj _
 | step _ ih=>rw [SS,cS];omega
theorem SP(n:Nat):∀(d:Nat) (s:ai),∀x∈oB n d s,x.length=s.length+d
 | 0,s,x,h=>by rw [gk.1 h];rfl
 | d+1,s,x,h=>by
  obtain⟨i,_,h⟩:=List.mem_flatMap.1 h
  split at h
  ·cases h
  ·have:=SP n d _ x h;rw [this];simp;omega
theorem ac3(n:Nat)(hn:n<=100):∀(d:Nat) {w0 w:aa} {ks:List Ck} (s:ai) (As:aj) (cs:Nat) (L:ah) (A:aj) (c:Nat) (rs:List aN),s.length+d=n->rs.length=L.length->L.length+ (oB n d s).length<=1000->
 St w0 w (cd 24 A L.length c rs::az 2 As s.length cs s::(du 2 rs L++ks))->
 aG prog 150 [ak n,.slice As s.length cs,.slice A L.length c] w (fun v w'=>∃A' c' rs',v= .slice A' (L++oB n d s).length c'/\rs'.length=(L++oB n d s).length/\
  St w0 w' (cd 24 A' (L++oB n d s).length c' rs'::(du 2 rs' (L++oB n d s)++ks))):=by
 intro d
 induction d with
 | zero=>
  intro w0 w ks s As cs L A c rs hd bU hlen hS;refine bA func150 O ntmps150 O (cJ O) ?_;refine a8 O (bc O O (aI O ?_));refine Cd.jE (by rw [show s.length=n by omega];exact aO Value.bool (eM O)) ?_;refine aE O (kO hS O O O ?_);intro oJ w1 aA;refine mJ 1 aA O (aA.gQ 0 O) O O O (by simp [oB]at hlen;omega) (by simp [oB]at hlen;omega) O ?_;intro CH NH w2 aB;have aB:St w0 w2 (cd 24 CH (L.length+1) NH (rs++ [⟨As,s.length,cs⟩])::az 2 As s.length cs s::(du 2 rs L++ks)):=aB.tail;refine bM O (gD O ?_);have e1:(L++oB n 0 s).length=L.length+1:=by simp [oB]
  refine⟨CH,NH,rs++ [⟨As,s.length,cs⟩],by rw [e1],by rw [e1,cS,bU];rfl,?_⟩;rw [e1,oB,qy bU];refine aB.perm (List.Perm.cons _ ?_);rw [jy];exact(uL (l₁:=du 2 rs L)).symm
 | succ d ih=>
  intro w0 w ks s As cs L A c rs hd bU hlen hS;have zv:s.length≠n:=by omega
  have eu:oB n (d+1) s=nV n d s n:=O;rw [eu]at hlen|-;refine bA func150 O ntmps150 O (cJ O) ?_;refine a8 O (bc O O (aI O ?_));refine Cd.gh (aO Value.bool (dE (by omega))) (dA O ?_);refine Cd.loop (α:=Nat×(aj×Nat)×List aN) (fun z=> [(0,ak n),(1,.slice As s.length cs),(2,.slice z.2.1.1 (L++nV n d s z.1).length z.2.1.2),(7,ak (z.1:Int))]) (fun z w'=>z.1<=n/\z.2.2.length=(L++nV n d s z.1).length/\St w0 w' (cd 24 z.2.1.1 (L++nV n d s z.1).length z.2.1.2 z.2.2::az 2 As s.length cs s::(du 2 z.2.2 (L++nV n d s z.1)++ks))) (fun z=>n - z.1) (0,(A,c),rs)
   ⟨rfl,rfl,by show Value.slice A L.length c=Value.slice A (L++ []).length c;rw [fM],rfl,av⟩ ⟨a7 _,by show rs.length=(L++ []).length;rw [fM];exact bU,by show St w0 w (cd _ A (L++ []).length c rs::_::(du _ rs (L++ [])++ks));rw [fM];exact hS⟩ ?_
  rintro⟨i,⟨B,cB⟩,rb⟩ e w2 ⟨hi,o7,aB⟩;dsimp only at hi o7 aB|-;have hle:=SQ n d s hi;refine bL O (aR _ O (fun h1=>?_) (fun h1=>?_))
  ·have bX:i<n:=by omega
   have zu:=SS n d s i;have aay:=SQ n d s (show i+1<=n from bX);refine aE O (aL (Ht As s.length cs s i _ (aB.bI 1 O) (by omega)) O ?_);rintro _ w2 ⟨rfl,rfl⟩
   first | refine eA rfl rfl ?_ | refine eU rfl rfl ?_
   refine aI O (aR _ O (fun h2=>?_) (fun h2=>?_))
   ·rw [aw h2]at zu;refine aE O (aL (Hu As s.length cs s _ (aB.bI 1 O) (by omega)) O ?_);rintro _ w3 ⟨Uv,Wl,rfl,au⟩;have aH:St w0 w3 (az 2 Uv s.length Wl s::cd 24 B (L++nV n d s i).length cB rb::az 2 As s.length cs s::(du 2 rb (L++nV n d s i)++ks)):=aB.call au;refine ar O (eH aH O O O ?_);intro A29 w4 aV;refine fN 1 aV O (aV.bI 0 O) O O O ?_;intro Ic I1 w5 aW;have aW:St w0 w5 (az 2 Ic (s++ [(i:Int)]).length I1 (s++ [(i:Int)])::cd 24 B (L++nV n d s i).length cB rb::az 2 As s.length cs s::(du 2 rb (L++nV n d s i)++ks)):=by
     rw [cS];exact aW.tail
    have ba:St w0 w5 (cd 24 B (L++nV n d s i).length cB rb::az 2 Ic (s++ [(i:Int)]).length I1 (s++ [(i:Int)])::(du 2 rb (L++nV n d s i)++ (az 2 As s.length cs s::ks))):=by
     refine aW.perm ((List.Perm.swap _ _ _).trans (List.Perm.cons _ (List.Perm.cons _ ?_)));exact uL.symm
    refine ar O ?_;refine ajj (ih (s++ [(i:Int)]) Ic I1 (L++nV n d s i) B cB rb (by rw [cS];show s.length+1+d=n;omega) o7 (by rw [zu,cS]at aay;rw [cS];omega) ba) O (by rw [show(s++ [(i:Int)]).length=s.length+1 from cS];rfl) O ?_;rintro _ w6 ⟨MD,Wm,r32,rfl,Q6,bG⟩;have e2:L++nV n d s i++oB n d (s++ [(i:Int)])=L++nV n d s (i+1):=by rw [zu,jy]
    rw [e2]at Q6 bG|-;refine ar O (aK O (aU O (tQ ?_)));refine⟨(i+1,(MD,Wm),r32),by show n - (i+1)<n - i;omega,(ajs O),bX,Q6,bG.perm (List.Perm.cons _ uL)⟩
   ·have h2:(i:Int)∈s:=iy.1 h2;rw [ay h2,fM]at zu;refine aE O (aK O (aU O (tQ ?_)));refine⟨(i+1,(B,cB),rb),by show n - (i+1)<n - i;omega,⟨O,O,by rw [zu];exact O,O,av⟩,bX,by rw [zu];exact o7,by rw [zu];exact aB⟩
  ·obtain rfl:i=n:=by omega
   refine bw O (bz (gE O ?_));exact gD O ⟨B,cB,rb,O,o7,aB.sub (List.Sublist.cons_cons _ (List.sublist_cons_self _ _))⟩
def CN(L:ah)(w:aa)(v:ad)(w':aa):Prop:=∃A c,∃rs:List aN,v= .agg #[.slice A L.length c]/\rs.length=L.length/\St w w' (aT 24 2 A L.length c rs L)
theorem RI(n kind:Int)(hn:1<=n/\n<=4)(hk:kind=1\/kind=2)(w:aa)(hT:js w):
 aG prog 81 [ak n,ak kind] w (CN (fW kind (n - 1).toNat) w):=by
 refine bA func81 O ntmps81 O (rB O O) (a8 O (gf (St.refl w) O ?_));intro A4 w1 aA;refine ar O (aL (RH _) O ?_);rintro _ w2 ⟨E,r,rfl,au⟩;have aB:=aA.call2 au;refine gf aB O fun A5 w3 aH=>cG 1 0 aH O O O O O O O fun w4 aV=>ar O (dQ O (aI O ?_));refine Cd.loop (α:=Nat×(aj×Nat)×List aN) (fun z=> [(1,ak kind),(4,.pointer A4),(5,.pointer A5),(10,ak (n - 1)),(11,ak (z.1:Int))]) (fun z w'=> (z.1:Int)<=n - 1/\z.2.2.length=(fW kind z.1).length/\St w w' ([dY A5 z.2.1.1 (fW kind z.1).length z.2.1.2,dY A4 none 0 0]++aT 24 2 z.2.1.1 (fW kind z.1).length z.2.1.2 z.2.2 (fW kind z.1))) (fun z=> (n - 1).toNat - z.1) (0,(E,1),[r]) (ajs O) ⟨by show(0:Int)<=n - 1;omega,O,aV⟩ ?_;clear aV aH aB aA au;rintro⟨j,⟨A,c⟩,rs⟩ e w5 ⟨hj,bU,aW⟩;dsimp only at hj bU aW|-;have mn:=aW.rd 0 O;have nJ:=hT.aq aW.below;have xv:br w5 A (fW kind j).length rs (fW kind j):=St.kb aW.tail.tail O;refine bL O (aR _ O (fun h1=>?_) (fun h1=>?_))
 ·have J8:=fun(w':aa) (E:aj) (r:aN) (hT:js w') (hM:br w' A (fW kind j).length rs (fW kind j)) (hE:br w' E 1 [r] eZ)=>afk A E (fW kind j).length c 1 1 rs [r] (fW kind j) eZ kind w' hT hM hE (aW.cap 2 O).1 (aW.cap 2 O).2 (bj _) (by omega)
  have Zm:=fun(w':aa) A D cA cD rs hT hR hB=>ae4 (fW kind j) eZ kind A D cA cD rs w' hT hR hB
  generalize rC (fW kind j) eZ kind=N at*;generalize nq (fW kind j) eZ kind=R at*;generalize np (fW kind j) eZ kind=B at*;generalize ja (fW kind j) eZ kind=C at*;refine dA O ?_;refine kK [8] [.ex (.agg #[.slice (A) ((fW kind j).length) (c)]),.pr (fun v w'=>∃E,∃r:aN,v= .agg #[.slice E 1 1]/\br w' E 1 [r] eZ),yI ((kind)),.pr (fun v w'=>yp N R B C w5 v w'),.al (fun v=>∃u0,v= .tuple #[u0,ak C]) (fun v w'=>yp N R B C w5 v w'),.pr (fun v w'=>∃AR cR AD cD df,v= .agg #[ak N,.slice AR R.length cR,.slice AD B.length cD]/\df.length=B.length/\St w5 w' (az 2 AR R.length cR R::(aT 24 2 AD B.length cD df B++ []))),yI (C),.pr (fun v w'=>∃A9,v= .pointer A9/\St w5 w' [bE A9 0 none 0 0 none 0 0]),.p2 7 (fun a v w'=>∃A9 AR c AD d rs,a= .pointer A9/\rs.length=B.length/\St w5 w' (bE A9 N AR R.length c AD B.length d::(az 2 AR R.length c R::(aT 24 2 AD B.length d rs B++ [])))),yI (C)] (by kernel_rfl) (by kernel_rfl) (ly (cI.2 ⟨Ye.cV (fun v w w' h hb=>by obtain⟨E,r,hv,h1⟩:=h;exact⟨E,r,hv,h1.aq hb⟩),(ly (cI.2 ⟨Ye.cV (fun v w w' h hb=>by obtain⟨AR,cR,AD,cD,df,hv,h1,h2⟩:=h;exact⟨AR,cR,AD,cD,df,hv,h1,h2.aq hb⟩),(cI.2 ⟨VA (fun v w w' h hb=>by obtain⟨AR,cR,AD,cD,df,hv,h1,h2⟩:=h;exact⟨AR,cR,AD,cD,df,hv,h1,h2.aq hb⟩),(cI.2 ⟨Ye.cV (fun v w w' h hb=>by obtain⟨AR,cR,AD,cD,df,hv,h1,h2⟩:=h;exact⟨AR,cR,AD,cD,df,hv,h1,h2.aq hb⟩),(ly (cI.2 ⟨Ye.cV (fun v w w' h hb=>by obtain⟨A9,hv,hT⟩:=h;exact⟨A9,hv,hT.aq hb⟩),(cI.2 ⟨M6 (fun a v w w' h hb=>by obtain⟨A9,AR,cR,AD,cD,df,h9,h1,hT⟩:=h;exact⟨A9,AR,cR,AD,cD,df,h9,h1,hT.aq hb⟩),(ly (fun _ h=>by cases h))⟩)⟩))⟩)⟩)⟩))⟩)) ?_ ?_
  ·refine⟨cP fun _ _ hb _ _ _=>ao.b7 0 (mn.below hb) O O O (bK O O),?_,bZ O,?_,?_,?_,?_,?_,?_,bZ O,av⟩
   ·refine cP fun e1 w1 hb hp a6 hq=>?_
    refine aL (RH _) O ?_;rintro _ w9 h9;obtain⟨E,r,hv,hE,qY⟩:=h9.rows;exact ao.n (gA.dn O qY ⟨E,r,hv,hE⟩)
   ·refine cP fun e1 w1 hb hp a6 hq=>?_
    obtain⟨E,r,h8,h1⟩:=(hp 1 _ _ (by kernel_rfl) rfl rfl (by kernel_rfl));refine ajj (J8 _ E r (nJ.aq hb) (xv.aq hb) h1) O (by exact aO (fun v=> [Value.agg #[.slice A (fW kind j).length c],v,ak kind]) h8) O ?_;rintro _ w9 ⟨AR,cR,AD,cD,df,rfl,lE,au⟩;refine ao.n ?_;exact gA.dn O au.below ⟨AR,cR,AD,cD,df,O,lE,by have:=((St.refl w5).aq hb).call au;rwa [fM]at this⟩
   ·refine cP fun e1 w1 hb hp a6 hq=>?_
    obtain⟨AR,cR,AD,cD,df,h9,h1,h2⟩:=(hp 3 _ _ (by kernel_rfl) rfl rfl (by kernel_rfl));refine M1 O (by exact h9) O (ao.n ?_);exact gA.dn O (Below.refl _ _) ⟨⟨_,O⟩,AR,cR,AD,cD,df,O,h1,h2⟩
   ·refine cP fun e1 w1 hb hp a6 hq=>?_
    obtain⟨AR,cR,AD,cD,df,h6,h1,h2⟩:=((hp 4 _ _ (by kernel_rfl) rfl rfl).2 (by kernel_rfl));refine ao.extract (by exact h6) O O (ao.n ?_);exact gA.dn O (Below.refl _ _) ⟨AR,cR,AD,cD,df,O,h1,h2⟩
   ·intro e1 w1 cc eB cC fq hp a6 hq;show ao _ _ _ _ _ _ _;obtain⟨u0,h6⟩:=(hp 4 _ _ (by kernel_rfl) rfl rfl).1;refine ao.extract (by exact h6) O O (ao.n (ig O (by exact O)))
   ·refine cP fun e1 w1 hb hp a6 hq=>?_
    refine mK (St.refl _) O fun A9 w9 bH=>ao.n ?_;exact gA.dn O bH.below ⟨A9,O,by have:=((St.refl w5).aq hb).call bH;rwa [fM]at this⟩
   refine kQ fun e1 w1 hb hp a6 hq=>?_
   obtain⟨A9,h9,hT⟩:=(hp 7 _ _ (by kernel_rfl) rfl rfl (by kernel_rfl));obtain⟨AR,cR,AD,cD,df,ia,h1,h2⟩:=(hp 5 _ _ (by kernel_rfl) rfl rfl (by kernel_rfl));refine cG 3 0 (hT.adT h2) O (by exact h9) (by exact ia) O O O O ?_;intro w9 bH;exact ao.n (fQ.st O ⟨A9,AR,cR,AD,cD,df,h9,h1,bH⟩)
  intro u2 w7 _ _ jZ _;obtain⟨A9,AR,cR,AD,cD,df,h9,lE,u6⟩:=jZ 8 7 _ rfl (by kernel_rfl);have bG:=aW.aq u6.below;refine Fl (F:=[(1,ak kind),(4,.pointer A4),(5,.pointer A5),(6,.pointer A9),(7,ak C),(10,ak (n - 1)),(11,ak j)]) ⟨O,O,O,h9,O,O,O,av⟩ (kc O (ao.b7 2 (u6.rd 0 O) O O O (ar O (aL (Zm _ AR AD cR cD df (hT.aq bG.below) (u6.bI 1 O) (St.tx u6.tail.tail O)) O ?_))));rintro _ w8 ⟨Am,cm,jR,rfl,o8,au⟩;have bS:=bG.call2 au;refine ar O (cG 1 0 bS O O O O O O O ?_);intro w9 bH;refine ar O (aK O (aU O (tQ ?_)));exact⟨(j+1,(Am,cm),jR),by show(n - 1).toNat - (j+1)< (n - 1).toNat - j;omega,(ajs O),by show((j+1:Nat):Int)<=n - 1;omega,o8,bH.sub (List.Sublist.cons_cons _ (List.Sublist.cons_cons _ (mH _ _)))⟩
 have pB:(n - 1).toNat=j:=by omega
 rw [pB];refine bw O (bz (dh O ?_));refine ao.b7 0 mn O O O (cG 1 1 aW O O O O O O O ?_);intro w6 ba;refine bM O (rF O (ba.rd 1 O) ?_);exact⟨A,c,rs,O,bU,ba.tail.tail⟩
def tC(p:ai)(i:Nat):ai:=(p.set i (gi p ((i:Int)+1))).set (i+1) (gi p i)
def di(n:Nat):ah:=oB (n+1) (n+1) []
def tB(n i k:Nat):ai:=(List.range k).map fun f:Nat=> (((di n).idxOf (tC (gl (di n) f) i):Nat):Int)
def pO(n k:Nat):ah:=(List.range k).map fun i:Nat=>tB n i (di n).length
theorem TI(n k:Nat):(pO n k).length=k:=by simp [pO]
theorem agC(n i k:Nat):tB n i (k+1)=tB n i k++ [(((di n).idxOf (tC (gl (di n) k) i):Nat):Int)]:=by simp [tB,lN]
theorem agB(n k:Nat):pO n (k+1)=pO n k++ [tB n k (di n).length]:=by simp [pO,lN]
def C9(n:Nat):Prop:=n<=90/\(di n).length<=1000/\∀i,i<n->∀f,f< (di n).length->tC (gl (di n) f) i∈di n
theorem abU{L:ah}{x:ai}(h:j<L.idxOf x)(hj:j<L.length):L[j]≠x:=fun e=>by
 have:=List.not_of_lt_findIdx (p:=(· ==x)) (xs:=L) (i:=j) h;simp [e]at this
theorem aeO{α:Type}(b m q1 q2:α)(X Y:List α):(b::q1::q2::m::(X++Y)).Perm (q1::q2::m::((X++ [b])++Y)):=by
 classical
 refine kN.2 fun z=>?_
 simp only [mb,kL,mE];omega
theorem ac4(n:Nat)(w:aa)(hn:C9 n):aG prog 83 [ak n] w (CN (pO n n) w):=by
 obtain⟨ti,Zi,hO⟩:=hn;have cT:∀x∈di n,x.length=n+1:=fun x hx=>by have:=SP (n+1) (n+1) [] x hx;simpa using this
 refine bA func83 O ntmps83 O (rB O O) (a8 O (gf (St.refl w) O ?_));intro A2 w1 aA;refine ar O (aK O ?_);refine ny aA O fun iM w2 aB=>ny aB O ?_;intro wN w3 aH;have aH:St w w3 (cd 24 wN ([]:ah).length 0 []::az 2 iM ([]:ai).length 0 []::(du 2 [] []++ [Bx 37 1 A2 [.slice none 0 0]])):=aH;refine aL (ac3 (n+1) (by omega) (n+1) [] iM 0 [] wN 0 [] (by show 0+ (n+1)=n+1;omega) O (by show 0+_<=1000;rw [Nat.zero_add];exact Zi) aH) O ?_;rintro _ w4 ⟨AO,cO,rO,rfl,Q8,aV⟩;rw [List.nil_append]at Q8 aV|-;rw [show oB (n+1) (n+1) []=di n from rfl]at Q8 aV|-;refine uO (by exact inferInstance) O (gf aV O ?_);intro A4 w5 aW;refine ar O (cG 1 0 aW O O O O O O O ?_);intro w6 ba;have ba:St w w6 (dY A4 none 0 0::cd 24 AO (di n).length cO rO::(du 2 rO (di n)++ [dY A2 none 0 0])):=ba;have ba:St w w6 (dY A4 none 0 0::dY A2 none 0 0::(aT 24 2 none 0 0 [] []++aT 24 2 AO (di n).length cO rO (di n))):=((ba.nil 24).perm (by
  classical
  refine kN.2 fun z=>?_
  simp only [aT,du,cd,List.map_nil,mb,kL,mE];omega))
 clear aA aB aH aV aW;refine aI O (Cd.loop (α:=Nat×(aj×Nat)×List aN) (fun z=> [(0,ak n),(2,.pointer A2),(3,.slice AO (di n).length cO),(4,.pointer A4),(5,ak (z.1:Int))]) (fun z w'=>z.1<=n/\z.2.2.length=z.1/\St w w' (dY A4 z.2.1.1 z.1 z.2.1.2::dY A2 none 0 0::(aT 24 2 z.2.1.1 z.1 z.2.1.2 z.2.2 (pO n z.1)++aT 24 2 AO (di n).length cO rO (di n)))) (fun z=>n - z.1) (0,(none,0),[]) (ajs O) ⟨a7 _,O,ba⟩ ?_);clear ba;rintro⟨i,⟨AX,cX⟩,rX⟩ e w7 ⟨hi,ru,hS⟩;dsimp only at hi ru hS|-;refine bL O (aR _ O (fun h1=>?_) (fun h1=>?_))
 ·have bX:i<n:=by omega
  refine aE O (ny hS O ?_);intro oa w8 bS;have bS:St w w8 (az 2 oa 0 0 (tB n i 0)::dY A4 AX i cX::dY A2 none 0 0::(aT 24 2 AX i cX rX (pO n i)++aT 24 2 AO (di n).length cO rO (di n))):=bS;clear hS;refine aI O (Cd.loop (α:=Nat×(aj×Nat)) (fun z=> [(0,ak n),(2,.pointer A2),(3,.slice AO (di n).length cO),(4,.pointer A4),(5,ak i),(6,.slice z.2.1 z.1 z.2.2),(7,ak (z.1:Int))]) (fun z w'=>z.1<=(di n).length/\St w w' (az 2 z.2.1 z.1 z.2.2 (tB n i z.1)::dY A4 AX i cX::dY A2 none 0 0::(aT 24 2 AX i cX rX (pO n i)++aT 24 2 AO (di n).length cO rO (di n)))) (fun z=> (di n).length - z.1) (0,(oa,0)) (ajs O) ⟨a7 _,bS⟩ ?_);clear bS;rintro⟨f,⟨AM,cM⟩⟩ e w9 ⟨hf,hS⟩;dsimp only at hf hS|-;refine a8 O (bc O O (aI O ?_));refine aR _ O (fun h2=>?_) (fun h2=>?_)
  ·have kH:f< (di n).length:=by omega
   have Gs:∀ {w':aa},St w w' (az 2 AM f cM (tB n i f)::dY A4 AX i cX::dY A2 none 0 0::(aT 24 2 AX i cX rX (pO n i)++aT 24 2 AO (di n).length cO rO (di n)))->br w' AO (di n).length rO (di n):=fun h=> (h.sub (((mH _ _).cons _ |>.cons _).cons _)).kb O
   have sd:=Gs hS;have rv:=sd.at_ (i:=(f:Int)) (by omega) (by omega);have KO:gl (di n) f∈di n:=by rw [bP kH];exact dB _
   have zh:=cT _ KO;have B6:(rg rO f).n=n+1:=by rw [<-rv.1];exact zh
   refine aE O (aM sd.top.2 O (dI sd.top O (aL (Hu _ _ _ (gl (di n) f) _ rv (by omega)) O ?_)));rintro _ eL ⟨A8,c8,rfl,au⟩;rw [B6]at au|-;have bQ:St w eL (az 2 A8 (n+1) c8 (gl (di n) f)::az 2 AM f cM (tB n i f)::dY A4 AX i cX::dY A2 none 0 0::(aT 24 2 AX i cX rX (pO n i)++aT 24 2 AO (di n).length cO rO (di n))):=hS.call au;clear hS au sd rv;have Gt:=Gs bQ.tail;have K3:=Gt.at_ (i:=(f:Int)) (by omega) (by omega);refine ar O (aM Gt.top.2 O (dI Gt.top O ?_));refine ar O (aK O ?_);refine aM K3.2 O (bk K3 O (aM (bQ.bI 0 O).2 O (lu 0 (i:=(i:Int)) bQ O O O (by omega) ?_)));intro fI dX;have yT:=Gs dX.tail;have K4:=yT.at_ (i:=(f:Int)) (by omega) (by omega);refine ar O (aK O (ar O ?_));refine aM yT.top.2 O (dI yT.top O (ar O (aM K4.2 O (bk K4 O (aM (dX.bI 0 O).2 O (lu 0 (i:=(i:Int)+1) dX O O O (by omega) ?_))))));intro fZ dM;have dM:St w fZ (az 2 A8 (n+1) c8 (tC (gl (di n) f) i)::az 2 AM f cM (tB n i f)::dY A4 AX i cX::dY A2 none 0 0::(aT 24 2 AX i cX rX (pO n i)++aT 24 2 AO (di n).length cO rO (di n))):=dM;clear bQ dX Gt yT K3 K4;have bW:=hO i bX f kH;have BU:=List.idxOf_lt_length_of_mem bW;refine aI O (Cd.loop (α:=Nat) (fun a=> [(0,ak n),(2,.pointer A2),(3,.slice AO (di n).length cO),(4,.pointer A4),(5,ak i),(6,.slice AM f cM),(7,ak f),(8,.slice A8 (n+1) c8),(9,ak a)]) (fun a w'=>a<=(di n).idxOf (tC (gl (di n) f) i)/\St w w' (az 2 A8 (n+1) c8 (tC (gl (di n) f) i)::az 2 AM f cM (tB n i f)::dY A4 AX i cX::dY A2 none 0 0::(aT 24 2 AX i cX rX (pO n i)++aT 24 2 AO (di n).length cO rO (di n)))) (fun a=> (di n).length - a) 0 (ajs O) ⟨a7 _,dM⟩ ?_);clear dM;rintro a e gM ⟨ha,hS⟩;have xz:a< (di n).length:=by omega
   have J9:=Gs hS.tail;have sn:=J9.at_ (i:=(a:Int)) (by omega) (by omega);have G1:(rg rO a).n=n+1:=by rw [<-sn.1,bP xz];exact cT _ (dB _)
   refine a8 O (aM J9.top.2 O (dI J9.top O (ar O (aL (acQ _ _ _ (gl (di n) a) A8 (n+1) c8 (tC (gl (di n) f) i) _ sn (hS.bI 0 O) (by omega)) O ?_))));rintro _ oI ⟨rfl,au⟩;have jh:=hS.aq au.below;clear hS au
   first | refine eA rfl rfl ?_ | refine eU rfl rfl ?_
   refine aI O (aR _ O (fun h3=>?_) (fun h3=>?_))
   ·have eO:a+1<=(di n).idxOf (tC (gl (di n) f) i):=by
     rcases Nat.lt_or_ge a ((di n).idxOf (tC (gl (di n) f) i))with q | q
     ·exact q
     exfalso;obtain rfl:a=(di n).idxOf (tC (gl (di n) f) i):=by omega
     apply h3;rw [bP xz,List.getElem_idxOf]
    refine aE O (aK O (aU O (tQ ?_)));exact⟨a+1,by show(di n).length - (a+1)< (di n).length - a;omega,(ajs O),eO,jh⟩
   have h3:=iy.1 h3;have s8:a=(di n).idxOf (tC (gl (di n) f) i):=by
    rcases Nat.lt_or_ge a ((di n).idxOf (tC (gl (di n) f) i))with q | q
    ·rw [bP xz]at h3;exact absurd h3 (abU q xz)
    omega
   refine bw O (bz (dh O ?_));refine eH jh.tail O O O fun A66 qD ib=>fN 1 ib O (ib.bI 0 O) O O O fun AZ cZ tD jN=>ar O (aK O (aU O (tQ ?_)));refine⟨(f+1,(AZ,cZ)),by show(di n).length - (f+1)< (di n).length - f;omega,(ajs O),kH,?_⟩;show St w tD (az _ AZ (f+1) cZ (tB n i (f+1))::_);rw [agC,<-s8];exact jN.tail
  obtain rfl:f=(di n).length:=by omega
  refine bw O (bz (dh O ?_));refine aX (hS.rd 1 O) O (ajn (j:=0) (hS.rd 1 O) O O O O O (ar O (kO hS O O O ?_)));intro Uy eL bQ;refine mJ 4 bQ O (bQ.gQ 0 O) O O O (by omega) (by omega) O fun AZ cZ fI dX=>aX (dX.rd 2 O) O (kf 2 (j:=0) dX O O O O O ?_);intro fZ dM;have dM:=dM.tail.perm (aeO _ _ _ _ _ _);refine ar O (aK O (aU O (tQ ?_)));refine⟨(i+1,(AZ,cZ),rX++ [⟨AM,(di n).length,cM⟩]),by show n - (i+1)<n - i;omega,(ajs O),by show i+1<=n;omega,by show(rX++ [_]).length=i+1;rw [cS,ru];rfl,?_⟩;show St w fZ (dY A4 AZ (i+1) cZ::dY A2 none 0 0::(aT 24 2 AZ (i+1) cZ (rX++ [_]) (pO n (i+1))++aT 24 2 AO (di n).length cO rO (di n)));rw [agB];unfold aT;rw [qy (by rw [ru,TI])];exact dM
 obtain rfl:i=n:=by omega
 refine bw O (bz (dh O ?_));refine ao.b7 0 (hS.rd 0 O) O O O (cG 1 1 hS O O O O O O O ?_);intro w8 bS;refine bM O (rF O (bS.rd 1 O) ?_);have hl:=TI i i;refine⟨AX,cX,rX,by rw [hl];rfl,by rw [hl];exact ru,?_⟩;rw [hl];exact bS.sub (show List.Sublist _ (_::_::_) from((qI _ _).cons _ |>.cons _))
def Rg(n:Nat)(xs:ai):Prop:=xs.length=n/\∀x∈xs,0<=x/\x< (n:Int)
theorem Rg.gi{n:Nat}{xs:ai}(h:Rg n xs){i:Int}(h0:0<=i)(h1:i<n):0<=Vc.gi xs i/\Vc.gi xs i<n:=by
 obtain⟨q,rfl⟩:∃q:Nat,i=q:=⟨i.toNat,by omega⟩;rw [bO (by rw [h.1];omega)];exact h.2 _ (dB _)
theorem Rg.set{n:Nat}{xs:ai}(h:Rg n xs){v:Int}(h0:0<=v)(h1:v<n):Rg n (xs.set j v):=by
 refine⟨by rw [lp];exact h.1,fun x hx=>?_⟩;rcases List.mem_or_eq_of_mem_set hx with hx | rfl
 ·exact h.2 x hx
 exact⟨h0,h1⟩
def GM(N:Nat)(xss:ah):Prop:=∀p∈xss,Rg N p
def jI(v:Nat->Int)(n f:Nat):ai:=(List.range n).map fun g=>if g<f then v g else 0
theorem T0(v:Nat->Int)(n:Nat):jI v n 0=List.replicate n 0:=by
 apply jo (by simp [jI]);intro i h1 h2;simp [jI]
theorem T3{v:Nat->Int}{n f:Nat}:(jI v n f).set f (v f)=jI v n (f+1):=by
 apply jo (by simp [jI]);intro i h1 h2;rw [List.getElem_set];simp only [jI,List.getElem_map,List.getElem_range]
 by_cases h:f=i
 ·subst h;rw [ay rfl,ay (Nat.lt_succ_self _)]
 rw [aw h]
 by_cases h2:i<f
 ·rw [ay h2,ay (by omega)]
 rw [aw h2,aw (by omega)]
theorem T2{v:Nat->Int}{n:Nat}(h:∀g,g<n->0<=v g/\v g<n):Rg n (jI v n n):=⟨by simp [jI],fun x hx=>by
 obtain⟨g,hg,rfl⟩:=db.1 hx;have hg:=fU.1 hg;rw [ay hg];exact h g hg⟩
def qC(g:Nat):Int:=if(g:Int)%2=0 then(g:Int)+1 else(g:Int) - 1
def lJ(n g:Nat):Int:=if(g:Int)%2=0 then((g:Int)+ (n:Int) - 1)% (n:Int)else((g:Int)+1)% (n:Int)
def rz(p:Nat):ah:=[jI qC (2*p) (2*p),jI (lJ (2*p)) (2*p) (2*p)]
theorem S4(hp:1<=p):GM (2*p) (rz p):=fun q hq=>by
 rcases jq.1 hq with rfl | hq
 ·refine T2 fun g hg=>?_
  unfold qC
  split<;>omega
 rw [gk]at hq;subst hq;refine T2 fun g hg=>?_
 unfold lJ;have zl:=Int.emod_nonneg ((g:Int)+ ((2*p:Nat):Int) - 1) (b:=((2*p:Nat):Int)) (by omega);have rr:=Int.emod_lt_of_pos ((g:Int)+ ((2*p:Nat):Int) - 1) (b:=((2*p:Nat):Int)) (by omega);have hm3:=Int.emod_nonneg ((g:Int)+1) (b:=((2*p:Nat):Int)) (by omega);have hm4:=Int.emod_lt_of_pos ((g:Int)+1) (b:=((2*p:Nat):Int)) (by omega)
 split
 ·exact⟨zl,rr⟩
 exact⟨hm3,hm4⟩
end
end Go.Proofs.YtagdamiiececaaaGreatDoor.Vc
