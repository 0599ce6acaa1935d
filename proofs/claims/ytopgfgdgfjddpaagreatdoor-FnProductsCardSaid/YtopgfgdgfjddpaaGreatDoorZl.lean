/-
  The texts Qd1, Qb1, Qd5, Qf2, Frg, Qf3, Dr0, Qc1, Qc3, Qc7, Qe3, Qf4, Qc6, Qf5, Open, Opm, Opy in one. Conditions: as each part states them.
-/
import Derived.Test.YtopgfgdgfjddpaaGreatDoorZk
import Derived.Test.YtopgfgdgfjddpaaGreatDoorZe
import Derived.Test.YtopgfgdgfjddpaaGreatDoorZb
import Derived.Test.YtopgfgdgfjddpaaGreatDoorZh
import Derived.Test.YtopgfgdgfjddpaaGreatDoorZi
import Derived.Test.YtopgfgdgfjddpaaGreatDoorZf
import Derived.Test.YtopgfgdgfjddpaaGreatDoorZj
import Derived.Test.YtopgfgdgfjddpaaGreatDoorZa
import Derived.Test.YtopgfgdgfjddpaaGreatDoorInst
import Derived.Deep.Matrix
import Derived.Carry
import Derived.Below
import Derived.ChangeSame
import Derived.ProofKit
import Derived.OpenShut
import Derived.Handed
import Derived.Lib.SmallJoins
namespace Go.Proofs.YtopgfgdgfjddpaaGreatDoor.Vc
section
open Tryz
def kY:Nat→(Nat→Int)→Int
 | 0,_=>0
 | n+1,g=>kY n g+g n
theorem Fb{g h:Nat→Int}:∀ {n:Nat},(∀i,i<n→g i=h i)→kY n g=kY n h
 | 0,_=>rfl
 | n+1,H=>by unfold kY;rw [Fb (n:=n) fun i hi=>H i (by omega),H n (by omega)]
theorem Uj(g h:Nat→Int):∀n:Nat,kY n (fun i=>g i+h i)=kY n g+kY n h
 | 0=>rfl
 | n+1=>by show kY n (fun i=>g i+h i)+ (g n+h n)=(kY n g+g n)+ (kY n h+h n);rw [Uj g h n];omega
theorem MB:∀n:Nat,kY n (fun _=>0)=0
 | 0=>rfl
 | n+1=>by unfold kY;rw [MB n];rfl
theorem Ul{t:Nat}(x:Int):∀ {P:Nat},t<P→kY P (fun i=>if t=i then x else 0)=x
 | 0,h=>absurd h (jk _)
 | P+1,h=>by
  show kY P (fun i=>if t=i then x else 0)+ (if t=P then x else 0)=x
  by_cases e:t=P
  ·rw [aj e,Fb (h:=fun _=>0) fun i hi=>ag (by omega),MB];omega
  ·rw [ag e,Ul x (P:=P) (by omega)];omega
theorem Uu{α:Type}(f:α→Nat):∀l:List α,(((l.map f).sum:Nat):Int)=(l.map fun a=> (f a:Int)).sum
 | []=>rfl
 | a::r=>by
  rw [List.map_cons,List.sum_cons,List.map_cons,List.sum_cons,←Uu f r];omega
theorem Ut{k:Int→Nat}{P:Nat}{ok:Int→Bool}(g:Nat→Int):∀ {l:List Int},(∀a∈l,k a<P)→(l.map fun a=>if ok a=true then g (k a)else 0).sum=kY P fun t=> ((l.filter fun a=>decide (k a=t) && ok a).length:Int)*g t
 | [],_=>by
  rw [Fb (h:=fun _=>0) fun i _=>by simp,MB];rfl
 | a::r,h=>by
  have ih:=Ut (ok:=ok) g (l:=r) fun b hb=>h b (oK _ hb)
  rw [List.map_cons,List.sum_cons,ih];have e:∀t:Nat,(((a::r).filter fun a=>decide (k a=t) && ok a).length:Int)*g t=(if k a=t then(if ok a=true then g (k a)else 0)else 0)+ ((r.filter fun a=>decide (k a=t) && ok a).length:Int)*g t:=fun t=>by
   by_cases h1:k a=t
   ·by_cases h2:ok a=true
    ·rw [s8 (by simp [h1,h2]),aj h1,aj h2,List.length_cons,h1,Int.natCast_add,Int.add_mul];simp;omega
    ·rw [pG (by simp [h2]),aj h1,ag h2];omega
   ·rw [pG (by simp [h1]),ag h1];omega
  rw [Fb fun t _=>e t,Uj,Ul _ (h a (by simp))]
theorem afJ(R:List Int):(bw R.length).map (gi R)=R:=by
 apply ji (by simp [bw]);intro i h1 h2;simp only [bw,List.getElem_map,List.getElem_range];exact bX h2
theorem Ub(R:List Int)(i:Int):(mZ R i).length=(R.filter fun x=>decide (x=i)).length:=by
 have h:=ax (fun l=> (l.filter fun x=>decide (x=i)).length) (afJ R);simp only [List.filter_map,fN]at h;exact h
section
variable {m1 m2:Nat} {rk1 rk2:Int→Int} {kind:Int}
theorem TK(i:Nat):∀k:Nat,i<k→((bT m1 m2 rk1 rk2 kind k).filter fun c=>decide (b8 rk1 rk2 kind c=(i:Int)))=uV m1 m2 rk1 rk2 kind (i:Int)
 | 0,h=>absurd h (jk _)
 | k+1,h=>by
  rw [bT,nS]
  by_cases e:i=k
  ·subst e;rw [List.filter_eq_nil_iff.2 fun c hc=>by
    obtain⟨j,hj,hE⟩:=rK.1 hc;rw [hE.2.2.1];simp;omega,List.nil_append,List.filter_eq_self.2 fun c hc=>by rw [(vH.1 hc).2.2.1];simp]
  ·rw [TK i k (by omega),List.filter_eq_nil_iff.2 fun c hc=>by rw [(vH.1 hc).2.2.1];simp;omega,fg]
theorem ae8{i k:Nat}(h:i<k):(mZ ((bT m1 m2 rk1 rk2 kind k).map (b8 rk1 rk2 kind)) (i:Int)).length=(uV m1 m2 rk1 rk2 kind (i:Int)).length:=by
 rw [Ub,List.filter_map,fN,←TK i k h]
 rfl
def cE(m:Nat)(k:Int→Nat)(ok:Int→Bool)(t:Nat):Nat:=((bw m).filter fun a=>decide (k a=t) && ok a).length
theorem ae5{ok1 ok2:Int→Bool}{k1 k2:Int→Nat}{P s:Nat}{i:Int}(hk:∀a:Int,0≤a→a<m1→k1 a<P)(h:∀a b:Int,0≤a→a<m1→0≤b→b<m2→((b8 rk1 rk2 kind (a,b)=i∧¬pb m1 m2 kind (a,b))↔(ok1 a=true∧ok2 b=true∧k1 a+k2 b=s))):((uV m1 m2 rk1 rk2 kind i).length:Int)=kY P fun t=> (cE m1 k1 ok1 t:Int)* (if t≤s then(cE m2 k2 ok2 (s - t):Int)else 0):=by
 unfold uV;have hsb:=Ut (k:=k1) (P:=P) (ok:=ok1) (fun t=>if t≤s then(cE m2 k2 ok2 (s - t):Int)else 0) (l:=bw m1) fun a ha=>by
  have:=(im _ _).1 ha;exact hk a this.1 this.2
 refine Eq.trans ?_ hsb;rw [List.length_flatMap,Uu];refine ax List.sum (mJ fun a ha=>?_);have ha:=(im _ _).1 ha;rw [fN]
 by_cases h1:ok1 a=true
 ·rw [aj h1]
  by_cases h2:k1 a≤s
  ·rw [aj h2];unfold cE
   congr 2
   refine List.filter_congr fun b hb=>?_
   have hb:=(im _ _).1 hb;have:=h a b ha.1 ha.2 hb.1 hb.2;rw [Bool.eq_iff_iff,decide_eq_true_iff,Bool.and_eq_true,decide_eq_true_iff,this];constructor
   ·rintro⟨_,q1,q2⟩;exact⟨by omega,q1⟩
   rintro⟨q1,q2⟩;exact⟨h1,q2,by omega⟩
  rw [ag h2,List.filter_eq_nil_iff.2 fun b hb hd=>by
   have hb:=(im _ _).1 hb;have:=(h a b ha.1 ha.2 hb.1 hb.2).1 (sP hd);omega]
  rfl
 rw [ag h1,List.filter_eq_nil_iff.2 fun b hb hd=>by
  have hb:=(im _ _).1 hb;have:=(h a b ha.1 ha.2 hb.1 hb.2).1 (sP hd);exact h1 this.1]
 rfl
end
def gL(n:Nat)(R:List Int):List Int:=(List.range n).map fun i:Nat=> ((mZ R (i:Int)).length:Int)
theorem uh(n:Nat)(R:List Int):(gL n R).length=n:=by simp [gL]
theorem Od{n:Nat}{R:List Int}{i:Nat}(h:i<n):gi (gL n R) (i:Int)=((mZ R (i:Int)).length:Int):=by
 rw [bX (by rw [uh];exact h)];simp [gL]
def pq(n:Nat)(R:List Int):List Int:=1::(gL n R++ [1])
theorem zl(n:Nat)(R:List Int):(pq n R).length=n+2:=by simp [pq,uh]
def km(kind:Int)(n:Nat)(R:List Int):List Int:=if kind=1 then(pq n R).set 0 0 else if kind=2 then(pq n R).set (n+1) 0 else pq n R
theorem Je(kind:Int)(n:Nat)(R:List Int):(km kind n R).length=n+2:=by
 unfold km
 split
 ·rw [iw,zl]
 split
 ·rw [iw,zl]
 exact zl n R
def pC(kind:Int)(N:Nat)(a:Int):Bool:= !(decide (kind=1∧a=0) || decide (kind=2∧a=(N:Int)+1))
theorem Tq{kind:Int}{N:Nat}{a:Int}:pC kind N a=true↔¬((kind=1∧a=0)∨(kind=2∧a=(N:Int)+1)):=by
 unfold pC;rw [Bool.not_eq_true',Bool.or_eq_false_iff,decide_eq_false_iff_not,decide_eq_false_iff_not,not_or]
theorem afI(N:Nat):bw (N+2)=0::((bw N).map (· +1)++ [(N:Int)+1]):=by
 apply ji (by simp [bw]);intro i h1 h2;simp only [yR]at h1;have e:(bw (N+2))[i]'(by rw [yR];exact h1)=(i:Int):=by simp [bw]
 rw [e]
 by_cases h0:i=0
 ·subst h0;rfl
 obtain⟨j,rfl⟩:∃j,i=j+1:=⟨i - 1,by omega⟩;rw [List.getElem_cons_succ]
 by_cases hj:j<N
 ·rw [List.getElem_append_left (by simp [bw];exact hj)];simp [bw]
 rw [List.getElem_append_right (by simp [bw];omega)];simp;omega
theorem Pb(n:Nat)(R:List Int)(t:Nat):(pq n R).getD t 0=if t=0 then 1 else if t≤n then((mZ R ((t:Int) - 1)).length:Int)else if t=n+1 then 1 else 0:=by
 unfold pq
 by_cases h0:t=0
 ·subst h0;rfl
 obtain⟨j,rfl⟩:∃j,t=j+1:=⟨t - 1,by omega⟩;rw [ag h0,List.getD_cons_succ,cJ];have e:((j+1:Nat):Int) - 1=(j:Int):=by omega
 rw [e]
 by_cases hj:j<n
 ·rw [aj (by omega),lQ (by rw [uh];exact hj),←cJ];exact Od hj
 rw [ag (by omega),jQ (by rw [uh];omega),uh]
 by_cases h1:j=n
 ·subst h1;simp
 rw [ag (by omega),oH (by simp;omega)];rfl
theorem Pk(l:List Int)(i t:Nat):(l.set i 0).getD t 0=if i=t then 0 else l.getD t 0:=by
 rw [cJ,oI,cJ]
 by_cases h:i=t
 ·rw [aj h,aj h];split<;>rfl
 rw [ag h,ag h]
theorem O1(kind:Int)(n:Nat)(R:List Int)(t:Nat):(km kind n R).getD t 0=if(kind=1∧t=0)∨(kind=2∧t=n+1)then 0 else(pq n R).getD t 0:=by
 unfold km
 by_cases h1:kind=1
 ·rw [aj h1,Pk]
  by_cases h:t=0
  ·rw [aj h.symm,aj (.inl ⟨h1,h⟩)]
  rw [ag (fun e=>h e.symm),ag (by omega)]
 rw [ag h1]
 by_cases h2:kind=2
 ·rw [aj h2,Pk]
  by_cases h:t=n+1
  ·rw [aj h.symm,aj (.inr ⟨h2,h⟩)]
  rw [ag (fun e=>h e.symm),ag (by omega)]
 rw [ag h2,ag (by omega)]
theorem O3{n:Nat}{R:List Int}(hR:∀e:Int,0≤e→e<R.length→0≤gi R e∧gi R e<n)(kind:Int)(t:Nat):(km kind n R).getD t 0=(cE (R.length+2) (fun a=> (gi (fo n R) a+1).toNat) (pC kind R.length) t:Int):=by
 have ht:=BG n R;have mq:((bw R.length).filter ((fun a=>decide ((gi (fo n R) a+1).toNat=t) && pC kind R.length a)∘(· +1))).length=if 1≤t∧t≤n then(mZ R ((t:Int) - 1)).length else 0:=by
  have key:∀e:Int,e∈bw R.length→((((fun a=>decide ((gi (fo n R) a+1).toNat=t) && pC kind R.length a)∘(· +1)) e)=true↔gi R e=(t:Int) - 1):=fun e he=>by
   have he:=(im _ _).1 he;have hr:=hR e he.1 he.2;have e1:=wa n R (a:=e+1) (by omega) (by omega);rw [Int.add_sub_cancel]at e1;have e2:pC kind R.length (e+1)=true:=by
    unfold pC;simp;omega
   show(decide ((gi (fo n R) (e+1)+1).toNat=t) && pC kind R.length (e+1))=true↔_;rw [e2,Bool.and_true,decide_eq_true_iff,e1];omega
  by_cases h:1≤t∧t≤n
  ·rw [aj h];unfold mZ
   congr 1
   refine List.filter_congr fun e he=>?_
   rw [Bool.eq_iff_iff,key e he,decide_eq_true_iff]
  rw [ag h,List.filter_eq_nil_iff.2 fun e he hd=>by
   have h1:=(key e he).1 hd;have he:=(im _ _).1 he;have hr:=hR e he.1 he.2;omega]
  rfl
 have dp:(([0]:List Int).filter fun a=>decide ((gi (fo n R) a+1).toNat=t) && pC kind R.length a).length=if t=0∧kind≠1 then 1 else 0:=by
  have e1:(gi (fo n R) 0+1).toNat=0:=O;have e2:pC kind R.length 0=decide (kind≠1):=by
   unfold pC;rw [Bool.eq_iff_iff];simp;omega
  by_cases h:t=0∧kind≠1
  ·rw [aj h,s8 (by rw [e1,e2];simp [h.1,h.2])];rfl
  rw [ag h,pG (by rw [e1,e2];simp;intro q;exact nL fun q2=>h ⟨q.symm,q2⟩)];rfl
 have bJ:(([(R.length:Int)+1]:List Int).filter fun a=>decide ((gi (fo n R) a+1).toNat=t) && pC kind R.length a).length=if t=n+1∧kind≠2 then 1 else 0:=by
  have e1:(gi (fo n R) ((R.length:Int)+1)+1).toNat=n+1:=by rw [ht];omega
  have e2:pC kind R.length ((R.length:Int)+1)=decide (kind≠2):=by
   unfold pC;rw [Bool.eq_iff_iff];simp;omega
  by_cases h:t=n+1∧kind≠2
  ·rw [aj h,s8 (by rw [e1,e2];simp [h.1,h.2])];rfl
  rw [ag h,pG (by rw [e1,e2];simp;intro q;exact nL fun q2=>h ⟨q.symm,q2⟩)];rfl
 have hc:cE (R.length+2) (fun a=> (gi (fo n R) a+1).toNat) (pC kind R.length) t=(if t=0∧kind≠1 then 1 else 0)+ ((if 1≤t∧t≤n then(mZ R ((t:Int) - 1)).length else 0)+ (if t=n+1∧kind≠2 then 1 else 0)):=by
  unfold cE;rw [afI,show(0:Int)::((bw R.length).map (· +1)++ [(R.length:Int)+1])=[0]++ ((bw R.length).map (· +1)++ [(R.length:Int)+1]) from rfl,nS,nS,dm,dm,List.filter_map,fN,mq,dp,bJ]
 rw [hc,O1,Pb]
 by_cases h0:t=0
 ·by_cases h1:kind=1
  ·rw [aj (.inl ⟨h1,h0⟩),ag (by omega),ag (by omega),ag (by omega)];rfl
  rw [ag (by omega),aj h0,aj ⟨h0,h1⟩,ag (by omega),ag (by omega)];rfl
 by_cases h1:t≤n
 ·rw [ag (by omega),ag h0,aj h1,ag (by omega),aj ⟨by omega,h1⟩,ag (by omega)];omega
 by_cases h2:t=n+1
 ·by_cases h3:kind=2
  ·rw [aj (.inr ⟨h3,h2⟩),ag (by omega),ag (by omega),ag (by omega)];rfl
  rw [ag (by omega),ag h0,ag h1,aj h2,ag (by omega),ag (by omega),aj ⟨h2,h3⟩];rfl
 rw [ag (by omega),ag h0,ag h1,ag h2,ag (by omega),ag (by omega),ag (by omega)];rfl
theorem aen{M K:aiB}{kind:Int}(h:lA M K kind=0){i:Nat}(hi:i<cn M K kind):((mZ (dV M K kind) (i:Int)).length:Int)=kY (M.length+2) fun t=> (km kind M.length (aO M M.length)).getD t 0* (if t≤i+ (if kind=1 then 2 else 1)then(km kind K.length (aO K K.length)).getD (i+ (if kind=1 then 2 else 1) - t) 0 else 0):=by
 obtain⟨mo,ow,ov⟩:=yN h;obtain⟨fU,ib⟩:=jW ow;obtain⟨jI,mO⟩:=jW ov;have l1:=rC fU ib.1;have l2:=rC jI mO.1;have q1:∀e:Int,0≤e→e< (aO M M.length).length→0≤gi (aO M M.length) e∧gi (aO M M.length) e<M.length:=fun e h0 h1=>by
  have:=(mE fU ib.1).ri h0 h1;omega
 have q2:∀e:Int,0≤e→e< (aO K K.length).length→0≤gi (aO K K.length) e∧gi (aO K K.length) e<K.length:=fun e h0 h1=>by
  have:=(mE jI mO.1).ri h0 h1;omega
 unfold dV CK;rw [ae8 hi,ae5 (ok1:=pC kind (aD M M.length)) (ok2:=pC kind (aD K K.length)) (k1:=fun a=> (pZ M a+1).toNat) (k2:=fun a=> (pZ K a+1).toNat) (P:=M.length+2) (s:=i+ (if kind=1 then 2 else 1)) (fun a h0 h1=>by
  have:=l1.fT (a:=a) ⟨h0,h1⟩;omega) (fun a b h0 h1 h2 h3=>by
  have r1:=l1.fT (a:=a) ⟨h0,h1⟩;have r2:=l2.fT (a:=b) ⟨h2,h3⟩;rw [Tq,Tq];unfold b8 pb eM;dsimp only
  by_cases hk:kind=1
  ·rw [aj hk,aj hk];omega
  rw [ag hk,ag hk];omega)]
 refine Fb fun t _=>?_
 have c1:=O3 q1 kind t;have c2:=O3 q2 kind (i+ (if kind=1 then 2 else 1) - t);rw [iR]at c1 c2;rw [c1,c2]
theorem WK(r:Nat):iX r 1=r+1:=by
 induction r with
 | zero=>exact Bn 1
 | succ r ih=>rw [IE,ih,FL]
section
variable {M:aiB}
end
theorem TU:sY 2 (gi [-1,0]) (dS 0 []):=fun a b ha hb _ hr=>by
 have r1:=vB.fT ha;have r2:=vB.fT hb;omega
theorem afd:ml (jU 2 (gi [-1,0])) (dS 0 []):=fun i j a b ha hb _ gN=>by
 have r1:=vB.fT ha.1;have r2:=vB.fT hb.1;have h1:=ha.2;have h2:=hb.2;omega
theorem afr{M:aiB}(hg:iz M=0):xN (M.length+1) (oC M) (uW M):=by
 obtain⟨fU,ib⟩:=jW hg;have l1:=rC fU ib.1;have d1:=BA (mE fU ib.1) ib.2.2.2.2.1;have c1:=Bs (mE fU ib.1) ib.2.2.1;rw [iR]at d1 c1;have m1:=fU.1;obtain⟨b1,s1,_⟩:=Gk hg;exact TO (n2:=0) l1 vB b1 TU s1 afd d1 Oq c1 N7 (kind:=0) (by omega) (k:=M.length+1) (by unfold gv;rw [if_pos O];omega) (by omega) ⟨by omega,.inr O⟩
theorem afc:mg (jU 2 (gi [-1,0])) (dS 0 []) (fun a=>if a=0 then [1]else []) where
 nd:=fun {p a} _=>by
  show(if a=0 then [(1:Int)]else []).Nodup
  split<;>simp
 mem:=fun {p a b} ha=>by
  have e:∀a:Int,0≤a→a< (2:Nat)→gi [-1,0] a=a - 1:=fun a h0 h1=>by
   rcases(show a=0∨a=1 by omega)with rfl | rfl<;>rfl
  have h1:=ha.2;rw [e a ha.1.1 ha.1.2]at h1;show b∈(if a=0 then [(1:Int)]else [])↔_
  by_cases h0:a=0
  ·subst h0;rw [aj rfl,eT];obtain rfl:p=0:=by omega
   constructor
   ·rintro rfl;exact⟨⟨⟨by omega,by omega⟩,rfl⟩,.inr (.inl rfl)⟩
   rintro⟨⟨hr,h2⟩,_⟩;rw [e b hr.1 hr.2]at h2;omega
  rw [ag h0];constructor
  ·intro h;cases h
  rintro⟨⟨hr,h2⟩,_⟩;rw [e b hr.1 hr.2]at h2;have:=ha.1;omega
theorem afq{M:aiB}(hg:iz M=0):(au (M.length+1) (oC M) (uW M)).length=(gl M 0).length* (M.length+2):=by
 obtain⟨fU,ib⟩:=jW hg;have l1:=rC fU ib.1;obtain⟨b1,s1,U1,e1,f1⟩:=Gk hg;have:=TN (n2:=0) l1 vB b1 TU e1 afc (kind:=0) (by omega) (k:=M.length+1) (by unfold gv;rw [if_pos O];omega) (by omega);rw [f1,aj rfl,WK]at this;have h1:cU (fun a:Int=>if a=0 then [(1:Int)]else []) 0 0=1:=O;rw [h1,Nat.mul_one]at this;exact this
theorem afs(M:aiB):(oC M).length≤(aD M M.length+2)*2:=by
 unfold oC;rw [fN];exact ae4 _
theorem afo{M:aiB}(hg:iz M=0)(h5:M.length+1≤5)(wk:(oC M).length≤500)(hf:(au (M.length+1) (oC M) (uW M)).length≤400):eU (M.length+1) (oC M) (uW M)∧rM M=bO (M.length+1) (au (M.length+1) (oC M) (uW M))∧CQ M=0:=by
 have hx:=CI hf;refine⟨⟨(T3 hg h5 wk).1,afr hg,h5,hf⟩,?_,?_⟩
 ·unfold rM;rw [if_pos hg,if_neg (by omega)];exact hx.2.2
 unfold CQ;rw [if_pos hg,if_neg (by omega)];exact hx.1
theorem afp{M:aiB}(hg:iz M=0)(h5:M.length+1≤5)(wk:(aD M M.length+2)*2≤500)(hf:(gl M 0).length* (M.length+2)≤400):CQ M=0∧iz (rM M)=0∧(rM M).length=M.length+1∧(gl (rM M) 0).length=(gl M 0).length* (M.length+2):=by
 have h1:=afs M;have h2:=afq hg;have p:=afo hg h5 (by omega) (by omega);exact⟨p.2.2,by rw [p.2.1];exact p.1.gd,by rw [p.2.1];exact p.1.len,by rw [p.2.1,p.1.nl,h2]⟩
end
section
open Go.RowKit Tryz
variable{w0 w:World}
theorem Pq{N:Nat}{xss:aiB}(h:GM N xss)(hN:N≤20000):∀p∈xss,p.length≤20001∧∀x∈p,-1≤x∧x≤20001:=fun p hp=>by
 have h1:=h p hp;exact⟨by rw [h1.1];omega,fun x hx=>by have:=h1.2 x hx;omega⟩
theorem YH{M:aiB}(hM:bL M):GM (gl M 0).length M:=fun p hp=> ⟨(hM.2.2.1 p hp).1,fun x hx=>by
 have h1:=hM.2.2.1 p hp;have:=h1.2.1.2.1 x hx;omega⟩
def HB(M:aiB)(a b:Nat):aiB:=((List.range M.length).filter fun k:Nat=>decide (gi (dd M k) (a:Int)≠gi (dd M k) (b:Int))).map fun k:Nat=>gl M (k:Int)
theorem afe{M:aiB}(hM:bL M)(h:∀a b:Nat,a< (gl M 0).length→b< (gl M 0).length→(b:Int)∈fS (gl M 0).length (HB M a b) (a:Int)):tc M:=fun a b ha hb=>by
 have hs:Sys (gl M 0).length (HB M a b):=fun p hp=>by
  obtain⟨k,hk,rfl⟩:=dh.1 hp;have hk:=(fA.1 hk).1;have hk:=gg.1 hk;exact hM.2.2.1.sys _ (by rw [db hk];exact dQ _)
 have hr:=((vF hs (pt:=(a:Int)) (by omega) (by omega)).2.2 (b:Int)).1 (h a b ha hb);have key:∀y:Int,Reach (HB M a b) (a:Int) y→∃c:Nat,y=(c:Int)∧c< (gl M 0).length∧rZ M (fun k=>gi (dd M k) (a:Int)=gi (dd M k) (b:Int)) a c:=by
  intro y hy
  induction hy with
  | refl=>exact⟨a,rfl,ha,.refl⟩
  | step _ hp ih=>
   obtain⟨c,rfl,hc,hl⟩:=ih;obtain⟨k,hk,rfl⟩:=dh.1 hp;obtain⟨hk,hd⟩:=fA.1 hk;have hk:=gg.1 hk;obtain⟨c',oq,e,_,_⟩:=Ta hM hk hc;exact⟨c',e,oq,.step hl hk (fun q=> (sP hd) q) e⟩
 obtain⟨c,e,_,hl⟩:=key _ hr;obtain rfl:c=b:=by omega
 exact hl
theorem UD:oy 3=[[1,0,3,2,5,4],[5,2,1,4,3,0]]:=by decide
theorem MM:bL [[1,0,3,2,5,4],[5,2,1,4,3,0]]:=by decide+kernel
theorem agk:∀a:Nat,a<6→∀b:Nat,b<6→(b:Int)∈fS 6 (HB [[1,0,3,2,5,4],[5,2,1,4,3,0]] a b) (a:Int):=by decide+kernel
theorem UF:aD [[1,0,3,2,5,4],[5,2,1,4,3,0]] 2=6:=by decide+kernel
theorem UE:iz (oy 3)=0:=by
 rw [UD];exact Gj MM (YK MM (by show aD _ 2≤500;rw [UF];omega) (afe MM fun a b ha hb=>agk a ha b hb))
theorem agl:CQ (oy 3)=0∧bL (rM (oy 3))∧(rM (oy 3)).length=3∧(gl (rM (oy 3)) 0).length=24:=by
 have h0:aD (oy 3) (oy 3).length=6:=by rw [UD];exact UF
 have h:=afp UE (by decide) (by rw [h0];omega) (by decide);exact⟨h.1,(jW h.2.1).1,h.2.2.1,h.2.2.2⟩
structure VZ(w0:World)(ks:List Ck)(ix:Nat)(As A4 A5:aiC)(n N:Nat)(A:aiC)(c:Nat)(rs:List aG)(xss:aiB)(S:Nat→Bool)(e:Env)(w:World):Prop where
 f0:e 0= .pointer As
 f4:e 4= .pointer A4
 f5:e 5= .pointer A5
 p0:S 0=true→e 61= .agg #[.slice A n c]
 p1:S 1=true→e 62= .pointer As
 p2:S 2=true→e 63= .agg #[.slice A n c]
 p3:S 3=true→e 64=aiD (N:Int)
 mem:∃(b1 b2:List Ck) (kk:Ck) (vs:List Value),fz w0 As kk∧(S 4=true→∃Ap cp ps,e 65= .slice Ap N cp∧Rg N ps∧b1=[ah 2 Ap N cp ps])∧(S 6=false→vs=[.slice none 0 0])∧(S 5=true→∃A' c' rs' xss',e 66= .agg #[.slice A' n c']∧rs'.length=n∧xss'.length=n∧GM N xss'∧b2=aE 32 2 A' n c' rs' xss'∧(S 6=true→vs=[.slice A' n c']))∧
  St w0 w (Bx 24 1 A5 [.slice A n c]::Bx 24 1 A4 vs::(aE 32 2 A n c rs xss++ (b2++ (b1++ks.set ix kk))))
abbrev vI(A4 A5:aiC)(vs:List Value)(ms X:List Ck):List Ck:=
 Bx 24 1 A5 vs::Bx 24 1 A4 [.slice none 0 0]::(ms++X)
theorem Fc{w':World}{A4 A5:aiC}{vs:List Value}{ms HA X:List Ck}(hS:St w0 w (vI A4 A5 vs ms X))(hT:St w w' HA):St w0 w' (vI A4 A5 vs HA X):=((hS.sub (List.Sublist.cons_cons _ (List.Sublist.cons_cons _ (gR _ _)))).call hT).perm ((iH (l₁:=HA)).trans (List.Perm.cons _ (iH (l₁:=HA))))
theorem Ff{A4 A5:aiC}{vs:List Value}{ms ks:List Ck}(ix:Nat){As:aiC}{k:Ck}(n:Int)(hS:St w0 w (vI A4 A5 vs ms ks))(hk:ks[ix]?=some k)(hK:fz w0 As k):
 aA prog 135 [.pointer As,aiD n] w (fun v w'=>∃(r:Int) (k':Ck),v=aiD r∧(0≤r∧(1≤n→r<n)∧(n<1→r=0))∧fz w0 As k'∧St w0 w' (vI A4 A5 vs ms (ks.set ix k'))):=by
 have e:∀X,vI A4 A5 vs ms X=vI A4 A5 vs ms []++X:=fun X=>by simp [vI]
 rw [e]at hS;refine(Fg _ ix n hS hk hK).mono ?_;rintro v w' ⟨r,k',h1,h2,h3,h4⟩;rw [←e]at h4;exact⟨r,k',h1,h2,h3,h4⟩
set_option maxHeartbeats 2000000 in
theorem SM{ks:List Ck}(ix:Nat){As:aiC}{k:Ck}(most:Nat)(hS:St w0 w ks)(hk:ks[ix]?=some k)(hK:fz w0 As k)(hm:8≤most∧most≤1000):
 aA prog 125 [.pointer As,aiD (most:Int)] w (M1 w0 ks ix As):=by
 refine bk func125 O ntmps125 O (qH O O) (aQ O (gS hS O ?_));intro A4 w1 ao;refine ad O (aa.call (tY (ix+1) 4 ao (by exact hk) hK) O O O ?_);rintro _ w2 ⟨r,k1,rfl,hr,nw,ar⟩;have ar:St w0 w2 (Bx 24 1 A4 [.slice none 0 0]::ks.set ix k1):=ar;refine aa.add O O O (by omega) ?_;obtain⟨p,hp⟩:∃p:Nat,2+r=p:=⟨(2+r).toNat,by omega⟩;rw [hp];refine aa.call (zW p _ (by omega)) O O O ?_;rintro _ w3 ⟨A,c,rs,xss,rfl,bW,dA,hG,hT⟩;refine gS (ar.call hT) O ?_;intro A5 w4 aJ;refine bG 1 0 aJ O O O O O O O ?_;intro w5 aK;have aK:St w0 w5 (vI A4 A5 [.slice A 2 c] (aE 32 2 A 2 c rs xss) (ks.set ix k1)):=aK.perm (List.Perm.cons _ (iH (l₁:=aE 32 2 A 2 c rs xss)));clear ao ar aJ hT;refine vb 0 O ?_;refine lC (α:=Fo) (fun s=> [(0,.pointer As),(1,aiD (most:Int)),(4,.pointer A4),(5,.pointer A5)]) (fun s w'=> (1≤s.n∧s.n≤5)∧(1≤s.N∧s.N≤20000)∧s.rs.length=s.n∧s.xss.length=s.n∧GM s.N s.xss∧fz w0 As s.k∧St w0 w' (vI A4 A5 [.slice s.A s.n s.c] (aE 32 2 s.A s.n s.c s.rs s.xss) (ks.set ix s.k))) ?_ ?_
 ·refine aQ O (aa.call (Ff ix 8 aK (lB hk) nw) O O O ?_);rintro _ w6 ⟨q,k2,rfl,hq,fB,aR⟩;rw [kI]at aR;clear aK;refine ay O ?_;refine aB _ O (fun h1=>?_) (fun h1=>?_)
  ·refine av O (aa.call (Um _) O O O ?_);rintro _ w7 ⟨Ae,re,rfl,dF⟩;have aV:=Fc aR dF;refine bG 1 0 aV O O O O O O O ?_;intro w8 bA;refine aF O (tQ ?_);exact⟨⟨1,2,Ae,1,[re],F7,k2⟩,⟨O,O,O,O,ae⟩,(by show 1≤1∧1≤5;decide),(by show 1≤2∧2≤20000;decide),O,O,Ba,fB,bA⟩
  ·refine bP O ?_;refine aB _ O (fun h2=>?_) (fun h2=>?_)
   ·have aR:St w0 w6 (Bx 24 1 A4 [.slice none 0 0]::ks.set ix k2):=aR.tail.sub (List.Sublist.cons_cons _ (gR _ _));refine av O (aa.call (acO (ix+1) most aR (by exact lB hk) fB hm) O O O ?_);rintro _ w7 ⟨n,A',c',rs',xss',X,k3,rfl,hn,kr,hb,mm,hX,aV⟩;have aV:St w0 w7 (X++ (Bx 24 1 A4 [.slice none 0 0]::(ks.set ix k2).set ix k3)):=aV;rw [kI]at aV;refine bG 1 0 (aV.perm iH) O O O O O O O ?_;intro w8 bA;refine bh O (eZ (eE ?_));refine kX O (bA.rd 0 O) ?_;exact⟨n,A',c',rs',xss',X,k3,O,hn,kr,hb,mm,hX,bA.tail⟩
   ·refine bP O ?_;refine aB _ O (fun h3=>?_) (fun h3=>?_)
    ·refine av O (aa.call (Ff ix 2 aR (lB hk) fB) O O O ?_);rintro _ w7 ⟨q2,k3,rfl,K3,mm,aV⟩;rw [kI]at aV;refine aa.add O O O (by omega) ?_;obtain⟨p2,gX⟩:∃p:Nat,2+q2=p:=⟨(2+q2).toNat,by omega⟩;rw [gX];refine aa.call (zW p2 _ (by omega)) O O O ?_;rintro _ w8 ⟨B,cb,rb,oE,rfl,l6,tR,Zp,ew⟩;refine aa.call (Um _) O O O ?_;rintro _ w9 ⟨Ae,re,rfl,js⟩;have hB:br w8 B 2 rb oE:=St.gC (ks:=[]) (by rw [fg];exact ew) (by omega);have hE:br w9 Ae 1 [re] F7:=St.gC (ks:=[]) (by rw [fg];exact js) O;refine aa.call (EO B 2 cb rb oE (2*p2) Ae 1 1 [re] F7 2 w9 (hB.later js.below) hE (by decide) (by decide) Zp Ba (by omega) (by omega) (by omega)) O O O ?_;rintro _ dB ⟨A',c',rs',xss',rfl,mr,o3,oe,gV⟩;have bD:=Fc ((aV.later ew.below).later js.below) gV;refine bG 1 0 bD O O O O O O O ?_;intro eu du;refine aF O (tQ ?_);exact⟨⟨3,2*p2*2,A',c',rs',xss',k3⟩,⟨O,O,O,O,ae⟩,(by show 1≤3∧3≤5;decide),⟨by show 1≤2*p2*2;omega,by show 2*p2*2≤20000;omega⟩,mr,o3,oe,mm,du⟩
    ·refine bP O ?_;refine aB _ O (fun h4=>?_) (fun h4=>?_)
     ·have hg:=UE;have P7:=(jW hg).1;have P6:=(jW hg).2.1;obtain⟨zQ,wR,gX,o0⟩:=agl;refine av O ?_;refine aa.call (SE 3 _ (by decide)) O O O ?_;rintro _ w7 ⟨B,cb,rb,rfl,l6,dF⟩;have hB:br w7 B 2 rb (oy 3):=St.gC (ks:=[]) (by rw [fg];exact dF) O;refine aa.call (LH B 2 cb rb (oy 3) _ hB P7 P6) O O O ?_;rintro _ w8 ⟨X,cx,Y,cy,ys,rfl,tR,ew⟩;have iL:=I8 P7 P6 ew;refine aa.call (ac2 _) O O O ?_;rintro _ w9 ⟨Z,cz,W,cw,zs,rfl,nB,ql⟩;refine aa.call (ac1 X Z Y W cx cz cy cw ys zs (oy 3) _ hg (iL.later ql) nB) O O O ?_;rintro _ dB ⟨Am,cm,kB,rfl,pz,tx⟩;have bD:=Fc (((aR.later dF.below).later ew.below).later ql) tx;refine ad O (bG 1 0 bD O O O O O O O ?_);intro eu du;have PX:=YH wR;rw [o0]at PX;refine aF O (tQ ?_);exact⟨⟨(rM (oy 3)).length,24,Am,cm,kB,rM (oy 3),k2⟩,⟨O,O,O,O,ae⟩,⟨by show 1≤(rM (oy 3)).length;omega,by show(rM (oy 3)).length≤5;omega⟩,(by show 1≤24∧24≤20000;decide),pz,O,PX,fB,du⟩
     ·refine bP O ?_;refine aB _ O (fun h5=>?_) (fun h5=>?_)
      ·refine av O (aa.call (Ff ix 2 aR (lB hk) fB) O O O ?_);rintro _ w7 ⟨q2,k3,rfl,K3,mm,aV⟩;rw [kI]at aV;refine aa.add O O O (by omega) ?_;obtain⟨p2,gX⟩:∃p:Nat,1+q2=p:=⟨(1+q2).toNat,by omega⟩;rw [gX];refine aa.call (acZ p2 _ (by omega)) O O O ?_;rintro _ w8 ⟨A',c',rs',xss',rfl,mr,o3,oe,ew⟩;have bA:=Fc aV ew;refine bG 1 0 bA O O O O O O O ?_;intro w9 aS;refine aF O (tQ ?_);exact⟨⟨3,8*p2,A',c',rs',xss',k3⟩,⟨O,O,O,O,ae⟩,(by show 1≤3∧3≤5;decide),⟨by show 1≤8*p2;omega,by show 8*p2≤20000;omega⟩,mr,o3,oe,mm,aS⟩
      ·refine kD O (tQ ?_);exact⟨⟨2,2*p,A,c,rs,xss,k2⟩,⟨O,O,O,O,ae⟩,(by show 1≤2∧2≤5;decide),⟨by show 1≤2*p;omega,by show 2*p≤20000;omega⟩,bW,dA,hG,fB,aR⟩
 clear aK bW dA hG;rintro⟨n,N,A,c,rs,xss,k2⟩ e w6 ⟨hn,hN,bW,dA,hG,fB,aR⟩;dsimp only at hn hN bW dA hG fB aR⊢;refine bP O ?_;refine Cd.loop (α:=Fo×Nat) (fun s=> [(0,.pointer As),(1,aiD (most:Int)),(4,.pointer A4),(5,.pointer A5),(6,aiD (s.2:Int))]) (fun s w'=> ((1≤s.1.n∧s.1.n≤5)∧(1≤s.1.N∧s.1.N≤20000)∧s.1.rs.length=s.1.n∧s.1.xss.length=s.1.n∧GM s.1.N s.1.xss∧fz w0 As s.1.k∧St w0 w' (vI A4 A5 [.slice s.1.A s.1.n s.1.c] (aE 32 2 s.1.A s.1.n s.1.c s.1.rs s.1.xss) (ks.set ix s.1.k)))∧s.2≤5) (fun s=>5 - s.2) (⟨n,N,A,c,rs,xss,k2⟩,0) ⟨O,O,O,O,O,ae⟩ ⟨⟨hn,hN,bW,dA,hG,fB,aR⟩,aW _⟩ ?_;clear aR bW dA hG hn hN fB;rintro⟨⟨n,N,A,c,rs,xss,k2⟩,i⟩ e w7 ⟨⟨hn,hN,bW,dA,hG,fB,aV⟩,hi⟩;dsimp only at hn hN bW dA hG fB aV hi⊢;refine Vi 1 O ?_;refine lC (α:=Bool) (fun b=> [(0,.pointer As),(1,aiD (most:Int)),(4,.pointer A4),(5,.pointer A5),(6,aiD (i:Int)),(51,.bool b)]) (fun b w'=> (b=true→i<5)∧Below w7.heap.size w7 w') ?_ ?_
 ·refine aQ O ?_;refine bY 46 O (fun h6=>?_) (fun h6=>?_)
  ·refine aa.g O O O (aa.bq 0 (aV.rd 0 O) O O O (aa.g O O O (aa.call (vA A n c rs xss w7 (St.gC aV.tail.tail (by omega)) (by omega)) O O O ?_)));rintro _ w8 ⟨rfl,ew⟩;rw [hG.first (by omega)];refine aa.g O O O (ad O (aa.g O O O (aF O (tQ ?_))));exact⟨_,⟨O,O,O,O,O,O,ae⟩,fun _=>by omega,ew.below⟩
  ·refine ai O O O O O (ai O O O O O (ai O O O O O (ai O O O O O (aF O (tQ ?_)))));exact⟨_,⟨O,O,O,O,O,O,ae⟩,(fun h=>nomatch h),Below.refl _ _⟩
 rintro b e w8 ⟨lI,oo⟩;have bA:=aV.later oo;clear aV;refine Cd.cond O (fun hb=>?_) (fun hb=>?_)
 ·have hi5:=lI hb;refine av O (aa.call (Ff ix 3 bA (lB hk) fB) O O O ?_);rintro _ w9 ⟨q2,k3,rfl,K3,mm,aS⟩;rw [kI]at aS;refine aa.add O O O (by omega) ?_;obtain⟨p2,gX⟩:∃p:Nat,2+q2=p:=⟨(2+q2).toNat,by omega⟩;rw [gX];refine aa.call (zW p2 _ (by omega)) O O O ?_;rintro _ dB ⟨A',c',rs',xss',rfl,mr,o3,oe,tx⟩;have bD:=Fc aS tx;refine bG 1 0 bD O O O O O O O ?_;intro eu du;refine ad O (aa.add O O O (by omega) (aF O (tQ ?_)));exact⟨(⟨2,2*p2,A',c',rs',xss',k3⟩,i+1),by show 5 - (i+1)<5 - i;omega,⟨O,O,O,O,O,ae⟩,⟨(by show 1≤2∧2≤5;decide),⟨by show 1≤2*p2;omega,by show 2*p2≤20000;omega⟩,mr,o3,oe,mm,du⟩,by show i+1≤5;omega⟩
 ·refine aY O (aZ (cL O ?_));refine aa.call (Ff ix 2 bA (lB hk) fB) O O O ?_;rintro _ w9 ⟨q2,k3,rfl,K3,mm,aS⟩;rw [kI]at aS;have aK:=aS;have fB:=mm;clear aS bA;refine ay O ?_;refine aB _ O (fun h1=>?_) (fun h1=>?_)
  ·refine bP O ?_;refine xE (by kernel_rfl) (by kernel_rfl) (fun S e1 w1=>VZ w0 ks ix As A4 A5 n N A c rs xss S e1 w1) (fun w6 hb=> ⟨O,O,O,fun h=> (nomatch h),fun h=> (nomatch h),fun h=> (nomatch h),fun h=> (nomatch h),[],[],k3,[.slice none 0 0],fB,fun h=> (nomatch h),fun _=>O,fun h=> (nomatch h),aK.later hb⟩) ?_ ?_
   ·intro S i o e1 w6 hq bE hd cg hI;obtain⟨f0,f4,f5,p0,p1,p2,p3,B1,B2,kk,vs,dw,m4,m6,m5,hT⟩:=hI;have hX:br w6 A n rs xss:=St.gC hT.tail.tail (by omega)
    match i,hq,bE with
    | 0,hq,bE=>
     obtain rfl:=cO hq;refine aa.bq 0 (hT.rd 0 O) (by exact f5) O O (aa.n ?_);exact⟨f0,f4,f5,fun _=>O,p1,p2,p3,B1,B2,kk,vs,dw,m4,m6,m5,hT⟩
    | 1,hq,bE=>
     obtain rfl:=cO hq;refine y8 O (by exact f0) O (aa.n ?_);exact⟨f0,f4,f5,p0,fun _=>O,p2,p3,B1,B2,kk,vs,dw,m4,m6,m5,hT⟩
    | 2,hq,bE=>
     obtain rfl:=cO hq;refine aa.bq 0 (hT.rd 0 O) (by exact f5) O O (aa.n ?_);exact⟨f0,f4,f5,p0,p1,fun _=>O,p3,B1,B2,kk,vs,dw,m4,m6,m5,hT⟩
    | 3,hq,bE=>
     obtain rfl:=cO hq;refine aa.call (vA A n c rs xss w6 hX (by omega)) O (by exact ax (fun v=> [v]) (p2 (cV hd 2 O))) O ?_;rintro _ w7 ⟨rfl,gV⟩;have dF:=hT.later gV.below;rw [hG.first (by omega)];refine aa.n ?_;exact⟨f0,f4,f5,p0,p1,p2,fun _=>O,B1,B2,kk,vs,dw,m4,m6,m5,dF⟩
    | 4,hq,bE=>
     obtain rfl:=cO hq;have tH:=lB (k':=kk) hk;have e:(Bx 24 1 A5 [.slice A n c]::Bx 24 1 A4 vs::(aE 32 2 A n c rs xss++ (B2++ (B1++ks.set ix kk))))=(Bx 24 1 A5 [.slice A n c]::Bx 24 1 A4 vs::(aE 32 2 A n c rs xss++ (B2++B1)))++ks.set ix kk:=by simp
     have uB:=hT;rw [e]at uB;refine aa.call (Sw _ ix N uB tH dw (by omega)) O (by exact xu (p1 (cV hd 1 O)) (p3 (cV hd 3 O))) O ?_;rintro _ w7 ⟨Ap,cp,ps,k7,rfl,jZ,sl,dF⟩;rw [kI]at dF;have ew:St w0 w7 (Bx 24 1 A5 [.slice A n c]::Bx 24 1 A4 vs::(aE 32 2 A n c rs xss++ (B2++ ([ah 2 Ap N cp ps]++ks.set ix k7)))):=by
      refine(dF.sub (ks':=ah 2 Ap N cp ps::Bx 24 1 A5 [.slice A n c]::Bx 24 1 A4 vs::((aE 32 2 A n c rs xss++B2)++ks.set ix k7)) ?_).perm ?_
      ·rw [←fR (aE 32 2 A n c rs xss)];exact List.Sublist.cons_cons _ (List.Sublist.cons_cons _ (List.Sublist.cons_cons _ ((rX _ _).append (fJ _))))
      ·rw [←fR (aE 32 2 A n c rs xss)];exact(List.Perm.swap _ _ _).trans (List.Perm.cons _ ((List.Perm.swap _ _ _).trans (List.Perm.cons _ iH.symm)))
     refine aa.n ?_;exact⟨f0,f4,f5,p0,p1,p2,p3,[ah 2 Ap N cp ps],B2,k7,vs,sl,fun _=> ⟨Ap,cp,ps,O,jZ,O⟩,m6,m5,ew⟩
    | 5,hq,bE=>
     obtain rfl:=cO hq;obtain⟨Ap,cp,ps,nv,jZ,rfl⟩:=m4 (cV hd 4 rfl);have n6:S 6=false:=by
      cases h:S 6 with
      | false=>rfl
      | true=>rw [←bE];exact(cV (cg 6 _ h rfl) 5 rfl).symm
     have hP:bS w6 Ap N ps:=((hT.sub ((((gR _ _).trans (gR _ _)).cons _).cons _):St w0 w6 (ah 2 Ap N cp ps::ks.set ix kk))).bc 0 O;refine aa.call (SF A n c rs xss N Ap cp ps w6 hX (by omega) hG.sys (by omega) hP (fun x h0 h1=>jZ.gi h0 h1)) O (by exact xu (p0 (cV hd 0 O)) nv) O ?_;rintro _ w7 ⟨A',c',rs',rfl,mr,gV⟩;have ew:St w0 w7 (Bx 24 1 A5 [.slice A n c]::Bx 24 1 A4 vs::(aE 32 2 A n c rs xss++ (aE 32 2 A' n c' rs' (xss.map (mY N ps))++ ([ah 2 Ap N cp ps]++ks.set ix kk)))):=by
      refine((hT.sub (ks':=Bx 24 1 A5 [.slice A n c]::Bx 24 1 A4 vs::(aE 32 2 A n c rs xss++ ([ah 2 Ap N cp ps]++ks.set ix kk))) ?_).call gV).perm ?_
      ·exact List.Sublist.cons_cons _ (List.Sublist.cons_cons _ ((fJ _).append (gR _ _)))
      ·refine(iH (l₁:=aE 32 2 A' n c' rs' (xss.map (mY N ps)))).trans (List.Perm.cons _ ((iH (l₁:=aE 32 2 A' n c' rs' (xss.map (mY N ps)))).trans (List.Perm.cons _ ?_)));rw [←fR (aE 32 2 A' n c' rs' (xss.map (mY N ps))) (aE 32 2 A n c rs xss),←fR (aE 32 2 A n c rs xss) (aE 32 2 A' n c' rs' (xss.map (mY N ps)))];exact lh.append_right _
     refine aa.n ?_;exact⟨f0,f4,f5,p0,p1,p2,p3,[ah 2 Ap N cp ps],aE 32 2 A' n c' rs' (xss.map (mY N ps)),kk,vs,dw,fun _=> ⟨Ap,cp,ps,nv,jZ,O⟩,m6,fun _=> ⟨A',c',rs',_,O,mr,by simp [dA],hG.T4 jZ,O,fun h=> (nomatch n6.symm.trans h)⟩,ew⟩
    | 6,hq,bE=>
     obtain rfl:=cO hq;obtain⟨A',c',rs',xss',zn,mr,o3,oe,rfl,_⟩:=m5 (cV hd 5 rfl);obtain rfl:=m6 bE;refine bG 1 1 hT O (by exact f4) (by exact zn) O O O O ?_;intro w7 dF;refine aa.n ?_;exact⟨f0,f4,f5,p0,p1,p2,p3,B1,_,kk,[.slice A' n c'],dw,m4,fun h=> (nomatch (show true=false from h)),fun _=> ⟨A',c',rs',xss',zn,mr,o3,oe,O,fun _=>O⟩,dF⟩
    | i+7,hq,_=>exact(nomatch hq)
   ·intro S e1 w6 dL hI;obtain⟨f0,f4,f5,p0,p1,p2,p3,B1,B2,kk,vs,dw,m4,m6,m5,hT⟩:=hI;obtain⟨A',c',rs',xss',zn,mr,o3,oe,rfl,wV⟩:=m5 (dL 5 (by decide));obtain rfl:=wV (dL 6 (by decide));refine CN (F:=[(4,.pointer A4)]) ⟨f4,ae⟩ (xF O (kX O (hT.rd 1 O) ?_));have js:=hT.tail.tail.sub (ks':=aE 32 2 A' n c' rs' xss'++ks.set ix kk) (((fJ _).append (gR _ _)).trans (gR _ _));exact⟨n,A',c',rs',xss',aE 32 2 A' n c' rs' xss',kk,O,by omega,js.cap 0 O,Pq oe hN.2,dw,fun lO Y h=>St.gC h (by omega),js⟩
  ·refine av O (aa.bq 0 (aK.rd 0 O) O O O (bG 1 1 aK O O O O O O O ?_));intro kh fK;refine bh O (kX O (fK.rd 1 O) ?_);have fK:St w0 kh (aE 32 2 A n c rs xss++ks.set ix k3):=fK.tail.tail;exact⟨n,A,c,rs,xss,aE 32 2 A n c rs xss,k3,O,by omega,fK.cap 0 O,Pq hG hN.2,fB,fun lO Y h=>St.gC h (by omega),fK⟩
theorem acB(Ac:aiC)(nc cc:Nat)(bs:List Int)(w:World)(hY:qQ w Ac nc bs)(qu:nc≤1000000):
 aA prog 80 [.slice Ac nc cc] w (fun v w'=>∃(As:aiC) (k:Ck),v= .pointer As∧(∀w0,qQ w0 Ac nc bs→fz w0 As k)∧St w w' [k]):=by
 refine bk func80 O ntmps80 O (cK O) ?_;refine aQ O (aa.len O O ?_);refine nk O O (sU _ (by omega)) ?_;refine Fw O O O fun r1 _=>?_
 refine Vx (by exact inferInstance) (by exact inferInstance) (by exact inferInstance) O O O O O O O O (VA (St.refl w) O O ?_);intro As w2 hS;refine ay O ?_;refine Cd.loop (α:=Nat×Int) (fun s=> [(0,.slice Ac nc cc),(3,.pointer As),(4,aiD (s.1:Int))]) (fun s w'=>St w w' [Bx 118 3 As [.slice Ac nc cc,aiD 0,.int .u64 s.2]]∧s.1≤nc) (fun s=>nc - s.1) (0,_) ⟨O,O,O,ae⟩ ⟨hS,aW _⟩ ?_;rintro⟨i,h⟩ e w3 ⟨ao,hi⟩;dsimp only at ao hi⊢;refine aQ O (aa.len O O (ad O ?_));refine bY 16 O (fun h1=>?_) (fun h1=>?_)
 ·skip
  refine aa.g O O O (ad O (aa.g O O O (ay O ?_)));refine aB _ O (fun h2=>?_) (fun h2=>?_)
  ·skip
   have Y3:=hY.at_ (j:=(i:Int)) (by omega) (by omega);have wx:=hY.below ao.below;refine bP O ?_;refine iU [15] [yP (As),yP (As),yP (As),yP (aq (As) 2),.ex (.int .u64 h),.pr (fun v _=>∃r:Int,v= .int .u64 r),yS (Ac) (nc) (cc),yI ((i:Int)),yP (aq Ac (i:Int).toNat),.ex (.int .u8 (bs.getD (i:Int).toNat 0)),.ex (.int .u64 (bs.getD (i:Int).toNat 0)),.pr (fun v _=>∃r:Int,v= .int .u64 r),.pr (fun v _=>∃r:Int,v= .int .u64 r),yP (As),yP (aq (As) 2),.pr (fun _ w'=>∃r:Int,St w w' [Bx 118 3 As [.slice Ac nc cc,aiD 0,.int .u64 r]])] (by kernel_rfl) (by kernel_rfl) (ly (ly (ly (ly (ly (bV.2 ⟨Ye.b9 (fun _ _ _ h _=>h),(ly (ly (ly (ly (ly (bV.2 ⟨Ye.b9 (fun _ _ _ h _=>h),(bV.2 ⟨Ye.b9 (fun _ _ _ h _=>h),(ly (ly (bV.2 ⟨Ye.b9 (fun v w w' h hb=>by obtain⟨r,h⟩:=h;exact⟨r,h.later hb⟩),(fun _ h=>by cases h)⟩)))⟩)⟩))))))⟩)))))) ?_ ?_
   ·refine⟨ba O,ba O,cP fun _ _ hb _ _ _=>mh ((ao.rd 0 O).below hb) (Nat.succ_pos _) O O (aX O O),cP fun _ _ hb _ _ _=>aH ((ao.rd 0 O).below hb) O O O O inferInstance (aX O O),?_,?_,ba O,ba O,?_,?_,?_,?_,?_,cP fun _ _ hb _ _ _=>mh ((ao.rd 0 O).below hb) (Nat.succ_pos _) O O (aX O O),cP fun _ _ hb _ _ _=>aH ((ao.rd 0 O).below hb) O O O O inferInstance (aX O O),?_,ae⟩
    ·refine cP fun e1 w1 hb hp aL hq=>?_
     refine gK (k:= .u64) ((ao.rd 0 O).below hb) O O O O O (aa.n (fh O (by exact O)))
    ·intro e1 w1 cc dp bJ dz hp aL hq;show aa _ _ _ _ _ _ _;refine Nk O O O fun r _=>?_
     refine aa.n ?_;exact fF.dn O (Below.refl _ _) ⟨r,O⟩
    ·refine cP fun e1 w1 hb hp aL hq=>?_
     refine aw (wx.below hb).2.2 O O O (by omega) (by omega) (aa.n (fh O (by exact O)))
    ·refine cP fun e1 w1 hb hp aL hq=>?_
     refine Ni (wx.below hb) O (by omega) O O (aa.n (fh O (by exact O)))
    ·intro e1 w1 cc dp bJ dz hp aL hq;show aa _ _ _ _ _ _ _;refine nk O O (sU _ (by omega)) (aa.n (fh O (by exact O)))
    ·refine cP fun e1 w1 hb hp aL hq=>?_
     obtain⟨r,hr⟩:=(hp 5 _ _ (by kernel_rfl) rfl rfl (by kernel_rfl));refine Fw (by exact hr) O O fun r _=>?_
     refine aa.n ?_;exact fF.dn O (Below.refl _ _) ⟨r,O⟩
    ·refine cP fun e1 w1 hb hp aL hq=>?_
     obtain⟨r,hr⟩:=(hp 11 _ _ (by kernel_rfl) rfl rfl (by kernel_rfl));refine Fw (by exact hr) O O fun r _=>?_
     refine aa.n ?_;exact fF.dn O (Below.refl _ _) ⟨r,O⟩
    refine iY fun e1 w1 hb hp aL hq=>?_
    obtain⟨r,hr⟩:=(hp 12 _ _ (by kernel_rfl) rfl rfl (by kernel_rfl));refine jS 0 (ao.later hb) O O (by exact hr) O O ?_;intro w9 hT;refine aa.n ?_;exact eA.st O ⟨r,hT⟩
   intro u w5 _ hu _ _;obtain⟨r,hT⟩:=hu 15 _ rfl (by kernel_rfl);refine iq O (aa.add O O O (by omega) (aF O (tQ ?_)));exact⟨(i+1,r),by show nc - (i+1)<nc - i;omega,⟨O,O,O,ae⟩,hT,by show i+1≤nc;omega⟩
  refine aY O (aZ (gE O ?_));refine HM O ?_;exact⟨As,_,O,fun w0 h0=> ⟨Ac,nc,cc,0,h,bs,O,⟨Int.le_refl _,by omega⟩,qu,h0⟩,ao⟩
 skip
 refine ai O O O O O (ai O O O O O (ay O ?_));refine Cd.eV O ?_;refine aY O (aZ (gE O ?_));refine HM O ?_;exact⟨As,_,O,fun w0 h0=> ⟨Ac,nc,cc,0,h,bs,O,⟨Int.le_refl _,by omega⟩,qu,h0⟩,ao⟩
section
variable {P:Program} {N:Nat} {ops:Array Oper} {K:Env→World→Prop} {rest:List Oper} {e:Env} {w0 w w':World} {ks:List Ck} {d:Nat} {ty:TypeId} {pos:String} {af:Array Edge}
def T9(a n u m t:Nat)(R:Value→World→Prop):jm
 | .normal,e,w=>∃A f B g,e a= .pointer A∧Rd w A n f∧e u= .pointer B∧Rd w B m g∧R (.tuple #[.agg ((List.range n).map f).toArray,.agg ((List.range m).map g).toArray,e t]) w
 | .ret,e,w=>∃A f B g,e a= .pointer A∧Rd w A n f∧e u= .pointer B∧Rd w B m g∧R (.tuple #[.agg ((List.range n).map f).toArray,.agg ((List.range m).map g).toArray,e t]) w
 | _,_,_=>False
theorem Ua{a n u m t:Nat}{R:Value→World→Prop}{A B:aiC}{f g:Nat→Value}{v:Value}(h:e a= .pointer A)(hR:Rd w A n f)(h':e u= .pointer B)(sv:Rd w B m g)(hv:e t=v)(h2:R (.tuple #[.agg ((List.range n).map f).toArray,.agg ((List.range m).map g).toArray,v]) w):T9 a n u m t R .ret e w:=⟨A,f,B,g,h,hR,h',sv,by rw [hv];exact h2⟩
theorem TH{fn:Func}{R:Value→World→Prop}{a t n b u t' m b' r:Nat}{fs YC:Array Field}{z z':Value}[bB P t (.struct fs)][bp P t z n b][bB P t' (.struct YC)][bp P t' z' m b'](hr:fn.results= #[.cell a t,.cell u t',.tmp r])(wN:Nat.blt 0 n=true)(ku:Nat.blt 0 m=true):∀x a1 e w,jE N a1 e→T9 a n u m r R x e w→bodyPost P fn (fun x w'=>∃v,x= .returned v∧R v w') x a1 w:=by
 intro x a1 e w he q;have hn:0<n:=by simpa [Nat.blt_eq]using wN
 have hm:0<m:=by simpa [Nat.blt_eq]using ku
 have hg:=he.get a;have hh:=he.get u;have Q1:=he.get r;have key:∀(A B:aiC) (f g:Nat→Value),e a= .pointer A→Rd w A n f→e u= .pointer B→Rd w B m g→(results fn a1.tmps).run P w= .ok (.tuple #[.agg ((List.range n).map f).toArray,.agg ((List.range m).map g).toArray,e r]) w:=by
  intro A B f g hA hR hB sv;obtain⟨q,rfl,hl⟩:=HT (P:=P) (t:=t) hn hR;obtain⟨q',rfl,uH⟩:=HT (P:=P) (t:=t') hm sv;rw [iN]at hg hh Q1;simp [results,hr,hg,hh,Q1,hA,hB,asAddr,hl,uH]
 cases x<;>first
  | exact q.elim
  | (
   obtain⟨A,f,B,g,hA,hR,hB,sv,h2⟩:=q;exact⟨he.defers,_,key A B f g hA hR hB sv,_,O,h2⟩)
end
def M3(w0:World)(ks:List Ck)(v:Value)(w':World):Prop:=
 ∃(n:Nat) (A:aiC) (c:Nat) (rs:List aG) (M:aiB) (X:List Ck) (m:Nat) (B:aiC) (d:Nat) (ts:List aG) (K:aiB) (Y:List Ck) (kind:Int),v= .tuple #[.agg #[.slice A n c],.agg #[.slice B m d],aiD kind]∧n≤6∧(n≤c∧c≤9223372036854775807)∧m≤6∧(m≤d∧d≤9223372036854775807)∧(∀(lO:World) (Z:List Ck),St w0 lO (X++Z)→br lO A n rs M)∧(∀(lO:World) (Z:List Ck),St w0 lO (Y++Z)→br lO B m ts K)∧St w0 w' (Y++ (X++ks))
theorem ac3{w0 w:World}{ks:List Ck}(X:List Ck)(ix:Nat){As:aiC}{k:Ck}(most:Nat)(hS:St w0 w (X++ks))(hk:ks[ix]?=some k)(hK:fz w0 As k)(hm:8≤most∧most≤1000):
 aA prog 125 [.pointer As,aiD (most:Int)] w (fun v w'=>∃(n:Nat) (A:aiC) (c:Nat) (rs:List aG) (xss:aiB) (Y:List Ck) (k':Ck),v= .agg #[.slice A n c]∧n≤6∧(n≤c∧c≤9223372036854775807)∧fz w0 As k'∧(∀(lO:World) (Z:List Ck),St w0 lO (Y++Z)→br lO A n rs xss)∧St w0 w' (Y++ (X++ks.set ix k'))):=by
 have e:(X++ks)[X.length+ix]?=some k:=by
  rw [jQ (by omega),Nat.add_sub_cancel_left];exact hk
 refine(SM (X.length+ix) most hS e hK hm).mono ?_;rintro v w' ⟨n,A,c,rs,xss,Y,k',h1,h2,h3,_,h4,h5,h6⟩;rw [show(X++ks).set (X.length+ix) k'=X++ks.set ix k' from by rw [List.set_append,ag (by omega),Nat.add_sub_cancel_left]]at h6;exact⟨n,A,c,rs,xss,Y,k',h1,h2,h3,h4,h5,h6⟩
abbrev AJ(A7 A6 A3 A2:aiC)(v7 v6 v3 v2:List Value)(k:Ck)(X:List Ck):List Ck:=
 Bx 24 1 A7 v7::Bx 24 1 A6 v6::Bx 24 1 A3 v3::Bx 24 1 A2 v2::k::X
theorem aeG{α:Type}(b7 b6 b3 b2 k:α)(X Y Z:List α):(b7::b6::(Y++ (X++ (k::b3::b2::Z)))).Perm (b7::b6::b3::b2::k::(Y++ (X++Z))):=by
 classical
 refine lR.2 fun z=>?_
 simp only [nP,lE,nQ];omega
theorem Tz{α:Type}(X Y Z:List α):(Y++ (X++Z)).Perm (X++ (Y++Z)):=by
 rw [←fR,←fR];exact lh.append_right _
set_option maxHeartbeats 2000000 in
theorem ac4{w0 w:World}{ks:List Ck}(Ac:aiC)(nc cc:Nat)(bs:List Int)(hS:St w0 w ks)(hY:qQ w0 Ac nc bs)(qu:nc≤1000000):
 aA prog 119 [.slice Ac nc cc] w (M3 w0 ks):=by
 refine bk func119 O ntmps119 O (TH O O O) (aQ O (gS hS O ?_));intro A2 w1 ao;refine gS ao O ?_;intro A3 w2 ar;refine ad O (aa.call (acB Ac nc cc bs w2 (hY.below ar.below) qu) O O O ?_);rintro _ w3 ⟨As,k0,rfl,DR,hT⟩;have DR:=DR w0 hY;have az:St w0 w3 (k0::Bx 24 1 A3 [.slice none 0 0]::Bx 24 1 A2 [.slice none 0 0]::ks):=ar.call hT;refine ad O ?_;refine aa.call (SM 0 24 az O DR (by decide)) O O O ?_;rintro _ w4 ⟨n,A,c,rs,M,X,k1,rfl,hn,kr,_,nw,hX,aJ⟩;have aJ:St w0 w4 (X++ (k1::Bx 24 1 A3 [.slice none 0 0]::Bx 24 1 A2 [.slice none 0 0]::ks)):=aJ;refine ad O ?_;refine aa.call (ac3 X 0 8 aJ O nw (by decide)) O O O ?_;rintro _ w5 ⟨m,B,d,ts,K,Y,k2,rfl,hm,sA,fB,zy,aK⟩;have aK:St w0 w5 (Y++ (X++ (k2::Bx 24 1 A3 [.slice none 0 0]::Bx 24 1 A2 [.slice none 0 0]::ks))):=aK;refine gS aK O ?_;intro A6 w6 aR;refine gS aR O ?_;intro A7 w7 aV;refine bG 1 1 aV O O O O O O O ?_;intro w8 bA;refine bG 1 0 bA O O O O O O O ?_;intro w9 aS;have aS:St w0 w9 (AJ A7 A6 A3 A2 [.slice B m d] [.slice A n c] [.slice none 0 0] [.slice none 0 0] k2 (Y++ (X++ks))):=aS.perm (aeG _ _ _ _ _ _ _ _);clear ao ar az aJ aK aR aV bA hT;refine vb 0 O ?_;refine lC (α:=(Nat×aiC×Nat)×(Nat×aiC×Nat)×Ck) (fun s=> [(2,.pointer A2),(3,.pointer A3),(5,.pointer As),(6,.pointer A6),(7,.pointer A7)]) (fun s w'=> (s.1=(n,A,c)∧s.2.1=(m,B,d)∨s.1=(m,B,d)∧s.2.1=(n,A,c))∧fz w0 As s.2.2∧St w0 w' (AJ A7 A6 A3 A2 [.slice s.2.1.2.1 s.2.1.1 s.2.1.2.2] [.slice s.1.2.1 s.1.1 s.1.2.2] [.slice none 0 0] [.slice none 0 0] s.2.2 (Y++ (X++ks)))) ?_ ?_
 ·refine aQ O (aa.call (tY 4 2 aS O fB) O O O ?_);rintro _ dB ⟨r,k3,rfl,hr,mm,bD⟩;have bD:St w0 dB (AJ A7 A6 A3 A2 [.slice B m d] [.slice A n c] [.slice none 0 0] [.slice none 0 0] k3 (Y++ (X++ks))):=bD;refine ay O ?_;refine aB _ O (fun h1=>?_) (fun h1=>?_)
  ·refine av O (aa.bq 0 (bD.rd 1 O) O O O (gS bD O ?_));intro A8 eu du;refine bG 1 0 du O O O O O O O ?_;intro gm eG;refine ad O (aa.bq 0 (eG.rd 1 O) O O O (bG 1 2 eG O O O O O O O ?_));intro dW fC;refine ad O (aa.bq 0 (fC.rd 0 O) O O O (bG 1 1 fC O O O O O O O ?_));intro me ic;refine aF O (tQ ?_);exact⟨((m,B,d),(n,A,c),k3),⟨O,O,O,O,O,ae⟩,.inr ⟨O,O⟩,mm,ic.tail⟩
  refine kD O (tQ ?_);exact⟨((n,A,c),(m,B,d),k3),⟨O,O,O,O,O,ae⟩,.inl ⟨O,O⟩,mm,bD⟩
 rintro⟨⟨n',A',c'⟩,⟨m',B',d'⟩,k3⟩ e wB ⟨yp,mm,hB⟩;dsimp only at yp mm hB⊢;clear aS;refine bP O ?_;refine iU [3,4,5] [.ex (.agg #[.slice A' n' c']),.ex (.agg #[.slice B' m' d']),yP As,.al (fun v=>∃x:Int,v=aiD x) (fun v w'=>∃k':Ck,fz w0 As k'∧St w0 w' (AJ A7 A6 A3 A2 [.slice B' m' d'] [.slice A' n' c'] [.slice none 0 0] [.slice none 0 0] k' (Y++ (X++ks)))),.pr (fun _ w'=>∃k':Ck,fz w0 As k'∧St w0 w' (AJ A7 A6 A3 A2 [.slice B' m' d'] [.slice A' n' c'] [.slice none 0 0] [.slice A' n' c'] k' (Y++ (X++ks)))),.pr (fun _ w'=>∃k':Ck,fz w0 As k'∧St w0 w' (AJ A7 A6 A3 A2 [.slice B' m' d'] [.slice A' n' c'] [.slice B' m' d'] [.slice A' n' c'] k' (Y++ (X++ks)))),.al (fun v=>∃x:Int,v=aiD x) (fun _ _=>True)] (by kernel_rfl) (by kernel_rfl) (ly (ly (ly (bV.2 ⟨Im (fun v w w' h hb=>by obtain⟨k',h3,hT⟩:=h;exact⟨k',h3,hT.later hb⟩),(bV.2 ⟨Ye.b9 (fun v w w' h hb=>by obtain⟨k',h3,hT⟩:=h;exact⟨k',h3,hT.later hb⟩),(bV.2 ⟨Ye.b9 (fun v w w' h hb=>by obtain⟨k',h3,hT⟩:=h;exact⟨k',h3,hT.later hb⟩),(bV.2 ⟨Im (fun v w w' h hb=>ae),(fun _ h=>by cases h)⟩)⟩)⟩)⟩)))) ?_ ?_
 ·refine⟨?_,?_,ba O,?_,?_,?_,?_,ae⟩
  ·intro e1 w1 cc dp bJ dz hp aL hq;show aa _ _ _ _ _ _ _;have hX:Rd w1 A6 1 (fun j=> [Value.slice A' n' c'].getD j undef):=by { have bJ:=mw bJ (b:=1) (by kernel_rfl);rcases(show cc=0∨cc=1 by omega)with h | h; { exact(hB.later (dz h)).rd 1 rfl }; { subst h;obtain⟨k',_,hT⟩:=(hq 3 _ _ (by kernel_rfl) (by kernel_rfl) (by kernel_rfl) rfl rfl).2 (by kernel_rfl);exact hT.rd 1 rfl } }
   refine aa.bq 0 hX O O O (aa.n (fh O (by exact O)))
  ·intro e1 w1 cc dp bJ dz hp aL hq;show aa _ _ _ _ _ _ _;have hX:Rd w1 A7 1 (fun j=> [Value.slice B' m' d'].getD j undef):=by { have bJ:=mw bJ (b:=2) (by kernel_rfl);rcases(show cc=0∨cc=1∨cc=2 by omega)with h | h | h; { exact(hB.later (dz h)).rd 0 rfl }; { subst h;obtain⟨k',_,hT⟩:=(hq 3 _ _ (by kernel_rfl) (by kernel_rfl) (by kernel_rfl) rfl rfl).2 (by kernel_rfl);exact hT.rd 0 rfl }; { subst h;obtain⟨k',_,hT⟩:=hq 4 _ _ (by kernel_rfl) (by kernel_rfl) (by kernel_rfl) rfl rfl (by kernel_rfl);exact hT.rd 0 rfl } }
   refine aa.bq 0 hX O O O (aa.n (fh O (by exact O)))
  ·refine iY fun e1 w1 hb hp aL hq=>?_
   refine aa.call (acA 4 2 (hB.later hb) O mm (by decide)) O O O ?_;rintro _ w9 ⟨x,k',rfl,hx,og,hT⟩;refine aa.n ?_;exact eA.dn O ⟨⟨x,O⟩,k',og,hT⟩
  ·refine oQ 1 fun e1 w1 hp aL hq=>?_
   have dH:=(hp 3 _ _ (by kernel_rfl) O O).2 (by kernel_rfl);obtain⟨k',og,hT⟩:=dH;refine bG 1 3 hT O O O O O O O ?_;intro w9 aS;refine aa.n ?_;exact eA.st O ⟨k',og,aS⟩
  ·refine oQ 2 fun e1 w1 hp aL hq=>?_
   have dH:=hp 4 _ _ (by kernel_rfl) O O (by kernel_rfl);obtain⟨k',og,hT⟩:=dH;refine bG 1 2 hT O O O O O O O ?_;intro w9 aS;refine aa.n ?_;exact eA.st O ⟨k',og,aS⟩
  intro e1 w1 cc dp bJ dz hp aL hq;show aa _ _ _ _ _ _ _;obtain⟨x,wj⟩:=(hp 3 _ _ (by kernel_rfl) rfl rfl).1;refine pI O (by exact wj) O (aa.n ?_);exact fF.dn O (Below.refl _ _) ⟨⟨x,O⟩,ae⟩
 intro u w5 _ hu jM Lj;obtain⟨k',og,hT⟩:=hu 5 _ rfl (by kernel_rfl);obtain⟨⟨x,hx⟩,_⟩:=Lj 6 _ _ rfl;have hT:St w0 w5 (AJ A7 A6 A3 A2 [.slice B' m' d'] [.slice A' n' c'] [.slice B' m' d'] [.slice A' n' c'] k' (Y++ (X++ks))):=hT;refine xF O (Ua O (hT.rd 3 O) O (hT.rd 2 O) hx ?_);have hT:=hT.tail.tail.tail.tail.tail;rcases yp with⟨h1,h2⟩ | ⟨h1,h2⟩
 ·obtain⟨rfl,rfl,rfl⟩:n'=n∧A'=A∧c'=c:=by simpa using h1
  obtain⟨rfl,rfl,rfl⟩:m'=m∧B'=B∧d'=d:=by simpa using h2
  exact⟨n',A',c',rs,M,X,m',B',d',ts,K,Y,x,O,hn,kr,hm,sA,hX,zy,hT⟩
 obtain⟨rfl,rfl,rfl⟩:n'=m∧A'=B∧c'=d:=by simpa using h1
 obtain⟨rfl,rfl,rfl⟩:m'=n∧B'=A∧d'=c:=by simpa using h2
 exact⟨n',A',c',ts,K,Y,m',B',d',rs,M,X,x,O,hm,sA,hn,kr,zy,hX,hT.perm (Tz _ _ _)⟩
abbrev HX(A6 A5 A3 A2:aiC)(v6 v5 v3 v2:List Value)(X:List Ck):List Ck:=
 Bx 24 1 A6 v6::Bx 24 1 A5 v5::Bx 24 1 A3 v3::Bx 24 1 A2 v2::X
theorem aeF{α:Type}(b6 b5 b3 b2:α)(X Y Z:List α):(b6::b5::(Y++ (X++ (b3::b2::Z)))).Perm (b6::b5::b3::b2::(Y++ (X++Z))):=by
 classical
 refine lR.2 fun z=>?_
 simp only [nP,lE,nQ];omega
set_option maxHeartbeats 2000000 in
theorem Ve{w0 w:World}{ks:List Ck}(Ac:aiC)(nc cc:Nat)(bs:List Int)(hS:St w0 w ks)(hY:qQ w0 Ac nc bs)(qu:nc≤1000000):
 aA prog 57 [.slice Ac nc cc] w (M3 w0 ks):=by
 refine bk func57 O ntmps57 O (TH O O O) (aQ O (gS hS O ?_));intro A2 w1 ao;refine gS ao O ?_;intro A3 w2 ar;refine ad O (aa.call (ac4 Ac nc cc bs ar hY qu) O O O ?_);rintro _ w3 ⟨n,A,c,rs,M,X,m,B,d,ts,K,Y,kind,rfl,hn,kr,hm,sA,hX,zy,az⟩;refine ad O (gS az O ?_);intro A5 w4 aJ;refine gS aJ O ?_;intro A6 w5 aK;refine bG 1 1 aK O O O O O O O ?_;intro w6 aR;refine bG 1 0 aR O O O O O O O ?_;intro wB aV;have hB:St w0 wB (HX A6 A5 A3 A2 [.slice B m d] [.slice A n c] [.slice none 0 0] [.slice none 0 0] (Y++ (X++ks))):=aV.perm (aeF _ _ _ _ _ _ _);clear ao ar az aJ aK aR aV;refine ay O ?_;refine iU [3,4] [.ex (.agg #[.slice A n c]),.ex (.agg #[.slice B m d]),yI (kind),.pr (fun _ w'=>St w0 w' (HX A6 A5 A3 A2 [.slice B m d] [.slice A n c] [.slice none 0 0] [.slice A n c] (Y++ (X++ks)))),.pr (fun _ w'=>St w0 w' (HX A6 A5 A3 A2 [.slice B m d] [.slice A n c] [.slice B m d] [.slice A n c] (Y++ (X++ks)))),yI (kind)] (by kernel_rfl) (by kernel_rfl) (ly (ly (ly (bV.2 ⟨Ye.b9 (fun v w w' h hb=>h.later hb),(bV.2 ⟨Ye.b9 (fun v w w' h hb=>h.later hb),(ly (fun _ h=>by cases h))⟩)⟩)))) ?_ ?_
 ·refine⟨cP fun _ _ hb _ _ _=>aa.bq 0 ((hB.later hb).rd 1 O) O O O (aX O O),?_,ba O,?_,?_,ba O,ae⟩
  ·intro e1 w1 cc dp bJ dz hp aL hq;show aa _ _ _ _ _ _ _;have hX:Rd w1 A6 1 (fun j=> [Value.slice B m d].getD j undef):=by { have bJ:=mw bJ (b:=1) (by kernel_rfl);rcases(show cc=0∨cc=1 by omega)with h | h; { exact(hB.later (dz h)).rd 0 rfl }; { subst h;have hT:St w0 _ _:=hq 3 _ _ (by kernel_rfl) (by kernel_rfl) (by kernel_rfl) rfl rfl (by kernel_rfl);exact hT.rd 0 rfl } }
   refine aa.bq 0 hX O O O (aa.n (fh O (by exact O)))
  ·refine iY fun e1 w1 hb hp aL hq=>?_
   refine bG 1 3 (hB.later hb) O O O O O O O ?_;intro w9 aS;refine aa.n ?_;exact eA.st O aS
  refine oQ 1 fun e1 w1 hp aL hq=>?_
  have dH:=hp 3 _ _ (by kernel_rfl) O O (by kernel_rfl);have hT:St w0 _ _:=dH;refine bG 1 2 hT O O O O O O O ?_;intro w9 aS;refine aa.n ?_;exact eA.st O aS
 intro u w5 _ hu _ _;have hT:St w0 w5 (HX A6 A5 A3 A2 [.slice B m d] [.slice A n c] [.slice B m d] [.slice A n c] (Y++ (X++ks))):=hu 4 _ O (by kernel_rfl);refine xF O (Ua O (hT.rd 3 O) O (hT.rd 2 O) O ?_);exact⟨n,A,c,rs,M,X,m,B,d,ts,K,Y,kind,O,hn,kr,hm,sA,hX,zy,hT.tail.tail.tail.tail⟩
theorem WD(Ac:aiC)(nc cc:Nat)(w:World):aA prog 22 [.slice Ac nc cc] w (fun v w'=>v= .bool (decide (4096< (nc:Int)))∧St w w' []):=by
 refine bk func22 O ntmps22 O (cK O) ?_;refine aQ O (aa.len O O (bh O ?_));refine cM O ?_;exact⟨O,St.refl w⟩
theorem LO(A:aiC)(n c:Nat)(xs:List Int)(B:aiC)(m cB:Nat)(ys:List Int)(w:World)(hX:bS w A n xs)(hY:bS w B m ys)(hn:n≤9223372036854775806):
 aA prog 36 [.slice A n c,.slice B m cB] w (fun v w'=>v= .bool (decide (xs=ys))∧St w w' []):=by
 have dA:=hX.1;have tR:=hY.1;refine bk func36 O ntmps36 O (cK O) ?_;refine aQ O (aa.len O O (ad O (aa.len O O (ay O ?_))));refine aB _ O (fun h1=>?_) (fun h1=>?_)
 ·have bt:xs≠ys:=fun e=>h1 (by rw [←dA,←tR,e])
  refine dN O (cM O ?_);exact⟨by rw [cd bt],St.refl w⟩
 have KR:n=m:=by omega
 subst KR;refine bP O ?_;refine Cd.loop (α:=Nat) (fun i=> [(0,.slice A n c),(1,.slice B n cB),(5,aiD (i:Int))]) (fun i w'=>St w w' []∧i≤n∧∀j,j<i→xs[j]?=ys[j]?) (fun i=>n - i) 0 ⟨O,O,O,ae⟩ ⟨St.refl w,aW _,fun j hj=>absurd hj (jk _)⟩ ?_;rintro i e w1 ⟨ao,hi,hj⟩;have tA:=ao.eY hX;have wx:=ao.eY hY;refine aQ O (aa.len O O (ay O ?_));refine aB _ O (fun h2=>?_) (fun h2=>?_)
 ·refine bP O ?_;refine dI [xS (A) (n) (c),xI ((i:Int)),xP (aq (A) ((i:Int)).toNat),xI (gi (xs) ((i:Int))),xS (B) (n) (cB),xI ((i:Int)),xP (aq (B) ((i:Int)).toNat),xI (gi (ys) ((i:Int))),xB (decide (¬(gi (xs) ((i:Int)))=(gi (ys) ((i:Int)))))] (by kernel_rfl) (by kernel_rfl) O (eg O) ?_ ?_
  ·exact⟨Dr O,Dr O,fun _ _ hb _ _=>aw (tA.later hb).2 O O O (by omega) (by omega) (Az O),fun _ _ hb _ _=>aT (tA.later hb) O (by omega) O O (Az O),Dr O,Dr O,fun _ _ hb _ _=>aw (wx.later hb).2 O O O (by omega) (by omega) (Az O),fun _ _ hb _ _=>aT (wx.later hb) O (by omega) O O (Az O),Dr O,ae⟩
  intro u w2 dG _;have ar:=ao.later dG;refine eo O ?_;refine aB _ O (fun h3=>?_) (fun h3=>?_)
  ·have bt:xs≠ys:=fun e=>h3 (by rw [e])
   refine dN O (eZ (eE ?_));refine cM O ?_;exact⟨by rw [cd bt],ar⟩
  have h3:=Decidable.not_not.1 h3;rw [bX (by omega),bX (by omega)]at h3;refine av O (aa.add O O O (by omega) (aF O (tQ ?_)));refine⟨i+1,by show n - (i+1)<n - i;omega,⟨O,O,O,ae⟩,ar,by omega,fun j kF=>?_⟩
  by_cases e:j=i
  ·subst e;rw [gf (by omega),gf (by omega),h3]
  exact hj j (by omega)
 have he:xs=ys:=List.ext_getElem? fun j=>by
  by_cases tG:j<n
  ·exact hj j (by omega)
  rw [oH (by omega),oH (by omega)]
 refine aY O (aZ (gE O ?_));refine cM O ?_;exact⟨by rw [dX he],ao⟩
theorem adn(A:aiC)(n c:Nat)(rs:List aG)(xss:aiB)(B:aiC)(m cB:Nat)(rs':List aG)(oE:aiB)(w:World)(hX:br w A n rs xss)(hY:br w B m rs' oE)(hn:n≤9223372036854775806)(hr:∀x∈xss,x.length≤9223372036854775806):
 aA prog 120 [.slice A n c,.slice B m cB] w (fun v w'=>v= .bool (decide (xss=oE))∧St w w' []):=by
 have dA:=hX.len;have tR:=hY.len;refine bk func120 O ntmps120 O (cK O) ?_;refine aQ O (aa.len O O (ad O (aa.len O O (ay O ?_))));refine aB _ O (fun h1=>?_) (fun h1=>?_)
 ·have bt:xss≠oE:=fun e=>h1 (by rw [←dA,←tR,e])
  refine dN O (cM O ?_);exact⟨by rw [cd bt],St.refl w⟩
 have KR:n=m:=by omega
 subst KR;refine bP O ?_;refine Cd.loop (α:=Nat) (fun i=> [(0,.slice A n c),(1,.slice B n cB),(5,aiD (i:Int))]) (fun i w'=>St w w' []∧i≤n∧∀j,j<i→xss[j]?=oE[j]?) (fun i=>n - i) 0 ⟨O,O,O,ae⟩ ⟨St.refl w,aW _,fun j hj=>absurd hj (jk _)⟩ ?_;rintro i e w1 ⟨ao,hi,hj⟩;have tA:=ao.bF hX;have wx:=ao.bF hY;refine aQ O (aa.len O O (ay O ?_));refine aB _ O (fun h2=>?_) (fun h2=>?_)
 ·have fW:=tA.at_ (i:=(i:Int)) (by omega) (by omega);have hyi:=wx.at_ (i:=(i:Int)) (by omega) (by omega);have fu:(rg rs (i:Int)).n≤9223372036854775806:=by
   rw [←fW.1,db (by omega)];exact hr _ (dQ _)
  refine bP O ?_;refine dI [xS (A) (n) (c),xI ((i:Int)),xP (aq (A) ((i:Int)).toNat),xS ((rg (rs) ((i:Int))).a) ((rg (rs) ((i:Int))).n) ((rg (rs) ((i:Int))).c),xS (B) (n) (cB),xI ((i:Int)),xP (aq (B) ((i:Int)).toNat),xS ((rg (rs') ((i:Int))).a) ((rg (rs') ((i:Int))).n) ((rg (rs') ((i:Int))).c),xB (decide (gl xss (i:Int)=gl oE (i:Int))),xB (decide (¬(gl xss (i:Int)=gl oE (i:Int))))] (by kernel_rfl) (by kernel_rfl) O (eg O) ?_ ?_
  ·refine⟨Dr O,Dr O,fun _ _ hb _ _=>aw (tA.top.later hb).2 O O O (by omega) (by omega) (Az O),fun _ _ hb _ _=>bQ (tA.top.later hb) O (by omega) O O (Az O),Dr O,Dr O,fun _ _ hb _ _=>aw (wx.top.later hb).2 O O O (by omega) (by omega) (Az O),fun _ _ hb _ _=>bQ (wx.top.later hb) O (by omega) O O (Az O),?_,fun _ _ _ _ _=>eC O O (Az O),ae⟩;intro e1 w1 hb hp aL;refine aa.call (LO _ _ _ _ _ _ _ _ _ (fW.later hb) (hyi.later hb) fu) O O O ?_;rintro _ w2 ⟨rfl,ak⟩;refine aa.n ?_;exact gD.dn ak.below (by exact O)
  intro u w2 dG _;have ar:=ao.later dG;refine eo O ?_;refine aB _ O (fun h3=>?_) (fun h3=>?_)
  ·have bt:xss≠oE:=fun e=>h3 (by rw [e])
   refine dN O (eZ (eE ?_));refine cM O ?_;exact⟨by rw [cd bt],ar⟩
  have h3:=Decidable.not_not.1 h3;rw [db (by omega),db (by omega)]at h3;refine av O (aa.add O O O (by omega) (aF O (tQ ?_)));refine⟨i+1,by show n - (i+1)<n - i;omega,⟨O,O,O,ae⟩,ar,by omega,fun j kF=>?_⟩
  by_cases e:j=i
  ·subst e;rw [gf (by omega),gf (by omega),h3]
  exact hj j (by omega)
 have he:xss=oE:=List.ext_getElem? fun j=>by
  by_cases tG:j<n
  ·exact hj j (by omega)
  rw [oH (by omega),oH (by omega)]
 refine aY O (aZ (gE O ?_));refine cM O ?_;exact⟨by rw [dX he],ao⟩
def mN(n:Nat)(R:List Int)(i:Nat):List Int:=(List.range n).map fun r:Nat=> (((R.take i).filter fun x=>decide (x=(r:Int))).length:Int)
theorem Bw(n:Nat)(R:List Int)(i:Nat):(mN n R i).length=n:=by simp [mN]
theorem Xe(n:Nat)(R:List Int):mN n R 0=List.replicate n 0:=by
 apply ji (by simp [mN]);intro i h1 h2;simp [mN]
theorem Xg(n:Nat)(R:List Int):mN n R R.length=gL n R:=by
 unfold mN gL;refine mJ fun r _=>?_
 rw [List.take_length,Ub]
theorem FZ{n:Nat}{R:List Int}{i r:Nat}(h:r<n):gi (mN n R i) (r:Int)=(((R.take i).filter fun x=>decide (x=(r:Int))).length:Int):=by
 rw [bX (by rw [Bw];exact h)];simp [mN]
theorem Xf{n:Nat}{R:List Int}{i r:Nat}(h:r<n):0≤gi (mN n R i) (r:Int)∧gi (mN n R i) (r:Int)≤R.length:=by
 rw [FZ h];have:=oJ (fun x=>decide (x=(r:Int))) (R.take i);rw [pf]at this;omega
theorem Xh{n:Nat}{R:List Int}{i r:Nat}(hi:i<R.length)(hr:r<n)(e:gi R (i:Int)=(r:Int)):(mN n R i).set r (gi (mN n R i) (r:Int)+1)=mN n R (i+1):=by
 apply ji (by rw [iw,Bw,Bw]);intro k h1 h2;rw [Bw]at h2;rw [List.getElem_set];have g1:(mN n R (i+1))[k]'(by rw [Bw];exact h2)=gi (mN n R (i+1)) (k:Int):=by rw [bX]
 have g2:(mN n R i)[k]'(by rw [Bw];exact h2)=gi (mN n R i) (k:Int):=by rw [bX]
 rw [g1,g2,FZ h2,FZ h2,FZ hr];have ht:R.take (i+1)=R.take i++ [gi R (i:Int)]:=by rw [rY hi,bX hi]
 rw [ht,nS,dm,e]
 by_cases hk:r=k
 ·subst hk;rw [aj rfl];simp
 rw [ag hk,pG (by simp;omega)];simp
theorem Oh(n:Nat)(A1 A D:aiC)(N m cA cD:Nat)(R:List Int)(w:World)(hB:Rd w A1 3 (fun j=> [Value.int .i64 (n:Int),.slice A N cA,.slice D m cD].getD j undef))(hR:bS w A N R)(hr:∀x∈R,0≤x∧x< (n:Int))(hn:n≤1000)(hN:N≤1000000):
 aA prog 93 [.pointer A1] w (AU (gL n R) w):=by
 have hl:=hR.1;refine bk func93 O ntmps93 O (cK O) (aQ O ?_);refine mh hB (by decide) O O ?_;refine aH hB O O O O inferInstance (gK (j:=0) hB (by exact ax Value.pointer O) O O O O ?_);refine vT n (St.refl w) O O ⟨by omega,by omega⟩ ?_;intro a6 w1 ao;have ao:St w w1 [ah 2 a6 n n (mN n R 0)]:=by rw [Xe];exact ao
 have x6:=Rd.below hB ao.below;refine ad O ?_;refine mh x6 (by decide) O O ?_;refine aH x6 O O O O inferInstance (aM (j:=1) x6 (by exact ax Value.pointer O) O O O O ?_);refine aa.len O O (ay O ?_);refine Cd.loop (α:=Nat) (fun i=> [(3,.slice a6 n n),(14,.slice A N cA),(15,aiD (N:Int)),(16,aiD (i:Int))]) (fun i w'=>i≤N∧St w w' [ah 2 a6 n n (mN n R i)]) (fun i=>N - i) 0 ⟨O,O,O,O,ae⟩ ⟨aW _,ao⟩ ?_;clear ao;rintro i e w2 ⟨hi,ar⟩;refine bK O ?_;refine aB _ O (fun h1=>?_) (fun h1=>?_)
 ·have jt:i<R.length:=by omega
  have hm:=hr _ (gi_in jt);obtain⟨r,qw⟩:∃r:Nat,gi R (i:Int)=r:=⟨(gi R (i:Int)).toNat,by omega⟩;have iD:r<n:=by omega
  have om:=Xf (R:=R) (i:=i) iD;have pN:=ar.eY hR;refine av O (aw pN.2 O O O (by omega) (by omega) (aT pN O (by omega) O O ?_));rw [qw];refine ad O ?_;refine aw (ar.rd 0 O) O O O (by omega) (by show(r:Int)< (n:Int);omega) ?_;refine aT (ar.bc 0 O) O (by show(r:Int).toNat<n;omega) O O ?_;refine aa.add O O O (by omega) ?_;refine aw (ar.rd 0 O) O O O (by omega) (by show(r:Int)< (n:Int);omega) ?_;refine jR 0 (i:=(r:Int)) ar O O O (by show(r:Int).toNat<n;omega) ?_;intro w3 az;have az:St w w3 [ah 2 a6 n n (mN n R (i+1))]:=by
   rw [←Xh jt iD qw];exact az
  refine ad O (aa.add O O O (by omega) (aF O (tQ ?_)));exact⟨i+1,by show N - (i+1)<N - i;omega,⟨O,O,O,O,ae⟩,by omega,az⟩
 have qp:i=R.length:=by omega
 rw [qp,Xg]at ar;refine aY O (aZ (gE O ?_));refine gB O ?_;exact⟨a6,n,by rw [uh],by rw [uh];exact ar⟩
theorem abO(n:Nat)(A D:aiC)(cA cD:Nat)(R:List Int)(rs:List aG)(B:aiB)(w:World)(hR:bS w A R.length R)(hB:br w D B.length rs B)(hP:fO n R B):
 aA prog 34 [.agg #[aiD n,.slice A R.length cA,.slice D B.length cD]] w (fun v w'=>∃A' c',v= .tuple #[.slice A' n c',aiD 0]∧St w w' [ah 2 A' n c' (gL n R)]):=by
 have hn:=hP.n1;have qn:=hP.nn;refine bk func34 O ntmps34 O (sQ O) (aQ O (kK (St.refl w) O O ?_));intro A1 w1 ao;refine ad O (aa.bq 2 (ao.rd 0 O) O O O (aa.call (Ht n A D cA cD R rs B _ (ao.eY hR) (ao.bF hB) hP) O O O ?_));rintro _ w2 ⟨rfl,ak⟩;have ar:=ao.later ak.below
 first | refine eC rfl rfl ?_ | refine aa.not rfl rfl ?_
 refine ay O (Cd.eV O (av O ?_));refine aa.call (Oh n A1 A D R.length B.length cA cD R _ (ar.rd 0 O) (ar.eY hR) (fun x hx=>by have:=hP.fT x hx;omega) (by omega) (by omega)) O O O ?_;rintro _ w3 ⟨A',c',rfl,yx⟩;rw [uh]at yx⊢;refine bh O (Aq O O ?_);exact⟨A',c',O,(ar.call yx).sub (rX _ _)⟩
theorem abR(n:Nat)(A D:aiC)(cA cD:Nat)(R:List Int)(rs:List aG)(B:aiB)(w:World)(hR:bS w A R.length R)(hB:br w D B.length rs B)(hP:fO n R B):
 aA prog 26 [.agg #[aiD n,.slice A R.length cA,.slice D B.length cD]] w (fun v w'=>v= .bool true∧St w w' []):=by
 refine bk func26 O ntmps26 O (cK O) (aQ O (kK (St.refl w) O O ?_));intro A1 w1 ao;refine ad O (aa.bq 2 (ao.rd 0 O) O O O (aa.call (Ht n A D cA cD R rs B _ (ao.eY hR) (ao.bF hB) hP) O O O ?_));rintro _ w2 ⟨rfl,ak⟩;refine bh O (cM O ?_);exact⟨O,(ao.later ak.below).none⟩
theorem abQ(A:aiC)(n c:Nat)(rs:List aG)(M:aiB)(w:World)(hR:br w A n rs M)(hn:n≤c)(hc:c≤9223372036854775807):
 aA prog 62 [.agg #[.slice A n c]] w (fun v w'=>v= .bool (decide (bL M))∧St w w' []):=by
 refine bk func62 O ntmps62 O (cK O) (aQ O (iI (St.refl w) O O ?_));intro A1 w1 ao;refine ad O (aa.bq 0 (ao.rd 0 O) O O O (aa.call (EM A n c rs M _ (ao.bF hR) hn hc) O O O ?_));rintro _ w2 ⟨rfl,ak⟩;refine bh O (cM O ?_);exact⟨O,(ao.later ak.below).none⟩
theorem abP(A:aiC)(n c:Nat)(rs:List aG)(M:aiB)(w:World)(hR:br w A n rs M)(hn:n≤c)(hc:c≤9223372036854775807)(hM:bL M):
 aA prog 61 [.agg #[.slice A n c]] w (fun v w'=>∃A' c',v= .tuple #[.slice A' n c',aiD 0]∧St w w' [ah 2 A' n c' (lG M)]):=by
 refine bk func61 O ntmps61 O (sQ O) (aQ O (iI (St.refl w) O O ?_));intro A1 w1 ao;refine ad O (aa.bq 0 (ao.rd 0 O) O O O (aa.call (EM A n c rs M _ (ao.bF hR) hn hc) O O O ?_));rintro _ w2 ⟨rfl,ak⟩;have ar:=ao.later ak.below
 first | refine eC rfl rfl ?_ | refine aa.not rfl rfl ?_
 refine ay O ?_;refine qM O (fun h=>h hM) ?_;refine av O (aa.call (OG A1 A n c rs M _ (Rd.one (ar.rd 0 O)) (ar.bF hR) hM) O O O ?_);rintro _ w3 ⟨A',c',rfl,yx⟩;refine bh O (Aq O O ?_);exact⟨A',c',O,(ar.call yx).sub (rX _ _)⟩
set_option maxHeartbeats 1000000 in
theorem Sd(A:aiC)(n c:Nat)(rs:List aG)(M:aiB)(w:World)(hT:mL w)(hR:br w A n rs M)(hn:n≤c)(hc:c≤9223372036854775807)(hg:iz M=0):
 aA prog 59 [.agg #[.slice A n c]] w (fun v w'=>∃A' c',v= .tuple #[.slice A' (M.length+2) c',aiD 0]∧St w w' [ah 2 A' (M.length+2) c' (pq M.length (aO M M.length))]):=by
 obtain⟨hM,hG⟩:=jW hg;have hP:=mE hM hG.1;have h5:=hM.1;have hoff:=hG.1;refine bk func59 O ntmps59 O (sQ O) (aQ O (iI (St.refl w) O O ?_));intro A1 w1 ao;refine ad O (aa.bq 0 (ao.rd 0 O) O O O (aa.call (Dt A n c rs M _ (hT.later ao.below) (ao.bF hR) hn hc) O O O ?_));rintro _ w2 (⟨B6,_⟩ | ⟨_,A8,c8,AR,cR,AD,cD,cH,rfl,ju,ak⟩)
 ·exact absurd hg B6
 have ar:=ao.call ak;have BU:bS w2 AR (aD M M.length) (aO M M.length):=ak.bc 1 O;refine ad O (Bc (St.refl w2) O ?_);intro A4 w3 Ql;refine bG 4 0 Ql O O O O O O O ?_;intro w4 J2;have ZG:=BU.later J2.below;have kq:Rd w4 A4 4 _:=J2.rd 0 O;have ZQ:St w w4 []:=(ar.call J2).none;clear ak Ql ar ao;refine ay O (Cd.eV O (av O (dJ (i:=1) (St.refl w4) O O O ?_)));intro fe w5 J3;have lI:=Rd.below kq J3.below;refine aH lI O O O O inferInstance ?_;have JV:Rd w5 (aq A4 1) 3 (fun j=> [Value.int .i64 (M.length:Int),.slice AR (aD M M.length) cR,.slice AD (aD M M.length) cD].getD j undef):=(lI.behind (o:=1) (m:=3) (by omega)).congr fun j hj=>by
  rcases(show j=0∨j=1∨j=2 by omega)with rfl | rfl | rfl<;>rfl
 refine aa.call (Oh M.length (aq A4 1) AR AD (aD M M.length) (aD M M.length) cR cD (aO M M.length) _ JV (ZG.later J3.below) (fun x hx=>by have:=hP.fT x hx;omega) (by omega) (by omega)) O O O ?_;rintro _ w6 ⟨gx,qS,rfl,pU⟩;rw [uh]at pU⊢;have Qn:St w4 w6 [ah 2 gx M.length qS (gL M.length (aO M M.length)),ah 2 fe 1 1 [1]]:=J3.call pU;refine eK 1 Qn O (Qn.bc 0 O) O O O (by omega) (by omega) O ?_;intro H2 WV w7 J4;have J4:St w4 w7 [ah 2 gx M.length qS (gL M.length (aO M M.length)),ah 2 H2 (1+M.length) WV ([1]++gL M.length (aO M M.length))]:=J4;refine dJ (i:=1) J4 O O O ?_;intro MV w8 Qo;refine eK 2 Qo O (Qo.bc 0 O) O O O (by omega) (by omega) O ?_;intro AM N3 w9 J5;have J5:St w4 w9 [ah 2 MV 1 1 [1],ah 2 gx M.length qS (gL M.length (aO M M.length)),ah 2 AM (1+M.length+1) N3 (([1]++gL M.length (aO M M.length))++ [1])]:=J5;refine bh O (Aq O O ?_);refine⟨AM,N3,by rw [show M.length+2=1+M.length+1 by omega],?_⟩;rw [show M.length+2=1+M.length+1 by omega,show pq M.length (aO M M.length)=([1]++gL M.length (aO M M.length))++ [1] by simp [pq]];exact(ZQ.call J5.tail.tail)
theorem adm(n n':Int)(A B A' B':aiC)(a c b d a' c' b' d':Nat)(R R':List Int)(rs rs':List aG)(L L':aiB)(w:World)(hR:bS w A a R)(sv:bS w A' a' R')(hL:br w B b rs L)(Zs:br w B' b' rs' L')(ha:a≤9223372036854775806)(hb:b≤9223372036854775806)(hr:∀x∈L,x.length≤9223372036854775806):
 aA prog 58 [.agg #[aiD n,.slice A a c,.slice B b d],.agg #[aiD n',.slice A' a' c',.slice B' b' d']] w (fun v w'=>v= .bool (decide (n=n'∧R=R'∧L=L'))∧St w w' []):=by
 refine bk func58 O ntmps58 O (cK O) (aQ O (kK (St.refl w) O O ?_));intro A2 w1 ao;refine kK ao O O ?_;intro A3 w2 ar;have hp:=ar.rd 1 O;have hq:=ar.rd 0 O;refine ad O (aH hp O O O O inferInstance (gK (j:=0) hp (by exact ax Value.pointer O) O O O O (aH hq O O O O inferInstance (gK (j:=0) hq (by exact ax Value.pointer O) O O O O (ad O ?_)))));refine bY 10 O (fun h1=>?_) (fun h1=>?_)
 ·refine aa.g O O O (aH hp O O O O inferInstance (aa.g O O O (aM (j:=1) hp (by exact ax Value.pointer O) O O O O (aa.g O O O (aH hq O O O O inferInstance (aa.g O O O (aM (j:=1) hq (by exact ax Value.pointer O) O O O O (aa.g O O O (aa.call (LO A a c R A' a' c' R' _ (ar.eY hR) (ar.eY sv) ha) O O O ?_)))))))));rintro _ w3 ⟨rfl,ak⟩;have az:=ar.later ak.below;have hp:=az.rd 1 O;have hq:=az.rd 0 O;refine ad O ?_;refine bY 17 O (fun h2=>?_) (fun h2=>?_)
  ·refine aa.g O O O (aH hp O O O O inferInstance (aa.g O O O (aM (j:=2) hp (by exact ax Value.pointer O) O O O O (aa.g O O O (aH hq O O O O inferInstance (aa.g O O O (aM (j:=2) hq (by exact ax Value.pointer O) O O O O (aa.g O O O (aa.call (adn B b d rs L B' b' d' rs' L' _ (az.bF hL) (az.bF Zs) hb hr) O O O ?_)))))))));rintro _ w4 ⟨rfl,qx⟩;refine bh O (cM O ?_);exact⟨ax Value.bool (jo.2 ⟨fun h=> ⟨h1,h2,h⟩,fun h=>h.2.2⟩),(az.later qx.below).none⟩
  refine ai O O O O O (ai O O O O O (ai O O O O O (ai O O O O O (ai O O O O O (bh O ?_)))));refine cM O ?_;exact⟨ax Value.bool (cd fun h=>h2 h.2.1).symm,az.none⟩
 refine ai O O O O O (ai O O O O O (ai O O O O O (ai O O O O O (ai O O O O O (ad O (ai O O O O O (ai O O O O O (ai O O O O O (ai O O O O O (ai O O O O O (bh O ?_)))))))))));refine cM O ?_;exact⟨ax Value.bool (cd fun h=>h1 h.1).symm,ar.none⟩
def sc(m:Nat):Nat→Int
 | 0=>1
 | i+1=>sc m i* ((m:Int) - i) / ((i:Int)+1)
def Dj:Nat→Nat→Nat→Nat
 | 0,_,_=>1
 | _+1,0,_=>1
 | _+1,_+1,0=>1
 | f+1,n+1,r+1=>Dj f n (r+1)+Dj f (n+1) r
theorem FM:∀f n r:Nat,n+r≤f→iX n r=Dj f n r
 | 0,n,r,h=>by
  obtain rfl:n=0:=by omega
  rw [Bn];rfl
 | f+1,0,r,_=>by rw [Bn];rfl
 | f+1,n+1,0,_=>by rw [FL];rfl
 | f+1,n+1,r+1,h=>by rw [IE,FM f n (r+1) (by omega),FM f (n+1) r (by omega)];rfl
theorem W1:∀n:Nat,n≤6→∀r:Nat,r≤6→(∀i:Nat,i≤n→0≤sc (n+r) i∧sc (n+r) i≤1000)∧sc (n+r) n=(Dj 12 n r:Int):=by decide+kernel
theorem WJ:∀n:Nat,n≤6→∀r:Nat,r≤6→Dj 12 n r≤1000:=by decide+kernel
theorem W2(n:Nat)(hn:n≤6)(r:Nat)(hr:r≤6):(∀i:Nat,i≤n→0≤sc (n+r) i∧sc (n+r) i≤1000)∧sc (n+r) n=(iX n r:Int):=by
 rw [FM 12 n r (by omega)];exact W1 n hn r hr
theorem NW(n:Nat)(hn:n≤6)(r:Nat)(hr:r≤6):iX n r≤1000:=by
 rw [FM 12 n r (by omega)];exact WJ n hn r hr
theorem N8(n r:Nat)(w:World)(hn:n≤6)(hr:r≤6):
 aA prog 123 [aiD ((n:Int)+r),aiD (n:Int)] w (fun v w'=>v=aiD (iX n r:Int)∧w'=w):=by
 have de:=W2 n hn r hr;have aaa:((n+r:Nat):Int)=(n:Int)+r:=by omega
 refine bk func123 O ntmps123 O (cK O) (bK O ?_);refine Cd.loop (α:=Nat) (fun i=> [(0,aiD ((n:Int)+r)),(5,aiD (sc (n+r) i)),(7,aiD (n:Int)),(8,aiD (i:Int))]) (fun i w'=>w'=w∧i≤n) (fun i=>n - i) 0 ⟨O,O,O,O,ae⟩ ⟨O,aW _⟩ ?_;rintro i e w ⟨rfl,hi⟩;have h0:=de.1 i hi;refine bK O ?_;refine aB _ O (fun h3=>?_) (fun h3=>?_)
 ·have Rh:0≤sc (n+r) i* ((n:Int)+r - i):=Int.mul_nonneg h0.1 (by omega);have wM:sc (n+r) i* ((n:Int)+r - i)≤1000*12:=Int.mul_le_mul h0.2 (by omega) (by omega) (by omega);have hs:sc (n+r) (i+1)=sc (n+r) i* ((n:Int)+r - i) / ((i:Int)+1):=by
   show sc (n+r) i* (((n+r:Nat):Int) - i) / ((i:Int)+1)=_;rw [aaa]
  refine av O (aa.sub O O O (by omega) ?_);refine aa.mul O O O (by omega) ?_;refine ad O (aa.add O O O (by omega) ?_);refine aa.quo O O O (by omega) ?_;refine ad O (aa.add O O O (by omega) (aF O (tQ ?_)));exact⟨i+1,by show n - (i+1)<n - i;omega,⟨O,ax (Value.int .i64) hs.symm,O,O,ae⟩,O,by omega⟩
 have nD:i=n:=by omega
 subst nD;refine aY O (aZ (gE O ?_));refine gP O ?_;exact⟨ax (Value.int .i64) de.2,O⟩
theorem abN(A D:aiC)(n c m d:Nat)(rs ts:List aG)(M K:aiB)(kind:Int)(w:World)(hT:mL w)(hM:br w A n rs M)(hK:br w D m ts K)(hn:n≤c)(hc:c≤9223372036854775807)(hm:m≤d)(hd:d≤9223372036854775807)(h0:lA M K kind=0):
 aA prog 60 [.agg #[.slice A n c],.agg #[.slice D m d],aiD kind] w (fun v w'=>v= .tuple #[aiD (tk M K kind:Int),aiD 0]∧St w w' []):=by
 obtain⟨mo,ow,ov⟩:=yN h0;have fU:=(jW ow).1;have jI:=(jW ov).1;have m1:=fU.1;have m2:=fU.2.1;have k1:=jI.1;have k2:=jI.2.1;have jK:=hM.len;have je:=hK.len;have e0:(rg rs 0).n=(gl M 0).length:=(hM.pE (by omega) (by omega)).symm;have e1:(rg ts 0).n=(gl K 0).length:=(hK.pE (by omega) (by omega)).symm;have zQ:0≤((gl M 0).length:Int)* ((gl K 0).length:Int):=Int.mul_nonneg (by omega) (by omega);have wR:((gl M 0).length:Int)* ((gl K 0).length:Int)≤400*400:=Int.mul_le_mul (by omega) (by omega) (by omega) (by omega);have hq:∀b:Nat,b≤1000→0≤((gl M 0).length:Int)* ((gl K 0).length:Int)* (b:Int)∧((gl M 0).length:Int)* ((gl K 0).length:Int)* (b:Int)≤160000*1000:=fun b hb=> ⟨Int.mul_nonneg zQ (by omega),Int.mul_le_mul (by omega) (by omega) (by omega) (by omega)⟩
 refine bk func60 O ntmps60 O (sQ O) (aQ O (iI (St.refl w) O O ?_));intro A3 w1 ao;refine iI ao O O ?_;intro A4 w2 ar;refine ad O (aa.bq 0 (ar.rd 1 O) O O O (aa.bq 0 (ar.rd 0 O) O O O (ad O (aa.call (TQ A D n c m d rs ts M K kind _ (hT.later ar.below) (ar.bF hM) (ar.bF hK) hn hc hm hd) O O O ?_))));rintro _ w3 ⟨rfl,ak⟩;have az:=ar.later ak.below;rw [h0];refine ay O (Cd.eV O ?_);have Kf:Rd w3 A3 1 (fun _=> .slice A n c):=Rd.one (az.rd 1 O);have Ke:Rd w3 A4 1 (fun _=> .slice D m d):=Rd.one (az.rd 0 O);have tv:=az.bF hM;have mm:=az.bF hK;refine av O (aa.call (CR A3 A n c _ _ Kf O) O O O ?_);rintro _ w3 ⟨rfl,rfl⟩;refine aa.call (CR A4 D m d _ _ Ke O) O O O ?_;rintro _ w3 ⟨rfl,rfl⟩;refine ay O ?_;refine aB _ O (fun hk=>?_) (fun hk=>?_)
 ·have hb:=NW (n+1) (by omega) (m+1) (by omega);have hqb:=hq _ hb;refine av O (aa.add O O O (by omega) (ad O (aa.add O O O (by omega) (ad O ?_))));refine aa.call (um A3 A n c rs M _ _ Kf O tv (by omega)) O O O ?_;rintro _ w3 ⟨rfl,rfl⟩;rw [e0];refine aa.call (um A4 D m d ts K _ _ Ke O mm (by omega)) O O O ?_;rintro _ w3 ⟨rfl,rfl⟩;rw [e1];refine aa.mul O O O (by omega) ?_;refine ad O (aa.add O O O (by omega) (ad O ?_));refine aa.call (N8 (n+1) (m+1) _ (by omega) (by omega)) O (by rfl) O ?_;rintro _ w3 ⟨rfl,rfl⟩;refine aa.mul O O O (by omega) (bh O (HN O O ?_));refine⟨?_,az.none⟩;unfold tk;rw [aj hk,jK,je]
  congr 3
 have hb:=NW n (by omega) m (by omega);have hqb:=hq _ hb;refine av O (aa.call (um A3 A n c rs M _ _ Kf O tv (by omega)) O O O ?_);rintro _ w3 ⟨rfl,rfl⟩;rw [e0];refine aa.call (um A4 D m d ts K _ _ Ke O mm (by omega)) O O O ?_;rintro _ w3 ⟨rfl,rfl⟩;rw [e1];refine aa.mul O O O (by omega) ?_;refine ad O (aa.add O O O (by omega) (ad O ?_));refine aa.call (N8 n m _ (by omega) (by omega)) O O O ?_;rintro _ w3 ⟨rfl,rfl⟩;refine aa.mul O O O (by omega) (bh O (HN O O ?_));refine⟨?_,az.none⟩;unfold tk;rw [ag hk,jK,je]
 congr 3
end
section
open Tryz
variable{b:List Int}{i p:Nat}{kind:Int}{M K:aiB}
theorem Uk{b:Int}{g:Nat→Int}(hb:0≤b):∀ {n:Nat},(∀i,i<n→0≤g i∧g i≤b)→0≤kY n g∧kY n g≤(n:Int)*b
 | 0,_=>by unfold kY;omega
 | n+1,h=>by
  have h1:=Uk hb (n:=n) fun i hi=>h i (by omega)
  have h2:=h n (by omega);have e:((n+1:Nat):Int)*b=(n:Int)*b+b:=by rw [Int.natCast_add,Int.add_mul];simp
  show 0≤kY n g+g n∧kY n g+g n≤_;omega
def Ak(a b:List Int)(p i:Nat):Int:=a.getD i 0* (if i≤p then b.getD (p - i) 0 else 0)
def qG(a b:List Int)(i k p:Nat):Int:=kY i (Ak a b p)+ (if i≤p∧p - i<k then gi a (i:Int)*gi b ((p - i:Nat):Int)else 0)
def kW(a b:List Int)(i k:Nat):List Int:=(List.range (a.length+b.length - 1)).map (qG a b i k)
theorem EY(a b:List Int)(i k:Nat):(kW a b i k).length=a.length+b.length - 1:=by simp [kW]
theorem TB{a:List Int}{k:Nat}(h:p<a.length+b.length - 1):gi (kW a b i k) (p:Int)=qG a b i k p:=by
 rw [bX (by rw [EY];exact h)];simp [kW]
theorem aeP(a b:List Int):List.replicate (a.length+b.length - 1) 0=kW a b 0 0:=by
 unfold kW;rw [mJ (g:=fun _=> (0:Int)) fun p _=>by simp [qG,kY],List.map_const',pe]
theorem aeO{a:List Int}{k:Nat}(hi:i<a.length)(hk:k<b.length):(kW a b i k).set (i+k) (qG a b i k (i+k)+gi a (i:Int)*gi b (k:Int))=kW a b i (k+1):=by
 apply ji
 ·rw [iw,EY,EY]
 intro p h1 h2;rw [List.getElem_set];simp only [kW,List.getElem_map,List.getElem_range]
 by_cases hp:i+k=p
 ·subst hp;rw [aj rfl];unfold qG;rw [ag (by omega),aj ⟨by omega,by omega⟩,show i+k - i=k by omega];omega
 rw [ag hp];unfold qG
 by_cases h3:i≤p∧p - i<k
 ·rw [aj h3,aj ⟨h3.1,by omega⟩]
 rw [ag h3,ag (by omega)]
theorem aeN{a:List Int}:kW a b i b.length=kW a b (i+1) 0:=by
 refine mJ fun p _=>?_
 unfold qG;rw [ag (show ¬(i+1≤p∧p - (i+1)<0) by omega)];show _=kY i (Ak a b p)+Ak a b p i+0;rw [Int.add_zero]
 congr 1
 unfold Ak
 by_cases h:i≤p
 ·rw [aj h]
  by_cases h2:p - i<b.length
  ·rw [aj ⟨h,h2⟩];rfl
  rw [ag (fun h'=>h2 h'.2),cJ (l:=b),oH (by omega)];simp
 rw [ag (fun h'=>h h'.1),ag h];simp
theorem aeM{a:List Int}:qG a b a.length 0 p=kY a.length (Ak a b p):=by
 unfold qG;rw [ag (by omega),Int.add_zero]
theorem L4{x y:Int}(hx:0≤x∧x≤500)(hy:0≤y∧y≤500):0≤x*y∧x*y≤250000:=by
 refine⟨Int.mul_nonneg hx.1 hy.1,?_⟩;have:=Int.mul_le_mul hx.2 hy.2 hy.1 (by omega);omega
theorem aeL{a:List Int}{k:Nat}(hi:i≤7)(ha:∀j:Nat,0≤a.getD j 0∧a.getD j 0≤500)(hb:∀j:Nat,0≤b.getD j 0∧b.getD j 0≤500):0≤qG a b i k p∧qG a b i k p≤2000000:=by
 have h1:=Uk (g:=Ak a b p) (b:=250000) (by omega) (n:=i) fun j _=>by
  unfold Ak;refine L4 (ha j) ?_
  split
  ·exact hb _
  omega
 have h2:(i:Int)*250000≤1750000:=by omega
 have h3:=L4 (ha i) (hb (p - i));have h4:gi a (i:Int)*gi b ((p - i:Nat):Int)=a.getD i 0*b.getD (p - i) 0:=O;unfold qG
 split<;>omega
theorem O2{n:Nat}{R:List Int}(hR:R.length≤500)(kind:Int)(t:Nat):0≤(km kind n R).getD t 0∧(km kind n R).getD t 0≤500:=by
 have hl:∀i:Int,(mZ R i).length≤500:=fun i=>by
  have:=oJ (fun e=>decide (gi R e=i)) (bw R.length);rw [yR]at this;exact kJ this hR
 rw [O1]
 split
 ·omega
 rw [Pb]
 split
 ·omega
 split
 ·have:=hl ((t:Int) - 1);omega
 split<;>omega
theorem aeo(h:lA M K kind=0)(hi:i<cn M K kind):
 gi (gL (cn M K kind) (dV M K kind)) (i:Int)=qG (km kind M.length (aO M M.length)) (km kind K.length (aO K K.length)) (M.length+2) 0 (i+ (if kind=1 then 2 else 1)):=by
 have hl:=Je kind M.length (aO M M.length);rw [Od hi,aen h hi];rw [←hl,aeM]
 rfl
theorem aep(h:lA M K kind=0)(hi:i<cn M K kind):i+ (if kind=1 then 2 else 1)<M.length+2+ (K.length+2) - 1:=by
 obtain⟨mo,ow,ov⟩:=yN h;have hN:=EW (kind:=kind) (jW ow).1 (jW ov).1;unfold gv at hN
 by_cases h0:kind=0
 ·rw [aj h0]at hN;rw [ag (by omega)];omega
 rw [ag h0]at hN;split<;>omega
theorem aeU(h:iE M K kind=0):EZ M K kind=if tk M K kind≤400 then 0 else 3:=by
 have hq:=(HG h).2;unfold EZ;rw [aj h,←hq]
 by_cases hf:(au (cn M K kind) (dV M K kind) (mW M K kind)).length≤400
 ·rw [aj hf];exact(CI hf).1
 rw [ag hf];exact(L5 hf).1
theorem aeT(h:iE M K kind=0)(hf:tk M K kind≤400):lG (o8 M K kind)=gL (cn M K kind) (dV M K kind):=by
 have hq:=(HG h).2;have hY:=TE h hf;have e:o8 M K kind=bO (cn M K kind) (au (cn M K kind) (dV M K kind) (mW M K kind)):=by
  unfold o8;rw [if_pos h];exact(CI (by rw [hq];exact hf)).2.2
 rw [e];unfold lG gL;rw [hY.len];exact mJ fun i hi=>hY.pK (gg.1 hi)
def se(kind:Int)(n:Nat)(R:List Int):List Int:=if kind=1 then(pq n R).set 0 0 else pq n R
theorem OZ(kind:Int)(n:Nat)(R:List Int):(se kind n R).length=n+2:=by
 unfold se
 split
 ·rw [iw,zl]
 exact zl n R
theorem O0(h:kind≠2)(n:Nat)(R:List Int):se kind n R=km kind n R:=by
 unfold se km
 by_cases h1:kind=1
 ·rw [aj h1,aj h1]
 rw [ag h1,ag h1,ag h]
theorem OY(h:kind=2)(n:Nat)(R:List Int):(se kind n R).set (n+1) 0=km kind n R:=by
 subst h
 rfl
end
section
open Go.RowKit Tryz
theorem Yl(A:aiC)(n c:Nat)(rs:List aG)(M:aiB)(w:World)(hR:br w A n rs M)(hM:bL M):
 aA prog 37 [.agg #[.slice A n c]] w (fun v w'=>v=aiD ((gl M 0).length:Int)∧St w w' []):=by
 have h1:=hM.1;have hl:=hR.len;have qw:(gl M 0).length=(rg rs 0).n:=hR.pE (k:=0) (by omega) (by omega);refine bk func37 O ntmps37 O (cK O) (aQ O (iI (St.refl w) O O ?_));intro A1 w1 ao;have hb:=ao.rd 0 O;have jc:=ao.bF hR;refine ad O (aH hb O O O O inferInstance (aM (j:=0) hb (by exact ax Value.pointer O) O O O O ?_));refine aa.len O O (ay O ?_);refine qM O (by omega) (av O (aH hb O O O O inferInstance (aM (j:=0) hb (by exact ax Value.pointer O) O O O O (aw jc.top.2 O O O (by omega) (by omega) (bQ jc.top O (by omega) O O ?_)))));refine aa.len O O (bh O ?_);refine gP O ?_;exact⟨by rw [qw],ao.none⟩
set_option maxHeartbeats 4000000 in
theorem Vh(Ac:aiC)(nc cc:Nat)(bs:List Int)(w:World)(hT:mL w)(hY:qQ w Ac nc bs):
 aA prog 12 [.slice Ac nc cc] w (fun v w'=>v= .bool true∧St w w' []):=by
 refine bk func12 O ntmps12 O (cK O) (aQ O (aa.call (WD Ac nc cc w) O O O ?_));rintro _ w1 ⟨rfl,zu⟩;refine ay O ?_;refine aB _ O (fun h1=>?_) (fun h1=>?_)
 ·refine dN O (cM O ?_);exact⟨O,zu⟩
 refine av O (aa.call (Ve Ac nc cc bs (St.refl w1) (hY.below zu.below) (by omega)) O O O ?_);rintro _ w2 ⟨n,A,c,rs,M,X,m,B,d,ts,K,Y,kind,rfl,hn,kr,hm,sA,hX,zy,ar⟩;have ll:=zy w2 _ ar;have fH:=hX w2 _ (ar.perm (Tz _ _ _));have hT:=(hT.later zu.below).later ar.below;have hW:=(zu.call ar).none;clear ar hX zy zu hY;refine ad O (gS (St.refl w2) O ?_);intro A3 w3 az;refine gS az O ?_;intro A4 w4 aJ;refine bG 1 1 aJ O O O O O O O ?_;intro w5 aK;refine bG 1 0 aK O O O O O O O ?_;intro w6 hS;have hS:St w2 w6 [Bx 24 1 A4 [.slice B m d],Bx 24 1 A3 [.slice A n c]]:=hS;have bI:=hS.below;have hT:=hT.later bI;have hW:=hW.later bI;have fH:=fH.later bI;have ll:=ll.later bI;have kO:Rd w6 A3 1 _:=hS.rd 1 O;have fq:Rd w6 A4 1 _:=hS.rd 0 O;clear hS az aJ aK bI;refine ad O (aa.bq 0 kO O O O (aa.bq 0 fq O O O (ad O (aa.call (abT A B n c m d rs ts M K kind _ hT fH ll kr.1 kr.2 sA.1 sA.2) O O O ?_))));rintro _ w7 ⟨PR,cR,PB,cB,xq,rfl,hrB,ak⟩;have su:bS w7 PR (kz M K kind).length (kz M K kind):=ak.bc 0 O;have sr:br w7 PB (jx M K kind).length xq (jx M K kind):=St.gC (ks:=[]) ak.tail O;have bI:=ak.below;have hT:=hT.later bI;have hW:=hW.later bI;have fH:=fH.later bI;have ll:=ll.later bI;have kO:=Rd.below kO bI;have fq:=Rd.below fq bI;clear ak bI;refine ad O (jC (St.refl w7) O ?_);intro A6 w8 hU;refine bG 3 0 hU O O O O O O O ?_;intro w9 hU;have qj:Rd w9 A6 3 _:=hU.rd 0 O;have bI:=hU.below;have hT:=hT.later bI;have hW:=hW.later bI;have fH:=fH.later bI;have ll:=ll.later bI;have kO:=Rd.below kO bI;have fq:=Rd.below fq bI;have su:=su.later bI;have sr:=sr.later bI;clear hU bI;refine ad O (aa.bq 0 kO O O O (aa.bq 0 fq O O O (ad O (aa.call (af9 A B n c m d rs ts M K kind _ fH ll (by omega) (by omega)) O O O ?_))));rintro _ dB ⟨QR,qR,QB,qB,Ue,rfl,hrQ,ak⟩;have GK:bS dB QR (kz M K kind).length (kz M K kind):=ak.bc 0 O;have GJ:br dB QB (jx M K kind).length Ue (jx M K kind):=St.gC (ks:=[]) ak.tail O;have bI:=ak.below;have hT:=hT.later bI;have hW:=hW.later bI;have fH:=fH.later bI;have ll:=ll.later bI;have kO:=Rd.below kO bI;have fq:=Rd.below fq bI;have qj:=Rd.below qj bI;have su:=su.later bI;have sr:=sr.later bI;clear ak bI;refine ad O (jC (St.refl dB) O ?_);intro A8 eu hU;refine bG 3 0 hU O O O O O O O ?_;intro gm hU;have PM:Rd gm A8 3 _:=hU.rd 0 O;have bI:=hU.below;have hT:=hT.later bI;have hW:=hW.later bI;have fH:=fH.later bI;have ll:=ll.later bI;have kO:=Rd.below kO bI;have fq:=Rd.below fq bI;have qj:=Rd.below qj bI;have su:=su.later bI;have sr:=sr.later bI;have GK:=GK.later bI;have GJ:=GJ.later bI;clear hU bI;have om:=ae2 M K kind;refine ad O ?_;refine bY 52 O (fun h=>absurd O h) (fun _=>?_);refine aa.g O O O (aa.bq 2 qj O O O (aa.g O O O (aa.bq 2 PM O O O (aa.g O O O ?_))));refine aa.call (adm (oz M K kind) (oz M K kind) PR PB QR QB _ cR _ cB _ qR _ qB (kz M K kind) (kz M K kind) xq Ue (jx M K kind) (jx M K kind) _ su GK sr GJ (by omega) (by omega) (fun x hx=>by have:=om.2 x hx;omega)) O O O ?_;rintro _ dW ⟨rfl,ak⟩;have bI:=ak.below;have hT:=hT.later bI;have hW:=hW.later bI;have fH:=fH.later bI;have ll:=ll.later bI;have kO:=Rd.below kO bI;have fq:=Rd.below fq bI;have qj:=Rd.below qj bI;have su:=su.later bI;have sr:=sr.later bI;clear ak bI PM GK GJ;refine aa.g O O O ?_
 first | refine eC rfl rfl ?_ | refine aa.not rfl rfl ?_
 refine ay O ?_;refine qM O (fun h=>h ⟨O,O,O⟩) ?_;refine bP O ?_;refine aB _ O (fun h2=>?_) (fun h2=>?_)
 ·refine dN O (cM O ?_);exact⟨O,hW⟩
 have h0:iE M K kind=0:=Decidable.not_not.1 h2;have zQ:=(CO h0).1;have tL:=(CO h0).2.1;have hp500:=(CO h0).2.2;have Qd:=(Mf h0).1;obtain⟨mo,ow,ov⟩:=yN zQ;have fU:=(jW ow).1;have jI:=(jW ov).1;have zp:=fU.1;have PY:=jI.1;have hMl:=fH.len;have hKl:=ll.len;have JM:∀t:Nat,0≤(km kind M.length (aO M M.length)).getD t 0∧(km kind M.length (aO M M.length)).getD t 0≤500:=O2 (by rw [iR];exact(jW ow).2.1) kind;have JL:∀t:Nat,0≤(km kind K.length (aO K K.length)).getD t 0∧(km kind K.length (aO K K.length)).getD t 0≤500:=O2 (by rw [iR];exact(jW ov).2.1) kind;have eN:oz M K kind=(cn M K kind:Int):=by unfold oz;rw [if_pos h0]
 have eR:kz M K kind=dV M K kind:=by unfold kz;rw [if_pos h0]
 have eB:jx M K kind=mW M K kind:=by unfold jx;rw [if_pos h0]
 rw [eR]at su qj;rw [eB]at sr qj;rw [eN]at qj;rw [h0];refine av O (aa.bq 0 kO O O O (aa.call (Sd A n c rs M _ hT fH kr.1 kr.2 ow) O O O ?_));rintro _ me ⟨a6,cT,rfl,ak⟩;have bI:=ak.below;have JZ:=hT;have hT:=hT.later bI;refine ad O (aa.bq 0 (ak.o7 fq) O O O (aa.call (Sd B m d ts K _ hT (ak.bF ll) sA.1 sA.2 ov) O O O ?_));rintro _ mG ⟨eJ,mM,rfl,lu⟩;have hZ:St dW mG [ah 2 eJ (K.length+2) mM (pq K.length (aO K K.length)),ah 2 a6 (M.length+2) cT (pq M.length (aO M M.length))]:=ak.call lu;clear ak lu bI;refine ad O (aa.bq 2 (hZ.o7 qj) O O O (aa.call (abO (cn M K kind) PR PB cR cB (dV M K kind) xq (mW M K kind) _ (hZ.eY su) (hZ.bF sr) Qd) O O O ?_));rintro _ rP ⟨fe,iK,rfl,ak⟩;have hZ:=hZ.call ak;have hZ:St dW rP [ah 2 fe (cn M K kind) iK (gL (cn M K kind) (dV M K kind)),ah 2 eJ (K.length+2) mM (pq K.length (aO K K.length)),ah 2 a6 (M.length+2) cT (pq M.length (aO M M.length))]:=hZ;clear ak;refine ad O ?_;refine bY 77 O (fun h=>absurd O h) (fun _=>?_);refine aa.g O O O (ad O (aa.g O O O (ad O ?_)));refine bY 81 O (fun h=>absurd O h) (fun _=>?_);refine aa.g O O O (ad O (aa.g O O O (ad O ?_)));refine bY 85 O (fun h=>absurd O h) (fun _=>?_);refine aa.g O O O (aa.bq 2 (hZ.o7 qj) O O O (aa.g O O O (aa.call (abR (cn M K kind) PR PB cR cB (dV M K kind) xq (mW M K kind) _ (hZ.eY su) (hZ.bF sr) Qd) O O O ?_)));rintro _ mH ⟨rfl,ak⟩;have hZ:=hZ.later ak.below;clear ak qj;refine aa.g O O O ?_
 first | refine eC rfl rfl ?_ | refine aa.not rfl rfl ?_
 refine ad O ?_;refine aa.split 90 O (fun h=>absurd h (by decide)) (fun _=>?_);refine aa.g O O O (ad O (aa.g O O O (aa.len O O (aa.g O O O (ad O ?_)))));refine bY 95 O (fun h=>absurd h (by omega)) (fun _=>?_);refine aa.g O O O (ad O (aa.g O O O (aa.len O O (aa.g O O O (ay O ?_)))));refine qM O (fun h=>absurd h (by omega)) ?_;have QQ:=OZ kind M.length (aO M M.length);have hfl2:=OZ kind K.length (aO K K.length);have hfl3:=zl M.length (aO M M.length);have hfl4:=zl K.length (aO K K.length);have QS:=Je kind M.length (aO M M.length);have QT:=Je kind K.length (aO K K.length);refine C7 1 O ?_;refine lC (α:=Unit) (fun _=> [(3,.pointer A3),(4,.pointer A4),(5,aiD kind),(10,.slice a6 (M.length+2) cT),(12,.slice eJ (K.length+2) mM),(14,.slice fe (cn M K kind) iK)]) (fun _ w'=>St dW w' [ah 2 fe (cn M K kind) iK (gL (cn M K kind) (dV M K kind)),ah 2 eJ (K.length+2) mM (se kind K.length (aO K K.length)),ah 2 a6 (M.length+2) cT (se kind M.length (aO M M.length))]) ?_ ?_
 ·refine bK O ?_;refine aB _ O (fun hk=>?_) (fun hk=>?_)
  ·refine av O ?_;refine aw (hZ.rd 2 O) O O O (by omega) (by show(0:Int)< ((M.length+2:Nat):Int);omega) ?_;refine jR 2 (i:=(0:Int)) hZ O O O (by show(0:Int).toNat<M.length+2;exact Nat.succ_pos _) ?_;intro tZ D0;refine ad O ?_;refine aw (D0.rd 1 O) O O O (by omega) (by show(0:Int)< ((K.length+2:Nat):Int);omega) ?_;refine jR 1 (i:=(0:Int)) D0 O O O (by show(0:Int).toNat<K.length+2;exact Nat.succ_pos _) ?_;intro vL GO;refine aF O (tQ ?_);refine⟨(),⟨O,O,O,O,O,O,ae⟩,?_⟩;show St dW vL [ah 2 fe (cn M K kind) iK (gL (cn M K kind) (dV M K kind)),ah 2 eJ (K.length+2) mM (se kind K.length (aO K K.length)),ah 2 a6 (M.length+2) cT (se kind M.length (aO M M.length))];unfold se;rw [aj hk,aj hk];exact GO
  refine kD O (tQ ?_);refine⟨(),⟨O,O,O,O,O,O,ae⟩,?_⟩;show St dW mH [ah 2 fe (cn M K kind) iK (gL (cn M K kind) (dV M K kind)),ah 2 eJ (K.length+2) mM (se kind K.length (aO K K.length)),ah 2 a6 (M.length+2) cT (se kind M.length (aO M M.length))];unfold se;rw [ag hk,ag hk];exact hZ
 rintro _ e tZ hZ;refine lC (α:=Unit) (fun _=> [(3,.pointer A3),(4,.pointer A4),(5,aiD kind),(10,.slice a6 (M.length+2) cT),(12,.slice eJ (K.length+2) mM),(14,.slice fe (cn M K kind) iK)]) (fun _ w'=>St dW w' [ah 2 fe (cn M K kind) iK (gL (cn M K kind) (dV M K kind)),ah 2 eJ (K.length+2) mM (km kind K.length (aO K K.length)),ah 2 a6 (M.length+2) cT (km kind M.length (aO M M.length))]) ?_ ?_
 ·refine bK O ?_;refine aB _ O (fun hk=>?_) (fun hk=>?_)
  ·refine av O (aa.len O O (aa.sub O O O (by omega) ?_));refine aw (hZ.rd 2 O) O O O (by omega) (by show((M.length+2:Nat):Int) - 1< ((M.length+2:Nat):Int);omega) ?_;refine jR 2 (i:=((M.length+2:Nat):Int) - 1) hZ O O O (by show(((M.length+2:Nat):Int) - 1).toNat<M.length+2;omega) ?_;intro vL D0;refine ad O (aa.len O O (aa.sub O O O (by omega) ?_));refine aw (D0.rd 1 O) O O O (by omega) (by show((K.length+2:Nat):Int) - 1< ((K.length+2:Nat):Int);omega) ?_;refine jR 1 (i:=((K.length+2:Nat):Int) - 1) D0 O O O (by show(((K.length+2:Nat):Int) - 1).toNat<K.length+2;omega) ?_;intro kh GO;refine aF O (tQ ?_);refine⟨(),⟨O,O,O,O,O,O,ae⟩,?_⟩;show St dW kh [ah 2 fe (cn M K kind) iK (gL (cn M K kind) (dV M K kind)),ah 2 eJ (K.length+2) mM (km kind K.length (aO K K.length)),ah 2 a6 (M.length+2) cT (km kind M.length (aO M M.length))];rw [←OY hk,←OY hk];rw [show(((M.length+2:Nat):Int) - 1).toNat=M.length+1 by omega,show(((K.length+2:Nat):Int) - 1).toNat=K.length+1 by omega]at GO;exact GO
  refine kD O (tQ ?_);refine⟨(),⟨O,O,O,O,O,O,ae⟩,?_⟩;show St dW tZ [ah 2 fe (cn M K kind) iK (gL (cn M K kind) (dV M K kind)),ah 2 eJ (K.length+2) mM (km kind K.length (aO K K.length)),ah 2 a6 (M.length+2) cT (km kind M.length (aO M M.length))];rw [←O0 hk,←O0 hk];exact hZ
 rintro _ e vL hZ;have hZ:St dW vL [ah 2 fe (cn M K kind) iK (gL (cn M K kind) (dV M K kind)),ah 2 eJ (K.length+2) mM (km kind K.length (aO K K.length)),ah 2 a6 (M.length+2) cT (km kind M.length (aO M M.length))]:=hZ;obtain⟨a,ea⟩:∃a,a=km kind M.length (aO M M.length):=⟨_,rfl⟩;obtain⟨b,eb⟩:∃b,b=km kind K.length (aO K K.length):=⟨_,rfl⟩;have sB:=fun i hi=>aeo (i:=i) zQ hi
 rw [←ea]at hZ JM QS;rw [←eb]at hZ JL QT;rw [←ea,←eb]at sB;have mn:a.length=M.length+2:=QS;have oo:b.length=K.length+2:=QT;have l7:((M.length+2:Nat):Int)+ ((K.length+2:Nat):Int) - 1=((a.length+b.length - 1:Nat):Int):=by omega
 refine av O (aa.len O O (ad O (aa.len O O (aa.add O O O (by omega) (aa.sub O O O (by omega) ?_)))));refine vT (a.length+b.length - 1) hZ (by exact ax (Value.int .i64) l7) O (by omega) ?_;intro gx kh hZ;have hZ:St dW kh [ah 2 gx (a.length+b.length - 1) (a.length+b.length - 1) (kW a b 0 0),ah 2 fe (cn M K kind) iK (gL (cn M K kind) (dV M K kind)),ah 2 eJ (K.length+2) mM (b),ah 2 a6 (M.length+2) cT (a)]:=by rw [←aeP];exact hZ
 refine ay O ?_;refine Cd.loop (α:=Nat) (fun i=> [(3,.pointer A3),(4,.pointer A4),(5,aiD kind),(10,.slice a6 (M.length+2) cT),(12,.slice eJ (K.length+2) mM),(14,.slice fe (cn M K kind) iK),(16,.slice gx (a.length+b.length - 1) (a.length+b.length - 1)),(17,aiD (i:Int))]) (fun i w'=>i≤M.length+2∧St dW w' [ah 2 gx (a.length+b.length - 1) (a.length+b.length - 1) (kW a b i 0),ah 2 fe (cn M K kind) iK (gL (cn M K kind) (dV M K kind)),ah 2 eJ (K.length+2) mM (b),ah 2 a6 (M.length+2) cT (a)]) (fun i=>M.length+2 - i) 0 ⟨O,O,O,O,O,O,O,O,ae⟩ ⟨aW _,hZ⟩ ?_;clear hZ;rintro i e H0 ⟨hi,hZ⟩;refine aQ O (aa.len O O (ay O ?_));refine aB _ O (fun h3=>?_) (fun h3=>?_)
 ·refine bP O ?_;refine Cd.loop (α:=Nat) (fun k=> [(3,.pointer A3),(4,.pointer A4),(5,aiD kind),(10,.slice a6 (M.length+2) cT),(12,.slice eJ (K.length+2) mM),(14,.slice fe (cn M K kind) iK),(16,.slice gx (a.length+b.length - 1) (a.length+b.length - 1)),(17,aiD (i:Int)),(18,aiD (k:Int))]) (fun k w'=>k≤K.length+2∧St dW w' [ah 2 gx (a.length+b.length - 1) (a.length+b.length - 1) (kW a b i k),ah 2 fe (cn M K kind) iK (gL (cn M K kind) (dV M K kind)),ah 2 eJ (K.length+2) mM (b),ah 2 a6 (M.length+2) cT (a)]) (fun k=>K.length+2 - k) 0 ⟨O,O,O,O,O,O,O,O,O,ae⟩ ⟨aW _,hZ⟩ ?_;clear hZ;rintro k e wB ⟨hk,hB⟩;refine aQ O (aa.len O O (ay O ?_));refine aB _ O (fun h4=>?_) (fun h4=>?_)
  ·have hO:bS wB gx (a.length+b.length - 1) (kW a b i k):=hB.bc 0 O;have PK:bS wB a6 (M.length+2) a:=hB.bc 3 O;have iA:bS wB eJ (K.length+2) b:=hB.bc 2 O;have wA:gi (kW a b i k) ((i:Int)+k)=qG a b i k (i+k):=by
    have:=TB (a:=a) (b:=b) (i:=i) (k:=k) (p:=i+k) (by omega)
    rwa [Int.natCast_add]at this
   have hE:=aeL (a:=a) (b:=b) (i:=i) (k:=k) (p:=i+k) (by omega) JM JL;have hx:=L4 (JM i) (JL k);have mS:gi a (i:Int)*gi b (k:Int)=a.getD i 0*b.getD k 0:=O;have EB:=aeO (a:=a) (b:=b) (i:=i) (k:=k) (by omega) (by omega);have tM:=EY a b i k;refine bP O ?_;refine iU [21] [yS (gx) (a.length+b.length - 1) (a.length+b.length - 1),yI ((i:Int)),yI ((k:Int)),yI (((i:Int))+ ((k:Int))),yS (gx) (a.length+b.length - 1) (a.length+b.length - 1),yI ((i:Int)),yI ((k:Int)),yI (((i:Int))+ ((k:Int))),yP (aq (gx) (((i:Int))+ ((k:Int))).toNat),yI (gi (kW a b i k) (((i:Int))+ ((k:Int)))),yS (a6) (M.length+2) (cT),yI ((i:Int)),yP (aq (a6) ((i:Int)).toNat),yI (gi (a) ((i:Int))),yS (eJ) (K.length+2) (mM),yI ((k:Int)),yP (aq (eJ) ((k:Int)).toNat),yI (gi (b) ((k:Int))),yI (gi a (i:Int)*gi b (k:Int)),yI ((gi (kW a b i k) (((i:Int))+ ((k:Int))))+ (gi a (i:Int)*gi b (k:Int))),yP (aq (gx) (((i:Int))+ ((k:Int))).toNat),.pr (fun _ w'=>St dW w' [ah 2 gx (a.length+b.length - 1) (a.length+b.length - 1) (kW a b i (k+1)),ah 2 fe (cn M K kind) iK (gL (cn M K kind) (dV M K kind)),ah 2 eJ (K.length+2) mM (b),ah 2 a6 (M.length+2) cT (a)])] (by kernel_rfl) (by kernel_rfl) (ly (ly (ly (ly (ly (ly (ly (ly (ly (ly (ly (ly (ly (ly (ly (ly (ly (ly (ly (ly (ly (bV.2 ⟨Ye.b9 (fun v w w' h hb=>h.later hb),(fun _ h=>by cases h)⟩)))))))))))))))))))))) ?_ ?_
   ·refine⟨ba O,ba O,ba O,aP fun _ _=>aa.add O O O (by omega) (aX O O),ba O,ba O,ba O,aP fun _ _=>aa.add O O O (by omega) (aX O O),cP fun _ _ hb _ _ _=>aw (hO.later hb).2 O O O (by omega) (by omega) (aX O O),cP fun _ _ hb _ _ _=>aT (hO.later hb) O (by omega) O O (aX O O),ba O,ba O,cP fun _ _ hb _ _ _=>aw (PK.later hb).2 O O O (by omega) (by omega) (aX O O),cP fun _ _ hb _ _ _=>aT (PK.later hb) O (by omega) O O (aX O O),ba O,ba O,cP fun _ _ hb _ _ _=>aw (iA.later hb).2 O O O (by omega) (by omega) (aX O O),cP fun _ _ hb _ _ _=>aT (iA.later hb) O (by omega) O O (aX O O),aP fun _ _=>aa.mul O O O (by omega) (aX O O),aP fun _ _=>aa.add O O O (by omega) (aX O O),cP fun _ _ hb _ _ _=>aw (hO.later hb).2 O O O (by omega) (by omega) (aX O O),?_,ae⟩;refine iY fun e1 w1 hb hp aL hq=>?_
    refine jR 0 (hB.later hb) O O O (by omega) ?_;intro w9 aS;refine aa.n ?_;rw [wA,show((i:Int)+k).toNat=i+k by omega,EB]at aS;exact eA.st O aS
   intro u w5 _ hu _ _;have jd:=hu 21 _ O (by kernel_rfl);refine iq O (aa.add O O O (by omega) (aF O (tQ ?_)));exact⟨k+1,by show K.length+2 - (k+1)<K.length+2 - k;omega,⟨O,O,O,O,O,O,O,O,O,ae⟩,by omega,jd⟩
  have yk:k=b.length:=by omega
  rw [yk,aeN]at hB;refine aY O (aZ (cL O (aa.add O O O (by omega) (aF O (tQ ?_)))));exact⟨i+1,by show M.length+2 - (i+1)<M.length+2 - i;omega,⟨O,O,O,O,O,O,O,O,ae⟩,by omega,hB⟩
 have qp:i=M.length+2:=by omega
 rw [qp]at hZ;obtain⟨bg,kR⟩:∃g:Nat,g=if kind=1 then 2 else 1:=⟨_,rfl⟩
 rw [←kR]at sB;have zR:=fun i hi=>aep (i:=i) zQ hi
 rw [←kR]at zR;refine aY O (aZ (Vk 2 O ?_));refine lC (α:=Unit) (fun _=> [(3,.pointer A3),(4,.pointer A4),(5,aiD kind),(10,.slice a6 (M.length+2) cT),(12,.slice eJ (K.length+2) mM),(14,.slice fe (cn M K kind) iK),(16,.slice gx (a.length+b.length - 1) (a.length+b.length - 1)),(19,aiD (bg:Int))]) (fun _ w'=>w'=H0) ?_ ?_
 ·refine bK O ?_;refine aB _ O (fun hk=>?_) (fun hk=>?_)
  ·rw [aj hk]at kR;subst kR;refine kD O (tQ ?_);exact⟨(),⟨O,O,O,O,O,O,O,O,ae⟩,O⟩
  rw [ag hk]at kR;subst kR;refine kD O (tQ ?_);exact⟨(),⟨O,O,O,O,O,O,O,O,ae⟩,O⟩
 rintro _ e _ rfl;refine bP O ?_;refine Cd.loop (α:=Nat) (fun i=> [(3,.pointer A3),(4,.pointer A4),(5,aiD kind),(10,.slice a6 (M.length+2) cT),(12,.slice eJ (K.length+2) mM),(14,.slice fe (cn M K kind) iK),(16,.slice gx (a.length+b.length - 1) (a.length+b.length - 1)),(19,aiD (bg:Int)),(20,aiD (i:Int))]) (fun i w'=>i≤cn M K kind∧St dW w' [ah 2 gx (a.length+b.length - 1) (a.length+b.length - 1) (kW a b (M.length+2) 0),ah 2 fe (cn M K kind) iK (gL (cn M K kind) (dV M K kind)),ah 2 eJ (K.length+2) mM (b),ah 2 a6 (M.length+2) cT (a)]) (fun i=>cn M K kind - i) 0 ⟨O,O,O,O,O,O,O,O,O,ae⟩ ⟨aW _,hZ⟩ ?_;clear hZ;rintro q e MR ⟨hq,hZ⟩;refine aQ O (aa.len O O (ay O ?_));refine aB _ O (fun h5=>?_) (fun h5=>?_)
 ·have Et:q<cn M K kind:=by omega
  have hr:=zR q Et;have hO:bS MR gx (a.length+b.length - 1) (kW a b (M.length+2) 0):=hZ.bc 0 O;have hC:bS MR fe (cn M K kind) (gL (cn M K kind) (dV M K kind)):=hZ.bc 1 O;have cg:=uh (cn M K kind) (dV M K kind);have tM:=EY a b (M.length+2) 0;have wA:gi (kW a b (M.length+2) 0) ((bg:Int)+q)=qG a b (M.length+2) 0 (q+bg):=by
   have:=TB (a:=a) (b:=b) (i:=M.length+2) (k:=0) (p:=q+bg) (by omega);rw [←this]
   congr 1
   omega
  have heq:gi (gL (cn M K kind) (dV M K kind)) (q:Int)=gi (kW a b (M.length+2) 0) ((bg:Int)+q):=by rw [sB q Et,wA]
  refine bP O ?_;refine dI [xI ((bg:Int)),xI ((q:Int)),xI (((bg:Int))+ ((q:Int))),xS (gx) (a.length+b.length - 1) (a.length+b.length - 1),xI (((a.length+b.length - 1:Nat):Int)),xB (false),xB (false),xS (fe) (cn M K kind) (iK),xI ((q:Int)),xP (aq (fe) ((q:Int)).toNat),xI (gi (gL (cn M K kind) (dV M K kind)) ((q:Int))),xS (gx) (a.length+b.length - 1) (a.length+b.length - 1),xI ((bg:Int)),xI ((q:Int)),xI (((bg:Int))+ ((q:Int))),xP (aq (gx) (((bg:Int))+ ((q:Int))).toNat),xI (gi (kW a b (M.length+2) 0) (((bg:Int))+ ((q:Int)))),xB (decide (¬(gi (gL (cn M K kind) (dV M K kind)) ((q:Int)))=(gi (kW a b (M.length+2) 0) (((bg:Int))+ ((q:Int)))))),xB (decide (¬(gi (gL (cn M K kind) (dV M K kind)) ((q:Int)))=(gi (kW a b (M.length+2) 0) (((bg:Int))+ ((q:Int))))))] (by kernel_rfl) (by kernel_rfl) O (eg O) ?_ ?_
  ·exact⟨Dr O,Dr O,fun _ _ _ _ _=>aa.add O O O (by omega) (Az O),Dr O,fun _ _ _ _ _=>aa.len O O (Az O),fun _ _ _ _ _=>Dk O (by exact ax Value.bool (cd (by omega))),Dr O,Dr O,Dr O,fun _ _ hb _ _=>aa.g O O O (aw (hC.later hb).2 O O O (by omega) (by omega) (Az O)),fun _ _ hb _ _=>aa.g O O O (aT (hC.later hb) O (by omega) O O (Az O)),Dr O,Dr O,Dr O,fun _ _ _ _ _=>aa.g O O O (aa.add O O O (by omega) (Az O)),fun _ _ hb _ _=>aa.g O O O (aw (hO.later hb).2 O O O (by omega) (by omega) (Az O)),fun _ _ hb _ _=>aa.g O O O (aT (hO.later hb) O (by omega) O O (Az O)),Dr O,Dr O,ae⟩
  intro u MS ZT _;have hZ:=hZ.later ZT;refine eo O ?_;refine qM O (fun h=>h heq) ?_;refine av O (aa.add O O O (by omega) (aF O (tQ ?_)));exact⟨q+1,by show cn M K kind - (q+1)<cn M K kind - q;omega,⟨O,O,O,O,O,O,O,O,O,ae⟩,by omega,hZ⟩
 have hC:bS MR fe (cn M K kind) (gL (cn M K kind) (dV M K kind)):=hZ.bc 1 O;have bI:=hZ.below;have hT:=JZ.later bI;have hW:=hW.later bI;have fH:=fH.later bI;have ll:=ll.later bI;have kO:=Rd.below kO bI;have fq:=Rd.below fq bI;clear hZ bI su sr;refine aY O (aZ (cL O ?_));refine aa.bq 0 kO O O O (aa.bq 0 fq O O O (ad O (aa.call (abS A B n c m d rs ts M K kind _ hT fH ll kr.1 kr.2 sA.1 sA.2) O O O ?_)));rintro _ MS ⟨Ax,cx,HS,rfl,hrx,ak⟩;have q9:br MS Ax (o8 M K kind).length HS (o8 M K kind):=St.gC (ks:=[]) (by rw [fg];exact ak) O;have wW:=ak.cap 0 O;have bI:=ak.below;have hT:=hT.later bI;have hW:=hW.later bI;have fH:=fH.later bI;have ll:=ll.later bI;have kO:=Rd.below kO bI;have fq:=Rd.below fq bI;have hC:=hC.later bI;clear ak bI;refine ad O (gS (St.refl MS) O ?_);intro dt w24 hU;refine bG 1 0 hU O O O O O O O ?_;intro w25 hU;have ux:Rd w25 dt 1 _:=hU.rd 0 O;have bI:=hU.below;have hT:=hT.later bI;have hW:=hW.later bI;have fH:=fH.later bI;have ll:=ll.later bI;have kO:=Rd.below kO bI;have fq:=Rd.below fq bI;have q9:=q9.later bI;have hC:=hC.later bI;clear hU bI;refine ad O (aa.bq 0 kO O O O (aa.bq 0 fq O O O (ad O (aa.call (abN A B n c m d rs ts M K kind _ hT fH ll kr.1 kr.2 sA.1 sA.2 zQ) O O O ?_))));rintro _ w26 ⟨rfl,ak⟩;have bI:=ak.below;have hW:=hW.later bI;have ux:=Rd.below ux bI;have q9:=q9.later bI;have hC:=hC.later bI;clear ak bI hT fH ll kO fq;have Cn:=aeU h0;refine ad O ?_;refine bY 201 O (fun h=>absurd O h) (fun _=>?_);refine aa.g O O O (ad O (aa.g O O O (ad O (aa.g O O O (ad O (aa.g O O O (ad O (aa.g O O O ?_))))))));refine Ig O O O ?_
 by_cases hf:tk M K kind≤400
 ·
  rw [aj hf]at Cn;rw [Cn];refine ay O ?_;refine Cd.eV (by exact ax (fun b=>Value.bool (!(true==b))) (dX (show(tk M K kind:Int)≤400 by omega))) ?_;refine bP O (Cd.eV O ?_);have hg:=aeV h0 hf;have J8:=(jW hg.1).1;have vq:=aeT h0 hf;refine av O (aa.bq 0 ux O O O ?_);refine aa.call (abP Ax _ cx HS (o8 M K kind) _ q9 wW.1 (by have:=wW.2;simp only [maxLen]at this;omega) J8) O O O ?_;rintro _ w27 ⟨lg,WW,rfl,ak⟩;rw [vq]at ak;have hO:=ak.bc 0 O;have bI:=ak.below;have hW:=hW.later bI;have ux:=Rd.below ux bI;have q9:=q9.later bI;have hC:=hC.later bI;clear ak bI;refine ad O ?_;refine bY 219 O (fun _=>?_) (fun h=>absurd O h);refine aa.g O O O (aa.bq 0 ux O O O (aa.g O O O (aa.call (Yl Ax _ cx HS (o8 M K kind) _ q9 J8) O O O ?_)));rintro _ w28 ⟨rfl,ak⟩;have bI:=ak.below;have hW:=hW.later bI;have ux:=Rd.below ux bI;have q9:=q9.later bI;have hC:=hC.later bI;have hO:=hO.later bI;clear ak bI;refine aa.g O O O (ad O (aa.g O O O (ad O ?_)));refine bY 225 O (fun _=>?_) (fun h=>absurd (by omega) h);refine aa.g O O O (ad O (aa.g O O O (ad O (aa.g O O O ?_))));refine aa.call (LO lg _ WW (gL (cn M K kind) (dV M K kind)) fe _ iK (gL (cn M K kind) (dV M K kind)) _ hO hC (by have:=hO.1;have:=hC.1;rw [uh]at*;omega)) O O O ?_;rintro _ w29 ⟨rfl,ak⟩;have bI:=ak.below;have hW:=hW.later bI;have ux:=Rd.below ux bI;have q9:=q9.later bI;clear ak bI;refine ad O ?_;refine bY 230 O (fun _=>?_) (fun h=>absurd O h);refine aa.g O O O (aa.bq 0 ux O O O (aa.g O O O ?_));refine aa.call (abQ Ax _ cx HS (o8 M K kind) _ q9 wW.1 (by have:=wW.2;simp only [maxLen]at this;omega)) O O O ?_;rintro _ w30 ⟨rfl,ak⟩;refine bh O (cM O ?_);exact⟨ax Value.bool (dX J8),hW.later ak.below⟩
 rw [ag hf]at Cn;rw [Cn];refine ay O ?_;refine Cd.eV (by exact ax (fun b=>Value.bool (!(false==b))) (cd (show ¬(tk M K kind:Int)≤400 by omega))) ?_;refine bP O (Cd.gj O (dN O (cM O ?_)));exact⟨O,hW⟩
end
section
open Go.RowKit Go.ChangeShapes Go.WideShapes Tryz
theorem laid:laidOutB prog=true:=by kernel_rfl
theorem own:ownKnob prog.godebug=none:=by kernel_rfl
section
variable {H:Type} {enc:TypeId×Value→H} {P:Program}
theorem UG(hl:laidOutB P=true){W W':World}(hb:Below W.heap.size W W'){sp:Nat→Bool}:∀ {ts:List TypeId} {vs:List Value} {ds:List (DataW H)} {ps:List MemPlace},(ts.all fun t=>P.readableRec t && Nat.blt t P.types.size)=true→(∀p∈ps,p.block<W.heap.size)→(∀p∈ps,sp p.block=true)→
 DataW.TrodAll enc P W 0 (fun _=>true) true ts vs ds ps→DataW.TrodAll enc P W' 0 sp true ts vs ds ps
 | [],[],[],_,_,_,_,h=>h
 | t::ts,v::vs,d::ds,ps,hr,fY,tO,h=>by
  obtain⟨p,q,h1,h2,rfl⟩:=h;simp only [List.all_cons,Bool.and_eq_true]at hr;exact⟨p,q,WideElems.Trod_stays hl hr.1.1 (by simpa [Nat.blt_eq]using hr.1.2) h1 (fun x hx=>hb.same (fY x (by simp [hx]))) (fun x hx=>tO x (by simp [hx])),UG hl hb hr.2 (fun x hx=>fY x (by simp [hx])) (fun x hx=>tO x (by simp [hx])) h2,O⟩
 | [],[],_::_,_,_,_,_,h=>h.elim
 | [],_::_,_,_,_,_,_,h=>by cases h
 | _::_,[],_,_,_,_,_,h=>by cases h
 | _::_,_::_,[],_,_,_,_,h=>by cases h
theorem ae1{f:Func}{s:ChangeSpec}{apart:Bool}{W W':World}{args:Array Value}{ds gs:List (DataW H)}{before:List MemPlace}(hl:laidOutB P=true){b:TypeId}(hu:P.underlying b=some .bool)(RK:f.resultTypes= #[b])(hv:s.vars=[])
 (hr:(f.params.toList.all fun t=>P.readableRec t && Nat.blt t P.types.size)=true) (l5:(s.fn H (ds++gs)).results=[.lit (.bool true)]∧(s.fn H (ds++gs)).args=ds∧(s.fn H (ds++gs)).vars=[])
 (hW:DataW.Whole enc P f.params.toList s.vars apart W args.toList ds gs before) (hb:Below W.heap.size W W'):s.post enc P f apart true false false W args (.bool true) W':=by
 have fY:∀x∈before,x.block<W.heap.size:=fun x hx=>hW.lt x hx
 have ZP:=hW;obtain⟨p,q,hA,hV,rfl,hz,hn⟩:=hW;rw [hv]at hV;obtain⟨rfl,rfl⟩:=trodVars_none hV;have Rc:∀x∈p,x.block<W.heap.size:=fun x hx=>fY x (by simp [hx])
 have Gs:∀sp:Nat→Bool,(∀x∈p,sp x.block=true)→DataW.TrodAll enc P W' 0 sp true f.params.toList args.toList (s.fn H (ds++ [])).args p:=fun sp tO=>by
  rw [l5.2.1];exact UG hl hb hr Rc tO hA
 have sv:∀(b0:Nat) (sp:Nat→Bool) (hd:Bool),DataW.TrodAll enc P W' b0 sp hd f.resultTypes.toList ((Value.bool true).resultList f.resultTypes.size) (s.fn H (ds++ [])).results []:=fun b0 sp hd=>by
  rw [l5.1,RK];exact trodAll_cons_mk (shut_bool hu _) trodAll_mk0
 have Qm:∀sp:Nat→Bool,DataW.TrodVars enc P W' sp s.vars (s.fn H (ds++ [])).vars []:=fun sp=>by
  rw [l5.2.2,hv];rfl
 refine⟨ds,[],p++ [],[],p,[],ZP,sv _ _ _,Gs _ (fun x hx=>by simpa using Rc x hx),Qm _,World.keptBut_mono (fun x hx=> ⟨hx,by simpa using hx⟩) (hb.frame (· ∈p++ [])),fun _=> ⟨fun j t r h1 h2=>?_,_,_,([]++p)++ [],⟨[]++p,[],trodAll_append (Gs _ fun _ _=>O) (sv _ _ _),Qm _,O,fun c off hc=>?_,fun ha=>by simpa using hn ha⟩,fun x hx _=>by simpa using hx⟩⟩
 ·rw [RK]at h1 h2;cases j with
  | zero=>
   simp at h1;subst h1;simp [Value.resultList]at h2;subst h2;exact okWide_bool_mk hu _
  | succ j=>simp at h1
 ·have dq:MemPlace.cell c off∈p++ []:=by simpa using hc
  rw [hb.frozen (fY _ dq)];exact hz c off dq
end
section
variable {H:Type} {enc:TypeId×Value→H} {P:Program}
end
section
variable {H:Type} {enc:TypeId×Value→H} {P:Program}
theorem aek{w:World}{r:Go.Reach}{b0:Nat}{t e:TypeId}{v:Value}{d:DataW H}{p:List MemPlace}(ht:P.underlying t=some (.slice e))(he:P.underlying e=some (.int .u8))(ce:P.cellsOf e=1)(uN:Value.okWide P w r b0 t v)(h:DataW.Trod enc P w 0 (fun _=>true) true t v d p):∃A n c bs,v= .slice A n c∧qQ w A n bs∧n≤c∧c≤9223372036854775807:=by
 obtain⟨a,len,cap,rfl⟩:=okWide_slice ht uN;obtain⟨fuel,hf⟩:=h;have pP:(Value.slice a len cap).cells.toList=[Value.slice a len cap]:=O;rw [pP]at hf;rcases open_ints ht he ce hf with⟨h1,_⟩ | ⟨b,n,c,zs,h1,_,hl,hm,hz,_,hc,hwz⟩
 ·simp only [List.cons.injEq,and_true]at h1;exact⟨none,0,0,[],h1,⟨O,fun x hx=> (nomatch hx),fun k hk=>absurd hk (jk _)⟩,a8 _,by omega⟩
 simp only [List.cons.injEq,and_true]at h1;rw [aj rfl]at hz;refine⟨some b,n,c,zs.take n,h1,⟨?_,fun x hx=>?_,fun k hk=>?_⟩,hl,by simpa [maxLen]using hm⟩
 ·simp;omega
 ·have:=hwz x (List.mem_of_mem_take hx);simpa [Lit.wf,IntKind.min,IntKind.max,IntKind.signed,IntKind.bits]using this
 refine⟨b.add k,O,?_⟩;rw [hc k (by omega)];simp [cJ,rW,hk]
end
end
end Go.Proofs.YtopgfgdgfjddpaaGreatDoor.Vc
