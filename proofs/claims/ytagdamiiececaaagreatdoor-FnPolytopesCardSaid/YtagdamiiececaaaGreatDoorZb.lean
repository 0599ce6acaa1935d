/-
 Lemmas. Conditions: as each states them.
-/
import Derived.Test.YtagdamiiececaaaGreatDoorInst
import Derived.Laws.IdiomCopy
import Derived.Shelf.Bits.Mul64
set_option maxHeartbeats 8000000
namespace Go.Proofs.YtagdamiiececaaaGreatDoor.Vc
open Tryz
section
open Go.RowKit
variable{p S:ai}
theorem qy(n lo hi:Int)(w:aa):aJ prog 82 [ak n,ak lo,ak hi] w (fun v w'=>v= .bool (decide (lo<=n/\n<=hi))/\w'=w):=by
 refine br func82 O ntmps82 O (cw O) (a8 O ?_);refine bY 10 O (fun h=>?_) (fun h=>?_)
 ·refine au O (ar O (au O (ar O (au O (bI O ?_)))));refine cH O ?_;exact⟨by simp [h],O⟩
 refine az O (az O (az O (bI O ?_)));refine cH O ?_;exact⟨by simp [h],O⟩
theorem mS(n lo hi:Int)(w:aa):aJ prog 79 [ak n,ak lo,ak hi] w (fun v w'=>v= .bool (decide (lo<=n/\n<=hi))/\w'=w):=by
 refine br func79 O ntmps79 O (cw O) (a8 O ?_);refine bY 10 O (fun h=>?_) (fun h=>?_)
 ·refine au O (ar O (au O (ar O (au O (bI O ?_)))));refine cH O ?_;exact⟨by simp [h],O⟩
 refine az O (az O (az O (bI O ?_)));refine cH O ?_;exact⟨by simp [h],O⟩
def jE(p:ai):Prop:=p.length<=400/\(∀x∈p,0<=x/\x<p.length)/\p.Nodup
instance (p:ai):Decidable (jE p):=by unfold jE;exact inferInstance
def Seen(p:ai)(k:Nat)(S:List Bool):Prop:=
 S.length=p.length/\(∀x∈p.take k,0<=x/\x<p.length)/\(p.take k).Nodup/\∀x:Int,0<=x->x<p.length->(gb S x=true↔x∈p.take k)
theorem bF{k:Nat}(h:k<p.length):gi p k=p[k]:=by simp [gi,cz,eS h]
theorem rR{k:Nat}(h:k<p.length):p.take (k+1)=p.take k++ [gi p k]:=by rw [bF h,oZ h]
theorem wM{S:List Bool}{x y:Int}{b:Bool}(hx:0<=x)(gF:x<S.length)(hy:0<=y):gb (S.set x.toNat b) y=if x=y then b else gb S y:=by
 simp only [gb,cz,l0]
 by_cases e:x=y
 ·subst e;rw [aF rfl,aF rfl,aF (by omega)];rfl
 rw [aC (by omega),aC e]
theorem om{x y:Int}{b:Int}(hx:0<=x)(gF:x<S.length)(hy:0<=y):gi (S.set x.toNat b) y=if x=y then b else gi S y:=by
 simp only [gi,cz,l0]
 by_cases e:x=y
 ·subst e;rw [aF rfl,aF rfl,aF (by omega)];rfl
 rw [aC (by omega),aC e]
theorem Seen.zero(p:ai):Seen p 0 (List.replicate p.length false):=⟨by simp,by simp,by simp,fun x h0 h1=>by
 simp [gb,cz,List.getElem?_replicate];split<;>simp⟩
theorem Seen.bad{k:Nat}{S:List Bool}(h:Seen p k S)(hk:k<p.length)(hb:¬(0<=gi p k/\gi p k<=p.length - 1)):¬jE p:=fun hp=>by
 have:=hp.2.1 (gi p k) (by rw [bF hk];exact dU hk);omega
theorem Seen.UQ{k:Nat}{S:List Bool}(h:Seen p k S)(hk:k<p.length)(h0:0<=gi p k/\gi p k<=p.length - 1)(hb:gb S (gi p k)=true):¬jE p:=fun hp=>by
 have h1:=(h.2.2.2 (gi p k) h0.1 (by omega)).1 hb;have h2:(p.take (k+1)).Nodup:=hp.2.2.sublist (List.take_sublist _ _);rw [rR hk,List.nodup_append]at h2;exact h2.2.2 _ h1 _ (by simp) O
theorem Seen.step{k:Nat}{S:List Bool}(h:Seen p k S)(hk:k<p.length)(h0:0<=gi p k/\gi p k<=p.length - 1)(hb:gb S (gi p k)=false):Seen p (k+1) (S.set (gi p k).toNat true):=by
 obtain⟨h1,h2,h3,h4⟩:=h;have h5:¬gi p k∈p.take k:=fun hm=>by have:=(h4 _ h0.1 (by omega)).2 hm;rw [hb]at this;cases this
 refine⟨by simpa using h1,?_,?_,fun x hx gF=>?_⟩
 ·rw [rR hk];intro x hx;rcases gL.1 hx with hx | hx
  ·exact h2 x hx
  simp at hx;subst hx;omega
 ·rw [rR hk,List.nodup_append];refine⟨h3,by simp,fun a ha b Is=>?_⟩;simp at Is;subst Is;intro e;subst e;exact h5 ha
 rw [wM h0.1 (by omega) hx,rR hk,gL]
 by_cases e:gi p k=x
 ·simp [e]
 rw [aC e,h4 x hx gF];simp;intro h;exact absurd h.symm e
theorem Seen.done{k:Nat}{S:List Bool}(h:Seen p k S)(hk:¬k<p.length)(hl:p.length<=400):jE p:=by
 obtain⟨h1,h2,h3,h4⟩:=h;rw [lD (by omega)]at h2 h3;exact⟨hl,h2,h3⟩
def fill{α:Type}(k:Nat)(xs:List α)(d:α):List α:=xs.take k++List.replicate (xs.length - k) d
theorem cX{p:ah}{k:Nat}(h:k<p.length):gl p k=p[k]:=by simp [gl,cz,eS h]
theorem FI{p:ah}{k:Nat}(h:k<p.length):p.take (k+1)=p.take k++ [gl p k]:=by rw [cX h,oZ h]
theorem s8(A:aj)(n c:Nat)(w:aa):aJ prog 106 [.slice A n c] w (fun v w'=>v=ak n/\w'=w):=by
 refine br func106 O ntmps106 O (cw O) ?_;refine a8 O (ba O O (bI O ?_));exact kN O ⟨O,O⟩
theorem yE(A:aj)(n c:Nat)(w:aa):aJ prog 120 [.slice A n c] w (fun v w'=>v=ak n/\w'=w):=by
 refine br func120 O ntmps120 O (cw O) ?_;refine a8 O (ba O O (bI O ?_));exact kN O ⟨O,O⟩
theorem RD(A:aj)(n c:Nat)(p:ai)(w:aa)(hR:bu w A n p):aJ prog 193 [.slice A n c] w (fun v w'=>v= .bool (decide (jE p))/\St w w' []):=by
 have hl:=hR.1;subst hl;refine br func193 O ntmps193 O (cw O) ?_;refine a8 O (ba O O (aE O ?_));refine aN _ O (fun h=>?_) (fun h=>?_)
 ·refine du O (cH O ?_);exact⟨by rw [cS (fun hp:jE p=>by have:=hp.1;omega)],St.refl _⟩
 refine aG O (ba O O ?_);refine tj p.length (St.refl w) O O (by omega) fun A1 w1 ay=>ar O (ba O O (aE O ?_));refine Cd.loop (α:=Nat×List Bool) (fun s=> [(0,.slice A p.length c),(3,.slice A1 p.length p.length),(12,.slice A p.length c),(13,ak (p.length:Int)),(14,ak (s.1:Int))]) (fun s w'=>St w w' [eC 4 A1 p.length p.length s.2]/\s.1<=p.length/\Seen p s.1 s.2) (fun s=>p.length - s.1) (0,List.replicate p.length false) (WM O) ⟨ay,bn _,Seen.zero p⟩ ?_;rintro⟨k,S⟩ e w2 ⟨aM,hk,hI⟩;dsimp only at aM hk hI|-;refine bX O (aN _ O (fun h1=>?_) (fun h1=>?_))
 ·refine aG O (WB (aM.da hR).2 O O O (by omega) h1 (aW (aM.da hR) O (ar O (aI (s8 _ _ _ _) O ?_))));rintro _ _ ⟨rfl,rfl⟩;refine dA O (aI (mS _ _ _ _) O ?_);rintro _ _ ⟨rfl,rfl⟩
  first | refine dk rfl rfl ?_ | refine eF rfl rfl ?_
  refine ar O (bY 24 O (fun h2=>?_) (fun h2=>?_))
  ·refine az O (az O (az O (az O (aE O ?_))));refine Cd.fx O (du O (dN (dE ?_)));refine cH O ?_;exact⟨by rw [cS (hI.bad (by omega) (by omega))],aM.none⟩
  refine au O (ar O (au O (ar O (au O ?_))));refine aB (aM.gX 0 O).2 O (au O (nh (aM.gX 0 O) O (by omega) O O (aE O ?_)));refine Cd.cond O (fun h3=>?_) (fun h3=>?_)
  ·refine du O (dN (dE ?_));refine cH O ?_;exact⟨by rw [cS (hI.UQ (by omega) (by omega) h3)],aM.none⟩
  refine aG O (aB (aM.gX 0 O).2 O (pQ 0 aM O O O (by omega) ?_));intro w3 aU;refine ar O (aK O (aR O (tQ ?_)));exact⟨(k+1,S.set (gi p k).toNat true),by show p.length - (k+1)<p.length - k;omega,(WM O),aU,by show k+1<=_;omega,hI.step (by omega) (by omega) h3⟩
 refine bk O (bm (fA O ?_));refine cH O ?_;exact⟨by rw [eD (hI.done (by omega) (by omega))],aM.none⟩
def oU(p:ai):Prop:=∀i:Nat,i<p.length->gi p i≠i/\gi p (gi p i)=i
instance (p:ai):Decidable (oU p):=by unfold oU;exact inferInstance
theorem jE.range(h:jE p){i:Int}(h0:0<=i)(h1:i<p.length):0<=gi p i/\gi p i<p.length:=by
 have e:gi p i=p[i.toNat]'(by omega):=by simp [gi,cz,eS (show i.toNat<p.length by omega)]
 rw [e];exact h.2.1 _ (dU _)
theorem Rx(A:aj)(n c:Nat)(p:ai)(w:aa)(hR:bu w A n p):aJ prog 126 [.slice A n c] w (fun v w'=>v= .bool (decide (jE p/\oU p))/\St w w' []):=by
 have hl:=hR.1;subst hl;refine br func126 O ntmps126 O (cw O) (a8 O (aI (RD _ _ _ _ _ hR) O ?_));rintro _ w1 ⟨rfl,ay⟩
 first | refine dk rfl rfl ?_ | refine eF rfl rfl ?_
 refine aE O (aN _ O (fun hp=>?_) (fun hp=>?_))
 ·refine du O (cH O ?_);exact⟨by rw [cS (fun h=>hp h.1)],ay⟩
 have hp:=kR.1 hp;have hp1:=hp.1;refine aG O (ba O O (aE O ?_));refine Cd.loop (α:=Nat) (fun k=> [(0,.slice A p.length c),(8,.slice A p.length c),(9,ak (p.length:Int)),(10,ak k)]) (fun k w'=>St w w' []/\k<=p.length/\∀i,i<k->gi p i≠i/\gi p (gi p i)=i) (fun k=>p.length - k) 0 (WM O) ⟨ay,bn _,fun i hi=>by omega⟩ ?_;rintro k e w2 ⟨aM,hk,hI⟩;refine bX O (aN _ O (fun h1=>?_) (fun h1=>?_))
 ·have hr:=hp.range (i:=k) (by omega) h1;have hA:=aM.da hR;refine aG O (WB hA.2 O O O (by omega) h1 (aW hA O (ar O ?_)));refine bY 18 O (fun h2=>?_) (fun h2=>?_)
  ·refine az O (az O (az O (az O (az O (az O (aE O ?_))))));refine Cd.fx O (du O (dN (dE ?_)));refine cH O ?_;exact⟨by rw [cS (fun hf:jE p/\oU p=> (hf.2 k (by omega)).1 h2)],aM⟩
  refine au O (ar O (au O (ar O (au O ?_))));refine aB hA.2 O (au O (aW hA O ?_));refine au O (ar O (au O (aE O ?_)));refine aN _ O (fun h3=>?_) (fun h3=>?_)
  ·refine du O (dN (dE ?_));refine cH O ?_;exact⟨by rw [cS (fun hf:jE p/\oU p=>h3 (hf.2 k (by omega)).2)],aM⟩
  refine aG O (aK O (aR O (tQ ?_)));refine⟨k+1,by omega,(WM O),aM,by omega,fun i hi=>?_⟩
  by_cases e:i=k
  ·subst e;exact⟨h2,kR.1 h3⟩
  exact hI i (by omega)
 refine bk O (bm (fA O ?_));refine cH O ?_;exact⟨by rw [eD (show jE p/\oU p from⟨hp,fun i hi=>hI i (by omega)⟩)],aM⟩
theorem BC(A Am:aj)(n c:Nat)(f:Nat->ad)(w:aa)(hR:Rd w A 1 f)(hf:f 0= .slice Am n c):aJ prog 124 [.pointer A] w (fun v w'=>v=ak n/\w'=w):=by
 refine br func124 O ntmps124 O (cw O) (a8 O ?_);refine kb hR (by decide) O O (aS hR O (WI hR O O hf O O (aI (yE _ _ _ _) O ?_)));rintro _ _ ⟨rfl,rfl⟩;refine bI O (kN O ?_);exact⟨O,O⟩
theorem tx(A Am:aj)(n c:Nat)(rs:List aL)(xss:ah)(f:Nat->ad)(w:aa)(hR:Rd w A 1 f)(hf:f 0= .slice Am n c)(hM:bq w Am n rs xss)(hn:0<n):aJ prog 125 [.pointer A] w (fun v w'=>v=ak ((rg rs 0).n:Int)/\w'=w):=by
 refine br func125 O ntmps125 O (cw O) (a8 O ?_);refine kb hR (by decide) O O (aS hR O (WI hR O O hf O O (aB hM.top.2 O (ck hM.top O (aI (s8 _ _ _ _) O ?_)))));rintro _ _ ⟨rfl,rfl⟩;refine bI O (kN O ?_);exact⟨O,O⟩
end
section
variable{i:Nat}{p:ai}{x y z pt:Int}
theorem Fg:∀(n:Nat) (l:List Nat),l.Nodup->(∀x∈l,x<n)->l.length<=n
 | 0,l,_,h=>by
  cases l with
  | nil=>simp
  | cons a l=>exact absurd (h a (by simp)) (by omega)
 | n+1,l,hn,h=>by
  have h1:=Fg n (l.erase n) (hn.erase n) (fun x hx=>by
   have h2:=(hn.mem_erase_iff).1 hx;have:=h x h2.2;omega)
  have:=List.length_erase_le (a:=n) (l:=l);rw [List.length_erase]at h1
  split at h1<;>omega
theorem nN{N:Nat}{l:ai}(hn:l.Nodup)(h:∀x∈l,0<=x/\x<N):l.length<=N:=by
 have:=Fg N (l.map Int.toNat) (by
  rw [List.nodup_iff_pairwise_ne,List.pairwise_map];refine List.Pairwise.imp_of_mem ?_ hn;intro a b ha hb ie e;have:=h a ha;have:=h b hb;omega) (fun x hx=>by
  obtain⟨y,hy,rfl⟩:=fh.1 hx;have:=h y hy;omega)
 simpa using this
def Sys(N:Nat)(xss:ah):Prop:=∀p∈xss,p.length=N/\∀x:Int,0<=x->x<N->0<=gi p x/\gi p x<N
inductive Reach(xss:ah)(x:Int):Int->Prop where
 | refl:Reach xss x x
 | step {y:Int} {p:ai}:Reach xss x y->p∈xss->Reach xss x (gi p y)
theorem Reach.trans{xss:ah}(h:Reach xss x y)(h':Reach xss y z):Reach xss x z:=by
 induction h' with
 | refl=>exact h
 | step _ hp ih=>exact .step ih hp
def kp(out:ai)(y:Int):ai:=if y∈out then out else out++ [y]
def expand(xss:ah)(x:Int)(out:ai):ai:=xss.foldl (fun o p=>kp o (gi p x)) out
def nn(xss:ah):Nat->Nat->ai->ai
 | 0,_,out=>out
 | f+1,i,out=>if i<out.length then nn xss f (i+1) (expand xss (gi out i) out)else out
def eV(N:Nat)(xss:ah)(pt:Int):ai:=nn xss (N+1) 0 [pt]
theorem Ft{out:ai}:z∈kp out y↔z∈out\/z=y:=by
 unfold kp
 split
 ·constructor
  ·exact Or.inl
  rintro(h | rfl)
  ·exact h
  assumption
 simp
theorem T9{out:ai}(h:out.Nodup):(kp out y).Nodup:=by
 unfold kp
 split
 ·exact h
 rename_i hy;rw [List.nodup_append];refine⟨h,by simp,fun a ha b hb=>?_⟩;simp at hb;subst hb;rintro rfl;exact hy ha
theorem KB(out:ai)(y:Int):out<+:kp out y:=by
 unfold kp
 split
 ·exact List.prefix_rfl
 exact List.prefix_append _ _
structure Good(N:Nat)(xss:ah)(pt:Int)(out:ai):Prop where
 nodup:out.Nodup
 range:∀x∈out,0<=x/\x< (N:Int)
 reach:∀x∈out,Reach xss pt x
theorem Good.push{N:Nat}{xss:ah}{out:ai}(h:Good N xss pt out)(hs:Sys N xss)(hx:x∈out)(hp:p∈xss):Good N xss pt (kp out (gi p x)):=
 ⟨T9 h.nodup,fun z hz=>by
  rcases Ft.1 hz with hz | rfl
  ·exact h.range z hz
  ·exact(hs p hp).2 x (h.range x hx).1 (h.range x hx).2,fun z hz=>by
  rcases Ft.1 hz with hz | rfl
  ·exact h.reach z hz
  exact .step (h.reach x hx) hp⟩
theorem Good.len{N:Nat}{xss:ah}{out:ai}(h:Good N xss pt out):out.length<=N:=nN h.nodup h.range
theorem foldl_push{N:Nat}{xss:ah}{pt:Int}(hs:Sys N xss){x:Int}:∀(ps:ah) (out:ai),(∀p∈ps,p∈xss)->Good N xss pt out->x∈out->
 Good N xss pt (ps.foldl (fun o p=>kp o (gi p x)) out)/\out<+:ps.foldl (fun o p=>kp o (gi p x)) out/\∀p∈ps,gi p x∈ps.foldl (fun o p=>kp o (gi p x)) out
 | [],out,_,h,_=> ⟨h,List.prefix_rfl,fun p hp=>by cases hp⟩
 | q::ps,out,kj,h,hx=>by
  have h1:=h.push hs hx (kj q (by simp));have lN:=KB out (gi q x);obtain⟨g1,g2,g3⟩:=foldl_push hs ps (kp out (gi q x)) (fun p hp=>kj p (by simp [hp])) h1 (lN.subset hx);refine⟨g1,lN.trans g2,fun p hp=>?_⟩;rcases kT.1 hp with rfl | hp
  ·exact g2.subset (Ft.2 (Or.inr O))
  ·exact g3 p hp
theorem gi_in{out:ai}(h:i<out.length):gi out i∈out:=by rw [bF h];exact dU h
theorem C6{a b:ai}(h:a<+:b)(hi:i<a.length):gi b i=gi a i:=by
 rw [bF hi,bF (Nat.lt_of_lt_of_le hi h.length_le)];obtain⟨t,rfl⟩:=h;rw [List.getElem_append_left hi]
theorem Gz{N:Nat}{xss:ah}{pt:Int}(hs:Sys N xss):∀(f i:Nat) (out:ai),Good N xss pt out->N<f+i->(∀j,j<i->j<out.length->∀p∈xss,gi p (gi out j)∈out)->
 Good N xss pt (nn xss f i out)/\out<+:nn xss f i out/\∀x∈nn xss f i out,∀p∈xss,gi p x∈nn xss f i out
 | 0,i,out,h,hf,hc=>by
  simp only [nn];refine⟨h,List.prefix_rfl,fun x hx p hp=>?_⟩;obtain⟨j,hj,rfl⟩:=eZ.1 hx;have:=h.len;have:=hc j (by omega) hj p hp;rw [bF hj]at this;exact this
 | f+1,i,out,h,hf,hc=>by
  simp only [nn]
  split
  ·rename_i hi;obtain⟨g1,g2,g3⟩:=foldl_push hs xss out (fun p hp=>hp) h (gi_in hi);replace g2:out<+:expand xss (gi out i) out:=g2;obtain⟨k1,k2,k3⟩:=Gz hs f (i+1) (expand xss (gi out i) out) g1 (by omega) (fun j hj je p hp=>by
    by_cases oz:j=i
    ·subst oz;show gi p (gi (expand xss _ out) _)∈expand xss _ out;rw [C6 g2 hi];exact g3 p hp
    ·have IW:j<out.length:=by omega
     show gi p (gi (expand xss _ out) _)∈expand xss _ out;rw [C6 g2 IW];exact g2.subset (hc j (by omega) IW p hp))
   exact⟨k1,g2.trans k2,k3⟩
  ·rename_i hi;refine⟨h,List.prefix_rfl,fun x hx p hp=>?_⟩;obtain⟨j,hj,rfl⟩:=eZ.1 hx;have:=hc j (by omega) hj p hp;rw [bF hj]at this;exact this
theorem Hx{N:Nat}{xss:ah}(h0:0<=pt)(h1:pt<N):Good N xss pt [pt]:=
 ⟨by simp,fun x hx=>by simp at hx;subst hx;exact⟨h0,h1⟩,fun x hx=>by simp at hx;subst hx;exact .refl⟩
theorem qB{N:Nat}{xss:ah}(hs:Sys N xss)(h0:0<=pt)(h1:pt<N):
 Good N xss pt (eV N xss pt)/\ [pt]<+:eV N xss pt/\∀x,x∈eV N xss pt↔Reach xss pt x:=by
 obtain⟨g1,g2,g3⟩:=Gz (N:=N) hs (N+1) 0 [pt] (Hx h0 h1) (by omega) (fun j hj=>by omega);refine⟨g1,g2,fun x=> ⟨g1.reach x,fun hr=>?_⟩⟩
 induction hr with
 | refl=>exact g2.subset (by simp)
 | step _ hp ih=>exact g3 _ ih _ hp
end
section
open Go.RowKit
section
variable{t:ae}{z z0:ad}{n0 c0 c':Nat}
variable {P:Program} {N:Nat} {ops:Array Oper} {K:Env->aa->Prop} {rest:List Oper} {e:Env} {w0 w w':aa} {ks:List Ck} {d:Nat} {ty:ae} {pos:String} {af:Array Edge}
theorem eE{el:ae}{b:Nat}[bG P t (.slice el)][bJ P el z 1 b]{x0:ag}{i:Int}(hS:St w0 w ks)(h0:ev e x0=ak i)(hz:z.cells= #[z])(hb:Nat.blt d N=true)(hK:∀A w',St w0 w' (aw el A 1 1 [i]::ks)->ao P N ops K rest (bj e d (.slice A 1 1)) w'):ao P N ops K (⟨some d,.buildSlice t 1 #[(0,x0)],ty,pos,af,none⟩::rest) e w:=
 .Cz hS h0 rfl hz hb hK
theorem l6{el:ae}{b:Nat}[bG P t (.slice el)][bJ P el z 1 b]{x0:ag}{A0:aj}(hS:St w0 w ks)(h0:ev e x0= .slice A0 n0 c0)(hz:z.cells= #[z])(hb:Nat.blt d N=true)(hK:∀A w',St w0 w' (bE el A 1 1 [⟨A0,n0,c0⟩]::ks)->ao P N ops K rest (bj e d (.slice A 1 1)) w'):ao P N ops K (⟨some d,.buildSlice t 1 #[(0,x0)],ty,pos,af,none⟩::rest) e w:=
 .Cz hS h0 rfl hz hb hK
theorem SZ{ys:ai}{m:Nat}(h:ys.length=m):(List.range m).map (fun j=>Value.int .i64 (ys.getD j 0))=ys.map (ak):=by
 subst h;apply ia
 ·simp
 intro i h1 h2;simp [cz,eS (show i<ys.length by simpa using h1)]
theorem S0{ys:List aL}{m:Nat}(h:ys.length=m):(List.range m).map (fun j=> (ys.getD j cL).v)=ys.map aL.v:=by
 subst h;apply ia
 ·simp
 intro i h1 h2;simp [cz,eS (show i<ys.length by simpa using h1)]
theorem WL{el:ae}{b:Nat}[hU:bG P t (.slice el)][bJ P el z 1 b]{x y:ag}(i:Nat){A:aj}{n c:Nat}{xs:ai}{A':aj}{m:Nat}{ys:ai}(hS:St w0 w ks)(hk:ks[i]?=some (aw el A n c xs))(hR:bu w A' m ys)(hx:ev e x= .slice A n c)(hy:ev e y= .slice A' m c')(hz:z.cells= #[z])(sg:n+m<=9223372036854775807)(sA:(n+m)*b<=140737488355328)(hb:Nat.blt d N=true)(hK:∀A2 c2 w',St w0 w' (ks.set i (aw el A2 (n+m) c2 (xs++ys)))->ao P N ops K rest (bj e d (.slice A2 (n+m) c2)) w'):
 ao P N ops K (⟨some d,.call ⟨.builtin .append, #[x,y], #[t,t]⟩,ty,pos,af,none⟩::rest) e w:=
 .app i hS hk hR.2 hx hy rfl hz (fun _ _=>rfl) (by simpa [maxLen]using sg) sA hb fun A2 c2 w' h=>hK A2 c2 w' (by
  rw [SZ hR.1]at h;simpa [aw]using h)
theorem fj{el:ae}{b:Nat}[hU:bG P t (.slice el)][bJ P el z 1 b]{x y:ag}(i:Nat){A:aj}{n c:Nat}{xs:ai}{A':aj}{m:Nat}{ys:ai}(hS:St w0 w ks)(hk:ks[i]?=some (aw el A n c xs))(hR:bu w A' m ys)(hx:ev e x= .slice A n c)(hy:ev e y= .slice A' m c')(q9:(z.cells,Nat.blt d N)=(#[z],true))(hK:∀A2 c2 w',St w0 w' (ks.set i (aw el A2 (n+m) c2 (xs++ys)))->ao P N ops K rest (bj e d (.slice A2 (n+m) c2)) w')(sg:n+m<=9223372036854775807:=by omega)(sA:(n+m)*b<=140737488355328:=by omega):ao P N ops K (⟨some d,.call ⟨.builtin .append, #[x,y], #[t,t]⟩,ty,pos,af,none⟩::rest) e w:=WL i hS hk hR hx hy (congrArg (fun p=>p.1) q9) sg sA (congrArg (fun p=>p.2) q9) hK
theorem l5{el:ae}{b:Nat}[hU:bG P t (.slice el)][bJ P el z 1 b]{x y:ag}(i:Nat){A:aj}{n c:Nat}{xs:List aL}{A':aj}{m:Nat}{ys:List aL}(hS:St w0 w ks)(hk:ks[i]?=some (bE el A n c xs))(hR:im w A' m ys)(hx:ev e x= .slice A n c)(hy:ev e y= .slice A' m c')(hz:z.cells= #[z0])(sg:n+m<=9223372036854775807)(sA:(n+m)*b<=140737488355328)(hb:Nat.blt d N=true)(hK:∀A2 c2 w',St w0 w' (ks.set i (bE el A2 (n+m) c2 (xs++ys)))->ao P N ops K rest (bj e d (.slice A2 (n+m) c2)) w'):
 ao P N ops K (⟨some d,.call ⟨.builtin .append, #[x,y], #[t,t]⟩,ty,pos,af,none⟩::rest) e w:=
 .app i hS hk hR.2 hx hy rfl hz (fun _ _=>rfl) (by simpa [maxLen]using sg) sA hb fun A2 c2 w' h=>hK A2 c2 w' (by
  rw [S0 hR.1]at h;simpa [bE]using h)
end
def rY(M:Nat)(S:List Bool)(out:ai):Prop:=S.length=M/\∀x:Int,0<=x->x<M->(gb S x=true↔x∈out)
theorem rY.init{M:Nat}{pt:Int}(h0:0<=pt)(h1:pt<M):rY M ((List.replicate M false).set pt.toNat true) [pt]:=by
 refine⟨by simp,fun x hx gF=>?_⟩;rw [wM h0 (by simpa using h1) hx]
 by_cases e:pt=x
 ·simp [e]
 rw [aC e];have:x≠pt:=fun h=>e h.symm
 simp [gb,cz,List.getElem?_replicate,this]
 split<;>simp
theorem rY.push{M:Nat}{S:List Bool}{out:ai}{y:Int}(h:rY M S out)(h0:0<=y)(h1:y<M):rY M (S.set y.toNat true) (out++ [y]):=by
 refine⟨by simpa using h.1,fun x hx gF=>?_⟩;rw [wM h0 (by rw [h.1];exact h1) hx,gL]
 by_cases e:y=x
 ·simp [e]
 rw [aC e,h.2 x hx gF];have:x≠y:=fun h=>e h.symm
 simp [this]
theorem MO{xss:ah}{f i:Nat}{out:ai}(h:¬i<out.length):nn xss f i out=out:=by
 cases f with
 | zero=>rfl
 | succ f=>simp only [nn];rw [aC h]
theorem bq.pE{w:aa}{A:aj}{n:Nat}{rs:List aL}{xss:ah}(h:bq w A n rs xss){k:Int}(h0:0<=k)(h1:k<n):(gl xss k).length=(rg rs k).n:=(h.at_ h0 h1).1
theorem sf{xss:ah}{k:Int}(h0:0<=k)(h:k<xss.length):gl xss k∈xss:=by
 obtain⟨j,rfl⟩:∃j:Nat,k=j:=⟨k.toNat,by omega⟩;rw [cX (by omega)];exact dU _
theorem J0(A:aj)(n c:Nat)(rs:List aL)(xss:ah)(N:Nat)(pt:Int)(w:aa)(hR:bq w A n rs xss)(hn:n<=9223372036854775807)(hs:Sys N xss)(hN:N<=1000000000)(h0:0<=pt)(h1:pt<N):
 aJ prog 217 [.slice A n c,ak pt] w (fun v w'=>∃A' c',v= .slice A' (eV N xss pt).length c'/\St w w' [aw 2 A' (eV N xss pt).length c' (eV N xss pt)]):=by
 have bM:∀k:Int,0<=k->k<n->(rg rs k).n=N:=fun k qn hk=>by
  rw [<-hR.pE qn hk];exact(hs _ (sf qn (by rw [hR.len];exact hk))).1
 refine br func217 O ntmps217 O (cw O) (a8 O (eE (St.refl w) O O O ?_));intro A1 w1 ay;refine yQ 2 O (pK (α:=Nat) (fun s=> [(0,.slice A n c),(1,ak pt),(5,.slice A1 1 1),(6,ak s)]) (fun s w'=>w'=w1/\s<=N/\(0<n->s=N)) ?_ ?_)
 ·refine a8 O (ba O O (aE O ?_));refine aN _ O (fun h2=>?_) (fun h2=>?_)
  ·refine aG O (aB (ay.Fl hR.top).2 O (ck (ay.Fl hR.top) O ?_));refine ba O O (aR O (tQ ?_));exact⟨N,⟨O,O,O,by rw [bM 0 (by omega) (by omega)];rfl,av⟩,O,dh _,fun _=>O⟩
  refine wm O (tQ ?_);exact⟨0,(WM O),O,bn _,fun h=>by omega⟩
 rintro s e1 w2 ⟨rfl,QW,uf⟩;have vC:n=0->N=N:=fun _=>O
 refine aG O (aK O (aK O ?_));refine tj (s+pt.toNat+1) ay (by show Value.int .i64 _=Value.int .i64 _;congr 1;omega) O (by omega) ?_;intro A2 w3 aU;refine ar O (aB (aU.gX 0 O).2 O (pQ 0 aU O O O (by omega) ?_));intro w4 bd;refine aE O (Cd.loop (α:=Nat×ai×aj×Nat×List Bool) (fun q=> [(0,.slice A n c),(5,.slice q.2.2.1 q.2.1.length q.2.2.2.1),(7,.slice A2 (s+pt.toNat+1) (s+pt.toNat+1)),(8,ak (q.1:Int))]) (fun q w'=>St w w' [eC 4 A2 (s+pt.toNat+1) (s+pt.toNat+1) q.2.2.2.2,aw 2 q.2.2.1 q.2.1.length q.2.2.2.1 q.2.1]/\q.1<=q.2.1.length/\Good N xss pt q.2.1/\rY (s+pt.toNat+1) q.2.2.2.2 q.2.1/\nn xss (N+1 - q.1) q.1 q.2.1=eV N xss pt) (fun q=>N+1 - q.1) (0,[pt],A1,1,(List.replicate (s+pt.toNat+1) false).set pt.toNat true) (WM O) ⟨bd,bn _,Hx h0 h1,rY.init h0 (by omega),O⟩ ?_);rintro⟨i,out,Ao,co,S⟩ e2 w5 ⟨bh,hi,hg,hm,hb⟩;dsimp only at bh hi hg hm hb|-;have hlen:=hg.len;refine a8 O (ba O O (aE O ?_));refine aN _ O (fun h2=>?_) (fun h2=>?_)
 ·refine df O (Cd.loop (α:=Nat×ai×aj×Nat×List Bool) (fun q=> [(0,.slice A n c),(5,.slice q.2.2.1 q.2.1.length q.2.2.2.1),(7,.slice A2 (s+pt.toNat+1) (s+pt.toNat+1)),(8,ak i),(9,ak (q.1:Int))]) (fun q w'=>St w w' [eC 4 A2 (s+pt.toNat+1) (s+pt.toNat+1) q.2.2.2.2,aw 2 q.2.2.1 q.2.1.length q.2.2.2.1 q.2.1]/\q.1<=n/\Good N xss pt q.2.1/\rY (s+pt.toNat+1) q.2.2.2.2 q.2.1/\out<+:q.2.1/\(xss.drop q.1).foldl (fun o p=>kp o (gi p (gi out i))) q.2.1=expand xss (gi out i) out) (fun q=>n - q.1) (0,out,Ao,co,S) (WM O) ⟨bh,bn _,hg,hm,List.prefix_rfl,O⟩ ?_);rintro⟨k,jV,yM,CL,S'⟩ e3 w6 ⟨bD,hk,oy,jf,pj,hf⟩;dsimp only at bD hk oy jf pj hf|-;have qo:=oy.len;refine a8 O (ba O O (aE O ?_));refine aN _ O (fun h3=>?_) (fun h3=>?_)
  ·have Ed:i<jV.length:=by have:=pj.length_le;omega
   have vt:gi jV i=gi out i:=C6 pj (by omega);have fT:=hg.range _ (gi_in (i:=i) (by omega));have gS:gl xss k∈xss:=sf (by omega) (by rw [hR.len];omega);have hy:=(hs _ gS).2 (gi out i) fT.1 fT.2;have jg:=bM k (by omega) (by omega);have QW:s=N:=uf (by omega);have hT:=(bD.bO hR);have hO:=bD.bo 1 O;have bH:=hT.at_ (i:=k) (by omega) (by omega);refine df O ?_;refine dL [xS (A) (n) (c),xI ((k:Int)),xP (aD (A) ((k:Int)).toNat),xS ((rg (rs) ((k:Int))).a) ((rg (rs) ((k:Int))).n) ((rg (rs) ((k:Int))).c),xS (yM) (jV.length) (CL),xI ((i:Int)),xP (aD (yM) ((i:Int)).toNat),xI (gi (jV) ((i:Int))),xP (aD ((rg (rs) ((k:Int))).a) (gi (jV) ((i:Int))).toNat),xI (gi (gl xss k) (gi (jV) ((i:Int)))),xI (gi (gl xss k) (gi (jV) ((i:Int))))] O (dV O) ?_ ?_
   ·exact⟨Dr O,Dr O,fun _ _ hb _ _=>aB (hT.top.aq hb).2 O Az,fun _ _ hb _ _=>ck (hT.top.aq hb) O Az,Dr O,Dr O,fun _ _ hb _ _=>aB (hO.aq hb).2 O Az,fun _ _ hb _ _=>aW (hO.aq hb) O Az,fun _ _ hb _ _=>WB (bH.aq hb).2 O O O (by rw [vt];omega) (by rw [vt,jg];omega) Az,fun _ _ hb _ _=>aW (bH.aq hb) O Az,Dr O,av⟩
   intro u w7 rb _;have bl:=bD.aq rb;rw [vt];have Ag:(xss.drop (k+1)).foldl (fun o p=>kp o (gi p (gi out i))) (kp jV (gi (gl xss k) (gi out i)))=expand xss (gi out i) out:=by
    rw [<-hf,List.drop_eq_getElem_cons (show k<xss.length by rw [hR.len];omega),List.foldl_cons,cX (by rw [hR.len];omega)]
   refine gZ O (aB (bl.gX 0 O).2 O (nh (bl.gX 0 O) O (by omega) O O ?_))
   first | refine dk rfl rfl ?_ | refine eF rfl rfl ?_
   refine aE O (Cd.cond O (fun h4=>?_) (fun h4=>?_))
   ·have QE:¬gi (gl xss k) (gi out i)∈jV:=fun de=>by
     have:=(jf.2 _ hy.1 (by omega)).2 de;rw [this]at h4;cases h4
    have Ex:kp jV (gi (gl xss k) (gi out i))=jV++ [gi (gl xss k) (gi out i)]:=by unfold kp;rw [if_neg QE]
    have xu:=oy.push hs (pj.subset (gi_in (i:=i) (by omega))) gS;have Jj:=pj.trans (KB jV (gi (gl xss k) (gi out i)));rw [Ex]at Ag xu Jj;have Qo:=xu.len;simp only [eY,List.length_singleton]at Qo;refine aG O (aB (bl.gX 0 O).2 O (pQ 0 bl O O O (by omega) ?_));intro w8 b7;refine ar O (eE b7 O O O ?_);intro A3 w9 bg;refine fj 2 bg O (bg.bo 0 O) O O O fun A4 c4 dw bQ=>ar O (aK O (aR O (tQ ?_)));refine⟨(k+1,jV++ [gi (gl xss k) (gi out i)],A4,c4,S'.set (gi (gl xss k) (gi out i)).toNat true),by show n - (k+1)<n - k;omega,⟨O,by rw [eY];rfl,O,O,O,av⟩,?_,by show k+1<=n;omega,xu,jf.push hy.1 (by omega),Jj,Ag⟩;have o7:=bQ.tail;simp only [eY,List.length_singleton];exact o7
   have de:gi (gl xss k) (gi out i)∈jV:=(jf.2 _ hy.1 (by omega)).1 (by simpa using h4);have Ex:kp jV (gi (gl xss k) (gi out i))=jV:=by unfold kp;rw [if_pos de]
   rw [Ex]at Ag;refine aG O (aK O (aR O (tQ ?_)));exact⟨(k+1,jV,yM,CL,S'),by show n - (k+1)<n - k;omega,(WM O),bl,by show k+1<=n;omega,oy,jf,pj,Ag⟩
  refine bk O (bm (ct O (aK O (aR O (tQ ?_)))));have fF:k=n:=by omega
  rw [fF,<-hR.len,List.drop_length,List.foldl_nil]at hf;refine⟨(i+1,jV,yM,CL,S'),by show N+1 - (i+1)<N+1 - i;omega,(WM O),bD,?_,oy,jf,?_⟩
  ·have:=pj.length_le;show i+1<=jV.length;omega
  show nn xss (N+1 - (i+1)) (i+1) jV=eV N xss pt;rw [<-hb,hf];have e:N+1 - i=(N+1 - (i+1))+1:=by omega
  rw [e];simp only [nn];rw [aF (by omega)]
 refine bk O (bm (fA O ?_));refine eW O ?_;rw [MO (by omega)]at hb;exact⟨Ao,co,by rw [hb],by rw [<-hb];exact bh.tail⟩
section
variable {P:Program} {N:Nat} {e:Env} {w:aa}
end
section
variable{t t':ae}
variable {P:Program} {N:Nat} {ops:Array Oper} {K:Env->aa->Prop} {rest:List Oper} {e:Env} {w0 w w':aa} {ks:List Ck} {d:Nat} {ty:ae} {pos:String} {af:Array Edge}
theorem FW{Q:gu}{c:ag}{x y:Code}{p:Prop}[Decidable p](hc:ev e c= .bool (decide p))(hp:p)(h1:Cd P N x Q e w):Cd P N (.cond c x y) Q e w:= .fx (by rw [hc,eD hp]) h1
theorem tf{Q:gu}{c:ag}{x y:Code}{p:Prop}[Decidable p](hc:ev e c= .bool (decide p))(hp:¬p)(h1:Cd P N y Q e w):Cd P N (.cond c x y) Q e w:= .eM (by rw [hc,cS hp]) h1
theorem GU(A:aj)(c:Nat):cutAt A c 0=A:=by
 unfold cutAt
 split
 ·rfl
 cases A<;>simp [aD,Addr.add]
theorem Rz{vs fs:List ad}{l q:Nat}(hM:eg vs=false)(h1:∀u∈fs,u.oneCell'=true)(hq:l=0->fs≠[]:=by first | assumption | (intro _ hn;have:=aH List.length hn;simp at this;omega)):eg (vs.take l++fs++vs.drop q)=false:=by
 by_cases hl:l=0
 ·subst hl;rw [List.take_zero,List.nil_append];exact EU (rE h1) (hq O)
 ·cases vs with
  | nil=>simp only [List.take_nil,List.drop_nil,List.nil_append,fO];exact rE h1
  | cons v r=>
   obtain⟨m,rfl⟩:∃m,l=m+1:=⟨l - 1,by omega⟩;cases v<;>simp_all [eg]
theorem Ur{el:ae}{z:ad}{b:Nat}[hU:bG P t (.slice el)][bJ P el z 1 b]{k:Ck}(i l:Nat)(hS:St w0 w ks)(hk:ks[i]?=some k)(hM:eg k.vs=false)(hl:l<=k.n){A':aj}{m dc c':Nat}{f:Nat->ad}(hR:Rd w A' m f)(h1:∀j,j<m->(f j).oneCell'=true)(ty:ae)(q:Nat)(hq:q=min m (k.n - l)):
 ∃w',(Builtin.copy_ #[t,t'] ty #[.slice (cutAt k.A k.c l) (k.n - l) dc,.slice A' m c']).run P w= .ok (ak q) w'/\St w0 w' (ks.set i { k with vs:=k.vs.take l++ (List.range q).map f++k.vs.drop (l+q) }):=by
 obtain⟨inf,hi,fH,hs,iT⟩:=bJ.get P el;have Et:=hS.qc hk hM;obtain⟨Bc,oC,lk,h4⟩:=Et;have xA:=(fY.1 hk).1;have vH:(P.info? el).map (·.size)=some 1:=by simp [hi,hs]
 by_cases qp:q=0
 ·have hr:=run_copy_none (P:=P) w t t' ty el (cutAt k.A k.c l) A' (k.n - l) dc m c' hU.out vH (by show min m (k.n - l)=0;omega);refine⟨w,by rw [hr,qp];rfl,?_⟩;have h5:({ k with vs:=k.vs.take l++ (List.range q).map f++k.vs.drop (l+q) }:Ck)=k:=by subst qp;simp [List.take_append_drop]
  have:ks.set i { k with vs:=k.vs.take l++ (List.range q).map f++k.vs.drop (l+q) }=ks:=by
   rw [h5];apply List.ext_getElem?;intro j;rw [l0]
   split
   ·rename_i e;subst e;rw [hk]
    try simp [xA]
   rfl
  rw [this];exact hS
 obtain⟨a,rfl⟩:∃a,A'=some a:=by
  obtain⟨p,hp,_⟩:=hR 0 (by omega);cases A' with | none=>simp [aD]at hp | some q=>exact⟨q,rfl⟩
 rcases h4 with⟨hA,h0⟩ | ⟨g,o,cur,hA,hg,hh,kK,hc⟩
 ·omega
 have hD:cutAt k.A k.c l=some ⟨g,o+l,none⟩:=by
  unfold cutAt;rw [aC (by omega),hA];simp [aD,wA]
 have gU:((List.range q).map f).length=q:=by simp
 have xN:∀j v,((List.range q).map f)[j]?=some v->w.cell? (a.add j)=some v:=by
  intro j v hj;have Al:j<q:=by have:=(fY.1 hj).1;simpa using this
  obtain⟨p,hp,hc⟩:=hR j (by omega);simp only [aD,Option.map_some,lF]at hp;rw [hp,hc,<-hj];simp [Al]
 have tA:∀u∈(List.range q).map f,u.oneCell'=true:=by
  intro u hu;obtain⟨j,hj,rfl⟩:=fh.1 hu;have Ee:j<q:=by simpa using hj
  exact h1 j (by omega)
 have hr:=run_copy_row (P:=P) w t t' ty el g (o+l) (k.n - l) dc a m c' cur k.e ((List.range q).map f) hU.out vH hh (by rw [gU,hq]) xN (by rw [gU];omega) tA;rw [gU]at hr;rw [hD];refine⟨w.setRow g (cur.toList.take (o+l)++ (List.range q).map f++cur.toList.drop (o+l+q)).toArray,hr,hS.turn (k:=k) (k':= { k with vs:=k.vs.take l++ (List.range q).map f++k.vs.drop (l+q) }) (g:=g) hk (by simp [Ck.fQ,hA]) (by simp [Ck.fQ,hA]) ⟨⟨O,O,O,by simp,fun x _ hx=>setRow_other w g x _ (fun e=>hx (by rw [e]))⟩,dh _⟩ ?_⟩;refine .oP (Rz hM tA) ⟨by simp [Bc];omega,oC,lk,.inr ⟨g,o,_,hA,hg,setRow_heap w g cur _ k.e _ hh,?_,fun j hj=>?_⟩⟩
 ·simp;omega
 have jS:j<k.n:=hj;have cT:cur.toList.length=cur.size:=by simp
 show((cur.toList.take (o+l)++ (List.range q).map f++cur.toList.drop (o+l+q)).toArray)[o+j]?=(k.vs.take l++ (List.range q).map f++k.vs.drop (l+q))[j]?;rw [List.getElem?_toArray,ig,ig]
 by_cases je:j<l
 ·rw [lY (by simp;omega),pN,aF (by omega),lY (by simp;omega),pN,aF je,Array.getElem?_toList];exact hc j jS
 have e1:o+j - (cur.toList.take (o+l)).length=j - l:=by simp;omega
 have e2:j - (k.vs.take l).length=j - l:=by simp;omega
 have e3:(cur.toList.take (o+l)++ ((List.range q).map f++cur.toList.drop (o+l+q)))[o+j]?=((List.range q).map f++cur.toList.drop (o+l+q))[j - l]?:=by
  rw [lZ (by simp;omega),e1]
 have e4:(k.vs.take l++ ((List.range q).map f++k.vs.drop (l+q)))[j]?=((List.range q).map f++k.vs.drop (l+q))[j - l]?:=by
  rw [lZ (by simp;omega),e2]
 rw [e3,e4]
 by_cases Ee:j - l<q
 ·rw [lY (by simpa using Ee),lY (by simpa using Ee)]
 rw [lZ (by rw [gU];omega),lZ (by rw [gU];omega),gU,List.getElem?_drop,List.getElem?_drop,Array.getElem?_toList,show o+l+q+ (j - l - q)=o+j by omega,show l+q+ (j - l - q)=j by omega];exact hc j jS
theorem Gb{el:ae}{z:ad}{b:Nat}[hU:bG P t (.slice el)][bJ P el z 1 b]{x y:ag}{k:Ck}(i l:Nat){A':aj}{m dc c':Nat}{f:Nat->ad}(q:Nat)(hS:St w0 w ks)(hk:ks[i]?=some k)(hR:Rd w A' m f)(hl:l<=k.n)(hx:ev e x= .slice (cutAt k.A k.c l) (k.n - l) dc)(hy:ev e y= .slice A' m c')(h1:∀j,j<m->(f j).oneCell'=true)(hq:q=min m (k.n - l))(hb:Nat.blt d N=true)(hK:∀w',St w0 w' (ks.set i { k with vs:=k.vs.take l++ (List.range q).map f++k.vs.drop (l+q) })->ao P N ops K rest (bj e d (ak q)) w')(hM:eg k.vs=false:=by first | rfl | exact qx _ | exact yn _ | exact Bg _):
 ao P N ops K (⟨some d,.call ⟨.builtin .copy, #[x,y], #[t,t']⟩,ty,pos,af,none⟩::rest) e w:=by
 obtain⟨w',hr,mE⟩:=Ur (P:=P) (t:=t) (t':=t') (dc:=dc) (c':=c') i l hS hk hM hl hR h1 ty q hq;refine .val (w':=w') ?_ hb (hK _ mE);simp [execOp,resolve,invoke,builtin,hx,hy,hr]
theorem L5{x y:ag}{i j:Int}(hx:ev e x=ak i)(hy:ev e y=ak j)(hb:Nat.blt d N=true)(hK:ao P N ops K rest (bj e d (ak (min i j))) w):
 ao P N ops K (⟨some d,.call ⟨.builtin .min, #[x,y], #[t,t']⟩,ty,pos,af,none⟩::rest) e w:=by
 have hm:(if j<i then j else i)=min i j:=by split<;>omega
 refine .val (w':=w) ?_ hb hK;simp [execOp,resolve,invoke,builtin,hx,hy,Builtin.min_,Builtin.min2,hm]
section
variable {x y:ag} {xt yt:ae} {i j:Int}
theorem rT(i:Int)(h:0<=i/\i<=18446744073709551615):IntKind.u64.wrap i=i:=by rw [IntKind.wrap_u64];omega
theorem yV(r:Int)(hx:ev e x= .int .u64 i)(hy:ev e y= .int .u64 j)(hb:Nat.blt d N=true)(he:i+j=r)(hr:0<=r/\r<=18446744073709551615)(hK:ao P N ops K rest (bj e d (.int .u64 r)) w):
 ao P N ops K (⟨some d,.binOp .add xt x y yt,ty,pos,af,none⟩::rest) e w:=
 .val (by simp [execOp,hx,hy,eqGuard,binOp,Op.intArith,he,rT _ hr]) hb hK
theorem wu(r:Int)(hx:ev e x= .int .u64 i)(hy:ev e y= .int .u64 j)(hb:Nat.blt d N=true)(he:i*j=r)(hr:0<=r/\r<=18446744073709551615)(hK:ao P N ops K rest (bj e d (.int .u64 r)) w):
 ao P N ops K (⟨some d,.binOp .mul xt x y yt,ty,pos,af,none⟩::rest) e w:=
 .val (by simp [execOp,hx,hy,eqGuard,binOp,Op.intArith,he,rT _ hr]) hb hK
theorem Cb(r:Int)(hx:ev e x= .int .u64 i)(hy:ev e y= .int .u64 4294967295)(hb:Nat.blt d N=true)(hr:0<=i/\i<=18446744073709551615)(he:i%4294967296=r)(hK:ao P N ops K rest (bj e d (.int .u64 r)) w):
 ao P N ops K (⟨some d,.binOp .and xt x y yt,ty,pos,af,none⟩::rest) e w:=by
 subst he;obtain⟨a,rfl⟩:∃a:Nat,i=a:=⟨i.toNat,by omega⟩;have h:=Mul64.maskN a (by omega);rw [show((a%4294967296:Nat):Int)=(a:Int)%4294967296 by omega]at h;refine .val ?_ hb hK;simp only [execOp,hx,hy,eqGuard,binOp,intBits_and,h];simp
theorem wv(r:Int)(hx:ev e x= .int .u64 i)(hy:ev e y= .int .u64 32)(hb:Nat.blt d N=true)(hr:0<=i)(he:i / 4294967296=r)(hK:ao P N ops K rest (bj e d (.int .u64 r)) w):
 ao P N ops K (⟨some d,.binOp .shr xt x y yt,ty,pos,af,none⟩::rest) e w:=by
 subst he;refine .val ?_ hb hK;have e1:min 32 IntKind.u64.bits=32:=by decide
 have e2:i.fdiv (2^32)=i / 4294967296:=by rw [Int.fdiv_eq_ediv_of_nonneg _ (by decide)];rfl
 have NI:i.fdiv 4294967296=i / 4294967296:=e2;simp [execOp,hx,hy,eqGuard,binOp,Op.shift,e1,NI]
theorem nZ{k k':IntKind}[bG P yt (.int k')](hx:ev e x= .int k i)(hb:Nat.blt d N=true)(hw:k'.wrap i=i){u:TypeDesc}[bG P xt u](hK:ao P N ops K rest (bj e d (.int k' i)) w):
 ao P N ops K (⟨some d,.convert xt yt x,ty,pos,af,none⟩::rest) e w:=
 .val (by simp [execOp,hx,convert,run_underlying (bG.out (P:=P) (t:=xt)),run_underlying (bG.out (P:=P) (t:=yt)),Conv.intToInt,hw]) hb hK
end
end
def gm(l:List Oper):List Nat:=l.filterMap (·.dst)
theorem CZ{α β:Type}(f:α->Option β):∀(l:List α),(l.filterMap f).Nodup->∀(i j:Nat) (a b:α) (d:β),l[i]?=some a->l[j]?=some b->f a=some d->f b=some d->i=j
 | [],_,i,j,a,b,d,hi,_,_,_=>by simp at hi
 | x::l,hn,i,j,a,b,d,hi,hj,ha,hb=>by
  have mem:∀(k:Nat) (c:α),l[k]?=some c->f c=some d->d∈l.filterMap f:=fun k c hk hc=>List.mem_filterMap.2 ⟨c,List.mem_of_getElem? hk,hc⟩
  cases hx:f x with
  | none=>
   rw [List.filterMap_cons,hx]at hn;cases i with
   | zero=>simp at hi;subst hi;rw [hx]at ha;cases ha
   | succ i=>
    cases j with
    | zero=>simp at hj;subst hj;rw [hx]at hb;cases hb
    | succ j=>rw [CZ f l hn i j a b d (by simpa using hi) (by simpa using hj) ha hb]
  | some y=>
   rw [List.filterMap_cons,hx]at hn;simp only [mZ]at hn;cases i with
   | zero=>
    simp at hi;subst hi;rw [hx]at ha;cases ha;cases j with
    | zero=>rfl
    | succ j=>exact absurd (mem j b (by simpa using hj) hb) hn.1
   | succ i=>
    cases j with
    | zero=>
     simp at hj;subst hj;rw [hx]at hb;cases hb;exact absurd (mem i a (by simpa using hi) ha) hn.1
    | succ j=>rw [CZ f l hn.2 i j a b d (by simpa using hi) (by simpa using hj) ha hb]
def valOf(o:Oper)(e:Env):ad:=match o.dst with
 | some d=>e d
 | none=>undef
def JP:Yd->Bool
 | .ex _=>true
 | .pr _=>false
def Bn(l:List Oper)(ms:List Nat)(k:Nat):Nat:=ms.countP fun m=>gv l l.length k m
def vw(l:List Oper)(ms:List Nat)(k:Nat):Nat:=ms.countP fun m=>!(gv l l.length m k) && !(Nat.beq m k)
def jv(l:List Oper)(ms:List Nat)(k:Nat):Nat:=ms.countP fun m=>Nat.beq m k || gv l l.length k m
def uR(l:List Oper)(ms:List Nat)(m:Nat):Bool:=ms.all fun m'=>Nat.beq m' m || gv l l.length m m' || gv l l.length m' m
def Yd.at_(c ph:Nat):Yd->ad->aa->Prop
 | .ex v,u,_=>u=v
 | .pr p,u,w=>c=ph->p u w
theorem lQ{a b c:Nat}(h:c<=a)(e:a=b):c<=b:=e▸h
theorem cc_of{a b c d:Nat}(h:a<=c)(k:c<=d)(e:a=b:=by kernel_rfl)(f:d=b:=by kernel_rfl):c=b:=by omega
section
variable {P:Program} {N:Nat} {e:Env} {w:aa}
theorem K8(e1:Env)(d:Nat)(v:ad):bj e1 d v d=v:=by unfold bj;rw [Nat.beq_refl];rfl
theorem K9(e1:Env){d j:Nat}(v:ad)(h:j≠d):bj e1 d v j=e1 j:=by
 have:Nat.beq j d=false:=by
  cases hb:Nat.beq j d with
  | false=>rfl
  | true=>exact absurd (kz hb) h
 unfold bj;rw [this];rfl
theorem zk{ms:List Nat}{p q:Nat->Bool}(h:∀m∈ms,p m=true->q m=true):ms.countP p<=ms.countP q:=List.countP_mono_left h
end
inductive Ye where
 | ex (v:ad)
 | pr (p:ad->aa->Prop)
 | p2 (j:Nat) (p:ad->ad->aa->Prop)
 | al (q:ad->Prop) (p:ad->aa->Prop)
def vl(l:List Oper)(e:Env)(k:Nat):ad:=match l[k]? with
 | some o=>valOf o e
 | none=>undef
def Ye.holds(uu:Nat->ad):Ye->ad->aa->Prop
 | .ex v,u,_=>u=v
 | .pr p,u,w=>p u w
 | .p2 j p,u,w=>p (uu j) u w
 | .al q p,u,w=>q u/\p u w
def Ye.nL:Ye->Prop
 | .ex _=>True
 | .pr p=>∀v w w',p v w->Below w.heap.size w w'->p v w'
 | .p2 _ p=>∀a v w w',p a v w->Below w.heap.size w w'->p a v w'
 | .al _ p=>∀v w w',p v w->Below w.heap.size w w'->p v w'
theorem Ye.SH(v:ad):(Ye.ex v).nL:=True.intro
theorem ly{v:ad}{l:List Ye}(h:∀y∈l,y.nL):∀y∈Ye.ex v::l,y.nL:=cM.2 ⟨True.intro,h⟩
theorem Ye.cN{p:ad->aa->Prop}(h:∀v w w',p v w->Below w.heap.size w w'->p v w'):(Ye.pr p).nL:=h
abbrev yU:Ye:= .ex undef
abbrev yI(i:Int):Ye:= .ex (ak i)
abbrev yB(b:Bool):Ye:= .ex (.bool b)
abbrev yP(a:aj):Ye:= .ex (.pointer a)
abbrev yS(a:aj)(n c:Nat):Ye:= .ex (.slice a n c)
def ET:Ye->Bool
 | .ex _=>true
 | .pr _=>false
 | .p2 ..=>false
 | .al ..=>false
def G2(N:Nat)(l:List Oper)(ys:List Ye)(ms:List Nat):Bool:=
 l.all (fun o=>match o.dst with | some d=>Nat.blt d N | none=>true) && decide ((gm l).Nodup) && (l.zipIdx.all fun p=> (dS p.1).all fun ed=>Nat.blt ed.on p.2) && Nat.beq l.length ys.length && (l.zip ys).all (fun p=>p.1.dst.isSome || !ET p.2) && decide ms.Nodup && ms.all (fun m=>Nat.blt m l.length) && (ys.zipIdx.all fun p=>!(ET p.1) || !(ms.contains p.2)) && (ys.zipIdx.all fun p=>match p.1 with | .p2 j _=>gv l l.length p.2 j && Nat.blt j l.length | _=>true)
def Ye.at_(c ph:Nat)(uu:Nat->ad):Ye->ad->aa->Prop
 | .ex v,u,_=>u=v
 | .pr p,u,w=>c=ph->p u w
 | .p2 j p,u,w=>c=ph->p (uu j) u w
 | .al q p,u,w=>q u/\(c=ph->p u w)
def mc:List Oper->List Ye->(Nat->ad)->Nat->List (Nat×ad)
 | o::l,y::ys,u,i=>match o.dst,y with
  | some d,.ex v=> (d,v)::mc l ys u (i+1)
  | some d,.pr _=> (d,u i)::mc l ys u (i+1)
  | some d,.p2 ..=> (d,u i)::mc l ys u (i+1)
  | some d,.al ..=> (d,u i)::mc l ys u (i+1)
  | none,_=>mc l ys u (i+1)
 | _,_,_,_=> []
def kh(l:List Oper)(ys:List Ye):List Edge->List (Nat×ad)
 | []=> []
 | ed::r=>match ys[ed.on]?,(l[ed.on]?).bind (·.dst)with
  | some (.ex v),some d=> (d,v)::kh l ys r
  | _,_=>kh l ys r
section
variable{o:Oper}{y:Ye}{e1:Env}{w1 w2:aa}{d i id:Nat}{ys:List Ye}{ms:List Nat}
variable {P:Program} {N:Nat} {e:Env} {w:aa}
def eX(o:Oper)(y:Ye)(uu:Nat->ad)(e1:Env)(w1:aa):Env->aa->Prop:=fun e2 w2=>Below w1.heap.size w1 w2/\y.holds uu (valOf o e2) w2/\∀j,o.dst≠some j->e2 j=e1 j
def fg(o:Oper)(y:Ye)(uu:Nat->ad)(e1:Env):Env->aa->Prop:=fun e2 w2=>y.holds uu (valOf o e2) w2/\∀j,o.dst≠some j->e2 j=e1 j
theorem eX.dn{uu:Nat->ad}{v:ad}(hd:o.dst=some d)(hb:Below w1.heap.size w1 w2)(hv:y.holds uu v w2):eX o y uu e1 w1 (bj e1 d v) w2:=by
 refine⟨hb,?_,fun j hj=>K9 e1 v (fun h=>hj (by rw [hd,h]))⟩;unfold valOf;rw [hd];show y.holds uu (bj e1 d v d) w2;rw [K8];exact hv
theorem eO{uu:Nat->ad}{v:ad}(hd:o.dst=some d)(hv:y.holds uu v w1):eX o y uu e1 w1 (bj e1 d v) w1:=eX.dn hd (Below.refl _ _) hv
theorem fg.dn{uu:Nat->ad}{v:ad}(hd:o.dst=some d)(hv:y.holds uu v w2):fg o y uu e1 (bj e1 d v) w2:=by
 refine⟨?_,fun j hj=>K9 e1 v (fun h=>hj (by rw [hd,h]))⟩;unfold valOf;rw [hd];show y.holds uu (bj e1 d v d) w2;rw [K8];exact hv
theorem fg.st{uu:Nat->ad}(hd:o.dst=none)(hv:y.holds uu undef w2):fg o y uu e1 e1 w2:=by
 refine⟨?_,fun j _=>O⟩;unfold valOf;rw [hd];exact hv
def r5(P:Program)(N:Nat)(l:List Oper)(ys:List Ye)(ms:List Nat)(e:Env)(w:aa)(i:Nat)(o:Oper):Prop:=
 ∀(e1:Env) (w1:aa) (c:Nat),Bn l ms i<=c->c<=vw l ms i->(c=0->Below w.heap.size w w1)->(∀(j:Nat) (y:Ye) (o':Oper),gv l l.length i j=true->ys[j]?=some y->l[j]?=some o'->y.at_ c (jv l ms j) (vl l e1) (valOf o' e1) w1)->(∀(j:Nat) (o':Oper),l[j]?=some o'->gv l l.length j i=true->valOf o' e1=valOf o' e)->(∀(m:Nat) (y:Ye) (o':Oper),eU ms m=true->uR l ms m=true->jv l ms m=c->ys[m]?=some y->l[m]?=some o'->y.at_ c (jv l ms m) (vl l e1) (valOf o' e1) w1)->
  bif eU ms i then ao P N l.toArray (fg o (ys.getD i (.pr fun _ _=>True)) (vl l e1) (ext (mix e1 e (gm l)) (kh l ys (dS o)))) [o] (ext (mix e1 e (gm l)) (kh l ys (dS o))) w1
  else ao P N l.toArray (eX o (ys.getD i (.pr fun _ _=>True)) (vl l e1) (ext (mix e1 e (gm l)) (kh l ys (dS o))) w1) [o] (ext (mix e1 e (gm l)) (kh l ys (dS o))) w1
theorem LA{ops:Array Oper}{uu:Nat->ad}{v:ad}(h:pF ops N e1 o=some (d,v))(hv:y.holds uu v w1):ao P N ops (eX o y uu e1 w1) [o] e1 w1:= .pF h (eX.dn (KY h) (Below.refl _ _) hv)
theorem bB{ops:Array Oper}{uu:Nat->ad}{v:ad}(hd:o.dst=some d)(hv:y.holds uu v w1):ao P N ops (eX o y uu e1 w1) [] (bj e1 d v) w1:=ao.n (eX.dn hd (Below.refl _ _) hv)
theorem bT{l:List Oper}{v:ad}(h:((eU ms i,(ys.getD i (.pr fun _ _=>True))),fun e1=>pF l.toArray N (ext (mix e1 e (gm l)) (kh l ys (dS o))) o)=((false,.ex v),fun _=>some (d,v))):r5 P N l ys ms e w i o:=fun e1 w1 c _ _ _ _ _ _=>by
 have h1:=congrFun (Prod.mk.inj h).2 e1;rw [(Prod.mk.inj (Prod.mk.inj h).1).1,(Prod.mk.inj (Prod.mk.inj h).1).2];exact LA h1 O
theorem cP{l:List Oper}(h:∀(e1:Env) (w1:aa),Below w.heap.size w w1->(∀(j:Nat) (y:Ye) (o':Oper),gv l l.length i j=true->ys[j]?=some y->l[j]?=some o'->y.at_ 0 (jv l ms j) (vl l e1) (valOf o' e1) w1)->(∀(j:Nat) (o':Oper),l[j]?=some o'->gv l l.length j i=true->valOf o' e1=valOf o' e)->(∀(m:Nat) (y:Ye) (o':Oper),eU ms m=true->uR l ms m=true->jv l ms m=0->ys[m]?=some y->l[m]?=some o'->y.at_ 0 (jv l ms m) (vl l e1) (valOf o' e1) w1)->
 ao P N l.toArray (eX o (ys.getD i (.pr fun _ _=>True)) (vl l e1) (ext (mix e1 e (gm l)) (kh l ys (dS o))) w1) [o] (ext (mix e1 e (gm l)) (kh l ys (dS o))) w1) (ht:eU ms i=false:=by kernel_rfl) (hh:vw l ms i=0:=by kernel_rfl):r5 P N l ys ms e w i o:=fun e1 w1 c _ bU hb hp aX hq=>by
 obtain rfl:c=0:=by omega
 rw [ht];exact h e1 w1 (hb rfl) hp aX hq
theorem jc{l:List Oper}(h:∀(e1:Env) (w1:aa),Below w.heap.size w w1->(∀(j:Nat) (y:Ye) (o':Oper),gv l l.length i j=true->ys[j]?=some y->l[j]?=some o'->y.at_ 0 (jv l ms j) (vl l e1) (valOf o' e1) w1)->(∀(j:Nat) (o':Oper),l[j]?=some o'->gv l l.length j i=true->valOf o' e1=valOf o' e)->(∀(m:Nat) (y:Ye) (o':Oper),eU ms m=true->uR l ms m=true->jv l ms m=0->ys[m]?=some y->l[m]?=some o'->y.at_ 0 (jv l ms m) (vl l e1) (valOf o' e1) w1)->
 ao P N l.toArray (fg o (ys.getD i (.pr fun _ _=>True)) (vl l e1) (ext (mix e1 e (gm l)) (kh l ys (dS o)))) [o] (ext (mix e1 e (gm l)) (kh l ys (dS o))) w1) (ht:eU ms i=true:=by kernel_rfl) (hh:vw l ms i=0:=by kernel_rfl):r5 P N l ys ms e w i o:=fun e1 w1 c _ bU hb hp aX hq=>by
 obtain rfl:c=0:=by omega
 rw [ht];exact h e1 w1 (hb rfl) hp aX hq
theorem dP{l:List Oper}(b:Nat)(h:∀(e1:Env) (w1:aa),(∀(j:Nat) (y:Ye) (o':Oper),gv l l.length i j=true->ys[j]?=some y->l[j]?=some o'->y.at_ b (jv l ms j) (vl l e1) (valOf o' e1) w1)->(∀(j:Nat) (o':Oper),l[j]?=some o'->gv l l.length j i=true->valOf o' e1=valOf o' e)->(∀(m:Nat) (y:Ye) (o':Oper),eU ms m=true->uR l ms m=true->jv l ms m=b->ys[m]?=some y->l[m]?=some o'->y.at_ b (jv l ms m) (vl l e1) (valOf o' e1) w1)->
 ao P N l.toArray (eX o (ys.getD i (.pr fun _ _=>True)) (vl l e1) (ext (mix e1 e (gm l)) (kh l ys (dS o))) w1) [o] (ext (mix e1 e (gm l)) (kh l ys (dS o))) w1) (ht:eU ms i=false:=by kernel_rfl) (hl:Bn l ms i=b:=by kernel_rfl) (hh:vw l ms i=b:=by kernel_rfl):r5 P N l ys ms e w i o:=fun e1 w1 c dF bU _ hp aX hq=>by
 obtain rfl:c=b:=by omega
 rw [ht];exact h e1 w1 hp aX hq
theorem pY{l:List Oper}(b:Nat)(h:∀(e1:Env) (w1:aa),(∀(j:Nat) (y:Ye) (o':Oper),gv l l.length i j=true->ys[j]?=some y->l[j]?=some o'->y.at_ b (jv l ms j) (vl l e1) (valOf o' e1) w1)->(∀(j:Nat) (o':Oper),l[j]?=some o'->gv l l.length j i=true->valOf o' e1=valOf o' e)->(∀(m:Nat) (y:Ye) (o':Oper),eU ms m=true->uR l ms m=true->jv l ms m=b->ys[m]?=some y->l[m]?=some o'->y.at_ b (jv l ms m) (vl l e1) (valOf o' e1) w1)->
 ao P N l.toArray (fg o (ys.getD i (.pr fun _ _=>True)) (vl l e1) (ext (mix e1 e (gm l)) (kh l ys (dS o)))) [o] (ext (mix e1 e (gm l)) (kh l ys (dS o))) w1) (ht:eU ms i=true:=by kernel_rfl) (hl:Bn l ms i=b:=by kernel_rfl) (hh:vw l ms i=b:=by kernel_rfl):r5 P N l ys ms e w i o:=fun e1 w1 c dF bU _ hp aX hq=>by
 obtain rfl:c=b:=by omega
 rw [ht];exact h e1 w1 hp aX hq
theorem aP{l:List Oper}(h:∀(e1:Env) (w1:aa),ao P N l.toArray (eX o (ys.getD i (.pr fun _ _=>True)) (vl l e1) (ext (mix e1 e (gm l)) (kh l ys (dS o))) w1) [o] (ext (mix e1 e (gm l)) (kh l ys (dS o))) w1)(ht:eU ms i=false:=by kernel_rfl):r5 P N l ys ms e w i o:=fun e1 w1 c _ _ _ _ _ _=>by
 rw [ht];exact h e1 w1
def wz(P:Program)(N:Nat)(l:List Oper)(ys:List Ye)(ms:List Nat)(e:Env)(w:aa):Nat->List Oper->Prop
 | _,[]=>True
 | i,o::r=>r5 P N l ys ms e w i o/\wz P N l ys ms e w (i+1) r
theorem wz.get{l:List Oper}:∀ {r:List Oper} {i:Nat},wz P N l ys ms e w i r->∀k o,r[k]?=some o->r5 P N l ys ms e w (i+k) o
 | [],_,_,k,o,hk=>by simp at hk
 | x::r,i,h,0,o,hk=>by simp at hk;subst hk;exact h.1
 | x::r,i,h,k+1,o,hk=>by
  have:=wz.get h.2 k o (by simpa using hk);rw [show i+1+k=i+ (k+1) by omega]at this;exact this
theorem GY{l:List Oper}{ys:List Ye}{e1:Env}:∀(af:List Edge),(∀ed∈af,∀(v:ad) (o':Oper),ys[ed.on]?=some (.ex v)->l[ed.on]?=some o'->valOf o' e1=v)->Mt e1 (kh l ys af)
 | [],_=>av
 | ed::r,h=>by
  have hr:=GY r (fun x hx=>h x (oY _ hx));unfold kh
  split
  ·rename_i v d hy hd;refine⟨?_,hr⟩;cases ho:l[ed.on]? with
   | none=>rw [ho]at hd;cases hd
   | some o'=>
    rw [ho]at hd;have vj:o'.dst=some d:=hd;have:=h ed (by simp) v o' hy ho;unfold valOf at this;rw [vj]at this;exact this
  ·exact hr
theorem G3{e1 e:Env}:∀(l:List Oper) (ys:List Ye) (i:Nat),l.length=ys.length->(gm l).Nodup->(∀(k:Nat) (v:ad) (o:Oper),ys[k]?=some (.ex v)->l[k]?=some o->valOf o e1=v\/o.dst=none)->
 ∃u:Nat->ad,ext e (mc l ys u i)=mix e1 e (gm l)/\(∀(k:Nat) (o:Oper),l[k]?=some o->u (i+k)=valOf o e1)
 | [],[],i,_,_,_=> ⟨fun _=>undef,by funext j;rfl,fun k o h=>by simp at h⟩
 | [],y::ys,i,hl,_,_=>by simp at hl
 | o::l,[],i,hl,_,_=>by simp at hl
 | o::l,y::ys,i,hl,hn,h=>by
  have tZ:(gm l).Nodup:=by
   unfold gm at hn|-;rw [List.filterMap_cons]at hn
   split at hn
   ·exact hn
   ·exact(mZ.1 hn).2
  obtain⟨u,hu,mN⟩:=G3 (e1:=e1) (e:=e) l ys (i+1) (by simpa using hl) tZ (fun k v o' hy ho=>h (k+1) v o' (by simpa using hy) (by simpa using ho));have CG:∀(l:List Oper) (ys:List Ye) (i:Nat) (u u':Nat->ad),(∀k,i<=k->u k=u' k)->mc l ys u i=mc l ys u' i:=by
   intro l
   induction l with
   | nil=>intros;rfl
   | cons o l ih=>
    intro ys i u u' hk;cases ys with
    | nil=>rfl
    | cons y ys=>
     have h1:=ih ys (i+1) u u' (fun k fF=>hk k (by omega));simp only [mc];rw [h1,hk i (by omega)]
  have hc:=CG l ys (i+1) (fun k=>if k=i then valOf o e1 else u k) u (fun k hk=>by show(if k=i then _ else _)=_;rw [aC (by omega)]);refine⟨fun k=>if k=i then valOf o e1 else u k,?_,fun k o' hk=>?_⟩
  ·cases hd:o.dst with
   | none=>
    have CQ:gm (o::l)=gm l:=by unfold gm;rw [List.filterMap_cons,hd]
    simp only [mc,hd,hc,hu,CQ]
   | some d=>
    have CQ:gm (o::l)=d::gm l:=by unfold gm;rw [List.filterMap_cons,hd]
    have pq:valOf o e1=e1 d:=by unfold valOf;rw [hd]
    have lO:∀v,v=e1 d->bj (mix e1 e (gm l)) d v=mix e1 e (d::gm l):=by
     intro v hv;funext j;simp only [bj,mix,eU];cases hb:Nat.beq j d with
     | true=>rw [kz hb,hv];rfl
     | false=>rfl
    rw [CQ];cases y with
    | ex v=>
     have h0:=h 0 v o O O;simp only [mc,hd,ext,hc,hu];refine lO v ?_;rcases h0 with h0 | h0
     ·rw [<-h0,pq]
     ·rw [hd]at h0;cases h0
    | pr p=>
     simp only [mc,hd,ext,hc,hu,aF];exact lO _ pq
    | p2 j p=>
     simp only [mc,hd,ext,hc,hu,aF];exact lO _ pq
    | al q p=>
     simp only [mc,hd,ext,hc,hu,aF];exact lO _ pq
  ·cases k with
   | zero=>simp at hk;subst hk;simp
   | succ k=>
    have:=mN k o' (by simpa using hk);show(if i+ (k+1)=i then _ else u (i+ (k+1)))=_;rw [aC (by omega),<-this];congr 1;omega
theorem ja{l:List Oper}{Q:gu}(ms:List Nat)(ys:List Ye)(hm:P.follows .mixedOrders=true)(b8:G2 N l ys ms=true)(Ei:∀y∈ys,y.nL)
 (x8:wz P N l ys ms e w 0 l) (rj:∀u w1,(ms=[]->Below w.heap.size w w1)->(∀(k:Nat) (p:ad->aa->Prop),ys[k]?=some (Ye.pr p)->jv l ms k=ms.length->p (u k) w1)->(∀(k j:Nat) (p:ad->ad->aa->Prop),ys[k]?=some (Ye.p2 j p)->jv l ms k=ms.length->p (u j) (u k) w1)->(∀(k:Nat) (q:ad->Prop) (p:ad->aa->Prop),ys[k]?=some (Ye.al q p)->q (u k)/\(jv l ms k=ms.length->p (u k) w1))->Q .normal (ext e (mc l ys u 0)) w1):Cd P N (.region id l.toArray true) Q e w:= .mk' fun a ha=>by
 simp only [G2,Bool.and_eq_true,List.all_eq_true,jL]at b8;obtain⟨⟨⟨⟨⟨⟨⟨⟨h1,h2⟩,h3⟩,hlen⟩,QI⟩,nD⟩,oB⟩,hmy⟩,fo⟩:=b8;have Eu:∀(k j:Nat) (p:ad->ad->aa->Prop),ys[k]?=some (.p2 j p)->gv l l.length k j=true/\j<l.length:=by
  intro k j p hk;have:=fo (.p2 j p,k) (by rw [List.mem_iff_getElem?];exact⟨k,by simp [hk]⟩);simpa [Nat.blt_eq]using this
 have qo:l.length=ys.length:=kz hlen;have re:∀(i:Nat) (o:Oper),l[i]?=some o->∀ed∈dS o,ed.on<i:=by
  intro i o ho ed eo;have:=h3 (o,i) (by
   obtain⟨hi,Ed⟩:=fY.1 ho;rw [List.mem_iff_getElem?];exact⟨i,by simp [ho]⟩)
  simpa [Nat.blt_eq]using this ed eo
 have PK:∀(i:Nat) (o:Oper) (d:Nat),l[i]?=some o->o.dst=some d->d<N:=by
  intro i o d ho hd;have:=h1 o (List.mem_of_getElem? ho);rw [hd]at this;simpa [Nat.blt_eq]using this
 have hexd:∀(i:Nat) (o:Oper) (v:ad),l[i]?=some o->ys[i]?=some (.ex v)->o.dst≠none:=by
  intro i o v ho hy hd;have:=QI (o,.ex v) (by
   rw [List.mem_iff_getElem?];exact⟨i,by rw [List.getElem?_zip_eq_some];exact⟨ho,hy⟩⟩)
  simp [hd,ET]at this
 refine wp_region_any hm ?_
 let lH:Array Bool->Nat:=fun listed=>ms.countP fun m=>listed.getD m false
 have key:∀(fuel:Nat) (listed:Array Bool) (a1:Act) (e1:Env) (w1:aa),gC N a1 e1->(lH listed=0->Below w.heap.size w w1)->(∀j,eU (gm l) j=false->e1 j=e j)->listed.size=l.length->
  (∀(i:Nat) (y:Ye) (o:Oper),listed.getD i false=true->ys[i]?=some y->l[i]?=some o->y.at_ (lH listed) (jv l ms i) (vl l e1) (valOf o e1) w1)->(∀(i:Nat) (o:Oper),listed.getD i false=true->l[i]?=some o->∀ed∈dS o,listed.getD ed.on false=true)->(∀(i:Nat) (o:Oper),listed.getD i false=false->l[i]?=some o->valOf o e1=valOf o e)->(l.length - fuel<=(List.range l.length).countP fun i=>listed.getD i false)->
  wpAny P .any l.toArray (low N Q) fuel listed a1 w1:=by
  have lK:∀(listed:Array Bool) (a1:Act) (e1:Env) (w1:aa),gC N a1 e1->(lH listed=0->Below w.heap.size w w1)->(∀j,eU (gm l) j=false->e1 j=e j)->
   (∀(i:Nat) (y:Ye) (o:Oper),listed.getD i false=true->ys[i]?=some y->l[i]?=some o->y.at_ (lH listed) (jv l ms i) (vl l e1) (valOf o e1) w1)->(∀i,i<l.length->listed.getD i false=true)->low N Q .normal a1 w1:=by
   intro listed a1 e1 w1 hr hb kG hS dv;have ki:lH listed=ms.length:=by
    show ms.countP _=ms.length;rw [List.countP_eq_length];intro m tY;exact dv m (by simpa [Nat.blt_eq]using oB m tY)
   obtain⟨u,hu,mN⟩:=G3 (e1:=e1) (e:=e) l ys 0 qo h2 (fun k v o hy ho=> .inl (hS k _ o (dv k (fY.1 ho).1) hy ho));refine⟨e1,hr,?_⟩;have:=rj u w1 (fun h0=>hb (by rw [ki,h0];rfl)) (fun k p hk eT=>by
    have gR:k<l.length:=by rw [qo];exact(fY.1 hk).1
    have h5:=hS k _ l[k] (dv k gR) hk (eS gR);have h6:=mN k l[k] (eS gR);rw [Nat.zero_add]at h6;rw [h6];exact h5 (by rw [ki,eT])) (fun k j p hk eT=>by
    have gR:k<l.length:=by rw [qo];exact(fY.1 hk).1
    have hj:=Eu k j p hk;have h5:=hS k _ l[k] (dv k gR) hk (eS gR);have h6:=mN k l[k] (eS gR);have h7:=mN j l[j] (eS hj.2);rw [Nat.zero_add]at h6 h7;have h8:vl l e1 j=valOf l[j] e1:=by unfold vl;rw [List.getElem?_eq_getElem hj.2]
    rw [h6,h7,<-h8];exact h5 (by rw [ki,eT])) (fun k q p hk=>by
    have gR:k<l.length:=by rw [qo];exact(fY.1 hk).1
    have h5:=hS k _ l[k] (dv k gR) hk (eS gR);have h6:=mN k l[k] (eS gR);rw [Nat.zero_add]at h6;rw [h6];exact⟨h5.1,fun eT=>h5.2 (by rw [ki,eT])⟩)
   rw [hu,Bo kG]at this;exact this
  have xY:∀(listed:Array Bool),listed.size=l.length->Region.ready .any l.toArray listed=[]->∀i,i<l.length->listed.getD i false=true:=by
   intro listed kK pg i
   induction i using Nat.strongRecOn with
   | _ i ih=>
    intro hi;cases sF:listed.getD i false with
    | true=>rfl
    | false=>
     exfalso;have:i∈Region.ready .any l.toArray listed:=by
      rw [mem_ready];refine⟨?_,l[i],by simp [hi],fun ed eo lj=>ih ed.on (re i _ (eS hi) ed (ml.2 ⟨eo,lj⟩)) (by have:=re i _ (eS hi) ed (ml.2 ⟨eo,lj⟩);omega)⟩;rw [fU,mr (by omega)]at sF|-;exact sF
     rw [pg]at this;cases this
  intro fuel
  induction fuel with
  | zero=>
   intro listed a1 e1 w1 hr hb kG kK hS cT uh ki;have dv:∀i,i<l.length->listed.getD i false=true:=by
    have h4:(List.range l.length).countP (fun i=>listed.getD i false)=(List.range l.length).length:=by
     have:=List.countP_le_length (p:=fun i=>listed.getD i false) (l:=List.range l.length);simp at this ki|-;omega
    rw [List.countP_eq_length]at h4;intro i hi;exact h4 i (by simpa using hi)
   refine⟨?_,lK listed a1 e1 w1 hr hb kG hS dv⟩;rw [List.eq_nil_iff_forall_not_mem];intro i hi;obtain⟨h5,o,ho,_⟩:=mem_ready.1 hi;have mJ:i<l.length:=by
    rcases Nat.lt_or_ge i l.length with h | h
    ·exact h
    ·simp [oX h]at ho
   have h6:=dv i mJ;rw [fU,mr (by omega)]at h5 h6;simp at h5 h6;rw [h5]at h6;cases h6
  | succ fuel ih=>
   intro listed a1 e1 w1 hr hb kG kK hS cT uh ki;refine⟨fun pg=>lK listed a1 e1 w1 hr hb kG hS (xY listed kK pg),fun i hi=>?_⟩;obtain⟨aX,o,ho,vd⟩:=mem_ready.1 hi;have iV:l[i]?=some o:=by simpa using ho
   have mJ:i<l.length:=(fY.1 iV).1;have fS:∀ed∈dS o,listed.getD ed.on false=true:=fun ed eo=>vd ed (ml.1 eo).1 (ml.1 eo).2
   have oJ:listed.getD i false=false:=by
    have h5:=aX;rw [fU,mr (by omega)]at h5|-;exact h5
   have lL:∀k,(listed.setIfInBounds i true).getD k false=if k=i then true else listed.getD k false:=by
    intro k;rw [fU,qH]
    by_cases dz:k=i
    ·subst dz;rw [aF rfl,aF (by omega),aF rfl];rfl
    ·rw [aC (fun e=>dz e.symm),aC dz,<-fU]
   have dF:Bn l ms i<=lH listed:=zk fun m _ h=>Co cT iV fS _ _ h
   have bU:lH listed<=vw l ms i:=zk fun m _ h=>by
    have bL:Nat.beq m i=false:=by
     cases hb:Nat.beq m i with
     | false=>rfl
     | true=>rw [kz hb,oJ]at h;cases h
    have tJ:gv l l.length m i=false:=by
     cases hb:gv l l.length m i with
     | false=>rfl
     | true=>have:=r6 cT _ _ _ hb h;rw [oJ]at this;cases this
    simp [bL,tJ]
   have eT:∀(j:Nat),listed.getD j false=true->jv l ms j<=lH listed:=fun j hj=>zk fun m _ h=>by
    rw [Bool.or_eq_true]at h;rcases h with h | h
    ·rw [kz h];exact hj
    ·exact r6 cT _ _ _ h hj
   have ax:=x8.get i o iV e1 w1 (lH listed);rw [Nat.zero_add]at ax;have ax:=ax dF bU hb (fun j y o' tJ hy ua=>hS j y o' (Co cT iV fS _ _ tJ) hy ua) (fun j o' hj tJ=>by
    refine uh j o' ?_ hj;cases rv:listed.getD j false with
    | false=>rfl
    | true=>have:=r6 cT _ _ _ tJ rv;rw [oJ]at this;cases this) (fun m y o' hm xm hphm hy Jg=>by
    refine hS m y o' ?_ hy Jg;cases I1:listed.getD m false with
    | true=>rfl
    | false=>
     exfalso;have h8:=uW (fun k=>listed.getD k false) (fun k=>if k=m then true else listed.getD k false) m I1 (fun k=>O) ms nD (sV.1 hm);have h9:ms.countP (fun k=>if k=m then true else listed.getD k false)<=jv l ms m:=zk fun m' jf h=>by
      by_cases e:m'=m
      ·rw [e,Nat.beq_refl];rfl
      ·rw [aC e]at h;simp only [uR,List.all_eq_true]at xm;have iq:=xm m' jf;cases o7:gv l l.length m m' with
       | true=>rw [Bool.or_true]
       | false=>
        rw [o7,Bool.or_false,Bool.or_eq_true]at iq;rcases iq with iq | iq
        ·exact absurd (kz iq) e
        ·have:=r6 cT _ _ _ iq h;rw [I1]at this;cases this
     have uX:ms.countP (fun k=>listed.getD k false)=lH listed:=O;omega)
   rw [Bo kG,sb (GY (dS o) (fun ed eo v o' hy ua=>hS ed.on _ o' (fS ed eo) hy ua))]at ax
   let turns:Prop:=eU ms i=true
   let KK:Env->aa->Prop:=fun e2 w2=> (eU ms i=false->Below w1.heap.size w1 w2)/\(ys.getD i (.pr fun _ _=>True)).holds (vl l e1) (valOf o e2) w2/\∀j,o.dst≠some j->e2 j=e1 j
   have Q4:∃K:Env->aa->Prop,(∀e2 w2,K e2 w2->KK e2 w2)/\ao P N l.toArray K [o] e1 w1:=by
    cases iJ:eU ms i with
    | true=>
     rw [iJ]at ax;exact⟨_,fun e2 w2 h=> ⟨fun h0=> (by rw [iJ]at h0;cases h0),h.1,h.2⟩,ax⟩
    | false=>
     rw [iJ]at ax;exact⟨_,fun e2 w2 h=> ⟨fun _=>h.1,h.2.1,h.2.2⟩,ax⟩
   obtain⟨K,wW,AX⟩:=Q4;have lp:=AX.run a1 hr;have zZ:lH (listed.setIfInBounds i true)=if eU ms i=true then lH listed+1 else lH listed:=by
    show ms.countP _=_
    by_cases iJ:eU ms i=true
    ·rw [aF iJ];exact uW (fun m=>listed.getD m false) (fun m=> (listed.setIfInBounds i true).getD m false) i oJ lL ms nD (sV.1 iJ)
    ·rw [aC iJ];refine List.countP_congr fun m tY=>?_
     rw [lL,aC (fun e=>iJ (sV.2 (by rw [<-e];exact tY)))]
   have oD:∀a2 w2,(∃e2,gC N a2 e2/\K e2 w2)->wpAny P .any l.toArray (low N Q) fuel (listed.setIfInBounds i true) a2 w2:=by
    intro a2 w2 ⟨e2,qq,ir⟩;obtain⟨ow,rB,ve⟩:=wW _ _ ir;have Es:∀(k:Nat) (o':Oper),l[k]?=some o'->k≠i->valOf o' e2=valOf o' e1:=by
     intro k o' b8 dz;unfold valOf;cases hd:o'.dst with
     | none=>rfl
     | some d=>exact ve d (fun h=>dz (CZ _ l h2 k i o' o d b8 iV hd h))
    have Bc:∀j,j≠i->vl l e2 j=vl l e1 j:=by
     intro j hj;unfold vl;cases ua:l[j]? with
     | none=>rfl
     | some o'=>exact Es j o' ua hj
    refine ih _ a2 e2 w2 qq (fun h0=>?_) (fun j hj=>?_) (by simpa using kK) (fun k y o' hk hy b8=>?_) (fun k o' hk b8 ed eo=>?_) (fun k o' hk b8=>?_) ?_
    ·rw [zZ]at h0
     by_cases iJ:eU ms i=true
     ·rw [aF iJ]at h0;omega
     ·rw [aC iJ]at h0;have:=ow (by simpa using iJ);exact(hb h0).trans (this.mono (hb h0).size)
    ·have bL:o.dst≠some j:=by
      intro hd;have:eU (gm l) j=true:=by rw [sV];exact List.mem_filterMap.2 ⟨o,List.mem_of_getElem? iV,hd⟩
      rw [this]at hj;cases hj
     rw [ve j bL];exact kG j hj
    ·by_cases dz:k=i
     ·subst dz;rw [iV]at b8;cases b8;have:ys.getD k (.pr fun _ _=>True)=y:=by simp [cz,hy]
      rw [this]at rB;cases y with
      | ex v=>exact rB
      | pr p=>exact fun _=>rB
      | p2 j p=>
       have hj:=Eu k j p hy;have rv:listed.getD j false=true:=Co cT iV fS _ _ hj.1;have oz:j≠k:=fun e=>by rw [e,oJ]at rv;cases rv
       exact fun _=>by rw [Bc j oz];exact rB
      | al q p=>exact⟨rB.1,fun _=>rB.2⟩
     ·have fF:listed.getD k false=true:=by rw [lL,aC dz]at hk;exact hk
      have h7:=hS k y o' fF hy b8;rw [Es k o' b8 dz];cases y with
      | ex v=>exact h7
      | pr p=>
       intro hc;rw [zZ]at hc
       by_cases iJ:eU ms i=true
       ·rw [aF iJ]at hc;have:=eT k fF;omega
       ·rw [aC iJ]at hc;have hl:=Ei _ (List.mem_of_getElem? hy);exact hl _ _ _ (h7 hc) (ow (by simpa using iJ))
      | p2 j p=>
       have hj:=Eu k j p hy;have rv:listed.getD j false=true:=r6 cT _ _ _ hj.1 fF;have oz:j≠i:=fun e=>by rw [e,oJ]at rv;cases rv
       intro hc;rw [Bc j oz];rw [zZ]at hc
       by_cases iJ:eU ms i=true
       ·rw [aF iJ]at hc;have:=eT k fF;omega
       ·rw [aC iJ]at hc;have hl:=Ei _ (List.mem_of_getElem? hy);exact hl _ _ _ _ (h7 hc) (ow (by simpa using iJ))
      | al q p=>
       refine⟨h7.1,fun hc=>?_⟩;rw [zZ]at hc
       by_cases iJ:eU ms i=true
       ·rw [aF iJ]at hc;have:=eT k fF;omega
       ·rw [aC iJ]at hc;have hl:=Ei _ (List.mem_of_getElem? hy);exact hl _ _ _ (h7.2 hc) (ow (by simpa using iJ))
    ·rw [lL]
     by_cases sD:ed.on=i
     ·rw [aF sD]
     ·rw [aC sD]
      by_cases dz:k=i
      ·subst dz;rw [iV]at b8;cases b8;exact fS ed eo
      ·rw [lL,aC dz]at hk;exact cT k o' hk b8 ed eo
    ·rw [lL]at hk
     by_cases dz:k=i
     ·rw [aF dz]at hk;cases hk
     ·rw [aC dz]at hk;rw [Es k o' b8 dz];exact uh k o' hk b8
    ·have xo:(List.range l.length).countP (fun k=> (listed.setIfInBounds i true).getD k false)=(List.range l.length).countP (fun k=>listed.getD k false)+1:=
      uW (fun k=>listed.getD k false) (fun k=> (listed.setIfInBounds i true).getD k false) i oJ lL _ List.nodup_range (by simpa using mJ)
     rw [xo];omega
   unfold wpOp;rw [ho];unfold wpList at lp;show if _ then _ else _
   by_cases hw:Region.wanted o (yielded l.toArray a1.tmps)=true
   ·rw [aF hw]at lp|-;rcases lp with h5 | ⟨_,a0,w0,h5⟩
    ·refine .inl (Ca h5 (fun a2 w2 hx=>?_) (fun x a w hx hq=>hx hq.1));exact oD a2 w2 hx.2
    ·exact absurd h5.1 (by simp)
   ·rw [aC hw]at lp|-;exact oD _ _ lp.2
 refine key l.length (Array.replicate l.length false) a e _ ha (fun _=> ⟨⟨O,O,O,dh _,fun _ _=>O⟩,fun _=>Nat.le_add_right _ _⟩) (fun _ _=>O) (by simp) (fun i y o hi=>?_) (fun i o hi=>?_) (fun _ _ _ _=>O) (by omega)
 ·exfalso;rw [fU,Array.getElem?_replicate]at hi
  split at hi<;>simp at hi
 ·exfalso;rw [fU,Array.getElem?_replicate]at hi
  split at hi<;>simp at hi
end
theorem LK(x y:Int)(w:aa)(hx:0<=x/\x<=1048576)(hy:0<=y/\y<=1048576):aJ prog 236 [.int .u64 x,.int .u64 y] w (fun v w'=>v= .tuple #[.int .u64 0,.int .u64 (x*y)]/\w'=w):=by
 have hxy:0<=x*y/\x*y<=1099511627776:=⟨Int.mul_nonneg hx.1 hy.1,Int.le_trans (Int.mul_le_mul hx.2 hy.2 hy.1 (by omega)) (by decide)⟩;have ex:x%4294967296=x:=by omega
 have ey:y%4294967296=y:=by omega
 have dx:x / 4294967296=0:=by omega
 have dy:y / 4294967296=0:=by omega
 refine br func236 O ntmps236 O (jw O) (a8 O (Cb (x) O O O (by omega) (by omega) (ar O (wv (0) O O O (by omega) (by omega) (ar O (Cb (y) O O O (by omega) (by omega) (ar O (wv (0) O O O (by omega) (by omega) (ar O ?_)))))))));refine wu (x*y) O O O (by simp) (by omega) ?_;refine ar O ?_;refine wu (0) O O O (by simp) (by omega) ?_;refine ar O (wv (x*y / 4294967296) O O O (by omega) (by omega) ?_);refine yV (x*y / 4294967296) O O O (by simp) (by omega) ?_;refine ar O (Cb (x*y / 4294967296) O O O (by omega) (by omega) (ar O (wv (0) O O O (by omega) (by omega) (ar O ?_))));refine wu (0) O O O (by simp) (by omega) ?_;refine yV (x*y / 4294967296) O O O (by simp) (by omega) ?_;refine ar O ?_;refine wu (0) O O O (by simp) (by omega) ?_;refine ar O ?_;refine yV (0) O O O (by simp) (by omega) ?_;refine ar O (wv (0) O O O (by omega) (by omega) ?_);refine yV (0) O O O (by simp) (by omega) ?_;refine ar O ?_;refine wu (x*y) O O O (by simp) (by omega) ?_;refine bI O (KG O O ?_);exact⟨O,O⟩
theorem LL(x y:Int)(w:aa)(hx:0<=x/\x<=1048576)(hy:0<=y/\y<=1048576):aJ prog 194 [.int .u64 x,.int .u64 y] w (fun v w'=>v= .tuple #[.int .u64 0,.int .u64 (x*y)]/\w'=w):=by
 refine br func194 O ntmps194 O (jw O) (bX O (Cd.eM O (aG O (aI (LK x y w hx hy) O ?_))));rintro _ _ ⟨rfl,rfl⟩;refine bI O (KG O O ?_);exact⟨O,O⟩
def rep(a n:Nat)(x v:Int):ai:=List.replicate a x++List.replicate (n - a) v
theorem Ug{m n q:Nat}{x v:Int}(hm:m<=n)(hq:q<=n - m):((rep m n x v).map (Value.int .i64)).take m++ (List.range q).map (fun _=>Value.int .i64 x)++ ((rep m n x v).map (Value.int .i64)).drop (m+q)=(rep (m+q) n x v).map (Value.int .i64):=by
 have e1:(rep m n x v).map (Value.int .i64)=List.replicate m (Value.int .i64 x)++List.replicate (n - m) (Value.int .i64 v):=by simp [rep]
 have e2:(List.range q).map (fun _=>Value.int .i64 x)=List.replicate q (Value.int .i64 x):=by
  apply ia<;>simp
 rw [e1,e2,uH (by simp),List.drop_append];simp only [rep,List.map_append,List.map_replicate,List.length_replicate,List.take_replicate,List.drop_replicate,Nat.min_self];rw [show m - (m+q)=0 by omega,show m+q - m=q by omega,show n - m - q=n - (m+q) by omega];simp
theorem Cj(A:aj)(c:Nat)(x:Int)(n:Nat)(w:aa)(hR:bu w A 1 [x])(hn:n<=1048576):
 aJ prog 128 [.slice A 1 c,ak n] w (fun v w'=>∃A',v= .slice A' n n/\St w w' [aw 2 A' n n (List.replicate n x)]):=by
 refine br func128 O ntmps128 O (cw O) (bX O (tf O (by omega) ?_));refine aG O (ba O O ?_);refine nZ (i:=1) O O (by decide) (ar O (nZ (i:=(n:Int)) O O (rT _ (by omega)) (aI (LL 1 n _ (by omega) (by omega)) O ?_)));rintro _ w ⟨rfl,rfl⟩;rw [Int.one_mul];refine ar O (ao.gtr O O O (ar O ?_));refine bY 23 O (fun h=>absurd h (by decide)) (fun _=>?_);refine au O (ar O (au O (ao.gtr O O O (aE O ?_))));refine tf O (by omega) (aG O (nZ (i:=(n:Int)) O O (IntWalk.i64_in _ (by omega)) (rZ n (St.refl w) O O (by omega) ?_)));intro A1 w1 ay;refine ar O ?_;refine Gb 0 0 (min 1 n) ay O (ay.da hR).2 (bn _) (by rw [GU];rfl) O (fun _ _=>O) O O ?_;intro w2 aM;refine aE O ?_;have h3:St w w2 [aw 2 A1 n n (rep (min 1 n) n x 0)]:=by
  have e:([aw 2 A1 n n (List.replicate n 0)].set 0 { aw 2 A1 n n (List.replicate n 0)with vs:=(aw 2 A1 n n (List.replicate n 0)).vs.take 0++ (List.range (min 1 n)).map (fun j=>Value.int .i64 ([x].getD j 0))++ (aw 2 A1 n n (List.replicate n 0)).vs.drop (0+min 1 n) })=[aw 2 A1 n n (rep (min 1 n) n x 0)]:=by
   by_cases h0:n=0
   ·subst h0;rfl
   have h1:min 1 n=1:=by omega
   rw [h1];simp [aw,rep,l4]
  rw [<-e];exact aM
 refine Cd.loop (α:=Nat) (fun m=> [(7,.slice A1 n n),(8,ak m)]) (fun m w'=>St w w' [aw 2 A1 n n (rep m n x 0)]/\m<=n/\(0<n->0<m)) (fun m=>n - m) (min 1 n) (WM O) ⟨h3,by omega,by omega⟩ ?_;rintro m e w3 ⟨aU,hm,Qt⟩;refine a8 O (ba O O (aE O ?_));refine aN _ O (fun h4=>?_) (fun h4=>?_)
 ·refine df O ?_;have hlen:(rep m n x 0).length=n:=aU.vM 0 O;have nw:∀ {w1:aa},Below w3.heap.size w3 w1->Rd w1 A1 m (fun _=>ak x):=fun hb j hj=>by
   have h5:=(aU.aq hb).rd 0 O j (by show j<n;omega);have h6:((rep m n x 0).map (Value.int .i64)).getD j undef=ak x:=by simp [rep,cz,lY,hj]
   obtain⟨p,hp,hc⟩:=h5;exact⟨p,hp,hc.trans (aH some h6)⟩
  have jP:=Ug (n:=n) (m:=m) (q:=min m (n - m)) (x:=x) (v:=0) hm (by omega);refine ja [7] [yI ((m:Int)),yS (A1) (n) (n),yI ((m:Int)),yS (cutAt A1 n m) (n - m) (n - m),yS (A1) (n) (n),yI ((m:Int)),yS (A1) (m) (n),.pr (fun v w'=>v=ak ((min m (n - m):Nat):Int)/\St w w' [aw 2 A1 n n (rep (m+min m (n - m)) n x 0)]),yI ((m:Int)+ ((min m (n - m):Nat):Int)),yI ((m:Int)+ ((min m (n - m):Nat):Int))] (by kernel_rfl) (by kernel_rfl) (ly (ly (ly (ly (ly (ly (ly (cM.2 ⟨Ye.cN (fun v w w' h hb=> ⟨h.1,h.2.aq hb⟩),(ly (ly (fun _ h=>by cases h)))⟩)))))))) ?_ ?_
  ·refine⟨?_,bT O,?_,aP fun _ _=>Cc O O O (by omega) (bB O O),bT O,?_,aP fun _ _=>yZ O O O (by omega) (bB O O),?_,?_,bT O,av⟩
   ·intro e1 w1 cc dF bU dO hp aX hq;show ao _ _ _ _ _ _ _;refine lE O (by exact aX 9 _ O (by kernel_rfl)) O (ao.n (eO O (by exact O)))
   ·intro e1 w1 cc dF bU dO hp aX hq;show ao _ _ _ _ _ _ _;refine lE O (by exact aX 9 _ O (by kernel_rfl)) O (ao.n (eO O (by exact O)))
   ·intro e1 w1 cc dF bU dO hp aX hq;show ao _ _ _ _ _ _ _;refine lE O (by exact aX 9 _ O (by kernel_rfl)) O (ao.n (eO O (by exact O)))
   ·refine jc fun e1 w1 hb hp aX hq=>?_
    refine Gb 0 m (min m (n - m)) (aU.aq hb) O (f:=fun _=>ak x) (nw hb) (by omega) O O (fun _ _=>O) O O fun w5 bh=>ao.n ?_;exact fg.dn O ⟨O,by show St w w5 [⟨A1,n,n,_,(rep (m+min m (n - m)) n x 0).map (Value.int .i64)⟩];rw [<-jP];exact bh⟩
   refine dP 1 fun e1 w1 hp aX hq=>?_
   have eT:=hp 7 _ _ (by kernel_rfl) O O (by kernel_rfl);refine WG O (by exact eT.1) O (by omega) (ao.n (eO O (by exact O)))
  intro u w5 _ hu _ _;have bh:=(hu 7 _ O (by kernel_rfl)).2;refine F2 O (tQ ?_);exact⟨m+min m (n - m),by have:=Qt (by omega);omega,⟨O,by show Value.int .i64 _=Value.int .i64 _;congr 1,av⟩,bh,by omega,by omega⟩
 refine bk O (bm (fA O ?_));refine eW O ?_;have:m=n:=by omega
 subst this;refine⟨A1,O,?_⟩;have e:rep m m x 0=List.replicate m x:=by simp [rep]
 rw [<-e];exact aU
end
section
variable{i:Nat}{x y:Int}
theorem FH{α:Type}[DecidableEq α]:∀(a b:List α),a.Nodup->(∀x∈a,x∈b)->a.length<=b.length
 | [],_,_,_=>bn _
 | x::a,b,hn,h=>by
  simp only [mZ]at hn;have h1:=FH a (b.erase x) hn.2 (fun y hy=>by
   rw [List.mem_erase_of_ne (fun e=>hn.1 (by rw [<-e];exact hy))];exact h y (by simp [hy]))
  have hx:=h x (by simp);have h2:=List.length_erase_of_mem hx;have h3:=List.length_pos_of_mem hx;simp only [List.length_cons];omega
theorem KZ{α:Type}[DecidableEq α]{a b:List α}(hn:a.Nodup)(h:∀x∈a,x∈b)(hl:b.length<=a.length):∀x∈b,x∈a:=by
 intro y hy;apply pL;intro yk;have:=FH (y::a) b (by simp [yk,hn]) (fun x hx=>by
  rcases kT.1 hx with rfl | hx
  ·exact hy
  exact h x hx)
 simp at this;omega
def nX(N:Nat)(xss:ah):Prop:=∀p∈xss,∀x y:Int,0<=x->x<N->0<=y->y<N->gi p x=gi p y->x=y
theorem Reach.range{N:Nat}{xss:ah}(hs:Sys N xss)(h0:0<=x)(h1:x<N)(h:Reach xss x y):0<=y/\y<N:=by
 induction h with
 | refl=>exact⟨h0,h1⟩
 | step _ hp ih=>exact(hs _ hp).2 _ ih.1 ih.2
theorem Gj{N:Nat}{xss:ah}(hs:Sys N xss)(hi:nX N xss)(h0:0<=x)(h1:x<N){p:ai}(hp:p∈xss):Reach xss (gi p x) x:=by
 have hy:=(hs p hp).2 x h0 h1;obtain⟨g,_,hm⟩:=qB hs hy.1 hy.2;have key:=KZ (a:=(eV N xss (gi p x)).map (gi p)) (b:=eV N xss (gi p x)) (by
  rw [List.nodup_iff_pairwise_ne,List.pairwise_map];refine List.Pairwise.imp_of_mem ?_ g.nodup;intro a b ha hb ie e;exact ie (hi p hp a b (g.range a ha).1 (g.range a ha).2 (g.range b hb).1 (g.range b hb).2 e))
  (fun z hz=>by
    obtain⟨u,hu,rfl⟩:=fh.1 hz;exact(hm _).2 (.step ((hm u).1 hu) hp)) (by simp)
 obtain⟨u,hu,e⟩:=fh.1 (key (gi p x) ((hm _).2 .refl));have:=hi p hp u x (g.range u hu).1 (g.range u hu).2 h0 h1 e;subst this;exact(hm u).1 hu
theorem Reach.symm{N:Nat}{xss:ah}(hs:Sys N xss)(hi:nX N xss)(h0:0<=x)(h1:x<N)(h:Reach xss x y):Reach xss y x:=by
 induction h with
 | refl=>exact .refl
 | step hr hp ih=>
  have hy:=hr.range hs h0 h1;exact(Gj hs hi hy.1 hy.2 hp).trans ih
def lu(L:ai)(c:Int):ai->ai
 | []=>L
 | x::xs=>lu (L.set x.toNat c) c xs
theorem Fm:∀(xs L:ai) (c:Int),(lu L c xs).length=L.length
 | [],_,_=>rfl
 | x::xs,L,c=>by rw [lu,Fm xs];simp
theorem qV{N:Nat}:∀(xs L:ai) (c:Int),L.length=N->(∀x∈xs,0<=x/\x<N)->∀x:Int,0<=x->gi (lu L c xs) x=if x∈xs then c else gi L x
 | [],_,_,_,_,x,_=>by simp [lu]
 | y::xs,L,c,hl,h,x,hx=>by
  have hy:=h y (by simp);rw [lu,qV xs (L.set y.toNat c) c (by simpa using hl) (fun z hz=>h z (by simp [hz])) x hx,om hy.1 (by rw [hl];exact hy.2) hx]
  by_cases h1:x∈xs
  ·simp [h1]
  ·rw [aC h1]
   by_cases h2:y=x
   ·subst h2;simp
   ·rw [aC h2,aC];simp only [kT,not_or];exact⟨fun e=>h2 e.symm,h1⟩
def bc(N:Nat)(xss:ah):Nat->ai×Int
 | 0=> (List.replicate N (-1),0)
 | i+1=>if 0<=gi (bc N xss i).1 i then bc N xss i else(lu (bc N xss i).1 (bc N xss i).2 (eV N xss i),(bc N xss i).2+1)
theorem sR{N:Nat}{xss:ah}(h:¬0<=gi (bc N xss i).1 i):bc N xss (i+1)=(lu (bc N xss i).1 (bc N xss i).2 (eV N xss i),(bc N xss i).2+1):=by
 show(if _ then _ else _)=_;rw [aC h]
theorem um{N:Nat}{xss:ah}(h:0<=gi (bc N xss i).1 i):bc N xss (i+1)=bc N xss i:=by
 show(if _ then _ else _)=_;rw [aF h]
theorem lP(N:Nat)(xss:ah):∀i,(bc N xss i).1.length=N
 | 0=>by simp [bc]
 | i+1=>by
  simp only [bc]
  split
  ·exact lP N xss i
  ·rw [Fm];exact lP N xss i
theorem rG(N:Nat)(xss:ah):∀i,0<=(bc N xss i).2/\(bc N xss i).2<=i
 | 0=>by simp [bc]
 | i+1=>by
  have:=rG N xss i;simp only [bc]
  split
  ·omega
  ·simp only;omega
theorem se{N:Nat}{v:Int}(h0:0<=x)(h1:x<N):gi (List.replicate N v) x=v:=by
 simp [gi,cz,List.getElem?_replicate,show x.toNat<N by omega]
theorem sQ{N:Nat}{xss:ah}(hs:Sys N xss):∀i,i<=N->∀x:Int,0<=x->x<N->(0<=gi (bc N xss i).1 x↔∃j:Nat,j<i/\Reach xss j x)
 | 0,_,x,h0,h1=>by
  simp only [bc,se h0 h1];constructor
  ·intro h;omega
  ·rintro⟨j,hj,_⟩;omega
 | i+1,hi,x,h0,h1=>by
  have ih:=sQ hs i (by omega);have hc:=rG N xss i;have ho:=qB hs (pt:=(i:Int)) (by omega) (by omega);simp only [bc]
  split
  ·rename_i hl;rw [ih x h0 h1];constructor
   ·rintro⟨j,hj,hr⟩;exact⟨j,by omega,hr⟩
   ·rintro⟨j,hj,hr⟩
    by_cases oz:j=i
    ·subst oz;obtain⟨j',jS,dZ⟩:=(ih j (by omega) (by omega)).1 hl;exact⟨j',jS,dZ.trans hr⟩
    ·exact⟨j,by omega,hr⟩
  ·simp only;rw [qV _ _ _ (lP N xss i) ho.1.range x h0]
   by_cases hm:x∈eV N xss i
   ·rw [aF hm];exact⟨fun _=> ⟨i,by omega,(ho.2.2 x).1 hm⟩,fun _=>hc.1⟩
   ·rw [aC hm,ih x h0 h1];constructor
    ·rintro⟨j,hj,hr⟩;exact⟨j,by omega,hr⟩
    ·rintro⟨j,hj,hr⟩
     by_cases oz:j=i
     ·subst oz;exact absurd ((ho.2.2 x).2 hr) hm
     ·exact⟨j,by omega,hr⟩
theorem SD{N:Nat}{xss:ah}(hs:Sys N xss)(hN:0<N):(bc N xss N).2=1↔∀x:Int,0<=x->x<N->Reach xss 0 x:=by
 have h1:(bc N xss 1).2=1:=by
  have:¬(0:Int)<=gi (bc N xss 0).1 (0:Nat):=by
   rw [show(bc N xss 0).1=List.replicate N (-1) from rfl,se (by omega) (by omega)];omega
  rw [show(1:Nat)=0+1 from rfl,sR this];rfl
 constructor
 ·intro hc;have mono:∀i j,i<=j->(bc N xss i).2<=(bc N xss j).2:=by
   intro i j pa
   induction j with
   | zero=>
    have:i=0:=by omega
    subst this;omega
   | succ j ih=>
    by_cases e:i=j+1
    ·subst e;omega
    ·have:=ih (by omega);have h2:(bc N xss j).2<=(bc N xss (j+1)).2:=by
      simp only [bc];split
      ·omega
      ·simp only;omega
     omega
  have key:∀i:Nat,i<N->Reach xss 0 (i:Int):=by
   intro i
   induction i using Nat.strongRecOn with
   | _ i ih=>
    intro hi
    by_cases h0:i=0
    ·subst h0;exact .refl
    ·have hl:0<=gi (bc N xss i).1 i:=by
      apply pL;intro hn;have h2:=mono 1 i (by omega);have h3:=mono (i+1) N (by omega);have h4:(bc N xss (i+1)).2=(bc N xss i).2+1:=by rw [sR hn]
      omega
     obtain⟨j,hj,hr⟩:=(sQ hs i (by omega) i (by omega) (by omega)).1 hl;exact(ih j hj (by omega)).trans hr
  intro x h0 h2;have:=key x.toNat (by omega);rw [Int.toNat_of_nonneg h0]at this;exact this
 ·intro h;have key:∀i,1<=i->i<=N->(bc N xss i).2=1:=by
   intro i
   induction i with
   | zero=>intro h;omega
   | succ i ih=>
    intro _ hi
    by_cases e:i=0
    ·subst e;exact h1
    ·have hl:=(sQ hs i (by omega) i (by omega) (by omega)).2 ⟨0,by omega,h i (by omega) (by omega)⟩;rw [um hl];exact ih (by omega) (by omega)
  exact key N (by omega) (dh _)
theorem Kt{N:Nat}{xss:ah}(hs:Sys N xss)(hN:0<N):(eV N xss 0).length=N↔∀x:Int,0<=x->x<N->Reach xss 0 x:=by
 obtain⟨g,_,hm⟩:=qB hs (pt:=0) (by omega) (by omega);have nG:∀x:Int,x∈(List.range N).map (fun i:Nat=> (i:Int))↔0<=x/\x<N:=by
  intro x;rw [fh];constructor
  ·rintro⟨i,hi,rfl⟩;have:i<N:=by simpa using hi
   omega
  intro h;exact⟨x.toNat,by simp;omega,by omega⟩
 have fp:((List.range N).map (fun i:Nat=> (i:Int))).Nodup:=by
  rw [List.nodup_iff_pairwise_ne,List.pairwise_map];refine List.Pairwise.imp ?_ (List.nodup_iff_pairwise_ne.1 List.nodup_range);intro a b ie;omega
 constructor
 ·intro hl x h0 h1;have:=KZ g.nodup (b:=(List.range N).map (fun i:Nat=> (i:Int))) (fun z hz=> (nG z).2 (g.range z hz)) (by simp [hl]) x ((nG x).2 ⟨h0,h1⟩);exact(hm x).1 this
 intro h;have h1:=FH _ (eV N xss 0) fp (fun z hz=>by
  have:=(nG z).1 hz;exact(hm z).2 (h z this.1 this.2))
 have h2:=g.len;simp at h1;omega
structure jZ(N:Nat)(xss:ah)(i c:Int)(L0 L op:ai)(bx:Int)(k:Nat):Prop where
 len:L.length=N
 kM:∀x:Int,0<=x->x<N->0<=gi L0 x->gi L x=gi L0 x
 new:∀x:Int,0<=x->x<N->gi L0 x<0->gi L x=gi L0 x\/(gi L x=c/\Reach xss i x)
 start:gi L i=c
 rL:∀x∈op,0<=x/\x<N/\gi L0 x<0/\gi L x=c
 qQ:∀x:Int,0<=x->x<N->gi L0 x<0->gi L x=c->x∉op->∀p∈(if x=bx then xss.take k else xss),0<=gi L (gi p x)
section
variable {N:Nat} {xss:ah} {i c:Int} {L0 L op:ai} {bx:Int} {k:Nat}
theorem jZ.init(hl:L0.length=N)(h0:0<=i)(h1:i<N)(hi:gi L0 i<0)(hc:0<=c):jZ N xss i c L0 (L0.set i.toNat c) [i] (-1) 0 where
 len:=by simpa using hl
 kM x hx _ h:=by
  rw [om h0 (by rw [hl];exact h1) hx]
  split
  ·rename_i e;subst e;omega
  rfl
 new x hx _ h:=by
  rw [om h0 (by rw [hl];exact h1) hx]
  split
  ·rename_i e;subst e;exact .inr ⟨rfl,.refl⟩
  exact .inl O
 start:=by rw [om h0 (by rw [hl];exact h1) h0,aF rfl]
 rL x hx:=by
  simp at hx;subst hx;exact⟨h0,h1,hi,by rw [om h0 (by rw [hl];exact h1) h0,aF O]⟩
 qQ x hx gF h Iz fC:=by
  rw [om h0 (by rw [hl];exact h1) hx]at Iz
  split at Iz
  ·rename_i e;subst e;simp at fC
  omega
theorem jZ.T5{x:Int}(h:jZ N xss i c L0 L (op++ [x]) (-1) 0):jZ N xss i c L0 L op x 0 where
 len:=h.len
 kM:=h.kM
 new:=h.new
 start:=h.start
 rL y hy:=h.rL y (by simp [hy])
 qQ y hy sN h0 hc fC:=by
  split
  ·simp
  rename_i bL;have:=h.qQ y hy sN h0 hc (by simp [fC,bL]);rw [aC (by omega)]at this;exact this
theorem jZ.rest(h:jZ N xss i c L0 L op bx xss.length):jZ N xss i c L0 L op (-1) 0 where
 len:=h.len
 kM:=h.kM
 new:=h.new
 start:=h.start
 rL:=h.rL
 qQ y hy sN h0 hc fC:=by
  rw [aC (by omega)];have:=h.qQ y hy sN h0 hc fC;rw [List.take_length]at this;simpa using this
theorem jZ.skip(h:jZ N xss i c L0 L op bx k)(hk:k<xss.length)(hy:0<=gi L (gi (gl xss k) bx)):jZ N xss i c L0 L op bx (k+1) where
 len:=h.len
 kM:=h.kM
 new:=h.new
 start:=h.start
 rL:=h.rL
 qQ y sN Rc h0 hc fC p hp:=by
  have:=h.qQ y sN Rc h0 hc fC
  split at hp
  ·rename_i e;rw [aF e]at this;rw [FI hk,gL]at hp;rcases hp with hp | hp
   ·exact this p hp
   simp at hp;subst hp;subst e;exact hy
  rename_i e;rw [aC e]at this;exact this p hp
theorem jZ.push(hs:Sys N xss)(mI:0<=i)(h:jZ N xss i c L0 L op bx k)(hk:k<xss.length)(dO:0<=bx)(eN:bx<N)(hb:gi L0 bx<0)(hbc:gi L bx=c)(mG:0<=c)(hy:gi L (gi (gl xss k) bx)<0):
 jZ N xss i c L0 (L.set (gi (gl xss k) bx).toNat c) (op++ [gi (gl xss k) bx]) bx (k+1):=by
 have gS:gl xss k∈xss:=by rw [cX hk];exact dU _
 have nJ:=(hs _ gS).2 bx dO eN;have hg:∀z:Int,0<=z->gi (L.set (gi (gl xss k) bx).toNat c) z=if gi (gl xss k) bx=z then c else gi L z:=fun z hz=>om nJ.1 (by rw [h.len];exact nJ.2) hz
 have xj:Reach xss i bx:=by
  rcases h.new bx dO eN hb with h1 | h1
  ·omega
  exact h1.2
 have yh:gi L0 (gi (gl xss k) bx)<0:=by
  apply pL;intro hn;have:=h.kM _ nJ.1 nJ.2 (by omega);omega
 have pos:∀z:Int,0<=z->0<=gi L z->0<=gi (L.set (gi (gl xss k) bx).toNat c) z:=fun z hz h1=>by
  rw [hg z hz];split<;>omega
 refine⟨by simpa using h.len,fun x hx gF h0=>?_,fun x hx gF h0=>?_,?_,fun x hx=>?_,fun x hx gF h0 hc fC p hp=>?_⟩
 ·rw [hg x hx,aC (fun e=>by subst e;omega)];exact h.kM x hx gF h0
 ·rw [hg x hx]
  split
  ·rename_i e;subst e;exact .inr ⟨rfl,.step xj gS⟩
  exact h.new x hx gF h0
 ·rw [hg i mI];split
  ·rfl
  exact h.start
 ·rcases gL.1 hx with hx | hx
  ·have:=h.rL x hx;refine⟨this.1,this.2.1,this.2.2.1,?_⟩;rw [hg x this.1];split
   ·rfl
   exact this.2.2.2
  simp at hx;subst hx;exact⟨nJ.1,nJ.2,yh,by rw [hg _ nJ.1,aF O]⟩
 have bL:gi (gl xss k) bx≠x:=fun e=>fC (by subst e;simp)
 rw [hg x hx,aC bL]at hc;have QH:x∉op:=fun hm=>fC (by simp [hm])
 have h1:=h.qQ x hx gF h0 hc QH
 split at hp
 ·rename_i e;rw [aF e]at h1;rw [FI hk,gL]at hp;rcases hp with hp | hp
  ·exact pos _ ((hs p (List.mem_of_mem_take hp)).2 x hx gF).1 (h1 p hp)
  simp at hp;subst hp;subst e;rw [hg _ nJ.1,aF rfl];exact mG
 rename_i e;rw [aC e]at h1;exact pos _ ((hs p hp).2 x hx gF).1 (h1 p hp)
theorem jZ.done(hs:Sys N xss)(hi:nX N xss){j:Nat}(hj:j<N)(QD:¬0<=gi (bc N xss j).1 j)(h:jZ N xss j (bc N xss j).2 (bc N xss j).1 L [] (-1) 0):L=(bc N xss (j+1)).1:=by
 have hc:=rG N xss j;have ho:=qB hs (pt:=(j:Int)) (by omega) (by omega);have hm:=sQ hs j (by omega);rw [sR QD];apply ia
 ·rw [h.len,Fm,lP]
 intro x h1 h2;have hx:x<N:=by rw [<-h.len];exact h1
 have e1:=bF (p:=L) (k:=x) h1;have e2:=bF (p:=lu (bc N xss j).1 (bc N xss j).2 (eV N xss j)) (k:=x) h2;rw [<-e1];show _=(lu (bc N xss j).1 (bc N xss j).2 (eV N xss j))[x];rw [<-e2,qV _ _ _ (lP N xss j) ho.1.range x (by omega)];have reached:∀y,Reach xss j y->gi (bc N xss j).1 y<0/\gi L y=(bc N xss j).2:=by
  intro y hr
  induction hr with
  | refl=>exact⟨by omega,h.start⟩
  | @step y p hr hp ih=>
   have hy:=hr.range hs (by omega) (by omega);have AL:=(hs p hp).2 y hy.1 hy.2;have I8:gi (bc N xss j).1 (gi p y)<0:=by
    apply pL;intro hn;obtain⟨m,Qy,Qz⟩:=(hm _ AL.1 AL.2).1 (by omega);have:=(hm y hy.1 hy.2).2 ⟨m,Qy,Qz.trans (Gj hs hi hy.1 hy.2 hp)⟩;omega
   refine⟨I8,?_⟩;have h3:=h.qQ y hy.1 hy.2 ih.1 ih.2 (by simp) p (by rw [aC (by omega)];exact hp);rcases h.new _ AL.1 AL.2 I8 with h4 | h4
   ·omega
   ·exact h4.1
 split
 ·rename_i gS;exact(reached _ ((ho.2.2 _).1 gS)).2
 ·rename_i gS;have xQ:¬Reach xss j x:=fun hr=>gS ((ho.2.2 _).2 hr)
  by_cases h5:0<=gi (bc N xss j).1 x
  ·exact h.kM x (by omega) (by omega) h5
  ·rcases h.new x (by omega) (by omega) (by omega)with h6 | h6
   ·exact h6
   ·exact absurd h6.2 xQ
end
def nT(L:ai):Nat:=L.countP (fun x=>decide (x<0))
theorem K5{L:ai}{x c:Int}(h0:0<=x)(h1:x<L.length)(hx:gi L x<0)(hc:0<=c):nT (L.set x.toNat c)+1=nT L:=by
 obtain⟨k,rfl⟩:∃k:Nat,x=k:=⟨x.toNat,by omega⟩;have hk:k<L.length:=by omega
 rw [bF hk]at hx;simp only [nT,fW];rw [List.countP_set (h:=hk)];have:0<L.countP (fun x=>decide (x<0)):=List.countP_pos_iff.2 ⟨L[k],dU _,by simpa using hx⟩;simp [hx,show ¬c<0 by omega];omega
end
section
open Go.RowKit
theorem St.shrink{w0 w:aa}{ks:List Ck}{k:Ck}(h:St w0 w ks)(i:Nat)(hk:ks[i]?=some k)(m:Nat)(hm:m<=k.n)(hM:eg k.vs=false):St w0 w (ks.set i { k with n:=m,vs:=k.vs.take m }):=by
 have xA:=(fY.1 hk).1;refine⟨h.below,fun x hx=>?_,?_⟩
 ·obtain⟨j,hj,rfl⟩:=eZ.1 hx;have jS:j<ks.length:=by simpa using hj
  rw [List.getElem_set]
  split
  ·obtain⟨h1,h2,h3,h4⟩:=h.qc hk hM;refine .oP (RC m hM) ⟨by simp;omega,by show m<=k.c;omega,h3,?_⟩;rcases h4 with h4 | ⟨g,o,cur,hA,hg,hh,hs,hc⟩
   ·exact .inl h4
   refine .inr ⟨g,o,cur,hA,hg,hh,hs,fun j hj=>?_⟩;have hj:j<m:=hj;show _=(k.vs.take m)[j]?;rw [hc j (by omega),pN,aF hj]
  exact h.own _ (dU _)
 rw [zu Ck.fQ ks i k { k with n:=m,vs:=k.vs.take m } hk rfl];exact h.apart
theorem St.UA{w0 w:aa}{ks:List Ck}{t:ae}{A:aj}{n c:Nat}{xs:ai}(h:St w0 w ks)(i:Nat)(hk:ks[i]?=some (aw t A n c xs))(m:Nat)(hm:m<=n):St w0 w (ks.set i (aw t A m c (xs.take m))):=by
 have:=h.shrink i hk m hm (qx _);simpa [aw]using this
theorem Nr(op:ai)(h:0<op.length):∃o x,op=o++ [x]:=⟨op.dropLast,op.getLast (by intro e;simp [e]at h),(List.dropLast_concat_getLast _).symm⟩
theorem Ks(A:aj)(n c:Nat)(rs:List aL)(xss:ah)(N:Nat)(w:aa)(hR:bq w A n rs xss)(hn:n<=9223372036854775807)(hs:Sys N xss)(P9:nX N xss)(hN:N<=1048576):
 aJ prog 127 [ak N,.slice A n c] w (fun v w'=>∃A',v= .tuple #[.slice A' N N,ak (bc N xss N).2]/\St w w' [aw 2 A' N N (bc N xss N).1]):=by
 have bM:∀k:Int,0<=k->k<n->(rg rs k).n=N:=fun k qn hk=>by
  rw [<-hR.pE qn hk];exact(hs _ (sf qn (by rw [hR.len];exact hk))).1
 refine br func127 O ntmps127 O (jw O) (a8 O (eE (St.refl w) O O O ?_));intro A1 w1 ay;refine ar O (aI (Cj A1 1 (-1) N w1 (ay.bo 0 O) hN) O ?_);rintro _ w2 ⟨A6,rfl,aM⟩;have aM:=(ay.call2 aM).tail;refine aE O (Cd.loop (α:=Nat) (fun i=> [(1,.slice A n c),(6,.slice A6 N N),(7,ak (bc N xss i).2),(17,ak N),(18,ak i)]) (fun i w'=>St w w' [aw 2 A6 N N (bc N xss i).1]/\i<=N) (fun i=>N - i) 0 (WM O) ⟨aM,bn _⟩ ?_);rintro i e w3 ⟨aU,hi⟩;have ki:=rG N xss i;refine bX O (aN _ O (fun h1=>?_) (fun h1=>?_))
 ·refine aG O (aB (aU.bo 0 O).2 O (aW (aU.bo 0 O) O (aE O ?_)));refine aN _ O (fun h2=>?_) (fun h2=>?_)
  ·refine aG O (aK O (aR O (tQ ?_)));exact⟨i+1,by omega,⟨O,O,by rw [um h2];rfl,O,O,av⟩,by rw [um h2];exact aU,by omega⟩
  refine aG O (aB (aU.bo 0 O).2 O (il 0 aU O O O (by omega) ?_));intro w4 bd;refine ar O (eE bd O O O ?_);intro A9 w5 bh;refine aE O ?_;have aX:nT (bc N xss i).1<=N:=by
   have:=List.countP_le_length (p:=fun x:Int=>decide (x<0)) (l:=(bc N xss i).1);rw [lP]at this;exact this
  have hun1:=K5 (L:=(bc N xss i).1) (x:=i) (c:=(bc N xss i).2) (by omega) (by rw [lP];omega) (by omega) ki.1;refine Cd.loop (α:=ai×ai×aj×Nat) (fun q=> [(1,.slice A n c),(6,.slice A6 N N),(7,ak (bc N xss i).2),(9,.slice q.2.2.1 q.2.1.length q.2.2.2),(17,ak N),(18,ak i)]) (fun q w'=>St w w' [aw 2 q.2.2.1 q.2.1.length q.2.2.2 q.2.1,aw 2 A6 N N q.1]/\jZ N xss i (bc N xss i).2 (bc N xss i).1 q.1 q.2.1 (-1) 0/\nT q.1+q.2.1.length<=N) (fun q=>nT q.1+q.2.1.length) ((bc N xss i).1.set (i:Int).toNat (bc N xss i).2,[(i:Int)],A9,1) (WM O) ⟨bh,jZ.init (lP N xss i) (by omega) (by omega) (by omega) ki.1,by show nT ((bc N xss i).1.set (i:Int).toNat (bc N xss i).2)+1<=N;omega⟩ ?_;rintro⟨L,op,A9,c9⟩ e2 w6 ⟨bD,hD,hu⟩;dsimp only at bD hD hu|-;refine a8 O (ba O O (aE O ?_));refine aN _ O (fun h3=>?_) (fun h3=>?_)
  ·obtain⟨o,x,rfl⟩:=Nr op (by omega);have Je:(o++ [x]).length=o.length+1:=by simp
   have hx:gi (o++ [x]) (((o++ [x]).length:Int) - 1)=x:=by
    rw [show(((o++ [x]).length:Nat):Int) - 1=((o.length:Nat):Int) by omega,bF (by omega)];simp
   have px:=hD.rL x (by simp);refine aG O (ba O O (dA O ?_));refine aB (bD.bo 0 O).2 O (aW (bD.bo 0 O) O ?_);rw [hx];refine ar O (ba O O (dA O ?_));refine yZ O O O (by have:=(bD.cap 0 O).1;dsimp only at this;omega) ?_;have bl:=bD.UA 0 O o.length (by omega);rw [List.take_left]at bl;rw [show(((o++ [x]).length:Nat):Int) - 1=((o.length:Nat):Int) by omega,fW];refine ar O (ba O O (aE O ?_));refine Cd.loop (α:=Nat×ai×ai×aj×Nat) (fun q=> [(1,.slice A n c),(6,.slice A6 N N),(7,ak (bc N xss i).2),(9,.slice q.2.2.2.1 q.2.2.1.length q.2.2.2.2),(10,ak x),(17,ak N),(18,ak i),(46,.slice A n c),(47,ak n),(48,ak (q.1:Int))]) (fun q w'=>St w w' [aw 2 q.2.2.2.1 q.2.2.1.length q.2.2.2.2 q.2.2.1,aw 2 A6 N N q.2.1]/\jZ N xss i (bc N xss i).2 (bc N xss i).1 q.2.1 q.2.2.1 x q.1/\q.1<=n/\gi q.2.1 x=(bc N xss i).2/\nT q.2.1+q.2.2.1.length=nT L+o.length) (fun q=>n - q.1) (0,L,o,A9,c9) (WM O) ⟨bl,hD.T5,bn _,px.2.2.2,O⟩ ?_;rintro⟨k,L',o',A',c'⟩ e3 w8 ⟨b7,u1,hk,Be,JH⟩;dsimp only at b7 u1 hk Be JH|-;refine bX O (aN _ O (fun h4=>?_) (fun h4=>?_))
   ·have hM:=b7.bO hR;have bH:=hM.at_ (i:=k) (by omega) h4;have jg:=bM k (by omega) h4;have gS:gl xss k∈xss:=sf (by omega) (by rw [hR.len];exact h4);have hy:=(hs _ gS).2 x px.1 px.2.1;refine aG O (WB hM.top.2 O O O (by omega) h4 (ck hM.top O (ar O (aB bH.2 O (aW bH O (ar O (aB (b7.bo 1 O).2 O (aW (b7.bo 1 O) O (aE O ?_)))))))));refine aN _ O (fun h5=>?_) (fun h5=>?_)
    ·refine aG O (aB (b7.bo 1 O).2 O (il 1 b7 O O O (by omega) ?_));intro w9 bg;refine ar O (eE bg O O O ?_);intro b9 dw bQ;refine fj 1 bQ O (bQ.bo 0 O) O O O fun gz r9 ew dT=>ar O (aK O (aR O (tQ ?_)));have hu9:=K5 (L:=L') (x:=gi (gl xss k) x) (c:=(bc N xss i).2) hy.1 (by rw [u1.len];exact hy.2) h5 ki.1;refine⟨(k+1,L'.set (gi (gl xss k) x).toNat (bc N xss i).2,o'++ [gi (gl xss k) x],gz,r9),by show n - (k+1)<n - k;omega,⟨O,O,O,by rw [eY];rfl,O,O,O,O,O,O,av⟩,?_,u1.push hs (by omega) (by rw [hR.len];omega) px.1 px.2.1 px.2.2.1 Be ki.1 h5,by show k+1<=n;omega,?_,?_⟩
     ·have o7:=dT.tail;simp only [eY,List.length_singleton];exact o7
     ·show gi (L'.set _ _) x=_;rw [om hy.1 (by rw [u1.len];exact hy.2) px.1]
      split
      ·rfl
      exact Be
     show nT (L'.set _ _)+ (o'++ [_]).length=_;simp only [eY,List.length_singleton];omega
    refine aG O (aK O (aR O (tQ ?_)));exact⟨(k+1,L',o',A',c'),by show n - (k+1)<n - k;omega,(WM O),b7,u1.skip (by rw [hR.len];omega) (by omega),by show k+1<=n;omega,Be,JH⟩
   refine bk O (bm (F3 O (tQ ?_)));have fF:k=xss.length:=by rw [hR.len];omega
   subst fF;exact⟨(L',o',A',c'),by show nT L'+o'.length<nT L+ (o++ [x]).length;omega,(WM O),b7,u1.rest,by show nT L'+o'.length<=N;omega⟩
  have mL:op=[]:=pM (by omega);subst mL;have hL:=hD.done hs P9 (by omega) h2;refine bk O (bm (ct O (aK O (ar O (aK O (aR O (tQ ?_)))))));refine⟨i+1,by omega,⟨O,O,by rw [sR h2];rfl,O,O,av⟩,?_,by omega⟩;rw [<-hL];exact bD.tail
 refine bk O (bm (fA O ?_));refine mQ O O ?_;have:i=N:=by omega
 subst this;exact⟨A6,O,aU⟩
def Comm(xss:ah)(i k f:Nat):Prop:=gi (gl xss k) (gi (gl xss i) f)=gi (gl xss i) (gi (gl xss k) f)/\gi (gl xss i) f≠gi (gl xss k) f
instance (xss:ah)(i k f:Nat):Decidable (Comm xss i k f):=by unfold Comm;exact inferInstance
def pS(xss:ah):Prop:=∀p∈xss,p.length=(gl xss 0).length/\jE p/\oU p
instance (xss:ah):Decidable (pS xss):=by unfold pS;exact inferInstance
def eA(xss:ah):Prop:=(1<=xss.length/\xss.length<=5)/\(2<=(gl xss 0).length/\(gl xss 0).length<=400)/\pS xss/\(∀i,i<xss.length->∀k,k<xss.length->i+2<=k->∀f,f< (gl xss 0).length->Comm xss i k f)/\(eV (gl xss 0).length xss 0).length=(gl xss 0).length
instance (xss:ah):Decidable (eA xss):=by unfold eA;exact inferInstance
theorem jE.inj{p:ai}(h:jE p){x y:Int}(hx:0<=x)(gF:x<p.length)(hy:0<=y)(sN:y<p.length)(e:gi p x=gi p y):x=y:=by
 obtain⟨a,rfl⟩:∃a:Nat,x=a:=⟨x.toNat,by omega⟩;obtain⟨b,rfl⟩:∃b:Nat,y=b:=⟨y.toNat,by omega⟩;rw [bF (by omega),bF (by omega)]at e;have:=(List.getElem_inj (h₀:=by omega) (h₁:=by omega) h.2.2).1 e;omega
theorem pS.sys{xss:ah}(h:pS xss):Sys (gl xss 0).length xss:=fun p hp=>by
 have h1:=h p hp;refine⟨h1.1,fun x h0 hx=>?_⟩;have:=h1.2.1.range (i:=x) h0 (by omega);omega
theorem pS.inj{xss:ah}(h:pS xss):nX (gl xss 0).length xss:=fun p hp x y hx gF hy sN e=>by
 have h1:=h p hp;exact h1.2.1.inj hx (by omega) hy (by omega) e
def Part(xss:ah)(k:Nat):Prop:=∀p∈xss.take k,p.length=(gl xss 0).length/\jE p/\oU p
theorem Part.step{xss:ah}{k:Nat}(h:Part xss k)(hk:k<xss.length)(h1:(gl xss k).length=(gl xss 0).length)(h2:jE (gl xss k))(h3:oU (gl xss k)):Part xss (k+1):=by
 intro p hp;rw [FI hk,gL]at hp;rcases hp with hp | hp
 ·exact h p hp
 simp at hp;subst hp;exact⟨h1,h2,h3⟩
theorem Part.all{xss:ah}{k:Nat}(h:Part xss k)(hk:xss.length<=k):pS xss:=by
 intro p hp;refine h p ?_;rw [lD hk];exact hp
theorem pS.at_{xss:ah}(h:pS xss){k:Nat}(hk:k<xss.length):(gl xss k).length=(gl xss 0).length/\jE (gl xss k)/\oU (gl xss k):=h _ (by rw [cX hk];exact dU _)
end
section
def cell(M:ah)(i:Nat)(f:Int):Int:=gi (gl M i) f
def KV(M:ah)(i f:Nat)(v:Int):ah:=M.set i ((gl M i).set f v)
def put(M:ah)(i f g:Nat):ah:=KV (KV M i f g) i g f
section
variable {n F:Nat} {M:ah}
theorem Oj{i k:Nat}{p:ai}(hi:i<M.length):gl (M.set i p) k=if i=k then p else gl M k:=by
 simp only [gl,fW,cz,l0]
 by_cases e:i=k
 ·subst e;simp [hi]
 simp [e]
end
section
variable {n F:Nat} {M:ah} {met at_:Nat}
def grow(n F:Nat)(ok:ah->Nat->Nat->Bool)(fin:ah->Bool):Nat->Nat->Nat->ah->List (ah)
 | 0,_,_,_=> []
 | k+1,at_,met,M=>
  if at_=met*n then(if met=F/\fin M=true then [M]else [])
  else if 0<=cell M (at_%n) (at_ / n:Nat)then grow n F ok fin k (at_+1) met M
  else(List.range' (at_ / n+1) (min met (F - 1) - at_ / n)).flatMap fun g=>
   if 0<=cell M (at_%n) (g:Nat)then []else if ok (put M (at_%n) (at_ / n) g) (at_%n) (at_ / n)=true then grow n F ok fin k (at_+1) (max met (g+1)) (put M (at_%n) (at_ / n) g)else []
end
def kn(M:ah)(i:Nat)(x:Int):Int:=if x<0 then -1 else cell M i x
def B6(M:ah)(i k:Nat)(f:Int):Prop:=(0<=cell M i f->cell M i f≠cell M k f)/\(0<=kn M k (cell M i f)->0<=kn M i (cell M k f)->kn M k (cell M i f)=kn M i (cell M k f))
instance (M:ah)(i k:Nat)(f:Int):Decidable (B6 M i k f):=by unfold B6;exact inferInstance
def F0(M:ah)(f:Int):Prop:=∀i,i<M.length->∀k,k<M.length->i+2<=k->B6 M i k f
instance (M:ah)(f:Int):Decidable (F0 M f):=by unfold F0;exact inferInstance
def FV(M:ah)(i k:Nat)(f g:Int):Prop:=cell M k f=g\/(0<=cell M k f/\0<=cell M k g/\0<=cell M i (cell M k f)/\cell M i (cell M k f)≠cell M k g)\/(0<=cell M k f/\0<=cell M k g/\0<=cell M i (cell M k g)/\cell M i (cell M k g)≠cell M k f)
instance (M:ah)(i k:Nat)(f g:Int):Decidable (FV M i k f g):=by unfold FV;exact inferInstance
section
variable {n F:Nat} {L M:ah}
def forms(n F:Nat)(k at_ met:Nat)(M:ah):List (ah):=(grow n F (fun _ _ _=>true) (fun _=>true) k at_ met M).filter fun L=>decide (eA L)
end
end
section
open Go.RowKit
def ux(init:ai)(ix v:Nat->Int):Nat->ai
 | 0=>init
 | k+1=> (ux init ix v k).set (ix k).toNat (v k)
section
variable {N:Nat} {o:ai}
end
def mo(N:Nat)(p mv:ai):ai:=ux (List.replicate N 0) (fun f=>gi p f) (fun f=>gi p (gi mv f)) N
def uU(a b:Int):Int:=if a<b then -1 else if b<a then 1 else 0
def sS:ai->ai->Int
 | [],[]=>0
 | [],_::_=> -1
 | _::_,[]=>1
 | a::l,b::r=>if uU a b=0 then sS l r else uU a b
theorem zi{a b:Int}:uU a b=0↔a=b:=by unfold uU;by_cases h:a<b<;>by_cases h':b<a<;>simp [h,h']<;>omega
theorem Nb{a b:Int}:uU a b<0↔a<b:=by unfold uU;by_cases h:a<b<;>by_cases h':b<a<;>simp [h,h']<;>omega
theorem J9:∀ {a b:ai},sS a b=0↔a=b
 | [],[]=>by simp [sS]
 | [],_::_=>by simp [sS]
 | _::_,[]=>by simp [sS]
 | a::l,b::r=>by
  simp only [sS]
  split
  ·rename_i h;rw [J9,zi.1 h];simp
  ·rename_i h;constructor
   ·intro h';exact absurd h' h
   ·intro h';exact absurd (zi.2 (List.cons.inj h').1) h
section
variable {n F:Nat}
end
theorem Uk{rs:List aL}{l m:Nat}{j:Nat}(hj:j<m):rg ((rs.drop l).take m) j=rg rs ((l+j:Nat):Int):=by
 have e:(((l+j:Nat):Int)).toNat=l+j:=by omega
 rw [rg,rg,e];simp [cz,pN,hj]
theorem JQ(A:aj)(n c:Nat)(rs:List aL)(xss:ah)(w:aa)(hR:bq w A n rs xss)(hn:n<=c)(hc:c<=9223372036854775807):
 aJ prog 66 [.agg #[.slice A n c]] w (fun v w'=>v= .bool (decide (eA xss))/\St w w' []):=by
 have eu:=hR.len;have r0:0<n->(gl xss 0).length=(rg rs 0).n:=fun h=>hR.pE (by omega) (by omega)
 refine br func66 O ntmps66 O (cw O) (a8 O (ng (St.refl w) O O ?_));intro Ab w1 hS;refine ar O (aI (BC _ _ _ _ _ _ (hS.rd 0 O) O) O ?_);rintro _ _ ⟨rfl,rfl⟩;refine aI (mS _ _ _ _) O ?_;rintro _ _ ⟨rfl,rfl⟩
 first | refine dk rfl rfl ?_ | refine eF rfl rfl ?_
 refine ar O (bY 15 O (fun h1=>?_) (fun h1=>?_))
 ·refine az O (az O (az O (aE O ?_)));refine Cd.fx O (du O (cH O ?_));exact⟨by rw [cS (fun h:eA xss=>by have:=h.1;omega)],hS.none⟩
 have hM:=hS.bO hR;have r0:=r0 (by omega);refine au O (aI (tx _ _ _ _ _ _ _ _ (hS.rd 0 O) O hM (by omega)) O ?_);rintro _ _ ⟨rfl,rfl⟩;refine au O (aI (mS _ _ _ _) O ?_);rintro _ _ ⟨rfl,rfl⟩;refine au O ?_
 first | refine dk rfl rfl ?_ | refine eF rfl rfl ?_
 refine aE O (aN _ O (fun h3=>?_) (fun h3=>?_))
 ·refine du O (cH O ?_);exact⟨by rw [cS (fun h:eA xss=>by have:=h.2.1;omega)],hS.none⟩
 refine aG O (aS (hS.rd 0 O) O (aZ (hS.rd 0 O) O ?_));refine ba O O (aE O ?_);refine Cd.loop (α:=Nat) (fun k=> [(1,.pointer Ab),(21,.slice A n c),(22,ak n),(23,ak k)]) (fun k w'=>St w w' [Bx 37 1 Ab [.slice A n c]]/\k<=n/\Part xss k) (fun k=>n - k) 0 (WM O) ⟨hS,bn _,fun p hp=>by simp at hp⟩ ?_;rintro k e w2 ⟨aM,hk,hP⟩;have hM:=aM.bO hR;refine bX O (aN _ O (fun h5=>?_) (fun h5=>?_))
 ·have rp:k<xss.length:=by omega
  have rk:=hR.pE (k:=(k:Int)) (by omega) (by omega);have bH:=hM.at_ (i:=k) (by omega) h5;refine aG O (WB hM.top.2 O O O (by omega) h5 (ck hM.top O (ar O (aI (Rx _ _ _ _ _ bH) O ?_))));rintro _ w3 ⟨rfl,ax⟩;have aU:=aM.aq ax.below;have hM:=aU.bO hR
  first | refine dk rfl rfl ?_ | refine eF rfl rfl ?_
  refine ar O (bY 30 O (fun h6=>?_) (fun h6=>?_))
  ·refine az O (az O (az O (az O (aE O ?_))));refine Cd.fx O (du O (dN (dE ?_)));refine cH O ?_;exact⟨by rw [cS (fun h:eA xss=>h6 ⟨(h.2.2.1.at_ rp).2.1,(h.2.2.1.at_ rp).2.2⟩)],aU.none⟩
  have h6:=kR.1 h6;refine au O (ar O (au O ?_));refine aI (s8 _ _ _ _) O ?_;rintro _ _ ⟨rfl,rfl⟩;refine au O (aI (tx _ _ _ _ _ _ _ _ (aU.rd 0 O) O hM (by omega)) O ?_);rintro _ _ ⟨rfl,rfl⟩;refine au O (aE O ?_);refine aN _ O (fun h7=>?_) (fun h7=>?_)
  ·refine du O (dN (dE ?_));refine cH O ?_;exact⟨by rw [cS (fun h:eA xss=>h7 (by have:=(h.2.2.1.at_ rp).1;omega))],aU.none⟩
  refine aG O (aK O (aR O (tQ ?_)));exact⟨k+1,by omega,(WM O),aU,by omega,hP.step rp (by omega) h6.1 h6.2⟩
 have pk:=hP.all (by omega);have hs:=pk.sys;have jg:∀i:Int,0<=i->i<n->(rg rs i).n=(rg rs 0).n:=fun i h0 h1=>by
  have e1:=hR.pE h0 h1;have e2:=(pk _ (sf h0 (by omega))).1;omega
 refine bk O (bm (ct O ?_));refine aS (aM.rd 0 O) O (aZ (aM.rd 0 O) O ?_);refine ba O O (aE O ?_);refine Cd.loop (α:=Nat) (fun i=> [(1,.pointer Ab),(38,.slice A n c),(39,ak n),(40,ak i)]) (fun i w'=>St w w' [Bx 37 1 Ab [.slice A n c]]/\i<=n/\∀i',i'<i->∀k,k<n->i'+2<=k->∀f,f< (gl xss 0).length->Comm xss i' k f) (fun i=>n - i) 0 (WM O) ⟨aM,bn _,fun i' eK=>by omega⟩ ?_;rintro i e w3 ⟨aU,hi,hC⟩;have hM:=aU.bO hR;refine bX O (aN _ O (fun h6=>?_) (fun h6=>?_))
 ·refine aG O (WB hM.top.2 O O O (by omega) h6 (ck hM.top O (ar O (aS (aU.rd 0 O) O (aZ (aU.rd 0 O) O ?_)))));refine ar O (aK O ?_);refine aS (aU.rd 0 O) O (aZ (aU.rd 0 O) O (ba O O (L5 O O O ?_)));obtain⟨l,hl,Qj,vz⟩:∃l:Nat,min ((i:Int)+2) (n:Int)=(l:Int)/\l<=n/\(l=i+2\/(l=n/\n<=i+2)):=⟨min (i+2) n,by omega,by omega,by omega⟩;rw [hl];refine Cc O O O (by omega) ?_;rw [fW];refine ba O O (aE O ?_);refine Cd.loop (α:=Nat) (fun j=> [(1,.pointer Ab),(38,.slice A n c),(39,ak n),(40,ak i),(6,.slice (rg rs i).a (rg rs i).n (rg rs i).c),(53,.slice (cutAt A c l) (n - l) (c - l)),(54,ak ((n - l:Nat):Int)),(55,ak j)]) (fun j w'=>St w w' [Bx 37 1 Ab [.slice A n c]]/\j<=n - l/\∀k',k'<l+j->k'<n->i+2<=k'->∀f,f< (gl xss 0).length->Comm xss i k' f) (fun j=>n - l - j) 0 (WM O) ⟨aU,bn _,fun k' h1 _ _=>by omega⟩ ?_;rintro j e w4 ⟨bd,hj,HN⟩;have hM:=bd.bO hR;have vi:=hM.top.cut (c:=c) Qj (dh n) hn;refine bX O (aN _ O (fun h7=>?_) (fun h7=>?_))
  ·have je:j<n - l:=by omega
   have hk:l+j<n:=by omega
   have qm:i+2<=l+j:=by omega
   refine aG O (WB vi.2 O O O (by omega) h7 (ck vi O ?_));rw [Uk je];generalize xG:l+j=k at hk qm;have rki:=jg i (by omega) h6;have rkk:=jg k (by omega) (by omega);refine ar O (aI (tx _ _ _ _ _ _ _ _ (bd.rd 0 O) O hM (by omega)) O ?_);rintro _ w4 ⟨rfl,rfl⟩;refine aE O ?_;refine Cd.loop (α:=Nat) (fun f=> [(1,.pointer Ab),(38,.slice A n c),(39,ak n),(40,ak i),(6,.slice (rg rs i).a (rg rs i).n (rg rs i).c),(53,.slice (cutAt A c l) (n - l) (c - l)),(54,ak ((n - l:Nat):Int)),(55,ak j),(8,.slice (rg rs k).a (rg rs k).n (rg rs k).c),(59,ak ((rg rs 0).n:Int)),(60,ak f)]) (fun f w'=>St w w' [Bx 37 1 Ab [.slice A n c]]/\f<=(gl xss 0).length/\∀f',f'<f->Comm xss i k f') (fun f=> (gl xss 0).length - f) 0 (WM O) ⟨bd,bn _,fun f' sE=>by omega⟩ ?_;rintro f e w5 ⟨bh,hf,HO⟩;have hM:=bh.bO hR;have gj:=hM.at_ (i:=i) (by omega) h6;have mM:=hM.at_ (i:=k) (by omega) (by omega);refine bX O (aN _ O (fun h8=>?_) (fun h8=>?_))
   ·have hii:=(hs _ (sf (k:=(i:Int)) (by omega) (by omega))).2 (f:Int) (by omega) (by omega);have cV:=(hs _ (sf (k:=(k:Int)) (by omega) (by omega))).2 (f:Int) (by omega) (by omega);refine df O ?_
    by_cases iq:gi (gl xss i) f=gi (gl xss k) f
    ·
     refine dL [xS ((rg rs i).a) ((rg rs i).n) ((rg rs i).c),xI ((f:Int)),xP (aD ((rg rs i).a) ((f:Int)).toNat),xI (gi (gl xss i) ((f:Int))),xS ((rg rs k).a) ((rg rs k).n) ((rg rs k).c),xI ((f:Int)),xP (aD ((rg rs k).a) ((f:Int)).toNat),xI (gi (gl xss k) ((f:Int))),xB (true),xB (true),xU,xU,xU,xU,xU,xU,xU,xU,xU,xU,xU,xU,xU,xU,xU,xB (true)] O (dV O) ?_ ?_
     ·exact⟨Dr O,Dr O,fun _ _ hb _ _=>aB (gj.aq hb).2 O Az,fun _ _ hb _ _=>aW (gj.aq hb) O Az,Dr O,Dr O,fun _ _ hb _ _=>aB (mM.aq hb).2 O Az,fun _ _ hb _ _=>aW (mM.aq hb) O Az,fun _ _ _ _ _=>Dk O (by exact aH Value.bool (eD iq)),Dr O,Dr O,Dr O,Dr O,Dr O,Dr O,Dr O,Dr O,Dr O,Dr O,Dr O,Dr O,Dr O,Dr O,Dr O,Dr O,Dr O,av⟩
     intro u w6 tK _;have bD:=bh.aq tK;refine fq O (Cd.fx O ?_);refine du O (dN (dE (dN (dE (dN (dE ?_))))));refine cH O ?_;exact⟨by rw [cS (fun h:eA xss=> (h.2.2.2.1 i (by omega) k (by omega) qm f (by omega)).2 iq)],bD.none⟩
    by_cases h9:gi (gl xss k) (gi (gl xss i) f)=gi (gl xss i) (gi (gl xss k) f)
    ·refine dL [xS ((rg rs i).a) ((rg rs i).n) ((rg rs i).c),xI ((f:Int)),xP (aD ((rg rs i).a) ((f:Int)).toNat),xI (gi (gl xss i) ((f:Int))),xS ((rg rs k).a) ((rg rs k).n) ((rg rs k).c),xI ((f:Int)),xP (aD ((rg rs k).a) ((f:Int)).toNat),xI (gi (gl xss k) ((f:Int))),xB (false),xB (false),xS ((rg rs k).a) ((rg rs k).n) ((rg rs k).c),xS ((rg rs i).a) ((rg rs i).n) ((rg rs i).c),xI ((f:Int)),xP (aD ((rg rs i).a) ((f:Int)).toNat),xI (gi (gl xss i) ((f:Int))),xP (aD ((rg rs k).a) (gi (gl xss i) ((f:Int))).toNat),xI (gi (gl xss k) (gi (gl xss i) ((f:Int)))),xS ((rg rs i).a) ((rg rs i).n) ((rg rs i).c),xS ((rg rs k).a) ((rg rs k).n) ((rg rs k).c),xI ((f:Int)),xP (aD ((rg rs k).a) ((f:Int)).toNat),xI (gi (gl xss k) ((f:Int))),xP (aD ((rg rs i).a) (gi (gl xss k) ((f:Int))).toNat),xI (gi (gl xss i) (gi (gl xss k) ((f:Int)))),xB (false),xB (false)] O (dV O) ?_ ?_
     ·exact⟨Dr O,Dr O,fun _ _ hb _ _=>aB (gj.aq hb).2 O Az,fun _ _ hb _ _=>aW (gj.aq hb) O Az,Dr O,Dr O,fun _ _ hb _ _=>aB (mM.aq hb).2 O Az,fun _ _ hb _ _=>aW (mM.aq hb) O Az,fun _ _ _ _ _=>Dk O (by exact aH Value.bool (cS iq)),Dr O,Dr O,Dr O,Dr O,fun _ _ hb _ _=>au O (aB (gj.aq hb).2 O Az),fun _ _ hb _ _=>au O (aW (gj.aq hb) O Az),fun _ _ hb _ _=>au O (aB (mM.aq hb).2 O Az),fun _ _ hb _ _=>au O (aW (mM.aq hb) O Az),Dr O,Dr O,Dr O,fun _ _ hb _ _=>au O (aB (mM.aq hb).2 O Az),fun _ _ hb _ _=>au O (aW (mM.aq hb) O Az),fun _ _ hb _ _=>au O (aB (gj.aq hb).2 O Az),fun _ _ hb _ _=>au O (aW (gj.aq hb) O Az),fun _ _ _ _ _=>Dk O (by exact aH Value.bool (cS (fun h=>h h9))),Dr O,av⟩
     intro u w6 tK _;have bD:=bh.aq tK;refine fq O (Cd.eM O ?_);refine aG O (aK O (aR O (tQ ?_)));refine⟨f+1,by omega,(WM O),bD,by omega,fun f' sE=>?_⟩
     by_cases ef:f'=f
     ·subst ef;exact⟨h9,iq⟩
     exact HO f' (by omega)
    refine dL [xS ((rg rs i).a) ((rg rs i).n) ((rg rs i).c),xI ((f:Int)),xP (aD ((rg rs i).a) ((f:Int)).toNat),xI (gi (gl xss i) ((f:Int))),xS ((rg rs k).a) ((rg rs k).n) ((rg rs k).c),xI ((f:Int)),xP (aD ((rg rs k).a) ((f:Int)).toNat),xI (gi (gl xss k) ((f:Int))),xB (false),xB (false),xS ((rg rs k).a) ((rg rs k).n) ((rg rs k).c),xS ((rg rs i).a) ((rg rs i).n) ((rg rs i).c),xI ((f:Int)),xP (aD ((rg rs i).a) ((f:Int)).toNat),xI (gi (gl xss i) ((f:Int))),xP (aD ((rg rs k).a) (gi (gl xss i) ((f:Int))).toNat),xI (gi (gl xss k) (gi (gl xss i) ((f:Int)))),xS ((rg rs i).a) ((rg rs i).n) ((rg rs i).c),xS ((rg rs k).a) ((rg rs k).n) ((rg rs k).c),xI ((f:Int)),xP (aD ((rg rs k).a) ((f:Int)).toNat),xI (gi (gl xss k) ((f:Int))),xP (aD ((rg rs i).a) (gi (gl xss k) ((f:Int))).toNat),xI (gi (gl xss i) (gi (gl xss k) ((f:Int)))),xB (true),xB (true)] O (dV O) ?_ ?_
    ·exact⟨Dr O,Dr O,fun _ _ hb _ _=>aB (gj.aq hb).2 O Az,fun _ _ hb _ _=>aW (gj.aq hb) O Az,Dr O,Dr O,fun _ _ hb _ _=>aB (mM.aq hb).2 O Az,fun _ _ hb _ _=>aW (mM.aq hb) O Az,fun _ _ _ _ _=>Dk O (by exact aH Value.bool (cS iq)),Dr O,Dr O,Dr O,Dr O,fun _ _ hb _ _=>au O (aB (gj.aq hb).2 O Az),fun _ _ hb _ _=>au O (aW (gj.aq hb) O Az),fun _ _ hb _ _=>au O (aB (mM.aq hb).2 O Az),fun _ _ hb _ _=>au O (aW (mM.aq hb) O Az),Dr O,Dr O,Dr O,fun _ _ hb _ _=>au O (aB (mM.aq hb).2 O Az),fun _ _ hb _ _=>au O (aW (mM.aq hb) O Az),fun _ _ hb _ _=>au O (aB (gj.aq hb).2 O Az),fun _ _ hb _ _=>au O (aW (gj.aq hb) O Az),fun _ _ _ _ _=>Dk O (by exact aH Value.bool (eD h9)),Dr O,av⟩
    intro u w6 tK _;have bD:=bh.aq tK;refine fq O (Cd.fx O ?_);refine du O (dN (dE (dN (dE (dN (dE ?_))))));refine cH O ?_;exact⟨by rw [cS (fun h:eA xss=>h9 (h.2.2.2.1 i (by omega) k (by omega) qm f (by omega)).1)],bD.none⟩
   refine bk O (bm (ct O (aK O (aR O (tQ ?_)))));refine⟨j+1,by omega,(WM O),bh,by omega,fun k' fF pd vx f' sE=>?_⟩
   by_cases ek:k'=k
   ·subst ek;exact HO f' (by omega)
   exact HN k' (by omega) pd vx f' sE
  refine bk O (bm (ct O (aK O (aR O (tQ ?_)))));refine⟨i+1,by omega,(WM O),bd,by omega,fun i' eK k' fF vx f' sE=>?_⟩
  by_cases ei:i'=i
  ·subst ei;exact HN k' (by omega) fF vx f' sE
  exact hC i' (by omega) k' fF vx f' sE
 have hB:=aU.rd 0 O;refine bk O (bm (mw O ?_));refine dL [xI (((rg rs 0).n:Int)),xP (aD (Ab) 0),xS (A) (n) (c),.pr (fun v _=>∃A',v= .tuple #[.slice A' (gl xss 0).length (gl xss 0).length,ak (bc (gl xss 0).length xss (gl xss 0).length).2]),.pr (fun v _=>∃A',v= .tuple #[.slice A' (gl xss 0).length (gl xss 0).length,ak (bc (gl xss 0).length xss (gl xss 0).length).2]),.pr (fun v _=>∃A',v= .slice A' (gl xss 0).length (gl xss 0).length),xI ((bc (gl xss 0).length xss (gl xss 0).length).2),.pr (fun v _=>∃A',v= .slice A' (gl xss 0).length (gl xss 0).length),xI ((bc (gl xss 0).length xss (gl xss 0).length).2)] rfl (lx (lx (lx (cM.2 ⟨Yd.cN (fun _ _ _ h _=>h),(cM.2 ⟨Yd.cN (fun _ _ _ h _=>h),(cM.2 ⟨Yd.cN (fun _ _ _ h _=>h),(lx (cM.2 ⟨Yd.cN (fun _ _ _ h _=>h),(lx (fun _ h=>by cases h))⟩))⟩)⟩)⟩)))) ?_ ?_
 ·refine⟨?_,fun _ _ hb _ _=>aS (hB.below hb) O Az,fun _ _ hb _ _=>aZ (hB.below hb) O Az,?_,?_,?_,?_,?_,Dr O,av⟩
  ·intro e1 w1 hb hp aX;refine aI (tx _ _ _ _ _ _ _ _ (hB.below hb) O (hM.aq hb) (by omega)) O ?_;rintro _ w2 ⟨rfl,ax⟩;subst ax;refine ao.n (d0 (by exact O))
  ·intro e1 w1 hb hp aX;refine WD (Ks A n c rs xss (gl xss 0).length _ (hM.aq hb) (by omega) hs pk.inj (by omega)) O (by rw [r0];rfl) O ?_;rintro _ w2 ⟨A',rfl,ax⟩;exact ao.n (gK.dn ax.below ⟨A',O⟩)
  ·intro e1 w1 hb hp aX;obtain⟨A',OQ⟩:=(hp 3 (by decide) rfl _ _ rfl rfl);refine L6 O (by exact OQ) O (ao.n ?_);exact gK.dn (Below.refl _ _) ⟨A',O⟩
  ·intro e1 w1 hb hp aX;obtain⟨A',Dp⟩:=(hp 4 (by decide) rfl _ _ rfl rfl);refine ao.extract (by exact Dp) O O (ao.n ?_);exact gK.dn (Below.refl _ _) ⟨A',O⟩
  ·intro e1 w1 hb hp aX;obtain⟨A',Dp⟩:=(hp 4 (by decide) rfl _ _ rfl rfl);refine ao.extract (by exact Dp) O O Az
  intro e1 w1 hb hp aX;obtain⟨A',OR⟩:=(hp 5 (by decide) rfl _ _ rfl rfl);refine kA O (by exact OR) O (ao.n ?_);exact gK.dn (Below.refl _ _) ⟨A',O⟩
 intro u w6 tK _;have bD:=aU.aq tK;refine B7 O (cH O ?_);refine⟨?_,bD.none⟩
 congr 1
 have ho:=Kt hs (by omega);have hl:=SD hs (by omega);exact kg.2 ⟨fun h=> ⟨by omega,by omega,pk,fun i' eK k' fF vx f' sE=>hC i' (by omega) k' (by omega) vx f' sE,ho.2 (hl.1 h)⟩,fun h=>hl.2 (ho.1 h.2.2.2.2)⟩
section
variable {P:Program} {N:Nat} {ops:Array Oper} {K:Env->aa->Prop} {rest:List Oper} {e:Env} {w:aa} {d:Nat} {ty:ae} {pos:String} {af:Array Edge} {x y:ag} {xt yt:ae}
theorem run_equal_bool[bG P xt .bool](a b:Bool):(Op.equal xt (.bool a) (.bool b)).run P w= .ok (a==b) w:=
 run_equalIn_bool w 9999 xt a b bG.out
theorem qK[bG P xt .bool]{a b:Bool}(hx:ev e x= .bool a)(hy:ev e y= .bool b)(hb:Nat.blt d N=true)(hK:ao P N ops K rest (bj e d (.bool (!(a==b)))) w):
 ao P N ops K (⟨some d,.binOp .neq xt x y yt,ty,pos,af,none⟩::rest) e w:=
 .val (by simp [execOp,hx,hy,eqGuard,binOp,run_equal_bool]) hb hK
theorem LX[bG P xt .bool]{a b:Bool}(hx:ev e x= .bool a)(hy:ev e y= .bool b)(hb:Nat.blt d N=true)(hK:ao P N ops K rest (bj e d (.bool (a==b))) w):
 ao P N ops K (⟨some d,.binOp .eql xt x y yt,ty,pos,af,none⟩::rest) e w:=
 .val (by simp [execOp,hx,hy,eqGuard,binOp,run_equal_bool]) hb hK
end
section
variable {P:Program} {N:Nat} {ops:Array Oper} {K:Env->aa->Prop} {rest:List Oper} {e:Env} {w0 w w':aa} {ks:List Ck} {d:Nat} {ty:ae} {pos:String} {af:Array Edge}
theorem Ga{t:ae}{f0:Field}{z0 zf:ad}{b bf:Nat}[bG P t (.struct #[f0])][bJ P t (.agg #[z0]) 1 b]{x0:ag}{v0:ad}(hI:bJ P f0.type zf 1 bf)(ho:f0.offset=0)(h0:ev e x0=v0)(c0:v0.oneCell'=true)(hb:Nat.blt d N=true)(hK:ao P N ops K rest (bj e d (.agg #[v0])) w):ao P N ops K (⟨some d,.build t #[(0,x0)],ty,pos,af,none⟩::rest) e w:=by
 obtain⟨inf,hi,fH,hs,iT⟩:=bJ.get P t;obtain⟨Ru,eK,Rh,vH,PD⟩:=hI.get P f0.type;have e0:v0.cells= #[v0]:=by cases v0<;>simp [Value.oneCell']at c0<;>rfl
 have ez:(Value.agg #[z0]).cells= #[z0]:=O;refine .val (w':=w) ?_ hb hK;simp [execOp,Instr.build,run_underlying (bG.out (P:=P) (t:=t)),sizeOf,typeInfo,zeroValue,hi,fH,eK,vH,ho,h0,e0,ez,Instr.fill]
theorem ti{t t' el:ae}[bG P t (.slice el)]{x y:ag}{A:aj}{n c:Nat}(hx:ev e x= .slice A n c)(hy:ev e y= .slice none 0 0)(hb:Nat.blt d N=true)(hK:ao P N ops K rest (bj e d (.bool A.isNone)) w):
 ao P N ops K (⟨some d,.binOp .eql t x y t',ty,pos,af,none⟩::rest) e w:=by
 have hr:(Op.equal t (.slice A n c) (.slice none 0 0)).run P w= .ok A.isNone w:=by
  show(Op.equalIn (9999+1) t (.slice A n c) (.slice none 0 0)).run P w=_;rw [Op.equalIn];cases A<;>simp [run_underlying (bG.out (P:=P) (t:=t))]
 exact .val (by simp [execOp,hx,hy,eqGuard,binOp,hr]) hb hK
end
theorem vN{t1 t2:ae}{A:aj}{n c:Nat}{rs:List aL}{xss:ah}{pre ks:List Ck}{i:Nat}(hr:rs.length=xss.length)(hi:i<rs.length):(pre++ (aQ t1 t2 A n c rs xss++ks))[pre.length+1+i]?=some (aw t2 (rs.getD i cL).a (rs.getD i cL).n (rs.getD i cL).c (xss.getD i [])):=by
 rw [lZ (by omega),show pre.length+1+i - pre.length=i+1 by omega,lY (by simp [aQ,s6 hr];omega)];simpa [aQ]using vV (t:=t2) hr hi
section
variable {P:Program} {N:Nat} {ops:Array Oper} {K:Env->aa->Prop} {rest:List Oper} {e:Env} {w0 w w':aa} {ks pre:List Ck} {ty:ae} {pos:String} {af:Array Edge}
end
structure yT where
 top:aL
 rs:List aL
 xss:ah
def yT.ok(m:yT):Prop:=m.xss.length=m.top.n
def yT.ma(t1 t2:ae)(m:yT):List Ck:=aQ t1 t2 m.top.a m.top.n m.top.c m.rs m.xss
theorem EY(A:aj)(n c:Nat)(xs:ai)(w:aa)(hR:bu w A n xs)(hn:n<=1000000000):aJ prog 151 [.slice A n c] w (fun v w'=>∃A' c',v= .slice A' n c'/\St w w' [aw 2 A' n c' xs]):=by
 refine br func151 O ntmps151 O (cw O) (a8 O (iB (St.refl w) O ?_));intro A1 w1 ay;have ay:St w w1 [aw 2 A1 0 0 []]:=ay;refine ar O (fj 0 ay O (ay.da hR) O O O ?_);intro A2 c2 w2 aM;rw [Nat.zero_add]at aM|-;refine bI O (eW O ?_);exact⟨A2,c2,O,aM⟩
def body(n F:Nat)(ok:ah->Nat->Nat->Bool)(fin:ah->Bool)(k at_ met:Nat)(M:ah)(g:Nat):List (ah):=
 if 0<=cell M (at_%n) (g:Nat)then []else if ok (put M (at_%n) (at_ / n) g) (at_%n) (at_ / n)=true then grow n F ok fin k (at_+1) (max met (g+1)) (put M (at_%n) (at_ / n) g)else []
end
section
section
variable {n F:Nat} {M:ah} {met at_:Nat}
end
end
section
open Go.RowKit
def Small(BB flags:Int):Prop:=(1<=BB/\BB<=4)/\(2<=flags/\flags<=12)
instance (BB flags:Int):Decidable (Small BB flags):=by unfold Small;exact inferInstance
theorem yN(A:aj)(n c:Nat)(xs:ai)(w:aa)(hR:bu w A n xs)(hn:n<=1000000000):aJ prog 109 [.slice A n c] w (fun v w'=>∃A' c',v= .slice A' n c'/\St w w' [aw 2 A' n c' xs]):=by
 cases hA:A with
 | none=>
  subst hA;have pf:n=0:=by
   apply pL;intro h;obtain⟨p,hp,_⟩:=hR.2 0 (by omega);simp [aD]at hp
  subst pf;have hx:xs=[]:=pM hR.1;subst hx;refine br func109 O ntmps109 O (cw O) (a8 O (ti O O O (aE O (Cd.fx O (du O (eW O ?_))))));exact⟨none,0,O,(St.refl w).nil _⟩
 | some a=>
  subst hA;refine br func109 O ntmps109 O (cw O) (a8 O (ti O O O (aE O (Cd.eM O (aG O (iB (St.refl w) O ?_))))));intro A1 w1 ay;have ay:St w w1 [aw 2 A1 0 0 []]:=ay;refine ar O (fj 0 ay O (ay.da hR) O O O ?_);intro A2 c2 w2 aM;rw [Nat.zero_add]at aM|-;refine bI O (eW O ?_);exact⟨A2,c2,O,aM⟩
section
variable {P:Program} {N:Nat} {ops:Array Oper} {K:Env->aa->Prop} {rest:List Oper} {e:Env} {w:aa} {d:Nat} {ty:ae} {pos:String} {af:Array Edge}
theorem yX{t:ae}{f0:Field}{z0 zf:ad}{b bf:Nat}[bG P t (.struct #[f0])][bJ P t (.agg #[z0]) 1 b](hI:bJ P f0.type zf 1 bf)(hb:Nat.blt d N=true)(hK:ao P N ops K rest (bj e d (.agg #[z0])) w):ao P N ops K (⟨some d,.build t #[],ty,pos,af,none⟩::rest) e w:=by
 obtain⟨inf,hi,fH,hs,iT⟩:=bJ.get P t;obtain⟨Ru,eK,Rh,vH,PD⟩:=hI.get P f0.type;have ez:(Value.agg #[z0]).cells= #[z0]:=O;refine .val (w':=w) ?_ hb hK;simp [execOp,Instr.build,run_underlying (bG.out (P:=P) (t:=t)),sizeOf,typeInfo,zeroValue,hi,fH,hs,eK,vH,ez,Instr.fill]
end
theorem Sl(A:aj)(n c:Nat)(rs:List aL)(xss:ah)(N:Nat)(Ap:aj)(cp:Nat)(p:ai)(w:aa)(hR:bq w A n rs xss)(hn:n<=1000000)(hs:Sys N xss)(hN:N<=1000000)(hP:bu w Ap N p)(hp:∀x:Int,0<=x->x<N->0<=gi p x/\gi p x<N):
 aJ prog 177 [.agg #[.slice A n c],.slice Ap N cp] w (fun v w'=>∃A' c' rs',v= .agg #[.slice A' n c']/\rs'.length=n/\St w w' (aQ 24 2 A' n c' rs' (xss.map (mo N p)))):=by
 have xW:=hP.1;have eu:=hR.len;refine br func177 O ntmps177 O (pD O O) (a8 O (ng (St.refl w) O O ?_));intro Ab w1 ay;refine jH ay O fun Ac w2 aM=>ar O (yX (by exact inferInstance) O (jH aM O ?_));intro Ad w3 aU;refine dG 1 0 aU O O O O O O O ?_;intro w4 bd;have bd:St w w4 (Bx 37 1 Ad [.slice none 0 0]::Bx 37 1 Ac [.slice none 0 0]::Bx 37 1 Ab [.slice A n c]::[]):=bd;have qg:St w w4 (Bx 37 1 Ad [.slice none 0 0]::Bx 37 1 Ac [.slice none 0 0]::Bx 37 1 Ab [.slice A n c]::bE 24 none 0 0 []::[]):=(bd.nil 24).perm (ka (l₁:=[_]) (l₂:=[_,_,_]));refine aE O (Cd.loop (α:=Nat×aj×Nat×List aL) (fun s=> [(1,.slice Ap N cp),(2,.pointer Ab),(4,.pointer Ac),(5,.pointer Ad),(6,ak (s.1:Int))]) (fun s w'=>St w w' (Bx 37 1 Ad [.slice s.2.1 s.1 s.2.2.1]::Bx 37 1 Ac [.slice none 0 0]::Bx 37 1 Ab [.slice A n c]::bE 24 s.2.1 s.1 s.2.2.1 s.2.2.2::b6 2 s.2.2.2 ((xss.map (mo N p)).take s.1))/\s.1<=n/\s.2.2.2.length=s.1) (fun s=>n - s.1) (0,none,0,[]) (WM O) ⟨qg,bn _,O⟩ ?_);rintro⟨i,A3,c3,jW⟩ e w5 ⟨bh,hi,hlen⟩;dsimp only at bh hi hlen|-;refine a8 O (aS (bh.rd 2 O) O (aZ (bh.rd 2 O) O ?_));refine ba O O (aE O ?_);refine aN _ O (fun h1=>?_) (fun h1=>?_)
 ·have eK:i<n:=by omega
  have hx:i<xss.length:=by omega
  refine aG O (ba O O ?_);refine rZ N bh O O (by omega) fun A7 w6 bD=>aE O ?_;have e2:gl xss i=xss[i]:=by simp [gl,cz,eS hx]
  have sG:=hs (gl xss i) (sf (by omega) (by omega));refine Cd.loop (α:=Nat) (fun k=> [(1,.slice Ap N cp),(2,.pointer Ab),(4,.pointer Ac),(5,.pointer Ad),(6,ak i),(7,.slice A7 N N),(8,ak k)]) (fun k w'=>St w w' (aw 2 A7 N N (ux (List.replicate N 0) (fun f=>gi p f) (fun f=>gi p (gi (gl xss i) f)) k)::Bx 37 1 Ad [.slice A3 i c3]::Bx 37 1 Ac [.slice none 0 0]::Bx 37 1 Ab [.slice A n c]::bE 24 A3 i c3 jW::b6 2 jW ((xss.map (mo N p)).take i))/\k<=N) (fun k=>N - k) 0 (WM O) ⟨bD,bn _⟩ ?_;rintro k e w7 ⟨bl,hk⟩;have hM:=bl.bO hR;have zP:=bl.da hP;refine a8 O (ba O O (aE O ?_));refine aN _ O (fun h2=>?_) (fun h2=>?_)
  ·have bH:=hM.at_ (i:=(i:Int)) (by omega) h1;have fp:=hM.pE (k:=(i:Int)) (by omega) h1;have hv:=sG.2 (k:Int) (by omega) (by omega);have hpk:=hp (k:Int) (by omega) (by omega);have hpv:=hp _ hv.1 hv.2;have oB:=sG.1;have hB:=bl.rd 3 O;have hO:=bl.bo 0 O;have eQ:(gi p k).toNat<N:=by omega
   refine df O ?_;refine ja [17] [yS (A7) (N) (N),yS (Ap) (N) (cp),yI ((k:Int)),yP (aD (Ap) ((k:Int)).toNat),yI (gi (p) ((k:Int))),yS (Ap) (N) (cp),yP (aD (Ab) 0),yS (A) (n) (c),yI ((i:Int)),yP (aD (A) ((i:Int)).toNat),yS ((rg (rs) ((i:Int))).a) ((rg (rs) ((i:Int))).n) ((rg (rs) ((i:Int))).c),yI ((k:Int)),yP (aD ((rg (rs) ((i:Int))).a) ((k:Int)).toNat),yI (gi (gl xss i) ((k:Int))),yP (aD (Ap) (gi (gl xss i) ((k:Int))).toNat),yI (gi (p) (gi (gl xss i) ((k:Int)))),yP (aD (A7) (gi (p) ((k:Int))).toNat),.pr (fun _ w'=>St w w' (aw 2 A7 N N (ux (List.replicate N 0) (fun f=>gi p f) (fun f=>gi p (gi (gl xss i) f)) (k+1))::Bx 37 1 Ad [.slice A3 i c3]::Bx 37 1 Ac [.slice none 0 0]::Bx 37 1 Ab [.slice A n c]::bE 24 A3 i c3 jW::b6 2 jW ((xss.map (mo N p)).take i)))] (by kernel_rfl) (by kernel_rfl) (ly (ly (ly (ly (ly (ly (ly (ly (ly (ly (ly (ly (ly (ly (ly (ly (ly (cM.2 ⟨Ye.cN (fun v w w' h hb=>h.aq hb),(fun _ h=>by cases h)⟩)))))))))))))))))) ?_ ?_
   ·refine⟨bT O,bT O,bT O,cP fun _ _ hb _ _ _=>aB (zP.aq hb).2 O (bB O O),cP fun _ _ hb _ _ _=>aW (zP.aq hb) O (bB O O),bT O,cP fun _ _ hb _ _ _=>aS (hB.below hb) O (bB O O),cP fun _ _ hb _ _ _=>aZ (hB.below hb) O (bB O O),bT O,cP fun _ _ hb _ _ _=>aB (hM.top.aq hb).2 O (bB O O),cP fun _ _ hb _ _ _=>ck (hM.top.aq hb) O (bB O O),bT O,cP fun _ _ hb _ _ _=>aB (bH.aq hb).2 O (bB O O),cP fun _ _ hb _ _ _=>aW (bH.aq hb) O (bB O O),cP fun _ _ hb _ _ _=>aB (zP.aq hb).2 O (bB O O),cP fun _ _ hb _ _ _=>aW (zP.aq hb) O (bB O O),cP fun _ _ hb _ _ _=>aB (hO.aq hb).2 O (bB O O),?_,av⟩;refine jc fun e1 w1 hb hp aX hq=>?_
    exact il 0 (bl.aq hb) O O O eQ fun w9 ax=>ao.n (fg.st O ax)
   intro u w8 _ hu _ _;have b7:=hu 17 _ O (by kernel_rfl);refine gZ O (aK O (aR O (tQ ?_)));exact⟨k+1,by show N - (k+1)<N - k;omega,(WM O),b7,by omega⟩
  have oA:k=N:=by omega
  subst oA;refine bk O (bm (ct O ?_));refine aS (bl.rd 1 O) O (aZ (bl.rd 1 O) O (ar O (l6 bl O O O ?_)));intro A9 w9 bg;refine l5 5 bg O (bg.fz 0 O) O O O (by omega) (by omega) O ?_;intro b9 en dw bQ;have bQ:=bQ.tail;refine aS (bQ.rd 1 O) O (kB 1 bQ O O O O O ?_);intro ew dT;have dT:St w ew (aw 2 A7 k k (mo k p (gl xss i))::Bx 37 1 Ad [.slice b9 (i+1) en]::Bx 37 1 Ac [.slice none 0 0]::Bx 37 1 Ab [.slice A n c]::bE 24 b9 (i+1) en (jW++ [⟨A7,k,k⟩])::b6 2 jW ((xss.map (mo k p)).take i)):=dT;refine ar O (aK O (aR O (tQ ?_)));refine⟨(i+1,b9,en,jW++ [⟨A7,k,k⟩]),by show n - (i+1)<n - i;omega,(WM O),?_,eK,by simp [hlen]⟩;show St w ew (_::_::_::bE _ b9 (i+1) en (jW++ [_])::b6 _ (jW++ [_]) ((xss.map (mo k p)).take (i+1)));rw [oZ (by rw [lC];exact hx),yA (by simp [hlen];omega),List.getElem_map,<-e2];refine dT.perm ?_;exact ka (l₁:=[_]) (l₂:=_::_::_::_::b6 2 jW ((xss.map (mo k p)).take i))
 refine bk O (bm (ct O ?_));have de:i=n:=by omega
 subst de;rw [lD (by rw [lC];omega)]at bh;refine bK 0 (bh.rd 0 O) O O O (dG 1 1 bh O O O O O O O ?_);intro w6 bD;refine bI O (jC O (bD.rd 1 O) ?_);exact⟨A3,c3,jW,O,hlen,bD.sub (((List.sublist_cons_self _ _).trans (List.sublist_cons_self _ _)).trans (List.sublist_cons_self _ _))⟩
def mu(l:ai):Prop:=l.Pairwise (· <= ·)
def jX(l:ai):ai:=l.mergeSort fun x y=>decide (x<=y)
theorem FF(l:ai):(jX l).Perm l:=List.mergeSort_perm _ _
theorem UK(l:ai):mu (jX l):=by
 have:=List.pairwise_mergeSort (le:=fun x y:Int=>decide (x<=y)) (fun a b c h1 h2=>by simp at h1 h2|-;omega) (fun a b=>by simp;omega) l;exact this.imp fun h=>by simpa using h
theorem MG{l l':ai}(h:l.Perm l')(h1:mu l)(h2:mu l'):l=l':=
 List.Perm.eq_of_pairwise (le:=(· <= ·)) (fun a b _ _ h1 h2=>by omega) h1 h2 h
def F4(xss:ah):Prop:=eA xss/\2<=xss.length
instance (xss:ah):Decidable (F4 xss):=by unfold F4;exact inferInstance
theorem vL(A:aj)(n c:Nat)(rs:List aL)(xss:ah)(w:aa)(hR:bq w A n rs xss)(hn:0<n):
 aJ prog 136 [.agg #[.slice A n c]] w (fun v w'=>v=ak ((gl xss 0).length:Int)/\St w w' []):=by
 refine br func136 O ntmps136 O (cw O) (a8 O (ng (St.refl w) O O ?_));intro Ab w1 hS;have jA:=hS.bO hR;have e0:(gl xss 0).length=(rg rs 0).n:=hR.pE (by omega) (by omega);refine ar O (aS (hS.rd 0 O) O (aZ (hS.rd 0 O) O (aB jA.top.2 O (ck jA.top O ?_))));refine ba O O (bI O ?_);refine kN O ?_;exact⟨by rw [e0],hS.none⟩
theorem bu.take{w:aa}{A:aj}{n l:Nat}{xs:ai}(h:bu w A n xs)(hl:l<=n):bu w A l (xs.take l):=by
 have:=h.cut (l:=0) (h:=l) (c:=0) (bn _) hl;refine⟨by rw [mY,h.1];omega,fun k hk=>?_⟩;obtain⟨q,h1,h2⟩:=h.2 k (by omega);exact⟨q,h1,by rw [h2];simp [pN,hk,cz]⟩
end
end Go.Proofs.YtagdamiiececaaaGreatDoor.Vc
