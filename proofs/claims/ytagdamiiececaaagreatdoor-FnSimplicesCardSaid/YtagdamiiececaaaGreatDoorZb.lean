/-
 Lemmas. Conditions: as each states them.
-/
import Derived.Test.YtagdamiiececaaaGreatDoorInst
import Derived.Laws.IdiomCopy
import Derived.Shelf.Bits.Mul64
set_option maxHeartbeats 8000000
namespace Go.Proofs.YtagdamiiececaaaGreatDoor.Vc
open Tryz
section
open Go.RowKit
variable{p S:ai}{k:Nat}
theorem Lv(n lo hi:Int)(w:aa):aG prog 82 [ak n,ak lo,ak hi] w (fun v w'=>v= .bool (decide (lo<=n/\n<=hi))/\w'=w):=by
 refine bA func82 O ntmps82 O (cJ O) (a8 O ?_);refine dp 10 O (fun h=>?_) (fun h=>?_)
 ·refine ax O (ar O (ax O (ar O (ax O (bM O ?_)))));refine dK O ?_;exact⟨by simp [h],O⟩
 refine aQ O (aQ O (aQ O (bM O ?_)));refine dK O ?_;exact⟨by simp [h],O⟩
theorem sL(n lo hi:Int)(w:aa):aG prog 79 [ak n,ak lo,ak hi] w (fun v w'=>v= .bool (decide (lo<=n/\n<=hi))/\w'=w):=by
 refine bA func79 O ntmps79 O (cJ O) (a8 O ?_);refine dp 10 O (fun h=>?_) (fun h=>?_)
 ·refine ax O (ar O (ax O (ar O (ax O (bM O ?_)))));refine dK O ?_;exact⟨by simp [h],O⟩
 refine aQ O (aQ O (aQ O (bM O ?_)));refine dK O ?_;exact⟨by simp [h],O⟩
def ma(p:ai):Prop:=p.length<=400/\(∀x∈p,0<=x/\x<p.length)/\p.Nodup
instance (p:ai):Decidable (ma p):=by unfold ma;exact inferInstance
def Seen(p:ai)(k:Nat)(S:List Bool):Prop:=
 S.length=p.length/\(∀x∈p.take k,0<=x/\x<p.length)/\(p.take k).Nodup/\∀x:Int,0<=x->x<p.length->(gb S x=true↔x∈p.take k)
theorem bO(h:k<p.length):gi p k=p[k]:=by simp [gi,cN,fS h]
theorem uF(h:k<p.length):p.take (k+1)=p.take k++ [gi p k]:=by rw [bO h,rQ h]
theorem Dw{S:List Bool}{x y:Int}{b:Bool}(hx:0<=x)(dH:x<S.length)(hy:0<=y):gb (S.set x.toNat b) y=if x=y then b else gb S y:=by
 simp only [gb,cN,mG]
 by_cases e:x=y
 ·subst e;rw [ay rfl,ay rfl,ay (by omega)];rfl
 rw [aw (by omega),aw e]
theorem pw{x y:Int}{b:Int}(hx:0<=x)(dH:x<S.length)(hy:0<=y):gi (S.set x.toNat b) y=if x=y then b else gi S y:=by
 simp only [gi,cN,mG]
 by_cases e:x=y
 ·subst e;rw [ay rfl,ay rfl,ay (by omega)];rfl
 rw [aw (by omega),aw e]
theorem Seen.zero(p:ai):Seen p 0 (List.replicate p.length false):=⟨by simp,by simp,by simp,fun x h0 h1=>by
 simp [gb,cN,List.getElem?_replicate];split<;>simp⟩
theorem Seen.bad{S:List Bool}(h:Seen p k S)(hk:k<p.length)(hb:¬(0<=gi p k/\gi p k<=p.length - 1)):¬ma p:=fun hp=>by
 have:=hp.2.1 (gi p k) (by rw [bO hk];exact dB hk);omega
theorem Seen.ag0{S:List Bool}(h:Seen p k S)(hk:k<p.length)(h0:0<=gi p k/\gi p k<=p.length - 1)(hb:gb S (gi p k)=true):¬ma p:=fun hp=>by
 have h1:=(h.2.2.2 (gi p k) h0.1 (by omega)).1 hb;have h2:(p.take (k+1)).Nodup:=hp.2.2.sublist (List.take_sublist _ _);rw [uF hk,List.nodup_append]at h2;exact h2.2.2 _ h1 _ (by simp) O
theorem Seen.step{S:List Bool}(h:Seen p k S)(hk:k<p.length)(h0:0<=gi p k/\gi p k<=p.length - 1)(hb:gb S (gi p k)=false):Seen p (k+1) (S.set (gi p k).toNat true):=by
 obtain⟨h1,h2,h3,h4⟩:=h;have h5:¬gi p k∈p.take k:=fun hm=>by have:=(h4 _ h0.1 (by omega)).2 hm;rw [hb]at this;cases this
 refine⟨by simpa using h1,?_,?_,fun x hx dH=>?_⟩
 ·rw [uF hk];intro x hx;rcases jz.1 hx with hx | hx
  ·exact h2 x hx
  simp at hx;subst hx;omega
 ·rw [uF hk,List.nodup_append];refine⟨h3,by simp,fun a ha b sf=>?_⟩;simp at sf;subst sf;intro e;subst e;exact h5 ha
 rw [Dw h0.1 (by omega) hx,uF hk,jz]
 by_cases e:gi p k=x
 ·simp [e]
 rw [aw e,h4 x hx dH];simp;intro h;exact absurd h.symm e
theorem Seen.done{S:List Bool}(h:Seen p k S)(hk:¬k<p.length)(hl:p.length<=400):ma p:=by
 obtain⟨h1,h2,h3,h4⟩:=h;rw [jW (by omega)]at h2 h3;exact⟨hl,h2,h3⟩
def fill{α:Type}(k:Nat)(xs:List α)(d:α):List α:=xs.take k++List.replicate (xs.length - k) d
theorem bP{p:ah}(h:k<p.length):gl p k=p[k]:=by simp [gl,cN,fS h]
theorem E5{p:ah}(h:k<p.length):p.take (k+1)=p.take k++ [gl p k]:=by rw [bP h,rQ h]
theorem zT(A:aj)(n c:Nat)(w:aa):aG prog 106 [.slice A n c] w (fun v w'=>v=ak n/\w'=w):=by
 refine bA func106 O ntmps106 O (cJ O) ?_;refine a8 O (bc O O (bM O ?_));exact gY O ⟨O,O⟩
theorem EX(A:aj)(n c:Nat)(w:aa):aG prog 120 [.slice A n c] w (fun v w'=>v=ak n/\w'=w):=by
 refine bA func120 O ntmps120 O (cJ O) ?_;refine a8 O (bc O O (bM O ?_));exact gY O ⟨O,O⟩
theorem acd(A:aj)(n c:Nat)(p:ai)(w:aa)(hR:cn w A n p):aG prog 193 [.slice A n c] w (fun v w'=>v= .bool (decide (ma p))/\St w w' []):=by
 have hl:=hR.1;subst hl;refine bA func193 O ntmps193 O (cJ O) ?_;refine a8 O (bc O O (aI O ?_));refine aR _ O (fun h=>?_) (fun h=>?_)
 ·refine eT O (dK O ?_);exact⟨by rw [dE (fun hp:ma p=>by have:=hp.1;omega)],St.refl _⟩
 refine aE O (bc O O ?_);refine yx p.length (St.refl w) O O (by omega) fun A1 w1 aA=>ar O (bc O O (aI O ?_));refine Cd.loop (α:=Nat×List Bool) (fun s=> [(0,.slice A p.length c),(3,.slice A1 p.length p.length),(12,.slice A p.length c),(13,ak (p.length:Int)),(14,ak (s.1:Int))]) (fun s w'=>St w w' [gu 4 A1 p.length p.length s.2]/\s.1<=p.length/\Seen p s.1 s.2) (fun s=>p.length - s.1) (0,List.replicate p.length false) (ajs O) ⟨aA,a7 _,Seen.zero p⟩ ?_;rintro⟨k,S⟩ e w2 ⟨aB,hk,hI⟩;dsimp only at aB hk hI|-;refine bL O (aR _ O (fun h1=>?_) (fun h1=>?_))
 ·refine aE O (ajh (aB.gW hR).2 O O O (by omega) h1 (bk (aB.gW hR) O (ar O (aL (zT _ _ _ _) O ?_))));rintro _ _ ⟨rfl,rfl⟩;refine dQ O (aL (sL _ _ _ _) O ?_);rintro _ _ ⟨rfl,rfl⟩
  first | refine eA rfl rfl ?_ | refine eU rfl rfl ?_
  refine ar O (dp 24 O (fun h2=>?_) (fun h2=>?_))
  ·refine aQ O (aQ O (aQ O (aQ O (aI O ?_))));refine Cd.jE O (eT O (gx (fV ?_)));refine dK O ?_;exact⟨by rw [dE (hI.bad (by omega) (by omega))],aB.none⟩
  refine ax O (ar O (ax O (ar O (ax O ?_))));refine aM (aB.jG 0 O).2 O (ax O (rS (aB.jG 0 O) O (by omega) O O (aI O ?_)));refine Cd.cond O (fun h3=>?_) (fun h3=>?_)
  ·refine eT O (gx (fV ?_));refine dK O ?_;exact⟨by rw [dE (hI.ag0 (by omega) (by omega) h3)],aB.none⟩
  refine aE O (aM (aB.jG 0 O).2 O (tK 0 aB O O O (by omega) ?_));intro w3 aH;refine ar O (aK O (aU O (tQ ?_)));exact⟨(k+1,S.set (gi p k).toNat true),by show p.length - (k+1)<p.length - k;omega,(ajs O),aH,by show k+1<=_;omega,hI.step (by omega) (by omega) h3⟩
 refine bw O (bz (gE O ?_));refine dK O ?_;exact⟨by rw [eM (hI.done (by omega) (by omega))],aB.none⟩
def sO(p:ai):Prop:=∀i:Nat,i<p.length->gi p i≠i/\gi p (gi p i)=i
instance (p:ai):Decidable (sO p):=by unfold sO;exact inferInstance
theorem ma.range(h:ma p){i:Int}(h0:0<=i)(h1:i<p.length):0<=gi p i/\gi p i<p.length:=by
 have e:gi p i=p[i.toNat]'(by omega):=by simp [gi,cN,fS (show i.toNat<p.length by omega)]
 rw [e];exact h.2.1 _ (dB _)
theorem ab7(A:aj)(n c:Nat)(p:ai)(w:aa)(hR:cn w A n p):aG prog 126 [.slice A n c] w (fun v w'=>v= .bool (decide (ma p/\sO p))/\St w w' []):=by
 have hl:=hR.1;subst hl;refine bA func126 O ntmps126 O (cJ O) (a8 O (aL (acd _ _ _ _ _ hR) O ?_));rintro _ w1 ⟨rfl,aA⟩
 first | refine eA rfl rfl ?_ | refine eU rfl rfl ?_
 refine aI O (aR _ O (fun hp=>?_) (fun hp=>?_))
 ·refine eT O (dK O ?_);exact⟨by rw [dE (fun h=>hp h.1)],aA⟩
 have hp:=iy.1 hp;have Ec:=hp.1;refine aE O (bc O O (aI O ?_));refine Cd.loop (α:=Nat) (fun k=> [(0,.slice A p.length c),(8,.slice A p.length c),(9,ak (p.length:Int)),(10,ak k)]) (fun k w'=>St w w' []/\k<=p.length/\∀i,i<k->gi p i≠i/\gi p (gi p i)=i) (fun k=>p.length - k) 0 (ajs O) ⟨aA,a7 _,fun i hi=>by omega⟩ ?_;rintro k e w2 ⟨aB,hk,hI⟩;refine bL O (aR _ O (fun h1=>?_) (fun h1=>?_))
 ·have hr:=hp.range (i:=k) (by omega) h1;have hA:=aB.gW hR;refine aE O (ajh hA.2 O O O (by omega) h1 (bk hA O (ar O ?_)));refine dp 18 O (fun h2=>?_) (fun h2=>?_)
  ·refine aQ O (aQ O (aQ O (aQ O (aQ O (aQ O (aI O ?_))))));refine Cd.jE O (eT O (gx (fV ?_)));refine dK O ?_;exact⟨by rw [dE (fun hf:ma p/\sO p=> (hf.2 k (by omega)).1 h2)],aB⟩
  refine ax O (ar O (ax O (ar O (ax O ?_))));refine aM hA.2 O (ax O (bk hA O ?_));refine ax O (ar O (ax O (aI O ?_)));refine aR _ O (fun h3=>?_) (fun h3=>?_)
  ·refine eT O (gx (fV ?_));refine dK O ?_;exact⟨by rw [dE (fun hf:ma p/\sO p=>h3 (hf.2 k (by omega)).2)],aB⟩
  refine aE O (aK O (aU O (tQ ?_)));refine⟨k+1,by omega,(ajs O),aB,by omega,fun i hi=>?_⟩
  by_cases e:i=k
  ·subst e;exact⟨h2,iy.1 h3⟩
  exact hI i (by omega)
 refine bw O (bz (gE O ?_));refine dK O ?_;exact⟨by rw [eM (show ma p/\sO p from⟨hp,fun i hi=>hI i (by omega)⟩)],aB⟩
theorem zM(A Am:aj)(n c:Nat)(f:Nat->ad)(w:aa)(hR:Rd w A 1 f)(hf:f 0= .slice Am n c):aG prog 124 [.pointer A] w (fun v w'=>v=ak n/\w'=w):=by
 refine bA func124 O ntmps124 O (cJ O) (a8 O ?_);refine lq hR (by decide) O O (aX hR O (ajn hR O O hf O O (aL (EX _ _ _ _) O ?_)));rintro _ _ ⟨rfl,rfl⟩;refine bM O (gY O ?_);exact⟨O,O⟩
theorem sY(A Am:aj)(n c:Nat)(rs:List aN)(xss:ah)(f:Nat->ad)(w:aa)(hR:Rd w A 1 f)(hf:f 0= .slice Am n c)(hM:br w Am n rs xss)(hn:0<n):aG prog 125 [.pointer A] w (fun v w'=>v=ak ((rg rs 0).n:Int)/\w'=w):=by
 refine bA func125 O ntmps125 O (cJ O) (a8 O ?_);refine lq hR (by decide) O O (aX hR O (ajn hR O O hf O O (aM hM.top.2 O (dI hM.top O (aL (zT _ _ _ _) O ?_)))));rintro _ _ ⟨rfl,rfl⟩;refine bM O (gY O ?_);exact⟨O,O⟩
end
section
variable{N i:Nat}{p b:ai}{x y z pt:Int}
theorem HC:∀(n:Nat) (l:List Nat),l.Nodup->(∀x∈l,x<n)->l.length<=n
 | 0,l,_,h=>by
  cases l with
  | nil=>simp
  | cons a l=>exact absurd (h a (by simp)) (by omega)
 | n+1,l,hn,h=>by
  have h1:=HC n (l.erase n) (hn.erase n) (fun x hx=>by
   have h2:=(hn.mem_erase_iff).1 hx;have:=h x h2.2;omega)
  have:=List.length_erase_le (a:=n) (l:=l);rw [List.length_erase]at h1
  split at h1<;>omega
theorem pL{l:ai}(hn:l.Nodup)(h:∀x∈l,0<=x/\x<N):l.length<=N:=by
 have:=HC N (l.map Int.toNat) (by
  rw [List.nodup_iff_pairwise_ne,kM];refine List.Pairwise.imp_of_mem ?_ hn;intro a b ha hb dN e;have:=h a ha;have:=h b hb;omega) (fun x hx=>by
  obtain⟨y,hy,rfl⟩:=db.1 hx;have:=h y hy;omega)
 simpa using this
def Sys(N:Nat)(xss:ah):Prop:=∀p∈xss,p.length=N/\∀x:Int,0<=x->x<N->0<=gi p x/\gi p x<N
inductive Reach(xss:ah)(x:Int):Int->Prop where
 | refl:Reach xss x x
 | step {y:Int} {p:ai}:Reach xss x y->p∈xss->Reach xss x (gi p y)
theorem Reach.trans{xss:ah}(h:Reach xss x y)(h':Reach xss y z):Reach xss x z:=by
 induction h' with
 | refl=>exact h
 | step _ hp ih=>exact .step ih hp
def jn(out:ai)(y:Int):ai:=if y∈out then out else out++ [y]
def expand(xss:ah)(x:Int)(out:ai):ai:=xss.foldl (fun o p=>jn o (gi p x)) out
def nA(xss:ah):Nat->Nat->ai->ai
 | 0,_,out=>out
 | f+1,i,out=>if i<out.length then nA xss f (i+1) (expand xss (gi out i) out)else out
def b8(N:Nat)(xss:ah)(pt:Int):ai:=nA xss (N+1) 0 [pt]
theorem HL{out:ai}:z∈jn out y↔z∈out\/z=y:=by
 unfold jn
 split
 ·constructor
  ·exact Or.inl
  rintro(h | rfl)
  ·exact h
  assumption
 simp
theorem afo{out:ai}(h:out.Nodup):(jn out y).Nodup:=by
 unfold jn
 split
 ·exact h
 rename_i hy;rw [List.nodup_append];refine⟨h,by simp,fun a ha b hb=>?_⟩;simp at hb;subst hb;rintro rfl;exact hy ha
theorem L2(out:ai)(y:Int):out<+:jn out y:=by
 unfold jn
 split
 ·exact List.prefix_rfl
 exact List.prefix_append _ _
structure Good(N:Nat)(xss:ah)(pt:Int)(out:ai):Prop where
 nodup:out.Nodup
 range:∀x∈out,0<=x/\x< (N:Int)
 reach:∀x∈out,Reach xss pt x
theorem Good.push{xss:ah}{out:ai}(h:Good N xss pt out)(hs:Sys N xss)(hx:x∈out)(hp:p∈xss):Good N xss pt (jn out (gi p x)):=
 ⟨afo h.nodup,fun z hz=>by
  rcases HL.1 hz with hz | rfl
  ·exact h.range z hz
  ·exact(hs p hp).2 x (h.range x hx).1 (h.range x hx).2,fun z hz=>by
  rcases HL.1 hz with hz | rfl
  ·exact h.reach z hz
  exact .step (h.reach x hx) hp⟩
theorem Good.len{xss:ah}{out:ai}(h:Good N xss pt out):out.length<=N:=pL h.nodup h.range
theorem foldl_push{N:Nat}{xss:ah}{pt:Int}(hs:Sys N xss){x:Int}:∀(ps:ah) (out:ai),(∀p∈ps,p∈xss)->Good N xss pt out->x∈out->
 Good N xss pt (ps.foldl (fun o p=>jn o (gi p x)) out)/\out<+:ps.foldl (fun o p=>jn o (gi p x)) out/\∀p∈ps,gi p x∈ps.foldl (fun o p=>jn o (gi p x)) out
 | [],out,_,h,_=> ⟨h,List.prefix_rfl,fun p hp=>by cases hp⟩
 | q::ps,out,Q1,h,hx=>by
  have h1:=h.push hs hx (Q1 q (by simp));have nQ:=L2 out (gi q x);obtain⟨g1,g2,g3⟩:=foldl_push hs ps (jn out (gi q x)) (fun p hp=>Q1 p (by simp [hp])) h1 (nQ.subset hx);refine⟨g1,nQ.trans g2,fun p hp=>?_⟩;rcases jq.1 hp with rfl | hp
  ·exact g2.subset (HL.2 (Or.inr O))
  ·exact g3 p hp
theorem gi_in{out:ai}(h:i<out.length):gi out i∈out:=by rw [bO h];exact dB h
theorem yL{a:ai}(h:a<+:b)(hi:i<a.length):gi b i=gi a i:=by
 rw [bO hi,bO (Nat.lt_of_lt_of_le hi h.length_le)];obtain⟨t,rfl⟩:=h;rw [List.getElem_append_left hi]
theorem Nw{N:Nat}{xss:ah}{pt:Int}(hs:Sys N xss):∀(f i:Nat) (out:ai),Good N xss pt out->N<f+i->(∀j,j<i->j<out.length->∀p∈xss,gi p (gi out j)∈out)->
 Good N xss pt (nA xss f i out)/\out<+:nA xss f i out/\∀x∈nA xss f i out,∀p∈xss,gi p x∈nA xss f i out
 | 0,i,out,h,hf,hc=>by
  simp only [nA];refine⟨h,List.prefix_rfl,fun x hx p hp=>?_⟩;obtain⟨j,hj,rfl⟩:=fJ.1 hx;have:=h.len;have:=hc j (by omega) hj p hp;rw [bO hj]at this;exact this
 | f+1,i,out,h,hf,hc=>by
  simp only [nA]
  split
  ·rename_i hi;obtain⟨g1,g2,g3⟩:=foldl_push hs xss out (fun p hp=>hp) h (gi_in hi);replace g2:out<+:expand xss (gi out i) out:=g2;obtain⟨k1,k2,k3⟩:=Nw hs f (i+1) (expand xss (gi out i) out) g1 (by omega) (fun j hj lR p hp=>by
    by_cases rn:j=i
    ·subst rn;show gi p (gi (expand xss _ out) _)∈expand xss _ out;rw [yL g2 hi];exact g3 p hp
    ·have QD:j<out.length:=by omega
     show gi p (gi (expand xss _ out) _)∈expand xss _ out;rw [yL g2 QD];exact g2.subset (hc j (by omega) QD p hp))
   exact⟨k1,g2.trans k2,k3⟩
  ·rename_i hi;refine⟨h,List.prefix_rfl,fun x hx p hp=>?_⟩;obtain⟨j,hj,rfl⟩:=fJ.1 hx;have:=hc j (by omega) hj p hp;rw [bO hj]at this;exact this
theorem Gd{xss:ah}(h0:0<=pt)(h1:pt<N):Good N xss pt [pt]:=
 ⟨by simp,fun x hx=>by simp at hx;subst hx;exact⟨h0,h1⟩,fun x hx=>by simp at hx;subst hx;exact .refl⟩
theorem sD{xss:ah}(hs:Sys N xss)(h0:0<=pt)(h1:pt<N):
 Good N xss pt (b8 N xss pt)/\ [pt]<+:b8 N xss pt/\∀x,x∈b8 N xss pt↔Reach xss pt x:=by
 obtain⟨g1,g2,g3⟩:=Nw (N:=N) hs (N+1) 0 [pt] (Gd h0 h1) (by omega) (fun j hj=>by omega);refine⟨g1,g2,fun x=> ⟨g1.reach x,fun hr=>?_⟩⟩
 induction hr with
 | refl=>exact g2.subset (by simp)
 | step _ hp ih=>exact g3 _ ih _ hp
end
section
open Go.RowKit
section
variable{t:ae}{z z0:ad}{b c0 c':Nat}
variable {P:Program} {N:Nat} {ops:Array Oper} {K:Env->aa->Prop} {rest:List Oper} {e:Env} {w0 w w':aa} {ks:List Ck} {d:Nat} {ty:ae} {pos:String} {af:Array Edge}
theorem eH{el:ae}[bJ P t (.slice el)][bF P el z 1 b]{x0:ag}{i:Int}(hS:St w0 w ks)(h0:ev e x0=ak i)(hz:z.cells= #[z])(hb:Nat.blt d N=true)(hK:∀A w',St w0 w' (az el A 1 1 [i]::ks)->ao P N ops K rest (bq e d (.slice A 1 1)) w'):ao P N ops K (⟨some d,.buildSlice t 1 #[(0,x0)],ty,pos,af,none⟩::rest) e w:=
 .IY hS h0 rfl hz hb hK
theorem kO{el:ae}[bJ P t (.slice el)][bF P el z 1 b]{x0:ag}{A0:aj}{n0:Nat}(hS:St w0 w ks)(h0:ev e x0= .slice A0 n0 c0)(hz:z.cells= #[z])(hb:Nat.blt d N=true)(hK:∀A w',St w0 w' (cd el A 1 1 [⟨A0,n0,c0⟩]::ks)->ao P N ops K rest (bq e d (.slice A 1 1)) w'):ao P N ops K (⟨some d,.buildSlice t 1 #[(0,x0)],ty,pos,af,none⟩::rest) e w:=
 .IY hS h0 rfl hz hb hK
theorem adO{ys:ai}{m:Nat}(h:ys.length=m):(List.range m).map (fun j=>Value.int .i64 (ys.getD j 0))=ys.map (ak):=by
 subst h;apply jo
 ·simp
 intro i h1 h2;simp [cN,fS (show i<ys.length by simpa using h1)]
theorem adP{ys:List aN}{m:Nat}(h:ys.length=m):(List.range m).map (fun j=> (ys.getD j ew).v)=ys.map aN.v:=by
 subst h;apply jo
 ·simp
 intro i h1 h2;simp [cN,fS (show i<ys.length by simpa using h1)]
theorem ajq{el:ae}[hU:bJ P t (.slice el)][bF P el z 1 b]{x y:ag}(i:Nat){A:aj}{n c:Nat}{xs:ai}{A':aj}{m:Nat}{ys:ai}(hS:St w0 w ks)(hk:ks[i]?=some (az el A n c xs))(hR:cn w A' m ys)(hx:ev e x= .slice A n c)(hy:ev e y= .slice A' m c')(hz:z.cells= #[z])(tX:n+m<=9223372036854775807)(sg:(n+m)*b<=140737488355328)(hb:Nat.blt d N=true)(hK:∀A2 c2 w',St w0 w' (ks.set i (az el A2 (n+m) c2 (xs++ys)))->ao P N ops K rest (bq e d (.slice A2 (n+m) c2)) w'):
 ao P N ops K (⟨some d,.call ⟨.builtin .append, #[x,y], #[t,t]⟩,ty,pos,af,none⟩::rest) e w:=
 .app i hS hk hR.2 hx hy rfl hz (fun _ _=>rfl) (by simpa [maxLen]using tX) sg hb fun A2 c2 w' h=>hK A2 c2 w' (by
  rw [adO hR.1]at h;simpa [az]using h)
theorem fN{el:ae}[hU:bJ P t (.slice el)][bF P el z 1 b]{x y:ag}(i:Nat){A:aj}{n c:Nat}{xs:ai}{A':aj}{m:Nat}{ys:ai}(hS:St w0 w ks)(hk:ks[i]?=some (az el A n c xs))(hR:cn w A' m ys)(hx:ev e x= .slice A n c)(hy:ev e y= .slice A' m c')(q9:(z.cells,Nat.blt d N)=(#[z],true))(hK:∀A2 c2 w',St w0 w' (ks.set i (az el A2 (n+m) c2 (xs++ys)))->ao P N ops K rest (bq e d (.slice A2 (n+m) c2)) w')(tX:n+m<=9223372036854775807:=by omega)(sg:(n+m)*b<=140737488355328:=by omega):ao P N ops K (⟨some d,.call ⟨.builtin .append, #[x,y], #[t,t]⟩,ty,pos,af,none⟩::rest) e w:=ajq i hS hk hR hx hy (congrArg (fun p=>p.1) q9) tX sg (congrArg (fun p=>p.2) q9) hK
theorem mJ{el:ae}[hU:bJ P t (.slice el)][bF P el z 1 b]{x y:ag}(i:Nat){A:aj}{n c:Nat}{xs:List aN}{A':aj}{m:Nat}{ys:List aN}(hS:St w0 w ks)(hk:ks[i]?=some (cd el A n c xs))(hR:lQ w A' m ys)(hx:ev e x= .slice A n c)(hy:ev e y= .slice A' m c')(hz:z.cells= #[z0])(tX:n+m<=9223372036854775807)(sg:(n+m)*b<=140737488355328)(hb:Nat.blt d N=true)(hK:∀A2 c2 w',St w0 w' (ks.set i (cd el A2 (n+m) c2 (xs++ys)))->ao P N ops K rest (bq e d (.slice A2 (n+m) c2)) w'):
 ao P N ops K (⟨some d,.call ⟨.builtin .append, #[x,y], #[t,t]⟩,ty,pos,af,none⟩::rest) e w:=
 .app i hS hk hR.2 hx hy rfl hz (fun _ _=>rfl) (by simpa [maxLen]using tX) sg hb fun A2 c2 w' h=>hK A2 c2 w' (by
  rw [adP hR.1]at h;simpa [cd]using h)
end
def tI(M:Nat)(S:List Bool)(out:ai):Prop:=S.length=M/\∀x:Int,0<=x->x<M->(gb S x=true↔x∈out)
theorem tI.init{M:Nat}{pt:Int}(h0:0<=pt)(h1:pt<M):tI M ((List.replicate M false).set pt.toNat true) [pt]:=by
 refine⟨by simp,fun x hx dH=>?_⟩;rw [Dw h0 (by simpa using h1) hx]
 by_cases e:pt=x
 ·simp [e]
 rw [aw e];have:x≠pt:=fun h=>e h.symm
 simp [gb,cN,List.getElem?_replicate,this]
 split<;>simp
theorem tI.push{M:Nat}{S:List Bool}{out:ai}{y:Int}(h:tI M S out)(h0:0<=y)(h1:y<M):tI M (S.set y.toNat true) (out++ [y]):=by
 refine⟨by simpa using h.1,fun x hx dH=>?_⟩;rw [Dw h0 (by rw [h.1];exact h1) hx,jz]
 by_cases e:y=x
 ·simp [e]
 rw [aw e,h.2 x hx dH];have:x≠y:=fun h=>e h.symm
 simp [this]
theorem Nv{xss:ah}{f i:Nat}{out:ai}(h:¬i<out.length):nA xss f i out=out:=by
 cases f with
 | zero=>rfl
 | succ f=>simp only [nA];rw [aw h]
theorem br.oG{w:aa}{A:aj}{n:Nat}{rs:List aN}{xss:ah}(h:br w A n rs xss){k:Int}(h0:0<=k)(h1:k<n):(gl xss k).length=(rg rs k).n:=(h.at_ h0 h1).1
theorem tW{xss:ah}{k:Int}(h0:0<=k)(h:k<xss.length):gl xss k∈xss:=by
 obtain⟨j,rfl⟩:∃j:Nat,k=j:=⟨k.toNat,by omega⟩;rw [bP (by omega)];exact dB _
theorem acO(A:aj)(n c:Nat)(rs:List aN)(xss:ah)(N:Nat)(pt:Int)(w:aa)(hR:br w A n rs xss)(hn:n<=9223372036854775807)(hs:Sys N xss)(hN:N<=1000000000)(h0:0<=pt)(h1:pt<N):
 aG prog 217 [.slice A n c,ak pt] w (fun v w'=>∃A' c',v= .slice A' (b8 N xss pt).length c'/\St w w' [az 2 A' (b8 N xss pt).length c' (b8 N xss pt)]):=by
 have bU:∀k:Int,0<=k->k<n->(rg rs k).n=N:=fun k rq hk=>by
  rw [<-hR.oG rq hk];exact(hs _ (tW rq (by rw [hR.len];exact hk))).1
 refine bA func217 O ntmps217 O (cJ O) (a8 O (eH (St.refl w) O O O ?_));intro A1 w1 aA;refine CS 2 O (tG (α:=Nat) (fun s=> [(0,.slice A n c),(1,ak pt),(5,.slice A1 1 1),(6,ak s)]) (fun s w'=>w'=w1/\s<=N/\(0<n->s=N)) ?_ ?_)
 ·refine a8 O (bc O O (aI O ?_));refine aR _ O (fun h2=>?_) (fun h2=>?_)
  ·refine aE O (aM (aA.LW hR.top).2 O (dI (aA.LW hR.top) O ?_));refine bc O O (aU O (tQ ?_));exact⟨N,⟨O,O,O,by rw [bU 0 (by omega) (by omega)];rfl,av⟩,O,bj _,fun _=>O⟩
  refine oc O (tQ ?_);exact⟨0,(ajs O),O,a7 _,fun h=>by omega⟩
 rintro s e1 w2 ⟨rfl,hsN,o9⟩;have o6:n=0->N=N:=fun _=>O
 refine aE O (aK O (aK O ?_));refine yx (s+pt.toNat+1) aA (by show Value.int .i64 _=Value.int .i64 _;congr 1;omega) O (by omega) ?_;intro A2 w3 aH;refine ar O (aM (aH.jG 0 O).2 O (tK 0 aH O O O (by omega) ?_));intro w4 aV;refine aI O (Cd.loop (α:=Nat×ai×aj×Nat×List Bool) (fun q=> [(0,.slice A n c),(5,.slice q.2.2.1 q.2.1.length q.2.2.2.1),(7,.slice A2 (s+pt.toNat+1) (s+pt.toNat+1)),(8,ak (q.1:Int))]) (fun q w'=>St w w' [gu 4 A2 (s+pt.toNat+1) (s+pt.toNat+1) q.2.2.2.2,az 2 q.2.2.1 q.2.1.length q.2.2.2.1 q.2.1]/\q.1<=q.2.1.length/\Good N xss pt q.2.1/\tI (s+pt.toNat+1) q.2.2.2.2 q.2.1/\nA xss (N+1 - q.1) q.1 q.2.1=b8 N xss pt) (fun q=>N+1 - q.1) (0,[pt],A1,1,(List.replicate (s+pt.toNat+1) false).set pt.toNat true) (ajs O) ⟨aV,a7 _,Gd h0 h1,tI.init h0 (by omega),O⟩ ?_);rintro⟨i,out,Ao,co,S⟩ e2 w5 ⟨aW,hi,hg,hm,hb⟩;dsimp only at aW hi hg hm hb|-;have hlen:=hg.len;refine a8 O (bc O O (aI O ?_));refine aR _ O (fun h2=>?_) (fun h2=>?_)
 ·refine dA O (Cd.loop (α:=Nat×ai×aj×Nat×List Bool) (fun q=> [(0,.slice A n c),(5,.slice q.2.2.1 q.2.1.length q.2.2.2.1),(7,.slice A2 (s+pt.toNat+1) (s+pt.toNat+1)),(8,ak i),(9,ak (q.1:Int))]) (fun q w'=>St w w' [gu 4 A2 (s+pt.toNat+1) (s+pt.toNat+1) q.2.2.2.2,az 2 q.2.2.1 q.2.1.length q.2.2.2.1 q.2.1]/\q.1<=n/\Good N xss pt q.2.1/\tI (s+pt.toNat+1) q.2.2.2.2 q.2.1/\out<+:q.2.1/\(xss.drop q.1).foldl (fun o p=>jn o (gi p (gi out i))) q.2.1=expand xss (gi out i) out) (fun q=>n - q.1) (0,out,Ao,co,S) (ajs O) ⟨aW,a7 _,hg,hm,List.prefix_rfl,O⟩ ?_);rintro⟨k,ie,yq,Ba,S'⟩ e3 w6 ⟨ba,hk,mX,iO,na,hf⟩;dsimp only at ba hk mX iO na hf|-;have we:=mX.len;refine a8 O (bc O O (aI O ?_));refine aR _ O (fun h3=>?_) (fun h3=>?_)
  ·have GR:i<ie.length:=by have:=na.length_le;omega
   have D0:gi ie i=gi out i:=yL na (by omega);have fY:=hg.range _ (gi_in (i:=i) (by omega));have jQ:gl xss k∈xss:=tW (by omega) (by rw [hR.len];omega);have hy:=(hs _ jQ).2 (gi out i) fY.1 fY.2;have jw:=bU k (by omega) (by omega);have hsN:s=N:=o9 (by omega);have hT:=(ba.bY hR);have hO:=ba.bI 1 O;have cT:=hT.at_ (i:=k) (by omega) (by omega);refine dA O ?_;refine eY [xS (A) (n) (c),xI ((k:Int)),xP (aJ (A) ((k:Int)).toNat),xS ((rg (rs) ((k:Int))).a) ((rg (rs) ((k:Int))).n) ((rg (rs) ((k:Int))).c),xS (yq) (ie.length) (Ba),xI ((i:Int)),xP (aJ (yq) ((i:Int)).toNat),xI (gi (ie) ((i:Int))),xP (aJ ((rg (rs) ((k:Int))).a) (gi (ie) ((i:Int))).toNat),xI (gi (gl xss k) (gi (ie) ((i:Int)))),xI (gi (gl xss k) (gi (ie) ((i:Int))))] O (fE O) ?_ ?_
   ·exact⟨Dr O,Dr O,fun _ _ hb _ _=>aM (hT.top.aq hb).2 O Az,fun _ _ hb _ _=>dI (hT.top.aq hb) O Az,Dr O,Dr O,fun _ _ hb _ _=>aM (hO.aq hb).2 O Az,fun _ _ hb _ _=>bk (hO.aq hb) O Az,fun _ _ hb _ _=>ajh (cT.aq hb).2 O O O (by rw [D0];omega) (by rw [D0,jw];omega) Az,fun _ _ hb _ _=>bk (cT.aq hb) O Az,Dr O,av⟩
   intro u w7 xC _;have bG:=ba.aq xC;rw [D0];have wa:(xss.drop (k+1)).foldl (fun o p=>jn o (gi p (gi out i))) (jn ie (gi (gl xss k) (gi out i)))=expand xss (gi out i) out:=by
    rw [<-hf,List.drop_eq_getElem_cons (show k<xss.length by rw [hR.len];omega),List.foldl_cons,bP (by rw [hR.len];omega)]
   refine kc O (aM (bG.jG 0 O).2 O (rS (bG.jG 0 O) O (by omega) O O ?_))
   first | refine eA rfl rfl ?_ | refine eU rfl rfl ?_
   refine aI O (Cd.cond O (fun h4=>?_) (fun h4=>?_))
   ·have KP:¬gi (gl xss k) (gi out i)∈ie:=fun bW=>by
     have:=(iO.2 _ hy.1 (by omega)).2 bW;rw [this]at h4;cases h4
    have zq:jn ie (gi (gl xss k) (gi out i))=ie++ [gi (gl xss k) (gi out i)]:=by unfold jn;rw [if_neg KP]
    have wb:=mX.push hs (na.subset (gi_in (i:=i) (by omega))) jQ;have Ed:=na.trans (L2 ie (gi (gl xss k) (gi out i)));rw [zq]at wa wb Ed;have KL:=wb.len;simp only [cS,List.length_singleton]at KL;refine aE O (aM (bG.jG 0 O).2 O (tK 0 bG O O O (by omega) ?_));intro w8 bS;refine ar O (eH bS O O O ?_);intro A3 w9 bH;refine fN 2 bH O (bH.bI 0 O) O O O fun A4 c4 eL bQ=>ar O (aK O (aU O (tQ ?_)));refine⟨(k+1,ie++ [gi (gl xss k) (gi out i)],A4,c4,S'.set (gi (gl xss k) (gi out i)).toNat true),by show n - (k+1)<n - k;omega,⟨O,by rw [cS];rfl,O,O,O,av⟩,?_,by show k+1<=n;omega,wb,iO.push hy.1 (by omega),Ed,wa⟩;have p5:=bQ.tail;simp only [cS,List.length_singleton];exact p5
   have bW:gi (gl xss k) (gi out i)∈ie:=(iO.2 _ hy.1 (by omega)).1 (by simpa using h4);have zq:jn ie (gi (gl xss k) (gi out i))=ie:=by unfold jn;rw [if_pos bW]
   rw [zq]at wa;refine aE O (aK O (aU O (tQ ?_)));exact⟨(k+1,ie,yq,Ba,S'),by show n - (k+1)<n - k;omega,(ajs O),bG,by show k+1<=n;omega,mX,iO,na,wa⟩
  refine bw O (bz (dh O (aK O (aU O (tQ ?_)))));have eN:k=n:=by omega
  rw [eN,<-hR.len,List.drop_length,List.foldl_nil]at hf;refine⟨(i+1,ie,yq,Ba,S'),by show N+1 - (i+1)<N+1 - i;omega,(ajs O),ba,?_,mX,iO,?_⟩
  ·have:=na.length_le;show i+1<=ie.length;omega
  show nA xss (N+1 - (i+1)) (i+1) ie=b8 N xss pt;rw [<-hb,hf];have e:N+1 - i=(N+1 - (i+1))+1:=by omega
  rw [e];simp only [nA];rw [ay (by omega)]
 refine bw O (bz (gE O ?_));refine gD O ?_;rw [Nv (by omega)]at hb;exact⟨Ao,co,by rw [hb],by rw [<-hb];exact aW.tail⟩
section
variable {P:Program} {N:Nat} {e:Env} {w:aa}
end
section
variable{t t':ae}
variable {P:Program} {N:Nat} {ops:Array Oper} {K:Env->aa->Prop} {rest:List Oper} {e:Env} {w0 w w':aa} {ks:List Ck} {d:Nat} {ty:ae} {pos:String} {af:Array Edge}
theorem CO{Q:jB}{c:ag}{x y:Code}{p:Prop}[Decidable p](hc:ev e c= .bool (decide p))(hp:p)(h1:Cd P N x Q e w):Cd P N (.cond c x y) Q e w:= .jE (by rw [hc,eM hp]) h1
theorem mD{Q:jB}{c:ag}{x y:Code}{p:Prop}[Decidable p](hc:ev e c= .bool (decide p))(hp:¬p)(h1:Cd P N y Q e w):Cd P N (.cond c x y) Q e w:= .gh (by rw [hc,dE hp]) h1
theorem NS(A:aj)(c:Nat):cutAt A c 0=A:=by
 unfold cutAt
 split
 ·rfl
 cases A<;>simp [aJ,Addr.add]
theorem ab8{vs fs:List ad}{l q:Nat}(hM:eG vs=false)(h1:∀u∈fs,u.oneCell'=true)(hq:l=0->fs≠[]:=by first | assumption | (intro _ hn;have:=aO List.length hn;simp at this;omega)):eG (vs.take l++fs++vs.drop q)=false:=by
 by_cases hl:l=0
 ·subst hl;rw [List.take_zero,List.nil_append];exact Et (wv h1) (hq O)
 ·cases vs with
  | nil=>simp only [List.take_nil,List.drop_nil,List.nil_append,fM];exact wv h1
  | cons v r=>
   obtain⟨m,rfl⟩:∃m,l=m+1:=⟨l - 1,by omega⟩;cases v<;>simp_all [eG]
theorem af7{el:ae}{z:ad}{b:Nat}[hU:bJ P t (.slice el)][bF P el z 1 b]{k:Ck}(i l:Nat)(hS:St w0 w ks)(hk:ks[i]?=some k)(hM:eG k.vs=false)(hl:l<=k.n){A':aj}{m dc c':Nat}{f:Nat->ad}(hR:Rd w A' m f)(h1:∀j,j<m->(f j).oneCell'=true)(ty:ae)(q:Nat)(hq:q=min m (k.n - l)):
 ∃w',(Builtin.copy_ #[t,t'] ty #[.slice (cutAt k.A k.c l) (k.n - l) dc,.slice A' m c']).run P w= .ok (ak q) w'/\St w0 w' (ks.set i { k with vs:=k.vs.take l++ (List.range q).map f++k.vs.drop (l+q) }):=by
 obtain⟨inf,hi,fH,hs,iW⟩:=bF.get P el;have Eb:=hS.pY hk hM;obtain⟨Hj,mZ,mV,h4⟩:=Eb;have ze:=(gS.1 hk).1;have uo:(P.info? el).map (·.size)=some 1:=by simp [hi,hs]
 by_cases KY:q=0
 ·have hr:=run_copy_none (P:=P) w t t' ty el (cutAt k.A k.c l) A' (k.n - l) dc m c' hU.out uo (by show min m (k.n - l)=0;omega);refine⟨w,by rw [hr,KY];rfl,?_⟩;have h5:({ k with vs:=k.vs.take l++ (List.range q).map f++k.vs.drop (l+q) }:Ck)=k:=by subst KY;simp [List.take_append_drop]
  have:ks.set i { k with vs:=k.vs.take l++ (List.range q).map f++k.vs.drop (l+q) }=ks:=by
   rw [h5];apply List.ext_getElem?;intro j;rw [mG]
   split
   ·rename_i e;subst e;rw [hk]
    try simp [ze]
   rfl
  rw [this];exact hS
 obtain⟨a,rfl⟩:∃a,A'=some a:=by
  obtain⟨p,hp,_⟩:=hR 0 (by omega);cases A' with | none=>simp [aJ]at hp | some q=>exact⟨q,rfl⟩
 rcases h4 with⟨hA,h0⟩ | ⟨g,o,cur,hA,hg,hh,mw,hc⟩
 ·omega
 have hD:cutAt k.A k.c l=some ⟨g,o+l,none⟩:=by
  unfold cutAt;rw [aw (by omega),hA];simp [aJ,An]
 have ji:((List.range q).map f).length=q:=by simp
 have wi:∀j v,((List.range q).map f)[j]?=some v->w.cell? (a.add j)=some v:=by
  intro j v hj;have ve:j<q:=by have:=(gS.1 hj).1;simpa using this
  obtain⟨p,hp,hc⟩:=hR j (by omega);simp only [aJ,Option.map_some,oO]at hp;rw [hp,hc,<-hj];simp [ve]
 have vO:∀u∈(List.range q).map f,u.oneCell'=true:=by
  intro u hu;obtain⟨j,hj,rfl⟩:=db.1 hu;have KD:j<q:=by simpa using hj
  exact h1 j (by omega)
 have hr:=run_copy_row (P:=P) w t t' ty el g (o+l) (k.n - l) dc a m c' cur k.e ((List.range q).map f) hU.out uo hh (by rw [ji,hq]) wi (by rw [ji];omega) vO;rw [ji]at hr;rw [hD];refine⟨w.setRow g (cur.toList.take (o+l)++ (List.range q).map f++cur.toList.drop (o+l+q)).toArray,hr,hS.turn (k:=k) (k':= { k with vs:=k.vs.take l++ (List.range q).map f++k.vs.drop (l+q) }) (g:=g) hk (by simp [Ck.ik,hA]) (by simp [Ck.ik,hA]) ⟨⟨O,O,O,by simp,fun x _ hx=>setRow_other w g x _ (fun e=>hx (by rw [e]))⟩,bj _⟩ ?_⟩;refine .qq (ab8 hM vO) ⟨by simp [Hj];omega,mZ,mV,.inr ⟨g,o,_,hA,hg,setRow_heap w g cur _ k.e _ hh,?_,fun j hj=>?_⟩⟩
 ·simp;omega
 have im:j<k.n:=hj;have dt:cur.toList.length=cur.size:=by simp
 show((cur.toList.take (o+l)++ (List.range q).map f++cur.toList.drop (o+l+q)).toArray)[o+j]?=(k.vs.take l++ (List.range q).map f++k.vs.drop (l+q))[j]?;rw [List.getElem?_toArray,jy,jy]
 by_cases lR:j<l
 ·rw [mc (by simp;omega),rL,ay (by omega),mc (by simp;omega),rL,ay lR,Array.getElem?_toList];exact hc j im
 have e1:o+j - (cur.toList.take (o+l)).length=j - l:=by simp;omega
 have e2:j - (k.vs.take l).length=j - l:=by simp;omega
 have e3:(cur.toList.take (o+l)++ ((List.range q).map f++cur.toList.drop (o+l+q)))[o+j]?=((List.range q).map f++cur.toList.drop (o+l+q))[j - l]?:=by
  rw [lM (by simp;omega),e1]
 have e4:(k.vs.take l++ ((List.range q).map f++k.vs.drop (l+q)))[j]?=((List.range q).map f++k.vs.drop (l+q))[j - l]?:=by
  rw [lM (by simp;omega),e2]
 rw [e3,e4]
 by_cases KD:j - l<q
 ·rw [mc (by simpa using KD),mc (by simpa using KD)]
 rw [lM (by rw [ji];omega),lM (by rw [ji];omega),ji,List.getElem?_drop,List.getElem?_drop,Array.getElem?_toList,show o+l+q+ (j - l - q)=o+j by omega,show l+q+ (j - l - q)=j by omega];exact hc j im
theorem MZ{el:ae}{z:ad}{b:Nat}[hU:bJ P t (.slice el)][bF P el z 1 b]{x y:ag}{k:Ck}(i l:Nat){A':aj}{m dc c':Nat}{f:Nat->ad}(q:Nat)(hS:St w0 w ks)(hk:ks[i]?=some k)(hR:Rd w A' m f)(hl:l<=k.n)(hx:ev e x= .slice (cutAt k.A k.c l) (k.n - l) dc)(hy:ev e y= .slice A' m c')(h1:∀j,j<m->(f j).oneCell'=true)(hq:q=min m (k.n - l))(hb:Nat.blt d N=true)(hK:∀w',St w0 w' (ks.set i { k with vs:=k.vs.take l++ (List.range q).map f++k.vs.drop (l+q) })->ao P N ops K rest (bq e d (ak q)) w')(hM:eG k.vs=false:=by first | rfl | exact sA _ | exact Es _ | exact xZ _):
 ao P N ops K (⟨some d,.call ⟨.builtin .copy, #[x,y], #[t,t']⟩,ty,pos,af,none⟩::rest) e w:=by
 obtain⟨w',hr,nI⟩:=af7 (P:=P) (t:=t) (t':=t') (dc:=dc) (c':=c') i l hS hk hM hl hR h1 ty q hq;refine .val (w':=w') ?_ hb (hK _ nI);simp [execOp,resolve,invoke,builtin,hx,hy,hr]
theorem Vn{x y:ag}{i j:Int}(hx:ev e x=ak i)(hy:ev e y=ak j)(hb:Nat.blt d N=true)(hK:ao P N ops K rest (bq e d (ak (min i j))) w):
 ao P N ops K (⟨some d,.call ⟨.builtin .min, #[x,y], #[t,t']⟩,ty,pos,af,none⟩::rest) e w:=by
 have hm:(if j<i then j else i)=min i j:=by split<;>omega
 refine .val (w':=w) ?_ hb hK;simp [execOp,resolve,invoke,builtin,hx,hy,Builtin.min_,Builtin.min2,hm]
section
variable {x y:ag} {xt yt:ae} {i j:Int}
theorem vt(i:Int)(h:0<=i/\i<=18446744073709551615):IntKind.u64.wrap i=i:=by rw [IntKind.wrap_u64];omega
theorem Fh(r:Int)(hx:ev e x= .int .u64 i)(hy:ev e y= .int .u64 j)(hb:Nat.blt d N=true)(he:i+j=r)(hr:0<=r/\r<=18446744073709551615)(hK:ao P N ops K rest (bq e d (.int .u64 r)) w):
 ao P N ops K (⟨some d,.binOp .add xt x y yt,ty,pos,af,none⟩::rest) e w:=
 .val (by simp [execOp,hx,hy,eqGuard,binOp,Op.intArith,he,vt _ hr]) hb hK
theorem C1(r:Int)(hx:ev e x= .int .u64 i)(hy:ev e y= .int .u64 j)(hb:Nat.blt d N=true)(he:i*j=r)(hr:0<=r/\r<=18446744073709551615)(hK:ao P N ops K rest (bq e d (.int .u64 r)) w):
 ao P N ops K (⟨some d,.binOp .mul xt x y yt,ty,pos,af,none⟩::rest) e w:=
 .val (by simp [execOp,hx,hy,eqGuard,binOp,Op.intArith,he,vt _ hr]) hb hK
theorem Ip(r:Int)(hx:ev e x= .int .u64 i)(hy:ev e y= .int .u64 4294967295)(hb:Nat.blt d N=true)(hr:0<=i/\i<=18446744073709551615)(he:i%4294967296=r)(hK:ao P N ops K rest (bq e d (.int .u64 r)) w):
 ao P N ops K (⟨some d,.binOp .and xt x y yt,ty,pos,af,none⟩::rest) e w:=by
 subst he;obtain⟨a,rfl⟩:∃a:Nat,i=a:=⟨i.toNat,by omega⟩;have h:=Mul64.maskN a (by omega);rw [show((a%4294967296:Nat):Int)=(a:Int)%4294967296 by omega]at h;refine .val ?_ hb hK;simp only [execOp,hx,hy,eqGuard,binOp,intBits_and,h];simp
theorem C4(r:Int)(hx:ev e x= .int .u64 i)(hy:ev e y= .int .u64 32)(hb:Nat.blt d N=true)(hr:0<=i)(he:i / 4294967296=r)(hK:ao P N ops K rest (bq e d (.int .u64 r)) w):
 ao P N ops K (⟨some d,.binOp .shr xt x y yt,ty,pos,af,none⟩::rest) e w:=by
 subst he;refine .val ?_ hb hK;have e1:min 32 IntKind.u64.bits=32:=by decide
 have e2:i.fdiv (2^32)=i / 4294967296:=by rw [Int.fdiv_eq_ediv_of_nonneg _ (by decide)];rfl
 have Xn:i.fdiv 4294967296=i / 4294967296:=e2;simp [execOp,hx,hy,eqGuard,binOp,Op.shift,e1,Xn]
theorem oN{k k':IntKind}[bJ P yt (.int k')](hx:ev e x= .int k i)(hb:Nat.blt d N=true)(hw:k'.wrap i=i){u:TypeDesc}[bJ P xt u](hK:ao P N ops K rest (bq e d (.int k' i)) w):
 ao P N ops K (⟨some d,.convert xt yt x,ty,pos,af,none⟩::rest) e w:=
 .val (by simp [execOp,hx,convert,run_underlying (bJ.out (P:=P) (t:=xt)),run_underlying (bJ.out (P:=P) (t:=yt)),Conv.intToInt,hw]) hb hK
end
end
def jf(l:List Oper):List Nat:=l.filterMap (·.dst)
theorem Js{α β:Type}(f:α->Option β):∀(l:List α),(l.filterMap f).Nodup->∀(i j:Nat) (a b:α) (d:β),l[i]?=some a->l[j]?=some b->f a=some d->f b=some d->i=j
 | [],_,i,j,a,b,d,hi,_,_,_=>by simp at hi
 | x::l,hn,i,j,a,b,d,hi,hj,ha,hb=>by
  have mem:∀(k:Nat) (c:α),l[k]?=some c->f c=some d->d∈l.filterMap f:=fun k c hk hc=>List.mem_filterMap.2 ⟨c,List.mem_of_getElem? hk,hc⟩
  cases hx:f x with
  | none=>
   rw [List.filterMap_cons,hx]at hn;cases i with
   | zero=>simp at hi;subst hi;rw [hx]at ha;cases ha
   | succ i=>
    cases j with
    | zero=>simp at hj;subst hj;rw [hx]at hb;cases hb
    | succ j=>rw [Js f l hn i j a b d (by simpa using hi) (by simpa using hj) ha hb]
  | some y=>
   rw [List.filterMap_cons,hx]at hn;simp only [nt]at hn;cases i with
   | zero=>
    simp at hi;subst hi;rw [hx]at ha;cases ha;cases j with
    | zero=>rfl
    | succ j=>exact absurd (mem j b (by simpa using hj) hb) hn.1
   | succ i=>
    cases j with
    | zero=>
     simp at hj;subst hj;rw [hx]at hb;cases hb;exact absurd (mem i a (by simpa using hi) ha) hn.1
    | succ j=>rw [Js f l hn.2 i j a b d (by simpa using hi) (by simpa using hj) ha hb]
def valOf(o:Oper)(e:Env):ad:=match o.dst with
 | some d=>e d
 | none=>undef
def RM:Yd->Bool
 | .ex _=>true
 | .pr _=>false
def Hx(l:List Oper)(ms:List Nat)(k:Nat):Nat:=ms.countP fun m=>jt l l.length k m
def BQ(l:List Oper)(ms:List Nat)(k:Nat):Nat:=ms.countP fun m=>!(jt l l.length m k) && !(Nat.beq m k)
def l4(l:List Oper)(ms:List Nat)(k:Nat):Nat:=ms.countP fun m=>Nat.beq m k || jt l l.length k m
def AJ(l:List Oper)(ms:List Nat)(m:Nat):Bool:=ms.all fun m'=>Nat.beq m' m || jt l l.length m m' || jt l l.length m' m
def Yd.at_(c ph:Nat):Yd->ad->aa->Prop
 | .ex v,u,_=>u=v
 | .pr p,u,w=>c=ph->p u w
theorem pK{a b c:Nat}(h:c<=a)(e:a=b):c<=b:=e▸h
theorem cc_of{a b c d:Nat}(h:a<=c)(k:c<=d)(e:a=b:=by kernel_rfl)(f:d=b:=by kernel_rfl):c=b:=by omega
section
variable {P:Program} {N:Nat} {e:Env} {w:aa}
theorem Uh(e1:Env)(d:Nat)(v:ad):bq e1 d v d=v:=by unfold bq;rw [Nat.beq_refl];rfl
theorem Ui(e1:Env){d j:Nat}(v:ad)(h:j≠d):bq e1 d v j=e1 j:=by
 have:Nat.beq j d=false:=by
  cases hb:Nat.beq j d with
  | false=>rfl
  | true=>exact absurd (oe hb) h
 unfold bq;rw [this];rfl
theorem FM{ms:List Nat}{p q:Nat->Bool}(h:∀m∈ms,p m=true->q m=true):ms.countP p<=ms.countP q:=List.countP_mono_left h
end
inductive Ye where
 | ex (v:ad)
 | pr (p:ad->aa->Prop)
 | p2 (j:Nat) (p:ad->ad->aa->Prop)
 | al (q:ad->Prop) (p:ad->aa->Prop)
def vl(l:List Oper)(e:Env)(k:Nat):ad:=match l[k]? with
 | some o=>valOf o e
 | none=>undef
def Ye.holds(uu:Nat->ad):Ye->ad->aa->Prop
 | .ex v,u,_=>u=v
 | .pr p,u,w=>p u w
 | .p2 j p,u,w=>p (uu j) u w
 | .al q p,u,w=>q u/\p u w
def Ye.qo:Ye->Prop
 | .ex _=>True
 | .pr p=>∀v w w',p v w->Below w.heap.size w w'->p v w'
 | .p2 _ p=>∀a v w w',p a v w->Below w.heap.size w w'->p a v w'
 | .al _ p=>∀v w w',p v w->Below w.heap.size w w'->p v w'
theorem Ye.ada(v:ad):(Ye.ex v).qo:=True.intro
theorem ly{v:ad}{l:List Ye}(h:∀y∈l,y.qo):∀y∈Ye.ex v::l,y.qo:=cI.2 ⟨True.intro,h⟩
theorem Ye.cV{p:ad->aa->Prop}(h:∀v w w',p v w->Below w.heap.size w w'->p v w'):(Ye.pr p).qo:=h
abbrev yU:Ye:= .ex undef
abbrev yI(i:Int):Ye:= .ex (ak i)
abbrev yB(b:Bool):Ye:= .ex (.bool b)
abbrev yP(a:aj):Ye:= .ex (.pointer a)
abbrev yS(a:aj)(n c:Nat):Ye:= .ex (.slice a n c)
theorem M6{j:Nat}{p:ad->ad->aa->Prop}(h:∀a v w w',p a v w->Below w.heap.size w w'->p a v w'):(Ye.p2 j p).qo:=h
theorem VA{q:ad->Prop}{p:ad->aa->Prop}(h:∀v w w',p v w->Below w.heap.size w w'->p v w'):(Ye.al q p).qo:=h
def Ls:Ye->Bool
 | .ex _=>true
 | .pr _=>false
 | .p2 ..=>false
 | .al ..=>false
def N3(N:Nat)(l:List Oper)(ys:List Ye)(ms:List Nat):Bool:=
 l.all (fun o=>match o.dst with | some d=>Nat.blt d N | none=>true) && decide ((jf l).Nodup) && (l.zipIdx.all fun p=> (fo p.1).all fun ed=>Nat.blt ed.on p.2) && Nat.beq l.length ys.length && (l.zip ys).all (fun p=>p.1.dst.isSome || !Ls p.2) && decide ms.Nodup && ms.all (fun m=>Nat.blt m l.length) && (ys.zipIdx.all fun p=>!(Ls p.1) || !(ms.contains p.2)) && (ys.zipIdx.all fun p=>match p.1 with | .p2 j _=>jt l l.length p.2 j && Nat.blt j l.length | _=>true)
def Ye.at_(c ph:Nat)(uu:Nat->ad):Ye->ad->aa->Prop
 | .ex v,u,_=>u=v
 | .pr p,u,w=>c=ph->p u w
 | .p2 j p,u,w=>c=ph->p (uu j) u w
 | .al q p,u,w=>q u/\(c=ph->p u w)
def pV:List Oper->List Ye->(Nat->ad)->Nat->List (Nat×ad)
 | o::l,y::ys,u,i=>match o.dst,y with
  | some d,.ex v=> (d,v)::pV l ys u (i+1)
  | some d,.pr _=> (d,u i)::pV l ys u (i+1)
  | some d,.p2 ..=> (d,u i)::pV l ys u (i+1)
  | some d,.al ..=> (d,u i)::pV l ys u (i+1)
  | none,_=>pV l ys u (i+1)
 | _,_,_,_=> []
def nF(l:List Oper)(ys:List Ye):List Edge->List (Nat×ad)
 | []=> []
 | ed::r=>match ys[ed.on]?,(l[ed.on]?).bind (·.dst)with
  | some (.ex v),some d=> (d,v)::nF l ys r
  | _,_=>nF l ys r
section
variable{o:Oper}{y:Ye}{w1 w2:aa}{i id:Nat}{ys:List Ye}{ms:List Nat}
variable {P:Program} {N:Nat} {e:Env} {w:aa}
def gA(o:Oper)(y:Ye)(uu:Nat->ad)(e1:Env)(w1:aa):Env->aa->Prop:=fun e2 w2=>Below w1.heap.size w1 w2/\y.holds uu (valOf o e2) w2/\∀j,o.dst≠some j->e2 j=e1 j
def fQ(o:Oper)(y:Ye)(uu:Nat->ad)(e1:Env):Env->aa->Prop:=fun e2 w2=>y.holds uu (valOf o e2) w2/\∀j,o.dst≠some j->e2 j=e1 j
theorem gA.dn{uu:Nat->ad}{e1:Env}{d:Nat}{v:ad}(hd:o.dst=some d)(hb:Below w1.heap.size w1 w2)(hv:y.holds uu v w2):gA o y uu e1 w1 (bq e1 d v) w2:=by
 refine⟨hb,?_,fun j hj=>Ui e1 v (fun h=>hj (by rw [hd,h]))⟩;unfold valOf;rw [hd];show y.holds uu (bq e1 d v d) w2;rw [Uh];exact hv
theorem ig{uu:Nat->ad}{e1:Env}{d:Nat}{v:ad}(hd:o.dst=some d)(hv:y.holds uu v w1):gA o y uu e1 w1 (bq e1 d v) w1:=gA.dn hd (Below.refl _ _) hv
theorem fQ.dn{uu:Nat->ad}{e1:Env}{d:Nat}{v:ad}(hd:o.dst=some d)(hv:y.holds uu v w2):fQ o y uu e1 (bq e1 d v) w2:=by
 refine⟨?_,fun j hj=>Ui e1 v (fun h=>hj (by rw [hd,h]))⟩;unfold valOf;rw [hd];show y.holds uu (bq e1 d v d) w2;rw [Uh];exact hv
theorem fQ.st{uu:Nat->ad}{e1:Env}(hd:o.dst=none)(hv:y.holds uu undef w2):fQ o y uu e1 e1 w2:=by
 refine⟨?_,fun j _=>O⟩;unfold valOf;rw [hd];exact hv
def xb(P:Program)(N:Nat)(l:List Oper)(ys:List Ye)(ms:List Nat)(e:Env)(w:aa)(i:Nat)(o:Oper):Prop:=
 ∀(e1:Env) (w1:aa) (c:Nat),Hx l ms i<=c->c<=BQ l ms i->(c=0->Below w.heap.size w w1)->(∀(j:Nat) (y:Ye) (o':Oper),jt l l.length i j=true->ys[j]?=some y->l[j]?=some o'->y.at_ c (l4 l ms j) (vl l e1) (valOf o' e1) w1)->(∀(j:Nat) (o':Oper),l[j]?=some o'->jt l l.length j i=true->valOf o' e1=valOf o' e)->(∀(m:Nat) (y:Ye) (o':Oper),gB ms m=true->AJ l ms m=true->l4 l ms m=c->ys[m]?=some y->l[m]?=some o'->y.at_ c (l4 l ms m) (vl l e1) (valOf o' e1) w1)->
  bif gB ms i then ao P N l.toArray (fQ o (ys.getD i (.pr fun _ _=>True)) (vl l e1) (ext (mix e1 e (jf l)) (nF l ys (fo o)))) [o] (ext (mix e1 e (jf l)) (nF l ys (fo o))) w1
  else ao P N l.toArray (gA o (ys.getD i (.pr fun _ _=>True)) (vl l e1) (ext (mix e1 e (jf l)) (nF l ys (fo o))) w1) [o] (ext (mix e1 e (jf l)) (nF l ys (fo o))) w1
theorem UH{ops:Array Oper}{uu:Nat->ad}{e1:Env}{d:Nat}{v:ad}(h:uE ops N e1 o=some (d,v))(hv:y.holds uu v w1):ao P N ops (gA o y uu e1 w1) [o] e1 w1:= .uE h (gA.dn (TU h) (Below.refl _ _) hv)
theorem bK{ops:Array Oper}{uu:Nat->ad}{e1:Env}{d:Nat}{v:ad}(hd:o.dst=some d)(hv:y.holds uu v w1):ao P N ops (gA o y uu e1 w1) [] (bq e1 d v) w1:=ao.n (gA.dn hd (Below.refl _ _) hv)
theorem bZ{l:List Oper}{d:Nat}{v:ad}(h:((gB ms i,(ys.getD i (.pr fun _ _=>True))),fun e1=>uE l.toArray N (ext (mix e1 e (jf l)) (nF l ys (fo o))) o)=((false,.ex v),fun _=>some (d,v))):xb P N l ys ms e w i o:=fun e1 w1 c _ _ _ _ _ _=>by
 have h1:=congrFun (Prod.mk.inj h).2 e1;rw [(Prod.mk.inj (Prod.mk.inj h).1).1,(Prod.mk.inj (Prod.mk.inj h).1).2];exact UH h1 O
theorem cP{l:List Oper}(h:∀(e1:Env) (w1:aa),Below w.heap.size w w1->(∀(j:Nat) (y:Ye) (o':Oper),jt l l.length i j=true->ys[j]?=some y->l[j]?=some o'->y.at_ 0 (l4 l ms j) (vl l e1) (valOf o' e1) w1)->(∀(j:Nat) (o':Oper),l[j]?=some o'->jt l l.length j i=true->valOf o' e1=valOf o' e)->(∀(m:Nat) (y:Ye) (o':Oper),gB ms m=true->AJ l ms m=true->l4 l ms m=0->ys[m]?=some y->l[m]?=some o'->y.at_ 0 (l4 l ms m) (vl l e1) (valOf o' e1) w1)->
 ao P N l.toArray (gA o (ys.getD i (.pr fun _ _=>True)) (vl l e1) (ext (mix e1 e (jf l)) (nF l ys (fo o))) w1) [o] (ext (mix e1 e (jf l)) (nF l ys (fo o))) w1) (ht:gB ms i=false:=by kernel_rfl) (hh:BQ l ms i=0:=by kernel_rfl):xb P N l ys ms e w i o:=fun e1 w1 c _ cC hb hp a6 hq=>by
 obtain rfl:c=0:=by omega
 rw [ht];exact h e1 w1 (hb rfl) hp a6 hq
theorem kQ{l:List Oper}(h:∀(e1:Env) (w1:aa),Below w.heap.size w w1->(∀(j:Nat) (y:Ye) (o':Oper),jt l l.length i j=true->ys[j]?=some y->l[j]?=some o'->y.at_ 0 (l4 l ms j) (vl l e1) (valOf o' e1) w1)->(∀(j:Nat) (o':Oper),l[j]?=some o'->jt l l.length j i=true->valOf o' e1=valOf o' e)->(∀(m:Nat) (y:Ye) (o':Oper),gB ms m=true->AJ l ms m=true->l4 l ms m=0->ys[m]?=some y->l[m]?=some o'->y.at_ 0 (l4 l ms m) (vl l e1) (valOf o' e1) w1)->
 ao P N l.toArray (fQ o (ys.getD i (.pr fun _ _=>True)) (vl l e1) (ext (mix e1 e (jf l)) (nF l ys (fo o)))) [o] (ext (mix e1 e (jf l)) (nF l ys (fo o))) w1) (ht:gB ms i=true:=by kernel_rfl) (hh:BQ l ms i=0:=by kernel_rfl):xb P N l ys ms e w i o:=fun e1 w1 c _ cC hb hp a6 hq=>by
 obtain rfl:c=0:=by omega
 rw [ht];exact h e1 w1 (hb rfl) hp a6 hq
theorem dP{l:List Oper}(b:Nat)(h:∀(e1:Env) (w1:aa),(∀(j:Nat) (y:Ye) (o':Oper),jt l l.length i j=true->ys[j]?=some y->l[j]?=some o'->y.at_ b (l4 l ms j) (vl l e1) (valOf o' e1) w1)->(∀(j:Nat) (o':Oper),l[j]?=some o'->jt l l.length j i=true->valOf o' e1=valOf o' e)->(∀(m:Nat) (y:Ye) (o':Oper),gB ms m=true->AJ l ms m=true->l4 l ms m=b->ys[m]?=some y->l[m]?=some o'->y.at_ b (l4 l ms m) (vl l e1) (valOf o' e1) w1)->
 ao P N l.toArray (gA o (ys.getD i (.pr fun _ _=>True)) (vl l e1) (ext (mix e1 e (jf l)) (nF l ys (fo o))) w1) [o] (ext (mix e1 e (jf l)) (nF l ys (fo o))) w1) (ht:gB ms i=false:=by kernel_rfl) (hl:Hx l ms i=b:=by kernel_rfl) (hh:BQ l ms i=b:=by kernel_rfl):xb P N l ys ms e w i o:=fun e1 w1 c eB cC _ hp a6 hq=>by
 obtain rfl:c=b:=by omega
 rw [ht];exact h e1 w1 hp a6 hq
theorem qM{l:List Oper}(b:Nat)(h:∀(e1:Env) (w1:aa),(∀(j:Nat) (y:Ye) (o':Oper),jt l l.length i j=true->ys[j]?=some y->l[j]?=some o'->y.at_ b (l4 l ms j) (vl l e1) (valOf o' e1) w1)->(∀(j:Nat) (o':Oper),l[j]?=some o'->jt l l.length j i=true->valOf o' e1=valOf o' e)->(∀(m:Nat) (y:Ye) (o':Oper),gB ms m=true->AJ l ms m=true->l4 l ms m=b->ys[m]?=some y->l[m]?=some o'->y.at_ b (l4 l ms m) (vl l e1) (valOf o' e1) w1)->
 ao P N l.toArray (fQ o (ys.getD i (.pr fun _ _=>True)) (vl l e1) (ext (mix e1 e (jf l)) (nF l ys (fo o)))) [o] (ext (mix e1 e (jf l)) (nF l ys (fo o))) w1) (ht:gB ms i=true:=by kernel_rfl) (hl:Hx l ms i=b:=by kernel_rfl) (hh:BQ l ms i=b:=by kernel_rfl):xb P N l ys ms e w i o:=fun e1 w1 c eB cC _ hp a6 hq=>by
 obtain rfl:c=b:=by omega
 rw [ht];exact h e1 w1 hp a6 hq
theorem aP{l:List Oper}(h:∀(e1:Env) (w1:aa),ao P N l.toArray (gA o (ys.getD i (.pr fun _ _=>True)) (vl l e1) (ext (mix e1 e (jf l)) (nF l ys (fo o))) w1) [o] (ext (mix e1 e (jf l)) (nF l ys (fo o))) w1)(ht:gB ms i=false:=by kernel_rfl):xb P N l ys ms e w i o:=fun e1 w1 c _ _ _ _ _ _=>by
 rw [ht];exact h e1 w1
def Da(P:Program)(N:Nat)(l:List Oper)(ys:List Ye)(ms:List Nat)(e:Env)(w:aa):Nat->List Oper->Prop
 | _,[]=>True
 | i,o::r=>xb P N l ys ms e w i o/\Da P N l ys ms e w (i+1) r
theorem Da.get{l:List Oper}:∀ {r:List Oper} {i:Nat},Da P N l ys ms e w i r->∀k o,r[k]?=some o->xb P N l ys ms e w (i+k) o
 | [],_,_,k,o,hk=>by simp at hk
 | x::r,i,h,0,o,hk=>by simp at hk;subst hk;exact h.1
 | x::r,i,h,k+1,o,hk=>by
  have:=Da.get h.2 k o (by simpa using hk);rw [show i+1+k=i+ (k+1) by omega]at this;exact this
theorem NX{l:List Oper}{ys:List Ye}{e1:Env}:∀(af:List Edge),(∀ed∈af,∀(v:ad) (o':Oper),ys[ed.on]?=some (.ex v)->l[ed.on]?=some o'->valOf o' e1=v)->Mt e1 (nF l ys af)
 | [],_=>av
 | ed::r,h=>by
  have hr:=NX r (fun x hx=>h x (pj _ hx));unfold nF
  split
  ·rename_i v d hy hd;refine⟨?_,hr⟩;cases ho:l[ed.on]? with
   | none=>rw [ho]at hd;cases hd
   | some o'=>
    rw [ho]at hd;have nM:o'.dst=some d:=hd;have:=h ed (by simp) v o' hy ho;unfold valOf at this;rw [nM]at this;exact this
  ·exact hr
theorem Oa{e1 e:Env}:∀(l:List Oper) (ys:List Ye) (i:Nat),l.length=ys.length->(jf l).Nodup->(∀(k:Nat) (v:ad) (o:Oper),ys[k]?=some (.ex v)->l[k]?=some o->valOf o e1=v\/o.dst=none)->
 ∃u:Nat->ad,ext e (pV l ys u i)=mix e1 e (jf l)/\(∀(k:Nat) (o:Oper),l[k]?=some o->u (i+k)=valOf o e1)
 | [],[],i,_,_,_=> ⟨fun _=>undef,by funext j;rfl,fun k o h=>by simp at h⟩
 | [],y::ys,i,hl,_,_=>by simp at hl
 | o::l,[],i,hl,_,_=>by simp at hl
 | o::l,y::ys,i,hl,hn,h=>by
  have zn:(jf l).Nodup:=by
   unfold jf at hn|-;rw [List.filterMap_cons]at hn
   split at hn
   ·exact hn
   ·exact(nt.1 hn).2
  obtain⟨u,hu,jZ⟩:=Oa (e1:=e1) (e:=e) l ys (i+1) (by simpa using hl) zn (fun k v o' hy ho=>h (k+1) v o' (by simpa using hy) (by simpa using ho));have I6:∀(l:List Oper) (ys:List Ye) (i:Nat) (u u':Nat->ad),(∀k,i<=k->u k=u' k)->pV l ys u i=pV l ys u' i:=by
   intro l
   induction l with
   | nil=>intros;rfl
   | cons o l ih=>
    intro ys i u u' hk;cases ys with
    | nil=>rfl
    | cons y ys=>
     have h1:=ih ys (i+1) u u' (fun k eN=>hk k (by omega));simp only [pV];rw [h1,hk i (by omega)]
  have hc:=I6 l ys (i+1) (fun k=>if k=i then valOf o e1 else u k) u (fun k hk=>by show(if k=i then _ else _)=_;rw [aw (by omega)]);refine⟨fun k=>if k=i then valOf o e1 else u k,?_,fun k o' hk=>?_⟩
  ·cases hd:o.dst with
   | none=>
    have Ji:jf (o::l)=jf l:=by unfold jf;rw [List.filterMap_cons,hd]
    simp only [pV,hd,hc,hu,Ji]
   | some d=>
    have Ji:jf (o::l)=d::jf l:=by unfold jf;rw [List.filterMap_cons,hd]
    have pI:valOf o e1=e1 d:=by unfold valOf;rw [hd]
    have pG:∀v,v=e1 d->bq (mix e1 e (jf l)) d v=mix e1 e (d::jf l):=by
     intro v hv;funext j;simp only [bq,mix,gB];cases hb:Nat.beq j d with
     | true=>rw [oe hb,hv];rfl
     | false=>rfl
    rw [Ji];cases y with
    | ex v=>
     have h0:=h 0 v o O O;simp only [pV,hd,ext,hc,hu];refine pG v ?_;rcases h0 with h0 | h0
     ·rw [<-h0,pI]
     ·rw [hd]at h0;cases h0
    | pr p=>
     simp only [pV,hd,ext,hc,hu,ay];exact pG _ pI
    | p2 j p=>
     simp only [pV,hd,ext,hc,hu,ay];exact pG _ pI
    | al q p=>
     simp only [pV,hd,ext,hc,hu,ay];exact pG _ pI
  ·cases k with
   | zero=>simp at hk;subst hk;simp
   | succ k=>
    have:=jZ k o' (by simpa using hk);show(if i+ (k+1)=i then _ else u (i+ (k+1)))=_;rw [aw (by omega),<-this];congr 1;omega
theorem kK{l:List Oper}{Q:jB}(ms:List Nat)(ys:List Ye)(hm:P.follows .mixedOrders=true)(dO:N3 N l ys ms=true)(KJ:∀y∈ys,y.qo)
 (Lb:Da P N l ys ms e w 0 l) (y8:∀u w1,(ms=[]->Below w.heap.size w w1)->(∀(k:Nat) (p:ad->aa->Prop),ys[k]?=some (Ye.pr p)->l4 l ms k=ms.length->p (u k) w1)->(∀(k j:Nat) (p:ad->ad->aa->Prop),ys[k]?=some (Ye.p2 j p)->l4 l ms k=ms.length->p (u j) (u k) w1)->(∀(k:Nat) (q:ad->Prop) (p:ad->aa->Prop),ys[k]?=some (Ye.al q p)->q (u k)/\(l4 l ms k=ms.length->p (u k) w1))->Q .normal (ext e (pV l ys u 0)) w1):Cd P N (.region id l.toArray true) Q e w:= .mk' fun a ha=>by
 simp only [N3,Bool.and_eq_true,List.all_eq_true,kU]at dO;obtain⟨⟨⟨⟨⟨⟨⟨⟨h1,h2⟩,h3⟩,hlen⟩,aaR⟩,B0⟩,lS⟩,hmy⟩,jj⟩:=dO;have KW:∀(k j:Nat) (p:ad->ad->aa->Prop),ys[k]?=some (.p2 j p)->jt l l.length k j=true/\j<l.length:=by
  intro k j p hk;have:=jj (.p2 j p,k) (by rw [List.mem_iff_getElem?];exact⟨k,by simp [hk]⟩);simpa [Nat.blt_eq]using this
 have we:l.length=ys.length:=oe hlen;have vX:∀(i:Nat) (o:Oper),l[i]?=some o->∀ed∈fo o,ed.on<i:=by
  intro i o ho ed fF;have:=h3 (o,i) (by
   obtain⟨hi,GR⟩:=gS.1 ho;rw [List.mem_iff_getElem?];exact⟨i,by simp [ho]⟩)
  simpa [Nat.blt_eq]using this ed fF
 have Z1:∀(i:Nat) (o:Oper) (d:Nat),l[i]?=some o->o.dst=some d->d<N:=by
  intro i o d ho hd;have:=h1 o (List.mem_of_getElem? ho);rw [hd]at this;simpa [Nat.blt_eq]using this
 have hexd:∀(i:Nat) (o:Oper) (v:ad),l[i]?=some o->ys[i]?=some (.ex v)->o.dst≠none:=by
  intro i o v ho hy hd;have:=aaR (o,.ex v) (by
   rw [List.mem_iff_getElem?];exact⟨i,by rw [List.getElem?_zip_eq_some];exact⟨ho,hy⟩⟩)
  simp [hd,Ls]at this
 refine wp_region_any hm ?_
 let oS:Array Bool->Nat:=fun listed=>ms.countP fun m=>listed.getD m false
 have key:∀(fuel:Nat) (listed:Array Bool) (a1:Act) (e1:Env) (w1:aa),jC N a1 e1->(oS listed=0->Below w.heap.size w w1)->(∀j,gB (jf l) j=false->e1 j=e j)->listed.size=l.length->
  (∀(i:Nat) (y:Ye) (o:Oper),listed.getD i false=true->ys[i]?=some y->l[i]?=some o->y.at_ (oS listed) (l4 l ms i) (vl l e1) (valOf o e1) w1)->(∀(i:Nat) (o:Oper),listed.getD i false=true->l[i]?=some o->∀ed∈fo o,listed.getD ed.on false=true)->(∀(i:Nat) (o:Oper),listed.getD i false=false->l[i]?=some o->valOf o e1=valOf o e)->(l.length - fuel<=(List.range l.length).countP fun i=>listed.getD i false)->
  wpAny P .any l.toArray (low N Q) fuel listed a1 w1:=by
  have mW:∀(listed:Array Bool) (a1:Act) (e1:Env) (w1:aa),jC N a1 e1->(oS listed=0->Below w.heap.size w w1)->(∀j,gB (jf l) j=false->e1 j=e j)->
   (∀(i:Nat) (y:Ye) (o:Oper),listed.getD i false=true->ys[i]?=some y->l[i]?=some o->y.at_ (oS listed) (l4 l ms i) (vl l e1) (valOf o e1) w1)->(∀i,i<l.length->listed.getD i false=true)->low N Q .normal a1 w1:=by
   intro listed a1 e1 w1 hr hb oq hS eu;have mo:oS listed=ms.length:=by
    show ms.countP _=ms.length;rw [List.countP_eq_length];intro m zm;exact eu m (by simpa [Nat.blt_eq]using lS m zm)
   obtain⟨u,hu,jZ⟩:=Oa (e1:=e1) (e:=e) l ys 0 we h2 (fun k v o hy ho=> .inl (hS k _ o (eu k (gS.1 ho).1) hy ho));refine⟨e1,hr,?_⟩;have:=y8 u w1 (fun h0=>hb (by rw [mo,h0];rfl)) (fun k p hk eP=>by
    have jY:k<l.length:=by rw [we];exact(gS.1 hk).1
    have h5:=hS k _ l[k] (eu k jY) hk (fS jY);have h6:=jZ k l[k] (fS jY);rw [Nat.zero_add]at h6;rw [h6];exact h5 (by rw [mo,eP])) (fun k j p hk eP=>by
    have jY:k<l.length:=by rw [we];exact(gS.1 hk).1
    have hj:=KW k j p hk;have h5:=hS k _ l[k] (eu k jY) hk (fS jY);have h6:=jZ k l[k] (fS jY);have h7:=jZ j l[j] (fS hj.2);rw [Nat.zero_add]at h6 h7;have h8:vl l e1 j=valOf l[j] e1:=by unfold vl;rw [List.getElem?_eq_getElem hj.2]
    rw [h6,h7,<-h8];exact h5 (by rw [mo,eP])) (fun k q p hk=>by
    have jY:k<l.length:=by rw [we];exact(gS.1 hk).1
    have h5:=hS k _ l[k] (eu k jY) hk (fS jY);have h6:=jZ k l[k] (fS jY);rw [Nat.zero_add]at h6;rw [h6];exact⟨h5.1,fun eP=>h5.2 (by rw [mo,eP])⟩)
   rw [hu,Hy oq]at this;exact this
  have Eh:∀(listed:Array Bool),listed.size=l.length->Region.ready .any l.toArray listed=[]->∀i,i<l.length->listed.getD i false=true:=by
   intro listed mw uk i
   induction i using Nat.strongRecOn with
   | _ i ih=>
    intro hi;cases xK:listed.getD i false with
    | true=>rfl
    | false=>
     exfalso;have:i∈Region.ready .any l.toArray listed:=by
      rw [mem_ready];refine⟨?_,l[i],by simp [hi],fun ed fF s9=>ih ed.on (vX i _ (fS hi) ed (qp.2 ⟨fF,s9⟩)) (by have:=vX i _ (fS hi) ed (qp.2 ⟨fF,s9⟩);omega)⟩;rw [iR,qF (by omega)]at xK|-;exact xK
     rw [uk]at this;cases this
  intro fuel
  induction fuel with
  | zero=>
   intro listed a1 e1 w1 hr hb oq mw hS dt zw mo;have eu:∀i,i<l.length->listed.getD i false=true:=by
    have h4:(List.range l.length).countP (fun i=>listed.getD i false)=(List.range l.length).length:=by
     have:=List.countP_le_length (p:=fun i=>listed.getD i false) (l:=List.range l.length);simp at this mo|-;omega
    rw [List.countP_eq_length]at h4;intro i hi;exact h4 i (by simpa using hi)
   refine⟨?_,mW listed a1 e1 w1 hr hb oq hS eu⟩;rw [List.eq_nil_iff_forall_not_mem];intro i hi;obtain⟨h5,o,ho,_⟩:=mem_ready.1 hi;have re:i<l.length:=by
    rcases Nat.lt_or_ge i l.length with h | h
    ·exact h
    ·simp [mF h]at ho
   have h6:=eu i re;rw [iR,qF (by omega)]at h5 h6;simp at h5 h6;rw [h5]at h6;cases h6
  | succ fuel ih=>
   intro listed a1 e1 w1 hr hb oq mw hS dt zw mo;refine⟨fun uk=>mW listed a1 e1 w1 hr hb oq hS (Eh listed mw uk),fun i hi=>?_⟩;obtain⟨a6,o,ho,vU⟩:=mem_ready.1 hi;have iq:l[i]?=some o:=by simpa using ho
   have re:i<l.length:=(gS.1 iq).1;have nh:∀ed∈fo o,listed.getD ed.on false=true:=fun ed fF=>vU ed (qp.1 fF).1 (qp.1 fF).2
   have tp:listed.getD i false=false:=by
    have h5:=a6;rw [iR,qF (by omega)]at h5|-;exact h5
   have pA:∀k,(listed.setIfInBounds i true).getD k false=if k=i then true else listed.getD k false:=by
    intro k;rw [iR,vx]
    by_cases e6:k=i
    ·subst e6;rw [ay rfl,ay (by omega),ay rfl];rfl
    ·rw [aw (fun e=>e6 e.symm),aw e6,<-iR]
   have eB:Hx l ms i<=oS listed:=FM fun m _ h=>IH dt iq nh _ _ h
   have cC:oS listed<=BQ l ms i:=FM fun m _ h=>by
    have bt:Nat.beq m i=false:=by
     cases hb:Nat.beq m i with
     | false=>rfl
     | true=>rw [oe hb,tp]at h;cases h
    have vV:jt l l.length m i=false:=by
     cases hb:jt l l.length m i with
     | false=>rfl
     | true=>have:=xc dt _ _ _ hb h;rw [tp]at this;cases this
    simp [bt,vV]
   have eP:∀(j:Nat),listed.getD j false=true->l4 l ms j<=oS listed:=fun j hj=>FM fun m _ h=>by
    rw [Bool.or_eq_true]at h;rcases h with h | h
    ·rw [oe h];exact hj
    ·exact xc dt _ _ _ h hj
   have au:=Lb.get i o iq e1 w1 (oS listed);rw [Nat.zero_add]at au;have au:=au eB cC hb (fun j y o' vV hy vh=>hS j y o' (IH dt iq nh _ _ vV) hy vh) (fun j o' hj vV=>by
    refine zw j o' ?_ hj;cases vf:listed.getD j false with
    | false=>rfl
    | true=>have:=xc dt _ _ _ vV vf;rw [tp]at this;cases this) (fun m y o' hm DU hphm hy QY=>by
    refine hS m y o' ?_ hy QY;cases QI:listed.getD m false with
    | true=>rfl
    | false=>
     exfalso;have h8:=Bb (fun k=>listed.getD k false) (fun k=>if k=m then true else listed.getD k false) m QI (fun k=>O) ms B0 (x8.1 hm);have h9:ms.countP (fun k=>if k=m then true else listed.getD k false)<=l4 l ms m:=FM fun m' iO h=>by
      by_cases e:m'=m
      ·rw [e,Nat.beq_refl];rfl
      ·rw [aw e]at h;simp only [AJ,List.all_eq_true]at DU;have ia:=DU m' iO;cases p5:jt l l.length m m' with
       | true=>rw [Bool.or_true]
       | false=>
        rw [p5,Bool.or_false,Bool.or_eq_true]at ia;rcases ia with ia | ia
        ·exact absurd (oe ia) e
        ·have:=xc dt _ _ _ ia h;rw [QI]at this;cases this
     have xn:ms.countP (fun k=>listed.getD k false)=oS listed:=O;omega)
   rw [Hy oq,yE (NX (fo o) (fun ed fF v o' hy vh=>hS ed.on _ o' (nh ed fF) hy vh))]at au
   let turns:Prop:=gB ms i=true
   let KK:Env->aa->Prop:=fun e2 w2=> (gB ms i=false->Below w1.heap.size w1 w2)/\(ys.getD i (.pr fun _ _=>True)).holds (vl l e1) (valOf o e2) w2/\∀j,o.dst≠some j->e2 j=e1 j
   have abH:∃K:Env->aa->Prop,(∀e2 w2,K e2 w2->KK e2 w2)/\ao P N l.toArray K [o] e1 w1:=by
    cases lj:gB ms i with
    | true=>
     rw [lj]at au;exact⟨_,fun e2 w2 h=> ⟨fun h0=> (by rw [lj]at h0;cases h0),h.1,h.2⟩,au⟩
    | false=>
     rw [lj]at au;exact⟨_,fun e2 w2 h=> ⟨fun _=>h.1,h.2.1,h.2.2⟩,au⟩
   obtain⟨K,qV,abo⟩:=abH;have pa:=abo.run a1 hr;have GC:oS (listed.setIfInBounds i true)=if gB ms i=true then oS listed+1 else oS listed:=by
    show ms.countP _=_
    by_cases lj:gB ms i=true
    ·rw [ay lj];exact Bb (fun m=>listed.getD m false) (fun m=> (listed.setIfInBounds i true).getD m false) i tp pA ms B0 (x8.1 lj)
    ·rw [aw lj];refine List.countP_congr fun m zm=>?_
     rw [pA,aw (fun e=>lj (x8.2 (by rw [<-e];exact zm)))]
   have vg:∀a2 w2,(∃e2,jC N a2 e2/\K e2 w2)->wpAny P .any l.toArray (low N Q) fuel (listed.setIfInBounds i true) a2 w2:=by
    intro a2 w2 ⟨e2,pF,Px⟩;obtain⟨o0,wo,BE⟩:=qV _ _ Px;have KV:∀(k:Nat) (o':Oper),l[k]?=some o'->k≠i->valOf o' e2=valOf o' e1:=by
     intro k o' dO e6;unfold valOf;cases hd:o'.dst with
     | none=>rfl
     | some d=>exact BE d (fun h=>e6 (Js _ l h2 k i o' o d dO iq hd h))
    have Hj:∀j,j≠i->vl l e2 j=vl l e1 j:=by
     intro j hj;unfold vl;cases vh:l[j]? with
     | none=>rfl
     | some o'=>exact KV j o' vh hj
    refine ih _ a2 e2 w2 pF (fun h0=>?_) (fun j hj=>?_) (by simpa using mw) (fun k y o' hk hy dO=>?_) (fun k o' hk dO ed fF=>?_) (fun k o' hk dO=>?_) ?_
    ·rw [GC]at h0
     by_cases lj:gB ms i=true
     ·rw [ay lj]at h0;omega
     ·rw [aw lj]at h0;have:=o0 (by simpa using lj);exact(hb h0).trans (this.mono (hb h0).size)
    ·have bt:o.dst≠some j:=by
      intro hd;have:gB (jf l) j=true:=by rw [x8];exact List.mem_filterMap.2 ⟨o,List.mem_of_getElem? iq,hd⟩
      rw [this]at hj;cases hj
     rw [BE j bt];exact oq j hj
    ·by_cases e6:k=i
     ·subst e6;rw [iq]at dO;cases dO;have:ys.getD k (.pr fun _ _=>True)=y:=by simp [cN,hy]
      rw [this]at wo;cases y with
      | ex v=>exact wo
      | pr p=>exact fun _=>wo
      | p2 j p=>
       have hj:=KW k j p hy;have vf:listed.getD j false=true:=IH dt iq nh _ _ hj.1;have rn:j≠k:=fun e=>by rw [e,tp]at vf;cases vf
       exact fun _=>by rw [Hj j rn];exact wo
      | al q p=>exact⟨wo.1,fun _=>wo.2⟩
     ·have eN:listed.getD k false=true:=by rw [pA,aw e6]at hk;exact hk
      have h7:=hS k y o' eN hy dO;rw [KV k o' dO e6];cases y with
      | ex v=>exact h7
      | pr p=>
       intro hc;rw [GC]at hc
       by_cases lj:gB ms i=true
       ·rw [ay lj]at hc;have:=eP k eN;omega
       ·rw [aw lj]at hc;have hl:=KJ _ (List.mem_of_getElem? hy);exact hl _ _ _ (h7 hc) (o0 (by simpa using lj))
      | p2 j p=>
       have hj:=KW k j p hy;have vf:listed.getD j false=true:=xc dt _ _ _ hj.1 eN;have rn:j≠i:=fun e=>by rw [e,tp]at vf;cases vf
       intro hc;rw [Hj j rn];rw [GC]at hc
       by_cases lj:gB ms i=true
       ·rw [ay lj]at hc;have:=eP k eN;omega
       ·rw [aw lj]at hc;have hl:=KJ _ (List.mem_of_getElem? hy);exact hl _ _ _ _ (h7 hc) (o0 (by simpa using lj))
      | al q p=>
       refine⟨h7.1,fun hc=>?_⟩;rw [GC]at hc
       by_cases lj:gB ms i=true
       ·rw [ay lj]at hc;have:=eP k eN;omega
       ·rw [aw lj]at hc;have hl:=KJ _ (List.mem_of_getElem? hy);exact hl _ _ _ (h7.2 hc) (o0 (by simpa using lj))
    ·rw [pA]
     by_cases xG:ed.on=i
     ·rw [ay xG]
     ·rw [aw xG]
      by_cases e6:k=i
      ·subst e6;rw [iq]at dO;cases dO;exact nh ed fF
      ·rw [pA,aw e6]at hk;exact dt k o' hk dO ed fF
    ·rw [pA]at hk
     by_cases e6:k=i
     ·rw [ay e6]at hk;cases hk
     ·rw [aw e6]at hk;rw [KV k o' dO e6];exact zw k o' hk dO
    ·have DV:(List.range l.length).countP (fun k=> (listed.setIfInBounds i true).getD k false)=(List.range l.length).countP (fun k=>listed.getD k false)+1:=
      Bb (fun k=>listed.getD k false) (fun k=> (listed.setIfInBounds i true).getD k false) i tp pA _ List.nodup_range (by simpa using re)
     rw [DV];omega
   unfold wpOp;rw [ho];unfold wpList at pa;show if _ then _ else _
   by_cases hw:Region.wanted o (yielded l.toArray a1.tmps)=true
   ·rw [ay hw]at pa|-;rcases pa with h5 | ⟨_,a0,w0,h5⟩
    ·refine .inl (Io h5 (fun a2 w2 hx=>?_) (fun x a w hx hq=>hx hq.1));exact vg a2 w2 hx.2
    ·exact absurd h5.1 (by simp)
   ·rw [aw hw]at pa|-;exact vg _ _ pa.2
 refine key l.length (Array.replicate l.length false) a e _ ha (fun _=> ⟨⟨O,O,O,bj _,fun _ _=>O⟩,fun _=>Nat.le_add_right _ _⟩) (fun _ _=>O) (by simp) (fun i y o hi=>?_) (fun i o hi=>?_) (fun _ _ _ _=>O) (by omega)
 ·exfalso;rw [iR,Array.getElem?_replicate]at hi
  split at hi<;>simp at hi
 ·exfalso;rw [iR,Array.getElem?_replicate]at hi
  split at hi<;>simp at hi
end
theorem UW(x y:Int)(w:aa)(hx:0<=x/\x<=1048576)(hy:0<=y/\y<=1048576):aG prog 236 [.int .u64 x,.int .u64 y] w (fun v w'=>v= .tuple #[.int .u64 0,.int .u64 (x*y)]/\w'=w):=by
 have jl:0<=x*y/\x*y<=1099511627776:=⟨Int.mul_nonneg hx.1 hy.1,Int.le_trans (Int.mul_le_mul hx.2 hy.2 hy.1 (by omega)) (by decide)⟩;have ex:x%4294967296=x:=by omega
 have ey:y%4294967296=y:=by omega
 have dx:x / 4294967296=0:=by omega
 have dy:y / 4294967296=0:=by omega
 refine bA func236 O ntmps236 O (rA O) (a8 O (Ip (x) O O O (by omega) (by omega) (ar O (C4 (0) O O O (by omega) (by omega) (ar O (Ip (y) O O O (by omega) (by omega) (ar O (C4 (0) O O O (by omega) (by omega) (ar O ?_)))))))));refine C1 (x*y) O O O (by simp) (by omega) ?_;refine ar O ?_;refine C1 (0) O O O (by simp) (by omega) ?_;refine ar O (C4 (x*y / 4294967296) O O O (by omega) (by omega) ?_);refine Fh (x*y / 4294967296) O O O (by simp) (by omega) ?_;refine ar O (Ip (x*y / 4294967296) O O O (by omega) (by omega) (ar O (C4 (0) O O O (by omega) (by omega) (ar O ?_))));refine C1 (0) O O O (by simp) (by omega) ?_;refine Fh (x*y / 4294967296) O O O (by simp) (by omega) ?_;refine ar O ?_;refine C1 (0) O O O (by simp) (by omega) ?_;refine ar O ?_;refine Fh (0) O O O (by simp) (by omega) ?_;refine ar O (C4 (0) O O O (by omega) (by omega) ?_);refine Fh (0) O O O (by simp) (by omega) ?_;refine ar O ?_;refine C1 (x*y) O O O (by simp) (by omega) ?_;refine bM O (Tm O O ?_);exact⟨O,O⟩
theorem UX(x y:Int)(w:aa)(hx:0<=x/\x<=1048576)(hy:0<=y/\y<=1048576):aG prog 194 [.int .u64 x,.int .u64 y] w (fun v w'=>v= .tuple #[.int .u64 0,.int .u64 (x*y)]/\w'=w):=by
 refine bA func194 O ntmps194 O (rA O) (bL O (Cd.gh O (aE O (aL (UW x y w hx hy) O ?_))));rintro _ _ ⟨rfl,rfl⟩;refine bM O (Tm O O ?_);exact⟨O,O⟩
def rep(a n:Nat)(x v:Int):ai:=List.replicate a x++List.replicate (n - a) v
theorem afL{m n q:Nat}{x v:Int}(hm:m<=n)(hq:q<=n - m):((rep m n x v).map (Value.int .i64)).take m++ (List.range q).map (fun _=>Value.int .i64 x)++ ((rep m n x v).map (Value.int .i64)).drop (m+q)=(rep (m+q) n x v).map (Value.int .i64):=by
 have e1:(rep m n x v).map (Value.int .i64)=List.replicate m (Value.int .i64 x)++List.replicate (n - m) (Value.int .i64 v):=by simp [rep]
 have e2:(List.range q).map (fun _=>Value.int .i64 x)=List.replicate q (Value.int .i64 x):=by
  apply jo<;>simp
 rw [e1,e2,wT (by simp),List.drop_append];simp only [rep,jb,List.map_replicate,List.length_replicate,List.take_replicate,List.drop_replicate,Nat.min_self];rw [show m - (m+q)=0 by omega,show m+q - m=q by omega,show n - m - q=n - (m+q) by omega];simp
theorem Fm(A:aj)(c:Nat)(x:Int)(n:Nat)(w:aa)(hR:cn w A 1 [x])(hn:n<=1048576):
 aG prog 128 [.slice A 1 c,ak n] w (fun v w'=>∃A',v= .slice A' n n/\St w w' [az 2 A' n n (List.replicate n x)]):=by
 refine bA func128 O ntmps128 O (cJ O) (bL O (mD O (by omega) ?_));refine aE O (bc O O ?_);refine oN (i:=1) O O (by decide) (ar O (oN (i:=(n:Int)) O O (vt _ (by omega)) (aL (UX 1 n _ (by omega) (by omega)) O ?_)));rintro _ w ⟨rfl,rfl⟩;rw [Int.one_mul];refine ar O (ao.gtr O O O (ar O ?_));refine dp 23 O (fun h=>absurd h (by decide)) (fun _=>?_);refine ax O (ar O (ax O (ao.gtr O O O (aI O ?_))));refine mD O (by omega) (aE O (oN (i:=(n:Int)) O O (IntWalk.i64_in _ (by omega)) (wW n (St.refl w) O O (by omega) ?_)));intro A1 w1 aA;refine ar O ?_;refine MZ 0 0 (min 1 n) aA O (aA.gW hR).2 (a7 _) (by rw [NS];rfl) O (fun _ _=>O) O O ?_;intro w2 aB;refine aI O ?_;have h3:St w w2 [az 2 A1 n n (rep (min 1 n) n x 0)]:=by
  have e:([az 2 A1 n n (List.replicate n 0)].set 0 { az 2 A1 n n (List.replicate n 0)with vs:=(az 2 A1 n n (List.replicate n 0)).vs.take 0++ (List.range (min 1 n)).map (fun j=>Value.int .i64 ([x].getD j 0))++ (az 2 A1 n n (List.replicate n 0)).vs.drop (0+min 1 n) })=[az 2 A1 n n (rep (min 1 n) n x 0)]:=by
   by_cases h0:n=0
   ·subst h0;rfl
   have h1:min 1 n=1:=by omega
   rw [h1];simp [az,rep,lN]
  rw [<-e];exact aB
 refine Cd.loop (α:=Nat) (fun m=> [(7,.slice A1 n n),(8,ak m)]) (fun m w'=>St w w' [az 2 A1 n n (rep m n x 0)]/\m<=n/\(0<n->0<m)) (fun m=>n - m) (min 1 n) (ajs O) ⟨h3,by omega,by omega⟩ ?_;rintro m e w3 ⟨aH,hm,hm0⟩;refine a8 O (bc O O (aI O ?_));refine aR _ O (fun h4=>?_) (fun h4=>?_)
 ·refine dA O ?_;have hlen:(rep m n x 0).length=n:=aH.Cm 0 O;have dW:∀ {w1:aa},Below w3.heap.size w3 w1->Rd w1 A1 m (fun _=>ak x):=fun hb j hj=>by
   have h5:=(aH.aq hb).rd 0 O j (by show j<n;omega);have h6:((rep m n x 0).map (Value.int .i64)).getD j undef=ak x:=by simp [rep,cN,mc,hj]
   obtain⟨p,hp,hc⟩:=h5;exact⟨p,hp,hc.trans (aO some h6)⟩
  have dF:=afL (n:=n) (m:=m) (q:=min m (n - m)) (x:=x) (v:=0) hm (by omega);refine kK [7] [yI ((m:Int)),yS (A1) (n) (n),yI ((m:Int)),yS (cutAt A1 n m) (n - m) (n - m),yS (A1) (n) (n),yI ((m:Int)),yS (A1) (m) (n),.pr (fun v w'=>v=ak ((min m (n - m):Nat):Int)/\St w w' [az 2 A1 n n (rep (m+min m (n - m)) n x 0)]),yI ((m:Int)+ ((min m (n - m):Nat):Int)),yI ((m:Int)+ ((min m (n - m):Nat):Int))] (by kernel_rfl) (by kernel_rfl) (ly (ly (ly (ly (ly (ly (ly (cI.2 ⟨Ye.cV (fun v w w' h hb=> ⟨h.1,h.2.aq hb⟩),(ly (ly (fun _ h=>by cases h)))⟩)))))))) ?_ ?_
  ·refine⟨?_,bZ O,?_,aP fun _ _=>Fk O O O (by omega) (bK O O),bZ O,?_,aP fun _ _=>It O O O (by omega) (bK O O),?_,?_,bZ O,av⟩
   ·intro e1 w1 cc eB cC fq hp a6 hq;show ao _ _ _ _ _ _ _;refine Ae O (by exact a6 9 _ O (by kernel_rfl)) O (ao.n (ig O (by exact O)))
   ·intro e1 w1 cc eB cC fq hp a6 hq;show ao _ _ _ _ _ _ _;refine Ae O (by exact a6 9 _ O (by kernel_rfl)) O (ao.n (ig O (by exact O)))
   ·intro e1 w1 cc eB cC fq hp a6 hq;show ao _ _ _ _ _ _ _;refine Ae O (by exact a6 9 _ O (by kernel_rfl)) O (ao.n (ig O (by exact O)))
   ·refine kQ fun e1 w1 hb hp a6 hq=>?_
    refine MZ 0 m (min m (n - m)) (aH.aq hb) O (f:=fun _=>ak x) (dW hb) (by omega) O O (fun _ _=>O) O O fun w5 aW=>ao.n ?_;exact fQ.dn O ⟨O,by show St w w5 [⟨A1,n,n,_,(rep (m+min m (n - m)) n x 0).map (Value.int .i64)⟩];rw [<-dF];exact aW⟩
   refine dP 1 fun e1 w1 hp a6 hq=>?_
   have eP:=hp 7 _ _ (by kernel_rfl) O O (by kernel_rfl);refine ajl O (by exact eP.1) O (by omega) (ao.n (ig O (by exact O)))
  intro u w5 _ hu _ _;have aW:=(hu 7 _ O (by kernel_rfl)).2;refine UN O (tQ ?_);exact⟨m+min m (n - m),by have:=hm0 (by omega);omega,⟨O,by show Value.int .i64 _=Value.int .i64 _;congr 1,av⟩,aW,by omega,by omega⟩
 refine bw O (bz (gE O ?_));refine gD O ?_;have:m=n:=by omega
 subst this;refine⟨A1,O,?_⟩;have e:rep m m x 0=List.replicate m x:=by simp [rep]
 rw [<-e];exact aH
end
section
variable{N i:Nat}{x y:Int}
theorem E2{α:Type}[DecidableEq α]:∀(a b:List α),a.Nodup->(∀x∈a,x∈b)->a.length<=b.length
 | [],_,_,_=>a7 _
 | x::a,b,hn,h=>by
  simp only [nt]at hn;have h1:=E2 a (b.erase x) hn.2 (fun y hy=>by
   rw [List.mem_erase_of_ne (fun e=>hn.1 (by rw [<-e];exact hy))];exact h y (by simp [hy]))
  have hx:=h x (by simp);have h2:=List.length_erase_of_mem hx;have h3:=List.length_pos_of_mem hx;simp only [List.length_cons];omega
theorem Mn{α:Type}[DecidableEq α]{a b:List α}(hn:a.Nodup)(h:∀x∈a,x∈b)(hl:b.length<=a.length):∀x∈b,x∈a:=by
 intro y hy;apply ob;intro Ln;have:=E2 (y::a) b (by simp [Ln,hn]) (fun x hx=>by
  rcases jq.1 hx with rfl | hx
  ·exact hy
  exact h x hx)
 simp at this;omega
def pT(N:Nat)(xss:ah):Prop:=∀p∈xss,∀x y:Int,0<=x->x<N->0<=y->y<N->gi p x=gi p y->x=y
theorem Reach.range{xss:ah}(hs:Sys N xss)(h0:0<=x)(h1:x<N)(h:Reach xss x y):0<=y/\y<N:=by
 induction h with
 | refl=>exact⟨h0,h1⟩
 | step _ hp ih=>exact(hs _ hp).2 _ ih.1 ih.2
theorem Reach.back{xss:ah}(hs:Sys N xss)(hi:pT N xss)(h0:0<=x)(h1:x<N){p:ai}(hp:p∈xss):Reach xss (gi p x) x:=by
 have hy:=(hs p hp).2 x h0 h1;obtain⟨g,_,hm⟩:=sD hs hy.1 hy.2;have key:=Mn (a:=(b8 N xss (gi p x)).map (gi p)) (b:=b8 N xss (gi p x)) (by
  rw [List.nodup_iff_pairwise_ne,kM];refine List.Pairwise.imp_of_mem ?_ g.nodup;intro a b ha hb dN e;exact dN (hi p hp a b (g.range a ha).1 (g.range a ha).2 (g.range b hb).1 (g.range b hb).2 e))
  (fun z hz=>by
    obtain⟨u,hu,rfl⟩:=db.1 hz;exact(hm _).2 (.step ((hm u).1 hu) hp)) (by simp)
 obtain⟨u,hu,e⟩:=db.1 (key (gi p x) ((hm _).2 .refl));have:=hi p hp u x (g.range u hu).1 (g.range u hu).2 h0 h1 e;subst this;exact(hm u).1 hu
theorem Reach.symm{xss:ah}(hs:Sys N xss)(hi:pT N xss)(h0:0<=x)(h1:x<N)(h:Reach xss x y):Reach xss y x:=by
 induction h with
 | refl=>exact .refl
 | step hr hp ih=>
  have hy:=hr.range hs h0 h1;exact(Reach.back hs hi hy.1 hy.2 hp).trans ih
def oC(L:ai)(c:Int):ai->ai
 | []=>L
 | x::xs=>oC (L.set x.toNat c) c xs
theorem EG:∀(xs L:ai) (c:Int),(oC L c xs).length=L.length
 | [],_,_=>rfl
 | x::xs,L,c=>by rw [oC,EG xs];simp
theorem uX{N:Nat}:∀(xs L:ai) (c:Int),L.length=N->(∀x∈xs,0<=x/\x<N)->∀x:Int,0<=x->gi (oC L c xs) x=if x∈xs then c else gi L x
 | [],_,_,_,_,x,_=>by simp [oC]
 | y::xs,L,c,hl,h,x,hx=>by
  have hy:=h y (by simp);rw [oC,uX xs (L.set y.toNat c) c (by simpa using hl) (fun z hz=>h z (by simp [hz])) x hx,pw hy.1 (by rw [hl];exact hy.2) hx]
  by_cases h1:x∈xs
  ·simp [h1]
  ·rw [aw h1]
   by_cases h2:y=x
   ·subst h2;simp
   ·rw [aw h2,aw];simp only [jq,not_or];exact⟨fun e=>h2 e.symm,h1⟩
def bg(N:Nat)(xss:ah):Nat->ai×Int
 | 0=> (List.replicate N (-1),0)
 | i+1=>if 0<=gi (bg N xss i).1 i then bg N xss i else(oC (bg N xss i).1 (bg N xss i).2 (b8 N xss i),(bg N xss i).2+1)
theorem vk{xss:ah}(h:¬0<=gi (bg N xss i).1 i):bg N xss (i+1)=(oC (bg N xss i).1 (bg N xss i).2 (b8 N xss i),(bg N xss i).2+1):=by
 show(if _ then _ else _)=_;rw [aw h]
theorem wA{xss:ah}(h:0<=gi (bg N xss i).1 i):bg N xss (i+1)=bg N xss i:=by
 show(if _ then _ else _)=_;rw [ay h]
theorem nU(N:Nat)(xss:ah):∀i,(bg N xss i).1.length=N
 | 0=>by simp [bg]
 | i+1=>by
  simp only [bg]
  split
  ·exact nU N xss i
  ·rw [EG];exact nU N xss i
theorem wz(N:Nat)(xss:ah):∀i,0<=(bg N xss i).2/\(bg N xss i).2<=i
 | 0=>by simp [bg]
 | i+1=>by
  have:=wz N xss i;simp only [bg]
  split
  ·omega
  ·simp only;omega
theorem xm{v:Int}(h0:0<=x)(h1:x<N):gi (List.replicate N v) x=v:=by
 simp [gi,cN,List.getElem?_replicate,show x.toNat<N by omega]
theorem x4{N:Nat}{xss:ah}(hs:Sys N xss):∀i,i<=N->∀x:Int,0<=x->x<N->(0<=gi (bg N xss i).1 x↔∃j:Nat,j<i/\Reach xss j x)
 | 0,_,x,h0,h1=>by
  simp only [bg,xm h0 h1];constructor
  ·intro h;omega
  ·rintro⟨j,hj,_⟩;omega
 | i+1,hi,x,h0,h1=>by
  have ih:=x4 hs i (by omega);have hc:=wz N xss i;have ho:=sD hs (pt:=(i:Int)) (by omega) (by omega);simp only [bg]
  split
  ·rename_i hl;rw [ih x h0 h1];constructor
   ·rintro⟨j,hj,hr⟩;exact⟨j,by omega,hr⟩
   ·rintro⟨j,hj,hr⟩
    by_cases rn:j=i
    ·subst rn;obtain⟨j',im,fG⟩:=(ih j (by omega) (by omega)).1 hl;exact⟨j',im,fG.trans hr⟩
    ·exact⟨j,by omega,hr⟩
  ·simp only;rw [uX _ _ _ (nU N xss i) ho.1.range x h0]
   by_cases hm:x∈b8 N xss i
   ·rw [ay hm];exact⟨fun _=> ⟨i,by omega,(ho.2.2 x).1 hm⟩,fun _=>hc.1⟩
   ·rw [aw hm,ih x h0 h1];constructor
    ·rintro⟨j,hj,hr⟩;exact⟨j,by omega,hr⟩
    ·rintro⟨j,hj,hr⟩
     by_cases rn:j=i
     ·subst rn;exact absurd ((ho.2.2 x).2 hr) hm
     ·exact⟨j,by omega,hr⟩
theorem R3{xss:ah}(hs:Sys N xss)(hN:0<N):(bg N xss N).2=1↔∀x:Int,0<=x->x<N->Reach xss 0 x:=by
 have h1:(bg N xss 1).2=1:=by
  have:¬(0:Int)<=gi (bg N xss 0).1 (0:Nat):=by
   rw [show(bg N xss 0).1=List.replicate N (-1) from rfl,xm (by omega) (by omega)];omega
  rw [show(1:Nat)=0+1 from rfl,vk this];rfl
 constructor
 ·intro hc;have mono:∀i j,i<=j->(bg N xss i).2<=(bg N xss j).2:=by
   intro i j gU
   induction j with
   | zero=>
    have:i=0:=by omega
    subst this;omega
   | succ j ih=>
    by_cases e:i=j+1
    ·subst e;omega
    ·have:=ih (by omega);have h2:(bg N xss j).2<=(bg N xss (j+1)).2:=by
      simp only [bg];split
      ·omega
      ·simp only;omega
     omega
  have key:∀i:Nat,i<N->Reach xss 0 (i:Int):=by
   intro i
   induction i using Nat.strongRecOn with
   | _ i ih=>
    intro hi
    by_cases h0:i=0
    ·subst h0;exact .refl
    ·have hl:0<=gi (bg N xss i).1 i:=by
      apply ob;intro hn;have h2:=mono 1 i (by omega);have h3:=mono (i+1) N (by omega);have h4:(bg N xss (i+1)).2=(bg N xss i).2+1:=by rw [vk hn]
      omega
     obtain⟨j,hj,hr⟩:=(x4 hs i (by omega) i (by omega) (by omega)).1 hl;exact(ih j hj (by omega)).trans hr
  intro x h0 h2;have:=key x.toNat (by omega);rw [Int.toNat_of_nonneg h0]at this;exact this
 ·intro h;have key:∀i,1<=i->i<=N->(bg N xss i).2=1:=by
   intro i
   induction i with
   | zero=>intro h;omega
   | succ i ih=>
    intro _ hi
    by_cases e:i=0
    ·subst e;exact h1
    ·have hl:=(x4 hs i (by omega) i (by omega) (by omega)).2 ⟨0,by omega,h i (by omega) (by omega)⟩;rw [wA hl];exact ih (by omega) (by omega)
  exact key N (by omega) (bj _)
theorem vo{xss:ah}(hs:Sys N xss)(hN:0<N):(b8 N xss 0).length=N↔∀x:Int,0<=x->x<N->Reach xss 0 x:=by
 obtain⟨g,_,hm⟩:=sD hs (pt:=0) (by omega) (by omega);have G8:∀x:Int,x∈(List.range N).map (fun i:Nat=> (i:Int))↔0<=x/\x<N:=by
  intro x;rw [db];constructor
  ·rintro⟨i,hi,rfl⟩;have:i<N:=by simpa using hi
   omega
  intro h;exact⟨x.toNat,by simp;omega,by omega⟩
 have ni:((List.range N).map (fun i:Nat=> (i:Int))).Nodup:=by
  rw [List.nodup_iff_pairwise_ne,kM];refine List.Pairwise.imp ?_ (List.nodup_iff_pairwise_ne.1 List.nodup_range);intro a b dN;omega
 constructor
 ·intro hl x h0 h1;have:=Mn g.nodup (b:=(List.range N).map (fun i:Nat=> (i:Int))) (fun z hz=> (G8 z).2 (g.range z hz)) (by simp [hl]) x ((G8 x).2 ⟨h0,h1⟩);exact(hm x).1 this
 intro h;have h1:=E2 _ (b8 N xss 0) ni (fun z hz=>by
  have:=(G8 z).1 hz;exact(hm z).2 (h z this.1 this.2))
 have h2:=g.len;simp at h1;omega
structure nr(N:Nat)(xss:ah)(i c:Int)(L0 L op:ai)(bx:Int)(k:Nat):Prop where
 len:L.length=N
 qt:∀x:Int,0<=x->x<N->0<=gi L0 x->gi L x=gi L0 x
 new:∀x:Int,0<=x->x<N->gi L0 x<0->gi L x=gi L0 x\/(gi L x=c/\Reach xss i x)
 start:gi L i=c
 wE:∀x∈op,0<=x/\x<N/\gi L0 x<0/\gi L x=c
 vH:∀x:Int,0<=x->x<N->gi L0 x<0->gi L x=c->x∉op->∀p∈(if x=bx then xss.take k else xss),0<=gi L (gi p x)
section
variable {N:Nat} {xss:ah} {i c:Int} {L0 L op:ai} {bx:Int} {k:Nat}
theorem nr.init(hl:L0.length=N)(h0:0<=i)(h1:i<N)(hi:gi L0 i<0)(hc:0<=c):nr N xss i c L0 (L0.set i.toNat c) [i] (-1) 0 where
 len:=by simpa using hl
 qt x hx _ h:=by
  rw [pw h0 (by rw [hl];exact h1) hx]
  split
  ·rename_i e;subst e;omega
  rfl
 new x hx _ h:=by
  rw [pw h0 (by rw [hl];exact h1) hx]
  split
  ·rename_i e;subst e;exact .inr ⟨rfl,.refl⟩
  exact .inl O
 start:=by rw [pw h0 (by rw [hl];exact h1) h0,ay rfl]
 wE x hx:=by
  simp at hx;subst hx;exact⟨h0,h1,hi,by rw [pw h0 (by rw [hl];exact h1) h0,ay O]⟩
 vH x hx dH h o3 gV:=by
  rw [pw h0 (by rw [hl];exact h1) hx]at o3
  split at o3
  ·rename_i e;subst e;simp at gV
  omega
theorem nr.ae7{x:Int}(h:nr N xss i c L0 L (op++ [x]) (-1) 0):nr N xss i c L0 L op x 0 where
 len:=h.len
 qt:=h.qt
 new:=h.new
 start:=h.start
 wE y hy:=h.wE y (by simp [hy])
 vH y hy kq h0 hc gV:=by
  split
  ·simp
  rename_i bt;have:=h.vH y hy kq h0 hc (by simp [gV,bt]);rw [aw (by omega)]at this;exact this
theorem nr.rest(h:nr N xss i c L0 L op bx xss.length):nr N xss i c L0 L op (-1) 0 where
 len:=h.len
 qt:=h.qt
 new:=h.new
 start:=h.start
 wE:=h.wE
 vH y hy kq h0 hc gV:=by
  rw [aw (by omega)];have:=h.vH y hy kq h0 hc gV;rw [List.take_length]at this;simpa using this
theorem nr.skip(h:nr N xss i c L0 L op bx k)(hk:k<xss.length)(hy:0<=gi L (gi (gl xss k) bx)):nr N xss i c L0 L op bx (k+1) where
 len:=h.len
 qt:=h.qt
 new:=h.new
 start:=h.start
 wE:=h.wE
 vH y kq abL h0 hc gV p hp:=by
  have:=h.vH y kq abL h0 hc gV
  split at hp
  ·rename_i e;rw [ay e]at this;rw [E5 hk,jz]at hp;rcases hp with hp | hp
   ·exact this p hp
   simp at hp;subst hp;subst e;exact hy
  rename_i e;rw [aw e]at this;exact this p hp
theorem nr.push(hs:Sys N xss)(eK:0<=i)(h:nr N xss i c L0 L op bx k)(hk:k<xss.length)(fq:0<=bx)(dd:bx<N)(hb:gi L0 bx<0)(DP:gi L bx=c)(jP:0<=c)(hy:gi L (gi (gl xss k) bx)<0):
 nr N xss i c L0 (L.set (gi (gl xss k) bx).toNat c) (op++ [gi (gl xss k) bx]) bx (k+1):=by
 have jQ:gl xss k∈xss:=by rw [bP hk];exact dB _
 have sy:=(hs _ jQ).2 bx fq dd;have hg:∀z:Int,0<=z->gi (L.set (gi (gl xss k) bx).toNat c) z=if gi (gl xss k) bx=z then c else gi L z:=fun z hz=>pw sy.1 (by rw [h.len];exact sy.2) hz
 have ZP:Reach xss i bx:=by
  rcases h.new bx fq dd hb with h1 | h1
  ·omega
  exact h1.2
 have Hm:gi L0 (gi (gl xss k) bx)<0:=by
  apply ob;intro hn;have:=h.qt _ sy.1 sy.2 (by omega);omega
 have pos:∀z:Int,0<=z->0<=gi L z->0<=gi (L.set (gi (gl xss k) bx).toNat c) z:=fun z hz h1=>by
  rw [hg z hz];split<;>omega
 refine⟨by simpa using h.len,fun x hx dH h0=>?_,fun x hx dH h0=>?_,?_,fun x hx=>?_,fun x hx dH h0 hc gV p hp=>?_⟩
 ·rw [hg x hx,aw (fun e=>by subst e;omega)];exact h.qt x hx dH h0
 ·rw [hg x hx]
  split
  ·rename_i e;subst e;exact .inr ⟨rfl,.step ZP jQ⟩
  exact h.new x hx dH h0
 ·rw [hg i eK];split
  ·rfl
  exact h.start
 ·rcases jz.1 hx with hx | hx
  ·have:=h.wE x hx;refine⟨this.1,this.2.1,this.2.2.1,?_⟩;rw [hg x this.1];split
   ·rfl
   exact this.2.2.2
  simp at hx;subst hx;exact⟨sy.1,sy.2,Hm,by rw [hg _ sy.1,ay O]⟩
 have bt:gi (gl xss k) bx≠x:=fun e=>gV (by subst e;simp)
 rw [hg x hx,aw bt]at hc;have aaP:x∉op:=fun hm=>gV (by simp [hm])
 have h1:=h.vH x hx dH h0 hc aaP
 split at hp
 ·rename_i e;rw [ay e]at h1;rw [E5 hk,jz]at hp;rcases hp with hp | hp
  ·exact pos _ ((hs p (List.mem_of_mem_take hp)).2 x hx dH).1 (h1 p hp)
  simp at hp;subst hp;subst e;rw [hg _ sy.1,ay rfl];exact jP
 rename_i e;rw [aw e]at h1;exact pos _ ((hs p hp).2 x hx dH).1 (h1 p hp)
theorem nr.done(hs:Sys N xss)(hi:pT N xss){j:Nat}(hj:j<N)(wh:¬0<=gi (bg N xss j).1 j)(h:nr N xss j (bg N xss j).2 (bg N xss j).1 L [] (-1) 0):L=(bg N xss (j+1)).1:=by
 have hc:=wz N xss j;have ho:=sD hs (pt:=(j:Int)) (by omega) (by omega);have hm:=x4 hs j (by omega);rw [vk wh];apply jo
 ·rw [h.len,EG,nU]
 intro x h1 h2;have hx:x<N:=by rw [<-h.len];exact h1
 have e1:=bO (p:=L) (k:=x) h1;have e2:=bO (p:=oC (bg N xss j).1 (bg N xss j).2 (b8 N xss j)) (k:=x) h2;rw [<-e1];show _=(oC (bg N xss j).1 (bg N xss j).2 (b8 N xss j))[x];rw [<-e2,uX _ _ _ (nU N xss j) ho.1.range x (by omega)];have reached:∀y,Reach xss j y->gi (bg N xss j).1 y<0/\gi L y=(bg N xss j).2:=by
  intro y hr
  induction hr with
  | refl=>exact⟨by omega,h.start⟩
  | @step y p hr hp ih=>
   have hy:=hr.range hs (by omega) (by omega);have G4:=(hs p hp).2 y hy.1 hy.2;have QT:gi (bg N xss j).1 (gi p y)<0:=by
    apply ob;intro hn;obtain⟨m,hmj,QP⟩:=(hm _ G4.1 G4.2).1 (by omega);have:=(hm y hy.1 hy.2).2 ⟨m,hmj,QP.trans (Reach.back hs hi hy.1 hy.2 hp)⟩;omega
   refine⟨QT,?_⟩;have h3:=h.vH y hy.1 hy.2 ih.1 ih.2 (by simp) p (by rw [aw (by omega)];exact hp);rcases h.new _ G4.1 G4.2 QT with h4 | h4
   ·omega
   ·exact h4.1
 split
 ·rename_i jQ;exact(reached _ ((ho.2.2 _).1 jQ)).2
 ·rename_i jQ;have hnr:¬Reach xss j x:=fun hr=>jQ ((ho.2.2 _).2 hr)
  by_cases h5:0<=gi (bg N xss j).1 x
  ·exact h.qt x (by omega) (by omega) h5
  ·rcases h.new x (by omega) (by omega) (by omega)with h6 | h6
   ·exact h6
   ·exact absurd h6.2 hnr
end
def sK(L:ai):Nat:=L.countP (fun x=>decide (x<0))
theorem Ue{L:ai}{x c:Int}(h0:0<=x)(h1:x<L.length)(hx:gi L x<0)(hc:0<=c):sK (L.set x.toNat c)+1=sK L:=by
 obtain⟨k,rfl⟩:∃k:Nat,x=k:=⟨x.toNat,by omega⟩;have hk:k<L.length:=by omega
 rw [bO hk]at hx;simp only [sK,gG];rw [List.countP_set (h:=hk)];have:0<L.countP (fun x=>decide (x<0)):=List.countP_pos_iff.2 ⟨L[k],dB _,by simpa using hx⟩;simp [hx,show ¬c<0 by omega];omega
end
section
open Go.RowKit
variable{k:Nat}
theorem St.shrink{w0 w:aa}{ks:List Ck}{k:Ck}(h:St w0 w ks)(i:Nat)(hk:ks[i]?=some k)(m:Nat)(hm:m<=k.n)(hM:eG k.vs=false):St w0 w (ks.set i { k with n:=m,vs:=k.vs.take m }):=by
 have ze:=(gS.1 hk).1;refine⟨h.below,fun x hx=>?_,?_⟩
 ·obtain⟨j,hj,rfl⟩:=fJ.1 hx;have im:j<ks.length:=by simpa using hj
  rw [List.getElem_set]
  split
  ·obtain⟨h1,h2,h3,h4⟩:=h.pY hk hM;refine .qq (RO m hM) ⟨by simp;omega,by show m<=k.c;omega,h3,?_⟩;rcases h4 with h4 | ⟨g,o,cur,hA,hg,hh,hs,hc⟩
   ·exact .inl h4
   refine .inr ⟨g,o,cur,hA,hg,hh,hs,fun j hj=>?_⟩;have hj:j<m:=hj;show _=(k.vs.take m)[j]?;rw [hc j (by omega),rL,ay hj]
  exact h.own _ (dB _)
 rw [F2 Ck.ik ks i k { k with n:=m,vs:=k.vs.take m } hk rfl];exact h.apart
theorem St.agl{w0 w:aa}{ks:List Ck}{t:ae}{A:aj}{n c:Nat}{xs:ai}(h:St w0 w ks)(i:Nat)(hk:ks[i]?=some (az t A n c xs))(m:Nat)(hm:m<=n):St w0 w (ks.set i (az t A m c (xs.take m))):=by
 have:=h.shrink i hk m hm (sA _);simpa [az]using this
theorem WT(op:ai)(h:0<op.length):∃o x,op=o++ [x]:=⟨op.dropLast,op.getLast (by intro e;simp [e]at h),(List.dropLast_concat_getLast _).symm⟩
theorem HE(A:aj)(n c:Nat)(rs:List aN)(xss:ah)(N:Nat)(w:aa)(hR:br w A n rs xss)(hn:n<=9223372036854775807)(hs:Sys N xss)(ug:pT N xss)(hN:N<=1048576):
 aG prog 127 [ak N,.slice A n c] w (fun v w'=>∃A',v= .tuple #[.slice A' N N,ak (bg N xss N).2]/\St w w' [az 2 A' N N (bg N xss N).1]):=by
 have bU:∀k:Int,0<=k->k<n->(rg rs k).n=N:=fun k rq hk=>by
  rw [<-hR.oG rq hk];exact(hs _ (tW rq (by rw [hR.len];exact hk))).1
 refine bA func127 O ntmps127 O (rA O) (a8 O (eH (St.refl w) O O O ?_));intro A1 w1 aA;refine ar O (aL (Fm A1 1 (-1) N w1 (aA.bI 0 O) hN) O ?_);rintro _ w2 ⟨A6,rfl,aB⟩;have aB:=(aA.call2 aB).tail;refine aI O (Cd.loop (α:=Nat) (fun i=> [(1,.slice A n c),(6,.slice A6 N N),(7,ak (bg N xss i).2),(17,ak N),(18,ak i)]) (fun i w'=>St w w' [az 2 A6 N N (bg N xss i).1]/\i<=N) (fun i=>N - i) 0 (ajs O) ⟨aB,a7 _⟩ ?_);rintro i e w3 ⟨aH,hi⟩;have mo:=wz N xss i;refine bL O (aR _ O (fun h1=>?_) (fun h1=>?_))
 ·refine aE O (aM (aH.bI 0 O).2 O (bk (aH.bI 0 O) O (aI O ?_)));refine aR _ O (fun h2=>?_) (fun h2=>?_)
  ·refine aE O (aK O (aU O (tQ ?_)));exact⟨i+1,by omega,⟨O,O,by rw [wA h2];rfl,O,O,av⟩,by rw [wA h2];exact aH,by omega⟩
  refine aE O (aM (aH.bI 0 O).2 O (lu 0 aH O O O (by omega) ?_));intro w4 aV;refine ar O (eH aV O O O ?_);intro A9 w5 aW;refine aI O ?_;have a6:sK (bg N xss i).1<=N:=by
   have:=List.countP_le_length (p:=fun x:Int=>decide (x<0)) (l:=(bg N xss i).1);rw [nU]at this;exact this
  have hun1:=Ue (L:=(bg N xss i).1) (x:=i) (c:=(bg N xss i).2) (by omega) (by rw [nU];omega) (by omega) mo.1;refine Cd.loop (α:=ai×ai×aj×Nat) (fun q=> [(1,.slice A n c),(6,.slice A6 N N),(7,ak (bg N xss i).2),(9,.slice q.2.2.1 q.2.1.length q.2.2.2),(17,ak N),(18,ak i)]) (fun q w'=>St w w' [az 2 q.2.2.1 q.2.1.length q.2.2.2 q.2.1,az 2 A6 N N q.1]/\nr N xss i (bg N xss i).2 (bg N xss i).1 q.1 q.2.1 (-1) 0/\sK q.1+q.2.1.length<=N) (fun q=>sK q.1+q.2.1.length) ((bg N xss i).1.set (i:Int).toNat (bg N xss i).2,[(i:Int)],A9,1) (ajs O) ⟨aW,nr.init (nU N xss i) (by omega) (by omega) (by omega) mo.1,by show sK ((bg N xss i).1.set (i:Int).toNat (bg N xss i).2)+1<=N;omega⟩ ?_;rintro⟨L,op,A9,c9⟩ e2 w6 ⟨ba,hD,hu⟩;dsimp only at ba hD hu|-;refine a8 O (bc O O (aI O ?_));refine aR _ O (fun h3=>?_) (fun h3=>?_)
  ·obtain⟨o,x,rfl⟩:=WT op (by omega);have KS:(o++ [x]).length=o.length+1:=by simp
   have hx:gi (o++ [x]) (((o++ [x]).length:Int) - 1)=x:=by
    rw [show(((o++ [x]).length:Nat):Int) - 1=((o.length:Nat):Int) by omega,bO (by omega)];simp
   have uq:=hD.wE x (by simp);refine aE O (bc O O (dQ O ?_));refine aM (ba.bI 0 O).2 O (bk (ba.bI 0 O) O ?_);rw [hx];refine ar O (bc O O (dQ O ?_));refine It O O O (by have:=(ba.cap 0 O).1;dsimp only at this;omega) ?_;have bG:=ba.agl 0 O o.length (by omega);rw [List.take_left]at bG;rw [show(((o++ [x]).length:Nat):Int) - 1=((o.length:Nat):Int) by omega,gG];refine ar O (bc O O (aI O ?_));refine Cd.loop (α:=Nat×ai×ai×aj×Nat) (fun q=> [(1,.slice A n c),(6,.slice A6 N N),(7,ak (bg N xss i).2),(9,.slice q.2.2.2.1 q.2.2.1.length q.2.2.2.2),(10,ak x),(17,ak N),(18,ak i),(46,.slice A n c),(47,ak n),(48,ak (q.1:Int))]) (fun q w'=>St w w' [az 2 q.2.2.2.1 q.2.2.1.length q.2.2.2.2 q.2.2.1,az 2 A6 N N q.2.1]/\nr N xss i (bg N xss i).2 (bg N xss i).1 q.2.1 q.2.2.1 x q.1/\q.1<=n/\gi q.2.1 x=(bg N xss i).2/\sK q.2.1+q.2.2.1.length=sK L+o.length) (fun q=>n - q.1) (0,L,o,A9,c9) (ajs O) ⟨bG,hD.ae7,a7 _,uq.2.2.2,O⟩ ?_;rintro⟨k,L',o',A',c'⟩ e3 w8 ⟨bS,Bp,hk,Hl,Rs⟩;dsimp only at bS Bp hk Hl Rs|-;refine bL O (aR _ O (fun h4=>?_) (fun h4=>?_))
   ·have hM:=bS.bY hR;have cT:=hM.at_ (i:=k) (by omega) h4;have jw:=bU k (by omega) h4;have jQ:gl xss k∈xss:=tW (by omega) (by rw [hR.len];exact h4);have hy:=(hs _ jQ).2 x uq.1 uq.2.1;refine aE O (ajh hM.top.2 O O O (by omega) h4 (dI hM.top O (ar O (aM cT.2 O (bk cT O (ar O (aM (bS.bI 1 O).2 O (bk (bS.bI 1 O) O (aI O ?_)))))))));refine aR _ O (fun h5=>?_) (fun h5=>?_)
    ·refine aE O (aM (bS.bI 1 O).2 O (lu 1 bS O O O (by omega) ?_));intro w9 bH;refine ar O (eH bH O O O ?_);intro bR eL bQ;refine fN 1 bQ O (bQ.bI 0 O) O O O fun cL gq fI dX=>ar O (aK O (aU O (tQ ?_)));have hu9:=Ue (L:=L') (x:=gi (gl xss k) x) (c:=(bg N xss i).2) hy.1 (by rw [Bp.len];exact hy.2) h5 mo.1;refine⟨(k+1,L'.set (gi (gl xss k) x).toNat (bg N xss i).2,o'++ [gi (gl xss k) x],cL,gq),by show n - (k+1)<n - k;omega,⟨O,O,O,by rw [cS];rfl,O,O,O,O,O,O,av⟩,?_,Bp.push hs (by omega) (by rw [hR.len];omega) uq.1 uq.2.1 uq.2.2.1 Hl mo.1 h5,by show k+1<=n;omega,?_,?_⟩
     ·have p5:=dX.tail;simp only [cS,List.length_singleton];exact p5
     ·show gi (L'.set _ _) x=_;rw [pw hy.1 (by rw [Bp.len];exact hy.2) uq.1]
      split
      ·rfl
      exact Hl
     show sK (L'.set _ _)+ (o'++ [_]).length=_;simp only [cS,List.length_singleton];omega
    refine aE O (aK O (aU O (tQ ?_)));exact⟨(k+1,L',o',A',c'),by show n - (k+1)<n - k;omega,(ajs O),bS,Bp.skip (by rw [hR.len];omega) (by omega),by show k+1<=n;omega,Hl,Rs⟩
   refine bw O (bz (CU O (tQ ?_)));have eN:k=xss.length:=by rw [hR.len];omega
   subst eN;exact⟨(L',o',A',c'),by show sK L'+o'.length<sK L+ (o++ [x]).length;omega,(ajs O),bS,Bp.rest,by show sK L'+o'.length<=N;omega⟩
  have tl:op=[]:=qH (by omega);subst tl;have hL:=hD.done hs ug (by omega) h2;refine bw O (bz (dh O (aK O (ar O (aK O (aU O (tQ ?_)))))));refine⟨i+1,by omega,⟨O,O,by rw [vk h2];rfl,O,O,av⟩,?_,by omega⟩;rw [<-hL];exact ba.tail
 refine bw O (bz (gE O ?_));refine zN O O ?_;have:i=N:=by omega
 subst this;exact⟨A6,O,aH⟩
def Comm(xss:ah)(i k f:Nat):Prop:=gi (gl xss k) (gi (gl xss i) f)=gi (gl xss i) (gi (gl xss k) f)/\gi (gl xss i) f≠gi (gl xss k) f
instance (xss:ah)(i k f:Nat):Decidable (Comm xss i k f):=by unfold Comm;exact inferInstance
def tO(xss:ah):Prop:=∀p∈xss,p.length=(gl xss 0).length/\ma p/\sO p
instance (xss:ah):Decidable (tO xss):=by unfold tO;exact inferInstance
def aZ(xss:ah):Prop:=(1<=xss.length/\xss.length<=5)/\(2<=(gl xss 0).length/\(gl xss 0).length<=400)/\tO xss/\(∀i,i<xss.length->∀k,k<xss.length->i+2<=k->∀f,f< (gl xss 0).length->Comm xss i k f)/\(b8 (gl xss 0).length xss 0).length=(gl xss 0).length
instance (xss:ah):Decidable (aZ xss):=by unfold aZ;exact inferInstance
theorem ma.inj{p:ai}(h:ma p){x y:Int}(hx:0<=x)(dH:x<p.length)(hy:0<=y)(kq:y<p.length)(e:gi p x=gi p y):x=y:=by
 obtain⟨a,rfl⟩:∃a:Nat,x=a:=⟨x.toNat,by omega⟩;obtain⟨b,rfl⟩:∃b:Nat,y=b:=⟨y.toNat,by omega⟩;rw [bO (by omega),bO (by omega)]at e;have:=(List.getElem_inj (h₀:=by omega) (h₁:=by omega) h.2.2).1 e;omega
theorem tO.sys{xss:ah}(h:tO xss):Sys (gl xss 0).length xss:=fun p hp=>by
 have h1:=h p hp;refine⟨h1.1,fun x h0 hx=>?_⟩;have:=h1.2.1.range (i:=x) h0 (by omega);omega
theorem tO.inj{xss:ah}(h:tO xss):pT (gl xss 0).length xss:=fun p hp x y hx dH hy kq e=>by
 have h1:=h p hp;exact h1.2.1.inj hx (by omega) hy (by omega) e
def Part(xss:ah)(k:Nat):Prop:=∀p∈xss.take k,p.length=(gl xss 0).length/\ma p/\sO p
theorem Part.step{xss:ah}(h:Part xss k)(hk:k<xss.length)(h1:(gl xss k).length=(gl xss 0).length)(h2:ma (gl xss k))(h3:sO (gl xss k)):Part xss (k+1):=by
 intro p hp;rw [E5 hk,jz]at hp;rcases hp with hp | hp
 ·exact h p hp
 simp at hp;subst hp;exact⟨h1,h2,h3⟩
theorem Part.all{xss:ah}(h:Part xss k)(hk:xss.length<=k):tO xss:=by
 intro p hp;refine h p ?_;rw [jW hk];exact hp
theorem tO.at_{xss:ah}(h:tO xss)(hk:k<xss.length):(gl xss k).length=(gl xss 0).length/\ma (gl xss k)/\sO (gl xss k):=h _ (by rw [bP hk];exact dB _)
end
section
def cell(M:ah)(i:Nat)(f:Int):Int:=gi (gl M i) f
def TD(M:ah)(i f:Nat)(v:Int):ah:=M.set i ((gl M i).set f v)
def put(M:ah)(i f g:Nat):ah:=TD (TD M i f g) i g f
def C8(n F:Nat)(M:ah):Prop:=M.length=n/\∀p∈M,p.length=F
section
variable {n F:Nat} {M:ah}
theorem C8.row(h:C8 n F M){i:Nat}(hi:i<n):(gl M i).length=F:=h.2 _ (by rw [bP (by rw [h.1];exact hi)];exact dB _)
theorem Yj{i k:Nat}{p:ai}(hi:i<M.length):gl (M.set i p) k=if i=k then p else gl M k:=by
 simp only [gl,gG,cN,mG]
 by_cases e:i=k
 ·subst e;simp [hi]
 simp [e]
end
inductive yr(n:Nat)(M:ah):Int->Prop where
 | zero:yr n M 0
 | step {y:Int} {i:Nat}:yr n M y->i<n->0<=y->0<=cell M i y->yr n M (cell M i y)
structure Inv(n F:Nat)(M:ah)(met at_:Nat):Prop where
 CC:C8 n F M
 n0:0<n
 met1:1<=met
 metF:met<=F
 cells:∀(i:Nat) (f:Int),i<n->0<=f->f<F->cell M i f= -1\/(0<=cell M i f/\cell M i f<met/\f<met/\cell M i (cell M i f)=f/\cell M i f≠f)
 known:∀a:Nat,a<at_->0<=cell M (a%n) (a / n:Nat)
 yC:∀f:Nat,f<met->yr n M f
 le:at_<=met*n
section
variable {n F:Nat} {M:ah} {met at_:Nat}
def grow(n F:Nat)(ok:ah->Nat->Nat->Bool)(fin:ah->Bool):Nat->Nat->Nat->ah->List (ah)
 | 0,_,_,_=> []
 | k+1,at_,met,M=>
  if at_=met*n then(if met=F/\fin M=true then [M]else [])
  else if 0<=cell M (at_%n) (at_ / n:Nat)then grow n F ok fin k (at_+1) met M
  else(List.range' (at_ / n+1) (min met (F - 1) - at_ / n)).flatMap fun g=>
   if 0<=cell M (at_%n) (g:Nat)then []else if ok (put M (at_%n) (at_ / n) g) (at_%n) (at_ / n)=true then grow n F ok fin k (at_+1) (max met (g+1)) (put M (at_%n) (at_ / n) g)else []
end
def kn(M:ah)(i:Nat)(x:Int):Int:=if x<0 then -1 else cell M i x
def Il(M:ah)(i k:Nat)(f:Int):Prop:=(0<=cell M i f->cell M i f≠cell M k f)/\(0<=kn M k (cell M i f)->0<=kn M i (cell M k f)->kn M k (cell M i f)=kn M i (cell M k f))
instance (M:ah)(i k:Nat)(f:Int):Decidable (Il M i k f):=by unfold Il;exact inferInstance
def Ik(M:ah)(f:Int):Prop:=∀i,i<M.length->∀k,k<M.length->i+2<=k->Il M i k f
instance (M:ah)(f:Int):Decidable (Ik M f):=by unfold Ik;exact inferInstance
def MJ(M:ah)(i k:Nat)(f g:Int):Prop:=cell M k f=g\/(0<=cell M k f/\0<=cell M k g/\0<=cell M i (cell M k f)/\cell M i (cell M k f)≠cell M k g)\/(0<=cell M k f/\0<=cell M k g/\0<=cell M i (cell M k g)/\cell M i (cell M k g)≠cell M k f)
instance (M:ah)(i k:Nat)(f g:Int):Decidable (MJ M i k f g):=by unfold MJ;exact inferInstance
section
variable {n F:Nat} {L M:ah}
theorem Inv.full(h:Inv n F L F (F*n)){i:Nat}{f:Int}(hi:i<n)(h0:0<=f)(hf:f<F):0<=cell L i f:=by
 obtain⟨q,rfl⟩:∃q:Nat,f=q:=⟨f.toNat,by omega⟩;have h1:q*n+i<F*n:=by
  have:(q+1)*n<=F*n:=Nat.mul_le_mul_right n (by omega);rw [Nat.succ_mul]at this;omega
 have h2:=h.known (q*n+i) h1;rw [Nat.add_comm,Nat.add_mul_mod_self_right,Nat.mod_eq_of_lt hi,Nat.add_mul_div_right _ _ h.n0,Nat.div_eq_of_lt hi,Nat.zero_add]at h2;exact h2
theorem Inv.inv(h:Inv n F L F (F*n)){i:Nat}{f:Int}(hi:i<n)(h0:0<=f)(hf:f<F):0<=cell L i f/\cell L i f<F/\cell L i (cell L i f)=f/\cell L i f≠f:=by
 have h1:=h.full hi h0 hf;rcases h.cells i f hi h0 hf with h2 | h2
 ·omega
 exact⟨h2.1,h2.2.1,h2.2.2.2.1,h2.2.2.2.2⟩
theorem Inv.af0(h:Inv n F L F (F*n))(hF:F<=400):tO L:=by
 intro p hp;obtain⟨i,hi,rfl⟩:=fJ.1 hp;have bW:i<n:=by rw [<-h.CC.1];exact hi
 have e:L[i]=gl L i:=(bP hi).symm;rw [e];have hl:=h.CC.row bW;have nO:=h.CC.row h.n0;have hinv:∀f:Int,0<=f->f<F->0<=gi (gl L i) f/\gi (gl L i) f<F/\gi (gl L i) (gi (gl L i) f)=f/\gi (gl L i) f≠f:=fun f h0 hf=>h.inv bW h0 hf
 refine⟨by rw [hl,<-nO];rfl,⟨by omega,fun x hx=>?_,?_⟩,fun k hk=>?_⟩
 ·obtain⟨k,hk,rfl⟩:=fJ.1 hx;rw [<-bO hk];have:=hinv k (by omega) (by omega);omega
 ·rw [List.nodup_iff_pairwise_ne,List.pairwise_iff_getElem];intro a b ha hb dN e2;rw [<-bO ha,<-bO hb]at e2;have e3:=(hinv a (by omega) (by omega)).2.2.1;have e4:=(hinv b (by omega) (by omega)).2.2.1;rw [e2,e4]at e3;omega
 have:=hinv k (by omega) (by omega);exact⟨this.2.2.2,this.2.2.1⟩
theorem yr.reach(h:L.length=n){x:Int}(hc:yr n L x):Reach L 0 x:=by
 induction hc with
 | zero=>exact .refl
 | step _ hi _ _ ih=>exact .step ih (tW (by omega) (by omega))
theorem Inv.ll(h:Inv n F L F (F*n))(hn:n<=5)(hF:2<=F/\F<=400)(hJ:∀e:Nat,e<F->Ik L e):aZ L:=by
 have nO:(gl L 0).length=F:=h.CC.row h.n0;have hr:=h.af0 hF.2;have hs:=hr.sys;have hlen:=h.CC.1;have qk:=h.n0;refine⟨⟨by omega,by omega⟩,⟨by omega,by omega⟩,hr,fun i hi k hk mr f hf=>?_,?_⟩
 ·have h1:=hJ f (by omega) i hi k hk mr;have ci:=h.inv (i:=i) (f:=f) (by omega) (by omega) (by omega);have ck:=h.inv (i:=k) (f:=f) (by omega) (by omega) (by omega);have Wu:=h.inv (i:=k) (f:=cell L i f) (by omega) ci.1 ci.2.1;have Wt:=h.inv (i:=i) (f:=cell L k f) (by omega) ck.1 ck.2.1;have e1:kn L k (cell L i f)=cell L k (cell L i f):=by unfold kn;rw [if_neg (by omega)]
  have e2:kn L i (cell L k f)=cell L i (cell L k f):=by unfold kn;rw [if_neg (by omega)]
  have h2:=h1.2;rw [e1,e2]at h2;exact⟨h2 Wu.1 Wt.1,h1.1 ci.1⟩
 rw [nO]at hs|-;rw [vo hs (by omega)];intro x h0 hx;have:=h.yC x.toNat (by omega);rw [Int.toNat_of_nonneg h0]at this;exact this.reach hlen
def forms(n F:Nat)(k at_ met:Nat)(M:ah):List (ah):=(grow n F (fun _ _ _=>true) (fun _=>true) k at_ met M).filter fun L=>decide (aZ L)
end
end
section
open Go.RowKit
def yi(init:ai)(ix v:Nat->Int):Nat->ai
 | 0=>init
 | k+1=> (yi init ix v k).set (ix k).toNat (v k)
theorem Mj(init:ai)(ix v:Nat->Int):∀k,(yi init ix v k).length=init.length
 | 0=>rfl
 | k+1=>by simp [yi,Mj init ix v k]
theorem TC{init:ai}{ix v:Nat->Int}{N:Nat}(hN:init.length=N):∀k,(∀j,j<k->0<=ix j/\ix j<N)->(∀i j,i<k->j<k->ix i=ix j->i=j)->∀j,j<k->gi (yi init ix v k) (ix j)=v j
 | 0,_,_,j,hj=>by omega
 | k+1,hr,hi,j,hj=>by
  have h1:=hr k (by omega);have h2:=hr j hj;show gi ((yi init ix v k).set (ix k).toNat (v k)) (ix j)=v j;rw [pw h1.1 (by rw [Mj,hN];exact h1.2) h2.1]
  by_cases e:ix k=ix j
  ·rw [ay e,hi k j (by omega) hj e]
  ·rw [aw e];have:j≠k:=fun tf=>e (by rw [tf])
   exact TC hN k (fun j hj=>hr j (by omega)) (fun i j h h'=>hi i j (by omega) (by omega)) j (by omega)
def vq(m:Nat):ai:=(List.range m).map fun(k:Nat)=> (k:Int)
theorem H2(m:Nat):(vq m).length=m:=by simp [vq]
theorem Mk{m:Nat}{x:Int}:x∈vq m↔0<=x/\x<m:=by
 simp only [vq,db,fU];exact⟨fun⟨k,hk,e⟩=>by omega,fun h=> ⟨x.toNat,by omega,by omega⟩⟩
def kB(N:Nat)(o:ai):ai:=yi (List.replicate N 0) (fun k=>gi o k) (fun k=> (k:Int)) o.length
theorem V0(N:Nat)(o:ai):(kB N o).length=N:=by simp [kB,Mj]
structure sR(N:Nat)(o:ai):Prop where
 len:o.length=N
 nodup:o.Nodup
 range:∀x∈o,0<=x/\x< (N:Int)
section
variable {N:Nat} {o:ai}
theorem sR.cj(h:sR N o){k:Nat}(hk:k<N):0<=gi o k/\gi o k<N:=h.range _ (gi_in (by rw [h.len];exact hk))
theorem sR.inj(h:sR N o){i j:Nat}(hi:i<N)(hj:j<N)(e:gi o i=gi o j):i=j:=by
 rw [bO (by rw [h.len];exact hi),bO (by rw [h.len];exact hj)]at e;exact(List.getElem_inj h.nodup).1 e
theorem sR.back(h:sR N o){k:Nat}(hk:k<N):gi (kB N o) (gi o k)=k:=
 TC (N:=N) (by simp) o.length (fun j hj=>h.cj (by rw [<-h.len];exact hj)) (fun i j hi hj e=>h.inj (by rw [<-h.len];exact hi) (by rw [<-h.len];exact hj) e) k (by rw [h.len];exact hk)
theorem sR.GS(h:sR N o){x:Int}(h0:0<=x)(h1:x<N):∃k:Nat,k<N/\gi o k=x:=by
 apply ob;intro bt;have hx:x∉o:=fun hm=>by
  obtain⟨k,hk,e⟩:=fJ.1 hm;exact bt ⟨k,by rw [<-h.len];exact hk,by rw [bO hk];exact e⟩
 have:=pL (N:=N) (l:=x::o) (nt.2 ⟨hx,h.nodup⟩) (fun y hy=>by
  rcases jq.1 hy with rfl | hy
  ·exact⟨h0,h1⟩
  exact h.range y hy)
 rw [List.length_cons,h.len]at this;omega
theorem sR.vD(h:sR N o){x:Int}(h0:0<=x)(h1:x<N):∃k:Nat,k<N/\gi o k=x/\gi (kB N o) x=k:=by
 obtain⟨k,hk,e⟩:=h.GS h0 h1;exact⟨k,hk,e,by rw [<-e];exact h.back hk⟩
end
def pe(o b mv:ai):ai:=o.map fun x=>gi b (gi mv x)
def dV(N:Nat)(xss:ah)(f:Int):ah:=xss.map fun mv=>pe (b8 N xss f) (kB N (b8 N xss f)) mv
theorem qP(N:Nat)(xss:ah)(f:Int):(dV N xss f).length=xss.length:=by simp [dV]
def mM(a b:Int):Int:=if a<b then -1 else if b<a then 1 else 0
def gJ:ai->ai->Int
 | [],[]=>0
 | [],_::_=> -1
 | _::_,[]=>1
 | a::l,b::r=>if mM a b=0 then gJ l r else mM a b
def iD:ah->ah->Int
 | [],[]=>0
 | [],_::_=> -1
 | _::_,[]=>1
 | a::l,b::r=>if gJ a b=0 then iD l r else gJ a b
theorem AV{a b:Int}:mM a b=0↔a=b:=by unfold mM;by_cases h:a<b<;>by_cases h':b<a<;>simp [h,h']<;>omega
theorem FL{a b:Int}:mM a b<0↔a<b:=by unfold mM;by_cases h:a<b<;>by_cases h':b<a<;>simp [h,h']<;>omega
theorem WC(a b:Int):mM b a= - mM a b:=by unfold mM;split<;>split<;>omega
theorem zC:∀ {a b:ai},gJ a b=0↔a=b
 | [],[]=>by simp [gJ]
 | [],_::_=>by simp [gJ]
 | _::_,[]=>by simp [gJ]
 | a::l,b::r=>by
  simp only [gJ]
  split
  ·rename_i h;rw [zC,AV.1 h];simp
  ·rename_i h;constructor
   ·intro h';exact absurd h' h
   ·intro h';exact absurd (AV.2 (List.cons.inj h').1) h
theorem Hv:∀ {a b:ah},iD a b=0↔a=b
 | [],[]=>by simp [iD]
 | [],_::_=>by simp [iD]
 | _::_,[]=>by simp [iD]
 | a::l,b::r=>by
  simp only [iD]
  split
  ·rename_i h;rw [Hv,zC.1 h];simp
  ·rename_i h;constructor
   ·intro h';exact absurd h' h
   ·intro h';exact absurd (zC.2 (List.cons.inj h').1) h
theorem Hw:∀(a b:ai),gJ b a= - gJ a b
 | [],[]=>rfl
 | [],_::_=>rfl
 | _::_,[]=>rfl
 | a::l,b::r=>by
  simp only [gJ];rw [WC a b,Hw l r]
  by_cases h:mM a b=0
  ·rw [ay h,ay (by omega)]
  ·rw [aw h,aw (by omega)]
theorem Sb:∀(a b:ah),iD b a= - iD a b
 | [],[]=>rfl
 | [],_::_=>rfl
 | _::_,[]=>rfl
 | a::l,b::r=>by
  simp only [iD];rw [Hw a b,Sb l r]
  by_cases h:gJ a b=0
  ·rw [ay h,ay (by omega)]
  ·rw [aw h,aw (by omega)]
theorem LF:∀ {a b c:ai},gJ a b<0->gJ b c<0->gJ a c<0
 | [],[],_,h,_=>by simp [gJ]at h
 | [],_::_,[],_,h=>by simp [gJ]at h
 | [],_::_,_::_,_,_=>by simp [gJ]
 | _::_,[],_,h,_=>by simp [gJ]at h
 | _::_,_::_,[],_,h=>by simp [gJ]at h
 | a::l,b::r,c::s,h,h'=>by
  simp only [gJ]at h h'|-
  by_cases e1:mM a b=0
  ·have:=AV.1 e1;subst this;rw [ay e1]at h
   by_cases e2:mM a c=0
   ·rw [ay e2]at h'|-;exact LF h h'
   ·rw [aw e2]at h'|-;exact h'
  ·rw [aw e1]at h;have dN:=FL.1 h
   by_cases e2:mM b c=0
   ·have:=AV.1 e2;subst this;rw [aw e1];exact h
   ·rw [aw e2]at h';have DP:=FL.1 h';have xA:mM a c<0:=FL.2 (by omega);rw [aw (by omega)];exact xA
theorem Sc:∀ {a b c:ah},iD a b<0->iD b c<0->iD a c<0
 | [],[],_,h,_=>by simp [iD]at h
 | [],_::_,[],_,h=>by simp [iD]at h
 | [],_::_,_::_,_,_=>by simp [iD]
 | _::_,[],_,h,_=>by simp [iD]at h
 | _::_,_::_,[],_,h=>by simp [iD]at h
 | a::l,b::r,c::s,h,h'=>by
  simp only [iD]at h h'|-
  by_cases e1:gJ a b=0
  ·have:=zC.1 e1;subst this;rw [ay e1]at h
   by_cases e2:gJ a c=0
   ·rw [ay e2]at h'|-;exact Sc h h'
   ·rw [aw e2]at h'|-;exact h'
  ·rw [aw e1]at h
   by_cases e2:gJ b c=0
   ·have:=zC.1 e2;subst this;rw [aw e1];exact h
   ·rw [aw e2]at h';have xA:gJ a c<0:=LF h h';rw [aw (by omega)];exact xA
def ku(N:Nat)(xss:ah):Nat->ah
 | 0=>dV N xss 0
 | k+1=>if iD (dV N xss k) (ku N xss k)<0 then dV N xss k else ku N xss k
def iP(N:Nat)(xss:ah):ah:=ku N xss N
theorem LB{N:Nat}{xss:ah}:∀k,(¬iD (dV N xss 0) (ku N xss k)<0)/\∀f:Nat,f<k->¬iD (dV N xss f) (ku N xss k)<0
 | 0=> ⟨by show ¬iD (dV N xss 0) (dV N xss 0)<0;rw [Hv.2 rfl];omega,fun f hf=>by omega⟩
 | k+1=>by
  obtain⟨h0,h1⟩:=LB (N:=N) (xss:=xss) k;simp only [ku]
  split
  ·rename_i h;have tr:∀x,¬iD x (ku N xss k)<0->¬iD x (dV N xss k)<0:=fun x hx hc=>hx (Sc hc h)
   refine⟨tr _ h0,fun f hf=>?_⟩
   by_cases e:f=k
   ·subst e;rw [Hv.2 rfl];omega
   ·exact tr _ (h1 f (by omega))
  ·rename_i h;refine⟨h0,fun f hf=>?_⟩
   by_cases e:f=k
   ·subst e;exact h
   ·exact h1 f (by omega)
theorem R8{N:Nat}{xss:ah}(hN:0<N):∀k,k<=N->∃f:Nat,f<N/\ku N xss k=dV N xss f
 | 0,_=> ⟨0,hN,rfl⟩
 | k+1,hk=>by
  simp only [ku]
  split
  ·exact⟨k,by omega,O⟩
  ·exact R8 hN k (by omega)
section
variable {n F:Nat}
end
theorem afR{rs:List aN}{l m:Nat}{j:Nat}(hj:j<m):rg ((rs.drop l).take m) j=rg rs ((l+j:Nat):Int):=by
 have e:(((l+j:Nat):Int)).toNat=l+j:=by omega
 rw [rg,rg,e];simp [cN,rL,hj]
theorem wx(A:aj)(n c:Nat)(rs:List aN)(xss:ah)(w:aa)(hR:br w A n rs xss)(hn:n<=c)(hc:c<=9223372036854775807):
 aG prog 66 [.agg #[.slice A n c]] w (fun v w'=>v= .bool (decide (aZ xss))/\St w w' []):=by
 have gP:=hR.len;have r0:0<n->(gl xss 0).length=(rg rs 0).n:=fun h=>hR.oG (by omega) (by omega)
 refine bA func66 O ntmps66 O (cJ O) (a8 O (jd (St.refl w) O O ?_));intro Ab w1 hS;refine ar O (aL (zM _ _ _ _ _ _ (hS.rd 0 O) O) O ?_);rintro _ _ ⟨rfl,rfl⟩;refine aL (sL _ _ _ _) O ?_;rintro _ _ ⟨rfl,rfl⟩
 first | refine eA rfl rfl ?_ | refine eU rfl rfl ?_
 refine ar O (dp 15 O (fun h1=>?_) (fun h1=>?_))
 ·refine aQ O (aQ O (aQ O (aI O ?_)));refine Cd.jE O (eT O (dK O ?_));exact⟨by rw [dE (fun h:aZ xss=>by have:=h.1;omega)],hS.none⟩
 have hM:=hS.bY hR;have r0:=r0 (by omega);refine ax O (aL (sY _ _ _ _ _ _ _ _ (hS.rd 0 O) O hM (by omega)) O ?_);rintro _ _ ⟨rfl,rfl⟩;refine ax O (aL (sL _ _ _ _) O ?_);rintro _ _ ⟨rfl,rfl⟩;refine ax O ?_
 first | refine eA rfl rfl ?_ | refine eU rfl rfl ?_
 refine aI O (aR _ O (fun h3=>?_) (fun h3=>?_))
 ·refine eT O (dK O ?_);exact⟨by rw [dE (fun h:aZ xss=>by have:=h.2.1;omega)],hS.none⟩
 refine aE O (aX (hS.rd 0 O) O (bn (hS.rd 0 O) O ?_));refine bc O O (aI O ?_);refine Cd.loop (α:=Nat) (fun k=> [(1,.pointer Ab),(21,.slice A n c),(22,ak n),(23,ak k)]) (fun k w'=>St w w' [Bx 37 1 Ab [.slice A n c]]/\k<=n/\Part xss k) (fun k=>n - k) 0 (ajs O) ⟨hS,a7 _,fun p hp=>by simp at hp⟩ ?_;rintro k e w2 ⟨aB,hk,hP⟩;have hM:=aB.bY hR;refine bL O (aR _ O (fun h5=>?_) (fun h5=>?_))
 ·have sj:k<xss.length:=by omega
  have rk:=hR.oG (k:=(k:Int)) (by omega) (by omega);have cT:=hM.at_ (i:=k) (by omega) h5;refine aE O (ajh hM.top.2 O O O (by omega) h5 (dI hM.top O (ar O (aL (ab7 _ _ _ _ _ cT) O ?_))));rintro _ w3 ⟨rfl,au⟩;have aH:=aB.aq au.below;have hM:=aH.bY hR
  first | refine eA rfl rfl ?_ | refine eU rfl rfl ?_
  refine ar O (dp 30 O (fun h6=>?_) (fun h6=>?_))
  ·refine aQ O (aQ O (aQ O (aQ O (aI O ?_))));refine Cd.jE O (eT O (gx (fV ?_)));refine dK O ?_;exact⟨by rw [dE (fun h:aZ xss=>h6 ⟨(h.2.2.1.at_ sj).2.1,(h.2.2.1.at_ sj).2.2⟩)],aH.none⟩
  have h6:=iy.1 h6;refine ax O (ar O (ax O ?_));refine aL (zT _ _ _ _) O ?_;rintro _ _ ⟨rfl,rfl⟩;refine ax O (aL (sY _ _ _ _ _ _ _ _ (aH.rd 0 O) O hM (by omega)) O ?_);rintro _ _ ⟨rfl,rfl⟩;refine ax O (aI O ?_);refine aR _ O (fun h7=>?_) (fun h7=>?_)
  ·refine eT O (gx (fV ?_));refine dK O ?_;exact⟨by rw [dE (fun h:aZ xss=>h7 (by have:=(h.2.2.1.at_ sj).1;omega))],aH.none⟩
  refine aE O (aK O (aU O (tQ ?_)));exact⟨k+1,by omega,(ajs O),aH,by omega,hP.step sj (by omega) h6.1 h6.2⟩
 have ng:=hP.all (by omega);have hs:=ng.sys;have jw:∀i:Int,0<=i->i<n->(rg rs i).n=(rg rs 0).n:=fun i h0 h1=>by
  have e1:=hR.oG h0 h1;have e2:=(ng _ (tW h0 (by omega))).1;omega
 refine bw O (bz (dh O ?_));refine aX (aB.rd 0 O) O (bn (aB.rd 0 O) O ?_);refine bc O O (aI O ?_);refine Cd.loop (α:=Nat) (fun i=> [(1,.pointer Ab),(38,.slice A n c),(39,ak n),(40,ak i)]) (fun i w'=>St w w' [Bx 37 1 Ab [.slice A n c]]/\i<=n/\∀i',i'<i->∀k,k<n->i'+2<=k->∀f,f< (gl xss 0).length->Comm xss i' k f) (fun i=>n - i) 0 (ajs O) ⟨aB,a7 _,fun i' bX=>by omega⟩ ?_;rintro i e w3 ⟨aH,hi,hC⟩;have hM:=aH.bY hR;refine bL O (aR _ O (fun h6=>?_) (fun h6=>?_))
 ·refine aE O (ajh hM.top.2 O O O (by omega) h6 (dI hM.top O (ar O (aX (aH.rd 0 O) O (bn (aH.rd 0 O) O ?_)))));refine ar O (aK O ?_);refine aX (aH.rd 0 O) O (bn (aH.rd 0 O) O (bc O O (Vn O O O ?_)));obtain⟨l,hl,nP,th⟩:∃l:Nat,min ((i:Int)+2) (n:Int)=(l:Int)/\l<=n/\(l=i+2\/(l=n/\n<=i+2)):=⟨min (i+2) n,by omega,by omega,by omega⟩;rw [hl];refine Fk O O O (by omega) ?_;rw [gG];refine bc O O (aI O ?_);refine Cd.loop (α:=Nat) (fun j=> [(1,.pointer Ab),(38,.slice A n c),(39,ak n),(40,ak i),(6,.slice (rg rs i).a (rg rs i).n (rg rs i).c),(53,.slice (cutAt A c l) (n - l) (c - l)),(54,ak ((n - l:Nat):Int)),(55,ak j)]) (fun j w'=>St w w' [Bx 37 1 Ab [.slice A n c]]/\j<=n - l/\∀k',k'<l+j->k'<n->i+2<=k'->∀f,f< (gl xss 0).length->Comm xss i k' f) (fun j=>n - l - j) 0 (ajs O) ⟨aH,a7 _,fun k' h1 _ _=>by omega⟩ ?_;rintro j e w4 ⟨aV,hj,Pr⟩;have hM:=aV.bY hR;have tc:=hM.top.cut (c:=c) nP (bj n) hn;refine bL O (aR _ O (fun h7=>?_) (fun h7=>?_))
  ·have lR:j<n - l:=by omega
   have hk:l+j<n:=by omega
   have mr:i+2<=l+j:=by omega
   refine aE O (ajh tc.2 O O O (by omega) h7 (dI tc O ?_));rw [afR lR];generalize BW:l+j=k at hk mr;have rki:=jw i (by omega) h6;have rkk:=jw k (by omega) (by omega);refine ar O (aL (sY _ _ _ _ _ _ _ _ (aV.rd 0 O) O hM (by omega)) O ?_);rintro _ w4 ⟨rfl,rfl⟩;refine aI O ?_;refine Cd.loop (α:=Nat) (fun f=> [(1,.pointer Ab),(38,.slice A n c),(39,ak n),(40,ak i),(6,.slice (rg rs i).a (rg rs i).n (rg rs i).c),(53,.slice (cutAt A c l) (n - l) (c - l)),(54,ak ((n - l:Nat):Int)),(55,ak j),(8,.slice (rg rs k).a (rg rs k).n (rg rs k).c),(59,ak ((rg rs 0).n:Int)),(60,ak f)]) (fun f w'=>St w w' [Bx 37 1 Ab [.slice A n c]]/\f<=(gl xss 0).length/\∀f',f'<f->Comm xss i k f') (fun f=> (gl xss 0).length - f) 0 (ajs O) ⟨aV,a7 _,fun f' kH=>by omega⟩ ?_;rintro f e w5 ⟨aW,hf,Ps⟩;have hM:=aW.bY hR;have iZ:=hM.at_ (i:=i) (by omega) h6;have ry:=hM.at_ (i:=k) (by omega) (by omega);refine bL O (aR _ O (fun h8=>?_) (fun h8=>?_))
   ·have hii:=(hs _ (tW (k:=(i:Int)) (by omega) (by omega))).2 (f:Int) (by omega) (by omega);have hkk:=(hs _ (tW (k:=(k:Int)) (by omega) (by omega))).2 (f:Int) (by omega) (by omega);refine dA O ?_
    by_cases ia:gi (gl xss i) f=gi (gl xss k) f
    ·
     refine eY [xS ((rg rs i).a) ((rg rs i).n) ((rg rs i).c),xI ((f:Int)),xP (aJ ((rg rs i).a) ((f:Int)).toNat),xI (gi (gl xss i) ((f:Int))),xS ((rg rs k).a) ((rg rs k).n) ((rg rs k).c),xI ((f:Int)),xP (aJ ((rg rs k).a) ((f:Int)).toNat),xI (gi (gl xss k) ((f:Int))),xB (true),xB (true),xU,xU,xU,xU,xU,xU,xU,xU,xU,xU,xU,xU,xU,xU,xU,xB (true)] O (fE O) ?_ ?_
     ·exact⟨Dr O,Dr O,fun _ _ hb _ _=>aM (iZ.aq hb).2 O Az,fun _ _ hb _ _=>bk (iZ.aq hb) O Az,Dr O,Dr O,fun _ _ hb _ _=>aM (ry.aq hb).2 O Az,fun _ _ hb _ _=>bk (ry.aq hb) O Az,fun _ _ _ _ _=>Dk O (by exact aO Value.bool (eM ia)),Dr O,Dr O,Dr O,Dr O,Dr O,Dr O,Dr O,Dr O,Dr O,Dr O,Dr O,Dr O,Dr O,Dr O,Dr O,Dr O,Dr O,av⟩
     intro u w6 vW _;have ba:=aW.aq vW;refine fR O (Cd.jE O ?_);refine eT O (gx (fV (gx (fV (gx (fV ?_))))));refine dK O ?_;exact⟨by rw [dE (fun h:aZ xss=> (h.2.2.2.1 i (by omega) k (by omega) mr f (by omega)).2 ia)],ba.none⟩
    by_cases h9:gi (gl xss k) (gi (gl xss i) f)=gi (gl xss i) (gi (gl xss k) f)
    ·refine eY [xS ((rg rs i).a) ((rg rs i).n) ((rg rs i).c),xI ((f:Int)),xP (aJ ((rg rs i).a) ((f:Int)).toNat),xI (gi (gl xss i) ((f:Int))),xS ((rg rs k).a) ((rg rs k).n) ((rg rs k).c),xI ((f:Int)),xP (aJ ((rg rs k).a) ((f:Int)).toNat),xI (gi (gl xss k) ((f:Int))),xB (false),xB (false),xS ((rg rs k).a) ((rg rs k).n) ((rg rs k).c),xS ((rg rs i).a) ((rg rs i).n) ((rg rs i).c),xI ((f:Int)),xP (aJ ((rg rs i).a) ((f:Int)).toNat),xI (gi (gl xss i) ((f:Int))),xP (aJ ((rg rs k).a) (gi (gl xss i) ((f:Int))).toNat),xI (gi (gl xss k) (gi (gl xss i) ((f:Int)))),xS ((rg rs i).a) ((rg rs i).n) ((rg rs i).c),xS ((rg rs k).a) ((rg rs k).n) ((rg rs k).c),xI ((f:Int)),xP (aJ ((rg rs k).a) ((f:Int)).toNat),xI (gi (gl xss k) ((f:Int))),xP (aJ ((rg rs i).a) (gi (gl xss k) ((f:Int))).toNat),xI (gi (gl xss i) (gi (gl xss k) ((f:Int)))),xB (false),xB (false)] O (fE O) ?_ ?_
     ·exact⟨Dr O,Dr O,fun _ _ hb _ _=>aM (iZ.aq hb).2 O Az,fun _ _ hb _ _=>bk (iZ.aq hb) O Az,Dr O,Dr O,fun _ _ hb _ _=>aM (ry.aq hb).2 O Az,fun _ _ hb _ _=>bk (ry.aq hb) O Az,fun _ _ _ _ _=>Dk O (by exact aO Value.bool (dE ia)),Dr O,Dr O,Dr O,Dr O,fun _ _ hb _ _=>ax O (aM (iZ.aq hb).2 O Az),fun _ _ hb _ _=>ax O (bk (iZ.aq hb) O Az),fun _ _ hb _ _=>ax O (aM (ry.aq hb).2 O Az),fun _ _ hb _ _=>ax O (bk (ry.aq hb) O Az),Dr O,Dr O,Dr O,fun _ _ hb _ _=>ax O (aM (ry.aq hb).2 O Az),fun _ _ hb _ _=>ax O (bk (ry.aq hb) O Az),fun _ _ hb _ _=>ax O (aM (iZ.aq hb).2 O Az),fun _ _ hb _ _=>ax O (bk (iZ.aq hb) O Az),fun _ _ _ _ _=>Dk O (by exact aO Value.bool (dE (fun h=>h h9))),Dr O,av⟩
     intro u w6 vW _;have ba:=aW.aq vW;refine fR O (Cd.gh O ?_);refine aE O (aK O (aU O (tQ ?_)));refine⟨f+1,by omega,(ajs O),ba,by omega,fun f' kH=>?_⟩
     by_cases ef:f'=f
     ·subst ef;exact⟨h9,ia⟩
     exact Ps f' (by omega)
    refine eY [xS ((rg rs i).a) ((rg rs i).n) ((rg rs i).c),xI ((f:Int)),xP (aJ ((rg rs i).a) ((f:Int)).toNat),xI (gi (gl xss i) ((f:Int))),xS ((rg rs k).a) ((rg rs k).n) ((rg rs k).c),xI ((f:Int)),xP (aJ ((rg rs k).a) ((f:Int)).toNat),xI (gi (gl xss k) ((f:Int))),xB (false),xB (false),xS ((rg rs k).a) ((rg rs k).n) ((rg rs k).c),xS ((rg rs i).a) ((rg rs i).n) ((rg rs i).c),xI ((f:Int)),xP (aJ ((rg rs i).a) ((f:Int)).toNat),xI (gi (gl xss i) ((f:Int))),xP (aJ ((rg rs k).a) (gi (gl xss i) ((f:Int))).toNat),xI (gi (gl xss k) (gi (gl xss i) ((f:Int)))),xS ((rg rs i).a) ((rg rs i).n) ((rg rs i).c),xS ((rg rs k).a) ((rg rs k).n) ((rg rs k).c),xI ((f:Int)),xP (aJ ((rg rs k).a) ((f:Int)).toNat),xI (gi (gl xss k) ((f:Int))),xP (aJ ((rg rs i).a) (gi (gl xss k) ((f:Int))).toNat),xI (gi (gl xss i) (gi (gl xss k) ((f:Int)))),xB (true),xB (true)] O (fE O) ?_ ?_
    ·exact⟨Dr O,Dr O,fun _ _ hb _ _=>aM (iZ.aq hb).2 O Az,fun _ _ hb _ _=>bk (iZ.aq hb) O Az,Dr O,Dr O,fun _ _ hb _ _=>aM (ry.aq hb).2 O Az,fun _ _ hb _ _=>bk (ry.aq hb) O Az,fun _ _ _ _ _=>Dk O (by exact aO Value.bool (dE ia)),Dr O,Dr O,Dr O,Dr O,fun _ _ hb _ _=>ax O (aM (iZ.aq hb).2 O Az),fun _ _ hb _ _=>ax O (bk (iZ.aq hb) O Az),fun _ _ hb _ _=>ax O (aM (ry.aq hb).2 O Az),fun _ _ hb _ _=>ax O (bk (ry.aq hb) O Az),Dr O,Dr O,Dr O,fun _ _ hb _ _=>ax O (aM (ry.aq hb).2 O Az),fun _ _ hb _ _=>ax O (bk (ry.aq hb) O Az),fun _ _ hb _ _=>ax O (aM (iZ.aq hb).2 O Az),fun _ _ hb _ _=>ax O (bk (iZ.aq hb) O Az),fun _ _ _ _ _=>Dk O (by exact aO Value.bool (eM h9)),Dr O,av⟩
    intro u w6 vW _;have ba:=aW.aq vW;refine fR O (Cd.jE O ?_);refine eT O (gx (fV (gx (fV (gx (fV ?_))))));refine dK O ?_;exact⟨by rw [dE (fun h:aZ xss=>h9 (h.2.2.2.1 i (by omega) k (by omega) mr f (by omega)).1)],ba.none⟩
   refine bw O (bz (dh O (aK O (aU O (tQ ?_)))));refine⟨j+1,by omega,(ajs O),aW,by omega,fun k' eN kl BS f' kH=>?_⟩
   by_cases ek:k'=k
   ·subst ek;exact Ps f' (by omega)
   exact Pr k' (by omega) kl BS f' kH
  refine bw O (bz (dh O (aK O (aU O (tQ ?_)))));refine⟨i+1,by omega,(ajs O),aV,by omega,fun i' bX k' eN BS f' kH=>?_⟩
  by_cases ei:i'=i
  ·subst ei;exact Pr k' (by omega) eN BS f' kH
  exact hC i' (by omega) k' eN BS f' kH
 have hB:=aH.rd 0 O;refine bw O (bz (pS O ?_));refine eY [xI (((rg rs 0).n:Int)),xP (aJ (Ab) 0),xS (A) (n) (c),.pr (fun v _=>∃A',v= .tuple #[.slice A' (gl xss 0).length (gl xss 0).length,ak (bg (gl xss 0).length xss (gl xss 0).length).2]),.pr (fun v _=>∃A',v= .tuple #[.slice A' (gl xss 0).length (gl xss 0).length,ak (bg (gl xss 0).length xss (gl xss 0).length).2]),.pr (fun v _=>∃A',v= .slice A' (gl xss 0).length (gl xss 0).length),xI ((bg (gl xss 0).length xss (gl xss 0).length).2),.pr (fun v _=>∃A',v= .slice A' (gl xss 0).length (gl xss 0).length),xI ((bg (gl xss 0).length xss (gl xss 0).length).2)] rfl (lx (lx (lx (cI.2 ⟨Yd.cV (fun _ _ _ h _=>h),(cI.2 ⟨Yd.cV (fun _ _ _ h _=>h),(cI.2 ⟨Yd.cV (fun _ _ _ h _=>h),(lx (cI.2 ⟨Yd.cV (fun _ _ _ h _=>h),(lx (fun _ h=>by cases h))⟩))⟩)⟩)⟩)))) ?_ ?_
 ·refine⟨?_,fun _ _ hb _ _=>aX (hB.below hb) O Az,fun _ _ hb _ _=>bn (hB.below hb) O Az,?_,?_,?_,?_,?_,Dr O,av⟩
  ·intro e1 w1 hb hp a6;refine aL (sY _ _ _ _ _ _ _ _ (hB.below hb) O (hM.aq hb) (by omega)) O ?_;rintro _ w2 ⟨rfl,au⟩;subst au;refine ao.n (d0 (by exact O))
  ·intro e1 w1 hb hp a6;refine ajj (HE A n c rs xss (gl xss 0).length _ (hM.aq hb) (by omega) hs ng.inj (by omega)) O (by rw [r0];rfl) O ?_;rintro _ w2 ⟨A',rfl,au⟩;exact ao.n (gz.dn au.below ⟨A',O⟩)
  ·intro e1 w1 hb hp a6;obtain⟨A',YR⟩:=(hp 3 (by decide) rfl _ _ rfl rfl);refine M1 O (by exact YR) O (ao.n ?_);exact gz.dn (Below.refl _ _) ⟨A',O⟩
  ·intro e1 w1 hb hp a6;obtain⟨A',JV⟩:=(hp 4 (by decide) rfl _ _ rfl rfl);refine ao.extract (by exact JV) O O (ao.n ?_);exact gz.dn (Below.refl _ _) ⟨A',O⟩
  ·intro e1 w1 hb hp a6;obtain⟨A',JV⟩:=(hp 4 (by decide) rfl _ _ rfl rfl);refine ao.extract (by exact JV) O O Az
  intro e1 w1 hb hp a6;obtain⟨A',YS⟩:=(hp 5 (by decide) rfl _ _ rfl rfl);refine tJ O (by exact YS) O (ao.n ?_);exact gz.dn (Below.refl _ _) ⟨A',O⟩
 intro u w6 vW _;have ba:=aH.aq vW;refine CT O (dK O ?_);refine⟨?_,ba.none⟩
 congr 1
 have ho:=vo hs (by omega);have hl:=R3 hs (by omega);exact jJ.2 ⟨fun h=> ⟨by omega,by omega,ng,fun i' bX k' eN BS f' kH=>hC i' (by omega) k' (by omega) BS f' kH,ho.2 (hl.1 h)⟩,fun h=>hl.2 (ho.1 h.2.2.2.2)⟩
section
variable {P:Program} {N:Nat} {ops:Array Oper} {K:Env->aa->Prop} {rest:List Oper} {e:Env} {w:aa} {d:Nat} {ty:ae} {pos:String} {af:Array Edge} {x y:ag} {xt yt:ae}
theorem run_equal_bool[bJ P xt .bool](a b:Bool):(Op.equal xt (.bool a) (.bool b)).run P w= .ok (a==b) w:=
 run_equalIn_bool w 9999 xt a b bJ.out
theorem Ve[bJ P xt .bool]{a b:Bool}(hx:ev e x= .bool a)(hy:ev e y= .bool b)(hb:Nat.blt d N=true)(hK:ao P N ops K rest (bq e d (.bool (a==b))) w):
 ao P N ops K (⟨some d,.binOp .eql xt x y yt,ty,pos,af,none⟩::rest) e w:=
 .val (by simp [execOp,hx,hy,eqGuard,binOp,run_equal_bool]) hb hK
end
section
variable {P:Program} {N:Nat} {ops:Array Oper} {K:Env->aa->Prop} {rest:List Oper} {e:Env} {w0 w w':aa} {ks:List Ck} {d:Nat} {ty:ae} {pos:String} {af:Array Edge}
theorem Iq{t:ae}{f0:Field}{z0 zf:ad}{b bf:Nat}[bJ P t (.struct #[f0])][bF P t (.agg #[z0]) 1 b]{x0:ag}{v0:ad}(hI:bF P f0.type zf 1 bf)(ho:f0.offset=0)(h0:ev e x0=v0)(c0:v0.oneCell'=true)(hb:Nat.blt d N=true)(hK:ao P N ops K rest (bq e d (.agg #[v0])) w):ao P N ops K (⟨some d,.build t #[(0,x0)],ty,pos,af,none⟩::rest) e w:=by
 obtain⟨inf,hi,fH,hs,iW⟩:=bF.get P t;obtain⟨ab4,bX,abP,uo,ZS⟩:=hI.get P f0.type;have e0:v0.cells= #[v0]:=by cases v0<;>simp [Value.oneCell']at c0<;>rfl
 have ez:(Value.agg #[z0]).cells= #[z0]:=O;refine .val (w':=w) ?_ hb hK;simp [execOp,Instr.build,run_underlying (bJ.out (P:=P) (t:=t)),sizeOf,typeInfo,zeroValue,hi,fH,bX,uo,ho,h0,e0,ez,Instr.fill]
theorem CZ{t t' el:ae}[bJ P t (.slice el)]{x y:ag}{A:aj}{n c:Nat}(hx:ev e x= .slice A n c)(hy:ev e y= .slice none 0 0)(hb:Nat.blt d N=true)(hK:ao P N ops K rest (bq e d (.bool A.isNone)) w):
 ao P N ops K (⟨some d,.binOp .eql t x y t',ty,pos,af,none⟩::rest) e w:=by
 have hr:(Op.equal t (.slice A n c) (.slice none 0 0)).run P w= .ok A.isNone w:=by
  show(Op.equalIn (9999+1) t (.slice A n c) (.slice none 0 0)).run P w=_;rw [Op.equalIn];cases A<;>simp [run_underlying (bJ.out (P:=P) (t:=t))]
 exact .val (by simp [execOp,hx,hy,eqGuard,binOp,hr]) hb hK
end
theorem Ez{t1 t2:ae}{A:aj}{n c:Nat}{rs:List aN}{xss:ah}{pre ks:List Ck}{i:Nat}(hr:rs.length=xss.length)(hi:i<rs.length):(pre++ (aT t1 t2 A n c rs xss++ks))[pre.length+1+i]?=some (az t2 (rs.getD i ew).a (rs.getD i ew).n (rs.getD i ew).c (xss.getD i [])):=by
 rw [lM (by omega),show pre.length+1+i - pre.length=i+1 by omega,mc (by simp [aT,zP hr];omega)];simpa [aT]using Cy (t:=t2) hr hi
section
variable {P:Program} {N:Nat} {ops:Array Oper} {K:Env->aa->Prop} {rest:List Oper} {e:Env} {w0 w w':aa} {ks pre:List Ck} {ty:ae} {pos:String} {af:Array Edge}
end
structure MV where
 top:aN
 rs:List aN
 xss:ah
def MV.ok(m:MV):Prop:=m.xss.length=m.top.n
theorem Hu(A:aj)(n c:Nat)(xs:ai)(w:aa)(hR:cn w A n xs)(hn:n<=1000000000):aG prog 151 [.slice A n c] w (fun v w'=>∃A' c',v= .slice A' n c'/\St w w' [az 2 A' n c' xs]):=by
 refine bA func151 O ntmps151 O (cJ O) (a8 O (ny (St.refl w) O ?_));intro A1 w1 aA;have aA:St w w1 [az 2 A1 0 0 []]:=aA;refine ar O (fN 0 aA O (aA.gW hR) O O O ?_);intro A2 c2 w2 aB;rw [Nat.zero_add]at aB|-;refine bM O (gD O ?_);exact⟨A2,c2,O,aB⟩
def body(n F:Nat)(ok:ah->Nat->Nat->Bool)(fin:ah->Bool)(k at_ met:Nat)(M:ah)(g:Nat):List (ah):=
 if 0<=cell M (at_%n) (g:Nat)then []else if ok (put M (at_%n) (at_ / n) g) (at_%n) (at_ / n)=true then grow n F ok fin k (at_+1) (max met (g+1)) (put M (at_%n) (at_ / n) g)else []
end
section
section
variable {n F:Nat} {M:ah} {met at_:Nat}
end
end
section
open Go.RowKit
def Small(HO flags:Int):Prop:=(1<=HO/\HO<=4)/\(2<=flags/\flags<=12)
instance (HO flags:Int):Decidable (Small HO flags):=by unfold Small;exact inferInstance
theorem Fe(A:aj)(n c:Nat)(xs:ai)(w:aa)(hR:cn w A n xs)(hn:n<=1000000000):aG prog 109 [.slice A n c] w (fun v w'=>∃A' c',v= .slice A' n c'/\St w w' [az 2 A' n c' xs]):=by
 cases hA:A with
 | none=>
  subst hA;have qk:n=0:=by
   apply ob;intro h;obtain⟨p,hp,_⟩:=hR.2 0 (by omega);simp [aJ]at hp
  subst qk;have hx:xs=[]:=qH hR.1;subst hx;refine bA func109 O ntmps109 O (cJ O) (a8 O (CZ O O O (aI O (Cd.jE O (eT O (gD O ?_))))));exact⟨none,0,O,(St.refl w).nil _⟩
 | some a=>
  subst hA;refine bA func109 O ntmps109 O (cJ O) (a8 O (CZ O O O (aI O (Cd.gh O (aE O (ny (St.refl w) O ?_))))));intro A1 w1 aA;have aA:St w w1 [az 2 A1 0 0 []]:=aA;refine ar O (fN 0 aA O (aA.gW hR) O O O ?_);intro A2 c2 w2 aB;rw [Nat.zero_add]at aB|-;refine bM O (gD O ?_);exact⟨A2,c2,O,aB⟩
section
variable {P:Program} {N:Nat} {ops:Array Oper} {K:Env->aa->Prop} {rest:List Oper} {e:Env} {w:aa} {d:Nat} {ty:ae} {pos:String} {af:Array Edge}
theorem uO{t:ae}{f0:Field}{z0 zf:ad}{b bf:Nat}[bJ P t (.struct #[f0])][bF P t (.agg #[z0]) 1 b](hI:bF P f0.type zf 1 bf)(hb:Nat.blt d N=true)(hK:ao P N ops K rest (bq e d (.agg #[z0])) w):ao P N ops K (⟨some d,.build t #[],ty,pos,af,none⟩::rest) e w:=by
 obtain⟨inf,hi,fH,hs,iW⟩:=bF.get P t;obtain⟨ab4,bX,abP,uo,ZS⟩:=hI.get P f0.type;have ez:(Value.agg #[z0]).cells= #[z0]:=O;refine .val (w':=w) ?_ hb hK;simp [execOp,Instr.build,run_underlying (bJ.out (P:=P) (t:=t)),sizeOf,typeInfo,zeroValue,hi,fH,hs,bX,uo,ez,Instr.fill]
end
theorem aZ.yg{xss:ah}(hM:aZ xss){f:Int}(h0:0<=f)(hf:f< (gl xss 0).length):sR (gl xss 0).length (b8 (gl xss 0).length xss f):=by
 have hs:=hM.2.2.1.sys;have hi:=hM.2.2.1.inj;have h2:=hM.2.1;obtain⟨g,_,hm⟩:=sD hs h0 hf;have eu:=(vo hs (by omega)).1 hM.2.2.2.2;refine⟨?_,g.nodup,g.range⟩;have h1:=E2 (vq (gl xss 0).length) (b8 (gl xss 0).length xss f) (by
  unfold vq;rw [List.nodup_iff_pairwise_ne,kM];exact(List.nodup_iff_pairwise_ne.1 List.nodup_range).imp (fun h e=>h (by omega))) (fun z hz=>by
  have hz:=Mk.1 hz;exact(hm z).2 ((Reach.symm hs hi (by omega) (by omega) (eu f h0 hf)).trans (eu z hz.1 hz.2)))
 rw [H2]at h1;have:=g.len;omega
theorem aer(A:aj)(n c:Nat)(rs:List aN)(xss:ah)(N:Nat)(pt:Int)(w:aa)(hR:br w A n rs xss)(hn:n<=9223372036854775807)(qk:0<n)(hs:Sys N xss)(hN:N<=1000000000)(h0:0<=pt)(h1:pt<N):
 aG prog 213 [.slice A n c,ak pt] w (fun v w'=>∃A' c',v= .slice A' (b8 N xss pt).length c'/\St w w' [az 2 A' (b8 N xss pt).length c' (b8 N xss pt)]):=by
 have bU:∀k:Int,0<=k->k<n->(rg rs k).n=N:=fun k rq hk=>by
  rw [<-hR.oG rq hk];exact(hs _ (tW rq (by rw [hR.len];exact hk))).1
 have ql:=bU 0 (by omega) (by omega);refine bA func213 O ntmps213 O (cJ O) (a8 O (aM hR.top.2 O (dI hR.top O (bc O O ?_))));refine yx N (St.refl w) (by rw [ql];rfl) O (by omega) ?_;intro A5 w1 aA;refine ar O ?_;refine ajh (aA.jG 0 O).2 (by rw [ql];rfl) O O (by omega) (by omega) ?_;refine tK 0 aA O O O (by omega) fun w2 aB=>ar O (eH aB O O O ?_);intro A6 w3 aH;refine aI O ?_;refine Cd.loop (α:=Nat×ai×aj×Nat×List Bool) (fun q=> [(0,.slice A n c),(5,.slice A5 N N),(6,.slice q.2.2.1 q.2.1.length q.2.2.2.1),(7,ak (q.1:Int))]) (fun q w'=>St w w' [az 2 q.2.2.1 q.2.1.length q.2.2.2.1 q.2.1,gu 4 A5 N N q.2.2.2.2]/\q.1<=q.2.1.length/\Good N xss pt q.2.1/\tI N q.2.2.2.2 q.2.1/\nA xss (N+1 - q.1) q.1 q.2.1=b8 N xss pt) (fun q=>N+1 - q.1) (0,[pt],A6,1,(List.replicate N false).set pt.toNat true) ⟨O,by rw [ql];rfl,O,O,av⟩ ⟨aH,a7 _,Gd h0 h1,tI.init h0 (by omega),O⟩ ?_;rintro⟨i,out,Ao,co,S⟩ e2 w5 ⟨aW,hi,hg,hm,hb⟩;dsimp only at aW hi hg hm hb|-;have hlen:=hg.len;refine a8 O (bc O O (aI O ?_));refine aR _ O (fun h2=>?_) (fun h2=>?_)
 ·refine aE O (bc O O (aI O ?_));refine Cd.loop (α:=Nat×ai×aj×Nat×List Bool) (fun q=> [(0,.slice A n c),(5,.slice A5 N N),(6,.slice q.2.2.1 q.2.1.length q.2.2.2.1),(7,ak i),(27,.slice A n c),(28,ak n),(29,ak (q.1:Int))]) (fun q w'=>St w w' [az 2 q.2.2.1 q.2.1.length q.2.2.2.1 q.2.1,gu 4 A5 N N q.2.2.2.2]/\q.1<=n/\Good N xss pt q.2.1/\tI N q.2.2.2.2 q.2.1/\out<+:q.2.1/\(xss.drop q.1).foldl (fun o p=>jn o (gi p (gi out i))) q.2.1=expand xss (gi out i) out) (fun q=>n - q.1) (0,out,Ao,co,S) (ajs O) ⟨aW,a7 _,hg,hm,List.prefix_rfl,O⟩ ?_;rintro⟨k,ie,yq,Ba,S'⟩ e3 w6 ⟨ba,hk,mX,iO,na,hf⟩;dsimp only at ba hk mX iO na hf|-;have we:=mX.len;refine bL O (aR _ O (fun h3=>?_) (fun h3=>?_))
  ·have GR:i<ie.length:=by have:=na.length_le;omega
   have D0:gi ie i=gi out i:=yL na (by omega);have fY:=hg.range _ (gi_in (i:=i) (by omega));have jQ:gl xss k∈xss:=tW (by omega) (by rw [hR.len];omega);have hy:=(hs _ jQ).2 (gi out i) fY.1 fY.2;have jw:=bU k (by omega) (by omega);have hT:=(ba.bY hR);have hO:=ba.bI 0 O;have cT:=hT.at_ (i:=k) (by omega) (by omega);have wa:(xss.drop (k+1)).foldl (fun o p=>jn o (gi p (gi out i))) (jn ie (gi (gl xss k) (gi out i)))=expand xss (gi out i) out:=by
    rw [<-hf,List.drop_eq_getElem_cons (show k<xss.length by rw [hR.len];omega),List.foldl_cons,bP (by rw [hR.len];omega)]
   refine aE O (aM hT.top.2 O (dI hT.top O (ar O (aM hO.2 O (bk hO O ?_)))));rw [D0];refine aM cT.2 O (bk cT O (ar O (aM (ba.jG 1 O).2 O (rS (ba.jG 1 O) O (by omega) O O ?_))))
   first | refine eA rfl rfl ?_ | refine eU rfl rfl ?_
   refine aI O (Cd.cond O (fun h4=>?_) (fun h4=>?_))
   ·have KP:¬gi (gl xss k) (gi out i)∈ie:=fun bW=>by
     have:=(iO.2 _ hy.1 (by omega)).2 bW;rw [this]at h4;cases h4
    have zq:jn ie (gi (gl xss k) (gi out i))=ie++ [gi (gl xss k) (gi out i)]:=by unfold jn;rw [if_neg KP]
    have wb:=mX.push hs (na.subset (gi_in (i:=i) (by omega))) jQ;have Ed:=na.trans (L2 ie (gi (gl xss k) (gi out i)));rw [zq]at wa wb Ed;have KL:=wb.len;simp only [cS,List.length_singleton]at KL;refine aE O (aM (ba.jG 1 O).2 O (tK 1 ba O O O (by omega) ?_));intro w8 bS;refine ar O (eH bS O O O ?_);intro A3 w9 bH;refine fN 1 bH O (bH.bI 0 O) O O O fun A4 c4 eL bQ=>ar O (aK O (aU O (tQ ?_)));refine⟨(k+1,ie++ [gi (gl xss k) (gi out i)],A4,c4,S'.set (gi (gl xss k) (gi out i)).toNat true),by show n - (k+1)<n - k;omega,⟨O,O,by rw [cS];rfl,O,O,O,O,av⟩,?_,by show k+1<=n;omega,wb,iO.push hy.1 (by omega),Ed,wa⟩;have p5:=bQ.tail;simp only [cS,List.length_singleton];exact p5
   have bW:gi (gl xss k) (gi out i)∈ie:=(iO.2 _ hy.1 (by omega)).1 (by simpa using h4);have zq:jn ie (gi (gl xss k) (gi out i))=ie:=by unfold jn;rw [if_pos bW]
   rw [zq]at wa;refine aE O (aK O (aU O (tQ ?_)));exact⟨(k+1,ie,yq,Ba,S'),by show n - (k+1)<n - k;omega,(ajs O),ba,by show k+1<=n;omega,mX,iO,na,wa⟩
  refine bw O (bz (dh O (aK O (aU O (tQ ?_)))));have kl:k=n:=by omega
  rw [kl,List.drop_of_length_le (by rw [hR.len];omega)]at hf;have hf:ie=expand xss (gi out i) out:=hf;refine⟨(i+1,ie,yq,Ba,S'),by show N+1 - (i+1)<N+1 - i;omega,(ajs O),ba,by show i+1<=ie.length;have:=na.length_le;omega,mX,iO,?_⟩;show nA xss (N+1 - (i+1)) (i+1) ie=_;rw [<-hb,show N+1 - i=(N+1 - (i+1))+1 by omega];simp only [nA];rw [ay (by omega),hf]
 refine bw O (bz (gE O ?_));refine gD O ?_;rw [Nv (by omega)]at hb;subst hb;exact⟨Ao,co,O,aW.sub (List.Sublist.cons_cons _ (List.nil_sublist _))⟩
def rH(l:ai):Prop:=l.Pairwise (· <= ·)
def l5(l:ai):ai:=l.mergeSort fun x y=>decide (x<=y)
theorem H3(l:ai):(l5 l).Perm l:=List.mergeSort_perm _ _
theorem agM(l:ai):rH (l5 l):=by
 have:=List.pairwise_mergeSort (le:=fun x y:Int=>decide (x<=y)) (fun a b c h1 h2=>by simp at h1 h2|-;omega) (fun a b=>by simp;omega) l;exact this.imp fun h=>by simpa using h
theorem VZ{l l':ai}(h:l.Perm l')(h1:rH l)(h2:rH l'):l=l':=
 List.Perm.eq_of_pairwise (le:=(· <= ·)) (fun a b _ _ h1 h2=>by omega) h1 h2 h
def MP(xss:ah):Prop:=aZ xss/\2<=xss.length
instance (xss:ah):Decidable (MP xss):=by unfold MP;exact inferInstance
theorem RY(A:aj)(n c:Nat)(rs:List aN)(xss:ah)(w:aa)(hR:br w A n rs xss)(hn:0<n):
 aG prog 136 [.agg #[.slice A n c]] w (fun v w'=>v=ak ((gl xss 0).length:Int)/\St w w' []):=by
 refine bA func136 O ntmps136 O (cJ O) (a8 O (jd (St.refl w) O O ?_));intro Ab w1 hS;have de:=hS.bY hR;have e0:(gl xss 0).length=(rg rs 0).n:=hR.oG (by omega) (by omega);refine ar O (aX (hS.rd 0 O) O (bn (hS.rd 0 O) O (aM de.top.2 O (dI de.top O ?_))));refine bc O O (bM O ?_);refine gY O ?_;exact⟨by rw [e0],hS.none⟩
theorem cn.take{w:aa}{A:aj}{n l:Nat}{xs:ai}(h:cn w A n xs)(hl:l<=n):cn w A l (xs.take l):=by
 have:=h.cut (l:=0) (h:=l) (c:=0) (a7 _) hl;refine⟨by rw [oM,h.1];omega,fun k hk=>?_⟩;obtain⟨q,h1,h2⟩:=h.2 k (by omega);exact⟨q,h1,by rw [h2];simp [rL,hk,cN]⟩
end
end Go.Proofs.YtagdamiiececaaaGreatDoor.Vc
