/-
 Lemmas. Conditions: as each states them.
-/
import Derived.Test.YtagdamiiececaaaGreatDoorInst
set_option maxHeartbeats 8000000
namespace Go.Proofs.YtagdamiiececaaaGreatDoor.Vc
open Tryz
section
open Go.RowKit
variable{p S:ah}
theorem DD(n lo hi:Int)(w:aa):aE prog 82 [aj n,aj lo,aj hi] w (fun v w'=>v= .bool (decide (lo<=n/\n<=hi))/\w'=w):=by
 refine bm func82 O ntmps82 O (bU O) (aY O ?_);refine bX 10 O (fun h=>?_) (fun h=>?_)
 ·refine ar O (ao O (ar O (ao O (ar O (bu O ?_)))));refine bQ O ?_;exact⟨by simp [h],O⟩
 refine av O (av O (av O (bu O ?_)));refine bQ O ?_;exact⟨by simp [h],O⟩
theorem qU(n lo hi:Int)(w:aa):aE prog 79 [aj n,aj lo,aj hi] w (fun v w'=>v= .bool (decide (lo<=n/\n<=hi))/\w'=w):=by
 refine bm func79 O ntmps79 O (bU O) (aY O ?_);refine bX 10 O (fun h=>?_) (fun h=>?_)
 ·refine ar O (ao O (ar O (ao O (ar O (bu O ?_)))));refine bQ O ?_;exact⟨by simp [h],O⟩
 refine av O (av O (av O (bu O ?_)));refine bQ O ?_;exact⟨by simp [h],O⟩
def iR(p:ah):Prop:=p.length<=400/\(∀x∈p,0<=x/\x<p.length)/\p.Nodup
instance (p:ah):Decidable (iR p):=by unfold iR;exact inferInstance
def Seen(p:ah)(k:Nat)(S:List Bool):Prop:=
 S.length=p.length/\(∀x∈p.take k,0<=x/\x<p.length)/\(p.take k).Nodup/\∀x:Int,0<=x->x<p.length->(gb S x=true↔x∈p.take k)
theorem bN{k:Nat}(h:k<p.length):gi p k=p[k]:=by simp [gi,df,dL h]
theorem sd{k:Nat}(h:k<p.length):p.take (k+1)=p.take k++ [gi p k]:=by rw [bN h,lG h]
theorem Ct{S:List Bool}{x y:Int}{b:Bool}(hx:0<=x)(dG:x<S.length)(hy:0<=y):gb (S.set x.toNat b) y=if x=y then b else gb S y:=by
 simp only [gb,df,kX]
 by_cases e:x=y
 ·subst e;rw [aJ rfl,aJ rfl,aJ (by omega)];rfl
 rw [aC (by omega),aC e]
theorem lL{x y:Int}{b:Int}(hx:0<=x)(dG:x<S.length)(hy:0<=y):gi (S.set x.toNat b) y=if x=y then b else gi S y:=by
 simp only [gi,df,kX]
 by_cases e:x=y
 ·subst e;rw [aJ rfl,aJ rfl,aJ (by omega)];rfl
 rw [aC (by omega),aC e]
theorem Seen.zero(p:ah):Seen p 0 (List.replicate p.length false):=⟨by simp,by simp,by simp,fun x h0 h1=>by
 simp [gb,df,List.getElem?_replicate];split<;>simp⟩
theorem Seen.bad{k:Nat}{S:List Bool}(h:Seen p k S)(hk:k<p.length)(hb:¬(0<=gi p k/\gi p k<=p.length - 1)):¬iR p:=fun hp=>by
 have:=hp.2.1 (gi p k) (by rw [bN hk];exact dd hk);omega
theorem Seen.OY{k:Nat}{S:List Bool}(h:Seen p k S)(hk:k<p.length)(h0:0<=gi p k/\gi p k<=p.length - 1)(hb:gb S (gi p k)=true):¬iR p:=fun hp=>by
 have h1:=(h.2.2.2 (gi p k) h0.1 (by omega)).1 hb;have h2:(p.take (k+1)).Nodup:=hp.2.2.sublist (List.take_sublist _ _);rw [sd hk,List.nodup_append]at h2;exact h2.2.2 _ h1 _ (by simp) O
theorem Seen.step{k:Nat}{S:List Bool}(h:Seen p k S)(hk:k<p.length)(h0:0<=gi p k/\gi p k<=p.length - 1)(hb:gb S (gi p k)=false):Seen p (k+1) (S.set (gi p k).toNat true):=by
 obtain⟨h1,h2,h3,h4⟩:=h;have h5:¬gi p k∈p.take k:=fun hm=>by have:=(h4 _ h0.1 (by omega)).2 hm;rw [hb]at this;cases this
 refine⟨by simpa using h1,?_,?_,fun x hx dG=>?_⟩
 ·rw [sd hk];intro x hx;rcases gE.1 hx with hx | hx
  ·exact h2 x hx
  simp at hx;subst hx;omega
 ·rw [sd hk,List.nodup_append];refine⟨h3,by simp,fun a ha b kr=>?_⟩;simp at kr;subst kr;intro e;subst e;exact h5 ha
 rw [Ct h0.1 (by omega) hx,sd hk,gE]
 by_cases e:gi p k=x
 ·simp [e]
 rw [aC e,h4 x hx dG];simp;intro h;exact absurd h.symm e
theorem Seen.done{k:Nat}{S:List Bool}(h:Seen p k S)(hk:¬k<p.length)(hl:p.length<=400):iR p:=by
 obtain⟨h1,h2,h3,h4⟩:=h;rw [jc (by omega)]at h2 h3;exact⟨hl,h2,h3⟩
theorem DE(A:ai)(n c:Nat)(p:ah)(w:aa)(hR:cd w A n p):aE prog 215 [.slice A n c] w (fun v w'=>v= .bool (decide (iR p))/\St w w' []):=by
 have hl:=hR.1;subst hl;refine bm func215 O ntmps215 O (bU O) ?_;refine aY O (aZ O O (az O ?_));refine aM _ O (fun h=>?_) (fun h=>?_)
 ·refine cE O (bQ O ?_);exact⟨by rw [dq (fun hp:iR p=>by have:=hp.1;omega)],St.refl _⟩
 refine aD O (aZ O O ?_);refine wR p.length (St.refl w) O O (by omega) fun A1 w1 aB=>az O (Cd.loop (α:=Nat×List Bool) (fun s=> [(0,.slice A p.length c),(3,.slice A1 p.length p.length),(4,aj (s.1:Int))]) (fun s w'=>St w w' [jL 4 A1 p.length p.length s.2]/\s.1<=p.length/\Seen p s.1 s.2) (fun s=>p.length - s.1) (0,List.replicate p.length false) (ac4 O) ⟨aB,bA _,Seen.zero p⟩ ?_);rintro⟨k,S⟩ e w2 ⟨aw,hk,hI⟩;dsimp only at aw hk hI|-;refine aY O (aZ O O (az O ?_));refine aM _ O (fun h1=>?_) (fun h1=>?_)
 ·refine aD O (acU (aw.dY hR).2 O O O (by omega) h1 (bc (aw.dY hR) O ?_));refine ao O (aZ O O (je O O O (by omega) ?_));refine aH (DD _ _ _ _) O ?_;rintro _ _ ⟨rfl,rfl⟩
  first | refine dM rfl rfl ?_ | refine eI rfl rfl ?_
  refine ao O (bX 26 O (fun h2=>?_) (fun h2=>?_))
  ·refine av O (av O (av O (av O (av O (av O (av O (az O ?_)))))));refine Cd.fW O (cE O (de (cT ?_)));refine bQ O ?_;exact⟨by rw [dq (hI.bad (by omega) (by omega))],aw.none⟩
  refine ar O (ao O (ar O (ao O (ar O (ao O (ar O ?_))))));refine acU (aw.dY hR).2 O O O (by omega) h1 (ar O (bc (aw.dY hR) O (ar O (ay (aw.jt 0 O).2 O (ar O (su (aw.jt 0 O) O (by omega) O O (az O ?_)))))));refine Cd.cond O (fun h3=>?_) (fun h3=>?_)
  ·refine cE O (de (cT ?_));refine bQ O ?_;exact⟨by rw [dq (hI.OY (by omega) (by omega) h3)],aw.none⟩
  refine aD O (acU (aw.dY hR).2 O O O (by omega) h1 (bc (aw.dY hR) O (ay (aw.jt 0 O).2 O (sw 0 aw O O O (by omega) ?_))));intro w3 aI;refine ao O (aL O (aU O (tQ ?_)));exact⟨(k+1,S.set (gi p k).toNat true),by show p.length - (k+1)<p.length - k;omega,(ac4 O),aI,by show k+1<=_;omega,hI.step (by omega) (by omega) h3⟩
 refine bo O (bp (e6 O ?_));refine bQ O ?_;exact⟨by rw [fo (hI.done (by omega) (by omega))],aw.none⟩
def fill{α:Type}(k:Nat)(xs:List α)(d:α):List α:=xs.take k++List.replicate (xs.length - k) d
theorem cM{p:ag}{k:Nat}(h:k<p.length):gl p k=p[k]:=by simp [gl,df,dL h]
theorem wD{p:ag}{k:Nat}(h:k<p.length):p.take (k+1)=p.take k++ [gl p k]:=by rw [cM h,lG h]
theorem wB(A:ai)(n c:Nat)(w:aa):aE prog 106 [.slice A n c] w (fun v w'=>v=aj n/\w'=w):=by
 refine bm func106 O ntmps106 O (bU O) ?_;refine aY O (aZ O O (bu O ?_));exact fP O ⟨O,O⟩
theorem wC(A:ai)(n c:Nat)(w:aa):aE prog 120 [.slice A n c] w (fun v w'=>v=aj n/\w'=w):=by
 refine bm func120 O ntmps120 O (bU O) ?_;refine aY O (aZ O O (bu O ?_));exact fP O ⟨O,O⟩
theorem W1(A:ai)(n c:Nat)(p:ah)(w:aa)(hR:cd w A n p):aE prog 193 [.slice A n c] w (fun v w'=>v= .bool (decide (iR p))/\St w w' []):=by
 have hl:=hR.1;subst hl;refine bm func193 O ntmps193 O (bU O) ?_;refine aY O (aZ O O (az O ?_));refine aM _ O (fun h=>?_) (fun h=>?_)
 ·refine cE O (bQ O ?_);exact⟨by rw [dq (fun hp:iR p=>by have:=hp.1;omega)],St.refl _⟩
 refine aD O (aZ O O ?_);refine wR p.length (St.refl w) O O (by omega) fun A1 w1 aB=>ao O (aZ O O (az O ?_));refine Cd.loop (α:=Nat×List Bool) (fun s=> [(0,.slice A p.length c),(3,.slice A1 p.length p.length),(12,.slice A p.length c),(13,aj (p.length:Int)),(14,aj (s.1:Int))]) (fun s w'=>St w w' [jL 4 A1 p.length p.length s.2]/\s.1<=p.length/\Seen p s.1 s.2) (fun s=>p.length - s.1) (0,List.replicate p.length false) (ac4 O) ⟨aB,bA _,Seen.zero p⟩ ?_;rintro⟨k,S⟩ e w2 ⟨aw,hk,hI⟩;dsimp only at aw hk hI|-;refine b7 O (aM _ O (fun h1=>?_) (fun h1=>?_))
 ·refine aD O (acU (aw.dY hR).2 O O O (by omega) h1 (bc (aw.dY hR) O (ao O (aH (wB _ _ _ _) O ?_))));rintro _ _ ⟨rfl,rfl⟩;refine je O O O (by omega) (aH (qU _ _ _ _) O ?_);rintro _ _ ⟨rfl,rfl⟩
  first | refine dM rfl rfl ?_ | refine eI rfl rfl ?_
  refine ao O (bX 24 O (fun h2=>?_) (fun h2=>?_))
  ·refine av O (av O (av O (av O (az O ?_))));refine Cd.fW O (cE O (de (cT ?_)));refine bQ O ?_;exact⟨by rw [dq (hI.bad (by omega) (by omega))],aw.none⟩
  refine ar O (ao O (ar O (ao O (ar O ?_))));refine ay (aw.jt 0 O).2 O (ar O (su (aw.jt 0 O) O (by omega) O O (az O ?_)));refine Cd.cond O (fun h3=>?_) (fun h3=>?_)
  ·refine cE O (de (cT ?_));refine bQ O ?_;exact⟨by rw [dq (hI.OY (by omega) (by omega) h3)],aw.none⟩
  refine aD O (ay (aw.jt 0 O).2 O (sw 0 aw O O O (by omega) ?_));intro w3 aI;refine ao O (aL O (aU O (tQ ?_)));exact⟨(k+1,S.set (gi p k).toNat true),by show p.length - (k+1)<p.length - k;omega,(ac4 O),aI,by show k+1<=_;omega,hI.step (by omega) (by omega) h3⟩
 refine bo O (bp (e6 O ?_));refine bQ O ?_;exact⟨by rw [fo (hI.done (by omega) (by omega))],aw.none⟩
def mc(p:ah):Prop:=∀i:Nat,i<p.length->gi p i≠i/\gi p (gi p i)=i
instance (p:ah):Decidable (mc p):=by unfold mc;exact inferInstance
theorem iR.range(h:iR p){i:Int}(h0:0<=i)(h1:i<p.length):0<=gi p i/\gi p i<p.length:=by
 have e:gi p i=p[i.toNat]'(by omega):=by simp [gi,df,dL (show i.toNat<p.length by omega)]
 rw [e];exact h.2.1 _ (dd _)
theorem Nj(A:ai)(n c:Nat)(p:ah)(w:aa)(hR:cd w A n p)(hp:iR p):aE prog 216 [.slice A n c] w (fun v w'=>v= .bool (decide (mc p))/\w'=w):=by
 have hl:=hR.1;subst hl;have Mu:=hp.1;refine bm func216 O ntmps216 O (bU O) (b7 O ?_);refine Cd.loop (α:=Nat) (fun k=> [(0,.slice A p.length c),(3,aj k)]) (fun k w'=>w'=w/\k<=p.length/\∀i,i<k->gi p i≠i/\gi p (gi p i)=i) (fun k=>p.length - k) 0 (ac4 O) ⟨O,bA _,fun i hi=>by omega⟩ ?_;rintro k e w2 ⟨rfl,hk,hI⟩;refine aY O (aZ O O (az O ?_));refine aM _ O (fun h1=>?_) (fun h1=>?_)
 ·have hr:=hp.range (i:=k) (by omega) h1;refine aD O (acU hR.2 O O O (by omega) h1 (bc hR O (ao O ?_)));refine bX 16 O (fun h2=>?_) (fun h2=>?_)
  ·refine av O (av O (av O (av O (av O (av O (av O (av O (av O (az O ?_)))))))));refine Cd.fW O (cE O (de (cT ?_)));refine bQ O ?_;exact⟨by rw [dq (fun hf:mc p=> (hf k (by omega)).1 h2)],O⟩
  refine ar O (ao O (ar O (ao O (ar O (ao O (ar O ?_))))));refine acU hR.2 O O O (by omega) h1 (ar O (bc hR O (ar O (ay hR.2 O (ar O (bc hR O ?_))))));refine ar O (ao O (ar O (az O ?_)));refine aM _ O (fun h3=>?_) (fun h3=>?_)
  ·refine cE O (de (cT ?_));refine bQ O ?_;exact⟨by rw [dq (fun hf:mc p=>h3 (hf k (by omega)).2)],O⟩
  refine aD O (aL O (aU O (tQ ?_)));refine⟨k+1,by omega,(ac4 O),O,by omega,fun i hi=>?_⟩
  by_cases e:i=k
  ·subst e;exact⟨h2,gC.1 h3⟩
  exact hI i (by omega)
 refine bo O (bp (e6 O ?_));refine bQ O ?_;exact⟨by rw [fo (show mc p from fun i hi=>hI i (by omega))],O⟩
theorem WV(A:ai)(n c:Nat)(p:ah)(w:aa)(hR:cd w A n p):aE prog 126 [.slice A n c] w (fun v w'=>v= .bool (decide (iR p/\mc p))/\St w w' []):=by
 have hl:=hR.1;subst hl;refine bm func126 O ntmps126 O (bU O) (aY O (aH (W1 _ _ _ _ _ hR) O ?_));rintro _ w1 ⟨rfl,aB⟩
 first | refine dM rfl rfl ?_ | refine eI rfl rfl ?_
 refine az O (aM _ O (fun hp=>?_) (fun hp=>?_))
 ·refine cE O (bQ O ?_);exact⟨by rw [dq (fun h=>hp h.1)],aB⟩
 have hp:=gC.1 hp;have Mu:=hp.1;refine aD O (aZ O O (az O ?_));refine Cd.loop (α:=Nat) (fun k=> [(0,.slice A p.length c),(8,.slice A p.length c),(9,aj (p.length:Int)),(10,aj k)]) (fun k w'=>St w w' []/\k<=p.length/\∀i,i<k->gi p i≠i/\gi p (gi p i)=i) (fun k=>p.length - k) 0 (ac4 O) ⟨aB,bA _,fun i hi=>by omega⟩ ?_;rintro k e w2 ⟨aw,hk,hI⟩;refine b7 O (aM _ O (fun h1=>?_) (fun h1=>?_))
 ·have hr:=hp.range (i:=k) (by omega) h1;have hA:=aw.dY hR;refine aD O (acU hA.2 O O O (by omega) h1 (bc hA O (ao O ?_)));refine bX 18 O (fun h2=>?_) (fun h2=>?_)
  ·refine av O (av O (av O (av O (av O (av O (az O ?_))))));refine Cd.fW O (cE O (de (cT ?_)));refine bQ O ?_;exact⟨by rw [dq (fun hf:iR p/\mc p=> (hf.2 k (by omega)).1 h2)],aw⟩
  refine ar O (ao O (ar O (ao O (ar O ?_))));refine ay hA.2 O (ar O (bc hA O ?_));refine ar O (ao O (ar O (az O ?_)));refine aM _ O (fun h3=>?_) (fun h3=>?_)
  ·refine cE O (de (cT ?_));refine bQ O ?_;exact⟨by rw [dq (fun hf:iR p/\mc p=>h3 (hf.2 k (by omega)).2)],aw⟩
  refine aD O (aL O (aU O (tQ ?_)));refine⟨k+1,by omega,(ac4 O),aw,by omega,fun i hi=>?_⟩
  by_cases e:i=k
  ·subst e;exact⟨h2,gC.1 h3⟩
  exact hI i (by omega)
 refine bo O (bp (e6 O ?_));refine bQ O ?_;exact⟨by rw [fo (show iR p/\mc p from⟨hp,fun i hi=>hI i (by omega)⟩)],aw⟩
theorem uS(A Am:ai)(n c:Nat)(f:Nat->ab)(w:aa)(hR:Rd w A 1 f)(hf:f 0= .slice Am n c):aE prog 124 [.pointer A] w (fun v w'=>v=aj n/\w'=w):=by
 refine bm func124 O ntmps124 O (bU O) (aY O ?_);refine eV hR (by decide) O O (aS hR O (acZ hR O O hf O O (aH (wC _ _ _ _) O ?_)));rintro _ _ ⟨rfl,rfl⟩;refine bu O (fP O ?_);exact⟨O,O⟩
theorem nN(A Am:ai)(n c:Nat)(rs:List aO)(xss:ag)(f:Nat->ab)(w:aa)(hR:Rd w A 1 f)(hf:f 0= .slice Am n c)(hM:bl w Am n rs xss)(hn:0<n):aE prog 125 [.pointer A] w (fun v w'=>v=aj ((rg rs 0).n:Int)/\w'=w):=by
 refine bm func125 O ntmps125 O (bU O) (aY O ?_);refine eV hR (by decide) O O (aS hR O (acZ hR O O hf O O (ay hM.top.2 O (bB hM.top O (aH (wB _ _ _ _) O ?_)))));rintro _ _ ⟨rfl,rfl⟩;refine bu O (fP O ?_);exact⟨O,O⟩
end
section
variable{l p b:ah}{x y z pt:Int}
theorem DQ:∀(n:Nat) (l:List Nat),l.Nodup->(∀x∈l,x<n)->l.length<=n
 | 0,l,_,h=>by
  cases l with
  | nil=>simp
  | cons a l=>exact absurd (h a (by simp)) (by omega)
 | n+1,l,hn,h=>by
  have h1:=DQ n (l.erase n) (hn.erase n) (fun x hx=>by
   have h2:=(hn.mem_erase_iff).1 hx;have:=h x h2.2;omega)
  have:=List.length_erase_le (a:=n) (l:=l);rw [List.length_erase]at h1
  split at h1<;>omega
theorem tq{N:Nat}(hn:l.Nodup)(h:∀x∈l,0<=x/\x<N):l.length<=N:=by
 have:=DQ N (l.map Int.toNat) (by
  rw [List.nodup_iff_pairwise_ne,nJ];refine List.Pairwise.imp_of_mem ?_ hn;intro a b ha hb jn e;have:=h a ha;have:=h b hb;omega) (fun x hx=>by
  obtain⟨y,hy,rfl⟩:=fx.1 hx;have:=h y hy;omega)
 simpa using this
def Sys(N:Nat)(xss:ag):Prop:=∀p∈xss,p.length=N/\∀x:Int,0<=x->x<N->0<=gi p x/\gi p x<N
inductive Reach(xss:ag)(x:Int):Int->Prop where
 | refl:Reach xss x x
 | step {y:Int} {p:ah}:Reach xss x y->p∈xss->Reach xss x (gi p y)
theorem Reach.trans{xss:ag}(h:Reach xss x y)(h':Reach xss y z):Reach xss x z:=by
 induction h' with
 | refl=>exact h
 | step _ hp ih=>exact .step ih hp
def fh(out:ah)(y:Int):ah:=if y∈out then out else out++ [y]
def expand(xss:ag)(x:Int)(out:ah):ah:=xss.foldl (fun o p=>fh o (gi p x)) out
def jk(xss:ag):Nat->Nat->ah->ah
 | 0,_,out=>out
 | f+1,i,out=>if i<out.length then jk xss f (i+1) (expand xss (gi out i) out)else out
def da(N:Nat)(xss:ag)(pt:Int):ah:=jk xss (N+1) 0 [pt]
theorem DZ{out:ah}:z∈fh out y↔z∈out\/z=y:=by
 unfold fh
 split
 ·constructor
  ·exact Or.inl
  rintro(h | rfl)
  ·exact h
  assumption
 simp
theorem Zt{out:ah}(h:out.Nodup):(fh out y).Nodup:=by
 unfold fh
 split
 ·exact h
 rename_i hy;rw [List.nodup_append];refine⟨h,by simp,fun a ha b hb=>?_⟩;simp at hb;subst hb;rintro rfl;exact hy ha
theorem D0(out:ah)(y:Int):out<+:fh out y:=by
 unfold fh
 split
 ·exact List.prefix_rfl
 exact List.prefix_append _ _
structure Good(N:Nat)(xss:ag)(pt:Int)(out:ah):Prop where
 nodup:out.Nodup
 range:∀x∈out,0<=x/\x< (N:Int)
 reach:∀x∈out,Reach xss pt x
theorem Good.push{N:Nat}{xss:ag}{out:ah}(h:Good N xss pt out)(hs:Sys N xss)(hx:x∈out)(hp:p∈xss):Good N xss pt (fh out (gi p x)):=
 ⟨Zt h.nodup,fun z hz=>by
  rcases DZ.1 hz with hz | rfl
  ·exact h.range z hz
  ·exact(hs p hp).2 x (h.range x hx).1 (h.range x hx).2,fun z hz=>by
  rcases DZ.1 hz with hz | rfl
  ·exact h.reach z hz
  exact .step (h.reach x hx) hp⟩
theorem Good.len{N:Nat}{xss:ag}{out:ah}(h:Good N xss pt out):out.length<=N:=tq h.nodup h.range
theorem foldl_push{N:Nat}{xss:ag}{pt:Int}(hs:Sys N xss){x:Int}:∀(ps:ag) (out:ah),(∀p∈ps,p∈xss)->Good N xss pt out->x∈out->
 Good N xss pt (ps.foldl (fun o p=>fh o (gi p x)) out)/\out<+:ps.foldl (fun o p=>fh o (gi p x)) out/\∀p∈ps,gi p x∈ps.foldl (fun o p=>fh o (gi p x)) out
 | [],out,_,h,_=> ⟨h,List.prefix_rfl,fun p hp=>by cases hp⟩
 | q::ps,out,jY,h,hx=>by
  have h1:=h.push hs hx (jY q (by simp));have fX:=D0 out (gi q x);obtain⟨g1,g2,g3⟩:=foldl_push hs ps (fh out (gi q x)) (fun p hp=>jY p (by simp [hp])) h1 (fX.subset hx);refine⟨g1,fX.trans g2,fun p hp=>?_⟩;rcases ja.1 hp with rfl | hp
  ·exact g2.subset (DZ.2 (Or.inr O))
  ·exact g3 p hp
theorem gi_in{out:ah}{i:Nat}(h:i<out.length):gi out i∈out:=by rw [bN h];exact dd h
theorem tV{a:ah}(h:a<+:b){i:Nat}(hi:i<a.length):gi b i=gi a i:=by
 rw [bN hi,bN (Nat.lt_of_lt_of_le hi h.length_le)];obtain⟨t,rfl⟩:=h;rw [List.getElem_append_left hi]
theorem Jw{N:Nat}{xss:ag}{pt:Int}(hs:Sys N xss):∀(f i:Nat) (out:ah),Good N xss pt out->N<f+i->(∀j,j<i->j<out.length->∀p∈xss,gi p (gi out j)∈out)->
 Good N xss pt (jk xss f i out)/\out<+:jk xss f i out/\∀x∈jk xss f i out,∀p∈xss,gi p x∈jk xss f i out
 | 0,i,out,h,hf,hc=>by
  simp only [jk];refine⟨h,List.prefix_rfl,fun x hx p hp=>?_⟩;obtain⟨j,hj,rfl⟩:=gu.1 hx;have:=h.len;have:=hc j (by omega) hj p hp;rw [bN hj]at this;exact this
 | f+1,i,out,h,hf,hc=>by
  simp only [jk]
  split
  ·rename_i hi;obtain⟨g1,g2,g3⟩:=foldl_push hs xss out (fun p hp=>hp) h (gi_in hi);replace g2:out<+:expand xss (gi out i) out:=g2;obtain⟨k1,k2,k3⟩:=Jw hs f (i+1) (expand xss (gi out i) out) g1 (by omega) (fun j hj mo p hp=>by
    by_cases pR:j=i
    ·subst pR;show gi p (gi (expand xss _ out) _)∈expand xss _ out;rw [tV g2 hi];exact g3 p hp
    ·have zP:j<out.length:=by omega
     show gi p (gi (expand xss _ out) _)∈expand xss _ out;rw [tV g2 zP];exact g2.subset (hc j (by omega) zP p hp))
   exact⟨k1,g2.trans k2,k3⟩
  ·rename_i hi;refine⟨h,List.prefix_rfl,fun x hx p hp=>?_⟩;obtain⟨j,hj,rfl⟩:=gu.1 hx;have:=hc j (by omega) hj p hp;rw [bN hj]at this;exact this
theorem Cv{N:Nat}{xss:ag}(h0:0<=pt)(h1:pt<N):Good N xss pt [pt]:=
 ⟨by simp,fun x hx=>by simp at hx;subst hx;exact⟨h0,h1⟩,fun x hx=>by simp at hx;subst hx;exact .refl⟩
theorem qN{N:Nat}{xss:ag}(hs:Sys N xss)(h0:0<=pt)(h1:pt<N):
 Good N xss pt (da N xss pt)/\ [pt]<+:da N xss pt/\∀x,x∈da N xss pt↔Reach xss pt x:=by
 obtain⟨g1,g2,g3⟩:=Jw (N:=N) hs (N+1) 0 [pt] (Cv h0 h1) (by omega) (fun j hj=>by omega);refine⟨g1,g2,fun x=> ⟨g1.reach x,fun hr=>?_⟩⟩
 induction hr with
 | refl=>exact g2.subset (by simp)
 | step _ hp ih=>exact g3 _ ih _ hp
end
section
open Go.RowKit
def qi(M:Nat)(S:List Bool)(out:ah):Prop:=S.length=M/\∀x:Int,0<=x->x<M->(gb S x=true↔x∈out)
theorem qi.init{M:Nat}{pt:Int}(h0:0<=pt)(h1:pt<M):qi M ((List.replicate M false).set pt.toNat true) [pt]:=by
 refine⟨by simp,fun x hx dG=>?_⟩;rw [Ct h0 (by simpa using h1) hx]
 by_cases e:pt=x
 ·simp [e]
 rw [aC e];have:x≠pt:=fun h=>e h.symm
 simp [gb,df,List.getElem?_replicate,this]
 split<;>simp
theorem qi.push{M:Nat}{S:List Bool}{out:ah}{y:Int}(h:qi M S out)(h0:0<=y)(h1:y<M):qi M (S.set y.toNat true) (out++ [y]):=by
 refine⟨by simpa using h.1,fun x hx dG=>?_⟩;rw [Ct h0 (by rw [h.1];exact h1) hx,gE]
 by_cases e:y=x
 ·simp [e]
 rw [aC e,h.2 x hx dG];have:x≠y:=fun h=>e h.symm
 simp [this]
theorem Ju{xss:ag}{f i:Nat}{out:ah}(h:¬i<out.length):jk xss f i out=out:=by
 cases f with
 | zero=>rfl
 | succ f=>simp only [jk];rw [aC h]
theorem bl.jh{w:aa}{A:ai}{n:Nat}{rs:List aO}{xss:ag}(h:bl w A n rs xss){k:Int}(h0:0<=k)(h1:k<n):(gl xss k).length=(rg rs k).n:=(h.at_ h0 h1).1
theorem mJ{xss:ag}{k:Int}(h0:0<=k)(h:k<xss.length):gl xss k∈xss:=by
 obtain⟨j,rfl⟩:∃j:Nat,k=j:=⟨k.toNat,by omega⟩;rw [cM (by omega)];exact dd _
theorem Hw(A:ai)(n c:Nat)(rs:List aO)(xss:ag)(N:Nat)(pt:Int)(w:aa)(hR:bl w A n rs xss)(hn:n<=9223372036854775807)(hs:Sys N xss)(hN:N<=1000000000)(h0:0<=pt)(h1:pt<N):
 aE prog 217 [.slice A n c,aj pt] w (fun v w'=>∃A' c',v= .slice A' (da N xss pt).length c'/\St w w' [ax 2 A' (da N xss pt).length c' (da N xss pt)]):=by
 have bO:∀k:Int,0<=k->k<n->(rg rs k).n=N:=fun k oN hk=>by
  rw [<-hR.jh oN hk];exact(hs _ (mJ oN (by rw [hR.len];exact hk))).1
 refine bm func217 O ntmps217 O (bU O) (aY O (fk (St.refl w) O O O ?_));intro A1 w1 aB;refine wJ 2 O (pc (α:=Nat) (fun s=> [(0,.slice A n c),(1,aj pt),(5,.slice A1 1 1),(6,aj s)]) (fun s w'=>w'=w1/\s<=N/\(0<n->s=N)) ?_ ?_)
 ·refine aY O (aZ O O (az O ?_));refine aM _ O (fun h2=>?_) (fun h2=>?_)
  ·refine aD O (ay (aB.Bj hR.top).2 O (bB (aB.Bj hR.top) O ?_));refine aZ O O (aU O (tQ ?_));exact⟨N,⟨O,O,O,by rw [bO 0 (by omega) (by omega)];rfl,au⟩,O,dE _,fun _=>O⟩
  refine mC O (tQ ?_);exact⟨0,(ac4 O),O,bA _,fun h=>by omega⟩
 rintro s e1 w2 ⟨rfl,V5,oR⟩;have x8:n=0->N=N:=fun _=>O
 refine aD O (aL O (aL O ?_));refine wR (s+pt.toNat+1) aB (by show Value.int .i64 _=Value.int .i64 _;congr 1;omega) O (by omega) ?_;intro A2 w3 aI;refine ao O (ay (aI.jt 0 O).2 O (sw 0 aI O O O (by omega) ?_));intro w4 aG;refine az O (Cd.loop (α:=Nat×ah×ai×Nat×List Bool) (fun q=> [(0,.slice A n c),(5,.slice q.2.2.1 q.2.1.length q.2.2.2.1),(7,.slice A2 (s+pt.toNat+1) (s+pt.toNat+1)),(8,aj (q.1:Int))]) (fun q w'=>St w w' [jL 4 A2 (s+pt.toNat+1) (s+pt.toNat+1) q.2.2.2.2,ax 2 q.2.2.1 q.2.1.length q.2.2.2.1 q.2.1]/\q.1<=q.2.1.length/\Good N xss pt q.2.1/\qi (s+pt.toNat+1) q.2.2.2.2 q.2.1/\jk xss (N+1 - q.1) q.1 q.2.1=da N xss pt) (fun q=>N+1 - q.1) (0,[pt],A1,1,(List.replicate (s+pt.toNat+1) false).set pt.toNat true) (ac4 O) ⟨aG,bA _,Cv h0 h1,qi.init h0 (by omega),O⟩ ?_);rintro⟨i,out,Ao,co,S⟩ e2 w5 ⟨aR,hi,hg,hm,hb⟩;dsimp only at aR hi hg hm hb|-;have hlen:=hg.len;refine aY O (aZ O O (az O ?_));refine aM _ O (fun h2=>?_) (fun h2=>?_)
 ·refine cH O (Cd.loop (α:=Nat×ah×ai×Nat×List Bool) (fun q=> [(0,.slice A n c),(5,.slice q.2.2.1 q.2.1.length q.2.2.2.1),(7,.slice A2 (s+pt.toNat+1) (s+pt.toNat+1)),(8,aj i),(9,aj (q.1:Int))]) (fun q w'=>St w w' [jL 4 A2 (s+pt.toNat+1) (s+pt.toNat+1) q.2.2.2.2,ax 2 q.2.2.1 q.2.1.length q.2.2.2.1 q.2.1]/\q.1<=n/\Good N xss pt q.2.1/\qi (s+pt.toNat+1) q.2.2.2.2 q.2.1/\out<+:q.2.1/\(xss.drop q.1).foldl (fun o p=>fh o (gi p (gi out i))) q.2.1=expand xss (gi out i) out) (fun q=>n - q.1) (0,out,Ao,co,S) (ac4 O) ⟨aR,bA _,hg,hm,List.prefix_rfl,O⟩ ?_);rintro⟨k,fY,uX,xi,S'⟩ e3 w6 ⟨aQ,hk,kM,ic,fV,hf⟩;dsimp only at aQ hk kM ic fV hf|-;have s8:=kM.len;refine aY O (aZ O O (az O ?_));refine aM _ O (fun h3=>?_) (fun h3=>?_)
  ·have s6:i<fY.length:=by have:=fV.length_le;omega
   have uo:gi fY i=gi out i:=tV fV (by omega);have lY:=hg.range _ (gi_in (i:=i) (by omega));have jE:gl xss k∈xss:=mJ (by omega) (by rw [hR.len];omega);have hy:=(hs _ jE).2 (gi out i) lY.1 lY.2;have iW:=bO k (by omega) (by omega);have V5:s=N:=oR (by omega);have hT:=(aQ.bE hR);have hO:=aQ.bz 1 O;have bH:=hT.at_ (i:=k) (by omega) (by omega);refine cH O ?_;refine dK [xS (A) (n) (c),xI ((k:Int)),xP (aF (A) ((k:Int)).toNat),xS ((rg (rs) ((k:Int))).a) ((rg (rs) ((k:Int))).n) ((rg (rs) ((k:Int))).c),xS (uX) (fY.length) (xi),xI ((i:Int)),xP (aF (uX) ((i:Int)).toNat),xI (gi (fY) ((i:Int))),xP (aF ((rg (rs) ((k:Int))).a) (gi (fY) ((i:Int))).toNat),xI (gi (gl xss k) (gi (fY) ((i:Int)))),xI (gi (gl xss k) (gi (fY) ((i:Int))))] O (eo O) ?_ ?_
   ·exact⟨Dr O,Dr O,fun _ _ hb _ _=>ay (hT.top.aq hb).2 O Az,fun _ _ hb _ _=>bB (hT.top.aq hb) O Az,Dr O,Dr O,fun _ _ hb _ _=>ay (hO.aq hb).2 O Az,fun _ _ hb _ _=>bc (hO.aq hb) O Az,fun _ _ hb _ _=>acU (bH.aq hb).2 O O O (by rw [uo];omega) (by rw [uo,iW];omega) Az,fun _ _ hb _ _=>bc (bH.aq hb) O Az,Dr O,au⟩
   intro u w7 vG _;have a6:=aQ.aq vG;rw [uo];have sY:(xss.drop (k+1)).foldl (fun o p=>fh o (gi p (gi out i))) (fh fY (gi (gl xss k) (gi out i)))=expand xss (gi out i) out:=by
    rw [<-hf,List.drop_eq_getElem_cons (show k<xss.length by rw [hR.len];omega),List.foldl_cons,cM (by rw [hR.len];omega)]
   refine fK O (ay (a6.jt 0 O).2 O (su (a6.jt 0 O) O (by omega) O O ?_))
   first | refine dM rfl rfl ?_ | refine eI rfl rfl ?_
   refine az O (Cd.cond O (fun h4=>?_) (fun h4=>?_))
   ·have GP:¬gi (gl xss k) (gi out i)∈fY:=fun cS=>by
     have:=(ic.2 _ hy.1 (by omega)).2 cS;rw [this]at h4;cases h4
    have vT:fh fY (gi (gl xss k) (gi out i))=fY++ [gi (gl xss k) (gi out i)]:=by unfold fh;rw [if_neg GP]
    have sZ:=kM.push hs (fV.subset (gi_in (i:=i) (by omega))) jE;have z7:=fV.trans (D0 fY (gi (gl xss k) (gi out i)));rw [vT]at sY sZ z7;have GH:=sZ.len;simp only [e8,List.length_singleton]at GH;refine aD O (ay (a6.jt 0 O).2 O (sw 0 a6 O O O (by omega) ?_));intro w8 a7;refine ao O (fk a7 O O O ?_);intro A3 w9 aW;refine fR 2 aW O (aW.bz 0 O) O O O fun A4 c4 dt bV=>ao O (aL O (aU O (tQ ?_)));refine⟨(k+1,fY++ [gi (gl xss k) (gi out i)],A4,c4,S'.set (gi (gl xss k) (gi out i)).toNat true),by show n - (k+1)<n - k;omega,⟨O,by rw [e8];rfl,O,O,O,au⟩,?_,by show k+1<=n;omega,sZ,ic.push hy.1 (by omega),z7,sY⟩;have qu:=bV.tail;simp only [e8,List.length_singleton];exact qu
   have cS:gi (gl xss k) (gi out i)∈fY:=(ic.2 _ hy.1 (by omega)).1 (by simpa using h4);have vT:fh fY (gi (gl xss k) (gi out i))=fY:=by unfold fh;rw [if_pos cS]
   rw [vT]at sY;refine aD O (aL O (aU O (tQ ?_)));exact⟨(k+1,fY,uX,xi,S'),by show n - (k+1)<n - k;omega,(ac4 O),a6,by show k+1<=n;omega,kM,ic,fV,sY⟩
  refine bo O (bp (cn O (aL O (aU O (tQ ?_)))));have dp:k=n:=by omega
  rw [dp,<-hR.len,List.drop_length,List.foldl_nil]at hf;refine⟨(i+1,fY,uX,xi,S'),by show N+1 - (i+1)<N+1 - i;omega,(ac4 O),aQ,?_,kM,ic,?_⟩
  ·have:=fV.length_le;show i+1<=fY.length;omega
  show jk xss (N+1 - (i+1)) (i+1) fY=da N xss pt;rw [<-hb,hf];have e:N+1 - i=(N+1 - (i+1))+1:=by omega
  rw [e];simp only [jk];rw [aJ (by omega)]
 refine bo O (bp (e6 O ?_));refine fA O ?_;rw [Ju (by omega)]at hb;exact⟨Ao,co,by rw [hb],by rw [<-hb];exact aR.tail⟩
def gK(l:List Oper):List Nat:=l.filterMap (·.dst)
theorem Fc{α β:Type}(f:α->Option β):∀(l:List α),(l.filterMap f).Nodup->∀(i j:Nat) (a b:α) (d:β),l[i]?=some a->l[j]?=some b->f a=some d->f b=some d->i=j
 | [],_,i,j,a,b,d,hi,_,_,_=>by simp at hi
 | x::l,hn,i,j,a,b,d,hi,hj,ha,hb=>by
  have mem:∀(k:Nat) (c:α),l[k]?=some c->f c=some d->d∈l.filterMap f:=fun k c hk hc=>List.mem_filterMap.2 ⟨c,List.mem_of_getElem? hk,hc⟩
  cases hx:f x with
  | none=>
   rw [List.filterMap_cons,hx]at hn;cases i with
   | zero=>simp at hi;subst hi;rw [hx]at ha;cases ha
   | succ i=>
    cases j with
    | zero=>simp at hj;subst hj;rw [hx]at hb;cases hb
    | succ j=>rw [Fc f l hn i j a b d (by simpa using hi) (by simpa using hj) ha hb]
  | some y=>
   rw [List.filterMap_cons,hx]at hn;simp only [mV]at hn;cases i with
   | zero=>
    simp at hi;subst hi;rw [hx]at ha;cases ha;cases j with
    | zero=>rfl
    | succ j=>exact absurd (mem j b (by simpa using hj) hb) hn.1
   | succ i=>
    cases j with
    | zero=>
     simp at hj;subst hj;rw [hx]at hb;cases hb;exact absurd (mem i a (by simpa using hi) ha) hn.1
    | succ j=>rw [Fc f l hn.2 i j a b d (by simpa using hi) (by simpa using hj) ha hb]
def valOf(o:Oper)(e:Env):ab:=match o.dst with
 | some d=>e d
 | none=>undef
def M5:Yd->Bool
 | .ex _=>true
 | .pr _=>false
def DL(l:List Oper)(ms:List Nat)(k:Nat):Nat:=ms.countP fun m=>gX l l.length k m
def xO(l:List Oper)(ms:List Nat)(k:Nat):Nat:=ms.countP fun m=>!(gX l l.length m k) && !(Nat.beq m k)
def ki(l:List Oper)(ms:List Nat)(k:Nat):Nat:=ms.countP fun m=>Nat.beq m k || gX l l.length k m
def xe(l:List Oper)(ms:List Nat)(m:Nat):Bool:=ms.all fun m'=>Nat.beq m' m || gX l l.length m m' || gX l l.length m' m
def Yd.at_(c ph:Nat):Yd->ab->aa->Prop
 | .ex v,u,_=>u=v
 | .pr p,u,w=>c=ph->p u w
theorem uG{a b c:Nat}(h:c<=a)(e:a=b):c<=b:=e▸h
theorem cc_of{a b c d:Nat}(h:a<=c)(k:c<=d)(e:a=b:=by kernel_rfl)(f:d=b:=by kernel_rfl):c=b:=by omega
section
variable {P:Program} {N:Nat} {e:Env} {w:aa}
theorem O3(e1:Env)(d:Nat)(v:ab):bt e1 d v d=v:=by unfold bt;rw [Nat.beq_refl];rfl
theorem O4(e1:Env){d j:Nat}(v:ab)(h:j≠d):bt e1 d v j=e1 j:=by
 have:Nat.beq j d=false:=by
  cases hb:Nat.beq j d with
  | false=>rfl
  | true=>exact absurd (lH hb) h
 unfold bt;rw [this];rfl
theorem Cc{ms:List Nat}{p q:Nat->Bool}(h:∀m∈ms,p m=true->q m=true):ms.countP p<=ms.countP q:=List.countP_mono_left h
end
inductive Ye where
 | ex (v:ab)
 | pr (p:ab->aa->Prop)
 | p2 (j:Nat) (p:ab->ab->aa->Prop)
 | al (q:ab->Prop) (p:ab->aa->Prop)
def vl(l:List Oper)(e:Env)(k:Nat):ab:=match l[k]? with
 | some o=>valOf o e
 | none=>undef
def Ye.holds(uu:Nat->ab):Ye->ab->aa->Prop
 | .ex v,u,_=>u=v
 | .pr p,u,w=>p u w
 | .p2 j p,u,w=>p (uu j) u w
 | .al q p,u,w=>q u/\p u w
def Ye.oc:Ye->Prop
 | .ex _=>True
 | .pr p=>∀v w w',p v w->Below w.heap.size w w'->p v w'
 | .p2 _ p=>∀a v w w',p a v w->Below w.heap.size w w'->p a v w'
 | .al _ p=>∀v w w',p v w->Below w.heap.size w w'->p v w'
theorem Ye.Yg(v:ab):(Ye.ex v).oc:=True.intro
theorem ly{v:ab}{l:List Ye}(h:∀y∈l,y.oc):∀y∈Ye.ex v::l,y.oc:=cL.2 ⟨True.intro,h⟩
theorem Ye.cQ{p:ab->aa->Prop}(h:∀v w w',p v w->Below w.heap.size w w'->p v w'):(Ye.pr p).oc:=h
abbrev yU:Ye:= .ex undef
abbrev yI(i:Int):Ye:= .ex (aj i)
abbrev yB(b:Bool):Ye:= .ex (.bool b)
abbrev yP(a:ai):Ye:= .ex (.pointer a)
abbrev yS(a:ai)(n c:Nat):Ye:= .ex (.slice a n c)
theorem Qy{q:ab->Prop}{p:ab->aa->Prop}(h:∀v w w',p v w->Below w.heap.size w w'->p v w'):(Ye.al q p).oc:=h
def Hq:Ye->Bool
 | .ex _=>true
 | .pr _=>false
 | .p2 ..=>false
 | .al ..=>false
def JY(N:Nat)(l:List Oper)(ys:List Ye)(ms:List Nat):Bool:=
 l.all (fun o=>match o.dst with | some d=>Nat.blt d N | none=>true) && decide ((gK l).Nodup) && (l.zipIdx.all fun p=> (eD p.1).all fun ed=>Nat.blt ed.on p.2) && Nat.beq l.length ys.length && (l.zip ys).all (fun p=>p.1.dst.isSome || !Hq p.2) && decide ms.Nodup && ms.all (fun m=>Nat.blt m l.length) && (ys.zipIdx.all fun p=>!(Hq p.1) || !(ms.contains p.2)) && (ys.zipIdx.all fun p=>match p.1 with | .p2 j _=>gX l l.length p.2 j && Nat.blt j l.length | _=>true)
def Ye.at_(c ph:Nat)(uu:Nat->ab):Ye->ab->aa->Prop
 | .ex v,u,_=>u=v
 | .pr p,u,w=>c=ph->p u w
 | .p2 j p,u,w=>c=ph->p (uu j) u w
 | .al q p,u,w=>q u/\(c=ph->p u w)
def ng:List Oper->List Ye->(Nat->ab)->Nat->List (Nat×ab)
 | o::l,y::ys,u,i=>match o.dst,y with
  | some d,.ex v=> (d,v)::ng l ys u (i+1)
  | some d,.pr _=> (d,u i)::ng l ys u (i+1)
  | some d,.p2 ..=> (d,u i)::ng l ys u (i+1)
  | some d,.al ..=> (d,u i)::ng l ys u (i+1)
  | none,_=>ng l ys u (i+1)
 | _,_,_,_=> []
def la(l:List Oper)(ys:List Ye):List Edge->List (Nat×ab)
 | []=> []
 | ed::r=>match ys[ed.on]?,(l[ed.on]?).bind (·.dst)with
  | some (.ex v),some d=> (d,v)::la l ys r
  | _,_=>la l ys r
section
variable{o:Oper}{y:Ye}{e1:Env}{w1 w2:aa}{d id:Nat}{l:List Oper}{ys:List Ye}{ms:List Nat}
variable {P:Program} {N:Nat} {e:Env} {w:aa}
def fB(o:Oper)(y:Ye)(uu:Nat->ab)(e1:Env)(w1:aa):Env->aa->Prop:=fun e2 w2=>Below w1.heap.size w1 w2/\y.holds uu (valOf o e2) w2/\∀j,o.dst≠some j->e2 j=e1 j
def fv(o:Oper)(y:Ye)(uu:Nat->ab)(e1:Env):Env->aa->Prop:=fun e2 w2=>y.holds uu (valOf o e2) w2/\∀j,o.dst≠some j->e2 j=e1 j
theorem fB.dn{uu:Nat->ab}{v:ab}(hd:o.dst=some d)(hb:Below w1.heap.size w1 w2)(hv:y.holds uu v w2):fB o y uu e1 w1 (bt e1 d v) w2:=by
 refine⟨hb,?_,fun j hj=>O4 e1 v (fun h=>hj (by rw [hd,h]))⟩;unfold valOf;rw [hd];show y.holds uu (bt e1 d v d) w2;rw [O3];exact hv
theorem fO{uu:Nat->ab}{v:ab}(hd:o.dst=some d)(hv:y.holds uu v w1):fB o y uu e1 w1 (bt e1 d v) w1:=fB.dn hd (Below.refl _ _) hv
theorem fv.dn{uu:Nat->ab}{v:ab}(hd:o.dst=some d)(hv:y.holds uu v w2):fv o y uu e1 (bt e1 d v) w2:=by
 refine⟨?_,fun j hj=>O4 e1 v (fun h=>hj (by rw [hd,h]))⟩;unfold valOf;rw [hd];show y.holds uu (bt e1 d v d) w2;rw [O3];exact hv
theorem fv.st{uu:Nat->ab}(hd:o.dst=none)(hv:y.holds uu undef w2):fv o y uu e1 e1 w2:=by
 refine⟨?_,fun j _=>O⟩;unfold valOf;rw [hd];exact hv
def tH(P:Program)(N:Nat)(l:List Oper)(ys:List Ye)(ms:List Nat)(e:Env)(w:aa)(i:Nat)(o:Oper):Prop:=
 ∀(e1:Env) (w1:aa) (c:Nat),DL l ms i<=c->c<=xO l ms i->(c=0->Below w.heap.size w w1)->(∀(j:Nat) (y:Ye) (o':Oper),gX l l.length i j=true->ys[j]?=some y->l[j]?=some o'->y.at_ c (ki l ms j) (vl l e1) (valOf o' e1) w1)->(∀(j:Nat) (o':Oper),l[j]?=some o'->gX l l.length j i=true->valOf o' e1=valOf o' e)->(∀(m:Nat) (y:Ye) (o':Oper),fJ ms m=true->xe l ms m=true->ki l ms m=c->ys[m]?=some y->l[m]?=some o'->y.at_ c (ki l ms m) (vl l e1) (valOf o' e1) w1)->
  bif fJ ms i then ak P N l.toArray (fv o (ys.getD i (.pr fun _ _=>True)) (vl l e1) (ext (mix e1 e (gK l)) (la l ys (eD o)))) [o] (ext (mix e1 e (gK l)) (la l ys (eD o))) w1
  else ak P N l.toArray (fB o (ys.getD i (.pr fun _ _=>True)) (vl l e1) (ext (mix e1 e (gK l)) (la l ys (eD o))) w1) [o] (ext (mix e1 e (gK l)) (la l ys (eD o))) w1
theorem Px{ops:Array Oper}{uu:Nat->ab}{v:ab}(h:qQ ops N e1 o=some (d,v))(hv:y.holds uu v w1):ak P N ops (fB o y uu e1 w1) [o] e1 w1:= .qQ h (fB.dn (OQ h) (Below.refl _ _) hv)
theorem bG{ops:Array Oper}{uu:Nat->ab}{v:ab}(hd:o.dst=some d)(hv:y.holds uu v w1):ak P N ops (fB o y uu e1 w1) [] (bt e1 d v) w1:=ak.n (fB.dn hd (Below.refl _ _) hv)
theorem cj{i:Nat}{v:ab}(h:((fJ ms i,(ys.getD i (.pr fun _ _=>True))),fun e1=>qQ l.toArray N (ext (mix e1 e (gK l)) (la l ys (eD o))) o)=((false,.ex v),fun _=>some (d,v))):tH P N l ys ms e w i o:=fun e1 w1 c _ _ _ _ _ _=>by
 have h1:=congrFun (Prod.mk.inj h).2 e1;rw [(Prod.mk.inj (Prod.mk.inj h).1).1,(Prod.mk.inj (Prod.mk.inj h).1).2];exact Px h1 O
theorem cP{i:Nat}(h:∀(e1:Env) (w1:aa),Below w.heap.size w w1->(∀(j:Nat) (y:Ye) (o':Oper),gX l l.length i j=true->ys[j]?=some y->l[j]?=some o'->y.at_ 0 (ki l ms j) (vl l e1) (valOf o' e1) w1)->(∀(j:Nat) (o':Oper),l[j]?=some o'->gX l l.length j i=true->valOf o' e1=valOf o' e)->(∀(m:Nat) (y:Ye) (o':Oper),fJ ms m=true->xe l ms m=true->ki l ms m=0->ys[m]?=some y->l[m]?=some o'->y.at_ 0 (ki l ms m) (vl l e1) (valOf o' e1) w1)->
 ak P N l.toArray (fB o (ys.getD i (.pr fun _ _=>True)) (vl l e1) (ext (mix e1 e (gK l)) (la l ys (eD o))) w1) [o] (ext (mix e1 e (gK l)) (la l ys (eD o))) w1) (ht:fJ ms i=false:=by kernel_rfl) (hh:xO l ms i=0:=by kernel_rfl):tH P N l ys ms e w i o:=fun e1 w1 c _ dQ hb hp aX hq=>by
 obtain rfl:c=0:=by omega
 rw [ht];exact h e1 w1 (hb rfl) hp aX hq
theorem jy{i:Nat}(h:∀(e1:Env) (w1:aa),Below w.heap.size w w1->(∀(j:Nat) (y:Ye) (o':Oper),gX l l.length i j=true->ys[j]?=some y->l[j]?=some o'->y.at_ 0 (ki l ms j) (vl l e1) (valOf o' e1) w1)->(∀(j:Nat) (o':Oper),l[j]?=some o'->gX l l.length j i=true->valOf o' e1=valOf o' e)->(∀(m:Nat) (y:Ye) (o':Oper),fJ ms m=true->xe l ms m=true->ki l ms m=0->ys[m]?=some y->l[m]?=some o'->y.at_ 0 (ki l ms m) (vl l e1) (valOf o' e1) w1)->
 ak P N l.toArray (fv o (ys.getD i (.pr fun _ _=>True)) (vl l e1) (ext (mix e1 e (gK l)) (la l ys (eD o)))) [o] (ext (mix e1 e (gK l)) (la l ys (eD o))) w1) (ht:fJ ms i=true:=by kernel_rfl) (hh:xO l ms i=0:=by kernel_rfl):tH P N l ys ms e w i o:=fun e1 w1 c _ dQ hb hp aX hq=>by
 obtain rfl:c=0:=by omega
 rw [ht];exact h e1 w1 (hb rfl) hp aX hq
theorem dP{i:Nat}(b:Nat)(h:∀(e1:Env) (w1:aa),(∀(j:Nat) (y:Ye) (o':Oper),gX l l.length i j=true->ys[j]?=some y->l[j]?=some o'->y.at_ b (ki l ms j) (vl l e1) (valOf o' e1) w1)->(∀(j:Nat) (o':Oper),l[j]?=some o'->gX l l.length j i=true->valOf o' e1=valOf o' e)->(∀(m:Nat) (y:Ye) (o':Oper),fJ ms m=true->xe l ms m=true->ki l ms m=b->ys[m]?=some y->l[m]?=some o'->y.at_ b (ki l ms m) (vl l e1) (valOf o' e1) w1)->
 ak P N l.toArray (fB o (ys.getD i (.pr fun _ _=>True)) (vl l e1) (ext (mix e1 e (gK l)) (la l ys (eD o))) w1) [o] (ext (mix e1 e (gK l)) (la l ys (eD o))) w1) (ht:fJ ms i=false:=by kernel_rfl) (hl:DL l ms i=b:=by kernel_rfl) (hh:xO l ms i=b:=by kernel_rfl):tH P N l ys ms e w i o:=fun e1 w1 c eY dQ _ hp aX hq=>by
 obtain rfl:c=b:=by omega
 rw [ht];exact h e1 w1 hp aX hq
theorem pn{i:Nat}(b:Nat)(h:∀(e1:Env) (w1:aa),(∀(j:Nat) (y:Ye) (o':Oper),gX l l.length i j=true->ys[j]?=some y->l[j]?=some o'->y.at_ b (ki l ms j) (vl l e1) (valOf o' e1) w1)->(∀(j:Nat) (o':Oper),l[j]?=some o'->gX l l.length j i=true->valOf o' e1=valOf o' e)->(∀(m:Nat) (y:Ye) (o':Oper),fJ ms m=true->xe l ms m=true->ki l ms m=b->ys[m]?=some y->l[m]?=some o'->y.at_ b (ki l ms m) (vl l e1) (valOf o' e1) w1)->
 ak P N l.toArray (fv o (ys.getD i (.pr fun _ _=>True)) (vl l e1) (ext (mix e1 e (gK l)) (la l ys (eD o)))) [o] (ext (mix e1 e (gK l)) (la l ys (eD o))) w1) (ht:fJ ms i=true:=by kernel_rfl) (hl:DL l ms i=b:=by kernel_rfl) (hh:xO l ms i=b:=by kernel_rfl):tH P N l ys ms e w i o:=fun e1 w1 c eY dQ _ hp aX hq=>by
 obtain rfl:c=b:=by omega
 rw [ht];exact h e1 w1 hp aX hq
theorem aP{i:Nat}(h:∀(e1:Env) (w1:aa),ak P N l.toArray (fB o (ys.getD i (.pr fun _ _=>True)) (vl l e1) (ext (mix e1 e (gK l)) (la l ys (eD o))) w1) [o] (ext (mix e1 e (gK l)) (la l ys (eD o))) w1)(ht:fJ ms i=false:=by kernel_rfl):tH P N l ys ms e w i o:=fun e1 w1 c _ _ _ _ _ _=>by
 rw [ht];exact h e1 w1
def yY(P:Program)(N:Nat)(l:List Oper)(ys:List Ye)(ms:List Nat)(e:Env)(w:aa):Nat->List Oper->Prop
 | _,[]=>True
 | i,o::r=>tH P N l ys ms e w i o/\yY P N l ys ms e w (i+1) r
theorem yY.get:∀ {r:List Oper} {i:Nat},yY P N l ys ms e w i r->∀k o,r[k]?=some o->tH P N l ys ms e w (i+k) o
 | [],_,_,k,o,hk=>by simp at hk
 | x::r,i,h,0,o,hk=>by simp at hk;subst hk;exact h.1
 | x::r,i,h,k+1,o,hk=>by
  have:=yY.get h.2 k o (by simpa using hk);rw [show i+1+k=i+ (k+1) by omega]at this;exact this
theorem JV{l:List Oper}{ys:List Ye}{e1:Env}:∀(af:List Edge),(∀ed∈af,∀(v:ab) (o':Oper),ys[ed.on]?=some (.ex v)->l[ed.on]?=some o'->valOf o' e1=v)->Mt e1 (la l ys af)
 | [],_=>au
 | ed::r,h=>by
  have hr:=JV r (fun x hx=>h x (uZ _ hx));unfold la
  split
  ·rename_i v d hy hd;refine⟨?_,hr⟩;cases ho:l[ed.on]? with
   | none=>rw [ho]at hd;cases hd
   | some o'=>
    rw [ho]at hd;have xG:o'.dst=some d:=hd;have:=h ed (by simp) v o' hy ho;unfold valOf at this;rw [xG]at this;exact this
  ·exact hr
theorem JZ{e1 e:Env}:∀(l:List Oper) (ys:List Ye) (i:Nat),l.length=ys.length->(gK l).Nodup->(∀(k:Nat) (v:ab) (o:Oper),ys[k]?=some (.ex v)->l[k]?=some o->valOf o e1=v\/o.dst=none)->
 ∃u:Nat->ab,ext e (ng l ys u i)=mix e1 e (gK l)/\(∀(k:Nat) (o:Oper),l[k]?=some o->u (i+k)=valOf o e1)
 | [],[],i,_,_,_=> ⟨fun _=>undef,by funext j;rfl,fun k o h=>by simp at h⟩
 | [],y::ys,i,hl,_,_=>by simp at hl
 | o::l,[],i,hl,_,_=>by simp at hl
 | o::l,y::ys,i,hl,hn,h=>by
  have pT:(gK l).Nodup:=by
   unfold gK at hn|-;rw [List.filterMap_cons]at hn
   split at hn
   ·exact hn
   ·exact(mV.1 hn).2
  obtain⟨u,hu,mR⟩:=JZ (e1:=e1) (e:=e) l ys (i+1) (by simpa using hl) pT (fun k v o' hy ho=>h (k+1) v o' (by simpa using hy) (by simpa using ho));have EZ:∀(l:List Oper) (ys:List Ye) (i:Nat) (u u':Nat->ab),(∀k,i<=k->u k=u' k)->ng l ys u i=ng l ys u' i:=by
   intro l
   induction l with
   | nil=>intros;rfl
   | cons o l ih=>
    intro ys i u u' hk;cases ys with
    | nil=>rfl
    | cons y ys=>
     have h1:=ih ys (i+1) u u' (fun k dp=>hk k (by omega));simp only [ng];rw [h1,hk i (by omega)]
  have hc:=EZ l ys (i+1) (fun k=>if k=i then valOf o e1 else u k) u (fun k hk=>by show(if k=i then _ else _)=_;rw [aC (by omega)]);refine⟨fun k=>if k=i then valOf o e1 else u k,?_,fun k o' hk=>?_⟩
  ·cases hd:o.dst with
   | none=>
    have Ce:gK (o::l)=gK l:=by unfold gK;rw [List.filterMap_cons,hd]
    simp only [ng,hd,hc,hu,Ce]
   | some d=>
    have Ce:gK (o::l)=d::gK l:=by unfold gK;rw [List.filterMap_cons,hd]
    have mS:valOf o e1=e1 d:=by unfold valOf;rw [hd]
    have ig:∀v,v=e1 d->bt (mix e1 e (gK l)) d v=mix e1 e (d::gK l):=by
     intro v hv;funext j;simp only [bt,mix,fJ];cases hb:Nat.beq j d with
     | true=>rw [lH hb,hv];rfl
     | false=>rfl
    rw [Ce];cases y with
    | ex v=>
     have h0:=h 0 v o O O;simp only [ng,hd,ext,hc,hu];refine ig v ?_;rcases h0 with h0 | h0
     ·rw [<-h0,mS]
     ·rw [hd]at h0;cases h0
    | pr p=>
     simp only [ng,hd,ext,hc,hu,aJ];exact ig _ mS
    | p2 j p=>
     simp only [ng,hd,ext,hc,hu,aJ];exact ig _ mS
    | al q p=>
     simp only [ng,hd,ext,hc,hu,aJ];exact ig _ mS
  ·cases k with
   | zero=>simp at hk;subst hk;simp
   | succ k=>
    have:=mR k o' (by simpa using hk);show(if i+ (k+1)=i then _ else u (i+ (k+1)))=_;rw [aC (by omega),<-this];congr 1;omega
theorem jx{Q:gV}(ms:List Nat)(ys:List Ye)(hm:P.follows .mixedOrders=true)(bq:JY N l ys ms=true)(GG:∀y∈ys,y.oc)
 (Hb:yY P N l ys ms e w 0 l) (sV:∀u w1,(ms=[]->Below w.heap.size w w1)->(∀(k:Nat) (p:ab->aa->Prop),ys[k]?=some (Ye.pr p)->ki l ms k=ms.length->p (u k) w1)->(∀(k j:Nat) (p:ab->ab->aa->Prop),ys[k]?=some (Ye.p2 j p)->ki l ms k=ms.length->p (u j) (u k) w1)->(∀(k:Nat) (q:ab->Prop) (p:ab->aa->Prop),ys[k]?=some (Ye.al q p)->q (u k)/\(ki l ms k=ms.length->p (u k) w1))->Q .normal (ext e (ng l ys u 0)) w1):Cd P N (.region id l.toArray true) Q e w:= .mk' fun a ha=>by
 simp only [JY,Bool.and_eq_true,List.all_eq_true,qp]at bq;obtain⟨⟨⟨⟨⟨⟨⟨⟨h1,h2⟩,h3⟩,hlen⟩,VH⟩,Dg⟩,mN⟩,hmy⟩,rR⟩:=bq;have GW:∀(k j:Nat) (p:ab->ab->aa->Prop),ys[k]?=some (.p2 j p)->gX l l.length k j=true/\j<l.length:=by
  intro k j p hk;have:=rR (.p2 j p,k) (by rw [List.mem_iff_getElem?];exact⟨k,by simp [hk]⟩);simpa [Nat.blt_eq]using this
 have s8:l.length=ys.length:=lH hlen;have mL:∀(i:Nat) (o:Oper),l[i]?=some o->∀ed∈eD o,ed.on<i:=by
  intro i o ho ed eQ;have:=h3 (o,i) (by
   obtain⟨hi,s6⟩:=ga.1 ho;rw [List.mem_iff_getElem?];exact⟨i,by simp [ho]⟩)
  simpa [Nat.blt_eq]using this ed eQ
 have UK:∀(i:Nat) (o:Oper) (d:Nat),l[i]?=some o->o.dst=some d->d<N:=by
  intro i o d ho hd;have:=h1 o (List.mem_of_getElem? ho);rw [hd]at this;simpa [Nat.blt_eq]using this
 have hexd:∀(i:Nat) (o:Oper) (v:ab),l[i]?=some o->ys[i]?=some (.ex v)->o.dst≠none:=by
  intro i o v ho hy hd;have:=VH (o,.ex v) (by
   rw [List.mem_iff_getElem?];exact⟨i,by rw [List.getElem?_zip_eq_some];exact⟨ho,hy⟩⟩)
  simp [hd,Hq]at this
 refine wp_region_any hm ?_
 let oF:Array Bool->Nat:=fun listed=>ms.countP fun m=>listed.getD m false
 have key:∀(fuel:Nat) (listed:Array Bool) (a1:Act) (e1:Env) (w1:aa),gW N a1 e1->(oF listed=0->Below w.heap.size w w1)->(∀j,fJ (gK l) j=false->e1 j=e j)->listed.size=l.length->
  (∀(i:Nat) (y:Ye) (o:Oper),listed.getD i false=true->ys[i]?=some y->l[i]?=some o->y.at_ (oF listed) (ki l ms i) (vl l e1) (valOf o e1) w1)->(∀(i:Nat) (o:Oper),listed.getD i false=true->l[i]?=some o->∀ed∈eD o,listed.getD ed.on false=true)->(∀(i:Nat) (o:Oper),listed.getD i false=false->l[i]?=some o->valOf o e1=valOf o e)->(l.length - fuel<=(List.range l.length).countP fun i=>listed.getD i false)->
  wpAny P .any l.toArray (low N Q) fuel listed a1 w1:=by
  have jo:∀(listed:Array Bool) (a1:Act) (e1:Env) (w1:aa),gW N a1 e1->(oF listed=0->Below w.heap.size w w1)->(∀j,fJ (gK l) j=false->e1 j=e j)->
   (∀(i:Nat) (y:Ye) (o:Oper),listed.getD i false=true->ys[i]?=some y->l[i]?=some o->y.at_ (oF listed) (ki l ms i) (vl l e1) (valOf o e1) w1)->(∀i,i<l.length->listed.getD i false=true)->low N Q .normal a1 w1:=by
   intro listed a1 e1 w1 hr hb lT hS ct;have lk:oF listed=ms.length:=by
    show ms.countP _=ms.length;rw [List.countP_eq_length];intro m vS;exact ct m (by simpa [Nat.blt_eq]using mN m vS)
   obtain⟨u,hu,mR⟩:=JZ (e1:=e1) (e:=e) l ys 0 s8 h2 (fun k v o hy ho=> .inl (hS k _ o (ct k (ga.1 ho).1) hy ho));refine⟨e1,hr,?_⟩;have:=sV u w1 (fun h0=>hb (by rw [lk,h0];rfl)) (fun k p hk dT=>by
    have gM:k<l.length:=by rw [s8];exact(ga.1 hk).1
    have h5:=hS k _ l[k] (ct k gM) hk (dL gM);have h6:=mR k l[k] (dL gM);rw [Nat.zero_add]at h6;rw [h6];exact h5 (by rw [lk,dT])) (fun k j p hk dT=>by
    have gM:k<l.length:=by rw [s8];exact(ga.1 hk).1
    have hj:=GW k j p hk;have h5:=hS k _ l[k] (ct k gM) hk (dL gM);have h6:=mR k l[k] (dL gM);have h7:=mR j l[j] (dL hj.2);rw [Nat.zero_add]at h6 h7;have h8:vl l e1 j=valOf l[j] e1:=by unfold vl;rw [List.getElem?_eq_getElem hj.2]
    rw [h6,h7,<-h8];exact h5 (by rw [lk,dT])) (fun k q p hk=>by
    have gM:k<l.length:=by rw [s8];exact(ga.1 hk).1
    have h5:=hS k _ l[k] (ct k gM) hk (dL gM);have h6:=mR k l[k] (dL gM);rw [Nat.zero_add]at h6;rw [h6];exact⟨h5.1,fun dT=>h5.2 (by rw [lk,dT])⟩)
   rw [hu,DM lT]at this;exact this
  have Aq:∀(listed:Array Bool),listed.size=l.length->Region.ready .any l.toArray listed=[]->∀i,i<l.length->listed.getD i false=true:=by
   intro listed lX qB i
   induction i using Nat.strongRecOn with
   | _ i ih=>
    intro hi;cases uv:listed.getD i false with
    | true=>rfl
    | false=>
     exfalso;have:i∈Region.ready .any l.toArray listed:=by
      rw [mem_ready];refine⟨?_,l[i],by simp [hi],fun ed eQ gx=>ih ed.on (mL i _ (dL hi) ed (nv.2 ⟨eQ,gx⟩)) (by have:=mL i _ (dL hi) ed (nv.2 ⟨eQ,gx⟩);omega)⟩;rw [gA,nH (by omega)]at uv|-;exact uv
     rw [qB]at this;cases this
  intro fuel
  induction fuel with
  | zero=>
   intro listed a1 e1 w1 hr hb lT lX hS cz vV lk;have ct:∀i,i<l.length->listed.getD i false=true:=by
    have h4:(List.range l.length).countP (fun i=>listed.getD i false)=(List.range l.length).length:=by
     have:=List.countP_le_length (p:=fun i=>listed.getD i false) (l:=List.range l.length);simp at this lk|-;omega
    rw [List.countP_eq_length]at h4;intro i hi;exact h4 i (by simpa using hi)
   refine⟨?_,jo listed a1 e1 w1 hr hb lT hS ct⟩;rw [List.eq_nil_iff_forall_not_mem];intro i hi;obtain⟨h5,o,ho,_⟩:=mem_ready.1 hi;have jW:i<l.length:=by
    rcases Nat.lt_or_ge i l.length with h | h
    ·exact h
    ·simp [mD h]at ho
   have h6:=ct i jW;rw [gA,nH (by omega)]at h5 h6;simp at h5 h6;rw [h5]at h6;cases h6
  | succ fuel ih=>
   intro listed a1 e1 w1 hr hb lT lX hS cz vV lk;refine⟨fun qB=>jo listed a1 e1 w1 hr hb lT hS (Aq listed lX qB),fun i hi=>?_⟩;obtain⟨aX,o,ho,sT⟩:=mem_ready.1 hi;have jX:l[i]?=some o:=by simpa using ho
   have jW:i<l.length:=(ga.1 jX).1;have kf:∀ed∈eD o,listed.getD ed.on false=true:=fun ed eQ=>sT ed (nv.1 eQ).1 (nv.1 eQ).2
   have qa:listed.getD i false=false:=by
    have h5:=aX;rw [gA,nH (by omega)]at h5|-;exact h5
   have mM:∀k,(listed.setIfInBounds i true).getD k false=if k=i then true else listed.getD k false:=by
    intro k;rw [gA,pb]
    by_cases eE:k=i
    ·subst eE;rw [aJ rfl,aJ (by omega),aJ rfl];rfl
    ·rw [aC (fun e=>eE e.symm),aC eE,<-gA]
   have eY:DL l ms i<=oF listed:=Cc fun m _ h=>EI cz jX kf _ _ h
   have dQ:oF listed<=xO l ms i:=Cc fun m _ h=>by
    have b9:Nat.beq m i=false:=by
     cases hb:Nat.beq m i with
     | false=>rfl
     | true=>rw [lH hb,qa]at h;cases h
    have vF:gX l l.length m i=false:=by
     cases hb:gX l l.length m i with
     | false=>rfl
     | true=>have:=tJ cz _ _ _ hb h;rw [qa]at this;cases this
    simp [b9,vF]
   have dT:∀(j:Nat),listed.getD j false=true->ki l ms j<=oF listed:=fun j hj=>Cc fun m _ h=>by
    rw [Bool.or_eq_true]at h;rcases h with h | h
    ·rw [lH h];exact hj
    ·exact tJ cz _ _ _ h hj
   have aA:=Hb.get i o jX e1 w1 (oF listed);rw [Nat.zero_add]at aA;have aA:=aA eY dQ hb (fun j y o' vF hy rQ=>hS j y o' (EI cz jX kf _ _ vF) hy rQ) (fun j o' hj vF=>by
    refine vV j o' ?_ hj;cases rK:listed.getD j false with
    | false=>rfl
    | true=>have:=tJ cz _ _ _ vF rK;rw [qa]at this;cases this) (fun m y o' hm zI hphm hy VL=>by
    refine hS m y o' ?_ hy VL;cases Dd:listed.getD m false with
    | true=>rfl
    | false=>
     exfalso;have h8:=xj (fun k=>listed.getD k false) (fun k=>if k=m then true else listed.getD k false) m Dd (fun k=>O) ms Dg (uL.1 hm);have h9:ms.countP (fun k=>if k=m then true else listed.getD k false)<=ki l ms m:=Cc fun m' ic h=>by
      by_cases e:m'=m
      ·rw [e,Nat.beq_refl];rfl
      ·rw [aC e]at h;simp only [xe,List.all_eq_true]at zI;have fG:=zI m' ic;cases qu:gX l l.length m m' with
       | true=>rw [Bool.or_true]
       | false=>
        rw [qu,Bool.or_false,Bool.or_eq_true]at fG;rcases fG with fG | fG
        ·exact absurd (lH fG) e
        ·have:=tJ cz _ _ _ fG h;rw [Dd]at this;cases this
     have pz:ms.countP (fun k=>listed.getD k false)=oF listed:=O;omega)
   rw [DM lT,vd (JV (eD o) (fun ed eQ v o' hy rQ=>hS ed.on _ o' (kf ed eQ) hy rQ))]at aA
   let turns:Prop:=fJ ms i=true
   let KK:Env->aa->Prop:=fun e2 w2=> (fJ ms i=false->Below w1.heap.size w1 w2)/\(ys.getD i (.pr fun _ _=>True)).holds (vl l e1) (valOf o e2) w2/\∀j,o.dst≠some j->e2 j=e1 j
   have Wl:∃K:Env->aa->Prop,(∀e2 w2,K e2 w2->KK e2 w2)/\ak P N l.toArray K [o] e1 w1:=by
    cases jF:fJ ms i with
    | true=>
     rw [jF]at aA;exact⟨_,fun e2 w2 h=> ⟨fun h0=> (by rw [jF]at h0;cases h0),h.1,h.2⟩,aA⟩
    | false=>
     rw [jF]at aA;exact⟨_,fun e2 w2 h=> ⟨fun _=>h.1,h.2.1,h.2.2⟩,aA⟩
   obtain⟨K,zt,Wa⟩:=Wl;have lz:=Wa.run a1 hr;have CX:oF (listed.setIfInBounds i true)=if fJ ms i=true then oF listed+1 else oF listed:=by
    show ms.countP _=_
    by_cases jF:fJ ms i=true
    ·rw [aJ jF];exact xj (fun m=>listed.getD m false) (fun m=> (listed.setIfInBounds i true).getD m false) i qa mM ms Dg (uL.1 jF)
    ·rw [aC jF];refine List.countP_congr fun m vS=>?_
     rw [mM,aC (fun e=>jF (uL.2 (by rw [<-e];exact vS)))]
   have rP:∀a2 w2,(∃e2,gW N a2 e2/\K e2 w2)->wpAny P .any l.toArray (low N Q) fuel (listed.setIfInBounds i true) a2 w2:=by
    intro a2 w2 ⟨e2,rT,fa⟩;obtain⟨sU,rY,xC⟩:=zt _ _ fa;have GV:∀(k:Nat) (o':Oper),l[k]?=some o'->k≠i->valOf o' e2=valOf o' e1:=by
     intro k o' bq eE;unfold valOf;cases hd:o'.dst with
     | none=>rfl
     | some d=>exact xC d (fun h=>eE (Fc _ l h2 k i o' o d bq jX hd h))
    have AB:∀j,j≠i->vl l e2 j=vl l e1 j:=by
     intro j hj;unfold vl;cases rQ:l[j]? with
     | none=>rfl
     | some o'=>exact GV j o' rQ hj
    refine ih _ a2 e2 w2 rT (fun h0=>?_) (fun j hj=>?_) (by simpa using lX) (fun k y o' hk hy bq=>?_) (fun k o' hk bq ed eQ=>?_) (fun k o' hk bq=>?_) ?_
    ·rw [CX]at h0
     by_cases jF:fJ ms i=true
     ·rw [aJ jF]at h0;omega
     ·rw [aC jF]at h0;have:=sU (by simpa using jF);exact(hb h0).trans (this.mono (hb h0).size)
    ·have b9:o.dst≠some j:=by
      intro hd;have:fJ (gK l) j=true:=by rw [uL];exact List.mem_filterMap.2 ⟨o,List.mem_of_getElem? jX,hd⟩
      rw [this]at hj;cases hj
     rw [xC j b9];exact lT j hj
    ·by_cases eE:k=i
     ·subst eE;rw [jX]at bq;cases bq;have:ys.getD k (.pr fun _ _=>True)=y:=by simp [df,hy]
      rw [this]at rY;cases y with
      | ex v=>exact rY
      | pr p=>exact fun _=>rY
      | p2 j p=>
       have hj:=GW k j p hy;have rK:listed.getD j false=true:=EI cz jX kf _ _ hj.1;have pR:j≠k:=fun e=>by rw [e,qa]at rK;cases rK
       exact fun _=>by rw [AB j pR];exact rY
      | al q p=>exact⟨rY.1,fun _=>rY.2⟩
     ·have dp:listed.getD k false=true:=by rw [mM,aC eE]at hk;exact hk
      have h7:=hS k y o' dp hy bq;rw [GV k o' bq eE];cases y with
      | ex v=>exact h7
      | pr p=>
       intro hc;rw [CX]at hc
       by_cases jF:fJ ms i=true
       ·rw [aJ jF]at hc;have:=dT k dp;omega
       ·rw [aC jF]at hc;have hl:=GG _ (List.mem_of_getElem? hy);exact hl _ _ _ (h7 hc) (sU (by simpa using jF))
      | p2 j p=>
       have hj:=GW k j p hy;have rK:listed.getD j false=true:=tJ cz _ _ _ hj.1 dp;have pR:j≠i:=fun e=>by rw [e,qa]at rK;cases rK
       intro hc;rw [AB j pR];rw [CX]at hc
       by_cases jF:fJ ms i=true
       ·rw [aJ jF]at hc;have:=dT k dp;omega
       ·rw [aC jF]at hc;have hl:=GG _ (List.mem_of_getElem? hy);exact hl _ _ _ _ (h7 hc) (sU (by simpa using jF))
      | al q p=>
       refine⟨h7.1,fun hc=>?_⟩;rw [CX]at hc
       by_cases jF:fJ ms i=true
       ·rw [aJ jF]at hc;have:=dT k dp;omega
       ·rw [aC jF]at hc;have hl:=GG _ (List.mem_of_getElem? hy);exact hl _ _ _ (h7.2 hc) (sU (by simpa using jF))
    ·rw [mM]
     by_cases um:ed.on=i
     ·rw [aJ um]
     ·rw [aC um]
      by_cases eE:k=i
      ·subst eE;rw [jX]at bq;cases bq;exact kf ed eQ
      ·rw [mM,aC eE]at hk;exact cz k o' hk bq ed eQ
    ·rw [mM]at hk
     by_cases eE:k=i
     ·rw [aJ eE]at hk;cases hk
     ·rw [aC eE]at hk;rw [GV k o' bq eE];exact vV k o' hk bq
    ·have zJ:(List.range l.length).countP (fun k=> (listed.setIfInBounds i true).getD k false)=(List.range l.length).countP (fun k=>listed.getD k false)+1:=
      xj (fun k=>listed.getD k false) (fun k=> (listed.setIfInBounds i true).getD k false) i qa mM _ List.nodup_range (by simpa using jW)
     rw [zJ];omega
   unfold wpOp;rw [ho];unfold wpList at lz;show if _ then _ else _
   by_cases hw:Region.wanted o (yielded l.toArray a1.tmps)=true
   ·rw [aJ hw]at lz|-;rcases lz with h5 | ⟨_,a0,w0,h5⟩
    ·refine .inl (Ev h5 (fun a2 w2 hx=>?_) (fun x a w hx hq=>hx hq.1));exact rP a2 w2 hx.2
    ·exact absurd h5.1 (by simp)
   ·rw [aC hw]at lz|-;exact rP _ _ lz.2
 refine key l.length (Array.replicate l.length false) a e _ ha (fun _=> ⟨⟨O,O,O,dE _,fun _ _=>O⟩,fun _=>Nat.le_add_right _ _⟩) (fun _ _=>O) (by simp) (fun i y o hi=>?_) (fun i o hi=>?_) (fun _ _ _ _=>O) (by omega)
 ·exfalso;rw [gA,Array.getElem?_replicate]at hi
  split at hi<;>simp at hi
 ·exfalso;rw [gA,Array.getElem?_replicate]at hi
  split at hi<;>simp at hi
end
theorem PR(x y:Int)(w:aa)(hx:0<=x/\x<=1048576)(hy:0<=y/\y<=1048576):aE prog 236 [.int .u64 x,.int .u64 y] w (fun v w'=>v= .tuple #[.int .u64 0,.int .u64 (x*y)]/\w'=w):=by
 have MX:0<=x*y/\x*y<=1099511627776:=⟨Int.mul_nonneg hx.1 hy.1,Int.le_trans (Int.mul_le_mul hx.2 hy.2 hy.1 (by omega)) (by decide)⟩;have ex:x%4294967296=x:=by omega
 have ey:y%4294967296=y:=by omega
 have dx:x / 4294967296=0:=by omega
 have dy:y / 4294967296=0:=by omega
 refine bm func236 O ntmps236 O (my O) (aY O (Ew (x) O O O (by omega) (by omega) (ao O (yO (0) O O O (by omega) (by omega) (ao O (Ew (y) O O O (by omega) (by omega) (ao O (yO (0) O O O (by omega) (by omega) (ao O ?_)))))))));refine yM (x*y) O O O (by simp) (by omega) ?_;refine ao O ?_;refine yM (0) O O O (by simp) (by omega) ?_;refine ao O (yO (x*y / 4294967296) O O O (by omega) (by omega) ?_);refine BN (x*y / 4294967296) O O O (by simp) (by omega) ?_;refine ao O (Ew (x*y / 4294967296) O O O (by omega) (by omega) (ao O (yO (0) O O O (by omega) (by omega) (ao O ?_))));refine yM (0) O O O (by simp) (by omega) ?_;refine BN (x*y / 4294967296) O O O (by simp) (by omega) ?_;refine ao O ?_;refine yM (0) O O O (by simp) (by omega) ?_;refine ao O ?_;refine BN (0) O O O (by simp) (by omega) ?_;refine ao O (yO (0) O O O (by omega) (by omega) ?_);refine BN (0) O O O (by simp) (by omega) ?_;refine ao O ?_;refine yM (x*y) O O O (by simp) (by omega) ?_;refine bu O (Br O O ?_);exact⟨O,O⟩
theorem PT(x y:Int)(w:aa)(hx:0<=x/\x<=1048576)(hy:0<=y/\y<=1048576):aE prog 194 [.int .u64 x,.int .u64 y] w (fun v w'=>v= .tuple #[.int .u64 0,.int .u64 (x*y)]/\w'=w):=by
 refine bm func194 O ntmps194 O (my O) (b7 O (Cd.dO O (aD O (aH (PR x y w hx hy) O ?_))));rintro _ _ ⟨rfl,rfl⟩;refine bu O (Br O O ?_);exact⟨O,O⟩
def rep(a n:Nat)(x v:Int):ah:=List.replicate a x++List.replicate (n - a) v
theorem ZE{m n q:Nat}{x v:Int}(hm:m<=n)(hq:q<=n - m):((rep m n x v).map (Value.int .i64)).take m++ (List.range q).map (fun _=>Value.int .i64 x)++ ((rep m n x v).map (Value.int .i64)).drop (m+q)=(rep (m+q) n x v).map (Value.int .i64):=by
 have e1:(rep m n x v).map (Value.int .i64)=List.replicate m (Value.int .i64 x)++List.replicate (n - m) (Value.int .i64 v):=by simp [rep]
 have e2:(List.range q).map (fun _=>Value.int .i64 x)=List.replicate q (Value.int .i64 x):=by
  apply gD<;>simp
 rw [e1,e2,List.take_append_of_le_length (by simp),List.drop_append];simp only [rep,lF,List.map_replicate,List.length_replicate,List.take_replicate,List.drop_replicate,Nat.min_self];rw [show m - (m+q)=0 by omega,show m+q - m=q by omega,show n - m - q=n - (m+q) by omega];simp
theorem yX(A:ai)(c:Nat)(x:Int)(n:Nat)(w:aa)(hR:cd w A 1 [x])(hn:n<=1048576):
 aE prog 128 [.slice A 1 c,aj n] w (fun v w'=>∃A',v= .slice A' n n/\St w w' [ax 2 A' n n (List.replicate n x)]):=by
 refine bm func128 O ntmps128 O (bU O) (b7 O (jw O (by omega) ?_));refine aD O (aZ O O ?_);refine sq (i:=1) O O (by decide) (ao O (sq (i:=(n:Int)) O O (yy _ (by omega)) (aH (PT 1 n _ (by omega) (by omega)) O ?_)));rintro _ w ⟨rfl,rfl⟩;rw [Int.one_mul];refine ao O (ak.gtr O O O (ao O ?_));refine bX 23 O (fun h=>absurd h (by decide)) (fun _=>?_);refine ar O (ao O (ar O (ak.gtr O O O (az O ?_))));refine jw O (by omega) (aD O (sq (i:=(n:Int)) O O (IntWalk.i64_in _ (by omega)) (pj n (St.refl w) O O (by omega) ?_)));intro A1 w1 aB;refine ao O ?_;refine I4 0 0 (min 1 n) aB O (aB.dY hR).2 (bA _) (by rw [RP];rfl) O (fun _ _=>O) O O ?_;intro w2 aw;refine az O ?_;have h3:St w w2 [ax 2 A1 n n (rep (min 1 n) n x 0)]:=by
  have e:([ax 2 A1 n n (List.replicate n 0)].set 0 { ax 2 A1 n n (List.replicate n 0)with vs:=(ax 2 A1 n n (List.replicate n 0)).vs.take 0++ (List.range (min 1 n)).map (fun j=>Value.int .i64 ([x].getD j 0))++ (ax 2 A1 n n (List.replicate n 0)).vs.drop (0+min 1 n) })=[ax 2 A1 n n (rep (min 1 n) n x 0)]:=by
   by_cases h0:n=0
   ·subst h0;rfl
   have h1:min 1 n=1:=by omega
   rw [h1];simp [ax,rep,rb]
  rw [<-e];exact aw
 refine Cd.loop (α:=Nat) (fun m=> [(7,.slice A1 n n),(8,aj m)]) (fun m w'=>St w w' [ax 2 A1 n n (rep m n x 0)]/\m<=n/\(0<n->0<m)) (fun m=>n - m) (min 1 n) (ac4 O) ⟨h3,by omega,by omega⟩ ?_;rintro m e w3 ⟨aI,hm,Vv⟩;refine aY O (aZ O O (az O ?_));refine aM _ O (fun h4=>?_) (fun h4=>?_)
 ·refine cH O ?_;have hlen:(rep m n x 0).length=n:=aI.yi 0 O;have jf:∀ {w1:aa},Below w3.heap.size w3 w1->Rd w1 A1 m (fun _=>aj x):=fun hb j hj=>by
   have h5:=(aI.aq hb).rd 0 O j (by show j<n;omega);have h6:((rep m n x 0).map (Value.int .i64)).getD j undef=aj x:=by simp [rep,df,ow,hj]
   obtain⟨p,hp,hc⟩:=h5;exact⟨p,hp,hc.trans (bw some h6)⟩
  have rB:=ZE (n:=n) (m:=m) (q:=min m (n - m)) (x:=x) (v:=0) hm (by omega);refine jx [7] [yI ((m:Int)),yS (A1) (n) (n),yI ((m:Int)),yS (cutAt A1 n m) (n - m) (n - m),yS (A1) (n) (n),yI ((m:Int)),yS (A1) (m) (n),.pr (fun v w'=>v=aj ((min m (n - m):Nat):Int)/\St w w' [ax 2 A1 n n (rep (m+min m (n - m)) n x 0)]),yI ((m:Int)+ ((min m (n - m):Nat):Int)),yI ((m:Int)+ ((min m (n - m):Nat):Int))] (by kernel_rfl) (by kernel_rfl) (ly (ly (ly (ly (ly (ly (ly (cL.2 ⟨Ye.cQ (fun v w w' h hb=> ⟨h.1,h.2.aq hb⟩),(ly (ly (fun _ h=>by cases h)))⟩)))))))) ?_ ?_
  ·refine⟨?_,cj O,?_,aP fun _ _=>sr O O O (by omega) (bG O O),cj O,?_,aP fun _ _=>u7 O O O (by omega) (bG O O),?_,?_,cj O,au⟩
   ·intro e1 w1 cc eY dQ eP hp aX hq;show ak _ _ _ _ _ _ _;refine ko O (by exact aX 9 _ O (by kernel_rfl)) O (ak.n (fO O (by exact O)))
   ·intro e1 w1 cc eY dQ eP hp aX hq;show ak _ _ _ _ _ _ _;refine ko O (by exact aX 9 _ O (by kernel_rfl)) O (ak.n (fO O (by exact O)))
   ·intro e1 w1 cc eY dQ eP hp aX hq;show ak _ _ _ _ _ _ _;refine ko O (by exact aX 9 _ O (by kernel_rfl)) O (ak.n (fO O (by exact O)))
   ·refine jy fun e1 w1 hb hp aX hq=>?_
    refine I4 0 m (min m (n - m)) (aI.aq hb) O (f:=fun _=>aj x) (jf hb) (by omega) O O (fun _ _=>O) O O fun w5 aR=>ak.n ?_;exact fv.dn O ⟨O,by show St w w5 [⟨A1,n,n,_,(rep (m+min m (n - m)) n x 0).map (Value.int .i64)⟩];rw [<-rB];exact aR⟩
   refine dP 1 fun e1 w1 hp aX hq=>?_
   have dT:=hp 7 _ _ (by kernel_rfl) O O (by kernel_rfl);refine acX O (by exact dT.1) O (by omega) (ak.n (fO O (by exact O)))
  intro u w5 _ hu _ _;have aR:=(hu 7 _ O (by kernel_rfl)).2;refine IK O (tQ ?_);exact⟨m+min m (n - m),by have:=Vv (by omega);omega,⟨O,by show Value.int .i64 _=Value.int .i64 _;congr 1,au⟩,aR,by omega,by omega⟩
 refine bo O (bp (e6 O ?_));refine fA O ?_;have:m=n:=by omega
 subst this;refine⟨A1,O,?_⟩;have e:rep m m x 0=List.replicate m x:=by simp [rep]
 rw [<-e];exact aI
end
section
variable{x y:Int}
theorem BF{α:Type}[DecidableEq α]:∀(a b:List α),a.Nodup->(∀x∈a,x∈b)->a.length<=b.length
 | [],_,_,_=>bA _
 | x::a,b,hn,h=>by
  simp only [mV]at hn;have h1:=BF a (b.erase x) hn.2 (fun y hy=>by
   rw [List.mem_erase_of_ne (fun e=>hn.1 (by rw [<-e];exact hy))];exact h y (by simp [hy]))
  have hx:=h x (by simp);have h2:=List.length_erase_of_mem hx;have h3:=List.length_pos_of_mem hx;simp only [List.length_cons];omega
theorem Iu{α:Type}[DecidableEq α]{a b:List α}(hn:a.Nodup)(h:∀x∈a,x∈b)(hl:b.length<=a.length):∀x∈b,x∈a:=by
 intro y hy;apply kV;intro Hl;have:=BF (y::a) b (by simp [Hl,hn]) (fun x hx=>by
  rcases ja.1 hx with rfl | hx
  ·exact hy
  exact h x hx)
 simp at this;omega
def pe(N:Nat)(xss:ag):Prop:=∀p∈xss,∀x y:Int,0<=x->x<N->0<=y->y<N->gi p x=gi p y->x=y
theorem Reach.range{N:Nat}{xss:ag}(hs:Sys N xss)(h0:0<=x)(h1:x<N)(h:Reach xss x y):0<=y/\y<N:=by
 induction h with
 | refl=>exact⟨h0,h1⟩
 | step _ hp ih=>exact(hs _ hp).2 _ ih.1 ih.2
theorem Reach.back{N:Nat}{xss:ag}(hs:Sys N xss)(hi:pe N xss)(h0:0<=x)(h1:x<N){p:ah}(hp:p∈xss):Reach xss (gi p x) x:=by
 have hy:=(hs p hp).2 x h0 h1;obtain⟨g,_,hm⟩:=qN hs hy.1 hy.2;have key:=Iu (a:=(da N xss (gi p x)).map (gi p)) (b:=da N xss (gi p x)) (by
  rw [List.nodup_iff_pairwise_ne,nJ];refine List.Pairwise.imp_of_mem ?_ g.nodup;intro a b ha hb jn e;exact jn (hi p hp a b (g.range a ha).1 (g.range a ha).2 (g.range b hb).1 (g.range b hb).2 e))
  (fun z hz=>by
    obtain⟨u,hu,rfl⟩:=fx.1 hz;exact(hm _).2 (.step ((hm u).1 hu) hp)) (by simp)
 obtain⟨u,hu,e⟩:=fx.1 (key (gi p x) ((hm _).2 .refl));have:=hi p hp u x (g.range u hu).1 (g.range u hu).2 h0 h1 e;subst this;exact(hm u).1 hu
theorem Reach.symm{N:Nat}{xss:ag}(hs:Sys N xss)(hi:pe N xss)(h0:0<=x)(h1:x<N)(h:Reach xss x y):Reach xss y x:=by
 induction h with
 | refl=>exact .refl
 | step hr hp ih=>
  have hy:=hr.range hs h0 h1;exact(Reach.back hs hi hy.1 hy.2 hp).trans ih
def o6(L:ah)(c:Int):ah->ah
 | []=>L
 | x::xs=>o6 (L.set x.toNat c) c xs
theorem HZ:∀(xs L:ah) (c:Int),(o6 L c xs).length=L.length
 | [],_,_=>rfl
 | x::xs,L,c=>by rw [o6,HZ xs];simp
theorem tU{N:Nat}:∀(xs L:ah) (c:Int),L.length=N->(∀x∈xs,0<=x/\x<N)->∀x:Int,0<=x->gi (o6 L c xs) x=if x∈xs then c else gi L x
 | [],_,_,_,_,x,_=>by simp [o6]
 | y::xs,L,c,hl,h,x,hx=>by
  have hy:=h y (by simp);rw [o6,tU xs (L.set y.toNat c) c (by simpa using hl) (fun z hz=>h z (by simp [hz])) x hx,lL hy.1 (by rw [hl];exact hy.2) hx]
  by_cases h1:x∈xs
  ·simp [h1]
  ·rw [aC h1]
   by_cases h2:y=x
   ·subst h2;simp
   ·rw [aC h2,aC];simp only [ja,not_or];exact⟨fun e=>h2 e.symm,h1⟩
def bM(N:Nat)(xss:ag):Nat->ah×Int
 | 0=> (List.replicate N (-1),0)
 | i+1=>if 0<=gi (bM N xss i).1 i then bM N xss i else(o6 (bM N xss i).1 (bM N xss i).2 (da N xss i),(bM N xss i).2+1)
theorem Ba{N:Nat}{xss:ag}{i:Nat}(h:¬0<=gi (bM N xss i).1 i):bM N xss (i+1)=(o6 (bM N xss i).1 (bM N xss i).2 (da N xss i),(bM N xss i).2+1):=by
 show(if _ then _ else _)=_;rw [aC h]
theorem DI{N:Nat}{xss:ag}{i:Nat}(h:0<=gi (bM N xss i).1 i):bM N xss (i+1)=bM N xss i:=by
 show(if _ then _ else _)=_;rw [aJ h]
theorem oZ(N:Nat)(xss:ag):∀i,(bM N xss i).1.length=N
 | 0=>by simp [bM]
 | i+1=>by
  simp only [bM]
  split
  ·exact oZ N xss i
  ·rw [HZ];exact oZ N xss i
theorem v8(N:Nat)(xss:ag):∀i,0<=(bM N xss i).2/\(bM N xss i).2<=i
 | 0=>by simp [bM]
 | i+1=>by
  have:=v8 N xss i;simp only [bM]
  split
  ·omega
  ·simp only;omega
theorem sI{N:Nat}{v:Int}(h0:0<=x)(h1:x<N):gi (List.replicate N v) x=v:=by
 simp [gi,df,List.getElem?_replicate,show x.toNat<N by omega]
theorem wa{N:Nat}{xss:ag}(hs:Sys N xss):∀i,i<=N->∀x:Int,0<=x->x<N->(0<=gi (bM N xss i).1 x↔∃j:Nat,j<i/\Reach xss j x)
 | 0,_,x,h0,h1=>by
  simp only [bM,sI h0 h1];constructor
  ·intro h;omega
  ·rintro⟨j,hj,_⟩;omega
 | i+1,hi,x,h0,h1=>by
  have ih:=wa hs i (by omega);have hc:=v8 N xss i;have ho:=qN hs (pt:=(i:Int)) (by omega) (by omega);simp only [bM]
  split
  ·rename_i hl;rw [ih x h0 h1];constructor
   ·rintro⟨j,hj,hr⟩;exact⟨j,by omega,hr⟩
   ·rintro⟨j,hj,hr⟩
    by_cases pR:j=i
    ·subst pR;obtain⟨j',fI,oQ⟩:=(ih j (by omega) (by omega)).1 hl;exact⟨j',fI,oQ.trans hr⟩
    ·exact⟨j,by omega,hr⟩
  ·simp only;rw [tU _ _ _ (oZ N xss i) ho.1.range x h0]
   by_cases hm:x∈da N xss i
   ·rw [aJ hm];exact⟨fun _=> ⟨i,by omega,(ho.2.2 x).1 hm⟩,fun _=>hc.1⟩
   ·rw [aC hm,ih x h0 h1];constructor
    ·rintro⟨j,hj,hr⟩;exact⟨j,by omega,hr⟩
    ·rintro⟨j,hj,hr⟩
     by_cases pR:j=i
     ·subst pR;exact absurd ((ho.2.2 x).2 hr) hm
     ·exact⟨j,by omega,hr⟩
theorem X9{N:Nat}{xss:ag}(hs:Sys N xss)(hN:0<N):(bM N xss N).2=1↔∀x:Int,0<=x->x<N->Reach xss 0 x:=by
 have h1:(bM N xss 1).2=1:=by
  have:¬(0:Int)<=gi (bM N xss 0).1 (0:Nat):=by
   rw [show(bM N xss 0).1=List.replicate N (-1) from rfl,sI (by omega) (by omega)];omega
  rw [show(1:Nat)=0+1 from rfl,Ba this];rfl
 constructor
 ·intro hc;have mono:∀i j,i<=j->(bM N xss i).2<=(bM N xss j).2:=by
   intro i j uq
   induction j with
   | zero=>
    have:i=0:=by omega
    subst this;omega
   | succ j ih=>
    by_cases e:i=j+1
    ·subst e;omega
    ·have:=ih (by omega);have h2:(bM N xss j).2<=(bM N xss (j+1)).2:=by
      simp only [bM];split
      ·omega
      ·simp only;omega
     omega
  have key:∀i:Nat,i<N->Reach xss 0 (i:Int):=by
   intro i
   induction i using Nat.strongRecOn with
   | _ i ih=>
    intro hi
    by_cases h0:i=0
    ·subst h0;exact .refl
    ·have hl:0<=gi (bM N xss i).1 i:=by
      apply kV;intro hn;have h2:=mono 1 i (by omega);have h3:=mono (i+1) N (by omega);have h4:(bM N xss (i+1)).2=(bM N xss i).2+1:=by rw [Ba hn]
      omega
     obtain⟨j,hj,hr⟩:=(wa hs i (by omega) i (by omega) (by omega)).1 hl;exact(ih j hj (by omega)).trans hr
  intro x h0 h2;have:=key x.toNat (by omega);rw [Int.toNat_of_nonneg h0]at this;exact this
 ·intro h;have key:∀i,1<=i->i<=N->(bM N xss i).2=1:=by
   intro i
   induction i with
   | zero=>intro h;omega
   | succ i ih=>
    intro _ hi
    by_cases e:i=0
    ·subst e;exact h1
    ·have hl:=(wa hs i (by omega) i (by omega) (by omega)).2 ⟨0,by omega,h i (by omega) (by omega)⟩;rw [DI hl];exact ih (by omega) (by omega)
  exact key N (by omega) (dE _)
theorem DS{N:Nat}{xss:ag}(hs:Sys N xss)(hN:0<N):(da N xss 0).length=N↔∀x:Int,0<=x->x<N->Reach xss 0 x:=by
 obtain⟨g,_,hm⟩:=qN hs (pt:=0) (by omega) (by omega);have mr:∀x:Int,x∈(List.range N).map (fun i:Nat=> (i:Int))↔0<=x/\x<N:=by
  intro x;rw [fx];constructor
  ·rintro⟨i,hi,rfl⟩;have:i<N:=by simpa using hi
   omega
  intro h;exact⟨x.toNat,by simp;omega,by omega⟩
 have gI:((List.range N).map (fun i:Nat=> (i:Int))).Nodup:=by
  rw [List.nodup_iff_pairwise_ne,nJ];refine List.Pairwise.imp ?_ (List.nodup_iff_pairwise_ne.1 List.nodup_range);intro a b jn;omega
 constructor
 ·intro hl x h0 h1;have:=Iu g.nodup (b:=(List.range N).map (fun i:Nat=> (i:Int))) (fun z hz=> (mr z).2 (g.range z hz)) (by simp [hl]) x ((mr x).2 ⟨h0,h1⟩);exact(hm x).1 this
 intro h;have h1:=BF _ (da N xss 0) gI (fun z hz=>by
  have:=(mr z).1 hz;exact(hm z).2 (h z this.1 this.2))
 have h2:=g.len;simp at h1;omega
structure kW(N:Nat)(xss:ag)(i c:Int)(L0 L op:ah)(bx:Int)(k:Nat):Prop where
 len:L.length=N
 nA:∀x:Int,0<=x->x<N->0<=gi L0 x->gi L x=gi L0 x
 new:∀x:Int,0<=x->x<N->gi L0 x<0->gi L x=gi L0 x\/(gi L x=c/\Reach xss i x)
 start:gi L i=c
 tt:∀x∈op,0<=x/\x<N/\gi L0 x<0/\gi L x=c
 sC:∀x:Int,0<=x->x<N->gi L0 x<0->gi L x=c->x∉op->∀p∈(if x=bx then xss.take k else xss),0<=gi L (gi p x)
section
variable {N:Nat} {xss:ag} {i c:Int} {L0 L op:ah} {bx:Int} {k:Nat}
theorem kW.init(hl:L0.length=N)(h0:0<=i)(h1:i<N)(hi:gi L0 i<0)(hc:0<=c):kW N xss i c L0 (L0.set i.toNat c) [i] (-1) 0 where
 len:=by simpa using hl
 nA x hx _ h:=by
  rw [lL h0 (by rw [hl];exact h1) hx]
  split
  ·rename_i e;subst e;omega
  rfl
 new x hx _ h:=by
  rw [lL h0 (by rw [hl];exact h1) hx]
  split
  ·rename_i e;subst e;exact .inr ⟨rfl,.refl⟩
  exact .inl O
 start:=by rw [lL h0 (by rw [hl];exact h1) h0,aJ rfl]
 tt x hx:=by
  simp at hx;subst hx;exact⟨h0,h1,hi,by rw [lL h0 (by rw [hl];exact h1) h0,aJ O]⟩
 sC x hx dG h LB eC:=by
  rw [lL h0 (by rw [hl];exact h1) hx]at LB
  split at LB
  ·rename_i e;subst e;simp at eC
  omega
theorem kW.Zp{x:Int}(h:kW N xss i c L0 L (op++ [x]) (-1) 0):kW N xss i c L0 L op x 0 where
 len:=h.len
 nA:=h.nA
 new:=h.new
 start:=h.start
 tt y hy:=h.tt y (by simp [hy])
 sC y hy tj h0 hc eC:=by
  split
  ·simp
  rename_i b9;have:=h.sC y hy tj h0 hc (by simp [eC,b9]);rw [aC (by omega)]at this;exact this
theorem kW.rest(h:kW N xss i c L0 L op bx xss.length):kW N xss i c L0 L op (-1) 0 where
 len:=h.len
 nA:=h.nA
 new:=h.new
 start:=h.start
 tt:=h.tt
 sC y hy tj h0 hc eC:=by
  rw [aC (by omega)];have:=h.sC y hy tj h0 hc eC;rw [List.take_length]at this;simpa using this
theorem kW.skip(h:kW N xss i c L0 L op bx k)(hk:k<xss.length)(hy:0<=gi L (gi (gl xss k) bx)):kW N xss i c L0 L op bx (k+1) where
 len:=h.len
 nA:=h.nA
 new:=h.new
 start:=h.start
 tt:=h.tt
 sC y tj Ws h0 hc eC p hp:=by
  have:=h.sC y tj Ws h0 hc eC
  split at hp
  ·rename_i e;rw [aJ e]at this;rw [wD hk,gE]at hp;rcases hp with hp | hp
   ·exact this p hp
   simp at hp;subst hp;subst e;exact hy
  rename_i e;rw [aC e]at this;exact this p hp
theorem kW.push(hs:Sys N xss)(iB:0<=i)(h:kW N xss i c L0 L op bx k)(hk:k<xss.length)(eP:0<=bx)(fp:bx<N)(hb:gi L0 bx<0)(Us:gi L bx=c)(lj:0<=c)(hy:gi L (gi (gl xss k) bx)<0):
 kW N xss i c L0 (L.set (gi (gl xss k) bx).toNat c) (op++ [gi (gl xss k) bx]) bx (k+1):=by
 have jE:gl xss k∈xss:=by rw [cM hk];exact dd _
 have oV:=(hs _ jE).2 bx eP fp;have hg:∀z:Int,0<=z->gi (L.set (gi (gl xss k) bx).toNat c) z=if gi (gl xss k) bx=z then c else gi L z:=fun z hz=>lL oV.1 (by rw [h.len];exact oV.2) hz
 have Uv:Reach xss i bx:=by
  rcases h.new bx eP fp hb with h1 | h1
  ·omega
  exact h1.2
 have Wt:gi L0 (gi (gl xss k) bx)<0:=by
  apply kV;intro hn;have:=h.nA _ oV.1 oV.2 (by omega);omega
 have pos:∀z:Int,0<=z->0<=gi L z->0<=gi (L.set (gi (gl xss k) bx).toNat c) z:=fun z hz h1=>by
  rw [hg z hz];split<;>omega
 refine⟨by simpa using h.len,fun x hx dG h0=>?_,fun x hx dG h0=>?_,?_,fun x hx=>?_,fun x hx dG h0 hc eC p hp=>?_⟩
 ·rw [hg x hx,aC (fun e=>by subst e;omega)];exact h.nA x hx dG h0
 ·rw [hg x hx]
  split
  ·rename_i e;subst e;exact .inr ⟨rfl,.step Uv jE⟩
  exact h.new x hx dG h0
 ·rw [hg i iB];split
  ·rfl
  exact h.start
 ·rcases gE.1 hx with hx | hx
  ·have:=h.tt x hx;refine⟨this.1,this.2.1,this.2.2.1,?_⟩;rw [hg x this.1];split
   ·rfl
   exact this.2.2.2
  simp at hx;subst hx;exact⟨oV.1,oV.2,Wt,by rw [hg _ oV.1,aJ O]⟩
 have b9:gi (gl xss k) bx≠x:=fun e=>eC (by subst e;simp)
 rw [hg x hx,aC b9]at hc;have VF:x∉op:=fun hm=>eC (by simp [hm])
 have h1:=h.sC x hx dG h0 hc VF
 split at hp
 ·rename_i e;rw [aJ e]at h1;rw [wD hk,gE]at hp;rcases hp with hp | hp
  ·exact pos _ ((hs p (List.mem_of_mem_take hp)).2 x hx dG).1 (h1 p hp)
  simp at hp;subst hp;subst e;rw [hg _ oV.1,aJ rfl];exact lj
 rename_i e;rw [aC e]at h1;exact pos _ ((hs p hp).2 x hx dG).1 (h1 p hp)
theorem kW.done(hs:Sys N xss)(hi:pe N xss){j:Nat}(hj:j<N)(Ml:¬0<=gi (bM N xss j).1 j)(h:kW N xss j (bM N xss j).2 (bM N xss j).1 L [] (-1) 0):L=(bM N xss (j+1)).1:=by
 have hc:=v8 N xss j;have ho:=qN hs (pt:=(j:Int)) (by omega) (by omega);have hm:=wa hs j (by omega);rw [Ba Ml];apply gD
 ·rw [h.len,HZ,oZ]
 intro x h1 h2;have hx:x<N:=by rw [<-h.len];exact h1
 have e1:=bN (p:=L) (k:=x) h1;have e2:=bN (p:=o6 (bM N xss j).1 (bM N xss j).2 (da N xss j)) (k:=x) h2;rw [<-e1];show _=(o6 (bM N xss j).1 (bM N xss j).2 (da N xss j))[x];rw [<-e2,tU _ _ _ (oZ N xss j) ho.1.range x (by omega)];have reached:∀y,Reach xss j y->gi (bM N xss j).1 y<0/\gi L y=(bM N xss j).2:=by
  intro y hr
  induction hr with
  | refl=>exact⟨by omega,h.start⟩
  | @step y p hr hp ih=>
   have hy:=hr.range hs (by omega) (by omega);have Dh:=(hs p hp).2 y hy.1 hy.2;have Mm:gi (bM N xss j).1 (gi p y)<0:=by
    apply kV;intro hn;obtain⟨m,Df,uy⟩:=(hm _ Dh.1 Dh.2).1 (by omega);have:=(hm y hy.1 hy.2).2 ⟨m,Df,uy.trans (Reach.back hs hi hy.1 hy.2 hp)⟩;omega
   refine⟨Mm,?_⟩;have h3:=h.sC y hy.1 hy.2 ih.1 ih.2 (by simp) p (by rw [aC (by omega)];exact hp);rcases h.new _ Dh.1 Dh.2 Mm with h4 | h4
   ·omega
   ·exact h4.1
 split
 ·rename_i jE;exact(reached _ ((ho.2.2 _).1 jE)).2
 ·rename_i jE;have qC:¬Reach xss j x:=fun hr=>jE ((ho.2.2 _).2 hr)
  by_cases h5:0<=gi (bM N xss j).1 x
  ·exact h.nA x (by omega) (by omega) h5
  ·rcases h.new x (by omega) (by omega) (by omega)with h6 | h6
   ·exact h6
   ·exact absurd h6.2 qC
end
def il(L:ah):Nat:=L.countP (fun x=>decide (x<0))
theorem Eh{L:ah}{x c:Int}(h0:0<=x)(h1:x<L.length)(hx:gi L x<0)(hc:0<=c):il (L.set x.toNat c)+1=il L:=by
 obtain⟨k,rfl⟩:∃k:Nat,x=k:=⟨x.toNat,by omega⟩;have hk:k<L.length:=by omega
 rw [bN hk]at hx;simp only [il,gn];rw [List.countP_set (h:=hk)];have:0<L.countP (fun x=>decide (x<0)):=List.countP_pos_iff.2 ⟨L[k],dd _,by simpa using hx⟩;simp [hx,show ¬c<0 by omega];omega
end
section
open Go.RowKit
variable{l j:Nat}
theorem St.shrink{w0 w:aa}{ks:List Ck}{k:Ck}(h:St w0 w ks)(i:Nat)(hk:ks[i]?=some k)(m:Nat)(hm:m<=k.n)(hM:dX k.vs=false):St w0 w (ks.set i { k with n:=m,vs:=k.vs.take m }):=by
 have zN:=(ga.1 hk).1;refine⟨h.below,fun x hx=>?_,?_⟩
 ·obtain⟨j,hj,rfl⟩:=gu.1 hx;have fI:j<ks.length:=by simpa using hj
  rw [List.getElem_set]
  split
  ·obtain⟨h1,h2,h3,h4⟩:=h.nO hk hM;refine .o5 (WZ m hM) ⟨by simp;omega,by show m<=k.c;omega,h3,?_⟩;rcases h4 with h4 | ⟨g,o,cur,hA,hg,hh,hs,hc⟩
   ·exact .inl h4
   refine .inr ⟨g,o,cur,hA,hg,hh,hs,fun j hj=>?_⟩;have hj:j<m:=hj;show _=(k.vs.take m)[j]?;rw [hc j (by omega),qh,aJ hj]
  exact h.own _ (dd _)
 rw [Cm Ck.gY ks i k { k with n:=m,vs:=k.vs.take m } hk rfl];exact h.apart
theorem St.Z0{w0 w:aa}{ks:List Ck}{t:ad}{A:ai}{n c:Nat}{xs:ah}(h:St w0 w ks)(i:Nat)(hk:ks[i]?=some (ax t A n c xs))(m:Nat)(hm:m<=n):St w0 w (ks.set i (ax t A m c (xs.take m))):=by
 have:=h.shrink i hk m hm (oX _);simpa [ax]using this
theorem RH(op:ah)(h:0<op.length):∃o x,op=o++ [x]:=⟨op.dropLast,op.getLast (by intro e;simp [e]at h),(List.dropLast_concat_getLast _).symm⟩
theorem N5(A:ai)(n c:Nat)(rs:List aO)(xss:ag)(N:Nat)(w:aa)(hR:bl w A n rs xss)(hn:n<=9223372036854775807)(hs:Sys N xss)(xQ:pe N xss)(hN:N<=1048576):
 aE prog 127 [aj N,.slice A n c] w (fun v w'=>∃A',v= .tuple #[.slice A' N N,aj (bM N xss N).2]/\St w w' [ax 2 A' N N (bM N xss N).1]):=by
 have bO:∀k:Int,0<=k->k<n->(rg rs k).n=N:=fun k oN hk=>by
  rw [<-hR.jh oN hk];exact(hs _ (mJ oN (by rw [hR.len];exact hk))).1
 refine bm func127 O ntmps127 O (my O) (aY O (fk (St.refl w) O O O ?_));intro A1 w1 aB;refine ao O (aH (yX A1 1 (-1) N w1 (aB.bz 0 O) hN) O ?_);rintro _ w2 ⟨A6,rfl,aw⟩;have aw:=(aB.call2 aw).tail;refine az O (Cd.loop (α:=Nat) (fun i=> [(1,.slice A n c),(6,.slice A6 N N),(7,aj (bM N xss i).2),(17,aj N),(18,aj i)]) (fun i w'=>St w w' [ax 2 A6 N N (bM N xss i).1]/\i<=N) (fun i=>N - i) 0 (ac4 O) ⟨aw,bA _⟩ ?_);rintro i e w3 ⟨aI,hi⟩;have lk:=v8 N xss i;refine b7 O (aM _ O (fun h1=>?_) (fun h1=>?_))
 ·refine aD O (ay (aI.bz 0 O).2 O (bc (aI.bz 0 O) O (az O ?_)));refine aM _ O (fun h2=>?_) (fun h2=>?_)
  ·refine aD O (aL O (aU O (tQ ?_)));exact⟨i+1,by omega,⟨O,O,by rw [DI h2];rfl,O,O,au⟩,by rw [DI h2];exact aI,by omega⟩
  refine aD O (ay (aI.bz 0 O).2 O (ak.gQ 0 aI O O O (by omega) ?_));intro w4 aG;refine ao O (fk aG O O O ?_);intro A9 w5 aR;refine az O ?_;have aX:il (bM N xss i).1<=N:=by
   have:=List.countP_le_length (p:=fun x:Int=>decide (x<0)) (l:=(bM N xss i).1);rw [oZ]at this;exact this
  have hun1:=Eh (L:=(bM N xss i).1) (x:=i) (c:=(bM N xss i).2) (by omega) (by rw [oZ];omega) (by omega) lk.1;refine Cd.loop (α:=ah×ah×ai×Nat) (fun q=> [(1,.slice A n c),(6,.slice A6 N N),(7,aj (bM N xss i).2),(9,.slice q.2.2.1 q.2.1.length q.2.2.2),(17,aj N),(18,aj i)]) (fun q w'=>St w w' [ax 2 q.2.2.1 q.2.1.length q.2.2.2 q.2.1,ax 2 A6 N N q.1]/\kW N xss i (bM N xss i).2 (bM N xss i).1 q.1 q.2.1 (-1) 0/\il q.1+q.2.1.length<=N) (fun q=>il q.1+q.2.1.length) ((bM N xss i).1.set (i:Int).toNat (bM N xss i).2,[(i:Int)],A9,1) (ac4 O) ⟨aR,kW.init (oZ N xss i) (by omega) (by omega) (by omega) lk.1,by show il ((bM N xss i).1.set (i:Int).toNat (bM N xss i).2)+1<=N;omega⟩ ?_;rintro⟨L,op,A9,c9⟩ e2 w6 ⟨aQ,hD,hu⟩;dsimp only at aQ hD hu|-;refine aY O (aZ O O (az O ?_));refine aM _ O (fun h3=>?_) (fun h3=>?_)
  ·obtain⟨o,x,rfl⟩:=RH op (by omega);have zY:(o++ [x]).length=o.length+1:=by simp
   have hx:gi (o++ [x]) (((o++ [x]).length:Int) - 1)=x:=by
    rw [show(((o++ [x]).length:Nat):Int) - 1=((o.length:Nat):Int) by omega,bN (by omega)];simp
   have qG:=hD.tt x (by simp);refine aD O (aZ O O (je O O O (by omega) ?_));refine ay (aQ.bz 0 O).2 O (bc (aQ.bz 0 O) O ?_);rw [hx];refine ao O (aZ O O (je O O O (by omega) ?_));refine u7 O O O (by have:=(aQ.cap 0 O).1;dsimp only at this;omega) ?_;have a6:=aQ.Z0 0 O o.length (by omega);rw [List.take_left]at a6;rw [show(((o++ [x]).length:Nat):Int) - 1=((o.length:Nat):Int) by omega,gn];refine ao O (aZ O O (az O ?_));refine Cd.loop (α:=Nat×ah×ah×ai×Nat) (fun q=> [(1,.slice A n c),(6,.slice A6 N N),(7,aj (bM N xss i).2),(9,.slice q.2.2.2.1 q.2.2.1.length q.2.2.2.2),(10,aj x),(17,aj N),(18,aj i),(46,.slice A n c),(47,aj n),(48,aj (q.1:Int))]) (fun q w'=>St w w' [ax 2 q.2.2.2.1 q.2.2.1.length q.2.2.2.2 q.2.2.1,ax 2 A6 N N q.2.1]/\kW N xss i (bM N xss i).2 (bM N xss i).1 q.2.1 q.2.2.1 x q.1/\q.1<=n/\gi q.2.1 x=(bM N xss i).2/\il q.2.1+q.2.2.1.length=il L+o.length) (fun q=>n - q.1) (0,L,o,A9,c9) (ac4 O) ⟨a6,hD.Zp,bA _,qG.2.2.2,O⟩ ?_;rintro⟨k,L',o',A',c'⟩ e3 w8 ⟨a7,xq,hk,Dx,MS⟩;dsimp only at a7 xq hk Dx MS|-;refine b7 O (aM _ O (fun h4=>?_) (fun h4=>?_))
   ·have hM:=a7.bE hR;have bH:=hM.at_ (i:=k) (by omega) h4;have iW:=bO k (by omega) h4;have jE:gl xss k∈xss:=mJ (by omega) (by rw [hR.len];exact h4);have hy:=(hs _ jE).2 x qG.1 qG.2.1;refine aD O (acU hM.top.2 O O O (by omega) h4 (bB hM.top O (ao O (ay bH.2 O (bc bH O (ao O (ay (a7.bz 1 O).2 O (bc (a7.bz 1 O) O (az O ?_)))))))));refine aM _ O (fun h5=>?_) (fun h5=>?_)
    ·refine aD O (ay (a7.bz 1 O).2 O (ak.gQ 1 a7 O O O (by omega) ?_));intro w9 aW;refine ao O (fk aW O O O ?_);intro bI dt bV;refine fR 1 bV O (bV.bz 0 O) O O O fun iE iT dB dW=>ao O (aL O (aU O (tQ ?_)));have hu9:=Eh (L:=L') (x:=gi (gl xss k) x) (c:=(bM N xss i).2) hy.1 (by rw [xq.len];exact hy.2) h5 lk.1;refine⟨(k+1,L'.set (gi (gl xss k) x).toNat (bM N xss i).2,o'++ [gi (gl xss k) x],iE,iT),by show n - (k+1)<n - k;omega,⟨O,O,O,by rw [e8];rfl,O,O,O,O,O,O,au⟩,?_,xq.push hs (by omega) (by rw [hR.len];omega) qG.1 qG.2.1 qG.2.2.1 Dx lk.1 h5,by show k+1<=n;omega,?_,?_⟩
     ·have qu:=dW.tail;simp only [e8,List.length_singleton];exact qu
     ·show gi (L'.set _ _) x=_;rw [lL hy.1 (by rw [xq.len];exact hy.2) qG.1]
      split
      ·rfl
      exact Dx
     show il (L'.set _ _)+ (o'++ [_]).length=_;simp only [e8,List.length_singleton];omega
    refine aD O (aL O (aU O (tQ ?_)));exact⟨(k+1,L',o',A',c'),by show n - (k+1)<n - k;omega,(ac4 O),a7,xq.skip (by rw [hR.len];omega) (by omega),by show k+1<=n;omega,Dx,MS⟩
   refine bo O (bp (tF O (tQ ?_)));have dp:k=xss.length:=by rw [hR.len];omega
   subst dp;exact⟨(L',o',A',c'),by show il L'+o'.length<il L+ (o++ [x]).length;omega,(ac4 O),a7,xq.rest,by show il L'+o'.length<=N;omega⟩
  have mP:op=[]:=qg (by omega);subst mP;have hL:=hD.done hs xQ (by omega) h2;refine bo O (bp (cn O (aL O (ao O (aL O (aU O (tQ ?_)))))));refine⟨i+1,by omega,⟨O,O,by rw [Ba h2];rfl,O,O,au⟩,?_,by omega⟩;rw [<-hL];exact aQ.tail
 refine bo O (bp (e6 O ?_));refine uT O O ?_;have:i=N:=by omega
 subst this;exact⟨A6,O,aI⟩
def Comm(xss:ag)(i k f:Nat):Prop:=gi (gl xss k) (gi (gl xss i) f)=gi (gl xss i) (gi (gl xss k) f)/\gi (gl xss i) f≠gi (gl xss k) f
instance (xss:ag)(i k f:Nat):Decidable (Comm xss i k f):=by unfold Comm;exact inferInstance
def qk(xss:ag):Prop:=∀p∈xss,p.length=(gl xss 0).length/\iR p/\mc p
instance (xss:ag):Decidable (qk xss):=by unfold qk;exact inferInstance
def bj(xss:ag):Prop:=(1<=xss.length/\xss.length<=5)/\(2<=(gl xss 0).length/\(gl xss 0).length<=400)/\qk xss/\(∀i,i<xss.length->∀k,k<xss.length->i+2<=k->∀f,f< (gl xss 0).length->Comm xss i k f)/\(da (gl xss 0).length xss 0).length=(gl xss 0).length
instance (xss:ag):Decidable (bj xss):=by unfold bj;exact inferInstance
theorem iR.inj{p:ah}(h:iR p){x y:Int}(hx:0<=x)(dG:x<p.length)(hy:0<=y)(tj:y<p.length)(e:gi p x=gi p y):x=y:=by
 obtain⟨a,rfl⟩:∃a:Nat,x=a:=⟨x.toNat,by omega⟩;obtain⟨b,rfl⟩:∃b:Nat,y=b:=⟨y.toNat,by omega⟩;rw [bN (by omega),bN (by omega)]at e;have:=(List.getElem_inj (h₀:=by omega) (h₁:=by omega) h.2.2).1 e;omega
theorem qk.sys{xss:ag}(h:qk xss):Sys (gl xss 0).length xss:=fun p hp=>by
 have h1:=h p hp;refine⟨h1.1,fun x h0 hx=>?_⟩;have:=h1.2.1.range (i:=x) h0 (by omega);omega
theorem qk.inj{xss:ag}(h:qk xss):pe (gl xss 0).length xss:=fun p hp x y hx dG hy tj e=>by
 have h1:=h p hp;exact h1.2.1.inj hx (by omega) hy (by omega) e
def Part(xss:ag)(k:Nat):Prop:=∀p∈xss.take k,p.length=(gl xss 0).length/\iR p/\mc p
theorem Part.step{xss:ag}{k:Nat}(h:Part xss k)(hk:k<xss.length)(h1:(gl xss k).length=(gl xss 0).length)(h2:iR (gl xss k))(h3:mc (gl xss k)):Part xss (k+1):=by
 intro p hp;rw [wD hk,gE]at hp;rcases hp with hp | hp
 ·exact h p hp
 simp at hp;subst hp;exact⟨h1,h2,h3⟩
theorem Part.all{xss:ag}{k:Nat}(h:Part xss k)(hk:xss.length<=k):qk xss:=by
 intro p hp;refine h p ?_;rw [jc hk];exact hp
theorem qk.at_{xss:ag}(h:qk xss){k:Nat}(hk:k<xss.length):(gl xss k).length=(gl xss 0).length/\iR (gl xss k)/\mc (gl xss k):=h _ (by rw [cM hk];exact dd _)
theorem DG(A:ai)(n c:Nat)(rs:List aO)(xss:ag)(w:aa)(hR:bl w A n rs xss)(hn:n<=9223372036854775807):
 aE prog 164 [.agg #[.slice A n c]] w (fun v w'=>v= .bool (decide (bj xss))/\St w w' []):=by
 have bP:=hR.len;have r0:0<n->(gl xss 0).length=(rg rs 0).n:=fun h=>hR.jh (by omega) (by omega)
 refine bm func164 O ntmps164 O (bU O) (aY O (fD (St.refl w) O O ?_));intro Ab w1 hS;refine ao O (aS (hS.rd 0 O) O (a8 (hS.rd 0 O) O ?_));refine aZ O O (ao O ?_);refine bX 13 O (fun h1=>?_) (fun h1=>?_)
 ·refine av O (av O (ao O (av O (av O (av O (av O (av O (av O (ao O (av O (av O ?_)))))))))));refine av O (av O (av O (av O (az O ?_))));refine Cd.fW O (cE O (bQ O ?_));exact⟨by rw [dq (fun h:bj xss=>by have:=h.1.1;omega)],hS.none⟩
 refine ar O (ao O (ar O (ao O ?_)));refine bX 17 O (fun h2=>?_) (fun h2=>?_)
 ·refine av O (av O (av O (av O (av O (av O (ao O (av O (av O (av O (av O (av O ?_)))))))))));refine av O (az O ?_);refine Cd.fW O (cE O (bQ O ?_));exact⟨by rw [dq (fun h:bj xss=>by have:=h.1.2;omega)],hS.none⟩
 have hM:=hS.bE hR;have r0:=r0 (by omega);refine ar O (aS (hS.rd 0 O) O (ar O (a8 (hS.rd 0 O) O (ar O (ay hM.top.2 O (ar O (bB hM.top O ?_)))))));refine ar O (aZ O O (ar O (ao O ?_)));refine bX 25 O (fun h3=>?_) (fun h3=>?_)
 ·refine av O (av O (av O (av O (av O (av O (az O ?_))))));refine Cd.fW O (cE O (bQ O ?_));exact⟨by rw [dq (fun h:bj xss=>by have:=h.2.1.1;omega)],hS.none⟩
 refine ar O (aS (hS.rd 0 O) O (ar O (a8 (hS.rd 0 O) O (ar O (ay hM.top.2 O (ar O (bB hM.top O ?_)))))));refine ar O (aZ O O (ar O (az O ?_)));refine aM _ O (fun h4=>?_) (fun h4=>?_)
 ·refine cE O (bQ O ?_);exact⟨by rw [dq (fun h:bj xss=>by have:=h.2.1.2;omega)],hS.none⟩
 refine cH O ?_;refine Cd.loop (α:=Nat) (fun k=> [(1,.pointer Ab),(3,aj n),(4,aj k)]) (fun k w'=>St w w' [Bx 37 1 Ab [.slice A n c]]/\k<=n/\Part xss k) (fun k=>n - k) 0 (ac4 O) ⟨hS,bA _,fun p hp=>by simp at hp⟩ ?_;rintro k e w2 ⟨aw,hk,hP⟩;have hM:=aw.bE hR;have hB:=aw.rd 0 O;refine b7 O (aM _ O (fun h5=>?_) (fun h5=>?_))
 ·have nY:k<xss.length:=by omega
  have rk:=hR.jh (k:=(k:Int)) (by omega) (by omega);have bH:=hM.at_ (i:=k) (by omega) h5;refine cH O ?_
  by_cases h6:((rg rs k).n:Int)=(rg rs 0).n
  ·by_cases h7:iR (gl xss k)
   ·by_cases h8:mc (gl xss k)
    ·
     refine dK [xP (aF (Ab) 0),xS (A) (n) (c),xI ((k:Int)),xP (aF (A) ((k:Int)).toNat),xS ((rg (rs) ((k:Int))).a) ((rg (rs) ((k:Int))).n) ((rg (rs) ((k:Int))).c),xI ((((rg (rs) ((k:Int))).n:Nat):Int)),xP (aF (Ab) 0),xS (A) (n) (c),xP (aF (A) ((0:Int)).toNat),xS ((rg (rs) ((0:Int))).a) ((rg (rs) ((0:Int))).n) ((rg (rs) ((0:Int))).c),xI ((((rg (rs) ((0:Int))).n:Nat):Int)),xB (false),xB (false),xP (aF (Ab) 0),xS (A) (n) (c),xI ((k:Int)),xP (aF (A) ((k:Int)).toNat),xS ((rg (rs) ((k:Int))).a) ((rg (rs) ((k:Int))).n) ((rg (rs) ((k:Int))).c),xB (decide (iR (gl xss k))),xB (false),xB (false),xB (false),xP (aF (Ab) 0),xS (A) (n) (c),xI ((k:Int)),xP (aF (A) ((k:Int)).toNat),xS ((rg (rs) ((k:Int))).a) ((rg (rs) ((k:Int))).n) ((rg (rs) ((k:Int))).c),xB (decide (mc (gl xss k))),xB (false),xB (false)] O (eo O) ?_ ?_
     ·refine⟨fun _ _ hb _ _=>aS (hB.below hb) O Az,fun _ _ hb _ _=>a8 (hB.below hb) O Az,Dr O,fun _ _ hb _ _=>ay (hM.top.aq hb).2 O Az,fun _ _ hb _ _=>bB (hM.top.aq hb) O Az,fun _ _ _ _ _=>aZ O O Az,fun _ _ hb _ _=>aS (hB.below hb) O Az,fun _ _ hb _ _=>a8 (hB.below hb) O Az,fun _ _ hb _ _=>ay (hM.top.aq hb).2 O Az,fun _ _ hb _ _=>bB (hM.top.aq hb) O Az,fun _ _ _ _ _=>aZ O O Az,fun _ _ _ _ _=>Dk O (by exact bw Value.bool (dq (by omega))),Dr O,fun _ _ hb _ _=>ar O (aS (hB.below hb) O Az),fun _ _ hb _ _=>ar O (a8 (hB.below hb) O Az),Dr O,fun _ _ hb _ _=>ar O (ay (hM.top.aq hb).2 O Az),fun _ _ hb _ _=>ar O (bB (hM.top.aq hb) O Az),?_,fun _ _ _ _ _=>ar O (dM O O (Az (by exact bw Value.bool (dq (fun h=>h h7))))),Dr O,Dr O,fun _ _ hb _ _=>ar O (aS (hB.below hb) O Az),fun _ _ hb _ _=>ar O (a8 (hB.below hb) O Az),Dr O,fun _ _ hb _ _=>ar O (ay (hM.top.aq hb).2 O Az),fun _ _ hb _ _=>ar O (bB (hM.top.aq hb) O Az),?_,fun _ _ _ _ _=>ar O (dM O O (Az (by exact bw Value.bool (dq (fun h=>h h8))))),Dr O,au⟩
      ·intro e1 w1 hb hp aX;refine ar O (aH (DE _ _ _ _ _ (bH.aq hb)) O ?_);rintro _ w2 ⟨rfl,aA⟩;refine ak.n ?_;exact eA.dn aA.below (by exact O)
      intro e1 w1 hb hp aX;refine ar O (aH (Nj _ _ _ _ _ (bH.aq hb) h7) O ?_);rintro _ w2 ⟨rfl,aA⟩;subst aA;refine ak.n (d0 (by exact O))
     intro u w3 iA _;have aI:=aw.aq iA;refine fw O (Cd.dO O ?_);refine aD O (aL O (aU O (tQ ?_)));exact⟨k+1,by omega,(ac4 O),aI,by omega,hP.step nY (by omega) h7 h8⟩
    refine dK [xP (aF (Ab) 0),xS (A) (n) (c),xI ((k:Int)),xP (aF (A) ((k:Int)).toNat),xS ((rg (rs) ((k:Int))).a) ((rg (rs) ((k:Int))).n) ((rg (rs) ((k:Int))).c),xI ((((rg (rs) ((k:Int))).n:Nat):Int)),xP (aF (Ab) 0),xS (A) (n) (c),xP (aF (A) ((0:Int)).toNat),xS ((rg (rs) ((0:Int))).a) ((rg (rs) ((0:Int))).n) ((rg (rs) ((0:Int))).c),xI ((((rg (rs) ((0:Int))).n:Nat):Int)),xB (false),xB (false),xP (aF (Ab) 0),xS (A) (n) (c),xI ((k:Int)),xP (aF (A) ((k:Int)).toNat),xS ((rg (rs) ((k:Int))).a) ((rg (rs) ((k:Int))).n) ((rg (rs) ((k:Int))).c),xB (decide (iR (gl xss k))),xB (false),xB (false),xB (false),xP (aF (Ab) 0),xS (A) (n) (c),xI ((k:Int)),xP (aF (A) ((k:Int)).toNat),xS ((rg (rs) ((k:Int))).a) ((rg (rs) ((k:Int))).n) ((rg (rs) ((k:Int))).c),xB (decide (mc (gl xss k))),xB (true),xB (true)] O (eo O) ?_ ?_
    ·refine⟨fun _ _ hb _ _=>aS (hB.below hb) O Az,fun _ _ hb _ _=>a8 (hB.below hb) O Az,Dr O,fun _ _ hb _ _=>ay (hM.top.aq hb).2 O Az,fun _ _ hb _ _=>bB (hM.top.aq hb) O Az,fun _ _ _ _ _=>aZ O O Az,fun _ _ hb _ _=>aS (hB.below hb) O Az,fun _ _ hb _ _=>a8 (hB.below hb) O Az,fun _ _ hb _ _=>ay (hM.top.aq hb).2 O Az,fun _ _ hb _ _=>bB (hM.top.aq hb) O Az,fun _ _ _ _ _=>aZ O O Az,fun _ _ _ _ _=>Dk O (by exact bw Value.bool (dq (by omega))),Dr O,fun _ _ hb _ _=>ar O (aS (hB.below hb) O Az),fun _ _ hb _ _=>ar O (a8 (hB.below hb) O Az),Dr O,fun _ _ hb _ _=>ar O (ay (hM.top.aq hb).2 O Az),fun _ _ hb _ _=>ar O (bB (hM.top.aq hb) O Az),?_,fun _ _ _ _ _=>ar O (dM O O (Az (by exact bw Value.bool (dq (fun h=>h h7))))),Dr O,Dr O,fun _ _ hb _ _=>ar O (aS (hB.below hb) O Az),fun _ _ hb _ _=>ar O (a8 (hB.below hb) O Az),Dr O,fun _ _ hb _ _=>ar O (ay (hM.top.aq hb).2 O Az),fun _ _ hb _ _=>ar O (bB (hM.top.aq hb) O Az),?_,fun _ _ _ _ _=>ar O (dM O O (Az (by exact bw Value.bool (fo h8)))),Dr O,au⟩
     ·intro e1 w1 hb hp aX;refine ar O (aH (DE _ _ _ _ _ (bH.aq hb)) O ?_);rintro _ w2 ⟨rfl,aA⟩;refine ak.n ?_;exact eA.dn aA.below (by exact O)
     intro e1 w1 hb hp aX;refine ar O (aH (Nj _ _ _ _ _ (bH.aq hb) h7) O ?_);rintro _ w2 ⟨rfl,aA⟩;subst aA;refine ak.n (d0 (by exact O))
    intro u w3 iA _;have aI:=aw.aq iA;refine fw O (Cd.fW O ?_);refine cE O (de (cT ?_));refine bQ O ?_;exact⟨by rw [dq (fun h:bj xss=>h8 (h.2.2.1.at_ nY).2.2)],aI.none⟩
   refine dK [xP (aF (Ab) 0),xS (A) (n) (c),xI ((k:Int)),xP (aF (A) ((k:Int)).toNat),xS ((rg (rs) ((k:Int))).a) ((rg (rs) ((k:Int))).n) ((rg (rs) ((k:Int))).c),xI ((((rg (rs) ((k:Int))).n:Nat):Int)),xP (aF (Ab) 0),xS (A) (n) (c),xP (aF (A) ((0:Int)).toNat),xS ((rg (rs) ((0:Int))).a) ((rg (rs) ((0:Int))).n) ((rg (rs) ((0:Int))).c),xI ((((rg (rs) ((0:Int))).n:Nat):Int)),xB (false),xB (false),xP (aF (Ab) 0),xS (A) (n) (c),xI ((k:Int)),xP (aF (A) ((k:Int)).toNat),xS ((rg (rs) ((k:Int))).a) ((rg (rs) ((k:Int))).n) ((rg (rs) ((k:Int))).c),xB (decide (iR (gl xss k))),xB (true),xB (true),xB (true),xU,xU,xU,xU,xU,xU,xU,xB (true)] O (eo O) ?_ ?_
   ·refine⟨fun _ _ hb _ _=>aS (hB.below hb) O Az,fun _ _ hb _ _=>a8 (hB.below hb) O Az,Dr O,fun _ _ hb _ _=>ay (hM.top.aq hb).2 O Az,fun _ _ hb _ _=>bB (hM.top.aq hb) O Az,fun _ _ _ _ _=>aZ O O Az,fun _ _ hb _ _=>aS (hB.below hb) O Az,fun _ _ hb _ _=>a8 (hB.below hb) O Az,fun _ _ hb _ _=>ay (hM.top.aq hb).2 O Az,fun _ _ hb _ _=>bB (hM.top.aq hb) O Az,fun _ _ _ _ _=>aZ O O Az,fun _ _ _ _ _=>Dk O (by exact bw Value.bool (dq (by omega))),Dr O,fun _ _ hb _ _=>ar O (aS (hB.below hb) O Az),fun _ _ hb _ _=>ar O (a8 (hB.below hb) O Az),Dr O,fun _ _ hb _ _=>ar O (ay (hM.top.aq hb).2 O Az),fun _ _ hb _ _=>ar O (bB (hM.top.aq hb) O Az),?_,fun _ _ _ _ _=>ar O (dM O O (Az (by exact bw Value.bool (fo h7)))),Dr O,Dr O,Dr O,Dr O,Dr O,Dr O,Dr O,Dr O,Dr O,Dr O,au⟩;intro e1 w1 hb hp aX;refine ar O (aH (DE _ _ _ _ _ (bH.aq hb)) O ?_);rintro _ w2 ⟨rfl,aA⟩;refine ak.n ?_;exact eA.dn aA.below (by exact O)
   intro u w3 iA _;have aI:=aw.aq iA;refine fw O (Cd.fW O ?_);refine cE O (de (cT ?_));refine bQ O ?_;exact⟨by rw [dq (fun h:bj xss=>h7 (h.2.2.1.at_ nY).2.1)],aI.none⟩
  refine dK [xP (aF (Ab) 0),xS (A) (n) (c),xI ((k:Int)),xP (aF (A) ((k:Int)).toNat),xS ((rg (rs) ((k:Int))).a) ((rg (rs) ((k:Int))).n) ((rg (rs) ((k:Int))).c),xI ((((rg (rs) ((k:Int))).n:Nat):Int)),xP (aF (Ab) 0),xS (A) (n) (c),xP (aF (A) ((0:Int)).toNat),xS ((rg (rs) ((0:Int))).a) ((rg (rs) ((0:Int))).n) ((rg (rs) ((0:Int))).c),xI ((((rg (rs) ((0:Int))).n:Nat):Int)),xB (true),xB (true),xU,xU,xU,xU,xU,xU,xU,xB (true),xB (true),xU,xU,xU,xU,xU,xU,xU,xB (true)] O (eo O) ?_ ?_
  ·exact⟨fun _ _ hb _ _=>aS (hB.below hb) O Az,fun _ _ hb _ _=>a8 (hB.below hb) O Az,Dr O,fun _ _ hb _ _=>ay (hM.top.aq hb).2 O Az,fun _ _ hb _ _=>bB (hM.top.aq hb) O Az,fun _ _ _ _ _=>aZ O O Az,fun _ _ hb _ _=>aS (hB.below hb) O Az,fun _ _ hb _ _=>a8 (hB.below hb) O Az,fun _ _ hb _ _=>ay (hM.top.aq hb).2 O Az,fun _ _ hb _ _=>bB (hM.top.aq hb) O Az,fun _ _ _ _ _=>aZ O O Az,fun _ _ _ _ _=>Dk O (by exact bw Value.bool (fo h6)),Dr O,Dr O,Dr O,Dr O,Dr O,Dr O,Dr O,Dr O,Dr O,Dr O,Dr O,Dr O,Dr O,Dr O,Dr O,Dr O,Dr O,Dr O,au⟩
  intro u w3 iA _;have aI:=aw.aq iA;refine fw O (Cd.fW O ?_);refine cE O (de (cT ?_));refine bQ O ?_;exact⟨by rw [dq (fun h:bj xss=>by have:=(h.2.2.1.at_ nY).1;omega)],aI.none⟩
 have lu:=hP.all (by omega);have hs:=lu.sys;have iW:∀i:Int,0<=i->i<n->(rg rs i).n=(rg rs 0).n:=fun i h0 h1=>by
  have e1:=hR.jh h0 h1;have e2:=(lu _ (mJ h0 (by omega))).1;omega
 refine bo O (bp (qZ O ?_));refine Cd.loop (α:=Nat) (fun i=> [(1,.pointer Ab),(3,aj n),(5,aj i)]) (fun i w'=>St w w' [Bx 37 1 Ab [.slice A n c]]/\i<=n/\∀i',i'<i->∀k,k<n->i'+2<=k->∀f,f< (gl xss 0).length->Comm xss i' k f) (fun i=>n - i) 0 (ac4 O) ⟨aw,bA _,fun i' di=>by omega⟩ ?_;rintro i e w3 ⟨aI,hi,hC⟩;refine b7 O (aM _ O (fun h6=>?_) (fun h6=>?_))
 ·refine aD O (aL O (az O ?_));refine Cd.loop (α:=Nat) (fun k=> [(1,.pointer Ab),(3,aj n),(5,aj i),(6,aj k)]) (fun k w'=>St w w' [Bx 37 1 Ab [.slice A n c]]/\i+2<=k/\∀k',k'<k->k'<n->i+2<=k'->∀f,f< (gl xss 0).length->Comm xss i k' f) (fun k=>n+1 - k) (i+2) (ac4 O) ⟨aI,dE _,fun k' _ _ _=>by omega⟩ ?_;rintro k e w4 ⟨aG,gy,zp⟩;refine b7 O (aM _ O (fun h7=>?_) (fun h7=>?_))
  ·have ZJ:=iW i (by omega) h6;have ZK:=iW k (by omega) h7;refine cH O ?_;refine Cd.loop (α:=Nat) (fun f=> [(1,.pointer Ab),(3,aj n),(5,aj i),(6,aj k),(7,aj f)]) (fun f w'=>St w w' [Bx 37 1 Ab [.slice A n c]]/\f<=(gl xss 0).length/\∀f',f'<f->Comm xss i k f') (fun f=> (gl xss 0).length - f) 0 (ac4 O) ⟨aG,bA _,fun f' mn=>by omega⟩ ?_;rintro f e w5 ⟨aR,hf,zq⟩;have hM:=aR.bE hR;have hB:=aR.rd 0 O;have fN:=hM.at_ (i:=i) (by omega) h6;have gN:=hM.at_ (i:=k) (by omega) h7;refine aY O (aS (aR.rd 0 O) O (a8 (aR.rd 0 O) O (ay hM.top.2 O (bB hM.top O ?_))));refine aZ O O (az O ?_);refine aM _ O (fun h8=>?_) (fun h8=>?_)
   ·have Gw:=(hs _ (mJ (k:=(i:Int)) (by omega) (by omega))).2 (f:Int) (by omega) (by omega);have dR:=(hs _ (mJ (k:=(k:Int)) (by omega) (by omega))).2 (f:Int) (by omega) (by omega);refine cH O ?_
    by_cases h9:gi (gl xss k) (gi (gl xss i) f)=gi (gl xss i) (gi (gl xss k) f)
    ·by_cases fG:gi (gl xss i) f=gi (gl xss k) f
     ·
      refine dK [xP (aF (Ab) 0),xS (A) (n) (c),xI ((k:Int)),xP (aF (A) ((k:Int)).toNat),xS ((rg (rs) ((k:Int))).a) ((rg (rs) ((k:Int))).n) ((rg (rs) ((k:Int))).c),xP (aF (Ab) 0),xS (A) (n) (c),xI ((i:Int)),xP (aF (A) ((i:Int)).toNat),xS ((rg (rs) ((i:Int))).a) ((rg (rs) ((i:Int))).n) ((rg (rs) ((i:Int))).c),xI ((f:Int)),xP (aF ((rg (rs) ((i:Int))).a) ((f:Int)).toNat),xI (gi (gl xss i) ((f:Int))),xP (aF ((rg (rs) ((k:Int))).a) (gi (gl xss i) ((f:Int))).toNat),xI (gi (gl xss k) (gi (gl xss i) ((f:Int)))),xP (aF (Ab) 0),xS (A) (n) (c),xI ((i:Int)),xP (aF (A) ((i:Int)).toNat),xS ((rg (rs) ((i:Int))).a) ((rg (rs) ((i:Int))).n) ((rg (rs) ((i:Int))).c),xP (aF (Ab) 0),xS (A) (n) (c),xI ((k:Int)),xP (aF (A) ((k:Int)).toNat),xS ((rg (rs) ((k:Int))).a) ((rg (rs) ((k:Int))).n) ((rg (rs) ((k:Int))).c),xI ((f:Int)),xP (aF ((rg (rs) ((k:Int))).a) ((f:Int)).toNat),xI (gi (gl xss k) ((f:Int))),xP (aF ((rg (rs) ((i:Int))).a) (gi (gl xss k) ((f:Int))).toNat),xI (gi (gl xss i) (gi (gl xss k) ((f:Int)))),xB (false),xB (false),xP (aF (Ab) 0),xS (A) (n) (c),xI ((i:Int)),xP (aF (A) ((i:Int)).toNat),xS ((rg (rs) ((i:Int))).a) ((rg (rs) ((i:Int))).n) ((rg (rs) ((i:Int))).c),xI ((f:Int)),xP (aF ((rg (rs) ((i:Int))).a) ((f:Int)).toNat),xI (gi (gl xss i) ((f:Int))),xP (aF (Ab) 0),xS (A) (n) (c),xI ((k:Int)),xP (aF (A) ((k:Int)).toNat),xS ((rg (rs) ((k:Int))).a) ((rg (rs) ((k:Int))).n) ((rg (rs) ((k:Int))).c),xI ((f:Int)),xP (aF ((rg (rs) ((k:Int))).a) ((f:Int)).toNat),xI (gi (gl xss k) ((f:Int))),xB (true),xB (true)] O (eo O) ?_ ?_
      ·exact⟨fun _ _ hb _ _=>aS (hB.below hb) O Az,fun _ _ hb _ _=>a8 (hB.below hb) O Az,Dr O,fun _ _ hb _ _=>ay (hM.top.aq hb).2 O Az,fun _ _ hb _ _=>bB (hM.top.aq hb) O Az,fun _ _ hb _ _=>aS (hB.below hb) O Az,fun _ _ hb _ _=>a8 (hB.below hb) O Az,Dr O,fun _ _ hb _ _=>ay (hM.top.aq hb).2 O Az,fun _ _ hb _ _=>bB (hM.top.aq hb) O Az,Dr O,fun _ _ hb _ _=>ay (fN.aq hb).2 O Az,fun _ _ hb _ _=>bc (fN.aq hb) O Az,fun _ _ hb _ _=>ay (gN.aq hb).2 O Az,fun _ _ hb _ _=>bc (gN.aq hb) O Az,fun _ _ hb _ _=>aS (hB.below hb) O Az,fun _ _ hb _ _=>a8 (hB.below hb) O Az,Dr O,fun _ _ hb _ _=>ay (hM.top.aq hb).2 O Az,fun _ _ hb _ _=>bB (hM.top.aq hb) O Az,fun _ _ hb _ _=>aS (hB.below hb) O Az,fun _ _ hb _ _=>a8 (hB.below hb) O Az,Dr O,fun _ _ hb _ _=>ay (hM.top.aq hb).2 O Az,fun _ _ hb _ _=>bB (hM.top.aq hb) O Az,Dr O,fun _ _ hb _ _=>ay (gN.aq hb).2 O Az,fun _ _ hb _ _=>bc (gN.aq hb) O Az,fun _ _ hb _ _=>ay (fN.aq hb).2 O Az,fun _ _ hb _ _=>bc (fN.aq hb) O Az,fun _ _ _ _ _=>Dk O (by exact bw Value.bool (dq (fun h=>h h9))),Dr O,fun _ _ hb _ _=>ar O (aS (hB.below hb) O Az),fun _ _ hb _ _=>ar O (a8 (hB.below hb) O Az),Dr O,fun _ _ hb _ _=>ar O (ay (hM.top.aq hb).2 O Az),fun _ _ hb _ _=>ar O (bB (hM.top.aq hb) O Az),Dr O,fun _ _ hb _ _=>ar O (ay (fN.aq hb).2 O Az),fun _ _ hb _ _=>ar O (bc (fN.aq hb) O Az),fun _ _ hb _ _=>ar O (aS (hB.below hb) O Az),fun _ _ hb _ _=>ar O (a8 (hB.below hb) O Az),Dr O,fun _ _ hb _ _=>ar O (ay (hM.top.aq hb).2 O Az),fun _ _ hb _ _=>ar O (bB (hM.top.aq hb) O Az),Dr O,fun _ _ hb _ _=>ar O (ay (gN.aq hb).2 O Az),fun _ _ hb _ _=>ar O (bc (gN.aq hb) O Az),fun _ _ _ _ _=>Dk O (by exact bw Value.bool (fo fG)),Dr O,au⟩
      intro u w6 jV _;have aQ:=aR.aq jV;refine fw O (Cd.fW O ?_);refine cE O (de (cT (de (cT (de (cT ?_))))));refine bQ O ?_;exact⟨by rw [dq (fun h:bj xss=> (h.2.2.2.1 i (by omega) k (by omega) gy f (by omega)).2 fG)],aQ.none⟩
     refine dK [xP (aF (Ab) 0),xS (A) (n) (c),xI ((k:Int)),xP (aF (A) ((k:Int)).toNat),xS ((rg (rs) ((k:Int))).a) ((rg (rs) ((k:Int))).n) ((rg (rs) ((k:Int))).c),xP (aF (Ab) 0),xS (A) (n) (c),xI ((i:Int)),xP (aF (A) ((i:Int)).toNat),xS ((rg (rs) ((i:Int))).a) ((rg (rs) ((i:Int))).n) ((rg (rs) ((i:Int))).c),xI ((f:Int)),xP (aF ((rg (rs) ((i:Int))).a) ((f:Int)).toNat),xI (gi (gl xss i) ((f:Int))),xP (aF ((rg (rs) ((k:Int))).a) (gi (gl xss i) ((f:Int))).toNat),xI (gi (gl xss k) (gi (gl xss i) ((f:Int)))),xP (aF (Ab) 0),xS (A) (n) (c),xI ((i:Int)),xP (aF (A) ((i:Int)).toNat),xS ((rg (rs) ((i:Int))).a) ((rg (rs) ((i:Int))).n) ((rg (rs) ((i:Int))).c),xP (aF (Ab) 0),xS (A) (n) (c),xI ((k:Int)),xP (aF (A) ((k:Int)).toNat),xS ((rg (rs) ((k:Int))).a) ((rg (rs) ((k:Int))).n) ((rg (rs) ((k:Int))).c),xI ((f:Int)),xP (aF ((rg (rs) ((k:Int))).a) ((f:Int)).toNat),xI (gi (gl xss k) ((f:Int))),xP (aF ((rg (rs) ((i:Int))).a) (gi (gl xss k) ((f:Int))).toNat),xI (gi (gl xss i) (gi (gl xss k) ((f:Int)))),xB (false),xB (false),xP (aF (Ab) 0),xS (A) (n) (c),xI ((i:Int)),xP (aF (A) ((i:Int)).toNat),xS ((rg (rs) ((i:Int))).a) ((rg (rs) ((i:Int))).n) ((rg (rs) ((i:Int))).c),xI ((f:Int)),xP (aF ((rg (rs) ((i:Int))).a) ((f:Int)).toNat),xI (gi (gl xss i) ((f:Int))),xP (aF (Ab) 0),xS (A) (n) (c),xI ((k:Int)),xP (aF (A) ((k:Int)).toNat),xS ((rg (rs) ((k:Int))).a) ((rg (rs) ((k:Int))).n) ((rg (rs) ((k:Int))).c),xI ((f:Int)),xP (aF ((rg (rs) ((k:Int))).a) ((f:Int)).toNat),xI (gi (gl xss k) ((f:Int))),xB (false),xB (false)] O (eo O) ?_ ?_
     ·exact⟨fun _ _ hb _ _=>aS (hB.below hb) O Az,fun _ _ hb _ _=>a8 (hB.below hb) O Az,Dr O,fun _ _ hb _ _=>ay (hM.top.aq hb).2 O Az,fun _ _ hb _ _=>bB (hM.top.aq hb) O Az,fun _ _ hb _ _=>aS (hB.below hb) O Az,fun _ _ hb _ _=>a8 (hB.below hb) O Az,Dr O,fun _ _ hb _ _=>ay (hM.top.aq hb).2 O Az,fun _ _ hb _ _=>bB (hM.top.aq hb) O Az,Dr O,fun _ _ hb _ _=>ay (fN.aq hb).2 O Az,fun _ _ hb _ _=>bc (fN.aq hb) O Az,fun _ _ hb _ _=>ay (gN.aq hb).2 O Az,fun _ _ hb _ _=>bc (gN.aq hb) O Az,fun _ _ hb _ _=>aS (hB.below hb) O Az,fun _ _ hb _ _=>a8 (hB.below hb) O Az,Dr O,fun _ _ hb _ _=>ay (hM.top.aq hb).2 O Az,fun _ _ hb _ _=>bB (hM.top.aq hb) O Az,fun _ _ hb _ _=>aS (hB.below hb) O Az,fun _ _ hb _ _=>a8 (hB.below hb) O Az,Dr O,fun _ _ hb _ _=>ay (hM.top.aq hb).2 O Az,fun _ _ hb _ _=>bB (hM.top.aq hb) O Az,Dr O,fun _ _ hb _ _=>ay (gN.aq hb).2 O Az,fun _ _ hb _ _=>bc (gN.aq hb) O Az,fun _ _ hb _ _=>ay (fN.aq hb).2 O Az,fun _ _ hb _ _=>bc (fN.aq hb) O Az,fun _ _ _ _ _=>Dk O (by exact bw Value.bool (dq (fun h=>h h9))),Dr O,fun _ _ hb _ _=>ar O (aS (hB.below hb) O Az),fun _ _ hb _ _=>ar O (a8 (hB.below hb) O Az),Dr O,fun _ _ hb _ _=>ar O (ay (hM.top.aq hb).2 O Az),fun _ _ hb _ _=>ar O (bB (hM.top.aq hb) O Az),Dr O,fun _ _ hb _ _=>ar O (ay (fN.aq hb).2 O Az),fun _ _ hb _ _=>ar O (bc (fN.aq hb) O Az),fun _ _ hb _ _=>ar O (aS (hB.below hb) O Az),fun _ _ hb _ _=>ar O (a8 (hB.below hb) O Az),Dr O,fun _ _ hb _ _=>ar O (ay (hM.top.aq hb).2 O Az),fun _ _ hb _ _=>ar O (bB (hM.top.aq hb) O Az),Dr O,fun _ _ hb _ _=>ar O (ay (gN.aq hb).2 O Az),fun _ _ hb _ _=>ar O (bc (gN.aq hb) O Az),fun _ _ _ _ _=>Dk O (by exact bw Value.bool (dq fG)),Dr O,au⟩
     intro u w6 jV _;have aQ:=aR.aq jV;refine fw O (Cd.dO O ?_);refine aD O (aL O (aU O (tQ ?_)));refine⟨f+1,by omega,(ac4 O),aQ,by omega,fun f' mn=>?_⟩
     by_cases ef:f'=f
     ·subst ef;exact⟨h9,fG⟩
     exact zq f' (by omega)
    refine dK [xP (aF (Ab) 0),xS (A) (n) (c),xI ((k:Int)),xP (aF (A) ((k:Int)).toNat),xS ((rg (rs) ((k:Int))).a) ((rg (rs) ((k:Int))).n) ((rg (rs) ((k:Int))).c),xP (aF (Ab) 0),xS (A) (n) (c),xI ((i:Int)),xP (aF (A) ((i:Int)).toNat),xS ((rg (rs) ((i:Int))).a) ((rg (rs) ((i:Int))).n) ((rg (rs) ((i:Int))).c),xI ((f:Int)),xP (aF ((rg (rs) ((i:Int))).a) ((f:Int)).toNat),xI (gi (gl xss i) ((f:Int))),xP (aF ((rg (rs) ((k:Int))).a) (gi (gl xss i) ((f:Int))).toNat),xI (gi (gl xss k) (gi (gl xss i) ((f:Int)))),xP (aF (Ab) 0),xS (A) (n) (c),xI ((i:Int)),xP (aF (A) ((i:Int)).toNat),xS ((rg (rs) ((i:Int))).a) ((rg (rs) ((i:Int))).n) ((rg (rs) ((i:Int))).c),xP (aF (Ab) 0),xS (A) (n) (c),xI ((k:Int)),xP (aF (A) ((k:Int)).toNat),xS ((rg (rs) ((k:Int))).a) ((rg (rs) ((k:Int))).n) ((rg (rs) ((k:Int))).c),xI ((f:Int)),xP (aF ((rg (rs) ((k:Int))).a) ((f:Int)).toNat),xI (gi (gl xss k) ((f:Int))),xP (aF ((rg (rs) ((i:Int))).a) (gi (gl xss k) ((f:Int))).toNat),xI (gi (gl xss i) (gi (gl xss k) ((f:Int)))),xB (true),xB (true),xU,xU,xU,xU,xU,xU,xU,xU,xU,xU,xU,xU,xU,xU,xU,xU,xU,xB (true)] O (eo O) ?_ ?_
    ·exact⟨fun _ _ hb _ _=>aS (hB.below hb) O Az,fun _ _ hb _ _=>a8 (hB.below hb) O Az,Dr O,fun _ _ hb _ _=>ay (hM.top.aq hb).2 O Az,fun _ _ hb _ _=>bB (hM.top.aq hb) O Az,fun _ _ hb _ _=>aS (hB.below hb) O Az,fun _ _ hb _ _=>a8 (hB.below hb) O Az,Dr O,fun _ _ hb _ _=>ay (hM.top.aq hb).2 O Az,fun _ _ hb _ _=>bB (hM.top.aq hb) O Az,Dr O,fun _ _ hb _ _=>ay (fN.aq hb).2 O Az,fun _ _ hb _ _=>bc (fN.aq hb) O Az,fun _ _ hb _ _=>ay (gN.aq hb).2 O Az,fun _ _ hb _ _=>bc (gN.aq hb) O Az,fun _ _ hb _ _=>aS (hB.below hb) O Az,fun _ _ hb _ _=>a8 (hB.below hb) O Az,Dr O,fun _ _ hb _ _=>ay (hM.top.aq hb).2 O Az,fun _ _ hb _ _=>bB (hM.top.aq hb) O Az,fun _ _ hb _ _=>aS (hB.below hb) O Az,fun _ _ hb _ _=>a8 (hB.below hb) O Az,Dr O,fun _ _ hb _ _=>ay (hM.top.aq hb).2 O Az,fun _ _ hb _ _=>bB (hM.top.aq hb) O Az,Dr O,fun _ _ hb _ _=>ay (gN.aq hb).2 O Az,fun _ _ hb _ _=>bc (gN.aq hb) O Az,fun _ _ hb _ _=>ay (fN.aq hb).2 O Az,fun _ _ hb _ _=>bc (fN.aq hb) O Az,fun _ _ _ _ _=>Dk O (by exact bw Value.bool (fo h9)),Dr O,Dr O,Dr O,Dr O,Dr O,Dr O,Dr O,Dr O,Dr O,Dr O,Dr O,Dr O,Dr O,Dr O,Dr O,Dr O,Dr O,Dr O,Dr O,au⟩
    intro u w6 jV _;have aQ:=aR.aq jV;refine fw O (Cd.fW O ?_);refine cE O (de (cT (de (cT (de (cT ?_))))));refine bQ O ?_;exact⟨by rw [dq (fun h:bj xss=>h9 (h.2.2.2.1 i (by omega) k (by omega) gy f (by omega)).1)],aQ.none⟩
   refine bo O (bp (cn O (aL O (aU O (tQ ?_)))));refine⟨k+1,by omega,(ac4 O),aR,by omega,fun k' dp eF kN f' mn=>?_⟩
   by_cases ek:k'=k
   ·subst ek;exact zq f' (by omega)
   exact zp k' (by omega) eF kN f' mn
  refine bo O (bp (cn O (aL O (aU O (tQ ?_)))));refine⟨i+1,by omega,(ac4 O),aG,by omega,fun i' di k' dp kN f' mn=>?_⟩
  by_cases ei:i'=i
  ·subst ei;exact zp k' (by omega) dp kN f' mn
  exact hC i' (by omega) k' dp kN f' mn
 have hM:=aI.bE hR;have hB:=aI.rd 0 O;refine bo O (bp (qZ O ?_));refine dK [xP (aF (Ab) 0),xS (A) (n) (c),.pr (fun v _=>∃A' c',v= .slice A' (da (gl xss 0).length xss 0).length c'),xI (((da (gl xss 0).length xss 0).length:Int)),xP (aF (Ab) 0),xS (A) (n) (c),xP (aF (A) ((0:Int)).toNat),xS ((rg (rs) ((0:Int))).a) ((rg (rs) ((0:Int))).n) ((rg (rs) ((0:Int))).c),xI ((((rg (rs) ((0:Int))).n:Nat):Int)),xB (decide ((((da (gl xss 0).length xss 0).length:Int))=((((rg (rs) ((0:Int))).n:Nat):Int)))),xB (decide ((((da (gl xss 0).length xss 0).length:Int))=((((rg (rs) ((0:Int))).n:Nat):Int))))] rfl (lx (lx (cL.2 ⟨Yd.cQ (fun _ _ _ h _=>h),(lx (lx (lx (lx (lx (lx (lx (lx (fun _ h=>by cases h)))))))))⟩))) ?_ ?_
 ·refine⟨fun _ _ hb _ _=>aS (hB.below hb) O Az,fun _ _ hb _ _=>a8 (hB.below hb) O Az,?_,?_,fun _ _ hb _ _=>aS (hB.below hb) O Az,fun _ _ hb _ _=>a8 (hB.below hb) O Az,fun _ _ hb _ _=>ay (hM.top.aq hb).2 O Az,fun _ _ hb _ _=>bB (hM.top.aq hb) O Az,fun _ _ _ _ _=>aZ O O Az,Dr O,Dr O,au⟩
  ·intro e1 w1 hb hp aX;refine aH (Hw _ _ _ _ _ (gl xss 0).length 0 _ (hM.aq hb) hn hs (by omega) (by omega) (by omega)) O ?_;rintro _ w2 ⟨A',c',rfl,aA⟩;exact ak.n (eA.dn aA.below ⟨A',c',O⟩)
  intro e1 w1 hb hp aX;obtain⟨A',c',Ta⟩:=(hp 2 (by decide) rfl _ _ rfl rfl);refine aZ (by exact Ta) O Az
 intro u w6 jV _;have aQ:=aI.aq jV;refine tE O (bQ O ?_);refine⟨?_,aQ.none⟩
 congr 1
 refine kc.2 ⟨fun h=> ⟨by omega,by omega,lu,fun i' di k' dp kN f' mn=>hC i' (by omega) k' (by omega) kN f' mn,by omega⟩,fun h=>by have:=h.2.2.2.2;omega⟩
theorem ZH{rs:List aO}{m:Nat}(hj:j<m):rg ((rs.drop l).take m) j=rg rs ((l+j:Nat):Int):=by
 have e:(((l+j:Nat):Int)).toNat=l+j:=by omega
 rw [rg,rg,e];simp [df,qh,hj]
theorem AO(A:ai)(n c:Nat)(rs:List aO)(xss:ag)(w:aa)(hR:bl w A n rs xss)(hn:n<=c)(hc:c<=9223372036854775807):
 aE prog 66 [.agg #[.slice A n c]] w (fun v w'=>v= .bool (decide (bj xss))/\St w w' []):=by
 have bP:=hR.len;have r0:0<n->(gl xss 0).length=(rg rs 0).n:=fun h=>hR.jh (by omega) (by omega)
 refine bm func66 O ntmps66 O (bU O) (aY O (fD (St.refl w) O O ?_));intro Ab w1 hS;refine ao O (aH (uS _ _ _ _ _ _ (hS.rd 0 O) O) O ?_);rintro _ _ ⟨rfl,rfl⟩;refine aH (qU _ _ _ _) O ?_;rintro _ _ ⟨rfl,rfl⟩
 first | refine dM rfl rfl ?_ | refine eI rfl rfl ?_
 refine ao O (bX 15 O (fun h1=>?_) (fun h1=>?_))
 ·refine av O (av O (av O (az O ?_)));refine Cd.fW O (cE O (bQ O ?_));exact⟨by rw [dq (fun h:bj xss=>by have:=h.1;omega)],hS.none⟩
 have hM:=hS.bE hR;have r0:=r0 (by omega);refine ar O (aH (nN _ _ _ _ _ _ _ _ (hS.rd 0 O) O hM (by omega)) O ?_);rintro _ _ ⟨rfl,rfl⟩;refine ar O (aH (qU _ _ _ _) O ?_);rintro _ _ ⟨rfl,rfl⟩;refine ar O ?_
 first | refine dM rfl rfl ?_ | refine eI rfl rfl ?_
 refine az O (aM _ O (fun h3=>?_) (fun h3=>?_))
 ·refine cE O (bQ O ?_);exact⟨by rw [dq (fun h:bj xss=>by have:=h.2.1;omega)],hS.none⟩
 refine aD O (aS (hS.rd 0 O) O (a8 (hS.rd 0 O) O ?_));refine aZ O O (az O ?_);refine Cd.loop (α:=Nat) (fun k=> [(1,.pointer Ab),(21,.slice A n c),(22,aj n),(23,aj k)]) (fun k w'=>St w w' [Bx 37 1 Ab [.slice A n c]]/\k<=n/\Part xss k) (fun k=>n - k) 0 (ac4 O) ⟨hS,bA _,fun p hp=>by simp at hp⟩ ?_;rintro k e w2 ⟨aw,hk,hP⟩;have hM:=aw.bE hR;refine b7 O (aM _ O (fun h5=>?_) (fun h5=>?_))
 ·have nY:k<xss.length:=by omega
  have rk:=hR.jh (k:=(k:Int)) (by omega) (by omega);have bH:=hM.at_ (i:=k) (by omega) h5;refine aD O (acU hM.top.2 O O O (by omega) h5 (bB hM.top O (ao O (aH (WV _ _ _ _ _ bH) O ?_))));rintro _ w3 ⟨rfl,aA⟩;have aI:=aw.aq aA.below;have hM:=aI.bE hR
  first | refine dM rfl rfl ?_ | refine eI rfl rfl ?_
  refine ao O (bX 30 O (fun h6=>?_) (fun h6=>?_))
  ·refine av O (av O (av O (av O (az O ?_))));refine Cd.fW O (cE O (de (cT ?_)));refine bQ O ?_;exact⟨by rw [dq (fun h:bj xss=>h6 ⟨(h.2.2.1.at_ nY).2.1,(h.2.2.1.at_ nY).2.2⟩)],aI.none⟩
  have h6:=gC.1 h6;refine ar O (ao O (ar O ?_));refine aH (wB _ _ _ _) O ?_;rintro _ _ ⟨rfl,rfl⟩;refine ar O (aH (nN _ _ _ _ _ _ _ _ (aI.rd 0 O) O hM (by omega)) O ?_);rintro _ _ ⟨rfl,rfl⟩;refine ar O (az O ?_);refine aM _ O (fun h7=>?_) (fun h7=>?_)
  ·refine cE O (de (cT ?_));refine bQ O ?_;exact⟨by rw [dq (fun h:bj xss=>h7 (by have:=(h.2.2.1.at_ nY).1;omega))],aI.none⟩
  refine aD O (aL O (aU O (tQ ?_)));exact⟨k+1,by omega,(ac4 O),aI,by omega,hP.step nY (by omega) h6.1 h6.2⟩
 have lu:=hP.all (by omega);have hs:=lu.sys;have iW:∀i:Int,0<=i->i<n->(rg rs i).n=(rg rs 0).n:=fun i h0 h1=>by
  have e1:=hR.jh h0 h1;have e2:=(lu _ (mJ h0 (by omega))).1;omega
 refine bo O (bp (cn O ?_));refine aS (aw.rd 0 O) O (a8 (aw.rd 0 O) O ?_);refine aZ O O (az O ?_);refine Cd.loop (α:=Nat) (fun i=> [(1,.pointer Ab),(38,.slice A n c),(39,aj n),(40,aj i)]) (fun i w'=>St w w' [Bx 37 1 Ab [.slice A n c]]/\i<=n/\∀i',i'<i->∀k,k<n->i'+2<=k->∀f,f< (gl xss 0).length->Comm xss i' k f) (fun i=>n - i) 0 (ac4 O) ⟨aw,bA _,fun i' di=>by omega⟩ ?_;rintro i e w3 ⟨aI,hi,hC⟩;have hM:=aI.bE hR;refine b7 O (aM _ O (fun h6=>?_) (fun h6=>?_))
 ·refine aD O (acU hM.top.2 O O O (by omega) h6 (bB hM.top O (ao O (aS (aI.rd 0 O) O (a8 (aI.rd 0 O) O ?_)))));refine ao O (aL O ?_);refine aS (aI.rd 0 O) O (a8 (aI.rd 0 O) O (aZ O O (I9 O O O ?_)));obtain⟨l,hl,Mc,zQ⟩:∃l:Nat,min ((i:Int)+2) (n:Int)=(l:Int)/\l<=n/\(l=i+2\/(l=n/\n<=i+2)):=⟨min (i+2) n,by omega,by omega,by omega⟩;rw [hl];refine sr O O O (by omega) ?_;rw [gn];refine aZ O O (az O ?_);refine Cd.loop (α:=Nat) (fun j=> [(1,.pointer Ab),(38,.slice A n c),(39,aj n),(40,aj i),(6,.slice (rg rs i).a (rg rs i).n (rg rs i).c),(53,.slice (cutAt A c l) (n - l) (c - l)),(54,aj ((n - l:Nat):Int)),(55,aj j)]) (fun j w'=>St w w' [Bx 37 1 Ab [.slice A n c]]/\j<=n - l/\∀k',k'<l+j->k'<n->i+2<=k'->∀f,f< (gl xss 0).length->Comm xss i k' f) (fun j=>n - l - j) 0 (ac4 O) ⟨aI,bA _,fun k' h1 _ _=>by omega⟩ ?_;rintro j e w4 ⟨aG,hj,zp⟩;have hM:=aG.bE hR;have rF:=hM.top.cut (c:=c) Mc (dE n) hn;refine b7 O (aM _ O (fun h7=>?_) (fun h7=>?_))
  ·have mo:j<n - l:=by omega
   have hk:l+j<n:=by omega
   have gy:i+2<=l+j:=by omega
   refine aD O (acU rF.2 O O O (by omega) h7 (bB rF O ?_));rw [ZH mo];generalize L9:l+j=k at hk gy;have ZJ:=iW i (by omega) h6;have ZK:=iW k (by omega) (by omega);refine ao O (aH (nN _ _ _ _ _ _ _ _ (aG.rd 0 O) O hM (by omega)) O ?_);rintro _ w4 ⟨rfl,rfl⟩;refine az O ?_;refine Cd.loop (α:=Nat) (fun f=> [(1,.pointer Ab),(38,.slice A n c),(39,aj n),(40,aj i),(6,.slice (rg rs i).a (rg rs i).n (rg rs i).c),(53,.slice (cutAt A c l) (n - l) (c - l)),(54,aj ((n - l:Nat):Int)),(55,aj j),(8,.slice (rg rs k).a (rg rs k).n (rg rs k).c),(59,aj ((rg rs 0).n:Int)),(60,aj f)]) (fun f w'=>St w w' [Bx 37 1 Ab [.slice A n c]]/\f<=(gl xss 0).length/\∀f',f'<f->Comm xss i k f') (fun f=> (gl xss 0).length - f) 0 (ac4 O) ⟨aG,bA _,fun f' mn=>by omega⟩ ?_;rintro f e w5 ⟨aR,hf,zq⟩;have hM:=aR.bE hR;have fN:=hM.at_ (i:=i) (by omega) h6;have gN:=hM.at_ (i:=k) (by omega) (by omega);refine b7 O (aM _ O (fun h8=>?_) (fun h8=>?_))
   ·have Gw:=(hs _ (mJ (k:=(i:Int)) (by omega) (by omega))).2 (f:Int) (by omega) (by omega);have dR:=(hs _ (mJ (k:=(k:Int)) (by omega) (by omega))).2 (f:Int) (by omega) (by omega);refine cH O ?_
    by_cases fG:gi (gl xss i) f=gi (gl xss k) f
    ·
     refine dK [xS ((rg rs i).a) ((rg rs i).n) ((rg rs i).c),xI ((f:Int)),xP (aF ((rg rs i).a) ((f:Int)).toNat),xI (gi (gl xss i) ((f:Int))),xS ((rg rs k).a) ((rg rs k).n) ((rg rs k).c),xI ((f:Int)),xP (aF ((rg rs k).a) ((f:Int)).toNat),xI (gi (gl xss k) ((f:Int))),xB (true),xB (true),xU,xU,xU,xU,xU,xU,xU,xU,xU,xU,xU,xU,xU,xU,xU,xB (true)] O (eo O) ?_ ?_
     ·exact⟨Dr O,Dr O,fun _ _ hb _ _=>ay (fN.aq hb).2 O Az,fun _ _ hb _ _=>bc (fN.aq hb) O Az,Dr O,Dr O,fun _ _ hb _ _=>ay (gN.aq hb).2 O Az,fun _ _ hb _ _=>bc (gN.aq hb) O Az,fun _ _ _ _ _=>Dk O (by exact bw Value.bool (fo fG)),Dr O,Dr O,Dr O,Dr O,Dr O,Dr O,Dr O,Dr O,Dr O,Dr O,Dr O,Dr O,Dr O,Dr O,Dr O,Dr O,Dr O,au⟩
     intro u w6 jV _;have aQ:=aR.aq jV;refine fw O (Cd.fW O ?_);refine cE O (de (cT (de (cT (de (cT ?_))))));refine bQ O ?_;exact⟨by rw [dq (fun h:bj xss=> (h.2.2.2.1 i (by omega) k (by omega) gy f (by omega)).2 fG)],aQ.none⟩
    by_cases h9:gi (gl xss k) (gi (gl xss i) f)=gi (gl xss i) (gi (gl xss k) f)
    ·refine dK [xS ((rg rs i).a) ((rg rs i).n) ((rg rs i).c),xI ((f:Int)),xP (aF ((rg rs i).a) ((f:Int)).toNat),xI (gi (gl xss i) ((f:Int))),xS ((rg rs k).a) ((rg rs k).n) ((rg rs k).c),xI ((f:Int)),xP (aF ((rg rs k).a) ((f:Int)).toNat),xI (gi (gl xss k) ((f:Int))),xB (false),xB (false),xS ((rg rs k).a) ((rg rs k).n) ((rg rs k).c),xS ((rg rs i).a) ((rg rs i).n) ((rg rs i).c),xI ((f:Int)),xP (aF ((rg rs i).a) ((f:Int)).toNat),xI (gi (gl xss i) ((f:Int))),xP (aF ((rg rs k).a) (gi (gl xss i) ((f:Int))).toNat),xI (gi (gl xss k) (gi (gl xss i) ((f:Int)))),xS ((rg rs i).a) ((rg rs i).n) ((rg rs i).c),xS ((rg rs k).a) ((rg rs k).n) ((rg rs k).c),xI ((f:Int)),xP (aF ((rg rs k).a) ((f:Int)).toNat),xI (gi (gl xss k) ((f:Int))),xP (aF ((rg rs i).a) (gi (gl xss k) ((f:Int))).toNat),xI (gi (gl xss i) (gi (gl xss k) ((f:Int)))),xB (false),xB (false)] O (eo O) ?_ ?_
     ·exact⟨Dr O,Dr O,fun _ _ hb _ _=>ay (fN.aq hb).2 O Az,fun _ _ hb _ _=>bc (fN.aq hb) O Az,Dr O,Dr O,fun _ _ hb _ _=>ay (gN.aq hb).2 O Az,fun _ _ hb _ _=>bc (gN.aq hb) O Az,fun _ _ _ _ _=>Dk O (by exact bw Value.bool (dq fG)),Dr O,Dr O,Dr O,Dr O,fun _ _ hb _ _=>ar O (ay (fN.aq hb).2 O Az),fun _ _ hb _ _=>ar O (bc (fN.aq hb) O Az),fun _ _ hb _ _=>ar O (ay (gN.aq hb).2 O Az),fun _ _ hb _ _=>ar O (bc (gN.aq hb) O Az),Dr O,Dr O,Dr O,fun _ _ hb _ _=>ar O (ay (gN.aq hb).2 O Az),fun _ _ hb _ _=>ar O (bc (gN.aq hb) O Az),fun _ _ hb _ _=>ar O (ay (fN.aq hb).2 O Az),fun _ _ hb _ _=>ar O (bc (fN.aq hb) O Az),fun _ _ _ _ _=>Dk O (by exact bw Value.bool (dq (fun h=>h h9))),Dr O,au⟩
     intro u w6 jV _;have aQ:=aR.aq jV;refine fw O (Cd.dO O ?_);refine aD O (aL O (aU O (tQ ?_)));refine⟨f+1,by omega,(ac4 O),aQ,by omega,fun f' mn=>?_⟩
     by_cases ef:f'=f
     ·subst ef;exact⟨h9,fG⟩
     exact zq f' (by omega)
    refine dK [xS ((rg rs i).a) ((rg rs i).n) ((rg rs i).c),xI ((f:Int)),xP (aF ((rg rs i).a) ((f:Int)).toNat),xI (gi (gl xss i) ((f:Int))),xS ((rg rs k).a) ((rg rs k).n) ((rg rs k).c),xI ((f:Int)),xP (aF ((rg rs k).a) ((f:Int)).toNat),xI (gi (gl xss k) ((f:Int))),xB (false),xB (false),xS ((rg rs k).a) ((rg rs k).n) ((rg rs k).c),xS ((rg rs i).a) ((rg rs i).n) ((rg rs i).c),xI ((f:Int)),xP (aF ((rg rs i).a) ((f:Int)).toNat),xI (gi (gl xss i) ((f:Int))),xP (aF ((rg rs k).a) (gi (gl xss i) ((f:Int))).toNat),xI (gi (gl xss k) (gi (gl xss i) ((f:Int)))),xS ((rg rs i).a) ((rg rs i).n) ((rg rs i).c),xS ((rg rs k).a) ((rg rs k).n) ((rg rs k).c),xI ((f:Int)),xP (aF ((rg rs k).a) ((f:Int)).toNat),xI (gi (gl xss k) ((f:Int))),xP (aF ((rg rs i).a) (gi (gl xss k) ((f:Int))).toNat),xI (gi (gl xss i) (gi (gl xss k) ((f:Int)))),xB (true),xB (true)] O (eo O) ?_ ?_
    ·exact⟨Dr O,Dr O,fun _ _ hb _ _=>ay (fN.aq hb).2 O Az,fun _ _ hb _ _=>bc (fN.aq hb) O Az,Dr O,Dr O,fun _ _ hb _ _=>ay (gN.aq hb).2 O Az,fun _ _ hb _ _=>bc (gN.aq hb) O Az,fun _ _ _ _ _=>Dk O (by exact bw Value.bool (dq fG)),Dr O,Dr O,Dr O,Dr O,fun _ _ hb _ _=>ar O (ay (fN.aq hb).2 O Az),fun _ _ hb _ _=>ar O (bc (fN.aq hb) O Az),fun _ _ hb _ _=>ar O (ay (gN.aq hb).2 O Az),fun _ _ hb _ _=>ar O (bc (gN.aq hb) O Az),Dr O,Dr O,Dr O,fun _ _ hb _ _=>ar O (ay (gN.aq hb).2 O Az),fun _ _ hb _ _=>ar O (bc (gN.aq hb) O Az),fun _ _ hb _ _=>ar O (ay (fN.aq hb).2 O Az),fun _ _ hb _ _=>ar O (bc (fN.aq hb) O Az),fun _ _ _ _ _=>Dk O (by exact bw Value.bool (fo h9)),Dr O,au⟩
    intro u w6 jV _;have aQ:=aR.aq jV;refine fw O (Cd.fW O ?_);refine cE O (de (cT (de (cT (de (cT ?_))))));refine bQ O ?_;exact⟨by rw [dq (fun h:bj xss=>h9 (h.2.2.2.1 i (by omega) k (by omega) gy f (by omega)).1)],aQ.none⟩
   refine bo O (bp (cn O (aL O (aU O (tQ ?_)))));refine⟨j+1,by omega,(ac4 O),aR,by omega,fun k' dp eF kN f' mn=>?_⟩
   by_cases ek:k'=k
   ·subst ek;exact zq f' (by omega)
   exact zp k' (by omega) eF kN f' mn
  refine bo O (bp (cn O (aL O (aU O (tQ ?_)))));refine⟨i+1,by omega,(ac4 O),aG,by omega,fun i' di k' dp kN f' mn=>?_⟩
  by_cases ei:i'=i
  ·subst ei;exact zp k' (by omega) dp kN f' mn
  exact hC i' (by omega) k' dp kN f' mn
 have hB:=aI.rd 0 O;refine bo O (bp (qZ O ?_));refine dK [xI (((rg rs 0).n:Int)),xP (aF (Ab) 0),xS (A) (n) (c),.pr (fun v _=>∃A',v= .tuple #[.slice A' (gl xss 0).length (gl xss 0).length,aj (bM (gl xss 0).length xss (gl xss 0).length).2]),.pr (fun v _=>∃A',v= .tuple #[.slice A' (gl xss 0).length (gl xss 0).length,aj (bM (gl xss 0).length xss (gl xss 0).length).2]),.pr (fun v _=>∃A',v= .slice A' (gl xss 0).length (gl xss 0).length),xI ((bM (gl xss 0).length xss (gl xss 0).length).2),.pr (fun v _=>∃A',v= .slice A' (gl xss 0).length (gl xss 0).length),xI ((bM (gl xss 0).length xss (gl xss 0).length).2)] rfl (lx (lx (lx (cL.2 ⟨Yd.cQ (fun _ _ _ h _=>h),(cL.2 ⟨Yd.cQ (fun _ _ _ h _=>h),(cL.2 ⟨Yd.cQ (fun _ _ _ h _=>h),(lx (cL.2 ⟨Yd.cQ (fun _ _ _ h _=>h),(lx (fun _ h=>by cases h))⟩))⟩)⟩)⟩)))) ?_ ?_
 ·refine⟨?_,fun _ _ hb _ _=>aS (hB.below hb) O Az,fun _ _ hb _ _=>a8 (hB.below hb) O Az,?_,?_,?_,?_,?_,Dr O,au⟩
  ·intro e1 w1 hb hp aX;refine aH (nN _ _ _ _ _ _ _ _ (hB.below hb) O (hM.aq hb) (by omega)) O ?_;rintro _ w2 ⟨rfl,aA⟩;subst aA;refine ak.n (d0 (by exact O))
  ·intro e1 w1 hb hp aX;refine acW (N5 A n c rs xss (gl xss 0).length _ (hM.aq hb) (by omega) hs lu.inj (by omega)) O (by rw [r0];rfl) O ?_;rintro _ w2 ⟨A',rfl,aA⟩;exact ak.n (eA.dn aA.below ⟨A',O⟩)
  ·intro e1 w1 hb hp aX;obtain⟨A',Tq⟩:=(hp 3 (by decide) rfl _ _ rfl rfl);refine BQ O (by exact Tq) O (ak.n ?_);exact eA.dn (Below.refl _ _) ⟨A',O⟩
  ·intro e1 w1 hb hp aX;obtain⟨A',FI⟩:=(hp 4 (by decide) rfl _ _ rfl rfl);refine ak.extract (by exact FI) O O (ak.n ?_);exact eA.dn (Below.refl _ _) ⟨A',O⟩
  ·intro e1 w1 hb hp aX;obtain⟨A',FI⟩:=(hp 4 (by decide) rfl _ _ rfl rfl);refine ak.extract (by exact FI) O O Az
  intro e1 w1 hb hp aX;obtain⟨A',Tr⟩:=(hp 5 (by decide) rfl _ _ rfl rfl);refine lJ O (by exact Tr) O (ak.n ?_);exact eA.dn (Below.refl _ _) ⟨A',O⟩
 intro u w6 jV _;have aQ:=aI.aq jV;refine tE O (bQ O ?_);refine⟨?_,aQ.none⟩
 congr 1
 have ho:=DS hs (by omega);have hl:=X9 hs (by omega);exact kc.2 ⟨fun h=> ⟨by omega,by omega,lu,fun i' di k' dp kN f' mn=>hC i' (by omega) k' (by omega) kN f' mn,ho.2 (hl.1 h)⟩,fun h=>hl.2 (ho.1 h.2.2.2.2)⟩
section
variable {P:Program} {N:Nat} {ops:Array Oper} {K:Env->aa->Prop} {rest:List Oper} {e:Env} {w:aa} {d:Nat} {ty:ad} {pos:String} {af:Array Edge} {x y:ae} {xt yt:ad}
theorem run_equal_bool[bK P xt .bool](a b:Bool):(Op.equal xt (.bool a) (.bool b)).run P w= .ok (a==b) w:=
 run_equalIn_bool w 9999 xt a b bK.out
theorem Qj[bK P xt .bool]{a b:Bool}(hx:ev e x= .bool a)(hy:ev e y= .bool b)(hb:Nat.blt d N=true)(hK:ak P N ops K rest (bt e d (.bool (!(a==b)))) w):
 ak P N ops K (⟨some d,.binOp .neq xt x y yt,ty,pos,af,none⟩::rest) e w:=
 .val (by simp [execOp,hx,hy,eqGuard,binOp,run_equal_bool]) hb hK
theorem I5[bK P xt .bool]{a b:Bool}(hx:ev e x= .bool a)(hy:ev e y= .bool b)(hb:Nat.blt d N=true)(hK:ak P N ops K rest (bt e d (.bool (a==b))) w):
 ak P N ops K (⟨some d,.binOp .eql xt x y yt,ty,pos,af,none⟩::rest) e w:=
 .val (by simp [execOp,hx,hy,eqGuard,binOp,run_equal_bool]) hb hK
end
section
variable{t t':ad}
variable {P:Program} {N:Nat} {ops:Array Oper} {K:Env->aa->Prop} {rest:List Oper} {e:Env} {w0 w w':aa} {ks:List Ck} {d:Nat} {ty:ad} {pos:String} {af:Array Edge}
theorem wN{f0:Field}{z0 zf:ab}{b bf:Nat}[bK P t (.struct #[f0])][bF P t (.agg #[z0]) 1 b]{x0:ae}{v0:ab}(hI:bF P f0.type zf 1 bf)(ho:f0.offset=0)(h0:ev e x0=v0)(c0:v0.oneCell'=true)(hb:Nat.blt d N=true)(hK:ak P N ops K rest (bt e d (.agg #[v0])) w):ak P N ops K (⟨some d,.build t #[(0,x0)],ty,pos,af,none⟩::rest) e w:=by
 obtain⟨inf,hi,eM,hs,ib⟩:=bF.get P t;obtain⟨WM,di,Wx,ky,Ux⟩:=hI.get P f0.type;have e0:v0.cells= #[v0]:=by cases v0<;>simp [Value.oneCell']at c0<;>rfl
 have ez:(Value.agg #[z0]).cells= #[z0]:=O;refine .val (w':=w) ?_ hb hK;simp [execOp,Instr.build,run_underlying (bK.out (P:=P) (t:=t)),sizeOf,typeInfo,zeroValue,hi,eM,di,ky,ho,h0,e0,ez,Instr.fill]
theorem yK{el:ad}{z z0:ab}{b:Nat}[bK P t (.slice el)][bF P el z 1 b]{x0:ae}{A0:ai}{n0 c0:Nat}(hS:St w0 w ks)(h0:ev e x0= .agg #[.slice A0 n0 c0])(hz:z.cells= #[z0])(hb:Nat.blt d N=true)(hK:∀A w',St w0 w' (aV el A 1 1 [⟨A0,n0,c0⟩]::ks)->ak P N ops K rest (bt e d (.slice A 1 1)) w'):ak P N ops K (⟨some d,.buildSlice t 1 #[(0,x0)],ty,pos,af,none⟩::rest) e w:=by
 obtain⟨inf,hi,eM,hs,ib⟩:=bF.get P el;refine .val (w':=w.alloc (.cells #[.slice A0 n0 c0] el)) ?_ hb (hK _ _ (hS.alloc [.slice A0 n0 c0] el (by simp [maxLen]) O));simp [execOp,Instr.buildSlice,run_underlying (bK.out (P:=P) (t:=t)),sizeOf,typeInfo,zeroValue,hi,hs,eM,hz,Instr.fill,newRow,h0,y5,rb,Value.cells]
theorem Ex{x y:ae}{i j:Int}(hx:ev e x=aj i)(hy:ev e y=aj j)(hb:Nat.blt d N=true)(hK:ak P N ops K rest (bt e d (aj (max i j))) w):
 ak P N ops K (⟨some d,.call ⟨.builtin .max, #[x,y], #[t,t']⟩,ty,pos,af,none⟩::rest) e w:=by
 have hm:(if i<j then j else i)=max i j:=by split<;>omega
 refine .val (w':=w) ?_ hb hK;simp [execOp,resolve,invoke,builtin,hx,hy,Builtin.max_,Builtin.max2,hm]
theorem yL{el:ad}[bK P t (.slice el)]{x y:ae}{A:ai}{n c:Nat}(hx:ev e x= .slice A n c)(hy:ev e y= .slice none 0 0)(hb:Nat.blt d N=true)(hK:ak P N ops K rest (bt e d (.bool A.isNone)) w):
 ak P N ops K (⟨some d,.binOp .eql t x y t',ty,pos,af,none⟩::rest) e w:=by
 have hr:(Op.equal t (.slice A n c) (.slice none 0 0)).run P w= .ok A.isNone w:=by
  show(Op.equalIn (9999+1) t (.slice A n c) (.slice none 0 0)).run P w=_;rw [Op.equalIn];cases A<;>simp [run_underlying (bK.out (P:=P) (t:=t))]
 exact .val (by simp [execOp,hx,hy,eqGuard,binOp,hr]) hb hK
end
theorem Ox{t:ad}:∀ {rs:List aO} {xss:ag} {i:Nat} {xs:ah},rs.length=xss.length->i<rs.length->(bS t rs xss).set i (ax t (rs.getD i cJ).a (rs.getD i cJ).n (rs.getD i cJ).c xs)=bS t rs (xss.set i xs)
 | [],_,_,_,_,h=>by simp at h
 | r::rs,[],_,_,h,_=>by simp at h
 | r::rs,x::xss,0,xs,_,_=>rfl
 | r::rs,x::xss,i+1,xs,h,hi=>by
  have:=Ox (t:=t) (rs:=rs) (xss:=xss) (i:=i) (xs:=xs) (by simpa using h) (by simpa using hi);simpa [bS]using this
theorem Be{t1 t2:ad}{A:ai}{n c:Nat}{rs:List aO}{xss:ag}{pre ks:List Ck}{i:Nat}(hr:rs.length=xss.length)(hi:i<rs.length):(pre++ (aK t1 t2 A n c rs xss++ks))[pre.length+1+i]?=some (ax t2 (rs.getD i cJ).a (rs.getD i cJ).n (rs.getD i cJ).c (xss.getD i [])):=by
 rw [mU (by omega),show pre.length+1+i - pre.length=i+1 by omega,ow (by simp [aK,wq hr];omega)];simpa [aK]using Ih (t:=t2) hr hi
theorem YI{t1 t2:ad}{A:ai}{n c:Nat}{rs:List aO}{xss:ag}{pre ks:List Ck}{i:Nat}{xs:ah}(hr:rs.length=xss.length)(hi:i<rs.length):(pre++ (aK t1 t2 A n c rs xss++ks)).set (pre.length+1+i) (ax t2 (rs.getD i cJ).a (rs.getD i cJ).n (rs.getD i cJ).c xs)=pre++ (aK t1 t2 A n c rs (xss.set i xs)++ks):=by
 rw [List.set_append_right _ _ (by omega),show pre.length+1+i - pre.length=i+1 by omega,List.set_append_left _ _ (by simp [aK,wq hr];omega)]
 congr 2
 simp only [aK,List.set_cons_succ];rw [Ox hr hi]
section
variable {P:Program} {N:Nat} {ops:Array Oper} {K:Env->aa->Prop} {rest:List Oper} {e:Env} {w0 w w':aa} {ks pre:List Ck} {ty:ad} {pos:String} {af:Array Edge}
theorem qj{t t1 t2:ad}{z:ab}{b:Nat}[bF P t z 1 b]{a x:ae}{A:ai}{n c:Nat}{rs:List aO}{xss:ag}(i:Nat){f u:Int}(hS:St w0 w (pre++ (aK t1 t2 A n c rs xss++ks)))(hr:rs.length=xss.length)(hi:i<rs.length)(ha:ev e a= .pointer (aF (rg rs i).a f.toNat))(hx:ev e x=aj u)(hj:f.toNat< (rg rs i).n)(hK:∀w',St w0 w' (pre++ (aK t1 t2 A n c rs (xss.set i ((gl xss i).set f.toNat u))++ks))->ak P N ops K rest e w'):ak P N ops K (⟨none,.store t a x,ty,pos,af,none⟩::rest) e w:=
 .gQ (pre.length+1+i) hS (Be hr hi) ha hx hj fun w' h=>hK w' (by
  have e1:gl xss i=xss.getD i []:=by simp [gl]
  rw [e1,<-YI (pre:=pre) (ks:=ks) hr hi];exact h)
end
structure cq where
 top:aO
 rs:List aO
 xss:ag
def cq.ok(m:cq):Prop:=m.xss.length=m.top.n
def cq.fc(t1 t2:ad)(m:cq):List Ck:=aK t1 t2 m.top.a m.top.n m.top.c m.rs m.xss
def dv(t1 t2:ad)(ms:List cq):List Ck:=ms.flatMap (cq.fc t1 t2)
theorem HQ(t1 t2:ad)(ms qL:List cq):dv t1 t2 (ms++qL)=dv t1 t2 ms++dv t1 t2 qL:=by simp [dv,List.flatMap_append]
section
variable {P:Program} {N:Nat} {ops:Array Oper} {K:Env->aa->Prop} {rest:List Oper} {e:Env} {w0 w w':aa} {ks:List Ck} {d:Nat} {ty:ad} {pos:String} {af:Array Edge}
def Ov(a n u:Nat)(R:ab->aa->Prop):gV
 | .normal,e,w=>∃A f,e a= .pointer A/\Rd w A n f/\R (.tuple #[.agg ((List.range n).map f).toArray,e u]) w
 | .ret,e,w=>∃A f,e a= .pointer A/\Rd w A n f/\R (.tuple #[.agg ((List.range n).map f).toArray,e u]) w
 | _,_,_=>False
theorem mz{a n u:Nat}{R:ab->aa->Prop}{A:ai}{f:Nat->ab}{v:ab}(h:e a= .pointer A)(hR:Rd w A n f)(hv:e u=v)(h2:R (.tuple #[.agg ((List.range n).map f).toArray,v]) w):Ov a n u R .ret e w:=⟨A,f,h,hR,by rw [hv];exact h2⟩
theorem uQ{fn:Func}{R:ab->aa->Prop}{a t n b u:Nat}{fs:Array Field}{z:ab}[bK P t (.struct fs)][bF P t z n b](hr:fn.results= #[.cell a t,.tmp u])(pT:Nat.blt 0 n=true):∀x a1 e w,gW N a1 e->Ov a n u R x e w->bodyPost P fn (fun x w'=>∃v,x= .returned v/\R v w') x a1 w:=by
 intro x a1 e w he q;have hn:0<n:=by simpa [Nat.blt_eq]using pT
 have hg:=he.get a;have hh:=he.get u;have key:∀(A:ai) (f:Nat->ab),e a= .pointer A->Rd w A n f->(results fn a1.tmps).run P w= .ok (.tuple #[.agg ((List.range n).map f).toArray,e u]) w:=by
  intro A f hA hR;obtain⟨q,rfl,hl⟩:=OC (P:=P) (t:=t) hn hR;rw [gA]at hg hh;simp [results,hr,hg,hh,hA,asAddr,hl]
 cases x<;>first
  | exact q.elim
  | (
   obtain⟨A,f,hA,hR,h2⟩:=q;exact⟨he.defers,_,key A f hA hR,_,O,h2⟩)
end
section
variable{t:ad}{b b0 b1 b2:Nat}{bs:ah}
variable {P:Program} {N:Nat} {ops:Array Oper} {K:Env->aa->Prop} {rest:List Oper} {e:Env} {w0 w w':aa} {ks:List Ck} {d:Nat} {ty:ad} {pos:String} {af:Array Edge}
theorem P7{el:ad}{x:ae}{v0 v1 v2:ab}(hS:St w0 w ks)(hx:ev e x= .agg #[v0,v1,v2])(hb:Nat.blt d N=true)(hK:∀A w',St w0 w' (Bx el 3 A [v0,v1,v2]::ks)->ak P N ops K rest (bt e d (.pointer A)) w')(hM:dX [v0,v1,v2]=false:=by rfl):ak P N ops K (⟨some d,.box el x,ty,pos,af,none⟩::rest) e w:= .xd hS hx hb rfl hK hM
variable {x y:ae} {xt yt:ad} {i j:Int}
theorem O8(i:Int):0<=IntKind.u64.wrap i/\IntKind.u64.wrap i<=18446744073709551615:=by rw [IntKind.wrap_u64];omega
theorem Jb(hx:ev e x= .int .u64 i)(hy:ev e y= .int .u64 j)(hb:Nat.blt d N=true)(hK:∀r:Int,0<=r/\r<=18446744073709551615->ak P N ops K rest (bt e d (.int .u64 r)) w):
 ak P N ops K (⟨some d,.binOp .mul xt x y yt,ty,pos,af,none⟩::rest) e w:=
 .val (by simp [execOp,hx,hy,eqGuard,binOp,Op.intArith]) hb (hK _ (O8 (i*j)))
theorem BO(hx:ev e x= .int .u64 i)(hy:ev e y= .int .u64 j)(hb:Nat.blt d N=true)(hK:∀r:Int,0<=r/\r<=18446744073709551615->ak P N ops K rest (bt e d (.int .u64 r)) w):
 ak P N ops K (⟨some d,.binOp .add xt x y yt,ty,pos,af,none⟩::rest) e w:=
 .val (by simp [execOp,hx,hy,eqGuard,binOp,Op.intArith]) hb (hK _ (O8 (i+j)))
theorem QX(i:Int):0<=bits .and .u64 i 16777215/\bits .and .u64 i 16777215<=16777215:=by
 have h:∀a:BitVec 64,(a &&& BitVec.ofInt 64 16777215).toNat<=16777215:=fun a=>by
  rw [BitVec.toNat_and];exact Nat.and_le_right
 have e:bits .and .u64 i 16777215=IntKind.u64.wrap ((BitVec.ofInt 64 i &&& BitVec.ofInt 64 16777215).toNat:Int):=O;have:=h (BitVec.ofInt 64 i);rw [e,IntKind.wrap_u64];omega
theorem PV(hx:ev e x= .int .u64 i)(hy:ev e y= .int .u64 16777215)(hb:Nat.blt d N=true)(hK:∀r:Int,0<=r/\r<=16777215->ak P N ops K rest (bt e d (.int .u64 r)) w):
 ak P N ops K (⟨some d,.binOp .and xt x y yt,ty,pos,af,none⟩::rest) e w:=
 .val (by simp only [execOp,hx,hy,eqGuard,binOp,intBits_and];simp) hb (hK _ (QX i))
theorem Qm{k:IntKind}(hx:ev e x= .int .u64 i)(hy:ev e y= .int k 33)(hb:Nat.blt d N=true)(hK:∀r:Int,ak P N ops K rest (bt e d (.int .u64 r)) w):
 ak P N ops K (⟨some d,.binOp .shr xt x y yt,ty,pos,af,none⟩::rest) e w:=by
 refine .val (v:= .int .u64 (i.fdiv (2^33))) ?_ hb (hK _);have e1:min 33 IntKind.u64.bits=33:=by decide
 simp [execOp,hx,hy,eqGuard,binOp,Op.shift,e1]
def oB(w:aa)(A:ai)(n:Nat)(bs:ah):Prop:=bs.length=n/\(∀b∈bs,0<=b/\b<=255)/\Rd w A n (fun j=> .int .u8 (bs.getD j 0))
theorem oB.below{w w':aa}{A:ai}{n:Nat}(h:oB w A n bs)(hb:Below w.heap.size w w'):oB w' A n bs:=⟨h.1,h.2.1,Rd.below h.2.2 hb⟩
theorem oB.at_{A:ai}{n:Nat}(h:oB w A n bs){j:Int}(h0:0<=j)(h1:j<n):0<=bs.getD j.toNat 0/\bs.getD j.toNat 0<=255:=by
 have hl:j.toNat<bs.length:=by rw [h.1];omega
 rw [df,dL hl];exact h.2.1 _ (dd hl)
theorem I7{u:TypeDesc}[bK P t u]{A:ai}{n:Nat}(hR:oB w A n bs)(hx:ev e x= .pointer (aF A i.toNat))(h1:i.toNat<n)(hp:sa u=true)(hb:Nat.blt d N=true)(hK:ak P N ops K rest (bt e d (.int .u8 (bs.getD i.toNat 0))) w):ak P N ops K (⟨some d,.load t x,ty,pos,af,none⟩::rest) e w:=
 .ld hR.2.2 hx h1 rfl hp hb hK
def vY:Nat->ah->List (Nat×ab)
 | _,[]=> []
 | k,v::r=> (k,.int .i64 v)::vY (k+1) r
theorem J9:∀(vs:ah) (k:Nat) (cells:Array ab),k+vs.length<=cells.size->∃out,Instr.fill (fun i=>some (i*1,1)) cells (vY k vs)=some out/\out.size=cells.size/\(∀j,j<k->out[j]?=cells[j]?)/\(∀j,j<vs.length->out[k+j]?=vs[j]?.map (Value.int .i64))/\(∀j,k+vs.length<=j->out[j]?=cells[j]?)
 | [],k,cells,_=> ⟨cells,rfl,rfl,fun _ _=>rfl,fun j hj=>absurd hj (oy _),fun _ _=>rfl⟩
 | v::r,k,cells,h=>by
  have hk:k<cells.size:=by simp at h;omega
  obtain⟨out,h1,h2,h3,h4,h5⟩:=J9 r (k+1) (cells.setIfInBounds k (aj v)) (by simp at h|-;omega);refine⟨out,?_,by rw [h2];simp,fun j hj=>?_,fun j hj=>?_,fun j hj=>?_⟩
  ·show Instr.fill _ cells ((k,aj v)::vY (k+1) r)=some out;rw [<-h1];simp [Instr.fill,Value.cells,show ¬cells.size<k+1 by omega]
  ·rw [h3 j (by omega),pb,aC (by omega)]
  ·cases j with
   | zero=>rw [Nat.add_zero,h3 k (by omega),pb,aJ rfl,aJ hk];rfl
   | succ q=>
    have:=h4 q (by simpa using hj);rw [show k+ (q+1)=k+1+q by omega,this]
    rfl
  ·rw [h5 j (by simp at hj|-;omega),pb,aC (by simp at hj;omega)]
theorem Sc(vs:ah)(cells:Array ab)(h:cells.size=vs.length):Instr.fill (fun i=>some (i*1,1)) cells (vY 0 vs)=some (vs.map (Value.int .i64)).toArray:=by
 obtain⟨out,h1,h2,_,h4,_⟩:=J9 vs 0 cells (by omega);rw [h1]
 congr 1
 apply Array.ext';apply List.ext_getElem?;intro j
 by_cases hj:j<vs.length
 ·have:=h4 j hj;rw [Nat.zero_add]at this;simpa using this
 rw [mD (by simpa [h2,h]using hj),mD (by simpa using hj)]
theorem me{el:ad}{z:ab}{n:Nat}[bK P t (.slice el)][bF P el z 1 b]{ps:Array (Nat×ae)}(vs:ah)(hS:St w0 w ks)(hv:(ps.toList.map fun p=> (p.1,ev e p.2))=vY 0 vs)(hn:vs.length=n)(lr:n≠0)(zS:n<=1000)(hz:z.cells= #[z])(hb:Nat.blt d N=true)(hK:∀A w',St w0 w' (ax el A n n vs::ks)->ak P N ops K rest (bt e d (.slice A n n)) w'):ak P N ops K (⟨some d,.buildSlice t n ps,ty,pos,af,none⟩::rest) e w:=by
 subst hn;obtain⟨inf,hi,eM,hs,ib⟩:=bF.get P el;have hA:=hS.alloc (vs.map (Value.int .i64)) el (by simp [maxLen];omega) (oX _);refine .val (w':=w.alloc (.cells (vs.map (Value.int .i64)).toArray el)) ?_ hb (hK _ _ (by simpa [ax]using hA));have hf:=Sc vs ((Array.range (vs.length*1)).map ((#[z]:Array ab)[· % (#[z]:Array ab).size]!)) (by simp);have oU:(ps.map fun p=> (p.1,ev e p.2)).toList=vY 0 vs:=by rw [Array.toList_map];exact hv
 have pB:¬16777216<vs.length:=by omega
 simp only [Nat.mul_one]at hf;simp [execOp,Instr.buildSlice,run_underlying (bK.out (P:=P) (t:=t)),sizeOf,typeInfo,zeroValue,hi,hs,eM,hz,newRow,hv,pB,lr];simp at hf;simp [hf]
theorem PZ{f0 f1 f2:Field}{z0 z1 z2 y0 y1 y2:ab}[bK P t (.struct #[f0,f1,f2])][bF P t (.agg #[z0,z1,z2]) 3 b]{x0 x2:ae}{v0 v2:ab}(pE:bF P f0.type y0 1 b0)(nP:bF P f1.type y1 1 b1)(pF:bF P f2.type y2 1 b2)(ho:f0.offset=0)(s9:f1.offset=1)(GS:f2.offset=2)(h0:ev e x0=v0)(h2:ev e x2=v2)(c0:v0.oneCell'=true)(c2:v2.oneCell'=true)(hb:Nat.blt d N=true)(hK:ak P N ops K rest (bt e d (.agg #[v0,z1,v2])) w):ak P N ops K (⟨some d,.build t #[(0,x0),(2,x2)],ty,pos,af,none⟩::rest) e w:=by
 obtain⟨inf,hi,eM,hs,ib⟩:=bF.get P t;obtain⟨AJ,iB,_,oR,_⟩:=pE.get P f0.type;obtain⟨AL,lV,_,pW,_⟩:=nP.get P f1.type;obtain⟨Dz,rH,_,uB,_⟩:=pF.get P f2.type;have e0:v0.cells= #[v0]:=by cases v0<;>simp [Value.oneCell']at c0<;>rfl
 have e2:v2.cells= #[v2]:=by cases v2<;>simp [Value.oneCell']at c2<;>rfl
 have ez:(Value.agg #[z0,z1,z2]).cells= #[z0,z1,z2]:=O;refine .val (w':=w) ?_ hb hK;simp [execOp,Instr.build,run_underlying (bK.out (P:=P) (t:=t)),sizeOf,typeInfo,zeroValue,hi,eM,iB,oR,lV,pW,rH,uB,ho,s9,GS,h0,e0,h2,e2,ez,Instr.fill]
end
theorem Ea{ks:List Ck}{i:Nat}{k:Ck}(h:ks[i]?=some k):ks.set i k=ks:=by
 apply List.ext_getElem?;intro j;rw [kX]
 split
 ·rename_i e;subst e;have hl:=(ga.1 h).1;rw [aJ hl,h]
 rfl
theorem kl{ks:List Ck}{i:Nat}{k k':Ck}(h:ks[i]?=some k):(ks.set i k')[i]?=some k':=by
 have hl:=(ga.1 h).1;rw [kX,aJ rfl,aJ hl]
def fj(w0:aa)(As:ai)(k:Ck):Prop:=∃(Ac:ai) (nc cc:Nat) (a h:Int) (bs:ah),k=Bx 104 3 As [.slice Ac nc cc,aj a,.int .u64 h]/\(0<=a/\a<=nc)/\nc<=1000000/\oB w0 Ac nc bs
theorem o9{w0 w:aa}{ks:List Ck}(i:Nat){As:ai}{k:Ck}(n:Int)(hS:St w0 w ks)(hk:ks[i]?=some k)(hK:fj w0 As k):
 aE prog 94 [.pointer As,aj n] w (fun v w'=>∃(r:Int) (k':Ck),v=aj r/\(0<=r/\(1<=n->r<n)/\(n<1->r=0))/\fj w0 As k'/\St w0 w' (ks.set i k')):=by
 have zr:=hK;obtain⟨Ac,nc,cc,a,h,bs,rfl,ha,ku,hY⟩:=hK;refine bm func94 O ntmps94 O (bU O) (b7 O ?_);refine aM _ O (fun h1=>?_) (fun h1=>?_)
 ·refine cE O (fP O ?_);exact⟨0,_,O,⟨Int.le_refl _,fun h=>by omega,fun _=>O⟩,zr,by rw [Ea hk];exact hS⟩
 refine aD O (eV (hS.rd i hk) (Nat.succ_pos 2) O O (aS (hS.rd i hk) O (iw (k:= .u64) (hS.rd i hk) O O O O O ?_)));refine Jb O O O fun r1 lu=>?_
 refine BO O O O fun r2 rT=>?_
 refine eV (hS.rd i hk) (Nat.succ_pos 2) O O (aS (hS.rd i hk) O (kD i hS hk O O O O ?_));intro w1 aB;have gm:=kl (k':=(⟨As,3,3,104,[.slice Ac nc cc,aj a,.int .u64 r2]⟩:Ck)) hk;have aB:St w0 w1 (ks.set i (Bx 104 3 As [.slice Ac nc cc,aj a,.int .u64 r2])):=aB;refine ao O (eV (aB.rd i gm) (Nat.succ_pos 2) O O (aS (aB.rd i gm) O (iw (k:= .u64) (aB.rd i gm) O O O O O ?_)));refine Qm O O O fun r3=>?_
 refine PV O O O fun r4 hr4=>?_
 refine sq O O (IntWalk.i64_in _ (by omega)) (az O ?_);refine dK [xP (As),xP (As),xP (aF (As) 1),xI (a),xP (As),xP (As),xP (aF (As) 0),xS (Ac) (nc) (cc),xI (((nc:Nat):Int)),xB (decide ((a)< (((nc:Nat):Int))))] O (eo O) ?_ ?_
 ·exact⟨Dr O,fun _ _ hb _ _=>eV ((aB.rd i gm).below hb) (Nat.succ_pos _) O O Az,fun _ _ hb _ _=>aS ((aB.rd i gm).below hb) O Az,fun _ _ hb _ _=>iw ((aB.rd i gm).below hb) O O O O O Az,Dr O,fun _ _ hb _ _=>eV ((aB.rd i gm).below hb) (Nat.succ_pos _) O O Az,fun _ _ hb _ _=>aS ((aB.rd i gm).below hb) O Az,fun _ _ hb _ _=>a8 ((aB.rd i gm).below hb) O Az,fun _ _ _ _ _=>aZ O O Az,Dr O,au⟩
 intro u w2 gj _;have aw:=aB.aq gj;have zz:oB w2 Ac nc bs:=hY.below aw.below;refine fw O (aM _ O (fun h2=>?_) (fun h2=>?_))
 ·have Te:=hY.at_ ha.1 h2;refine cH O (dK [xI (r4),xP (As),xP (As),xP (aF (As) 0),xS (Ac) (nc) (cc),xP (As),xP (As),xP (aF (As) 1),xI (a),xP (aF Ac a.toNat),.ex (.int .u8 (bs.getD a.toNat 0)),xI (bs.getD a.toNat 0),xI ((r4)+ (bs.getD a.toNat 0)),xI ((r4)+ (bs.getD a.toNat 0))] O (eo O) ?_ ?_)
  ·refine⟨fun _ _ _ _ aX=>ko O (by exact aX 13 _ O (by kernel_rfl)) O Az,Dr O,fun _ _ hb _ _=>eV ((aw.rd i gm).below hb) (Nat.succ_pos _) O O Az,fun _ _ hb _ _=>aS ((aw.rd i gm).below hb) O Az,fun _ _ hb _ _=>a8 ((aw.rd i gm).below hb) O Az,Dr O,fun _ _ hb _ _=>eV ((aw.rd i gm).below hb) (Nat.succ_pos _) O O Az,fun _ _ hb _ _=>aS ((aw.rd i gm).below hb) O Az,fun _ _ hb _ _=>iw ((aw.rd i gm).below hb) O O O O O Az,?_,?_,?_,fun _ _ _ _ _=>aL O Az,Dr O,au⟩
   ·intro e1 w1 hb hp aX;refine ay (zz.below hb).2.2 O Az
   ·intro e1 w1 hb hp aX;refine I7 (zz.below hb) O (by omega) O O Az
   intro e1 w1 hb hp aX;refine sq O O (IntWalk.i64_in _ (by omega)) Az
  intro u3 w3 iA _;have aI:=aw.aq iA;refine fK O (eV (aI.rd i gm) (Nat.succ_pos 2) O O (aS (aI.rd i gm) O (iw (aI.rd i gm) O O O O O (aL O (eV (aI.rd i gm) (Nat.succ_pos 2) O O (aS (aI.rd i gm) O (kD i aI gm O O O O ?_)))))));intro w4 aG;rw [iH]at aG;refine ao O (ak.rem O O O (by omega) (bu O (fP O ?_)));exact⟨(r4+bs.getD a.toNat 0)%n,_,O,⟨Int.emod_nonneg _ (by omega),fun h=>Int.emod_lt_of_pos _ (by omega),fun h=>by omega⟩,⟨Ac,nc,cc,a+1,r2,bs,O,by omega,ku,hY⟩,aG⟩
 refine aD O (ak.rem O O O (by omega) (bu O (fP O ?_)));exact⟨r4%n,_,O,⟨Int.emod_nonneg _ (by omega),fun h=>Int.emod_lt_of_pos _ (by omega),fun h=>by omega⟩,⟨Ac,nc,cc,a,r2,bs,O,ha,ku,hY⟩,aw⟩
theorem XF{w0 w:aa}{ks:List Ck}(i:Nat){As:ai}{k:Ck}(A:ai)(n c:Nat)(xs:ah)(hS:St w0 w ks)(hk:ks[i]?=some k)(hK:fj w0 As k)(hR:∀k' w',St w0 w' (ks.set i k')->cd w' A n xs)(hn:0<n/\n<=1000000):
 aE prog 105 [.pointer As,.slice A n c] w (fun v w'=>∃(x:Int) (k':Ck),v=aj x/\x∈xs/\fj w0 As k'/\St w0 w' (ks.set i k')):=by
 refine bm func105 O ntmps105 O (bU O) ?_;refine aY O (aZ O O ?_);refine aH (o9 i n hS hk hK) O ?_;rintro _ w1 ⟨r,k',rfl,⟨h0,h1,_⟩,pI,hT⟩;have fT:=hR k' w1 hT;have hl:=fT.1;have h1:=h1 (by omega);refine ay fT.2 O (bc fT O (bu O (fP O ?_)));refine⟨gi xs r,k',O,?_,pI,hT⟩;obtain⟨q,rfl⟩:∃q:Nat,r=q:=⟨r.toNat,by omega⟩;rw [bN (by omega)];exact dd _
def Jq(l:List Oper):Bool:=l.zipIdx.all fun p=> (eD p.1).all fun ed=>Nat.blt ed.on p.2
theorem bJ{o:Oper}{S:Nat->Bool}(h:∀ed∈eD o,S ed.on=true)(k:Nat)(hk:(eD o).any (fun ed=>Nat.beq ed.on k)=true):S k=true:=by
 obtain⟨ed,eQ,hb⟩:=List.any_eq_true.1 hk;rw [<-lH hb];exact h ed eQ
section
variable {P:Program} {N:Nat} {e:Env} {w:aa}
theorem qX{id:Nat}{l:List Oper}{Q:gV}(hm:P.follows .mixedOrders=true)(oJ:Jq l=true)(I:(Nat->Bool)->Env->aa->Prop)(h0:∀w1,Below w.heap.size w w1->I (fun _=>false) e w1)
 (ig:∀(S:Nat->Bool) (i:Nat) (o:Oper) (e1:Env) (w1:aa),l[i]?=some o->S i=false->(∀ed∈eD o,S ed.on=true)->(∀(k:Nat) (o':Oper),S k=true->l[k]?=some o'->∀ed∈eD o',S ed.on=true)->I S e1 w1->ak P N l.toArray (fun e2 w2=>I (fun k=>Nat.beq k i || S k) e2 w2) [o] e1 w1)
 (sV:∀(S:Nat->Bool) (e1:Env) (w1:aa),(∀i,i<l.length->S i=true)->I S e1 w1->Q .normal e1 w1):Cd P N (.region id l.toArray true) Q e w:= .mk' fun a ha=>by
 have mL:∀(i:Nat) (o:Oper),l[i]?=some o->∀ed∈eD o,ed.on<i:=by
  intro i o ho ed eQ;simp only [Jq,List.all_eq_true]at oJ;have:=oJ (o,i) (by
   obtain⟨hi,s6⟩:=ga.1 ho;rw [List.mem_iff_getElem?];exact⟨i,by simp [ho]⟩)
  simpa [Nat.blt_eq]using this ed eQ
 refine wp_region_any hm ?_;have key:∀(fuel:Nat) (listed:Array Bool) (a1:Act) (e1:Env) (w1:aa),gW N a1 e1->listed.size=l.length->
  (∀(i:Nat) (o:Oper),listed.getD i false=true->l[i]?=some o->∀ed∈eD o,listed.getD ed.on false=true)->I (fun k=>listed.getD k false) e1 w1->(l.length - fuel<=(List.range l.length).countP fun i=>listed.getD i false)->
  wpAny P .any l.toArray (low N Q) fuel listed a1 w1:=by
  have jo:∀(listed:Array Bool) (a1:Act) (e1:Env) (w1:aa),gW N a1 e1->I (fun k=>listed.getD k false) e1 w1->(∀i,i<l.length->listed.getD i false=true)->low N Q .normal a1 w1:=
   fun listed a1 e1 w1 hr hI ct=> ⟨e1,hr,sV _ e1 w1 ct hI⟩
  have Aq:∀(listed:Array Bool),listed.size=l.length->Region.ready .any l.toArray listed=[]->∀i,i<l.length->listed.getD i false=true:=by
   intro listed lX qB i
   induction i using Nat.strongRecOn with
   | _ i ih=>
    intro hi;cases uv:listed.getD i false with
    | true=>rfl
    | false=>
     exfalso;have:i∈Region.ready .any l.toArray listed:=by
      rw [mem_ready];refine⟨?_,l[i],by simp [hi],fun ed eQ gx=>ih ed.on (mL i _ (dL hi) ed (nv.2 ⟨eQ,gx⟩)) (by have:=mL i _ (dL hi) ed (nv.2 ⟨eQ,gx⟩);omega)⟩;rw [gA,nH (by omega)]at uv|-;exact uv
     rw [qB]at this;cases this
  intro fuel
  induction fuel with
  | zero=>
   intro listed a1 e1 w1 hr lX cz hI lk;have ct:∀i,i<l.length->listed.getD i false=true:=by
    have h4:(List.range l.length).countP (fun i=>listed.getD i false)=(List.range l.length).length:=by
     have:=List.countP_le_length (p:=fun i=>listed.getD i false) (l:=List.range l.length);simp at this lk|-;omega
    rw [List.countP_eq_length]at h4;intro i hi;exact h4 i (by simpa using hi)
   refine⟨?_,jo listed a1 e1 w1 hr hI ct⟩;rw [List.eq_nil_iff_forall_not_mem];intro i hi;obtain⟨h5,o,ho,_⟩:=mem_ready.1 hi;have jW:i<l.length:=by
    rcases Nat.lt_or_ge i l.length with h | h
    ·exact h
    ·simp [mD h]at ho
   have h6:=ct i jW;rw [gA,nH (by omega)]at h5 h6;simp at h5 h6;rw [h5]at h6;cases h6
  | succ fuel ih=>
   intro listed a1 e1 w1 hr lX cz hI lk;refine⟨fun qB=>jo listed a1 e1 w1 hr hI (Aq listed lX qB),fun i hi=>?_⟩;obtain⟨aX,o,ho,sT⟩:=mem_ready.1 hi;have jX:l[i]?=some o:=by simpa using ho
   have jW:i<l.length:=(ga.1 jX).1;have kf:∀ed∈eD o,listed.getD ed.on false=true:=fun ed eQ=>sT ed (nv.1 eQ).1 (nv.1 eQ).2
   have qa:listed.getD i false=false:=by
    have h5:=aX;rw [gA,nH (by omega)]at h5|-;exact h5
   have mM:∀k,(listed.setIfInBounds i true).getD k false=if k=i then true else listed.getD k false:=by
    intro k;rw [gA,pb]
    by_cases eE:k=i
    ·subst eE;rw [aJ rfl,aJ (by omega),aJ rfl];rfl
    ·rw [aC (fun e=>eE e.symm),aC eE,<-gA]
   have hS:(fun k=> (listed.setIfInBounds i true).getD k false)=fun k=>Nat.beq k i || listed.getD k false:=by
    funext k;rw [mM]
    by_cases eE:k=i
    ·subst eE;rw [aJ rfl,Nat.beq_refl];rfl
    ·rw [aC eE];have:Nat.beq k i=false:=by
      cases hb:Nat.beq k i with
      | false=>rfl
      | true=>exact absurd (lH hb) eE
     rw [this];rfl
   have aA:=ig (fun k=>listed.getD k false) i o e1 w1 jX qa kf (fun k o' hk bq=>cz k o' hk bq) hI;have lz:=aA.run a1 hr;have rP:∀a2 w2,(∃e2,gW N a2 e2/\I (fun k=>Nat.beq k i || listed.getD k false) e2 w2)->wpAny P .any l.toArray (low N Q) fuel (listed.setIfInBounds i true) a2 w2:=by
    intro a2 w2 ⟨e2,rT,pF⟩;refine ih _ a2 e2 w2 rT (by simpa using lX) (fun k o' hk bq ed eQ=>?_) (by rw [hS];exact pF) ?_
    ·rw [mM]
     by_cases um:ed.on=i
     ·rw [aJ um]
     ·rw [aC um]
      by_cases eE:k=i
      ·subst eE;rw [jX]at bq;cases bq;exact kf ed eQ
      ·rw [mM,aC eE]at hk;exact cz k o' hk bq ed eQ
    ·have zJ:(List.range l.length).countP (fun k=> (listed.setIfInBounds i true).getD k false)=(List.range l.length).countP (fun k=>listed.getD k false)+1:=
      xj (fun k=>listed.getD k false) (fun k=> (listed.setIfInBounds i true).getD k false) i qa mM _ List.nodup_range (by simpa using jW)
     rw [zJ];omega
   unfold wpOp;rw [ho];unfold wpList at lz;show if _ then _ else _
   by_cases hw:Region.wanted o (yielded l.toArray a1.tmps)=true
   ·rw [aJ hw]at lz|-;rcases lz with h5 | ⟨_,a0,w0,h5⟩
    ·refine .inl (Ev h5 (fun a2 w2 hx=>?_) (fun x a w hx hq=>hx hq.1));exact rP a2 w2 hx.2
    ·exact absurd h5.1 (by simp)
   ·rw [aC hw]at lz|-;exact rP _ _ lz.2
 refine key l.length (Array.replicate l.length false) a e _ ha (by simp) (fun i o hi=>?_) (by
  have:(fun k=> (Array.replicate l.length false).getD k false)=fun _=>false:=by
   funext k;rw [gA,Array.getElem?_replicate]
   split<;>rfl
  rw [this];exact h0 _ ⟨⟨rfl,rfl,rfl,dE _,fun _ _=>rfl⟩,fun _=>Nat.le_add_right _ _⟩) (by omega)
 exfalso;rw [gA,Array.getElem?_replicate]at hi
 split at hi<;>simp at hi
end
end
end Go.Proofs.YtagdamiiececaaaGreatDoor.Vc
